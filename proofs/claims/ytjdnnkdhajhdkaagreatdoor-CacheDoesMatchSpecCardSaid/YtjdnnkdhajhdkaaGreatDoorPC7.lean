/- Digests and caches as the program and the reference check them: the same. -/
import Derived.Test.YtjdnnkdhajhdkaaGreatDoorPO
import Derived.Test.YtjdnnkdhajhdkaaGreatDoorPSame
set_option linter.unusedVariables false
set_option linter.unusedSimpArgs false
namespace Go.Proofs.YtjdnnkdhajhdkaaGreatDoor
open Go Go.Proofs.YtjdnnkdhajhdkaaGreatDoor.Kit
theorem awake7:smithyardlaw7_awake.f=some true:=by kernel_rfl
def digB (b:UInt8):Bool:=(decide (48≤b.toNat)&&decide (b.toNat≤57))||(decide (97≤b.toNat)&&decide (b.toNat≤102))
def isDigB (s:ByteArray):Bool:=decide (s.size=16)&&s.data.toList.all digB
theorem isDig_prog (s:ByteArray):blob_IsDigest.f s=some (isDigB s):=by
  unfold blob_IsDigest.f isDigB
  by_cases h:s.size=16
  · have e1:((s.size:Int) == 16)=true:=by simp; omega
    rw [e1,decide_eq_true h]
    simp only [cond_true,Bool.true_and,strings_Trim.f]
    have g1:decide (s.size≤9223372036854775807)=true:=decide_eq_true (by omega)
    have g2:decide (((⟨#[48,49,50,51,52,53,54,55,56,57,97,98,99,100,101,102]⟩:ByteArray)).size<4294967281)=true:=by kernel_rfl
    have g3:((⟨#[48,49,50,51,52,53,54,55,56,57,97,98,99,100,101,102]⟩:ByteArray).data.toList.all (fun b=>decide (b.toNat<128)))=true:=by kernel_rfl
    rw [g1,g2,g3]
    simp only [Bool.and_self,guard?,cond_true,Option.bind_some,Option.some.injEq]
    have hs:∀ (x:List UInt8),sEq ⟨x.toArray⟩ ⟨#[]⟩=(x == []):=by
      intro x
      unfold sEq
      simp [ByteArray.toList_eq]
    rw [hs,trimS_nil]
    congr 1
    funext c
    have hdec:∀ c:UInt8,([48,49,50,51,52,53,54,55,56,57,97,98,99,100,101,102]:List UInt8).contains c=digB c:=fun c=>by
      have:=u8_all (p:=fun c=>([48,49,50,51,52,53,54,55,56,57,97,98,99,100,101,102]:List UInt8).contains c == digB c) (by kernel_rfl) c
      simpa using this
    exact hdec c
  · have e1:((s.size:Int) == 16)=false:=by simp; omega
    rw [e1,decide_eq_false h]
    rfl
theorem isDig_ref_loop (s:ByteArray) (h:s.size≤4611686018427387904):∀ (d k:Nat) (v:Int),0≤v→v≤s.size→(s.size:Int) - v=d→d<k→smithyardref1_IsDigest.l2 smithyardref1_IsDigest.e1 k s v=some (decide (s.size=16)&&(s.data.toList.drop v.toNat).all digB):=by
  intro d
  induction d with
  | zero =>
    intro k v h0 h1 hd hk
    obtain ⟨k,rfl⟩:∃ m,k=m+1:=⟨k - 1,by omega⟩
    have e:decide (v<(s.size:Int))=false:=decide_eq_false (by omega)
    have hn:s.data.toList.drop v.toNat=[]:=List.drop_eq_nil_of_le (by simp; show s.size≤_; omega)
    rw [smithyardref1_IsDigest.l2,e,hn]
    have:((s.size:Int) == 16)=decide (s.size=16):=by
      by_cases h:s.size=16 <;> simp [h]
      omega
    simp [smithyardref1_IsDigest.e1,this]
  | succ d ih =>
    intro k v h0 h1 hd hk
    obtain ⟨k,rfl⟩:∃ m,k=m+1:=⟨k - 1,by omega⟩
    have e:decide (v<(s.size:Int))=true:=decide_eq_true (by omega)
    have e0:decide ((0:Int)≤v)=true:=decide_eq_true (by omega)
    have hn:v.toNat<s.data.toList.length:=by simp; show _<s.size; omega
    have hb:bt s v=((s.data.toList[v.toNat]).toNat:Int):=by
      have:=bt_of (s:=s) (i:=v.toNat) (List.getElem?_eq_getElem hn)
      rwa [Int.toNat_of_nonneg h0] at this
    have hw:w64 (v+1)=v+1:=w64_id (by omega) (by omega)
    rw [smithyardref1_IsDigest.l2,e,e0,hb,hw,ih k (v+1) (by omega) (by omega) (by omega) (by omega),List.drop_eq_getElem_cons hn,show (v+1).toNat=v.toNat+1 by omega]
    simp only [Bool.and_self,guard?,cond_true,List.all_cons]
    generalize s.data.toList[v.toNat]=c
    generalize List.all _ _=r
    generalize decide (s.size=16)=q
    have key:∀ c:UInt8,(bif decide (48≤(c.toNat:Int)) then (bif decide ((c.toNat:Int)≤57) then (some false) else (bif decide (97≤(c.toNat:Int)) then (some (!(decide ((c.toNat:Int)≤102)))) else (some true))) else (bif decide (97≤(c.toNat:Int)) then (some (!(decide ((c.toNat:Int)≤102)))) else (some true)))=some (!digB c):=fun c=>of_decide_eq_true (u8_all (p:=fun c=>decide ((bif decide (48≤(c.toNat:Int)) then (bif decide ((c.toNat:Int)≤57) then (some false) else (bif decide (97≤(c.toNat:Int)) then (some (!(decide ((c.toNat:Int)≤102)))) else (some true))) else (bif decide (97≤(c.toNat:Int)) then (some (!(decide ((c.toNat:Int)≤102)))) else (some true)))=some (!digB c))) (by kernel_rfl) c)
    rw [key c]
    cases digB c <;> cases q <;> rfl
theorem isDig_ref (s:ByteArray) (h:s.size≤4611686018427387904):smithyardref1_IsDigest.f s=some (isDigB s):=by
  unfold smithyardref1_IsDigest.f
  have:=isDig_ref_loop s h s.size big 0 (by omega) (by omega) (by omega) (by unfold big; omega)
  simpa [isDigB] using this
theorem within7 (a b c:Int):cache_within.f a b c=some (inR b c a):=by
  unfold cache_within.f inR
  cases decide (b≤a) <;> rfl
theorem within7R (a b c:Int):smithyardref7_within.f a b c=some (inR b c a):=by
  unfold smithyardref7_within.f inR
  cases decide (b≤a) <;> rfl
def refB (p:Option ByteArray) (x:ByteArray) (k:Option Int):Option Int :=
  bif !isDigB x then some 3 else bif prevB (fun y=>sLt x y||sEq x y) p then some 8 else k
def refsS (l:List ByteArray):Option Int:=rangeP refB (some 0) none l
def digestsS (l:List ByteArray) (n:Int):Option Int:=bif decide (n<(l.length:Int)) then some 2 else refsS l
def smallStrs (l:List ByteArray):Prop:=l.length≤2305843009213693952∧∀ x∈l,x.size≤4611686018427387904
theorem digests_prog {l:List ByteArray} {n:Int} (h:smallStrs l):cache_checkDigests.f l n=digestsS l n:=by
  have hl:l.length≤4611686018427387904:=by have:=h.1; omega
  unfold cache_checkDigests.f digestsS
  congr 1
  refine rangeP_all (L:=fun k v=>cache_checkDigests.l2 cache_checkDigests.e1 k l v) hl (fun k v h0 h1=>?_)
  simp only [cache_checkDigests.l2]
  congr 1
  refine bind_at (fun x hx=>?_)
  rw [isDig_prog,prev_eq (P:=fun y=>sLt x y||sEq x y) h0 h1 hl]
  simp only [Option.bind_some]
  rfl
theorem rising_ref {l:List ByteArray} (h:smallStrs l):smithyardref7_rising.f l=refsS l:=by
  have hl:l.length≤4611686018427387904:=by have:=h.1; omega
  unfold smithyardref7_rising.f refsS
  refine rangeP_all (L:=fun k v=>smithyardref7_rising.l2 smithyardref7_rising.e1 k l v) hl (fun k v h0 h1=>?_)
  simp only [smithyardref7_rising.l2]
  congr 1
  refine bind_at2 (fun x hat hx=>?_)
  simp only [hat,Option.bind_some]
  rw [isDig_ref _ (h.2 x hx),prev_eq (P:=fun y=>sLt x y||sEq x y) h0 h1 hl]
  simp only [Option.bind_some]
  rfl
theorem refsS_some (l:List ByteArray):∃ r,refsS l=some r:=by
  refine rangeP_some (fun p x k hk=>?_) ⟨_,rfl⟩ l none
  unfold refB
  cases isDigB x <;> cases prevB (fun y=>sLt x y||sEq x y) p <;> first | exact hk | exact ⟨_,rfl⟩
def blobE (x:Blob):Bool:=!inR 0 100000000 x.Size||(!inR 0 1000000000 x.Used||(!inR 0 1001000000 x.Until||!inR 0 3000 x.Pins))
def blobB (p:Option Blob) (x:Blob) (k:Option Int):Option Int :=
  bif !isDigB x.Digest then some 3 else bif blobE x then some 1 else bif prevB (fun y=>sLt x.Digest y.Digest||sEq x.Digest y.Digest) p then some 8 else k
def blobQ (p:Option Blob) (x:Blob) (s:Int) (k:Int→Option Int):Option Int :=
  bif !isDigB x.Digest then some 3 else bif blobE x then some 1 else bif prevB (fun y=>sLt x.Digest y.Digest||sEq x.Digest y.Digest) p then some 8 else k (w64 (s+x.Size))
def sumW:Int→List Blob→Int
  | s,[]=>s
  | s,x::l=>sumW (w64 (s+x.Size)) l
def roomE (room:Int) (s:Int):Option Int:=bif decide (room<s) then some 16 else some 0
def blobsS (l:List Blob) (room:Int):Option Int:=bif decide (3000<(l.length:Int)) then some 2 else rangeP blobB (roomE room (sumW 0 l)) none l
theorem rangeQ_blob (e:Int→Option Int):∀ (l:List Blob) (p:Option Blob) (s:Int),rangeQ blobQ e p l s=rangeP blobB (e (sumW s l)) p l
  | [],_,_=>rfl
  | x::l,p,s=>by
    simp only [rangeQ,rangeP,blobQ,blobB,rangeQ_blob e l,sumW]
theorem four (a b c d:Bool):(bif !a then (some true) else (bif !b then (some true) else (bif !c then (some true) else (some (!d)))))=some (!a||(!b||(!c||!d))):=by
  cases a <;> cases b <;> cases c <;> cases d <;> rfl
theorem two (a b:Bool):(bif !a then (some true) else (some (!b)))=some (!a||!b):=by
  cases a <;> cases b <;> rfl
def smallCache (c:Cache):Prop:=(c.Blobs.length≤2305843009213693952∧∀ x∈c.Blobs,x.Digest.size≤4611686018427387904)∧(c.Entries.length≤2305843009213693952∧∀ x∈c.Entries,x.Key.size≤4611686018427387904∧smallStrs x.Refs)
theorem blobs_prog {l:List Blob} {room:Int} (h:l.length≤2305843009213693952):cache_checkBlobs.f l room=blobsS l room:=by
  have hl:l.length≤4611686018427387904:=by omega
  unfold cache_checkBlobs.f blobsS
  congr 1
  rw [← rangeQ_blob (roomE room) l none 0]
  refine rangeQ_all (L:=fun k s v=>cache_checkBlobs.l2 cache_checkBlobs.e1 k l room s v) hl (fun k s v h0 h1=>?_) 0
  simp only [cache_checkBlobs.l2]
  congr 1
  refine bind_at (fun x hx=>?_)
  rw [isDig_prog,prev_eq (P:=fun y=>sLt x.Digest y.Digest||sEq x.Digest y.Digest) h0 h1 hl]
  simp only [Option.bind_some,within7,cache_isMoment.f,four]
  rfl
def entB (p:Option Entry) (x:Entry) (k:Option Int):Option Int :=
  bif !isDigB x.Key then some 3 else (digestsS x.Refs 200).bind fun f=>bif f != 0 then some f else bif !inR 0 1000000000 x.Used then some 1 else
  bif prevB (fun y=>sLt x.Key y.Key||sEq x.Key y.Key) p then some 8 else k
def entsS (l:List Entry):Option Int:=bif decide (1000<(l.length:Int)) then some 2 else rangeP entB (some 0) none l
def cacheS (c:Cache):Option Int :=
  bif !inR 0 1000000000 c.Room||!inR 0 1000000 c.Lease then some 1 else (blobsS c.Blobs c.Room).bind fun f=>bif f != 0 then some f else entsS c.Entries
theorem check_prog {c:Cache} (h:smallCache c):cache_CheckCache.f c=cacheS c:=by
  have hl:c.Entries.length≤4611686018427387904:=by have:=h.2.1; omega
  unfold cache_CheckCache.f cacheS entsS
  rw [blobs_prog h.1.1]
  have hloop:cache_CheckCache.l2 cache_CheckCache.e1 big c 0=rangeP entB (some 0) none c.Entries:=by
    refine rangeP_all (L:=fun k v=>cache_CheckCache.l2 cache_CheckCache.e1 k c v) hl (fun k v h0 h1=>?_)
    simp only [cache_CheckCache.l2]
    congr 1
    refine bind_at (fun x hx=>?_)
    rw [isDig_prog,digests_prog (h.2.2 x hx).2,prev_eq (P:=fun y=>sLt x.Key y.Key||sEq x.Key y.Key) h0 h1 hl]
    simp only [Option.bind_some,within7,cache_isMoment.f]
    rfl
  rw [hloop]
  simp only [within7,Option.bind_some,two]
theorem bytesOf_ref {l:List Blob} (h:l.length≤4611686018427387904):smithyardref7_bytesOf.f l=some (sumW 0 l):=by
  unfold smithyardref7_bytesOf.f
  rw [rangeS_all (L:=fun k s v=>smithyardref7_bytesOf.l2 smithyardref7_bytesOf.e1 k l s v) (body:=fun v x s f=>f (w64 (s+x.Size))) (e:=fun s=>some s) h (fun k s v=>rfl) 0]
  have key:∀ (l:List Blob) (i s:Int),rangeS (fun v (x:Blob) s f=>f (w64 (s+x.Size))) (fun s=>some s) i l s=some (sumW s l):=by
    intro l
    induction l with
    | nil=>intro i s; rfl
    | cons x t ih=>intro i s; simp only [rangeS,sumW]; exact ih _ _
  exact key l 0 0
theorem used_prog {c:Cache} (h:c.Blobs.length≤4611686018427387904):cache_used.f c=some (sumW 0 c.Blobs):=by
  unfold cache_used.f
  rw [rangeS_all (L:=fun k s v=>cache_used.l2 cache_used.e1 k c s v) (body:=fun v x s f=>f (w64 (s+x.Size))) (e:=fun s=>some s) h (fun k s v=>rfl) 0]
  have key:∀ (l:List Blob) (i s:Int),rangeS (fun v (x:Blob) s f=>f (w64 (s+x.Size))) (fun s=>some s) i l s=some (sumW s l):=by
    intro l
    induction l with
    | nil=>intro i s; rfl
    | cons x t ih=>intro i s; simp only [rangeS,sumW]; exact ih _ _
  exact key c.Blobs 0 0
theorem rangeP_bind {G:Int→Option Int} (h1:G 1=some 1) (h3:G 3=some 3) (h8:G 8=some 8) (k0:Option Int):∀ (l:List Blob) (p:Option Blob),(rangeP blobB k0 p l).bind G=rangeP blobB (k0.bind G) p l
  | [],_=>rfl
  | x::l,p=>by
    simp only [rangeP]
    rw [← rangeP_bind h1 h3 h8 k0 l (some x)]
    unfold blobB
    cases isDigB x.Digest <;> cases blobE x <;> cases prevB (fun y=>sLt x.Digest y.Digest||sEq x.Digest y.Digest) p <;> simp [h1,h3,h8]
theorem check_ref {c:Cache} (h:smallCache c):smithyardref7_CheckCache.f c=cacheS c:=by
  have hl:c.Entries.length≤4611686018427387904:=by have:=h.2.1; omega
  have hb:c.Blobs.length≤4611686018427387904:=by have:=h.1.1; omega
  unfold smithyardref7_CheckCache.f cacheS blobsS
  have hents:smithyardref7_CheckCache.l3 smithyardref7_CheckCache.e2 big c 0=rangeP entB (some 0) none c.Entries:=by
    refine rangeP_all (L:=fun k v=>smithyardref7_CheckCache.l3 smithyardref7_CheckCache.e2 k c v) hl (fun k v h0 h1=>?_)
    simp only [smithyardref7_CheckCache.l3]
    congr 1
    refine bind_at (fun x hx=>?_)
    rw [isDig_ref _ (h.2.2 x hx).1,rising_ref (h.2.2 x hx).2,prev_eq (P:=fun y=>sLt x.Key y.Key||sEq x.Key y.Key) h0 h1 hl]
    simp only [Option.bind_some,within7R]
    unfold entB digestsS
    cases decide (200<(x.Refs.length:Int)) <;> rfl
  have hblobs:smithyardref7_CheckCache.l4 smithyardref7_CheckCache.e1 big c 0=rangeP blobB (smithyardref7_CheckCache.e1 c) none c.Blobs:=by
    refine rangeP_all (L:=fun k v=>smithyardref7_CheckCache.l4 smithyardref7_CheckCache.e1 k c v) hb (fun k v h0 h1=>?_)
    simp only [smithyardref7_CheckCache.l4]
    congr 1
    refine bind_at (fun x hx=>?_)
    rw [isDig_ref _ (h.1.2 x hx),prev_eq (P:=fun y=>sLt x.Digest y.Digest||sEq x.Digest y.Digest) h0 h1 hb]
    simp only [Option.bind_some,within7R,four]
    rfl
  rw [hblobs]
  unfold smithyardref7_CheckCache.e1
  rw [hents,bytesOf_ref hb]
  simp only [within7R,Option.bind_some,two]
  cases (!inR 0 1000000000 c.Room||!inR 0 1000000 c.Lease)
  · simp only [cond_false]
    cases decide (3000<(c.Blobs.length:Int))
    · simp only [cond_false]
      rw [rangeP_bind (G:=fun f=>bif f != 0 then some f else entsS c.Entries) rfl rfl rfl]
      congr 1
      unfold roomE entsS
      cases decide (c.Room<sumW 0 c.Blobs) <;> rfl
    · rfl
  · rfl
theorem entsS_some (l:List Entry):∃ r,entsS l=some r:=by
  unfold entsS
  cases decide (1000<(l.length:Int))
  · refine rangeP_some (fun p x k hk=>?_) ⟨_,rfl⟩ l none
    unfold entB digestsS
    obtain ⟨r,hr⟩:=refsS_some x.Refs
    rw [hr]
    cases isDigB x.Key
    · exact ⟨_,rfl⟩
    · cases decide (200<(x.Refs.length:Int))
      · simp only [Bool.not_true,cond_false,Option.bind_some]
        cases r != 0
        · cases (!inR 0 1000000000 x.Used) <;> cases prevB (fun y=>sLt x.Key y.Key||sEq x.Key y.Key) p <;> first | exact hk | exact ⟨_,rfl⟩
        · exact ⟨_,rfl⟩
      · exact ⟨_,rfl⟩
  · exact ⟨_,rfl⟩
theorem blobsS_some (l:List Blob) (room:Int):∃ r,blobsS l room=some r:=by
  unfold blobsS
  cases decide (3000<(l.length:Int))
  · refine rangeP_some (fun p x k hk=>?_) ?_ l none
    · unfold blobB
      cases isDigB x.Digest <;> cases blobE x <;> cases prevB (fun y=>sLt x.Digest y.Digest||sEq x.Digest y.Digest) p <;> first | exact hk | exact ⟨_,rfl⟩
    · unfold roomE
      cases decide (room<sumW 0 l) <;> exact ⟨_,rfl⟩
  · exact ⟨_,rfl⟩
theorem cacheS_some (c:Cache):∃ r,cacheS c=some r:=by
  unfold cacheS
  obtain ⟨r,hr⟩:=blobsS_some c.Blobs c.Room
  obtain ⟨q,hq⟩:=entsS_some c.Entries
  rw [hr,hq]
  cases (!inR 0 1000000000 c.Room||!inR 0 1000000 c.Lease)
  · simp only [cond_false,Option.bind_some]
    cases r != 0 <;> exact ⟨_,rfl⟩
  · exact ⟨_,rfl⟩
end Go.Proofs.YtjdnnkdhajhdkaaGreatDoor
