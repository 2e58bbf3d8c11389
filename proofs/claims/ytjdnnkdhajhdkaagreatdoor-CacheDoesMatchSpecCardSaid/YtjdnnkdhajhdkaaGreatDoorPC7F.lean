/- Caches: what is missing and broken; copies and comparisons of caches. -/
import Derived.Test.YtjdnnkdhajhdkaaGreatDoorPC7
set_option linter.unusedVariables false
set_option linter.unusedSimpArgs false
namespace Go.Proofs.YtjdnnkdhajhdkaaGreatDoor
open Go Go.Proofs.YtjdnnkdhajhdkaaGreatDoor.Kit
def okBlob (x:Blob):Prop:=isDigB x.Digest=true∧0≤x.Size∧x.Size≤100000000∧0≤x.Used∧x.Used≤1000000000∧0≤x.Until∧x.Until≤1001000000∧0≤x.Pins∧x.Pins≤3000
def okRefs (l:List ByteArray):Prop:=(∀ x∈l,isDigB x=true)∧l.Pairwise (fun a b=>sLt a b=true)
def okEntry (x:Entry):Prop:=isDigB x.Key=true∧x.Refs.length≤200∧okRefs x.Refs∧0≤x.Used∧x.Used≤1000000000
structure OkCache (c:Cache):Prop where
  room0:0≤c.Room
  room1:c.Room≤1000000000
  lease0:0≤c.Lease
  lease1:c.Lease≤1000000
  bl:c.Blobs.length≤3000
  be:∀ x∈c.Blobs,okBlob x
  bs:c.Blobs.Pairwise (fun a b=>sLt a.Digest b.Digest=true)
  sum:sumW 0 c.Blobs≤c.Room
  el:c.Entries.length≤1000
  ee:∀ x∈c.Entries,okEntry x
  es:c.Entries.Pairwise (fun a b=>sLt a.Key b.Key=true)
theorem refsS_ok {l:List ByteArray} (h:refsS l=some 0):okRefs l:=by
  unfold refsS at h
  have h1:=each_of (P:=fun x=>isDigB x=true) (fun p x k hk=>by
    unfold refB at hk
    cases ha:isDigB x <;> cases hb:prevB (fun y=>sLt x y||sEq x y) p <;> simp [ha,hb] at hk
    exact ⟨hk,rfl⟩) l none h
  have h2:=sorted_of (key:=id) (fun p x k hk=>by
    unfold refB at hk
    cases ha:isDigB x <;> cases hb:prevB (fun y=>sLt x y||sEq x y) p <;> simp [ha,hb] at hk
    exact ⟨hk,hb⟩) l none h
  exact ⟨h1.2,h2.2.2⟩
theorem blobs_ok {l:List Blob} {room:Int} (h:blobsS l room=some 0):l.length≤3000∧(∀ x∈l,okBlob x)∧l.Pairwise (fun a b=>sLt a.Digest b.Digest=true)∧sumW 0 l≤room:=by
  unfold blobsS at h
  cases hc:decide (3000<(l.length:Int))
  · rw [hc] at h
    simp only [cond_false] at h
    have h1:=each_of (P:=okBlob) (fun p x k hk=>by
      unfold blobB at hk
      cases ha:isDigB x.Digest <;> cases hb:blobE x <;> cases hp:prevB (fun y=>sLt x.Digest y.Digest||sEq x.Digest y.Digest) p <;> simp [ha,hb,hp] at hk
      refine ⟨hk,ha,?_⟩
      simp [blobE,inR] at hb
      omega) l none h
    have h2:=sorted_of (key:=fun x:Blob=>x.Digest) (fun p x k hk=>by
      unfold blobB at hk
      cases ha:isDigB x.Digest <;> cases hb:blobE x <;> cases hp:prevB (fun y=>sLt x.Digest y.Digest||sEq x.Digest y.Digest) p <;> simp [ha,hb,hp] at hk
      exact ⟨hk,rfl⟩) l none h
    refine ⟨?_,h1.2,h2.2.2,?_⟩
    · simp at hc
      omega
    · have:=h1.1
      unfold roomE at this
      cases hr:decide (room<sumW 0 l)
      · simp at hr
        omega
      · rw [hr] at this
        simp at this
  · rw [hc] at h
    simp at h
theorem ents_ok {l:List Entry} (h:entsS l=some 0):l.length≤1000∧(∀ x∈l,okEntry x)∧l.Pairwise (fun a b=>sLt a.Key b.Key=true):=by
  unfold entsS at h
  cases hc:decide (1000<(l.length:Int))
  · rw [hc] at h
    simp only [cond_false] at h
    have hB:∀ (p:Option Entry) (x:Entry) (k:Option Int),entB p x k=some 0→k=some 0∧okEntry x∧prevB (fun y=>sLt x.Key y.Key||sEq x.Key y.Key) p=false:=fun p x k hk=>by
      unfold entB digestsS at hk
      obtain ⟨r,hr⟩:=refsS_some x.Refs
      rw [hr] at hk
      cases ha:isDigB x.Key
      · simp [ha] at hk
      · cases hb:decide (200<(x.Refs.length:Int))
        · simp only [ha,hb,Bool.not_true,cond_false,Option.bind_some] at hk
          cases hr0:r != 0
          · have hr1:r=0:=by simpa using hr0
            subst hr1
            cases hu:inR 0 1000000000 x.Used
            · simp [hu] at hk
            · cases hp:prevB (fun y=>sLt x.Key y.Key||sEq x.Key y.Key) p
              · simp only [hu,hp,bne_self_eq_false,Bool.not_true,cond_false] at hk
                simp at hb
                simp [inR] at hu
                exact ⟨hk,⟨ha,by omega,refsS_ok hr,hu.1,hu.2⟩,rfl⟩
              · simp [hu,hp] at hk
          · rw [hr0] at hk
            simp at hk
            subst hk
            simp at hr0
        · simp [ha,hb] at hk
    have h1:=each_of (P:=okEntry) (fun p x k hk=>⟨(hB p x k hk).1,(hB p x k hk).2.1⟩) l none h
    have h2:=sorted_of (key:=fun x:Entry=>x.Key) (fun p x k hk=>⟨(hB p x k hk).1,(hB p x k hk).2.2⟩) l none h
    refine ⟨?_,h1.2,h2.2.2⟩
    simp at hc
    omega
  · rw [hc] at h
    simp at h
theorem cacheS_ok {c:Cache} (h:cacheS c=some 0):OkCache c:=by
  unfold cacheS at h
  cases hr:(!inR 0 1000000000 c.Room||!inR 0 1000000 c.Lease)
  · rw [hr] at h
    simp only [cond_false] at h
    obtain ⟨f,hf,h⟩:=Option.bind_eq_some_iff.1 h
    cases h0:f != 0
    · have hf0:f=0:=by simpa using h0
      subst hf0
      simp only [bne_self_eq_false,cond_false] at h
      obtain ⟨b1,b2,b3,b4⟩:=blobs_ok hf
      obtain ⟨e1,e2,e3⟩:=ents_ok h
      simp [inR] at hr
      exact ⟨by omega,by omega,by omega,by omega,b1,b2,b3,b4,e1,e2,e3⟩
    · rw [h0] at h
      simp at h
      subst h
      simp at h0
  · rw [hr] at h
    simp at h
theorem find_prog {c:Cache} (h:smallCache c) (hs:c.Blobs.Pairwise (fun a b=>sLt a.Digest b.Digest=true)) (d:ByteArray):cache_find.f c d=some (((placeOf (fun x:Blob=>x.Digest) c.Blobs d:Nat):Int),c.Blobs.any (fun x=>sEq x.Digest d)):=by
  unfold cache_find.f slices_BinarySearchFunc_Blob_string.f
  have e:=bsearch (xs:=c.Blobs) (c:=fun x=>sLt x.Digest d) (E:=slices_BinarySearchFunc_Blob_string.e1 c.Blobs d) (L:=fun k i j=>slices_BinarySearchFunc_Blob_string.l2 slices_BinarySearchFunc_Blob_string.e1 k c.Blobs d i j) (p:=placeOf (fun x:Blob=>x.Digest) c.Blobs d) h.1.1 (placeOf_le _ _)
    (fun n hn hp=>placeOf_lt (key:=fun x:Blob=>x.Digest) c.Blobs d n hn hp) (fun n hn hp=>placeOf_ge (key:=fun x:Blob=>x.Digest) c.Blobs d hs n hn hp) (fun k i j=>by
      simp only [slices_BinarySearchFunc_Blob_string.l2]
      congr 1
      refine bind_at (fun x _=>?_)
      show (bif decide (Lib.compareBytes x.Digest.data.toList d.data.toList<0) then _ else _)=_
      rw [sCmp_lt])
  rw [e]
  unfold slices_BinarySearchFunc_Blob_string.e1
  have hf:=placeOf_found (key:=fun x:Blob=>x.Digest) c.Blobs d hs
  have hle:=placeOf_le (key:=fun x:Blob=>x.Digest) c.Blobs d
  generalize placeOf (fun x:Blob=>x.Digest) c.Blobs d=p at *
  by_cases hp:p<c.Blobs.length
  · rw [List.getElem?_eq_getElem hp] at hf
    have hat:at? c.Blobs (p:Int)=some c.Blobs[p]:=by simp [at?,hp]
    rw [decide_eq_true (show (p:Int)<(c.Blobs.length:Int) by omega),hat]
    simp only [cond_true,Option.bind_some,cache_find_1.f,strings_Compare.f,sCmp_eq]
    rw [← hf]
  · rw [List.getElem?_eq_none (by omega)] at hf
    rw [decide_eq_false (show ¬ (p:Int)<(c.Blobs.length:Int) by omega),← hf]
    rfl
def hasB (c:Cache) (d:ByteArray):Bool:=c.Blobs.any (fun x=>sEq x.Digest d)
def missingS (c:Cache) (l:List ByteArray):List ByteArray:=l.filter (fun d=>!hasB c d)
theorem missing_prog {c:Cache} (h:smallCache c) (hs:c.Blobs.Pairwise (fun a b=>sLt a.Digest b.Digest=true)) {l:List ByteArray} (hl:l.length*16≤140737490452480):cache_missing.f c l=some (missingS c l):=by
  unfold cache_missing.f
  rw [rangeS_all (xs:=l) (L:=fun k s v=>cache_missing.l2 cache_missing.e1 k c l s v) (body:=fun _ x s f=>bif !hasB c x then guard? (room s.length 1 16) (f (s++[id x])) else f s) (e:=fun s=>some s) (by omega) (fun k s v=>by
    simp only [cache_missing.l2,cache_missing.j3,find_prog h hs,Option.bind_some]
    rfl) []]
  rw [filterLoop l 0 [] (by simp; omega)]
  simp [missingS]
theorem blob_ref {c:Cache} (h:smallCache c) (d:ByteArray):∃ r,smithyardref7_blob.f c d=some r∧decide (r<0)=!hasB c d:=by
  unfold smithyardref7_blob.f
  have hb:c.Blobs.length≤4611686018427387904:=by have:=h.1.1; omega
  rw [rangeS_all (S:=Unit) (L:=fun k _ v=>smithyardref7_blob.l2 smithyardref7_blob.e1 k c d v) (body:=fun v x s f=>bif sEq x.Digest d then some v else f s) (e:=fun _=>some (-1)) hb (fun k s v=>rfl) (),findLoop c.Blobs 0]
  exact ⟨_,rfl,findIdx_neg (c:=fun x:Blob=>sEq x.Digest d) c.Blobs⟩
theorem missing_ref {c:Cache} (h:smallCache c) {l:List ByteArray} (hl:l.length*16≤140737490452480):smithyardref7_missing.f c l=some (missingS c l):=by
  unfold smithyardref7_missing.f
  rw [rangeS_all (xs:=l) (L:=fun k s v=>smithyardref7_missing.l2 smithyardref7_missing.e1 k c l s v) (body:=fun _ x s f=>bif !hasB c x then guard? (room s.length 1 16) (f (s++[id x])) else f s) (e:=fun s=>some s) (by omega) (fun k s v=>by
    simp only [smithyardref7_missing.l2,smithyardref7_missing.j3]
    congr 1
    refine bind_at2 (fun x hat hx=>?_)
    obtain ⟨r,hr,hr2⟩:=blob_ref h x
    simp only [hr,Option.bind_some,hr2,hat]
    rfl) []]
  rw [filterLoop l 0 [] (by simp; omega)]
  simp [missingS]
theorem copy_id {c:Cache} (hb:c.Blobs.length*48≤140737490452480) (he:c.Entries.length*48≤140737490452480) (hr:∀ x∈c.Entries,x.Refs.length*16≤140737490452480):smithyardref7_Copy.f c=some c:=by
  unfold smithyardref7_Copy.f
  rw [slices_Clone_Blob_id hb]
  simp only [Option.bind_some]
  rw [rangeS_all (xs:=c.Entries) (L:=fun k s v=>smithyardref7_Copy.l2 smithyardref7_Copy.e1 k c c.Blobs s v) (body:=fun _ x s f=>bif (fun _=>true) x then guard? (room s.length 1 48) (f (s++[id x])) else f s) (e:=fun s=>some (⟨c.Room,c.Lease,c.Blobs,s⟩:Cache)) (by omega) (fun k s v=>by
    simp only [smithyardref7_Copy.l2]
    congr 1
    refine bind_at (fun x hx=>?_)
    rw [slices_Clone_string_id (hr x hx)]
    rfl) []]
  rw [filterLoop c.Entries 0 [] (by simp; omega)]
  have:∀ l:List Entry,l.filter (fun _=>true)=l:=fun l=>by simp
  simp [this]
theorem sameList_self {l:List ByteArray} (h:l.length≤4611686018427387904):smithyardref7_sameList.f l l=some true:=by
  unfold smithyardref7_sameList.f
  rw [bne_self_eq_false]
  refine eqLoop (L:=fun k v=>smithyardref7_sameList.l2 smithyardref7_sameList.e1 k l l v) h (fun k v=>rfl) (fun x _=>?_)
  simp [sEq]
theorem same_self {c:Cache} (h:smallCache c):smithyardref7_Same.f c c=some true:=by
  have hl:c.Entries.length≤4611686018427387904:=by have:=h.2.1; omega
  have hb:c.Blobs.length≤4611686018427387904:=by have:=h.1.1; omega
  unfold smithyardref7_Same.f
  simp only [bne_self_eq_false,cond_false,Option.bind_some]
  have h3:smithyardref7_Same.e1 c c=some true:=by
    unfold smithyardref7_Same.e1
    refine selfLoop (L:=fun k v=>smithyardref7_Same.l3 smithyardref7_Same.e2 k c c v) hl (fun k v h0 h1=>?_) (fun k=>?_)
    · obtain ⟨hn,hat⟩:=at?_get (xs:=c.Entries) h0 h1
      have hr:=(h.2.2 _ (List.getElem_mem hn)).2.1
      simp only [smithyardref7_Same.l3,decide_eq_true h1,cond_true,hat,Option.bind_some,sEq_self,Bool.not_true,cond_false,bne_self_eq_false,sameList_self (show _≤4611686018427387904 from Nat.le_trans hr (by omega))]
      rw [w64_id (by omega) (by omega)]
    · simp only [smithyardref7_Same.l3,decide_eq_false (Int.lt_irrefl _),cond_false]
      rfl
  refine selfLoop (L:=fun k v=>smithyardref7_Same.l4 smithyardref7_Same.e1 k c c v) hb (fun k v h0 h1=>?_) (fun k=>?_)
  · obtain ⟨hn,hat⟩:=at?_get (xs:=c.Blobs) h0 h1
    simp only [smithyardref7_Same.l4,decide_eq_true h1,cond_true,hat,Option.bind_some,sEq_self,beq_self_eq_true,Bool.and_self,Bool.not_true,cond_false]
    rw [w64_id (by omega) (by omega)]
  · simp only [smithyardref7_Same.l4,decide_eq_false (Int.lt_irrefl _),cond_false]
    exact h3
end Go.Proofs.YtjdnnkdhajhdkaaGreatDoor
