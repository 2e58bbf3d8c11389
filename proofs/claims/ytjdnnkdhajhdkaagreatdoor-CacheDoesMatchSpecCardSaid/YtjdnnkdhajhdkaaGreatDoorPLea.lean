/- Caches: what would go, in which order; what goes to make room. -/
import Derived.Test.YtjdnnkdhajhdkaaGreatDoorPC7E
import Derived.Test.YtjdnnkdhajhdkaaGreatDoorPStb3
set_option linter.unusedVariables false
set_option linter.unusedSimpArgs false
namespace Go.Proofs.YtjdnnkdhajhdkaaGreatDoor
open Go Go.Proofs.YtjdnnkdhajhdkaaGreatDoor.Kit
theorem indexL_prog (l:List Blob) (t:Int) (h:l.length≤4611686018427387904):slices_IndexFunc_Blob.f l t=some (match l.findIdx? (fun b=>heldB b t) with | some n=>(0:Int)+n | none => -1):=by
  unfold slices_IndexFunc_Blob.f
  rw [rangeS_all (xs:=l) (S:=Unit) (L:=fun k _ v=>slices_IndexFunc_Blob.l2 slices_IndexFunc_Blob.e1 k l t v) (body:=fun v x s f=>bif heldB x t then some v else f s) (e:=fun _=>some (-1)) h (fun k s v=>by
    simp only [slices_IndexFunc_Blob.l2,cache_leaving_1.f,held_prog,Option.bind_some]
    rfl) ()]
  exact findLoop l 0
theorem delL_prog (l:List Blob) (t:Int) (h:l.length≤4611686018427387904):slices_DeleteFunc_Blob.f l t=some (l.filter (fun b=>!heldB b t)):=by
  unfold slices_DeleteFunc_Blob.f
  rw [indexL_prog l t h]
  exact delFunc (c:=fun b=>heldB b t) (L:=fun k s i j=>slices_DeleteFunc_Blob.l2 slices_DeleteFunc_Blob.e1 k t s i j) (E:=slices_DeleteFunc_Blob.e1) h (fun k s i j=>by
    simp only [slices_DeleteFunc_Blob.l2,slices_DeleteFunc_Blob.j3,cache_leaving_1.f,held_prog,Option.bind_some]) (fun s i h0 h1=>delE s i h0 h1)
def freeS (c:Cache) (t:Int):List Blob:=c.Blobs.filter (fun b=>!heldB b t)
def leavingS (c:Cache) (t:Int):List Blob:=stab ltU (freeS c t)
theorem leaving_prog {c:Cache} (h:c.Blobs.length*48≤140737490452480) (t:Int):cache_leaving.f c t=some (leavingS c t):=by
  unfold cache_leaving.f
  rw [slices_Clone_Blob_id h]
  simp only [Option.bind_some]
  rw [delL_prog _ _ (by omega)]
  simp only [Option.bind_some]
  rw [sortStable_prog (Nat.le_trans (List.length_filter_le _ _) (by omega))]
  rfl
theorem leaving_len (c:Cache) (t:Int):(leavingS c t).length≤c.Blobs.length:=by
  unfold leavingS
  rw [stab_len ltU_swo]
  exact List.length_filter_le _ _
theorem mem_leaving {c:Cache} {t:Int} {b:Blob}:b∈leavingS c t↔b∈c.Blobs∧heldB b t=false:=by
  unfold leavingS freeS
  rw [mem_stab ltU_swo,List.mem_filter]
  simp
/-! permutations -/
theorem mrg_perm_n:∀ (n:Nat) (xs ys:List Blob),xs.length+ys.length≤n→(mrg ltU xs ys).Perm (xs++ys)
  | _,[],ys,_=>by rw [nil_mrg]; exact List.Perm.refl _
  | _,x::xs,[],_=>by rw [mrg_nil,List.append_nil]
  | 0,x::xs,y::ys,h=>by simp at h
  | n+1,x::xs,y::ys,h=>by
    simp only [List.length_cons] at h
    cases hc:ltU y x
    · rw [mrg_ge ltU hc]
      exact List.Perm.cons x (mrg_perm_n n xs (y::ys) (by simp only [List.length_cons]; omega))
    · rw [mrg_lt ltU hc]
      exact (List.Perm.cons y (mrg_perm_n n (x::xs) ys (by simp only [List.length_cons]; omega))).trans List.perm_middle.symm
theorem stab_perm:∀ (l:List Blob),(stab ltU l).Perm l
  | []=>List.Perm.refl _
  | x::l=>by
    have:=stab_append ltU_swo [x] l
    rw [List.singleton_append] at this
    rw [this]
    have e:stab ltU [x]=[x]:=by simp [stab,nil_mrg]
    rw [e]
    exact (mrg_perm_n _ _ _ (Nat.le_refl _)).trans (List.Perm.cons x (stab_perm l))
theorem sumI_perm {a b:List Blob} (h:a.Perm b):sumI a=sumI b:=by
  induction h with
  | nil=>rfl
  | cons x _ ih=>simp only [sumI,ih]
  | swap x y l=>simp only [sumI]; omega
  | trans _ _ ih1 ih2=>exact ih1.trans ih2
theorem sumI_parts (p:Blob→Bool):∀ (l:List Blob),sumI (l.filter p)+sumI (l.filter (fun b=>!p b))=sumI l
  | []=>rfl
  | x::l=>by
    have:=sumI_parts p l
    rw [List.filter_cons,List.filter_cons]
    cases p x <;> simp [sumI] <;> omega
def goN:Int→List Blob→List Blob
  | _,[]=>[]
  | o,b::l=>bif decide (o≤0) then [] else b::goN (o - b.Size) l
theorem goN_prefix:∀ (l:List Blob) (o:Int),∃ r,l=goN o l++r
  | [],o=>⟨[],rfl⟩
  | b::l,o=>by
    unfold goN
    cases decide (o≤0)
    · obtain ⟨r,hr⟩:=goN_prefix l (o - b.Size)
      exact ⟨r,by simp only [cond_false,List.cons_append]; rw [← hr]⟩
    · exact ⟨b::l,rfl⟩
theorem goN_sum:∀ (l:List Blob) (o:Int),o≤sumI l→(∀ x∈l,0≤x.Size)→o≤sumI (goN o l)
  | [],o,h,_=>h
  | b::l,o,h,hz=>by
    unfold goN
    by_cases ho:o≤0
    · rw [decide_eq_true ho]
      exact ho
    · rw [decide_eq_false ho]
      simp only [cond_false,sumI] at h ⊢
      have:=goN_sum l (o - b.Size) (by omega) (fun x hx=>hz x (by simp [hx]))
      omega
def okSz (l:List Blob):Prop:=∀ x∈l,0≤x.Size∧x.Size≤100000000
theorem clear_loop {c:Cache}:∀ (l:List Blob) (k:Nat) (xs:List Blob) (o:Int) (gone:List ByteArray) (v:Nat),xs.drop v=l→v≤xs.length→xs.length≤1000000→gone.length+l.length≤1000000→l.length<k→okSz l→o≤2305843009213693952 → -2305843009213693952≤o →
    cache_clear_2.l2 cache_clear_2.e1 k c xs o gone (v:Int)=cache_clear_2.e1 c (gone++(goN o l).map (fun b=>b.Digest))
  | [],k,xs,o,gone,v,h1,h2,h3,h4,h5,h6,h7,h8=>by
    obtain ⟨k,rfl⟩:∃ m,k=m+1:=⟨k - 1,by omega⟩
    have hv:xs.length≤v:=List.drop_eq_nil_iff.1 h1
    rw [cache_clear_2.l2,decide_eq_false (by omega)]
    simp [goN]
  | b::l,k,xs,o,gone,v,h1,h2,h3,h4,h5,h6,h7,h8=>by
    simp only [List.length_cons] at h4 h5
    obtain ⟨k,rfl⟩:∃ m,k=m+1:=⟨k - 1,by omega⟩
    have hv:v<xs.length:=by
      rcases Nat.lt_or_ge v xs.length with h | h
      · exact h
      · rw [List.drop_eq_nil_of_le h] at h1; cases h1
    rw [List.drop_eq_getElem_cons hv] at h1
    injection h1 with g1 g2
    rw [cache_clear_2.l2,decide_eq_true (by omega),at_nat hv,g1]
    simp only [cond_true,Option.bind_some,goN]
    by_cases ho:o≤0
    · rw [decide_eq_true ho]
      simp
    · rw [decide_eq_false ho]
      simp only [cond_false]
      obtain ⟨s1,s2⟩:=h6 b (by simp)
      rw [guard?_true (room_of (by omega)),w64_id (by omega) (by omega),show w64 ((v:Int)+1)=((v+1:Nat):Int) by rw [w64_id (by omega) (by omega)]; omega]
      rw [clear_loop l k xs (o - b.Size) (gone++[b.Digest]) (v+1) g2 (by omega) h3 (by simp; omega) (by omega) (fun x hx=>h6 x (by simp [hx])) (by omega) (by omega)]
      simp
def goneL (c:Cache) (most t:Int):List Blob:=goN (sumI c.Blobs - most) (leavingS c t)
def goneD (c:Cache) (most t:Int):List ByteArray:=(goneL c most t).map (fun b=>b.Digest)
def dropC (c:Cache) (gone:List ByteArray):Cache:=⟨c.Room,c.Lease,c.Blobs.filter (fun b=>!memB gone b.Digest),c.Entries⟩
def clearS (c:Cache) (most t:Int):List ByteArray × Bool × Cache:=bif decide (sumI (leavingS c t)<sumI c.Blobs - most) then ([],false,c) else (goneD c most t,true,dropC c (goneD c most t))
theorem OkCache.sz {c:Cache} (h:OkCache c):okSz c.Blobs:=fun x hx=>⟨(h.be x hx).2.1,(h.be x hx).2.2.1⟩
theorem leaving_sz {c:Cache} (h:okSz c.Blobs) (t:Int):okSz (leavingS c t):=fun x hx=>h x (mem_leaving.1 hx).1
theorem sumI_le:∀ (l:List Blob),okSz l→sumI l≤(l.length:Int)*100000000
  | [],_=>by simp [sumI]
  | x::l,h=>by
    have:=(h x (by simp)).2
    have:=sumI_le l (fun y hy=>h y (by simp [hy]))
    simp only [sumI,List.length_cons]
    push_cast
    omega
theorem used_eq {l:List Blob} {c:Cache} (hc:c.Blobs=l) (hl:l.length≤3000) (hs:okSz l):cache_used.f c=some (sumI l):=by
  rw [used_prog (by rw [hc]; omega),hc,sumW_eq l 0 hs (by omega) (by omega),Int.zero_add]
theorem clear_prog {c:Cache} (hl:c.Blobs.length≤3000) (hs:okSz c.Blobs) {most t:Int} (h1 : -1000000000000≤most) (h2:most≤1000000000000):cache_clear_2.f c most t=some (clearS c most t):=by
  unfold cache_clear_2.f clearS cache_sumOf.f
  have hll:=leaving_len c t
  have hls:=leaving_sz hs t
  have e1:cache_leaving.f (⟨c.Room,c.Lease,c.Blobs,c.Entries⟩:Cache) t=some (leavingS c t):=leaving_prog (c:=c) (by omega) t
  have e2:cache_used.f (⟨c.Room,c.Lease,c.Blobs,c.Entries⟩:Cache)=some (sumI c.Blobs):=used_eq rfl hl hs
  have e3:cache_used.f (⟨0,0,leavingS c t,([]:List Entry)⟩:Cache)=some (sumI (leavingS c t)):=used_eq rfl (by omega) hls
  have b1:=sumI_le c.Blobs hs
  have b2:=sumI_nn c.Blobs (fun x hx=>(hs x hx).1)
  rw [e1,e2]
  simp only [Option.bind_some,e3]
  rw [w64_id (n:=sumI c.Blobs - most) (by omega) (by omega)]
  cases hc:decide (sumI (leavingS c t)<sumI c.Blobs - most)
  · simp only [cond_false]
    have:=clear_loop (c:=c) (leavingS c t) big (leavingS c t) (sumI c.Blobs - most) [] 0 rfl (by omega) (by omega) (by simp; omega) (by unfold big; omega) hls (by omega) (by omega)
    rw [show ((0:Nat):Int)=0 from rfl] at this
    rw [this,List.nil_append]
    unfold cache_clear_2.e1
    have hg:(goneD c most t).length≤3000:=by
      unfold goneD goneL
      obtain ⟨r,hr⟩:=goN_prefix (leavingS c t) (sumI c.Blobs - most)
      have:=congrArg List.length hr
      rw [List.length_append] at this
      rw [List.length_map]
      omega
    have hd:=drop_prog (c:=(⟨c.Room,c.Lease,c.Blobs,c.Entries⟩:Cache)) (l:=goneD c most t) (by omega) (show c.Blobs.length≤4611686018427387904 by omega)
    show (cache_drop_3.f (⟨c.Room,c.Lease,c.Blobs,c.Entries⟩:Cache) (goneD c most t)).bind _=_
    rw [hd]
    rfl
  · rfl
/-! what goes are blobs that were there -/
theorem digest_nodup {c:Cache} (hs:c.Blobs.Pairwise (fun a b=>sLt a.Digest b.Digest=true)):c.Blobs.Nodup:=by
  refine List.Pairwise.imp (fun {a b} h he=>?_) hs
  subst he
  rw [sLt_irrefl] at h
  cases h
theorem goneL_nodup {c:Cache} (hs:c.Blobs.Pairwise (fun a b=>sLt a.Digest b.Digest=true)) (most t:Int):(goneL c most t).Nodup:=by
  obtain ⟨r,hr⟩:=goN_prefix (leavingS c t) (sumI c.Blobs - most)
  have h1:(leavingS c t).Nodup:=(stab_perm (freeS c t)).nodup_iff.2 ((digest_nodup hs).filter _)
  rw [hr] at h1
  exact (List.nodup_append.1 h1).1
theorem goneL_mem {c:Cache} {most t:Int} {b:Blob} (h:b∈goneL c most t):b∈c.Blobs∧heldB b t=false:=by
  obtain ⟨r,hr⟩:=goN_prefix (leavingS c t) (sumI c.Blobs - most)
  refine mem_leaving.1 ?_
  rw [hr]
  exact List.mem_append.2 (.inl h)
theorem memD_iff {c:Cache} (hs:c.Blobs.Pairwise (fun a b=>sLt a.Digest b.Digest=true)) {most t:Int} {b:Blob} (hb:b∈c.Blobs):memB (goneD c most t) b.Digest=true↔b∈goneL c most t:=by
  rw [memB_iff]
  unfold goneD
  constructor
  · intro h
    obtain ⟨b',h1,h2⟩:=List.mem_map.1 h
    have:=key_inj (key:=fun x:Blob=>x.Digest) hs b' (goneL_mem h1).1 b hb h2
    subst this
    exact h1
  · intro h
    exact List.mem_map.2 ⟨b,h,rfl⟩
theorem drop_sum {c:Cache} (hs:c.Blobs.Pairwise (fun a b=>sLt a.Digest b.Digest=true)) (most t:Int):sumI (dropC c (goneD c most t)).Blobs=sumI c.Blobs - sumI (goneL c most t):=by
  have h1:=sumI_parts (fun b=>memB (goneD c most t) b.Digest) c.Blobs
  have h2:(c.Blobs.filter (fun b=>memB (goneD c most t) b.Digest)).Perm (goneL c most t):=by
    refine (List.perm_ext_iff_of_nodup ((digest_nodup hs).filter _) (goneL_nodup hs most t)).2 (fun b=>?_)
    rw [List.mem_filter]
    constructor
    · rintro ⟨h1,h2⟩; exact (memD_iff hs h1).1 h2
    · intro h; exact ⟨(goneL_mem h).1,(memD_iff hs (goneL_mem h).1).2 h⟩
  have h3:=sumI_perm h2
  show sumI (c.Blobs.filter (fun b=>!memB (goneD c most t) b.Digest))=_
  omega
end Go.Proofs.YtjdnnkdhajhdkaaGreatDoor
