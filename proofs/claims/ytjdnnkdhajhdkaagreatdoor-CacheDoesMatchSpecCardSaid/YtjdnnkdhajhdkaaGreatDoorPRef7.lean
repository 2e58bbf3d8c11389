/- Caches: the reference's way to what would go, what goes, and what is whole. -/
import Derived.Test.YtjdnnkdhajhdkaaGreatDoorPLea
set_option linter.unusedVariables false
set_option linter.unusedSimpArgs false
namespace Go.Proofs.YtjdnnkdhajhdkaaGreatDoor
open Go Go.Proofs.YtjdnnkdhajhdkaaGreatDoor.Kit
theorem heldR (b:Blob) (t:Int):smithyardref7_held.f b t=some (heldB b t):=by
  unfold smithyardref7_held.f heldB
  cases decide (0<b.Pins) <;> rfl
theorem row_inner {j5:Cache→Int→Int→List Blob→Option (List ByteArray)} {c:Cache} {t i:Int} {x:Blob} {l:List Blob} (hl:l.length≤4000) (hs:Srt ltU l):∀ (n k:Nat),n≤l.length→n<k→(∀ q (hq:q<l.length),n≤q→ltU x l[q]=true) →
    smithyardref7_row.l7 (smithyardref7_row.e6 j5) k c t l i x (n:Int)=j5 c t i (mrg ltU l [x])
  | n,k,h1,h2,h3=>by
    obtain ⟨k,rfl⟩:∃ m,k=m+1:=⟨k - 1,by omega⟩
    have fin:(∀ q (hq:q<l.length),q<n→ltU x l[q]=false)→smithyardref7_row.e6 j5 c t l i x (n:Int)=j5 c t i (mrg ltU l [x]):=by
      intro h4
      unfold smithyardref7_row.e6
      have g1:(decide ((0:Int)≤(n:Int))&&decide ((n:Int)≤((l.length:Nat):Int)))=true:=by simp; omega
      have:=mrg_one_r (lt:=ltU) (y:=x) (L1:=l.take n) (L2:=l.drop n) (fun y hy=>by
        obtain ⟨q,hq,hqn,rfl⟩:=mem_take_get hy
        exact h4 q hq hqn) (fun y hy=>by
        obtain ⟨q,hq,hqn,rfl⟩:=mem_drop_get hy
        exact h3 q hq hqn)
      rw [List.take_append_drop] at this
      rw [guard?_true g1,guard?_true (room_of (by rw [Int.toNat_natCast]; omega)),guard?_true (room_of (by simp; omega)),guard?_true g1,guard?_true (room_of (by simp; omega)),Int.toNat_natCast,List.nil_append,List.append_assoc,List.singleton_append,this]
    rw [smithyardref7_row.l7]
    cases n with
    | zero =>
      rw [decide_eq_false (by omega)]
      simp only [cond_false,Option.bind_some]
      exact fin (fun q _ h=>by omega)
    | succ n =>
      have hw:w64 (((n+1:Nat):Int) - 1)=(n:Int):=by rw [w64_id (by omega) (by omega)]; omega
      rw [decide_eq_true (by omega),hw,at_nat (by omega)]
      simp only [cond_true,Option.bind_some]
      cases hc:ltU x l[n]
      · have hc':decide (x.Used<(l[n]).Used)=false:=hc
        rw [hc']
        simp only [cond_false]
        refine fin (fun q hq hqn=>?_)
        exact ltU_swo.neg _ _ _ hc (srt_get hs (show n<l.length by omega) (show q≤n by omega))
      · have hc':decide (x.Used<(l[n]).Used)=true:=hc
        rw [hc']
        simp only [cond_true]
        refine row_inner hl hs n k (by omega) (by omega) (fun q hq hqn=>?_)
        rcases Nat.lt_or_ge n q with h | h
        · exact h3 q hq h
        · have:q=n:=by omega
          subst this
          exact hc
theorem row_loop {c:Cache} {t:Int} (hl:c.Blobs.length≤3000):∀ (l:List Blob) (k v:Nat) (S:List Blob),c.Blobs.drop v=l→v≤c.Blobs.length→S.length≤v→l.length<k →
    smithyardref7_row.l4 smithyardref7_row.e1 k c t (stab ltU S) (v:Int)=smithyardref7_row.e1 (stab ltU (S++l.filter (fun b=>!heldB b t)))
  | [],k,v,S,h1,h2,h3,h4=>by
    obtain ⟨k,rfl⟩:∃ m,k=m+1:=⟨k - 1,by omega⟩
    have hv:c.Blobs.length≤v:=List.drop_eq_nil_iff.1 h1
    rw [smithyardref7_row.l4,decide_eq_false (by omega)]
    simp
  | b::l,k,v,S,h1,h2,h3,h4=>by
    simp only [List.length_cons] at h4
    obtain ⟨k,rfl⟩:∃ m,k=m+1:=⟨k - 1,by omega⟩
    have hv:v<c.Blobs.length:=by
      rcases Nat.lt_or_ge v c.Blobs.length with h | h
      · exact h
      · rw [List.drop_eq_nil_of_le h] at h1; cases h1
    rw [List.drop_eq_getElem_cons hv] at h1
    injection h1 with g1 g2
    have hw:w64 ((v:Int)+1)=((v+1:Nat):Int):=by rw [w64_id (by omega) (by omega)]; omega
    rw [smithyardref7_row.l4,decide_eq_true (by omega),at_nat hv,g1]
    simp only [cond_true,Option.bind_some,heldR]
    have hsl:=stab_len ltU_swo S
    cases hb:heldB b t
    · simp only [cond_false]
      rw [row_inner (by omega) (stab_sorted ltU_swo S) (stab ltU S).length big (Nat.le_refl _) (by unfold big; omega) (fun q hq h=>by omega)]
      unfold smithyardref7_row.j5
      rw [hw,← stab_snoc,row_loop hl l k (v+1) (S++[b]) g2 (by omega) (by simp; omega) (by omega),List.filter_cons_of_pos (by simp [hb])]
      simp
    · simp only [cond_true,smithyardref7_row.j5,hw]
      rw [row_loop hl l k (v+1) S g2 (by omega) (by omega) (by omega),List.filter_cons_of_neg (by simp [hb])]
theorem row_ref {c:Cache} (hl:c.Blobs.length≤3000) (t:Int):smithyardref7_row.f c t=some ((leavingS c t).map (fun b=>b.Digest)):=by
  unfold smithyardref7_row.f
  have h0:=row_loop (t:=t) hl c.Blobs big 0 [] rfl (by omega) (by simp) (by unfold big; omega)
  rw [show stab ltU ([]:List Blob)=[] from rfl,show ((0:Nat):Int)=0 from rfl,List.nil_append] at h0
  rw [h0]
  unfold smithyardref7_row.e1
  have hll:=leaving_len c t
  have h1:=rangeS_all (xs:=leavingS c t) (S:=List ByteArray) (L:=fun k s v=>smithyardref7_row.l3 smithyardref7_row.e2 k (leavingS c t) s v) (body:=fun _ x s f=>guard? (room s.length 1 16) (f (s++[x.Digest]))) (e:=smithyardref7_row.e2) (by omega) (fun k s v=>by simp only [smithyardref7_row.l3]) []
  have h2:=mapLoop (g:=fun b:Blob=>b.Digest) (b:=16) (E:=smithyardref7_row.e2) (leavingS c t) 0 [] (by simp; omega)
  exact h1.trans h2
theorem blob_ix {c:Cache} (hb:c.Blobs.length≤4611686018427387904) (d:ByteArray):smithyardref7_blob.f c d=some (match c.Blobs.findIdx? (fun x=>sEq x.Digest d) with | some n=>(0:Int)+n | none => -1):=by
  unfold smithyardref7_blob.f
  rw [rangeS_all (S:=Unit) (L:=fun k _ v=>smithyardref7_blob.l2 smithyardref7_blob.e1 k c d v) (body:=fun v x s f=>bif sEq x.Digest d then some v else f s) (e:=fun _=>some (-1)) hb (fun k s v=>rfl) (),findLoop c.Blobs 0]
  rfl
theorem entry_ix {c:Cache} (hb:c.Entries.length≤4611686018427387904) (d:ByteArray):smithyardref7_entry.f c d=some (match c.Entries.findIdx? (fun x=>sEq x.Key d) with | some n=>(0:Int)+n | none => -1):=by
  unfold smithyardref7_entry.f
  rw [rangeS_all (S:=Unit) (L:=fun k _ v=>smithyardref7_entry.l2 smithyardref7_entry.e1 k c d v) (body:=fun v x s f=>bif sEq x.Key d then some v else f s) (e:=fun _=>some (-1)) hb (fun k s v=>rfl) (),findLoop c.Entries 0]
  rfl
theorem filter_key:∀ {l:List Blob} {b:Blob},l.Pairwise (fun a b=>sLt a.Digest b.Digest=true)→b∈l→l.filter (fun x=>sEq x.Digest b.Digest)=[b]
  | a::l,b,hs,hb=>by
    obtain ⟨h1,h2⟩:=List.pairwise_cons.1 hs
    rcases List.mem_cons.1 hb with rfl | hb'
    · rw [List.filter_cons_of_pos (p:=fun x:Blob=>sEq x.Digest b.Digest) (a:=b) (sEq_self _)]
      congr 1
      rw [List.filter_eq_nil_iff]
      intro y hy
      have:=sLt_flip (h1 y hy)
      simp only [Bool.or_eq_false_iff] at this
      rw [this.2]
      simp
    · rw [List.filter_cons_of_neg (p:=fun x:Blob=>sEq x.Digest b.Digest) (a:=a) (by simp [sLt_ne (h1 b hb')])]
      exact filter_key h2 hb'
theorem erase_filter {α:Type} {key:α→ByteArray} {d:ByteArray}:∀ {l:List α} {n:Nat},l.Pairwise (fun a b=>sLt (key a) (key b)=true)→l.findIdx? (fun x=>sEq (key x) d)=some n→l.take n++l.drop (n+1)=l.filter (fun x=>!sEq (key x) d)
  | [],n,_,h=>by cases h
  | a::l,n,hs,h=>by
    obtain ⟨h1,h2⟩:=List.pairwise_cons.1 hs
    rw [List.findIdx?_cons] at h
    cases hc:sEq (key a) d
    · rw [hc] at h
      simp only [Bool.false_eq_true,if_false] at h
      cases hq:l.findIdx? (fun x=>sEq (key x) d) with
      | none=>rw [hq] at h; cases h
      | some m =>
        rw [hq] at h
        simp at h
        subst h
        rw [List.filter_cons_of_pos (by simp [hc])]
        have ih:=erase_filter h2 hq
        simp only [List.take_succ_cons,List.drop_succ_cons,List.cons_append]
        rw [ih]
    · rw [hc] at h
      simp at h
      subst h
      rw [List.filter_cons_of_neg (by simp [hc])]
      simp only [List.take_zero,List.nil_append,Nat.zero_add,List.drop_succ_cons,List.drop_zero]
      refine (List.filter_eq_self.2 (fun y hy=>?_)).symm
      have hlt:=h1 y hy
      rw [sEq_iff.1 hc] at hlt
      have:=sLt_flip hlt
      simp only [Bool.or_eq_false_iff] at this
      rw [this.2]
      rfl
theorem drop_ref {c:Cache} (hl:c.Blobs.length≤3000) (hs:c.Blobs.Pairwise (fun a b=>sLt a.Digest b.Digest=true)) {b:Blob} (hb:b∈c.Blobs):smithyardref7_drop_3.f c b.Digest=some ⟨c.Room,c.Lease,c.Blobs.filter (fun x=>!sEq x.Digest b.Digest),c.Entries⟩:=by
  unfold smithyardref7_drop_3.f
  have hix:smithyardref7_blob.f (⟨c.Room,c.Lease,c.Blobs,c.Entries⟩:Cache) b.Digest=_:=blob_ix (c:=c) (by omega) b.Digest
  rw [hix]
  cases hq:c.Blobs.findIdx? (fun x=>sEq x.Digest b.Digest) with
  | none =>
    have:=List.findIdx?_eq_none_iff.1 hq b hb
    rw [sEq_self] at this
    cases this
  | some n =>
    obtain ⟨hn,_,_⟩:=List.findIdx?_eq_some_iff_getElem.1 hq
    simp only [Option.bind_some]
    have w1:w64 ((0:Int)+(n:Int)+1)=((n+1:Nat):Int):=by rw [w64_id (by omega) (by omega)]; omega
    rw [w1,show ((0:Int)+(n:Int)).toNat=n by omega]
    rw [guard?_true (by simp; omega),guard?_true (room_of (by omega)),guard?_true (by simp; omega),guard?_true (room_of (by rw [Int.toNat_natCast]; simp; omega)),Int.toNat_natCast,List.nil_append,erase_filter (key:=fun x:Blob=>x.Digest) hs hq]
theorem bytes_eq {l:List Blob} (hl:l.length≤3000) (hs:okSz l):smithyardref7_bytesOf.f l=some (sumI l):=by
  rw [bytesOf_ref (by omega),sumW_eq l 0 hs (by omega) (by omega),Int.zero_add]
theorem space_loop {c0 c1 most:Int} {ents:List Entry} {ls:List Blob}:∀ (rest:List Blob) (k i:Nat) (bl:List Blob) (gone:List ByteArray) (o:Int),ls.drop i=rest→i≤ls.length→ls.length≤3000→bl.length≤3000→bl.Pairwise (fun a b=>sLt a.Digest b.Digest=true)→okSz bl→(∀ b∈rest,b∈bl)→rest.Nodup→sumI bl - most=o→gone.length≤i→rest.length<k →
    smithyardref7_space_2.l3 smithyardref7_space_2.e2 k most (ls.map (fun b=>b.Digest)) c0 c1 bl ents gone (i:Int)=smithyardref7_space_2.e2 c0 c1 (bl.filter (fun b=>!memB ((goN o rest).map (fun b=>b.Digest)) b.Digest)) ents (gone++(goN o rest).map (fun b=>b.Digest))
  | [],k,i,bl,gone,o,h1,h2,h3,h4,h5,h6,h7,h8,h9,h10,h11=>by
    obtain ⟨k,rfl⟩:∃ m,k=m+1:=⟨k - 1,by omega⟩
    have hv:ls.length≤i:=List.drop_eq_nil_iff.1 h1
    rw [smithyardref7_space_2.l3,decide_eq_false (by rw [List.length_map]; omega)]
    have ft:∀ l:List Blob,l.filter (fun _=>true)=l:=fun l=>by simp
    simp [goN,memB,ft]
  | b::rest,k,i,bl,gone,o,h1,h2,h3,h4,h5,h6,h7,h8,h9,h10,h11=>by
    simp only [List.length_cons] at h11
    obtain ⟨k,rfl⟩:∃ m,k=m+1:=⟨k - 1,by omega⟩
    have hv:i<ls.length:=by
      rcases Nat.lt_or_ge i ls.length with h | h
      · exact h
      · rw [List.drop_eq_nil_of_le h] at h1; cases h1
    rw [List.drop_eq_getElem_cons hv] at h1
    injection h1 with g1 g2
    have hat:at? (ls.map (fun b=>b.Digest)) (i:Int)=some b.Digest:=by rw [at_nat (by rw [List.length_map]; exact hv)]; simp [g1]
    rw [smithyardref7_space_2.l3,decide_eq_true (by rw [List.length_map]; omega),bytes_eq h4 h6,hat]
    simp only [cond_true,Option.bind_some,goN]
    by_cases ho:o≤0
    · rw [decide_eq_false (show ¬ most<sumI bl by omega),decide_eq_true ho]
      have ft:∀ l:List Blob,l.filter (fun _=>true)=l:=fun l=>by simp
      simp [memB,ft]
    · rw [decide_eq_true (show most<sumI bl by omega),decide_eq_false ho]
      have hb:=h7 b (by simp)
      simp only [cond_true,cond_false]
      have hd:=drop_ref (c:=(⟨c0,c1,bl,ents⟩:Cache)) h4 h5 hb
      rw [hd]
      simp only [Option.bind_some]
      have hw:w64 ((i:Int)+1)=((i+1:Nat):Int):=by rw [w64_id (by omega) (by omega)]; omega
      rw [guard?_true (room_of (by omega)),hw]
      have hsum:sumI (bl.filter (fun x=>!sEq x.Digest b.Digest))=sumI bl - b.Size:=by
        have:=sumI_parts (fun x=>sEq x.Digest b.Digest) bl
        rw [filter_key h5 hb] at this
        simp only [sumI] at this
        omega
      obtain ⟨n1,n2⟩:=List.nodup_cons.1 h8
      have ih:=space_loop (c0:=c0) (c1:=c1) (most:=most) (ents:=ents) (ls:=ls) rest k (i+1) (bl.filter (fun x=>!sEq x.Digest b.Digest)) (gone++[b.Digest]) (o - b.Size) g2 (by omega) h3 (Nat.le_trans (List.length_filter_le _ _) h4) (h5.filter _) (fun x hx=>h6 x (List.mem_filter.1 hx).1) (fun y hy=>by
        have hyb:=h7 y (by simp [hy])
        refine List.mem_filter.2 ⟨hyb,?_⟩
        cases he:sEq y.Digest b.Digest
        · rfl
        · have:=key_inj (key:=fun x:Blob=>x.Digest) h5 y hyb b hb (sEq_iff.1 he)
          subst this
          exact absurd hy n1) n2 (by omega) (by simp; omega) (by omega)
      rw [ih,List.filter_filter]
      have e1:∀ x:Blob,((!memB ((goN (o - b.Size) rest).map (fun b=>b.Digest)) x.Digest)&&!sEq x.Digest b.Digest)=!memB (((b::goN (o - b.Size) rest)).map (fun b=>b.Digest)) x.Digest:=by
        intro x
        rw [List.map_cons]
        unfold memB
        rw [List.any_cons,Bool.not_or,Bool.and_comm]
        congr 2
        by_cases hx:b.Digest=x.Digest
        · rw [hx,sEq_self]; simp
        · rw [decide_eq_false hx]
          cases he:sEq x.Digest b.Digest
          · rfl
          · exact absurd (sEq_iff.1 he).symm hx
      simp only [e1]
      simp
theorem stay_loop {c:Cache} {most t:Int} (hs:okSz c.Blobs) (hlen:c.Blobs.length≤3000):∀ (l:List Blob) (k v:Nat) (s:Int),c.Blobs.drop v=l→v≤c.Blobs.length→0≤s→s≤(v:Int)*100000000→l.length<k →
    smithyardref7_space_2.l4 smithyardref7_space_2.e1 k c most t s (v:Int)=smithyardref7_space_2.e1 c most t (s+sumI (l.filter (fun b=>heldB b t))):=by
  intro l
  induction l with
  | nil =>
    intro k v s h1 h2 h3 h4 h5
    obtain ⟨k,rfl⟩:∃ m,k=m+1:=⟨k - 1,by omega⟩
    have hv:c.Blobs.length≤v:=List.drop_eq_nil_iff.1 h1
    rw [smithyardref7_space_2.l4,decide_eq_false (by omega)]
    simp [sumI]
  | cons b l ih =>
    intro k v s h1 h2 h3 h4 h5
    simp only [List.length_cons] at h5
    obtain ⟨k,rfl⟩:∃ m,k=m+1:=⟨k - 1,by omega⟩
    have hv:v<c.Blobs.length:=by
      rcases Nat.lt_or_ge v c.Blobs.length with h | h
      · exact h
      · rw [List.drop_eq_nil_of_le h] at h1; cases h1
    rw [List.drop_eq_getElem_cons hv] at h1
    injection h1 with g1 g2
    have hsz:=hs _ (List.getElem_mem hv)
    rw [g1] at hsz
    have hw:w64 ((v:Int)+1)=((v+1:Nat):Int):=by rw [w64_id (by omega) (by omega)]; omega
    rw [smithyardref7_space_2.l4,decide_eq_true (by omega),at_nat hv,g1]
    simp only [cond_true,Option.bind_some,heldR,smithyardref7_space_2.j5,hw]
    cases hb:heldB b t
    · simp only [cond_false]
      rw [ih k (v+1) s g2 (by omega) h3 (by omega) (by omega),List.filter_cons_of_neg (by simp [hb])]
    · simp only [cond_true]
      rw [w64_id (by omega) (by omega),ih k (v+1) (s+b.Size) g2 (by omega) (by omega) (by omega) (by omega),List.filter_cons_of_pos (by simp [hb])]
      simp only [sumI]
      congr 1
      omega
theorem sum_leaving (c:Cache) (t:Int):sumI (leavingS c t)=sumI c.Blobs - sumI (c.Blobs.filter (fun b=>heldB b t)):=by
  have h1:=sumI_perm (stab_perm (freeS c t))
  have h2:=sumI_parts (fun b=>heldB b t) c.Blobs
  unfold leavingS
  rw [h1]
  unfold freeS
  omega
theorem space_ref {c:Cache} (hl:c.Blobs.length≤3000) (hs:okSz c.Blobs) (hp:c.Blobs.Pairwise (fun a b=>sLt a.Digest b.Digest=true)) (most t:Int):smithyardref7_space_2.f c most t=some (clearS c most t):=by
  unfold smithyardref7_space_2.f
  have h0:=stay_loop (most:=most) (t:=t) hs hl c.Blobs big 0 0 rfl (by omega) (by omega) (by omega) (by unfold big; omega)
  rw [show ((0:Nat):Int)=0 from rfl,Int.zero_add] at h0
  rw [h0]
  unfold smithyardref7_space_2.e1 clearS
  have hd:decide (most<sumI (c.Blobs.filter (fun b=>heldB b t)))=decide (sumI (leavingS c t)<sumI c.Blobs - most):=by
    rw [sum_leaving]
    congr 1
    apply propext
    omega
  rw [hd]
  cases decide (sumI (leavingS c t)<sumI c.Blobs - most)
  · have hr:smithyardref7_row.f (⟨c.Room,c.Lease,c.Blobs,c.Entries⟩:Cache) t=some ((leavingS c t).map (fun b=>b.Digest)):=row_ref (c:=c) hl t
    have hll:=leaving_len c t
    simp only [cond_false,hr,Option.bind_some]
    have hnd:(leavingS c t).Nodup:=(stab_perm (freeS c t)).nodup_iff.2 ((digest_nodup hp).filter _)
    have:=space_loop (c0:=c.Room) (c1:=c.Lease) (most:=most) (ents:=c.Entries) (ls:=leavingS c t) (leavingS c t) big 0 c.Blobs [] (sumI c.Blobs - most) rfl (by omega) (by omega) hl hp hs (fun b hb=>(mem_leaving.1 hb).1) hnd rfl (by simp) (by unfold big; omega)
    rw [show ((0:Nat):Int)=0 from rfl] at this
    rw [this]
    rfl
  · rfl
theorem copied_ref {c:Cache} (hf:Fit c):smithyardref7_copied.f c=some c:=by
  unfold smithyardref7_copied.f
  have hfe:=hf.fe
  rw [guard?_true (room_of (by have:=hf.fb; omega))]
  rw [rangeS_all (xs:=c.Entries) (L:=fun k s v=>smithyardref7_copied.l2 smithyardref7_copied.e1 k c s v) (body:=fun _ x s f=>bif (fun _=>true) x then guard? (room s.length 1 48) (f (s++[id x])) else f s) (e:=fun s=>some (⟨c.Room,c.Lease,c.Blobs,s⟩:Cache)) (by omega) (fun k s v=>by
    simp only [smithyardref7_copied.l2]
    congr 1
    refine bind_at2 (fun x hat hx=>?_)
    simp only [hat,Option.bind_some]
    rw [guard?_true (room_of (by have:=hf.fr x hx; omega))]
    simp only [List.nil_append]
    rfl) []]
  rw [filterLoop c.Entries 0 [] (by simp; omega)]
  have:∀ l:List Entry,l.filter (fun _=>true)=l:=fun l=>by simp
  simp [this]
end Go.Proofs.YtjdnnkdhajhdkaaGreatDoor
