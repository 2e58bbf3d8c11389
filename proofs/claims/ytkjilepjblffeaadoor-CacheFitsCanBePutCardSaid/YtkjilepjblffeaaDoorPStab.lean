/- slices.SortStableFunc: merging in place, and the whole. -/
import Derived.Test.YtkjilepjblffeaaDoorPSort
set_option linter.unusedVariables false
set_option linter.unusedSimpArgs false
namespace Go.Proofs.YtkjilepjblffeaaDoor
open Go Go.Proofs.YtkjilepjblffeaaDoor.Kit
theorem fwd_loop {d0:List Blob} {a i:Nat} (hN:d0.length≤cap60) (hi:i≤d0.length) (ha:a<i):∀ (r k t:Nat) (d:List Blob),a+t+1+r=i→r<k→Mv d0 d (shf a t)→∃ e,slices_symMergeCmpFunc_Blob.l2 k i d ((a+t:Nat):Int)=some e∧Mv d0 e (shf a (i - 1 - a))
  | 0,k,t,d,h1,h2,h3=>by
    obtain ⟨k,rfl⟩:∃ m,k=m+1:=⟨k - 1,by omega⟩
    have hN':d0.length≤1152921504606846976:=hN
    have w1:w64 ((i:Int) - 1)=((i - 1:Nat):Int):=by rw [w64_id (by omega) (by omega)]; omega
    refine ⟨d,?_,?_⟩
    · rw [slices_symMergeCmpFunc_Blob.l2,w1,decide_eq_false (by omega)]
      rfl
    · rw [show i - 1 - a=t by omega]
      exact h3
  | r+1,k,t,d,h1,h2,h3=>by
    obtain ⟨k,rfl⟩:∃ m,k=m+1:=⟨k - 1,by omega⟩
    have hN':d0.length≤1152921504606846976:=hN
    have hl:=h3.1
    have w1:w64 ((i:Int) - 1)=((i - 1:Nat):Int):=by rw [w64_id (by omega) (by omega)]; omega
    have w2:w64 (((a+t:Nat):Int)+1)=((a+t+1:Nat):Int):=by rw [w64_id (by omega) (by omega)]; omega
    have hx1:=at_nat (xs:=d) (i:=a+t+1) (by omega)
    have hx2:=at_nat (xs:=d) (i:=a+t) (by omega)
    obtain ⟨x3,hx3⟩:=atSet hx1 (a+t) d[a+t+1]
    have g1:d[a+t]? = some d[a+t]:=List.getElem?_eq_getElem (by omega)
    have g2:d[a+t+1]? = some d[a+t+1]:=List.getElem?_eq_getElem (by omega)
    have hm:=(h3.then (Mv.swap g1 g2)).of (fun q=>shf_step)
    obtain ⟨e,he,hme⟩:=fwd_loop hN hi ha r k (t+1) _ (by omega) (by omega) hm
    refine ⟨e,?_,hme⟩
    rw [slices_symMergeCmpFunc_Blob.l2,w1,decide_eq_true (by omega),w2,hx1,hx2]
    simp only [cond_true,Option.bind_some,Int.toNat_natCast,hx3]
    exact he
theorem bwd_loop {d0:List Blob} {m i:Nat} (hN:d0.length≤cap60) (hm:m<d0.length) (hi:i≤m):∀ (r k t:Nat) (d:List Blob),i+r+t=m→r<k→Mv d0 d (shb m t)→∃ e,slices_symMergeCmpFunc_Blob.l5 k i d ((m - t:Nat):Int)=some e∧Mv d0 e (shb m (m - i))
  | 0,k,t,d,h1,h2,h3=>by
    obtain ⟨k,rfl⟩:∃ m,k=m+1:=⟨k - 1,by omega⟩
    refine ⟨d,?_,?_⟩
    · rw [slices_symMergeCmpFunc_Blob.l5,decide_eq_false (by omega)]
      rfl
    · rw [show m - i=t by omega]
      exact h3
  | r+1,k,t,d,h1,h2,h3=>by
    obtain ⟨k,rfl⟩:∃ m,k=m+1:=⟨k - 1,by omega⟩
    have hN':d0.length≤1152921504606846976:=hN
    have hl:=h3.1
    have w1:w64 (((m - t:Nat):Int) - 1)=((m - t - 1:Nat):Int):=by rw [w64_id (by omega) (by omega)]; omega
    have hx1:=at_nat (xs:=d) (i:=m - t - 1) (by omega)
    have hx2:=at_nat (xs:=d) (i:=m - t) (by omega)
    obtain ⟨x3,hx3⟩:=atSet hx1 (m - t) d[m - t - 1]
    have g1:d[m - t]? = some d[m - t]:=List.getElem?_eq_getElem (by omega)
    have g2:d[m - t - 1]? = some d[m - t - 1]:=List.getElem?_eq_getElem (by omega)
    have hm':=(h3.then (Mv.swap g1 g2)).of (fun q=>shb_step (by omega))
    obtain ⟨e,he,hme⟩:=bwd_loop hN hm hi r k (t+1) _ (by omega) (by omega) hm'
    refine ⟨e,?_,hme⟩
    rw [slices_symMergeCmpFunc_Blob.l5,decide_eq_true (by omega),w1,hx1,hx2]
    simp only [cond_true,Option.bind_some,Int.toNat_natCast,hx3]
    rw [show m - t - 1=m - (t+1) by omega] at *
    exact he
theorem srt_get {l:List Blob} (h:Srt ltU l) {i j:Nat} (hj:j<l.length) (hij:i≤j):ltU l[j] (l[i]'(by omega))=false:=by
  rcases Nat.lt_or_ge i j with h1 | h1
  · exact List.pairwise_iff_getElem.1 h i j (by omega) hj h1
  · have:i=j:=by omega
    subst this
    cases hc:ltU l[i] l[i]
    · rfl
    · have:=ltU_swo.asym _ _ hc
      rw [hc] at this
      cases this
theorem mem_take_get {α:Type} {l:List α} {n:Nat} {x:α} (h:x∈l.take n):∃ i,∃ (hi:i<l.length),i<n∧x=l[i]:=by
  obtain ⟨i,hi,rfl⟩:=List.getElem_of_mem h
  simp only [List.length_take] at hi
  exact ⟨i,by omega,by omega,by simp⟩
theorem mem_drop_get {α:Type} {l:List α} {n:Nat} {x:α} (h:x∈l.drop n):∃ i,∃ (hi:i<l.length),n≤i∧x=l[i]:=by
  obtain ⟨i,hi,rfl⟩:=List.getElem_of_mem h
  simp only [List.length_drop] at hi
  exact ⟨n+i,by omega,by omega,by simp⟩
theorem sm_left {A R B:List Blob} {x:Blob} (hR:Srt ltU R) (hN:(A++(x::(R++B))).length≤cap60) :
    slices_symMergeCmpFunc_Blob.l3 slices_symMergeCmpFunc_Blob.e1 big (A++(x::(R++B))) (A.length:Int) ((A.length+1:Nat):Int) ((A.length+1+R.length:Nat):Int)=some (A++(mrg ltU [x] R++B)):=by
  have hN':(A++(x::(R++B))).length≤1152921504606846976:=hN
  simp only [List.length_append,List.length_cons] at hN'
  obtain ⟨p,p1,p2,p3,p4⟩:=mono_split (fun i=>match R[i]? with | some y=>ltU y x | none=>false) 0 R.length (fun i j _ hij hj h=>by
    rw [List.getElem?_eq_getElem (by omega)] at h ⊢
    simp only at h ⊢
    exact ltU_swo.lt_of_le_lt (srt_get hR (by omega) hij) h)
  rw [Nat.zero_add] at p2 p4
  have hat:∀ h:Nat,A.length+1≤h→∀ (hh:h - (A.length+1)<R.length),at? (A++(x::(R++B))) (h:Int)=some R[h - (A.length+1)]:=by
    intro h h1 h2
    have e:A++(x::(R++B))=(A++[x])++(R++B):=by simp
    have hlt:h<(A++(x::(R++B))).length:=by simp; omega
    rw [at_nat hlt]
    congr 1
    simp only [e]
    rw [List.getElem_append_right (by simp; omega),List.getElem_append_left (by simp; omega)]
    simp
  have hax:at? (A++(x::(R++B))) (A.length:Int)=some x:=at_app rfl
  rw [bsN (L:=fun k i j=>slices_symMergeCmpFunc_Blob.l3 slices_symMergeCmpFunc_Blob.e1 k (A++(x::(R++B))) (A.length:Int) i j) (E:=fun i=>slices_symMergeCmpFunc_Blob.e1 (A++(x::(R++B))) (A.length:Int) i) (p:=A.length+1+p) (by omega) (by omega) ?_ ?_ ?_ (by unfold big; omega)]
  · -- the element goes on
    unfold slices_symMergeCmpFunc_Blob.e1
    obtain ⟨e,h1,h2⟩:=fwd_loop (d0:=A++(x::(R++B))) (a:=A.length) (i:=A.length+1+p) hN (by simp; omega) (by omega) p big 0 _ (by omega) (by unfold big; omega) ((Mv.refl _).of (fun k=>by unfold shf; split <;> (try split) <;> omega))
    simp only [Nat.add_zero] at h1
    rw [h1]
    rw [show A.length+1+p - 1 - A.length=p by omega] at h2
    have h3:=h2.of (fun k=>shf_rot)
    have e0:A++(x::(R++B))=A++([x]++(R.take p++(R.drop p++B))):=by
      rw [← List.append_assoc (R.take p),List.take_append_drop]; rfl
    rw [e0] at h3
    have h4:=Mv.rot (A:=A) (X:=[x]) (Y:=R.take p) (B:=R.drop p++B) (e:=e) (by rw [List.length_take,Nat.min_eq_left p2]; exact h3)
    rw [h4]
    have:=mrg_one_l (lt:=ltU) (x:=x) (R1:=R.take p) (R2:=R.drop p) (fun y hy=>by
      obtain ⟨i,hi,hip,rfl⟩:=mem_take_get hy
      have:=p3 i (by omega) hip
      rw [List.getElem?_eq_getElem hi] at this
      exact this) (fun y hy=>by
      obtain ⟨i,hi,hip,rfl⟩:=mem_drop_get hy
      have:=p4 i hip hi
      rw [List.getElem?_eq_getElem hi] at this
      exact this)
    rw [List.take_append_drop] at this
    rw [this]
    simp
  · intro k i j a1 a2 a3 a4
    obtain ⟨c,hc1,hc2⟩:=cmpU (R[(i+j) / 2 - (A.length+1)]'(by omega)) x
    have hlt:ltU (R[(i+j) / 2 - (A.length+1)]'(by omega)) x=true:=by
      have:=p3 ((i+j) / 2 - (A.length+1)) (by omega) (by omega)
      rw [List.getElem?_eq_getElem (by omega)] at this
      exact this
    simp only [slices_symMergeCmpFunc_Blob.l3]
    rw [decide_eq_true (by omega),halfN (by omega) (by omega),hat _ (by omega) (by omega),hax]
    simp only [cond_true,Option.bind_some,hc1,hc2,hlt]
    rw [show w64 ((((i+j) / 2:Nat):Int)+1)=(((i+j) / 2+1:Nat):Int) by rw [w64_id (by omega) (by omega)]; omega]
  · intro k i j a1 a2 a3 a4
    obtain ⟨c,hc1,hc2⟩:=cmpU (R[(i+j) / 2 - (A.length+1)]'(by omega)) x
    have hlt:ltU (R[(i+j) / 2 - (A.length+1)]'(by omega)) x=false:=by
      have:=p4 ((i+j) / 2 - (A.length+1)) (by omega) (by omega)
      rw [List.getElem?_eq_getElem (by omega)] at this
      exact this
    simp only [slices_symMergeCmpFunc_Blob.l3]
    rw [decide_eq_true (by omega),halfN (by omega) (by omega),hat _ (by omega) (by omega),hax]
    simp only [cond_true,Option.bind_some,hc1,hc2,hlt,cond_false]
  · intro k i
    simp only [slices_symMergeCmpFunc_Blob.l3]
    rw [decide_eq_false (by omega)]
    rfl
theorem sm_right {A L B:List Blob} {y:Blob} (hL:Srt ltU L) (hN:(A++(L++(y::B))).length≤cap60) :
    slices_symMergeCmpFunc_Blob.l6 slices_symMergeCmpFunc_Blob.e4 big (A++(L++(y::B))) ((A.length+L.length:Nat):Int) (A.length:Int) ((A.length+L.length:Nat):Int)=some (A++(mrg ltU L [y]++B)):=by
  have hN':(A++(L++(y::B))).length≤1152921504606846976:=hN
  simp only [List.length_append,List.length_cons] at hN'
  obtain ⟨p,p1,p2,p3,p4⟩:=mono_split (fun i=>match L[i]? with | some x=>!ltU y x | none=>false) 0 L.length (fun i j _ hij hj h=>by
    rw [List.getElem?_eq_getElem (by omega)] at h ⊢
    simp only [Bool.not_eq_true'] at h ⊢
    cases hc:ltU y L[i]
    · rfl
    · rw [ltU_swo.lt_of_lt_le hc (srt_get hL (show j<L.length by omega) hij)] at h
      cases h)
  rw [Nat.zero_add] at p2 p4
  have hat:∀ h:Nat,A.length≤h→∀ (hh:h - A.length<L.length),at? (A++(L++(y::B))) (h:Int)=some L[h - A.length]:=by
    intro h h1 h2
    have hlt:h<(A++(L++(y::B))).length:=by simp; omega
    rw [at_nat hlt]
    congr 1
    rw [List.getElem_append_right (by omega),List.getElem_append_left (by omega)]
  have hay:at? (A++(L++(y::B))) ((A.length+L.length:Nat):Int)=some y:=by
    rw [← List.append_assoc]
    exact at_app (by simp)
  rw [bsN (L:=fun k i j=>slices_symMergeCmpFunc_Blob.l6 slices_symMergeCmpFunc_Blob.e4 k (A++(L++(y::B))) ((A.length+L.length:Nat):Int) i j) (E:=fun i=>slices_symMergeCmpFunc_Blob.e4 (A++(L++(y::B))) ((A.length+L.length:Nat):Int) i) (p:=A.length+p) (by omega) (by omega) ?_ ?_ ?_ (by unfold big; omega)]
  · unfold slices_symMergeCmpFunc_Blob.e4
    obtain ⟨e,h1,h2⟩:=bwd_loop (d0:=A++(L++(y::B))) (m:=A.length+L.length) (i:=A.length+p) hN (by simp only [List.length_append,List.length_cons]; omega) (by omega) (L.length - p) big 0 _ (by omega) (by unfold big; omega) ((Mv.refl _).of (fun k=>by unfold shb; split <;> (try split) <;> omega))
    rw [Nat.sub_zero] at h1
    rw [h1]
    rw [show A.length+L.length - (A.length+p)=L.length - p by omega] at h2
    have h3:=h2.of (fun k=>(by rw [← shb_rot (a:=A.length+p) (t:=L.length - p),show A.length+p+(L.length - p)=A.length+L.length by omega]:shb (A.length+L.length) (L.length - p) k=rotx (A.length+p) (L.length - p) 1 k))
    have e0:A++(L++(y::B))=(A++L.take p)++(L.drop p++([y]++B)):=by
      rw [List.append_assoc,← List.append_assoc (L.take p),List.take_append_drop]; rfl
    rw [e0] at h3
    have h4:=Mv.rot (A:=A++L.take p) (X:=L.drop p) (Y:=[y]) (B:=B) (e:=e) (by rw [List.length_append,List.length_take,Nat.min_eq_left p2,List.length_drop]; exact h3)
    rw [h4]
    have:=mrg_one_r (lt:=ltU) (y:=y) (L1:=L.take p) (L2:=L.drop p) (fun x hx=>by
      obtain ⟨i,hi,hip,rfl⟩:=mem_take_get hx
      have:=p3 i (by omega) hip
      rw [List.getElem?_eq_getElem hi] at this
      simpa using this) (fun x hx=>by
      obtain ⟨i,hi,hip,rfl⟩:=mem_drop_get hx
      have:=p4 i hip hi
      rw [List.getElem?_eq_getElem hi] at this
      simpa using this)
    rw [List.take_append_drop] at this
    rw [this]
    simp
  · intro k i j a1 a2 a3 a4
    obtain ⟨c,hc1,hc2⟩:=cmpU y (L[(i+j) / 2 - A.length]'(by omega))
    have hlt:ltU y (L[(i+j) / 2 - A.length]'(by omega))=false:=by
      have:=p3 ((i+j) / 2 - A.length) (by omega) (by omega)
      rw [List.getElem?_eq_getElem (by omega)] at this
      simpa using this
    simp only [slices_symMergeCmpFunc_Blob.l6]
    rw [decide_eq_true (by omega),halfN (by omega) (by omega),hat ((i+j) / 2) (by omega) (by omega),hay]
    simp only [cond_true,Option.bind_some,hc1,hc2,hlt,Bool.not_false]
    rw [show w64 ((((i+j) / 2:Nat):Int)+1)=(((i+j) / 2+1:Nat):Int) by rw [w64_id (by omega) (by omega)]; omega]
  · intro k i j a1 a2 a3 a4
    obtain ⟨c,hc1,hc2⟩:=cmpU y (L[(i+j) / 2 - A.length]'(by omega))
    have hlt:ltU y (L[(i+j) / 2 - A.length]'(by omega))=true:=by
      have:=p4 ((i+j) / 2 - A.length) (by omega) (by omega)
      rw [List.getElem?_eq_getElem (by omega)] at this
      simpa using this
    simp only [slices_symMergeCmpFunc_Blob.l6]
    rw [decide_eq_true (by omega),halfN (by omega) (by omega),hat ((i+j) / 2) (by omega) (by omega),hay]
    simp only [cond_true,Option.bind_some,hc1,hc2,hlt,Bool.not_true,cond_false]
  · intro k i
    simp only [slices_symMergeCmpFunc_Blob.l6]
    rw [decide_eq_false (by omega)]
    rfl
end Go.Proofs.YtkjilepjblffeaaDoor
