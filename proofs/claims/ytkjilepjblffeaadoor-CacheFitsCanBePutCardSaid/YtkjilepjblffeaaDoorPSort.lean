/- slices.SortStableFunc sorts, and of equals the earlier comes first. -/
import Derived.Test.YtkjilepjblffeaaDoorPShf
set_option linter.unusedVariables false
set_option linter.unusedSimpArgs false
namespace Go.Proofs.YtkjilepjblffeaaDoor
open Go Go.Proofs.YtkjilepjblffeaaDoor.Kit
theorem snoc_cases {α:Type} (l:List α):l=[]∨∃ l' a,l=l'++[a]:=by
  cases h:l.reverse with
  | nil=>exact .inl (by simpa using h)
  | cons x xs=>exact .inr ⟨xs.reverse,x,by have:=congrArg List.reverse h; simpa using this⟩
theorem atSet {α:Type} {xs:List α} {i:Int} {x:α} (h:at? xs i=some x) (j:Nat) (y:α):∃ x',at? (xs.set j y) i=some x':=by
  obtain ⟨h0,h1,h2⟩:=at?_some h
  have hlt:i.toNat<(xs.set j y).length:=by rw [List.length_set]; omega
  exact ⟨_,by unfold at?; rw [if_pos h0,List.getElem?_eq_getElem hlt]⟩
theorem at_nat {α:Type} {xs:List α} {i:Nat} (h:i<xs.length):at? xs (i:Int)=some xs[i]:=by simp [at?,h]
theorem at_app {α:Type} {A B:List α} {x:α} {i:Int} (h:i=(A.length:Int)):at? (A++x::B) i=some x:=by subst h; simp [at?]
theorem mono_split (f:Nat→Bool) (lo:Nat):∀ (n:Nat),(∀ i j,lo≤i→i≤j→j<lo+n→f j=true→f i=true)→∃ p,lo≤p∧p≤lo+n∧(∀ i,lo≤i→i<p→f i=true)∧(∀ i,p≤i→i<lo+n→f i=false)
  | 0,_=>⟨lo,by omega,by omega,fun i _ _=>by omega,fun i _ _=>by omega⟩
  | n+1,h=>by
    obtain ⟨p,h1,h2,h3,h4⟩:=mono_split f lo n (fun i j a b c d=>h i j a b (by omega) d)
    cases hf:f (lo+n)
    · refine ⟨p,h1,by omega,h3,fun i a b=>?_⟩
      by_cases hi:i=lo+n
      · subst hi; exact hf
      · exact h4 i a (by omega)
    · refine ⟨lo+n+1,by omega,by omega,fun i a b=>h i (lo+n) a (by omega) (by omega) hf,fun i a b=>by omega⟩
theorem bsN {β:Type} {E:Int→Option β} {L:Nat→Int→Int→Option β} {lo hi p:Nat} (hp1:lo≤p) (hp2:p≤hi)
    (h1:∀ (k i j:Nat),lo≤i→i<j→j≤hi→(i+j) / 2<p→L (k+1) i j=L k (((i+j) / 2+1:Nat):Int) j) (h2:∀ (k i j:Nat),lo≤i→i<j→j≤hi→p≤(i+j) / 2→L (k+1) i j=L k i (((i+j) / 2:Nat):Int))
    (hE:∀ (k i:Nat),L (k+1) i i=E i) (hb:hi<big):L big lo hi=E p:=by
  have key:∀ (d k i j:Nat),lo≤i→i≤p→p≤j→j≤hi→j - i≤d→d<k→L k i j=E p:=by
    intro d
    induction d with
    | zero =>
      intro k i j a1 a2 a3 a4 a5 a6
      obtain ⟨k,rfl⟩:∃ m,k=m+1:=⟨k - 1,by omega⟩
      have e1:i=p:=by omega
      have e2:j=p:=by omega
      subst e1 e2
      exact hE k _
    | succ d ih =>
      intro k i j a1 a2 a3 a4 a5 a6
      obtain ⟨k,rfl⟩:∃ m,k=m+1:=⟨k - 1,by omega⟩
      by_cases hij:i<j
      · by_cases hc:(i+j) / 2<p
        · rw [h1 k i j a1 hij a4 hc]
          exact ih k _ j (by omega) (by omega) a3 a4 (by omega) (by omega)
        · rw [h2 k i j a1 hij a4 (by omega)]
          exact ih k i _ a1 a2 (by omega) (by omega) (by omega) (by omega)
      · have e1:i=p:=by omega
        have e2:j=p:=by omega
        subst e1 e2
        exact hE k _
  exact key hi big lo hi (Nat.le_refl _) hp1 hp2 (Nat.le_refl _) (by omega) hb
theorem halfN {i j:Nat} (h1:i≤j) (h2:j≤2305843009213693952):w64 (iShr .u64 (IntKind.wrap .u64 (w64 ((i:Int)+(j:Int)))) 1)=(((i+j) / 2:Nat):Int):=by
  rw [half_eq (by omega) (by omega) (by omega)]
  omega
def cap60:Nat:=1152921504606846976
def ltU (a b:Blob):Bool:=decide (a.Used<b.Used)
theorem ltU_swo:Swo ltU:=⟨fun x y h=>by simp [ltU] at *; omega,fun x y z h k=>by simp [ltU] at *; omega⟩
theorem cmpU (x y:Blob):∃ z,cache_leaving_2.f x y=some z∧decide (z<0)=ltU x y:=by
  unfold cache_leaving_2.f cmp_Compare_int.f cmp_isNaN_int.f ltU
  simp only [bne_self_eq_false,Option.bind_some,cond_false]
  by_cases h1:x.Used<y.Used
  · exact ⟨-1,by simp [h1],by simp [h1]⟩
  · by_cases h2:y.Used<x.Used
    · exact ⟨1,by simp [h1,h2],by simp [h1]⟩
    · exact ⟨0,by simp [h1,h2],by simp [h1]⟩
theorem swap_loop {d0:List Blob} {a b n:Nat} (hN:d0.length≤cap60) (hab:a+n≤b) (hb:b+n≤d0.length):∀ (r k i:Nat) (d:List Blob),i+r=n→r<k→Mv d0 d (swp a b i)→∃ e,slices_swapRangeCmpFunc_Blob.l1 k a b n d i=some e∧Mv d0 e (swp a b n)
  | 0,k,i,d,h1,h2,h3=>by
    obtain ⟨k,rfl⟩:∃ m,k=m+1:=⟨k - 1,by omega⟩
    have:i=n:=by omega
    subst this
    exact ⟨d,by simp [slices_swapRangeCmpFunc_Blob.l1],h3⟩
  | r+1,k,i,d,h1,h2,h3=>by
    obtain ⟨k,rfl⟩:∃ m,k=m+1:=⟨k - 1,by omega⟩
    have hl:=h3.1
    unfold cap60 at hN
    have w1:w64 ((b:Int)+(i:Int))=((b+i:Nat):Int):=by rw [w64_id (by omega) (by omega)]; omega
    have w2:w64 ((a:Int)+(i:Int))=((a+i:Nat):Int):=by rw [w64_id (by omega) (by omega)]; omega
    have w3:w64 ((i:Int)+1)=((i+1:Nat):Int):=by rw [w64_id (by omega) (by omega)]; omega
    have hx1:=at_nat (xs:=d) (i:=b+i) (by omega)
    have hx2:=at_nat (xs:=d) (i:=a+i) (by omega)
    obtain ⟨x3,hx3⟩:=atSet hx1 (a+i) d[b+i]
    have g1:d[a+i]? = some d[a+i]:=List.getElem?_eq_getElem (by omega)
    have g2:d[b+i]? = some d[b+i]:=List.getElem?_eq_getElem (by omega)
    have hm:=(h3.then (Mv.swap g1 g2)).of (fun q=>swp_step (by omega))
    obtain ⟨e,he,hme⟩:=swap_loop hN hab hb r k (i+1) _ (by omega) (by omega) hm
    refine ⟨e,?_,hme⟩
    rw [slices_swapRangeCmpFunc_Blob.l1,decide_eq_true (by omega),w1,w2,w3,hx1,hx2]
    simp only [cond_true,Option.bind_some,Int.toNat_natCast,hx3]
    exact he
theorem swapR {d:List Blob} {a b n:Nat} (hN:d.length≤cap60) (hab:a+n≤b) (hb:b+n≤d.length):∃ e,slices_swapRangeCmpFunc_Blob.f d a b n=some e∧Mv d e (swp a b n):=by
  unfold slices_swapRangeCmpFunc_Blob.f
  refine swap_loop hN hab hb n big 0 d (by omega) (by unfold big; unfold cap60 at hN; omega) ((Mv.refl d).of (fun k=>?_))
  unfold swp
  rw [if_neg (by omega),if_neg (by omega)]
theorem rot_loop:∀ (s k p q m:Nat) (d:List Blob),p+q≤s→0<p→0<q→p≤m→m+q≤d.length→d.length≤cap60→s<k→∃ e,slices_rotateCmpFunc_Blob.l2 slices_rotateCmpFunc_Blob.e1 k m d p q=some e∧Mv d e (rotx (m - p) p q)
  | 0,k,p,q,m,d,h1,h2,h3,_,_,_,_=>by omega
  | s+1,k,p,q,m,d,h1,h2,h3,h4,h5,h6,h7=>by
    obtain ⟨k,rfl⟩:∃ m,k=m+1:=⟨k - 1,by omega⟩
    have h6':d.length≤1152921504606846976:=h6
    have w1:w64 ((m:Int) - (p:Int))=((m - p:Nat):Int):=by rw [w64_id (by omega) (by omega)]; omega
    have w2:w64 ((w64 ((m:Int)+(q:Int))) - (p:Int))=((m+q - p:Nat):Int):=by rw [w64_id (n:=(m:Int)+(q:Int)) (by omega) (by omega),w64_id (by omega) (by omega)]; omega
    rw [slices_rotateCmpFunc_Blob.l2]
    by_cases he:p=q
    · subst he
      obtain ⟨e,e1,e2⟩:=swapR (d:=d) (a:=m - p) (b:=m) (n:=p) h6 (by omega) (by omega)
      refine ⟨e,?_,e2.of (fun i=>?_)⟩
      · simp only [bne_self_eq_false,cond_false,slices_rotateCmpFunc_Blob.e1,w1,e1,Option.bind_some]
      · rw [← rotx_eq,show m - p+p=m by omega]
    · have hb:((p:Int) != (q:Int))=true:=by simp; omega
      rw [hb]
      by_cases hlt:q<p
      · have w3:w64 ((p:Int) - (q:Int))=((p - q:Nat):Int):=by rw [w64_id (by omega) (by omega)]; omega
        obtain ⟨e1,f1,f2⟩:=swapR (d:=d) (a:=m - p) (b:=m) (n:=q) h6 (by omega) (by omega)
        obtain ⟨e,g1,g2⟩:=rot_loop s k (p - q) q m e1 (by omega) (by omega) h3 (by omega) (by rw [f2.1]; exact h5) (by rw [f2.1]; exact h6) (by omega)
        refine ⟨e,?_,(f2.then g2).of ?_⟩
        · rw [decide_eq_true (show (q:Int)<(p:Int) by omega)]
          simp only [cond_true,w1,f1,Option.bind_some,w3]
          exact g1
        · intro i
          have:=rotx_big (a:=m - p) (p:=p) (q:=q) (k:=i) hlt
          rw [show m - p+p=m by omega,show m - p+q=m - (p - q) by omega] at this
          exact this
      · have w3:w64 ((q:Int) - (p:Int))=((q - p:Nat):Int):=by rw [w64_id (by omega) (by omega)]; omega
        obtain ⟨e1,f1,f2⟩:=swapR (d:=d) (a:=m - p) (b:=m+q - p) (n:=p) h6 (by omega) (by omega)
        obtain ⟨e,g1,g2⟩:=rot_loop s k p (q - p) m e1 (by omega) h2 (by omega) h4 (by rw [f2.1]; omega) (by rw [f2.1]; exact h6) (by omega)
        refine ⟨e,?_,(f2.then g2).of ?_⟩
        · rw [decide_eq_false (show ¬ (q:Int)<(p:Int) by omega)]
          simp only [cond_true,cond_false,w1,w2,f1,Option.bind_some,w3]
          exact g1
        · intro i
          have:=rotx_small (a:=m - p) (p:=p) (q:=q) (k:=i) (by omega)
          rw [show m - p+q=m+q - p by omega] at this
          exact this
theorem rot_list {A X Y B:List Blob} (hX:X≠[]) (hY:Y≠[]) (hN:(A++(X++(Y++B))).length≤cap60):slices_rotateCmpFunc_Blob.f (A++(X++(Y++B))) (A.length:Int) ((A.length+X.length:Nat):Int) ((A.length+X.length+Y.length:Nat):Int)=some (A++(Y++(X++B))):=by
  have hx:=List.length_pos_iff.2 hX
  have hy:=List.length_pos_iff.2 hY
  have hN':(A++(X++(Y++B))).length≤1152921504606846976:=hN
  simp only [List.length_append] at hN'
  unfold slices_rotateCmpFunc_Blob.f
  have w1:w64 (((A.length+X.length:Nat):Int) - (A.length:Int))=(X.length:Int):=by rw [w64_id (by omega) (by omega)]; omega
  have w2:w64 (((A.length+X.length+Y.length:Nat):Int) - ((A.length+X.length:Nat):Int))=(Y.length:Int):=by rw [w64_id (by omega) (by omega)]; omega
  rw [w1,w2]
  obtain ⟨e,h1,h2⟩:=rot_loop (X.length+Y.length) big X.length Y.length (A.length+X.length) (A++(X++(Y++B))) (Nat.le_refl _) hx hy (by omega) (by simp only [List.length_append]; omega) hN (by unfold big; omega)
  rw [h1]
  rw [show A.length+X.length - X.length=A.length by omega] at h2
  rw [h2.rot]
theorem set_two {α:Type} (P T:List α) (z x:α):((P++z::x::T).set (P.length+1) z).set P.length x=P++x::z::T:=by
  simp [List.set_append]
theorem ins_inner {e2:Int→Int→Int→List Blob→Option (List Blob)} {A R:List Blob} {x:Blob} {a b i:Int} (ha:a=(A.length:Int)):∀ (s k:Nat) (S1 S2:List Blob),S1.length=s→s<k→(A.length+S1.length:Nat)≤cap60→Srt ltU (S1++S2)→(∀ y∈S2,ltU x y=true) →
    slices_insertionSortCmpFunc_Blob.l3 e2 k a b i (A++(S1++x::(S2++R))) ((A.length+S1.length:Nat):Int)=e2 a b i (A++(mrg ltU (S1++S2) [x]++R))
  | s,k,S1,S2,h1,h2,h3,h4,h5=>by
    obtain ⟨k,rfl⟩:∃ m,k=m+1:=⟨k - 1,by omega⟩
    rcases snoc_cases S1 with rfl | ⟨S1',z,rfl⟩
    · subst ha
      rw [slices_insertionSortCmpFunc_Blob.l3,decide_eq_false (by simp)]
      simp only [cond_false,Option.bind_some,List.nil_append]
      have:=mrg_one_r (lt:=ltU) (y:=x) (L1:=[]) (L2:=S2) (fun _ h=>by cases h) h5
      rw [List.nil_append] at this
      rw [this]
      simp
    · simp only [List.length_append,List.length_cons,List.length_nil] at h1 h3 ⊢
      have h3':A.length+(S1'.length+(0+1))≤1152921504606846976:=h3
      have e0:A++(S1'++[z]++x::(S2++R))=(A++S1')++z::x::(S2++R):=by simp
      have w1:w64 (((A.length+(S1'.length+(0+1)):Nat):Int) - 1)=((A.length+S1'.length:Nat):Int):=by rw [w64_id (by omega) (by omega)]; omega
      have g1:at? (A++(S1'++[z]++x::(S2++R))) ((A.length+(S1'.length+(0+1)):Nat):Int)=some x:=by
        rw [show A++(S1'++[z]++x::(S2++R))=(A++(S1'++[z]))++x::(S2++R) by simp]
        exact at_app (by simp)
      have g2:at? (A++(S1'++[z]++x::(S2++R))) ((A.length+S1'.length:Nat):Int)=some z:=by
        rw [e0]
        exact at_app (by simp)
      obtain ⟨c,hc1,hc2⟩:=cmpU x z
      rw [slices_insertionSortCmpFunc_Blob.l3,decide_eq_true (by omega),w1,g1,g2]
      simp only [cond_true,Option.bind_some,hc1,hc2]
      cases hlt:ltU x z
      · simp only [cond_false]
        have hs1:∀ y∈S1'++[z],ltU x y=false:=by
          intro y hy
          rw [List.append_assoc] at h4
          rcases List.mem_append.1 hy with hy | hy
          · have:=(List.pairwise_append.1 h4).2.2 y hy z (by simp)
            exact ltU_swo.neg _ _ _ hlt this
          · simp at hy; subst hy; exact hlt
        rw [mrg_one_r (lt:=ltU) hs1 h5]
        simp
      · simp only [cond_true,Int.toNat_natCast]
        obtain ⟨x5,hx5⟩:=atSet g2 (A.length+(S1'.length+(0+1))) z
        rw [hx5]
        simp only [Option.bind_some]
        have hset:=set_two (A++S1') (S2++R) z x
        rw [e0,show A.length+(S1'.length+(0+1))=(A++S1').length+1 by simp; omega,show A.length+S1'.length=(A++S1').length by simp,hset]
        have hsz:S1'.length<s:=by omega
        have ih:=ins_inner (e2:=e2) (R:=R) (b:=b) (i:=i) ha S1'.length k S1' (z::S2) rfl (by omega) (by unfold cap60; omega) (by rw [List.append_assoc] at h4; exact h4) (fun y hy=>by
          rcases List.mem_cons.1 hy with rfl | hy
          · exact hlt
          · exact h5 y hy)
        rw [show (A++S1').length=A.length+S1'.length by simp]
        rw [show A++S1'++x::z::(S2++R)=A++(S1'++x::(z::S2++R)) by simp]
        rw [ih]
        simp
termination_by s=>s
theorem ins_outer {A B:List Blob} {a b:Int} (ha:a=(A.length:Int)):∀ (Rr:List Blob) (k:Nat) (S:List Blob),Rr.length<k→(A.length+S.length+Rr.length:Nat)≤cap60→b=((A.length+S.length+Rr.length:Nat):Int) →
    slices_insertionSortCmpFunc_Blob.l1 k a b (A++(stab ltU S++(Rr++B))) ((A.length+S.length:Nat):Int)=some (A++(stab ltU (S++Rr)++B))
  | [],k,S,h1,h2,hb=>by
    obtain ⟨k,rfl⟩:∃ m,k=m+1:=⟨k - 1,by omega⟩
    rw [slices_insertionSortCmpFunc_Blob.l1,decide_eq_false (by rw [hb]; simp)]
    simp
  | x::Rr,k,S,h1,h2,hb=>by
    simp only [List.length_cons] at h1 h2 hb
    have h2':A.length+S.length+(Rr.length+1)≤1152921504606846976:=h2
    obtain ⟨k,rfl⟩:∃ m,k=m+1:=⟨k - 1,by omega⟩
    rw [slices_insertionSortCmpFunc_Blob.l1,decide_eq_true (by omega)]
    simp only [cond_true]
    have hi:=ins_inner (e2:=slices_insertionSortCmpFunc_Blob.e2 (slices_insertionSortCmpFunc_Blob.l1 k)) (A:=A) (R:=Rr++B) (x:=x) (a:=a) (b:=b) (i:=((A.length+S.length:Nat):Int)) ha S.length big (stab ltU S) [] (stab_len ltU_swo S) (by unfold big; omega) (by rw [stab_len ltU_swo]; unfold cap60; omega) (by rw [List.append_nil]; exact stab_sorted ltU_swo S) (fun y hy=>by cases hy)
    rw [stab_len ltU_swo,List.append_nil,List.nil_append] at hi
    rw [List.cons_append,hi]
    unfold slices_insertionSortCmpFunc_Blob.e2
    have w1:w64 (((A.length+S.length:Nat):Int)+1)=((A.length+(S++[x]).length:Nat):Int):=by rw [w64_id (by omega) (by omega)]; simp; omega
    rw [w1,← stab_snoc]
    have:=ins_outer (b:=b) (B:=B) ha Rr k (S++[x]) (by omega) (by simp; unfold cap60; omega) (by rw [hb]; simp; omega)
    rw [this]
    simp
theorem ins_list {A X B:List Blob} (h:(A.length+X.length:Nat)≤cap60):slices_insertionSortCmpFunc_Blob.f (A++(X++B)) (A.length:Int) ((A.length+X.length:Nat):Int)=some (A++(stab ltU X++B)):=by
  unfold slices_insertionSortCmpFunc_Blob.f
  have h':A.length+X.length≤1152921504606846976:=h
  have w1:w64 ((A.length:Int)+1)=((A.length+1:Nat):Int):=by rw [w64_id (by omega) (by omega)]; omega
  rw [w1]
  cases X with
  | nil =>
    have:big=(big - 1)+1:=by unfold big; omega
    rw [this,slices_insertionSortCmpFunc_Blob.l1,decide_eq_false (by simp; omega)]
    simp [stab]
  | cons x X =>
    have:=ins_outer (A:=A) (B:=B) (a:=(A.length:Int)) (b:=((A.length+(x::X).length:Nat):Int)) rfl X big [x] (by unfold big; simp at h'; omega) (by simp at h' ⊢; unfold cap60; omega) (by simp; omega)
    rw [show stab ltU [x]=[x] by simp [stab,nil_mrg]] at this
    simp only [List.length_cons,List.length_nil] at this ⊢
    exact this
end Go.Proofs.YtkjilepjblffeaaDoor
