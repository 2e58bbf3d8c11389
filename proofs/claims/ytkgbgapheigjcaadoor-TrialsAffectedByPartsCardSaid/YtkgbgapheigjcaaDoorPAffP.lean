/- Affected on the program's side alone, at lists of whatever size; parts of changes. -/
import Derived.Test.YtkgbgapheigjcaaDoorPAff
set_option linter.unusedVariables false
set_option linter.unusedSimpArgs false
namespace Go.Proofs.YtkgbgapheigjcaaDoor
open Go Go.Proofs.YtkgbgapheigjcaaDoor.Kit
theorem path_small {s:ByteArray} (h:isPathB s=true):s.size≤200:=by
  unfold isPathB at h
  simp only [Bool.and_eq_true,decide_eq_true_eq] at h
  exact h.1.2
theorem checkPaths_prog' {l:List ByteArray} (hl:l.length≤4611686018427387904):trials_checkPaths.f l=cpS l:=by
  unfold trials_checkPaths.f cpS
  refine rangeP_all (L:=fun k v=>trials_checkPaths.l2 trials_checkPaths.e1 k l v) hl (fun k v h0 h1=>?_)
  simp only [trials_checkPaths.l2]
  congr 1
  refine bind_at (fun x hx=>?_)
  rw [isPath_prog x,prev_eq (P:=fun y=>sLt x y||sEq x y) h0 h1 hl]
  simp only [Option.bind_some]
  rfl
theorem checkReads_prog' {l:List TestReads} (hl:l.length≤4611686018427387904) (h:∀ x∈l,x.Paths.length≤2305843009213693952∧x.Looked.length≤2305843009213693952):trials_CheckReads.f l=crS l:=by
  unfold trials_CheckReads.f crS
  congr 1
  refine rangeP_all (L:=fun k v=>trials_CheckReads.l2 trials_CheckReads.e1 k l v) hl (fun k v h0 h1=>?_)
  simp only [trials_CheckReads.l2]
  congr 1
  refine bind_at (fun x hx=>?_)
  obtain ⟨hp1,hk1⟩:=h x hx
  rw [isPath_prog x.Test,orb,checkPaths_prog' (by omega),checkPaths_prog' (by omega),prev_eq (P:=fun y=>sLt x.Test y.Test||sEq x.Test y.Test) h0 h1 hl]
  simp only [Option.bind_some]
  unfold crB
  congr 1
  congr 1
  cases hy:cpS x.Paths with
  | none=>rfl
  | some y2 =>
    simp only [Option.bind_some]
    by_cases h0:y2=0
    · subst h0
      rw [anyIn_prog hp1 hk1 (cp_sorted hy)]
      rfl
    · have:(y2 != 0)=true:=by simpa using h0
      rw [this]
      rfl
theorem cp_each {l:List ByteArray} (h:cpS l=some 0):∀ x∈l,isPathB x=true :=
  (each_of (P:=fun x=>isPathB x=true) (B:=cpB) (fun p x k hk=>by
    unfold cpB at hk
    cases h1:isPathB x
    · rw [h1] at hk; simp at hk
    · rw [h1] at hk
      cases h2:prevB (fun y=>sLt x y||sEq x y) p
      · rw [h2] at hk
        exact ⟨by simpa using hk,rfl⟩
      · rw [h2] at hk; simp at hk) l none h).2
theorem cr_zero {p:Option TestReads} {x:TestReads} {k:Option Int} (hk:crB p x k=some 0):k=some 0∧isPathB x.Test=true∧x.Paths.length≤1000∧x.Looked.length≤1000∧cpS x.Paths=some 0∧cpS x.Looked=some 0∧prevB (fun y=>sLt x.Test y.Test||sEq x.Test y.Test) p=false:=by
  unfold crB at hk
  cases h1:isPathB x.Test
  · rw [h1] at hk; cases hk
  rw [h1] at hk
  simp only [Bool.not_true,cond_false] at hk
  cases h2:(decide (1000<(x.Paths.length:Int))||decide (1000<(x.Looked.length:Int)))
  · rw [h2] at hk
    simp only [Bool.or_eq_false_iff,decide_eq_false_iff_not] at h2
    cases h3:cpS x.Paths with
    | none=>rw [h3] at hk; cases hk
    | some a =>
      rw [h3] at hk
      simp only [cond_false,Option.bind_some] at hk
      by_cases ha:a=0
      · subst ha
        simp only [bne_self_eq_false,cond_false] at hk
        cases h4:cpS x.Looked with
        | none=>rw [h4] at hk; cases hk
        | some b =>
          rw [h4] at hk
          simp only [Option.bind_some] at hk
          by_cases hb:b=0
          · subst hb
            simp only [bne_self_eq_false,cond_false] at hk
            cases h5:x.Looked.any (hasB x.Paths)
            · rw [h5] at hk
              cases h6:prevB (fun y=>sLt x.Test y.Test||sEq x.Test y.Test) p
              · rw [h6] at hk
                exact ⟨hk,rfl,by omega,by omega,rfl,rfl,rfl⟩
              · rw [h6] at hk; cases hk
            · rw [h5] at hk; cases hk
          · have:(b != 0)=true:=by simpa using hb
            rw [this] at hk
            injection hk with hk
            exact absurd hk hb
      · have:(a != 0)=true:=by simpa using ha
        rw [this] at hk
        injection hk with hk
        exact absurd hk ha
  · rw [h2] at hk; cases hk
theorem cr_small {l:List TestReads} (h:crS l=some 0):smallRs l:=by
  unfold crS at h
  by_cases hl:300<(l.length:Int)
  · rw [decide_eq_true hl] at h
    cases h
  · rw [decide_eq_false hl] at h
    refine ⟨by omega,(each_of (P:=smallR) (B:=crB) (fun p x k hk=>?_) l none h).2⟩
    obtain ⟨k0,a,b,c,d,e,_⟩:=cr_zero hk
    have:=path_small a
    exact ⟨k0,by omega,⟨by omega,fun y hy=>by have:=path_small (cp_each d y hy); omega⟩,by omega,fun y hy=>by have:=path_small (cp_each e y hy); omega⟩
theorem cr_sorted {l:List TestReads} (h:crS l=some 0):l.Pairwise (fun a b=>sLt a.Test b.Test=true):=by
  unfold crS at h
  by_cases hl:300<(l.length:Int)
  · rw [decide_eq_true hl] at h
    cases h
  · rw [decide_eq_false hl] at h
    exact (sorted_of (key:=fun x:TestReads=>x.Test) (B:=crB) (fun p x k hk=>by
      obtain ⟨k0,a,b,c,d,e,f⟩:=cr_zero hk
      exact ⟨k0,f⟩) l none h).2.2
theorem changes_prog' {l:List TreeChange} (hl:l.length≤4611686018427387904):trials_changesOf.f l=bif decide (1000<(l.length:Int)) then some (⟨[],[],[]⟩,2) else rangeQ chB (fun m=>some (m,0)) none l ⟨[],[],[]⟩:=by
  unfold trials_changesOf.f
  congr 1
  refine rangeQ_all (L:=fun k (m:trials_changes) v=>trials_changesOf.l2 trials_changesOf.e1 k l m.other m.fresh m.over v) hl (fun k m v h0 h1=>?_) ⟨[],[],[]⟩
  simp only [trials_changesOf.l2]
  congr 1
  refine bind_at (fun x hx=>?_)
  rw [isPath_prog x.Path,within_prog,prev_eq (P:=fun y=>sLt x.Path y.Path||sEq x.Path y.Path) h0 h1 hl]
  simp only [Option.bind_some]
  unfold chB
  cases hp:isPathB x.Path
  · rfl
  have hs:=path_small hp
  have ha:=aboveL_length x.Path
  rw [above_eq x.Path (by omega)]
  simp only [Option.bind_some]
  rw [over_loop _ _ _ _ _ _ (by omega)]
  unfold stepC trials_changesOf.j3
  cases (x.Kind != 1) <;> rfl
theorem affected_prog' {l:List TestReads} {c:List TreeChange} (hl:l.length≤4611686018427387904) (h:∀ x∈l,x.Paths.length≤2305843009213693952∧x.Looked.length≤2305843009213693952) (hc:c.length≤4611686018427387904):trials_Affected.f l c=affS l c:=by
  unfold trials_Affected.f affS
  rw [checkReads_prog' hl h]
  cases hy:crS l with
  | none=>rfl
  | some y1 =>
    simp only [Option.bind_some]
    by_cases h0:y1=0
    · subst h0
      have hsm:=cr_small hy
      have hl2:=hsm.1
      rw [changes_prog' hc]
      simp only [bne_self_eq_false,cond_false]
      unfold ccS
      cases decide (1000<(c.length:Int))
      · simp only [cond_false]
        obtain ⟨m,e,h1,h2,h3⟩:=ch_cc c none ⟨[],[],[]⟩
        rw [h1,h2]
        simp only [Option.bind_some]
        by_cases he:e=0
        · rw [h3 he,he]
          simp only [bne_self_eq_false,cond_false]
          have:=rangeS_all (xs:=l) (L:=fun k s v=>trials_Affected.l2 trials_Affected.e1 k l (c.foldl stepC ⟨[],[],[]⟩,0) s v) (body:=fun _ x s f=>bif affB c x then guard? (room s.length 1 16) (f (s++[x.Test])) else f s) (e:=fun s=>some (s,0)) (by omega) (fun k s v=>by
            simp only [trials_Affected.l2]
            congr 1
            refine bind_at (fun x hx=>?_)
            rw [affects_eq (hsm.2 x hx)]
            rfl) []
          rw [this,filterLoop (c:=affB c) (g:=fun x=>x.Test) (b:=16) l 0 [] (by simp; omega)]
          simp
        · have:(e != 0)=true:=by simpa using he
          rw [this]
          rfl
      · rfl
    · have:(y1 != 0)=true:=by simpa using h0
      rw [this]
      rfl
/-! parts of changes -/
theorem cc_zero {p:Option TreeChange} {x:TreeChange} {k:Option Int} (hk:ccB p x k=some 0):k=some 0∧(isPathB x.Path=true∧(decide (1≤x.Kind)&&decide (x.Kind≤4))=true)∧prevB (fun y=>sLt x.Path y.Path||sEq x.Path y.Path) p=false:=by
  unfold ccB at hk
  cases h1:isPathB x.Path
  · rw [h1] at hk; cases hk
  cases h2:(decide (1≤x.Kind)&&decide (x.Kind≤4))
  · rw [h1,h2] at hk; cases hk
  cases h3:prevB (fun y=>sLt x.Path y.Path||sEq x.Path y.Path) p
  · rw [h1,h2,h3] at hk
    exact ⟨hk,⟨rfl,rfl⟩,rfl⟩
  · rw [h1,h2,h3] at hk; cases hk
theorem cc_back:∀ (l:List TreeChange) (p:Option TreeChange),(∀ x∈l,isPathB x.Path=true∧(decide (1≤x.Kind)&&decide (x.Kind≤4))=true)→l.Pairwise (fun a b=>sLt a.Path b.Path=true)→(∀ y,p=some y→∀ x∈l,sLt y.Path x.Path=true)→rangeP ccB (some 0) p l=some 0
  | [],p,_,_,_=>rfl
  | x::l,p,h1,h2,h3=>by
    obtain ⟨h4,h5⟩:=List.pairwise_cons.1 h2
    have ih:=cc_back l (some x) (fun y hy=>h1 y (by simp [hy])) h5 (fun y hy z hz=>by cases hy; exact h4 z hz)
    show ccB p x (rangeP ccB (some 0) (some x) l)=some 0
    rw [ih]
    obtain ⟨a,b⟩:=h1 x (by simp)
    have c:prevB (fun y=>sLt x.Path y.Path||sEq x.Path y.Path) p=false:=by
      cases p with
      | none=>rfl
      | some y =>
        have hy:=h3 y rfl x (by simp)
        show (sLt x.Path y.Path||sEq x.Path y.Path)=false
        rw [Bool.or_eq_false_iff]
        refine ⟨?_,?_⟩
        · cases hc:sLt x.Path y.Path
          · rfl
          · have:=sLt_trans hc hy
            rw [sLt_irrefl] at this
            cases this
        · rw [sEq_comm]
          exact sLt_ne hy
    unfold ccB
    rw [a,b,c]
    rfl
theorem cc_part {l m:List TreeChange} (h:ccS l=some 0) (hs:m.Sublist l):ccS m=some 0:=by
  unfold ccS at h ⊢
  have hlen:=hs.length_le
  by_cases hl:1000<(l.length:Int)
  · rw [decide_eq_true hl] at h
    cases h
  · rw [decide_eq_false hl] at h
    rw [decide_eq_false (by omega)]
    have h1:=(each_of (P:=fun x=>isPathB x.Path=true∧(decide (1≤x.Kind)&&decide (x.Kind≤4))=true) (B:=ccB) (fun p x k hk=>⟨(cc_zero hk).1,(cc_zero hk).2.1⟩) l none h).2
    have h2:=(sorted_of (key:=fun x:TreeChange=>x.Path) (B:=ccB) (fun p x k hk=>⟨(cc_zero hk).1,(cc_zero hk).2.2⟩) l none h).2.2
    exact cc_back m none (fun x hx=>h1 x (hs.subset hx)) (h2.sublist hs) (fun y hy=>by cases hy)
theorem cpS_some' (l:List ByteArray):∃ r,cpS l=some r:=rangeP_some (fun p x k ⟨r,hk⟩=>by
  unfold cpB
  rw [hk]
  cases isPathB x
  · exact ⟨_,rfl⟩
  · cases prevB (fun y=>sLt x y||sEq x y) p <;> exact ⟨_,rfl⟩) ⟨_,rfl⟩ l none
theorem crS_some' (l:List TestReads):∃ r,crS l=some r:=by
  unfold crS
  cases decide (300<(l.length:Int))
  · refine rangeP_some (fun p x k ⟨r,hk⟩=>?_) ⟨_,rfl⟩ l none
    obtain ⟨a,ha⟩:=cpS_some' x.Paths
    obtain ⟨b,hb⟩:=cpS_some' x.Looked
    unfold crB
    rw [ha,hb,hk]
    simp only [Option.bind_some]
    cases isPathB x.Test
    · exact ⟨_,rfl⟩
    cases (decide (1000<(x.Paths.length:Int))||decide (1000<(x.Looked.length:Int)))
    · cases a != 0
      · cases b != 0
        · cases x.Looked.any (hasB x.Paths)
          · cases prevB (fun y=>sLt x.Test y.Test||sEq x.Test y.Test) p <;> exact ⟨_,rfl⟩
          · exact ⟨_,rfl⟩
        · exact ⟨_,rfl⟩
      · exact ⟨_,rfl⟩
    · exact ⟨_,rfl⟩
  · exact ⟨_,rfl⟩
theorem ccS_some' (l:List TreeChange):∃ r,ccS l=some r:=by
  unfold ccS
  cases decide (1000<(l.length:Int))
  · refine rangeP_some (fun p x k ⟨r,hk⟩=>?_) ⟨_,rfl⟩ l none
    unfold ccB
    rw [hk]
    cases isPathB x.Path
    · exact ⟨_,rfl⟩
    cases (decide (1≤x.Kind)&&decide (x.Kind≤4))
    · exact ⟨_,rfl⟩
    cases prevB (fun y=>sLt x.Path y.Path||sEq x.Path y.Path) p <;> exact ⟨_,rfl⟩
  · exact ⟨_,rfl⟩
end Go.Proofs.YtkgbgapheigjcaaDoor
