/- Runs as the program and the reference check them: the same. -/
import Derived.Test.YtdccapcfbielcaaGreatDoorPW9
set_option linter.unusedVariables false
set_option linter.unusedSimpArgs false
namespace Go.Proofs.YtdccapcfbielcaaGreatDoor
open Go Go.Proofs.YtdccapcfbielcaaGreatDoor.Kit
theorem cmpI_eq (a b:Int):cmp_Compare_int.f a b=some (if a<b then -1 else if b<a then 1 else 0):=by
  unfold cmp_Compare_int.f cmp_isNaN_int.f
  simp only [bne_self_eq_false,Option.bind_some,cond_false]
  by_cases h1:a<b
  · simp [h1]
  · by_cases h2:b<a <;> simp [h1,h2]
theorem or_eq (a b c:Int):cmp_Or_int.f [a,b,c]=some (if a≠0 then a else if b≠0 then b else c):=by
  unfold cmp_Or_int.f
  rw [rangeS_all (S:=Unit) (L:=fun k _ v=>cmp_Or_int.l2 cmp_Or_int.e1 k [a,b,c] v) (body:=fun v x s f=>bif x != 0 then some x else f ()) (e:=fun _=>some 0) (by simp) (fun k s v=>rfl) ()]
  simp only [rangeS]
  by_cases h1:a=0
  · by_cases h2:b=0
    · by_cases h3:c=0
      · simp [h1,h2,h3]
      · have h3':(c != 0)=true:=by simpa using h3
        simp [h1,h2,h3,h3']
    · have h2':(b != 0)=true:=by simpa using h2
      simp [h1,h2,h2']
  · have h1':(a != 0)=true:=by simpa using h1
    simp [h1,h1']
def beforeB (a b:Run):Bool:=if a.From≠b.From then decide (a.From<b.From) else if !sEq a.Id b.Id then sLt a.Id b.Id else sLt a.Worker b.Worker
theorem before_ref (a b:Run):smithyardref9_before.f a b=some (beforeB a b):=by
  unfold smithyardref9_before.f beforeB
  by_cases h1:a.From=b.From
  · have h1':(a.From != b.From)=false:=by simpa using h1
    rw [h1',if_neg (by simpa using h1)]
    cases sEq a.Id b.Id <;> rfl
  · have h1':(a.From != b.From)=true:=by simpa using h1
    rw [h1',if_pos h1]
    rfl
theorem runs_cmp (x p:Run):((workers_compareRuns.f x p).bind fun y=>some (decide (y≤0)))=some (!beforeB p x):=by
  unfold workers_compareRuns.f strings_Compare.f beforeB
  simp only [cmpI_eq,or_eq,Option.bind_some]
  congr 1
  by_cases h1:x.From<p.From
  · have h2:p.From≠x.From:=by omega
    simp [h1,h2]
    omega
  · by_cases h2:p.From<x.From
    · have h3:p.From≠x.From:=by omega
      simp [h1,h2,h3]
    · have h3:p.From=x.From:=by omega
      have h0:¬ ((0:Int)≠0):=by simp
      rw [if_neg h1,if_neg h2,if_neg h0,if_neg (show ¬ p.From≠x.From by simpa using h3)]
      by_cases h4:Lib.compareBytes x.Id.data.toList p.Id.data.toList=0
      · have h5:=(cmpB_zero _ _).1 h4
        have h6:sEq p.Id x.Id=true:=by rw [sEq_data,h5]; simp
        rw [if_neg (by simp [h4]),h6,cmpB_le,sLt_data p.Worker]
        rfl
      · have h5:¬ (p.Id.data.toList=x.Id.data.toList):=fun h=>h4 ((cmpB_zero _ _).2 h.symm)
        have h6:sEq p.Id x.Id=false:=by rw [sEq_data]; exact decide_eq_false h5
        rw [if_pos h4,h6,cmpB_le,sLt_data p.Id]
        rfl
def runsB (p:Option Run) (x:Run) (k:Option Int):Option Int :=
  bif !isWordB x.Id||!isWordB x.Worker then some 5 else bif !inR 0 1000000000 x.From||!inR 0 1000000000 x.To then some 1 else bif decide (x.To<x.From) then some 8 else bif !inR 1 3 x.End then some 4 else
  bif prevB (fun y=>!beforeB y x) p then some 8 else k
def runsS (l:List Run):Option Int:=bif decide (4000<(l.length:Int)) then some 2 else rangeP runsB (some 0) none l
def smallRuns (l:List Run):Prop:=l.length≤4611686018427387904∧∀ x∈l,x.Id.size≤4611686018427387904∧x.Worker.size≤4611686018427387904
theorem runs_prog {l:List Run} (h:smallRuns l):workers_CheckRuns.f l=runsS l:=by
  unfold workers_CheckRuns.f runsS
  congr 1
  refine rangeP_all (L:=fun k v=>workers_CheckRuns.l2 workers_CheckRuns.e1 k l v) h.1 (fun k v h0 h1=>?_)
  simp only [workers_CheckRuns.l2]
  congr 1
  refine bind_at (fun x hx=>?_)
  simp only [runs_cmp]
  rw [isWord_prog _ (h.2 x hx).1,isWord_prog _ (h.2 x hx).2,prev_eq (P:=fun y=>!beforeB y x) h0 h1 h.1]
  unfold runsB workers_isMoment.f
  simp only [within_eq,Option.bind_some]
  cases isWordB x.Id <;> cases isWordB x.Worker <;> simp only [Bool.not_true,Bool.not_false,cond_true,cond_false,Option.bind_some,Bool.or_self,Bool.or_true,Bool.true_or,Bool.or_false,Bool.false_or]
  cases ha:inR 0 1000000000 x.From <;> cases hb:inR 0 1000000000 x.To <;> (unfold inR at ha hb; simp only [ha,hb,Bool.not_true,Bool.not_false,cond_true,cond_false,Option.bind_some,Bool.or_self,Bool.or_true,Bool.true_or,Bool.or_false,Bool.false_or])
  rfl
theorem runs_ref {l:List Run} (h:smallRuns l):smithyardref9_CheckRuns.f l=runsS l:=by
  unfold smithyardref9_CheckRuns.f runsS
  congr 1
  refine rangeP_all (L:=fun k v=>smithyardref9_CheckRuns.l2 smithyardref9_CheckRuns.e1 k l v) h.1 (fun k v h0 h1=>?_)
  simp only [smithyardref9_CheckRuns.l2]
  congr 1
  refine bind_at (fun x hx=>?_)
  simp only [before_ref,Option.bind_some]
  rw [isWord_ref _ (h.2 x hx).1,isWord_ref _ (h.2 x hx).2,prev_eq (P:=fun y=>!beforeB y x) h0 h1 h.1]
  unfold runsB
  simp only [withinR_eq,Option.bind_some]
  cases isWordB x.Id <;> cases isWordB x.Worker <;> simp only [Bool.not_true,Bool.not_false,cond_true,cond_false,Option.bind_some,Bool.or_self,Bool.or_true,Bool.true_or,Bool.or_false,Bool.false_or]
  cases ha:inR 0 1000000000 x.From <;> cases hb:inR 0 1000000000 x.To <;> (unfold inR at ha hb; simp only [ha,hb,Bool.not_true,Bool.not_false,cond_true,cond_false,Option.bind_some,Bool.or_self,Bool.or_true,Bool.true_or,Bool.or_false,Bool.false_or])
  rfl
theorem runsS_some (l:List Run):∃ r,runsS l=some r:=by
  unfold runsS
  cases decide (4000<(l.length:Int))
  · refine rangeP_some (fun p x k hk=>?_) ⟨_,rfl⟩ l none
    unfold runsB
    cases (!isWordB x.Id||!isWordB x.Worker)
    · cases (!inR 0 1000000000 x.From||!inR 0 1000000000 x.To)
      · cases decide (x.To<x.From)
        · cases (!inR 1 3 x.End)
          · cases (prevB (fun y=>!beforeB y x) p)
            · exact hk
            · exact ⟨_,rfl⟩
          · exact ⟨_,rfl⟩
        · exact ⟨_,rfl⟩
      · exact ⟨_,rfl⟩
    · exact ⟨_,rfl⟩
  · exact ⟨_,rfl⟩
def okRun (x:Run):Prop:=0≤x.From∧x.From≤x.To∧x.To≤1000000000∧1≤x.End∧x.End≤3∧isWordB x.Id=true∧isWordB x.Worker=true
theorem runsS_ok {l:List Run} (h:runsS l=some 0):l.length≤4000∧∀ x∈l,okRun x:=by
  have key:∀ (l:List Run) (p:Option Run),rangeP runsB (some 0) p l=some 0→∀ x∈l,okRun x:=by
    intro l
    induction l with
    | nil=>intro p _ s hs; cases hs
    | cons x t ih =>
      intro p h
      simp only [rangeP,runsB] at h
      cases ha:(!isWordB x.Id||!isWordB x.Worker)
      · cases hb:(!inR 0 1000000000 x.From||!inR 0 1000000000 x.To)
        · cases hc:decide (x.To<x.From)
          · cases hd:(!inR 1 3 x.End)
            · cases he:(prevB (fun y=>!beforeB y x) p)
              · simp only [ha,hb,hc,hd,he,cond_false] at h
                intro s hs
                rcases List.mem_cons.1 hs with rfl | hs
                · simp [inR] at ha hb hc hd
                  exact ⟨by omega,by omega,by omega,by omega,by omega,ha.1,ha.2⟩
                · exact ih _ h s hs
              · simp [ha,hb,hc,hd,he] at h
            · simp [ha,hb,hc,hd] at h
          · simp [ha,hb,hc] at h
        · simp [ha,hb] at h
      · simp [ha] at h
  unfold runsS at h
  cases hc:decide (4000<(l.length:Int))
  · rw [hc] at h
    refine ⟨?_,key l none h⟩
    simp at hc
    omega
  · rw [hc] at h
    simp at h
end Go.Proofs.YtdccapcfbielcaaGreatDoor
