/- WorkersEndsAddUp over plain data: a first part of whole seconds, and then the rest. -/
import Derived.Test.YtcldjlkgdnjnaaaDoorPEnds
import Derived.Test.YtcldjlkgdnjnaaaDoorPureSWorkersEndsAddUp
set_option linter.unusedVariables false
set_option linter.unusedSimpArgs false
namespace Go.Proofs.YtcldjlkgdnjnaaaDoor
open Go Go.Proofs.YtcldjlkgdnjnaaaDoor.Kit
theorem small_of_fit {w : Worker} (h : fitWorker w) : smallWorker w := by
  obtain ⟨h1, h2, h3, h4, h5, h6, h7⟩ := h
  simp only [reachBytes] at h1 h2 h7
  refine ⟨by omega, ⟨by omega, fun x hx => ?_⟩, by omega⟩
  have := h2.2 x hx
  obtain ⟨k1, k2⟩ := this
  simp only [reachBytes] at k1 k2
  omega
theorem WorkersEndsAddUp_pure : WorkersEndsAddUp_Pure := by
  intro w first rest start hw hfirst hrest hstart
  have hs := small_of_fit hw
  have wf1 := wf64 hfirst
  have wf2 := wf64 hrest
  have wf3 := wf64 hstart
  obtain ⟨-, -, -, hsp, -, -, -⟩ := hw
  have wsp := wf64 hsp
  unfold smithyardlaw9_WorkersEndsAddUp.f
  rw [awake_true]
  by_cases c1 : first < 1
  · simp [c1]
  by_cases c2 : rest < 1
  · simp [c1, c2]
  by_cases c3 : 1000000 < first
  · simp [c1, c2, c3]
  by_cases c4 : 1000000 < rest
  · simp [c1, c2, c3, c4]
  by_cases c5 : w.Speed < 1
  · simp [c1, c2, c3, c4, c5]
  by_cases c6 : 1000 < w.Speed
  · simp [c1, c2, c3, c4, c5, c6]
  have hm1 : 1 ≤ first * w.Speed := by
    have := Int.mul_le_mul (show (1 : Int) ≤ first by omega) (show (1 : Int) ≤ w.Speed by omega) (by omega) (by omega)
    omega
  have hm2 : first * w.Speed ≤ 1000000000 := by
    have := Int.mul_le_mul (show first ≤ 1000000 by omega) (show w.Speed ≤ 1000 by omega) (by omega) (by omega)
    omega
  have e1 : w64 (first * w.Speed) = first * w.Speed := w64_id (by omega) (by omega)
  have e2 : w64 (first * w.Speed + rest) = first * w.Speed + rest := w64_id (by omega) (by omega)
  rw [e1, e2]
  by_cases c7 : 1000000 < first * w.Speed
  · simp [c1, c2, c3, c4, c5, c6, c7]
  by_cases c8 : 1000000 < first * w.Speed + rest
  · simp [c1, c2, c3, c4, c5, c6, c7, c8]
  simp only [decide_eq_false c1, decide_eq_false c2, decide_eq_false c3, decide_eq_false c4, decide_eq_false c5, decide_eq_false c6, decide_eq_false c7, decide_eq_false c8, cond_false, Option.bind_some]
  rw [ends_prog hs]
  unfold endsS
  obtain ⟨f, hf⟩ := workerS_some w
  simp only [hf, Option.bind_some]
  cases hfz : f != 0
  · have hf0 : f = 0 := by simpa using hfz
    subst hf0
    have ok := workerS_ok hf
    have r1 : inR 1 1000000 (first * w.Speed + rest) = true := by simp [inR]; omega
    rw [r1]
    cases r2 : inR 0 1000000000 start
    · simp
    simp [inR] at r2
    simp only [Bool.not_true, Bool.or_self, cond_false]
    have es : secsI w (first * w.Speed + rest) = first + secsI w rest := by
      unfold secsI
      rw [show first * w.Speed + rest + w.Speed - 1 = rest + w.Speed - 1 + first * w.Speed by omega, Int.add_mul_ediv_right _ _ (by omega)]
      omega
    have ef : secsI w (first * w.Speed) = first := by
      unfold secsI
      rw [show first * w.Speed + w.Speed - 1 = w.Speed - 1 + first * w.Speed by omega, Int.add_mul_ediv_right _ _ (by omega), Int.ediv_eq_zero_of_lt (by omega) (by omega)]
      omega
    have sr := secs_bd (w := w) (size := rest) (by omega) (by omega) (by omega) (by omega)
    cases c9 : (decide (start < w.From) || decide (w.To < endAt w.Stands (secsI w (first * w.Speed + rest)) start))
    · rw [es] at c9 ⊢
      rw [endAt_add w.Stands ok.st first (secsI w rest) start (by omega) sr.1] at c9 ⊢
      have g1 := endAt_ge w.Stands ok.st first start (by omega)
      have g2 := endAt_ge w.Stands ok.st (secsI w rest) (endAt w.Stands first start) sr.1
      simp at c9
      have q1 : inR 1 1000000 (first * w.Speed) = true := by simp [inR]; omega
      have q2 : inR 0 1000000000 start = true := by simp [inR]; omega
      have t2 := ok.t2
      have f1 := ok.f1
      have q3 : (decide (start < w.From) || decide (w.To < endAt w.Stands first start)) = false := by simp; omega
      simp only [bne_self_eq_false, cond_false, Option.bind_some, Bool.not_true]
      rw [ends_prog hs]
      unfold endsS
      simp only [hf, Option.bind_some, bne_self_eq_false, cond_false, q1, q2, q3, Bool.not_true, Bool.or_self, ef]
      rw [ends_prog hs]
      unfold endsS
      have q4 : inR 1 1000000 rest = true := by simp [inR]; omega
      have q5 : inR 0 1000000000 (endAt w.Stands first start) = true := by simp [inR]; omega
      have q6 : (decide (endAt w.Stands first start < w.From) || decide (w.To < endAt w.Stands (secsI w rest) (endAt w.Stands first start))) = false := by simp; omega
      simp only [hf, Option.bind_some, bne_self_eq_false, cond_false, q4, q5, q6, Bool.not_true, Bool.or_self]
      simp
    · simp
  · simp [hfz]
end Go.Proofs.YtcldjlkgdnjnaaaDoor
