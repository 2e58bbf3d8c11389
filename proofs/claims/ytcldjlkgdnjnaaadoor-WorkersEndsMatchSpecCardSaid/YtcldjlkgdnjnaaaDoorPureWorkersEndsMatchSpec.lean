/- WorkersEndsMatchSpec over plain data: the program's and the reference's seconds and ends are the same. -/
import Derived.Test.YtcldjlkgdnjnaaaDoorPEnds
import Derived.Test.YtcldjlkgdnjnaaaDoorPSame
import Derived.Test.YtcldjlkgdnjnaaaDoorPureSWorkersEndsMatchSpec
set_option linter.unusedVariables false
set_option linter.unusedSimpArgs false
namespace Go.Proofs.YtcldjlkgdnjnaaaDoor
open Go Go.Proofs.YtcldjlkgdnjnaaaDoor.Kit
theorem small_of_fit {w : Worker} (h : fitWorker w) : smallWorker w := by
  obtain ⟨h1, h2, h3, h4, h5, h6, h7⟩ := h
  simp only [reachBytes] at h1 h2 h7
  refine ⟨by omega, ⟨by omega, fun x hx => ?_⟩, by omega⟩
  have := h2.2 x hx
  obtain ⟨k1, k2⟩ := this
  simp only [reachBytes] at k1 k2
  omega
theorem copy_id {w : Worker} (h : fitWorker w) : smithyardref9_CopyWorker.f w = some w := by
  obtain ⟨h1, h2, h3, h4, h5, h6, h7⟩ := h
  simp only [reachBytes] at h1 h2 h7
  unfold smithyardref9_CopyWorker.f
  rw [slices_Clone_Pair_id (by omega), slices_Clone_Span_id (by omega)]
  rfl
theorem same_self {w : Worker} (h : smallWorker w) : smithyardref9_SameWorker.f w w = some true := by
  unfold smithyardref9_SameWorker.f
  rw [slices_Equal_Pair_self h.2.1.1, slices_Equal_Span_self h.2.2]
  simp [sEq]
def secondsS (w : Worker) (size : Int) : Option (Int × Int) :=
  (workerS w).bind fun f => bif f != 0 then some (0, f) else bif !inR 1 1000000 size then some (0, 1) else some (secsI w size, 0)
theorem Seconds_prog {w : Worker} {size : Int} (hw : smallWorker w) : workers_Seconds.f w size = secondsS w size := by
  unfold workers_Seconds.f workers_checkSize.f secondsS
  rw [worker_prog hw]
  obtain ⟨f, hf⟩ := workerS_some w
  simp only [hf, Option.bind_some, within_eq]
  cases h2 : f != 0
  · have hf0 : f = 0 := by simpa using h2
    subst hf0
    have ok := workerS_ok hf
    cases h3 : inR 1 1000000 size
    · unfold inR at h3
      simp [h3]
    · have h3' := h3
      unfold inR at h3
      simp only [h3, Bool.not_true, cond_false, Option.bind_some, bne_self_eq_false]
      unfold inR at h3'
      simp at h3'
      rw [seconds_prog ok.s1 ok.s2 h3'.1 h3'.2]
      rfl
  · simp [h2]
theorem Seconds_ref {w : Worker} {size : Int} (hw : smallWorker w) : smithyardref9_Seconds.f w size = secondsS w size := by
  unfold smithyardref9_Seconds.f secondsS
  rw [worker_ref hw]
  obtain ⟨f, hf⟩ := workerS_some w
  simp only [hf, Option.bind_some, withinR_eq]
  cases h2 : f != 0
  · have hf0 : f = 0 := by simpa using h2
    subst hf0
    have ok := workerS_ok hf
    cases h3 : inR 1 1000000 size
    · unfold inR at h3
      simp [h3]
    · have h3' := h3
      unfold inR at h3
      simp only [h3, Bool.not_true, cond_false, Option.bind_some, bne_self_eq_false]
      unfold inR at h3'
      simp at h3'
      rw [seconds_ref ok.s1 ok.s2 h3'.1 h3'.2]
      rfl
  · simp [h2]
theorem secondsS_some (w : Worker) (size : Int) : ∃ r, secondsS w size = some r := by
  obtain ⟨f, hf⟩ := workerS_some w
  unfold secondsS
  rw [hf]
  cases h : f != 0 <;> cases h2 : inR 1 1000000 size <;> simp [h, h2]
theorem endsS_some (w : Worker) (size start : Int) : ∃ r, endsS w size start = some r := by
  obtain ⟨f, hf⟩ := workerS_some w
  unfold endsS
  rw [hf]
  cases h : f != 0 <;> cases h2 : (!inR 1 1000000 size || !inR 0 1000000000 start) <;> cases h3 : (decide (start < w.From) || decide (w.To < endAt w.Stands (secsI w size) start)) <;> simp [h, h2, h3]
theorem WorkersEndsMatchSpec_pure : WorkersEndsMatchSpec_Pure := by
  intro w size start hw hsize hstart
  have hs := small_of_fit hw
  unfold smithyardlaw9_WorkersEndsMatchSpec.f
  rw [copy_id hw]
  obtain ⟨r, hr⟩ := secondsS_some w size
  obtain ⟨q, hq⟩ := endsS_some w size start
  simp only [Option.bind_some, awake_true, same_self hs, Seconds_prog hs, Seconds_ref hs, ends_prog hs, ends_ref hs, hr, hq, bne_self_eq_false, beq_self_eq_true, cond_true, cond_false]
end Go.Proofs.YtcldjlkgdnjnaaaDoor
