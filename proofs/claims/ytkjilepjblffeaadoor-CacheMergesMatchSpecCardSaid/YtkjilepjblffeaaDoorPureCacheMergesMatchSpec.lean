/- CacheMergesMatchSpec over plain data: what two caches merged come to is the same, with all errors. -/
import Derived.Test.YtkjilepjblffeaaDoorPMgdR
import Derived.Test.YtkjilepjblffeaaDoorPureSCacheMergesMatchSpec
set_option linter.unusedVariables false
set_option linter.unusedSimpArgs false
namespace Go.Proofs.YtkjilepjblffeaaDoor
open Go Go.Proofs.YtkjilepjblffeaaDoor.Kit
theorem fit_of {c : Cache} (h : fitCache c) : Fit c := by
  obtain ⟨-, -, ⟨h3, h3'⟩, ⟨h4, h4'⟩⟩ := h
  exact fit_raw h3 (fun x hx => (h3' x hx).1) h4 (fun x hx => ⟨(h4' x hx).1, (h4' x hx).2.1.1, (h4' x hx).2.1.2⟩)
theorem CacheMergesMatchSpec_pure : CacheMergesMatchSpec_Pure := by
  intro c d hc hd
  have hf := fit_of hc
  have hg := fit_of hd
  unfold smithyardlaw7_CacheMergesMatchSpec.f
  obtain ⟨r, hr, _, h2⟩ := mergedS_some c d
  have hs : smallCache r.1 := by
    rcases h2 with h2 | h2
    · rw [h2]; exact small_empty
    · exact h2.fit.small
  have e1 : smithyardref7_Merged.f (⟨c.Room, c.Lease, c.Blobs, c.Entries⟩ : Cache) (⟨d.Room, d.Lease, d.Blobs, d.Entries⟩ : Cache) = some r := (mergedR hf hg).trans hr
  have e2 : smithyardref7_Same.f (⟨r.1.Room, r.1.Lease, r.1.Blobs, r.1.Entries⟩ : Cache) (⟨r.1.Room, r.1.Lease, r.1.Blobs, r.1.Entries⟩ : Cache) = some true := same_self hs
  have e3 : smithyardref7_Same.f c (⟨c.Room, c.Lease, c.Blobs, c.Entries⟩ : Cache) = some true := same_self hf.small
  have e4 : smithyardref7_Same.f d (⟨d.Room, d.Lease, d.Blobs, d.Entries⟩ : Cache) = some true := same_self hg.small
  rw [copy_id hf.fb hf.fe hf.fr, copy_id hg.fb hg.fe hg.fr]
  simp only [Option.bind_some, merged_prog hf hg, hr, e1, e2, e3, e4, beq_self_eq_true, cond_true, awake7]
end Go.Proofs.YtkjilepjblffeaaDoor
