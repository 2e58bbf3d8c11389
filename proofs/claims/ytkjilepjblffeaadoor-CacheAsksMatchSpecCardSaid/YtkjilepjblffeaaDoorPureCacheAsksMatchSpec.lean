/- CacheAsksMatchSpec over plain data: what is whole, what would go, and what fits are the same, with all errors. -/
import Derived.Test.YtkjilepjblffeaaDoorPRef7
import Derived.Test.YtkjilepjblffeaaDoorPureSCacheAsksMatchSpec
set_option linter.unusedVariables false
set_option linter.unusedSimpArgs false
namespace Go.Proofs.YtkjilepjblffeaaDoor
open Go Go.Proofs.YtkjilepjblffeaaDoor.Kit
theorem fit_of {c : Cache} (h : fitCache c) : Fit c := by
  obtain ⟨-, -, ⟨h3, h3'⟩, ⟨h4, h4'⟩⟩ := h
  exact fit_raw h3 (fun x hx => (h3' x hx).1) h4 (fun x hx => ⟨(h4' x hx).1, (h4' x hx).2.1.1, (h4' x hx).2.1.2⟩)
theorem nextS_some (c : Cache) (t : Int) : ∃ n, nextS c t = some n ∧ n.1.length ≤ 3000 := by
  unfold nextS
  obtain ⟨f, e1, e2, _⟩ := checkAtS_cases c t
  rw [e1]
  simp only [Option.bind_some]
  cases h0 : f != 0
  · have ok := cacheS_ok (e2 (by simpa using h0)).1
    exact ⟨_, rfl, by rw [List.length_map]; have := leaving_len c t; have := ok.bl; omega⟩
  · exact ⟨_, rfl, by simp⟩
theorem wholeS_some (c : Cache) (key : ByteArray) : ∃ n, wholeS c key = some n := by
  unfold wholeS
  obtain ⟨f, e1⟩ := cacheS_some c
  rw [e1]
  cases h : f != 0 <;> exact ⟨_, by simp [h]; rfl⟩
theorem fitsS_some (c : Cache) (size t : Int) : ∃ n, fitsS c size t = some n := by
  unfold fitsS
  obtain ⟨f, e1, _, _⟩ := checkAtS_cases c t
  rw [e1]
  cases h : f != 0
  · cases hr : inR 0 100000000 size
    · exact ⟨_, by simp [h, hr]; rfl⟩
    · exact ⟨_, by simp [h, hr]; rfl⟩
  · exact ⟨_, by simp [h]; rfl⟩
theorem CacheAsksMatchSpec_pure : CacheAsksMatchSpec_Pure := by
  intro c key size t hc hkey hsize ht
  have hf := fit_of hc
  have hk : key.size ≤ 4611686018427387904 := by simp only [reachBytes] at hkey; omega
  unfold smithyardlaw7_CacheAsksMatchSpec.f
  obtain ⟨w, hw⟩ := wholeS_some c key
  obtain ⟨n, hn, hnl⟩ := nextS_some c t
  obtain ⟨x, hx⟩ := fitsS_some c size t
  have e1 : smithyardref7_Whole.f (⟨c.Room, c.Lease, c.Blobs, c.Entries⟩ : Cache) key = some w := (wholeR hf hk).trans hw
  have e2 : smithyardref7_Next.f (⟨c.Room, c.Lease, c.Blobs, c.Entries⟩ : Cache) t = some n := (nextR hf).trans hn
  have e3 : smithyardref7_Fits.f (⟨c.Room, c.Lease, c.Blobs, c.Entries⟩ : Cache) size t = some x := (fitsR hf).trans hx
  have e4 : smithyardref7_Same.f c (⟨c.Room, c.Lease, c.Blobs, c.Entries⟩ : Cache) = some true := same_self hf.small
  rw [copy_id hf.fb hf.fe hf.fr]
  simp only [Option.bind_some, wholeP hf, hw, e1, next_prog hf, hn, e2, fits_prog hf, hx, e3, beq_self_eq_true, Bool.not_true, cond_false, bne_self_eq_false, slices_Equal_string_self (show n.1.length ≤ 4611686018427387904 by omega), cond_true, e4, awake7]
end Go.Proofs.YtkjilepjblffeaaDoor
