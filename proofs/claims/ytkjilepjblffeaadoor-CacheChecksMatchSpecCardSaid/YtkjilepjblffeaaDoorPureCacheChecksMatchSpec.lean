/- CacheChecksMatchSpec over plain data: checks, sums and what is broken are the same. -/
import Derived.Test.YtkjilepjblffeaaDoorPC7F
import Derived.Test.YtkjilepjblffeaaDoorPureSCacheChecksMatchSpec
set_option linter.unusedVariables false
set_option linter.unusedSimpArgs false
namespace Go.Proofs.YtkjilepjblffeaaDoor
open Go Go.Proofs.YtkjilepjblffeaaDoor.Kit
theorem small_fit {c : Cache} (h : fitCache c) : smallCache c ∧ c.Blobs.length * 48 ≤ 140737488355328 ∧ c.Entries.length * 48 ≤ 140737488355328 ∧ ∀ x ∈ c.Entries, x.Refs.length * 16 ≤ 140737488355328 := by
  obtain ⟨-, -, ⟨h3, h3'⟩, ⟨h4, h4'⟩⟩ := h
  simp only [reachBytes] at h3 h4
  refine ⟨⟨⟨by omega, fun x hx => ?_⟩, ⟨by omega, fun x hx => ?_⟩⟩, by omega, by omega, fun x hx => ?_⟩
  · have := (h3' x hx).1
    simp only [reachBytes] at this
    omega
  · obtain ⟨k1, ⟨k2, k3⟩, -⟩ := h4' x hx
    simp only [reachBytes] at k1 k2 k3
    exact ⟨by omega, by omega, fun y hy => by have := k3 y hy; omega⟩
  · obtain ⟨k1, ⟨k2, k3⟩, -⟩ := h4' x hx
    simp only [reachBytes] at k2
    omega
def newS (a b : Int) : Option (Cache × Int) := (cacheS ⟨a, b, [], []⟩).bind fun f => bif f != 0 then some (⟨0, 0, [], []⟩, f) else some (⟨a, b, [], []⟩, 0)
theorem new_prog (a b : Int) : cache_New.f a b = newS a b := by
  unfold cache_New.f newS
  rw [check_prog (c := ⟨a, b, [], []⟩) ⟨⟨by simp, by simp⟩, ⟨by simp, by simp⟩⟩]
theorem new_ref (a b : Int) : smithyardref7_New.f a b = newS a b := by
  unfold smithyardref7_New.f newS
  rw [check_ref (c := ⟨a, b, [], []⟩) ⟨⟨by simp, by simp⟩, ⟨by simp, by simp⟩⟩]
theorem newS_some (a b : Int) : ∃ r, newS a b = some r ∧ r.1.Blobs = [] ∧ r.1.Entries = [] := by
  obtain ⟨f, hf⟩ := cacheS_some ⟨a, b, [], []⟩
  unfold newS
  rw [hf]
  cases h : f != 0 <;> simp [h]
def usedS (c : Cache) : Option (Int × Int) := (cacheS c).bind fun f => bif f != 0 then some (0, f) else some (sumW 0 c.Blobs, 0)
theorem CacheChecksMatchSpec_pure : CacheChecksMatchSpec_Pure := by
  intro c hc
  obtain ⟨hs, hb, he, hr⟩ := small_fit hc
  have hbl : c.Blobs.length ≤ 4611686018427387904 := by omega
  unfold smithyardlaw7_CacheChecksMatchSpec.f
  rw [copy_id hb he hr]
  obtain ⟨n, hn, hn1, hn2⟩ := newS_some c.Room c.Lease
  obtain ⟨f, hf⟩ := cacheS_some c
  have hsn : smallCache n.1 := by
    unfold smallCache
    rw [hn1, hn2]
    exact ⟨⟨by simp, by simp⟩, ⟨by simp, by simp⟩⟩
  have hnS : smithyardref7_Same.f (⟨n.1.Room, n.1.Lease, n.1.Blobs, n.1.Entries⟩ : Cache) (⟨n.1.Room, n.1.Lease, n.1.Blobs, n.1.Entries⟩ : Cache) = some true := same_self hsn
  have hcS : smithyardref7_Same.f c (⟨c.Room, c.Lease, c.Blobs, c.Entries⟩ : Cache) = some true := same_self hs
  have hck : smithyardref7_CheckCache.f (⟨c.Room, c.Lease, c.Blobs, c.Entries⟩ : Cache) = some f := by rw [← hf]; exact check_ref hs
  simp only [Option.bind_some, new_prog, new_ref, hn, hnS, hcS, hck, check_prog hs, hf, bne_self_eq_false, Bool.not_true, cond_false, awake7]
  unfold cache_Used.f smithyardref7_Used.f cache_Broken.f smithyardref7_Broken.f
  simp only [check_prog hs, hck, hf, Option.bind_some, used_prog hbl, bytesOf_ref hbl]
  cases h0 : f != 0
  · have hf0 : f = 0 := by simpa using h0
    subst hf0
    have ok := cacheS_ok hf
    have e2 : smithyardref7_Broken.l2 smithyardref7_Broken.e1 big (⟨c.Room, c.Lease, c.Blobs, c.Entries⟩ : Cache) [] 0 = some (brokenS c, 0) := broken_loopR hs (show c.Entries.length * 16 ≤ 140737488355328 by omega) hr
    have hlen : (brokenS c).length ≤ 4611686018427387904 := by
      unfold brokenS
      rw [List.length_map]
      exact Nat.le_trans (List.length_filter_le _ _) (by omega)
    simp only [cond_false, broken_loop hs ok.bs (by omega) hr, e2, Option.bind_some, beq_self_eq_true, cond_true, slices_Equal_string_self hlen]
  · simp only [cond_true, Option.bind_some, beq_self_eq_true, slices_Equal_string_self (show ([] : List ByteArray).length ≤ 4611686018427387904 by simp)]
end Go.Proofs.YtkjilepjblffeaaDoor
