/- TrialsProbesMatchSpec over numbers and lists alone. -/
import Derived.Test.YtdhennofffldhaaPureProbes
import Derived.Test.YtdhennofffldhaaPureSTrialsProbesMatchSpec
set_option linter.unusedVariables false
set_option linter.unusedSimpArgs false
namespace Go.Proofs.Ytdhennofffldhaa
open Go Go.Proofs.Ytdhennofffldhaa.Kit
theorem awake_true : smithyardlaw10_awake.f = some true := rfl
theorem equal_self (a : List Probe) (h : a.length ≤ 140737488351232) : slices_Equal_Probe.f a a = some true := by
  unfold slices_Equal_Probe.f
  have : ∀ (d k : Nat) (v : Int), ((a.length : Int) - v).toNat = d → 0 ≤ v → v ≤ a.length → d < k → slices_Equal_Probe.l8 slices_Equal_Probe.e6 k a a v = some true := by
    intro d
    induction d with
    | zero =>
      intro k v hd h0 h1 hk
      obtain ⟨k, rfl⟩ : ∃ j, k = j + 1 := ⟨k - 1, by omega⟩
      unfold slices_Equal_Probe.l8
      have : ¬ v < (a.length : Int) := by omega
      simp [this, slices_Equal_Probe.e6]
    | succ d ih =>
      intro k v hd h0 h1 hk
      obtain ⟨k, rfl⟩ : ∃ j, k = j + 1 := ⟨k - 1, by omega⟩
      unfold slices_Equal_Probe.l8
      have h2 : v < (a.length : Int) := by omega
      obtain ⟨x, hx, -⟩ := at?_of (xs := a) h0 h2
      have e1 : w64 (v + 1) = v + 1 := w64_id (by omega) (by omega)
      simp only [h2, decide_true, cond_true, hx, Option.bind_some, e1, beq_self_eq_true, Bool.not_true, cond_false, Bool.and_self]
      exact ih k (v + 1) (by omega) (by omega) (by omega) (by omega)
  simp only [bne_self_eq_false, cond_false]
  exact this _ _ 0 rfl (by omega) (by omega) (by omega)
theorem TrialsProbesMatchSpec_pure : TrialsProbesMatchSpec_Pure := by
  intro n l sure _ h2 _
  have hl : l.length * 16 ≤ 140737488351232 := by have := h2.1; unfold reachBytes at this; omega
  have hl' : l.length ≤ 140737488351232 := by omega
  have hc : slices_Clone_Probe.f l = some l := guard?_true (room_of (by omega))
  have hs : ∃ r : Int × Int × Int, trials_Suspects.f n l = some r ∧ smithyardref10_Suspects.f n l = some r := ⟨_, suspects_eq n l hl', suspects_ref_eq n l hl'⟩
  obtain ⟨r, hs1, hs2⟩ := hs
  have hn : ∃ q : Int × Bool × Int, trials_NextProbe.f n l sure = some q ∧ smithyardref10_NextProbe.f n l sure = some q := by
    rw [nextProbe_eq n l sure hl', nextProbe_ref_eq n l sure hl']
    split
    · split
      · obtain ⟨q, hq⟩ := walk_some l sure (hiOf n l) ((hiOf n l).toNat + 1) 0 (by omega)
        exact ⟨q, hq, hq⟩
      · exact ⟨_, rfl, rfl⟩
    · exact ⟨_, rfl, rfl⟩
  obtain ⟨q, hq1, hq2⟩ := hn
  unfold smithyardlaw10_TrialsProbesMatchSpec.f
  simp only [hc, hs1, hs2, hq1, hq2, Option.bind_some, bne_self_eq_false, beq_self_eq_true, cond_false, cond_true, equal_self l hl', awake_true]
end Go.Proofs.Ytdhennofffldhaa
