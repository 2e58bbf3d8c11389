/- The written program and the written specification of Tried answer alike. -/
import Derived.Test.YtdhennofffldhaaGD
import Derived.Test.YtdhennofffldhaaKitL
set_option linter.unusedVariables false
set_option linter.unusedSimpArgs false
namespace Go.Proofs.Ytdhennofffldhaa
open Go Go.Proofs.Ytdhennofffldhaa.Kit
theorem tried_loops {e : Int → Option (Int × Int × Int)} (a0 a1 : Int) (a2 : List Bool) (hl : (a2.length : Int) = a0) (h100 : a0 ≤ 100) (h1 : 1 ≤ a1) (h1' : a1 ≤ a0) :
    ∀ (d k k' : Nat) (p v : Int), (a0 - v).toNat = d → 0 ≤ v → v ≤ a0 → 0 ≤ p → p < a1 → p ≤ v → a1 ≤ p + a0 - v → d < k → d < k' →
      ∃ x y : Int, trials_Tried.l17 e k a0 a1 a2 p v = some (x, y, 0) ∧ smithyardref10_Tried.l22 smithyardref10_Tried.e14 k' a0 a1 a2 p v = some (x, y, 0) ∧ v < y ∧ y ≤ a0 ∧ (x = 2 ∨ x = 3 ∨ x = 4) := by
  intro d
  induction d with
  | zero => intros; omega
  | succ d ih =>
    intro k k' p v hd hv hv' hp hpa hpv hroom hk hk'
    obtain ⟨k, rfl⟩ : ∃ j, k = j + 1 := ⟨k - 1, by omega⟩
    obtain ⟨k', rfl⟩ : ∃ j, k' = j + 2 := ⟨k' - 2, by omega⟩
    obtain ⟨x, hx, -⟩ := at?_of (xs := a2) (i := v) hv (by omega)
    have e1 : w64 (v + 1) = v + 1 := w64_id (by omega) (by omega)
    have e2 : w64 (p + 1) = p + 1 := w64_id (by omega) (by omega)
    have e3 : w64 (p + a0) = p + a0 := w64_id (by omega) (by omega)
    have e4 : w64 (p + a0 - v) = p + a0 - v := w64_id (by omega) (by omega)
    -- the part behind the run that was read
    have main : ∀ p' : Int, 0 ≤ p' → p' ≤ a1 → p' ≤ v + 1 → p ≤ p' → p' ≤ p + 1 →
        ∃ x y : Int, trials_Tried.j24 (trials_Tried.l17 e k) a0 a1 a2 v p' = some (x, y, 0) ∧ smithyardref10_Tried.l22 smithyardref10_Tried.e14 (k' + 1) a0 a1 a2 p' (v + 1) = some (x, y, 0) ∧ v < y ∧ y ≤ a0 ∧ (x = 2 ∨ x = 3 ∨ x = 4) := by
      intro p' g1 g2 g3 g4 g5
      have f1 : w64 (p' + a0) = p' + a0 := w64_id (by omega) (by omega)
      have f2 : w64 (p' + a0 - (v + 1)) = p' + a0 - (v + 1) := w64_id (by omega) (by omega)
      have hP : trials_Tried.j24 (trials_Tried.l17 e k) a0 a1 a2 v p' = if p' = a1 then (if v + 1 = a1 then some (2, v + 1, 0) else some (4, v + 1, 0)) else if p' + a0 - (v + 1) < a1 then some (3, v + 1, 0) else trials_Tried.l17 e k a0 a1 a2 p' (v + 1) := by
        unfold trials_Tried.j24
        rw [e1, f1, f2]
        simp only [Bool.cond_eq_ite, beq_iff_eq, decide_eq_true_eq]
        by_cases c1 : p' = a1
        · by_cases c2 : v + 1 = a1
          · have b : (v + 1 == a1) = true := by simpa using c2
            simp [c1, c2, b]
          · have b : (v + 1 == a1) = false := by simpa using c2
            simp [c1, c2, b]
        · simp [c1]
      rw [hP]
      by_cases c1 : p' = a1
      · rw [if_pos c1]
        refine ⟨if v + 1 = a1 then 2 else 4, v + 1, ?_, ?_, by omega, by omega, ?_⟩
        · split <;> rfl
        · unfold smithyardref10_Tried.l22
          rw [f1, f2]
          have : ¬ p' < a1 := by omega
          simp only [this, decide_false, cond_false, Option.bind_some, smithyardref10_Tried.e14]
          by_cases c2 : v + 1 = a1
          · have h : ¬ p' < v + 1 := by omega
            rw [if_pos c2]
            simp only [h, decide_false, cond_false]
          · have h : p' < v + 1 := by omega
            rw [if_neg c2]
            simp only [h, decide_true, cond_true]
        · split <;> simp
      · rw [if_neg c1]
        by_cases c3 : p' + a0 - (v + 1) < a1
        · rw [if_pos c3]
          refine ⟨3, v + 1, rfl, ?_, by omega, by omega, by simp⟩
          unfold smithyardref10_Tried.l22
          rw [f1, f2]
          have h : p' < a1 := by omega
          have h2 : ¬ a1 ≤ p' + a0 - (v + 1) := by omega
          simp only [h, h2, decide_false, decide_true, cond_false, cond_true, Option.bind_some, smithyardref10_Tried.e14]
        · rw [if_neg c3]
          obtain ⟨x, y, q1, q2, q3, q4, q5⟩ := ih k (k' + 1) p' (v + 1) (by omega) (by omega) (by omega) g1 (by omega) g3 (by omega) (by omega) (by omega)
          exact ⟨x, y, q1, q2, by omega, q4, q5⟩
    have hL : trials_Tried.l17 e (k + 1) a0 a1 a2 p v = trials_Tried.j24 (trials_Tried.l17 e k) a0 a1 a2 v (if x then p + 1 else p) := by
      conv => lhs; unfold trials_Tried.l17
      have : v < (a2.length : Int) := by omega
      simp only [this, decide_true, cond_true, hx, Option.bind_some, e2]
      cases x <;> rfl
    have hR : smithyardref10_Tried.l22 smithyardref10_Tried.e14 (k' + 2) a0 a1 a2 p v = smithyardref10_Tried.l22 smithyardref10_Tried.e14 (k' + 1) a0 a1 a2 (if x then p + 1 else p) (v + 1) := by
      conv => lhs; unfold smithyardref10_Tried.l22
      have h' : a1 ≤ p + a0 - v := by omega
      simp only [hpa, h', decide_true, cond_true, hx, Option.bind_some, e1, e2, e3, e4, smithyardref10_Tried.j31]
      cases x <;> rfl
    rw [hL, hR]
    exact main _ (by split <;> omega) (by split <;> omega) (by split <;> omega) (by split <;> omega) (by split <;> omega)
theorem awake_true : smithyardlaw10_awake.f = some true := by
  have e : ∀ n : Int, -9223372036854775808 ≤ n → n ≤ 9223372036854775807 → w64 n = n := fun n => w64_id
  rfl
theorem equal_self (a : List Bool) (h : (a.length : Int) ≤ 9223372036854775806) : slices_Equal_bool.f a a = some true := by
  unfold slices_Equal_bool.f
  have : ∀ (d k : Nat) (v : Int), ((a.length : Int) - v).toNat = d → 0 ≤ v → v ≤ a.length → d < k → slices_Equal_bool.l8 slices_Equal_bool.e6 k a a v = some true := by
    intro d
    induction d with
    | zero =>
      intro k v hd h0 h1 hk
      obtain ⟨k, rfl⟩ : ∃ j, k = j + 1 := ⟨k - 1, by omega⟩
      unfold slices_Equal_bool.l8
      have : ¬ v < (a.length : Int) := by omega
      simp [this, slices_Equal_bool.e6]
    | succ d ih =>
      intro k v hd h0 h1 hk
      obtain ⟨k, rfl⟩ : ∃ j, k = j + 1 := ⟨k - 1, by omega⟩
      unfold slices_Equal_bool.l8
      have h2 : v < (a.length : Int) := by omega
      obtain ⟨x, hx, -⟩ := at?_of (xs := a) h0 h2
      have e1 : w64 (v + 1) = v + 1 := w64_id (by omega) (by omega)
      simp only [h2, decide_true, cond_true, hx, Option.bind_some, e1, beq_self_eq_true, Bool.not_true, cond_false]
      exact ih k (v + 1) (by omega) (by omega) (by omega) (by omega)
  simp only [bne_self_eq_false, cond_false]
  exact this _ _ 0 rfl (by omega) (by omega) (by omega)
theorem within_eq (a b c : Int) : trials_within.f a b c = some (decide (b ≤ a) && decide (a ≤ c)) := by
  unfold trials_within.f
  by_cases h : b ≤ a <;> simp [h]
theorem within_ref_eq (a b c : Int) : smithyardref10_within.f a b c = some (decide (b ≤ a) && decide (a ≤ c)) := by
  unfold smithyardref10_within.f
  by_cases h : b ≤ a <;> simp [h]
/-- Both answer, and alike. -/
theorem tried_same (a0 a1 : Int) (a2 : List Bool) : ∃ x y z : Int, trials_Tried.f a0 a1 a2 = some (x, y, z) ∧ smithyardref10_Tried.f a0 a1 a2 = some (x, y, z) ∧
    (z ≠ 0 → x = 0 ∧ y = 0) ∧ (z = 0 → 1 ≤ y ∧ y ≤ a0 ∧ a0 ≤ 100 ∧ 1 ≤ a1 ∧ a1 ≤ a0 ∧ (a2.length : Int) = a0) := by
  unfold trials_Tried.f smithyardref10_Tried.f
  simp only [within_eq, within_ref_eq, Option.bind_some]
  by_cases c1 : 1 ≤ a0 ∧ a0 ≤ 100
  · by_cases c2 : 1 ≤ a1 ∧ a1 ≤ a0
    · by_cases c3 : (a2.length : Int) = a0
      · obtain ⟨x, y, q1, q2, q3, q4, q5⟩ := tried_loops (e := trials_Tried.e15) a0 a1 a2 c3 c1.2 c2.1 c2.2 (a0 - 0).toNat (((a2.length : Int) - 0).toNat + 1) (a0.toNat + 1) 0 0 rfl (by omega) (by omega) (by omega) (by omega) (by omega) (by omega) (by omega) (by omega)
        refine ⟨x, y, 0, ?_, ?_, by simp, fun _ => ⟨by omega, q4, c1.2, c2.1, c2.2, c3⟩⟩
        · rw [← q1]
          simp [c1.1, c1.2, c2.1, c2.2, c3]
        · rw [← q2]
          simp [c1.1, c1.2, c2.1, c2.2, c3]
      · have b : ((a2.length : Int) != a0) = true := by simpa using c3
        refine ⟨0, 0, 3, ?_, ?_, by simp, by simp⟩ <;> simp only [c1.1, c1.2, c2.1, c2.2, b, decide_true, Bool.and_self, Bool.not_true, cond_false, cond_true, Option.bind_some]
    · have b : (decide (1 ≤ a1) && decide (a1 ≤ a0)) = false := by simpa using c2
      refine ⟨0, 0, 1, ?_, ?_, by simp, by simp⟩ <;> simp only [c1.1, c1.2, b, decide_true, Bool.and_self, Bool.not_true, Bool.not_false, cond_false, cond_true, Option.bind_some]
  · have b : (decide (1 ≤ a0) && decide (a0 ≤ 100)) = false := by simpa using c1
    refine ⟨0, 0, 1, ?_, ?_, by simp, by simp⟩ <;> simp only [b, Bool.not_false, cond_true, Option.bind_some]
end Go.Proofs.Ytdhennofffldhaa
