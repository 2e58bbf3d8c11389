/- TrialsTriedStopsInTime over numbers and lists alone. -/
import Derived.Test.YtdhennofffldhaaPureTried
import Derived.Test.YtdhennofffldhaaPureSTrialsTriedStopsInTime
set_option linter.unusedVariables false
set_option linter.unusedSimpArgs false
namespace Go.Proofs.Ytdhennofffldhaa
open Go Go.Proofs.Ytdhennofffldhaa.Kit
/-- The loop of the program reads no run behind the one at which it ends. -/
theorem tried_short {e e' : Int → Option (Int × Int × Int)} (a0 a1 : Int) (a2 b2 : List Bool) (hl : (a2.length : Int) = a0) (hb : (b2.length : Int) = a0) (h100 : a0 ≤ 100) (h1 : 1 ≤ a1) (h1' : a1 ≤ a0) (y : Int) (hsame : ∀ i : Int, i < y → at? a2 i = at? b2 i) :
    ∀ (d k : Nat) (p v x : Int), (a0 - v).toNat = d → 0 ≤ v → v < y → v ≤ a0 → y ≤ a0 → 0 ≤ p → p ≤ v → p < a1 → a1 ≤ p + a0 - v → d < k →
      trials_Tried.l17 e k a0 a1 a2 p v = some (x, y, 0) → trials_Tried.l17 e' k a0 a1 b2 p v = some (x, y, 0) := by
  intro d
  induction d with
  | zero => intros; omega
  | succ d ih =>
    intro k p v x hd hv hvy hv' hy hp hpv hpa hroom hk hrun
    obtain ⟨k, rfl⟩ : ∃ j, k = j + 1 := ⟨k - 1, by omega⟩
    obtain ⟨b, hx, -⟩ := at?_of (xs := a2) (i := v) hv (by omega)
    have hx' : at? b2 v = some b := by rw [← hsame v hvy, hx]
    have e1 : w64 (v + 1) = v + 1 := w64_id (by omega) (by omega)
    have e2 : w64 (p + 1) = p + 1 := w64_id (by omega) (by omega)
    have hL : ∀ (e : Int → Option (Int × Int × Int)) (c : List Bool), (c.length : Int) = a0 → at? c v = some b → trials_Tried.l17 e (k + 1) a0 a1 c p v = trials_Tried.j24 (trials_Tried.l17 e k) a0 a1 c v (if b then p + 1 else p) := by
      intro e c hc hxc
      conv => lhs; unfold trials_Tried.l17
      have : v < (c.length : Int) := by omega
      simp only [this, decide_true, cond_true, hxc, Option.bind_some, e2]
      cases b <;> rfl
    rw [hL e a2 hl hx] at hrun
    rw [hL e' b2 hb hx']
    have g : ∀ p' : Int, 0 ≤ p' → p' ≤ v + 1 → p' ≤ a1 → p ≤ p' → trials_Tried.j24 (trials_Tried.l17 e k) a0 a1 a2 v p' = some (x, y, 0) → trials_Tried.j24 (trials_Tried.l17 e' k) a0 a1 b2 v p' = some (x, y, 0) := by
      intro p' g1 g2 g3 g4
      have f1 : w64 (p' + a0) = p' + a0 := w64_id (by omega) (by omega)
      have f2 : w64 (p' + a0 - (v + 1)) = p' + a0 - (v + 1) := w64_id (by omega) (by omega)
      unfold trials_Tried.j24
      rw [e1, f1, f2]
      simp only [Bool.cond_eq_ite, beq_iff_eq, decide_eq_true_eq]
      by_cases c1 : p' = a1
      · by_cases c2 : v + 1 = a1
        · have b : (v + 1 == a1) = true := by simpa using c2
          simp [c1, c2, b]
        · have b : (v + 1 == a1) = false := by simpa using c2
          simp [c1, c2, b]
      · simp only [c1, if_false, Option.bind_some, Bool.false_eq_true]
        by_cases c3 : p' + a0 - (v + 1) < a1
        · simp [c3]
        · simp only [c3, if_false]
          intro hr
          obtain ⟨x', y', q1, -, q3, -, -⟩ := tried_loops (e := e) a0 a1 a2 hl h100 h1 h1' d k (d + 1) p' (v + 1) (by omega) (by omega) (by omega) g1 (by omega) g2 (by omega) (by omega) (by omega)
          rw [hr] at q1
          simp only [Option.some.injEq, Prod.mk.injEq] at q1
          exact ih k p' (v + 1) x (by omega) (by omega) (by omega) (by omega) hy g1 g2 (by omega) (by omega) (by omega) hr
    exact g _ (by split <;> omega) (by split <;> omega) (by split <;> omega) (by split <;> omega) hrun
/-- The loop that fills up with runs that failed. -/
theorem filled (e : Int → Int → (Int × Int × Int) → List Bool → Option Bool) (a0 a1 : Int) (y2 : Int × Int × Int) (r : Bool) (h100 : a0 ≤ 100) :
    ∀ (d k : Nat) (m : List Bool), (a0 - m.length).toNat = d → d < k → m.length ≤ 140737488351332 →
      (∀ w : List Bool, a0 ≤ ((m ++ w).length : Int) → (m ++ w).length ≤ 140737488351332 → e a0 a1 y2 (m ++ w) = some r) → smithyardlaw10_TrialsTriedStopsInTime.l48 e k a0 a1 y2 m = some r := by
  intro d
  induction d with
  | zero =>
    intro k m hd hk hm he
    obtain ⟨k, rfl⟩ : ∃ j, k = j + 1 := ⟨k - 1, by omega⟩
    unfold smithyardlaw10_TrialsTriedStopsInTime.l48
    have h : ¬ (m.length : Int) < a0 := by omega
    simp only [h, decide_false, cond_false]
    simpa using he [] (by simp; omega) (by simpa using hm)
  | succ d ih =>
    intro k m hd hk hm he
    obtain ⟨k, rfl⟩ : ∃ j, k = j + 1 := ⟨k - 1, by omega⟩
    unfold smithyardlaw10_TrialsTriedStopsInTime.l48
    have h : (m.length : Int) < a0 := by omega
    simp only [h, decide_true, cond_true]
    rw [guard?_true (room_of (by simp; omega))]
    refine ih k (m ++ [false]) (by simp; omega) (by omega) (by simp; omega) fun w h1 h2 => ?_
    rw [List.append_assoc] at h1 h2 ⊢
    exact he _ h1 h2
theorem TrialsTriedStopsInTime_pure : TrialsTriedStopsInTime_Pure := by
  intro a0 a1 a2 a3 _ _ h2 h3
  have l2 : a2.length ≤ 140737488351232 := by have := h2.1; unfold reachBytes at this; omega
  have l3 : a3.length ≤ 140737488351232 := by have := h3.1; unfold reachBytes at this; omega
  obtain ⟨x, y, z, q1, -, q3, q4⟩ := tried_same a0 a1 a2
  unfold smithyardlaw10_TrialsTriedStopsInTime.f
  simp only [q1, Option.bind_some]
  by_cases hz : z = 0
  · obtain ⟨y1, ya, a100, n1, na, len⟩ := q4 hz
    subst hz
    have b1 : ¬ y < 1 := by omega
    have b2 : ¬ a0 < y := by omega
    have b3 : 0 ≤ y := by omega
    have b4 : y ≤ (a2.length : Int) := by omega
    have lt : (a2.take y.toNat).length = y.toNat := by rw [List.length_take]; omega
    have hc : slices_Clone_bool.f (a2.take y.toNat) = some (a2.take y.toNat) := guard?_true (room_of (by omega))
    simp only [bne_self_eq_false, cond_false, b1, b2, b3, b4, decide_true, decide_false, Bool.and_self, Option.bind_some, hc]
    rw [guard?_true rfl, guard?_true (room_of (by omega))]
    refine filled _ a0 a1 _ true a100 (a0 - ((a2.take y.toNat ++ a3).length : Int)).toNat _ _ rfl (by omega) (by rw [List.length_append]; omega) fun w w1 w2 => ?_
    have hsame : ∀ i : Int, i < y → at? a2 i = at? ((a2.take y.toNat ++ a3 ++ w).take a0.toNat) i := by
      intro i hi
      rw [at?_take (by omega), at?_append (by rw [List.length_append]; omega), at?_append (by omega), at?_take (by omega)]
    have hlen : ((((a2.take y.toNat ++ a3 ++ w).take a0.toNat).length : Nat) : Int) = a0 := by rw [List.length_take]; omega
    have hrun : trials_Tried.f a0 a1 ((a2.take y.toNat ++ a3 ++ w).take a0.toNat) = some (x, y, 0) := by
      have u : ∀ c : List Bool, (c.length : Int) = a0 → trials_Tried.f a0 a1 c = trials_Tried.l17 trials_Tried.e15 (a0.toNat + 1) a0 a1 c 0 0 := by
        intro c hc
        unfold trials_Tried.f
        have r1 : (1 : Int) ≤ a0 := by omega
        have r2 : (c.length : Int) - 0 = a0 := by omega
        simp only [within_eq, Option.bind_some, r1, a100, n1, na, decide_true, Bool.and_self, Bool.not_true, cond_false, hc, bne_self_eq_false, Int.sub_zero]
      rw [u _ hlen]
      rw [u _ len] at q1
      exact tried_short a0 a1 a2 _ len hlen a100 n1 na y hsame (a0 - 0).toNat _ 0 0 x rfl (by omega) (by omega) (by omega) ya (by omega) (by omega) (by omega) (by omega) (by omega) q1
    unfold smithyardlaw10_TrialsTriedStopsInTime.e32
    have c1 : (decide (0 ≤ a0) && decide (a0 ≤ ((a2.take y.toNat ++ a3 ++ w).length : Int))) = true := by
      simp only [Bool.and_eq_true, decide_eq_true_eq]
      exact ⟨by omega, w1⟩
    rw [guard?_true c1]
    simp only [hrun, Option.bind_some, beq_self_eq_true, cond_true, awake_true]
  · obtain ⟨rfl, rfl⟩ := q3 hz
    have b : (z != 0) = true := by simpa using hz
    simp only [b, cond_true, beq_self_eq_true, Option.bind_some, awake_true]
end Go.Proofs.Ytdhennofffldhaa
