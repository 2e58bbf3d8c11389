/- What the program's and the specification's Suspects and NextProbe come to. -/
import Derived.Test.YtdhennofffldhaaPD
import Derived.Test.YtdhennofffldhaaKitL
set_option linter.unusedVariables false
set_option linter.unusedSimpArgs false
namespace Go.Proofs.Ytdhennofffldhaa
open Go Go.Proofs.Ytdhennofffldhaa.Kit
theorem within_eq (a b c : Int) : trials_within.f a b c = some (decide (b ≤ a) && decide (a ≤ c)) := by
  unfold trials_within.f
  by_cases h : b ≤ a <;> simp [h]
theorem within_ref_eq (a b c : Int) : smithyardref10_within.f a b c = some (decide (b ≤ a) && decide (a ≤ c)) := by
  unfold smithyardref10_within.f
  by_cases h : b ≤ a <;> simp [h]
/-- The first error of the probes. -/
def askOf (n : Int) : List Probe → Int
  | [] => 0
  | p :: l => if 0 ≤ p.Place ∧ p.Place ≤ n then (if p.Place = 0 ∧ p.Pass = false then 12 else askOf n l) else 1
/-- The least place that failed, at most m. -/
def hiOf (m : Int) : List Probe → Int
  | [] => m
  | p :: l => hiOf (if p.Pass then m else min2 m p.Place) l
/-- How often a place passed. -/
def cntOf (c : Int) : List Probe → Nat
  | [] => 0
  | p :: l => (if p.Place = c ∧ p.Pass then 1 else 0) + cntOf c l
theorem cntOf_le (c : Int) (l : List Probe) : cntOf c l ≤ l.length := by
  induction l with
  | nil => simp [cntOf]
  | cons p l ih => simp only [cntOf, List.length_cons]; split <;> omega
theorem askOf_append (n : Int) (l m : List Probe) : askOf n (l ++ m) = if askOf n l = 0 then askOf n m else askOf n l := by
  induction l with
  | nil => simp [askOf]
  | cons p l ih =>
    simp only [List.cons_append, askOf]
    split
    · split
      · simp
      · exact ih
    · simp
theorem at?_mid {α : Type} (pre : List α) (x : α) (xs : List α) (v : Int) (hv : v = pre.length) : at? (pre ++ x :: xs) v = some x := by
  subst hv
  simp [at?]
theorem susp_loop (n : Int) : ∀ (xs pre : List Probe) (k : Nat) (m v : Int), v = pre.length → xs.length < k → pre.length + xs.length ≤ 140737488351232 →
    trials_Suspects.l14 trials_Suspects.e12 k n (pre ++ xs) m v = some (if askOf n xs = 0 then (1, hiOf m xs, 0) else (0, 0, askOf n xs))
  | [], pre, k, m, v, hv, hk, hl => by
    obtain ⟨k, rfl⟩ : ∃ j, k = j + 1 := ⟨k - 1, by omega⟩
    unfold trials_Suspects.l14
    have : ¬ v < ((pre ++ ([] : List Probe)).length : Int) := by simp; omega
    simp only [this, decide_false, cond_false, trials_Suspects.e12, askOf, hiOf, if_true]
  | p :: xs, pre, k, m, v, hv, hk, hl => by
    obtain ⟨k, rfl⟩ : ∃ j, k = j + 1 := ⟨k - 1, by simp at hk; omega⟩
    simp only [List.length_cons] at hk hl
    unfold trials_Suspects.l14
    have h1 : v < ((pre ++ p :: xs).length : Int) := by simp; omega
    have e1 : w64 (v + 1) = v + 1 := w64_id (by omega) (by omega)
    have hat := at?_mid pre p xs v hv
    have ih := fun m' => susp_loop n xs (pre ++ [p]) k m' (v + 1) (by simp; omega) (by omega) (by simp; omega)
    simp only [List.append_assoc, List.singleton_append] at ih
    simp only [h1, decide_true, cond_true, hat, Option.bind_some, within_eq, trials_Suspects.j34, e1, ih]
    by_cases c1 : 0 ≤ p.Place ∧ p.Place ≤ n
    · have b : (decide (0 ≤ p.Place) && decide (p.Place ≤ n)) = true := by simpa using c1
      simp only [b, Bool.not_true, cond_false, askOf, c1, and_self, if_true]
      cases hp : p.Pass
      · by_cases c2 : p.Place = 0
        · simp [c2]
        · have b2 : (p.Place == 0) = false := by simpa using c2
          simp [c2, b2, hiOf, hp]
      · by_cases c2 : p.Place = 0
        · simp [c2, hiOf, hp]
        · have b2 : (p.Place == 0) = false := by simpa using c2
          simp [c2, b2, hiOf, hp]
    · have b : (decide (0 ≤ p.Place) && decide (p.Place ≤ n)) = false := by simpa using c1
      simp only [b, Bool.not_false, cond_true, askOf, c1, if_false]
      rfl
theorem ask_loop (n : Int) : ∀ (xs pre : List Probe) (k : Nat) (v : Int), v = pre.length → xs.length < k → pre.length + xs.length ≤ 140737488351232 →
    smithyardref10_askProbes.l13 smithyardref10_askProbes.e11 k n (pre ++ xs) v = some (askOf n xs)
  | [], pre, k, v, hv, hk, hl => by
    obtain ⟨k, rfl⟩ : ∃ j, k = j + 1 := ⟨k - 1, by omega⟩
    unfold smithyardref10_askProbes.l13
    have : ¬ v < ((pre ++ ([] : List Probe)).length : Int) := by simp; omega
    simp only [this, decide_false, cond_false, smithyardref10_askProbes.e11, askOf]
  | p :: xs, pre, k, v, hv, hk, hl => by
    obtain ⟨k, rfl⟩ : ∃ j, k = j + 1 := ⟨k - 1, by simp at hk; omega⟩
    simp only [List.length_cons] at hk hl
    unfold smithyardref10_askProbes.l13
    have h1 : v < ((pre ++ p :: xs).length : Int) := by simp; omega
    have e1 : w64 (v + 1) = v + 1 := w64_id (by omega) (by omega)
    have hat := at?_mid pre p xs v hv
    have ih := ask_loop n xs (pre ++ [p]) k (v + 1) (by simp; omega) (by omega) (by simp; omega)
    simp only [List.append_assoc, List.singleton_append] at ih
    simp only [h1, decide_true, cond_true, hat, Option.bind_some, within_ref_eq, e1, ih]
    by_cases c1 : 0 ≤ p.Place ∧ p.Place ≤ n
    · have b : (decide (0 ≤ p.Place) && decide (p.Place ≤ n)) = true := by simpa using c1
      simp only [b, Bool.not_true, cond_false, askOf, c1, and_self, if_true]
      by_cases c2 : p.Place = 0
      · cases hp : p.Pass <;> simp [c2]
      · have b2 : (p.Place == 0) = false := by simpa using c2
        simp [c2, b2]
    · have b : (decide (0 ≤ p.Place) && decide (p.Place ≤ n)) = false := by simpa using c1
      simp only [b, Bool.not_false, cond_true, askOf, c1, if_false]
theorem greatest_loop : ∀ (xs pre : List Probe) (k : Nat) (m v : Int), v = pre.length → xs.length < k → pre.length + xs.length ≤ 140737488351232 →
    smithyardref10_greatest.l5 smithyardref10_greatest.e3 k (pre ++ xs) m v = some (hiOf m xs)
  | [], pre, k, m, v, hv, hk, hl => by
    obtain ⟨k, rfl⟩ : ∃ j, k = j + 1 := ⟨k - 1, by omega⟩
    unfold smithyardref10_greatest.l5
    have : ¬ v < ((pre ++ ([] : List Probe)).length : Int) := by simp; omega
    simp only [this, decide_false, cond_false, smithyardref10_greatest.e3, hiOf]
  | p :: xs, pre, k, m, v, hv, hk, hl => by
    obtain ⟨k, rfl⟩ : ∃ j, k = j + 1 := ⟨k - 1, by simp at hk; omega⟩
    simp only [List.length_cons] at hk hl
    unfold smithyardref10_greatest.l5
    have h1 : v < ((pre ++ p :: xs).length : Int) := by simp; omega
    have e1 : w64 (v + 1) = v + 1 := w64_id (by omega) (by omega)
    have hat := at?_mid pre p xs v hv
    have ih := fun m' => greatest_loop xs (pre ++ [p]) k m' (v + 1) (by simp; omega) (by omega) (by simp; omega)
    simp only [List.append_assoc, List.singleton_append] at ih
    simp only [h1, decide_true, cond_true, hat, Option.bind_some, e1, ih, smithyardref10_greatest.j14, hiOf]
    cases hp : p.Pass <;> simp
theorem good_loop (e : List Probe → Int → Int → Int → Int → Option (Int × Bool × Int)) (l : List Probe) (sure y c : Int) : ∀ (xs pre : List Probe) (k : Nat) (g v : Int), v = pre.length → xs.length < k → pre.length + xs.length ≤ 140737488351232 → 0 ≤ g → g ≤ pre.length →
    smithyardref10_NextProbe.l29 e k l sure y c g (pre ++ xs) ((pre ++ xs).length : Int) v = e l sure y c (g + cntOf c xs)
  | [], pre, k, g, v, hv, hk, hl, hg, hg' => by
    obtain ⟨k, rfl⟩ : ∃ j, k = j + 1 := ⟨k - 1, by omega⟩
    unfold smithyardref10_NextProbe.l29
    have : ¬ v < ((pre ++ ([] : List Probe)).length : Int) := by simp; omega
    simp only [this, decide_false, cond_false, cntOf]
    simp
  | p :: xs, pre, k, g, v, hv, hk, hl, hg, hg' => by
    obtain ⟨k, rfl⟩ : ∃ j, k = j + 1 := ⟨k - 1, by simp at hk; omega⟩
    simp only [List.length_cons] at hk hl
    unfold smithyardref10_NextProbe.l29
    have h1 : v < ((pre ++ p :: xs).length : Int) := by simp; omega
    have e1 : w64 (v + 1) = v + 1 := w64_id (by omega) (by omega)
    have e2 : w64 (g + 1) = g + 1 := w64_id (by omega) (by omega)
    have hat := at?_mid pre p xs v hv
    have ih := fun g' h1 h2 => good_loop e l sure y c xs (pre ++ [p]) k g' (v + 1) (by simp; omega) (by omega) (by simp; omega) h1 h2
    simp only [List.append_assoc, List.singleton_append] at ih
    have i1 := ih (g + 1) (by omega) (by simp; omega)
    have i2 := ih g (by omega) (by simp; omega)
    simp only [h1, decide_true, cond_true, hat, Option.bind_some, e1, e2, smithyardref10_NextProbe.j41, cntOf, i1, i2]
    by_cases c2 : p.Place = c
    · cases hp : p.Pass
      · simp [c2]
      · simp [c2]
        congr 1
        omega
    · have b : (p.Place == c) = false := by simpa using c2
      simp [b, c2]
theorem mget_mput {κ ν : Type} [DecidableEq κ] (m : List (κ × ν)) (k k' : κ) (v : ν) : mget (mput m k v) k' = if k = k' then some v else mget m k' := by
  induction m with
  | nil => simp only [mput, mget]
  | cons q m ih =>
    simp only [mput]
    by_cases h : q.1 = k
    · simp only [h, if_true, mget]
      by_cases h2 : k = k'
      · simp [h2]
      · simp [h2]
    · simp only [h, if_false, mget, ih]
      by_cases h2 : q.1 = k'
      · have : ¬ k = k' := fun e => h (by rw [h2, e])
        simp [h2, this]
      · simp [h2]
theorem passed_loop (e : Int → (Int × Int × Int) → List (Int × Int) → Option (Int × Bool × Int)) (sure : Int) (y : Int × Int × Int) (r : Option (Int × Bool × Int)) : ∀ (xs pre : List Probe) (k : Nat) (m : List (Int × Int)) (v : Int), v = pre.length → xs.length < k → pre.length + xs.length ≤ 140737488351232 →
    (∀ c, 0 ≤ mgetD m c 0 ∧ mgetD m c 0 ≤ pre.length) → (∀ m', (∀ c, mgetD m' c 0 = mgetD m c 0 + cntOf c xs) → e sure y m' = r) →
    trials_NextProbe.l30 e k (pre ++ xs) sure y m v = r
  | [], pre, k, m, v, hv, hk, hl, hm, he => by
    obtain ⟨k, rfl⟩ : ∃ j, k = j + 1 := ⟨k - 1, by omega⟩
    unfold trials_NextProbe.l30
    have : ¬ v < ((pre ++ ([] : List Probe)).length : Int) := by simp; omega
    simp only [this, decide_false, cond_false]
    exact he m (fun c => by simp [cntOf])
  | p :: xs, pre, k, m, v, hv, hk, hl, hm, he => by
    obtain ⟨k, rfl⟩ : ∃ j, k = j + 1 := ⟨k - 1, by simp at hk; omega⟩
    simp only [List.length_cons] at hk hl
    unfold trials_NextProbe.l30
    have h1 : v < ((pre ++ p :: xs).length : Int) := by simp; omega
    have e1 : w64 (v + 1) = v + 1 := w64_id (by omega) (by omega)
    have e2 : w64 (mgetD m p.Place 0 + 1) = mgetD m p.Place 0 + 1 := by have := hm p.Place; exact w64_id (by omega) (by omega)
    have hat := at?_mid pre p xs v hv
    have ih := fun m' h1 h2 => passed_loop e sure y r xs (pre ++ [p]) k m' (v + 1) (by simp; omega) (by omega) (by simp; omega) h1 h2
    simp only [List.append_assoc, List.singleton_append] at ih
    simp only [h1, decide_true, cond_true, hat, Option.bind_some, e1, e2, trials_NextProbe.j39]
    have hput : ∀ c, mgetD (mput m p.Place (mgetD m p.Place 0 + 1)) c 0 = mgetD m c 0 + (if p.Place = c then 1 else 0) := by
      intro c
      simp only [mgetD, mget_mput]
      by_cases h : p.Place = c
      · simp [h]
      · simp [h]
    cases hp : p.Pass
    · simp only [cond_false]
      refine ih m (fun c => by have := hm c; simp; omega) (fun m' hm' => he m' (fun c => ?_))
      rw [hm' c]
      simp [cntOf, hp]
    · simp only [cond_true]
      refine ih _ (fun c => ?_) (fun m' hm' => he m' (fun c => ?_))
      · have := hm c
        rw [hput c]
        simp only [List.length_append, List.length_singleton]
        split <;> omega
      · rw [hm' c, hput c]
        simp only [cntOf, hp, and_true]
        split <;> simp <;> omega
/-- The way of a search. -/
def walk (l : List Probe) (sure hi : Int) : Nat → Int → Option (Int × Bool × Int)
  | 0, _ => none
  | k + 1, lo => if lo + 1 < hi then (if (cntOf ((lo + hi) / 2) l : Int) < sure then some ((lo + hi) / 2, true, 0) else walk l sure hi k ((lo + hi) / 2)) else some (0, false, 0)
theorem walk_some (l : List Probe) (sure hi : Int) : ∀ (k : Nat) (lo : Int), (hi - lo).toNat < k → ∃ r, walk l sure hi k lo = some r
  | 0, lo, h => by omega
  | k + 1, lo, h => by
    unfold walk
    split
    · split
      · exact ⟨_, rfl⟩
      · exact walk_some l sure hi k _ (by omega)
    · exact ⟨_, rfl⟩
theorem prog_walk (l : List Probe) (sure : Int) (y : Int × Int × Int) (m : List (Int × Int)) (hy : y.2.1 ≤ 100000) (hm : ∀ c, mgetD m c 0 = cntOf c l) : ∀ (k : Nat) (lo : Int), 0 ≤ lo → lo ≤ 100000 →
    trials_NextProbe.l21 trials_NextProbe.e19 k sure y m lo = walk l sure y.2.1 k lo
  | 0, lo, h0, h1 => rfl
  | k + 1, lo, h0, h1 => by
    unfold trials_NextProbe.l21 walk
    have e1 : w64 (lo + 1) = lo + 1 := w64_id (by omega) (by omega)
    rw [e1]
    by_cases c : lo + 1 < y.2.1
    · have e2 : w64 (lo + y.2.1) = lo + y.2.1 := w64_id (by omega) (by omega)
      have e3 : (lo + y.2.1).tdiv 2 = (lo + y.2.1) / 2 := Int.tdiv_eq_ediv_of_nonneg (by omega)
      have e4 : w64 ((lo + y.2.1) / 2) = (lo + y.2.1) / 2 := w64_id (by omega) (by omega)
      rw [e2, e3, e4, hm, prog_walk l sure y m hy hm k _ (by omega) (by omega)]
      simp only [c, decide_true, cond_true, if_true]
      by_cases c2 : (cntOf ((lo + y.2.1) / 2) l : Int) < sure <;> simp [c2]
    · simp only [c, decide_false, cond_false, if_false, trials_NextProbe.e19]
theorem ref_walk (l : List Probe) (sure y : Int) (hy : y ≤ 100000) (hl : l.length ≤ 140737488351232) : ∀ (k : Nat) (lo : Int), 0 ≤ lo → lo ≤ 100000 →
    smithyardref10_NextProbe.l18 smithyardref10_NextProbe.e16 k l sure y lo = walk l sure y k lo
  | 0, lo, h0, h1 => rfl
  | k + 1, lo, h0, h1 => by
    unfold smithyardref10_NextProbe.l18 walk
    have e1 : w64 (lo + 1) = lo + 1 := w64_id (by omega) (by omega)
    rw [e1]
    by_cases c : lo + 1 < y
    · have e2 : w64 (lo + y) = lo + y := w64_id (by omega) (by omega)
      have e3 : (lo + y).tdiv 2 = (lo + y) / 2 := Int.tdiv_eq_ediv_of_nonneg (by omega)
      have e4 : w64 ((lo + y) / 2) = (lo + y) / 2 := w64_id (by omega) (by omega)
      have hg := good_loop (smithyardref10_NextProbe.e24 (smithyardref10_NextProbe.l18 smithyardref10_NextProbe.e16 k)) l sure y ((lo + y) / 2) l [] (((l.length : Int) - 0).toNat + 1) 0 0 rfl (by omega) (by simpa using hl) (by omega) (by simp)
      simp only [List.nil_append, Int.zero_add] at hg
      rw [e2, e3, e4, hg]
      simp only [c, decide_true, cond_true, if_true, smithyardref10_NextProbe.e24, ref_walk l sure y hy hl k _ (show 0 ≤ (lo + y) / 2 by omega) (by omega)]
      by_cases c2 : (cntOf ((lo + y) / 2) l : Int) < sure <;> simp [c2]
    · simp only [c, decide_false, cond_false, if_false, smithyardref10_NextProbe.e16]
theorem min2_le (a b : Int) : min2 a b ≤ a := by unfold min2; split <;> omega
theorem hiOf_le : ∀ (l : List Probe) (m : Int), hiOf m l ≤ m
  | [], m => Int.le_refl _
  | p :: l, m => by
    have := hiOf_le l (if p.Pass then m else min2 m p.Place)
    have h2 := min2_le m p.Place
    simp only [hiOf]
    split at this <;> simp_all <;> omega
/-- The error of the arguments, before the probes are looked at. -/
def askN (n : Int) (l : List Probe) : Int := if 1 ≤ n ∧ n ≤ 100000 then (if 3000 < (l.length : Int) then 2 else askOf n l) else 1
theorem suspects_eq (n : Int) (l : List Probe) (hl : l.length ≤ 140737488351232) : trials_Suspects.f n l = some (if askN n l = 0 then (1, hiOf n l, 0) else (0, 0, askN n l)) := by
  unfold trials_Suspects.f askN
  have h := susp_loop n l [] (((l.length : Int) - 0).toNat + 1) n 0 rfl (by omega) (by simpa using hl)
  simp only [List.nil_append] at h
  simp only [within_eq, Option.bind_some, h]
  by_cases c : 1 ≤ n ∧ n ≤ 100000
  · have b : (decide (1 ≤ n) && decide (n ≤ 100000)) = true := by simpa using c
    simp only [b, c, Bool.not_true, cond_false, and_self, if_true]
    by_cases c2 : 3000 < (l.length : Int) <;> simp [c2]
  · have b : (decide (1 ≤ n) && decide (n ≤ 100000)) = false := by simpa using c
    simp only [b, c, Bool.not_false, cond_true, if_false]
    rfl
theorem ask_eq (n : Int) (l : List Probe) (hl : l.length ≤ 140737488351232) : smithyardref10_askProbes.f n l = some (askN n l) := by
  unfold smithyardref10_askProbes.f askN
  have h := ask_loop n l [] (((l.length : Int) - 0).toNat + 1) 0 rfl (by omega) (by simpa using hl)
  simp only [List.nil_append] at h
  simp only [within_ref_eq, Option.bind_some, h]
  by_cases c : 1 ≤ n ∧ n ≤ 100000
  · have b : (decide (1 ≤ n) && decide (n ≤ 100000)) = true := by simpa using c
    simp only [b, c, Bool.not_true, cond_false, and_self, if_true]
    by_cases c2 : 3000 < (l.length : Int) <;> simp [c2]
  · have b : (decide (1 ≤ n) && decide (n ≤ 100000)) = false := by simpa using c
    simp only [b, c, Bool.not_false, cond_true, if_false]
theorem greatest_eq (n : Int) (l : List Probe) (hl : l.length ≤ 140737488351232) : smithyardref10_greatest.f n l = some (hiOf n l) := by
  unfold smithyardref10_greatest.f
  have h := greatest_loop l [] (((l.length : Int) - 0).toNat + 1) n 0 rfl (by omega) (by simpa using hl)
  simpa using h
theorem suspects_ref_eq (n : Int) (l : List Probe) (hl : l.length ≤ 140737488351232) : smithyardref10_Suspects.f n l = some (if askN n l = 0 then (1, hiOf n l, 0) else (0, 0, askN n l)) := by
  unfold smithyardref10_Suspects.f
  rw [ask_eq n l hl]
  simp only [Option.bind_some, greatest_eq n l hl]
  by_cases c : askN n l = 0
  · simp [c]
  · have b : (askN n l != 0) = true := by simpa using c
    simp [b, c]
theorem askN_hi {n : Int} {l : List Probe} (h : askN n l = 0) : 1 ≤ n ∧ n ≤ 100000 := by
  unfold askN at h
  split at h
  · assumption
  · omega
theorem nextProbe_eq (n : Int) (l : List Probe) (sure : Int) (hl : l.length ≤ 140737488351232) :
    trials_NextProbe.f n l sure = if askN n l = 0 then (if 1 ≤ sure ∧ sure ≤ 100 then walk l sure (hiOf n l) ((hiOf n l).toNat + 1) 0 else some (0, false, 1)) else some (0, false, askN n l) := by
  unfold trials_NextProbe.f
  rw [suspects_eq n l hl]
  simp only [Option.bind_some, within_eq]
  by_cases c : askN n l = 0
  · simp only [c, if_true, bne_self_eq_false, cond_false]
    by_cases c2 : 1 ≤ sure ∧ sure ≤ 100
    · have b : (decide (1 ≤ sure) && decide (sure ≤ 100)) = true := by simpa using c2
      simp only [b, Bool.not_true, cond_false, c2, and_self, if_true]
      have hh := hiOf_le l n
      have hn := askN_hi c
      have := passed_loop trials_NextProbe.e17 sure (1, hiOf n l, 0) (walk l sure (hiOf n l) ((hiOf n l).toNat + 1) 0) l [] (((l.length : Int) - 0).toNat + 1) [] 0 rfl (by omega) (by simpa using hl) (fun c => by simp [mgetD, mget]) (fun m' hm' => by
        unfold trials_NextProbe.e17
        rw [prog_walk l sure (1, hiOf n l, 0) m' (by simp only; omega) (fun c => by rw [hm' c]; simp [mgetD, mget]) _ 0 (by omega) (by omega)]
        simp)
      simpa using this
    · have b : (decide (1 ≤ sure) && decide (sure ≤ 100)) = false := by simpa using c2
      simp only [b, Bool.not_false, cond_true, c2, if_false]
  · have b : (askN n l != 0) = true := by simpa using c
    simp only [c, if_false, b, cond_true]
theorem nextProbe_ref_eq (n : Int) (l : List Probe) (sure : Int) (hl : l.length ≤ 140737488351232) :
    smithyardref10_NextProbe.f n l sure = if askN n l = 0 then (if 1 ≤ sure ∧ sure ≤ 100 then walk l sure (hiOf n l) ((hiOf n l).toNat + 1) 0 else some (0, false, 1)) else some (0, false, askN n l) := by
  unfold smithyardref10_NextProbe.f
  rw [ask_eq n l hl]
  simp only [Option.bind_some, within_ref_eq, greatest_eq n l hl]
  by_cases c : askN n l = 0
  · simp only [c, if_true, bne_self_eq_false, cond_false]
    by_cases c2 : 1 ≤ sure ∧ sure ≤ 100
    · have b : (decide (1 ≤ sure) && decide (sure ≤ 100)) = true := by simpa using c2
      have hh := hiOf_le l n
      have hn := askN_hi c
      simp only [b, Bool.not_true, cond_false, c2, and_self, if_true]
      rw [ref_walk l sure (hiOf n l) (by omega) hl _ 0 (by omega) (by omega)]
      simp
    · have b : (decide (1 ≤ sure) && decide (sure ≤ 100)) = false := by simpa using c2
      simp only [b, Bool.not_false, cond_true, c2, if_false]
  · have b : (askN n l != 0) = true := by simpa using c
    simp only [c, if_false, b, cond_true]
end Go.Proofs.Ytdhennofffldhaa
