/- TrialsProbesFindIt over numbers and lists alone: at most 189 probes are asked for. -/
import Derived.Test.YtdhennofffldhaaPureProbes
import Derived.Test.YtdhennofffldhaaPureSTrialsProbesFindIt
set_option linter.unusedVariables false
set_option linter.unusedSimpArgs false
namespace Go.Proofs.Ytdhennofffldhaa
open Go Go.Proofs.Ytdhennofffldhaa.Kit
theorem awake_true : smithyardlaw10_awake.f = some true := rfl
/-- The places between 0 and hi that a search goes through. -/
def sq (hi : Int) : Nat → Int
  | 0 => 0
  | j + 1 => (sq hi j + hi) / 2
theorem sq_le {hi : Int} (h : 0 ≤ hi) : ∀ j, 0 ≤ sq hi j ∧ sq hi j ≤ hi
  | 0 => by simp only [sq]; omega
  | j + 1 => by have := sq_le h j; simp only [sq]; omega
theorem sq_gap {hi : Int} (h : 0 ≤ hi) (h' : hi ≤ 100000) : ∀ j, (hi - sq hi j).toNat ≤ 2 ^ (17 - j)
  | 0 => by simp only [sq]; omega
  | j + 1 => by
    have ih := sq_gap h h' j
    have hb := sq_le h j
    simp only [sq]
    rcases Nat.lt_or_ge j 17 with hj | hj
    · rw [show 17 - j = (17 - (j + 1)) + 1 by omega, Nat.pow_succ] at ih
      omega
    · rw [show 17 - j = 0 by omega] at ih
      rw [show 17 - (j + 1) = 0 by omega]
      simp only [Nat.pow_zero] at ih ⊢
      omega
theorem hiOf_append (p : Probe) : ∀ (l : List Probe) (m : Int), hiOf m (l ++ [p]) = if p.Pass then hiOf m l else min2 (hiOf m l) p.Place
  | [], m => by simp [hiOf]
  | q :: l, m => by simp only [List.cons_append, hiOf, hiOf_append p l]
theorem cntOf_append (c : Int) (p : Probe) (l : List Probe) : cntOf c (l ++ [p]) = cntOf c l + (if p.Place = c ∧ p.Pass then 1 else 0) := by
  induction l with
  | nil => simp [cntOf]
  | cons q l ih => simp only [List.cons_append, cntOf, ih]; omega
/-- The probes tell the truth. -/
def Inv (n f : Int) (l : List Probe) : Prop := ∀ p ∈ l, 1 ≤ p.Place ∧ p.Place < n ∧ p.Pass = decide (p.Place < f)
theorem inv_ask {n f : Int} : ∀ {l : List Probe}, Inv n f l → askOf n l = 0
  | [], _ => rfl
  | p :: l, h => by
    obtain ⟨h1, h2, h3⟩ := h p (by simp)
    have c : 0 ≤ p.Place ∧ p.Place ≤ n := by omega
    have c2 : ¬ (p.Place = 0 ∧ p.Pass = false) := by omega
    simp only [askOf, c, and_self, if_true, c2, if_false]
    exact inv_ask (fun q hq => h q (by simp [hq]))
theorem inv_hi {n f : Int} : ∀ {l : List Probe} (m : Int), Inv n f l → f ≤ m → f ≤ hiOf m l
  | [], m, _, hm => hm
  | p :: l, m, h, hm => by
    obtain ⟨h1, h2, h3⟩ := h p (by simp)
    simp only [hiOf]
    refine inv_hi _ (fun q hq => h q (by simp [hq])) ?_
    rw [h3]
    by_cases c : p.Place < f
    · simp only [c, decide_true, if_true]; exact hm
    · simp only [c, decide_false, Bool.false_eq_true, if_false]
      unfold min2
      split <;> omega
theorem inv_cnt {n f c : Int} : ∀ {l : List Probe}, Inv n f l → 1 ≤ cntOf c l → c < f
  | [], _, h => by simp [cntOf] at h
  | p :: l, h, hc => by
    obtain ⟨h1, h2, h3⟩ := h p (by simp)
    simp only [cntOf] at hc
    by_cases c1 : p.Place = c ∧ p.Pass = true
    · rw [h3] at c1
      have := of_decide_eq_true c1.2
      omega
    · rw [if_neg c1] at hc
      have hI : Inv n f l := fun q hq => h q (by simp [hq])
      exact inv_cnt (l := l) hI (by omega)
theorem walk_spec {n f hi : Int} {l : List Probe} (hI : Inv n f l) : ∀ (k j : Nat) (r : Int × Bool × Int), sq hi j < f → walk l 1 hi k (sq hi j) = some r →
    (r = (0, false, 0) ∧ ∃ lo, lo < f ∧ hi ≤ lo + 1) ∨ ∃ i, j ≤ i ∧ r = (sq hi (i + 1), true, 0) ∧ (∀ t, j ≤ t → t < i → 1 ≤ cntOf (sq hi (t + 1)) l) ∧ cntOf (sq hi (i + 1)) l = 0 ∧ sq hi i + 1 < hi ∧ sq hi i < f
  | 0, j, r, hlo, h => by simp [walk] at h
  | k + 1, j, r, hlo, h => by
    unfold walk at h
    by_cases c : sq hi j + 1 < hi
    · rw [if_pos c] at h
      by_cases c2 : (cntOf ((sq hi j + hi) / 2) l : Int) < 1
      · rw [if_pos c2] at h
        injection h with h
        subst h
        exact .inr ⟨j, Nat.le_refl _, rfl, fun t h1 h2 => by omega, by simp only [sq]; omega, c, hlo⟩
      · rw [if_neg c2] at h
        have hp : 1 ≤ cntOf (sq hi (j + 1)) l := by simp only [sq]; omega
        rcases walk_spec hI k (j + 1) r (inv_cnt hI hp) h with h1 | ⟨i, h1, h2, h3, h4⟩
        · exact .inl h1
        · refine .inr ⟨i, by omega, h2, fun t t1 t2 => ?_, h4⟩
          by_cases ht : t = j
          · subst ht; exact hp
          · exact h3 t (by omega) t2
    · rw [if_neg c] at h
      injection h with h
      exact .inl ⟨h.symm, _, hlo, by omega⟩
/-- How many probes may come while the bits of what is left go down. -/
def S : Nat → Nat
  | 0 => 0
  | L + 1 => S L + (19 - L)
theorem S_mono {L M : Nat} (h : L ≤ M) : S L ≤ S M := by
  induction h with
  | refl => exact Nat.le_refl _
  | step _ ih => simp only [S]; omega
theorem bits : ∀ (K e : Nat), e < 2 ^ K → ∃ L, L ≤ K ∧ e < 2 ^ L ∧ (L = 0 ∨ 2 ^ (L - 1) ≤ e)
  | 0, e, h => ⟨0, Nat.le_refl _, h, .inl rfl⟩
  | K + 1, e, h => by
    by_cases c : e < 2 ^ K
    · obtain ⟨L, h1, h2⟩ := bits K e c
      exact ⟨L, by omega, h2⟩
    · exact ⟨K + 1, Nat.le_refl _, h, .inr (by simpa using c)⟩
theorem finds (n y f : Int) (hn : 1 ≤ n) (hn' : n ≤ 100000) (hf : f = 1 + y) (hf1 : 1 ≤ f) (hfn : f ≤ n) : ∀ (d : Nat) (l : List Probe) (k L J : Nat), Inv n f l → J + L ≤ 17 → (hiOf n l - f).toNat < 2 ^ L → (L = 0 ∨ 2 ^ (L - 1) ≤ (hiOf n l - f).toNat) →
    (∀ t, t < J → 1 ≤ cntOf (sq (hiOf n l) (t + 1)) l) → S L + (19 - L - J) ≤ d → l.length + d < 200 → d < k →
    smithyardlaw10_TrialsProbesFindIt.l17 smithyardlaw10_TrialsProbesFindIt.e15 k n y l l.length = some true := by
  intro d
  induction d with
  | zero => intros; omega
  | succ d ih =>
    intro l k L J hI hJ hL hL' hpass hd hlen hk
    obtain ⟨k, rfl⟩ : ∃ j, k = j + 1 := ⟨k - 1, by omega⟩
    have hask : askN n l = 0 := by
      unfold askN
      have : ¬ 3000 < (l.length : Int) := by omega
      simp only [hn, hn', and_self, if_true, this, if_false]
      exact inv_ask hI
    have hll : l.length ≤ 140737488351232 := by omega
    have hle := hiOf_le l n
    have hge := inv_hi n hI hfn
    have hnp := nextProbe_eq n l 1 hll
    simp only [hask, if_true, show (1 : Int) ≤ 1 ∧ (1 : Int) ≤ 100 by omega, and_self] at hnp
    have hsu := suspects_eq n l hll
    simp only [hask, if_true] at hsu
    obtain ⟨r, hr⟩ := walk_some l 1 (hiOf n l) ((hiOf n l).toNat + 1) 0 (by omega)
    rw [hr] at hnp
    have hv : ((l.length : Nat) : Int) < 200 := by omega
    have hy : w64 (1 + y) = f := by rw [w64_id (by omega) (by omega), hf]
    unfold smithyardlaw10_TrialsProbesFindIt.l17
    simp only [hv, decide_true, cond_true, hnp, Option.bind_some, hy]
    rcases walk_spec hI _ 0 r (by simp only [sq]; omega) hr with ⟨rfl, lo, h1, h2⟩ | ⟨i, h0, rfl, h2, h3, h4, h5⟩
    · have : hiOf n l = f := by omega
      simp only [bne_self_eq_false, cond_false, Option.bind_some, Bool.not_false, cond_true, hsu, beq_self_eq_true, this, awake_true]
    · have hb := sq_le (show (0 : Int) ≤ hiOf n l by omega) i
      have hm : sq (hiOf n l) (i + 1) = (sq (hiOf n l) i + hiOf n l) / 2 := rfl
      have m1 : ¬ sq (hiOf n l) (i + 1) < 1 := by omega
      have m2 : ¬ n ≤ sq (hiOf n l) (i + 1) := by omega
      have hJi : J ≤ i := by
        rcases Nat.lt_or_ge i J with h | h
        · have := hpass i h; omega
        · exact h
      have hgi := sq_gap (show (0 : Int) ≤ hiOf n l by omega) (by omega) i
      have hgi1 := sq_gap (show (0 : Int) ≤ hiOf n l by omega) (by omega) (i + 1)
      have hroom : room l.length (([(⟨sq (hiOf n l) (i + 1), decide (sq (hiOf n l) (i + 1) < f)⟩ : Probe)] : List Probe).length) 16 = true := room_of (by simp; omega)
      simp only [bne_self_eq_false, cond_false, cond_true, m1, m2, decide_false, Option.bind_some, Bool.not_true, guard?_true hroom]
      have e1 : w64 ((l.length : Int) + 1) = ((l ++ [(⟨sq (hiOf n l) (i + 1), decide (sq (hiOf n l) (i + 1) < f)⟩ : Probe)]).length : Int) := by
        rw [w64_id (by omega) (by omega)]
        simp
      rw [e1]
      have hI' : Inv n f (l ++ [(⟨sq (hiOf n l) (i + 1), decide (sq (hiOf n l) (i + 1) < f)⟩ : Probe)]) := by
        intro p hp
        rcases List.mem_append.1 hp with hp | hp
        · exact hI p hp
        · simp only [List.mem_singleton] at hp
          subst hp
          exact ⟨by simp only; omega, by simp only; omega, rfl⟩
      have hlen' : (l ++ [(⟨sq (hiOf n l) (i + 1), decide (sq (hiOf n l) (i + 1) < f)⟩ : Probe)]).length + d < 200 := by simp; omega
      have hhi := hiOf_append (⟨sq (hiOf n l) (i + 1), decide (sq (hiOf n l) (i + 1) < f)⟩ : Probe) l n
      by_cases c : sq (hiOf n l) (i + 1) < f
      · -- it passes
        have hhi' : hiOf n (l ++ [(⟨sq (hiOf n l) (i + 1), decide (sq (hiOf n l) (i + 1) < f)⟩ : Probe)]) = hiOf n l := by rw [hhi]; simp [c]
        have hnew : i + 1 + L ≤ 17 := by
          rcases hL' with h | h
          · subst h
            have : 1 < 2 ^ (17 - i) := by omega
            rcases Nat.lt_or_ge i 17 with q | q
            · omega
            · rw [show 17 - i = 0 by omega] at this; simp at this
          · have : 2 ^ (L - 1) < 2 ^ (17 - (i + 1)) := by omega
            have := (Nat.pow_lt_pow_iff_right (by omega)).1 this
            omega
        refine ih _ k L (i + 1) hI' hnew (by rw [hhi']; exact hL) (by rw [hhi']; exact hL') (fun t ht => ?_) (by omega) hlen' (by omega)
        rw [hhi', cntOf_append]
        by_cases ht' : t = i
        · subst ht'
          simp [c]
        · have := h2 t (by omega) (by omega)
          omega
      · -- it fails
        have hhi' : hiOf n (l ++ [(⟨sq (hiOf n l) (i + 1), decide (sq (hiOf n l) (i + 1) < f)⟩ : Probe)]) = sq (hiOf n l) (i + 1) := by
          rw [hhi]
          simp only [c, decide_false, Bool.false_eq_true, if_false, min2]
          rw [if_pos (by omega)]
        have hL1 : 1 ≤ L := by
          rcases Nat.eq_zero_or_pos L with h | h
          · subst h; simp at hL; omega
          · exact h
        have hhalf : (sq (hiOf n l) (i + 1) - f).toNat < 2 ^ (L - 1) := by
          rw [show L = (L - 1) + 1 by omega, Nat.pow_succ] at hL
          omega
        obtain ⟨L', hL2, hL3, hL4⟩ := bits (L - 1) _ hhalf
        have hS := S_mono (show L' + 1 ≤ L by omega)
        simp only [S] at hS
        exact ih _ k L' 0 hI' (by omega) (by rw [hhi']; exact hL3) (by rw [hhi']; exact hL4) (fun t ht => by omega) (by omega) hlen' (by omega)
theorem TrialsProbesFindIt_pure : TrialsProbesFindIt_Pure := by
  intro n a1 h0 h1
  have w0 := wf64 h0
  have w1 := wf64 h1
  unfold smithyardlaw10_TrialsProbesFindIt.f
  by_cases c : n < 1
  · simp only [c, decide_true, cond_true, Option.bind_some, awake_true]
  · by_cases c2 : 100000 < n
    · simp only [c, c2, decide_true, decide_false, cond_true, cond_false, Option.bind_some, awake_true]
    · have hB : ∃ y, smithyardref10_Below.f a1 n = some y ∧ 0 ≤ y ∧ y < n := by
        have b1 : (n != 0) = true := by simp; omega
        have t1 := Int.tmod_lt_of_pos a1 (show 0 < n by omega)
        have t2 := Int.lt_tmod_of_pos a1 (show 0 < n by omega)
        unfold smithyardref10_Below.f smithyardref10_Below.j5
        rw [guard?_true b1]
        by_cases c3 : a1.tmod n < 0
        · simp only [c3, decide_true, cond_true]
          exact ⟨_, rfl, by rw [w64_id (by omega) (by omega)]; omega, by rw [w64_id (by omega) (by omega)]; omega⟩
        · simp only [c3, decide_false, cond_false]
          exact ⟨_, rfl, by omega, t1⟩
      obtain ⟨y, hy, hy0, hyn⟩ := hB
      simp only [c, c2, decide_false, cond_false, Option.bind_some, hy]
      obtain ⟨L, h1, h2, h3⟩ := bits 17 (n - (1 + y)).toNat (by omega)
      have hS := S_mono (show L + 1 ≤ 18 by omega)
      have e18 : S 18 = 189 := rfl
      rw [e18] at hS
      simp only [S] at hS
      exact finds n y (1 + y) (by omega) (by omega) rfl (by omega) (by omega) 189 [] _ L 0 (fun p hp => by simp at hp) (by omega) (by simpa [hiOf] using h2) (by simpa [hiOf] using h3) (fun t ht => by omega) (by omega) (by simp) (by omega)
end Go.Proofs.Ytdhennofffldhaa
