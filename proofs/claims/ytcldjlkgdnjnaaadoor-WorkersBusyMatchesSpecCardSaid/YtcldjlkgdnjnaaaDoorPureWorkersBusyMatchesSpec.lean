/- WorkersBusyMatchesSpec over plain data: checks, sums and wasted times are the same; a span is the sum of two halves. -/
import Derived.Test.YtcldjlkgdnjnaaaDoorPRuns
import Derived.Test.YtcldjlkgdnjnaaaDoorPSame
import Derived.Test.YtcldjlkgdnjnaaaDoorPureSWorkersBusyMatchesSpec
set_option linter.unusedVariables false
set_option linter.unusedSimpArgs false
namespace Go.Proofs.YtcldjlkgdnjnaaaDoor
open Go Go.Proofs.YtcldjlkgdnjnaaaDoor.Kit
def spanB (wk : ByteArray) (a b : Int) (x : Run) : Int := bif sEq x.Worker wk then max2 0 (min2 x.To b - max2 x.From a) else 0
def sumB (wk : ByteArray) (a b : Int) : List Run → Int
  | [] => 0
  | x :: l => spanB wk a b x + sumB wk a b l
def busyBody (wk : ByteArray) (a b : Int) (_ : Int) (x : Run) (s : Int) (k : Int → Option (Int × Int)) : Option (Int × Int) :=
  bif sEq x.Worker wk then k (w64 (s + (max2 0 (w64 ((min2 x.To b) - (max2 x.From a)))))) else k s
theorem span_bd {wk : ByteArray} {a b : Int} {x : Run} (h : okRun x) : 0 ≤ spanB wk a b x ∧ spanB wk a b x ≤ 1000000000 := by
  obtain ⟨h1, h2, h3, -⟩ := h
  unfold spanB max2 min2
  cases sEq x.Worker wk
  · simp
  · simp only [cond_true]
    split <;> split <;> split <;> omega
theorem busy_val {wk : ByteArray} {a b : Int} (ha : 0 ≤ a) (ha' : a ≤ 1000000000) (hb : 0 ≤ b) (hb' : b ≤ 1000000000) : ∀ (l : List Run) (i s : Int), (∀ x ∈ l, okRun x) → 0 ≤ s → s + 1000000000 * (l.length : Int) ≤ 4000000000000 → rangeS (busyBody wk a b) (fun s => some (s, 0)) i l s = some (s + sumB wk a b l, 0)
  | [], i, s, _, _, _ => by simp [rangeS, sumB]
  | x :: l, i, s, h, h0, h1 => by
    have hx := h x (by simp)
    have hb2 := span_bd (wk := wk) (a := a) (b := b) hx
    have hl : ((x :: l).length : Int) = (l.length : Int) + 1 := by simp
    rw [hl] at h1
    have ih := fun s' hs hs' => busy_val (wk := wk) ha ha' hb hb' l (i + 1) s' (fun y hy => h y (by simp [hy])) hs hs'
    obtain ⟨o1, o2, o3, -⟩ := hx
    simp only [rangeS, busyBody, sumB]
    unfold spanB at hb2 ⊢
    cases hc : sEq x.Worker wk
    · rw [hc] at hb2
      simp only [cond_false]
      rw [ih s h0 (by omega)]
      simp
    · rw [hc] at hb2
      simp only [cond_true] at hb2 ⊢
      have hw : w64 (min2 x.To b - max2 x.From a) = min2 x.To b - max2 x.From a := by
        unfold min2 max2
        refine w64_id ?_ ?_ <;> (split <;> split <;> omega)
      rw [hw, w64_id (by omega) (by omega), ih _ (by omega) (by omega)]
      congr 2
      omega
theorem sum_add {wk : ByteArray} {a m b : Int} (h1 : a ≤ m) (h2 : m ≤ b) : ∀ (l : List Run), (∀ x ∈ l, okRun x) → sumB wk a m l + sumB wk m b l = sumB wk a b l
  | [], _ => rfl
  | x :: l, h => by
    have ih := sum_add (wk := wk) h1 h2 l (fun y hy => h y (by simp [hy]))
    obtain ⟨o1, o2, o3, -⟩ := h x (by simp)
    have hx : spanB wk a m x + spanB wk m b x = spanB wk a b x := by
      unfold spanB min2 max2
      cases sEq x.Worker wk
      · rfl
      · simp only [cond_true]
        repeat' split
        all_goals omega
    simp only [sumB]
    omega
theorem sum_bd {wk : ByteArray} {a b : Int} : ∀ (l : List Run), (∀ x ∈ l, okRun x) → 0 ≤ sumB wk a b l ∧ sumB wk a b l ≤ 1000000000 * (l.length : Int)
  | [], _ => by simp [sumB]
  | x :: l, h => by
    have ih := sum_bd (wk := wk) (a := a) (b := b) l (fun y hy => h y (by simp [hy]))
    have hx := span_bd (wk := wk) (a := a) (b := b) (h x (by simp))
    have hl : ((x :: l).length : Int) = (l.length : Int) + 1 := by simp
    rw [hl]
    simp only [sumB]
    omega
def busyS (l : List Run) (wk : ByteArray) (a b : Int) : Option (Int × Int) :=
  (runsS l).bind fun f => bif f != 0 then some (0, f) else bif !isWordB wk then some (0, 5) else bif !inR 0 1000000000 a || !inR 0 1000000000 b then some (0, 1) else some (sumB wk a b l, 0)
theorem busy_core {l : List Run} {wk : ByteArray} {a b : Int} (hl : l.length ≤ 4611686018427387904) (h : runsS l = some 0) (ha : inR 0 1000000000 a = true) (hb : inR 0 1000000000 b = true) {L : Nat → Int → Int → Option (Int × Int)}
    (hL : ∀ k s v, L (k + 1) s v = bif decide (v < (l.length : Int)) then ((at? l v).bind fun x => busyBody wk a b v x s (fun s' => L k s' (w64 (v + 1)))) else some (s, 0)) : L big 0 0 = some (sumB wk a b l, 0) := by
  obtain ⟨h1, h2⟩ := runsS_ok h
  simp [inR] at ha hb
  rw [rangeS_all (L := fun k s v => L k s v) (body := busyBody wk a b) (e := fun s => some (s, 0)) hl (fun k s v => hL k s v) 0, busy_val ha.1 ha.2 hb.1 hb.2 l 0 0 h2 (by omega) (by omega)]
  simp
theorem busy_prog {l : List Run} {wk : ByteArray} {a b : Int} (hs : smallRuns l) (hw : wk.size ≤ 4611686018427387904) : workers_Busy.f l wk a b = busyS l wk a b := by
  unfold workers_Busy.f busyS workers_isMoment.f
  rw [runs_prog hs]
  obtain ⟨f, hf⟩ := runsS_some l
  simp only [hf, Option.bind_some, within_eq, isWord_prog _ hw]
  cases h2 : f != 0
  · have hf0 : f = 0 := by simpa using h2
    subst hf0
    cases isWordB wk
    · rfl
    · simp only [Bool.not_true, cond_false]
      cases ha : inR 0 1000000000 a <;> cases hb : inR 0 1000000000 b
      · unfold inR at ha hb; simp [ha, hb]
      · unfold inR at ha hb; simp [ha, hb]
      · unfold inR at ha hb; simp [ha, hb]
      · have := busy_core (wk := wk) (L := fun k s v => workers_Busy.l2 workers_Busy.e1 k l wk a b s v) hs.1 hf ha hb (fun k s v => rfl)
        rw [this]
        unfold inR at ha hb
        simp [ha, hb]
  · rfl
theorem busy_ref {l : List Run} {wk : ByteArray} {a b : Int} (hs : smallRuns l) (hw : wk.size ≤ 4611686018427387904) : smithyardref9_Busy.f l wk a b = busyS l wk a b := by
  unfold smithyardref9_Busy.f busyS
  rw [runs_ref hs]
  obtain ⟨f, hf⟩ := runsS_some l
  simp only [hf, Option.bind_some, withinR_eq, isWord_ref _ hw]
  cases h2 : f != 0
  · have hf0 : f = 0 := by simpa using h2
    subst hf0
    cases isWordB wk
    · rfl
    · simp only [Bool.not_true, cond_false]
      cases ha : inR 0 1000000000 a <;> cases hb : inR 0 1000000000 b
      · unfold inR at ha hb; simp [ha, hb]
      · unfold inR at ha hb; simp [ha, hb]
      · unfold inR at ha hb; simp [ha, hb]
      · have := busy_core (wk := wk) (L := fun k s v => smithyardref9_Busy.l2 smithyardref9_Busy.e1 k l wk a b s v) hs.1 hf ha hb (fun k s v => rfl)
        rw [this]
        unfold inR at ha hb
        simp [ha, hb]
  · rfl
theorem busyS_some (l : List Run) (wk : ByteArray) (a b : Int) : ∃ r, busyS l wk a b = some r := by
  obtain ⟨f, hf⟩ := runsS_some l
  unfold busyS
  rw [hf]
  cases h : f != 0 <;> cases h2 : isWordB wk <;> cases h3 : (!inR 0 1000000000 a || !inR 0 1000000000 b) <;> simp [h, h2, h3]
def wasteBody (_ : Int) (x : Run) (s : Int) (k : Int → Option (Int × Int)) : Option (Int × Int) :=
  bif x.End != 1 then k (w64 (s + (w64 (x.To - x.From)))) else k s
def wasteS (l : List Run) : Option (Int × Int) := (runsS l).bind fun f => bif f != 0 then some (0, f) else rangeS wasteBody (fun s => some (s, 0)) 0 l 0
theorem waste_prog {l : List Run} (hs : smallRuns l) : workers_Wasted.f l = wasteS l := by
  unfold workers_Wasted.f wasteS
  rw [runs_prog hs]
  congr 1
  funext f
  congr 1
  exact rangeS_all (L := fun k s v => workers_Wasted.l2 workers_Wasted.e1 k l s v) (body := wasteBody) (e := fun s => some (s, 0)) hs.1 (fun k s v => rfl) 0
theorem waste_ref {l : List Run} (hs : smallRuns l) : smithyardref9_Wasted.f l = wasteS l := by
  unfold smithyardref9_Wasted.f wasteS
  rw [runs_ref hs]
  congr 1
  funext f
  congr 1
  exact rangeS_all (L := fun k s v => smithyardref9_Wasted.l2 smithyardref9_Wasted.e1 k l s v) (body := wasteBody) (e := fun s => some (s, 0)) hs.1 (fun k s v => rfl) 0
theorem wasteS_some (l : List Run) : ∃ r, wasteS l = some r := by
  obtain ⟨f, hf⟩ := runsS_some l
  unfold wasteS
  rw [hf]
  simp only [Option.bind_some]
  cases f != 0
  · refine rangeS_some (fun v x s k hk => ?_) (fun s => ⟨_, rfl⟩) l 0 0
    unfold wasteBody
    cases x.End != 1
    · exact hk _
    · exact hk _
  · exact ⟨_, rfl⟩
theorem WorkersBusyMatchesSpec_pure : WorkersBusyMatchesSpec_Pure := by
  intro l wk a m b hl hw ha hm hb
  simp only [reachBytes] at hl hw
  have wa := wf64 ha
  have wm := wf64 hm
  have wb := wf64 hb
  have hs : smallRuns l := ⟨by omega, fun x hx => by
    have := hl.2 x hx
    obtain ⟨k1, k2, -⟩ := this
    simp only [reachBytes] at k1 k2
    omega⟩
  have hw' : wk.size ≤ 4611686018427387904 := by omega
  unfold smithyardlaw9_WorkersBusyMatchesSpec.f
  rw [slices_Clone_Run_id (by omega)]
  obtain ⟨r, hr⟩ := busyS_some l wk a b
  obtain ⟨q, hq⟩ := wasteS_some l
  obtain ⟨f, hf⟩ := runsS_some l
  simp only [Option.bind_some, awake_true, slices_Equal_Run_self hs.1, busy_prog hs hw', busy_ref hs hw', waste_prog hs, waste_ref hs, runs_prog hs, runs_ref hs, hr, hq, hf, bne_self_eq_false, beq_self_eq_true, cond_true, cond_false, Bool.not_true]
  cases h1 : r.2 != 0
  · simp only [cond_false]
    by_cases h2 : m < a
    · simp [h2]
    · by_cases h3 : b < m
      · simp [h2, h3]
      · rw [decide_eq_false h2, decide_eq_false h3]
        simp only [cond_false, Option.bind_some]
        unfold busyS at hr ⊢
        rw [hf] at hr ⊢
        simp only [Option.bind_some] at hr ⊢
        cases h4 : f != 0
        · have hf0 : f = 0 := by simpa using h4
          subst hf0
          simp only [h4, cond_false] at hr ⊢
          cases h5 : isWordB wk
          · simp only [h5, Bool.not_false, cond_true, Option.some.injEq] at hr
            subst hr
            simp at h1
          · simp only [h5, Bool.not_true, cond_false] at hr ⊢
            cases h6 : inR 0 1000000000 a
            · simp only [h6, Bool.not_false, Bool.true_or, cond_true, Option.some.injEq] at hr
              subst hr
              simp at h1
            · cases h7 : inR 0 1000000000 b
              · simp only [h6, h7, Bool.not_false, Bool.or_true, cond_true, Option.some.injEq] at hr
                subst hr
                simp at h1
              · simp only [h6, h7, Bool.not_true, Bool.or_self, cond_false, Option.some.injEq] at hr
                have h8 : inR 0 1000000000 m = true := by
                  simp [inR] at h6 h7 ⊢
                  omega
                obtain ⟨k1, k2⟩ := runsS_ok hf
                have e := sum_add (wk := wk) (a := a) (m := m) (b := b) (by omega) (by omega) l k2
                have e2 := sum_bd (wk := wk) (a := a) (b := b) l k2
                subst hr
                simp only [h6, h7, h8, Bool.not_true, Bool.or_self, cond_false, Option.bind_some, cond_true, beq_self_eq_true]
                rw [e, w64_id (by omega) (by omega)]
                simp
        · simp only [h4, cond_true, Option.some.injEq] at hr
          subst hr
          simp only at h1
          rw [h1] at h4
          cases h4
  · simp
end Go.Proofs.YtcldjlkgdnjnaaaDoor
