/- When works end: what the program and the reference compute, and how parts add up. -/
import Derived.Test.YtcldjlkgdnjnaaaDoorPW9
set_option linter.unusedVariables false
set_option linter.unusedSimpArgs false
namespace Go.Proofs.YtcldjlkgdnjnaaaDoor
open Go Go.Proofs.YtcldjlkgdnjnaaaDoor.Kit
def endsGo : List Span → Int → Int → Int × Int
  | [], l, a => (a, l)
  | s :: t, l, a => if s.To ≤ a then endsGo t l a else if l ≤ s.From - a then (a, l) else endsGo t (l - max (s.From - a) 0) s.To
def endAt (st : List Span) (l a : Int) : Int := (endsGo st l a).1 + (endsGo st l a).2
def okSpans (st : List Span) : Prop := ∀ s ∈ st, 0 ≤ s.From ∧ s.From ≤ 1000000000 ∧ 0 ≤ s.To ∧ s.To ≤ 1000000000 ∧ s.From < s.To
theorem standsS_ok {l : List Span} (h : standsS l = some 0) : okSpans l := by
  have key : ∀ (l : List Span) (p : Option Span), rangeP standsB (some 0) p l = some 0 → okSpans l := by
    intro l
    induction l with
    | nil => intro p _ s hs; cases hs
    | cons x t ih =>
      intro p h
      simp only [rangeP, standsB] at h
      cases ha : (!inR 0 1000000000 x.From || !inR 0 1000000000 x.To)
      · rw [ha] at h
        simp only [cond_false] at h
        cases hb : (decide (x.To ≤ x.From) || prevB (fun y => decide (x.From < y.To)) p)
        · rw [hb] at h
          simp only [cond_false] at h
          intro s hs
          rcases List.mem_cons.1 hs with rfl | hs
          · simp [inR] at ha hb
            omega
          · exact ih _ h s hs
        · rw [hb] at h
          simp at h
      · rw [ha] at h
        simp at h
  unfold standsS at h
  cases hc : decide (20 < (l.length : Int))
  · rw [hc] at h
    exact key l none h
  · rw [hc] at h
    simp at h
theorem endsGo_bd : ∀ (st : List Span), okSpans st → ∀ (l a : Int), 1 ≤ l → 0 ≤ a → a ≤ 1000000000 → 1 ≤ (endsGo st l a).2 ∧ (endsGo st l a).2 ≤ l ∧ 0 ≤ (endsGo st l a).1 ∧ (endsGo st l a).1 ≤ 1000000000
  | [], _, l, a, h1, h2, h3 => by simp [endsGo]; omega
  | s :: t, hs, l, a, h1, h2, h3 => by
    have h0 := hs s (by simp)
    have ht : okSpans t := fun x hx => hs x (by simp [hx])
    unfold endsGo
    by_cases c1 : s.To ≤ a
    · rw [if_pos c1]
      exact endsGo_bd t ht l a h1 h2 h3
    · rw [if_neg c1]
      by_cases c2 : l ≤ s.From - a
      · rw [if_pos c2]
        simp only
        omega
      · rw [if_neg c2]
        have := endsGo_bd t ht (l - max (s.From - a) 0) s.To (by omega) (by omega) (by omega)
        omega
theorem endAt_ge : ∀ (st : List Span), okSpans st → ∀ (l a : Int), 1 ≤ l → a + l ≤ endAt st l a
  | [], _, l, a, h => by simp [endAt, endsGo]
  | s :: t, hs, l, a, h => by
    have h0 := hs s (by simp)
    have ht : okSpans t := fun x hx => hs x (by simp [hx])
    unfold endAt endsGo
    by_cases c1 : s.To ≤ a
    · rw [if_pos c1]
      exact endAt_ge t ht l a h
    · rw [if_neg c1]
      by_cases c2 : l ≤ s.From - a
      · rw [if_pos c2]
        simp only
        omega
      · rw [if_neg c2]
        have := endAt_ge t ht (l - max (s.From - a) 0) s.To (by omega)
        unfold endAt at this
        omega
theorem endAt_add : ∀ (st : List Span), okSpans st → ∀ (l1 l2 a : Int), 1 ≤ l1 → 1 ≤ l2 → endAt st (l1 + l2) a = endAt st l2 (endAt st l1 a)
  | [], _, l1, l2, a, h1, h2 => by simp [endAt, endsGo]; omega
  | s :: t, hs, l1, l2, a, h1, h2 => by
    have h0 := hs s (by simp)
    have ht : okSpans t := fun x hx => hs x (by simp [hx])
    have skip : ∀ l a, s.To ≤ a → endAt (s :: t) l a = endAt t l a := fun l a h => by unfold endAt; rw [endsGo, if_pos h]
    have stop : ∀ l a, ¬ s.To ≤ a → l ≤ s.From - a → endAt (s :: t) l a = a + l := fun l a h h' => by unfold endAt; rw [endsGo, if_neg h, if_pos h']
    have wait : ∀ l a, ¬ s.To ≤ a → ¬ l ≤ s.From - a → endAt (s :: t) l a = endAt t (l - max (s.From - a) 0) s.To := fun l a h h' => by unfold endAt; rw [endsGo, if_neg h, if_neg h']
    by_cases c1 : s.To ≤ a
    · rw [skip _ _ c1, skip _ _ c1, skip]
      · exact endAt_add t ht l1 l2 a h1 h2
      · have := endAt_ge t ht l1 a h1
        omega
    · by_cases c2 : l1 ≤ s.From - a
      · rw [stop l1 a c1 c2]
        by_cases c3 : l1 + l2 ≤ s.From - a
        · rw [stop _ _ c1 c3, stop _ _ (by omega) (by omega)]
          omega
        · rw [wait _ _ c1 c3, wait _ _ (by omega) (by omega)]
          congr 1
          omega
      · rw [wait l1 a c1 c2, wait (l1 + l2) a c1 (by omega)]
        have hm := endAt_ge t ht (l1 - max (s.From - a) 0) s.To (by omega)
        rw [skip _ _ (by omega), ← endAt_add t ht _ l2 s.To (by omega) h2]
        congr 1
        omega
def secsI (w : Worker) (size : Int) : Int := (size + w.Speed - 1) / w.Speed
theorem secs_bd {w : Worker} {size : Int} (h1 : 1 ≤ w.Speed) (h2 : w.Speed ≤ 1000) (h3 : 1 ≤ size) (h4 : size ≤ 1000000) : 1 ≤ secsI w size ∧ secsI w size ≤ 1001000 := by
  unfold secsI
  constructor
  · exact (Int.le_ediv_iff_mul_le (by omega)).2 (by omega)
  · exact Int.le_trans (Int.ediv_le_self _ (by omega)) (by omega)
theorem secs_w {w : Worker} {size : Int} (h1 : 1 ≤ w.Speed) (h2 : w.Speed ≤ 1000) (h3 : 1 ≤ size) (h4 : size ≤ 1000000) : w64 ((w64 ((w64 (size + w.Speed)) - 1)).tdiv w.Speed) = secsI w size := by
  rw [w64_id (n := size + w.Speed) (by omega) (by omega), w64_id (n := size + w.Speed - 1) (by omega) (by omega)]
  have := secs_bd h1 h2 h3 h4
  unfold secsI at *
  rw [Int.tdiv_eq_ediv_of_nonneg (by omega), w64_id (by omega) (by omega)]
theorem seconds_prog {w : Worker} {size : Int} (h1 : 1 ≤ w.Speed) (h2 : w.Speed ≤ 1000) (h3 : 1 ≤ size) (h4 : size ≤ 1000000) : workers_seconds.f w size = some (secsI w size) := by
  have : (w.Speed != 0) = true := by simp; omega
  unfold workers_seconds.f
  rw [this, secs_w h1 h2 h3 h4]
  rfl
theorem seconds_ref {w : Worker} {size : Int} (h1 : 1 ≤ w.Speed) (h2 : w.Speed ≤ 1000) (h3 : 1 ≤ size) (h4 : size ≤ 1000000) : smithyardref9_seconds.f w size = some (secsI w size) := by
  have : (w.Speed != 0) = true := by simp; omega
  unfold smithyardref9_seconds.f
  rw [this, secs_w h1 h2 h3 h4]
  rfl
/-- The body of the program's loop. -/
def endsB (i : Int) (x : Span) (s : Int × Int) (k : Int × Int → Option (Int × Bool)) (e : Int × Int → Option (Int × Bool)) : Option (Int × Bool) :=
  bif decide (x.To ≤ s.2) then k s else bif decide (s.2 < x.From) then (bif decide (s.1 ≤ w64 (x.From - s.2)) then e s else k (w64 (s.1 - w64 (x.From - s.2)), x.To)) else k (s.1, x.To)
theorem ends_loop {w : Worker} (hl : w.Stands.length ≤ 4611686018427387904) (l a : Int) (e1 : Worker → Int → Int → Option (Int × Bool)) :
    workers_ends.l2 e1 big w l a 0 = rangeS (fun i x s k => endsB i x s k (fun s => e1 w s.1 s.2)) (fun s => e1 w s.1 s.2) 0 w.Stands (l, a) := by
  refine rangeS_all (L := fun k (s : Int × Int) v => workers_ends.l2 e1 k w s.1 s.2 v) hl (fun k s v => ?_) (l, a)
  simp only [workers_ends.l2, workers_ends.j3, workers_ends.j4, endsB]
def endsBR (i : Int) (x : Span) (s : Int × Int) (k : Int × Int → Option (Int × Bool)) (e : Int × Int → Option (Int × Bool)) : Option (Int × Bool) :=
  bif decide (x.To ≤ s.2) then k s else bif decide (s.1 ≤ w64 (x.From - s.2)) then e s else k (w64 (s.1 - max2 (w64 (x.From - s.2)) 0), x.To)
theorem endsR_loop {w : Worker} (hl : w.Stands.length ≤ 4611686018427387904) (l a : Int) (e1 : Worker → Int → Int → Option (Int × Bool)) :
    smithyardref9_ends.l2 e1 big w l a 0 = rangeS (fun i x s k => endsBR i x s k (fun s => e1 w s.1 s.2)) (fun s => e1 w s.1 s.2) 0 w.Stands (l, a) := by
  refine rangeS_all (L := fun k (s : Int × Int) v => smithyardref9_ends.l2 e1 k w s.1 s.2 v) hl (fun k s v => ?_) (l, a)
  simp only [smithyardref9_ends.l2, smithyardref9_ends.j3, endsBR]
theorem ends_val (e : Int × Int → Option (Int × Bool)) : ∀ (st : List Span), okSpans st → ∀ (i l a : Int), 1 ≤ l → l ≤ 1001000 → 0 ≤ a → a ≤ 1000000000 →
    rangeS (fun i x s k => endsB i x s k e) e i st (l, a) = e ((endsGo st l a).2, (endsGo st l a).1)
  | [], _, i, l, a, _, _, _, _ => rfl
  | s :: t, hs, i, l, a, h1, h2, h3, h4 => by
    have h0 := hs s (by simp)
    have ht : okSpans t := fun x hx => hs x (by simp [hx])
    simp only [rangeS, endsB, endsGo]
    rw [w64_id (n := s.From - a) (by omega) (by omega)]
    by_cases c1 : s.To ≤ a
    · rw [decide_eq_true c1, if_pos c1, cond_true]
      exact ends_val e t ht _ l a h1 h2 h3 h4
    · rw [decide_eq_false c1, if_neg c1, cond_false]
      by_cases c2 : a < s.From
      · rw [decide_eq_true c2, cond_true]
        by_cases c3 : l ≤ s.From - a
        · rw [decide_eq_true c3, if_pos c3, cond_true]
        · rw [decide_eq_false c3, if_neg c3, cond_false, w64_id (by omega) (by omega), show max (s.From - a) 0 = s.From - a by omega]
          exact ends_val e t ht _ _ _ (by omega) (by omega) (by omega) (by omega)
      · rw [decide_eq_false c2, cond_false, if_neg (by omega), show l - max (s.From - a) 0 = l by omega]
        exact ends_val e t ht _ _ _ (by omega) (by omega) (by omega) (by omega)
theorem endsR_val (e : Int × Int → Option (Int × Bool)) : ∀ (st : List Span), okSpans st → ∀ (i l a : Int), 1 ≤ l → l ≤ 1001000 → 0 ≤ a → a ≤ 1000000000 →
    rangeS (fun i x s k => endsBR i x s k e) e i st (l, a) = e ((endsGo st l a).2, (endsGo st l a).1)
  | [], _, i, l, a, _, _, _, _ => rfl
  | s :: t, hs, i, l, a, h1, h2, h3, h4 => by
    have h0 := hs s (by simp)
    have ht : okSpans t := fun x hx => hs x (by simp [hx])
    simp only [rangeS, endsBR, endsGo]
    rw [w64_id (n := s.From - a) (by omega) (by omega)]
    by_cases c1 : s.To ≤ a
    · rw [decide_eq_true c1, if_pos c1, cond_true]
      exact endsR_val e t ht _ l a h1 h2 h3 h4
    · rw [decide_eq_false c1, if_neg c1, cond_false]
      by_cases c3 : l ≤ s.From - a
      · rw [decide_eq_true c3, if_pos c3, cond_true]
      · have hm : max2 (s.From - a) 0 = max (s.From - a) 0 := by unfold max2; split <;> omega
        rw [decide_eq_false c3, if_neg c3, cond_false, hm, w64_id (by omega) (by omega)]
        exact endsR_val e t ht _ _ _ (by omega) (by omega) (by omega) (by omega)
/-- What Ends answers. -/
def endsS (w : Worker) (size start : Int) : Option (Int × Bool × Int) :=
  (workerS w).bind fun f => bif f != 0 then some (0, false, f) else bif !inR 1 1000000 size || !inR 0 1000000000 start then some (0, false, 1) else
  bif decide (start < w.From) || decide (w.To < endAt w.Stands (secsI w size) start) then some (0, false, 0) else some (endAt w.Stands (secsI w size) start, true, 0)
structure OkWorker (w : Worker) : Prop where
  s1 : 1 ≤ w.Speed
  s2 : w.Speed ≤ 1000
  f1 : 0 ≤ w.From
  t1 : 0 ≤ w.To
  t2 : w.To ≤ 1000000000
  st : okSpans w.Stands
theorem workerS_ok {w : Worker} (h : workerS w = some 0) : OkWorker w := by
  unfold workerS at h
  cases h1 : isWordB w.Name
  · rw [h1] at h; simp at h
  rw [h1] at h
  simp only [Bool.not_true, cond_false] at h
  obtain ⟨f, hf, h⟩ := Option.bind_eq_some_iff.1 h
  cases h2 : f != 0
  · rw [h2] at h
    simp only [cond_false] at h
    cases h3 : (!inR 1 20 w.Slots || !inR 1 1000 w.Speed || !inR 0 1000000000 w.From || !inR 0 1000000000 w.To)
    · rw [h3] at h
      simp only [cond_false] at h
      cases h4 : decide (w.To ≤ w.From)
      · rw [h4] at h
        simp only [cond_false] at h
        have hst := standsS_ok h
        simp [inR] at h3
        exact ⟨by omega, by omega, by omega, by omega, by omega, hst⟩
      · rw [h4] at h; simp at h
    · rw [h3] at h; simp at h
  · rw [h2] at h
    simp only [cond_true, Option.some.injEq] at h
    subst h
    simp at h2
theorem ends_prog {w : Worker} {size start : Int} (hw : smallWorker w) : workers_Ends.f w size start = endsS w size start := by
  unfold workers_Ends.f workers_checkSize.f endsS workers_isMoment.f
  rw [worker_prog hw]
  obtain ⟨f, hf⟩ := workerS_some w
  rw [hf]
  simp only [Option.bind_some, within_eq]
  cases h2 : f != 0
  · have hf0 : f = 0 := by simpa using h2
    subst hf0
    have ok := workerS_ok hf
    simp only [cond_false]
    cases h3 : inR 1 1000000 size
    · unfold inR at h3; simp [h3, inR]
    · have h3' := h3
      unfold inR at h3'
      cases h4 : inR 0 1000000000 start
      · unfold inR at h4; simp [h3', h4, inR]
      · have h4' := h4
        unfold inR at h4'
        simp only [h3', h4', h3, h4, Bool.not_true, cond_false, Option.bind_some, Bool.or_self, bne_self_eq_false]
        simp at h3' h4'
        unfold workers_ends.f
        cases c : decide (start < w.From)
        · have hb := secs_bd ok.s1 ok.s2 h3'.1 h3'.2
          have hg := endsGo_bd w.Stands ok.st (secsI w size) start hb.1 h4'.1 h4'.2
          rw [cond_false, seconds_prog ok.s1 ok.s2 h3'.1 h3'.2, Option.bind_some, ends_loop hw.2.2, ends_val _ _ ok.st _ _ _ hb.1 hb.2 h4'.1 h4'.2]
          unfold workers_ends.e1
          simp only
          rw [w64_id (by omega) (by omega)]
          show ((bif decide (w.To < endAt w.Stands (secsI w size) start) then some (0, false) else some (endAt w.Stands (secsI w size) start, true)).bind _) = _
          cases decide (w.To < endAt w.Stands (secsI w size) start) <;> rfl
        · rfl
  · simp [h2]
theorem ends_ref {w : Worker} {size start : Int} (hw : smallWorker w) : smithyardref9_Ends.f w size start = endsS w size start := by
  unfold smithyardref9_Ends.f endsS
  rw [worker_ref hw]
  obtain ⟨f, hf⟩ := workerS_some w
  rw [hf]
  simp only [Option.bind_some, withinR_eq]
  cases h2 : f != 0
  · have hf0 : f = 0 := by simpa using h2
    subst hf0
    have ok := workerS_ok hf
    simp only [cond_false]
    cases h3 : inR 1 1000000 size
    · unfold inR at h3; simp [h3, inR]
    · have h3' := h3
      unfold inR at h3'
      cases h4 : inR 0 1000000000 start
      · unfold inR at h4; simp [h3', h4, inR]
      · have h4' := h4
        unfold inR at h4'
        simp only [h3', h4', h3, h4, Bool.not_true, cond_false, Option.bind_some, Bool.or_self]
        simp at h3' h4'
        unfold smithyardref9_ends.f
        cases c : decide (start < w.From)
        · have hb := secs_bd ok.s1 ok.s2 h3'.1 h3'.2
          have hg := endsGo_bd w.Stands ok.st (secsI w size) start hb.1 h4'.1 h4'.2
          rw [cond_false, seconds_ref ok.s1 ok.s2 h3'.1 h3'.2, Option.bind_some, endsR_loop hw.2.2, endsR_val _ _ ok.st _ _ _ hb.1 hb.2 h4'.1 h4'.2]
          unfold smithyardref9_ends.e1
          simp only
          rw [w64_id (by omega) (by omega)]
          show ((some (endAt w.Stands (secsI w size) start, decide (endAt w.Stands (secsI w size) start ≤ w.To))).bind _) = _
          by_cases d : w.To < endAt w.Stands (secsI w size) start
          · rw [decide_eq_true d, decide_eq_false (show ¬ endAt w.Stands (secsI w size) start ≤ w.To by omega)]
            rfl
          · rw [decide_eq_false d, decide_eq_true (show endAt w.Stands (secsI w size) start ≤ w.To by omega)]
            rfl
        · rfl
  · simp [h2]
end Go.Proofs.YtcldjlkgdnjnaaaDoor
