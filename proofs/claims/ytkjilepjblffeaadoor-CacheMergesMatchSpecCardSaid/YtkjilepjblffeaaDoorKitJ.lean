/- Words of our own: arrays in memory, read and written whole. -/
import Derived.Test.YtkjilepjblffeaaDoorKitI
import Derived.Laws.Rows
import Derived.Laws.Tables
set_option linter.unusedSimpArgs false
set_option linter.unusedVariables false
set_option linter.unnecessarySimpa false
namespace Go.Proofs.YtkjilepjblffeaaDoor.Kit
open Go Go.RowKit

/-! ### 25. Arrays -/
/-- A slice of the call's own that fills its block: the block's cells. -/
theorem Own.cells_eq {α : Type} {enc : α → Value} {h1 : ∀ x, one1 (enc x) = true} {e : TypeId} {H : Hp} {w : World} {n0 c g : Nat} {xs : List α} (h : Own (Kd.scalar enc h1) e H w n0 (some ⟨g, 0, none⟩) c xs) (hl : xs.length = c) :
    w.heap[g]? = some (.cells (xs.map enc).toArray e (0, 0)) := by
  rcases h with ⟨hA, _⟩ | ⟨b, cs, hA, h0, hn, hb, k1, k2, k3, k4⟩
  · cases hA
  · injection hA with hA
    injection hA with hA
    subst hA
    rw [hb]
    have hsz : (Kd.scalar enc h1).sz = 1 := rfl
    rw [hsz] at k3
    congr 2
    apply Array.ext_getElem?
    intro i
    rcases Nat.lt_or_ge i xs.length with hi | hi
    · obtain ⟨cc, hc, hcc⟩ := k4 i _ (List.getElem?_eq_getElem hi)
      have hc : cc = [enc xs[i]] := hc
      subst hc
      have := hcc 0 _ rfl
      rw [hsz] at this
      simp only [Nat.zero_add, Nat.mul_one, Nat.add_zero] at this
      rw [this]
      simp [hi]
    · rw [Array.getElem?_eq_none (by omega)]
      simp [hi]
/-- A load of a whole array or struct. -/
def ldAt (P : Program) (N : Nat) (ops : Array Oper) (i : Nat) (L : Slots) : Option (Nat × Nat × Nat) :=
  match ops[i]? with
  | none => none
  | some o =>
    match okOp N L o with
    | false => none
    | true =>
      match wantL ops L o.guard with
      | some true =>
        match o.op, o.dst with
        | .load t x, some d =>
          match evL L x with
          | .pointer (some ⟨g, 0, none⟩) =>
            match P.underlying t with
            | some (.array _ _) => match P.info? t with
              | some inf => some (d, g, inf.size)
              | none => none
            | _ => none
          | _ => none
        | _, _ => none
      | _ => none
/-- A store of a whole array. -/
def stwAt (P : Program) (N : Nat) (ops : Array Oper) (i : Nat) (L : Slots) : Option (Nat × Nat × Value) :=
  match ops[i]? with
  | none => none
  | some o =>
    match okOp N L o with
    | false => none
    | true =>
      match wantL ops L o.guard with
      | some true =>
        match o.op, o.dst with
        | .store t a x, none =>
          match evL L a with
          | .pointer (some ⟨g, 0, none⟩) =>
            match P.info? t with
            | some inf => some (g, inf.size, evL L x)
            | none => none
          | _ => none
        | _, _ => none
      | _ => none
section
variable {F : Ctx} {R : Ending → World → Prop} {es es' : List En} {L L' : Slots} {w : World} {p : List Nat} {i : Nat}
theorem RgL.loadRow {d g n : Nat} {cs : Array Value} {e : TypeId} {fr : Nat × Nat} (h : ldAt F.P F.N (opsAt F.c p) i L = some (d, g, n)) (hb : w.heap[g]? = some (.cells cs e fr)) (hn : cs.size = n)
    (k : RgL F R p es (i + 1) ((d, .agg cs) :: L) w) : RgL F R p es i L w := by
  intro a hf
  unfold ldAt at h
  split at h
  · simp at h
  · rename_i o ho
    split at h
    · simp at h
    · rename_i hok
      split at h
      · rename_i hw
        split at h
        · rename_i t x d' hop hd
          split at h
          · rename_i g' hx
            split at h
            · rename_i len el hu
              split at h
              · rename_i inf hinf
                injection h with h
                injection h with h1 h
                injection h with h2 h3
                subst h1 h2 h3
                obtain ⟨he, hd2⟩ := okOp_spec hok hf
                have hlt : i < (opsAt F.c p).size := (Array.getElem?_eq_some_iff.1 ho).1
                have e1 : (opsAt F.c p).size - i = ((opsAt F.c p).size - (i + 1)) + 1 := by omega
                rw [e1, List.range'_succ]
                simp only [wpOps, ho, wantL_spec hw hf, if_true]
                refine .inl ?_
                have hrun := run_loadVar_row (P := F.P) w g' e t cs fr _ hb hu rfl (by rw [hinf]; simp [hn])
                have hexec : (execOp (evL L) o).run F.P w = .ok (.value (.agg cs)) w := by
                  simp only [execOp, hop, hx, Instr.loadAt, Instr.sureAddr, Sem.run_bind, Sem.run_pure, Result.andThen_ok, hrun]
                unfold Oper.wp
                rw [he, hexec, Oper.upon_value]
                have hf' := hf.put (d := o.dst) hd2 (.agg cs)
                rw [hd] at hf' ⊢
                exact k _ hf'
              · simp at h
            · simp at h
          · simp at h
        · simp at h
      · simp at h
theorem owr_all (vs : List Value) : ∀ (old : Array Value), old.size = vs.length → owr old 0 vs = vs.toArray := by
  intro old h
  apply Array.ext_getElem?
  intro m
  rw [owr_get vs old 0 m (by omega)]
  by_cases hm : m < vs.length
  · rw [if_pos (by omega)]
    simp
  · rw [if_neg (by omega), Array.getElem?_eq_none (by omega)]
    simp [hm]
theorem RgL.storeRow {g n : Nat} {old cs : Array Value} {e : TypeId} (h : stwAt F.P F.N (opsAt F.c p) i L = some (g, n, .agg cs)) (hb : w.heap[g]? = some (.cells old e (0, 0))) (hn : cs.size = n) (ho : old.size = n) (h1 : ∀ v ∈ cs.toList, one1 v = true)
    (k : ∀ w', StU w w' g e → w'.heap[g]? = some (.cells cs e (0, 0)) → RgL F R p es (i + 1) L w') : RgL F R p es i L w := by
  intro a hf
  unfold stwAt at h
  split at h
  · simp at h
  · rename_i o hop0
    split at h
    · simp at h
    · rename_i hok
      split at h
      · rename_i hw
        split at h
        · rename_i t x y hop hd
          split at h
          · rename_i g' hx
            split at h
            · rename_i inf hinf
              injection h with h
              injection h with h1' h
              injection h with h2 h3
              subst h1' h2
              obtain ⟨he, hd2⟩ := okOp_spec hok hf
              have hlt : i < (opsAt F.c p).size := (Array.getElem?_eq_some_iff.1 hop0).1
              have e1 : (opsAt F.c p).size - i = ((opsAt F.c p).size - (i + 1)) + 1 := by omega
              rw [e1, List.range'_succ]
              simp only [wpOps, hop0, wantL_spec hw hf, if_true]
              refine .inl ?_
              obtain ⟨w', hrun, hz, hU⟩ := run_storeCells (P := F.P) (g := g') (off := 0) cs.toList 0 h1 hb (by simp; omega)
              have hU' : Upd w w' g' (.cells cs e (0, 0)) := by
                by_cases hnil : cs.toList = []
                · rw [hz hnil]
                  have hcs : cs = #[] := by simpa using hnil
                  subst hcs
                  have : old = #[] := by apply Array.eq_empty_of_size_eq_zero; rw [ho, ← hn]; rfl
                  subst this
                  exact ⟨rfl, rfl, rfl, rfl, hb, fun _ _ => rfl⟩
                · have := hU hnil
                  rw [Nat.add_zero, owr_all _ _ (by simp; omega)] at this
                  simpa using this
              have hexec : (execOp (evL L) o).run F.P w = .ok .skip w' := by
                have hsz : cs.size = inf.size := hn
                simp only [execOp, hop, Instr.storeAt, hx, h3, Instr.sureAddr]
                simp only [storeVar, Sem.run_bind, Sem.run_pure, Result.andThen_ok, run_sizeOf hinf, Value.cells, hsz]
                simp [hrun]
              unfold Oper.wp
              rw [he, hexec, Oper.upon_skip]
              rw [hd]
              exact k w' ⟨⟨_, hb⟩, _, hU'⟩ hU'.at_ a hf
            · simp at h
          · simp at h
        · simp at h
      · simp at h
end
/-- A result that is a whole array in memory. -/
theorem load_arr {P : Program} {w : World} {g n : Nat} {t len el e : TypeId} {fr : Nat × Nat} {cs : Array Value} (hb : w.heap[g]? = some (.cells cs e fr)) (hu : P.underlying t = some (.array len el)) (hi : (P.info? t).map (·.size) = some n) (hn : cs.size = n) : (loadVar t ⟨g, 0, none⟩).run P w = .ok (.agg cs) w :=
  run_loadVar_row w g e t cs fr _ hb hu rfl (by rw [hi, hn])
theorem Own.pl {α : Type} {d : Kd α} {e : TypeId} {H : Hp} {w : World} {n0 g c : Nat} {xs : List α} (h : Own d e H w n0 (some ⟨g, 0, none⟩) c xs) : n0 ≤ g ∧ H g = none := by
  rcases h with ⟨h, _⟩ | ⟨b, cs, hA, h0, hn, _⟩
  · cases h
  · injection hA with hA
    injection hA with hA
    subst hA
    exact ⟨h0, hn⟩
theorem one1_map {α : Type} {enc : α → Value} (h1 : ∀ x, one1 (enc x) = true) (xs : List α) : ∀ v ∈ (xs.map enc).toArray.toList, one1 v = true := by
  intro v hv
  simp at hv
  obtain ⟨x, _, rfl⟩ := hv
  exact h1 x
theorem adr0 {g k : Nat} : (⟨g, 0, none⟩ : Addr).add k = ⟨g, k + 0, none⟩ := by rw [add_plain, Nat.zero_add]; rfl
theorem adr1 {g k o : Nat} : ((⟨g, 0, none⟩ : Addr).add k).add o = ⟨g, k + o, none⟩ := by rw [add_plain, add_plain, Nat.zero_add]
end Go.Proofs.YtkjilepjblffeaaDoor.Kit
