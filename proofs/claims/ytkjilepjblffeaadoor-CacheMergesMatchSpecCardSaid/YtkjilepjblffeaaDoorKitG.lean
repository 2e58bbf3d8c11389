/- Words of our own: stores into the elements of a slice of the call's own; variables that are written again. -/
import Derived.Test.YtkjilepjblffeaaDoorKitM
set_option linter.unusedSimpArgs false
set_option linter.unusedVariables false
set_option linter.unnecessarySimpa false
namespace Go.Proofs.YtkjilepjblffeaaDoor.Kit
open Go Go.RowKit

/-! ### 22. Stores into elements -/
theorem owr_get (vs : List Value) : ∀ (cs : Array Value) (k m : Nat), k + vs.length ≤ cs.size → (owr cs k vs)[m]? = if k ≤ m ∧ m < k + vs.length then vs[m - k]? else cs[m]? := by
  induction vs with
  | nil =>
    intro cs k m h
    have : ¬ (k ≤ m ∧ m < k + ([] : List Value).length) := by simp
    rw [if_neg this]
    rfl
  | cons v vs ih =>
    intro cs k m h
    simp only [List.length_cons] at h
    simp only [owr, List.length_cons]
    rw [ih _ _ _ (by simp; omega)]
    by_cases h1 : k + 1 ≤ m ∧ m < k + 1 + vs.length
    · rw [if_pos h1, if_pos (by omega), show m - k = (m - (k + 1)) + 1 by omega, List.getElem?_cons_succ]
    · rw [if_neg h1]
      by_cases h2 : m = k
      · subst h2
        rw [if_pos (by omega), Nat.sub_self, List.getElem?_cons_zero, Array.getElem?_setIfInBounds_self_of_lt (by omega)]
      · rw [if_neg (by omega), Array.getElem?_setIfInBounds_ne (by omega)]
/-- These cells with some of them written over. -/
def owl (c : List Value) (o : Nat) (vs : List Value) : List Value := c.take o ++ vs ++ c.drop (o + vs.length)
theorem owl_get {c vs : List Value} {o j : Nat} (h : o + vs.length ≤ c.length) : (owl c o vs)[j]? = if o ≤ j ∧ j < o + vs.length then vs[j - o]? else c[j]? := by
  have hl : (c.take o).length = o := by simp; omega
  unfold owl
  by_cases h1 : o ≤ j ∧ j < o + vs.length
  · rw [if_pos h1, List.append_assoc, List.getElem?_append_right (by omega), hl, List.getElem?_append_left (by omega)]
  · rw [if_neg h1]
    rcases Nat.lt_or_ge j o with h2 | h2
    · rw [List.append_assoc, List.getElem?_append_left (by omega), List.getElem?_take_of_lt h2]
    · have h3 : o + vs.length ≤ j := by omega
      rw [List.getElem?_append_right (by rw [List.length_append, hl]; omega), List.getElem?_drop, List.length_append, hl]
      congr 1
      omega
/-- Block g, of cells of type e, holds something else now; all else is as it was. -/
def StU (w w' : World) (g : Nat) (e : TypeId) : Prop := (∃ cs, w.heap[g]? = some (.cells cs e (0, 0))) ∧ ∃ o, Upd w w' g o
section
variable {w w' w0 : World} {g : Nat} {e : TypeId} {H : Hp}
theorem StU.ext (h : StU w w' g e) (hE : Ext w0 w) (hg : w0.heap.size ≤ g) : Ext w0 w' := by
  obtain ⟨_, o, hU⟩ := h
  exact hU.ext hE hg
theorem StU.sub (h : StU w w' g e) (hH : Sub H w) (hg : H g = none) : Sub H w' := by
  obtain ⟨_, o, hU⟩ := h
  exact hU.sub hH hg
/-- A block of another type. -/
theorem StU.blk {b : Nat} {cs : Array Value} {e2 : TypeId} {fr : Nat × Nat} (h : StU w w' g e) (f : w.heap[b]? = some (.cells cs e2 fr)) (hne : e2 ≠ e) : w'.heap[b]? = some (.cells cs e2 fr) := by
  obtain ⟨⟨cs0, hg⟩, o, hU⟩ := h
  rw [hU.other b (by intro he; subst he; rw [hg] at f; injection f with f; injection f with _ f; exact hne f.symm), f]
/-- Another block. -/
theorem StU.blk' {b : Nat} {o' : Obj} (h : StU w w' g e) (f : w.heap[b]? = some o') (hne : b ≠ g) : w'.heap[b]? = some o' := by
  obtain ⟨_, o, hU⟩ := h
  rw [hU.other b hne, f]
theorem StU.own {α : Type} {d : Kd α} {e2 : TypeId} {A : Option Addr} {c n0 : Nat} {xs : List α} (h : StU w w' g e) (f : Own d e2 H w n0 A c xs) (hne : e2 ≠ e) : Own d e2 H w' n0 A c xs := by
  rcases f with f | ⟨b, cs, hA, h0, hn, hb, r⟩
  · exact .inl f
  · exact .inr ⟨b, cs, hA, h0, hn, h.blk hb hne, r⟩
theorem StU.mown {κ ν : Type} {enc : κ → Value} {kd : Kd ν} {ag : Bool} {n0 b : Nat} {m : List (κ × ν)} (h : StU w w' g e) (f : MOwn enc kd ag H w n0 b m) : MOwn enc kd ag H w' n0 b m := by
  obtain ⟨⟨cs0, hg⟩, o, hU⟩ := h
  obtain ⟨h0, h1, es, c, h2, h3⟩ := f
  exact ⟨h0, h1, es, c, (hU.other b (by intro he; subst he; rw [hg] at h2; cases h2)).trans h2, h3⟩
end
section
variable {F : Ctx} {R : Ending → World → Prop} {es es' : List En} {L L' : Slots} {w : World} {p : List Nat} {i : Nat}
/-- RgL.store, where the blocks' cells are not written out. -/
theorem RgL.storeAny {g off : Nat} {v : Value} {cs : Array Value} {e : TypeId} (h : stAt F.P F.N (opsAt F.c p) i L = some (⟨g, off, none⟩, v)) (hb : w.heap[g]? = some (.cells cs e (0, 0)))
    (hle : off + v.cells.toList.length ≤ cs.size) (k : ∀ w', Upd w w' g (.cells (owr cs off v.cells.toList) e (0, 0)) → RgL F R p es (i + 1) L w') : RgL F R p es i L w :=
  RgL.store h hb (by simpa using hle) rfl k
/-- A store into an element, or into a part of it. -/
theorem RgL.storeOwn {α : Type} {kd : Kd α} {H : Hp} {n0 c o g : Nat} {e : TypeId} {ix : Int} {xs : List α} {x x' : α} {v : Value} {c0 : List Value} {a : Addr}
    (h : stAt F.P F.N (opsAt F.c p) i L = some (a, v)) (hO : Own kd e H w n0 (some ⟨g, 0, none⟩) c xs) (hx : at? xs ix = some x) (ha : a = (⟨g, ix.toNat * kd.sz + o, none⟩ : Addr))
    (hc : ∀ w', Ext w w' → ∀ j v, c0[j]? = some v → w'.cell? (((⟨g, 0, none⟩ : Addr).add (ix.toNat * kd.sz)).add j) = some v) (hl : c0.length = kd.sz) (hle : o + v.cells.toList.length ≤ c0.length)
    (hK : kd.K H x' (owl c0 o v.cells.toList)) (k : ∀ w', StU w w' g e → n0 ≤ g → H g = none → Own kd e H w' n0 (some ⟨g, 0, none⟩) c (xs.set ix.toNat x') → RgL F R p es (i + 1) L w') : RgL F R p es i L w := by
  rcases hO with ⟨hA, _⟩ | ⟨b, cs, hA, h0, hn, hb, h1, h2, h3, h4⟩
  · cases hA
  · injection hA with hA
    injection hA with hA
    subst hA
    obtain ⟨hx0, hx1, hx2⟩ := at?_some hx
    have hlt : ix.toNat < xs.length := by omega
    have hmul : ix.toNat * kd.sz + kd.sz ≤ cs.size := by
      rw [h3]
      have : (ix.toNat + 1) * kd.sz ≤ c * kd.sz := Nat.mul_le_mul_right _ (by omega)
      rw [Nat.add_mul] at this
      omega
    subst ha
    have hcs : ∀ j v, c0[j]? = some v → cs[ix.toNat * kd.sz + j]? = some v := by
      intro j v hv
      have := hc w (Ext.refl w) j v hv
      rw [add_plain, add_plain] at this
      simpa [World.cell?, hb] using this
    refine RgL.storeAny h hb (by omega) ?_
    intro w' hU
    refine k w' ⟨⟨cs, hb⟩, _, hU⟩ h0 hn (.inr ⟨g, _, rfl, h0, hn, hU.at_, by simpa using h1, h2, by rw [owr_size]; exact h3, ?_⟩)
    intro m y hy
    rw [List.getElem?_set] at hy
    by_cases hm : ix.toNat = m
    · subst hm
      rw [if_pos rfl, if_pos hlt] at hy
      injection hy with hy
      subst hy
      refine ⟨_, hK, fun j u hj => ?_⟩
      rw [owr_get _ _ _ _ (by omega)]
      rw [owl_get hle] at hj
      by_cases hr : o ≤ j ∧ j < o + v.cells.toList.length
      · rw [if_pos hr] at hj
        rw [if_pos (by omega), show 0 + ix.toNat * kd.sz + j - (ix.toNat * kd.sz + o) = j - o by omega]
        exact hj
      · rw [if_neg hr] at hj
        rw [if_neg (by omega), Nat.zero_add]
        exact hcs j u hj
    · rw [if_neg hm] at hy
      obtain ⟨cc, hcK, hcc⟩ := h4 m y hy
      refine ⟨cc, hcK, fun j u hj => ?_⟩
      have hjl := (List.getElem?_eq_some_iff.1 hj).1
      rw [kd.len hcK] at hjl
      have hout : ¬ (ix.toNat * kd.sz + o ≤ 0 + m * kd.sz + j ∧ 0 + m * kd.sz + j < ix.toNat * kd.sz + o + v.cells.toList.length) := by
        rcases Nat.lt_or_ge m ix.toNat with hlt' | hlt'
        · have : (m + 1) * kd.sz ≤ ix.toNat * kd.sz := Nat.mul_le_mul_right _ hlt'
          rw [Nat.add_mul] at this
          omega
        · have : (ix.toNat + 1) * kd.sz ≤ m * kd.sz := Nat.mul_le_mul_right _ (by omega)
          rw [Nat.add_mul] at this
          omega
      rw [owr_get _ _ _ _ (by omega), if_neg hout]
      exact hcc j u hj
/-- A store into a variable in memory. -/
theorem RgL.storeBox {g off : Nat} {v : Value} {cs cs' : Array Value} {e : TypeId} (h : stAt F.P F.N (opsAt F.c p) i L = some (⟨g, off, none⟩, v)) (hb : w.heap[g]? = some (.cells cs e (0, 0)))
    (hle : Nat.ble (off + v.cells.toList.length) cs.size = true) (hcs : owr cs off v.cells.toList = cs') (k : ∀ w', StU w w' g e → w'.heap[g]? = some (.cells cs' e (0, 0)) → RgL F R p es (i + 1) L w') : RgL F R p es i L w :=
  RgL.store h hb hle hcs (fun w' hU => k w' ⟨⟨cs, hb⟩, _, hU⟩ hU.at_)
/-- An array that was made just now is a slice of the call's own. -/
theorem Own.made {α : Type} {kd : Kd α} {H : Hp} {n0 c g : Nat} {e : TypeId} {cs : Array Value} {xs : List α} (h0 : n0 ≤ g) (hn : H g = none) (hb : w.heap[g]? = some (.cells cs e (0, 0))) (hl : xs.length = c) (hc : c ≤ maxLen) (hs : cs.size = c * kd.sz) (hr : Kd.Rep kd H cs 0 xs) :
    Own kd e H w n0 (some ⟨g, 0, none⟩) c xs := .inr ⟨g, cs, rfl, h0, hn, hb, by omega, hc, hs, hr⟩
end
end Go.Proofs.YtkjilepjblffeaaDoor.Kit
