/- Plain aids: numbers that fit, elements of lists, the loops that compare lists. -/
import Derived.Test.YtkjilepjblffeaaDoorKitP
import GoSem.ClaimJoined
set_option linter.unusedVariables false
set_option linter.unusedSimpArgs false
namespace Go.Proofs.YtkjilepjblffeaaDoor.Kit
open Go
theorem w64_id {n : Int} (h1 : -9223372036854775808 ≤ n) (h2 : n ≤ 9223372036854775807) : w64 n = n := by
  have e : w64 n = if 9223372036854775808 ≤ n % 18446744073709551616 then n % 18446744073709551616 - 18446744073709551616 else n % 18446744073709551616 := by
    unfold w64 IntKind.wrap
    simp [IntKind.bits, IntKind.signed]
  rw [e]
  by_cases h : (9223372036854775808 : Int) ≤ n % 18446744073709551616
  · rw [if_pos h]
    omega
  · rw [if_neg h]
    omega
theorem wf64 {n : Int} (h : (Lit.int .i64 n).wf = true) : -9223372036854775808 ≤ n ∧ n ≤ 9223372036854775807 := by
  simp [Lit.wf, IntKind.min, IntKind.max, IntKind.signed, IntKind.bits] at h
  omega
theorem at?_of {α : Type} {xs : List α} {i : Int} (h0 : 0 ≤ i) (h1 : i < (xs.length : Int)) : ∃ x, at? xs i = some x ∧ xs[i.toNat]? = some x := by
  have hlt : i.toNat < xs.length := by omega
  exact ⟨xs[i.toNat], by simp [at?, h0, hlt], List.getElem?_eq_getElem hlt⟩
theorem at?_take {α : Type} {xs : List α} {n : Nat} {i : Int} (h : i < n) : at? (xs.take n) i = at? xs i := by
  unfold at?
  split
  · rename_i h0
    rw [List.getElem?_take_of_lt (by omega)]
  · rfl
theorem at?_append {α : Type} {xs ys : List α} {i : Int} (h : i < (xs.length : Int)) : at? (xs ++ ys) i = at? xs i := by
  unfold at?
  split
  · rename_i h0
    rw [List.getElem?_append_left (by omega)]
  · rfl
theorem room_of {n m bytes : Nat} (h : (n + m) * bytes ≤ 140737488355328) : room n m bytes = true := by simpa [room] using h
theorem guard?_true {c : Bool} {α : Type} {x : Option α} (h : c = true) : guard? c x = x := by rw [h]; rfl
end Go.Proofs.YtkjilepjblffeaaDoor.Kit
