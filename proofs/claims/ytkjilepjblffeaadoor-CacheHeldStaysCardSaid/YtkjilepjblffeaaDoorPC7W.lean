/- Caches: what is swept, in plain words. -/
import Derived.Test.YtkjilepjblffeaaDoorPC7E
set_option linter.unusedVariables false
set_option linter.unusedSimpArgs false
namespace Go.Proofs.YtkjilepjblffeaaDoor
open Go Go.Proofs.YtkjilepjblffeaaDoor.Kit
theorem memB_iff {l:List ByteArray} {d:ByteArray}:memB l d=true↔d∈l:=by simp [memB]
theorem filter_two {α:Type} (p:α→Bool):∀ (l:List α),(l.filter p).length+(l.filter (fun b=>!p b)).length=l.length
  | []=>rfl
  | x::l=>by
    have:=filter_two p l
    rw [List.filter_cons,List.filter_cons]
    cases p x <;> simp <;> omega
end Go.Proofs.YtkjilepjblffeaaDoor
