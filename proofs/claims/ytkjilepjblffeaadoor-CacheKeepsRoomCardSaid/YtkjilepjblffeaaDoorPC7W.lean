/- Caches: what is swept, in plain words. -/
import Derived.Test.YtkjilepjblffeaaDoorPC7E
set_option linter.unusedVariables false
set_option linter.unusedSimpArgs false
namespace Go.Proofs.YtkjilepjblffeaaDoor
open Go Go.Proofs.YtkjilepjblffeaaDoor.Kit
theorem memB_iff {l:List ByteArray} {d:ByteArray}:memB l d=true↔d∈l:=by simp [memB]
end Go.Proofs.YtkjilepjblffeaaDoor
