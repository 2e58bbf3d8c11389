/- Plain aids: slices.DeleteFunc leaves what is not deleted. -/
import Derived.Test.YtkjilepjblffeaaDoorPO
set_option linter.unusedVariables false
set_option linter.unusedSimpArgs false
namespace Go.Proofs.YtkjilepjblffeaaDoor
open Go Go.Proofs.YtkjilepjblffeaaDoor.Kit
/-! maps that hold only true, as sets -/
end Go.Proofs.YtkjilepjblffeaaDoor
