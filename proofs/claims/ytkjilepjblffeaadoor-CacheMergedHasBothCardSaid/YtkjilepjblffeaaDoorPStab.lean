/- slices.SortStableFunc: merging in place, and the whole. -/
import Derived.Test.YtkjilepjblffeaaDoorPSort
set_option linter.unusedVariables false
set_option linter.unusedSimpArgs false
namespace Go.Proofs.YtkjilepjblffeaaDoor
open Go Go.Proofs.YtkjilepjblffeaaDoor.Kit
end Go.Proofs.YtkjilepjblffeaaDoor
