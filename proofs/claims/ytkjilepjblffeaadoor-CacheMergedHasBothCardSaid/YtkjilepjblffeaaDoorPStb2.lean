/- slices.SortStableFunc: merging in place by halves, and the whole. -/
import Derived.Test.YtkjilepjblffeaaDoorPStab
set_option linter.unusedVariables false
set_option linter.unusedSimpArgs false
namespace Go.Proofs.YtkjilepjblffeaaDoor
open Go Go.Proofs.YtkjilepjblffeaaDoor.Kit
end Go.Proofs.YtkjilepjblffeaaDoor
