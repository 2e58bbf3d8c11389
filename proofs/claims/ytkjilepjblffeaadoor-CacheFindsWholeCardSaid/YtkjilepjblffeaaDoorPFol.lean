/- Caches: following a list of events; Follow as a whole. -/
import Derived.Test.YtkjilepjblffeaaDoorPDoK
set_option linter.unusedVariables false
set_option linter.unusedSimpArgs false
namespace Go.Proofs.YtkjilepjblffeaaDoor
open Go Go.Proofs.YtkjilepjblffeaaDoor.Kit
end Go.Proofs.YtkjilepjblffeaaDoor

namespace Go.Proofs.YtkjilepjblffeaaDoor
open Go Go.Proofs.YtkjilepjblffeaaDoor.Kit
end Go.Proofs.YtkjilepjblffeaaDoor

namespace Go.Proofs.YtkjilepjblffeaaDoor
open Go Go.Proofs.YtkjilepjblffeaaDoor.Kit
end Go.Proofs.YtkjilepjblffeaaDoor
