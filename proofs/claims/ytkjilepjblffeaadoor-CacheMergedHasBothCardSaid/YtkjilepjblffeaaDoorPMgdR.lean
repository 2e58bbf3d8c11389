/- Caches: what two caches merged come to, by the reference; and what both sides say alike. -/
import Derived.Test.YtkjilepjblffeaaDoorPMgd
set_option linter.unusedVariables false
set_option linter.unusedSimpArgs false
namespace Go.Proofs.YtkjilepjblffeaaDoor
open Go Go.Proofs.YtkjilepjblffeaaDoor.Kit
end Go.Proofs.YtkjilepjblffeaaDoor
