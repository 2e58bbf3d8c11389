/- Caches: the reference's way to what would go, what goes, and what is whole. -/
import Derived.Test.YtadkanllaocdeaaDoorPLea
set_option linter.unusedVariables false
set_option linter.unusedSimpArgs false
namespace Go.Proofs.YtadkanllaocdeaaDoor
open Go Go.Proofs.YtadkanllaocdeaaDoor.Kit
end Go.Proofs.YtadkanllaocdeaaDoor
