/- Copies and comparisons of lists: a copy is the list itself, and a list is like itself. -/
import Derived.Test.YtgbocahcapinhaaDoorPW
set_option linter.unusedVariables false
set_option linter.unusedSimpArgs false
namespace Go.Proofs.YtgbocahcapinhaaDoor
open Go Go.Proofs.YtgbocahcapinhaaDoor.Kit
theorem slices_Clone_TestRun_id {l:List TestRun} (h:l.length*56≤140737490452480):slices_Clone_TestRun.f l=some l:=guard?_true (room_of (by omega))
end Go.Proofs.YtgbocahcapinhaaDoor
