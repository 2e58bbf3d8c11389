/- Words of our own: strings.ContainsFunc with the test for what is no sign from 33 to 126; strconv.Atoi; a string's place in another one. -/
import Derived.Test.YtnfgkhmhdefagaaGreatDoorKitX
import Derived.Shelf.GgClosure.StringsIndexFuncTop
import Derived.Laws.RangeString
import Derived.Laws.RangeAny
import Derived.Lib.AtoiErrMem
set_option linter.unusedVariables false
namespace Go.Proofs.YtnfgkhmhdefagaaGreatDoor.Kit
open Go Go.RowKit
end Go.Proofs.YtnfgkhmhdefagaaGreatDoor.Kit
