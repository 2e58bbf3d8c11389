/- Words of our own: arrays in memory, read and written whole. -/
import Derived.Test.YtedkdnhhohcocaaDoorKitI
import Derived.Laws.Rows
import Derived.Laws.Tables
set_option linter.unusedSimpArgs false
set_option linter.unusedVariables false
set_option linter.unnecessarySimpa false
namespace Go.Proofs.YtedkdnhhohcocaaDoor.Kit
open Go Go.RowKit

/-! ### 25. Arrays -/
section
variable {F:Ctx} {R:Ending→World→Prop} {es es':List En} {L L':Slots} {w:World} {p:List Nat} {i:Nat}
end
end Go.Proofs.YtedkdnhhohcocaaDoor.Kit
