/- Words of our own: results that lie in memory; a variable that is filled some steps behind its making. -/
import Derived.Test.YtdmdimhbcdocdaaDoorKitG
set_option linter.unusedSimpArgs false
set_option linter.unusedVariables false
set_option linter.unnecessarySimpa false
namespace Go.Proofs.YtdmdimhbcdocdaaDoor.Kit
open Go Go.RowKit

/-! ### 23. Results in memory -/
section
variable {F:Ctx} {R:Ending→World→Prop} {es es':List En} {L L':Slots} {w:World} {p:List Nat} {i:Nat}
end
end Go.Proofs.YtdmdimhbcdocdaaDoor.Kit
