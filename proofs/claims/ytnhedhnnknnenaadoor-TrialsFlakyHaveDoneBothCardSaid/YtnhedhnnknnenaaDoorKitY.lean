/- Words of our own: lists of strings of the call's own, sorted and made compact by the library. -/
import Derived.Test.YtnhedhnnknnenaaDoorKitX
import Derived.Sort.Grow
import Derived.Sort.EncStr
import Derived.Lib.SlicesCompact
import Derived.Lib.RowBridge
set_option linter.unusedVariables false
namespace Go.Proofs.YtnhedhnnknnenaaDoor.Kit
open Go Go.RowKit Go.Sort

/-! ### 70. Strings as lists of bytes -/
def sortB (xs:List ByteArray):List ByteArray:=((xs.map (fun s=>s.data.toList)).mergeSort fun x y=>decide (x≤y)).map fun l=>⟨l.toArray⟩
/-! ### 71. The sort -/
/-! ### 72. Compact -/
end Go.Proofs.YtnhedhnnknnenaaDoor.Kit
