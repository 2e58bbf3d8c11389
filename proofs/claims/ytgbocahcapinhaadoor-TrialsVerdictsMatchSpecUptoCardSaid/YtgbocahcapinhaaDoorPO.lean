/- Plain aids: the order of strings, loops that look back and carry a state, binary search. -/
import Derived.Test.YtgbocahcapinhaaDoorPW
set_option linter.unusedVariables false
set_option linter.unusedSimpArgs false
namespace Go.Proofs.YtgbocahcapinhaaDoor
open Go Go.Proofs.YtgbocahcapinhaaDoor.Kit
def inR (lo hi x:Int):Bool:=decide (lo≤x)&&decide (x≤hi)
theorem sEq_data (a b:ByteArray):sEq a b=decide (a.data.toList=b.data.toList):=by
  unfold sEq
  rw [ByteArray.toList_eq,ByteArray.toList_eq]
  generalize a.data.toList=x
  generalize b.data.toList=y
  by_cases h:x=y <;> simp [h]
end Go.Proofs.YtgbocahcapinhaaDoor
