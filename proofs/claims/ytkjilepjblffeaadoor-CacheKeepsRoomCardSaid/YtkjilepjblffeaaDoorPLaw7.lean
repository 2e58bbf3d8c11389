/- Caches: looking up blobs and entries as the laws do; the put event. -/
import Derived.Test.YtkjilepjblffeaaDoorPDo
set_option linter.unusedVariables false
set_option linter.unusedSimpArgs false
namespace Go.Proofs.YtkjilepjblffeaaDoor
open Go Go.Proofs.YtkjilepjblffeaaDoor.Kit
def hasK {α:Type} (key:α→ByteArray) (l:List α) (d:ByteArray):Bool:=l.any (fun x=>sEq (key x) d)
end Go.Proofs.YtkjilepjblffeaaDoor
