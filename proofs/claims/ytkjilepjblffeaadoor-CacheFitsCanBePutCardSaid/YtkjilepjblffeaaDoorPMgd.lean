/- Caches: what two caches merged come to, the plain law of both sides. -/
import Derived.Test.YtkjilepjblffeaaDoorPRef7
set_option linter.unusedVariables false
set_option linter.unusedSimpArgs false
namespace Go.Proofs.YtkjilepjblffeaaDoor
open Go Go.Proofs.YtkjilepjblffeaaDoor.Kit
def insAt {α:Type} (l:List α) (p:Nat) (x:α):List α:=l.take p++[x]++l.drop p
end Go.Proofs.YtkjilepjblffeaaDoor
