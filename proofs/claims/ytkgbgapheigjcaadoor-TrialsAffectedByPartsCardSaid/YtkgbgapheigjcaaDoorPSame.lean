/- Copies and comparisons of lists: a copy is the list itself, and a list is like itself. -/
import Derived.Test.YtkgbgapheigjcaaDoorPW
set_option linter.unusedVariables false
set_option linter.unusedSimpArgs false
namespace Go.Proofs.YtkgbgapheigjcaaDoor
open Go Go.Proofs.YtkgbgapheigjcaaDoor.Kit
theorem slices_Equal_string_self {l:List ByteArray} (h:l.length≤4611686018427387904):slices_Equal_string.f l l=some true:=by
  unfold slices_Equal_string.f
  rw [bne_self_eq_false]
  refine eqLoop (L:=fun k v=>slices_Equal_string.l2 slices_Equal_string.e1 k l l v) h (fun k v=>rfl) (fun x _=>?_)
  simp [sEq]
end Go.Proofs.YtkgbgapheigjcaaDoor
