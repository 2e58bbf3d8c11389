/- Copies and comparisons of lists: a copy is the list itself, and a list is like itself. -/
import Derived.Test.YtedkdnhhohcocaaDoorPW
set_option linter.unusedVariables false
set_option linter.unusedSimpArgs false
namespace Go.Proofs.YtedkdnhhohcocaaDoor
open Go Go.Proofs.YtedkdnhhohcocaaDoor.Kit
theorem slices_Clone_TestCase_id {l:List TestCase} (h:l.length*24≤140737490452480):slices_Clone_TestCase.f l=some l:=guard?_true (room_of (by omega))
theorem slices_Clone_string_id {l:List ByteArray} (h:l.length*16≤140737490452480):slices_Clone_string.f l=some l:=guard?_true (room_of (by omega))
theorem slices_Equal_string_self {l:List ByteArray} (h:l.length≤4611686018427387904):slices_Equal_string.f l l=some true:=by
  unfold slices_Equal_string.f
  rw [bne_self_eq_false]
  refine eqLoop (L:=fun k v=>slices_Equal_string.l2 slices_Equal_string.e1 k l l v) h (fun k v=>rfl) (fun x _=>?_)
  simp [sEq]
theorem slices_Equal_TestCase_self {l:List TestCase} (h:l.length≤4611686018427387904):slices_Equal_TestCase.f l l=some true:=by
  unfold slices_Equal_TestCase.f
  rw [bne_self_eq_false]
  refine eqLoop (L:=fun k v=>slices_Equal_TestCase.l2 slices_Equal_TestCase.e1 k l l v) h (fun k v=>rfl) (fun x _=>?_)
  simp [sEq]
end Go.Proofs.YtedkdnhhohcocaaDoor
