/- Copies and comparisons of lists: a copy is the list itself, and a list is like itself. -/
import Derived.Test.YtphbcalfmafpoaaDoorPW
set_option linter.unusedVariables false
set_option linter.unusedSimpArgs false
namespace Go.Proofs.YtphbcalfmafpoaaDoor
open Go Go.Proofs.YtphbcalfmafpoaaDoor.Kit
theorem slices_Clone_string_id {l:List ByteArray} (h:l.length*16≤140737490452480):slices_Clone_string.f l=some l:=guard?_true (room_of (by omega))
theorem slices_Clone_TreeChange_id {l:List TreeChange} (h:l.length*24≤140737490452480):slices_Clone_TreeChange.f l=some l:=guard?_true (room_of (by omega))
theorem slices_Equal_string_self {l:List ByteArray} (h:l.length≤4611686018427387904):slices_Equal_string.f l l=some true:=by
  unfold slices_Equal_string.f
  rw [bne_self_eq_false]
  refine eqLoop (L:=fun k v=>slices_Equal_string.l2 slices_Equal_string.e1 k l l v) h (fun k v=>rfl) (fun x _=>?_)
  simp [sEq]
theorem slices_Equal_TreeChange_self {l:List TreeChange} (h:l.length≤4611686018427387904):slices_Equal_TreeChange.f l l=some true:=by
  unfold slices_Equal_TreeChange.f
  rw [bne_self_eq_false]
  refine eqLoop (L:=fun k v=>slices_Equal_TreeChange.l2 slices_Equal_TreeChange.e1 k l l v) h (fun k v=>rfl) (fun x _=>?_)
  simp [sEq]
end Go.Proofs.YtphbcalfmafpoaaDoor
