/- Copies and comparisons of lists: a copy is the list itself, and a list is like itself. -/
import Derived.Test.YtkjilepjblffeaaDoorPW
set_option linter.unusedVariables false
set_option linter.unusedSimpArgs false
namespace Go.Proofs.YtkjilepjblffeaaDoor
open Go Go.Proofs.YtkjilepjblffeaaDoor.Kit
theorem slices_Clone_Blob_id {l:List Blob} (h:l.length*48≤140737488355328):slices_Clone_Blob.f l=some l:=guard?_true (room_of (by omega))
theorem slices_Clone_string_id {l:List ByteArray} (h:l.length*16≤140737488355328):slices_Clone_string.f l=some l:=guard?_true (room_of (by omega))
theorem slices_Clone_Entry_id {l:List Entry} (h:l.length*48≤140737488355328):slices_Clone_Entry.f l=some l:=guard?_true (room_of (by omega))
theorem slices_Equal_string_self {l:List ByteArray} (h:l.length≤4611686018427387904):slices_Equal_string.f l l=some true:=by
  unfold slices_Equal_string.f
  rw [bne_self_eq_false]
  refine eqLoop (L:=fun k v=>slices_Equal_string.l2 slices_Equal_string.e1 k l l v) h (fun k v=>rfl) (fun x _=>?_)
  simp [sEq]
end Go.Proofs.YtkjilepjblffeaaDoor
