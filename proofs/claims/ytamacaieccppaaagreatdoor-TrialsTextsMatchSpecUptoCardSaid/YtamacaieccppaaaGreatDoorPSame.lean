/- Copies and comparisons of lists: a copy is the list itself, and a list is like itself. -/
import Derived.Test.YtamacaieccppaaaGreatDoorPW
set_option linter.unusedVariables false
set_option linter.unusedSimpArgs false
namespace Go.Proofs.YtamacaieccppaaaGreatDoor
open Go Go.Proofs.YtamacaieccppaaaGreatDoor.Kit
theorem slices_Clone_TestRun_id {l:List TestRun} (h:l.length*56≤140737490452480):slices_Clone_TestRun.f l=some l:=guard?_true (room_of (by omega))
theorem slices_Equal_TestRun_self {l:List TestRun} (h:l.length≤4611686018427387904):slices_Equal_TestRun.f l l=some true:=by
  unfold slices_Equal_TestRun.f
  rw [bne_self_eq_false]
  refine eqLoop (L:=fun k v=>slices_Equal_TestRun.l2 slices_Equal_TestRun.e1 k l l v) h (fun k v=>rfl) (fun x _=>?_)
  simp [sEq]
end Go.Proofs.YtamacaieccppaaaGreatDoor
