/- Copies and comparisons of lists: a copy is the list itself, and a list is like itself. -/
import Derived.Test.YtdccapcfbielcaaGreatDoorPW
set_option linter.unusedVariables false
set_option linter.unusedSimpArgs false
namespace Go.Proofs.YtdccapcfbielcaaGreatDoor
open Go Go.Proofs.YtdccapcfbielcaaGreatDoor.Kit
theorem slices_Clone_Run_id {l:List Run} (h:l.length*56≤140737490452480):slices_Clone_Run.f l=some l:=guard?_true (room_of (by omega))
theorem slices_Equal_Run_self {l:List Run} (h:l.length≤4611686018427387904):slices_Equal_Run.f l l=some true:=by
  unfold slices_Equal_Run.f
  rw [bne_self_eq_false]
  refine eqLoop (L:=fun k v=>slices_Equal_Run.l2 slices_Equal_Run.e1 k l l v) h (fun k v=>rfl) (fun x _=>?_)
  simp [sEq]
end Go.Proofs.YtdccapcfbielcaaGreatDoor
