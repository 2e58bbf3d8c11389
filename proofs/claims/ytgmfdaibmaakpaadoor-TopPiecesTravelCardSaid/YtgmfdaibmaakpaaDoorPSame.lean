/- Copies and comparisons of lists: a copy is the list itself, and a list is like itself. -/
import Derived.Test.YtgmfdaibmaakpaaDoorPW
set_option linter.unusedVariables false
set_option linter.unusedSimpArgs false
namespace Go.Proofs.YtgmfdaibmaakpaaDoor
open Go Go.Proofs.YtgmfdaibmaakpaaDoor.Kit
theorem slices_Clone_byte_id {l:List (List Int)} (h:l.length*24≤140737490452480):slices_Clone_byte.f l=some l:=guard?_true (room_of (by omega))
theorem slices_Equal_byte_self {l:List Int} (h:l.length≤4611686018427387904):slices_Equal_byte.f l l=some true:=by
  unfold slices_Equal_byte.f
  rw [bne_self_eq_false]
  refine eqLoop (L:=fun k v=>slices_Equal_byte.l2 slices_Equal_byte.e1 k l l v) h (fun k v=>rfl) (fun x _=>?_)
  simp [sEq]
end Go.Proofs.YtgmfdaibmaakpaaDoor
