/- Copies and comparisons of lists: a copy is the list itself, and a list is like itself. -/
import Derived.Test.YteljhhgffmpgnaaDoorPW
set_option linter.unusedVariables false
set_option linter.unusedSimpArgs false
namespace Go.Proofs.YteljhhgffmpgnaaDoor
open Go Go.Proofs.YteljhhgffmpgnaaDoor.Kit
theorem slices_Clone_Pair_id {l:List Pair} (h:l.length*32≤140737490452480):slices_Clone_Pair.f l=some l:=guard?_true (room_of (by omega))
theorem slices_Clone_Span_id {l:List Span} (h:l.length*16≤140737490452480):slices_Clone_Span.f l=some l:=guard?_true (room_of (by omega))
theorem slices_Clone_string_id {l:List ByteArray} (h:l.length*16≤140737490452480):slices_Clone_string.f l=some l:=guard?_true (room_of (by omega))
theorem slices_Equal_Pair_self {l:List Pair} (h:l.length≤4611686018427387904):slices_Equal_Pair.f l l=some true:=by
  unfold slices_Equal_Pair.f
  rw [bne_self_eq_false]
  refine eqLoop (L:=fun k v=>slices_Equal_Pair.l2 slices_Equal_Pair.e1 k l l v) h (fun k v=>rfl) (fun x _=>?_)
  simp [sEq]
theorem slices_Equal_Span_self {l:List Span} (h:l.length≤4611686018427387904):slices_Equal_Span.f l l=some true:=by
  unfold slices_Equal_Span.f
  rw [bne_self_eq_false]
  refine eqLoop (L:=fun k v=>slices_Equal_Span.l2 slices_Equal_Span.e1 k l l v) h (fun k v=>rfl) (fun x _=>?_)
  simp [sEq]
theorem slices_Equal_string_self {l:List ByteArray} (h:l.length≤4611686018427387904):slices_Equal_string.f l l=some true:=by
  unfold slices_Equal_string.f
  rw [bne_self_eq_false]
  refine eqLoop (L:=fun k v=>slices_Equal_string.l2 slices_Equal_string.e1 k l l v) h (fun k v=>rfl) (fun x _=>?_)
  simp [sEq]
end Go.Proofs.YteljhhgffmpgnaaDoor
