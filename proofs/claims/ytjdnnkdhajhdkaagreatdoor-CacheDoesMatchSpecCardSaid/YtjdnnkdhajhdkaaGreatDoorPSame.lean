/- Copies and comparisons of lists: a copy is the list itself, and a list is like itself. -/
import Derived.Test.YtjdnnkdhajhdkaaGreatDoorPW
set_option linter.unusedVariables false
set_option linter.unusedSimpArgs false
namespace Go.Proofs.YtjdnnkdhajhdkaaGreatDoor
open Go Go.Proofs.YtjdnnkdhajhdkaaGreatDoor.Kit
theorem slices_Clone_Blob_id {l:List Blob} (h:l.length*48≤140737490452480):slices_Clone_Blob.f l=some l:=guard?_true (room_of (by omega))
theorem slices_Clone_string_id {l:List ByteArray} (h:l.length*16≤140737490452480):slices_Clone_string.f l=some l:=guard?_true (room_of (by omega))
theorem slices_Clone_Entry_id {l:List Entry} (h:l.length*48≤140737490452480):slices_Clone_Entry.f l=some l:=guard?_true (room_of (by omega))
end Go.Proofs.YtjdnnkdhajhdkaaGreatDoor
