/- Copies and comparisons of lists: a copy is the list itself, and a list is like itself. -/
import Derived.Test.YtiecpfnjmlidbaaGreatDoorPW
set_option linter.unusedVariables false
set_option linter.unusedSimpArgs false
namespace Go.Proofs.YtiecpfnjmlidbaaGreatDoor
open Go Go.Proofs.YtiecpfnjmlidbaaGreatDoor.Kit
theorem bS2 {l:List Blob} (h:l.length*48≤140737490452480):bj4.f l=some l:=Y3 (ab6 (by omega))
theorem bE0 {l:List ByteArray} (h:l.length*16≤140737490452480):slices_Clone_string.f l=some l:=Y3 (ab6 (by omega))
theorem cQ8 {l:List Entry} (h:l.length*48≤140737490452480):bG5.f l=some l:=Y3 (ab6 (by omega))
end Go.Proofs.YtiecpfnjmlidbaaGreatDoor
