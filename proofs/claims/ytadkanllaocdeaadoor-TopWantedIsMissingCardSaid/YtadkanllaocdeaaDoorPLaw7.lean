/- Caches: looking up blobs and entries as the laws do; the put event, and what it keeps. -/
import Derived.Test.YtadkanllaocdeaaDoorPDo
set_option linter.unusedVariables false
set_option linter.unusedSimpArgs false
namespace Go.Proofs.YtadkanllaocdeaaDoor
open Go Go.Proofs.YtadkanllaocdeaaDoor.Kit
def hasK {α:Type} (key:α→ByteArray) (l:List α) (d:ByteArray):Bool:=l.any (fun x=>sEq (key x) d)
end Go.Proofs.YtadkanllaocdeaaDoor

namespace Go.Proofs.YtadkanllaocdeaaDoor
open Go Go.Proofs.YtadkanllaocdeaaDoor.Kit
theorem touch_has (t lease:Int) (a3 a4:Bool) (ds:List ByteArray) (d:ByteArray):∀ (l:List Blob),(touchL t lease a3 a4 ds l).any (fun x=>sEq x.Digest d)=l.any (fun x=>sEq x.Digest d)
  | []=>rfl
  | x::l=>by
    have e:(bif memB ds x.Digest then touchB t lease a3 a4 x else x).Digest=x.Digest:=by cases memB ds x.Digest <;> rfl
    have ih:=touch_has t lease a3 a4 ds d l
    unfold touchL at ih ⊢
    rw [List.map_cons,List.any_cons,List.any_cons,e,ih]
end Go.Proofs.YtadkanllaocdeaaDoor
