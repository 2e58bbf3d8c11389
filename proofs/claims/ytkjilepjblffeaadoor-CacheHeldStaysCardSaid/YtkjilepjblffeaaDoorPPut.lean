/- Caches: what is put keeps a cache right; touching it afterwards. -/
import Derived.Test.YtkjilepjblffeaaDoorPLaw7
set_option linter.unusedVariables false
set_option linter.unusedSimpArgs false
namespace Go.Proofs.YtkjilepjblffeaaDoor
open Go Go.Proofs.YtkjilepjblffeaaDoor.Kit
theorem ins_perm {α:Type} (l:List α) (p:Nat) (x:α):(insAt l p x).Perm (x::l):=by
  unfold insAt
  have h:(l.take p++[x]++l.drop p).Perm (x::(l.take p++l.drop p)):=by
    rw [List.append_assoc]
    exact List.perm_middle
  rw [List.take_append_drop] at h
  exact h
theorem touch_has (t lease:Int) (a3 a4:Bool) (ds:List ByteArray) (d:ByteArray):∀ (l:List Blob),(touchL t lease a3 a4 ds l).any (fun x=>sEq x.Digest d)=l.any (fun x=>sEq x.Digest d)
  | []=>rfl
  | x::l=>by
    have e:(bif memB ds x.Digest then touchB t lease a3 a4 x else x).Digest=x.Digest:=by cases memB ds x.Digest <;> rfl
    have ih:=touch_has t lease a3 a4 ds d l
    unfold touchL at ih ⊢
    rw [List.map_cons,List.any_cons,List.any_cons,e,ih]
end Go.Proofs.YtkjilepjblffeaaDoor
