/- Caches: what two caches merged come to, the plain law of both sides. -/
import Derived.Test.YtkjilepjblffeaaDoorPRef7
set_option linter.unusedVariables false
set_option linter.unusedSimpArgs false
namespace Go.Proofs.YtkjilepjblffeaaDoor
open Go Go.Proofs.YtkjilepjblffeaaDoor.Kit
def insAt {α:Type} (l:List α) (p:Nat) (x:α):List α:=l.take p++[x]++l.drop p
theorem ins_len {α:Type} {l:List α} {p:Nat} {x:α}:(insAt l p x).length=l.length+1:=by
  unfold insAt
  simp
  omega
theorem ins_mem {α:Type} {l:List α} {p:Nat} {x y:α} (h:y∈insAt l p x):y=x∨y∈l:=by
  unfold insAt at h
  rcases List.mem_append.1 h with h | h
  · rcases List.mem_append.1 h with h | h
    · exact .inr (List.mem_of_mem_take h)
    · exact .inl (by simpa using h)
  · exact .inr (List.mem_of_mem_drop h)
theorem mem_set_or {α:Type} {l:List α} {p:Nat} {y z:α} (h:y∈l.set p z):y=z∨y∈l:=by
  rcases List.mem_or_eq_of_mem_set h with h | h
  · exact .inr h
  · exact .inl h
end Go.Proofs.YtkjilepjblffeaaDoor
