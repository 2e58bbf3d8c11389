/- Caches: what two caches merged come to, the plain law of both sides. -/
import Derived.Test.YtadkanllaocdeaaDoorPRef7
set_option linter.unusedVariables false
set_option linter.unusedSimpArgs false
namespace Go.Proofs.YtadkanllaocdeaaDoor
open Go Go.Proofs.YtadkanllaocdeaaDoor.Kit
def insAt {α:Type} (l:List α) (p:Nat) (x:α):List α:=l.take p++[x]++l.drop p
theorem mem_set_or {α:Type} {l:List α} {p:Nat} {y z:α} (h:y∈l.set p z):y=z∨y∈l:=by
  rcases List.mem_or_eq_of_mem_set h with h | h
  · exact .inr h
  · exact .inl h
end Go.Proofs.YtadkanllaocdeaaDoor
