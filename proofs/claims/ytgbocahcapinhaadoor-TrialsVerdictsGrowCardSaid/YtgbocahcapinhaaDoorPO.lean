/- Plain aids: the order of strings, loops that look back and carry a state, binary search. -/
import Derived.Test.YtgbocahcapinhaaDoorPW
set_option linter.unusedVariables false
set_option linter.unusedSimpArgs false
namespace Go.Proofs.YtgbocahcapinhaaDoor
open Go Go.Proofs.YtgbocahcapinhaaDoor.Kit
def inR (lo hi x:Int):Bool:=decide (lo≤x)&&decide (x≤hi)
theorem sEq_data (a b:ByteArray):sEq a b=decide (a.data.toList=b.data.toList):=by
  unfold sEq
  rw [ByteArray.toList_eq,ByteArray.toList_eq]
  generalize a.data.toList=x
  generalize b.data.toList=y
  by_cases h:x=y <;> simp [h]
theorem each_of {α:Type} {P:α→Prop} {B:Option α→α→Option Int→Option Int} (hB:∀ p x k,B p x k=some 0→k=some 0∧P x) {k0:Option Int} :
    ∀ (l:List α) (p:Option α),rangeP B k0 p l=some 0→k0=some 0∧∀ x∈l,P x
  | [],p,h=>⟨h,fun x hx=>by cases hx⟩
  | x::l,p,h=>by
    obtain ⟨h1,h2⟩:=hB p x _ h
    obtain ⟨h3,h4⟩:=each_of hB l (some x) h1
    refine ⟨h3,fun y hy=>?_⟩
    rcases List.mem_cons.1 hy with rfl | hy
    · exact h2
    · exact h4 y hy
end Go.Proofs.YtgbocahcapinhaaDoor
