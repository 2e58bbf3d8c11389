/- Plain aids: lists whose elements change places, told index by index. -/
import Derived.Test.YtkjilepjblffeaaDoorPMrg
set_option linter.unusedVariables false
set_option linter.unusedSimpArgs false
namespace Go.Proofs.YtkjilepjblffeaaDoor
open Go Go.Proofs.YtkjilepjblffeaaDoor.Kit
section
variable {α:Type}
def Mv (d0 d:List α) (f:Nat→Nat):Prop:=d.length=d0.length∧∀ k,d[k]? = d0[f k]?
theorem Mv.refl (d:List α):Mv d d (fun k=>k):=⟨rfl,fun _=>rfl⟩
theorem Mv.then {d0 d1 d2:List α} {f g:Nat→Nat} (h:Mv d0 d1 f) (k:Mv d1 d2 g):Mv d0 d2 (fun i=>f (g i)):=⟨k.1.trans h.1,fun i=>(k.2 i).trans (h.2 _)⟩
theorem Mv.of {d0 d:List α} {f g:Nat→Nat} (h:Mv d0 d f) (e:∀ k,f k=g k):Mv d0 d g:=⟨h.1,fun k=>by rw [h.2,e]⟩
def sw2 (i j k:Nat):Nat:=if k=i then j else if k=j then i else k
theorem Mv.swap {d:List α} {i j:Nat} {x y:α} (hx:d[i]? = some x) (hy:d[j]? = some y):Mv d ((d.set i y).set j x) (sw2 i j):=by
  have hi:=(List.getElem?_eq_some_iff.1 hx).1
  have hj:=(List.getElem?_eq_some_iff.1 hy).1
  refine ⟨by simp,fun k=>?_⟩
  unfold sw2
  rw [List.getElem?_set,List.getElem?_set]
  by_cases h1:j=k
  · subst h1
    rw [if_pos rfl,if_pos (by simpa using hj)]
    by_cases h2:j=i
    · subst h2
      rw [if_pos rfl]
      exact hx.symm
    · rw [if_neg h2,if_pos rfl]
      exact hx.symm
  · rw [if_neg h1]
    by_cases h2:i=k
    · subst h2
      rw [if_pos rfl,if_pos hi,if_pos rfl,hy]
    · rw [if_neg h2,if_neg (Ne.symm h2),if_neg (Ne.symm h1)]
end
end Go.Proofs.YtkjilepjblffeaaDoor
