/- Plain aids: the order of strings, loops that look back and carry a state, binary search. -/
import Derived.Test.YtamacaieccppaaaGreatDoorPW
import Derived.Lib.Bytealg
set_option linter.unusedVariables false
set_option linter.unusedSimpArgs false
namespace Go.Proofs.YtamacaieccppaaaGreatDoor
open Go Go.Proofs.YtamacaieccppaaaGreatDoor.Kit
def inR (lo hi x:Int):Bool:=decide (lo≤x)&&decide (x≤hi)
theorem sEq_data (a b:ByteArray):sEq a b=decide (a.data.toList=b.data.toList):=by
  unfold sEq
  rw [ByteArray.toList_eq,ByteArray.toList_eq]
  generalize a.data.toList=x
  generalize b.data.toList=y
  by_cases h:x=y <;> simp [h]
theorem sEq_self (a:ByteArray):sEq a a=true:=sEq_iff.2 rfl
theorem each_of {α:Type} {P:α→Prop} {B:Option α→α→Option Int→Option Int} (hB:∀ p x k,B p x k=some 0→k=some 0∧P x) {k0:Option Int} :
    ∀ (l:List α) (p:Option α),rangeP B k0 p l=some 0→k0=some 0∧∀ x∈l,P x
  | [],p,h=>⟨h,fun x hx=>by cases hx⟩
  | x::l,p,h=>by
    obtain ⟨h1,h2⟩:=hB p x _ h
    obtain ⟨h3,h4⟩:=each_of hB l (some x) h1
    refine ⟨h3,fun y hy=>?_⟩
    rcases List.mem_cons.1 hy with rfl | hy
    · exact h2
    · exact h4 y hy
theorem findLoop {α:Type} {c:α→Bool}:∀ (l:List α) (i:Int) ,rangeS (fun v x (s:Unit) f=>bif c x then some v else f s) (fun _=>some (-1)) i l ()=some (match l.findIdx? c with | some n=>i+n | none => -1)
  | [],i=>rfl
  | x::l,i=>by
    simp only [rangeS,List.findIdx?_cons]
    cases hc:c x
    · simp only [cond_false,Bool.false_eq_true,if_false]
      rw [findLoop l (i+1)]
      cases l.findIdx? c with
      | none=>rfl
      | some n =>
        show some (i+1+(n:Int))=some (i+((n+1:Nat):Int))
        congr 1
        omega
    · simp
end Go.Proofs.YtamacaieccppaaaGreatDoor
