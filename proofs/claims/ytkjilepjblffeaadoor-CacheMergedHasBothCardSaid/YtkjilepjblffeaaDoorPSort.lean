/- slices.SortStableFunc sorts, and of equals the earlier comes first. -/
import Derived.Test.YtkjilepjblffeaaDoorPShf
set_option linter.unusedVariables false
set_option linter.unusedSimpArgs false
namespace Go.Proofs.YtkjilepjblffeaaDoor
open Go Go.Proofs.YtkjilepjblffeaaDoor.Kit
theorem at_nat {α:Type} {xs:List α} {i:Nat} (h:i<xs.length):at? xs (i:Int)=some xs[i]:=by simp [at?,h]
def ltU (a b:Blob):Bool:=decide (a.Used<b.Used)
theorem ltU_swo:Swo ltU:=⟨fun x y h=>by simp [ltU] at *; omega,fun x y z h k=>by simp [ltU] at *; omega⟩
end Go.Proofs.YtkjilepjblffeaaDoor
