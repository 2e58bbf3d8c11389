/- What the form of claims asks of the program's heading, reckoned once. -/
import Derived.Test.YtjdnnkdhajhdkaaGreatDoorRows
import Derived.Test.YtjdnnkdhajhdkaaGreatDoorChecked
import Derived.JoinedOf
import Derived.SevenTiedAt
import Derived.KernelRfl
set_option linter.unusedVariables false
namespace Go.Proofs.YtjdnnkdhajhdkaaGreatDoor
open Go
def headChars:List Char:=[Char.ofNat 104,Char.ofNat 97,Char.ofNat 114,Char.ofNat 110,Char.ofNat 101,Char.ofNat 115,Char.ofNat 115,Char.ofNat 32,Char.ofNat 55,Char.ofNat 56,Char.ofNat 56,Char.ofNat 48,Char.ofNat 51,Char.ofNat 52,Char.ofNat 99,Char.ofNat 56,Char.ofNat 52,Char.ofNat 49,Char.ofNat 99,Char.ofNat 54,Char.ofNat 49,Char.ofNat 49,Char.ofNat 56,Char.ofNat 100,Char.ofNat 101,Char.ofNat 49,Char.ofNat 48,Char.ofNat 101,Char.ofNat 50,Char.ofNat 102,Char.ofNat 50,Char.ofNat 56,Char.ofNat 54,Char.ofNat 98,Char.ofNat 57,Char.ofNat 51,Char.ofNat 102,Char.ofNat 100,Char.ofNat 52,Char.ofNat 98,Char.ofNat 102,Char.ofNat 56,Char.ofNat 52,Char.ofNat 97,Char.ofNat 102,Char.ofNat 101,Char.ofNat 56,Char.ofNat 99,Char.ofNat 100,Char.ofNat 53,Char.ofNat 49,Char.ofNat 53,Char.ofNat 55,Char.ofNat 100,Char.ofNat 52,Char.ofNat 56,Char.ofNat 99,Char.ofNat 51,Char.ofNat 50,Char.ofNat 55,Char.ofNat 49,Char.ofNat 57,Char.ofNat 100,Char.ofNat 57,Char.ofNat 99,Char.ofNat 99,Char.ofNat 56,Char.ofNat 99,Char.ofNat 49,Char.ofNat 56,Char.ofNat 51,Char.ofNat 49,Char.ofNat 32,Char.ofNat 99,Char.ofNat 117,Char.ofNat 116,Char.ofNat 32,Char.ofNat 97,Char.ofNat 116,Char.ofNat 32,Char.ofNat 115,Char.ofNat 109,Char.ofNat 105,Char.ofNat 116,Char.ofNat 104,Char.ofNat 121,Char.ofNat 97,Char.ofNat 114,Char.ofNat 100,Char.ofNat 47,Char.ofNat 115,Char.ofNat 109,Char.ofNat 105,Char.ofNat 116,Char.ofNat 104,Char.ofNat 121,Char.ofNat 97,Char.ofNat 114,Char.ofNat 100,Char.ofNat 108,Char.ofNat 97,Char.ofNat 119,Char.ofNat 55,Char.ofNat 46,Char.ofNat 67,Char.ofNat 97,Char.ofNat 99,Char.ofNat 104,Char.ofNat 101,Char.ofNat 68,Char.ofNat 111,Char.ofNat 101,Char.ofNat 115,Char.ofNat 77,Char.ofNat 97,Char.ofNat 116,Char.ofNat 99,Char.ofNat 104,Char.ofNat 83,Char.ofNat 112,Char.ofNat 101,Char.ofNat 99]
theorem fact_order:Tryz.prog.initOrder=String.ofList headChars:=by kernel_rfl
theorem fact_chars:Tryz.prog.initOrder.toList=headChars:=by rw [fact_order]; exact String.toList_ofList
def headWords:List (List Char):=[[Char.ofNat 104,Char.ofNat 97,Char.ofNat 114,Char.ofNat 110,Char.ofNat 101,Char.ofNat 115,Char.ofNat 115],[Char.ofNat 55,Char.ofNat 56,Char.ofNat 56,Char.ofNat 48,Char.ofNat 51,Char.ofNat 52,Char.ofNat 99,Char.ofNat 56,Char.ofNat 52,Char.ofNat 49,Char.ofNat 99,Char.ofNat 54,Char.ofNat 49,Char.ofNat 49,Char.ofNat 56,Char.ofNat 100,Char.ofNat 101,Char.ofNat 49,Char.ofNat 48,Char.ofNat 101,Char.ofNat 50,Char.ofNat 102,Char.ofNat 50,Char.ofNat 56,Char.ofNat 54,Char.ofNat 98,Char.ofNat 57,Char.ofNat 51,Char.ofNat 102,Char.ofNat 100,Char.ofNat 52,Char.ofNat 98,Char.ofNat 102,Char.ofNat 56,Char.ofNat 52,Char.ofNat 97,Char.ofNat 102,Char.ofNat 101,Char.ofNat 56,Char.ofNat 99,Char.ofNat 100,Char.ofNat 53,Char.ofNat 49,Char.ofNat 53,Char.ofNat 55,Char.ofNat 100,Char.ofNat 52,Char.ofNat 56,Char.ofNat 99,Char.ofNat 51,Char.ofNat 50,Char.ofNat 55,Char.ofNat 49,Char.ofNat 57,Char.ofNat 100,Char.ofNat 57,Char.ofNat 99,Char.ofNat 99,Char.ofNat 56,Char.ofNat 99,Char.ofNat 49,Char.ofNat 56,Char.ofNat 51,Char.ofNat 49],[Char.ofNat 99,Char.ofNat 117,Char.ofNat 116],[Char.ofNat 97,Char.ofNat 116],[Char.ofNat 115,Char.ofNat 109,Char.ofNat 105,Char.ofNat 116,Char.ofNat 104,Char.ofNat 121,Char.ofNat 97,Char.ofNat 114,Char.ofNat 100,Char.ofNat 47,Char.ofNat 115,Char.ofNat 109,Char.ofNat 105,Char.ofNat 116,Char.ofNat 104,Char.ofNat 121,Char.ofNat 97,Char.ofNat 114,Char.ofNat 100,Char.ofNat 108,Char.ofNat 97,Char.ofNat 119,Char.ofNat 55,Char.ofNat 46,Char.ofNat 67,Char.ofNat 97,Char.ofNat 99,Char.ofNat 104,Char.ofNat 101,Char.ofNat 68,Char.ofNat 111,Char.ofNat 101,Char.ofNat 115,Char.ofNat 77,Char.ofNat 97,Char.ofNat 116,Char.ofNat 99,Char.ofNat 104,Char.ofNat 83,Char.ofNat 112,Char.ofNat 101,Char.ofNat 99]]
theorem fact_words:wordsSigns Tryz.prog.initOrder.toList=headWords:=by
  rw [fact_chars]
  kernel_rfl
theorem fact_lifts:Tryz.prog.headLifts=[]:=by
  unfold Program.headLifts
  rw [fact_words]
  kernel_rfl
theorem fact_enter:Tryz.prog.mayEnter=true:=by
  unfold Program.mayEnter
  rw [fact_words]
  kernel_rfl
theorem fact_final:Tryz.prog.liftsFinal=false:=by
  unfold Program.liftsFinal
  rw [fact_words,fact_lifts]
  kernel_rfl
theorem fact_make:Tryz.prog.make=some .cut:=by
  unfold Program.make
  rw [fact_words,fact_lifts]
  kernel_rfl
theorem fact_main : Tryz.prog.mainIs = some (true, "788034c841c6118de10e2f286b93fd4bf84afe8cd5157d48c32719d9cc8c1831".toList) := by
  unfold Program.mainIs
  rw [fact_words]
  kernel_rfl
end Go.Proofs.YtjdnnkdhajhdkaaGreatDoor
