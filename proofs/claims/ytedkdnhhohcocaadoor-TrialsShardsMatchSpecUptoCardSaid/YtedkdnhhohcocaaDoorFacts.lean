/- What the form of claims asks of the program's heading, reckoned once. -/
import Derived.Test.YtedkdnhhohcocaaDoorRows
import Derived.Test.YtedkdnhhohcocaaDoorChecked
import Derived.JoinedOf
import Derived.SevenTiedAt
import Derived.KernelRfl
set_option linter.unusedVariables false
namespace Go.Proofs.YtedkdnhhohcocaaDoor
open Go
def headChars:List Char:=[Char.ofNat 104,Char.ofNat 97,Char.ofNat 114,Char.ofNat 110,Char.ofNat 101,Char.ofNat 115,Char.ofNat 115,Char.ofNat 32,Char.ofNat 98,Char.ofNat 53,Char.ofNat 51,Char.ofNat 100,Char.ofNat 98,Char.ofNat 48,Char.ofNat 55,Char.ofNat 48,Char.ofNat 56,Char.ofNat 52,Char.ofNat 50,Char.ofNat 53,Char.ofNat 48,Char.ofNat 101,Char.ofNat 54,Char.ofNat 100,Char.ofNat 52,Char.ofNat 98,Char.ofNat 99,Char.ofNat 99,Char.ofNat 52,Char.ofNat 51,Char.ofNat 56,Char.ofNat 54,Char.ofNat 52,Char.ofNat 54,Char.ofNat 57,Char.ofNat 53,Char.ofNat 54,Char.ofNat 53,Char.ofNat 97,Char.ofNat 101,Char.ofNat 101,Char.ofNat 100,Char.ofNat 97,Char.ofNat 97,Char.ofNat 48,Char.ofNat 100,Char.ofNat 54,Char.ofNat 101,Char.ofNat 99,Char.ofNat 51,Char.ofNat 54,Char.ofNat 97,Char.ofNat 54,Char.ofNat 101,Char.ofNat 57,Char.ofNat 54,Char.ofNat 102,Char.ofNat 52,Char.ofNat 51,Char.ofNat 48,Char.ofNat 100,Char.ofNat 98,Char.ofNat 50,Char.ofNat 100,Char.ofNat 53,Char.ofNat 98,Char.ofNat 50,Char.ofNat 99,Char.ofNat 55,Char.ofNat 50,Char.ofNat 101,Char.ofNat 54,Char.ofNat 32,Char.ofNat 99,Char.ofNat 117,Char.ofNat 116,Char.ofNat 32,Char.ofNat 97,Char.ofNat 116,Char.ofNat 32,Char.ofNat 115,Char.ofNat 109,Char.ofNat 105,Char.ofNat 116,Char.ofNat 104,Char.ofNat 121,Char.ofNat 97,Char.ofNat 114,Char.ofNat 100,Char.ofNat 47,Char.ofNat 115,Char.ofNat 109,Char.ofNat 105,Char.ofNat 116,Char.ofNat 104,Char.ofNat 121,Char.ofNat 97,Char.ofNat 114,Char.ofNat 100,Char.ofNat 108,Char.ofNat 97,Char.ofNat 119,Char.ofNat 49,Char.ofNat 48,Char.ofNat 46,Char.ofNat 84,Char.ofNat 114,Char.ofNat 105,Char.ofNat 97,Char.ofNat 108,Char.ofNat 115,Char.ofNat 83,Char.ofNat 104,Char.ofNat 97,Char.ofNat 114,Char.ofNat 100,Char.ofNat 115,Char.ofNat 77,Char.ofNat 97,Char.ofNat 116,Char.ofNat 99,Char.ofNat 104,Char.ofNat 83,Char.ofNat 112,Char.ofNat 101,Char.ofNat 99]
theorem fact_order:Tryd.prog.initOrder=String.ofList headChars:=by kernel_rfl
theorem fact_chars:Tryd.prog.initOrder.toList=headChars:=by rw [fact_order]; exact String.toList_ofList
def headWords:List (List Char):=[[Char.ofNat 104,Char.ofNat 97,Char.ofNat 114,Char.ofNat 110,Char.ofNat 101,Char.ofNat 115,Char.ofNat 115],[Char.ofNat 98,Char.ofNat 53,Char.ofNat 51,Char.ofNat 100,Char.ofNat 98,Char.ofNat 48,Char.ofNat 55,Char.ofNat 48,Char.ofNat 56,Char.ofNat 52,Char.ofNat 50,Char.ofNat 53,Char.ofNat 48,Char.ofNat 101,Char.ofNat 54,Char.ofNat 100,Char.ofNat 52,Char.ofNat 98,Char.ofNat 99,Char.ofNat 99,Char.ofNat 52,Char.ofNat 51,Char.ofNat 56,Char.ofNat 54,Char.ofNat 52,Char.ofNat 54,Char.ofNat 57,Char.ofNat 53,Char.ofNat 54,Char.ofNat 53,Char.ofNat 97,Char.ofNat 101,Char.ofNat 101,Char.ofNat 100,Char.ofNat 97,Char.ofNat 97,Char.ofNat 48,Char.ofNat 100,Char.ofNat 54,Char.ofNat 101,Char.ofNat 99,Char.ofNat 51,Char.ofNat 54,Char.ofNat 97,Char.ofNat 54,Char.ofNat 101,Char.ofNat 57,Char.ofNat 54,Char.ofNat 102,Char.ofNat 52,Char.ofNat 51,Char.ofNat 48,Char.ofNat 100,Char.ofNat 98,Char.ofNat 50,Char.ofNat 100,Char.ofNat 53,Char.ofNat 98,Char.ofNat 50,Char.ofNat 99,Char.ofNat 55,Char.ofNat 50,Char.ofNat 101,Char.ofNat 54],[Char.ofNat 99,Char.ofNat 117,Char.ofNat 116],[Char.ofNat 97,Char.ofNat 116],[Char.ofNat 115,Char.ofNat 109,Char.ofNat 105,Char.ofNat 116,Char.ofNat 104,Char.ofNat 121,Char.ofNat 97,Char.ofNat 114,Char.ofNat 100,Char.ofNat 47,Char.ofNat 115,Char.ofNat 109,Char.ofNat 105,Char.ofNat 116,Char.ofNat 104,Char.ofNat 121,Char.ofNat 97,Char.ofNat 114,Char.ofNat 100,Char.ofNat 108,Char.ofNat 97,Char.ofNat 119,Char.ofNat 49,Char.ofNat 48,Char.ofNat 46,Char.ofNat 84,Char.ofNat 114,Char.ofNat 105,Char.ofNat 97,Char.ofNat 108,Char.ofNat 115,Char.ofNat 83,Char.ofNat 104,Char.ofNat 97,Char.ofNat 114,Char.ofNat 100,Char.ofNat 115,Char.ofNat 77,Char.ofNat 97,Char.ofNat 116,Char.ofNat 99,Char.ofNat 104,Char.ofNat 83,Char.ofNat 112,Char.ofNat 101,Char.ofNat 99]]
theorem fact_words:wordsSigns Tryd.prog.initOrder.toList=headWords:=by
  rw [fact_chars]
  kernel_rfl
theorem fact_lifts:Tryd.prog.headLifts=[]:=by
  unfold Program.headLifts
  rw [fact_words]
  kernel_rfl
theorem fact_enter:Tryd.prog.mayEnter=true:=by
  unfold Program.mayEnter
  rw [fact_words]
  kernel_rfl
theorem fact_final:Tryd.prog.liftsFinal=false:=by
  unfold Program.liftsFinal
  rw [fact_words,fact_lifts]
  kernel_rfl
theorem fact_make:Tryd.prog.make=some .cut:=by
  unfold Program.make
  rw [fact_words,fact_lifts]
  kernel_rfl
theorem fact_main : Tryd.prog.mainIs = some (true, "b53db07084250e6d4bcc4386469565aeedaa0d6ec36a6e96f430db2d5b2c72e6".toList) := by
  unfold Program.mainIs
  rw [fact_words]
  kernel_rfl
end Go.Proofs.YtedkdnhhohcocaaDoor
