/- What the form of claims asks of the program's heading, reckoned once. -/
import Derived.Test.YtiecpfnjmlidbaaGreatDoorRows
import Derived.Test.YtiecpfnjmlidbaaGreatDoorChecked
import Derived.JoinedOf
import Derived.SevenTiedAt
import Derived.KernelRfl
set_option linter.unusedVariables false
namespace Go.Proofs.YtiecpfnjmlidbaaGreatDoor
open Go
def cb6:List Char:=[Char.ofNat 104,Char.ofNat 97,Char.ofNat 114,Char.ofNat 110,Char.ofNat 101,Char.ofNat 115,Char.ofNat 115,Char.ofNat 32,Char.ofNat 98,Char.ofNat 98,Char.ofNat 52,Char.ofNat 54,Char.ofNat 57,Char.ofNat 101,Char.ofNat 51,Char.ofNat 54,Char.ofNat 48,Char.ofNat 55,Char.ofNat 100,Char.ofNat 52,Char.ofNat 57,Char.ofNat 54,Char.ofNat 102,Char.ofNat 102,Char.ofNat 98,Char.ofNat 101,Char.ofNat 53,Char.ofNat 101,Char.ofNat 57,Char.ofNat 56,Char.ofNat 53,Char.ofNat 100,Char.ofNat 49,Char.ofNat 50,Char.ofNat 52,Char.ofNat 49,Char.ofNat 50,Char.ofNat 101,Char.ofNat 51,Char.ofNat 102,Char.ofNat 57,Char.ofNat 101,Char.ofNat 101,Char.ofNat 98,Char.ofNat 99,Char.ofNat 49,Char.ofNat 49,Char.ofNat 97,Char.ofNat 54,Char.ofNat 101,Char.ofNat 53,Char.ofNat 98,Char.ofNat 97,Char.ofNat 56,Char.ofNat 53,Char.ofNat 51,Char.ofNat 99,Char.ofNat 50,Char.ofNat 99,Char.ofNat 97,Char.ofNat 55,Char.ofNat 99,Char.ofNat 100,Char.ofNat 48,Char.ofNat 49,Char.ofNat 54,Char.ofNat 50,Char.ofNat 53,Char.ofNat 53,Char.ofNat 48,Char.ofNat 54,Char.ofNat 101,Char.ofNat 32,Char.ofNat 99,Char.ofNat 117,Char.ofNat 116,Char.ofNat 32,Char.ofNat 97,Char.ofNat 116,Char.ofNat 32,Char.ofNat 115,Char.ofNat 109,Char.ofNat 105,Char.ofNat 116,Char.ofNat 104,Char.ofNat 121,Char.ofNat 97,Char.ofNat 114,Char.ofNat 100,Char.ofNat 47,Char.ofNat 115,Char.ofNat 109,Char.ofNat 105,Char.ofNat 116,Char.ofNat 104,Char.ofNat 121,Char.ofNat 97,Char.ofNat 114,Char.ofNat 100,Char.ofNat 108,Char.ofNat 97,Char.ofNat 119,Char.ofNat 55,Char.ofNat 46,Char.ofNat 67,Char.ofNat 97,Char.ofNat 99,Char.ofNat 104,Char.ofNat 101,Char.ofNat 70,Char.ofNat 111,Char.ofNat 108,Char.ofNat 108,Char.ofNat 111,Char.ofNat 119,Char.ofNat 115,Char.ofNat 77,Char.ofNat 97,Char.ofNat 116,Char.ofNat 99,Char.ofNat 104,Char.ofNat 83,Char.ofNat 112,Char.ofNat 101,Char.ofNat 99]
theorem cD3:Tryz.prog.initOrder=String.ofList cb6:=by kernel_rfl
theorem cD4:Tryz.prog.initOrder.toList=cb6:=by rw [cD3]; exact String.toList_ofList
def cD5:List (List Char):=[[Char.ofNat 104,Char.ofNat 97,Char.ofNat 114,Char.ofNat 110,Char.ofNat 101,Char.ofNat 115,Char.ofNat 115],[Char.ofNat 98,Char.ofNat 98,Char.ofNat 52,Char.ofNat 54,Char.ofNat 57,Char.ofNat 101,Char.ofNat 51,Char.ofNat 54,Char.ofNat 48,Char.ofNat 55,Char.ofNat 100,Char.ofNat 52,Char.ofNat 57,Char.ofNat 54,Char.ofNat 102,Char.ofNat 102,Char.ofNat 98,Char.ofNat 101,Char.ofNat 53,Char.ofNat 101,Char.ofNat 57,Char.ofNat 56,Char.ofNat 53,Char.ofNat 100,Char.ofNat 49,Char.ofNat 50,Char.ofNat 52,Char.ofNat 49,Char.ofNat 50,Char.ofNat 101,Char.ofNat 51,Char.ofNat 102,Char.ofNat 57,Char.ofNat 101,Char.ofNat 101,Char.ofNat 98,Char.ofNat 99,Char.ofNat 49,Char.ofNat 49,Char.ofNat 97,Char.ofNat 54,Char.ofNat 101,Char.ofNat 53,Char.ofNat 98,Char.ofNat 97,Char.ofNat 56,Char.ofNat 53,Char.ofNat 51,Char.ofNat 99,Char.ofNat 50,Char.ofNat 99,Char.ofNat 97,Char.ofNat 55,Char.ofNat 99,Char.ofNat 100,Char.ofNat 48,Char.ofNat 49,Char.ofNat 54,Char.ofNat 50,Char.ofNat 53,Char.ofNat 53,Char.ofNat 48,Char.ofNat 54,Char.ofNat 101],[Char.ofNat 99,Char.ofNat 117,Char.ofNat 116],[Char.ofNat 97,Char.ofNat 116],[Char.ofNat 115,Char.ofNat 109,Char.ofNat 105,Char.ofNat 116,Char.ofNat 104,Char.ofNat 121,Char.ofNat 97,Char.ofNat 114,Char.ofNat 100,Char.ofNat 47,Char.ofNat 115,Char.ofNat 109,Char.ofNat 105,Char.ofNat 116,Char.ofNat 104,Char.ofNat 121,Char.ofNat 97,Char.ofNat 114,Char.ofNat 100,Char.ofNat 108,Char.ofNat 97,Char.ofNat 119,Char.ofNat 55,Char.ofNat 46,Char.ofNat 67,Char.ofNat 97,Char.ofNat 99,Char.ofNat 104,Char.ofNat 101,Char.ofNat 70,Char.ofNat 111,Char.ofNat 108,Char.ofNat 108,Char.ofNat 111,Char.ofNat 119,Char.ofNat 115,Char.ofNat 77,Char.ofNat 97,Char.ofNat 116,Char.ofNat 99,Char.ofNat 104,Char.ofNat 83,Char.ofNat 112,Char.ofNat 101,Char.ofNat 99]]
theorem bm6:wordsSigns Tryz.prog.initOrder.toList=cD5:=by
  rw [cD4]
  kernel_rfl
theorem cb7:Tryz.prog.headLifts=[]:=by
  unfold Program.headLifts
  rw [bm6]
  kernel_rfl
theorem cD6:Tryz.prog.mayEnter=true:=by
  unfold Program.mayEnter
  rw [bm6]
  kernel_rfl
theorem cD7:Tryz.prog.liftsFinal=false:=by
  unfold Program.liftsFinal
  rw [bm6,cb7]
  kernel_rfl
theorem cD8:Tryz.prog.make=some .cut:=by
  unfold Program.make
  rw [bm6,cb7]
  kernel_rfl
theorem cD9 : Tryz.prog.mainIs = some (true, "bb469e3607d496ffbe5e985d12412e3f9eebc11a6e5ba853c2ca7cd01625506e".toList) := by
  unfold Program.mainIs
  rw [bm6]
  kernel_rfl
end Go.Proofs.YtiecpfnjmlidbaaGreatDoor
