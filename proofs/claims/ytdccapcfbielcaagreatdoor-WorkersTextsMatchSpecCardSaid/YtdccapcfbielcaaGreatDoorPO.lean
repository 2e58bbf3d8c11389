/- Plain aids: the order of strings, loops that look back and carry a state, binary search. -/
import Derived.Test.YtdccapcfbielcaaGreatDoorPW
import Derived.Lib.Bytealg
set_option linter.unusedVariables false
set_option linter.unusedSimpArgs false
namespace Go.Proofs.YtdccapcfbielcaaGreatDoor
open Go Go.Proofs.YtdccapcfbielcaaGreatDoor.Kit
def inR (lo hi x:Int):Bool:=decide (lo≤x)&&decide (x≤hi)
theorem cmpB_le:∀ (a b:List UInt8),decide (Lib.compareBytes a b≤0)=!Op.bytesLess b a
  | [],[]=>by simp [Lib.compareBytes,Op.bytesLess]
  | [],_::_=>by simp [Lib.compareBytes,Op.bytesLess]
  | _::_,[]=>by simp [Lib.compareBytes,Op.bytesLess]
  | a::as,b::bs=>by
    have ih:=cmpB_le as bs
    unfold Lib.compareBytes Op.bytesLess
    by_cases h1:a<b
    · have h2:¬ b<a:=fun h=>absurd (UInt8.lt_trans h1 h) (UInt8.lt_irrefl a)
      have h3:b≠a:=fun h=>by subst h; exact UInt8.lt_irrefl _ h1
      simp [h1,h2,h3]
    · by_cases h2:b<a
      · simp [h1,h2]
      · have h3:b=a:=UInt8.le_antisymm (UInt8.not_lt.1 h1) (UInt8.not_lt.1 h2)
        subst h3
        simp [h1,ih]
theorem cmpB_zero:∀ (a b:List UInt8),Lib.compareBytes a b=0↔a=b
  | [],[]=>by simp [Lib.compareBytes]
  | [],_::_=>by simp [Lib.compareBytes]
  | _::_,[]=>by simp [Lib.compareBytes]
  | a::as,b::bs=>by
    have ih:=cmpB_zero as bs
    unfold Lib.compareBytes
    by_cases h1:a<b
    · have h3:a≠b:=fun h=>by subst h; exact UInt8.lt_irrefl _ h1
      simp [h1,h3]
    · by_cases h2:b<a
      · have h3:a≠b:=fun h=>by subst h; exact UInt8.lt_irrefl _ h2
        simp [h1,h2,h3]
      · have h3:a=b:=UInt8.le_antisymm (UInt8.not_lt.1 h2) (UInt8.not_lt.1 h1)
        subst h3
        simp [h1,ih]
theorem sLt_data (a b:ByteArray):sLt a b=Op.bytesLess a.data.toList b.data.toList:=by
  unfold sLt
  rw [ByteArray.toList_eq,ByteArray.toList_eq]
theorem sEq_data (a b:ByteArray):sEq a b=decide (a.data.toList=b.data.toList):=by
  unfold sEq
  rw [ByteArray.toList_eq,ByteArray.toList_eq]
  generalize a.data.toList=x
  generalize b.data.toList=y
  by_cases h:x=y <;> simp [h]
theorem sEq_self (a:ByteArray):sEq a a=true:=sEq_iff.2 rfl
end Go.Proofs.YtdccapcfbielcaaGreatDoor
