/- Plain aids: the order of strings, loops that look back and carry a state, binary search. -/
import Derived.Test.YtnhedhnnknnenaaDoorPW
import Derived.Lib.Bytealg
set_option linter.unusedVariables false
set_option linter.unusedSimpArgs false
namespace Go.Proofs.YtnhedhnnknnenaaDoor
open Go Go.Proofs.YtnhedhnnknnenaaDoor.Kit
def inR (lo hi x:Int):Bool:=decide (lo≤x)&&decide (x≤hi)
theorem sEq_data (a b:ByteArray):sEq a b=decide (a.data.toList=b.data.toList):=by
  unfold sEq
  rw [ByteArray.toList_eq,ByteArray.toList_eq]
  generalize a.data.toList=x
  generalize b.data.toList=y
  by_cases h:x=y <;> simp [h]
theorem bless_trans:∀ (a b c:List UInt8),Op.bytesLess a b=true→Op.bytesLess b c=true→Op.bytesLess a c=true
  | _,[],_=>by simp [Op.bytesLess]
  | _,_::_,[]=>by simp [Op.bytesLess]
  | [],_::_,_::_=>by simp [Op.bytesLess]
  | a::as,b::bs,c::cs=>by
    have ih:=bless_trans as bs cs
    simp only [Op.bytesLess,Bool.or_eq_true,decide_eq_true_eq,Bool.and_eq_true,beq_iff_eq]
    rintro (h | ⟨rfl,h⟩) (k | ⟨rfl,k⟩)
    · exact Or.inl (UInt8.lt_trans h k)
    · exact Or.inl h
    · exact Or.inl k
    · exact Or.inr ⟨rfl,ih h k⟩
theorem bless_irrefl:∀ (a:List UInt8),Op.bytesLess a a=false
  | []=>rfl
  | a::as=>by simp [Op.bytesLess,bless_irrefl as,UInt8.lt_irrefl]
theorem bless_total:∀ (a b:List UInt8),Op.bytesLess a b=false→a≠b→Op.bytesLess b a=true
  | [],[]=>by simp
  | [],_::_=>by simp [Op.bytesLess]
  | _::_,[]=>by simp [Op.bytesLess]
  | a::as,b::bs=>by
    have ih:=bless_total as bs
    simp only [Op.bytesLess]
    intro h hne
    by_cases h1:a<b
    · simp [h1] at h
    · by_cases h2:b<a
      · simp [h2]
      · have h3:b=a:=UInt8.le_antisymm (UInt8.not_lt.1 h1) (UInt8.not_lt.1 h2)
        subst h3
        simp [h1] at h
        have:as≠bs:=fun hh=>hne (by rw [hh])
        simp [ih h this]
theorem bind_at2 {α β:Type} {xs:List α} {v:Int} {f g:α→Option β} (h:∀ x,at? xs v=some x→x∈xs→f x=g x):(at? xs v).bind f=(at? xs v).bind g:=by
  cases hx:at? xs v with
  | none=>rfl
  | some x =>
    obtain ⟨h0,h1,h2⟩:=at?_some hx
    exact h x hx (List.mem_of_getElem? h2)
end Go.Proofs.YtnhedhnnknnenaaDoor
