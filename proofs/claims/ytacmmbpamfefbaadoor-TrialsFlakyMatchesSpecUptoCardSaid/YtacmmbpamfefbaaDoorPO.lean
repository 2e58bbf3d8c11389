/- Plain aids: the order of strings, loops that look back and carry a state, binary search. -/
import Derived.Test.YtacmmbpamfefbaaDoorPW
import Derived.Lib.Bytealg
set_option linter.unusedVariables false
set_option linter.unusedSimpArgs false
namespace Go.Proofs.YtacmmbpamfefbaaDoor
open Go Go.Proofs.YtacmmbpamfefbaaDoor.Kit
def inR (lo hi x:Int):Bool:=decide (lo≤x)&&decide (x≤hi)
theorem sLt_data (a b:ByteArray):sLt a b=Op.bytesLess a.data.toList b.data.toList:=by
  unfold sLt
  rw [ByteArray.toList_eq,ByteArray.toList_eq]
theorem sEq_data (a b:ByteArray):sEq a b=decide (a.data.toList=b.data.toList):=by
  unfold sEq
  rw [ByteArray.toList_eq,ByteArray.toList_eq]
  generalize a.data.toList=x
  generalize b.data.toList=y
  by_cases h:x=y <;> simp [h]
theorem bless_trans:∀ (a b c:List UInt8),Op.bytesLess a b=true→Op.bytesLess b c=true→Op.bytesLess a c=true
  | _,[],_=>by simp [Op.bytesLess]
  | _,_::_,[]=>by simp [Op.bytesLess]
  | [],_::_,_::_=>by simp [Op.bytesLess]
  | a::as,b::bs,c::cs=>by
    have ih:=bless_trans as bs cs
    simp only [Op.bytesLess,Bool.or_eq_true,decide_eq_true_eq,Bool.and_eq_true,beq_iff_eq]
    rintro (h | ⟨rfl,h⟩) (k | ⟨rfl,k⟩)
    · exact Or.inl (UInt8.lt_trans h k)
    · exact Or.inl h
    · exact Or.inl k
    · exact Or.inr ⟨rfl,ih h k⟩
theorem bless_irrefl:∀ (a:List UInt8),Op.bytesLess a a=false
  | []=>rfl
  | a::as=>by simp [Op.bytesLess,bless_irrefl as,UInt8.lt_irrefl]
theorem bless_total:∀ (a b:List UInt8),Op.bytesLess a b=false→a≠b→Op.bytesLess b a=true
  | [],[]=>by simp
  | [],_::_=>by simp [Op.bytesLess]
  | _::_,[]=>by simp [Op.bytesLess]
  | a::as,b::bs=>by
    have ih:=bless_total as bs
    simp only [Op.bytesLess]
    intro h hne
    by_cases h1:a<b
    · simp [h1] at h
    · by_cases h2:b<a
      · simp [h2]
      · have h3:b=a:=UInt8.le_antisymm (UInt8.not_lt.1 h1) (UInt8.not_lt.1 h2)
        subst h3
        simp [h1] at h
        have:as≠bs:=fun hh=>hne (by rw [hh])
        simp [ih h this]
theorem filterLoop {α γ β:Type} {c:α→Bool} {g:α→γ} {b:Nat} {E:List γ→Option β}:∀ (l:List α) (i:Int) (s:List γ),(s.length+l.length)*b≤140737490452480 →
    rangeS (fun _ x s f=>bif c x then guard? (room s.length 1 b) (f (s++[g x])) else f s) E i l s=E (s++(l.filter c).map g)
  | [],i,s,_=>by simp [rangeS]
  | x::l,i,s,h=>by
    have hl:(x::l).length=l.length+1:=rfl
    rw [hl] at h
    have hmul:(s.length+1)*b≤140737490452480:=Nat.le_trans (Nat.mul_le_mul_right _ (by omega)) h
    have hmul2:(s.length+l.length)*b≤140737490452480:=Nat.le_trans (Nat.mul_le_mul_right _ (by omega)) h
    simp only [rangeS]
    cases hc:c x
    · simp only [cond_false]
      rw [filterLoop l (i+1) s hmul2,List.filter_cons_of_neg (by simp [hc])]
    · simp only [cond_true]
      rw [guard?_true (room_of hmul),filterLoop l (i+1) (s++[g x]) (by simp; rw [show s.length+1+l.length=s.length+(l.length+1) by omega]; exact h),List.filter_cons_of_pos hc]
      simp
end Go.Proofs.YtacmmbpamfefbaaDoor
