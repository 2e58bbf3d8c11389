/- Words of our own: strings.ContainsFunc with the test for what is no sign from 33 to 126; strconv.Atoi; a string's place in another one. -/
import Derived.Test.YtdccapcfbielcaaGreatDoorKitX
import Derived.Shelf.GgClosure.StringsIndexFuncTop
import Derived.Laws.RangeString
import Derived.Laws.RangeAny
import Derived.Lib.AtoiErrMem
set_option linter.unusedVariables false
namespace Go.Proofs.YtdccapcfbielcaaGreatDoor.Kit
open Go Go.RowKit
def badR (n:Nat):Bool:=decide ((n:Int)<33)||decide (126<(n:Int))
theorem bad_from (s:ByteArray):∀ (d f pos:Nat),pos+d=s.size→d≤f→decide (0≤Lib.idxFuncFrom badR true s f pos)=(s.data.toList.drop pos).any (fun b=>badR b.toNat):=by
  intro d
  induction d with
  | zero =>
    intro f pos hp hf
    rw [Lib.idxFuncFrom_end _ _ _ _ _ (by omega),List.drop_eq_nil_of_le (by simp; omega)]
    rfl
  | succ d ih =>
    intro f pos hp hf
    obtain ⟨f,rfl⟩:∃ g,f=g+1:=⟨f - 1,by omega⟩
    have hlt:pos<s.size:=by omega
    have hn:pos<s.data.toList.length:=by simpa using hlt
    rw [Lib.idxFuncFrom,if_pos hlt,List.drop_eq_getElem_cons hn,List.any_cons]
    have hb:s.data.toList[pos]=s[pos]'hlt:=by simp [ByteArray.getElem_eq_getElem_data]
    rw [hb]
    by_cases ha:(s[pos]'hlt).toNat<128
    · rw [decode_ascii s pos hlt ha]
      cases hbad:badR (s[pos]'hlt).toNat
      · simp only [Bool.false_eq_true,if_false,Bool.false_or]
        exact ih f (pos+1) (by omega) (by omega)
      · simp
    · obtain ⟨h1,h2⟩:=decode_high s pos hlt (by omega)
      have b1:badR (Utf8.decode s pos).1=true:=by
        unfold badR
        rw [Bool.or_eq_true]
        exact Or.inr (decide_eq_true (by omega))
      have b2:badR (s[pos]'hlt).toNat=true:=by
        unfold badR
        rw [Bool.or_eq_true]
        exact Or.inr (decide_eq_true (by omega))
      rw [b1,b2]
      simp
theorem bad_eq (s:ByteArray):decide (0≤Lib.idxFunc badR true s)=s.data.toList.any (fun b=>badR b.toNat):=by
  have:=bad_from s s.size s.size 0 (by omega) (Nat.le_refl _)
  rw [List.drop_zero] at this
  exact this
end Go.Proofs.YtdccapcfbielcaaGreatDoor.Kit
