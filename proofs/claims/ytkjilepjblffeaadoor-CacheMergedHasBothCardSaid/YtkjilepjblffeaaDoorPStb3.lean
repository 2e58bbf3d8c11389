/- slices.SortStableFunc: blocks that are sorted, merged in pairs until one is left. -/
import Derived.Test.YtkjilepjblffeaaDoorPStb2
set_option linter.unusedVariables false
set_option linter.unusedSimpArgs false
namespace Go.Proofs.YtkjilepjblffeaaDoor
open Go Go.Proofs.YtkjilepjblffeaaDoor.Kit
inductive Chk (bs:Nat):List Blob→List Blob→Prop
  | last (l:List Blob) (h:l.length≤bs):Chk bs l (stab ltU l)
  | step (l1 l2 d2:List Blob) (h:l1.length=bs) (k:Chk bs l2 d2):Chk bs (l1++l2) (stab ltU l1++d2)
theorem Chk.len {bs:Nat} {l d:List Blob} (h:Chk bs l d):d.length=l.length:=by
  induction h with
  | last l h=>exact stab_len ltU_swo l
  | step l1 l2 d2 h k ih=>rw [List.length_append,List.length_append,stab_len ltU_swo,ih]
theorem Chk.small {bs:Nat} {l d:List Blob} (h:Chk bs l d) (hl:l.length≤bs):d=stab ltU l:=by
  cases h with
  | last l h=>rfl
  | step l1 l2 d2 h k =>
    rw [List.length_append] at hl
    have h0:l2=[]:=List.length_eq_zero_iff.1 (by omega)
    subst h0
    have:=k.len
    have h1:d2=[]:=List.length_eq_zero_iff.1 (by rw [this]; rfl)
    subst h1
    simp
theorem Chk.parts {bs:Nat} {l d:List Blob} (h:Chk bs l d) (hl:bs<l.length):∃ l1 l2 d2,l=l1++l2∧d=stab ltU l1++d2∧l1.length=bs∧Chk bs l2 d2:=by
  cases h with
  | last l h=>omega
  | step l1 l2 d2 h k=>exact ⟨l1,l2,d2,rfl,rfl,h,k⟩
end Go.Proofs.YtkjilepjblffeaaDoor
