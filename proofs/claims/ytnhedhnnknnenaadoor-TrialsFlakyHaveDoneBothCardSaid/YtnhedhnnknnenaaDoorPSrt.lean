/- Lists of strings, sorted and made compact: what is left, in order. -/
import Derived.Test.YtnhedhnnknnenaaDoorPO
import Derived.Sort.Walk0
import Derived.Lib.SlicesCompact
set_option linter.unusedVariables false
set_option linter.unusedSimpArgs false
namespace Go.Proofs.YtnhedhnnknnenaaDoor
open Go Go.Proofs.YtnhedhnnknnenaaDoor.Kit
abbrev bl (a b:List UInt8):Prop:=Op.bytesLess a b=true
theorem le_dec (x y:List UInt8):decide (x≤y)=!Op.bytesLess y x:=by
  rw [Go.Proofs.bytesLess_eq]
  by_cases h:y<x
  · rw [decide_eq_true h,decide_eq_false (by simpa using h)]
    rfl
  · rw [decide_eq_false h,decide_eq_true (by simpa using h)]
    rfl
theorem strict_ext:∀ {l m:List (List UInt8)},l.Pairwise bl→m.Pairwise bl→(∀ x,x∈l↔x∈m)→l=m
  | [],[],_,_,_=>rfl
  | [],b::m,_,_,h=>by have:=(h b).2 (by simp); simp at this
  | a::l,[],_,_,h=>by have:=(h a).1 (by simp); simp at this
  | a::l,b::m,hl,hm,h=>by
    obtain ⟨hl1,hl2⟩:=List.pairwise_cons.1 hl
    obtain ⟨hm1,hm2⟩:=List.pairwise_cons.1 hm
    have irr:∀ {x y:List UInt8},bl x y→x≠y:=fun {x y} hxy he=>by
      subst he
      have:=bless_irrefl x
      unfold bl at hxy
      rw [hxy] at this
      cases this
    have hab:a=b:=by
      rcases List.mem_cons.1 ((h a).1 (by simp)) with he | he
      · exact he
      · rcases List.mem_cons.1 ((h b).2 (by simp)) with hf | hf
        · exact hf.symm
        · exact absurd rfl (irr (bless_trans _ _ _ (hm1 a he) (hl1 b hf)))
    subst hab
    congr 1
    refine strict_ext hl2 hm2 fun x=>⟨fun hx=>?_,fun hx=>?_⟩
    · rcases List.mem_cons.1 ((h x).1 (by simp [hx])) with he | he
      · exact absurd he.symm (irr (hl1 x hx))
      · exact he
    · rcases List.mem_cons.1 ((h x).2 (by simp [hx])) with he | he
      · exact absurd he.symm (irr (hm1 x hx))
      · exact he
theorem sorted_le (l:List (List UInt8)):(l.mergeSort fun x y=>decide (x≤y)).Pairwise (fun a b=>Op.bytesLess b a=false):=by
  have:=List.pairwise_mergeSort (le:=fun x y:List UInt8=>decide (x≤y)) (fun a b c h1 h2=>by
    rw [le_dec] at h1 h2 ⊢
    simp only [Bool.not_eq_true'] at h1 h2 ⊢
    cases hc:Op.bytesLess c a
    · rfl
    · by_cases hab:a=b
      · subst hab
        rw [hc] at h2
        cases h2
      · have hab':=bless_total b a h1 (fun e=>hab e.symm)
        have:=bless_trans _ _ _ hc hab'
        rw [this] at h2
        cases h2) (fun a b=>by
    rw [le_dec,le_dec]
    cases h1:Op.bytesLess b a
    · rfl
    · cases h2:Op.bytesLess a b
      · rfl
      · have:=bless_trans _ _ _ h1 h2
        rw [bless_irrefl] at this
        cases this) l
  refine this.imp fun {a b} h=>?_
  rw [le_dec] at h
  simpa using h
end Go.Proofs.YtnhedhnnknnenaaDoor
