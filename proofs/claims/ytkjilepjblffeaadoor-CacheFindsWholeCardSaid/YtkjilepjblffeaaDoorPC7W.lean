/- Caches: what is swept, in plain words. -/
import Derived.Test.YtkjilepjblffeaaDoorPC7E
set_option linter.unusedVariables false
set_option linter.unusedSimpArgs false
namespace Go.Proofs.YtkjilepjblffeaaDoor
open Go Go.Proofs.YtkjilepjblffeaaDoor.Kit
theorem memB_iff {l:List ByteArray} {d:ByteArray}:memB l d=true↔d∈l:=by simp [memB]
theorem missing_nil {c:Cache} {l:List ByteArray}:(missingS c l).isEmpty=true↔∀ d∈l,hasB c d=true:=by
  unfold missingS
  rw [List.isEmpty_iff,List.filter_eq_nil_iff]
  simp
theorem hasB_iff {c:Cache} {d:ByteArray}:hasB c d=true↔∃ b∈c.Blobs,b.Digest=d:=by
  unfold hasB
  rw [List.any_eq_true]
  constructor
  · rintro ⟨b,h1,h2⟩; exact ⟨b,h1,sEq_iff.1 h2⟩
  · rintro ⟨b,h1,h2⟩; exact ⟨b,h1,sEq_iff.2 h2⟩
end Go.Proofs.YtkjilepjblffeaaDoor
