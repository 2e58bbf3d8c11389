/- Caches: the reference's way to what would go, what goes, and what is whole. -/
import Derived.Test.YtkjilepjblffeaaDoorPLea
set_option linter.unusedVariables false
set_option linter.unusedSimpArgs false
namespace Go.Proofs.YtkjilepjblffeaaDoor
open Go Go.Proofs.YtkjilepjblffeaaDoor.Kit
def wholeS (c:Cache) (key:ByteArray):Option (Bool × Int):=(cacheS c).bind fun f=>bif f != 0 then some (false,f) else some (bif isDigB key then (wholeB c key,0) else (false,3))
theorem wholeP {c:Cache} (hf:Fit c) (key:ByteArray):cache_Whole.f c key=wholeS c key:=by
  unfold wholeS
  obtain ⟨f,e1⟩:=cacheS_some c
  cases h0:f != 0
  · have hz:f=0:=by simpa using h0
    subst hz
    rw [whole_prog hf (cacheS_ok e1),e1]
    rfl
  · unfold cache_Whole.f
    rw [check_prog hf.small,e1]
    simp only [Option.bind_some,h0,cond_true]
end Go.Proofs.YtkjilepjblffeaaDoor
