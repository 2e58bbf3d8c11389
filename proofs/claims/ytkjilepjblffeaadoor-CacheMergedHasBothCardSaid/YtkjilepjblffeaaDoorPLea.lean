/- Caches: what would go, in which order; what goes to make room. -/
import Derived.Test.YtkjilepjblffeaaDoorPFit
import Derived.Test.YtkjilepjblffeaaDoorPStb3
set_option linter.unusedVariables false
set_option linter.unusedSimpArgs false
namespace Go.Proofs.YtkjilepjblffeaaDoor
open Go Go.Proofs.YtkjilepjblffeaaDoor.Kit
/-! permutations -/
def okSz (l:List Blob):Prop:=∀ x∈l,0≤x.Size∧x.Size≤100000000
theorem OkCache.sz {c:Cache} (h:OkCache c):okSz c.Blobs:=fun x hx=>⟨(h.be x hx).2.1,(h.be x hx).2.2.1⟩
/-! what goes are blobs that were there -/
end Go.Proofs.YtkjilepjblffeaaDoor
