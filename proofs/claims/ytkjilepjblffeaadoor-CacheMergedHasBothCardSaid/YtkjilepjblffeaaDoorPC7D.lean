/- Caches: digests of blobs, and what is dropped. -/
import Derived.Test.YtkjilepjblffeaaDoorPC7S
set_option linter.unusedVariables false
set_option linter.unusedSimpArgs false
namespace Go.Proofs.YtkjilepjblffeaaDoor
open Go Go.Proofs.YtkjilepjblffeaaDoor.Kit
end Go.Proofs.YtkjilepjblffeaaDoor
