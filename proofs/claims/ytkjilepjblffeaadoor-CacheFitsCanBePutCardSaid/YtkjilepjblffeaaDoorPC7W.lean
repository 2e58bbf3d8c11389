/- Caches: what is swept, in plain words. -/
import Derived.Test.YtkjilepjblffeaaDoorPC7E
set_option linter.unusedVariables false
set_option linter.unusedSimpArgs false
namespace Go.Proofs.YtkjilepjblffeaaDoor
open Go Go.Proofs.YtkjilepjblffeaaDoor.Kit
def checkAtS (c:Cache) (t:Int):Option Int:=(cacheS c).bind fun f=>bif f != 0 then some f else bif !inR 0 1000000000 t then some 1 else some 0
theorem checkAt_prog {c:Cache} (h:smallCache c) (t:Int):cache_checkAt.f c t=checkAtS c t:=by
  unfold cache_checkAt.f checkAtS
  rw [check_prog h]
  simp only [cache_isMoment.f,within7,Option.bind_some]
end Go.Proofs.YtkjilepjblffeaaDoor
