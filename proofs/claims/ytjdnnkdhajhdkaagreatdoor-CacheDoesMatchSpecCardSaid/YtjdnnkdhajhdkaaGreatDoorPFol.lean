/- Caches: following a list of events; Follow as a whole. -/
import Derived.Test.YtjdnnkdhajhdkaaGreatDoorPDoK
set_option linter.unusedVariables false
set_option linter.unusedSimpArgs false
namespace Go.Proofs.YtjdnnkdhajhdkaaGreatDoor
open Go Go.Proofs.YtjdnnkdhajhdkaaGreatDoor.Kit
def dE (c:Cache) (e:CacheEvent):CacheAnswer × Int × Cache :=
  bif (eventS e).getD 0 != 0 then (noA,(eventS e).getD 0,c) else bif decide (e.At<newestS c) then (noA,11,c) else doK c e
end Go.Proofs.YtjdnnkdhajhdkaaGreatDoor

namespace Go.Proofs.YtjdnnkdhajhdkaaGreatDoor
open Go Go.Proofs.YtjdnnkdhajhdkaaGreatDoor.Kit
end Go.Proofs.YtjdnnkdhajhdkaaGreatDoor

namespace Go.Proofs.YtjdnnkdhajhdkaaGreatDoor
open Go Go.Proofs.YtjdnnkdhajhdkaaGreatDoor.Kit
end Go.Proofs.YtjdnnkdhajhdkaaGreatDoor
