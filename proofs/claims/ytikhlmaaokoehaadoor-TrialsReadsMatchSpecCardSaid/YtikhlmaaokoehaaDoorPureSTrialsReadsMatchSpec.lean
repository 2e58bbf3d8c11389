/- The statement over numbers and lists alone that is left of TrialsReadsMatchSpec: for every input the plain function answers true. -/
import Derived.Test.YtikhlmaaokoehaaDoorZD
import GoSem.ClaimJoined
set_option linter.unusedVariables false
namespace Go.Proofs.YtikhlmaaokoehaaDoor
open Go Go.Proofs.YtikhlmaaokoehaaDoor.Kit
def TrialsReadsMatchSpec_Pure:Prop:=∀ (a0:ByteArray),(fun s:ByteArray=>s.size≤reachBytes) a0→smithyardlaw10_TrialsReadsMatchSpec.f a0=some true
end Go.Proofs.YtikhlmaaokoehaaDoor
