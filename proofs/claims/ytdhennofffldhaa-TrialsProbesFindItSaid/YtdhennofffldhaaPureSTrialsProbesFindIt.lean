/- The statement over numbers and lists alone that is left of TrialsProbesFindIt: for every input the plain function answers true. -/
import Derived.Test.YtdhennofffldhaaPD
import GoSem.ClaimJoined
set_option linter.unusedVariables false
namespace Go.Proofs.Ytdhennofffldhaa
open Go Go.Proofs.Ytdhennofffldhaa.Kit
def TrialsProbesFindIt_Pure : Prop := ∀ (a0 : Int) (a1 : Int), (fun n : Int => (Lit.int .i64 n).wf = true) a0 → (fun n : Int => (Lit.int .i64 n).wf = true) a1 → smithyardlaw10_TrialsProbesFindIt.f a0 a1 = some true
end Go.Proofs.Ytdhennofffldhaa
