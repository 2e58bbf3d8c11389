/- The statement over numbers and lists alone that is left of TrialsTriedStopsInTime: for every input the plain function answers true. -/
import Derived.Test.YtdhennofffldhaaGD
import GoSem.ClaimJoined
set_option linter.unusedVariables false
namespace Go.Proofs.Ytdhennofffldhaa
open Go Go.Proofs.Ytdhennofffldhaa.Kit
def TrialsTriedStopsInTime_Pure : Prop := ∀ (a0 : Int) (a1 : Int) (a2 : List Bool) (a3 : List Bool), (fun n : Int => (Lit.int .i64 n).wf = true) a0 → (fun n : Int => (Lit.int .i64 n).wf = true) a1 → (fun xs : List Bool => xs.length * 1 ≤ reachBytes ∧ ∀ x ∈ xs, (fun _ : Bool => True) x) a2 → (fun xs : List Bool => xs.length * 1 ≤ reachBytes ∧ ∀ x ∈ xs, (fun _ : Bool => True) x) a3 → smithyardlaw10_TrialsTriedStopsInTime.f a0 a1 a2 a3 = some true
end Go.Proofs.Ytdhennofffldhaa
