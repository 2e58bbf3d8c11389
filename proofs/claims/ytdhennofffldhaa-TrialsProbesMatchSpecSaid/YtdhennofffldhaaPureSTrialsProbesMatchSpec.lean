/- The statement over numbers and lists alone that is left of TrialsProbesMatchSpec: for every input the plain function answers true. -/
import Derived.Test.YtdhennofffldhaaPD
import GoSem.ClaimJoined
set_option linter.unusedVariables false
namespace Go.Proofs.Ytdhennofffldhaa
open Go Go.Proofs.Ytdhennofffldhaa.Kit
def fitProbe (x : Probe) : Prop := (fun n : Int => (Lit.int .i64 n).wf = true) x.Place ∧ (fun _ : Bool => True) x.Pass
def TrialsProbesMatchSpec_Pure : Prop := ∀ (a0 : Int) (a1 : List Probe) (a2 : Int), (fun n : Int => (Lit.int .i64 n).wf = true) a0 → (fun xs : List Probe => xs.length * 16 ≤ reachBytes ∧ ∀ x ∈ xs, fitProbe x) a1 → (fun n : Int => (Lit.int .i64 n).wf = true) a2 → smithyardlaw10_TrialsProbesMatchSpec.f a0 a1 a2 = some true
end Go.Proofs.Ytdhennofffldhaa
