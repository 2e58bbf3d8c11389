/- The statement over numbers and lists alone that is left of TrialsFlakyMatchesSpec: for every input the plain function answers true. -/
import Derived.Test.YtacmmbpamfefbaaDoorZD
import GoSem.ClaimJoined
set_option linter.unusedVariables false
namespace Go.Proofs.YtacmmbpamfefbaaDoor
open Go Go.Proofs.YtacmmbpamfefbaaDoor.Kit
def fitTestRun (x:TestRun):Prop:=(fun s:ByteArray=>s.size≤58720256) x.Test∧(fun s:ByteArray=>s.size≤58720256) x.Key∧(fun n:Int=>(Lit.int .i64 n).wf=true) x.At∧(fun _:Bool=>True) x.Pass∧(fun n:Int=>(Lit.int .i64 n).wf=true) x.Seconds
def TrialsFlakyMatchesSpec_Pure:Prop:=∀ (a0:List TestRun) (a1:ByteArray),(fun xs:List TestRun=>xs.length*56≤58720256∧∀ x∈xs,fitTestRun x) a0→(fun s:ByteArray=>s.size≤58720256) a1→smithyardlaw10_TrialsFlakyMatchesSpec.f a0 a1=some true
end Go.Proofs.YtacmmbpamfefbaaDoor
