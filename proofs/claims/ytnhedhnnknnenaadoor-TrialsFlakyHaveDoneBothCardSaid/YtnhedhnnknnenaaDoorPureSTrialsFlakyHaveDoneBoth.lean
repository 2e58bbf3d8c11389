/- The statement over numbers and lists alone that is left of TrialsFlakyHaveDoneBoth: for every input the plain function answers true. -/
import Derived.Test.YtnhedhnnknnenaaDoorZD
import GoSem.ClaimJoined
set_option linter.unusedVariables false
namespace Go.Proofs.YtnhedhnnknnenaaDoor
open Go Go.Proofs.YtnhedhnnknnenaaDoor.Kit
def fitTestRun (x:TestRun):Prop:=(fun s:ByteArray=>s.size≤reachBytes) x.Test∧(fun s:ByteArray=>s.size≤reachBytes) x.Key∧(fun n:Int=>(Lit.int .i64 n).wf=true) x.At∧(fun _:Bool=>True) x.Pass∧(fun n:Int=>(Lit.int .i64 n).wf=true) x.Seconds
def TrialsFlakyHaveDoneBoth_Pure:Prop:=∀ (a0:List TestRun),(fun xs:List TestRun=>xs.length*56≤reachBytes∧∀ x∈xs,fitTestRun x) a0→smithyardlaw10_TrialsFlakyHaveDoneBoth.f a0=some true
end Go.Proofs.YtnhedhnnknnenaaDoor
