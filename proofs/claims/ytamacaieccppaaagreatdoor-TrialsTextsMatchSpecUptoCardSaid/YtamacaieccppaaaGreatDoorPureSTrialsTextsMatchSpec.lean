/- The statement over numbers and lists alone that is left of TrialsTextsMatchSpec: for every input the plain function answers true. -/
import Derived.Test.YtamacaieccppaaaGreatDoorZD
import GoSem.ClaimJoined
set_option linter.unusedVariables false
namespace Go.Proofs.YtamacaieccppaaaGreatDoor
open Go Go.Proofs.YtamacaieccppaaaGreatDoor.Kit
def fitTestRun (x:TestRun):Prop:=(fun s:ByteArray=>s.size≤58720256) x.Test∧(fun s:ByteArray=>s.size≤58720256) x.Key∧(fun n:Int=>(Lit.int .i64 n).wf=true) x.At∧(fun _:Bool=>True) x.Pass∧(fun n:Int=>(Lit.int .i64 n).wf=true) x.Seconds
def TrialsTextsMatchSpec_Pure:Prop:=∀ (a0:List TestRun),(fun xs:List TestRun=>xs.length*56≤58720256∧∀ x∈xs,fitTestRun x) a0→smithyardlaw10_TrialsTextsMatchSpec.f a0=some true
end Go.Proofs.YtamacaieccppaaaGreatDoor
