/- The statement over numbers and lists alone that is left of WorkersTextsMatchSpec: for every input the plain function answers true. -/
import Derived.Test.YtdccapcfbielcaaGreatDoorZD
import GoSem.ClaimJoined
set_option linter.unusedVariables false
namespace Go.Proofs.YtdccapcfbielcaaGreatDoor
open Go Go.Proofs.YtdccapcfbielcaaGreatDoor.Kit
def fitRun (x:Run):Prop:=(fun s:ByteArray=>s.size≤reachBytes) x.Id∧(fun s:ByteArray=>s.size≤reachBytes) x.Worker∧(fun n:Int=>(Lit.int .i64 n).wf=true) x.From∧(fun n:Int=>(Lit.int .i64 n).wf=true) x.To∧(fun n:Int=>(Lit.int .i64 n).wf=true) x.End
def WorkersTextsMatchSpec_Pure:Prop:=∀ (a0:List Run),(fun xs:List Run=>xs.length*56≤reachBytes∧∀ x∈xs,fitRun x) a0→smithyardlaw9_WorkersTextsMatchSpec.f a0=some true
end Go.Proofs.YtdccapcfbielcaaGreatDoor
