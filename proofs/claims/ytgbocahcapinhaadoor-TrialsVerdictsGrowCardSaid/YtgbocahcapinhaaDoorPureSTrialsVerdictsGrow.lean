/- The statement over numbers and lists alone that is left of TrialsVerdictsGrow: for every input the plain function answers true. -/
import Derived.Test.YtgbocahcapinhaaDoorZD
import GoSem.ClaimJoined
set_option linter.unusedVariables false
namespace Go.Proofs.YtgbocahcapinhaaDoor
open Go Go.Proofs.YtgbocahcapinhaaDoor.Kit
def fitTestRun (x:TestRun):Prop:=(fun s:ByteArray=>s.size≤reachBytes) x.Test∧(fun s:ByteArray=>s.size≤reachBytes) x.Key∧(fun n:Int=>(Lit.int .i64 n).wf=true) x.At∧(fun _:Bool=>True) x.Pass∧(fun n:Int=>(Lit.int .i64 n).wf=true) x.Seconds
def TrialsVerdictsGrow_Pure:Prop:=∀ (a0:List TestRun) (a1:ByteArray) (a2:ByteArray) (a3:Bool),(fun xs:List TestRun=>xs.length*56≤reachBytes∧∀ x∈xs,fitTestRun x) a0→(fun s:ByteArray=>s.size≤reachBytes) a1→(fun s:ByteArray=>s.size≤reachBytes) a2→smithyardlaw10_TrialsVerdictsGrow.f a0 a1 a2 a3=some true
end Go.Proofs.YtgbocahcapinhaaDoor
