/- The statement over numbers and lists alone that is left of TrialsShardsAreEven: for every input the plain function answers true. -/
import Derived.Test.YtdmdimhbcdocdaaDoorZD
import GoSem.ClaimJoined
set_option linter.unusedVariables false
namespace Go.Proofs.YtdmdimhbcdocdaaDoor
open Go Go.Proofs.YtdmdimhbcdocdaaDoor.Kit
def fitTestCase (x:TestCase):Prop:=(fun s:ByteArray=>s.size≤reachBytes) x.Name∧(fun n:Int=>(Lit.int .i64 n).wf=true) x.Seconds
def fitTest (x:Test):Prop:=(fun s:ByteArray=>s.size≤reachBytes) x.Name∧(fun xs:List TestCase=>xs.length*24≤reachBytes∧∀ x∈xs,fitTestCase x) x.Cases
def TrialsShardsAreEven_Pure:Prop:=∀ (a0:Test) (a1:Int),fitTest a0→(fun n:Int=>(Lit.int .i64 n).wf=true) a1→smithyardlaw10_TrialsShardsAreEven.f a0 a1=some true
end Go.Proofs.YtdmdimhbcdocdaaDoor
