/- The statement over numbers and lists alone that is left of TrialsShardsMatchSpec: for every input the plain function answers true. -/
import Derived.Test.YtedkdnhhohcocaaDoorZD
import GoSem.ClaimJoined
set_option linter.unusedVariables false
namespace Go.Proofs.YtedkdnhhohcocaaDoor
open Go Go.Proofs.YtedkdnhhohcocaaDoor.Kit
def fitTestCase (x:TestCase):Prop:=(fun s:ByteArray=>s.size≤25165824) x.Name∧(fun n:Int=>(Lit.int .i64 n).wf=true) x.Seconds
def fitTest (x:Test):Prop:=(fun s:ByteArray=>s.size≤25165824) x.Name∧(fun xs:List TestCase=>xs.length*24≤25165824∧∀ x∈xs,fitTestCase x) x.Cases
def TrialsShardsMatchSpec_Pure:Prop:=∀ (a0:Test) (a1:Int) (a2:List (List ByteArray)),fitTest a0→(fun n:Int=>(Lit.int .i64 n).wf=true) a1→(fun xs:List (List ByteArray)=>xs.length*24≤25165824∧∀ x∈xs,(fun xs:List ByteArray=>xs.length*16≤25165824∧∀ x∈xs,(fun s:ByteArray=>s.size≤25165824) x) x) a2→smithyardlaw10_TrialsShardsMatchSpec.f a0 a1 a2=some true
end Go.Proofs.YtedkdnhhohcocaaDoor
