/- The statement over numbers and lists alone that is left of TrialsAffectedByParts: for every input the plain function answers true. -/
import Derived.Test.YtkgbgapheigjcaaDoorZD
import GoSem.ClaimJoined
set_option linter.unusedVariables false
namespace Go.Proofs.YtkgbgapheigjcaaDoor
open Go Go.Proofs.YtkgbgapheigjcaaDoor.Kit
def fitTestReads (x:TestReads):Prop:=(fun s:ByteArray=>s.size≤reachBytes) x.Test∧(fun xs:List ByteArray=>xs.length*16≤reachBytes∧∀ x∈xs,(fun s:ByteArray=>s.size≤reachBytes) x) x.Paths∧(fun xs:List ByteArray=>xs.length*16≤reachBytes∧∀ x∈xs,(fun s:ByteArray=>s.size≤reachBytes) x) x.Looked
def fitTreeChange (x:TreeChange):Prop:=(fun s:ByteArray=>s.size≤reachBytes) x.Path∧(fun n:Int=>(Lit.int .i64 n).wf=true) x.Kind
def TrialsAffectedByParts_Pure:Prop:=∀ (a0:List TestReads) (a1:List TreeChange) (a2:Int),(fun xs:List TestReads=>xs.length*64≤reachBytes∧∀ x∈xs,fitTestReads x) a0→(fun xs:List TreeChange=>xs.length*24≤reachBytes∧∀ x∈xs,fitTreeChange x) a1→(fun n:Int=>(Lit.int .i64 n).wf=true) a2→smithyardlaw10_TrialsAffectedByParts.f a0 a1 a2=some true
end Go.Proofs.YtkgbgapheigjcaaDoor
