/- The statement over numbers and lists alone that is left of TrialsAffectedMatchesSpec: for every input the plain function answers true. -/
import Derived.Test.YtphbcalfmafpoaaDoorZD
import GoSem.ClaimJoined
set_option linter.unusedVariables false
namespace Go.Proofs.YtphbcalfmafpoaaDoor
open Go Go.Proofs.YtphbcalfmafpoaaDoor.Kit
def fitTestReads (x:TestReads):Prop:=(fun s:ByteArray=>s.size≤67108864) x.Test∧(fun xs:List ByteArray=>xs.length*16≤67108864∧∀ x∈xs,(fun s:ByteArray=>s.size≤67108864) x) x.Paths∧(fun xs:List ByteArray=>xs.length*16≤67108864∧∀ x∈xs,(fun s:ByteArray=>s.size≤67108864) x) x.Looked
def fitTreeChange (x:TreeChange):Prop:=(fun s:ByteArray=>s.size≤67108864) x.Path∧(fun n:Int=>(Lit.int .i64 n).wf=true) x.Kind
def TrialsAffectedMatchesSpec_Pure:Prop:=∀ (a0:List TestReads) (a1:List TreeChange),(fun xs:List TestReads=>xs.length*64≤67108864∧∀ x∈xs,fitTestReads x) a0→(fun xs:List TreeChange=>xs.length*24≤67108864∧∀ x∈xs,fitTreeChange x) a1→smithyardlaw10_TrialsAffectedMatchesSpec.f a0 a1=some true
end Go.Proofs.YtphbcalfmafpoaaDoor
