/- The statement over numbers and lists alone that is left of WorkersChecksMatchSpec: for every input the plain function answers true. -/
import Derived.Test.YteljhhgffmpgnaaDoorZD
import GoSem.ClaimJoined
set_option linter.unusedVariables false
namespace Go.Proofs.YteljhhgffmpgnaaDoor
open Go Go.Proofs.YteljhhgffmpgnaaDoor.Kit
def fitPair (x:Pair):Prop:=(fun s:ByteArray=>s.size≤reachBytes) x.Name∧(fun s:ByteArray=>s.size≤reachBytes) x.Value
def fitSpan (x:Span):Prop:=(fun n:Int=>(Lit.int .i64 n).wf=true) x.From∧(fun n:Int=>(Lit.int .i64 n).wf=true) x.To
def fitWorker (x:Worker):Prop:=(fun s:ByteArray=>s.size≤reachBytes) x.Name∧(fun xs:List Pair=>xs.length*32≤reachBytes∧∀ x∈xs,fitPair x) x.Has∧(fun n:Int=>(Lit.int .i64 n).wf=true) x.Slots∧(fun n:Int=>(Lit.int .i64 n).wf=true) x.Speed∧(fun n:Int=>(Lit.int .i64 n).wf=true) x.From∧(fun n:Int=>(Lit.int .i64 n).wf=true) x.To∧(fun xs:List Span=>xs.length*16≤reachBytes∧∀ x∈xs,fitSpan x) x.Stands
def fitWork (x:Work):Prop:=(fun s:ByteArray=>s.size≤reachBytes) x.Id∧(fun xs:List Pair=>xs.length*32≤reachBytes∧∀ x∈xs,fitPair x) x.Needs∧(fun n:Int=>(Lit.int .i64 n).wf=true) x.Size∧(fun xs:List ByteArray=>xs.length*16≤reachBytes∧∀ x∈xs,(fun s:ByteArray=>s.size≤reachBytes) x) x.After
def WorkersChecksMatchSpec_Pure:Prop:=∀ (a0:List Worker) (a1:List Work) (a2:Worker) (a3:Work),(fun xs:List Worker=>xs.length*96≤reachBytes∧∀ x∈xs,fitWorker x) a0→(fun xs:List Work=>xs.length*72≤reachBytes∧∀ x∈xs,fitWork x) a1→fitWorker a2→fitWork a3→smithyardlaw9_WorkersChecksMatchSpec.f a0 a1 a2 a3=some true
end Go.Proofs.YteljhhgffmpgnaaDoor
