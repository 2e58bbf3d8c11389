/- The statement over numbers and lists alone that is left of CacheFollowsMatchSpec: for every input the plain function answers true. -/
import Derived.Test.YtiecpfnjmlidbaaGreatDoorZD
import GoSem.ClaimJoined
set_option linter.unusedVariables false
namespace Go.Proofs.YtiecpfnjmlidbaaGreatDoor
open Go Go.Proofs.YtiecpfnjmlidbaaGreatDoor.Kit
def bC3 (x:Blob):Prop:=(fun s:ByteArray=>s.size≤reachBytes) x.b7∧(fun n:Int=>(Lit.int .i64 n).wf=true) x.j4∧(fun n:Int=>(Lit.int .i64 n).wf=true) x.Used∧(fun n:Int=>(Lit.int .i64 n).wf=true) x.u6∧(fun n:Int=>(Lit.int .i64 n).wf=true) x.q4
def bQ3 (x:Entry):Prop:=(fun s:ByteArray=>s.size≤reachBytes) x.Key∧(fun xs:List ByteArray=>xs.length*16≤reachBytes∧∀ x∈xs,(fun s:ByteArray=>s.size≤reachBytes) x) x.Refs∧(fun n:Int=>(Lit.int .i64 n).wf=true) x.Used
def bQ8 (x:Cache):Prop:=(fun n:Int=>(Lit.int .i64 n).wf=true) x.Room∧(fun n:Int=>(Lit.int .i64 n).wf=true) x.c4∧(fun xs:List Blob=>xs.length*48≤reachBytes∧∀ x∈xs,bC3 x) x.U∧(fun xs:List Entry=>xs.length*48≤reachBytes∧∀ x∈xs,bQ3 x) x.Entries
def ck0 (x:k7):Prop:=(fun n:Int=>(Lit.int .i64 n).wf=true) x.Kind∧(fun n:Int=>(Lit.int .i64 n).wf=true) x.At∧(fun s:ByteArray=>s.size≤reachBytes) x.b7∧(fun xs:List ByteArray=>xs.length*16≤reachBytes∧∀ x∈xs,(fun s:ByteArray=>s.size≤reachBytes) x) x.j9∧(fun s:ByteArray=>s.size≤reachBytes) x.Key∧(fun n:Int=>(Lit.int .i64 n).wf=true) x.j4
def db6:Prop:=∀ (a0:Cache) (a1:List k7),bQ8 a0→(fun xs:List k7=>xs.length*80≤reachBytes∧∀ x∈xs,ck0 x) a1→bH1.f a0 a1=some true
end Go.Proofs.YtiecpfnjmlidbaaGreatDoor
