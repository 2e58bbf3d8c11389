/- The statement over numbers and lists alone that is left of CacheTextsMatchSpec: for every input the plain function answers true. -/
import Derived.Test.YtnfgkhmhdefagaaGreatDoorZD
import GoSem.ClaimJoined
set_option linter.unusedVariables false
namespace Go.Proofs.YtnfgkhmhdefagaaGreatDoor
open Go Go.Proofs.YtnfgkhmhdefagaaGreatDoor.Kit
def fitBlob (x:Blob):Prop:=(fun s:ByteArray=>s.size≤reachBytes) x.Digest∧(fun n:Int=>(Lit.int .i64 n).wf=true) x.Size∧(fun n:Int=>(Lit.int .i64 n).wf=true) x.Used∧(fun n:Int=>(Lit.int .i64 n).wf=true) x.Until∧(fun n:Int=>(Lit.int .i64 n).wf=true) x.Pins
def fitEntry (x:Entry):Prop:=(fun s:ByteArray=>s.size≤reachBytes) x.Key∧(fun xs:List ByteArray=>xs.length*16≤reachBytes∧∀ x∈xs,(fun s:ByteArray=>s.size≤reachBytes) x) x.Refs∧(fun n:Int=>(Lit.int .i64 n).wf=true) x.Used
def fitCache (x:Cache):Prop:=(fun n:Int=>(Lit.int .i64 n).wf=true) x.Room∧(fun n:Int=>(Lit.int .i64 n).wf=true) x.Lease∧(fun xs:List Blob=>xs.length*48≤reachBytes∧∀ x∈xs,fitBlob x) x.Blobs∧(fun xs:List Entry=>xs.length*48≤reachBytes∧∀ x∈xs,fitEntry x) x.Entries
def CacheTextsMatchSpec_Pure:Prop:=∀ (a0:Cache) (a1:ByteArray),fitCache a0→(fun s:ByteArray=>s.size≤reachBytes) a1→smithyardlaw7_CacheTextsMatchSpec.f a0 a1=some true
end Go.Proofs.YtnfgkhmhdefagaaGreatDoor
