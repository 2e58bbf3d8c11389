/- The statement over numbers and lists alone that is left of CacheDoesMatchSpec: for every input the plain function answers true. -/
import Derived.Test.YtjdnnkdhajhdkaaGreatDoorZD
import GoSem.ClaimJoined
set_option linter.unusedVariables false
namespace Go.Proofs.YtjdnnkdhajhdkaaGreatDoor
open Go Go.Proofs.YtjdnnkdhajhdkaaGreatDoor.Kit
def fitBlob (x:Blob):Prop:=(fun s:ByteArray=>s.size≤reachBytes) x.Digest∧(fun n:Int=>(Lit.int .i64 n).wf=true) x.Size∧(fun n:Int=>(Lit.int .i64 n).wf=true) x.Used∧(fun n:Int=>(Lit.int .i64 n).wf=true) x.Until∧(fun n:Int=>(Lit.int .i64 n).wf=true) x.Pins
def fitEntry (x:Entry):Prop:=(fun s:ByteArray=>s.size≤reachBytes) x.Key∧(fun xs:List ByteArray=>xs.length*16≤reachBytes∧∀ x∈xs,(fun s:ByteArray=>s.size≤reachBytes) x) x.Refs∧(fun n:Int=>(Lit.int .i64 n).wf=true) x.Used
def fitCache (x:Cache):Prop:=(fun n:Int=>(Lit.int .i64 n).wf=true) x.Room∧(fun n:Int=>(Lit.int .i64 n).wf=true) x.Lease∧(fun xs:List Blob=>xs.length*48≤reachBytes∧∀ x∈xs,fitBlob x) x.Blobs∧(fun xs:List Entry=>xs.length*48≤reachBytes∧∀ x∈xs,fitEntry x) x.Entries
def fitCacheEvent (x:CacheEvent):Prop:=(fun n:Int=>(Lit.int .i64 n).wf=true) x.Kind∧(fun n:Int=>(Lit.int .i64 n).wf=true) x.At∧(fun s:ByteArray=>s.size≤reachBytes) x.Digest∧(fun xs:List ByteArray=>xs.length*16≤reachBytes∧∀ x∈xs,(fun s:ByteArray=>s.size≤reachBytes) x) x.Digests∧(fun s:ByteArray=>s.size≤reachBytes) x.Key∧(fun n:Int=>(Lit.int .i64 n).wf=true) x.Size
def CacheDoesMatchSpec_Pure:Prop:=∀ (a0:Cache) (a1:CacheEvent),fitCache a0→fitCacheEvent a1→smithyardlaw7_CacheDoesMatchSpec.f a0 a1=some true
end Go.Proofs.YtjdnnkdhajhdkaaGreatDoor
