/- Caches: digests of blobs, and what is dropped. -/
import Derived.Test.YtkjilepjblffeaaDoorPC7S
set_option linter.unusedVariables false
set_option linter.unusedSimpArgs false
namespace Go.Proofs.YtkjilepjblffeaaDoor
open Go Go.Proofs.YtkjilepjblffeaaDoor.Kit
def memB (l:List ByteArray) (d:ByteArray):Bool:=l.any (fun x=>decide (x=d))
theorem putAll_mem:∀ (l:List ByteArray) (m:List (ByteArray × Bool)) (d:ByteArray),mgetD (putAll m l) d false=(memB l d||mgetD m d false)
  | [],m,d=>by simp [putAll,memB]
  | k::l,m,d=>by
    have ih:=putAll_mem l (mput m k true) d
    unfold putAll at ih ⊢
    rw [List.foldl_cons,ih,mgetD_put]
    simp only [memB,List.any_cons]
    cases decide (k=d) <;> simp
theorem drop_prog {c:Cache} {l:List ByteArray} (h:l.length≤4611686018427387904) (hb:c.Blobs.length≤4611686018427387904):cache_drop.f c l=some ⟨c.Room,c.Lease,c.Blobs.filter (fun b=>!memB l b.Digest),c.Entries⟩:=by
  unfold cache_drop.f
  rw [rangeS_all (xs:=l) (L:=fun k s v=>cache_drop.l2 cache_drop.e1 k c l s v) (body:=fun _ x s f=>f (mput s x true)) (e:=fun s=>cache_drop.e1 c s) h (fun k s v=>rfl) [],foldLoop (g:=fun (s:List (ByteArray × Bool)) y=>mput s y true) l 0 []]
  unfold cache_drop.e1
  rw [del2_prog _ _ hb]
  have:∀ b:Blob,mgetD (l.foldl (fun (s:List (ByteArray × Bool)) y=>mput s y true) []) b.Digest false=memB l b.Digest:=fun b=>by
    have:=putAll_mem l [] b.Digest
    unfold putAll at this
    rw [this]
    simp [mgetD,mget]
  simp only [this,Option.bind_some]
end Go.Proofs.YtkjilepjblffeaaDoor
