/- Caches: what is one's own; what is swept. -/
import Derived.Test.YtkjilepjblffeaaDoorPC7F
import Derived.Test.YtkjilepjblffeaaDoorPDel
set_option linter.unusedVariables false
set_option linter.unusedSimpArgs false
namespace Go.Proofs.YtkjilepjblffeaaDoor
open Go Go.Proofs.YtkjilepjblffeaaDoor.Kit
theorem own_id {c:Cache} (hb:c.Blobs.length*48≤140737488355328) (he:c.Entries.length*48≤140737488355328) (hr:∀ x∈c.Entries,x.Refs.length*16≤140737488355328):cache_own.f c=some c:=by
  unfold cache_own.f
  rw [slices_Clone_Blob_id hb,slices_Clone_Entry_id he]
  simp only [Option.bind_some]
  refine selfLoop (L:=fun k v=>cache_own.l2 cache_own.e1 k c c.Blobs c.Entries c.Entries v) (n:=c.Entries.length) (by omega) (fun k v h0 h1=>?_) (fun k=>?_)
  · obtain ⟨hn,hat⟩:=at?_get (xs:=c.Entries) h0 h1
    simp only [cache_own.l2,decide_eq_true h1,cond_true,hat,Option.bind_some,slices_Clone_string_id (hr _ (List.getElem_mem hn))]
    rw [w64_id (by omega) (by omega)]
    congr 1
    exact List.set_getElem_self hn
  · simp only [cache_own.l2,decide_eq_false (Int.lt_irrefl _),cond_false]
    rfl
end Go.Proofs.YtkjilepjblffeaaDoor
