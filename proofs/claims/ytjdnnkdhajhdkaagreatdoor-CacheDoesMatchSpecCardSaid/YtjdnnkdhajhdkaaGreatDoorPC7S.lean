/- Caches: copies, sweeps and drops; lists of digests. -/
import Derived.Test.YtjdnnkdhajhdkaaGreatDoorPC7F
import Derived.Test.YtjdnnkdhajhdkaaGreatDoorPDel
set_option linter.unusedVariables false
set_option linter.unusedSimpArgs false
namespace Go.Proofs.YtjdnnkdhajhdkaaGreatDoor
open Go Go.Proofs.YtjdnnkdhajhdkaaGreatDoor.Kit
theorem own_id {c:Cache} (hb:c.Blobs.length*48≤140737490452480) (he:c.Entries.length*48≤140737490452480) (hr:∀ x∈c.Entries,x.Refs.length*16≤140737490452480):cache_own.f c=some c:=by
  unfold cache_own.f
  rw [slices_Clone_Blob_id hb,slices_Clone_Entry_id he]
  simp only [Option.bind_some]
  refine selfLoop (L:=fun k v=>cache_own.l2 cache_own.e1 k c c.Blobs c.Entries c.Entries v) (n:=c.Entries.length) (by omega) (fun k v h0 h1=>?_) (fun k=>?_)
  · obtain ⟨hn,hat⟩:=at?_get (xs:=c.Entries) h0 h1
    simp only [cache_own.l2,decide_eq_true h1,cond_true,hat,Option.bind_some,slices_Clone_string_id (hr _ (List.getElem_mem hn))]
    rw [w64_id (by omega) (by omega)]
    congr 1
    exact List.set_getElem_self hn
  · simp only [cache_own.l2,decide_eq_false (Int.lt_irrefl _),cond_false]
    rfl
def heldB (b:Blob) (t:Int):Bool:=decide (0<b.Pins)||decide (t<b.Until)
theorem held_prog (b:Blob) (t:Int):cache_held.f b t=some (heldB b t):=by
  unfold cache_held.f heldB
  cases decide (0<b.Pins) <;> rfl
theorem delE {α:Type} {z:α} (s:List α) (i:Int) (h0:0≤i) (h1:i≤(s.length:Int)):(guard? (decide ((0:Int)≤i)&&decide (i≤((s.length:Nat):Int))) (guard? (decide ((0:Int)≤i)&&decide (i≤((s.length:Nat):Int))) (some ((s.take i.toNat++List.replicate (s.length - i.toNat) z).take i.toNat))))=some (s.take i.toNat):=by
  rw [decide_eq_true h0,decide_eq_true h1]
  simp only [Bool.and_self,guard?,cond_true]
  congr 1
  rw [List.take_append_of_le_length (by simp; omega),List.take_take,Nat.min_self]
theorem del2_prog (l:List Blob) (w:List (ByteArray × Bool)) (h:l.length≤4611686018427387904):slices_DeleteFunc_Blob_2.f l w=some (l.filter (fun b=>!mgetD w b.Digest false)):=by
  unfold slices_DeleteFunc_Blob_2.f slices_IndexFunc_Blob_2.f
  rw [rangeS_all (xs:=l) (S:=Unit) (L:=fun k _ v=>slices_IndexFunc_Blob_2.l2 slices_IndexFunc_Blob_2.e1 k l w v) (body:=fun v x s f=>bif mgetD w x.Digest false then some v else f s) (e:=fun _=>some (-1)) h (fun k s v=>rfl) (),findLoop l 0]
  exact delFunc (c:=fun b:Blob=>mgetD w b.Digest false) (L:=fun k s i j=>slices_DeleteFunc_Blob_2.l2 slices_DeleteFunc_Blob_2.e1 k w s i j) (E:=slices_DeleteFunc_Blob_2.e1) h (fun k s i j=>by
    simp only [slices_DeleteFunc_Blob_2.l2,slices_DeleteFunc_Blob_2.j3,cache_drop_1.f,Option.bind_some]) (fun s i h0 h1=>delE s i h0 h1)
end Go.Proofs.YtjdnnkdhajhdkaaGreatDoor

namespace Go.Proofs.YtjdnnkdhajhdkaaGreatDoor
open Go Go.Proofs.YtjdnnkdhajhdkaaGreatDoor.Kit
theorem mapLoop {α γ β:Type} {g:α→γ} {b:Nat} {E:List γ→Option β} (l:List α) (i:Int) (s:List γ) (h:(s.length+l.length)*b≤140737490452480) :
    rangeS (fun _ x s f=>guard? (room s.length 1 b) (f (s++[g x]))) E i l s=E (s++l.map g):=by
  have:=filterLoop (c:=fun _=>true) (g:=g) (b:=b) (E:=E) l i s h
  have e:l.filter (fun _=>true)=l:=by simp
  rw [e] at this
  exact this
def memB (l:List ByteArray) (d:ByteArray):Bool:=l.any (fun x=>decide (x=d))
theorem putAll_mem:∀ (l:List ByteArray) (m:List (ByteArray × Bool)) (d:ByteArray),mgetD (putAll m l) d false=(memB l d||mgetD m d false)
  | [],m,d=>by simp [putAll,memB]
  | k::l,m,d=>by
    have ih:=putAll_mem l (mput m k true) d
    unfold putAll at ih ⊢
    rw [List.foldl_cons,ih,mgetD_put]
    simp only [memB,List.any_cons]
    cases decide (k=d) <;> simp
theorem drop_prog {c:Cache} {l:List ByteArray} (h:l.length≤4611686018427387904) (hb:c.Blobs.length≤4611686018427387904):cache_drop_3.f c l=some ⟨c.Room,c.Lease,c.Blobs.filter (fun b=>!memB l b.Digest),c.Entries⟩:=by
  unfold cache_drop_3.f
  rw [rangeS_all (xs:=l) (L:=fun k s v=>cache_drop_3.l2 cache_drop_3.e1 k c l s v) (body:=fun _ x s f=>f (mput s x true)) (e:=fun s=>cache_drop_3.e1 c s) h (fun k s v=>rfl) [],foldLoop (g:=fun (s:List (ByteArray × Bool)) y=>mput s y true) l 0 []]
  unfold cache_drop_3.e1
  rw [del2_prog _ _ hb]
  have:∀ b:Blob,mgetD (l.foldl (fun (s:List (ByteArray × Bool)) y=>mput s y true) []) b.Digest false=memB l b.Digest:=fun b=>by
    have:=putAll_mem l [] b.Digest
    unfold putAll at this
    rw [this]
    simp [mgetD,mget]
  simp only [this,Option.bind_some]
end Go.Proofs.YtjdnnkdhajhdkaaGreatDoor
