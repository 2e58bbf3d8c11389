/- Caches: what is one's own; what is swept. -/
import Derived.Test.YtkjilepjblffeaaDoorPC7F
import Derived.Test.YtkjilepjblffeaaDoorPDel
set_option linter.unusedVariables false
set_option linter.unusedSimpArgs false
namespace Go.Proofs.YtkjilepjblffeaaDoor
open Go Go.Proofs.YtkjilepjblffeaaDoor.Kit
theorem own_id {c:Cache} (hb:c.Blobs.length*48≤140737488355328) (he:c.Entries.length*48≤140737488355328) (hr:∀ x∈c.Entries,x.Refs.length*16≤140737488355328):cache_own.f c=some c:=by
  unfold cache_own.f
  rw [slices_Clone_Blob_id hb,slices_Clone_Entry_id he]
  simp only [Option.bind_some]
  refine selfLoop (L:=fun k v=>cache_own.l2 cache_own.e1 k c c.Blobs c.Entries c.Entries v) (n:=c.Entries.length) (by omega) (fun k v h0 h1=>?_) (fun k=>?_)
  · obtain ⟨hn,hat⟩:=at?_get (xs:=c.Entries) h0 h1
    simp only [cache_own.l2,decide_eq_true h1,cond_true,hat,Option.bind_some,slices_Clone_string_id (hr _ (List.getElem_mem hn))]
    rw [w64_id (by omega) (by omega)]
    congr 1
    exact List.set_getElem_self hn
  · simp only [cache_own.l2,decide_eq_false (Int.lt_irrefl _),cond_false]
    rfl
theorem roots_loop {c:Cache} {roots:List ByteArray} {t:Int} (h:roots.length≤4611686018427387904):cache_Swept.l6 cache_Swept.e1 big roots t c [] [] 0=cache_Swept.e1 t c (putAll [] roots) (putAll [] roots):=by
  have h1:=rangeS_all (xs:=roots) (S:=List (ByteArray × Bool) × List (ByteArray × Bool)) (L:=fun k s v=>cache_Swept.l6 cache_Swept.e1 k roots t c s.1 s.2 v) (body:=fun _ x s f=>f (mput s.1 x true,mput s.2 x true)) (e:=fun s=>cache_Swept.e1 t c s.1 s.2) h (fun k s v=>rfl) ([],[])
  have h2:=foldLoop (g:=fun (s:List (ByteArray × Bool) × List (ByteArray × Bool)) x=>(mput s.1 x true,mput s.2 x true)) (E:=fun s=>cache_Swept.e1 t c s.1 s.2) roots 0 ([],[])
  have h3:∀ (l:List ByteArray) (a b:List (ByteArray × Bool)),l.foldl (fun (s:List (ByteArray × Bool) × List (ByteArray × Bool)) x=>(mput s.1 x true,mput s.2 x true)) (a,b)=(putAll a l,putAll b l):=by
    intro l
    induction l with
    | nil=>intro a b; rfl
    | cons x l ih=>intro a b; simp only [List.foldl_cons]; rw [ih]; rfl
  rw [h3] at h2
  exact h1.trans h2
theorem refs_loop {j4:Int→Cache→(List (ByteArray × Bool))→Int→(List (ByteArray × Bool))→Option (Cache × (List ByteArray) × Int)} {t:Int} {c:Cache} {isR w:List (ByteArray × Bool)} {v:Int} {x:Entry} (h:x.Refs.length≤4611686018427387904) :
    cache_Swept.l5 j4 big t c isR v x w 0=j4 t c isR v (putAll w x.Refs):=by
  have h1:=rangeS_all (xs:=x.Refs) (L:=fun k s u=>cache_Swept.l5 j4 k t c isR v x s u) (body:=fun _ y s f=>f (mput s y true)) (e:=fun s=>j4 t c isR v s) h (fun k s u=>rfl) w
  have h2:=foldLoop (g:=fun (s:List (ByteArray × Bool)) y=>mput s y true) (E:=fun s=>j4 t c isR v s) x.Refs 0 w
  exact h1.trans h2
def wantStep (c:Cache) (isR w:List (ByteArray × Bool)) (x:Entry):List (ByteArray × Bool):=bif mgetD isR x.Key false&&(missingS c x.Refs).isEmpty then putAll w x.Refs else w
theorem ents_loop {c:Cache} {t:Int} {isR w:List (ByteArray × Bool)} (h:smallCache c) (hs:c.Blobs.Pairwise (fun a b=>sLt a.Digest b.Digest=true)) (hr:∀ x∈c.Entries,x.Refs.length*16≤140737488355328) :
    cache_Swept.l3 cache_Swept.e2 big t c isR w 0=cache_Swept.e2 t c isR (c.Entries.foldl (wantStep c isR) w):=by
  have hl:c.Entries.length≤4611686018427387904:=by have:=h.2.1; omega
  have h1:=rangeS_all (xs:=c.Entries) (L:=fun k s u=>cache_Swept.l3 cache_Swept.e2 k t c isR s u) (body:=fun _ x s f=>f (wantStep c isR s x)) (e:=fun s=>cache_Swept.e2 t c isR s) hl (fun k s u=>by
    simp only [cache_Swept.l3]
    congr 1
    refine bind_at (fun x hx=>?_)
    have hm:cache_missing.f (⟨c.Room,c.Lease,c.Blobs,c.Entries⟩:Cache) x.Refs=some (missingS c x.Refs):=missing_prog h hs (hr x hx)
    rw [hm]
    unfold wantStep
    cases hk:mgetD isR x.Key false
    · simp [cache_Swept.j4]
    · cases hq:missingS c x.Refs with
      | nil =>
        simp only [cond_true,Option.bind_some,List.length_nil,List.isEmpty_nil,Bool.and_self]
        have:(((0:Nat):Int) == 0)=true:=rfl
        rw [this]
        simp only [cond_true]
        rw [refs_loop (by have:=hr x hx; omega)]
        rfl
      | cons a l =>
        have:((((a::l).length:Nat):Int) == 0)=false:=by simp; omega
        simp only [cond_true,Option.bind_some,this,cond_false,List.isEmpty_cons,Bool.and_false]
        rfl) w
  have h2:=foldLoop (g:=wantStep c isR) (E:=fun s=>cache_Swept.e2 t c isR s) c.Entries 0 w
  exact h1.trans h2
def heldB (b:Blob) (t:Int):Bool:=decide (0<b.Pins)||decide (t<b.Until)
theorem held_prog (b:Blob) (t:Int):cache_held.f b t=some (heldB b t):=by
  unfold cache_held.f heldB
  cases decide (0<b.Pins) <;> rfl
theorem swept1_prog (b:Blob) (t:Int) (w:List (ByteArray × Bool)):cache_Swept_1.f b t w=some (heldB b t||mgetD w b.Digest false):=by
  unfold cache_Swept_1.f
  rw [held_prog]
  cases heldB b t <;> rfl
theorem index1_prog (l:List Blob) (t:Int) (w:List (ByteArray × Bool)) (h:l.length≤4611686018427387904):slices_IndexFunc_Blob.f l t w=some (match l.findIdx? (fun b=>heldB b t||mgetD w b.Digest false) with | some n=>(0:Int)+n | none => -1):=by
  unfold slices_IndexFunc_Blob.f
  rw [rangeS_all (xs:=l) (S:=Unit) (L:=fun k _ v=>slices_IndexFunc_Blob.l2 slices_IndexFunc_Blob.e1 k l t w v) (body:=fun v x s f=>bif (heldB x t||mgetD w x.Digest false) then some v else f s) (e:=fun _=>some (-1)) h (fun k s v=>by
    simp only [slices_IndexFunc_Blob.l2,swept1_prog,Option.bind_some]
    rfl) ()]
  exact findLoop l 0
theorem delE {α:Type} {z:α} (s:List α) (i:Int) (h0:0≤i) (h1:i≤(s.length:Int)):(guard? (decide ((0:Int)≤i)&&decide (i≤((s.length:Nat):Int))) (guard? (decide ((0:Int)≤i)&&decide (i≤((s.length:Nat):Int))) (some ((s.take i.toNat++List.replicate (s.length - i.toNat) z).take i.toNat))))=some (s.take i.toNat):=by
  rw [decide_eq_true h0,decide_eq_true h1]
  simp only [Bool.and_self,guard?,cond_true]
  congr 1
  rw [List.take_append_of_le_length (by simp; omega),List.take_take,Nat.min_self]
theorem del1_prog (l:List Blob) (t:Int) (w:List (ByteArray × Bool)) (h:l.length≤4611686018427387904):slices_DeleteFunc_Blob.f l t w=some (l.filter (fun b=>!(heldB b t||mgetD w b.Digest false))):=by
  unfold slices_DeleteFunc_Blob.f
  rw [index1_prog l t w h]
  exact delFunc (c:=fun b=>heldB b t||mgetD w b.Digest false) (L:=fun k s i j=>slices_DeleteFunc_Blob.l2 slices_DeleteFunc_Blob.e1 k t w s i j) (E:=slices_DeleteFunc_Blob.e1) h (fun k s i j=>by
    simp only [slices_DeleteFunc_Blob.l2,slices_DeleteFunc_Blob.j3,swept1_prog,Option.bind_some]) (fun s i h0 h1=>delE s i h0 h1)
theorem del2_prog (l:List Blob) (w:List (ByteArray × Bool)) (h:l.length≤4611686018427387904):slices_DeleteFunc_Blob_2.f l w=some (l.filter (fun b=>!mgetD w b.Digest false)):=by
  unfold slices_DeleteFunc_Blob_2.f slices_IndexFunc_Blob_2.f
  rw [rangeS_all (xs:=l) (S:=Unit) (L:=fun k _ v=>slices_IndexFunc_Blob_2.l2 slices_IndexFunc_Blob_2.e1 k l w v) (body:=fun v x s f=>bif mgetD w x.Digest false then some v else f s) (e:=fun _=>some (-1)) h (fun k s v=>rfl) (),findLoop l 0]
  exact delFunc (c:=fun b:Blob=>mgetD w b.Digest false) (L:=fun k s i j=>slices_DeleteFunc_Blob_2.l2 slices_DeleteFunc_Blob_2.e1 k w s i j) (E:=slices_DeleteFunc_Blob_2.e1) h (fun k s i j=>by
    simp only [slices_DeleteFunc_Blob_2.l2,slices_DeleteFunc_Blob_2.j3,cache_drop_1.f,Option.bind_some]) (fun s i h0 h1=>delE s i h0 h1)
theorem del3_prog (l:List Entry) (w:List (ByteArray × Bool)) (h:l.length≤4611686018427387904):slices_DeleteFunc_Entry.f l w=some (l.filter (fun x=>mgetD w x.Key false)):=by
  unfold slices_DeleteFunc_Entry.f slices_IndexFunc_Entry.f
  rw [rangeS_all (xs:=l) (S:=Unit) (L:=fun k _ v=>slices_IndexFunc_Entry.l2 slices_IndexFunc_Entry.e1 k l w v) (body:=fun v x s f=>bif !mgetD w x.Key false then some v else f s) (e:=fun _=>some (-1)) h (fun k s v=>rfl) (),findLoop l 0]
  have:=delFunc (c:=fun x:Entry=>!mgetD w x.Key false) (L:=fun k s i j=>slices_DeleteFunc_Entry.l2 slices_DeleteFunc_Entry.e1 k w s i j) (E:=slices_DeleteFunc_Entry.e1) h (fun k s i j=>by
    simp only [slices_DeleteFunc_Entry.l2,slices_DeleteFunc_Entry.j3,cache_Swept_2.f,Option.bind_some]) (fun s i h0 h1=>delE s i h0 h1)
  have e:∀ l:List Entry,l.filter (fun x=>!!mgetD w x.Key false)=l.filter (fun x=>mgetD w x.Key false):=fun l=>by simp only [Bool.not_not]
  rw [e] at this
  exact this
end Go.Proofs.YtkjilepjblffeaaDoor
