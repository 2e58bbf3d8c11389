/- CacheHeldStays over plain data: what is held stays, and what is not told to have gone is there. -/
import Derived.Test.YtkjilepjblffeaaDoorPDoS
import Derived.Test.YtkjilepjblffeaaDoorPureSCacheHeldStays
set_option linter.unusedVariables false
set_option linter.unusedSimpArgs false
namespace Go.Proofs.YtkjilepjblffeaaDoor
open Go Go.Proofs.YtkjilepjblffeaaDoor.Kit
theorem fit_of {c:Cache} (h:fitCache c):Fit c:=by
  obtain ⟨-,-,⟨h3,h3'⟩,⟨h4,h4'⟩⟩:=h
  exact fit_raw h3 (fun x hx=>(h3' x hx).1) h4 (fun x hx=>⟨(h4' x hx).1,(h4' x hx).2.1.1,(h4' x hx).2.1.2⟩)
theorem contains_prog {l:List ByteArray} (h:l.length≤4611686018427387904) (d:ByteArray):slices_Contains_string.f l d=some (memB l d):=by
  unfold slices_Contains_string.f slices_Index_string.f
  rw [rangeS_all (S:=Unit) (L:=fun k _ v=>slices_Index_string.l2 slices_Index_string.e1 k l d v) (body:=fun v x s f=>bif sEq d x then some v else f s) (e:=fun _=>some (-1)) h (fun k s v=>rfl) (),findLoop l 0]
  simp only [Option.bind_some,Option.some.injEq]
  have e1:memB l d=l.any (fun x=>sEq d x):=by
    unfold memB
    congr 1
    funext x
    by_cases hx:x=d
    · rw [hx,sEq_self]; simp
    · rw [decide_eq_false hx]
      cases he:sEq d x
      · rfl
      · exact absurd (sEq_iff.1 he).symm hx
  have e2:=findIdx_neg (c:=fun x=>sEq d x) l
  rw [e1]
  cases hfi:l.findIdx? (fun x=>sEq d x) with
  | none =>
    rw [hfi] at e2
    simp only at e2 ⊢
    cases ha:l.any (fun x=>sEq d x)
    · rfl
    · rw [ha] at e2
      exact absurd e2 (by decide)
  | some n =>
    rw [hfi] at e2
    simp only at e2 ⊢
    cases ha:l.any (fun x=>sEq d x)
    · rw [ha] at e2
      have:=of_decide_eq_true (show decide ((0:Int)+n<0)=true from e2)
      omega
    · exact decide_eq_true (by omega)
theorem CacheHeldStays_pure:CacheHeldStays_Pure:=by
  intro c e hc he
  have hf:=fit_of hc
  have hsd:smallStrs e.Digests:=(strs_raw he.2.2.2.1.1 he.2.2.2.1.2).1
  unfold smithyardlaw7_CacheHeldStays.f
  rw [doS_prog hf hsd]
  rcases doS_cases c e with ⟨f,hf0,q⟩ | ⟨ok,hev,hn,h0,q⟩
  · rw [q]
    have:(f != 0)=true:=by simpa using hf0
    simp only [Option.bind_some,this,cond_true,noA,awake7]
    rfl
  rw [q]
  have hk:=doK_keeps ok e h0
  have hbl:=ok.bl
  have hlen:=hk.len
  have hb:(doK c e).2.2.Blobs.length≤4611686018427387904∧(doK c e).1.Gone.length≤4611686018427387904:=doK_small ok e
  obtain ⟨hb1,hb2⟩:=hb
  generalize (doK c e).2.2=c' at *
  generalize (doK c e).1=a at *
  simp only [Option.bind_some,bne_self_eq_false,cond_false]
  refine selfLoop (L:=fun k v=>smithyardlaw7_CacheHeldStays.l2 smithyardlaw7_CacheHeldStays.e1 k c e (c',a,0) v) (n:=c.Blobs.length) (by omega) (fun k v v0 v1=>?_) (fun k=>?_)
  · obtain ⟨hn,hat⟩:=at?_get (xs:=c.Blobs) v0 v1
    have hm:=List.getElem_mem hn
    obtain ⟨y,b,eb,hbb,hy⟩:=blob_law (c:=c') hb1 c.Blobs[v.toNat].Digest
    have e1:smithyardlaw7_blob.f (⟨c'.Room,c'.Lease,c'.Blobs,c'.Entries⟩:Cache) c.Blobs[v.toNat].Digest=some (y,b):=eb
    rw [hk.found _ hm] at hbb
    have hsz:=hk.size _ hm
    have hhd:=hk.held _ hm
    generalize c.Blobs[v.toNat]=x at *
    have hheld:(bif decide (0<x.Pins) then some true else some (decide (e.At<x.Until)))=some (heldB x e.At):=by unfold heldB; cases decide (0<x.Pins) <;> rfl
    have hcond:(bif heldB x e.At then (bif !b then some true else bif y.Size != x.Size then some true else (slices_Contains_string.f a.Gone x.Digest).bind fun y5=>some (b == y5)) else ((slices_Contains_string.f a.Gone x.Digest).bind fun y6=>some (b == y6)))=some false:=by
      rw [contains_prog hb2]
      simp only [Option.bind_some]
      cases hh:heldB x e.At
      · rw [hbb]
        cases memB a.Gone x.Digest <;> rfl
      · have hg:=hhd hh
        rw [hg] at hbb ⊢
        simp only [Bool.not_false] at hbb
        obtain ⟨y1,y2⟩:=hy hbb
        rw [hbb,hsz y y1 y2]
        simp
    simp only [smithyardlaw7_CacheHeldStays.l2,decide_eq_true v1,cond_true,hat,Option.bind_some,e1,hheld,hcond,cond_false]
    rw [w64_id (by omega) (by omega)]
  · simp only [smithyardlaw7_CacheHeldStays.l2,decide_eq_false (Int.lt_irrefl _),cond_false,smithyardlaw7_CacheHeldStays.e1,awake7,Option.bind_some]
    rw [w64_id (by omega) (by omega),decide_eq_true (by omega)]
    rfl
end Go.Proofs.YtkjilepjblffeaaDoor
