/- CacheLeasesHold over plain data: what was asked for and not missing is kept behind any events before the end of the lease. -/
import Derived.Test.YtkjilepjblffeaaDoorPUp
import Derived.Test.YtkjilepjblffeaaDoorPFol
import Derived.Test.YtkjilepjblffeaaDoorPureSCacheLeasesHold
set_option linter.unusedVariables false
set_option linter.unusedSimpArgs false
namespace Go.Proofs.YtkjilepjblffeaaDoor
open Go Go.Proofs.YtkjilepjblffeaaDoor.Kit
theorem fit_of {c:Cache} (h:fitCache c):Fit c:=by
  obtain ⟨-,-,⟨h3,h3'⟩,⟨h4,h4'⟩⟩:=h
  exact fit_raw h3 (fun x hx=>(h3' x hx).1) h4 (fun x hx=>⟨(h4' x hx).1,(h4' x hx).2.1.1,(h4' x hx).2.1.2⟩)
theorem contains_prog {l:List ByteArray} (h:l.length≤4611686018427387904) (d:ByteArray):slices_Contains_string.f l d=some (memB l d):=by
  unfold slices_Contains_string.f slices_Index_string.f
  rw [rangeS_all (S:=Unit) (L:=fun k _ v=>slices_Index_string.l2 slices_Index_string.e1 k l d v) (body:=fun v x s f=>bif sEq d x then some v else f s) (e:=fun _=>some (-1)) h (fun k s v=>rfl) (),findLoop l 0]
  simp only [Option.bind_some,Option.some.injEq]
  have e1:memB l d=l.any (fun x=>sEq d x):=by
    unfold memB
    congr 1
    funext x
    by_cases hx:x=d
    · rw [hx,sEq_self]; simp
    · rw [decide_eq_false hx]
      cases he:sEq d x
      · rfl
      · exact absurd (sEq_iff.1 he).symm hx
  have e2:=findIdx_neg (c:=fun x=>sEq d x) l
  rw [e1]
  cases hfi:l.findIdx? (fun x=>sEq d x) with
  | none =>
    rw [hfi] at e2
    simp only at e2 ⊢
    cases ha:l.any (fun x=>sEq d x)
    · rfl
    · rw [ha] at e2
      exact absurd e2 (by decide)
  | some n =>
    rw [hfi] at e2
    simp only at e2 ⊢
    cases ha:l.any (fun x=>sEq d x)
    · rw [ha] at e2
      have:=of_decide_eq_true (show decide ((0:Int)+n<0)=true from e2)
      omega
    · exact decide_eq_true (by omega)
theorem CacheLeasesHold_pure:CacheLeasesHold_Pure:=by
  intro c ds t es hc hds ht hes
  have hf:=fit_of hc
  have hsd:∀ e∈es,smallStrs e.Digests:=fun e he=>(strs_raw (hes.2 e he).2.2.2.1.1 (hes.2 e he).2.2.2.1.2).1
  have hsd0:=(strs_raw hds.1 hds.2).1
  have hel:es.length≤4611686018427387904:=by
    have:=hes.1
    have h2:reachBytes≤4611686018427387904:=by decide
    omega
  unfold smithyardlaw7_CacheLeasesHold.f
  rw [doS_prog (e:=(⟨3,t,ByteArray.empty,ds,ByteArray.empty,0⟩:CacheEvent)) hf hsd0]
  rcases doS_cases c (⟨3,t,ByteArray.empty,ds,ByteArray.empty,0⟩:CacheEvent) with ⟨f,hf0,q⟩ | ⟨ok,hev,hn,h0,q⟩
  · rw [q]
    have:(f != 0)=true:=by simpa using hf0
    simp only [Option.bind_some,this,cond_true,noA,awake7]
    rfl
  rw [q]
  have hk:doK c (⟨3,t,ByteArray.empty,ds,ByteArray.empty,0⟩:CacheEvent)=(⟨((missingS c ds).length:Int) == 0,missingS c ds,[]⟩,0,⟨c.Room,c.Lease,touchL t c.Lease false true ds c.Blobs,c.Entries⟩):=rfl
  obtain ⟨ok',hn'⟩:=doK_ok ok hev hn h0
  obtain ⟨hdl,_,⟨ht0,ht1⟩,_⟩:=eventS_zero hev
  simp only at ht0 ht1 hdl
  have hl0:=ok.lease0
  have hl1:=ok.lease1
  have hT:w64 (t+c.Lease)=t+c.Lease:=w64_id (by omega) (by omega)
  rw [hk] at ok' ⊢
  simp only at ok' ⊢
  have hlsd:∀ d∈ds,memB (missingS c ds) d=false→Lsd (⟨c.Room,c.Lease,touchL t c.Lease false true ds c.Blobs,c.Entries⟩:Cache) (t+c.Lease) d:=by
    intro d hd hm
    have hb:hasB c d=true:=by
      cases hb:hasB c d
      · rw [memB_iff.2 (show d∈missingS c ds from List.mem_filter.2 ⟨hd,by rw [hb]; rfl⟩)] at hm
        cases hm
      · rfl
    obtain ⟨b,b1,b2⟩:=hasB_iff.1 hb
    refine ⟨touchB t c.Lease false true b,List.mem_map.2 ⟨b,b1,?_⟩,b2,?_⟩
    · rw [b2,memB_iff.2 hd]
      rfl
    · show t+c.Lease≤max2 b.Until (t+c.Lease)
      unfold max2
      split <;> omega
  have hml:(missingS c ds).length≤4611686018427387904:=by
    have:(missingS c ds).length≤ds.length:=List.length_filter_le _ _
    omega
  generalize (⟨c.Room,c.Lease,touchL t c.Lease false true ds c.Blobs,c.Entries⟩:Cache)=c' at *
  simp only [Option.bind_some,bne_self_eq_false,cond_false]
  have e1:cache_Follow.f (⟨c'.Room,c'.Lease,c'.Blobs,c'.Entries⟩:Cache) es=followF c' es:=followF_prog ok'.fit hsd
  rw [e1]
  rcases followF_cases c' es with ⟨f,hf0,q2⟩ | ⟨_,hlen,hz,oky,q2⟩
  · rw [q2]
    have:(f != 0)=true:=by simpa using hf0
    simp only [Option.bind_some,this,cond_true,awake7]
    rfl
  rw [q2]
  simp only [Option.bind_some,bne_self_eq_false,cond_false]
  rw [rangeS_all (S:=Unit) (L:=fun k _ v=>smithyardlaw7_CacheLeasesHold.l4 smithyardlaw7_CacheLeasesHold.e1 k c ds t es _ _ v) (body:=fun _ x s f=>bif decide (t+c.Lease≤x.At) then some true else f s) (e:=fun _=>smithyardlaw7_CacheLeasesHold.e1 ds _ _) hel (fun k s v=>by
    simp only [smithyardlaw7_CacheLeasesHold.l4,hT,awake7,Option.bind_some]
    rfl) (),earlyLoop es 0]
  cases ha:es.any (fun x=>decide (t+c.Lease≤x.At))
  · have hlt:∀ e∈es,e.At<t+c.Lease:=by
      intro e he
      have:=List.any_eq_false.1 ha e he
      simp at this
      omega
    have hyl:=oky.bl
    have hls:∀ d∈ds,memB (missingS c ds) d=false→hasK (fun x:Blob=>x.Digest) (followS es c' []).1.Blobs d=true:=fun d hd hm=>by
      obtain ⟨x,x1,x2,_⟩:=follow_leased es c' [] ok' hlt (hlsd d hd hm) hz
      exact hasK_iff.2 ⟨x,x1,x2⟩
    generalize (followS es c' [])=y at *
    simp only [cond_false,smithyardlaw7_CacheLeasesHold.e1]
    refine selfLoop (L:=fun k v=>smithyardlaw7_CacheLeasesHold.l3 smithyardlaw7_CacheLeasesHold.e2 k ds _ _ v) (n:=ds.length) (by omega) (fun k v v0 v1=>?_) (fun k=>?_)
    · obtain ⟨hn,hat⟩:=at?_get (xs:=ds) v0 v1
      have hm:=List.getElem_mem hn
      obtain ⟨z,b,eb,hbb,_⟩:=blob_law (c:=y.1) (by omega) ds[v.toNat]
      have e2:smithyardlaw7_blob.f (⟨y.1.Room,y.1.Lease,y.1.Blobs,y.1.Entries⟩:Cache) ds[v.toNat]=some (z,b):=eb
      have hw:=hls _ hm
      simp only [smithyardlaw7_CacheLeasesHold.l3,decide_eq_true v1,cond_true,hat,Option.bind_some,e2,contains_prog hml]
      rw [w64_id (by omega) (by omega)]
      cases hq:memB (missingS c ds) ds[v.toNat]
      · rw [hbb,hw hq]
        rfl
      · cases b <;> rfl
    · simp only [smithyardlaw7_CacheLeasesHold.l3,decide_eq_false (Int.lt_irrefl _),cond_false,smithyardlaw7_CacheLeasesHold.e2,awake7,Option.bind_some]
  · rfl
end Go.Proofs.YtkjilepjblffeaaDoor
