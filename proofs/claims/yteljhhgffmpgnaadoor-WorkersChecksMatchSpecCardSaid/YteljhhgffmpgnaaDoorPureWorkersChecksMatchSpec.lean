/- WorkersChecksMatchSpec over plain data: workers, works and what fits are checked on both sides alike. -/
import Derived.Test.YteljhhgffmpgnaaDoorPWo
import Derived.Test.YteljhhgffmpgnaaDoorPureSWorkersChecksMatchSpec
set_option linter.unusedVariables false
set_option linter.unusedSimpArgs false
namespace Go.Proofs.YteljhhgffmpgnaaDoor
open Go Go.Proofs.YteljhhgffmpgnaaDoor.Kit
theorem small_of_fit {w:Worker} (h:fitWorker w):smallWorker w:=by
  obtain ⟨h1,h2,h3,h4,h5,h6,h7⟩:=h
  simp only [reachBytes] at h1 h2 h7
  refine ⟨by omega,⟨by omega,fun x hx=>?_⟩,by omega⟩
  have:=h2.2 x hx
  obtain ⟨k1,k2⟩:=this
  simp only [reachBytes] at k1 k2
  omega
theorem small_of_fitW {x:Work} (h:fitWork x):smallWork x:=by
  obtain ⟨h1,h2,h3,h4⟩:=h
  simp only [reachBytes] at h1 h2 h4
  refine ⟨by omega,⟨by omega,fun x hx=>?_⟩,by omega,fun y hy=>?_⟩
  · have:=h2.2 x hx
    obtain ⟨k1,k2⟩:=this
    simp only [reachBytes] at k1 k2
    omega
  · have:=h4.2 y hy
    omega
theorem copy_id {w:Worker} (h:fitWorker w):smithyardref9_CopyWorker.f w=some w:=by
  obtain ⟨h1,h2,h3,h4,h5,h6,h7⟩:=h
  simp only [reachBytes] at h1 h2 h7
  unfold smithyardref9_CopyWorker.f
  rw [slices_Clone_Pair_id (by omega),slices_Clone_Span_id (by omega)]
  rfl
theorem copyW_id {x:Work} (h:fitWork x):smithyardref9_CopyWork.f x=some x:=by
  obtain ⟨h1,h2,h3,h4⟩:=h
  simp only [reachBytes] at h1 h2 h4
  unfold smithyardref9_CopyWork.f
  rw [slices_Clone_Pair_id (by omega),slices_Clone_string_id (by omega)]
  rfl
theorem copies_id {l:List Worker} (hl:l.length*96≤140737490452480) (h:∀ x∈l,fitWorker x):smithyardref9_CopyWorkers.f l=some l:=by
  unfold smithyardref9_CopyWorkers.f
  rw [rangeS_all (xs:=l) (L:=fun k s v=>smithyardref9_CopyWorkers.l2 smithyardref9_CopyWorkers.e1 k l s v) (body:=fun _ x s f=>bif (fun _=>true) x then guard? (room s.length 1 96) (f (s++[id x])) else f s) (e:=fun s=>some s) (by omega) (fun k s v=>by
    simp only [smithyardref9_CopyWorkers.l2]
    congr 1
    refine bind_at (fun x hx=>?_)
    rw [copy_id (h x hx)]
    rfl) []]
  rw [filterLoop l 0 [] (by simp; omega)]
  have:∀ l:List Worker,l.filter (fun _=>true)=l:=fun l=>by simp
  simp [this]
theorem copiesW_id {l:List Work} (hl:l.length*72≤140737490452480) (h:∀ x∈l,fitWork x):smithyardref9_CopyWorks.f l=some l:=by
  unfold smithyardref9_CopyWorks.f
  rw [rangeS_all (xs:=l) (L:=fun k s v=>smithyardref9_CopyWorks.l2 smithyardref9_CopyWorks.e1 k l s v) (body:=fun _ x s f=>bif (fun _=>true) x then guard? (room s.length 1 72) (f (s++[id x])) else f s) (e:=fun s=>some s) (by omega) (fun k s v=>by
    simp only [smithyardref9_CopyWorks.l2]
    congr 1
    refine bind_at (fun x hx=>?_)
    rw [copyW_id (h x hx)]
    rfl) []]
  rw [filterLoop l 0 [] (by simp; omega)]
  have:∀ l:List Work,l.filter (fun _=>true)=l:=fun l=>by simp
  simp [this]
theorem same_self {w:Worker} (h:smallWorker w):smithyardref9_SameWorker.f w w=some true:=by
  unfold smithyardref9_SameWorker.f
  rw [slices_Equal_Pair_self h.2.1.1,slices_Equal_Span_self h.2.2]
  simp [sEq]
theorem sameW_self {x:Work} (h:smallWork x):smithyardref9_SameWork.f x x=some true:=by
  unfold smithyardref9_SameWork.f
  rw [slices_Equal_Pair_self h.2.1.1,slices_Equal_string_self h.2.2.1]
  simp [sEq]
theorem sames_self {l:List Worker} (hl:l.length≤4611686018427387904) (h:∀ x∈l,smallWorker x):smithyardref9_SameWorkers.f l l=some true:=by
  unfold smithyardref9_SameWorkers.f
  rw [bne_self_eq_false]
  refine selfLoop (L:=fun k v=>smithyardref9_SameWorkers.l2 smithyardref9_SameWorkers.e1 k l l v) hl (fun k v h0 h1=>?_) (fun k=>?_)
  · obtain ⟨hn,hat⟩:=at?_get (xs:=l) h0 h1
    simp only [smithyardref9_SameWorkers.l2,decide_eq_true h1,cond_true,hat,Option.bind_some,same_self (h _ (List.getElem_mem hn)),Bool.not_true,cond_false]
    rw [w64_id (by omega) (by omega)]
  · simp only [smithyardref9_SameWorkers.l2,decide_eq_false (Int.lt_irrefl _),cond_false]
    rfl
theorem samesW_self {l:List Work} (hl:l.length≤4611686018427387904) (h:∀ x∈l,smallWork x):smithyardref9_SameWorks.f l l=some true:=by
  unfold smithyardref9_SameWorks.f
  rw [bne_self_eq_false]
  refine selfLoop (L:=fun k v=>smithyardref9_SameWorks.l2 smithyardref9_SameWorks.e1 k l l v) hl (fun k v h0 h1=>?_) (fun k=>?_)
  · obtain ⟨hn,hat⟩:=at?_get (xs:=l) h0 h1
    simp only [smithyardref9_SameWorks.l2,decide_eq_true h1,cond_true,hat,Option.bind_some,sameW_self (h _ (List.getElem_mem hn)),Bool.not_true,cond_false]
    rw [w64_id (by omega) (by omega)]
  · simp only [smithyardref9_SameWorks.l2,decide_eq_false (Int.lt_irrefl _),cond_false]
    rfl
theorem fit_both {w:Worker} {x:Work} (hw:smallWorker w) (hx:smallWork x):∃ r,config_Fit.f x.Needs w.Has=some r∧smithyardref9_fits.f w x=some r:=by
  have hc:∀ p,∃ c,slices_Contains_Pair.f w.Has p=some c:=by
    intro p
    unfold slices_Contains_Pair.f slices_Index_Pair.f
    rw [rangeS_all (S:=Unit) (xs:=w.Has) (L:=fun k _ v=>slices_Index_Pair.l2 slices_Index_Pair.e1 k w.Has p v) (body:=fun v x s f=>bif (sEq p.Name x.Name&&(sEq p.Value x.Value&&true)) then some v else f s) (e:=fun _=>some (-1)) hw.2.1.1 (fun k s v=>rfl) (),findLoop w.Has 0]
    exact ⟨_,rfl⟩
  have hB:=rangeS_some (S:=Unit) (body:=fun (_:Int) (p:Pair) (s:Unit) (f:Unit→Option Bool)=>(slices_Contains_Pair.f w.Has p).bind fun y=>bif !y then some false else f s) (e:=fun _=>some true) (fun v p s f hf=>by
    obtain ⟨c,hcc⟩:=hc p
    rw [hcc]
    cases c
    · exact ⟨_,rfl⟩
    · exact hf s) (fun s=>⟨_,rfl⟩) x.Needs 0 ()
  obtain ⟨r,hr⟩:=hB
  refine ⟨r,?_,?_⟩
  · unfold config_Fit.f
    rw [rangeS_all (S:=Unit) (xs:=x.Needs) (L:=fun k _ v=>config_Fit.l2 config_Fit.e1 k x.Needs w.Has v) (body:=fun (_:Int) (p:Pair) (s:Unit) (f:Unit→Option Bool)=>(slices_Contains_Pair.f w.Has p).bind fun y=>bif !y then some false else f s) (e:=fun _=>some true) hx.2.1.1 (fun k s v=>rfl) ()]
    exact hr
  · unfold smithyardref9_fits.f
    rw [rangeS_all (S:=Unit) (xs:=x.Needs) (L:=fun k _ v=>smithyardref9_fits.l2 smithyardref9_fits.e1 k w x v) (body:=fun (_:Int) (p:Pair) (s:Unit) (f:Unit→Option Bool)=>(slices_Contains_Pair.f w.Has p).bind fun y=>bif !y then some false else f s) (e:=fun _=>some true) hx.2.1.1 (fun k s v=>rfl) ()]
    exact hr
theorem Fits_both {w:Worker} {x:Work} (hw:smallWorker w) (hx:smallWork x):∃ r,workers_Fits.f w x=some r∧smithyardref9_Fits.f w x=some r:=by
  unfold workers_Fits.f smithyardref9_Fits.f
  obtain ⟨f,hf⟩:=workerS_some w
  obtain ⟨g,hg⟩:=workS_some x
  obtain ⟨r,h1,h2⟩:=fit_both hw hx
  rw [worker_prog hw,worker_ref hw,work_prog hx,work_ref hx,hf,hg,h1,h2]
  simp only [Option.bind_some]
  cases f != 0
  · cases g != 0
    · exact ⟨_,rfl,rfl⟩
    · exact ⟨_,rfl,rfl⟩
  · exact ⟨_,rfl,rfl⟩
theorem WorkersChecksMatchSpec_pure:WorkersChecksMatchSpec_Pure:=by
  intro l m w x hl hm hw hx
  have hl1:=hl.1
  have hm1:=hm.1
  simp only [reachBytes] at hl1 hm1
  have sw:=small_of_fit hw
  have sx:=small_of_fitW hx
  have sl:∀ y∈l,smallWorker y:=fun y hy=>small_of_fit (hl.2 y hy)
  have sm:∀ y∈m,smallWork y:=fun y hy=>small_of_fitW (hm.2 y hy)
  obtain ⟨r,r1,r2⟩:=Fits_both sw sx
  obtain ⟨q,q1,q2⟩:=works_both (l:=m) (by omega) sm
  obtain ⟨p,p1⟩:=workersS_some l
  have r2':smithyardref9_Fits.f (⟨w.Name,w.Has,w.Slots,w.Speed,w.From,w.To,w.Stands⟩:Worker) (⟨x.Id,x.Needs,x.Size,x.After⟩:Work)=some r:=r2
  have e1:smithyardref9_SameWorker.f w (⟨w.Name,w.Has,w.Slots,w.Speed,w.From,w.To,w.Stands⟩:Worker)=some true:=same_self sw
  have e2:smithyardref9_SameWork.f x (⟨x.Id,x.Needs,x.Size,x.After⟩:Work)=some true:=sameW_self sx
  unfold smithyardlaw9_WorkersChecksMatchSpec.f
  rw [copies_id (by omega) hl.2,copiesW_id (by omega) hm.2,copy_id hw,copyW_id hx]
  simp only [Option.bind_some,r1,r2',workers_prog (l:=l) (by omega) sl,workers_ref (l:=l) (by omega) sl,p1,beq_self_eq_true,cond_true,q1,q2,sames_self (l:=l) (by omega) sl,samesW_self (l:=m) (by omega) sm,e1,e2,awake_true]
end Go.Proofs.YteljhhgffmpgnaaDoor
