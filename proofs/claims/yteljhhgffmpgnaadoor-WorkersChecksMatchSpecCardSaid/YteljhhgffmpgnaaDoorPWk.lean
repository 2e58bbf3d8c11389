/- Works: checks of one and of several by both sides. -/
import Derived.Test.YteljhhgffmpgnaaDoorPCyc
import Derived.Test.YteljhhgffmpgnaaDoorPO
import Derived.Test.YteljhhgffmpgnaaDoorPSame
set_option linter.unusedVariables false
set_option linter.unusedSimpArgs false
namespace Go.Proofs.YteljhhgffmpgnaaDoor
open Go Go.Proofs.YteljhhgffmpgnaaDoor.Kit
theorem earlyLoop {α β:Type} {p:α→Bool} {r:Option β} {e:Unit→Option β}:∀ (l:List α) (i:Int),rangeS (fun _ x (s:Unit) f=>bif p x then r else f s) e i l ()=bif l.any p then r else e ()
  | [],_=>rfl
  | x::l,i=>by
    show (bif p x then _ else _)=_
    rw [List.any_cons]
    cases h:p x
    · exact earlyLoop l (i+1)
    · rfl
def afterB (p:Option ByteArray) (x:ByteArray) (k:Option Int):Option Int:=bif !isWordB x then some 5 else bif prevB (fun y=>sLt x y||sEq x y) p then some 8 else k
def afterS (l:List ByteArray):Option Int:=rangeP afterB (some 0) none l
def smallWork (x:Work):Prop:=x.Id.size≤4611686018427387904∧smallPairs x.Needs∧x.After.length≤4611686018427387904∧∀ y∈x.After,y.size≤4611686018427387904
def workS (x:Work):Option Int :=
  bif !isWordB x.Id then some 5 else (pairsS x.Needs).bind fun f=>bif f != 0 then some f else bif !inR 1 1000000 x.Size then some 1 else afterS x.After
theorem after_prog {x:Work} (h:smallWork x):workers_checkWork.l2 workers_checkWork.e1 big x 0=afterS x.After:=by
  unfold afterS
  refine rangeP_all (L:=fun k v=>workers_checkWork.l2 workers_checkWork.e1 k x v) h.2.2.1 (fun k v h0 h1=>?_)
  simp only [workers_checkWork.l2]
  congr 1
  refine bind_at (fun y hy=>?_)
  rw [isWord_prog _ (h.2.2.2 y hy),prev_eq (P:=fun z=>sLt y z||sEq y z) h0 h1 h.2.2.1]
  simp only [Option.bind_some]
  rfl
theorem after_ref {x:Work} (h:smallWork x):smithyardref9_checkWork.l2 smithyardref9_checkWork.e1 big x 0=afterS x.After:=by
  unfold afterS
  refine rangeP_all (L:=fun k v=>smithyardref9_checkWork.l2 smithyardref9_checkWork.e1 k x v) h.2.2.1 (fun k v h0 h1=>?_)
  simp only [smithyardref9_checkWork.l2]
  congr 1
  refine bind_at (fun y hy=>?_)
  rw [isWord_ref _ (h.2.2.2 y hy),prev_eq (P:=fun z=>sLt y z||sEq y z) h0 h1 h.2.2.1]
  simp only [Option.bind_some]
  rfl
theorem work_prog {x:Work} (h:smallWork x):workers_checkWork.f x=workS x:=by
  unfold workers_checkWork.f workS
  simp only [isWord_prog _ h.1,pairs_prog h.2.1,within_eq,Option.bind_some,after_prog h]
  rfl
theorem work_ref {x:Work} (h:smallWork x):smithyardref9_checkWork.f x=workS x:=by
  unfold smithyardref9_checkWork.f workS
  simp only [isWord_ref _ h.1,pairs_ref h.2.1,withinR_eq,Option.bind_some,after_ref h]
  rfl
theorem workS_some (x:Work):∃ r,workS x=some r:=by
  unfold workS
  obtain ⟨r,hr⟩:=pairsS_some x.Needs
  have ha:∃ q,afterS x.After=some q:=by
    unfold afterS
    refine rangeP_some (fun p x k hk=>?_) ⟨_,rfl⟩ x.After none
    unfold afterB
    cases isWordB x <;> cases prevB (fun y=>sLt x y||sEq x y) p <;> first | exact hk | exact ⟨_,rfl⟩
  obtain ⟨q,hq⟩:=ha
  rw [hr,hq]
  simp only [Option.bind_some]
  cases isWordB x.Id <;> cases r != 0 <;> cases inR 1 1000000 x.Size <;> exact ⟨_,rfl⟩
/-! workers -/
def workersB (p:Option Worker) (x:Worker) (k:Option Int):Option Int:=(workerS x).bind fun f=>bif f != 0 then some f else bif prevB (fun y=>sLt x.Name y.Name||sEq x.Name y.Name) p then some 8 else k
def workersS (l:List Worker):Option Int:=bif decide (50<(l.length:Int)) then some 2 else rangeP workersB (some 0) none l
theorem workers_prog {l:List Worker} (hl:l.length≤4611686018427387904) (h:∀ x∈l,smallWorker x):workers_CheckWorkers.f l=workersS l:=by
  unfold workers_CheckWorkers.f workersS
  congr 1
  refine rangeP_all (L:=fun k v=>workers_CheckWorkers.l2 workers_CheckWorkers.e1 k l v) hl (fun k v h0 h1=>?_)
  simp only [workers_CheckWorkers.l2]
  congr 1
  refine bind_at (fun x hx=>?_)
  rw [worker_prog (h x hx),prev_eq (P:=fun y=>sLt x.Name y.Name||sEq x.Name y.Name) h0 h1 hl]
  rfl
theorem workers_ref {l:List Worker} (hl:l.length≤4611686018427387904) (h:∀ x∈l,smallWorker x):smithyardref9_CheckWorkers.f l=workersS l:=by
  unfold smithyardref9_CheckWorkers.f workersS
  congr 1
  refine rangeP_all (L:=fun k v=>smithyardref9_CheckWorkers.l2 smithyardref9_CheckWorkers.e1 k l v) hl (fun k v h0 h1=>?_)
  simp only [smithyardref9_CheckWorkers.l2]
  congr 1
  refine bind_at (fun x hx=>?_)
  rw [worker_ref (h x hx),prev_eq (P:=fun y=>sLt x.Name y.Name||sEq x.Name y.Name) h0 h1 hl]
  rfl
theorem workersS_some (l:List Worker):∃ r,workersS l=some r:=by
  unfold workersS
  cases decide (50<(l.length:Int))
  · refine rangeP_some (fun p x k hk=>?_) ⟨_,rfl⟩ l none
    unfold workersB
    obtain ⟨f,hf⟩:=workerS_some x
    rw [hf]
    simp only [Option.bind_some]
    cases f != 0 <;> cases prevB (fun y=>sLt x.Name y.Name||sEq x.Name y.Name) p <;> first | exact hk | exact ⟨_,rfl⟩
  · exact ⟨_,rfl⟩
/-! works -/
def worksB (p:Option Work) (x:Work) (k:Option Int):Option Int:=(workS x).bind fun f=>bif f != 0 then some f else bif prevB (fun y=>sLt x.Id y.Id||sEq x.Id y.Id) p then some 8 else k
theorem works_prog {l:List Work} (hl:l.length≤4611686018427387904) (h:∀ x∈l,smallWork x):workers_CheckWorks.l6 workers_CheckWorks.e1 big l 0=rangeP worksB (workers_CheckWorks.e1 l) none l:=by
  refine rangeP_all (L:=fun k v=>workers_CheckWorks.l6 workers_CheckWorks.e1 k l v) hl (fun k v h0 h1=>?_)
  simp only [workers_CheckWorks.l6]
  congr 1
  refine bind_at (fun x hx=>?_)
  rw [work_prog (h x hx),prev_eq (P:=fun y=>sLt x.Id y.Id||sEq x.Id y.Id) h0 h1 hl]
  rfl
theorem works_ref {l:List Work} (hl:l.length≤4611686018427387904) (h:∀ x∈l,smallWork x):smithyardref9_CheckWorks.l8 smithyardref9_CheckWorks.e1 big l 0=rangeP worksB (smithyardref9_CheckWorks.e1 l) none l:=by
  refine rangeP_all (L:=fun k v=>smithyardref9_CheckWorks.l8 smithyardref9_CheckWorks.e1 k l v) hl (fun k v h0 h1=>?_)
  simp only [smithyardref9_CheckWorks.l8]
  congr 1
  refine bind_at (fun x hx=>?_)
  rw [work_ref (h x hx),prev_eq (P:=fun y=>sLt x.Id y.Id||sEq x.Id y.Id) h0 h1 hl]
  rfl
theorem works_split:∀ (l:List Work) (p:Option Work),(∃ r,∀ e,rangeP worksB e p l=some r)∨((∀ e,rangeP worksB e p l=e)∧l.Pairwise (fun a b=>sLt a.Id b.Id=true)∧∀ q,p=some q→∀ x∈l,sLt q.Id x.Id=true)
  | [],p=>.inr ⟨fun e=>rfl,.nil,fun q _ x hx=>by cases hx⟩
  | x::l,p=>by
    obtain ⟨f,hf⟩:=workS_some x
    have hstep:∀ e,rangeP worksB e p (x::l)=worksB p x (rangeP worksB e (some x) l):=fun e=>rfl
    cases h1:f != 0
    · cases h2:prevB (fun y=>sLt x.Id y.Id||sEq x.Id y.Id) p
      · have hB:∀ k,worksB p x k=k:=fun k=>by unfold worksB; rw [hf]; simp only [Option.bind_some,h1,h2,cond_false]
        have hp:∀ q,p=some q→sLt q.Id x.Id=true:=fun q hq=>by
          subst hq
          exact sLt_total h2
        rcases works_split l (some x) with ⟨r,hr⟩ | ⟨h3,h4,h5⟩
        · exact .inl ⟨r,fun e=>by rw [hstep,hB,hr]⟩
        · refine .inr ⟨fun e=>by rw [hstep,hB,h3],List.pairwise_cons.2 ⟨fun y hy=>h5 x rfl y hy,h4⟩,fun q hq y hy=>?_⟩
          rcases List.mem_cons.1 hy with rfl | hy
          · exact hp q hq
          · exact sLt_trans (hp q hq) (h5 x rfl y hy)
      · exact .inl ⟨8,fun e=>by rw [hstep]; unfold worksB; rw [hf]; simp only [Option.bind_some,h1,h2,cond_false,cond_true]⟩
    · exact .inl ⟨f,fun e=>by rw [hstep]; unfold worksB; rw [hf]; simp only [Option.bind_some,h1,cond_true]⟩
/-! looking works up -/
def plc (l:List Work) (d:ByteArray):Nat:=placeOf (fun x:Work=>x.Id) l d
def hasW (l:List Work) (d:ByteArray):Bool:=l.any (fun x=>sEq x.Id d)
theorem workAt_prog {l:List Work} (hl:l.length≤2305843009213693952) (hs:l.Pairwise (fun a b=>sLt a.Id b.Id=true)) (d:ByteArray):workers_workAt.f l d=some ((plc l d:Int),hasW l d):=by
  unfold workers_workAt.f slices_BinarySearchFunc_Work_string.f plc hasW
  have e:=bsearch (xs:=l) (c:=fun x=>sLt x.Id d) (E:=slices_BinarySearchFunc_Work_string.e1 l d) (L:=fun k i j=>slices_BinarySearchFunc_Work_string.l2 slices_BinarySearchFunc_Work_string.e1 k l d i j) (p:=placeOf (fun x:Work=>x.Id) l d) hl (placeOf_le _ _)
    (fun n hn hp=>placeOf_lt (key:=fun x:Work=>x.Id) l d n hn hp) (fun n hn hp=>placeOf_ge (key:=fun x:Work=>x.Id) l d hs n hn hp) (fun k i j=>by
      simp only [slices_BinarySearchFunc_Work_string.l2]
      congr 1
      refine bind_at (fun x _=>?_)
      show (bif decide (Lib.compareBytes x.Id.data.toList d.data.toList<0) then _ else _)=_
      rw [sCmp_lt])
  rw [e]
  unfold slices_BinarySearchFunc_Work_string.e1
  have hf:=placeOf_found (key:=fun x:Work=>x.Id) l d hs
  have hle:=placeOf_le (key:=fun x:Work=>x.Id) l d
  generalize placeOf (fun x:Work=>x.Id) l d=p at *
  by_cases hp:p<l.length
  · rw [List.getElem?_eq_getElem hp] at hf
    have hat:at? l (p:Int)=some l[p]:=by simp [at?,hp]
    rw [decide_eq_true (show (p:Int)<(l.length:Int) by omega),hat]
    simp only [cond_true,Option.bind_some,workers_workAt_1.f,strings_Compare.f,sCmp_eq]
    rw [← hf]
  · rw [List.getElem?_eq_none (by omega)] at hf
    rw [decide_eq_false (show ¬ (p:Int)<(l.length:Int) by omega),← hf]
    rfl
theorem plc_lt {l:List Work} (hs:l.Pairwise (fun a b=>sLt a.Id b.Id=true)) {d:ByteArray} (h:hasW l d=true):plc l d<l.length:=by
  have hf:=placeOf_found (key:=fun x:Work=>x.Id) l d hs
  have hh:l.any (fun x=>sEq x.Id d)=true:=h
  rw [hh] at hf
  rcases Nat.lt_or_ge (placeOf (fun x:Work=>x.Id) l d) l.length with h1 | h1
  · exact h1
  · rw [List.getElem?_eq_none h1] at hf
    cases hf
theorem plc_find {l:List Work} (hs:l.Pairwise (fun a b=>sLt a.Id b.Id=true)) {d:ByteArray} (h:hasW l d=true):l.findIdx? (fun x=>sEq x.Id d)=some (plc l d):=by
  have hlt:=plc_lt hs h
  have hf:=placeOf_found (key:=fun x:Work=>x.Id) l d hs
  have hh:l.any (fun x=>sEq x.Id d)=true:=h
  rw [hh] at hf
  have hlt':placeOf (fun x:Work=>x.Id) l d<l.length:=hlt
  rw [List.getElem?_eq_getElem hlt'] at hf
  rw [List.findIdx?_eq_some_iff_getElem]
  refine ⟨hlt,hf,fun j hj=>?_⟩
  have h1:=placeOf_lt (key:=fun x:Work=>x.Id) l d j (by omega) hj
  rw [sLt_ne h1]
  simp
theorem workOf_ref {l:List Work} (hl:l.length≤4611686018427387904) (hs:l.Pairwise (fun a b=>sLt a.Id b.Id=true)) (d:ByteArray):smithyardref9_workOf.f l d=some (bif hasW l d then (plc l d:Int) else -1):=by
  unfold smithyardref9_workOf.f
  rw [rangeS_all (S:=Unit) (L:=fun k _ v=>smithyardref9_workOf.l2 smithyardref9_workOf.e1 k l d v) (body:=fun v x s f=>bif sEq x.Id d then some v else f s) (e:=fun _=>some (-1)) hl (fun k s v=>rfl) (),findLoop l 0]
  cases h:hasW l d
  · rw [List.findIdx?_eq_none_iff.2 (fun x hx=>by
      cases hc:sEq x.Id d
      · rfl
      · have h:l.any (fun x=>sEq x.Id d)=false:=h
        rw [List.any_eq_true.2 ⟨x,hx,hc⟩] at h; cases h)]
    rfl
  · rw [plc_find hs h]
    simp only [Int.zero_add,cond_true]
def lacks (l:List Work):Bool:=l.any (fun x=>x.After.any (fun d=>!hasW l d))
theorem none_prog {l:List Work} (hl:l.length≤2305843009213693952) (h:∀ x∈l,smallWork x) (hs:l.Pairwise (fun a b=>sLt a.Id b.Id=true)):workers_CheckWorks.e1 l=bif lacks l then some 9 else workers_CheckWorks.e2 l:=by
  unfold workers_CheckWorks.e1 lacks
  rw [rangeS_all (S:=Unit) (xs:=l) (L:=fun k _ v=>workers_CheckWorks.l3 workers_CheckWorks.e2 k l v) (body:=fun _ (x:Work) s f=>bif x.After.any (fun d=>!hasW l d) then some 9 else f s) (e:=fun _=>workers_CheckWorks.e2 l) (by omega) (fun k s v=>by
    simp only [workers_CheckWorks.l3]
    congr 1
    refine bind_at (fun x hx=>?_)
    rw [rangeS_all (S:=Unit) (xs:=x.After) (L:=fun k' _ v'=>workers_CheckWorks.l5 (workers_CheckWorks.e4 (workers_CheckWorks.l3 workers_CheckWorks.e2 k)) k' l v x v') (body:=fun _ d s f=>bif !hasW l d then some 9 else f s) (e:=fun _=>workers_CheckWorks.e4 (workers_CheckWorks.l3 workers_CheckWorks.e2 k) l v) (h x hx).2.2.1 (fun k' s' v'=>by
      simp only [workers_CheckWorks.l5,workAt_prog hl hs,Option.bind_some]) (),earlyLoop x.After 0]
    rfl) (),earlyLoop l 0]
theorem none_ref {l:List Work} (hl:l.length≤2305843009213693952) (h:∀ x∈l,smallWork x) (hs:l.Pairwise (fun a b=>sLt a.Id b.Id=true)):smithyardref9_CheckWorks.e1 l=bif lacks l then some 9 else smithyardref9_CheckWorks.e2 l:=by
  unfold smithyardref9_CheckWorks.e1 lacks
  rw [rangeS_all (S:=Unit) (xs:=l) (L:=fun k _ v=>smithyardref9_CheckWorks.l5 smithyardref9_CheckWorks.e2 k l v) (body:=fun _ (x:Work) s f=>bif x.After.any (fun d=>!hasW l d) then some 9 else f s) (e:=fun _=>smithyardref9_CheckWorks.e2 l) (by omega) (fun k s v=>by
    simp only [smithyardref9_CheckWorks.l5]
    congr 1
    refine bind_at (fun x hx=>?_)
    rw [rangeS_all (S:=Unit) (xs:=x.After) (L:=fun k' _ v'=>smithyardref9_CheckWorks.l7 (smithyardref9_CheckWorks.e6 (smithyardref9_CheckWorks.l5 smithyardref9_CheckWorks.e2 k)) k' l v x v') (body:=fun _ d s f=>bif !hasW l d then some 9 else f s) (e:=fun _=>smithyardref9_CheckWorks.e6 (smithyardref9_CheckWorks.l5 smithyardref9_CheckWorks.e2 k) l v) (h x hx).2.2.1 (fun k' s' v'=>by
      have hd:∀ d,decide ((bif hasW l d then (plc l d:Int) else -1)<0)=!hasW l d:=fun d=>by
        cases hasW l d
        · rfl
        · exact decide_eq_false (by simp only [cond_true]; omega)
      simp only [smithyardref9_CheckWorks.l7,workOf_ref (show l.length≤4611686018427387904 by omega) hs,Option.bind_some,hd]) (),earlyLoop x.After 0]
    rfl) (),earlyLoop l 0]
end Go.Proofs.YteljhhgffmpgnaaDoor
