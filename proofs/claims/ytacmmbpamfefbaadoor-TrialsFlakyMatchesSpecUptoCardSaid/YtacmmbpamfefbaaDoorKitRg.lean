/- Words of our own: a loop over a map of the call's own. -/
import Derived.Test.YtacmmbpamfefbaaDoorKitX
import Derived.Maps.RangeRun
set_option linter.unusedVariables false
set_option linter.unusedSimpArgs false
namespace Go.Proofs.YtacmmbpamfefbaaDoor.Kit
open Go Go.RowKit
open Go.ChangeMaps (setBlock)
section
variable {κ ν:Type} (enc:κ→Value) (kd:Kd ν) (ag:Bool) (H:Hp)
def ItOwn (g:Nat) (m left:List (κ × ν)) (chM it:Ch) (r:Nat):Prop :=
  ∃ (es:Array MapEntry) (clock:Nat) (seen:Array Nat) (c0:Nat),chM=some (g,.map es clock)∧Stm es clock∧MRep enc kd ag H es.toList m∧it=some (r,.mapIter (some g) clock seen c0)∧clock≤c0∧MRep enc kd ag H (es.toList.filter fun e=>!seen.contains e.born) left
def ItCur (g:Nat) (m:List (κ × ν)) (q:κ × ν) (left:List (κ × ν)) (chM it:Ch) (r:Nat):Prop :=
  ∃ (es:Array MapEntry) (clock:Nat) (seen:Array Nat),∃ e∈es.toList,chM=some (g,.map es clock)∧Stm es clock∧MRep enc kd ag H es.toList m∧it=some (r,.mapIter (some g) clock (seen.push e.born) clock)∧MRep enc kd ag H (es.toList.filter fun e'=>!(seen.push e.born).contains e'.born) left∧e.key=enc q.1∧∃ c,kd.K H q.2 c∧e.val=mkv ag c
end
section
variable {κ ν:Type} {enc:κ→Value} {kd:Kd ν} {ag:Bool} {H H':Hp} {g r:Nat} {m left:List (κ × ν)} {q:κ × ν} {chM it:Ch}
theorem ItCur.own (h:ItCur enc kd ag H g m q left chM it r):ItOwn enc kd ag H g m left chM it r:=by
  obtain ⟨es,clock,seen,e,he,h1,h2,h3,h4,h5,_⟩:=h
  exact ⟨es,clock,_,clock,h1,h2,h3,h4,Nat.le_refl _,h5⟩
theorem ItOwn.mono (h:ItOwn enc kd ag H g m left chM it r) (hl:Le H H'):ItOwn enc kd ag H' g m left chM it r:=by
  obtain ⟨es,clock,seen,c0,h1,h2,h3,h4,h5,h6⟩:=h
  exact ⟨es,clock,seen,c0,h1,h2,h3.mono hl,h4,h5,h6.mono hl⟩
theorem split_rep:∀ {es:List MapEntry} {left:List (κ × ν)} {e:MapEntry},MRep enc kd ag H es left→e∈es→(es.map (·.born)).Nodup →
    ∃ l1 q l2,left=l1++q::l2∧e.key=enc q.1∧(∃ c,kd.K H q.2 c∧e.val=mkv ag c)∧MRep enc kd ag H (es.filter fun x=>!(x.born == e.born)) (l1++l2)
  | [],_,e,h,he,_=>by cases he
  | x::es,_,e,h,he,hn=>by
    cases h with
    | cons h1 h2 =>
      rename_i p l
      obtain ⟨hx,hn2⟩:=List.nodup_cons.1 hn
      rcases List.mem_cons.1 he with rfl | he
      · refine ⟨[],p,l,rfl,h1.1,h1.2,?_⟩
        have hall:es.filter (fun x=>!(x.born == e.born))=es:=List.filter_eq_self.2 fun y hy=>by
          have:y.born≠e.born:=fun hh=>hx (List.mem_map.2 ⟨y,hy,hh⟩)
          simpa using this
        rw [List.filter_cons_of_neg (by simp),hall]
        exact h2
      · obtain ⟨l1,q,l2,e1,e2,e3,e4⟩:=split_rep h2 he hn2
        refine ⟨p::l1,q,l2,by rw [e1]; rfl,e2,e3,?_⟩
        have hne:x.born≠e.born:=fun hh=>hx (List.mem_map.2 ⟨e,he,hh.symm⟩)
        rw [List.filter_cons_of_pos (by simpa using hne)]
        exact .cons h1 e4
theorem filter_push (es:List MapEntry) (seen:Array Nat) (b:Nat):(es.filter fun e=>!(seen.push b).contains e.born)=(es.filter fun e=>!seen.contains e.born).filter fun x=>!(x.born == b):=by
  rw [List.filter_filter]
  congr 1
  funext x
  have:(seen.push b).contains x.born=(seen.contains x.born||x.born == b):=by
    rw [Bool.eq_iff_iff]
    simp only [Array.contains_eq_mem,Array.mem_push,beq_iff_eq,decide_eq_true_eq,Bool.or_eq_true]
  rw [this,Bool.not_or,Bool.and_comm]
end
/-! ### the operations -/
def rgAt (P:Program) (N:Nat) (ops:Array Oper) (i:Nat) (L:Slots):Option (Nat × Nat) :=
  match ops[i]? with
  | none=>none
  | some o =>
    match okOp N L o with
    | false=>none
    | true =>
      match wantL ops L o.guard with
      | some true =>
        match o.op,o.dst with
        | .range t x,some d =>
          match P.underlying t,evL L x with
          | some (.map _ _),.map (some g)=>some (d,g)
          | _,_=>none
        | _,_=>none
      | _=>none
def nxAt (P:Program) (N:Nat) (ops:Array Oper) (i:Nat) (L:Slots):Option (Nat × Nat) :=
  match ops[i]? with
  | none=>none
  | some o =>
    match okOp N L o with
    | false=>none
    | true =>
      match wantL ops L o.guard with
      | some true =>
        match o.op,o.dst with
        | .next x false,some d =>
          match evL L x with
          | .pointer (some ⟨r,0,none⟩)=>some (d,r)
          | _=>none
        | _,_=>none
      | _=>none
def enAt (P:Program) (N:Nat) (ops:Array Oper) (i:Nat) (L:Slots):Option (Nat × Nat) :=
  match ops[i]? with
  | none=>none
  | some o =>
    match okOp N L o with
    | false=>none
    | true =>
      match wantL ops L o.guard with
      | some true =>
        match o.op,o.dst with
        | .entry x,some d =>
          match evL L x with
          | .pointer (some ⟨r,0,none⟩)=>some (d,r)
          | _=>none
        | _,_=>none
      | _=>none
section
variable {F:Ctx} {H:Hp} {w0:World} {L:Slots} {cs:List Ch} {p:List Nat} {i:Nat} {κ ν:Type} {enc:κ→Value} {kd:Kd ν} {ag:Bool} {g r k kM d:Nat} {m left:List (κ × ν)} {q:κ × ν} {chM it:Ch}
theorem DoesH.range (h:rgAt F.P F.N (opsAt F.c p) i L=some (d,g)) (hk:cs[kM]? = some chM) (hm:MpOwn enc kd ag H g m chM) :
    DoesH F p i w0 L H cs (fun L' H' cs'=>∃ r it,L'=(d,.pointer (some ⟨r,0,none⟩))::L∧H=H'∧it::cs=cs'∧ItOwn enc kd ag H' g m m chM it r):=by
  intro w hh
  obtain ⟨es,clock,rfl,s1,s2⟩:=hm
  obtain ⟨a1,a2,a3⟩:=hh.own kM _ hk
  unfold rgAt at h
  split at h
  · simp at h
  · rename_i o ho
    split at h
    · simp at h
    · rename_i hok
      split at h
      · rename_i hw
        split at h
        · rename_i t x dx hop hdx
          split at h
          · rename_i kt et g' hu hx
            injection h with h
            injection h with h1 h2
            subst h1 h2
            have hexec:(execOp (evL L) o).run F.P w=.ok (.value (.pointer (some ⟨w.heap.size,0,none⟩))) (w.alloc (.mapIter (some g') clock #[] clock)):=by
              simp only [execOp,hop,hx,Sem.run_bind,run_range_map w t kt et g' es clock hu a3,Result.andThen_ok,Sem.run_pure]
            refine ⟨o,ho,hok,hw,.inl ⟨_,_,hexec,H,_,Le.refl H,hh.push (Ext.push w _) rfl (heap_alloc_new w _),w.heap.size,_,by rw [hdx]; rfl,rfl,rfl,es,clock,#[],clock,rfl,s1,s2,rfl,Nat.le_refl _,?_⟩⟩
            have:(es.toList.filter fun e=>!(#[]:Array Nat).contains e.born)=es.toList:=List.filter_eq_self.2 (by simp)
            rw [this]
            exact s2
          · simp at h
        · simp at h
      · simp at h
theorem DoesH.next (h:nxAt F.P F.N (opsAt F.c p) i L=some (d,r)) (hk:cs[k]? = some it) (hkM:cs[kM]? = some chM) (hi:ItOwn enc kd ag H g m left chM it r) :
    DoesH F p i w0 L H cs (fun L' H' cs'=>(left=[]∧L'=(d,.tuple #[.bool false])::L∧H=H'∧cs=cs') ∨
      ∃ l1 q l2 it' vq,left=l1++q::l2∧L'=(d,.tuple #[.bool true,enc q.1,vq])::L∧H=H'∧cs.set k it'=cs'∧ItCur enc kd ag H' g m q (l1++l2) chM it' r):=by
  intro w hh
  obtain ⟨es,clock,seen,c0,rfl,s1,s2,rfl,s4,s5⟩:=hi
  obtain ⟨a1,a2,a3⟩:=hh.own kM _ hkM
  obtain ⟨b1,b2,b3⟩:=hh.own k _ hk
  unfold nxAt at h
  split at h
  · simp at h
  · rename_i o ho
    split at h
    · simp at h
    · rename_i hok
      split at h
      · rename_i hw
        split at h
        · rename_i x dx hop hdx
          split at h
          · rename_i r' hx
            injection h with h
            injection h with h1 h2
            subst h1 h2
            rcases run_next_at (P:=F.P) w o.type r' g clock c0 seen es clock b3 a3 s1.1 s4 with ⟨n1,n2⟩ | ⟨e,he,w1,hw1,n2⟩
            · have hl:left=[]:=by
                have:(es.toList.filter fun e=>!seen.contains e.born)=[]:=by
                  apply List.eq_nil_of_length_eq_zero
                  have:(leftOf es seen).toList.length=0:=by simpa using n1
                  unfold leftOf at this
                  rw [Array.toList_filter] at this
                  exact this
                rw [this] at s5
                cases s5
                rfl
              have hexec:(execOp (evL L) o).run F.P w=.ok (.value (.tuple #[.bool false])) w:=by
                simp only [execOp,hop,hx,Sem.run_bind,n2,Result.andThen_ok,Sem.run_pure]
              exact ⟨o,ho,hok,hw,.inl ⟨_,_,hexec,H,cs,Le.refl H,hh,.inl ⟨hl,by rw [hdx]; rfl,rfl,rfl⟩⟩⟩
            · have he':e∈es.toList.filter fun e=>!seen.contains e.born:=by
                unfold leftOf at he
                rw [Array.toList_filter] at he
                exact he
              have hn:((es.toList.filter fun e=>!seen.contains e.born).map (·.born)).Nodup:=(List.filter_sublist.map _).nodup s1.2
              obtain ⟨l1,q,l2,e1,e2,e3,e4⟩:=split_rep s5 he' hn
              have hexec:(execOp (evL L) o).run F.P w=.ok (.value (.tuple #[.bool true,e.key,e.val])) (setBlock w1 r' (.mapIter (some g) clock (seen.push e.born) clock)):=by
                simp only [execOp,hop,hx,Sem.run_bind,n2,Result.andThen_ok,Sem.run_pure]
              have hlt:r'<w.heap.size:=(Array.getElem?_eq_some_iff.1 b3).1
              have hU:Upd w (setBlock w1 r' (.mapIter (some g) clock (seen.push e.born) clock)) r' (.mapIter (some g) clock (seen.push e.born) clock):=by
                rcases hw1 with rfl | rfl
                · exact ⟨rfl,rfl,rfl,by simp [setBlock],by simp [setBlock,hlt],fun j hj=>by simp [setBlock,Array.getElem?_setIfInBounds,Ne.symm hj]⟩
                · exact ⟨rfl,rfl,rfl,by show (w.heap.setIfInBounds r' _).size=w.heap.size; simp,by show (w.heap.setIfInBounds r' _)[r']? = _; simp [hlt],fun j hj=>by show (w.heap.setIfInBounds r' _)[j]? = w.heap[j]?; simp [Array.getElem?_setIfInBounds,Ne.symm hj]⟩
              refine ⟨o,ho,hok,hw,.inl ⟨_,_,hexec,H,_,Le.refl H,hh.upd hk hU,.inr ⟨l1,q,l2,_,e.val,e1,by rw [hdx,e2]; rfl,rfl,rfl,es,clock,seen,e,(List.mem_filter.1 he').1,rfl,s1,s2,rfl,?_,e2,e3⟩⟩⟩
              rw [filter_push]
              exact e4
          · simp at h
        · simp at h
      · simp at h
theorem DoesH.entry (h:enAt F.P F.N (opsAt F.c p) i L=some (d,r)) (hk:cs[k]? = some it) (hkM:cs[kM]? = some chM) (hi:ItCur enc kd ag H g m q left chM it r) :
    DoesH F p i w0 L H cs (fun L' H' cs'=>∃ c,L'=(d,.tuple #[enc q.1,mkv ag c])::L∧H=H'∧cs=cs'∧kd.K H' q.2 c):=by
  intro w hh
  obtain ⟨es,clock,seen,e,he,rfl,s1,s2,rfl,s5,s6,c,s7,s8⟩:=hi
  obtain ⟨a1,a2,a3⟩:=hh.own kM _ hkM
  obtain ⟨b1,b2,b3⟩:=hh.own k _ hk
  unfold enAt at h
  split at h
  · simp at h
  · rename_i o ho
    split at h
    · simp at h
    · rename_i hok
      split at h
      · rename_i hw
        split at h
        · rename_i x dx hop hdx
          split at h
          · rename_i r' hx
            injection h with h
            injection h with h1 h2
            subst h1 h2
            have n2:=run_entry_at (P:=F.P) w r' g clock seen es clock e b3 a3 he s1.2
            have hexec:(execOp (evL L) o).run F.P w=.ok (.value (.tuple #[e.key,e.val])) w:=by
              simp only [execOp,hop,hx,Sem.run_bind,n2,Result.andThen_ok,Sem.run_pure]
            exact ⟨o,ho,hok,hw,.inl ⟨_,_,hexec,H,cs,Le.refl H,hh,c,by rw [hdx,s6,s8]; rfl,rfl,rfl,s7⟩⟩
          · simp at h
        · simp at h
      · simp at h
end
end Go.Proofs.YtacmmbpamfefbaaDoor.Kit
