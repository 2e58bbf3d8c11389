/- Words of our own: memory of a call as a list of blocks that nobody else speaks of; a walk that carries it along. -/
import Derived.Test.YtedkdnhhohcocaaDoorKitJ
import Derived.OrdersHeld
set_option linter.unusedSimpArgs false
set_option linter.unusedVariables false
set_option linter.unnecessarySimpa false
namespace Go.Proofs.YtedkdnhhohcocaaDoor.Kit
open Go Go.RowKit

/-! ### 30. Blocks of the call's own -/
abbrev Ch:=Option (Nat × Obj)
def ChIn (w:World):Ch→Prop
  | none=>True
  | some q=>w.heap[q.1]? = some q.2
structure Heap (H:Hp) (w0 w:World) (cs:List Ch):Prop where
  ext:Ext w0 w
  sub:Sub H w
  own:∀ (i:Nat) q,cs[i]? = some (some q)→w0.heap.size≤q.1∧H q.1=none∧w.heap[q.1]? = some q.2
  dif:∀ (i j:Nat) q r,cs[i]? = some (some q)→cs[j]? = some (some r)→i≠j→q.1≠r.1
section
variable {H H':Hp} {w0 w w':World} {cs cs':List Ch}
theorem Heap.re (h:Heap H w0 w cs) (π:Nat→Nat) (hi:∀ i j,i<cs'.length→j<cs'.length→π i=π j→i=j) (hp:∀ i q,cs'[i]? = some (some q)→cs[π i]? = some (some q)):Heap H w0 w cs' :=
  ⟨h.ext,h.sub,fun i q hq=>h.own _ q (hp i q hq),fun i j q r hq hr hne=>h.dif _ _ q r (hp i q hq) (hp j r hr) (fun e=>hne (hi i j (List.getElem?_eq_some_iff.1 hq).1 (List.getElem?_eq_some_iff.1 hr).1 e))⟩
def nodupB:List Nat→Bool
  | []=>true
  | x::xs=>!(xs.any (Nat.beq x))&&nodupB xs
theorem nodupB_spec:∀ {l:List Nat},nodupB l=true→∀ (i j:Nat) (hi:i<l.length) (hj:j<l.length),l[i]=l[j]→i=j
  | x::xs,h,i,j,hi,hj,e=>by
    simp only [nodupB,Bool.and_eq_true,Bool.not_eq_true',List.any_eq_false] at h
    obtain ⟨h1,h2⟩:=h
    have mem:∀ (k:Nat) (hk:k<xs.length),x≠xs[k]:=fun k hk he=>h1 _ (List.getElem_mem hk) (by rw [he]; exact Nat.beq_refl _)
    cases i with
    | zero=>cases j with
      | zero=>rfl
      | succ j=>exact absurd e (mem j (by simpa using hj))
    | succ i=>cases j with
      | zero=>exact absurd e.symm (mem i (by simpa using hi))
      | succ j=>exact congrArg _ (nodupB_spec h2 i j (by simpa using hi) (by simpa using hj) (by simpa using e))
def pick (n:Nat):List Nat→List Ch→List Ch
  | [],cs=>cs.drop n
  | i::idx,cs=>(cs[i]?).getD none::pick n idx cs
def pickOk (n:Nat) (idx:List Nat):Bool:=idx.all (fun i=>Nat.blt i n)&&nodupB idx
theorem pick_get (n:Nat) (cs:List Ch):∀ (idx:List Nat) (i:Nat) (q:Nat × Obj),(pick n idx cs)[i]? = some (some q)→cs[if h:i<idx.length then idx[i] else n+(i - idx.length)]? = some (some q)
  | [],i,q,h=>by
    simp only [pick,List.getElem?_drop] at h
    simpa using h
  | k::idx,0,q,h=>by
    simp only [pick,List.getElem?_cons_zero,Option.some.injEq] at h
    have:cs[k]? = some (some q):=by
      cases hc:cs[k]? with
      | none=>rw [hc] at h; simp at h
      | some c=>rw [hc] at h; simp at h; rw [h]
    simpa using this
  | k::idx,i+1,q,h=>by
    simp only [pick,List.getElem?_cons_succ] at h
    have:=pick_get n cs idx i q h
    by_cases hi:i<idx.length
    · have hi':i+1<(k::idx).length:=by simpa using hi
      rw [dif_pos hi] at this
      rw [dif_pos hi']
      simpa using this
    · have hi':¬ i+1<(k::idx).length:=by simpa using hi
      rw [dif_neg hi] at this
      rw [dif_neg hi']
      simpa using this
theorem Heap.pick (h:Heap H w0 w cs) (n:Nat) (idx:List Nat) (ok:pickOk n idx=true):Heap H w0 w (pick n idx cs):=by
  simp only [pickOk,Bool.and_eq_true,List.all_eq_true,Nat.blt_eq] at ok
  obtain ⟨h1,h2⟩:=ok
  refine h.re (fun i=>if h:i<idx.length then idx[i] else n+(i - idx.length)) (fun i j _ _ e=>?_) (pick_get n cs idx)
  by_cases hi:i<idx.length
  · rw [dif_pos hi] at e
    have a1:=h1 _ (List.getElem_mem hi)
    by_cases hj:j<idx.length
    · rw [dif_pos hj] at e
      exact nodupB_spec h2 i j hi hj e
    · rw [dif_neg hj] at e
      omega
  · rw [dif_neg hi] at e
    by_cases hj:j<idx.length
    · rw [dif_pos hj] at e
      have a1:=h1 _ (List.getElem_mem hj)
      omega
    · rw [dif_neg hj] at e
      omega
theorem Heap.drop (h:Heap H w0 w cs) (n:Nat):Heap H w0 w (cs.drop n):=h.pick n [] rfl
theorem Heap.tl {c:Ch} (h:Heap H w0 w (c::cs)):Heap H w0 w cs:=h.drop 1
theorem Heap.le (h:Heap H' w0 w cs) (hl:Le H H'):Heap H w0 w cs:=by
  refine ⟨h.ext,hl.sub h.sub,fun i q hq=>?_,h.dif⟩
  obtain ⟨h1,h2,h3⟩:=h.own i q hq
  refine ⟨h1,?_,h3⟩
  cases hH:H q.1 with
  | none=>rfl
  | some o =>
    rw [hl _ _ hH] at h2
    cases h2
theorem Heap.chin (h:Heap H w0 w cs) {c:Ch} (k:Nat) (hk:cs[k]? = some c):ChIn w c:=by
  cases c with
  | none=>trivial
  | some q=>exact (h.own k q hk).2.2
theorem Heap.mem (h:Heap H w0 w cs) {c:Ch} (hk:c∈cs):ChIn w c:=by
  obtain ⟨i,hi,rfl⟩:=List.getElem_of_mem hk
  exact h.chin i (List.getElem?_eq_getElem hi)
theorem Heap.drawn (h:Heap H w0 w cs):Heap H w0 { w with drawn:=w.drawn+1 } cs :=
  ⟨h.ext.then (Ext.drawn w),h.sub,h.own,h.dif⟩
theorem Heap.push {g:Nat} {o:Obj} (h:Heap H w0 w cs) (hx:Ext w w') (hg:w.heap.size=g) (hb:w'.heap[g]? = some o):Heap H w0 w' (some (g,o)::cs):=by
  have lt:∀ (i:Nat) (q:Nat × Obj),cs[i]? = some (some q)→q.1<w.heap.size:=fun i q hq=>(Array.getElem?_eq_some_iff.1 (h.own i q hq).2.2).1
  refine ⟨h.ext.then hx,h.sub.ext hx,fun i q hq=>?_,fun i j q r hq hr hne=>?_⟩
  · cases i with
    | zero =>
      simp at hq
      subst hq
      exact ⟨by have:=h.ext.size; simp only; omega,h.sub.none hg,hb⟩
    | succ i =>
      simp at hq
      obtain ⟨h1,h2,h3⟩:=h.own i q hq
      exact ⟨h1,h2,hx.blk h3⟩
  · cases i with
    | zero =>
      simp at hq
      subst hq
      cases j with
      | zero=>exact absurd rfl hne
      | succ j=>simp at hr; have:=lt j r hr; simp only; omega
    | succ i =>
      simp at hq
      have:=lt i q hq
      cases j with
      | zero=>simp at hr; subst hr; simp only; omega
      | succ j=>simp at hr; exact h.dif i j q r hq hr (by omega)
theorem Heap.start (W:World):Heap (hp W) W W []:=⟨Ext.refl W,Sub.self W,fun i q h=>by simp at h,fun i j q r h=>by simp at h⟩
theorem Heap.later (h:Heap H w0 w cs) (hx:Ext w w'):Heap H w0 w' cs :=
  ⟨h.ext.then hx,h.sub.ext hx,fun i q hq=>by
    obtain ⟨h1,h2,h3⟩:=h.own i q hq
    exact ⟨h1,h2,hx.blk h3⟩,h.dif⟩
theorem Heap.noneCh (h:Heap H w0 w cs):Heap H w0 w (none::cs) :=
  ⟨h.ext,h.sub,fun i q hq=>by cases i with
      | zero=>simp at hq
      | succ i=>simp at hq; exact h.own i q hq,
    fun i j q r hq hr hne=>by
      cases i with
      | zero=>simp at hq
      | succ i=>cases j with
        | zero=>simp at hr
        | succ j=>simp at hq hr; exact h.dif i j q r hq hr (by omega)⟩
theorem Heap.upd {k g:Nat} {o o':Obj} (h:Heap H w0 w cs) (hk:cs[k]? = some (some (g,o))) (hU:Upd w w' g o'):Heap H w0 w' (cs.set k (some (g,o'))):=by
  obtain ⟨a1,a2,a3⟩:=h.own k _ hk
  have hlt:=(List.getElem?_eq_some_iff.1 hk).1
  refine ⟨hU.ext h.ext a1,hU.sub h.sub a2,fun i q hq=>?_,fun i j q r hq hr hne=>?_⟩
  · rw [List.getElem?_set] at hq
    split at hq
    · injection hq with hq
      injection hq with hq
      subst hq
      exact ⟨a1,a2,hU.at_⟩
    · rename_i hne
      obtain ⟨b1,b2,b3⟩:=h.own i q hq
      exact ⟨b1,b2,(hU.other _ (fun e=>h.dif i k q _ hq hk (fun e=>hne e.symm) e)).trans b3⟩
  · rw [List.getElem?_set] at hq hr
    have key:∀ (i:Nat) (q:Nat × Obj),(if k=i then if k<cs.length then some (some (g,o')) else none else cs[i]?)=some (some q)→∃ q',cs[i]? = some (some q')∧q'.1=q.1:=by
      intro i q hq
      split at hq
      · rename_i he
        subst he
        injection hq with hq
        injection hq with hq
        subst hq
        exact ⟨_,hk,rfl⟩
      · exact ⟨q,hq,rfl⟩
    obtain ⟨q',c1,c2⟩:=key i q hq
    obtain ⟨r',d1,d2⟩:=key j r hr
    rw [← c2,← d2]
    exact h.dif i j _ _ c1 d1 hne
end
/-! ### 31. Goals of a walk over such memory -/
def Hs (H0:Hp) (w0:World) (B:World→Prop) (H:Hp) (cs:List Ch):Prop:=Le H0 H→∀ w,Heap H w0 w cs→B w
section
variable {H0 H:Hp} {w0:World} {B:World→Prop} {cs cs':List Ch}
theorem Hs.pick (n:Nat) (idx:List Nat) (ok:pickOk n idx=true) (he:Kit.pick n idx cs=cs') (k:Hs H0 w0 B H cs'):Hs H0 w0 B H cs:=fun hl w h=>k hl w (he ▸ h.pick n idx ok)
theorem Hs.nilc (k:Hs H0 w0 B H (none::cs)):Hs H0 w0 B H cs:=fun hl w h=>k hl w h.noneCh
theorem freezeH {g:Nat} {o:Obj} {w:World} (h:Heap H w0 w (some (g,o)::cs)):∃ H1,Le H H1∧H1 g=some o∧Heap H1 w0 w cs:=by
  obtain ⟨a1,a2,a3⟩:=h.own 0 _ rfl
  refine ⟨fun k=>if k=g then some o else H k,fun k o' hk=>?_,by simp,h.ext,fun k o' hk=>?_,fun i q hq=>?_,h.tl.dif⟩
  · have hne:k≠g:=by intro he; subst he; rw [a2] at hk; cases hk
    simp [hne,hk]
  · split at hk
    · rename_i he
      subst he
      injection hk with hk
      subst hk
      exact a3
    · exact h.sub k o' hk
  · obtain ⟨b1,b2,b3⟩:=h.tl.own i q hq
    refine ⟨b1,?_,b3⟩
    have hne:=h.dif (i+1) 0 q _ (by simpa using hq) rfl (by omega)
    simp only at hne
    simp [hne,b2]
theorem Hs.freeze {g:Nat} {o:Obj} (k:∀ H1,Le H H1→H1 g=some o→Hs H0 w0 B H1 cs):Hs H0 w0 B H (some (g,o)::cs):=by
  intro hl w h
  obtain ⟨H1,h1,h2,h3⟩:=freezeH h
  exact k H1 h1 h2 (hl.then h1) w h3
end
def PostH (S:Value→Hp→List Ch→Prop) (H0:Hp) (w0:World):Ending→World→Prop:=Ret fun v w'=>∃ H' cs',Le H0 H'∧Heap H' w0 w' cs'∧S v H' cs'
def CallsH (P:Program) (g:FuncId) (args:Array Value) (H0:Hp) (w0:World) (cs:List Ch) (S:Value→Hp→List Ch→Prop):Prop :=
  ∀ w,Heap H0 w0 w cs→Calls P g args w (PostH S H0 w0)
abbrev RunH (F:Ctx) (S:Value→Hp→List Ch→Prop) (H0:Hp) (w0:World) (es:List En) (L:Slots) (H:Hp) (cs:List Ch):Prop :=
  Hs H0 w0 (fun w=>RunL F (PostH S H0 w0) es L w) H cs
abbrev RgH (F:Ctx) (S:Value→Hp→List Ch→Prop) (H0:Hp) (w0:World) (p:List Nat) (es:List En) (i:Nat) (L:Slots) (H:Hp) (cs:List Ch):Prop :=
  Hs H0 w0 (fun w=>RgL F (PostH S H0 w0) p es i L w) H cs
def Does (P:Program) (N:Nat) (ops:Array Oper) (i:Nat) (L:Slots) (w:World) (K:Slots→World→Prop):Prop :=
  ∃ o,ops[i]? = some o∧okOp N L o=true∧wantL ops L o.guard=some true ∧
    ((∃ v w',(execOp (evL L) o).run P w=.ok (.value v) w'∧K (putL L o.dst v) w') ∨
     (∃ w',(execOp (evL L) o).run P w=.ok .skip w'∧o.dst=none∧K L w') ∨
     (∃ g args,(execOp (evL L) o).run P w=.ok (.enter g args) w∧Calls P g args w (Ret fun v w'=>K (putL L o.dst v) w')))
theorem Does.wpOp {P:Program} {N:Nat} {ops:Array Oper} {Q:Exit→Act→World→Prop} {i:Nat} {L:Slots} {w:World} {K:Slots→World→Prop} {K':Act→World→Prop} {a:Act}
    (h:Does P N ops i L w K) (hf:Fr N a L) (k:∀ L' w' a',K L' w'→Fr N a' L'→K' a' w'):wpOp P ops Q i K' a w:=by
  obtain ⟨o,ho,hok,hw,h⟩:=h
  obtain ⟨hx,hd⟩:=okOp_spec hok hf
  unfold Go.wpOp
  simp only [ho,wantL_spec hw hf,if_true]
  refine .inl ?_
  unfold Oper.wp
  rcases h with ⟨v,w',hr,hK⟩ | ⟨w',hr,hdst,hK⟩ | ⟨g,args,hr,hc⟩
  · rw [hx,hr,Oper.upon_value]
    exact k _ _ _ hK (hf.put hd v)
  · rw [hx,hr,Oper.upon_skip,hdst]
    exact k _ _ _ hK hf
  · rw [hx,hr,Oper.upon_enter]
    refine hc.mono ?_
    rintro en w' ⟨v,rfl,hK⟩
    exact k _ _ _ hK (hf.put hd v)
theorem RgL.does {F:Ctx} {R:Ending→World→Prop} {es:List En} {L:Slots} {w:World} {p:List Nat} {i:Nat}
    (h:Does F.P F.N (opsAt F.c p) i L w (fun L' w'=>RgL F R p es (i+1) L' w')):RgL F R p es i L w:=by
  intro a hf
  have hlt:i<(opsAt F.c p).size:=by
    obtain ⟨o,ho,_⟩:=h
    exact (Array.getElem?_eq_some_iff.1 ho).1
  have e:(opsAt F.c p).size - i=((opsAt F.c p).size - (i+1))+1:=by omega
  rw [e,List.range'_succ,wpOps_cons]
  exact h.wpOp hf (fun L' w' a' hK hf'=>hK a' hf')
def DoesH (F:Ctx) (p:List Nat) (i:Nat) (w0:World) (L:Slots) (H:Hp) (cs:List Ch) (K:Slots→Hp→List Ch→Prop):Prop :=
  ∀ w,Heap H w0 w cs→Does F.P F.N (opsAt F.c p) i L w (fun L' w'=>∃ H' cs',Le H H'∧Heap H' w0 w' cs'∧K L' H' cs')
theorem Does.mono {P:Program} {N:Nat} {ops:Array Oper} {i:Nat} {L:Slots} {w:World} {K K':Slots→World→Prop} (h:Does P N ops i L w K) (k:∀ L' w',K L' w'→K' L' w'):Does P N ops i L w K':=by
  obtain ⟨o,ho,hok,hw,h⟩:=h
  refine ⟨o,ho,hok,hw,?_⟩
  rcases h with ⟨v,w',hr,hK⟩ | ⟨w',hr,hdst,hK⟩ | ⟨g,args,hr,hc⟩
  · exact .inl ⟨v,w',hr,k _ _ hK⟩
  · exact .inr (.inl ⟨w',hr,hdst,k _ _ hK⟩)
  · exact .inr (.inr ⟨g,args,hr,hc.mono fun e w' ⟨v,he,hK⟩=>⟨v,he,k _ _ hK⟩⟩)
section
variable {F:Ctx} {S:Value→Hp→List Ch→Prop} {H0 H:Hp} {w0:World} {es es':List En} {L L':Slots} {cs cs':List Ch} {p:List Nat} {i:Nat} {K:Slots→Hp→List Ch→Prop}
theorem RgH.does (h:DoesH F p i w0 L H cs K) (k:∀ L' H' cs',Le H H'→K L' H' cs'→RgH F S H0 w0 p es (i+1) L' H' cs'):RgH F S H0 w0 p es i L H cs:=by
  intro hl w hh
  exact RgL.does ((h w hh).mono fun L' w' ⟨H',cs',hl',hh',hK⟩=>k L' H' cs' hl' hK (hl.then hl') w' hh')
theorem RunH.adm (n:Nat) (h:adm F.c n es=some es') (k:RunH F S H0 w0 es' L H cs):RunH F S H0 w0 es L H cs:=fun hl w hh=>RunL.adm n h (k hl w hh)
theorem RunH.keep (ts:List Nat) (h:keep L ts=some L') (k:RunH F S H0 w0 es L' H cs):RunH F S H0 w0 es L H cs:=fun hl w hh=>RunL.keep ts h (k hl w hh)
theorem RunH.reg (h:isReg F.c p=some false) (k:RgH F S H0 w0 p es 0 L H cs):RunH F S H0 w0 (.c p::es) L H cs:=fun hl w hh=>RunL.reg h (k hl w hh)
theorem RunH.condT {c:Bool} (h:evalAt F.c p L=some (.bool c)) (hb:c=true) (k:RunH F S H0 w0 (.c (p++[0])::es) L H cs):RunH F S H0 w0 (.c p::es) L H cs:=fun hl w hh=>RunL.condT h hb (k hl w hh)
theorem RunH.condF {c:Bool} (h:evalAt F.c p L=some (.bool c)) (hb:c=false) (k:RunH F S H0 w0 (.c (p++[1])::es) L H cs):RunH F S H0 w0 (.c p::es) L H cs:=fun hl w hh=>RunL.condF h hb (k hl w hh)
theorem RgH.runk (j:Nat) (ts:List Nat) {vs:List Value} {evs:List Ev} (h:runK F.P F.N (opsAt F.c p) (j - i) i L vs ts=some (L',evs)) (hij:(Nat.ble i j&&Nat.ble j (opsAt F.c p).size)=true)
    (hold:∀ w,Heap H w0 w cs→Hold w evs) (k:RgH F S H0 w0 p es j L' H cs):RgH F S H0 w0 p es i L H cs:=fun hl w hh=>RgL.runk j ts h hij (hold w hh) (k hl w hh)
theorem RgH.keep (ts:List Nat) (h:keep L ts=some L') (k:RgH F S H0 w0 p es i L' H cs):RgH F S H0 w0 p es i L H cs:=fun hl w hh=>RgL.keep ts h (k hl w hh)
theorem RgH.done (h:Nat.beq (opsAt F.c p).size i=true) (k:RunH F S H0 w0 es L H cs):RgH F S H0 w0 p es i L H cs:=fun hl w hh=>RgL.done h (k hl w hh)
theorem RunH.done {fn:Func} {v:Value} (ht:isEnd F.c es=true) (hf:F.P.funcs[F.f]? = some fn) (hr:resL L fn.results.toList=some v) (hS:S v H cs):RunH F S H0 w0 es L H cs :=
  fun hl w hh=>RunL.done ht hf hr ⟨H,cs,hl,hh,hS⟩
theorem RunH.doneM {fn:Func} {v:Value} {vs:List Value} (ht:isEnd F.c es=true) (hf:F.P.funcs[F.f]? = some fn) (hr:∀ w,Heap H w0 w cs→ResAll F.P w L fn.results.toList vs) (hv:v=packR vs) (hS:S v H cs):RunH F S H0 w0 es L H cs :=
  fun hl w hh=>RunL.doneM ht hf (hr w hh) hv ⟨H,cs,hl,hh,hS⟩
theorem RgH.val1 {t:Nat} {v v':Value} (h:v=v') (k:RgH F S H0 w0 p es i ((t,v')::L) H cs):RgH F S H0 w0 p es i ((t,v)::L) H cs:=by rw [h]; exact k
theorem RgH.pick (n:Nat) (idx:List Nat) (ok:pickOk n idx=true) (he:Kit.pick n idx cs=cs') (k:RgH F S H0 w0 p es i L H cs'):RgH F S H0 w0 p es i L H cs:=Hs.pick n idx ok he k
theorem RunH.pick (n:Nat) (idx:List Nat) (ok:pickOk n idx=true) (he:Kit.pick n idx cs=cs') (k:RunH F S H0 w0 es L H cs'):RunH F S H0 w0 es L H cs:=Hs.pick n idx ok he k
theorem RgH.nilc (k:RgH F S H0 w0 p es i L H (none::cs)):RgH F S H0 w0 p es i L H cs:=Hs.nilc k
theorem RunH.nilc (k:RunH F S H0 w0 es L H (none::cs)):RunH F S H0 w0 es L H cs:=Hs.nilc k
theorem RunH.of {H0:Hp} (k:Le H0 H→RunH F S H0 w0 es L H cs):RunH F S H0 w0 es L H cs:=fun hl=>k hl hl
theorem calls_of_runH {fn:Func} (hf:F.P.funcs[F.f]? = some fn) (hb:fn.body=some F.c) (hN:fn.ntmps=F.N) {args:List Value} (hle:Nat.ble args.length F.N=true) (h:RunH F S H w0 [.c []] (argL 0 args) H cs):CallsH F.P F.f args.toArray H w0 cs S :=
  fun w hh=>calls_of_runL hf hb hN hle (h (Le.refl H) w hh)
/-! ### 32. Operations -/
theorem DoesH.call {d:Nat} {g:FuncId} {args:Array Value} {S':Value→Hp→List Ch→Prop} (h:callAt F.P F.N (opsAt F.c p) i L=some (some d,g,args)) (hc:CallsH F.P g args H w0 cs S') :
    DoesH F p i w0 L H cs (fun L' H' cs'=>∃ v,L'=(d,v)::L∧S' v H' cs'):=by
  intro w hh
  obtain ⟨o,ho,hd,hok,hw,hrun⟩:=callAt_spec h
  refine ⟨o,ho,hok,hw,.inr (.inr ⟨g,args,hrun w,(hc w hh).mono ?_⟩)⟩
  rintro e w' ⟨v,he,H',cs',h1,h2,h3⟩
  exact ⟨v,he,H',cs',h1,h2,v,by rw [hd]; rfl,h3⟩
theorem newAt_spec {P:Program} {N:Nat} {ops:Array Oper} {g:Nat} {d:Option Tmp} {v:Value} {ob:Obj} (h:newAt P N ops i L g=some (d,v,ob)) :
    ∃ o,ops[i]? = some o∧o.dst=d∧okOp N L o=true∧wantL ops L o.guard=some true∧∀ w:World,w.heap.size=g→(execOp (evL L) o).run P w=.ok (.value v) { w with heap:=w.heap.push ob }:=by
  unfold newAt at h
  split at h
  · simp at h
  · rename_i o ho
    split at h
    · simp at h
    · rename_i hok
      split at h
      · rename_i hw
        split at h
        · rename_i v' ob' ht
          injection h with h
          injection h with h1 h2
          injection h2 with h2 h3
          subst h1 h2 h3
          exact ⟨o,ho,rfl,hok,hw,fun w hg=>trN_run (by rw [hg]; exact ht)⟩
        · simp at h
      · simp at h
theorem DoesH.new {d:Nat} {v:Nat→Value} {o:Nat→Obj} (h:∀ g,newAt F.P F.N (opsAt F.c p) i L g=some (some d,v g,o g)) :
    DoesH F p i w0 L H cs (fun L' H' cs'=>∃ g,L'=(d,v g)::L∧H=H'∧cs'=some (g,o g)::cs):=by
  intro w hh
  obtain ⟨op,ho,hd,hok,hw,hrun⟩:=newAt_spec (h w.heap.size)
  refine ⟨op,ho,hok,hw,.inl ⟨_,_,hrun w rfl,H,_,Le.refl H,hh.push (Ext.push w _) rfl (by simp),w.heap.size,by rw [hd]; rfl,rfl,rfl⟩⟩
theorem stAt_spec {P:Program} {N:Nat} {ops:Array Oper} {g off:Nat} {v:Value} (h:stAt P N ops i L=some (⟨g,off,none⟩,v)) :
    ∃ o,ops[i]? = some o∧o.dst=none∧okOp N L o=true∧wantL ops L o.guard=some true∧∀ (w:World) (cs:Array Value) (e:TypeId),w.heap[g]? = some (.cells cs e (0,0))→off+v.cells.toList.length≤cs.size →
      ∃ w',(execOp (evL L) o).run P w=.ok .skip w'∧Upd w w' g (.cells (owr cs off v.cells.toList) e (0,0)):=by
  unfold stAt at h
  split at h
  · simp at h
  · rename_i o ho
    split at h
    · simp at h
    · rename_i hok
      split at h
      · rename_i hw
        split at h
        · rename_i t x y hop
          split at h
          · simp at h
          · rename_i hdst
            split at h
            · rename_i ad hx
              split at h
              · rename_i inf hinf
                split at h
                · rename_i hc
                  injection h with h
                  injection h with h1 h2
                  subst h1 h2
                  simp only [Bool.and_eq_true] at hc
                  obtain ⟨hc1,hc2⟩:=hc
                  have hc1:=Nat.eq_of_beq_eq_true hc1
                  refine ⟨o,ho,hdst,hok,hw,fun w cs e hb hle=>?_⟩
                  obtain ⟨w',hrun,h0,h1⟩:=run_storeCells (P:=P) (evL L y).cells.toList 0 (fun u hu=>by simpa using List.all_eq_true.1 hc2 u hu) hb (by simpa using hle)
                  have hsz:(evL L y).cells.size=inf.size:=by rw [← hc1]; simp
                  refine ⟨w',?_,?_⟩
                  · simp only [execOp,hop,Instr.storeAt,hx,Instr.sureAddr]
                    simp only [storeVar,Sem.run_bind,Sem.run_pure,Result.andThen_ok,run_sizeOf hinf,hsz]
                    simp [hrun]
                  · by_cases hnil:(evL L y).cells.toList=[]
                    · rw [h0 hnil,hnil]
                      exact ⟨rfl,rfl,rfl,rfl,hb,fun _ _=>rfl⟩
                    · simpa using h1 hnil
                · simp at h
              · simp at h
            · simp at h
        · simp at h
      · simp at h
theorem DoesH.store {k g off:Nat} {v:Value} {cells cells':Array Value} {e:TypeId} (h:stAt F.P F.N (opsAt F.c p) i L=some (⟨g,off,none⟩,v)) (hk:cs[k]? = some (some (g,.cells cells e (0,0))))
    (hle:Nat.ble (off+v.cells.toList.length) cells.size=true) (hcs:owr cells off v.cells.toList=cells') :
    DoesH F p i w0 L H cs (fun L' H' cs'=>L=L'∧H=H'∧cs'=cs.set k (some (g,.cells cells' e (0,0)))):=by
  intro w hh
  obtain ⟨o,ho,hd,hok,hw,hrun⟩:=stAt_spec h
  obtain ⟨w',hr,hU⟩:=hrun w cells e (hh.chin k hk) (by simpa using hle)
  rw [hcs] at hU
  exact ⟨o,ho,hok,hw,.inr (.inl ⟨w',hr,hd,H,_,Le.refl H,hh.upd hk hU,rfl,rfl,rfl⟩)⟩
end
end Go.Proofs.YtedkdnhhohcocaaDoor.Kit
