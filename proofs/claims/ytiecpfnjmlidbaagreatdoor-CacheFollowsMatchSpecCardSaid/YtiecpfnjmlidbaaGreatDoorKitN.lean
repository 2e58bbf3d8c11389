/- Words of our own: memory of a call as a list of blocks that nobody else speaks of; a walk that carries it along. -/
import Derived.Test.YtiecpfnjmlidbaaGreatDoorKitJ
import Derived.OrdersHeld
set_option linter.unusedSimpArgs false
set_option linter.unusedVariables false
set_option linter.unnecessarySimpa false
namespace Go.Proofs.YtiecpfnjmlidbaaGreatDoor.Kit
open Go Go.RowKit

/-! ### 30. Blocks of the call's own -/
abbrev Ch:=Option (Nat × Obj)
def aV2 (w:World):Ch→Prop
  | none=>True
  | some q=>w.heap[q.1]? = some q.2
structure Heap (H:Hp) (w0 w:World) (cs:List Ch):Prop where
  ext:Ext w0 w
  sub:Sub H w
  own:∀ (i:Nat) q,cs[i]? = some (some q)→w0.heap.size≤q.1∧H q.1=none∧w.heap[q.1]? = some q.2
  dif:∀ (i j:Nat) q r,cs[i]? = some (some q)→cs[j]? = some (some r)→i≠j→q.1≠r.1
section
variable {H H':Hp} {w0 w w':World} {cs cs':List Ch}
theorem Heap.re (h:Heap H w0 w cs) (π:Nat→Nat) (hi:∀ i j,i<cs'.length→j<cs'.length→π i=π j→i=j) (hp:∀ i q,cs'[i]? = some (some q)→cs[π i]? = some (some q)):Heap H w0 w cs' :=
  ⟨h.ext,h.sub,fun i q hq=>h.own _ q (hp i q hq),fun i j q r hq hr hne=>h.dif _ _ q r (hp i q hq) (hp j r hr) (fun e=>hne (hi i j (List.getElem?_eq_some_iff.1 hq).1 (List.getElem?_eq_some_iff.1 hr).1 e))⟩
def nodupB:List Nat→Bool
  | []=>true
  | x::xs=>!(xs.any (Nat.beq x))&&nodupB xs
theorem cd2:∀ {l:List Nat},nodupB l=true→∀ (i j:Nat) (hi:i<l.length) (hj:j<l.length),l[i]=l[j]→i=j
  | x::xs,h,i,j,hi,hj,e=>by
    simp only [nodupB,Bool.and_eq_true,Bool.not_eq_true',List.any_eq_false] at h
    obtain ⟨h1,h2⟩:=h
    have mem:∀ (k:Nat) (hk:k<xs.length),x≠xs[k]:=fun k hk he=>h1 _ (List.getElem_mem hk) (by rw [he]; exact Nat.beq_refl _)
    cases i with
    | zero=>cases j with
      | zero=>rfl
      | succ j=>exact absurd e (mem j (by simpa using hj))
    | succ i=>cases j with
      | zero=>exact absurd e.symm (mem i (by simpa using hi))
      | succ j=>exact congrArg _ (cd2 h2 i j (by simpa using hi) (by simpa using hj) (by simpa using e))
def pick (n:Nat):List Nat→List Ch→List Ch
  | [],cs=>cs.drop n
  | i::idx,cs=>(cs[i]?).getD none::pick n idx cs
def aJ6 (n:Nat) (idx:List Nat):Bool:=idx.all (fun i=>Nat.blt i n)&&nodupB idx
theorem cd3 (n:Nat) (cs:List Ch):∀ (idx:List Nat) (i:Nat) (q:Nat × Obj),(pick n idx cs)[i]? = some (some q)→cs[if h:i<idx.length then idx[i] else n+(i - idx.length)]? = some (some q)
  | [],i,q,h=>by
    simp only [pick,List.getElem?_drop] at h
    simpa using h
  | k::idx,0,q,h=>by
    simp only [pick,List.getElem?_cons_zero,Option.some.injEq] at h
    have:cs[k]? = some (some q):=by
      cases hc:cs[k]? with
      | none=>rw [hc] at h; simp at h
      | some c=>rw [hc] at h; simp at h; rw [h]
    simpa using this
  | k::idx,i+1,q,h=>by
    simp only [pick,List.getElem?_cons_succ] at h
    have:=cd3 n cs idx i q h
    by_cases hi:i<idx.length
    · have hi':i+1<(k::idx).length:=by simpa using hi
      rw [dif_pos hi] at this
      rw [dif_pos hi']
      simpa using this
    · have hi':¬ i+1<(k::idx).length:=by simpa using hi
      rw [dif_neg hi] at this
      rw [dif_neg hi']
      simpa using this
theorem Heap.pick (h:Heap H w0 w cs) (n:Nat) (idx:List Nat) (ok:aJ6 n idx=true):Heap H w0 w (pick n idx cs):=by
  simp only [aJ6,Bool.and_eq_true,List.all_eq_true,Nat.blt_eq] at ok
  obtain ⟨h1,h2⟩:=ok
  refine h.re (fun i=>if h:i<idx.length then idx[i] else n+(i - idx.length)) (fun i j _ _ e=>?_) (cd3 n cs idx)
  by_cases hi:i<idx.length
  · rw [dif_pos hi] at e
    have a1:=h1 _ (List.getElem_mem hi)
    by_cases hj:j<idx.length
    · rw [dif_pos hj] at e
      exact cd2 h2 i j hi hj e
    · rw [dif_neg hj] at e
      omega
  · rw [dif_neg hi] at e
    by_cases hj:j<idx.length
    · rw [dif_pos hj] at e
      have a1:=h1 _ (List.getElem_mem hj)
      omega
    · rw [dif_neg hj] at e
      omega
theorem Heap.drop (h:Heap H w0 w cs) (n:Nat):Heap H w0 w (cs.drop n):=h.pick n [] rfl
theorem Heap.tl {c:Ch} (h:Heap H w0 w (c::cs)):Heap H w0 w cs:=h.drop 1
theorem Heap.le (h:Heap H' w0 w cs) (hl:Le H H'):Heap H w0 w cs:=by
  refine ⟨h.ext,hl.sub h.sub,fun i q hq=>?_,h.dif⟩
  obtain ⟨h1,h2,h3⟩:=h.own i q hq
  refine ⟨h1,?_,h3⟩
  cases hH:H q.1 with
  | none=>rfl
  | some o =>
    rw [hl _ _ hH] at h2
    cases h2
theorem Heap.N1 (h:Heap H w0 w cs) {c:Ch} (k:Nat) (hk:cs[k]? = some c):aV2 w c:=by
  cases c with
  | none=>trivial
  | some q=>exact (h.own k q hk).2.2
theorem Heap.mem (h:Heap H w0 w cs) {c:Ch} (hk:c∈cs):aV2 w c:=by
  obtain ⟨i,hi,rfl⟩:=List.getElem_of_mem hk
  exact h.N1 i (List.getElem?_eq_getElem hi)
theorem Heap.drawn (h:Heap H w0 w cs):Heap H w0 { w with drawn:=w.drawn+1 } cs :=
  ⟨h.ext.then (Ext.drawn w),h.sub,h.own,h.dif⟩
theorem Heap.push {g:Nat} {o:Obj} (h:Heap H w0 w cs) (hx:Ext w w') (hg:w.heap.size=g) (hb:w'.heap[g]? = some o):Heap H w0 w' (some (g,o)::cs):=by
  have lt:∀ (i:Nat) (q:Nat × Obj),cs[i]? = some (some q)→q.1<w.heap.size:=fun i q hq=>(Array.getElem?_eq_some_iff.1 (h.own i q hq).2.2).1
  refine ⟨h.ext.then hx,h.sub.ext hx,fun i q hq=>?_,fun i j q r hq hr hne=>?_⟩
  · cases i with
    | zero =>
      simp at hq
      subst hq
      exact ⟨by have:=h.ext.size; simp only; omega,h.sub.none hg,hb⟩
    | succ i =>
      simp at hq
      obtain ⟨h1,h2,h3⟩:=h.own i q hq
      exact ⟨h1,h2,hx.blk h3⟩
  · cases i with
    | zero =>
      simp at hq
      subst hq
      cases j with
      | zero=>exact absurd rfl hne
      | succ j=>simp at hr; have:=lt j r hr; simp only; omega
    | succ i =>
      simp at hq
      have:=lt i q hq
      cases j with
      | zero=>simp at hr; subst hr; simp only; omega
      | succ j=>simp at hr; exact h.dif i j q r hq hr (by omega)
theorem Heap.start (W:World):Heap (hp W) W W []:=⟨Ext.refl W,Sub.self W,fun i q h=>by simp at h,fun i j q r h=>by simp at h⟩
theorem Heap.later (h:Heap H w0 w cs) (hx:Ext w w'):Heap H w0 w' cs :=
  ⟨h.ext.then hx,h.sub.ext hx,fun i q hq=>by
    obtain ⟨h1,h2,h3⟩:=h.own i q hq
    exact ⟨h1,h2,hx.blk h3⟩,h.dif⟩
theorem Heap.cd4 (h:Heap H w0 w cs):Heap H w0 w (none::cs) :=
  ⟨h.ext,h.sub,fun i q hq=>by cases i with
      | zero=>simp at hq
      | succ i=>simp at hq; exact h.own i q hq,
    fun i j q r hq hr hne=>by
      cases i with
      | zero=>simp at hq
      | succ i=>cases j with
        | zero=>simp at hr
        | succ j=>simp at hq hr; exact h.dif i j q r hq hr (by omega)⟩
theorem Heap.upd {k g:Nat} {o o':Obj} (h:Heap H w0 w cs) (hk:cs[k]? = some (some (g,o))) (hU:Upd w w' g o'):Heap H w0 w' (cs.set k (some (g,o'))):=by
  obtain ⟨a1,a2,a3⟩:=h.own k _ hk
  have hlt:=(List.getElem?_eq_some_iff.1 hk).1
  refine ⟨hU.ext h.ext a1,hU.sub h.sub a2,fun i q hq=>?_,fun i j q r hq hr hne=>?_⟩
  · rw [List.getElem?_set] at hq
    split at hq
    · injection hq with hq
      injection hq with hq
      subst hq
      exact ⟨a1,a2,hU.at_⟩
    · rename_i hne
      obtain ⟨b1,b2,b3⟩:=h.own i q hq
      exact ⟨b1,b2,(hU.other _ (fun e=>h.dif i k q _ hq hk (fun e=>hne e.symm) e)).trans b3⟩
  · rw [List.getElem?_set] at hq hr
    have key:∀ (i:Nat) (q:Nat × Obj),(if k=i then if k<cs.length then some (some (g,o')) else none else cs[i]?)=some (some q)→∃ q',cs[i]? = some (some q')∧q'.1=q.1:=by
      intro i q hq
      split at hq
      · rename_i he
        subst he
        injection hq with hq
        injection hq with hq
        subst hq
        exact ⟨_,hk,rfl⟩
      · exact ⟨q,hq,rfl⟩
    obtain ⟨q',c1,c2⟩:=key i q hq
    obtain ⟨r',d1,d2⟩:=key j r hr
    rw [← c2,← d2]
    exact h.dif i j _ _ c1 d1 hne
end
/-! ### 31. Goals of a walk over such memory -/
def Hs (H0:Hp) (w0:World) (B:World→Prop) (H:Hp) (cs:List Ch):Prop:=Le H0 H→∀ w,Heap H w0 w cs→B w
section
variable {H0 H:Hp} {w0:World} {B:World→Prop} {cs cs':List Ch}
theorem Hs.pick (n:Nat) (idx:List Nat) (ok:aJ6 n idx=true) (he:Kit.pick n idx cs=cs') (k:Hs H0 w0 B H cs'):Hs H0 w0 B H cs:=fun hl w h=>k hl w (he ▸ h.pick n idx ok)
theorem Hs.w5 (k:Hs H0 w0 B H (none::cs)):Hs H0 w0 B H cs:=fun hl w h=>k hl w h.cd4
theorem cG3 {g:Nat} {o:Obj} {w:World} (h:Heap H w0 w (some (g,o)::cs)):∃ H1,Le H H1∧H1 g=some o∧Heap H1 w0 w cs:=by
  obtain ⟨a1,a2,a3⟩:=h.own 0 _ rfl
  refine ⟨fun k=>if k=g then some o else H k,fun k o' hk=>?_,by simp,h.ext,fun k o' hk=>?_,fun i q hq=>?_,h.tl.dif⟩
  · have hne:k≠g:=by intro he; subst he; rw [a2] at hk; cases hk
    simp [hne,hk]
  · split at hk
    · rename_i he
      subst he
      injection hk with hk
      subst hk
      exact a3
    · exact h.sub k o' hk
  · obtain ⟨b1,b2,b3⟩:=h.tl.own i q hq
    refine ⟨b1,?_,b3⟩
    have hne:=h.dif (i+1) 0 q _ (by simpa using hq) rfl (by omega)
    simp only at hne
    simp [hne,b2]
theorem Hs.freeze {g:Nat} {o:Obj} (k:∀ H1,Le H H1→H1 g=some o→Hs H0 w0 B H1 cs):Hs H0 w0 B H (some (g,o)::cs):=by
  intro hl w h
  obtain ⟨H1,h1,h2,h3⟩:=cG3 h
  exact k H1 h1 h2 (hl.then h1) w h3
end
def ba2 (S:Value→Hp→List Ch→Prop) (H0:Hp) (w0:World):Ending→World→Prop:=Ret fun v w'=>∃ H' cs',Le H0 H'∧Heap H' w0 w' cs'∧S v H' cs'
def z7 (P:Program) (g:FuncId) (args:Array Value) (H0:Hp) (w0:World) (cs:List Ch) (S:Value→Hp→List Ch→Prop):Prop :=
  ∀ w,Heap H0 w0 w cs→Calls P g args w (ba2 S H0 w0)
abbrev b8 (F:Ctx) (S:Value→Hp→List Ch→Prop) (H0:Hp) (w0:World) (es:List En) (L:w7) (H:Hp) (cs:List Ch):Prop :=
  Hs H0 w0 (fun w=>U2 F (ba2 S H0 w0) es L w) H cs
abbrev c6 (F:Ctx) (S:Value→Hp→List Ch→Prop) (H0:Hp) (w0:World) (p:List Nat) (es:List En) (i:Nat) (L:w7) (H:Hp) (cs:List Ch):Prop :=
  Hs H0 w0 (fun w=>N8 F (ba2 S H0 w0) p es i L w) H cs
def ba3 (P:Program) (N:Nat) (ops:Array Oper) (i:Nat) (L:w7) (w:World) (K:w7→World→Prop):Prop :=
  ∃ o,ops[i]? = some o∧ag2 N L o=true∧ac9 ops L o.guard=some true ∧
    ((∃ v w',(execOp (E0 L) o).run P w=.ok (.value v) w'∧K (aB1 L o.dst v) w') ∨
     (∃ w',(execOp (E0 L) o).run P w=.ok .skip w'∧o.dst=none∧K L w') ∨
     (∃ g args,(execOp (E0 L) o).run P w=.ok (.enter g args) w∧Calls P g args w (Ret fun v w'=>K (aB1 L o.dst v) w')))
theorem ba3.wpOp {P:Program} {N:Nat} {ops:Array Oper} {Q:Exit→Act→World→Prop} {i:Nat} {L:w7} {w:World} {K:w7→World→Prop} {K':Act→World→Prop} {a:Act}
    (h:ba3 P N ops i L w K) (hf:Fr N a L) (k:∀ L' w' a',K L' w'→Fr N a' L'→K' a' w'):wpOp P ops Q i K' a w:=by
  obtain ⟨o,ho,hok,hw,h⟩:=h
  obtain ⟨hx,hd⟩:=aJ4 hok hf
  unfold Go.wpOp
  simp only [ho,au2 hw hf,if_true]
  refine .inl ?_
  unfold Oper.wp
  rcases h with ⟨v,w',hr,hK⟩ | ⟨w',hr,aZ7,hK⟩ | ⟨g,args,hr,hc⟩
  · rw [hx,hr,Oper.upon_value]
    exact k _ _ _ hK (hf.put hd v)
  · rw [hx,hr,Oper.upon_skip,aZ7]
    exact k _ _ _ hK hf
  · rw [hx,hr,Oper.upon_enter]
    refine hc.mono ?_
    rintro en w' ⟨v,rfl,hK⟩
    exact k _ _ _ hK (hf.put hd v)
theorem N8.e5 {F:Ctx} {R:Ending→World→Prop} {es:List En} {L:w7} {w:World} {p:List Nat} {i:Nat}
    (h:ba3 F.P F.N (s9 F.c p) i L w (fun L' w'=>N8 F R p es (i+1) L' w')):N8 F R p es i L w:=by
  intro a hf
  have hlt:i<(s9 F.c p).size:=by
    obtain ⟨o,ho,_⟩:=h
    exact (Array.getElem?_eq_some_iff.1 ho).1
  have e:(s9 F.c p).size - i=((s9 F.c p).size - (i+1))+1:=by omega
  rw [e,List.range'_succ,wpOps_cons]
  exact h.wpOp hf (fun L' w' a' hK hf'=>hK a' hf')
def j6 (F:Ctx) (p:List Nat) (i:Nat) (w0:World) (L:w7) (H:Hp) (cs:List Ch) (K:w7→Hp→List Ch→Prop):Prop :=
  ∀ w,Heap H w0 w cs→ba3 F.P F.N (s9 F.c p) i L w (fun L' w'=>∃ H' cs',Le H H'∧Heap H' w0 w' cs'∧K L' H' cs')
theorem ba3.mono {P:Program} {N:Nat} {ops:Array Oper} {i:Nat} {L:w7} {w:World} {K K':w7→World→Prop} (h:ba3 P N ops i L w K) (k:∀ L' w',K L' w'→K' L' w'):ba3 P N ops i L w K':=by
  obtain ⟨o,ho,hok,hw,h⟩:=h
  refine ⟨o,ho,hok,hw,?_⟩
  rcases h with ⟨v,w',hr,hK⟩ | ⟨w',hr,aZ7,hK⟩ | ⟨g,args,hr,hc⟩
  · exact .inl ⟨v,w',hr,k _ _ hK⟩
  · exact .inr (.inl ⟨w',hr,aZ7,k _ _ hK⟩)
  · exact .inr (.inr ⟨g,args,hr,hc.mono fun e w' ⟨v,he,hK⟩=>⟨v,he,k _ _ hK⟩⟩)
section
variable {F:Ctx} {S:Value→Hp→List Ch→Prop} {H0 H:Hp} {w0:World} {es es':List En} {L L':w7} {cs cs':List Ch} {p:List Nat} {i:Nat} {K:w7→Hp→List Ch→Prop}
theorem c6.e5 (h:j6 F p i w0 L H cs K) (k:∀ L' H' cs',Le H H'→K L' H' cs'→c6 F S H0 w0 p es (i+1) L' H' cs'):c6 F S H0 w0 p es i L H cs:=by
  intro hl w hh
  exact N8.e5 ((h w hh).mono fun L' w' ⟨H',cs',hl',Z4,hK⟩=>k L' H' cs' hl' hK (hl.then hl') w' Z4)
theorem b8.S4 (n:Nat) (h:S4 F.c n es=some es') (k:b8 F S H0 w0 es' L H cs):b8 F S H0 w0 es L H cs:=fun hl w hh=>U2.S4 n h (k hl w hh)
theorem b8.keep (ts:List Nat) (h:keep L ts=some L') (k:b8 F S H0 w0 es L' H cs):b8 F S H0 w0 es L H cs:=fun hl w hh=>U2.keep ts h (k hl w hh)
theorem b8.reg (h:aN1 F.c p=some false) (k:c6 F S H0 w0 p es 0 L H cs):b8 F S H0 w0 (.c p::es) L H cs:=fun hl w hh=>U2.reg h (k hl w hh)
theorem b8.bz6 {c:Bool} (h:aR3 F.c p L=some (.bool c)) (hb:c=true) (k:b8 F S H0 w0 (.c (p++[0])::es) L H cs):b8 F S H0 w0 (.c p::es) L H cs:=fun hl w hh=>U2.bz6 h hb (k hl w hh)
theorem b8.bz7 {c:Bool} (h:aR3 F.c p L=some (.bool c)) (hb:c=false) (k:b8 F S H0 w0 (.c (p++[1])::es) L H cs):b8 F S H0 w0 (.c p::es) L H cs:=fun hl w hh=>U2.bz7 h hb (k hl w hh)
theorem c6.bf4 (j:Nat) (ts:List Nat) {vs:List Value} {G8:List Ev} (h:runK F.P F.N (s9 F.c p) (j - i) i L vs ts=some (L',G8)) (hij:(Nat.ble i j&&Nat.ble j (s9 F.c p).size)=true)
    (hold:∀ w,Heap H w0 w cs→V5 w G8) (k:c6 F S H0 w0 p es j L' H cs):c6 F S H0 w0 p es i L H cs:=fun hl w hh=>N8.bf4 j ts h hij (hold w hh) (k hl w hh)
theorem c6.keep (ts:List Nat) (h:keep L ts=some L') (k:c6 F S H0 w0 p es i L' H cs):c6 F S H0 w0 p es i L H cs:=fun hl w hh=>N8.keep ts h (k hl w hh)
theorem c6.done (h:Nat.beq (s9 F.c p).size i=true) (k:b8 F S H0 w0 es L H cs):c6 F S H0 w0 p es i L H cs:=fun hl w hh=>N8.done h (k hl w hh)
theorem b8.done {fn:Func} {v:Value} (ht:aZ5 F.c es=true) (hf:F.P.funcs[F.f]? = some fn) (hr:bz5 L fn.results.toList=some v) (hS:S v H cs):b8 F S H0 w0 es L H cs :=
  fun hl w hh=>U2.done ht hf hr ⟨H,cs,hl,hh,hS⟩
theorem b8.bM7 {fn:Func} {v:Value} {vs:List Value} (ht:aZ5 F.c es=true) (hf:F.P.funcs[F.f]? = some fn) (hr:∀ w,Heap H w0 w cs→G2 F.P w L fn.results.toList vs) (hv:v=bn7 vs) (hS:S v H cs):b8 F S H0 w0 es L H cs :=
  fun hl w hh=>U2.bM7 ht hf (hr w hh) hv ⟨H,cs,hl,hh,hS⟩
theorem c6.bf5 {t:Nat} {v v':Value} (h:v=v') (k:c6 F S H0 w0 p es i ((t,v')::L) H cs):c6 F S H0 w0 p es i ((t,v)::L) H cs:=by rw [h]; exact k
theorem c6.pick (n:Nat) (idx:List Nat) (ok:aJ6 n idx=true) (he:Kit.pick n idx cs=cs') (k:c6 F S H0 w0 p es i L H cs'):c6 F S H0 w0 p es i L H cs:=Hs.pick n idx ok he k
theorem b8.pick (n:Nat) (idx:List Nat) (ok:aJ6 n idx=true) (he:Kit.pick n idx cs=cs') (k:b8 F S H0 w0 es L H cs'):b8 F S H0 w0 es L H cs:=Hs.pick n idx ok he k
theorem c6.w5 (k:c6 F S H0 w0 p es i L H (none::cs)):c6 F S H0 w0 p es i L H cs:=Hs.w5 k
theorem b8.w5 (k:b8 F S H0 w0 es L H (none::cs)):b8 F S H0 w0 es L H cs:=Hs.w5 k
theorem b8.of {H0:Hp} (k:Le H0 H→b8 F S H0 w0 es L H cs):b8 F S H0 w0 es L H cs:=fun hl=>k hl hl
theorem ba4 {fn:Func} (hf:F.P.funcs[F.f]? = some fn) (hb:fn.body=some F.c) (hN:fn.ntmps=F.N) {args:List Value} (hle:Nat.ble args.length F.N=true) (h:b8 F S H w0 [.c []] (Z3 0 args) H cs):z7 F.P F.f args.toArray H w0 cs S :=
  fun w hh=>cE8 hf hb hN hle (h (Le.refl H) w hh)
/-! ### 32. Operations -/
theorem j6.call {d:Nat} {g:FuncId} {args:Array Value} {S':Value→Hp→List Ch→Prop} (h:bf3 F.P F.N (s9 F.c p) i L=some (some d,g,args)) (hc:z7 F.P g args H w0 cs S') :
    j6 F p i w0 L H cs (fun L' H' cs'=>∃ v,L'=(d,v)::L∧S' v H' cs'):=by
  intro w hh
  obtain ⟨o,ho,hd,hok,hw,hrun⟩:=bM4 h
  refine ⟨o,ho,hok,hw,.inr (.inr ⟨g,args,hrun w,(hc w hh).mono ?_⟩)⟩
  rintro e w' ⟨v,he,H',cs',h1,h2,h3⟩
  exact ⟨v,he,H',cs',h1,h2,v,by rw [hd]; rfl,h3⟩
theorem cG4 {P:Program} {N:Nat} {ops:Array Oper} {g:Nat} {d:Option Tmp} {v:Value} {ob:Obj} (h:newAt P N ops i L g=some (d,v,ob)) :
    ∃ o,ops[i]? = some o∧o.dst=d∧ag2 N L o=true∧ac9 ops L o.guard=some true∧∀ w:World,w.heap.size=g→(execOp (E0 L) o).run P w=.ok (.value v) { w with heap:=w.heap.push ob }:=by
  unfold newAt at h
  split at h
  · simp at h
  · rename_i o ho
    split at h
    · simp at h
    · rename_i hok
      split at h
      · rename_i hw
        split at h
        · rename_i v' ob' ht
          injection h with h
          injection h with h1 h2
          injection h2 with h2 h3
          subst h1 h2 h3
          exact ⟨o,ho,rfl,hok,hw,fun w hg=>cc1 (by rw [hg]; exact ht)⟩
        · simp at h
      · simp at h
theorem j6.new {d:Nat} {v:Nat→Value} {o:Nat→Obj} (h:∀ g,newAt F.P F.N (s9 F.c p) i L g=some (some d,v g,o g)) :
    j6 F p i w0 L H cs (fun L' H' cs'=>∃ g,L'=(d,v g)::L∧H=H'∧cs'=some (g,o g)::cs):=by
  intro w hh
  obtain ⟨op,ho,hd,hok,hw,hrun⟩:=cG4 (h w.heap.size)
  refine ⟨op,ho,hok,hw,.inl ⟨_,_,hrun w rfl,H,_,Le.refl H,hh.push (Ext.push w _) rfl (by simp),w.heap.size,by rw [hd]; rfl,rfl,rfl⟩⟩
theorem cd5 {P:Program} {N:Nat} {ops:Array Oper} {g off:Nat} {v:Value} (h:aN4 P N ops i L=some (⟨g,off,none⟩,v)) :
    ∃ o,ops[i]? = some o∧o.dst=none∧ag2 N L o=true∧ac9 ops L o.guard=some true∧∀ (w:World) (cs:Array Value) (e:TypeId),w.heap[g]? = some (.cells cs e (0,0))→off+v.cells.toList.length≤cs.size →
      ∃ w',(execOp (E0 L) o).run P w=.ok .skip w'∧Upd w w' g (.cells (F4 cs off v.cells.toList) e (0,0)):=by
  unfold aN4 at h
  split at h
  · simp at h
  · rename_i o ho
    split at h
    · simp at h
    · rename_i hok
      split at h
      · rename_i hw
        split at h
        · rename_i t x y hop
          split at h
          · simp at h
          · rename_i aZ7
            split at h
            · rename_i ad hx
              split at h
              · rename_i inf P2
                split at h
                · rename_i hc
                  injection h with h
                  injection h with h1 h2
                  subst h1 h2
                  simp only [Bool.and_eq_true] at hc
                  obtain ⟨hc1,N9⟩:=hc
                  have hc1:=Nat.eq_of_beq_eq_true hc1
                  refine ⟨o,ho,aZ7,hok,hw,fun w cs e hb hle=>?_⟩
                  obtain ⟨w',hrun,h0,h1⟩:=aZ6 (P:=P) (E0 L y).cells.toList 0 (fun u hu=>by simpa using List.all_eq_true.1 N9 u hu) hb (by simpa using hle)
                  have hsz:(E0 L y).cells.size=inf.size:=by rw [← hc1]; simp
                  refine ⟨w',?_,?_⟩
                  · simp only [execOp,hop,Instr.storeAt,hx,Instr.sureAddr]
                    simp only [storeVar,Sem.run_bind,Sem.run_pure,Result.andThen_ok,run_sizeOf P2,hsz]
                    simp [hrun]
                  · by_cases hnil:(E0 L y).cells.toList=[]
                    · rw [h0 hnil,hnil]
                      exact ⟨rfl,rfl,rfl,rfl,hb,fun _ _=>rfl⟩
                    · simpa using h1 hnil
                · simp at h
              · simp at h
            · simp at h
        · simp at h
      · simp at h
theorem j6.store {k g off:Nat} {v:Value} {cells cells':Array Value} {e:TypeId} (h:aN4 F.P F.N (s9 F.c p) i L=some (⟨g,off,none⟩,v)) (hk:cs[k]? = some (some (g,.cells cells e (0,0))))
    (hle:Nat.ble (off+v.cells.toList.length) cells.size=true) (hcs:F4 cells off v.cells.toList=cells') :
    j6 F p i w0 L H cs (fun L' H' cs'=>L=L'∧H=H'∧cs'=cs.set k (some (g,.cells cells' e (0,0)))):=by
  intro w hh
  obtain ⟨o,ho,hd,hok,hw,hrun⟩:=cd5 h
  obtain ⟨w',hr,hU⟩:=hrun w cells e (hh.N1 k hk) (by simpa using hle)
  rw [hcs] at hU
  exact ⟨o,ho,hok,hw,.inr (.inl ⟨w',hr,hd,H,_,Le.refl H,hh.upd hk hU,rfl,rfl,rfl⟩)⟩
end
end Go.Proofs.YtiecpfnjmlidbaaGreatDoor.Kit
