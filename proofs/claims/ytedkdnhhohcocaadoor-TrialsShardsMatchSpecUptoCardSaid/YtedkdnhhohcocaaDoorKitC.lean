/- Words of our own: calls, regions whose order is open, what lies in memory. -/
import Derived.Test.YtedkdnhhohcocaaDoorKitB
import Derived.Deep.Quiet
set_option linter.unusedSimpArgs false
set_option linter.unusedVariables false
set_option linter.unnecessarySimpa false
namespace Go.Proofs.YtedkdnhhohcocaaDoor.Kit
open Go Go.RowKit

/-! ### 8. Worlds that hold more -/
abbrev Ext (w w':World):Prop:=Below w.heap.size w w'
theorem Ext.refl (w:World):Ext w w:=Below.refl _ w
theorem Ext.then {w w1 w2:World} (h:Ext w w1) (k:Ext w1 w2):Ext w w2 :=
  ⟨k.os.trans h.os,k.tape.trans h.tape,k.output.trans h.output,Nat.le_trans h.size k.size,fun i hi=>(k.block i (Nat.lt_of_lt_of_le hi h.size)).trans (h.block i hi)⟩
theorem Ext.drawn (w:World):Ext w { w with drawn:=w.drawn+1 }:=⟨rfl,rfl,rfl,Nat.le_refl _,fun _ _=>rfl⟩
abbrev Hp:=Nat→Option Obj
def Sub (H:Hp) (w:World):Prop:=∀ k o,H k=some o→w.heap[k]? = some o
def Le (H H':Hp):Prop:=∀ k o,H k=some o→H' k=some o
def hp (w:World):Hp:=fun k=>w.heap[k]?
theorem Sub.self (w:World):Sub (hp w) w:=fun _ _ h=>h
theorem Sub.lt {H:Hp} {w:World} (h:Sub H w) {k:Nat} {o:Obj} (hk:H k=some o):k<w.heap.size:=by
  have:=h k o hk
  exact (Array.getElem?_eq_some_iff.1 this).1
theorem Sub.ext {H:Hp} {w w':World} (h:Sub H w) (k:Ext w w'):Sub H w':=fun i o hi=>(k.block i (h.lt hi)).trans (h i o hi)
theorem Le.refl (H:Hp):Le H H:=fun _ _ h=>h
theorem Le.then {H H1 H2:Hp} (h:Le H H1) (k:Le H1 H2):Le H H2:=fun i o hi=>k i o (h i o hi)
theorem Le.sub {H H':Hp} {w:World} (h:Le H H') (k:Sub H' w):Sub H w:=fun i o hi=>k i o (h i o hi)
theorem Sub.le {H:Hp} {w:World} (h:Sub H w):Le H (hp w):=h
theorem Ext.le {w w':World} (h:Ext w w'):Le (hp w) (hp w'):=fun i o hi=>(Sub.self w).ext h i o hi

def one1:Value→Bool
  | .agg _=>false
  | .tuple _=>false
  | _=>true
/-! ### 9. Kinds of values: how they lie in cells -/
structure Kd (α:Type) where
  sz:Nat
  K:Hp→α→List Value→Prop
  mono:∀ {H H':Hp} {x:α} {c:List Value},Le H H'→K H x c→K H' x c
  len:∀ {H:Hp} {x:α} {c:List Value},K H x c→c.length=sz
  one:∀ {H:Hp} {x:α} {c:List Value},K H x c→∀ v∈c,one1 v=true
namespace Kd
def scalar {α:Type} (enc:α→Value) (h1:∀ x,one1 (enc x)=true):Kd α where
  sz:=1
  K:=fun _ x c=>c=[enc x]
  mono:=fun _ h=>h
  len:=fun h=>by rw [h]; rfl
  one:=fun h v hv=>by rw [h] at hv; simp at hv; rw [hv]; exact h1 _
def int (k:IntKind):Kd Int:=scalar (Value.int k) (fun _=>rfl)
def bool:Kd Bool:=scalar Value.bool (fun _=>rfl)
def string:Kd ByteArray:=scalar Value.string (fun _=>rfl)
def Rep {α:Type} (d:Kd α) (H:Hp) (cs:Array Value) (off:Nat) (xs:List α):Prop :=
  ∀ i x,xs[i]? = some x→∃ c,d.K H x c∧∀ j v,c[j]? = some v→cs[off+i*d.sz+j]? = some v
def Row {α:Type} (d:Kd α) (H:Hp) (A:Option Addr) (xs:List α):Prop :=
  xs≠[]→∃ b off cs e fr,A=some ⟨b,off,none⟩∧H b=some (.cells cs e fr)∧Rep d H cs off xs
theorem Rep.mono {α:Type} {d:Kd α} {H H':Hp} {cs:Array Value} {off:Nat} {xs:List α} (h:Rep d H cs off xs) (hl:Le H H'):Rep d H' cs off xs:=by
  intro i x hx
  obtain ⟨c,hc,hcell⟩:=h i x hx
  exact ⟨c,d.mono hl hc,hcell⟩
theorem Row.mono {α:Type} {d:Kd α} {H H':Hp} {A:Option Addr} {xs:List α} (h:Row d H A xs) (hl:Le H H'):Row d H' A xs:=by
  intro hx
  obtain ⟨b,off,cs,e,fr,hA,hb,hr⟩:=h hx
  exact ⟨b,off,cs,e,fr,hA,hl _ _ hb,Rep.mono hr hl⟩
def slice {α:Type} (d:Kd α):Kd (List α) where
  sz:=1
  K:=fun H xs c=>∃ A cap,c=[.slice A xs.length cap]∧xs.length≤cap∧Row d H A xs
  mono:=fun hl ⟨A,cap,h1,h2,h3⟩=>⟨A,cap,h1,h2,h3.mono hl⟩
  len:=fun ⟨A,cap,h1,_,_⟩=>by rw [h1]; rfl
  one:=fun ⟨A,cap,h1,_,_⟩ v hv=>by rw [h1] at hv; simp at hv; rw [hv]; rfl
def pair {α β:Type} (a:Kd α) (b:Kd β):Kd (α × β) where
  sz:=a.sz+b.sz
  K:=fun H x c=>∃ c1 c2,c=c1++c2∧a.K H x.1 c1∧b.K H x.2 c2
  mono:=fun hl ⟨c1,c2,h,h1,h2⟩=>⟨c1,c2,h,a.mono hl h1,b.mono hl h2⟩
  len:=fun ⟨c1,c2,h,h1,h2⟩=>by rw [h,List.length_append,a.len h1,b.len h2]
  one:=fun ⟨c1,c2,h,h1,h2⟩ v hv=>by
    rw [h,List.mem_append] at hv
    rcases hv with hv | hv
    · exact a.one h1 v hv
    · exact b.one h2 v hv
def iso {α β:Type} (d:Kd α) (f:β→α):Kd β where
  sz:=d.sz
  K:=fun H x c=>d.K H (f x) c
  mono:=fun hl h=>d.mono hl h
  len:=fun h=>d.len h
  one:=fun h=>d.one h
end Kd
theorem add_plain (b off k:Nat):(⟨b,off,none⟩:Addr).add k=⟨b,off+k,none⟩:=by
  unfold Addr.add
  split
  · rename_i h
    subst h
    rfl
  · rfl
theorem Kd.Row.at {α:Type} {d:Kd α} {H:Hp} {A:Option Addr} {xs:List α} (h:Kd.Row d H A xs) {i:Int} (h0:0≤i) (h1:i<(xs.length:Int)) :
    ∃ ad x c,A=some ad∧xs[i.toNat]? = some x∧d.K H x c∧∀ w,Sub H w→∀ j v,c[j]? = some v→w.cell? ((ad.add (i.toNat*d.sz)).add j)=some v:=by
  have hlt:i.toNat<xs.length:=by omega
  obtain ⟨b,off,cs,e,fr,hA,hb,hr⟩:=h (by intro hx; rw [hx] at hlt; simp at hlt)
  obtain ⟨c,hc,hcell⟩:=hr i.toNat _ (List.getElem?_eq_getElem hlt)
  refine ⟨_,_,c,hA,List.getElem?_eq_getElem hlt,hc,fun w hw j v hv=>?_⟩
  rw [add_plain,add_plain]
  simp [World.cell?,hw _ _ hb,hcell j v hv]
/-! ### 10. Calls -/
def callAt (P:Program) (N:Nat) (ops:Array Oper) (i:Nat) (L:Slots):Option (Option Tmp × FuncId × Array Value) :=
  match ops[i]? with
  | none=>none
  | some o =>
    match okOp N L o with
    | false=>none
    | true =>
      match wantL ops L o.guard with
      | some true=>match trS P (execOp (evL L) o) [] with
        | some (.enter g args,_,[])=>some (o.dst,g,args)
        | _=>none
      | _=>none
theorem callAt_spec {P:Program} {N:Nat} {ops:Array Oper} {i:Nat} {L:Slots} {d:Option Tmp} {g:FuncId} {args:Array Value} (h:callAt P N ops i L=some (d,g,args)) :
    ∃ o,ops[i]? = some o∧o.dst=d∧okOp N L o=true∧wantL ops L o.guard=some true∧∀ w,(execOp (evL L) o).run P w=.ok (.enter g args) w:=by
  unfold callAt at h
  split at h
  · simp at h
  · rename_i o ho
    split at h
    · simp at h
    · rename_i hok
      split at h
      · rename_i hw
        split at h
        · rename_i g' args' r' ht
          injection h with h
          injection h with h1 h2
          injection h2 with h2 h3
          subst h1 h2 h3
          exact ⟨o,ho,rfl,hok,hw,fun w=>trS_run _ ht trivial⟩
        · simp at h
      · simp at h
section
variable {F:Ctx} {R:Ending→World→Prop} {es es':List En} {L L':Slots} {w:World} {p:List Nat} {i:Nat}
theorem RgL.call {d:Option Tmp} {g:FuncId} {args:Array Value} {S:Value→World→Prop} (h:callAt F.P F.N (opsAt F.c p) i L=some (d,g,args)) (hc:Calls F.P g args w (Ret S))
    (k:∀ v w',S v w'→RgL F R p es (i+1) (putL L d v) w'):RgL F R p es i L w:=by
  obtain ⟨o,ho,hd,hok,hw,hrun⟩:=callAt_spec h
  intro a hf
  obtain ⟨hx,hd2⟩:=okOp_spec hok hf
  have hlt:i<(opsAt F.c p).size:=(Array.getElem?_eq_some_iff.1 ho).1
  have e:(opsAt F.c p).size - i=((opsAt F.c p).size - (i+1))+1:=by omega
  rw [e,List.range'_succ]
  simp only [wpOps,ho,wantL_spec hw hf,if_true]
  refine .inl ?_
  unfold Oper.wp
  rw [hx,hrun w,Oper.upon_enter]
  refine hc.mono ?_
  rintro en w' ⟨v,rfl,hS⟩
  have:=k v w' hS _ (hf.put (d:=d) (by rw [← hd]; exact hd2) v)
  rw [← hd] at this
  exact this

/-! ### 11. Regions whose order is open, and that only read or call what hands one value back -/
def QgL (F:Ctx) (R:Ending→World→Prop) (p:List Nat) (es:List En) (C:World→Prop) (i:Nat) (L:Slots):Prop :=
  ∀ a,Fr F.N a L→wpQuiet F.P (opsAt F.c p) C (fun a'=>∀ w',C w'→Run F.P F.f R (es.map (En.item F.c)) a' w') ((opsAt F.c p).toList.drop i) a
theorem QgL.keep {C:World→Prop} (ts:List Nat) (h:keep L ts=some L') (k:QgL F R p es C i L'):QgL F R p es C i L:=fun a hf=>k a (hf.keep h)
theorem QgL.done {C:World→Prop} (h:Nat.ble (opsAt F.c p).size i=true) (k:∀ w',C w'→RunL F R es L w'):QgL F R p es C i L:=by
  intro a hf
  simp only [Nat.ble_eq] at h
  rw [List.drop_eq_nil_of_le (by simpa using h)]
  exact fun w' hw'=>k w' hw' a hf
theorem runT_quiet {P:Program} {N:Nat} {ops:Array Oper} {Q:Act→Prop} {C:World→Prop}:∀ (n i:Nat) {L L':Slots} {vs:List Value} {es:List Ev},
    runT P N ops n i L vs=some (L',es)→(∀ w,C w→Hold w es)→(∀ a,Fr N a L'→wpQuiet P ops C Q (ops.toList.drop (i+n)) a)→∀ a,Fr N a L→wpQuiet P ops C Q (ops.toList.drop i) a
  | 0,i,L,L',vs,es,h,hold,K,a,hf=>by
    simp only [runT] at h
    injection h with h
    injection h with h1 h2
    subst h1 h2
    simpa using K a hf
  | n+1,i,L,L',vs,es,h,hold,K,a,hf=>by
    have K':∀ a,Fr N a L'→wpQuiet P ops C Q (ops.toList.drop (i+1+n)) a:=by
      intro a ha
      have:=K a ha
      rwa [show i+(n+1)=i+1+n by omega] at this
    simp only [runT] at h
    split at h
    · simp at h
    · rename_i o ho
      have hlt:i<ops.size:=(Array.getElem?_eq_some_iff.1 ho).1
      have ho2:ops.toList[i]'(by simpa using hlt)=o:=by
        have:=(Array.getElem?_eq_some_iff.1 ho).2
        simpa using this
      rw [List.drop_eq_getElem_cons (by simpa using hlt),ho2]
      simp only [wpQuiet]
      split at h
      · split at h
        · rename_i hw
          have hw:=wantL_spec hw hf
          simp only [hw,if_false,Bool.false_eq_true]
          split at h
          · rename_i d hd
            split at h
            · rename_i hlt
              refine runT_quiet n (i+1) h hold K' _ ?_
              refine hf.put ?_ undef
              intro t ht
              rw [hd] at ht
              injection ht with ht
              subst ht
              simpa using hlt
            · simp at h
          · rename_i hd
            rw [hd]
            exact runT_quiet n (i+1) h hold K' _ hf
        · simp at h
      · rename_i hok
        obtain ⟨hx,hd⟩:=okOp_spec hok hf
        split at h
        · simp at h
        · rename_i hw
          have hw:=wantL_spec hw hf
          simp only [hw,if_false,Bool.false_eq_true]
          exact runT_quiet n (i+1) h hold K' _ (hf.put hd undef)
        · rename_i hw
          have hw:=wantL_spec hw hf
          simp only [hw,if_true]
          split at h
          · simp at h
          · rename_i v r es1 hst
            split at h
            · simp at h
            · rename_i L2 fs hrec
              injection h with h
              injection h with h1 h2
              subst h1 h2
              refine ⟨v,fun w hw=>?_,?_⟩
              · unfold Oper.quietAt
                rw [hx,stepT_run hst (Hold.append (hold w hw)).1]
                exact ⟨rfl,rfl⟩
              · exact runT_quiet n (i+1) hrec (fun w hw=>(Hold.append (hold w hw)).2) K' _ (hf.put hd v)
theorem QgL.run {C:World→Prop} (j:Nat) {vs:List Value} {evs:List Ev} (h:runT F.P F.N (opsAt F.c p) (j - i) i L vs=some (L',evs)) (hij:Nat.ble i j=true) (hold:∀ w,C w→Hold w evs)
    (k:QgL F R p es C j L'):QgL F R p es C i L:=by
  simp only [Nat.ble_eq] at hij
  intro a hf
  refine runT_quiet (j - i) i h hold (fun a ha=>?_) a hf
  rw [show i+(j - i)=j by omega]
  exact k a ha
theorem QgL.call {C:World→Prop} {d:Option Tmp} {g:FuncId} {args:Array Value} {v:Value} (h:callAt F.P F.N (opsAt F.c p) i L=some (d,g,args))
    (hc:∀ w,C w→Calls F.P g args w (Ret fun v' w'=>v'=v∧C w')) (k:QgL F R p es C (i+1) (putL L d v)):QgL F R p es C i L:=by
  obtain ⟨o,ho,hd,hok,hw,hrun⟩:=callAt_spec h
  intro a hf
  obtain ⟨hx,hd2⟩:=okOp_spec hok hf
  have hlt:i<(opsAt F.c p).size:=(Array.getElem?_eq_some_iff.1 ho).1
  have ho2:(opsAt F.c p).toList[i]'(by simpa using hlt)=o:=by
    have:=(Array.getElem?_eq_some_iff.1 ho).2
    simpa using this
  rw [List.drop_eq_getElem_cons (by simpa using hlt),ho2]
  simp only [wpQuiet,wantL_spec hw hf,if_true]
  refine ⟨v,fun w hw=>?_,?_⟩
  · unfold Oper.quietAt
    rw [hx,hrun w]
    refine ⟨rfl,(hc w hw).mono ?_⟩
    rintro e w' ⟨v',rfl,rfl,hC⟩
    exact ⟨rfl,hC⟩
  · have:=k _ (hf.put (d:=d) (by rw [← hd]; exact hd2) v)
    rw [← hd] at this
    exact this
end
end Go.Proofs.YtedkdnhhohcocaaDoor.Kit
