/- Words of our own: a run of operations with the slots that stay; a block that is made; a list's element in Go's sense. -/
import Derived.Test.YtedkdnhhohcocaaDoorKitC
set_option linter.unusedSimpArgs false
set_option linter.unusedVariables false
set_option linter.unnecessarySimpa false
namespace Go.Proofs.YtedkdnhhohcocaaDoor.Kit
open Go Go.RowKit

/-! ### 12. Runs that keep some slots alone -/
def runK (P:Program) (N:Nat) (ops:Array Oper) (n i:Nat) (L:Slots) (vs:List Value) (ts:List Nat):Option (Slots × List Ev) :=
  match runT P N ops n i L vs with
  | some (L1,es)=>match keep L1 ts with
    | some L2=>some (L2,es)
    | none=>none
  | none=>none
section
variable {F:Ctx} {R:Ending→World→Prop} {es es':List En} {L L':Slots} {w:World} {p:List Nat} {i:Nat}
theorem RgL.runk (j:Nat) (ts:List Nat) {vs:List Value} {evs:List Ev} (h:runK F.P F.N (opsAt F.c p) (j - i) i L vs ts=some (L',evs)) (hij:(Nat.ble i j&&Nat.ble j (opsAt F.c p).size)=true) (hold:Hold w evs)
    (k:RgL F R p es j L' w):RgL F R p es i L w:=by
  unfold runK at h
  split at h
  · rename_i L1 es1 h1
    split at h
    · rename_i L2 h2
      injection h with h
      injection h with h3 h4
      subst h3 h4
      exact RgL.run j h1 hij hold (RgL.keep ts h2 k)
    · simp at h
  · simp at h
theorem QgL.runk {C:World→Prop} (j:Nat) (ts:List Nat) {vs:List Value} {evs:List Ev} (h:runK F.P F.N (opsAt F.c p) (j - i) i L vs ts=some (L',evs)) (hij:Nat.ble i j=true) (hold:∀ w,C w→Hold w evs)
    (k:QgL F R p es C j L'):QgL F R p es C i L:=by
  unfold runK at h
  split at h
  · rename_i L1 es1 h1
    split at h
    · rename_i L2 h2
      injection h with h
      injection h with h3 h4
      subst h3 h4
      exact QgL.run j h1 hij hold (QgL.keep ts h2 k)
    · simp at h
  · simp at h
/-! ### 13. One new block -/
def trN {α:Type} (P:Program) (g:Nat):Sem α→Option (α × Obj)
  | .new o k=>match trS P (k g) [] with
    | some (x,_,[])=>some (x,o)
    | _=>none
  | .program k=>trN P g (k P)
  | .mark _ k=>trN P g k
  | _=>none
theorem trN_run {α:Type} {P:Program} {w:World} {s:Sem α} {x:α} {o:Obj} (h:trN P w.heap.size s=some (x,o)):s.run P w=.ok x { w with heap:=w.heap.push o }:=by
  induction s with
  | new o' k ih =>
    simp only [trN] at h
    split at h
    · rename_i x' r ht
      injection h with h
      injection h with h1 h2
      subst h1 h2
      simp only [Sem.run]
      exact trS_run _ ht trivial
    · simp at h
  | program k ih =>
    simp only [trN] at h
    simp only [Sem.run]
    exact ih P h
  | mark m k ih =>
    simp only [trN] at h
    simp only [Sem.run]
    exact ih h
  | _=>simp [trN] at h
def newAt (P:Program) (N:Nat) (ops:Array Oper) (i:Nat) (L:Slots) (g:Nat):Option (Option Tmp × Value × Obj) :=
  match ops[i]? with
  | none=>none
  | some o =>
    match okOp N L o with
    | false=>none
    | true =>
      match wantL ops L o.guard with
      | some true=>match trN P g (execOp (evL L) o) with
        | some (.value v,ob)=>some (o.dst,v,ob)
        | _=>none
      | _=>none
theorem Ext.push (w:World) (o:Obj):Ext w { w with heap:=w.heap.push o } :=
  ⟨rfl,rfl,rfl,by simp,fun k hk=>by simp [Array.getElem?_push,Nat.ne_of_lt hk]⟩
theorem RgL.new {d:Option Tmp} {v:Nat→Value} {o:Nat→Obj} (h:∀ g,newAt F.P F.N (opsAt F.c p) i L g=some (d,v g,o g))
    (k:∀ g w',w.heap.size=g→Ext w w'→w'.heap.size=g+1→w'.heap[g]? = some (o g)→RgL F R p es (i+1) (putL L d (v g)) w'):RgL F R p es i L w:=by
  intro a hf
  have h:=h w.heap.size
  unfold newAt at h
  split at h
  · simp at h
  · rename_i op ho
    split at h
    · simp at h
    · rename_i hok
      split at h
      · rename_i hw
        split at h
        · rename_i v' ob ht
          injection h with h
          injection h with h1 h2
          injection h2 with h2 h3
          obtain ⟨hx,hd2⟩:=okOp_spec hok hf
          have hlt:i<(opsAt F.c p).size:=(Array.getElem?_eq_some_iff.1 ho).1
          have e:(opsAt F.c p).size - i=((opsAt F.c p).size - (i+1))+1:=by omega
          rw [e,List.range'_succ]
          simp only [wpOps,ho,wantL_spec hw hf,if_true]
          refine .inl ?_
          unfold Oper.wp
          rw [hx,trN_run ht,Oper.upon_value]
          have:=k w.heap.size _ rfl (Ext.push w ob) (by simp) (by simp [h3]) _ (hf.put (d:=d) (by rw [← h1]; exact hd2) (v w.heap.size))
          rw [← h1,← h2] at this
          exact this
        · simp at h
      · simp at h
end
/-! ### 14. Facts on memory -/
theorem Ext.blk {w w':World} (h:Ext w w') {g:Nat} {o:Obj} (hb:w.heap[g]? = some o):w'.heap[g]? = some o:=(h.block g (Array.getElem?_eq_some_iff.1 hb).1).trans hb
theorem blk_cell {w:World} {g off:Nat} {cs:Array Value} {e:TypeId} {fr:Nat × Nat} {v:Value} (hb:w.heap[g]? = some (.cells cs e fr)) (hv:cs[off]? = some v):w.cell? ⟨g,off,none⟩=some v:=by
  simp [World.cell?,hb,hv]
theorem Kd.Row.get {α:Type} {d:Kd α} {H:Hp} {ad:Addr} {xs:List α} {i:Int} {x:α} (h:Kd.Row d H (some ad) xs) (hx:at? xs i=some x) :
    ∃ c,d.K H x c∧∀ w,Sub H w→∀ j v,c[j]? = some v→w.cell? ((ad.add (i.toNat*d.sz)).add j)=some v:=by
  obtain ⟨h0,h1,h2⟩:=at?_some hx
  obtain ⟨ad',x',c,hA,hx',hK,hc⟩:=h.at h0 h1
  injection hA with hA
  subst hA
  rw [h2] at hx'
  injection hx' with hx'
  subst hx'
  exact ⟨c,hK,hc⟩
theorem Kd.Row.lit {α:Type} {d:Kd α} {H:Hp} {g:Nat} {cs:Array Value} {e:TypeId} {fr:Nat × Nat} {xs:List α} (hb:H g=some (.cells cs e fr)) (hr:Kd.Rep d H cs 0 xs):Kd.Row d H (some ⟨g,0,none⟩) xs :=
  fun _=>⟨g,0,cs,e,fr,rfl,hb,hr⟩
theorem Kd.Rep.nil {α:Type} {d:Kd α} {H:Hp} {cs:Array Value} {off:Nat}:Kd.Rep d H cs off ([]:List α):=fun i x h=>by simp at h
theorem Kd.Rep.cons {α:Type} {d:Kd α} {H:Hp} {cs:Array Value} {off:Nat} {x:α} {xs:List α} {c:List Value} (hK:d.K H x c) (hc:∀ j v,c[j]? = some v→cs[off+j]? = some v) (h:Kd.Rep d H cs (off+d.sz) xs):Kd.Rep d H cs off (x::xs):=by
  intro i y hy
  cases i with
  | zero =>
    simp at hy
    subst hy
    exact ⟨c,hK,fun j v hv=>by simpa using hc j v hv⟩
  | succ i =>
    simp at hy
    obtain ⟨c',h1,h2⟩:=h i y hy
    refine ⟨c',h1,fun j v hv=>?_⟩
    have:=h2 j v hv
    rw [show off+(i+1)*d.sz+j=off+d.sz+i*d.sz+j by rw [Nat.add_mul]; omega]
    exact this
theorem Kd.Rep.scalars {α:Type} {enc:α→Value} {h1:∀ x,one1 (enc x)=true} {H:Hp} {cs:Array Value} {xs:List α} (hc:cs=(xs.map enc).toArray):Kd.Rep (Kd.scalar enc h1) H cs 0 xs:=by
  intro i x hx
  refine ⟨[enc x],rfl,fun j v hv=>?_⟩
  have hj:j=0:=by
    cases j with
    | zero=>rfl
    | succ j=>simp at hv
  subst hj
  simp at hv
  subst hv
  rw [hc]
  simp [Kd.scalar,hx]
section
variable {F:Ctx} {R:Ending→World→Prop} {es es':List En} {L L':Slots} {w:World} {p:List Nat} {i:Nat}
def evalAt (c:Code) (p:List Nat) (L:Slots):Option Value:=match condAt c p with
  | some x=>match knows L x with
    | true=>some (evL L x)
    | false=>none
  | none=>none
theorem RunL.condT {c:Bool} (h:evalAt F.c p L=some (.bool c)) (hb:c=true) (k:RunL F R (.c (p++[0])::es) L w):RunL F R (.c p::es) L w:=by
  unfold evalAt at h
  split at h
  · rename_i x hx
    split at h
    · rename_i hk
      injection h with h
      exact RunL.cond hx hk h (by rw [hb]; exact k)
    · simp at h
  · simp at h
theorem RunL.condF {c:Bool} (h:evalAt F.c p L=some (.bool c)) (hb:c=false) (k:RunL F R (.c (p++[1])::es) L w):RunL F R (.c p::es) L w:=by
  unfold evalAt at h
  split at h
  · rename_i x hx
    split at h
    · rename_i hk
      injection h with h
      exact RunL.cond hx hk h (by rw [hb]; exact k)
    · simp at h
  · simp at h
end
def bodyOf (f:Func):Code:=f.body.getD .skip
theorem Kd.Row.none {α:Type} {d:Kd α} {H:Hp} {A:Option Addr}:Kd.Row d H A ([]:List α):=fun h=>absurd rfl h
theorem blk_lt {w:World} {g:Nat} {o:Obj} (hb:w.heap[g]? = some o):g<w.heap.size:=(Array.getElem?_eq_some_iff.1 hb).1
theorem Sub.none {H:Hp} {w:World} (hH:Sub H w) {g:Nat} (hg:w.heap.size=g):H g=Option.none:=by
  cases h:H g with
  | none=>rfl
  | some o=>exact absurd (hH.lt h) (by omega)
theorem Kd.Row.take {α:Type} {d:Kd α} {H:Hp} {A:Option Addr} {xs:List α} (h:Kd.Row d H A xs) (n:Nat):Kd.Row d H A (xs.take n):=by
  intro hne
  obtain ⟨b,off,cs,e,fr,hA,hb,hr⟩:=h (by intro h0; subst h0; simp at hne)
  refine ⟨b,off,cs,e,fr,hA,hb,fun i x hx=>hr i x ?_⟩
  rw [List.getElem?_take] at hx
  split at hx
  · exact hx
  · simp at hx
theorem Kd.Row.drop {α:Type} {d:Kd α} {H:Hp} {A:Option Addr} {xs:List α} (h:Kd.Row d H A xs) (n cap:Nat) (hc:xs.length≤cap):Kd.Row d H (shiftA cap n d.sz A) (xs.drop n):=by
  intro hne
  have hlt:n<xs.length:=by
    rcases Nat.lt_or_ge n xs.length with h1 | h1
    · exact h1
    · exact absurd (List.drop_eq_nil_of_le h1) hne
  obtain ⟨b,off,cs,e,fr,hA,hb,hr⟩:=h (by intro h0; subst h0; simp at hlt)
  refine ⟨b,off+n*d.sz,cs,e,fr,?_,hb,fun i x hx=>?_⟩
  · rw [hA,shiftA,if_neg (by omega),Option.map_some,add_plain]
  · rw [List.getElem?_drop] at hx
    obtain ⟨c,hc,hcell⟩:=hr (n+i) x hx
    refine ⟨c,hc,fun j v hv=>?_⟩
    rw [show off+n*d.sz+i*d.sz+j=off+(n+i)*d.sz+j by rw [Nat.add_mul]; omega]
    exact hcell j v hv
section
variable {F:Ctx} {R:Ending→World→Prop} {es es':List En} {L L':Slots} {w:World} {p:List Nat} {i:Nat}
theorem RgL.val1 {t:Nat} {v v':Value} (h:v=v') (k:RgL F R p es i ((t,v')::L) w):RgL F R p es i ((t,v)::L) w:=by rw [h]; exact k
theorem QgL.val1 {C:World→Prop} {t:Nat} {v v':Value} (h:v=v') (k:QgL F R p es C i ((t,v')::L)):QgL F R p es C i ((t,v)::L):=by rw [h]; exact k
end
end Go.Proofs.YtedkdnhhohcocaaDoor.Kit
