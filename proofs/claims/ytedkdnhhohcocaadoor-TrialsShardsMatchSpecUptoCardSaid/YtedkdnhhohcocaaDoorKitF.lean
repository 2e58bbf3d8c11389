/- Words of our own: slices that a call made itself: read, appended to, stored into, handed on. -/
import Derived.Test.YtedkdnhhohcocaaDoorKitE
import Derived.Laws.AppendOwn
import Derived.Maps.AppendAt
import Derived.Deep.DeepAppendWide
set_option linter.unusedSimpArgs false
set_option linter.unusedVariables false
set_option linter.unnecessarySimpa false
namespace Go.Proofs.YtedkdnhhohcocaaDoor.Kit
open Go Go.RowKit

/-! ### 16. A slice of the call's own -/
def Own {α:Type} (d:Kd α) (e:TypeId) (H:Hp) (w:World) (n0:Nat) (A:Option Addr) (c:Nat) (xs:List α):Prop :=
  (A=none∧xs=[]∧c=0) ∨
  ∃ b cs,A=some ⟨b,0,none⟩∧n0≤b∧H b=none∧w.heap[b]? = some (.cells cs e (0,0))∧xs.length≤c∧c≤maxLen∧cs.size=c*d.sz∧Kd.Rep d H cs 0 xs
theorem Own.nil {α:Type} {d:Kd α} {e:TypeId} {H:Hp} {w:World} {n0:Nat}:Own d e H w n0 none 0 ([]:List α):=.inl ⟨rfl,rfl,rfl⟩
theorem Own.cap {α:Type} {d:Kd α} {e:TypeId} {H:Hp} {w:World} {n0:Nat} {A:Option Addr} {c:Nat} {xs:List α} (h:Own d e H w n0 A c xs):xs.length≤c:=by
  rcases h with ⟨_,rfl,rfl⟩ | ⟨_,_,_,_,_,_,h,_⟩
  · simp
  · exact h
theorem Own.grow {α:Type} {d:Kd α} {e:TypeId} {H H1:Hp} {w w1:World} {n0:Nat} {A:Option Addr} {c:Nat} {xs:List α} (h:Own d e H w n0 A c xs) (hl:Le H H1) (hk:∀ k,k<w.heap.size→H k=none→H1 k=none) (hx:Ext w w1):Own d e H1 w1 n0 A c xs:=by
  rcases h with ⟨rfl,rfl,rfl⟩ | ⟨b,cs,hA,h0,hn,hb,h1,h2,h3,h4⟩
  · exact Own.nil
  · exact .inr ⟨b,cs,hA,h0,hk b (blk_lt hb) hn,hx.blk hb,h1,h2,h3,h4.mono hl⟩
theorem Own.ext {α:Type} {d:Kd α} {e:TypeId} {H:Hp} {w w1:World} {n0:Nat} {A:Option Addr} {c:Nat} {xs:List α} (h:Own d e H w n0 A c xs) (hx:Ext w w1):Own d e H w1 n0 A c xs:=h.grow (Le.refl H) (fun _ _ h=>h) hx
theorem Own.base {α:Type} {d:Kd α} {e:TypeId} {H:Hp} {w:World} {n0 n1:Nat} {A:Option Addr} {c:Nat} {xs:List α} (h:Own d e H w n0 A c xs) (hn:n1≤n0):Own d e H w n1 A c xs:=by
  rcases h with h | ⟨b,cs,hA,h0,h⟩
  · exact .inl h
  · exact .inr ⟨b,cs,hA,Nat.le_trans hn h0,h⟩
structure HX (H:Hp) (w:World) (H1:Hp) (w1:World):Prop where
  le:Le H H1
  sub:Sub H1 w1
  none:∀ k,k<w.heap.size→H k=Option.none→H1 k=Option.none
theorem HX.of {H:Hp} {w w1:World} (hH:Sub H w) (hx:Ext w w1):HX H w H w1:=⟨Le.refl H,hH.ext hx,fun _ _ h=>h⟩
theorem HX.then {H H1 H2:Hp} {w w1 w2:World} (h:HX H w H1 w1) (k:HX H1 w1 H2 w2) (hx:Ext w w1):HX H w H2 w2 :=
  ⟨h.le.then k.le,k.sub,fun i hi hn=>k.none i (Nat.lt_of_lt_of_le hi hx.size) (h.none i hi hn)⟩
theorem HX.ext {H0 H:Hp} {w0 w w1:World} (h:HX H0 w0 H w) (hx:Ext w w1):HX H0 w0 H w1:=⟨h.le,h.sub.ext hx,h.none⟩
theorem HX.to {H0 H:Hp} {w0 w w1:World} (h:HX H0 w0 H w) (hs:Sub H w1):HX H0 w0 H w1:=⟨h.le,hs,h.none⟩
theorem HX.grow {H0 H H1:Hp} {w0 w w1:World} (h:HX H0 w0 H w) (hl:Le H H1) (hs:Sub H1 w1) (hk:∀ k,k<w.heap.size→H k=Option.none→H1 k=Option.none) (hE:Ext w0 w):HX H0 w0 H1 w1 :=
  ⟨h.le.then hl,hs,fun i hi hn=>hk i (Nat.lt_of_lt_of_le hi hE.size) (h.none i hi hn)⟩
theorem Own.get {α:Type} {d:Kd α} {e:TypeId} {H:Hp} {w:World} {n0:Nat} {ad:Addr} {c:Nat} {xs:List α} {i:Int} {x:α} (h:Own d e H w n0 (some ad) c xs) (hx:at? xs i=some x) :
    ∃ cc,d.K H x cc∧∀ w',Ext w w'→∀ j v,cc[j]? = some v→w'.cell? ((ad.add (i.toNat*d.sz)).add j)=some v:=by
  rcases h with ⟨h,_⟩ | ⟨b,cs,hA,h0,hn,hb,h1,h2,h3,h4⟩
  · simp at h
  · injection hA with hA
    subst hA
    obtain ⟨h0,h1,h2⟩:=at?_some hx
    obtain ⟨cc,hK,hc⟩:=h4 i.toNat x h2
    refine ⟨cc,hK,fun w' hw j v hv=>?_⟩
    rw [add_plain,add_plain]
    exact blk_cell (hw.blk hb) (hc j v hv)
theorem Own.take {α:Type} {d:Kd α} {e:TypeId} {H:Hp} {w:World} {n0:Nat} {A:Option Addr} {c:Nat} {xs:List α} (h:Own d e H w n0 A c xs) (n:Nat):Own d e H w n0 A c (xs.take n):=by
  rcases h with ⟨rfl,rfl,rfl⟩ | ⟨b,cs,hA,h0,hn,hb,h1,h2,h3,h4⟩
  · simpa using Own.nil
  · refine .inr ⟨b,cs,hA,h0,hn,hb,by simp; omega,h2,h3,fun i x hx=>h4 i x ?_⟩
    rw [List.getElem?_take] at hx
    split at hx
    · exact hx
    · simp at hx
/-! ### 17. append -/
structure App (w w':World) (A:Option Addr):Prop where
  os:w'.os=w.os
  tape:w'.tape=w.tape
  output:w'.output=w.output
  size:w.heap.size≤w'.heap.size
  block:∀ k,k<w.heap.size→(∀ ad,A=some ad→k≠ad.block)→w'.heap[k]? = w.heap[k]?
theorem App.ext {α:Type} {d:Kd α} {e:TypeId} {H:Hp} {w0 w w':World} {A:Option Addr} {c:Nat} {xs:List α} (h:App w w' A) (hE:Ext w0 w) (hO:Own d e H w w0.heap.size A c xs):Ext w0 w':=by
  refine ⟨h.os.trans hE.os,h.tape.trans hE.tape,h.output.trans hE.output,Nat.le_trans hE.size h.size,fun k hk=>(h.block k (Nat.lt_of_lt_of_le hk hE.size) ?_).trans (hE.block k hk)⟩
  intro ad ha
  rcases hO with ⟨hn,_⟩ | ⟨b,cs,hA,h0,_⟩
  · rw [hn] at ha; simp at ha
  · rw [hA] at ha
    injection ha with ha
    subst ha
    show k≠b
    omega
theorem App.sub {α:Type} {d:Kd α} {e:TypeId} {H:Hp} {w w':World} {n0:Nat} {A:Option Addr} {c:Nat} {xs:List α} (h:App w w' A) (hH:Sub H w) (hO:Own d e H w n0 A c xs):Sub H w':=by
  intro k o hk
  rw [h.block k (hH.lt hk)]
  · exact hH k o hk
  · intro ad ha
    rcases hO with ⟨hn,_⟩ | ⟨b,cs,hA,h0,hn,_⟩
    · rw [hn] at ha; simp at ha
    · rw [hA] at ha
      injection ha with ha
      subst ha
      intro he
      have he:k=b:=he
      subst he
      rw [hn] at hk
      simp at hk
theorem App.blk {α:Type} {d:Kd α} {e t:TypeId} {H:Hp} {w w':World} {n0 g:Nat} {A:Option Addr} {c:Nat} {xs:List α} {cs:Array Value} {fr:Nat × Nat} (h:App w w' A) (hO:Own d e H w n0 A c xs) (hb:w.heap[g]? = some (.cells cs t fr)) (ht:t≠e):w'.heap[g]? = some (.cells cs t fr):=by
  rw [h.block g (blk_lt hb),hb]
  intro ad ha he
  rcases hO with ⟨hn,_⟩ | ⟨b,cs',hA,h0,hn,hb',_⟩
  · rw [hn] at ha; simp at ha
  · rw [hA] at ha
    injection ha with ha
    subst ha
    have he:g=b:=he
    subst he
    rw [hb] at hb'
    injection hb' with hb'
    injection hb' with _ hb' _
    exact ht hb'
theorem App.own {α β:Type} {d:Kd α} {d2:Kd β} {e t:TypeId} {H:Hp} {w w':World} {n0 n1:Nat} {A B:Option Addr} {c c2:Nat} {xs:List α} {ys:List β} (h:App w w' A) (hO:Own d e H w n0 A c xs) (k:Own d2 t H w n1 B c2 ys) (ht:t≠e):Own d2 t H w' n1 B c2 ys:=by
  rcases k with k | ⟨b,cs,hA,h0,hn,hb,h1⟩
  · exact .inl k
  · exact .inr ⟨b,cs,hA,h0,hn,h.blk hO hb ht,h1⟩
def apAt (P:Program) (N:Nat) (ops:Array Oper) (i:Nat) (L:Slots):Option (Option Tmp × TypeId × Value × Value) :=
  match ops[i]? with
  | none=>none
  | some o =>
    match okOp N L o with
    | false=>none
    | true =>
      match wantL ops L o.guard with
      | some true =>
        match o.op with
        | .call { callee:=.builtin .append,args:=⟨[s,x]⟩,argTypes:=⟨[t,u]⟩ }=>match Nat.beq t u with
          | true=>some (o.dst,t,evL L s,evL L x)
          | false=>none
        | _=>none
      | _=>none
theorem fits_lim {need old bytes:Nat} (h:old<need) (hb:need*bytes≤140737490452480) (hy:bytes≤1048576):Builtin.nextslicecap need old*bytes≤281474976710656:=by
  refine growslice_fits_wide h ?_
  have h1:need / 4*4≤need:=Nat.div_mul_le_self need 4
  have h2:need / 4*4*bytes≤need*bytes:=Nat.mul_le_mul_right _ h1
  have h3:need / 4*4*bytes=4*(need / 4*bytes):=by rw [Nat.mul_comm (need / 4) 4,Nat.mul_assoc]
  rw [Nat.add_mul,Nat.add_mul]
  omega
def elemOk (P:Program) (t e size bytes:Nat):Bool :=
  match P.underlying t with
  | some (.slice e')=>match P.info? e' with
    | some inf=>match inf.zero with
      | some z=>Nat.beq e' e&&Nat.beq inf.size size&&Nat.beq inf.bytes bytes&&Nat.beq z.cells.size size&&(Nat.blt 0 size&&Nat.ble bytes 1048576)
      | none=>false
    | none=>false
  | _=>false
theorem Rep.toList {α:Type} {d:Kd α} {H:Hp}:∀ {xs:List α} {cs:Array Value} {off:Nat},Kd.Rep d H cs off xs→∃ l:List Value,l.length=xs.length*d.sz∧(∀ j v,l[j]? = some v→cs[off+j]? = some v)∧(∀ v∈l,one1 v=true)∧Kd.Rep d H l.toArray 0 xs
  | [],cs,off,h=>⟨[],by simp,fun j v hv=>by simp at hv,fun v hv=>by simp at hv,Kd.Rep.nil⟩
  | x::xs,cs,off,h=>by
    obtain ⟨c,hK,hc⟩:=h 0 x rfl
    have h':Kd.Rep d H cs (off+d.sz) xs:=by
      intro i y hy
      obtain ⟨c',h1,h2⟩:=h (i+1) y (by simpa using hy)
      refine ⟨c',h1,fun j v hv=>?_⟩
      have:=h2 j v hv
      rw [show off+(i+1)*d.sz+j=off+d.sz+i*d.sz+j by rw [Nat.add_mul]; omega] at this
      exact this
    obtain ⟨l,h1,h2,h3,h4⟩:=Rep.toList h'
    have hlen:=d.len hK
    refine ⟨c++l,by rw [List.length_append,h1,hlen,List.length_cons,Nat.add_mul]; omega,fun j v hv=>?_,fun v hv=>?_,?_⟩
    · rcases Nat.lt_or_ge j c.length with hj | hj
      · rw [List.getElem?_append_left hj] at hv
        have:=hc j v hv
        simpa using this
      · rw [List.getElem?_append_right hj] at hv
        have:=h2 _ v hv
        rw [show off+d.sz+(j - c.length)=off+j by omega] at this
        exact this
    · rw [List.mem_append] at hv
      rcases hv with hv | hv
      · exact d.one hK v hv
      · exact h3 v hv
    · refine Kd.Rep.cons hK (fun j v hv=>?_) ?_
      · have hj:=(List.getElem?_eq_some_iff.1 hv).1
        simp only [Nat.zero_add,List.getElem?_toArray]
        rw [List.getElem?_append_left hj]
        exact hv
      · intro i y hy
        obtain ⟨c',k1,k2⟩:=h4 i y hy
        refine ⟨c',k1,fun j v hv=>?_⟩
        have:=k2 j v hv
        simp only [List.getElem?_toArray] at this ⊢
        rw [List.getElem?_append_right (by omega)]
        rw [show 0+d.sz+i*d.sz+j - c.length=0+i*d.sz+j by omega]
        exact this
theorem Rep.append {α:Type} {d:Kd α} {H:Hp} {l m:List Value} {xs ys:List α} (hl:l.length=xs.length*d.sz) (h:Kd.Rep d H l.toArray 0 xs) (k:Kd.Rep d H m.toArray 0 ys):Kd.Rep d H (l++m).toArray 0 (xs++ys):=by
  intro i x hx
  rcases Nat.lt_or_ge i xs.length with hi | hi
  · rw [List.getElem?_append_left hi] at hx
    obtain ⟨c,h1,h2⟩:=h i x hx
    refine ⟨c,h1,fun j v hv=>?_⟩
    have:=h2 j v hv
    simp only [List.getElem?_toArray] at this ⊢
    have hj:=(List.getElem?_eq_some_iff.1 this).1
    rw [List.getElem?_append_left hj]
    exact this
  · rw [List.getElem?_append_right hi] at hx
    obtain ⟨c,h1,h2⟩:=k _ x hx
    refine ⟨c,h1,fun j v hv=>?_⟩
    have:=h2 j v hv
    simp only [List.getElem?_toArray] at this ⊢
    have e:xs.length*d.sz≤i*d.sz:=Nat.mul_le_mul_right _ hi
    rw [List.getElem?_append_right (by omega)]
    rw [show 0+i*d.sz+j - l.length=0+(i - xs.length)*d.sz+j by rw [Nat.sub_mul]; omega]
    exact this
theorem Rep.of_take {α:Type} {d:Kd α} {H:Hp} {cs:Array Value} {l:List Value} {xs:List α} (hl:l=cs.toList.take (xs.length*d.sz)) (h:Kd.Rep d H l.toArray 0 xs):Kd.Rep d H cs 0 xs:=by
  intro i x hx
  obtain ⟨c,h1,h2⟩:=h i x hx
  refine ⟨c,h1,fun j v hv=>?_⟩
  have:=h2 j v hv
  simp only [List.getElem?_toArray,hl] at this
  rw [List.getElem?_take] at this
  split at this
  · simpa using this
  · simp at this
theorem one1_eq (v:Value):one1 v=v.oneCell':=by cases v <;> rfl
section
variable {F:Ctx} {R:Ending→World→Prop} {es es':List En} {L L':Slots} {w:World} {p:List Nat} {i:Nat}
theorem run_append {P:Program} {α:Type} {d:Kd α} {t ty e bytes n0:Nat} {H:Hp} {A B:Option Addr} {c cB:Nat} {xs ys:List α} (he:elemOk P t e d.sz bytes=true) (hn0:n0≤w.heap.size)
    (hO:Own d e H w n0 A c xs) (hB:Kd.Row d H B ys) (hH:Sub H w) (hcB:ys.length≤cB) (hle:(xs.length+ys.length)*bytes≤140737488355328) (hle2:xs.length+ys.length≤9223372036854775807) :
    ∃ A' c' w',(Builtin.append_ #[t,t] ty #[.slice A xs.length c,.slice B ys.length cB]).run P w=.ok (.slice A' (xs++ys).length c') w'∧App w w' A∧Own d e H w' n0 A' c' (xs++ys):=by
  unfold elemOk at he
  split at he
  · rename_i e' hu
    split at he
    · rename_i inf hinf
      split at he
      · rename_i z hz
        simp only [Bool.and_eq_true] at he
        obtain ⟨⟨⟨⟨g1,g2⟩,g3⟩,g4⟩,g5⟩:=he
        obtain ⟨g5,g6⟩:=g5
        have g1:=Nat.eq_of_beq_eq_true g1
        have g2:=Nat.eq_of_beq_eq_true g2
        have g3:=Nat.eq_of_beq_eq_true g3
        have g4:=Nat.eq_of_beq_eq_true g4
        simp only [Nat.blt_eq] at g5
        subst g1
        by_cases hy:ys=[]∧B=none
        · obtain ⟨rfl,rfl⟩:=hy
          have hcap:=hO.cap
          refine ⟨A,c,w,?_,⟨rfl,rfl,rfl,Nat.le_refl _,fun _ _ _=>rfl⟩,by simpa using hO⟩
          cases A <;> simp [Builtin.append_,go_sem,run_underlying hu,run_sizeOf hinf,Builtin.lenOf,Builtin.firstCells,hcap,storeCells,hu]
        · have hB2:∃ (ad:Addr) (news:List Value),B=some ad∧news.length=ys.length*d.sz∧(∀ j u,news[j]? = some u→w.cell? (ad.add j)=some u)∧(∀ u∈news,one1 u=true)∧Kd.Rep d H news.toArray 0 ys:=by
            by_cases hys:ys=[]
            · subst hys
              cases B with
              | none=>exact absurd ⟨rfl,rfl⟩ hy
              | some ad=>exact ⟨ad,[],rfl,by simp,fun j u hu=>by simp at hu,fun u hu=>by simp at hu,Kd.Rep.nil⟩
            · obtain ⟨b,off,cs,e2,fr,hA,hb,hr⟩:=hB hys
              obtain ⟨l,h1,h2,h3,h4⟩:=Rep.toList hr
              refine ⟨_,l,hA,h1,fun j u hu=>?_,h3,h4⟩
              rw [add_plain]
              exact blk_cell (hH _ _ hb) (h2 j u hu)
          obtain ⟨ad,news,rfl,hl,hnews,hone,hrep⟩:=hB2
          have hown:∃ cells,w.ownsRow n0 e' d.sz (.slice A xs.length c) xs.length cells∧cells.length=xs.length*d.sz∧Kd.Rep d H cells.toArray 0 xs:=by
            rcases hO with ⟨rfl,rfl,rfl⟩ | ⟨b,cs,hA,h0,hn,hb,h1,h2,h3,h4⟩
            · exact ⟨[],⟨by simp,.inl ⟨rfl,rfl⟩⟩,by simp,Kd.Rep.nil⟩
            · have hmul:xs.length*d.sz≤c*d.sz:=Nat.mul_le_mul_right _ h1
              have hll:(cs.toList.take (xs.length*d.sz)).length=xs.length*d.sz:=by rw [List.length_take]; simp; omega
              refine ⟨cs.toList.take (xs.length*d.sz),⟨hll,.inr ⟨b,c,cs,by rw [hA],h0,hb,h1,h2,h3,rfl⟩⟩,hll,?_⟩
              obtain ⟨l,k1,k2,k3,k4⟩:=Rep.toList h4
              have:l=cs.toList.take (xs.length*d.sz):=by
                apply List.ext_getElem?
                intro j
                rw [List.getElem?_take]
                split
                · rename_i hj
                  have hj':j<l.length:=by omega
                  have:=k2 j _ (List.getElem?_eq_getElem hj')
                  rw [List.getElem?_eq_getElem hj']
                  simpa using this.symm
                · rename_i hj
                  exact List.getElem?_eq_none (by omega)
              rw [← this]
              exact k4
          obtain ⟨cells,how,hcl,hcr⟩:=hown
          obtain ⟨v',w',hrun,h1,h2,h3,hat⟩:=run_append_own_at (P:=P) w n0 t ty e' inf z d.sz bytes hu hinf hz g2 g3 g4 g5 (.slice A xs.length c) xs.length cells how ad ys.length cB news hl hnews (fun u hu=>by rw [← one1_eq]; exact hone u hu) (by unfold maxLen; exact hle2) hle hn0
          have happ:=Rep.append hcl hcr hrep
          have hApp:App w w' A:=⟨h2.os,h2.tape,h2.output,h2.size,fun k hk hne=>h2.block k hk (by
            cases A with
            | none=>simp [Value.ownBlock]
            | some a =>
              simp only [Value.ownBlock]
              intro he
              injection he with he
              exact hne a rfl he)⟩
          obtain ⟨hlen,hcase⟩:=h1
          rcases hcase with ⟨hv,hz0⟩ | ⟨g,cap,cur,hv,h0,hb,k1,k2,k3,k4⟩
          · have hx0:xs=[]:=List.eq_nil_of_length_eq_zero (by omega)
            have hy0:ys=[]:=List.eq_nil_of_length_eq_zero (by omega)
            subst hx0 hy0
            exact ⟨none,0,w',by rw [hrun,hv]; rfl,hApp,Own.nil⟩
          · refine ⟨some ⟨g,0,none⟩,cap,w',by rw [hrun,hv,List.length_append],hApp,.inr ⟨g,cur,rfl,h0,?_,hb,by rw [List.length_append]; exact k1,k2,k3,Rep.of_take (by rw [List.length_append]; exact k4.symm) happ⟩⟩
            rw [hv] at hat
            rcases hat with hat | hat
            · rcases hO with ⟨rfl,_⟩ | ⟨b,cs,hA,h0',hn,hb',_⟩
              · simp [Value.ownBlock] at hat
              · rw [hA] at hat
                simp [Value.ownBlock] at hat
                rw [hat]
                exact hn
            · simp [Value.ownBlock] at hat
              exact hH.none hat.symm
      · simp at he
    · simp at he
  · simp at he
theorem RgL.append {d:Nat} {t e bytes n0:Nat} {α:Type} {kd:Kd α} {H:Hp} {A B:Option Addr} {c cB:Nat} {xs ys:List α}
    (h:apAt F.P F.N (opsAt F.c p) i L=some (some d,t,.slice A xs.length c,.slice B ys.length cB)) (he:elemOk F.P t e kd.sz bytes=true) (hn0:n0≤w.heap.size)
    (hO:Own kd e H w n0 A c xs) (hB:Kd.Row kd H B ys) (hH:Sub H w) (hcB:ys.length≤cB) (hle:(xs.length+ys.length)*bytes≤140737488355328) (hle2:xs.length+ys.length≤9223372036854775807)
    (k:∀ A' c' w',App w w' A→Own kd e H w' n0 A' c' (xs++ys)→RgL F R p es (i+1) ((d,.slice A' (xs++ys).length c')::L) w'):RgL F R p es i L w:=by
  intro a hf
  unfold apAt at h
  split at h
  · simp at h
  · rename_i o ho
    split at h
    · simp at h
    · rename_i hok
      split at h
      · rename_i hw
        split at h
        · rename_i s x t' u hop
          split at h
          · rename_i htu
            have htu:=Nat.eq_of_beq_eq_true htu
            subst htu
            injection h with h
            injection h with h1 h
            injection h with h2 h
            injection h with h4 h5
            subst h2
            obtain ⟨hx,hd2⟩:=okOp_spec hok hf
            have hlt:i<(opsAt F.c p).size:=(Array.getElem?_eq_some_iff.1 ho).1
            have e1:(opsAt F.c p).size - i=((opsAt F.c p).size - (i+1))+1:=by omega
            rw [e1,List.range'_succ]
            simp only [wpOps,ho,wantL_spec hw hf,if_true]
            refine .inl ?_
            obtain ⟨A',c',w',hrun,hApp,hO'⟩:=run_append (P:=F.P) (ty:=o.type) he hn0 hO hB hH hcB hle hle2
            have hexec:(execOp (evL L) o).run F.P w=.ok (.value (.slice A' (xs++ys).length c')) w':=by
              simp only [execOp,hop,resolve,invoke,builtin,Sem.run_bind,Sem.run_pure,Result.andThen_ok,List.map_toArray,List.map_cons,List.map_nil,h4,h5,hrun]
            unfold Oper.wp
            rw [hx,hexec,Oper.upon_value]
            have hf':=hf.put (d:=o.dst) hd2 (.slice A' (xs++ys).length c')
            rw [h1] at hf' ⊢
            exact k A' c' w' hApp hO' _ hf'
          · simp at h
        · simp at h
      · simp at h
end
end Go.Proofs.YtedkdnhhohcocaaDoor.Kit
