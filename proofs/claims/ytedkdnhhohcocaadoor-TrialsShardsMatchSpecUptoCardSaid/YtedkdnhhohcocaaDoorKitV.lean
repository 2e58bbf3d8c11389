/- Words of our own: the builtin copy into a block of the call's own; an append that surely needs a new block; calls of what has no body. -/
import Derived.Test.YtedkdnhhohcocaaDoorKitU
import Derived.Lib.Overlaps
import Derived.Lib.AppendZerosOnto
import Derived.Laws.Externs
set_option linter.unusedSimpArgs false
set_option linter.unusedVariables false
set_option linter.unnecessarySimpa false
namespace Go.Proofs.YtedkdnhhohcocaaDoor.Kit
open Go Go.RowKit
section
variable {α:Type} {d:Kd α} {H:Hp} {cells:Array Value} {off o:Nat} {xs ys:List α} {news:List Value}
theorem Rep.outw (h:Kd.Rep d H cells off xs) (hle:o+news.length≤cells.size) (ho:o+news.length≤off∨off+xs.length*d.sz≤o):Kd.Rep d H (Kit.owr cells o news) off xs:=by
  intro i x hx
  obtain ⟨c,h1,h2⟩:=h i x hx
  refine ⟨c,h1,fun j v hv=>?_⟩
  have hj:=(List.getElem?_eq_some_iff.1 hv).1
  rw [d.len h1] at hj
  have hi:=(List.getElem?_eq_some_iff.1 hx).1
  have hmul:(i+1)*d.sz≤xs.length*d.sz:=Nat.mul_le_mul_right _ hi
  rw [Nat.add_mul] at hmul
  rw [owr_get _ _ _ _ hle,if_neg (by omega)]
  exact h2 j v hv
theorem Rep.inw (k:Kd.Rep d H news.toArray 0 ys) (hle:o+news.length≤cells.size):Kd.Rep d H (Kit.owr cells o news) o ys:=by
  have:=Rep.owr (off:=o) (xs:=([]:List α)) (cells:=cells) (news:=news) (ys:=ys) (fun i x hx=>by simp at hx) k (by simpa using hle)
  simpa using this
theorem Rep.glue (h:Kd.Rep d H cells off xs) (k:Kd.Rep d H cells (off+xs.length*d.sz) ys):Kd.Rep d H cells off (xs++ys):=by
  intro i x hx
  rcases Nat.lt_or_ge i xs.length with hi | hi
  · rw [List.getElem?_append_left hi] at hx
    exact h i x hx
  · rw [List.getElem?_append_right hi] at hx
    obtain ⟨c,h1,h2⟩:=k _ x hx
    refine ⟨c,h1,fun j v hv=>?_⟩
    have:=h2 j v hv
    have hmul:xs.length*d.sz+(i - xs.length)*d.sz=i*d.sz:=by rw [← Nat.add_mul]; congr 1; omega
    rw [show off+i*d.sz+j=off+xs.length*d.sz+(i - xs.length)*d.sz+j by omega]
    exact this
end
def cpAt (P:Program) (N:Nat) (ops:Array Oper) (i:Nat) (L:Slots):Option (Option Tmp × TypeId × Value × Value) :=
  match ops[i]? with
  | none=>none
  | some o =>
    match okOp N L o with
    | false=>none
    | true =>
      match wantL ops L o.guard with
      | some true =>
        match o.op with
        | .call { callee:=.builtin .copy,args:=⟨[s,x]⟩,argTypes:=⟨[t,u]⟩ }=>match Nat.beq t u with
          | true=>some (o.dst,t,evL L s,evL L x)
          | false=>none
        | _=>none
      | _=>none
theorem cpAt_spec {P:Program} {N:Nat} {ops:Array Oper} {i:Nat} {L:Slots} {d:Option Tmp} {t:TypeId} {a b:Value} (h:cpAt P N ops i L=some (d,t,a,b)) :
    ∃ o,ops[i]? = some o∧o.dst=d∧okOp N L o=true∧wantL ops L o.guard=some true∧∀ (w w':World) (v:Value),(Builtin.copy_ #[t,t] o.type #[a,b]).run P w=.ok v w'→(execOp (evL L) o).run P w=.ok (.value v) w':=by
  unfold cpAt at h
  split at h
  · simp at h
  · rename_i o ho
    split at h
    · simp at h
    · rename_i hok
      split at h
      · rename_i hw
        split at h
        · rename_i s x t' u hop
          split at h
          · rename_i htu
            have htu:=Nat.eq_of_beq_eq_true htu
            subst htu
            injection h with h
            injection h with h1 h
            injection h with h2 h
            injection h with h4 h5
            subst h2
            refine ⟨o,ho,h1,hok,hw,fun w w' v hrun=>?_⟩
            simp only [execOp,hop,resolve,invoke,builtin,Sem.run_bind,Sem.run_pure,Result.andThen_ok,List.map_toArray,List.map_cons,List.map_nil,h4,h5,hrun]
          · simp at h
        · simp at h
      · simp at h
theorem elemOk_spec {P:Program} {t e size bytes:Nat} (he:elemOk P t e size bytes=true):P.underlying t=some (.slice e)∧∃ inf z,P.info? e=some inf∧inf.zero=some z∧inf.size=size∧inf.bytes=bytes∧z.cells.size=size∧0<size∧bytes≤1048576:=by
  unfold elemOk at he
  split at he
  · rename_i e' hu
    split at he
    · rename_i inf hinf
      split at he
      · rename_i z hz
        simp only [Bool.and_eq_true] at he
        obtain ⟨⟨⟨⟨g1,g2⟩,g3⟩,g4⟩,g5⟩:=he
        obtain ⟨g5,g6⟩:=g5
        have g1:=Nat.eq_of_beq_eq_true g1
        have g2:=Nat.eq_of_beq_eq_true g2
        have g3:=Nat.eq_of_beq_eq_true g3
        have g4:=Nat.eq_of_beq_eq_true g4
        simp only [Nat.blt_eq] at g5
        subst g1
        exact ⟨hu,inf,z,hinf,hz,g2,g3,g4,g5,Nat.le_of_ble_eq_true g6⟩
      · simp at he
    · simp at he
  · simp at he
section
variable {F:Ctx} {H:Hp} {w0:World} {L:Slots} {cs:List Ch} {p:List Nat} {i:Nat}
theorem DoesH.copyRaw {dd:Option Tmp} {k:Nat} {t e bytes sz b o dl dc sl sc:Nat} {a:Addr} {A1 A2:Option Addr} {cells:Array Value} {news:List Value} (h:cpAt F.P F.N (opsAt F.c p) i L=some (dd,t,.slice A1 dl dc,.slice A2 sl sc)) (hA1:A1=some ⟨b,o,none⟩) (hA2:A2=some a) (he:elemOk F.P t e sz bytes=true)
    (hk:cs[k]? = some (some (b,.cells cells e (0,0)))) (hn:news.length=Nat.min sl dl*sz) (hnews:∀ w,Heap H w0 w cs→∀ j u,news[j]? = some u→w.cell? (a.add j)=some u) (hone:∀ u∈news,one1 u=true) (hle:o+news.length≤cells.size) :
    DoesH F p i w0 L H cs (fun L' H' cs'=>L'=putL L dd (goInt (Nat.min sl dl:Nat))∧H=H'∧cs'=cs.set k (some (b,.cells (owr cells o news) e (0,0)))):=by
  intro w hh
  subst hA1 hA2
  obtain ⟨hu,inf,z,hinf,hz,g2,g3,g4,g5,g6⟩:=elemOk_spec he
  obtain ⟨op,ho,hd,hok,hw,hrun⟩:=cpAt_spec h
  have hb:=hh.chin k hk
  have hf:=run_firstCells_some (P:=F.P) w inf.size (Nat.min sl dl) a sl sc news (by rw [hn,g2]) (hnews w hh)
  obtain ⟨w',hst,hz0,hU⟩:=run_storeCells (P:=F.P) (g:=b) (off:=o) news 0 hone hb (by omega)
  have hU':Upd w w' b (.cells (owr cells o news) e (0,0)):=by
    by_cases hnil:news=[]
    · subst hnil
      rw [hz0 rfl]
      exact ⟨rfl,rfl,rfl,rfl,hb,fun _ _=>rfl⟩
    · simpa using hU hnil
  have hr:(Builtin.copy_ #[t,t] op.type #[.slice (some ⟨b,o,none⟩) dl dc,.slice (some a) sl sc]).run F.P w=.ok (goInt (Nat.min sl dl:Nat)) w':=by
    simp [Builtin.copy_,run_underlying hu,Builtin.lenOf,sizeOf,typeInfo,hinf,hf,hst]
  exact ⟨op,ho,hok,hw,.inl ⟨_,w',hrun w w' _ hr,H,_,Le.refl H,hh.upd hk hU',by rw [hd],rfl,rfl⟩⟩
def apzAt (P:Program) (N:Nat) (ops:Array Oper) (i:Nat) (L:Slots):Option (Option Tmp × TypeId × TypeId × Value × Value) :=
  match ops[i]? with
  | none=>none
  | some o =>
    match okOp N L o with
    | false=>none
    | true =>
      match wantL ops L o.guard with
      | some true =>
        match o.op with
        | .call { callee:=.builtin .append,args:=⟨[s,x]⟩,argTypes:=⟨[t,u]⟩ }=>some (o.dst,t,u,evL L s,evL L x)
        | _=>none
      | _=>none
theorem apzAt_spec {P:Program} {N:Nat} {ops:Array Oper} {i:Nat} {L:Slots} {d:Option Tmp} {t u:TypeId} {a b:Value} (h:apzAt P N ops i L=some (d,t,u,a,b)) :
    ∃ o,ops[i]? = some o∧o.dst=d∧okOp N L o=true∧wantL ops L o.guard=some true∧∀ (w w':World) (v:Value),(Builtin.append_ #[t,u] o.type #[a,b]).run P w=.ok v w'→(execOp (evL L) o).run P w=.ok (.value v) w':=by
  unfold apzAt at h
  split at h
  · simp at h
  · rename_i o ho
    split at h
    · simp at h
    · rename_i hok
      split at h
      · rename_i hw
        split at h
        · rename_i s x t' u' hop
          injection h with h
          injection h with h1 h
          injection h with h2 h
          injection h with h3 h
          injection h with h4 h5
          subst h2 h3
          refine ⟨o,ho,h1,hok,hw,fun w w' v hrun=>?_⟩
          simp only [execOp,hop,resolve,invoke,builtin,Sem.run_bind,Sem.run_pure,Result.andThen_ok,List.map_toArray,List.map_cons,List.map_nil,h4,h5,hrun]
        · simp at h
      · simp at h
theorem DoesH.appendZeros {dd:Tmp} {α:Type} {kd:Kd α} {t tn e bytes q:Nat} {A:Option Addr} {a:Addr} {zq:Int} {c n:Nat} {xs:List α}
    (h:apzAt F.P F.N (opsAt F.c p) i L=some (some dd,t,tn,.slice A n c,.int .i64 zq)) (hA0:A=some a) (hzq:zq=(q:Int)) (htn:F.P.underlying tn=some (.int .i64)) (hn:n=xs.length) (he:elemOk F.P t e kd.sz bytes=true)
    (hA:∀ w,Heap H w0 w cs→Rdb kd H w (some a) xs) (hq:0<q) (hroom:c<n+q) (hle:(n+q)*bytes≤140737490452480) (hle2:n+q≤9223372036854775807) :
    DoesH F p i w0 L H cs (fun L' H' cs'=>∃ g c' cells,L'=(dd,.slice (some ⟨g,0,none⟩) (n+q) c')::L∧H=H'∧cs'=some (g,.cells cells e (0,0))::cs∧n+q≤c'∧c'≤maxLen∧0+c'*kd.sz≤cells.size∧Kd.Rep kd H cells 0 xs):=by
  intro w hh
  subst hn hA0 hzq
  obtain ⟨hu,inf,z,hinf,hz,g2,g3,g4,g5,g6⟩:=elemOk_spec he
  obtain ⟨op,ho,hd,hok,hw,hrun⟩:=apzAt_spec h
  obtain ⟨a',olds,e1,o1,o2,o3,o4⟩:=(hA w hh).list (by simp)
  injection e1 with e1
  subst e1
  have hneed:xs.length+q≤maxLen:=by unfold maxLen; exact hle2
  have hge:=grownCap_ge w (xs.length+q) c e
  have hcm:=grownCap_le_maxLen w (xs.length+q) c e hneed
  have hqb:q*bytes≤(xs.length+q)*bytes:=Nat.mul_le_mul_right _ (by omega)
  have hf:=run_firstCells_some (P:=F.P) w.drew inf.size xs.length a xs.length c olds (by rw [o1,g2]) (by simpa using o2)
  have hr:=Lib.run_append_grow_zeros (P:=F.P) w t tn op.type e inf z .i64 .i64 hu htn hinf hz (some a) xs.length c olds hf q hq (by omega) hroom (by omega) (by rw [g3]; omega) (fits_lim (by omega) (by rw [g3]; exact hle) (by rw [g3]; exact g6))
  refine ⟨op,ho,hok,hw,.inl ⟨_,_,hrun w _ _ hr,H,_,Le.refl H,hh.push (Ext.drewAlloc w _) rfl (heap_alloc_new w.drew _),w.heap.size,_,_,by rw [hd]; rfl,rfl,rfl,hge,hcm,?_,?_⟩⟩
  · simp only [Array.size_append,List.size_toArray,size_zeroCells,g4,o1,← Nat.add_mul]
    rw [show xs.length+q+(grownCap w (xs.length+q) c e - (xs.length+q))=grownCap w (xs.length+q) c e by omega]
    omega
  · refine Rep.of_take (l:=olds) ?_ o4
    rw [← o1]
    simp only [Array.toList_append,List.append_assoc]
    exact List.take_left.symm
end
def exAt (P:Program) (N:Nat) (ops:Array Oper) (i:Nat) (L:Slots):Option (Option Tmp × FuncId × Array Value) :=
  match ops[i]? with
  | none=>none
  | some o =>
    match okOp N L o with
    | false=>none
    | true =>
      match wantL ops L o.guard with
      | some true =>
        match o.op with
        | .call { callee:=.value (.func g),args:=as,argTypes:=_ }=>some (o.dst,g,as.map (evL L))
        | _=>none
      | _=>none
theorem exAt_spec {P:Program} {N:Nat} {ops:Array Oper} {i:Nat} {L:Slots} {d:Option Tmp} {g:FuncId} {args:Array Value} (h:exAt P N ops i L=some (d,g,args)) :
    ∃ o,ops[i]? = some o∧o.dst=d∧okOp N L o=true∧wantL ops L o.guard=some true∧∀ (w:World),(execOp (evL L) o).run P w=(callFunc g args).run P w:=by
  unfold exAt at h
  split at h
  · simp at h
  · rename_i o ho
    split at h
    · simp at h
    · rename_i hok
      split at h
      · rename_i hw
        split at h
        · rename_i g' as tys hop
          injection h with h
          injection h with h1 h
          injection h with h2 h3
          subst h2 h3
          refine ⟨o,ho,h1,hok,hw,fun w=>?_⟩
          simp only [execOp,hop,resolve,evL,Deferred.ofValue,Sem.run_bind,Sem.run_pure,Result.andThen_ok,invoke]
          congr 2
          exact Array.empty_append
        · simp at h
      · simp at h
section
variable {F:Ctx} {H:Hp} {w0:World} {L:Slots} {cs:List Ch} {p:List Nat} {i:Nat}
theorem DoesH.ext {d:Nat} {g:FuncId} {args:Array Value} {v:Value} (h:exAt F.P F.N (opsAt F.c p) i L=some (some d,g,args)) (hr:∀ w,Heap H w0 w cs→(callFunc g args).run F.P w=.ok (.value v) w) :
    DoesH F p i w0 L H cs (fun L' H' cs'=>L'=(d,v)::L∧H=H'∧cs=cs'):=by
  intro w hh
  obtain ⟨o,ho,hd,hok,hw,hrun⟩:=exAt_spec h
  exact ⟨o,ho,hok,hw,.inl ⟨v,w,by rw [hrun]; exact hr w hh,H,cs,Le.refl H,hh,by rw [hd]; rfl,rfl,rfl⟩⟩
end
theorem run_overlaps_own {P : Program} {w : World} {g tS e sz : Nat} {fn : Func} {b1 o1 l1 c1 b2 o2 l2 c2 : Nat} {x1 x2 : Array Value} {e1 e2 : TypeId} (hf : P.funcs[g]? = some fn) (hname : (fn.name == "runtime.NumGoroutine") = false) (hb : fn.body.isNone = true) (hnx : Extern.findNext fn = none)
    (hE:Extern.find fn=some (Extern.SlicesOverlaps.overlaps #[tS,tS] #[e])) {el bytes:Nat} (he:elemOk P tS el sz bytes=true) (h1:w.heap[b1]? = some (.cells x1 e1 (0,0))) (h2:w.heap[b2]? = some (.cells x2 e2 (0,0))) (hne:b1≠b2) (h0:0<x2.size) :
    (callFunc g #[.slice (some ⟨b1,o1,none⟩) l1 c1,.slice (some ⟨b2,o2,none⟩) l2 c2]).run P w=.ok (.value (.bool false)) w:=by
  obtain ⟨hu,inf,z,hinf,hz,g2,g3,g4,g5,g6⟩:=elemOk_spec he
  rw [run_callFunc_extern hf hname hb hnx hE,Lib.run_overlaps_apart w tS e el hu inf.size (fun w=>run_sizeOf hinf) ⟨b1,o1,none⟩ ⟨b2,o2,none⟩ l1 c1 l2 c2 hne e1 e2 x1.size x2.size (by simp [World.shape?,h1]) (by simp [World.shape?,h2]) (by omega) (by simp [World.frozen?,h1]) (by simp [World.frozen?,h1])]
  rfl
end Go.Proofs.YtedkdnhhohcocaaDoor.Kit
