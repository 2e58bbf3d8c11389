/- Words of our own: the builtin copy into a block of the call's own; an append that surely needs a new block; calls of what has no body. -/
import Derived.Test.YtiecpfnjmlidbaaGreatDoorKitU
import Derived.Lib.Overlaps
import Derived.Lib.AppendZerosOnto
import Derived.Laws.Externs
set_option linter.unusedSimpArgs false
set_option linter.unusedVariables false
set_option linter.unnecessarySimpa false
namespace Go.Proofs.YtiecpfnjmlidbaaGreatDoor.Kit
open Go Go.RowKit
section
variable {α:Type} {d:Kd α} {H:Hp} {cells:Array Value} {off o:Nat} {xs ys:List α} {news:List Value}
theorem q9.bb1 (h:Kd.q9 d H cells off xs) (hle:o+news.length≤cells.size) (ho:o+news.length≤off∨off+xs.length*d.sz≤o):Kd.q9 d H (Kit.F4 cells o news) off xs:=by
  intro i x hx
  obtain ⟨c,h1,h2⟩:=h i x hx
  refine ⟨c,h1,fun j v hv=>?_⟩
  have hj:=(List.getElem?_eq_some_iff.1 hv).1
  rw [d.len h1] at hj
  have hi:=(List.getElem?_eq_some_iff.1 hx).1
  have hmul:(i+1)*d.sz≤xs.length*d.sz:=Nat.mul_le_mul_right _ hi
  rw [Nat.add_mul] at hmul
  rw [bn4 _ _ _ _ hle,if_neg (by omega)]
  exact h2 j v hv
theorem q9.inw (k:Kd.q9 d H news.toArray 0 ys) (hle:o+news.length≤cells.size):Kd.q9 d H (Kit.F4 cells o news) o ys:=by
  have:=q9.F4 (off:=o) (xs:=([]:List α)) (cells:=cells) (news:=news) (ys:=ys) (fun i x hx=>by simp at hx) k (by simpa using hle)
  simpa using this
theorem q9.glue (h:Kd.q9 d H cells off xs) (k:Kd.q9 d H cells (off+xs.length*d.sz) ys):Kd.q9 d H cells off (xs++ys):=by
  intro i x hx
  rcases Nat.lt_or_ge i xs.length with hi | hi
  · rw [List.getElem?_append_left hi] at hx
    exact h i x hx
  · rw [List.getElem?_append_right hi] at hx
    obtain ⟨c,h1,h2⟩:=k _ x hx
    refine ⟨c,h1,fun j v hv=>?_⟩
    have:=h2 j v hv
    have hmul:xs.length*d.sz+(i - xs.length)*d.sz=i*d.sz:=by rw [← Nat.add_mul]; congr 1; omega
    rw [show off+i*d.sz+j=off+xs.length*d.sz+(i - xs.length)*d.sz+j by omega]
    exact this
end
def bP2 (P:Program) (N:Nat) (ops:Array Oper) (i:Nat) (L:w7):Option (Option Tmp × TypeId × Value × Value) :=
  match ops[i]? with
  | none=>none
  | some o =>
    match ag2 N L o with
    | false=>none
    | true =>
      match ac9 ops L o.guard with
      | some true =>
        match o.op with
        | .call { callee:=.builtin .copy,args:=⟨[s,x]⟩,argTypes:=⟨[t,u]⟩ }=>match Nat.beq t u with
          | true=>some (o.dst,t,E0 L s,E0 L x)
          | false=>none
        | _=>none
      | _=>none
theorem cJ5 {P:Program} {N:Nat} {ops:Array Oper} {i:Nat} {L:w7} {d:Option Tmp} {t:TypeId} {a b:Value} (h:bP2 P N ops i L=some (d,t,a,b)) :
    ∃ o,ops[i]? = some o∧o.dst=d∧ag2 N L o=true∧ac9 ops L o.guard=some true∧∀ (w w':World) (v:Value),(Builtin.copy_ #[t,t] o.type #[a,b]).run P w=.ok v w'→(execOp (E0 L) o).run P w=.ok (.value v) w':=by
  unfold bP2 at h
  split at h
  · simp at h
  · rename_i o ho
    split at h
    · simp at h
    · rename_i hok
      split at h
      · rename_i hw
        split at h
        · rename_i s x t' u hop
          split at h
          · rename_i htu
            have htu:=Nat.eq_of_beq_eq_true htu
            subst htu
            injection h with h
            injection h with h1 h
            injection h with h2 h
            injection h with h4 h5
            subst h2
            refine ⟨o,ho,h1,hok,hw,fun w w' v hrun=>?_⟩
            simp only [execOp,hop,resolve,invoke,builtin,Sem.run_bind,Sem.run_pure,Result.andThen_ok,List.map_toArray,List.map_cons,List.map_nil,h4,h5,hrun]
          · simp at h
        · simp at h
      · simp at h
theorem bB4 {P:Program} {t e size bytes:Nat} (he:au3 P t e size bytes=true):P.underlying t=some (.slice e)∧∃ inf z,P.info? e=some inf∧inf.zero=some z∧inf.size=size∧inf.bytes=bytes∧z.cells.size=size∧0<size∧bytes≤1048576:=by
  unfold au3 at he
  split at he
  · rename_i e' hu
    split at he
    · rename_i inf P2
      split at he
      · rename_i z hz
        simp only [Bool.and_eq_true] at he
        obtain ⟨⟨⟨⟨g1,g2⟩,g3⟩,g4⟩,g5⟩:=he
        obtain ⟨g5,g6⟩:=g5
        have g1:=Nat.eq_of_beq_eq_true g1
        have g2:=Nat.eq_of_beq_eq_true g2
        have g3:=Nat.eq_of_beq_eq_true g3
        have g4:=Nat.eq_of_beq_eq_true g4
        simp only [Nat.blt_eq] at g5
        subst g1
        exact ⟨hu,inf,z,P2,hz,g2,g3,g4,g5,Nat.le_of_ble_eq_true g6⟩
      · simp at he
    · simp at he
  · simp at he
section
variable {F:Ctx} {H:Hp} {w0:World} {L:w7} {cs:List Ch} {p:List Nat} {i:Nat}
theorem j6.aV8 {dd:Option Tmp} {k:Nat} {t e bytes sz b o dl dc sl sc:Nat} {a:Addr} {A1 aa3:Option Addr} {cells:Array Value} {news:List Value} (h:bP2 F.P F.N (s9 F.c p) i L=some (dd,t,.slice A1 dl dc,.slice aa3 sl sc)) (hA1:A1=some ⟨b,o,none⟩) (hA2:aa3=some a) (he:au3 F.P t e sz bytes=true)
    (hk:cs[k]? = some (some (b,.cells cells e (0,0)))) (hn:news.length=Nat.min sl dl*sz) (hnews:∀ w,Heap H w0 w cs→∀ j u,news[j]? = some u→w.cell? (a.add j)=some u) (hone:∀ u∈news,aB2 u=true) (hle:o+news.length≤cells.size) :
    j6 F p i w0 L H cs (fun L' H' cs'=>L'=aB1 L dd (goInt (Nat.min sl dl:Nat))∧H=H'∧cs'=cs.set k (some (b,.cells (F4 cells o news) e (0,0)))):=by
  intro w hh
  subst hA1 hA2
  obtain ⟨hu,inf,z,P2,hz,g2,g3,g4,g5,g6⟩:=bB4 he
  obtain ⟨op,ho,hd,hok,hw,hrun⟩:=cJ5 h
  have hb:=hh.N1 k hk
  have hf:=run_firstCells_some (P:=F.P) w inf.size (Nat.min sl dl) a sl sc news (by rw [hn,g2]) (hnews w hh)
  obtain ⟨w',hst,hz0,hU⟩:=aZ6 (P:=F.P) (g:=b) (off:=o) news 0 hone hb (by omega)
  have hU':Upd w w' b (.cells (F4 cells o news) e (0,0)):=by
    by_cases hnil:news=[]
    · subst hnil
      rw [hz0 rfl]
      exact ⟨rfl,rfl,rfl,rfl,hb,fun _ _=>rfl⟩
    · simpa using hU hnil
  have hr:(Builtin.copy_ #[t,t] op.type #[.slice (some ⟨b,o,none⟩) dl dc,.slice (some a) sl sc]).run F.P w=.ok (goInt (Nat.min sl dl:Nat)) w':=by
    simp [Builtin.copy_,run_underlying hu,Builtin.lenOf,sizeOf,typeInfo,P2,hf,hst]
  exact ⟨op,ho,hok,hw,.inl ⟨_,w',hrun w w' _ hr,H,_,Le.refl H,hh.upd hk hU',by rw [hd],rfl,rfl⟩⟩
def bP3 (P:Program) (N:Nat) (ops:Array Oper) (i:Nat) (L:w7):Option (Option Tmp × TypeId × TypeId × Value × Value) :=
  match ops[i]? with
  | none=>none
  | some o =>
    match ag2 N L o with
    | false=>none
    | true =>
      match ac9 ops L o.guard with
      | some true =>
        match o.op with
        | .call { callee:=.builtin .append,args:=⟨[s,x]⟩,argTypes:=⟨[t,u]⟩ }=>some (o.dst,t,u,E0 L s,E0 L x)
        | _=>none
      | _=>none
theorem cJ7 {P:Program} {N:Nat} {ops:Array Oper} {i:Nat} {L:w7} {d:Option Tmp} {t u:TypeId} {a b:Value} (h:bP3 P N ops i L=some (d,t,u,a,b)) :
    ∃ o,ops[i]? = some o∧o.dst=d∧ag2 N L o=true∧ac9 ops L o.guard=some true∧∀ (w w':World) (v:Value),(Builtin.append_ #[t,u] o.type #[a,b]).run P w=.ok v w'→(execOp (E0 L) o).run P w=.ok (.value v) w':=by
  unfold bP3 at h
  split at h
  · simp at h
  · rename_i o ho
    split at h
    · simp at h
    · rename_i hok
      split at h
      · rename_i hw
        split at h
        · rename_i s x t' u' hop
          injection h with h
          injection h with h1 h
          injection h with h2 h
          injection h with h3 h
          injection h with h4 h5
          subst h2 h3
          refine ⟨o,ho,h1,hok,hw,fun w w' v hrun=>?_⟩
          simp only [execOp,hop,resolve,invoke,builtin,Sem.run_bind,Sem.run_pure,Result.andThen_ok,List.map_toArray,List.map_cons,List.map_nil,h4,h5,hrun]
        · simp at h
      · simp at h
theorem j6.cg6 {dd:Tmp} {α:Type} {kd:Kd α} {t tn e bytes q:Nat} {A:Option Addr} {a:Addr} {zq:Int} {c n:Nat} {xs:List α}
    (h:bP3 F.P F.N (s9 F.c p) i L=some (some dd,t,tn,.slice A n c,.int .i64 zq)) (hA0:A=some a) (hzq:zq=(q:Int)) (htn:F.P.underlying tn=some (.int .i64)) (hn:n=xs.length) (he:au3 F.P t e kd.sz bytes=true)
    (hA:∀ w,Heap H w0 w cs→Rdb kd H w (some a) xs) (hq:0<q) (hroom:c<n+q) (hle:(n+q)*bytes≤140737490452480) (aN5:n+q≤9223372036854775807) :
    j6 F p i w0 L H cs (fun L' H' cs'=>∃ g c' cells,L'=(dd,.slice (some ⟨g,0,none⟩) (n+q) c')::L∧H=H'∧cs'=some (g,.cells cells e (0,0))::cs∧n+q≤c'∧c'≤maxLen∧0+c'*kd.sz≤cells.size∧Kd.q9 kd H cells 0 xs):=by
  intro w hh
  subst hn hA0 hzq
  obtain ⟨hu,inf,z,P2,hz,g2,g3,g4,g5,g6⟩:=bB4 he
  obtain ⟨op,ho,hd,hok,hw,hrun⟩:=cJ7 h
  obtain ⟨a',olds,e1,o1,o2,bA1,cJ8⟩:=(hA w hh).list (by simp)
  injection e1 with e1
  subst e1
  have bN5:xs.length+q≤maxLen:=by unfold maxLen; exact aN5
  have hge:=grownCap_ge w (xs.length+q) c e
  have hcm:=grownCap_le_maxLen w (xs.length+q) c e bN5
  have hqb:q*bytes≤(xs.length+q)*bytes:=Nat.mul_le_mul_right _ (by omega)
  have hf:=run_firstCells_some (P:=F.P) w.drew inf.size xs.length a xs.length c olds (by rw [o1,g2]) (by simpa using o2)
  have hr:=Lib.run_append_grow_zeros (P:=F.P) w t tn op.type e inf z .i64 .i64 hu htn P2 hz (some a) xs.length c olds hf q hq (by omega) hroom (by omega) (by rw [g3]; omega) (cc3 (by omega) (by rw [g3]; exact hle) (by rw [g3]; exact g6))
  refine ⟨op,ho,hok,hw,.inl ⟨_,_,hrun w _ _ hr,H,_,Le.refl H,hh.push (Ext.cd6 w _) rfl (heap_alloc_new w.drew _),w.heap.size,_,_,by rw [hd]; rfl,rfl,rfl,hge,hcm,?_,?_⟩⟩
  · simp only [Array.size_append,List.size_toArray,size_zeroCells,g4,o1,← Nat.add_mul]
    rw [show xs.length+q+(grownCap w (xs.length+q) c e - (xs.length+q))=grownCap w (xs.length+q) c e by omega]
    omega
  · refine q9.bM5 (l:=olds) ?_ cJ8
    rw [← o1]
    simp only [Array.toList_append,List.append_assoc]
    exact List.take_left.symm
end
theorem j6.cJ9 {F:Ctx} {H:Hp} {w0:World} {L:w7} {cs:List Ch} {p:List Nat} {i:Nat} {dd k:Nat} {α:Type} {kd:Kd α} {t e bytes:Nat} {B:Option Addr} {b off c cB n m:Nat} {cells:Array Value} {xs ys:List α}
    (h:bf6 F.P F.N (s9 F.c p) i L=some (some dd,t,.slice (some ⟨b,off,none⟩) n c,.slice B m cB)) (hn:n=xs.length) (hm:m=ys.length) (he:au3 F.P t e kd.sz bytes=true) (hk:cs[k]? = some (some (b,.cells cells e (0,0)))) (hfit:off+c*kd.sz≤cells.size)
    (hx:Kd.q9 kd H cells off xs) (hB0:ys=[]→B≠none) (hB:∀ w,Heap H w0 w cs→Rdb kd H w B ys) (hroom:n+m≤c) :
    j6 F p i w0 L H cs (fun L' H' cs'=>∃ news,L'=(dd,.slice (some ⟨b,off,none⟩) (xs++ys).length c)::L∧H=H'∧cs'=cs.set k (some (b,.cells (F4 cells (off+xs.length*kd.sz) news) e (0,0)))∧news.length=ys.length*kd.sz∧Kd.q9 kd H (F4 cells (off+xs.length*kd.sz) news) off (xs++ys)):=by
  intro w hh
  subst hn hm
  obtain ⟨hu,inf,z,P2,hz,g2,g3,g4,g5,g6⟩:=bB4 he
  obtain ⟨op,ho,hd,hok,hw,hrun⟩:=cd7 h
  have hBn:B≠none:=by
    by_cases hy:ys=[]
    · exact hB0 hy
    · obtain ⟨_,_,_,_,_,h,_⟩:=hB w hh hy
      rw [h]
      simp
  obtain ⟨ad,news,rfl,hl,hnews,hone,aU9⟩:=(hB w hh).list hBn
  have hf:=run_firstCells_some (P:=F.P) w inf.size ys.length ad ys.length cB news (by rw [hl,g2]) hnews
  have hb:=hh.N1 k hk
  have hmul:(xs.length+ys.length)*kd.sz≤c*kd.sz:=Nat.mul_le_mul_right _ hroom
  rw [Nat.add_mul] at hmul
  obtain ⟨w',hst,hz0,hU⟩:=aZ6 (P:=F.P) (g:=b) (off:=off+xs.length*kd.sz) news 0 hone hb (by omega)
  have hU':Upd w w' b (.cells (F4 cells (off+xs.length*kd.sz) news) e (0,0)):=by
    by_cases hnil:news=[]
    · subst hnil
      rw [hz0 rfl]
      exact ⟨rfl,rfl,rfl,rfl,hb,fun _ _=>rfl⟩
    · simpa using hU hnil
  have hr:(Builtin.append_ #[t,t] op.type #[.slice (some ⟨b,off,none⟩) xs.length c,.slice (some ad) ys.length cB]).run F.P w=.ok (.slice (some ⟨b,off,none⟩) (xs++ys).length c) w':=by
    simp only [List.length_append]
    rw [g2] at hf
    simp [Builtin.append_,run_underlying hu,sizeOf,typeInfo,P2,Builtin.lenOf,hroom,g2,hf,add_plain,hst]
  exact ⟨op,ho,hok,hw,.inl ⟨_,w',hrun w w' _ hr,H,_,Le.refl H,hh.upd hk hU',news,by rw [hd]; rfl,rfl,rfl,hl,q9.F4 hx aU9 (by omega)⟩⟩
def bP4 (P:Program) (N:Nat) (ops:Array Oper) (i:Nat) (L:w7):Option (Option Tmp × FuncId × Array Value) :=
  match ops[i]? with
  | none=>none
  | some o =>
    match ag2 N L o with
    | false=>none
    | true =>
      match ac9 ops L o.guard with
      | some true =>
        match o.op with
        | .call { callee:=.value (.func g),args:=as,argTypes:=_ }=>some (o.dst,g,as.map (E0 L))
        | _=>none
      | _=>none
theorem cK2 {P:Program} {N:Nat} {ops:Array Oper} {i:Nat} {L:w7} {d:Option Tmp} {g:FuncId} {args:Array Value} (h:bP4 P N ops i L=some (d,g,args)) :
    ∃ o,ops[i]? = some o∧o.dst=d∧ag2 N L o=true∧ac9 ops L o.guard=some true∧∀ (w:World),(execOp (E0 L) o).run P w=(callFunc g args).run P w:=by
  unfold bP4 at h
  split at h
  · simp at h
  · rename_i o ho
    split at h
    · simp at h
    · rename_i hok
      split at h
      · rename_i hw
        split at h
        · rename_i g' as tys hop
          injection h with h
          injection h with h1 h
          injection h with h2 h3
          subst h2 h3
          refine ⟨o,ho,h1,hok,hw,fun w=>?_⟩
          simp only [execOp,hop,resolve,E0,Deferred.ofValue,Sem.run_bind,Sem.run_pure,Result.andThen_ok,invoke]
          congr 2
          exact Array.empty_append
        · simp at h
      · simp at h
section
variable {F:Ctx} {H:Hp} {w0:World} {L:w7} {cs:List Ch} {p:List Nat} {i:Nat}
theorem j6.ext {d:Nat} {g:FuncId} {args:Array Value} {v:Value} (h:bP4 F.P F.N (s9 F.c p) i L=some (some d,g,args)) (hr:∀ w,Heap H w0 w cs→(callFunc g args).run F.P w=.ok (.value v) w) :
    j6 F p i w0 L H cs (fun L' H' cs'=>L'=(d,v)::L∧H=H'∧cs=cs'):=by
  intro w hh
  obtain ⟨o,ho,hd,hok,hw,hrun⟩:=cK2 h
  exact ⟨o,ho,hok,hw,.inl ⟨v,w,by rw [hrun]; exact hr w hh,H,cs,Le.refl H,hh,by rw [hd]; rfl,rfl,rfl⟩⟩
end
theorem cg8 {P : Program} {w : World} {g tS e sz : Nat} {fn : Func} {b1 o1 l1 c1 b2 o2 l2 c2 : Nat} {x1 x2 : Array Value} {e1 e2 : TypeId} (hf : P.funcs[g]? = some fn) (hname : (fn.name == "runtime.NumGoroutine") = false) (hb : fn.body.isNone = true) (hnx : Extern.findNext fn = none)
    (hE:Extern.find fn=some (Extern.SlicesOverlaps.overlaps #[tS,tS] #[e])) {el bytes:Nat} (he:au3 P tS el sz bytes=true) (h1:w.heap[b1]? = some (.cells x1 e1 (0,0))) (h2:w.heap[b2]? = some (.cells x2 e2 (0,0))) (hne:b1≠b2) (h0:0<x2.size) :
    (callFunc g #[.slice (some ⟨b1,o1,none⟩) l1 c1,.slice (some ⟨b2,o2,none⟩) l2 c2]).run P w=.ok (.value (.bool false)) w:=by
  obtain ⟨hu,inf,z,P2,hz,g2,g3,g4,g5,g6⟩:=bB4 he
  rw [run_callFunc_extern hf hname hb hnx hE,Lib.run_overlaps_apart w tS e el hu inf.size (fun w=>run_sizeOf P2) ⟨b1,o1,none⟩ ⟨b2,o2,none⟩ l1 c1 l2 c2 hne e1 e2 x1.size x2.size (by simp [World.shape?,h1]) (by simp [World.shape?,h2]) (by omega) (by simp [World.frozen?,h1]) (by simp [World.frozen?,h1])]
  rfl
end Go.Proofs.YtiecpfnjmlidbaaGreatDoor.Kit
