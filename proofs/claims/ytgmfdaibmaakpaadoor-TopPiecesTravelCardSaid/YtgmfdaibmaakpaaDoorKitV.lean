/- Words of our own: the builtin copy into a block of the call's own; an append that surely needs a new block; calls of what has no body. -/
import Derived.Test.YtgmfdaibmaakpaaDoorKitU
import Derived.Lib.Overlaps
import Derived.Lib.AppendZerosOnto
import Derived.Laws.Externs
set_option linter.unusedSimpArgs false
set_option linter.unusedVariables false
set_option linter.unnecessarySimpa false
namespace Go.Proofs.YtgmfdaibmaakpaaDoor.Kit
open Go Go.RowKit
section
variable {α:Type} {d:Kd α} {H:Hp} {cells:Array Value} {off o:Nat} {xs ys:List α} {news:List Value}
end
theorem elemOk_spec {P:Program} {t e size bytes:Nat} (he:elemOk P t e size bytes=true):P.underlying t=some (.slice e)∧∃ inf z,P.info? e=some inf∧inf.zero=some z∧inf.size=size∧inf.bytes=bytes∧z.cells.size=size∧0<size∧bytes≤1048576:=by
  unfold elemOk at he
  split at he
  · rename_i e' hu
    split at he
    · rename_i inf hinf
      split at he
      · rename_i z hz
        simp only [Bool.and_eq_true] at he
        obtain ⟨⟨⟨⟨g1,g2⟩,g3⟩,g4⟩,g5⟩:=he
        obtain ⟨g5,g6⟩:=g5
        have g1:=Nat.eq_of_beq_eq_true g1
        have g2:=Nat.eq_of_beq_eq_true g2
        have g3:=Nat.eq_of_beq_eq_true g3
        have g4:=Nat.eq_of_beq_eq_true g4
        simp only [Nat.blt_eq] at g5
        subst g1
        exact ⟨hu,inf,z,hinf,hz,g2,g3,g4,g5,Nat.le_of_ble_eq_true g6⟩
      · simp at he
    · simp at he
  · simp at he
section
variable {F:Ctx} {H:Hp} {w0:World} {L:Slots} {cs:List Ch} {p:List Nat} {i:Nat}
def apzAt (P:Program) (N:Nat) (ops:Array Oper) (i:Nat) (L:Slots):Option (Option Tmp × TypeId × TypeId × Value × Value) :=
  match ops[i]? with
  | none=>none
  | some o =>
    match okOp N L o with
    | false=>none
    | true =>
      match wantL ops L o.guard with
      | some true =>
        match o.op with
        | .call { callee:=.builtin .append,args:=⟨[s,x]⟩,argTypes:=⟨[t,u]⟩ }=>some (o.dst,t,u,evL L s,evL L x)
        | _=>none
      | _=>none
theorem apzAt_spec {P:Program} {N:Nat} {ops:Array Oper} {i:Nat} {L:Slots} {d:Option Tmp} {t u:TypeId} {a b:Value} (h:apzAt P N ops i L=some (d,t,u,a,b)) :
    ∃ o,ops[i]? = some o∧o.dst=d∧okOp N L o=true∧wantL ops L o.guard=some true∧∀ (w w':World) (v:Value),(Builtin.append_ #[t,u] o.type #[a,b]).run P w=.ok v w'→(execOp (evL L) o).run P w=.ok (.value v) w':=by
  unfold apzAt at h
  split at h
  · simp at h
  · rename_i o ho
    split at h
    · simp at h
    · rename_i hok
      split at h
      · rename_i hw
        split at h
        · rename_i s x t' u' hop
          injection h with h
          injection h with h1 h
          injection h with h2 h
          injection h with h3 h
          injection h with h4 h5
          subst h2 h3
          refine ⟨o,ho,h1,hok,hw,fun w w' v hrun=>?_⟩
          simp only [execOp,hop,resolve,invoke,builtin,Sem.run_bind,Sem.run_pure,Result.andThen_ok,List.map_toArray,List.map_cons,List.map_nil,h4,h5,hrun]
        · simp at h
      · simp at h
theorem DoesH.appendZeros0 {dd:Tmp} {α:Type} {kd:Kd α} {t tn e bytes q:Nat} {zq:Int}
    (h:apzAt F.P F.N (opsAt F.c p) i L=some (some dd,t,tn,.slice none 0 0,.int .i64 zq)) (hzq:zq=(q:Int)) (htn:F.P.underlying tn=some (.int .i64)) (he:elemOk F.P t e kd.sz bytes=true)
    (hq:0<q) (hle:q*bytes≤140737490452480) (hle2:q≤9223372036854775807) :
    DoesH F p i w0 L H cs (fun L' H' cs'=>∃ g c' cells,L'=(dd,.slice (some ⟨g,0,none⟩) q c')::L∧H=H'∧cs'=some (g,.cells cells e (0,0))::cs∧SlOwn kd e H (some ⟨g,0,none⟩) c' [] (some (g,.cells cells e (0,0)))):=by
  intro w hh
  subst hzq
  obtain ⟨hu,inf,z,hinf,hz,g2,g3,g4,g5,g6⟩:=elemOk_spec he
  obtain ⟨op,ho,hd,hok,hw,hrun⟩:=apzAt_spec h
  have hneed:0+q≤maxLen:=by unfold maxLen; omega
  have hcm:=grownCap_le_maxLen w (0+q) 0 e hneed
  have hge:=grownCap_ge w (0+q) 0 e
  have hf:(Builtin.firstCells inf.size 0 (.slice none 0 0)).run F.P w.drew=.ok (([]:List Value)).toArray w.drew:=by simp [Builtin.firstCells]
  have hr:=Lib.run_append_grow_zeros (P:=F.P) w t tn op.type e inf z .i64 .i64 hu htn hinf hz none 0 0 [] hf q hq (by omega) (by omega) (by omega) (by rw [g3]; omega) (fits_lim (by omega) (by rw [g3,Nat.zero_add]; exact hle) (by rw [g3]; exact g6))
  refine ⟨op,ho,hok,hw,.inl ⟨_,_,hrun w _ _ hr,H,_,Le.refl H,hh.push (Ext.drewAlloc w _) rfl (heap_alloc_new w.drew _),w.heap.size,_,_,by rw [hd]; simp only [Nat.zero_add]; rfl,rfl,rfl,.inr ⟨w.heap.size,0,_,rfl,rfl,Nat.zero_le _,hcm,?_,Kd.Rep.nil⟩⟩⟩
  simp only [Array.size_append,List.size_toArray,size_zeroCells,g4,List.length_nil,Nat.zero_add,← Nat.add_mul]
  rw [show q+(grownCap w q 0 e - q)=grownCap w q 0 e by simp only [Nat.zero_add] at hge; omega]
  omega
end
def exAt (P:Program) (N:Nat) (ops:Array Oper) (i:Nat) (L:Slots):Option (Option Tmp × FuncId × Array Value) :=
  match ops[i]? with
  | none=>none
  | some o =>
    match okOp N L o with
    | false=>none
    | true =>
      match wantL ops L o.guard with
      | some true =>
        match o.op with
        | .call { callee:=.value (.func g),args:=as,argTypes:=_ }=>some (o.dst,g,as.map (evL L))
        | _=>none
      | _=>none
theorem exAt_spec {P:Program} {N:Nat} {ops:Array Oper} {i:Nat} {L:Slots} {d:Option Tmp} {g:FuncId} {args:Array Value} (h:exAt P N ops i L=some (d,g,args)) :
    ∃ o,ops[i]? = some o∧o.dst=d∧okOp N L o=true∧wantL ops L o.guard=some true∧∀ (w:World),(execOp (evL L) o).run P w=(callFunc g args).run P w:=by
  unfold exAt at h
  split at h
  · simp at h
  · rename_i o ho
    split at h
    · simp at h
    · rename_i hok
      split at h
      · rename_i hw
        split at h
        · rename_i g' as tys hop
          injection h with h
          injection h with h1 h
          injection h with h2 h3
          subst h2 h3
          refine ⟨o,ho,h1,hok,hw,fun w=>?_⟩
          simp only [execOp,hop,resolve,evL,Deferred.ofValue,Sem.run_bind,Sem.run_pure,Result.andThen_ok,invoke]
          congr 2
          exact Array.empty_append
        · simp at h
      · simp at h
section
variable {F:Ctx} {H:Hp} {w0:World} {L:Slots} {cs:List Ch} {p:List Nat} {i:Nat}
theorem DoesH.ext {d:Nat} {g:FuncId} {args:Array Value} {v:Value} (h:exAt F.P F.N (opsAt F.c p) i L=some (some d,g,args)) (hr:∀ w,Heap H w0 w cs→(callFunc g args).run F.P w=.ok (.value v) w) :
    DoesH F p i w0 L H cs (fun L' H' cs'=>L'=(d,v)::L∧H=H'∧cs=cs'):=by
  intro w hh
  obtain ⟨o,ho,hd,hok,hw,hrun⟩:=exAt_spec h
  exact ⟨o,ho,hok,hw,.inl ⟨v,w,by rw [hrun]; exact hr w hh,H,cs,Le.refl H,hh,by rw [hd]; rfl,rfl,rfl⟩⟩
end
end Go.Proofs.YtgmfdaibmaakpaaDoor.Kit
