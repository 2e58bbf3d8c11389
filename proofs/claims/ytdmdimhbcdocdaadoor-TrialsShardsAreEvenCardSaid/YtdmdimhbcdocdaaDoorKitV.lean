/- Words of our own: the builtin copy into a block of the call's own; an append that surely needs a new block; calls of what has no body. -/
import Derived.Test.YtdmdimhbcdocdaaDoorKitU
import Derived.Lib.Overlaps
import Derived.Lib.AppendZerosOnto
import Derived.Laws.Externs
set_option linter.unusedSimpArgs false
set_option linter.unusedVariables false
set_option linter.unnecessarySimpa false
namespace Go.Proofs.YtdmdimhbcdocdaaDoor.Kit
open Go Go.RowKit
section
variable {α:Type} {d:Kd α} {H:Hp} {cells:Array Value} {off o:Nat} {xs ys:List α} {news:List Value}
end
section
variable {F:Ctx} {H:Hp} {w0:World} {L:Slots} {cs:List Ch} {p:List Nat} {i:Nat}
end
def exAt (P:Program) (N:Nat) (ops:Array Oper) (i:Nat) (L:Slots):Option (Option Tmp × FuncId × Array Value) :=
  match ops[i]? with
  | none=>none
  | some o =>
    match okOp N L o with
    | false=>none
    | true =>
      match wantL ops L o.guard with
      | some true =>
        match o.op with
        | .call { callee:=.value (.func g),args:=as,argTypes:=_ }=>some (o.dst,g,as.map (evL L))
        | _=>none
      | _=>none
theorem exAt_spec {P:Program} {N:Nat} {ops:Array Oper} {i:Nat} {L:Slots} {d:Option Tmp} {g:FuncId} {args:Array Value} (h:exAt P N ops i L=some (d,g,args)) :
    ∃ o,ops[i]? = some o∧o.dst=d∧okOp N L o=true∧wantL ops L o.guard=some true∧∀ (w:World),(execOp (evL L) o).run P w=(callFunc g args).run P w:=by
  unfold exAt at h
  split at h
  · simp at h
  · rename_i o ho
    split at h
    · simp at h
    · rename_i hok
      split at h
      · rename_i hw
        split at h
        · rename_i g' as tys hop
          injection h with h
          injection h with h1 h
          injection h with h2 h3
          subst h2 h3
          refine ⟨o,ho,h1,hok,hw,fun w=>?_⟩
          simp only [execOp,hop,resolve,evL,Deferred.ofValue,Sem.run_bind,Sem.run_pure,Result.andThen_ok,invoke]
          congr 2
          exact Array.empty_append
        · simp at h
      · simp at h
section
variable {F:Ctx} {H:Hp} {w0:World} {L:Slots} {cs:List Ch} {p:List Nat} {i:Nat}
theorem DoesH.ext {d:Nat} {g:FuncId} {args:Array Value} {v:Value} (h:exAt F.P F.N (opsAt F.c p) i L=some (some d,g,args)) (hr:∀ w,Heap H w0 w cs→(callFunc g args).run F.P w=.ok (.value v) w) :
    DoesH F p i w0 L H cs (fun L' H' cs'=>L'=(d,v)::L∧H=H'∧cs=cs'):=by
  intro w hh
  obtain ⟨o,ho,hd,hok,hw,hrun⟩:=exAt_spec h
  exact ⟨o,ho,hok,hw,.inl ⟨v,w,by rw [hrun]; exact hr w hh,H,cs,Le.refl H,hh,by rw [hd]; rfl,rfl,rfl⟩⟩
end
end Go.Proofs.YtdmdimhbcdocdaaDoor.Kit
