/- Words of our own: results that lie in memory; a variable that is filled some steps behind its making. -/
import Derived.Test.YtedkdnhhohcocaaDoorKitG
set_option linter.unusedSimpArgs false
set_option linter.unusedVariables false
set_option linter.unnecessarySimpa false
namespace Go.Proofs.YtedkdnhhohcocaaDoor.Kit
open Go Go.RowKit

/-! ### 23. Results in memory -/
def resOf (tmps:Array Value):ResultVar→Sem Value
  | .tmp t=>pure (tmps.getD t undef)
  | .cell a t=>do loadVar t (← asAddr (tmps.getD a undef))
def ResAt (P:Program) (w:World) (L:Slots):ResultVar→Value→Prop
  | .tmp t,v=>lk L t=some v
  | .cell a t,v=>∃ ad,lk L a=some (.pointer (some ad))∧(loadVar t ad).run P w=.ok v w
def ResAll (P:Program) (w:World) (L:Slots):List ResultVar→List Value→Prop
  | [],[]=>True
  | r::rs,v::vs=>ResAt P w L r v∧ResAll P w L rs vs
  | _,_=>False
theorem resOf_run {P:Program} {N:Nat} {a:Act} {L:Slots} {w:World} (hf:Fr N a L) {r:ResultVar} {v:Value} (h:ResAt P w L r v):(resOf a.tmps r).run P w=.ok v w:=by
  have key:∀ t u,lk L t=some u→a.tmps[t]?.getD undef=u:=fun t u hu=>by rw [hf.has t u hu]; rfl
  cases r with
  | tmp t =>
    have:=key _ _ h
    simp [resOf,this]
  | cell x t =>
    obtain ⟨ad,h1,h2⟩:=h
    have:=key _ _ h1
    simp [resOf,this,asAddr,h2]
theorem resAll_run {P:Program} {N:Nat} {a:Act} {L:Slots} {w:World} (hf:Fr N a L):∀ {rs:List ResultVar} {vs:List Value},ResAll P w L rs vs→(rs.mapM (resOf a.tmps)).run P w=.ok vs w
  | [],[],_=>by simp
  | r::rs,v::vs,h=>by
    have h1:=resOf_run hf h.1
    have h2:=resAll_run hf h.2
    simp [List.mapM_cons,h1,h2]
  | [],_::_,h=>by cases h
  | _::_,[],h=>by cases h
def packR:List Value→Value
  | [v]=>v
  | vs=>.tuple vs.toArray
theorem results_run {P:Program} {N:Nat} {fn:Func} {a:Act} {L:Slots} {w:World} {vs:List Value} (hf:Fr N a L) (h:ResAll P w L fn.results.toList vs):(results fn a.tmps).run P w=.ok (packR vs) w:=by
  have hm:=resAll_run hf h
  have e:results fn a.tmps=(do let vs ← fn.results.mapM (resOf a.tmps); pure (if h:vs.size=1 then vs[0] else .tuple vs)):=rfl
  rw [e]
  generalize hr:fn.results=rs at hm
  obtain ⟨l⟩:=rs
  rw [List.mapM_toArray]
  simp only at hm
  simp only [Sem.run_bind,Sem.run_map,hm,Result.andThen_ok,Sem.run_pure]
  match vs with
  | []=>rfl
  | [v]=>rfl
  | v::u::vs=>simp [packR]
section
variable {F:Ctx} {R:Ending→World→Prop} {es es':List En} {L L':Slots} {w:World} {p:List Nat} {i:Nat}
theorem RunL.doneM {S:Value→World→Prop} {fn:Func} {v:Value} {vs:List Value} (ht:isEnd F.c es=true) (hf:F.P.funcs[F.f]? = some fn) (hr:ResAll F.P w L fn.results.toList vs) (hv:v=packR vs) (hS:S v w):RunL F (Ret S) es L w :=
  RunL.ret (L2:=L) (by unfold isEnd at ht; exact ht) hf (fun _ ha=>by rw [hv]; exact results_run ha hr) hS
end
end Go.Proofs.YtedkdnhhohcocaaDoor.Kit
