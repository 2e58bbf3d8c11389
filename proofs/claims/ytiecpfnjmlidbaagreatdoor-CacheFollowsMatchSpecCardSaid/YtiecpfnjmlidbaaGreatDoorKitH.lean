/- Words of our own: results that lie in memory; a variable that is filled some steps behind its making. -/
import Derived.Test.YtiecpfnjmlidbaaGreatDoorKitG
set_option linter.unusedSimpArgs false
set_option linter.unusedVariables false
set_option linter.unnecessarySimpa false
namespace Go.Proofs.YtiecpfnjmlidbaaGreatDoor.Kit
open Go Go.RowKit

/-! ### 23. Results in memory -/
def bn6 (tmps:Array Value):ResultVar→Sem Value
  | .tmp t=>pure (tmps.getD t undef)
  | .cell a t=>do loadVar t (← asAddr (tmps.getD a undef))
def cc5 (P:Program) (w:World) (L:w7):ResultVar→Value→Prop
  | .tmp t,v=>lk L t=some v
  | .cell a t,v=>∃ ad,lk L a=some (.pointer (some ad))∧(loadVar t ad).run P w=.ok v w
def G2 (P:Program) (w:World) (L:w7):List ResultVar→List Value→Prop
  | [],[]=>True
  | r::rs,v::vs=>cc5 P w L r v∧G2 P w L rs vs
  | _,_=>False
theorem cF7 {P:Program} {N:Nat} {a:Act} {L:w7} {w:World} (hf:Fr N a L) {r:ResultVar} {v:Value} (h:cc5 P w L r v):(bn6 a.tmps r).run P w=.ok v w:=by
  have key:∀ t u,lk L t=some u→a.tmps[t]?.getD undef=u:=fun t u hu=>by rw [hf.has t u hu]; rfl
  cases r with
  | tmp t =>
    have:=key _ _ h
    simp [bn6,this]
  | cell x t =>
    obtain ⟨ad,h1,h2⟩:=h
    have:=key _ _ h1
    simp [bn6,this,asAddr,h2]
theorem cc6 {P:Program} {N:Nat} {a:Act} {L:w7} {w:World} (hf:Fr N a L):∀ {rs:List ResultVar} {vs:List Value},G2 P w L rs vs→(rs.mapM (bn6 a.tmps)).run P w=.ok vs w
  | [],[],_=>by simp
  | r::rs,v::vs,h=>by
    have h1:=cF7 hf h.1
    have h2:=cc6 hf h.2
    simp [List.mapM_cons,h1,h2]
  | [],_::_,h=>by cases h
  | _::_,[],h=>by cases h
def bn7:List Value→Value
  | [v]=>v
  | vs=>.tuple vs.toArray
theorem cF8 {P:Program} {N:Nat} {fn:Func} {a:Act} {L:w7} {w:World} {vs:List Value} (hf:Fr N a L) (h:G2 P w L fn.results.toList vs):(results fn a.tmps).run P w=.ok (bn7 vs) w:=by
  have hm:=cc6 hf h
  have e:results fn a.tmps=(do let vs ← fn.results.mapM (bn6 a.tmps); pure (if h:vs.size=1 then vs[0] else .tuple vs)):=rfl
  rw [e]
  generalize hr:fn.results=rs at hm
  obtain ⟨l⟩:=rs
  rw [List.mapM_toArray]
  simp only at hm
  simp only [Sem.run_bind,Sem.run_map,hm,Result.andThen_ok,Sem.run_pure]
  match vs with
  | []=>rfl
  | [v]=>rfl
  | v::u::vs=>simp [bn7]
section
variable {F:Ctx} {R:Ending→World→Prop} {es es':List En} {L L':w7} {w:World} {p:List Nat} {i:Nat}
theorem U2.bM7 {S:Value→World→Prop} {fn:Func} {v:Value} {vs:List Value} (ht:aZ5 F.c es=true) (hf:F.P.funcs[F.f]? = some fn) (hr:G2 F.P w L fn.results.toList vs) (hv:v=bn7 vs) (hS:S v w):U2 F (Ret S) es L w :=
  U2.ret (ac4:=L) (by unfold aZ5 at ht; exact ht) hf (fun _ ha=>by rw [hv]; exact cF8 ha hr) hS
end
end Go.Proofs.YtiecpfnjmlidbaaGreatDoor.Kit
