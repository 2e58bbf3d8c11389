/- TrialsVerdictsGrow over plain data: a further run turns what is known of a test only as it ended. -/
import Derived.Test.YtgbocahcapinhaaDoorPVd
import Derived.Test.YtgbocahcapinhaaDoorPSame
import Derived.Test.YtgbocahcapinhaaDoorPureSTrialsVerdictsGrow
import Derived.KernelRfl
set_option linter.unusedVariables false
set_option linter.unusedSimpArgs false
namespace Go.Proofs.YtgbocahcapinhaaDoor
open Go Go.Proofs.YtgbocahcapinhaaDoor.Kit
theorem awake_eq:smithyardlaw10_awake.f=some true:=by kernel_rfl
def lastP {α:Type}:Option α→List α→Option α
  | p,[]=>p
  | _,x::l=>lastP (some x) l
theorem rangeP_append {α β:Type} {B:Option α→α→Option β→Option β} {e:Option β} (x:α):∀ (l:List α) (p:Option α),rangeP B e p (l++[x])=rangeP B (B (lastP p l) x e) p l
  | [],p=>rfl
  | y::l,p=>by
    have:=rangeP_append (B:=B) (e:=e) x l (some y)
    show B p y (rangeP B e (some y) (l++[x]))=B p y _
    rw [this]
    rfl
theorem lastP_eq {α:Type}:∀ (l:List α) (p:Option α),lastP p l=(match l.getLast? with | some x=>some x | none=>p)
  | [],p=>rfl
  | x::l,p=>by
    have:=lastP_eq l (some x)
    show lastP (some x) l=_
    rw [this]
    cases l with
    | nil=>rfl
    | cons y l=>simp [List.getLast?_cons]
theorem his_each {l:List TestRun} (h:hisS l=some 0):∀ x∈l,(inR 0 1000000000 x.At&&inR 0 100000 x.Seconds)=true:=by
  have hs:=his_short h
  unfold hisS at h
  rw [decide_eq_false (by omega)] at h
  exact (each_of (P:=fun x=>(inR 0 1000000000 x.At&&inR 0 100000 x.Seconds)=true) (B:=hisB) (fun p x k hk=>by
    unfold hisB at hk
    cases h1:isPathB x.Test
    · rw [h1] at hk; cases hk
    cases h2:digB x.Key
    · rw [h1,h2] at hk; cases hk
    cases h3:(inR 0 1000000000 x.At&&inR 0 100000 x.Seconds)
    · rw [h1,h2,h3] at hk; cases hk
    cases h4:prevB (fun y=>decide (x.At<y.At)) p
    · rw [h1,h2,h3,h4] at hk
      exact ⟨hk,rfl⟩
    · rw [h1,h2,h3,h4] at hk; cases hk) l none h).2
theorem his_more {l:List TestRun} (h:hisS l=some 0) {x:TestRun} (hp:isPathB x.Test=true) (hd:digB x.Key=true) (h1:(inR 0 1000000000 x.At&&inR 0 100000 x.Seconds)=true)
    (h2:prevB (fun y=>decide (x.At<y.At)) l.getLast? = false):hisS (l++[x])=some 0∨hisS (l++[x])=some 2:=by
  have hs:=his_short h
  unfold hisS at h ⊢
  rw [decide_eq_false (by omega)] at h
  cases decide (3000<((l++[x]).length:Int))
  · left
    simp only [cond_false] at h ⊢
    have e:lastP none l=l.getLast? := by
      rw [lastP_eq]
      cases l.getLast? <;> rfl
    rw [rangeP_append,e]
    have:hisB l.getLast? x (some 0)=some 0:=by
      unfold hisB
      rw [hp,hd,h1,h2]
      rfl
    rw [this]
    exact h
  · right
    rfl
theorem at_last {l:List TestRun} (h:0<l.length) (h2:l.length≤4611686018427387904):∃ x,at? l (w64 ((l.length:Int) - 1))=some x∧l.getLast? = some x∧x∈l:=by
  rw [w64_id (by omega) (by omega)]
  have hn:l.length - 1<l.length:=by omega
  refine ⟨l[l.length - 1],?_,?_,List.getElem_mem hn⟩
  · unfold at?
    rw [if_pos (by omega),show ((l.length:Int) - 1).toNat=l.length - 1 by omega]
    exact List.getElem?_eq_getElem hn
  · rw [List.getLast?_eq_getElem?]
    exact List.getElem?_eq_getElem hn
theorem tail_true {l:List TestRun} {test key:ByteArray} {pass:Bool} {at_:Int} (hl:l.length*56≤140737488351232) (ha:askS l test key=some 0) (h1:inR 0 1000000000 at_=true) (h2:prevB (fun y=>decide (at_<y.At)) l.getLast? = false) :
    smithyardlaw10_TrialsVerdictsGrow.j1 l test key pass (verB (goodB l test key) (badB l test key),0) at_=some true:=by
  obtain ⟨hh,hp,hd⟩:=ask_zero ha
  unfold smithyardlaw10_TrialsVerdictsGrow.j1
  rw [slices_Clone_TestRun_id (by omega)]
  simp only [Option.bind_some]
  rw [guard?_true (room_of (by omega)),verdict_prog (by simp; omega)]
  have hm:=his_more hh (x:=⟨test,key,at_,pass,0⟩) hp hd (by rw [h1]; rfl) h2
  unfold verS askS
  rcases hm with hm | hm
  · rw [hm]
    simp only [Option.bind_some,bne_self_eq_false,cond_false,hp,hd,Bool.not_true]
    have hg:goodB (l++[⟨test,key,at_,pass,0⟩]) test key=(goodB l test key||pass):=by
      unfold goodB
      rw [List.any_append]
      congr 1
      cases pass <;> simp [cntB,idOf]
    have hb:badB (l++[⟨test,key,at_,pass,0⟩]) test key=(badB l test key||!pass):=by
      unfold badB
      rw [List.any_append]
      congr 1
      cases pass <;> simp [cntB,idOf]
    rw [hg,hb]
    unfold smithyardlaw10_TrialsVerdictsGrow.j2 smithyardlaw10_TrialsVerdictsGrow.j3
    rw [awake_eq]
    cases goodB l test key <;> cases badB l test key <;> cases pass <;> rfl
  · rw [hm]
    simp only [Option.bind_some]
    rw [awake_eq]
    rfl
theorem TrialsVerdictsGrow_pure:TrialsVerdictsGrow_Pure:=by
  intro l test key pass ⟨hl,hll⟩ ht hk
  simp only [reachBytes] at hl
  have hn:l.length≤4611686018427387904:=by omega
  unfold smithyardlaw10_TrialsVerdictsGrow.f
  rw [verdict_prog hn]
  obtain ⟨r,hr⟩:=ask_some l test key
  have e:verS l test key=bif r != 0 then some (0,r) else some (verB (goodB l test key) (badB l test key),0):=by
    unfold verS
    rw [hr]
    rfl
  rw [e]
  by_cases h0:r=0
  · subst h0
    simp only [bne_self_eq_false,cond_false,Option.bind_some]
    have hh:=(ask_zero hr).1
    by_cases h1:0<l.length
    · obtain ⟨x,hx,hlast,hm⟩:=at_last h1 hn
      rw [decide_eq_true (by omega),hx]
      simp only [cond_true,Option.bind_some]
      refine tail_true (by omega) hr ?_ ?_
      · have:=his_each hh x hm
        simp only [Bool.and_eq_true] at this
        exact this.1
      · rw [hlast]
        simp [prevB]
    · rw [decide_eq_false (by omega)]
      simp only [cond_false]
      have:l=[]:=List.eq_nil_of_length_eq_zero (by omega)
      subst this
      exact tail_true (by simp) hr rfl rfl
  · have:(r != 0)=true:=by simpa using h0
    rw [this]
    simp only [cond_true,Option.bind_some,this]
    rw [awake_eq]
    rfl
end Go.Proofs.YtgbocahcapinhaaDoor
