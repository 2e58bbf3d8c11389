/- WorkersTextsMatchSpec over plain data: the text of runs, on both sides alike, is read as them. -/
import Derived.Test.YtdccapcfbielcaaGreatDoorPRw9
import Derived.Test.YtdccapcfbielcaaGreatDoorPSame
import Derived.Test.YtdccapcfbielcaaGreatDoorPureSWorkersTextsMatchSpec
import Derived.KernelRfl
set_option linter.unusedVariables false
set_option linter.unusedSimpArgs false
namespace Go.Proofs.YtdccapcfbielcaaGreatDoor
open Go Go.Proofs.YtdccapcfbielcaaGreatDoor.Kit
theorem WorkersTextsMatchSpec_pure:WorkersTextsMatchSpec_Pure:=by
  intro l ⟨hl,hll⟩
  simp only [reachBytes] at hl
  have hs:smallRuns l:=⟨by omega,fun x hx=>by
    obtain ⟨k1,k2,-⟩:=hll x hx
    simp only [reachBytes] at k1 k2
    omega⟩
  have hn:l.length≤4611686018427387904:=by omega
  unfold smithyardlaw9_WorkersTextsMatchSpec.f
  rw [slices_Clone_Run_id (by omega)]
  simp only [Option.bind_some]
  obtain ⟨s,f,hf,hz⟩:=textR_some l
  rw [text_prog hs,text_ref hs,hf]
  simp only [Option.bind_some,bne_self_eq_false,cond_false,sEq_self,Bool.not_true]
  rw [slices_Equal_Run_self hn,awake_true]
  simp only [Option.bind_some,Bool.not_true,cond_false]
  by_cases h0:f=0
  · subst h0
    obtain ⟨h1,rfl⟩:=hz rfl
    rw [read_text h1]
    simp only [bne_self_eq_false,cond_false,Option.bind_some,BEq.rfl,cond_true]
    rw [slices_Equal_Run_self hn]
    rfl
  · have:(f != 0)=true:=by simpa using h0
    rw [this]
    rfl
end Go.Proofs.YtdccapcfbielcaaGreatDoor
