/- TrialsTextsMatchSpec over plain data: the text of runs, on both sides alike, is read as them. -/
import Derived.Test.YtamacaieccppaaaGreatDoorPWr
import Derived.Test.YtamacaieccppaaaGreatDoorPSame
import Derived.Test.YtamacaieccppaaaGreatDoorPureSTrialsTextsMatchSpec
import Derived.KernelRfl
set_option linter.unusedVariables false
set_option linter.unusedSimpArgs false
namespace Go.Proofs.YtamacaieccppaaaGreatDoor
open Go Go.Proofs.YtamacaieccppaaaGreatDoor.Kit
theorem awake_eq:smithyardlaw10_awake.f=some true:=by kernel_rfl
theorem TrialsTextsMatchSpec_pure:TrialsTextsMatchSpec_Pure:=by
  intro l ⟨hl,hll⟩
  have hs:∀ x∈l,x.Test.size≤67108864:=fun x hx=>by
    have:=(hll x hx).1
    omega
  have hn:l.length≤4611686018427387904:=by omega
  unfold smithyardlaw10_TrialsTextsMatchSpec.f
  rw [slices_Clone_TestRun_id (by omega)]
  simp only [Option.bind_some]
  obtain ⟨s,f,hf,hz⟩:=textR_some l
  rw [text_prog hn,text_ref hn hs,hf]
  simp only [Option.bind_some,bne_self_eq_false,cond_false,sEq_self,Bool.not_true]
  rw [slices_Equal_TestRun_self hn,awake_eq]
  simp only [Option.bind_some,Bool.not_true,cond_false]
  by_cases h0:f=0
  · subst h0
    obtain ⟨h1,rfl⟩:=hz rfl
    rw [read_text h1]
    simp only [bne_self_eq_false,cond_false,Option.bind_some,BEq.rfl,cond_true]
    rw [slices_Equal_TestRun_self hn]
    rfl
  · have:(f != 0)=true:=by simpa using h0
    rw [this]
    rfl
end Go.Proofs.YtamacaieccppaaaGreatDoor
