/- TrialsFlakyMatchesSpec over plain data: what is flaky and what fails, on both sides alike. -/
import Derived.Test.YtacmmbpamfefbaaDoorPFlkR
import Derived.Test.YtacmmbpamfefbaaDoorPSame
import Derived.Test.YtacmmbpamfefbaaDoorPureSTrialsFlakyMatchesSpec
import Derived.KernelRfl
set_option linter.unusedVariables false
set_option linter.unusedSimpArgs false
namespace Go.Proofs.YtacmmbpamfefbaaDoor
open Go Go.Proofs.YtacmmbpamfefbaaDoor.Kit
theorem awake_eq:smithyardlaw10_awake.f=some true:=by kernel_rfl
theorem flakyS_some (l:List TestRun):∃ r f,flakyS l=some (r,f)∧r.length≤l.length:=by
  obtain ⟨r,hr⟩:=hisS_some l
  unfold flakyS
  rw [hr]
  simp only [Option.bind_some]
  cases r != 0
  · exact ⟨_,_,rfl,flS_len l⟩
  · exact ⟨_,_,rfl,by simp⟩
theorem TrialsFlakyMatchesSpec_pure:TrialsFlakyMatchesSpec_Pure:=by
  intro l test ⟨hl,hll⟩ ht
  have hs:∀ x∈l,x.Test.size≤67108864:=fun x hx=>by
    have:=(hll x hx).1
    omega
  have ht:test.size≤67108864:=Nat.le_trans ht (by decide)
  have hn:l.length≤4611686018427387904:=by omega
  unfold smithyardlaw10_TrialsFlakyMatchesSpec.f
  rw [slices_Clone_TestRun_id (by omega)]
  simp only [Option.bind_some]
  obtain ⟨r,f,hf,hrl⟩:=flakyS_some l
  obtain ⟨z,hz⟩:=failS_some l test
  rw [flaky_prog hn (fun x hx=>by have:=hs x hx; omega),flaky_ref hn hs,failing_prog hn,failing_ref hn hs ht,hf,hz]
  simp only [Option.bind_some,BEq.rfl,bne_self_eq_false,cond_true,cond_false,Bool.and_true]
  rw [slices_Equal_string_self (by omega)]
  simp only [Option.bind_some,Bool.not_true,cond_false]
  rw [slices_Equal_TestRun_self hn,awake_eq]
  rfl
end Go.Proofs.YtacmmbpamfefbaaDoor
