/- TrialsVerdictsMatchSpec over plain data: histories are checked, verdicts and what must run are found, on both sides alike. -/
import Derived.Test.YtgbocahcapinhaaDoorPVd
import Derived.Test.YtgbocahcapinhaaDoorPSame
import Derived.Test.YtgbocahcapinhaaDoorPureSTrialsVerdictsMatchSpec
import Derived.KernelRfl
set_option linter.unusedVariables false
set_option linter.unusedSimpArgs false
namespace Go.Proofs.YtgbocahcapinhaaDoor
open Go Go.Proofs.YtgbocahcapinhaaDoor.Kit
theorem awake_eq:smithyardlaw10_awake.f=some true:=by kernel_rfl
theorem verS_some (l:List TestRun) (test key:ByteArray):∃ v f,verS l test key=some (v,f):=by
  obtain ⟨r,hr⟩:=ask_some l test key
  unfold verS
  rw [hr]
  simp only [Option.bind_some]
  cases r != 0 <;> exact ⟨_,_,rfl⟩
def mustS (l:List TestRun) (test key:ByteArray) (again:Bool):Option (Bool × Int) :=
  (verS l test key).bind fun y=>bif y.2 != 0 then some (false,y.2) else some (y.1 == 1||(again&&y.1 == 3),0)
theorem orC (a b c:Bool):(bif a then some true else bif b then some c else some false)=some (a||(b&&c)):=by cases a <;> cases b <;> rfl
theorem must_prog {l:List TestRun} (hl:l.length≤4611686018427387904) (test key:ByteArray) (again:Bool):trials_MustRun.f l test key again=mustS l test key again:=by
  unfold trials_MustRun.f mustS
  rw [verdict_prog hl]
  congr 1
  funext y
  rw [orC]
  rfl
theorem must_ref {l:List TestRun} (hl:l.length≤4611686018427387904) (hs:∀ x∈l,x.Test.size≤67108864) {test:ByteArray} (ht:test.size≤67108864) (key:ByteArray) (again:Bool):smithyardref10_MustRun.f l test key again=mustS l test key again:=by
  unfold smithyardref10_MustRun.f mustS verS
  rw [ask_ref hl hs ht,known_ref hl]
  cases askS l test key with
  | none=>rfl
  | some r =>
    simp only [Option.bind_some,orC]
    cases h:r != 0
    · rfl
    · simp only [cond_true,Option.bind_some]
      rw [h]
      rfl
theorem must_some (l:List TestRun) (test key:ByteArray) (again:Bool):∃ r,mustS l test key again=some r:=by
  obtain ⟨v,f,h⟩:=verS_some l test key
  unfold mustS
  rw [h]
  simp only [Option.bind_some]
  cases f != 0 <;> exact ⟨_,rfl⟩
theorem TrialsVerdictsMatchSpec_pure:TrialsVerdictsMatchSpec_Pure:=by
  intro l test key again ⟨hl,hll⟩ ht hk
  have hs:∀ x∈l,x.Test.size≤67108864:=fun x hx=>by
    have:=(hll x hx).1
    omega
  have ht:test.size≤67108864:=Nat.le_trans ht (by decide)
  have hn:l.length≤4611686018427387904:=by omega
  unfold smithyardlaw10_TrialsVerdictsMatchSpec.f
  rw [slices_Clone_TestRun_id (by omega)]
  simp only [Option.bind_some]
  obtain ⟨v,f,hv⟩:=verS_some l test key
  obtain ⟨r,hr⟩:=hisS_some l
  obtain ⟨m,hm⟩:=must_some l test key again
  rw [verdict_prog hn,verdict_ref hn hs (by omega),history_prog hn,history_ref hn hs,must_prog hn,must_ref hn hs (by omega),hv,hr,hm]
  simp only [Option.bind_some,BEq.rfl,bne_self_eq_false,cond_true,cond_false]
  rw [slices_Equal_TestRun_self hn,awake_eq]
  rfl
end Go.Proofs.YtgbocahcapinhaaDoor
