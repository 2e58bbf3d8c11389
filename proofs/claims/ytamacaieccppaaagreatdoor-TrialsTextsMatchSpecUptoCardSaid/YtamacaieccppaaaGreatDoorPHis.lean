/- Histories of tests: both sides' checks. -/
import Derived.Test.YtamacaieccppaaaGreatDoorPPath
import Derived.Test.YtamacaieccppaaaGreatDoorPO
import Derived.KernelRfl
set_option linter.unusedVariables false
set_option linter.unusedSimpArgs false
namespace Go.Proofs.YtamacaieccppaaaGreatDoor
open Go Go.Proofs.YtamacaieccppaaaGreatDoor.Kit
def digB (s:ByteArray):Bool:=s.size == 16&&s.data.toList.all (fun b=>([48,49,50,51,52,53,54,55,56,57,97,98,99,100,101,102]:List UInt8).contains b)
theorem sEq_nil (l:List UInt8):sEq (⟨l.toArray⟩:ByteArray) ({ data:=#[] }:ByteArray)=(l == []):=by
  rw [sEq_data]
  cases l <;> simp
theorem digest_prog (s:ByteArray):blob_IsDigest.f s=some (digB s):=by
  unfold blob_IsDigest.f digB
  have e:((s.size:Int) == 16)=(s.size == 16):=by
    rw [Bool.eq_iff_iff]
    simp
    omega
  rw [e]
  cases h:(s.size == 16)
  · rfl
  · have h16:s.size=16:=by simpa using h
    have g:strings_Trim.f s ({ data:=#[48,49,50,51,52,53,54,55,56,57,97,98,99,100,101,102] }:ByteArray)=some (⟨(Lib.trimS s.data.toList [48,49,50,51,52,53,54,55,56,57,97,98,99,100,101,102]).toArray⟩):=by
      unfold strings_Trim.f
      rw [guard?_true (by rw [decide_eq_true (by omega)]; rfl)]
    rw [g]
    simp only [cond_true,Option.bind_some,Bool.true_and]
    rw [sEq_nil,trimS_nil]
theorem digest_ref (s:ByteArray):smithyardref10_isDigest.f s=some (digB s):=(show smithyardref10_isDigest.f s=blob_IsDigest.f s from rfl).trans (digest_prog s)
theorem within_ref (a b c:Int):smithyardref10_within.f a b c=some (inR b c a):=by
  unfold smithyardref10_within.f inR
  cases decide (b≤a) <;> rfl
theorem within_prog (a b c:Int):trials_within.f a b c=some (inR b c a):=by
  unfold trials_within.f inR
  cases decide (b≤a) <;> rfl
theorem norB (a b:Bool):((some a).bind fun y3=>bif !y3 then some true else ((some b).bind fun y4=>some (!y4)))=some (!(a&&b)):=by cases a <;> cases b <;> rfl
def hisB (p:Option TestRun) (x:TestRun) (k:Option Int):Option Int :=
  bif !isPathB x.Test then some 5 else bif !digB x.Key then some 3 else bif !(inR 0 1000000000 x.At&&inR 0 100000 x.Seconds) then some 1 else bif prevB (fun y=>decide (x.At<y.At)) p then some 8 else k
def hisS (l:List TestRun):Option Int:=bif decide (3000<(l.length:Int)) then some 2 else rangeP hisB (some 0) none l
theorem history_prog {l:List TestRun} (hl:l.length≤4611686018427387904):trials_CheckHistory.f l=hisS l:=by
  unfold trials_CheckHistory.f hisS
  congr 1
  refine rangeP_all (L:=fun k v=>trials_CheckHistory.l2 trials_CheckHistory.e1 k l v) hl (fun k v h0 h1=>?_)
  simp only [trials_CheckHistory.l2]
  congr 1
  refine bind_at (fun x hx=>?_)
  rw [isPath_prog x.Test,digest_prog,within_prog,within_prog,norB,prev_eq (P:=fun y=>decide (x.At<y.At)) h0 h1 hl]
  simp only [Option.bind_some]
  rfl
theorem history_ref {l:List TestRun} (hl:l.length≤4611686018427387904) (hs:∀ x∈l,x.Test.size≤67108864):smithyardref10_CheckHistory.f l=hisS l:=by
  unfold smithyardref10_CheckHistory.f hisS
  congr 1
  refine rangeP_all (L:=fun k v=>smithyardref10_CheckHistory.l2 smithyardref10_CheckHistory.e1 k l v) hl (fun k v h0 h1=>?_)
  simp only [smithyardref10_CheckHistory.l2]
  congr 1
  refine bind_at (fun x hx=>?_)
  rw [isPath_ref (s:=x.Test) (by have:=hs x hx; omega),digest_ref,within_ref,within_ref,norB,prev_eq (P:=fun y=>decide (x.At<y.At)) h0 h1 hl]
  simp only [Option.bind_some]
  rfl
theorem hisS_some (l:List TestRun):∃ r,hisS l=some r:=by
  unfold hisS
  cases decide (3000<(l.length:Int))
  · refine rangeP_some (fun p x k ⟨r,hk⟩=>?_) ⟨_,rfl⟩ l none
    unfold hisB
    rw [hk]
    cases isPathB x.Test
    · exact ⟨_,rfl⟩
    cases digB x.Key
    · exact ⟨_,rfl⟩
    cases (inR 0 1000000000 x.At&&inR 0 100000 x.Seconds)
    · exact ⟨_,rfl⟩
    cases prevB (fun y=>decide (x.At<y.At)) p <;> exact ⟨_,rfl⟩
  · exact ⟨_,rfl⟩
theorem his_short {l:List TestRun} (h:hisS l=some 0):l.length≤3000:=by
  unfold hisS at h
  by_cases hl:3000<(l.length:Int)
  · rw [decide_eq_true hl] at h
    cases h
  · omega
end Go.Proofs.YtamacaieccppaaaGreatDoor
