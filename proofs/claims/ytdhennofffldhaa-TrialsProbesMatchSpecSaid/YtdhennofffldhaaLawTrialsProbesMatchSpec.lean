/- TrialsProbesMatchSpec: for every input the law returns true and leaves its arguments as they were. -/
import Derived.Test.YtdhennofffldhaaRows
import Derived.Test.YtdhennofffldhaaPM
import Derived.Test.YtdhennofffldhaaKitR
import Derived.Test.YtdhennofffldhaaPureTrialsProbesMatchSpec
import Derived.WalkKit
import Derived.ProofKit
import Derived.OpenShut
import Derived.ShutString
import Derived.ChangeOld
import Derived.Below
import Derived.SizedLaws
namespace Go.Proofs.Ytdhennofffldhaa
open Go Go.ChangeShapes Go.WideShapes Go.ChangeAt Go.RowKit Go.Proofs.Ytdhennofffldhaa.Kit
open Go.ChangeMaps (open_string shut_string)
set_option linter.unusedVariables false
theorem opensProbe : Opens Try.prog 37 kProbe fitProbe := by
  have h : Opens Try.prog 37 (Kd.iso ((Kd.pair (Kd.int .i64) Kd.bool)) (fun x : Probe => (x.Place, x.Pass))) (fun x => (fun y => (fun n : Int => (Lit.int .i64 n).wf = true) y.1 ∧ (fun _ : Bool => True) y.2) ((fun x : Probe => (x.Place, x.Pass)) x)) := Opens.struct (P := Try.prog) (t := 37) (d := (Kd.pair (Kd.int .i64) Kd.bool)) (f := (fun x : Probe => (x.Place, x.Pass))) (g := fun y : Int × Bool => (⟨y.1, y.2⟩ : Probe)) (fit := (fun y => (fun n : Int => (Lit.int .i64 n).wf = true) y.1 ∧ (fun _ : Bool => True) y.2)) Try.underlying37 (by kernel_rfl) (fun _ => rfl) (OpensF.cons rfl (by kernel_rfl) (Opens.int Try.underlying3) (OpensF.last rfl (by kernel_rfl) (Opens.bool Try.underlying4)))
  exact h
theorem own_trialsProbesMatchSpec : ownKnob Try.prog.godebug = none := by kernel_rfl
theorem laidOut_trialsProbesMatchSpec : laidOutB Try.prog = true := by kernel_rfl
set_option maxRecDepth 100000 in
theorem lifted_trialsProbesMatchSpec (os : Os) (started : os.Started) (H : Type) (enc : TypeId × Value → H) :
    ReturnsInHanded {} Try.checked os 6 .any (Rows.trialsProbesMatchSpecSpec.pre6 enc Try.prog Try.f6 Rows.trialsProbesMatchSpecRow.domain false) (Rows.trialsProbesMatchSpecSpec.post enc Try.prog Try.f6 false true false false) := by
  refine returnsInHanded_of_change_sized (C := Try.checked) own_trialsProbesMatchSpec started (by kernel_rfl) Try.func6
    (ChangeSpec.witness6 (enc := enc) (C := Try.checked) false ⟨#[], #[.int .i64 0, .slice none 0 0, .int .i64 0], []⟩ 8 (by kernel_rfl) (by kernel_rfl) (by kernel_rfl) (by kernel_rfl)) ?_
  intro W base args ds gs before hval0 hW hcnd hsz0 _
  have hsz : (DataW.weightsEach Try.prog (Try.f6.params.toList ++ Rows.trialsProbesMatchSpecSpec.plain.varTypes Try.prog) (ds ++ gs)).all (· ≤ reachBytes) = true := hsz0
  have hval : ∀ (j : Nat) t v, Try.f6.params[j]? = some t → args[j]? = some v → Value.okWide Try.prog W .any base t v := hval0
  have hW' := hW
  obtain ⟨p, q, hA0, hV, rfl, hfz, hnd⟩ := hW
  have hA : DataW.TrodAll enc Try.prog W 0 (fun _ => true) true Try.f6.params.toList args.toList ds p := hA0
  rw [Try.params6] at hA hval hsz
  obtain ⟨v0, vs0, d0, ds0, p0, q0, hargs, rfl, rfl, h0, r0⟩ := trodAll_cons hA
  obtain ⟨v1, vs1, d1, ds1, p1, q1, rfl, rfl, rfl, h1, r1⟩ := trodAll_cons r0
  obtain ⟨v2, vs2, d2, ds2, p2, q2, rfl, rfl, rfl, h2, r2⟩ := trodAll_cons r1
  obtain ⟨rfl, rfl, rfl⟩ := trodAll_nil r2
  obtain rfl : args = #[v0, v1, v2] := by cases args; simp_all
  obtain ⟨rfl, rfl⟩ := trodVars_none hV
  obtain ⟨a0, rfl, rfl, rfl, w0⟩ := open_int Try.underlying3 (hval 0 3 v0 rfl rfl) h0
  obtain ⟨A1, len1, cap1, rfl⟩ := okWide_slice Try.underlying32 (hval 1 32 v1 rfl rfl)
  have k1 := h1
  have lt1 : ∀ x ∈ p1, x.block < W.heap.size := by obtain ⟨m, hm⟩ := k1; exact DataW.trod_lt m _ _ _ hm
  obtain ⟨fuel1, hf1⟩ := h1
  obtain ⟨a1, ⟨B1, c1, hcs1, hc1, hr1⟩, hfit1⟩ := ((Opens.slice Try.underlying32 (by kernel_rfl) (by decide) opensProbe (B := 16) (by kernel_rfl))).go hf1 (weights_at hsz (j := 1) (t := 32) rfl rfl)
  simp [Value.cells] at hcs1
  obtain ⟨rfl, rfl, rfl⟩ := hcs1
  obtain ⟨a2, rfl, rfl, rfl, w2⟩ := open_int Try.underlying3 (hval 2 3 v2 rfl rfl) h2
  clear hA0 hval0 hsz0 hsz
  have heq := TrialsProbesMatchSpec_pure a0 a1 a2 w0 hfit1 w2
  refine (smithyardlaw10_TrialsProbesMatchSpec_c (Sub.self W) hr1 hc1 heq).mono ?_
  rintro e W' ⟨v, rfl, bel, rfl⟩
  exact ⟨_, rfl, _, _, _, [], _, [], hW', trodAll_mk1 (shut_bool Try.underlying4 _), (trodAll_cons_mk (shut_int Try.underlying3 w0) (trodAll_cons_mk (Below.trod laidOut_trialsProbesMatchSpec (by kernel_rfl) (of_decide_eq_true (by kernel_rfl)) k1 bel lt1) (trodAll_cons_mk (shut_int Try.underlying3 w2) trodAll_mk0))), rfl, bel.frame _, fun h => by cases h⟩
theorem trialsProbesMatchSpec_holds : Rows.TrialsProbesMatchSpecSaid :=
  OpenClaim.holds_of_wide 6 Try.f6 rfl rfl rfl rfl rfl rfl rfl ⟨rfl, rfl, rfl, rfl, rfl⟩ rfl rfl rfl rfl rfl (by kernel_rfl) Try.func6 (by kernel_rfl)
    (of_decide_eq_true (by kernel_rfl)) (by unfold Func.isWrapper; first | (rw [if_pos (by decide +kernel)]; kernel_rfl) | (rw [if_neg (by decide +kernel)]; exact ⟨rfl, rfl⟩))
    (fun os started H enc _ => lifted_trialsProbesMatchSpec os started H enc)
#print axioms trialsProbesMatchSpec_holds
end Go.Proofs.Ytdhennofffldhaa
