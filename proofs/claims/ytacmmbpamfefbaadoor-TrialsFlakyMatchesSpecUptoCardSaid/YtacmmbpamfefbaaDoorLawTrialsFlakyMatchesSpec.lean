/- TrialsFlakyMatchesSpec: for every input the law returns true and leaves its arguments as they were; its package-level variables start as the program's text lays them. -/
import Derived.Test.YtacmmbpamfefbaaDoorRows
import Derived.Test.YtacmmbpamfefbaaDoorBulk
import Derived.Test.YtacmmbpamfefbaaDoorCards
import Derived.Test.YtacmmbpamfefbaaDoorTie
import Derived.Test.YtacmmbpamfefbaaDoorZ3M
import Derived.Test.YtacmmbpamfefbaaDoorKitR
import Derived.Test.YtacmmbpamfefbaaDoorFacts
import Derived.Test.YtacmmbpamfefbaaDoorPureTrialsFlakyMatchesSpec
import Derived.WalkKit
import Derived.ProofKit
import Derived.OpenShut
import Derived.ShutString
import Derived.ChangeOld
import Derived.Below
import Derived.SizedLaws
import Derived.LaidMore
import Derived.Lay
import Derived.SevenTiedAt
import Derived.Stop.Joined
import Derived.Deep.DeepHandedRow
namespace Go.Proofs.YtacmmbpamfefbaaDoor
open Go Go.ChangeShapes Go.WideShapes Go.ChangeAt Go.RowKit Go.Proofs.YtacmmbpamfefbaaDoor.Kit
open Go.ChangeMaps (open_string shut_string)
set_option linter.unusedVariables false
def dTestRun4 : Kd (Int) := (Kd.int .i64)
def fTestRun4 : Int → Prop := (fun n : Int => (Lit.int .i64 n).wf = true)
def dTestRun3 : Kd (Bool × Int) := Kd.pair Kd.bool dTestRun4
def fTestRun3 : (Bool × Int) → Prop := fun y => (fun _ : Bool => True) y.1 ∧ fTestRun4 y.2
def dTestRun2 : Kd (Int × Bool × Int) := Kd.pair (Kd.int .i64) dTestRun3
def fTestRun2 : (Int × Bool × Int) → Prop := fun y => (fun n : Int => (Lit.int .i64 n).wf = true) y.1 ∧ fTestRun3 y.2
def dTestRun1 : Kd (ByteArray × Int × Bool × Int) := Kd.pair Kd.string dTestRun2
def fTestRun1 : (ByteArray × Int × Bool × Int) → Prop := fun y => (fun s : ByteArray => s.size ≤ 58720256) y.1 ∧ fTestRun2 y.2
def dTestRun0 : Kd (ByteArray × ByteArray × Int × Bool × Int) := Kd.pair Kd.string dTestRun1
def fTestRun0 : (ByteArray × ByteArray × Int × Bool × Int) → Prop := fun y => (fun s : ByteArray => s.size ≤ 58720256) y.1 ∧ fTestRun1 y.2
def FTestRun (x : TestRun) : ByteArray × ByteArray × Int × Bool × Int := (x.Test, x.Key, x.At, x.Pass, x.Seconds)
def GTestRun (y : ByteArray × ByteArray × Int × Bool × Int) : TestRun := ⟨y.1, y.2.1, y.2.2.1, y.2.2.2.1, y.2.2.2.2⟩
theorem opensFTestRun {fs : Array Field} (h : Tryd.prog.underlying 25 = some (.struct fs)) : OpensF 58720256 Tryd.prog fs.toList 0 dTestRun0 fTestRun0 := by
  rw [Tryd.underlying25] at h
  injection h with h
  injection h with h
  subst h
  exact (OpensF.cons (d := Kd.string) (d2 := dTestRun1) (fit := (fun s : ByteArray => s.size ≤ 58720256)) (fit2 := fTestRun1) (by kernel_rfl) (by kernel_rfl) (Opens.string Tryd.underlying9) (OpensF.cons (d := Kd.string) (d2 := dTestRun2) (fit := (fun s : ByteArray => s.size ≤ 58720256)) (fit2 := fTestRun2) (by kernel_rfl) (by kernel_rfl) (Opens.string Tryd.underlying9) (OpensF.cons (d := (Kd.int .i64)) (d2 := dTestRun3) (fit := (fun n : Int => (Lit.int .i64 n).wf = true)) (fit2 := fTestRun3) (by kernel_rfl) (by kernel_rfl) (Opens.int Tryd.underlying3) (OpensF.cons (d := Kd.bool) (d2 := dTestRun4) (fit := (fun _ : Bool => True)) (fit2 := fTestRun4) (by kernel_rfl) (by kernel_rfl) (Opens.bool Tryd.underlying4) (OpensF.last (d := dTestRun4) (fit := fTestRun4) (by kernel_rfl) (by kernel_rfl) (Opens.int Tryd.underlying3))))))
theorem opensTestRun : Opens 58720256 Tryd.prog 25 kTestRun fitTestRun := by
  have h : Opens 58720256 Tryd.prog 25 (Kd.iso dTestRun0 FTestRun) (fun x => fTestRun0 (FTestRun x)) := Opens.struct (f := FTestRun) (g := GTestRun) Tryd.underlying25 (by kernel_rfl) (by rintro ⟨y0, y1, y2, y3, y4⟩; rfl) (opensFTestRun Tryd.underlying25)
  exact h
theorem own_trialsFlakyMatchesSpec : ownKnob Tryd.prog.godebug = none := by kernel_rfl
theorem laidOut_trialsFlakyMatchesSpec : laidOutB Tryd.prog = true := by kernel_rfl
set_option maxRecDepth 100000 in
theorem lifted_trialsFlakyMatchesSpec (os : Os) (started : os.Started) (H : Type) (enc : TypeId × Value → H) (F : Stop.Interp) :
    ReturnsInHanded {} Tryd.checked os 3 .any ((Rows.OpenSpec.upto Rows.trialsFlakyMatchesSpecSpec).preRow enc Tryd.prog Tryd.f3 Rows.trialsFlakyMatchesSpecUptoRow.domain false Rows.trialsFlakyMatchesSpecUptoRow.laid) (((Rows.OpenSpec.upto Rows.trialsFlakyMatchesSpecSpec).at F).post enc Tryd.prog Tryd.f3 false true false false) := by
  refine returnsInHanded_of_row (C := Tryd.checked) (s := (Rows.OpenSpec.upto Rows.trialsFlakyMatchesSpecSpec)) own_trialsFlakyMatchesSpec started (by kernel_rfl) Tryd.func3
    (witness_row_at (enc := enc) (C := Tryd.checked) false (World.laidAll Tryd.prog os Rows.trialsFlakyMatchesSpecUptoRow.laid) #[.slice none 0 0, .string ByteArray.empty] (World.laidAll_os _ _ _) (by kernel_rfl) (by kernel_rfl) (by kernel_rfl)
      (OpenSpec.preRow_of_cond 8 (x := ([.nil, .lit (.string [])], [], [])) (by kernel_rfl) (by kernel_rfl) (fun k hk => by cases hk; kernel_rfl) (by kernel_rfl) (by rw [MakeChecks.laidMetH_plain _ _ _ (by kernel_rfl)]; exact laidMet_laidAll _ (by kernel_rfl) (by kernel_rfl)))) ?_
  intro W base args ds gs before hval0 hW hcnd hcond hsz1 hL hshp _
  have hsz0 := Bulk.small (P := Tryd.prog) (M := 56) (Q := 58720256) (S := [22, 25, 9, 3, 4]) (ts := Tryd.f3.params.toList ++ Rows.trialsFlakyMatchesSpecSpec.plain.varTypes Tryd.prog) (hcond _ rfl) (by kernel_rfl) (by decide) (by decide) (fun t ht => by have := List.all_eq_true.1 (show ((Tryd.f3.params.toList ++ Rows.trialsFlakyMatchesSpecSpec.plain.varTypes Tryd.prog).all fun t => [22, 25, 9, 3, 4].contains t) = true by kernel_rfl) t ht; simpa using this)
  haveI : GlobI 0 W := GlobI.of (t := 3) (zero := #[.int .i64 0]) hshp (of_decide_eq_true (by kernel_rfl)) (by kernel_rfl) rfl (by kernel_rfl) (by kernel_rfl) Tryd.underlying3
  have hsz : (DataW.weightsEach Tryd.prog (Tryd.f3.params.toList ++ Rows.trialsFlakyMatchesSpecSpec.plain.varTypes Tryd.prog) (ds ++ gs)).all (· ≤ 58720256) = true := hsz0
  have hval : ∀ (j : Nat) t v, Tryd.f3.params[j]? = some t → args[j]? = some v → Value.okWide Tryd.prog W .any base t v := hval0
  have hW' := hW
  obtain ⟨p, q, hA0, hV, rfl, hfz, hnd⟩ := hW
  have hA : DataW.TrodAll enc Tryd.prog W 0 (fun _ => true) true Tryd.f3.params.toList args.toList ds p := hA0
  rw [Tryd.params3] at hA hval hsz
  obtain ⟨v0, vs0, d0, ds0, p0, q0, hargs, rfl, rfl, h0, r0⟩ := trodAll_cons hA
  obtain ⟨v1, vs1, d1, ds1, p1, q1, rfl, rfl, rfl, h1, r1⟩ := trodAll_cons r0
  obtain ⟨rfl, rfl, rfl⟩ := trodAll_nil r1
  obtain rfl : args = #[v0, v1] := by cases args; simp_all
  obtain ⟨rfl, rfl⟩ := trodVars_none hV
  obtain ⟨A0, len0, cap0, rfl⟩ := okWide_slice Tryd.underlying22 (hval 0 22 v0 rfl rfl)
  have k0 := h0
  have lt0 : ∀ x ∈ p0, x.block < W.heap.size := by obtain ⟨m, hm⟩ := k0; exact DataW.trod_lt m _ _ _ hm
  obtain ⟨fuel0, hf0⟩ := h0
  obtain ⟨a0, ⟨B0, c0, hcs0, hc0, hr0⟩, hfit0⟩ := ((Opens.slice Tryd.underlying22 (by kernel_rfl) (by decide) opensTestRun (B := 56) (by kernel_rfl))).go hf0 (weights_at hsz (j := 0) (t := 22) rfl rfl)
  simp [Value.cells] at hcs0
  obtain ⟨rfl, rfl, rfl⟩ := hcs0
  obtain ⟨a1, rfl, rfl, rfl, y1⟩ := open_string Tryd.underlying9 (hval 1 9 v1 rfl rfl) h1
  have hfit1 : a1.size ≤ 58720256 := by
    have z := weights_at hsz (j := 1) (t := 9) (d := .lit (.string a1.data.toList)) rfl rfl a1.data.toList.length (by simp [DataW.weights])
    rw [Array.length_toList] at z
    exact z
  clear hA0 hval0 hsz0 hsz
  have heq := TrialsFlakyMatchesSpec_pure a0 a1 hfit0 hfit1
  refine (smithyardlaw10_TrialsFlakyMatchesSpec_c (w0 := W) (H := hp W) (F := []) (Rw.of hr0) hc0 rfl heq W (Heap.start W)).mono ?_
  rintro e W' ⟨v, rfl, H', cs', _, hh, _, rfl, _⟩
  have bel : Below W.heap.size W W' := hh.ext
  exact ⟨_, rfl, _, _, _, [], _, [], hW', trodAll_mk1 (shut_bool Tryd.underlying4 _), (trodAll_cons_mk (Below.trod laidOut_trialsFlakyMatchesSpec (by kernel_rfl) (of_decide_eq_true (by kernel_rfl)) k0 bel lt0) (trodAll_cons_mk (shut_string Tryd.underlying9 y1) trodAll_mk0)), rfl, bel.frame _, fun h => by cases h⟩
theorem closed_trialsFlakyMatchesSpec : joinedFacts Tryd.prog 3 Tryd.f3 Rows.trialsFlakyMatchesSpecSpec Rows.trialsFlakyMatchesSpecUptoRow = true := by
  unfold joinedFacts
  rw [fact_enter, fact_final, fact_make]
  kernel_rfl
set_option maxRecDepth 100000 in
theorem trialsFlakyMatchesSpec_row : Rows.TrialsFlakyMatchesSpecUptoSaid :=
  OpenClaim.holds_of_cond 3 Tryd.f3 rfl rfl rfl rfl rfl rfl rfl ⟨rfl, rfl, rfl, rfl, rfl⟩ rfl rfl rfl rfl rfl (by kernel_rfl) Tryd.func3 closed_trialsFlakyMatchesSpec
    (of_decide_eq_true (by kernel_rfl)) (by unfold Func.isWrapper; first | (rw [if_pos (by decide +kernel)]; kernel_rfl) | (rw [if_neg (by decide +kernel)]; exact ⟨rfl, rfl⟩))
    (fun os started H enc _ F => by rw [OpenClaim.pre_eq_preRow]; exact lifted_trialsFlakyMatchesSpec os started H enc F)
theorem trialsFlakyMatchesSpec_holds : Rows.TrialsFlakyMatchesSpecUptoCardSaid :=
  Claim7.holds_tied_plain_at .later [] [.data, .pinned] true (true, "ad694124bab5c0dfb993fb982078f4c5926003a36eda828433b17dd6a2e544ab") false trialsFlakyMatchesSpec_row (fun _ h => by cases h) (by kernel_rfl) (fun _ h => by cases h) trialsFlakyMatchesSpecUpto_row_tie rfl ⟨rfl, rfl⟩ fact_main rfl
    (fun f fn hf hfn => by
      obtain rfl : f = 3 := Option.some.inj ((show Tryd.prog.funcNamed "smithyard/smithyardlaw10.TrialsFlakyMatchesSpec" = some 3 by kernel_rfl).symm.trans hf) |>.symm
      obtain rfl : fn = Tryd.f3 := (Option.some.inj (Tryd.func3.symm.trans hfn)).symm
      exact ⟨by kernel_rfl, fun j t ht => by
        rw [Tryd.params3] at ht
        have hm : t ∈ [22, 9] := by simpa using Array.mem_of_getElem? ht
        have hall : ([22, 9].all fun u => !Tryd.prog.wantsStandIn u) = true := by kernel_rfl
        exact (show Tryd.prog.wantsStandIn t = false by simpa using List.all_eq_true.1 hall t hm)⟩)
    (by kernel_rfl)
#print axioms trialsFlakyMatchesSpec_holds
end Go.Proofs.YtacmmbpamfefbaaDoor
