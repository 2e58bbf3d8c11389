/- TrialsFlakyHaveDoneBoth: for every input the law returns true and leaves its arguments as they were; its package-level variables start as the program's text lays them. -/
import Derived.Test.YtnhedhnnknnenaaDoorRows
import Derived.Test.YtnhedhnnknnenaaDoorCards
import Derived.Test.YtnhedhnnknnenaaDoorTie
import Derived.Test.YtnhedhnnknnenaaDoorZ3M
import Derived.Test.YtnhedhnnknnenaaDoorKitR
import Derived.Test.YtnhedhnnknnenaaDoorFacts
import Derived.Test.YtnhedhnnknnenaaDoorPureTrialsFlakyHaveDoneBoth
import Derived.WalkKit
import Derived.ProofKit
import Derived.OpenShut
import Derived.ShutString
import Derived.ChangeOld
import Derived.Below
import Derived.SizedLaws
import Derived.LaidMore
import Derived.Lay
import Derived.SevenTiedAt
import Derived.Stop.Joined
namespace Go.Proofs.YtnhedhnnknnenaaDoor
open Go Go.ChangeShapes Go.WideShapes Go.ChangeAt Go.RowKit Go.Proofs.YtnhedhnnknnenaaDoor.Kit
open Go.ChangeMaps (open_string shut_string)
set_option linter.unusedVariables false
def dTestRun4 : Kd (Int) := (Kd.int .i64)
def fTestRun4 : Int → Prop := (fun n : Int => (Lit.int .i64 n).wf = true)
def dTestRun3 : Kd (Bool × Int) := Kd.pair Kd.bool dTestRun4
def fTestRun3 : (Bool × Int) → Prop := fun y => (fun _ : Bool => True) y.1 ∧ fTestRun4 y.2
def dTestRun2 : Kd (Int × Bool × Int) := Kd.pair (Kd.int .i64) dTestRun3
def fTestRun2 : (Int × Bool × Int) → Prop := fun y => (fun n : Int => (Lit.int .i64 n).wf = true) y.1 ∧ fTestRun3 y.2
def dTestRun1 : Kd (ByteArray × Int × Bool × Int) := Kd.pair Kd.string dTestRun2
def fTestRun1 : (ByteArray × Int × Bool × Int) → Prop := fun y => (fun s : ByteArray => s.size ≤ reachBytes) y.1 ∧ fTestRun2 y.2
def dTestRun0 : Kd (ByteArray × ByteArray × Int × Bool × Int) := Kd.pair Kd.string dTestRun1
def fTestRun0 : (ByteArray × ByteArray × Int × Bool × Int) → Prop := fun y => (fun s : ByteArray => s.size ≤ reachBytes) y.1 ∧ fTestRun1 y.2
def FTestRun (x : TestRun) : ByteArray × ByteArray × Int × Bool × Int := (x.Test, x.Key, x.At, x.Pass, x.Seconds)
def GTestRun (y : ByteArray × ByteArray × Int × Bool × Int) : TestRun := ⟨y.1, y.2.1, y.2.2.1, y.2.2.2.1, y.2.2.2.2⟩
theorem opensFTestRun {fs : Array Field} (h : Tryd.prog.underlying 29 = some (.struct fs)) : OpensF reachBytes Tryd.prog fs.toList 0 dTestRun0 fTestRun0 := by
  rw [Tryd.underlying29] at h
  injection h with h
  injection h with h
  subst h
  exact (OpensF.cons (d := Kd.string) (d2 := dTestRun1) (fit := (fun s : ByteArray => s.size ≤ reachBytes)) (fit2 := fTestRun1) (by kernel_rfl) (by kernel_rfl) (Opens.string Tryd.underlying9) (OpensF.cons (d := Kd.string) (d2 := dTestRun2) (fit := (fun s : ByteArray => s.size ≤ reachBytes)) (fit2 := fTestRun2) (by kernel_rfl) (by kernel_rfl) (Opens.string Tryd.underlying9) (OpensF.cons (d := (Kd.int .i64)) (d2 := dTestRun3) (fit := (fun n : Int => (Lit.int .i64 n).wf = true)) (fit2 := fTestRun3) (by kernel_rfl) (by kernel_rfl) (Opens.int Tryd.underlying3) (OpensF.cons (d := Kd.bool) (d2 := dTestRun4) (fit := (fun _ : Bool => True)) (fit2 := fTestRun4) (by kernel_rfl) (by kernel_rfl) (Opens.bool Tryd.underlying4) (OpensF.last (d := dTestRun4) (fit := fTestRun4) (by kernel_rfl) (by kernel_rfl) (Opens.int Tryd.underlying3))))))
theorem opensTestRun : Opens reachBytes Tryd.prog 29 kTestRun fitTestRun := by
  have h : Opens reachBytes Tryd.prog 29 (Kd.iso dTestRun0 FTestRun) (fun x => fTestRun0 (FTestRun x)) := Opens.struct (f := FTestRun) (g := GTestRun) Tryd.underlying29 (by kernel_rfl) (by rintro ⟨y0, y1, y2, y3, y4⟩; rfl) (opensFTestRun Tryd.underlying29)
  exact h
theorem own_trialsFlakyHaveDoneBoth : ownKnob Tryd.prog.godebug = none := by kernel_rfl
theorem laidOut_trialsFlakyHaveDoneBoth : laidOutB Tryd.prog = true := by kernel_rfl
set_option maxRecDepth 100000 in
theorem lifted_trialsFlakyHaveDoneBoth (os : Os) (started : os.Started) (H : Type) (enc : TypeId × Value → H) :
    ReturnsInHanded {} Tryd.checked os 3 .any (fun w args => (Rows.trialsFlakyHaveDoneBothSpec.pre enc Tryd.prog Tryd.f3 Rows.trialsFlakyHaveDoneBothRow.domain false w args ∧ laidMetH Tryd.prog Rows.trialsFlakyHaveDoneBothRow.laid w) ∧ sizedMet enc Tryd.prog Tryd.f3 (OpenSpec.ofChange Rows.trialsFlakyHaveDoneBothSpec) false w args) (Rows.trialsFlakyHaveDoneBothSpec.post enc Tryd.prog Tryd.f3 false true false false) := by
  refine returnsInHanded_both (C := Tryd.checked) (X := fun w _ => laidMetH Tryd.prog Rows.trialsFlakyHaveDoneBothRow.laid w) (fun _ _ _ hh h => h.of_heap hh) own_trialsFlakyHaveDoneBoth started (by kernel_rfl) Tryd.func3
    (ChangeSpec.witness_shaped (enc := enc) (C := Tryd.checked) (os := os) (X := fun w _ => laidMetH Tryd.prog Rows.trialsFlakyHaveDoneBothRow.laid w) false (World.laidAll Tryd.prog os Rows.trialsFlakyHaveDoneBothRow.laid) #[.slice none 0 0] 8 (World.laidAll_os _ _ _)
      (World.shaped_of_ZipB (by kernel_rfl) (by kernel_rfl)) (by kernel_rfl) (by kernel_rfl) (by kernel_rfl)
      (by rw [MakeChecks.laidMetH_plain _ _ _ (by kernel_rfl)]; exact laidMet_laidAll _ (by kernel_rfl) (by kernel_rfl))) ?_
  intro W base args ds gs before hval0 hW hcnd hsz0 hL hshp _
  haveI : GlobI 0 W := GlobI.of (t := 3) (zero := #[.int .i64 0]) hshp (of_decide_eq_true (by kernel_rfl)) (by kernel_rfl) rfl (by kernel_rfl) (by kernel_rfl) Tryd.underlying3
  have hsz : (DataW.weightsEach Tryd.prog (Tryd.f3.params.toList ++ Rows.trialsFlakyHaveDoneBothSpec.plain.varTypes Tryd.prog) (ds ++ gs)).all (· ≤ reachBytes) = true := hsz0
  have hval : ∀ (j : Nat) t v, Tryd.f3.params[j]? = some t → args[j]? = some v → Value.okWide Tryd.prog W .any base t v := hval0
  have hW' := hW
  obtain ⟨p, q, hA0, hV, rfl, hfz, hnd⟩ := hW
  have hA : DataW.TrodAll enc Tryd.prog W 0 (fun _ => true) true Tryd.f3.params.toList args.toList ds p := hA0
  rw [Tryd.params3] at hA hval hsz
  obtain ⟨v0, vs0, d0, ds0, p0, q0, hargs, rfl, rfl, h0, r0⟩ := trodAll_cons hA
  obtain ⟨rfl, rfl, rfl⟩ := trodAll_nil r0
  obtain rfl : args = #[v0] := by cases args; simp_all
  obtain ⟨rfl, rfl⟩ := trodVars_none hV
  obtain ⟨A0, len0, cap0, rfl⟩ := okWide_slice Tryd.underlying22 (hval 0 22 v0 rfl rfl)
  have k0 := h0
  have lt0 : ∀ x ∈ p0, x.block < W.heap.size := by obtain ⟨m, hm⟩ := k0; exact DataW.trod_lt m _ _ _ hm
  obtain ⟨fuel0, hf0⟩ := h0
  obtain ⟨a0, ⟨B0, c0, hcs0, hc0, hr0⟩, hfit0⟩ := ((Opens.slice Tryd.underlying22 (by kernel_rfl) (by decide) opensTestRun (B := 56) (by kernel_rfl))).go hf0 (weights_at hsz (j := 0) (t := 22) rfl rfl)
  simp [Value.cells] at hcs0
  obtain ⟨rfl, rfl, rfl⟩ := hcs0
  clear hA0 hval0 hsz0 hsz
  have heq := TrialsFlakyHaveDoneBoth_pure a0 hfit0
  refine (smithyardlaw10_TrialsFlakyHaveDoneBoth_c (w0 := W) (H := hp W) (F := []) (Rw.of hr0) hc0 rfl heq W (Heap.start W)).mono ?_
  rintro e W' ⟨v, rfl, H', cs', _, hh, _, rfl, _⟩
  have bel : Below W.heap.size W W' := hh.ext
  exact ⟨_, rfl, _, _, _, [], _, [], hW', trodAll_mk1 (shut_bool Tryd.underlying4 _), (trodAll_cons_mk (Below.trod laidOut_trialsFlakyHaveDoneBoth (by kernel_rfl) (of_decide_eq_true (by kernel_rfl)) k0 bel lt0) trodAll_mk0), rfl, bel.frame _, fun h => by cases h⟩
theorem closed_trialsFlakyHaveDoneBoth : joinedFacts Tryd.prog 3 Tryd.f3 Rows.trialsFlakyHaveDoneBothSpec Rows.trialsFlakyHaveDoneBothRow = true := by
  unfold joinedFacts
  rw [fact_enter, fact_final, fact_make]
  kernel_rfl
theorem trialsFlakyHaveDoneBoth_row : Rows.TrialsFlakyHaveDoneBothSaid :=
  OpenClaim.holds_of_wide 3 Tryd.f3 rfl rfl rfl rfl rfl rfl rfl ⟨rfl, rfl, rfl, rfl, rfl⟩ rfl rfl rfl rfl rfl (by kernel_rfl) Tryd.func3 closed_trialsFlakyHaveDoneBoth
    (of_decide_eq_true (by kernel_rfl)) (by unfold Func.isWrapper; first | (rw [if_pos (by decide +kernel)]; kernel_rfl) | (rw [if_neg (by decide +kernel)]; exact ⟨rfl, rfl⟩))
    (fun os started H enc _ => lifted_trialsFlakyHaveDoneBoth os started H enc)
theorem trialsFlakyHaveDoneBoth_holds : Rows.TrialsFlakyHaveDoneBothCardSaid :=
  Claim7.holds_tied_plain_at .later [] [.data, .pinned] true (true, "756de2a078f7e3d53f41c47b59ceac6932b223822376209e928d6522ffb48496") false trialsFlakyHaveDoneBoth_row (fun _ h => by cases h) (by kernel_rfl) (fun _ h => by cases h) trialsFlakyHaveDoneBoth_row_tie rfl ⟨rfl, rfl⟩ fact_main rfl
    (fun f fn hf hfn => by
      obtain rfl : f = 3 := Option.some.inj ((show Tryd.prog.funcNamed "smithyard/smithyardlaw10.TrialsFlakyHaveDoneBoth" = some 3 by kernel_rfl).symm.trans hf) |>.symm
      obtain rfl : fn = Tryd.f3 := (Option.some.inj (Tryd.func3.symm.trans hfn)).symm
      exact ⟨by kernel_rfl, fun j t ht => by
        rw [Tryd.params3] at ht
        have hm : t ∈ [22] := by simpa using Array.mem_of_getElem? ht
        have hall : ([22].all fun u => !Tryd.prog.wantsStandIn u) = true := by kernel_rfl
        exact (show Tryd.prog.wantsStandIn t = false by simpa using List.all_eq_true.1 hall t hm)⟩)
    (by kernel_rfl)
#print axioms trialsFlakyHaveDoneBoth_holds
end Go.Proofs.YtnhedhnnknnenaaDoor
