/- TrialsTextsMatchSpec: for every input the law returns true and leaves its arguments as they were; its package-level variables start as the program's text lays them. -/
import Derived.Test.YtamacaieccppaaaGreatDoorRows
import Derived.Test.YtamacaieccppaaaGreatDoorBulk
import Derived.Test.YtamacaieccppaaaGreatDoorCards
import Derived.Test.YtamacaieccppaaaGreatDoorTie
import Derived.Test.YtamacaieccppaaaGreatDoorZ3M
import Derived.Test.YtamacaieccppaaaGreatDoorKitR
import Derived.Test.YtamacaieccppaaaGreatDoorFacts
import Derived.Test.YtamacaieccppaaaGreatDoorPureTrialsTextsMatchSpec
import Derived.WalkKit
import Derived.ProofKit
import Derived.OpenShut
import Derived.ShutString
import Derived.ChangeOld
import Derived.Below
import Derived.SizedLaws
import Derived.LaidMore
import Derived.Lay
import Derived.SevenTiedAt
import Derived.Stop.Joined
import Derived.Deep.DeepHandedRow
namespace Go.Proofs.YtamacaieccppaaaGreatDoor
open Go Go.ChangeShapes Go.WideShapes Go.ChangeAt Go.RowKit Go.Proofs.YtamacaieccppaaaGreatDoor.Kit
open Go.ChangeMaps (open_string shut_string)
set_option linter.unusedVariables false
def dTestRun4 : Kd (Int) := (Kd.int .i64)
def fTestRun4 : Int → Prop := (fun n : Int => (Lit.int .i64 n).wf = true)
def dTestRun3 : Kd (Bool × Int) := Kd.pair Kd.bool dTestRun4
def fTestRun3 : (Bool × Int) → Prop := fun y => (fun _ : Bool => True) y.1 ∧ fTestRun4 y.2
def dTestRun2 : Kd (Int × Bool × Int) := Kd.pair (Kd.int .i64) dTestRun3
def fTestRun2 : (Int × Bool × Int) → Prop := fun y => (fun n : Int => (Lit.int .i64 n).wf = true) y.1 ∧ fTestRun3 y.2
def dTestRun1 : Kd (ByteArray × Int × Bool × Int) := Kd.pair Kd.string dTestRun2
def fTestRun1 : (ByteArray × Int × Bool × Int) → Prop := fun y => (fun s : ByteArray => s.size ≤ 58720256) y.1 ∧ fTestRun2 y.2
def dTestRun0 : Kd (ByteArray × ByteArray × Int × Bool × Int) := Kd.pair Kd.string dTestRun1
def fTestRun0 : (ByteArray × ByteArray × Int × Bool × Int) → Prop := fun y => (fun s : ByteArray => s.size ≤ 58720256) y.1 ∧ fTestRun1 y.2
def FTestRun (x : TestRun) : ByteArray × ByteArray × Int × Bool × Int := (x.Test, x.Key, x.At, x.Pass, x.Seconds)
def GTestRun (y : ByteArray × ByteArray × Int × Bool × Int) : TestRun := ⟨y.1, y.2.1, y.2.2.1, y.2.2.2.1, y.2.2.2.2⟩
theorem opensFTestRun {fs : Array Field} (h : Tryz.prog.underlying 25 = some (.struct fs)) : OpensF 58720256 Tryz.prog fs.toList 0 dTestRun0 fTestRun0 := by
  rw [Tryz.underlying25] at h
  injection h with h
  injection h with h
  subst h
  exact (OpensF.cons (d := Kd.string) (d2 := dTestRun1) (fit := (fun s : ByteArray => s.size ≤ 58720256)) (fit2 := fTestRun1) (by kernel_rfl) (by kernel_rfl) (Opens.string Tryz.underlying9) (OpensF.cons (d := Kd.string) (d2 := dTestRun2) (fit := (fun s : ByteArray => s.size ≤ 58720256)) (fit2 := fTestRun2) (by kernel_rfl) (by kernel_rfl) (Opens.string Tryz.underlying9) (OpensF.cons (d := (Kd.int .i64)) (d2 := dTestRun3) (fit := (fun n : Int => (Lit.int .i64 n).wf = true)) (fit2 := fTestRun3) (by kernel_rfl) (by kernel_rfl) (Opens.int Tryz.underlying3) (OpensF.cons (d := Kd.bool) (d2 := dTestRun4) (fit := (fun _ : Bool => True)) (fit2 := fTestRun4) (by kernel_rfl) (by kernel_rfl) (Opens.bool Tryz.underlying4) (OpensF.last (d := dTestRun4) (fit := fTestRun4) (by kernel_rfl) (by kernel_rfl) (Opens.int Tryz.underlying3))))))
theorem opensTestRun : Opens 58720256 Tryz.prog 25 kTestRun fitTestRun := by
  have h : Opens 58720256 Tryz.prog 25 (Kd.iso dTestRun0 FTestRun) (fun x => fTestRun0 (FTestRun x)) := Opens.struct (f := FTestRun) (g := GTestRun) Tryz.underlying25 (by kernel_rfl) (by rintro ⟨y0, y1, y2, y3, y4⟩; rfl) (opensFTestRun Tryz.underlying25)
  exact h
theorem own_trialsTextsMatchSpec : ownKnob Tryz.prog.godebug = none := by kernel_rfl
theorem laidOut_trialsTextsMatchSpec : laidOutB Tryz.prog = true := by kernel_rfl
set_option maxRecDepth 100000 in
theorem lifted_trialsTextsMatchSpec (os : Os) (started : os.Started) (H : Type) (enc : TypeId × Value → H) (F : Stop.Interp) :
    ReturnsInHanded {} Tryz.checked os 3 .any ((Rows.OpenSpec.upto Rows.trialsTextsMatchSpecSpec).preRow enc Tryz.prog Tryz.f3 Rows.trialsTextsMatchSpecUptoRow.domain false Rows.trialsTextsMatchSpecUptoRow.laid) (((Rows.OpenSpec.upto Rows.trialsTextsMatchSpecSpec).at F).post enc Tryz.prog Tryz.f3 false true false false) := by
  refine returnsInHanded_of_row (C := Tryz.checked) (s := (Rows.OpenSpec.upto Rows.trialsTextsMatchSpecSpec)) own_trialsTextsMatchSpec started (by kernel_rfl) Tryz.func3
    (witness_row_at (enc := enc) (C := Tryz.checked) false (World.laidAll Tryz.prog os Rows.trialsTextsMatchSpecUptoRow.laid) #[.slice none 0 0] (World.laidAll_os _ _ _) (by kernel_rfl) (by kernel_rfl) (by kernel_rfl)
      (OpenSpec.preRow_of_cond 8 (x := ([.nil], [], [])) (by kernel_rfl) (by kernel_rfl) (fun k hk => by cases hk; kernel_rfl) (by kernel_rfl) (by rw [MakeChecks.laidMetH_plain _ _ _ (by kernel_rfl)]; exact laidMet_laidAll _ (by kernel_rfl) (by kernel_rfl)))) ?_
  intro W base args ds gs before hval0 hW hcnd hcond hsz1 hL hshp _
  have hsz0 := Bulk.small (P := Tryz.prog) (M := 56) (Q := 58720256) (S := [22, 25, 9, 3, 4]) (ts := Tryz.f3.params.toList ++ Rows.trialsTextsMatchSpecSpec.plain.varTypes Tryz.prog) (hcond _ rfl) (by kernel_rfl) (by decide) (by decide) (fun t ht => by have := List.all_eq_true.1 (show ((Tryz.f3.params.toList ++ Rows.trialsTextsMatchSpecSpec.plain.varTypes Tryz.prog).all fun t => [22, 25, 9, 3, 4].contains t) = true by kernel_rfl) t ht; simpa using this)
  haveI : GlobI 0 W := GlobI.of (t := 3) (zero := #[.int .i64 0]) hshp (of_decide_eq_true (by kernel_rfl)) (by kernel_rfl) rfl (by kernel_rfl) (by kernel_rfl) Tryz.underlying3
  haveI : TabI Tryz.prog "internal/strconv.uint64pow10" 1 W := TabI.of (i := 2) (t := 98) (e := 83) (n := 20) (show laidMetH Tryz.prog Rows.trialsTextsMatchSpecUptoRow.laid W from hL) (by kernel_rfl) (by kernel_rfl) (by kernel_rfl) (by kernel_rfl) (by kernel_rfl) (by kernel_rfl) (by kernel_rfl) (by kernel_rfl)
  have hsz : (DataW.weightsEach Tryz.prog (Tryz.f3.params.toList ++ Rows.trialsTextsMatchSpecSpec.plain.varTypes Tryz.prog) (ds ++ gs)).all (· ≤ 58720256) = true := hsz0
  have hval : ∀ (j : Nat) t v, Tryz.f3.params[j]? = some t → args[j]? = some v → Value.okWide Tryz.prog W .any base t v := hval0
  have hW' := hW
  obtain ⟨p, q, hA0, hV, rfl, hfz, hnd⟩ := hW
  have hA : DataW.TrodAll enc Tryz.prog W 0 (fun _ => true) true Tryz.f3.params.toList args.toList ds p := hA0
  rw [Tryz.params3] at hA hval hsz
  obtain ⟨v0, vs0, d0, ds0, p0, q0, hargs, rfl, rfl, h0, r0⟩ := trodAll_cons hA
  obtain ⟨rfl, rfl, rfl⟩ := trodAll_nil r0
  obtain rfl : args = #[v0] := by cases args; simp_all
  obtain ⟨rfl, rfl⟩ := trodVars_none hV
  obtain ⟨A0, len0, cap0, rfl⟩ := okWide_slice Tryz.underlying22 (hval 0 22 v0 rfl rfl)
  have k0 := h0
  have lt0 : ∀ x ∈ p0, x.block < W.heap.size := by obtain ⟨m, hm⟩ := k0; exact DataW.trod_lt m _ _ _ hm
  obtain ⟨fuel0, hf0⟩ := h0
  obtain ⟨a0, ⟨B0, c0, hcs0, hc0, hr0⟩, hfit0⟩ := ((Opens.slice Tryz.underlying22 (by kernel_rfl) (by decide) opensTestRun (B := 56) (by kernel_rfl))).go hf0 (weights_at hsz (j := 0) (t := 22) rfl rfl)
  simp [Value.cells] at hcs0
  obtain ⟨rfl, rfl, rfl⟩ := hcs0
  clear hA0 hval0 hsz0 hsz
  have heq := TrialsTextsMatchSpec_pure a0 hfit0
  refine (smithyardlaw10_TrialsTextsMatchSpec_c (w0 := W) (H := hp W) (F := []) (Rw.of hr0) hc0 rfl heq W (Heap.start W)).mono ?_
  rintro e W' ⟨v, rfl, H', cs', _, hh, _, rfl, _⟩
  have bel : Below W.heap.size W W' := hh.ext
  exact ⟨_, rfl, _, _, _, [], _, [], hW', trodAll_mk1 (shut_bool Tryz.underlying4 _), (trodAll_cons_mk (Below.trod laidOut_trialsTextsMatchSpec (by kernel_rfl) (of_decide_eq_true (by kernel_rfl)) k0 bel lt0) trodAll_mk0), rfl, bel.frame _, fun h => by cases h⟩
theorem closed_trialsTextsMatchSpec : joinedFacts Tryz.prog 3 Tryz.f3 Rows.trialsTextsMatchSpecSpec Rows.trialsTextsMatchSpecUptoRow = true := by
  unfold joinedFacts
  rw [fact_enter, fact_final, fact_make]
  kernel_rfl
set_option maxRecDepth 100000 in
theorem trialsTextsMatchSpec_row : Rows.TrialsTextsMatchSpecUptoSaid :=
  OpenClaim.holds_of_cond 3 Tryz.f3 rfl rfl rfl rfl rfl rfl rfl ⟨rfl, rfl, rfl, rfl, rfl⟩ rfl rfl rfl rfl rfl (by kernel_rfl) Tryz.func3 closed_trialsTextsMatchSpec
    (of_decide_eq_true (by kernel_rfl)) (by unfold Func.isWrapper; first | (rw [if_pos (by decide +kernel)]; kernel_rfl) | (rw [if_neg (by decide +kernel)]; exact ⟨rfl, rfl⟩))
    (fun os started H enc _ F => by rw [OpenClaim.pre_eq_preRow]; exact lifted_trialsTextsMatchSpec os started H enc F)
theorem trialsTextsMatchSpec_holds : Rows.TrialsTextsMatchSpecUptoCardSaid :=
  Claim7.holds_tied_plain_at .later [] [.data, .data, .data, .data, .sentinel, .sentinel, .pinned] true (true, "d6317d01759e37790c64621de52d04db152646ea6d54c200718188cd729dac4d") true trialsTextsMatchSpec_row (fun _ h => by cases h) (by kernel_rfl) (fun _ h => by cases h) trialsTextsMatchSpecUpto_row_tie rfl ⟨rfl, rfl⟩ fact_main rfl
    (fun f fn hf hfn => by
      obtain rfl : f = 3 := Option.some.inj ((show Tryz.prog.funcNamed "smithyard/smithyardlaw10.TrialsTextsMatchSpec" = some 3 by kernel_rfl).symm.trans hf) |>.symm
      obtain rfl : fn = Tryz.f3 := (Option.some.inj (Tryz.func3.symm.trans hfn)).symm
      exact ⟨by kernel_rfl, fun j t ht => by
        rw [Tryz.params3] at ht
        have hm : t ∈ [22] := by simpa using Array.mem_of_getElem? ht
        have hall : ([22].all fun u => !Tryz.prog.wantsStandIn u) = true := by kernel_rfl
        exact (show Tryz.prog.wantsStandIn t = false by simpa using List.all_eq_true.1 hall t hm)⟩)
    (by kernel_rfl)
#print axioms trialsTextsMatchSpec_holds
end Go.Proofs.YtamacaieccppaaaGreatDoor
