/- TrialsShardsMatchSpec: for every input the law returns true and leaves its arguments as they were; its package-level variables start as the program's text lays them. -/
import Derived.Test.YtedkdnhhohcocaaDoorRows
import Derived.Test.YtedkdnhhohcocaaDoorBulk
import Derived.Test.YtedkdnhhohcocaaDoorCards
import Derived.Test.YtedkdnhhohcocaaDoorTie
import Derived.Test.YtedkdnhhohcocaaDoorZ3M
import Derived.Test.YtedkdnhhohcocaaDoorKitR
import Derived.Test.YtedkdnhhohcocaaDoorFacts
import Derived.Test.YtedkdnhhohcocaaDoorPureTrialsShardsMatchSpec
import Derived.WalkKit
import Derived.ProofKit
import Derived.OpenShut
import Derived.ShutString
import Derived.ChangeOld
import Derived.Below
import Derived.SizedLaws
import Derived.LaidMore
import Derived.Lay
import Derived.SevenTiedAt
import Derived.Stop.Joined
import Derived.Deep.DeepHandedRow
namespace Go.Proofs.YtedkdnhhohcocaaDoor
open Go Go.ChangeShapes Go.WideShapes Go.ChangeAt Go.RowKit Go.Proofs.YtedkdnhhohcocaaDoor.Kit
open Go.ChangeMaps (open_string shut_string)
set_option linter.unusedVariables false
def dTestCase1 : Kd (Int) := (Kd.int .i64)
def fTestCase1 : Int → Prop := (fun n : Int => (Lit.int .i64 n).wf = true)
def dTestCase0 : Kd (ByteArray × Int) := Kd.pair Kd.string dTestCase1
def fTestCase0 : (ByteArray × Int) → Prop := fun y => (fun s : ByteArray => s.size ≤ 25165824) y.1 ∧ fTestCase1 y.2
def FTestCase (x : TestCase) : ByteArray × Int := (x.Name, x.Seconds)
def GTestCase (y : ByteArray × Int) : TestCase := ⟨y.1, y.2⟩
theorem opensFTestCase {fs : Array Field} (h : Tryd.prog.underlying 40 = some (.struct fs)) : OpensF 25165824 Tryd.prog fs.toList 0 dTestCase0 fTestCase0 := by
  rw [Tryd.underlying40] at h
  injection h with h
  injection h with h
  subst h
  exact (OpensF.cons (d := Kd.string) (d2 := dTestCase1) (fit := (fun s : ByteArray => s.size ≤ 25165824)) (fit2 := fTestCase1) (by kernel_rfl) (by kernel_rfl) (Opens.string Tryd.underlying9) (OpensF.last (d := dTestCase1) (fit := fTestCase1) (by kernel_rfl) (by kernel_rfl) (Opens.int Tryd.underlying3)))
theorem opensTestCase : Opens 25165824 Tryd.prog 40 kTestCase fitTestCase := by
  have h : Opens 25165824 Tryd.prog 40 (Kd.iso dTestCase0 FTestCase) (fun x => fTestCase0 (FTestCase x)) := Opens.struct (f := FTestCase) (g := GTestCase) Tryd.underlying40 (by kernel_rfl) (by rintro ⟨y0, y1⟩; rfl) (opensFTestCase Tryd.underlying40)
  exact h
def dTest1 : Kd ((List TestCase)) := (Kd.slice kTestCase)
def fTest1 : (List TestCase) → Prop := (fun xs : List TestCase => xs.length * 24 ≤ 25165824 ∧ ∀ x ∈ xs, fitTestCase x)
def dTest0 : Kd (ByteArray × (List TestCase)) := Kd.pair Kd.string dTest1
def fTest0 : (ByteArray × (List TestCase)) → Prop := fun y => (fun s : ByteArray => s.size ≤ 25165824) y.1 ∧ fTest1 y.2
def FTest (x : Test) : ByteArray × (List TestCase) := (x.Name, x.Cases)
def GTest (y : ByteArray × (List TestCase)) : Test := ⟨y.1, y.2⟩
theorem opensFTest {fs : Array Field} (h : Tryd.prog.underlying 24 = some (.struct fs)) : OpensF 25165824 Tryd.prog fs.toList 0 dTest0 fTest0 := by
  rw [Tryd.underlying24] at h
  injection h with h
  injection h with h
  subst h
  exact (OpensF.cons (d := Kd.string) (d2 := dTest1) (fit := (fun s : ByteArray => s.size ≤ 25165824)) (fit2 := fTest1) (by kernel_rfl) (by kernel_rfl) (Opens.string Tryd.underlying9) (OpensF.last (d := dTest1) (fit := fTest1) (by kernel_rfl) (by kernel_rfl) (Opens.slice Tryd.underlying22 (by kernel_rfl) (by decide) opensTestCase (B := 24) (by kernel_rfl))))
theorem opensTest : Opens 25165824 Tryd.prog 24 kTest fitTest := by
  have h : Opens 25165824 Tryd.prog 24 (Kd.iso dTest0 FTest) (fun x => fTest0 (FTest x)) := Opens.struct (f := FTest) (g := GTest) Tryd.underlying24 (by kernel_rfl) (by rintro ⟨y0, y1⟩; rfl) (opensFTest Tryd.underlying24)
  exact h
theorem own_trialsShardsMatchSpec : ownKnob Tryd.prog.godebug = none := by kernel_rfl
theorem laidOut_trialsShardsMatchSpec : laidOutB Tryd.prog = true := by kernel_rfl
set_option maxRecDepth 100000 in
theorem lifted_trialsShardsMatchSpec (os : Os) (started : os.Started) (H : Type) (enc : TypeId × Value → H) (F : Stop.Interp) :
    ReturnsInHanded {} Tryd.checked os 3 .any ((Rows.OpenSpec.upto Rows.trialsShardsMatchSpecSpec).preRow enc Tryd.prog Tryd.f3 Rows.trialsShardsMatchSpecUptoRow.domain false Rows.trialsShardsMatchSpecUptoRow.laid) (((Rows.OpenSpec.upto Rows.trialsShardsMatchSpecSpec).at F).post enc Tryd.prog Tryd.f3 false true false false) := by
  refine returnsInHanded_of_row (C := Tryd.checked) (s := (Rows.OpenSpec.upto Rows.trialsShardsMatchSpecSpec)) own_trialsShardsMatchSpec started (by kernel_rfl) Tryd.func3
    (witness_row_at (enc := enc) (C := Tryd.checked) false (World.laidAll Tryd.prog os Rows.trialsShardsMatchSpecUptoRow.laid) #[.agg #[.string ByteArray.empty, .slice none 0 0], .int .i64 0, .slice none 0 0] (World.laidAll_os _ _ _) (by kernel_rfl) (by kernel_rfl) (by kernel_rfl)
      (OpenSpec.preRow_of_cond 8 (x := ([.agg [.lit (.string []), .nil], .lit (.int .i64 0), .nil], [], [])) (by kernel_rfl) (by kernel_rfl) (fun k hk => by cases hk; kernel_rfl) (by kernel_rfl) (by rw [MakeChecks.laidMetH_plain _ _ _ (by kernel_rfl)]; exact laidMet_laidAll _ (by kernel_rfl) (by kernel_rfl)))) ?_
  intro W base args ds gs before hval0 hW hcnd hcond hsz1 hL hshp _
  have hsz0 := Bulk.small (P := Tryd.prog) (M := 24) (Q := 25165824) (S := [24, 9, 22, 40, 3, 25, 41]) (ts := Tryd.f3.params.toList ++ Rows.trialsShardsMatchSpecSpec.plain.varTypes Tryd.prog) (hcond _ rfl) (by kernel_rfl) (by decide) (by decide) (fun t ht => by have := List.all_eq_true.1 (show ((Tryd.f3.params.toList ++ Rows.trialsShardsMatchSpecSpec.plain.varTypes Tryd.prog).all fun t => [24, 9, 22, 40, 3, 25, 41].contains t) = true by kernel_rfl) t ht; simpa using this)
  haveI : GlobI 0 W := GlobI.of (t := 3) (zero := #[.int .i64 0]) hshp (of_decide_eq_true (by kernel_rfl)) (by kernel_rfl) rfl (by kernel_rfl) (by kernel_rfl) Tryd.underlying3
  have hsz : (DataW.weightsEach Tryd.prog (Tryd.f3.params.toList ++ Rows.trialsShardsMatchSpecSpec.plain.varTypes Tryd.prog) (ds ++ gs)).all (· ≤ 25165824) = true := hsz0
  have hval : ∀ (j : Nat) t v, Tryd.f3.params[j]? = some t → args[j]? = some v → Value.okWide Tryd.prog W .any base t v := hval0
  have hW' := hW
  obtain ⟨p, q, hA0, hV, rfl, hfz, hnd⟩ := hW
  have hA : DataW.TrodAll enc Tryd.prog W 0 (fun _ => true) true Tryd.f3.params.toList args.toList ds p := hA0
  rw [Tryd.params3] at hA hval hsz
  obtain ⟨v0, vs0, d0, ds0, p0, q0, hargs, rfl, rfl, h0, r0⟩ := trodAll_cons hA
  obtain ⟨v1, vs1, d1, ds1, p1, q1, rfl, rfl, rfl, h1, r1⟩ := trodAll_cons r0
  obtain ⟨v2, vs2, d2, ds2, p2, q2, rfl, rfl, rfl, h2, r2⟩ := trodAll_cons r1
  obtain ⟨rfl, rfl, rfl⟩ := trodAll_nil r2
  obtain rfl : args = #[v0, v1, v2] := by cases args; simp_all
  obtain ⟨rfl, rfl⟩ := trodVars_none hV
  obtain ⟨cs0, rfl, hsize0⟩ := okWide_struct Tryd.underlying24 (hval 0 24 v0 rfl rfl)
  have k0 := h0
  have lt0 : ∀ x ∈ p0, x.block < W.heap.size := by obtain ⟨m, hm⟩ := k0; exact DataW.trod_lt m _ _ _ hm
  obtain ⟨fuel0, hf0⟩ := h0
  obtain ⟨a0, hK0, hfit0⟩ := (opensTest).go hf0 (weights_at hsz (j := 0) (t := 24) rfl rfl)
  obtain ⟨A0_1, c0_1, hcs0, hc0_1, hr0_1⟩ := kTest_open hK0
  obtain rfl : cs0 = #[.string a0.Name, .slice A0_1 a0.Cases.length c0_1] := by cases cs0; simpa [Value.cells] using hcs0
  obtain ⟨a1, rfl, rfl, rfl, w1⟩ := open_int Tryd.underlying3 (hval 1 3 v1 rfl rfl) h1
  obtain ⟨A2, len2, cap2, rfl⟩ := okWide_slice Tryd.underlying25 (hval 2 25 v2 rfl rfl)
  have k2 := h2
  have lt2 : ∀ x ∈ p2, x.block < W.heap.size := by obtain ⟨m, hm⟩ := k2; exact DataW.trod_lt m _ _ _ hm
  obtain ⟨fuel2, hf2⟩ := h2
  obtain ⟨a2, ⟨B2, c2, hcs2, hc2, hr2⟩, hfit2⟩ := ((Opens.slice Tryd.underlying25 (by kernel_rfl) (by decide) (Opens.slice Tryd.underlying41 (by kernel_rfl) (by decide) (Opens.string Tryd.underlying9) (B := 16) (by kernel_rfl)) (B := 24) (by kernel_rfl))).go hf2 (weights_at hsz (j := 2) (t := 25) rfl rfl)
  simp [Value.cells] at hcs2
  obtain ⟨rfl, rfl, rfl⟩ := hcs2
  clear hA0 hval0 hsz0 hsz
  have heq := TrialsShardsMatchSpec_pure a0 a1 a2 hfit0 w1 hfit2
  refine (smithyardlaw10_TrialsShardsMatchSpec_c (w0 := W) (H0 := hp W) (F := []) heq (Rw.of hr0_1) hc0_1 rfl (Rw.of hr2) hc2 rfl W (Heap.start W)).mono ?_
  rintro e W' ⟨v, rfl, H', cs', _, hh, rfl, _⟩
  have bel : Below W.heap.size W W' := hh.ext
  exact ⟨_, rfl, _, _, _, [], _, [], hW', trodAll_mk1 (shut_bool Tryd.underlying4 _), (trodAll_cons_mk (Below.trod laidOut_trialsShardsMatchSpec (by kernel_rfl) (of_decide_eq_true (by kernel_rfl)) k0 bel lt0) (trodAll_cons_mk (shut_int Tryd.underlying3 w1) (trodAll_cons_mk (Below.trod laidOut_trialsShardsMatchSpec (by kernel_rfl) (of_decide_eq_true (by kernel_rfl)) k2 bel lt2) trodAll_mk0))), rfl, bel.frame _, fun h => by cases h⟩
theorem closed_trialsShardsMatchSpec : joinedFacts Tryd.prog 3 Tryd.f3 Rows.trialsShardsMatchSpecSpec Rows.trialsShardsMatchSpecUptoRow = true := by
  unfold joinedFacts
  rw [fact_enter, fact_final, fact_make]
  kernel_rfl
set_option maxRecDepth 100000 in
theorem trialsShardsMatchSpec_row : Rows.TrialsShardsMatchSpecUptoSaid :=
  OpenClaim.holds_of_cond 3 Tryd.f3 rfl rfl rfl rfl rfl rfl rfl ⟨rfl, rfl, rfl, rfl, rfl⟩ rfl rfl rfl rfl rfl (by kernel_rfl) Tryd.func3 closed_trialsShardsMatchSpec
    (of_decide_eq_true (by kernel_rfl)) (by unfold Func.isWrapper; first | (rw [if_pos (by decide +kernel)]; kernel_rfl) | (rw [if_neg (by decide +kernel)]; exact ⟨rfl, rfl⟩))
    (fun os started H enc _ F => by rw [OpenClaim.pre_eq_preRow]; exact lifted_trialsShardsMatchSpec os started H enc F)
theorem trialsShardsMatchSpec_holds : Rows.TrialsShardsMatchSpecUptoCardSaid :=
  Claim7.holds_tied_plain_at .later [] [.data, .pinned] true (true, "b53db07084250e6d4bcc4386469565aeedaa0d6ec36a6e96f430db2d5b2c72e6") false trialsShardsMatchSpec_row (fun _ h => by cases h) (by kernel_rfl) (fun _ h => by cases h) trialsShardsMatchSpecUpto_row_tie rfl ⟨rfl, rfl⟩ fact_main rfl
    (fun f fn hf hfn => by
      obtain rfl : f = 3 := Option.some.inj ((show Tryd.prog.funcNamed "smithyard/smithyardlaw10.TrialsShardsMatchSpec" = some 3 by kernel_rfl).symm.trans hf) |>.symm
      obtain rfl : fn = Tryd.f3 := (Option.some.inj (Tryd.func3.symm.trans hfn)).symm
      exact ⟨by kernel_rfl, fun j t ht => by
        rw [Tryd.params3] at ht
        have hm : t ∈ [24, 3, 25] := by simpa using Array.mem_of_getElem? ht
        have hall : ([24, 3, 25].all fun u => !Tryd.prog.wantsStandIn u) = true := by kernel_rfl
        exact (show Tryd.prog.wantsStandIn t = false by simpa using List.all_eq_true.1 hall t hm)⟩)
    (by kernel_rfl)
#print axioms trialsShardsMatchSpec_holds
end Go.Proofs.YtedkdnhhohcocaaDoor
