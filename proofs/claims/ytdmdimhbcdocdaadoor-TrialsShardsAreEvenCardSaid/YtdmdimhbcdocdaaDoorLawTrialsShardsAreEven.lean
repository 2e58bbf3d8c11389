/- TrialsShardsAreEven: for every input the law returns true and leaves its arguments as they were; its package-level variables start as the program's text lays them. -/
import Derived.Test.YtdmdimhbcdocdaaDoorRows
import Derived.Test.YtdmdimhbcdocdaaDoorCards
import Derived.Test.YtdmdimhbcdocdaaDoorTie
import Derived.Test.YtdmdimhbcdocdaaDoorZ3M
import Derived.Test.YtdmdimhbcdocdaaDoorKitR
import Derived.Test.YtdmdimhbcdocdaaDoorFacts
import Derived.Test.YtdmdimhbcdocdaaDoorPureTrialsShardsAreEven
import Derived.WalkKit
import Derived.ProofKit
import Derived.OpenShut
import Derived.ShutString
import Derived.ChangeOld
import Derived.Below
import Derived.SizedLaws
import Derived.LaidMore
import Derived.Lay
import Derived.SevenTiedAt
import Derived.Stop.Joined
namespace Go.Proofs.YtdmdimhbcdocdaaDoor
open Go Go.ChangeShapes Go.WideShapes Go.ChangeAt Go.RowKit Go.Proofs.YtdmdimhbcdocdaaDoor.Kit
open Go.ChangeMaps (open_string shut_string)
set_option linter.unusedVariables false
def dTestCase1 : Kd (Int) := (Kd.int .i64)
def fTestCase1 : Int → Prop := (fun n : Int => (Lit.int .i64 n).wf = true)
def dTestCase0 : Kd (ByteArray × Int) := Kd.pair Kd.string dTestCase1
def fTestCase0 : (ByteArray × Int) → Prop := fun y => (fun s : ByteArray => s.size ≤ reachBytes) y.1 ∧ fTestCase1 y.2
def FTestCase (x : TestCase) : ByteArray × Int := (x.Name, x.Seconds)
def GTestCase (y : ByteArray × Int) : TestCase := ⟨y.1, y.2⟩
theorem opensFTestCase {fs : Array Field} (h : Tryd.prog.underlying 39 = some (.struct fs)) : OpensF reachBytes Tryd.prog fs.toList 0 dTestCase0 fTestCase0 := by
  rw [Tryd.underlying39] at h
  injection h with h
  injection h with h
  subst h
  exact (OpensF.cons (d := Kd.string) (d2 := dTestCase1) (fit := (fun s : ByteArray => s.size ≤ reachBytes)) (fit2 := fTestCase1) (by kernel_rfl) (by kernel_rfl) (Opens.string Tryd.underlying9) (OpensF.last (d := dTestCase1) (fit := fTestCase1) (by kernel_rfl) (by kernel_rfl) (Opens.int Tryd.underlying3)))
theorem opensTestCase : Opens reachBytes Tryd.prog 39 kTestCase fitTestCase := by
  have h : Opens reachBytes Tryd.prog 39 (Kd.iso dTestCase0 FTestCase) (fun x => fTestCase0 (FTestCase x)) := Opens.struct (f := FTestCase) (g := GTestCase) Tryd.underlying39 (by kernel_rfl) (by rintro ⟨y0, y1⟩; rfl) (opensFTestCase Tryd.underlying39)
  exact h
def dTest1 : Kd ((List TestCase)) := (Kd.slice kTestCase)
def fTest1 : (List TestCase) → Prop := (fun xs : List TestCase => xs.length * 24 ≤ reachBytes ∧ ∀ x ∈ xs, fitTestCase x)
def dTest0 : Kd (ByteArray × (List TestCase)) := Kd.pair Kd.string dTest1
def fTest0 : (ByteArray × (List TestCase)) → Prop := fun y => (fun s : ByteArray => s.size ≤ reachBytes) y.1 ∧ fTest1 y.2
def FTest (x : Test) : ByteArray × (List TestCase) := (x.Name, x.Cases)
def GTest (y : ByteArray × (List TestCase)) : Test := ⟨y.1, y.2⟩
theorem opensFTest {fs : Array Field} (h : Tryd.prog.underlying 24 = some (.struct fs)) : OpensF reachBytes Tryd.prog fs.toList 0 dTest0 fTest0 := by
  rw [Tryd.underlying24] at h
  injection h with h
  injection h with h
  subst h
  exact (OpensF.cons (d := Kd.string) (d2 := dTest1) (fit := (fun s : ByteArray => s.size ≤ reachBytes)) (fit2 := fTest1) (by kernel_rfl) (by kernel_rfl) (Opens.string Tryd.underlying9) (OpensF.last (d := dTest1) (fit := fTest1) (by kernel_rfl) (by kernel_rfl) (Opens.slice Tryd.underlying22 (by kernel_rfl) (by decide) opensTestCase (B := 24) (by kernel_rfl))))
theorem opensTest : Opens reachBytes Tryd.prog 24 kTest fitTest := by
  have h : Opens reachBytes Tryd.prog 24 (Kd.iso dTest0 FTest) (fun x => fTest0 (FTest x)) := Opens.struct (f := FTest) (g := GTest) Tryd.underlying24 (by kernel_rfl) (by rintro ⟨y0, y1⟩; rfl) (opensFTest Tryd.underlying24)
  exact h
theorem own_trialsShardsAreEven : ownKnob Tryd.prog.godebug = none := by kernel_rfl
theorem laidOut_trialsShardsAreEven : laidOutB Tryd.prog = true := by kernel_rfl
set_option maxRecDepth 100000 in
theorem lifted_trialsShardsAreEven (os : Os) (started : os.Started) (H : Type) (enc : TypeId × Value → H) :
    ReturnsInHanded {} Tryd.checked os 3 .any (fun w args => (Rows.trialsShardsAreEvenSpec.pre enc Tryd.prog Tryd.f3 Rows.trialsShardsAreEvenRow.domain false w args ∧ laidMetH Tryd.prog Rows.trialsShardsAreEvenRow.laid w) ∧ sizedMet enc Tryd.prog Tryd.f3 (OpenSpec.ofChange Rows.trialsShardsAreEvenSpec) false w args) (Rows.trialsShardsAreEvenSpec.post enc Tryd.prog Tryd.f3 false true false false) := by
  refine returnsInHanded_both (C := Tryd.checked) (X := fun w _ => laidMetH Tryd.prog Rows.trialsShardsAreEvenRow.laid w) (fun _ _ _ hh h => h.of_heap hh) own_trialsShardsAreEven started (by kernel_rfl) Tryd.func3
    (ChangeSpec.witness_shaped (enc := enc) (C := Tryd.checked) (os := os) (X := fun w _ => laidMetH Tryd.prog Rows.trialsShardsAreEvenRow.laid w) false (World.laidAll Tryd.prog os Rows.trialsShardsAreEvenRow.laid) #[.agg #[.string ByteArray.empty, .slice none 0 0], .int .i64 0] 8 (World.laidAll_os _ _ _)
      (World.shaped_of_ZipB (by kernel_rfl) (by kernel_rfl)) (by kernel_rfl) (by kernel_rfl) (by kernel_rfl)
      (by rw [MakeChecks.laidMetH_plain _ _ _ (by kernel_rfl)]; exact laidMet_laidAll _ (by kernel_rfl) (by kernel_rfl))) ?_
  intro W base args ds gs before hval0 hW hcnd hsz0 hL hshp _
  haveI : GlobI 0 W := GlobI.of (t := 3) (zero := #[.int .i64 0]) hshp (of_decide_eq_true (by kernel_rfl)) (by kernel_rfl) rfl (by kernel_rfl) (by kernel_rfl) Tryd.underlying3
  have hsz : (DataW.weightsEach Tryd.prog (Tryd.f3.params.toList ++ Rows.trialsShardsAreEvenSpec.plain.varTypes Tryd.prog) (ds ++ gs)).all (· ≤ reachBytes) = true := hsz0
  have hval : ∀ (j : Nat) t v, Tryd.f3.params[j]? = some t → args[j]? = some v → Value.okWide Tryd.prog W .any base t v := hval0
  have hW' := hW
  obtain ⟨p, q, hA0, hV, rfl, hfz, hnd⟩ := hW
  have hA : DataW.TrodAll enc Tryd.prog W 0 (fun _ => true) true Tryd.f3.params.toList args.toList ds p := hA0
  rw [Tryd.params3] at hA hval hsz
  obtain ⟨v0, vs0, d0, ds0, p0, q0, hargs, rfl, rfl, h0, r0⟩ := trodAll_cons hA
  obtain ⟨v1, vs1, d1, ds1, p1, q1, rfl, rfl, rfl, h1, r1⟩ := trodAll_cons r0
  obtain ⟨rfl, rfl, rfl⟩ := trodAll_nil r1
  obtain rfl : args = #[v0, v1] := by cases args; simp_all
  obtain ⟨rfl, rfl⟩ := trodVars_none hV
  obtain ⟨cs0, rfl, hsize0⟩ := okWide_struct Tryd.underlying24 (hval 0 24 v0 rfl rfl)
  have k0 := h0
  have lt0 : ∀ x ∈ p0, x.block < W.heap.size := by obtain ⟨m, hm⟩ := k0; exact DataW.trod_lt m _ _ _ hm
  obtain ⟨fuel0, hf0⟩ := h0
  obtain ⟨a0, hK0, hfit0⟩ := (opensTest).go hf0 (weights_at hsz (j := 0) (t := 24) rfl rfl)
  obtain ⟨A0_1, c0_1, hcs0, hc0_1, hr0_1⟩ := kTest_open hK0
  obtain rfl : cs0 = #[.string a0.Name, .slice A0_1 a0.Cases.length c0_1] := by cases cs0; simpa [Value.cells] using hcs0
  obtain ⟨a1, rfl, rfl, rfl, w1⟩ := open_int Tryd.underlying3 (hval 1 3 v1 rfl rfl) h1
  clear hA0 hval0 hsz0 hsz
  have heq := TrialsShardsAreEven_pure a0 a1 hfit0 w1
  refine (smithyardlaw10_TrialsShardsAreEven_c (w0 := W) (H0 := hp W) (F := []) heq (Rw.of hr0_1) hc0_1 rfl W (Heap.start W)).mono ?_
  rintro e W' ⟨v, rfl, H', cs', _, hh, rfl, _⟩
  have bel : Below W.heap.size W W' := hh.ext
  exact ⟨_, rfl, _, _, _, [], _, [], hW', trodAll_mk1 (shut_bool Tryd.underlying4 _), (trodAll_cons_mk (Below.trod laidOut_trialsShardsAreEven (by kernel_rfl) (of_decide_eq_true (by kernel_rfl)) k0 bel lt0) (trodAll_cons_mk (shut_int Tryd.underlying3 w1) trodAll_mk0)), rfl, bel.frame _, fun h => by cases h⟩
theorem closed_trialsShardsAreEven : joinedFacts Tryd.prog 3 Tryd.f3 Rows.trialsShardsAreEvenSpec Rows.trialsShardsAreEvenRow = true := by
  unfold joinedFacts
  rw [fact_enter, fact_final, fact_make]
  kernel_rfl
set_option maxRecDepth 100000 in
theorem trialsShardsAreEven_row : Rows.TrialsShardsAreEvenSaid :=
  OpenClaim.holds_of_wide 3 Tryd.f3 rfl rfl rfl rfl rfl rfl rfl ⟨rfl, rfl, rfl, rfl, rfl⟩ rfl rfl rfl rfl rfl (by kernel_rfl) Tryd.func3 closed_trialsShardsAreEven
    (of_decide_eq_true (by kernel_rfl)) (by unfold Func.isWrapper; first | (rw [if_pos (by decide +kernel)]; kernel_rfl) | (rw [if_neg (by decide +kernel)]; exact ⟨rfl, rfl⟩))
    (fun os started H enc _ => lifted_trialsShardsAreEven os started H enc)
theorem trialsShardsAreEven_holds : Rows.TrialsShardsAreEvenCardSaid :=
  Claim7.holds_tied_plain_at .later [] [.data, .pinned] true (true, "02a5047b998362d45e672728c9494a3a565c3daf0d33d9f3e07a630eef77d5ca") false trialsShardsAreEven_row (fun _ h => by cases h) (by kernel_rfl) (fun _ h => by cases h) trialsShardsAreEven_row_tie rfl ⟨rfl, rfl⟩ fact_main rfl
    (fun f fn hf hfn => by
      obtain rfl : f = 3 := Option.some.inj ((show Tryd.prog.funcNamed "smithyard/smithyardlaw10.TrialsShardsAreEven" = some 3 by kernel_rfl).symm.trans hf) |>.symm
      obtain rfl : fn = Tryd.f3 := (Option.some.inj (Tryd.func3.symm.trans hfn)).symm
      exact ⟨by kernel_rfl, fun j t ht => by
        rw [Tryd.params3] at ht
        have hm : t ∈ [24, 3] := by simpa using Array.mem_of_getElem? ht
        have hall : ([24, 3].all fun u => !Tryd.prog.wantsStandIn u) = true := by kernel_rfl
        exact (show Tryd.prog.wantsStandIn t = false by simpa using List.all_eq_true.1 hall t hm)⟩)
    (by kernel_rfl)
#print axioms trialsShardsAreEven_holds
end Go.Proofs.YtdmdimhbcdocdaaDoor
