/- WorkersTextsMatchSpec: for every input the law returns true and leaves its arguments as they were; its package-level variables start as the program's text lays them. -/
import Derived.Test.YtdccapcfbielcaaGreatDoorRows
import Derived.Test.YtdccapcfbielcaaGreatDoorCards
import Derived.Test.YtdccapcfbielcaaGreatDoorTie
import Derived.Test.YtdccapcfbielcaaGreatDoorZ3M
import Derived.Test.YtdccapcfbielcaaGreatDoorKitR
import Derived.Test.YtdccapcfbielcaaGreatDoorFacts
import Derived.Test.YtdccapcfbielcaaGreatDoorPureWorkersTextsMatchSpec
import Derived.WalkKit
import Derived.ProofKit
import Derived.OpenShut
import Derived.ShutString
import Derived.ChangeOld
import Derived.Below
import Derived.SizedLaws
import Derived.LaidMore
import Derived.Lay
import Derived.SevenTiedAt
import Derived.Stop.Joined
namespace Go.Proofs.YtdccapcfbielcaaGreatDoor
open Go Go.ChangeShapes Go.WideShapes Go.ChangeAt Go.RowKit Go.Proofs.YtdccapcfbielcaaGreatDoor.Kit
open Go.ChangeMaps (open_string shut_string)
set_option linter.unusedVariables false
def dRun4 : Kd (Int) := (Kd.int .i64)
def fRun4 : Int → Prop := (fun n : Int => (Lit.int .i64 n).wf = true)
def dRun3 : Kd (Int × Int) := Kd.pair (Kd.int .i64) dRun4
def fRun3 : (Int × Int) → Prop := fun y => (fun n : Int => (Lit.int .i64 n).wf = true) y.1 ∧ fRun4 y.2
def dRun2 : Kd (Int × Int × Int) := Kd.pair (Kd.int .i64) dRun3
def fRun2 : (Int × Int × Int) → Prop := fun y => (fun n : Int => (Lit.int .i64 n).wf = true) y.1 ∧ fRun3 y.2
def dRun1 : Kd (ByteArray × Int × Int × Int) := Kd.pair Kd.string dRun2
def fRun1 : (ByteArray × Int × Int × Int) → Prop := fun y => (fun s : ByteArray => s.size ≤ reachBytes) y.1 ∧ fRun2 y.2
def dRun0 : Kd (ByteArray × ByteArray × Int × Int × Int) := Kd.pair Kd.string dRun1
def fRun0 : (ByteArray × ByteArray × Int × Int × Int) → Prop := fun y => (fun s : ByteArray => s.size ≤ reachBytes) y.1 ∧ fRun1 y.2
def FRun (x : Run) : ByteArray × ByteArray × Int × Int × Int := (x.Id, x.Worker, x.From, x.To, x.End)
def GRun (y : ByteArray × ByteArray × Int × Int × Int) : Run := ⟨y.1, y.2.1, y.2.2.1, y.2.2.2.1, y.2.2.2.2⟩
theorem opensFRun {fs : Array Field} (h : Tryz.prog.underlying 25 = some (.struct fs)) : OpensF reachBytes Tryz.prog fs.toList 0 dRun0 fRun0 := by
  rw [Tryz.underlying25] at h
  injection h with h
  injection h with h
  subst h
  exact (OpensF.cons (d := Kd.string) (d2 := dRun1) (fit := (fun s : ByteArray => s.size ≤ reachBytes)) (fit2 := fRun1) (by kernel_rfl) (by kernel_rfl) (Opens.string Tryz.underlying9) (OpensF.cons (d := Kd.string) (d2 := dRun2) (fit := (fun s : ByteArray => s.size ≤ reachBytes)) (fit2 := fRun2) (by kernel_rfl) (by kernel_rfl) (Opens.string Tryz.underlying9) (OpensF.cons (d := (Kd.int .i64)) (d2 := dRun3) (fit := (fun n : Int => (Lit.int .i64 n).wf = true)) (fit2 := fRun3) (by kernel_rfl) (by kernel_rfl) (Opens.int Tryz.underlying3) (OpensF.cons (d := (Kd.int .i64)) (d2 := dRun4) (fit := (fun n : Int => (Lit.int .i64 n).wf = true)) (fit2 := fRun4) (by kernel_rfl) (by kernel_rfl) (Opens.int Tryz.underlying3) (OpensF.last (d := dRun4) (fit := fRun4) (by kernel_rfl) (by kernel_rfl) (Opens.int Tryz.underlying3))))))
theorem opensRun : Opens reachBytes Tryz.prog 25 kRun fitRun := by
  have h : Opens reachBytes Tryz.prog 25 (Kd.iso dRun0 FRun) (fun x => fRun0 (FRun x)) := Opens.struct (f := FRun) (g := GRun) Tryz.underlying25 (by kernel_rfl) (by rintro ⟨y0, y1, y2, y3, y4⟩; rfl) (opensFRun Tryz.underlying25)
  exact h
theorem own_workersTextsMatchSpec : ownKnob Tryz.prog.godebug = none := by kernel_rfl
theorem laidOut_workersTextsMatchSpec : laidOutB Tryz.prog = true := by kernel_rfl
set_option maxRecDepth 100000 in
theorem lifted_workersTextsMatchSpec (os : Os) (started : os.Started) (H : Type) (enc : TypeId × Value → H) :
    ReturnsInHanded {} Tryz.checked os 3 .any (fun w args => (Rows.workersTextsMatchSpecSpec.pre enc Tryz.prog Tryz.f3 Rows.workersTextsMatchSpecRow.domain false w args ∧ laidMetH Tryz.prog Rows.workersTextsMatchSpecRow.laid w) ∧ sizedMet enc Tryz.prog Tryz.f3 (OpenSpec.ofChange Rows.workersTextsMatchSpecSpec) false w args) (Rows.workersTextsMatchSpecSpec.post enc Tryz.prog Tryz.f3 false true false false) := by
  refine returnsInHanded_both (C := Tryz.checked) (X := fun w _ => laidMetH Tryz.prog Rows.workersTextsMatchSpecRow.laid w) (fun _ _ _ hh h => h.of_heap hh) own_workersTextsMatchSpec started (by kernel_rfl) Tryz.func3
    (ChangeSpec.witness_shaped (enc := enc) (C := Tryz.checked) (os := os) (X := fun w _ => laidMetH Tryz.prog Rows.workersTextsMatchSpecRow.laid w) false (World.laidAll Tryz.prog os Rows.workersTextsMatchSpecRow.laid) #[.slice none 0 0] 8 (World.laidAll_os _ _ _)
      (World.shaped_of_ZipB (by kernel_rfl) (by kernel_rfl)) (by kernel_rfl) (by kernel_rfl) (by kernel_rfl)
      (by rw [MakeChecks.laidMetH_plain _ _ _ (by kernel_rfl)]; exact laidMet_laidAll _ (by kernel_rfl) (by kernel_rfl))) ?_
  intro W base args ds gs before hval0 hW hcnd hsz0 hL hshp _
  haveI : GlobI 0 W := GlobI.of (t := 3) (zero := #[.int .i64 0]) hshp (of_decide_eq_true (by kernel_rfl)) (by kernel_rfl) rfl (by kernel_rfl) (by kernel_rfl) Tryz.underlying3
  haveI : TabI Tryz.prog "internal/strconv.uint64pow10" 1 W := TabI.of (i := 2) (t := 112) (e := 94) (n := 20) (show laidMetH Tryz.prog Rows.workersTextsMatchSpecRow.laid W from hL) (by kernel_rfl) (by kernel_rfl) (by kernel_rfl) (by kernel_rfl) (by kernel_rfl) (by kernel_rfl) (by kernel_rfl) (by kernel_rfl)
  have hsz : (DataW.weightsEach Tryz.prog (Tryz.f3.params.toList ++ Rows.workersTextsMatchSpecSpec.plain.varTypes Tryz.prog) (ds ++ gs)).all (· ≤ reachBytes) = true := hsz0
  have hval : ∀ (j : Nat) t v, Tryz.f3.params[j]? = some t → args[j]? = some v → Value.okWide Tryz.prog W .any base t v := hval0
  have hW' := hW
  obtain ⟨p, q, hA0, hV, rfl, hfz, hnd⟩ := hW
  have hA : DataW.TrodAll enc Tryz.prog W 0 (fun _ => true) true Tryz.f3.params.toList args.toList ds p := hA0
  rw [Tryz.params3] at hA hval hsz
  obtain ⟨v0, vs0, d0, ds0, p0, q0, hargs, rfl, rfl, h0, r0⟩ := trodAll_cons hA
  obtain ⟨rfl, rfl, rfl⟩ := trodAll_nil r0
  obtain rfl : args = #[v0] := by cases args; simp_all
  obtain ⟨rfl, rfl⟩ := trodVars_none hV
  obtain ⟨A0, len0, cap0, rfl⟩ := okWide_slice Tryz.underlying22 (hval 0 22 v0 rfl rfl)
  have k0 := h0
  have lt0 : ∀ x ∈ p0, x.block < W.heap.size := by obtain ⟨m, hm⟩ := k0; exact DataW.trod_lt m _ _ _ hm
  obtain ⟨fuel0, hf0⟩ := h0
  obtain ⟨a0, ⟨B0, c0, hcs0, hc0, hr0⟩, hfit0⟩ := ((Opens.slice Tryz.underlying22 (by kernel_rfl) (by decide) opensRun (B := 56) (by kernel_rfl))).go hf0 (weights_at hsz (j := 0) (t := 22) rfl rfl)
  simp [Value.cells] at hcs0
  obtain ⟨rfl, rfl, rfl⟩ := hcs0
  clear hA0 hval0 hsz0 hsz
  have heq := WorkersTextsMatchSpec_pure a0 hfit0
  refine (smithyardlaw9_WorkersTextsMatchSpec_c (w0 := W) (H := hp W) (F := []) heq (Rw.of hr0) hc0 rfl W (Heap.start W)).mono ?_
  rintro e W' ⟨v, rfl, H', cs', _, hh, _, rfl, _⟩
  have bel : Below W.heap.size W W' := hh.ext
  exact ⟨_, rfl, _, _, _, [], _, [], hW', trodAll_mk1 (shut_bool Tryz.underlying4 _), (trodAll_cons_mk (Below.trod laidOut_workersTextsMatchSpec (by kernel_rfl) (of_decide_eq_true (by kernel_rfl)) k0 bel lt0) trodAll_mk0), rfl, bel.frame _, fun h => by cases h⟩
theorem closed_workersTextsMatchSpec : joinedFacts Tryz.prog 3 Tryz.f3 Rows.workersTextsMatchSpecSpec Rows.workersTextsMatchSpecRow = true := by
  unfold joinedFacts
  rw [fact_enter, fact_final, fact_make]
  kernel_rfl
set_option maxRecDepth 100000 in
theorem workersTextsMatchSpec_row : Rows.WorkersTextsMatchSpecSaid :=
  OpenClaim.holds_of_wide 3 Tryz.f3 rfl rfl rfl rfl rfl rfl rfl ⟨rfl, rfl, rfl, rfl, rfl⟩ rfl rfl rfl rfl rfl (by kernel_rfl) Tryz.func3 closed_workersTextsMatchSpec
    (of_decide_eq_true (by kernel_rfl)) (by unfold Func.isWrapper; first | (rw [if_pos (by decide +kernel)]; kernel_rfl) | (rw [if_neg (by decide +kernel)]; exact ⟨rfl, rfl⟩))
    (fun os started H enc _ => lifted_workersTextsMatchSpec os started H enc)
theorem workersTextsMatchSpec_holds : Rows.WorkersTextsMatchSpecCardSaid :=
  Claim7.holds_tied_plain_at .later [] [.data, .data, .data, .data, .sentinel, .sentinel, .pinned] true (true, "030465f2b02ffe8feffd0702045608e7594471f2eae613a596d82badd41f164e") true workersTextsMatchSpec_row (fun _ h => by cases h) (by kernel_rfl) (fun _ h => by cases h) workersTextsMatchSpec_row_tie rfl ⟨rfl, rfl⟩ fact_main rfl
    (fun f fn hf hfn => by
      obtain rfl : f = 3 := Option.some.inj ((show Tryz.prog.funcNamed "smithyard/smithyardlaw9.WorkersTextsMatchSpec" = some 3 by kernel_rfl).symm.trans hf) |>.symm
      obtain rfl : fn = Tryz.f3 := (Option.some.inj (Tryz.func3.symm.trans hfn)).symm
      exact ⟨by kernel_rfl, fun j t ht => by
        rw [Tryz.params3] at ht
        have hm : t ∈ [22] := by simpa using Array.mem_of_getElem? ht
        have hall : ([22].all fun u => !Tryz.prog.wantsStandIn u) = true := by kernel_rfl
        exact (show Tryz.prog.wantsStandIn t = false by simpa using List.all_eq_true.1 hall t hm)⟩)
    (by kernel_rfl)
#print axioms workersTextsMatchSpec_holds
end Go.Proofs.YtdccapcfbielcaaGreatDoor
