/- WorkersBusyMatchesSpec: for every input the law returns true and leaves its arguments as they were; its package-level variables start as the program's text lays them. -/
import Derived.Test.YtcldjlkgdnjnaaaDoorRows
import Derived.Test.YtcldjlkgdnjnaaaDoorCards
import Derived.Test.YtcldjlkgdnjnaaaDoorTie
import Derived.Test.YtcldjlkgdnjnaaaDoorXM
import Derived.Test.YtcldjlkgdnjnaaaDoorKitR
import Derived.Test.YtcldjlkgdnjnaaaDoorPureWorkersBusyMatchesSpec
import Derived.WalkKit
import Derived.ProofKit
import Derived.OpenShut
import Derived.ShutString
import Derived.ChangeOld
import Derived.Below
import Derived.SizedLaws
import Derived.LaidMore
import Derived.Lay
import Derived.SevenTiedAt
import Derived.Stop.Joined
namespace Go.Proofs.YtcldjlkgdnjnaaaDoor
open Go Go.ChangeShapes Go.WideShapes Go.ChangeAt Go.RowKit Go.Proofs.YtcldjlkgdnjnaaaDoor.Kit
open Go.ChangeMaps (open_string shut_string)
set_option linter.unusedVariables false
def dRun4 : Kd (Int) := (Kd.int .i64)
def fRun4 : Int → Prop := (fun n : Int => (Lit.int .i64 n).wf = true)
def dRun3 : Kd (Int × Int) := Kd.pair (Kd.int .i64) dRun4
def fRun3 : (Int × Int) → Prop := fun y => (fun n : Int => (Lit.int .i64 n).wf = true) y.1 ∧ fRun4 y.2
def dRun2 : Kd (Int × Int × Int) := Kd.pair (Kd.int .i64) dRun3
def fRun2 : (Int × Int × Int) → Prop := fun y => (fun n : Int => (Lit.int .i64 n).wf = true) y.1 ∧ fRun3 y.2
def dRun1 : Kd (ByteArray × Int × Int × Int) := Kd.pair Kd.string dRun2
def fRun1 : (ByteArray × Int × Int × Int) → Prop := fun y => (fun s : ByteArray => s.size ≤ reachBytes) y.1 ∧ fRun2 y.2
def dRun0 : Kd (ByteArray × ByteArray × Int × Int × Int) := Kd.pair Kd.string dRun1
def fRun0 : (ByteArray × ByteArray × Int × Int × Int) → Prop := fun y => (fun s : ByteArray => s.size ≤ reachBytes) y.1 ∧ fRun1 y.2
def FRun (x : Run) : ByteArray × ByteArray × Int × Int × Int := (x.Id, x.Worker, x.From, x.To, x.End)
def GRun (y : ByteArray × ByteArray × Int × Int × Int) : Run := ⟨y.1, y.2.1, y.2.2.1, y.2.2.2.1, y.2.2.2.2⟩
theorem opensFRun {fs : Array Field} (h : Tryd.prog.underlying 39 = some (.struct fs)) : OpensF Tryd.prog fs.toList 0 dRun0 fRun0 := by
  rw [Tryd.underlying39] at h
  injection h with h
  injection h with h
  subst h
  exact (OpensF.cons (d := Kd.string) (d2 := dRun1) (fit := (fun s : ByteArray => s.size ≤ reachBytes)) (fit2 := fRun1) (by kernel_rfl) (by kernel_rfl) (Opens.string Tryd.underlying9) (OpensF.cons (d := Kd.string) (d2 := dRun2) (fit := (fun s : ByteArray => s.size ≤ reachBytes)) (fit2 := fRun2) (by kernel_rfl) (by kernel_rfl) (Opens.string Tryd.underlying9) (OpensF.cons (d := (Kd.int .i64)) (d2 := dRun3) (fit := (fun n : Int => (Lit.int .i64 n).wf = true)) (fit2 := fRun3) (by kernel_rfl) (by kernel_rfl) (Opens.int Tryd.underlying3) (OpensF.cons (d := (Kd.int .i64)) (d2 := dRun4) (fit := (fun n : Int => (Lit.int .i64 n).wf = true)) (fit2 := fRun4) (by kernel_rfl) (by kernel_rfl) (Opens.int Tryd.underlying3) (OpensF.last (d := dRun4) (fit := fRun4) (by kernel_rfl) (by kernel_rfl) (Opens.int Tryd.underlying3))))))
theorem opensRun : Opens Tryd.prog 39 kRun fitRun := by
  have h : Opens Tryd.prog 39 (Kd.iso dRun0 FRun) (fun x => fRun0 (FRun x)) := Opens.struct (f := FRun) (g := GRun) Tryd.underlying39 (by kernel_rfl) (by rintro ⟨y0, y1, y2, y3, y4⟩; rfl) (opensFRun Tryd.underlying39)
  exact h
theorem own_workersBusyMatchesSpec : ownKnob Tryd.prog.godebug = none := by kernel_rfl
theorem laidOut_workersBusyMatchesSpec : laidOutB Tryd.prog = true := by kernel_rfl
set_option maxRecDepth 100000 in
theorem lifted_workersBusyMatchesSpec (os : Os) (started : os.Started) (H : Type) (enc : TypeId × Value → H) :
    ReturnsInHanded {} Tryd.checked os 5 .any (fun w args => (Rows.workersBusyMatchesSpecSpec.pre enc Tryd.prog Tryd.f5 Rows.workersBusyMatchesSpecRow.domain false w args ∧ laidMetH Tryd.prog Rows.workersBusyMatchesSpecRow.laid w) ∧ sizedMet enc Tryd.prog Tryd.f5 (OpenSpec.ofChange Rows.workersBusyMatchesSpecSpec) false w args) (Rows.workersBusyMatchesSpecSpec.post enc Tryd.prog Tryd.f5 false true false false) := by
  refine returnsInHanded_of_change_and (C := Tryd.checked) (X := fun w _ => laidMetH Tryd.prog Rows.workersBusyMatchesSpecRow.laid w) (fun _ _ _ hh h => h.of_heap hh) own_workersBusyMatchesSpec started (by kernel_rfl) Tryd.func5
    (ChangeSpec.witness_shaped (enc := enc) (C := Tryd.checked) (os := os) (X := fun w _ => laidMetH Tryd.prog Rows.workersBusyMatchesSpecRow.laid w) false (World.laidAll Tryd.prog os Rows.workersBusyMatchesSpecRow.laid) #[.slice none 0 0, .string ByteArray.empty, .int .i64 0, .int .i64 0, .int .i64 0] 8 (World.laidAll_os _ _ _)
      (World.shaped_of_ZipB (by kernel_rfl) (by kernel_rfl)) (by kernel_rfl) (by kernel_rfl) (by kernel_rfl)
      (by rw [MakeChecks.laidMetH_plain _ _ _ (by kernel_rfl)]; exact laidMet_laidAll _ (by kernel_rfl) (by kernel_rfl))) ?_
  intro W base args ds gs before hval0 hW hcnd hsz0 hL _
  have hsz : (DataW.weightsEach Tryd.prog (Tryd.f5.params.toList ++ Rows.workersBusyMatchesSpecSpec.plain.varTypes Tryd.prog) (ds ++ gs)).all (· ≤ reachBytes) = true := hsz0
  have hval : ∀ (j : Nat) t v, Tryd.f5.params[j]? = some t → args[j]? = some v → Value.okWide Tryd.prog W .any base t v := hval0
  have hW' := hW
  obtain ⟨p, q, hA0, hV, rfl, hfz, hnd⟩ := hW
  have hA : DataW.TrodAll enc Tryd.prog W 0 (fun _ => true) true Tryd.f5.params.toList args.toList ds p := hA0
  rw [Tryd.params5] at hA hval hsz
  obtain ⟨v0, vs0, d0, ds0, p0, q0, hargs, rfl, rfl, h0, r0⟩ := trodAll_cons hA
  obtain ⟨v1, vs1, d1, ds1, p1, q1, rfl, rfl, rfl, h1, r1⟩ := trodAll_cons r0
  obtain ⟨v2, vs2, d2, ds2, p2, q2, rfl, rfl, rfl, h2, r2⟩ := trodAll_cons r1
  obtain ⟨v3, vs3, d3, ds3, p3, q3, rfl, rfl, rfl, h3, r3⟩ := trodAll_cons r2
  obtain ⟨v4, vs4, d4, ds4, p4, q4, rfl, rfl, rfl, h4, r4⟩ := trodAll_cons r3
  obtain ⟨rfl, rfl, rfl⟩ := trodAll_nil r4
  obtain rfl : args = #[v0, v1, v2, v3, v4] := by cases args; simp_all
  obtain ⟨rfl, rfl⟩ := trodVars_none hV
  obtain ⟨A0, len0, cap0, rfl⟩ := okWide_slice Tryd.underlying36 (hval 0 36 v0 rfl rfl)
  have k0 := h0
  have lt0 : ∀ x ∈ p0, x.block < W.heap.size := by obtain ⟨m, hm⟩ := k0; exact DataW.trod_lt m _ _ _ hm
  obtain ⟨fuel0, hf0⟩ := h0
  obtain ⟨a0, ⟨B0, c0, hcs0, hc0, hr0⟩, hfit0⟩ := ((Opens.slice Tryd.underlying36 (by kernel_rfl) (by decide) opensRun (B := 56) (by kernel_rfl))).go hf0 (weights_at hsz (j := 0) (t := 36) rfl rfl)
  simp [Value.cells] at hcs0
  obtain ⟨rfl, rfl, rfl⟩ := hcs0
  obtain ⟨a1, rfl, rfl, rfl, y1⟩ := open_string Tryd.underlying9 (hval 1 9 v1 rfl rfl) h1
  have hfit1 : a1.size ≤ reachBytes := by
    have z := sized_string hsz (j := 1) (t := 9) rfl rfl
    rw [Array.length_toList] at z
    exact z
  obtain ⟨a2, rfl, rfl, rfl, w2⟩ := open_int Tryd.underlying3 (hval 2 3 v2 rfl rfl) h2
  obtain ⟨a3, rfl, rfl, rfl, w3⟩ := open_int Tryd.underlying3 (hval 3 3 v3 rfl rfl) h3
  obtain ⟨a4, rfl, rfl, rfl, w4⟩ := open_int Tryd.underlying3 (hval 4 3 v4 rfl rfl) h4
  clear hA0 hval0 hsz0 hsz
  have heq := WorkersBusyMatchesSpec_pure a0 a1 a2 a3 a4 hfit0 hfit1 w2 w3 w4
  refine (smithyardlaw9_WorkersBusyMatchesSpec_c (w0 := W) (H := hp W) (F := []) (Rw.of hr0) hc0 rfl heq W (Heap.start W)).mono ?_
  rintro e W' ⟨v, rfl, H', cs', _, hh, _, rfl, _⟩
  have bel : Below W.heap.size W W' := hh.ext
  exact ⟨_, rfl, _, _, _, [], _, [], hW', trodAll_mk1 (shut_bool Tryd.underlying4 _), (trodAll_cons_mk (Below.trod laidOut_workersBusyMatchesSpec (by kernel_rfl) (of_decide_eq_true (by kernel_rfl)) k0 bel lt0) (trodAll_cons_mk (shut_string Tryd.underlying9 y1) (trodAll_cons_mk (shut_int Tryd.underlying3 w2) (trodAll_cons_mk (shut_int Tryd.underlying3 w3) (trodAll_cons_mk (shut_int Tryd.underlying3 w4) trodAll_mk0))))), rfl, bel.frame _, fun h => by cases h⟩
theorem workersBusyMatchesSpec_row : Rows.WorkersBusyMatchesSpecSaid :=
  OpenClaim.holds_of_wide 5 Tryd.f5 rfl rfl rfl rfl rfl rfl rfl ⟨rfl, rfl, rfl, rfl, rfl⟩ rfl rfl rfl rfl rfl (by kernel_rfl) Tryd.func5 (by kernel_rfl)
    (of_decide_eq_true (by kernel_rfl)) (by unfold Func.isWrapper; first | (rw [if_pos (by decide +kernel)]; kernel_rfl) | (rw [if_neg (by decide +kernel)]; exact ⟨rfl, rfl⟩))
    (fun os started H enc _ => lifted_workersBusyMatchesSpec os started H enc)
theorem workersBusyMatchesSpec_holds : Rows.WorkersBusyMatchesSpecCardSaid :=
  Claim7.holds_tied_plain_at .later [] [.data, .pinned] true (true, "cab8d7f5296d8542c875dda3860e267e9a874e04a6e8bd59a4c9e5986a8b8e6a") false workersBusyMatchesSpec_row (fun _ h => by cases h) (by kernel_rfl) (fun _ h => by cases h) workersBusyMatchesSpec_row_tie rfl ⟨rfl, rfl⟩ (by kernel_rfl) rfl
    (fun f fn hf hfn => by
      obtain rfl : f = 5 := Option.some.inj ((show Tryd.prog.funcNamed "smithyard/smithyardlaw9.WorkersBusyMatchesSpec" = some 5 by kernel_rfl).symm.trans hf) |>.symm
      obtain rfl : fn = Tryd.f5 := (Option.some.inj (Tryd.func5.symm.trans hfn)).symm
      exact ⟨by kernel_rfl, fun j t ht => by
        rw [Tryd.params5] at ht
        have hm : t ∈ [36, 9, 3, 3, 3] := by simpa using Array.mem_of_getElem? ht
        have hall : ([36, 9, 3, 3, 3].all fun u => !Tryd.prog.wantsStandIn u) = true := by kernel_rfl
        exact (show Tryd.prog.wantsStandIn t = false by simpa using List.all_eq_true.1 hall t hm)⟩)
    (by kernel_rfl)
#print axioms workersBusyMatchesSpec_holds
end Go.Proofs.YtcldjlkgdnjnaaaDoor
