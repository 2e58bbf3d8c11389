/- WorkersEndsMatchSpec: for every input the law returns true and leaves its arguments as they were; its package-level variables start as the program's text lays them. -/
import Derived.Test.YtcldjlkgdnjnaaaDoorRows
import Derived.Test.YtcldjlkgdnjnaaaDoorCards
import Derived.Test.YtcldjlkgdnjnaaaDoorTie
import Derived.Test.YtcldjlkgdnjnaaaDoorXM
import Derived.Test.YtcldjlkgdnjnaaaDoorKitR
import Derived.Test.YtcldjlkgdnjnaaaDoorPureWorkersEndsMatchSpec
import Derived.WalkKit
import Derived.ProofKit
import Derived.OpenShut
import Derived.ShutString
import Derived.ChangeOld
import Derived.Below
import Derived.SizedLaws
import Derived.LaidMore
import Derived.Lay
import Derived.SevenTiedAt
import Derived.Stop.Joined
namespace Go.Proofs.YtcldjlkgdnjnaaaDoor
open Go Go.ChangeShapes Go.WideShapes Go.ChangeAt Go.RowKit Go.Proofs.YtcldjlkgdnjnaaaDoor.Kit
open Go.ChangeMaps (open_string shut_string)
set_option linter.unusedVariables false
def dPair1 : Kd (ByteArray) := Kd.string
def fPair1 : ByteArray → Prop := (fun s : ByteArray => s.size ≤ reachBytes)
def dPair0 : Kd (ByteArray × ByteArray) := Kd.pair Kd.string dPair1
def fPair0 : (ByteArray × ByteArray) → Prop := fun y => (fun s : ByteArray => s.size ≤ reachBytes) y.1 ∧ fPair1 y.2
def FPair (x : Pair) : ByteArray × ByteArray := (x.Name, x.Value)
def GPair (y : ByteArray × ByteArray) : Pair := ⟨y.1, y.2⟩
theorem opensFPair {fs : Array Field} (h : Tryd.prog.underlying 76 = some (.struct fs)) : OpensF Tryd.prog fs.toList 0 dPair0 fPair0 := by
  rw [Tryd.underlying76] at h
  injection h with h
  injection h with h
  subst h
  exact (OpensF.cons (d := Kd.string) (d2 := dPair1) (fit := (fun s : ByteArray => s.size ≤ reachBytes)) (fit2 := fPair1) (by kernel_rfl) (by kernel_rfl) (Opens.string Tryd.underlying9) (OpensF.last (d := dPair1) (fit := fPair1) (by kernel_rfl) (by kernel_rfl) (Opens.string Tryd.underlying9)))
theorem opensPair : Opens Tryd.prog 76 kPair fitPair := by
  have h : Opens Tryd.prog 76 (Kd.iso dPair0 FPair) (fun x => fPair0 (FPair x)) := Opens.struct (f := FPair) (g := GPair) Tryd.underlying76 (by kernel_rfl) (by rintro ⟨y0, y1⟩; rfl) (opensFPair Tryd.underlying76)
  exact h
def dSpan1 : Kd (Int) := (Kd.int .i64)
def fSpan1 : Int → Prop := (fun n : Int => (Lit.int .i64 n).wf = true)
def dSpan0 : Kd (Int × Int) := Kd.pair (Kd.int .i64) dSpan1
def fSpan0 : (Int × Int) → Prop := fun y => (fun n : Int => (Lit.int .i64 n).wf = true) y.1 ∧ fSpan1 y.2
def FSpan (x : Span) : Int × Int := (x.From, x.To)
def GSpan (y : Int × Int) : Span := ⟨y.1, y.2⟩
theorem opensFSpan {fs : Array Field} (h : Tryd.prog.underlying 79 = some (.struct fs)) : OpensF Tryd.prog fs.toList 0 dSpan0 fSpan0 := by
  rw [Tryd.underlying79] at h
  injection h with h
  injection h with h
  subst h
  exact (OpensF.cons (d := (Kd.int .i64)) (d2 := dSpan1) (fit := (fun n : Int => (Lit.int .i64 n).wf = true)) (fit2 := fSpan1) (by kernel_rfl) (by kernel_rfl) (Opens.int Tryd.underlying3) (OpensF.last (d := dSpan1) (fit := fSpan1) (by kernel_rfl) (by kernel_rfl) (Opens.int Tryd.underlying3)))
theorem opensSpan : Opens Tryd.prog 79 kSpan fitSpan := by
  have h : Opens Tryd.prog 79 (Kd.iso dSpan0 FSpan) (fun x => fSpan0 (FSpan x)) := Opens.struct (f := FSpan) (g := GSpan) Tryd.underlying79 (by kernel_rfl) (by rintro ⟨y0, y1⟩; rfl) (opensFSpan Tryd.underlying79)
  exact h
def dWorker6 : Kd ((List Span)) := (Kd.slice kSpan)
def fWorker6 : (List Span) → Prop := (fun xs : List Span => xs.length * 16 ≤ reachBytes ∧ ∀ x ∈ xs, fitSpan x)
def dWorker5 : Kd (Int × (List Span)) := Kd.pair (Kd.int .i64) dWorker6
def fWorker5 : (Int × (List Span)) → Prop := fun y => (fun n : Int => (Lit.int .i64 n).wf = true) y.1 ∧ fWorker6 y.2
def dWorker4 : Kd (Int × Int × (List Span)) := Kd.pair (Kd.int .i64) dWorker5
def fWorker4 : (Int × Int × (List Span)) → Prop := fun y => (fun n : Int => (Lit.int .i64 n).wf = true) y.1 ∧ fWorker5 y.2
def dWorker3 : Kd (Int × Int × Int × (List Span)) := Kd.pair (Kd.int .i64) dWorker4
def fWorker3 : (Int × Int × Int × (List Span)) → Prop := fun y => (fun n : Int => (Lit.int .i64 n).wf = true) y.1 ∧ fWorker4 y.2
def dWorker2 : Kd (Int × Int × Int × Int × (List Span)) := Kd.pair (Kd.int .i64) dWorker3
def fWorker2 : (Int × Int × Int × Int × (List Span)) → Prop := fun y => (fun n : Int => (Lit.int .i64 n).wf = true) y.1 ∧ fWorker3 y.2
def dWorker1 : Kd ((List Pair) × Int × Int × Int × Int × (List Span)) := Kd.pair (Kd.slice kPair) dWorker2
def fWorker1 : ((List Pair) × Int × Int × Int × Int × (List Span)) → Prop := fun y => (fun xs : List Pair => xs.length * 32 ≤ reachBytes ∧ ∀ x ∈ xs, fitPair x) y.1 ∧ fWorker2 y.2
def dWorker0 : Kd (ByteArray × (List Pair) × Int × Int × Int × Int × (List Span)) := Kd.pair Kd.string dWorker1
def fWorker0 : (ByteArray × (List Pair) × Int × Int × Int × Int × (List Span)) → Prop := fun y => (fun s : ByteArray => s.size ≤ reachBytes) y.1 ∧ fWorker1 y.2
def FWorker (x : Worker) : ByteArray × (List Pair) × Int × Int × Int × Int × (List Span) := (x.Name, x.Has, x.Slots, x.Speed, x.From, x.To, x.Stands)
def GWorker (y : ByteArray × (List Pair) × Int × Int × Int × Int × (List Span)) : Worker := ⟨y.1, y.2.1, y.2.2.1, y.2.2.2.1, y.2.2.2.2.1, y.2.2.2.2.2.1, y.2.2.2.2.2.2⟩
theorem opensFWorker {fs : Array Field} (h : Tryd.prog.underlying 25 = some (.struct fs)) : OpensF Tryd.prog fs.toList 0 dWorker0 fWorker0 := by
  rw [Tryd.underlying25] at h
  injection h with h
  injection h with h
  subst h
  exact (OpensF.cons (d := Kd.string) (d2 := dWorker1) (fit := (fun s : ByteArray => s.size ≤ reachBytes)) (fit2 := fWorker1) (by kernel_rfl) (by kernel_rfl) (Opens.string Tryd.underlying9) (OpensF.cons (d := (Kd.slice kPair)) (d2 := dWorker2) (fit := (fun xs : List Pair => xs.length * 32 ≤ reachBytes ∧ ∀ x ∈ xs, fitPair x)) (fit2 := fWorker2) (by kernel_rfl) (by kernel_rfl) (Opens.slice Tryd.underlying22 (by kernel_rfl) (by decide) opensPair (B := 32) (by kernel_rfl)) (OpensF.cons (d := (Kd.int .i64)) (d2 := dWorker3) (fit := (fun n : Int => (Lit.int .i64 n).wf = true)) (fit2 := fWorker3) (by kernel_rfl) (by kernel_rfl) (Opens.int Tryd.underlying3) (OpensF.cons (d := (Kd.int .i64)) (d2 := dWorker4) (fit := (fun n : Int => (Lit.int .i64 n).wf = true)) (fit2 := fWorker4) (by kernel_rfl) (by kernel_rfl) (Opens.int Tryd.underlying3) (OpensF.cons (d := (Kd.int .i64)) (d2 := dWorker5) (fit := (fun n : Int => (Lit.int .i64 n).wf = true)) (fit2 := fWorker5) (by kernel_rfl) (by kernel_rfl) (Opens.int Tryd.underlying3) (OpensF.cons (d := (Kd.int .i64)) (d2 := dWorker6) (fit := (fun n : Int => (Lit.int .i64 n).wf = true)) (fit2 := fWorker6) (by kernel_rfl) (by kernel_rfl) (Opens.int Tryd.underlying3) (OpensF.last (d := dWorker6) (fit := fWorker6) (by kernel_rfl) (by kernel_rfl) (Opens.slice Tryd.underlying23 (by kernel_rfl) (by decide) opensSpan (B := 16) (by kernel_rfl)))))))))
theorem opensWorker : Opens Tryd.prog 25 kWorker fitWorker := by
  have h : Opens Tryd.prog 25 (Kd.iso dWorker0 FWorker) (fun x => fWorker0 (FWorker x)) := Opens.struct (f := FWorker) (g := GWorker) Tryd.underlying25 (by kernel_rfl) (by rintro ⟨y0, y1, y2, y3, y4, y5, y6⟩; rfl) (opensFWorker Tryd.underlying25)
  exact h
theorem own_workersEndsMatchSpec : ownKnob Tryd.prog.godebug = none := by kernel_rfl
theorem laidOut_workersEndsMatchSpec : laidOutB Tryd.prog = true := by kernel_rfl
set_option maxRecDepth 100000 in
theorem lifted_workersEndsMatchSpec (os : Os) (started : os.Started) (H : Type) (enc : TypeId × Value → H) :
    ReturnsInHanded {} Tryd.checked os 4 .any (fun w args => (Rows.workersEndsMatchSpecSpec.pre enc Tryd.prog Tryd.f4 Rows.workersEndsMatchSpecRow.domain false w args ∧ laidMetH Tryd.prog Rows.workersEndsMatchSpecRow.laid w) ∧ sizedMet enc Tryd.prog Tryd.f4 (OpenSpec.ofChange Rows.workersEndsMatchSpecSpec) false w args) (Rows.workersEndsMatchSpecSpec.post enc Tryd.prog Tryd.f4 false true false false) := by
  refine returnsInHanded_of_change_and (C := Tryd.checked) (X := fun w _ => laidMetH Tryd.prog Rows.workersEndsMatchSpecRow.laid w) (fun _ _ _ hh h => h.of_heap hh) own_workersEndsMatchSpec started (by kernel_rfl) Tryd.func4
    (ChangeSpec.witness_shaped (enc := enc) (C := Tryd.checked) (os := os) (X := fun w _ => laidMetH Tryd.prog Rows.workersEndsMatchSpecRow.laid w) false (World.laidAll Tryd.prog os Rows.workersEndsMatchSpecRow.laid) #[.agg #[.string ByteArray.empty, .slice none 0 0, .int .i64 0, .int .i64 0, .int .i64 0, .int .i64 0, .slice none 0 0], .int .i64 0, .int .i64 0] 8 (World.laidAll_os _ _ _)
      (World.shaped_of_ZipB (by kernel_rfl) (by kernel_rfl)) (by kernel_rfl) (by kernel_rfl) (by kernel_rfl)
      (by rw [MakeChecks.laidMetH_plain _ _ _ (by kernel_rfl)]; exact laidMet_laidAll _ (by kernel_rfl) (by kernel_rfl))) ?_
  intro W base args ds gs before hval0 hW hcnd hsz0 hL _
  have hsz : (DataW.weightsEach Tryd.prog (Tryd.f4.params.toList ++ Rows.workersEndsMatchSpecSpec.plain.varTypes Tryd.prog) (ds ++ gs)).all (· ≤ reachBytes) = true := hsz0
  have hval : ∀ (j : Nat) t v, Tryd.f4.params[j]? = some t → args[j]? = some v → Value.okWide Tryd.prog W .any base t v := hval0
  have hW' := hW
  obtain ⟨p, q, hA0, hV, rfl, hfz, hnd⟩ := hW
  have hA : DataW.TrodAll enc Tryd.prog W 0 (fun _ => true) true Tryd.f4.params.toList args.toList ds p := hA0
  rw [Tryd.params4] at hA hval hsz
  obtain ⟨v0, vs0, d0, ds0, p0, q0, hargs, rfl, rfl, h0, r0⟩ := trodAll_cons hA
  obtain ⟨v1, vs1, d1, ds1, p1, q1, rfl, rfl, rfl, h1, r1⟩ := trodAll_cons r0
  obtain ⟨v2, vs2, d2, ds2, p2, q2, rfl, rfl, rfl, h2, r2⟩ := trodAll_cons r1
  obtain ⟨rfl, rfl, rfl⟩ := trodAll_nil r2
  obtain rfl : args = #[v0, v1, v2] := by cases args; simp_all
  obtain ⟨rfl, rfl⟩ := trodVars_none hV
  obtain ⟨cs0, rfl, hsize0⟩ := okWide_struct Tryd.underlying25 (hval 0 25 v0 rfl rfl)
  have k0 := h0
  have lt0 : ∀ x ∈ p0, x.block < W.heap.size := by obtain ⟨m, hm⟩ := k0; exact DataW.trod_lt m _ _ _ hm
  obtain ⟨fuel0, hf0⟩ := h0
  obtain ⟨a0, hK0, hfit0⟩ := (opensWorker).go hf0 (weights_at hsz (j := 0) (t := 25) rfl rfl)
  obtain ⟨A0_1, c0_1, A0_6, c0_6, hcs0, hc0_1, hr0_1, hc0_6, hr0_6⟩ := kWorker_open hK0
  obtain rfl : cs0 = #[.string a0.Name, .slice A0_1 a0.Has.length c0_1, .int .i64 a0.Slots, .int .i64 a0.Speed, .int .i64 a0.From, .int .i64 a0.To, .slice A0_6 a0.Stands.length c0_6] := by cases cs0; simpa [Value.cells] using hcs0
  obtain ⟨a1, rfl, rfl, rfl, w1⟩ := open_int Tryd.underlying3 (hval 1 3 v1 rfl rfl) h1
  obtain ⟨a2, rfl, rfl, rfl, w2⟩ := open_int Tryd.underlying3 (hval 2 3 v2 rfl rfl) h2
  clear hA0 hval0 hsz0 hsz
  have heq := WorkersEndsMatchSpec_pure a0 a1 a2 hfit0 w1 w2
  refine (smithyardlaw9_WorkersEndsMatchSpec_c (w0 := W) (H := hp W) (F := []) (Rw.of hr0_1) hc0_1 rfl (Rw.of hr0_6) hc0_6 rfl heq W (Heap.start W)).mono ?_
  rintro e W' ⟨v, rfl, H', cs', _, hh, _, rfl, _⟩
  have bel : Below W.heap.size W W' := hh.ext
  exact ⟨_, rfl, _, _, _, [], _, [], hW', trodAll_mk1 (shut_bool Tryd.underlying4 _), (trodAll_cons_mk (Below.trod laidOut_workersEndsMatchSpec (by kernel_rfl) (of_decide_eq_true (by kernel_rfl)) k0 bel lt0) (trodAll_cons_mk (shut_int Tryd.underlying3 w1) (trodAll_cons_mk (shut_int Tryd.underlying3 w2) trodAll_mk0))), rfl, bel.frame _, fun h => by cases h⟩
theorem workersEndsMatchSpec_row : Rows.WorkersEndsMatchSpecSaid :=
  OpenClaim.holds_of_wide 4 Tryd.f4 rfl rfl rfl rfl rfl rfl rfl ⟨rfl, rfl, rfl, rfl, rfl⟩ rfl rfl rfl rfl rfl (by kernel_rfl) Tryd.func4 (by kernel_rfl)
    (of_decide_eq_true (by kernel_rfl)) (by unfold Func.isWrapper; first | (rw [if_pos (by decide +kernel)]; kernel_rfl) | (rw [if_neg (by decide +kernel)]; exact ⟨rfl, rfl⟩))
    (fun os started H enc _ => lifted_workersEndsMatchSpec os started H enc)
theorem workersEndsMatchSpec_holds : Rows.WorkersEndsMatchSpecCardSaid :=
  Claim7.holds_tied_plain_at .later [] [.data, .pinned] true (true, "cab8d7f5296d8542c875dda3860e267e9a874e04a6e8bd59a4c9e5986a8b8e6a") false workersEndsMatchSpec_row (fun _ h => by cases h) (by kernel_rfl) (fun _ h => by cases h) workersEndsMatchSpec_row_tie rfl ⟨rfl, rfl⟩ (by kernel_rfl) rfl
    (fun f fn hf hfn => by
      obtain rfl : f = 4 := Option.some.inj ((show Tryd.prog.funcNamed "smithyard/smithyardlaw9.WorkersEndsMatchSpec" = some 4 by kernel_rfl).symm.trans hf) |>.symm
      obtain rfl : fn = Tryd.f4 := (Option.some.inj (Tryd.func4.symm.trans hfn)).symm
      exact ⟨by kernel_rfl, fun j t ht => by
        rw [Tryd.params4] at ht
        have hm : t ∈ [25, 3, 3] := by simpa using Array.mem_of_getElem? ht
        have hall : ([25, 3, 3].all fun u => !Tryd.prog.wantsStandIn u) = true := by kernel_rfl
        exact (show Tryd.prog.wantsStandIn t = false by simpa using List.all_eq_true.1 hall t hm)⟩)
    (by kernel_rfl)
#print axioms workersEndsMatchSpec_holds
end Go.Proofs.YtcldjlkgdnjnaaaDoor
