/- WorkersChecksMatchSpec: for every input the law returns true and leaves its arguments as they were; its package-level variables start as the program's text lays them. -/
import Derived.Test.YteljhhgffmpgnaaDoorRows
import Derived.Test.YteljhhgffmpgnaaDoorCards
import Derived.Test.YteljhhgffmpgnaaDoorTie
import Derived.Test.YteljhhgffmpgnaaDoorZ3M
import Derived.Test.YteljhhgffmpgnaaDoorKitR
import Derived.Test.YteljhhgffmpgnaaDoorFacts
import Derived.Test.YteljhhgffmpgnaaDoorPureWorkersChecksMatchSpec
import Derived.WalkKit
import Derived.ProofKit
import Derived.OpenShut
import Derived.ShutString
import Derived.ChangeOld
import Derived.Below
import Derived.SizedLaws
import Derived.LaidMore
import Derived.Lay
import Derived.SevenTiedAt
import Derived.Stop.Joined
namespace Go.Proofs.YteljhhgffmpgnaaDoor
open Go Go.ChangeShapes Go.WideShapes Go.ChangeAt Go.RowKit Go.Proofs.YteljhhgffmpgnaaDoor.Kit
open Go.ChangeMaps (open_string shut_string)
set_option linter.unusedVariables false
def dPair1 : Kd (ByteArray) := Kd.string
def fPair1 : ByteArray → Prop := (fun s : ByteArray => s.size ≤ reachBytes)
def dPair0 : Kd (ByteArray × ByteArray) := Kd.pair Kd.string dPair1
def fPair0 : (ByteArray × ByteArray) → Prop := fun y => (fun s : ByteArray => s.size ≤ reachBytes) y.1 ∧ fPair1 y.2
def FPair (x : Pair) : ByteArray × ByteArray := (x.Name, x.Value)
def GPair (y : ByteArray × ByteArray) : Pair := ⟨y.1, y.2⟩
theorem opensFPair {fs : Array Field} (h : Tryd.prog.underlying 48 = some (.struct fs)) : OpensF Tryd.prog fs.toList 0 dPair0 fPair0 := by
  rw [Tryd.underlying48] at h
  injection h with h
  injection h with h
  subst h
  exact (OpensF.cons (d := Kd.string) (d2 := dPair1) (fit := (fun s : ByteArray => s.size ≤ reachBytes)) (fit2 := fPair1) (by kernel_rfl) (by kernel_rfl) (Opens.string Tryd.underlying9) (OpensF.last (d := dPair1) (fit := fPair1) (by kernel_rfl) (by kernel_rfl) (Opens.string Tryd.underlying9)))
theorem opensPair : Opens Tryd.prog 48 kPair fitPair := by
  have h : Opens Tryd.prog 48 (Kd.iso dPair0 FPair) (fun x => fPair0 (FPair x)) := Opens.struct (f := FPair) (g := GPair) Tryd.underlying48 (by kernel_rfl) (by rintro ⟨y0, y1⟩; rfl) (opensFPair Tryd.underlying48)
  exact h
def dSpan1 : Kd (Int) := (Kd.int .i64)
def fSpan1 : Int → Prop := (fun n : Int => (Lit.int .i64 n).wf = true)
def dSpan0 : Kd (Int × Int) := Kd.pair (Kd.int .i64) dSpan1
def fSpan0 : (Int × Int) → Prop := fun y => (fun n : Int => (Lit.int .i64 n).wf = true) y.1 ∧ fSpan1 y.2
def FSpan (x : Span) : Int × Int := (x.From, x.To)
def GSpan (y : Int × Int) : Span := ⟨y.1, y.2⟩
theorem opensFSpan {fs : Array Field} (h : Tryd.prog.underlying 51 = some (.struct fs)) : OpensF Tryd.prog fs.toList 0 dSpan0 fSpan0 := by
  rw [Tryd.underlying51] at h
  injection h with h
  injection h with h
  subst h
  exact (OpensF.cons (d := (Kd.int .i64)) (d2 := dSpan1) (fit := (fun n : Int => (Lit.int .i64 n).wf = true)) (fit2 := fSpan1) (by kernel_rfl) (by kernel_rfl) (Opens.int Tryd.underlying3) (OpensF.last (d := dSpan1) (fit := fSpan1) (by kernel_rfl) (by kernel_rfl) (Opens.int Tryd.underlying3)))
theorem opensSpan : Opens Tryd.prog 51 kSpan fitSpan := by
  have h : Opens Tryd.prog 51 (Kd.iso dSpan0 FSpan) (fun x => fSpan0 (FSpan x)) := Opens.struct (f := FSpan) (g := GSpan) Tryd.underlying51 (by kernel_rfl) (by rintro ⟨y0, y1⟩; rfl) (opensFSpan Tryd.underlying51)
  exact h
def dWorker6 : Kd ((List Span)) := (Kd.slice kSpan)
def fWorker6 : (List Span) → Prop := (fun xs : List Span => xs.length * 16 ≤ reachBytes ∧ ∀ x ∈ xs, fitSpan x)
def dWorker5 : Kd (Int × (List Span)) := Kd.pair (Kd.int .i64) dWorker6
def fWorker5 : (Int × (List Span)) → Prop := fun y => (fun n : Int => (Lit.int .i64 n).wf = true) y.1 ∧ fWorker6 y.2
def dWorker4 : Kd (Int × Int × (List Span)) := Kd.pair (Kd.int .i64) dWorker5
def fWorker4 : (Int × Int × (List Span)) → Prop := fun y => (fun n : Int => (Lit.int .i64 n).wf = true) y.1 ∧ fWorker5 y.2
def dWorker3 : Kd (Int × Int × Int × (List Span)) := Kd.pair (Kd.int .i64) dWorker4
def fWorker3 : (Int × Int × Int × (List Span)) → Prop := fun y => (fun n : Int => (Lit.int .i64 n).wf = true) y.1 ∧ fWorker4 y.2
def dWorker2 : Kd (Int × Int × Int × Int × (List Span)) := Kd.pair (Kd.int .i64) dWorker3
def fWorker2 : (Int × Int × Int × Int × (List Span)) → Prop := fun y => (fun n : Int => (Lit.int .i64 n).wf = true) y.1 ∧ fWorker3 y.2
def dWorker1 : Kd ((List Pair) × Int × Int × Int × Int × (List Span)) := Kd.pair (Kd.slice kPair) dWorker2
def fWorker1 : ((List Pair) × Int × Int × Int × Int × (List Span)) → Prop := fun y => (fun xs : List Pair => xs.length * 32 ≤ reachBytes ∧ ∀ x ∈ xs, fitPair x) y.1 ∧ fWorker2 y.2
def dWorker0 : Kd (ByteArray × (List Pair) × Int × Int × Int × Int × (List Span)) := Kd.pair Kd.string dWorker1
def fWorker0 : (ByteArray × (List Pair) × Int × Int × Int × Int × (List Span)) → Prop := fun y => (fun s : ByteArray => s.size ≤ reachBytes) y.1 ∧ fWorker1 y.2
def FWorker (x : Worker) : ByteArray × (List Pair) × Int × Int × Int × Int × (List Span) := (x.Name, x.Has, x.Slots, x.Speed, x.From, x.To, x.Stands)
def GWorker (y : ByteArray × (List Pair) × Int × Int × Int × Int × (List Span)) : Worker := ⟨y.1, y.2.1, y.2.2.1, y.2.2.2.1, y.2.2.2.2.1, y.2.2.2.2.2.1, y.2.2.2.2.2.2⟩
theorem opensFWorker {fs : Array Field} (h : Tryd.prog.underlying 27 = some (.struct fs)) : OpensF Tryd.prog fs.toList 0 dWorker0 fWorker0 := by
  rw [Tryd.underlying27] at h
  injection h with h
  injection h with h
  subst h
  exact (OpensF.cons (d := Kd.string) (d2 := dWorker1) (fit := (fun s : ByteArray => s.size ≤ reachBytes)) (fit2 := fWorker1) (by kernel_rfl) (by kernel_rfl) (Opens.string Tryd.underlying9) (OpensF.cons (d := (Kd.slice kPair)) (d2 := dWorker2) (fit := (fun xs : List Pair => xs.length * 32 ≤ reachBytes ∧ ∀ x ∈ xs, fitPair x)) (fit2 := fWorker2) (by kernel_rfl) (by kernel_rfl) (Opens.slice Tryd.underlying24 (by kernel_rfl) (by decide) opensPair (B := 32) (by kernel_rfl)) (OpensF.cons (d := (Kd.int .i64)) (d2 := dWorker3) (fit := (fun n : Int => (Lit.int .i64 n).wf = true)) (fit2 := fWorker3) (by kernel_rfl) (by kernel_rfl) (Opens.int Tryd.underlying3) (OpensF.cons (d := (Kd.int .i64)) (d2 := dWorker4) (fit := (fun n : Int => (Lit.int .i64 n).wf = true)) (fit2 := fWorker4) (by kernel_rfl) (by kernel_rfl) (Opens.int Tryd.underlying3) (OpensF.cons (d := (Kd.int .i64)) (d2 := dWorker5) (fit := (fun n : Int => (Lit.int .i64 n).wf = true)) (fit2 := fWorker5) (by kernel_rfl) (by kernel_rfl) (Opens.int Tryd.underlying3) (OpensF.cons (d := (Kd.int .i64)) (d2 := dWorker6) (fit := (fun n : Int => (Lit.int .i64 n).wf = true)) (fit2 := fWorker6) (by kernel_rfl) (by kernel_rfl) (Opens.int Tryd.underlying3) (OpensF.last (d := dWorker6) (fit := fWorker6) (by kernel_rfl) (by kernel_rfl) (Opens.slice Tryd.underlying25 (by kernel_rfl) (by decide) opensSpan (B := 16) (by kernel_rfl)))))))))
theorem opensWorker : Opens Tryd.prog 27 kWorker fitWorker := by
  have h : Opens Tryd.prog 27 (Kd.iso dWorker0 FWorker) (fun x => fWorker0 (FWorker x)) := Opens.struct (f := FWorker) (g := GWorker) Tryd.underlying27 (by kernel_rfl) (by rintro ⟨y0, y1, y2, y3, y4, y5, y6⟩; rfl) (opensFWorker Tryd.underlying27)
  exact h
def dWork3 : Kd ((List ByteArray)) := (Kd.slice Kd.string)
def fWork3 : (List ByteArray) → Prop := (fun xs : List ByteArray => xs.length * 16 ≤ reachBytes ∧ ∀ x ∈ xs, (fun s : ByteArray => s.size ≤ reachBytes) x)
def dWork2 : Kd (Int × (List ByteArray)) := Kd.pair (Kd.int .i64) dWork3
def fWork2 : (Int × (List ByteArray)) → Prop := fun y => (fun n : Int => (Lit.int .i64 n).wf = true) y.1 ∧ fWork3 y.2
def dWork1 : Kd ((List Pair) × Int × (List ByteArray)) := Kd.pair (Kd.slice kPair) dWork2
def fWork1 : ((List Pair) × Int × (List ByteArray)) → Prop := fun y => (fun xs : List Pair => xs.length * 32 ≤ reachBytes ∧ ∀ x ∈ xs, fitPair x) y.1 ∧ fWork2 y.2
def dWork0 : Kd (ByteArray × (List Pair) × Int × (List ByteArray)) := Kd.pair Kd.string dWork1
def fWork0 : (ByteArray × (List Pair) × Int × (List ByteArray)) → Prop := fun y => (fun s : ByteArray => s.size ≤ reachBytes) y.1 ∧ fWork1 y.2
def FWork (x : Work) : ByteArray × (List Pair) × Int × (List ByteArray) := (x.Id, x.Needs, x.Size, x.After)
def GWork (y : ByteArray × (List Pair) × Int × (List ByteArray)) : Work := ⟨y.1, y.2.1, y.2.2.1, y.2.2.2⟩
theorem opensFWork {fs : Array Field} (h : Tryd.prog.underlying 30 = some (.struct fs)) : OpensF Tryd.prog fs.toList 0 dWork0 fWork0 := by
  rw [Tryd.underlying30] at h
  injection h with h
  injection h with h
  subst h
  exact (OpensF.cons (d := Kd.string) (d2 := dWork1) (fit := (fun s : ByteArray => s.size ≤ reachBytes)) (fit2 := fWork1) (by kernel_rfl) (by kernel_rfl) (Opens.string Tryd.underlying9) (OpensF.cons (d := (Kd.slice kPair)) (d2 := dWork2) (fit := (fun xs : List Pair => xs.length * 32 ≤ reachBytes ∧ ∀ x ∈ xs, fitPair x)) (fit2 := fWork2) (by kernel_rfl) (by kernel_rfl) (Opens.slice Tryd.underlying24 (by kernel_rfl) (by decide) opensPair (B := 32) (by kernel_rfl)) (OpensF.cons (d := (Kd.int .i64)) (d2 := dWork3) (fit := (fun n : Int => (Lit.int .i64 n).wf = true)) (fit2 := fWork3) (by kernel_rfl) (by kernel_rfl) (Opens.int Tryd.underlying3) (OpensF.last (d := dWork3) (fit := fWork3) (by kernel_rfl) (by kernel_rfl) (Opens.slice Tryd.underlying28 (by kernel_rfl) (by decide) (Opens.string Tryd.underlying9) (B := 16) (by kernel_rfl))))))
theorem opensWork : Opens Tryd.prog 30 kWork fitWork := by
  have h : Opens Tryd.prog 30 (Kd.iso dWork0 FWork) (fun x => fWork0 (FWork x)) := Opens.struct (f := FWork) (g := GWork) Tryd.underlying30 (by kernel_rfl) (by rintro ⟨y0, y1, y2, y3⟩; rfl) (opensFWork Tryd.underlying30)
  exact h
theorem own_workersChecksMatchSpec : ownKnob Tryd.prog.godebug = none := by kernel_rfl
theorem laidOut_workersChecksMatchSpec : laidOutB Tryd.prog = true := by kernel_rfl
set_option maxRecDepth 100000 in
theorem lifted_workersChecksMatchSpec (os : Os) (started : os.Started) (H : Type) (enc : TypeId × Value → H) :
    ReturnsInHanded {} Tryd.checked os 3 .any (fun w args => (Rows.workersChecksMatchSpecSpec.pre enc Tryd.prog Tryd.f3 Rows.workersChecksMatchSpecRow.domain false w args ∧ laidMetH Tryd.prog Rows.workersChecksMatchSpecRow.laid w) ∧ sizedMet enc Tryd.prog Tryd.f3 (OpenSpec.ofChange Rows.workersChecksMatchSpecSpec) false w args) (Rows.workersChecksMatchSpecSpec.post enc Tryd.prog Tryd.f3 false true false false) := by
  refine returnsInHanded_of_change_and (C := Tryd.checked) (X := fun w _ => laidMetH Tryd.prog Rows.workersChecksMatchSpecRow.laid w) (fun _ _ _ hh h => h.of_heap hh) own_workersChecksMatchSpec started (by kernel_rfl) Tryd.func3
    (ChangeSpec.witness_shaped (enc := enc) (C := Tryd.checked) (os := os) (X := fun w _ => laidMetH Tryd.prog Rows.workersChecksMatchSpecRow.laid w) false (World.laidAll Tryd.prog os Rows.workersChecksMatchSpecRow.laid) #[.slice none 0 0, .slice none 0 0, .agg #[.string ByteArray.empty, .slice none 0 0, .int .i64 0, .int .i64 0, .int .i64 0, .int .i64 0, .slice none 0 0], .agg #[.string ByteArray.empty, .slice none 0 0, .int .i64 0, .slice none 0 0]] 8 (World.laidAll_os _ _ _)
      (World.shaped_of_ZipB (by kernel_rfl) (by kernel_rfl)) (by kernel_rfl) (by kernel_rfl) (by kernel_rfl)
      (by rw [MakeChecks.laidMetH_plain _ _ _ (by kernel_rfl)]; exact laidMet_laidAll _ (by kernel_rfl) (by kernel_rfl))) ?_
  intro W base args ds gs before hval0 hW hcnd hsz0 hL _
  have hsz : (DataW.weightsEach Tryd.prog (Tryd.f3.params.toList ++ Rows.workersChecksMatchSpecSpec.plain.varTypes Tryd.prog) (ds ++ gs)).all (· ≤ reachBytes) = true := hsz0
  have hval : ∀ (j : Nat) t v, Tryd.f3.params[j]? = some t → args[j]? = some v → Value.okWide Tryd.prog W .any base t v := hval0
  have hW' := hW
  obtain ⟨p, q, hA0, hV, rfl, hfz, hnd⟩ := hW
  have hA : DataW.TrodAll enc Tryd.prog W 0 (fun _ => true) true Tryd.f3.params.toList args.toList ds p := hA0
  rw [Tryd.params3] at hA hval hsz
  obtain ⟨v0, vs0, d0, ds0, p0, q0, hargs, rfl, rfl, h0, r0⟩ := trodAll_cons hA
  obtain ⟨v1, vs1, d1, ds1, p1, q1, rfl, rfl, rfl, h1, r1⟩ := trodAll_cons r0
  obtain ⟨v2, vs2, d2, ds2, p2, q2, rfl, rfl, rfl, h2, r2⟩ := trodAll_cons r1
  obtain ⟨v3, vs3, d3, ds3, p3, q3, rfl, rfl, rfl, h3, r3⟩ := trodAll_cons r2
  obtain ⟨rfl, rfl, rfl⟩ := trodAll_nil r3
  obtain rfl : args = #[v0, v1, v2, v3] := by cases args; simp_all
  obtain ⟨rfl, rfl⟩ := trodVars_none hV
  obtain ⟨A0, len0, cap0, rfl⟩ := okWide_slice Tryd.underlying22 (hval 0 22 v0 rfl rfl)
  have k0 := h0
  have lt0 : ∀ x ∈ p0, x.block < W.heap.size := by obtain ⟨m, hm⟩ := k0; exact DataW.trod_lt m _ _ _ hm
  obtain ⟨fuel0, hf0⟩ := h0
  obtain ⟨a0, ⟨B0, c0, hcs0, hc0, hr0⟩, hfit0⟩ := ((Opens.slice Tryd.underlying22 (by kernel_rfl) (by decide) opensWorker (B := 96) (by kernel_rfl))).go hf0 (weights_at hsz (j := 0) (t := 22) rfl rfl)
  simp [Value.cells] at hcs0
  obtain ⟨rfl, rfl, rfl⟩ := hcs0
  obtain ⟨A1, len1, cap1, rfl⟩ := okWide_slice Tryd.underlying23 (hval 1 23 v1 rfl rfl)
  have k1 := h1
  have lt1 : ∀ x ∈ p1, x.block < W.heap.size := by obtain ⟨m, hm⟩ := k1; exact DataW.trod_lt m _ _ _ hm
  obtain ⟨fuel1, hf1⟩ := h1
  obtain ⟨a1, ⟨B1, c1, hcs1, hc1, hr1⟩, hfit1⟩ := ((Opens.slice Tryd.underlying23 (by kernel_rfl) (by decide) opensWork (B := 72) (by kernel_rfl))).go hf1 (weights_at hsz (j := 1) (t := 23) rfl rfl)
  simp [Value.cells] at hcs1
  obtain ⟨rfl, rfl, rfl⟩ := hcs1
  obtain ⟨cs2, rfl, hsize2⟩ := okWide_struct Tryd.underlying27 (hval 2 27 v2 rfl rfl)
  have k2 := h2
  have lt2 : ∀ x ∈ p2, x.block < W.heap.size := by obtain ⟨m, hm⟩ := k2; exact DataW.trod_lt m _ _ _ hm
  obtain ⟨fuel2, hf2⟩ := h2
  obtain ⟨a2, hK2, hfit2⟩ := (opensWorker).go hf2 (weights_at hsz (j := 2) (t := 27) rfl rfl)
  obtain ⟨A2_1, c2_1, A2_6, c2_6, hcs2, hc2_1, hr2_1, hc2_6, hr2_6⟩ := kWorker_open hK2
  obtain rfl : cs2 = #[.string a2.Name, .slice A2_1 a2.Has.length c2_1, .int .i64 a2.Slots, .int .i64 a2.Speed, .int .i64 a2.From, .int .i64 a2.To, .slice A2_6 a2.Stands.length c2_6] := by cases cs2; simpa [Value.cells] using hcs2
  obtain ⟨cs3, rfl, hsize3⟩ := okWide_struct Tryd.underlying30 (hval 3 30 v3 rfl rfl)
  have k3 := h3
  have lt3 : ∀ x ∈ p3, x.block < W.heap.size := by obtain ⟨m, hm⟩ := k3; exact DataW.trod_lt m _ _ _ hm
  obtain ⟨fuel3, hf3⟩ := h3
  obtain ⟨a3, hK3, hfit3⟩ := (opensWork).go hf3 (weights_at hsz (j := 3) (t := 30) rfl rfl)
  obtain ⟨A3_1, c3_1, A3_3, c3_3, hcs3, hc3_1, hr3_1, hc3_3, hr3_3⟩ := kWork_open hK3
  obtain rfl : cs3 = #[.string a3.Id, .slice A3_1 a3.Needs.length c3_1, .int .i64 a3.Size, .slice A3_3 a3.After.length c3_3] := by cases cs3; simpa [Value.cells] using hcs3
  clear hA0 hval0 hsz0 hsz
  have heq := WorkersChecksMatchSpec_pure a0 a1 a2 a3 hfit0 hfit1 hfit2 hfit3
  refine (smithyardlaw9_WorkersChecksMatchSpec_c (w0 := W) (H0 := hp W) (F := []) (Rw.of hr0) hc0 rfl (Rw.of hr1) hc1 rfl (Rw.of hr2_1) hc2_1 rfl (Rw.of hr2_6) hc2_6 rfl (Rw.of hr3_1) hc3_1 rfl (Rw.of hr3_3) hc3_3 rfl heq W (Heap.start W)).mono ?_
  rintro e W' ⟨v, rfl, H', cs', _, hh, rfl, _⟩
  have bel : Below W.heap.size W W' := hh.ext
  exact ⟨_, rfl, _, _, _, [], _, [], hW', trodAll_mk1 (shut_bool Tryd.underlying4 _), (trodAll_cons_mk (Below.trod laidOut_workersChecksMatchSpec (by kernel_rfl) (of_decide_eq_true (by kernel_rfl)) k0 bel lt0) (trodAll_cons_mk (Below.trod laidOut_workersChecksMatchSpec (by kernel_rfl) (of_decide_eq_true (by kernel_rfl)) k1 bel lt1) (trodAll_cons_mk (Below.trod laidOut_workersChecksMatchSpec (by kernel_rfl) (of_decide_eq_true (by kernel_rfl)) k2 bel lt2) (trodAll_cons_mk (Below.trod laidOut_workersChecksMatchSpec (by kernel_rfl) (of_decide_eq_true (by kernel_rfl)) k3 bel lt3) trodAll_mk0)))), rfl, bel.frame _, fun h => by cases h⟩
theorem closed_workersChecksMatchSpec : joinedFacts Tryd.prog 3 Tryd.f3 Rows.workersChecksMatchSpecSpec Rows.workersChecksMatchSpecRow = true := by
  unfold joinedFacts
  rw [fact_enter, fact_final, fact_make]
  kernel_rfl
theorem workersChecksMatchSpec_row : Rows.WorkersChecksMatchSpecSaid :=
  OpenClaim.holds_of_wide 3 Tryd.f3 rfl rfl rfl rfl rfl rfl rfl ⟨rfl, rfl, rfl, rfl, rfl⟩ rfl rfl rfl rfl rfl (by kernel_rfl) Tryd.func3 closed_workersChecksMatchSpec
    (of_decide_eq_true (by kernel_rfl)) (by unfold Func.isWrapper; first | (rw [if_pos (by decide +kernel)]; kernel_rfl) | (rw [if_neg (by decide +kernel)]; exact ⟨rfl, rfl⟩))
    (fun os started H enc _ => lifted_workersChecksMatchSpec os started H enc)
theorem workersChecksMatchSpec_holds : Rows.WorkersChecksMatchSpecCardSaid :=
  Claim7.holds_tied_plain_at .later [] [.data, .pinned] true (true, "9c7d0e9196dfa4c7cee86bbdd43e921047bb2993dd030704d17cf2e5cffd9884") false workersChecksMatchSpec_row (fun _ h => by cases h) (by kernel_rfl) (fun _ h => by cases h) workersChecksMatchSpec_row_tie rfl ⟨rfl, rfl⟩ fact_main rfl
    (fun f fn hf hfn => by
      obtain rfl : f = 3 := Option.some.inj ((show Tryd.prog.funcNamed "smithyard/smithyardlaw9.WorkersChecksMatchSpec" = some 3 by kernel_rfl).symm.trans hf) |>.symm
      obtain rfl : fn = Tryd.f3 := (Option.some.inj (Tryd.func3.symm.trans hfn)).symm
      exact ⟨by kernel_rfl, fun j t ht => by
        rw [Tryd.params3] at ht
        have hm : t ∈ [22, 23, 27, 30] := by simpa using Array.mem_of_getElem? ht
        have hall : ([22, 23, 27, 30].all fun u => !Tryd.prog.wantsStandIn u) = true := by kernel_rfl
        exact (show Tryd.prog.wantsStandIn t = false by simpa using List.all_eq_true.1 hall t hm)⟩)
    (by kernel_rfl)
#print axioms workersChecksMatchSpec_holds
end Go.Proofs.YteljhhgffmpgnaaDoor
