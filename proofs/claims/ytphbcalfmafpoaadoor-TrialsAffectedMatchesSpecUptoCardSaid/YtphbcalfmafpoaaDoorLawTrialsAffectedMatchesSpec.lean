/- TrialsAffectedMatchesSpec: for every input the law returns true and leaves its arguments as they were; its package-level variables start as the program's text lays them. -/
import Derived.Test.YtphbcalfmafpoaaDoorRows
import Derived.Test.YtphbcalfmafpoaaDoorBulk
import Derived.Test.YtphbcalfmafpoaaDoorCards
import Derived.Test.YtphbcalfmafpoaaDoorTie
import Derived.Test.YtphbcalfmafpoaaDoorZ3M
import Derived.Test.YtphbcalfmafpoaaDoorKitR
import Derived.Test.YtphbcalfmafpoaaDoorFacts
import Derived.Test.YtphbcalfmafpoaaDoorPureTrialsAffectedMatchesSpec
import Derived.WalkKit
import Derived.ProofKit
import Derived.OpenShut
import Derived.ShutString
import Derived.ChangeOld
import Derived.Below
import Derived.SizedLaws
import Derived.LaidMore
import Derived.Lay
import Derived.SevenTiedAt
import Derived.Stop.Joined
import Derived.Deep.DeepHandedRow
namespace Go.Proofs.YtphbcalfmafpoaaDoor
open Go Go.ChangeShapes Go.WideShapes Go.ChangeAt Go.RowKit Go.Proofs.YtphbcalfmafpoaaDoor.Kit
open Go.ChangeMaps (open_string shut_string)
set_option linter.unusedVariables false
def dTestReads2 : Kd ((List ByteArray)) := (Kd.slice Kd.string)
def fTestReads2 : (List ByteArray) → Prop := (fun xs : List ByteArray => xs.length * 16 ≤ 67108864 ∧ ∀ x ∈ xs, (fun s : ByteArray => s.size ≤ 67108864) x)
def dTestReads1 : Kd ((List ByteArray) × (List ByteArray)) := Kd.pair (Kd.slice Kd.string) dTestReads2
def fTestReads1 : ((List ByteArray) × (List ByteArray)) → Prop := fun y => (fun xs : List ByteArray => xs.length * 16 ≤ 67108864 ∧ ∀ x ∈ xs, (fun s : ByteArray => s.size ≤ 67108864) x) y.1 ∧ fTestReads2 y.2
def dTestReads0 : Kd (ByteArray × (List ByteArray) × (List ByteArray)) := Kd.pair Kd.string dTestReads1
def fTestReads0 : (ByteArray × (List ByteArray) × (List ByteArray)) → Prop := fun y => (fun s : ByteArray => s.size ≤ 67108864) y.1 ∧ fTestReads1 y.2
def FTestReads (x : TestReads) : ByteArray × (List ByteArray) × (List ByteArray) := (x.Test, x.Paths, x.Looked)
def GTestReads (y : ByteArray × (List ByteArray) × (List ByteArray)) : TestReads := ⟨y.1, y.2.1, y.2.2⟩
theorem opensFTestReads {fs : Array Field} (h : Tryd.prog.underlying 39 = some (.struct fs)) : OpensF 67108864 Tryd.prog fs.toList 0 dTestReads0 fTestReads0 := by
  rw [Tryd.underlying39] at h
  injection h with h
  injection h with h
  subst h
  exact (OpensF.cons (d := Kd.string) (d2 := dTestReads1) (fit := (fun s : ByteArray => s.size ≤ 67108864)) (fit2 := fTestReads1) (by kernel_rfl) (by kernel_rfl) (Opens.string Tryd.underlying9) (OpensF.cons (d := (Kd.slice Kd.string)) (d2 := dTestReads2) (fit := (fun xs : List ByteArray => xs.length * 16 ≤ 67108864 ∧ ∀ x ∈ xs, (fun s : ByteArray => s.size ≤ 67108864) x)) (fit2 := fTestReads2) (by kernel_rfl) (by kernel_rfl) (Opens.slice Tryd.underlying28 (by kernel_rfl) (by decide) (Opens.string Tryd.underlying9) (B := 16) (by kernel_rfl)) (OpensF.last (d := dTestReads2) (fit := fTestReads2) (by kernel_rfl) (by kernel_rfl) (Opens.slice Tryd.underlying28 (by kernel_rfl) (by decide) (Opens.string Tryd.underlying9) (B := 16) (by kernel_rfl)))))
theorem opensTestReads : Opens 67108864 Tryd.prog 39 kTestReads fitTestReads := by
  have h : Opens 67108864 Tryd.prog 39 (Kd.iso dTestReads0 FTestReads) (fun x => fTestReads0 (FTestReads x)) := Opens.struct (f := FTestReads) (g := GTestReads) Tryd.underlying39 (by kernel_rfl) (by rintro ⟨y0, y1, y2⟩; rfl) (opensFTestReads Tryd.underlying39)
  exact h
def dTreeChange1 : Kd (Int) := (Kd.int .i64)
def fTreeChange1 : Int → Prop := (fun n : Int => (Lit.int .i64 n).wf = true)
def dTreeChange0 : Kd (ByteArray × Int) := Kd.pair Kd.string dTreeChange1
def fTreeChange0 : (ByteArray × Int) → Prop := fun y => (fun s : ByteArray => s.size ≤ 67108864) y.1 ∧ fTreeChange1 y.2
def FTreeChange (x : TreeChange) : ByteArray × Int := (x.Path, x.Kind)
def GTreeChange (y : ByteArray × Int) : TreeChange := ⟨y.1, y.2⟩
theorem opensFTreeChange {fs : Array Field} (h : Tryd.prog.underlying 27 = some (.struct fs)) : OpensF 67108864 Tryd.prog fs.toList 0 dTreeChange0 fTreeChange0 := by
  rw [Tryd.underlying27] at h
  injection h with h
  injection h with h
  subst h
  exact (OpensF.cons (d := Kd.string) (d2 := dTreeChange1) (fit := (fun s : ByteArray => s.size ≤ 67108864)) (fit2 := fTreeChange1) (by kernel_rfl) (by kernel_rfl) (Opens.string Tryd.underlying9) (OpensF.last (d := dTreeChange1) (fit := fTreeChange1) (by kernel_rfl) (by kernel_rfl) (Opens.int Tryd.underlying3)))
theorem opensTreeChange : Opens 67108864 Tryd.prog 27 kTreeChange fitTreeChange := by
  have h : Opens 67108864 Tryd.prog 27 (Kd.iso dTreeChange0 FTreeChange) (fun x => fTreeChange0 (FTreeChange x)) := Opens.struct (f := FTreeChange) (g := GTreeChange) Tryd.underlying27 (by kernel_rfl) (by rintro ⟨y0, y1⟩; rfl) (opensFTreeChange Tryd.underlying27)
  exact h
theorem own_trialsAffectedMatchesSpec : ownKnob Tryd.prog.godebug = none := by kernel_rfl
theorem laidOut_trialsAffectedMatchesSpec : laidOutB Tryd.prog = true := by kernel_rfl
set_option maxRecDepth 100000 in
theorem lifted_trialsAffectedMatchesSpec (os : Os) (started : os.Started) (H : Type) (enc : TypeId × Value → H) (F : Stop.Interp) :
    ReturnsInHanded {} Tryd.checked os 3 .any ((Rows.OpenSpec.upto Rows.trialsAffectedMatchesSpecSpec).preRow enc Tryd.prog Tryd.f3 Rows.trialsAffectedMatchesSpecUptoRow.domain false Rows.trialsAffectedMatchesSpecUptoRow.laid) (((Rows.OpenSpec.upto Rows.trialsAffectedMatchesSpecSpec).at F).post enc Tryd.prog Tryd.f3 false true false false) := by
  refine returnsInHanded_of_row (C := Tryd.checked) (s := (Rows.OpenSpec.upto Rows.trialsAffectedMatchesSpecSpec)) own_trialsAffectedMatchesSpec started (by kernel_rfl) Tryd.func3
    (witness_row_at (enc := enc) (C := Tryd.checked) false (World.laidAll Tryd.prog os Rows.trialsAffectedMatchesSpecUptoRow.laid) #[.slice none 0 0, .slice none 0 0] (World.laidAll_os _ _ _) (by kernel_rfl) (by kernel_rfl) (by kernel_rfl)
      (OpenSpec.preRow_of_cond 8 (x := ([.nil, .nil], [], [])) (by kernel_rfl) (by kernel_rfl) (fun k hk => by cases hk; kernel_rfl) (by kernel_rfl) (by rw [MakeChecks.laidMetH_plain _ _ _ (by kernel_rfl)]; exact laidMet_laidAll _ (by kernel_rfl) (by kernel_rfl)))) ?_
  intro W base args ds gs before hval0 hW hcnd hcond hsz1 hL hshp _
  have hsz0 := Bulk.small (P := Tryd.prog) (M := 64) (Q := 67108864) (S := [22, 39, 9, 28, 23, 27, 3]) (ts := Tryd.f3.params.toList ++ Rows.trialsAffectedMatchesSpecSpec.plain.varTypes Tryd.prog) (hcond _ rfl) (by kernel_rfl) (by decide) (by decide) (fun t ht => by have := List.all_eq_true.1 (show ((Tryd.f3.params.toList ++ Rows.trialsAffectedMatchesSpecSpec.plain.varTypes Tryd.prog).all fun t => [22, 39, 9, 28, 23, 27, 3].contains t) = true by kernel_rfl) t ht; simpa using this)
  haveI : GlobI 0 W := GlobI.of (t := 3) (zero := #[.int .i64 0]) hshp (of_decide_eq_true (by kernel_rfl)) (by kernel_rfl) rfl (by kernel_rfl) (by kernel_rfl) Tryd.underlying3
  have hsz : (DataW.weightsEach Tryd.prog (Tryd.f3.params.toList ++ Rows.trialsAffectedMatchesSpecSpec.plain.varTypes Tryd.prog) (ds ++ gs)).all (· ≤ 67108864) = true := hsz0
  have hval : ∀ (j : Nat) t v, Tryd.f3.params[j]? = some t → args[j]? = some v → Value.okWide Tryd.prog W .any base t v := hval0
  have hW' := hW
  obtain ⟨p, q, hA0, hV, rfl, hfz, hnd⟩ := hW
  have hA : DataW.TrodAll enc Tryd.prog W 0 (fun _ => true) true Tryd.f3.params.toList args.toList ds p := hA0
  rw [Tryd.params3] at hA hval hsz
  obtain ⟨v0, vs0, d0, ds0, p0, q0, hargs, rfl, rfl, h0, r0⟩ := trodAll_cons hA
  obtain ⟨v1, vs1, d1, ds1, p1, q1, rfl, rfl, rfl, h1, r1⟩ := trodAll_cons r0
  obtain ⟨rfl, rfl, rfl⟩ := trodAll_nil r1
  obtain rfl : args = #[v0, v1] := by cases args; simp_all
  obtain ⟨rfl, rfl⟩ := trodVars_none hV
  obtain ⟨A0, len0, cap0, rfl⟩ := okWide_slice Tryd.underlying22 (hval 0 22 v0 rfl rfl)
  have k0 := h0
  have lt0 : ∀ x ∈ p0, x.block < W.heap.size := by obtain ⟨m, hm⟩ := k0; exact DataW.trod_lt m _ _ _ hm
  obtain ⟨fuel0, hf0⟩ := h0
  obtain ⟨a0, ⟨B0, c0, hcs0, hc0, hr0⟩, hfit0⟩ := ((Opens.slice Tryd.underlying22 (by kernel_rfl) (by decide) opensTestReads (B := 64) (by kernel_rfl))).go hf0 (weights_at hsz (j := 0) (t := 22) rfl rfl)
  simp [Value.cells] at hcs0
  obtain ⟨rfl, rfl, rfl⟩ := hcs0
  obtain ⟨A1, len1, cap1, rfl⟩ := okWide_slice Tryd.underlying23 (hval 1 23 v1 rfl rfl)
  have k1 := h1
  have lt1 : ∀ x ∈ p1, x.block < W.heap.size := by obtain ⟨m, hm⟩ := k1; exact DataW.trod_lt m _ _ _ hm
  obtain ⟨fuel1, hf1⟩ := h1
  obtain ⟨a1, ⟨B1, c1, hcs1, hc1, hr1⟩, hfit1⟩ := ((Opens.slice Tryd.underlying23 (by kernel_rfl) (by decide) opensTreeChange (B := 24) (by kernel_rfl))).go hf1 (weights_at hsz (j := 1) (t := 23) rfl rfl)
  simp [Value.cells] at hcs1
  obtain ⟨rfl, rfl, rfl⟩ := hcs1
  clear hA0 hval0 hsz0 hsz
  have heq := TrialsAffectedMatchesSpec_pure a0 a1 hfit0 hfit1
  refine (smithyardlaw10_TrialsAffectedMatchesSpec_c (w0 := W) (H0 := hp W) (F := []) (Rw.of hr0) hc0 rfl (Rw.of hr1) hc1 rfl heq W (Heap.start W)).mono ?_
  rintro e W' ⟨v, rfl, H', cs', _, hh, rfl, _⟩
  have bel : Below W.heap.size W W' := hh.ext
  exact ⟨_, rfl, _, _, _, [], _, [], hW', trodAll_mk1 (shut_bool Tryd.underlying4 _), (trodAll_cons_mk (Below.trod laidOut_trialsAffectedMatchesSpec (by kernel_rfl) (of_decide_eq_true (by kernel_rfl)) k0 bel lt0) (trodAll_cons_mk (Below.trod laidOut_trialsAffectedMatchesSpec (by kernel_rfl) (of_decide_eq_true (by kernel_rfl)) k1 bel lt1) trodAll_mk0)), rfl, bel.frame _, fun h => by cases h⟩
theorem closed_trialsAffectedMatchesSpec : joinedFacts Tryd.prog 3 Tryd.f3 Rows.trialsAffectedMatchesSpecSpec Rows.trialsAffectedMatchesSpecUptoRow = true := by
  unfold joinedFacts
  rw [fact_enter, fact_final, fact_make]
  kernel_rfl
theorem trialsAffectedMatchesSpec_row : Rows.TrialsAffectedMatchesSpecUptoSaid :=
  OpenClaim.holds_of_cond 3 Tryd.f3 rfl rfl rfl rfl rfl rfl rfl ⟨rfl, rfl, rfl, rfl, rfl⟩ rfl rfl rfl rfl rfl (by kernel_rfl) Tryd.func3 closed_trialsAffectedMatchesSpec
    (of_decide_eq_true (by kernel_rfl)) (by unfold Func.isWrapper; first | (rw [if_pos (by decide +kernel)]; kernel_rfl) | (rw [if_neg (by decide +kernel)]; exact ⟨rfl, rfl⟩))
    (fun os started H enc _ F => by rw [OpenClaim.pre_eq_preRow]; exact lifted_trialsAffectedMatchesSpec os started H enc F)
theorem trialsAffectedMatchesSpec_holds : Rows.TrialsAffectedMatchesSpecUptoCardSaid :=
  Claim7.holds_tied_plain_at .later [] [.data, .pinned] true (true, "0937baa7e16d456cb59928662a805d447693a0be59e47b0ba146f0e3d7e3647b") false trialsAffectedMatchesSpec_row (fun _ h => by cases h) (by kernel_rfl) (fun _ h => by cases h) trialsAffectedMatchesSpecUpto_row_tie rfl ⟨rfl, rfl⟩ fact_main rfl
    (fun f fn hf hfn => by
      obtain rfl : f = 3 := Option.some.inj ((show Tryd.prog.funcNamed "smithyard/smithyardlaw10.TrialsAffectedMatchesSpec" = some 3 by kernel_rfl).symm.trans hf) |>.symm
      obtain rfl : fn = Tryd.f3 := (Option.some.inj (Tryd.func3.symm.trans hfn)).symm
      exact ⟨by kernel_rfl, fun j t ht => by
        rw [Tryd.params3] at ht
        have hm : t ∈ [22, 23] := by simpa using Array.mem_of_getElem? ht
        have hall : ([22, 23].all fun u => !Tryd.prog.wantsStandIn u) = true := by kernel_rfl
        exact (show Tryd.prog.wantsStandIn t = false by simpa using List.all_eq_true.1 hall t hm)⟩)
    (by kernel_rfl)
#print axioms trialsAffectedMatchesSpec_holds
end Go.Proofs.YtphbcalfmafpoaaDoor
