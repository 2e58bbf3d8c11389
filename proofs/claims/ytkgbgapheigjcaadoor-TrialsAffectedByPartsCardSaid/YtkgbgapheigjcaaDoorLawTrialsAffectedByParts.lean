/- TrialsAffectedByParts: for every input the law returns true and leaves its arguments as they were; its package-level variables start as the program's text lays them. -/
import Derived.Test.YtkgbgapheigjcaaDoorRows
import Derived.Test.YtkgbgapheigjcaaDoorCards
import Derived.Test.YtkgbgapheigjcaaDoorTie
import Derived.Test.YtkgbgapheigjcaaDoorZ3M
import Derived.Test.YtkgbgapheigjcaaDoorKitR
import Derived.Test.YtkgbgapheigjcaaDoorFacts
import Derived.Test.YtkgbgapheigjcaaDoorPureTrialsAffectedByParts
import Derived.WalkKit
import Derived.ProofKit
import Derived.OpenShut
import Derived.ShutString
import Derived.ChangeOld
import Derived.Below
import Derived.SizedLaws
import Derived.LaidMore
import Derived.Lay
import Derived.SevenTiedAt
import Derived.Stop.Joined
namespace Go.Proofs.YtkgbgapheigjcaaDoor
open Go Go.ChangeShapes Go.WideShapes Go.ChangeAt Go.RowKit Go.Proofs.YtkgbgapheigjcaaDoor.Kit
open Go.ChangeMaps (open_string shut_string)
set_option linter.unusedVariables false
def dTestReads2 : Kd ((List ByteArray)) := (Kd.slice Kd.string)
def fTestReads2 : (List ByteArray) → Prop := (fun xs : List ByteArray => xs.length * 16 ≤ reachBytes ∧ ∀ x ∈ xs, (fun s : ByteArray => s.size ≤ reachBytes) x)
def dTestReads1 : Kd ((List ByteArray) × (List ByteArray)) := Kd.pair (Kd.slice Kd.string) dTestReads2
def fTestReads1 : ((List ByteArray) × (List ByteArray)) → Prop := fun y => (fun xs : List ByteArray => xs.length * 16 ≤ reachBytes ∧ ∀ x ∈ xs, (fun s : ByteArray => s.size ≤ reachBytes) x) y.1 ∧ fTestReads2 y.2
def dTestReads0 : Kd (ByteArray × (List ByteArray) × (List ByteArray)) := Kd.pair Kd.string dTestReads1
def fTestReads0 : (ByteArray × (List ByteArray) × (List ByteArray)) → Prop := fun y => (fun s : ByteArray => s.size ≤ reachBytes) y.1 ∧ fTestReads1 y.2
def FTestReads (x : TestReads) : ByteArray × (List ByteArray) × (List ByteArray) := (x.Test, x.Paths, x.Looked)
def GTestReads (y : ByteArray × (List ByteArray) × (List ByteArray)) : TestReads := ⟨y.1, y.2.1, y.2.2⟩
theorem opensFTestReads {fs : Array Field} (h : Tryd.prog.underlying 42 = some (.struct fs)) : OpensF reachBytes Tryd.prog fs.toList 0 dTestReads0 fTestReads0 := by
  rw [Tryd.underlying42] at h
  injection h with h
  injection h with h
  subst h
  exact (OpensF.cons (d := Kd.string) (d2 := dTestReads1) (fit := (fun s : ByteArray => s.size ≤ reachBytes)) (fit2 := fTestReads1) (by kernel_rfl) (by kernel_rfl) (Opens.string Tryd.underlying9) (OpensF.cons (d := (Kd.slice Kd.string)) (d2 := dTestReads2) (fit := (fun xs : List ByteArray => xs.length * 16 ≤ reachBytes ∧ ∀ x ∈ xs, (fun s : ByteArray => s.size ≤ reachBytes) x)) (fit2 := fTestReads2) (by kernel_rfl) (by kernel_rfl) (Opens.slice Tryd.underlying24 (by kernel_rfl) (by decide) (Opens.string Tryd.underlying9) (B := 16) (by kernel_rfl)) (OpensF.last (d := dTestReads2) (fit := fTestReads2) (by kernel_rfl) (by kernel_rfl) (Opens.slice Tryd.underlying24 (by kernel_rfl) (by decide) (Opens.string Tryd.underlying9) (B := 16) (by kernel_rfl)))))
theorem opensTestReads : Opens reachBytes Tryd.prog 42 kTestReads fitTestReads := by
  have h : Opens reachBytes Tryd.prog 42 (Kd.iso dTestReads0 FTestReads) (fun x => fTestReads0 (FTestReads x)) := Opens.struct (f := FTestReads) (g := GTestReads) Tryd.underlying42 (by kernel_rfl) (by rintro ⟨y0, y1, y2⟩; rfl) (opensFTestReads Tryd.underlying42)
  exact h
def dTreeChange1 : Kd (Int) := (Kd.int .i64)
def fTreeChange1 : Int → Prop := (fun n : Int => (Lit.int .i64 n).wf = true)
def dTreeChange0 : Kd (ByteArray × Int) := Kd.pair Kd.string dTreeChange1
def fTreeChange0 : (ByteArray × Int) → Prop := fun y => (fun s : ByteArray => s.size ≤ reachBytes) y.1 ∧ fTreeChange1 y.2
def FTreeChange (x : TreeChange) : ByteArray × Int := (x.Path, x.Kind)
def GTreeChange (y : ByteArray × Int) : TreeChange := ⟨y.1, y.2⟩
theorem opensFTreeChange {fs : Array Field} (h : Tryd.prog.underlying 58 = some (.struct fs)) : OpensF reachBytes Tryd.prog fs.toList 0 dTreeChange0 fTreeChange0 := by
  rw [Tryd.underlying58] at h
  injection h with h
  injection h with h
  subst h
  exact (OpensF.cons (d := Kd.string) (d2 := dTreeChange1) (fit := (fun s : ByteArray => s.size ≤ reachBytes)) (fit2 := fTreeChange1) (by kernel_rfl) (by kernel_rfl) (Opens.string Tryd.underlying9) (OpensF.last (d := dTreeChange1) (fit := fTreeChange1) (by kernel_rfl) (by kernel_rfl) (Opens.int Tryd.underlying3)))
theorem opensTreeChange : Opens reachBytes Tryd.prog 58 kTreeChange fitTreeChange := by
  have h : Opens reachBytes Tryd.prog 58 (Kd.iso dTreeChange0 FTreeChange) (fun x => fTreeChange0 (FTreeChange x)) := Opens.struct (f := FTreeChange) (g := GTreeChange) Tryd.underlying58 (by kernel_rfl) (by rintro ⟨y0, y1⟩; rfl) (opensFTreeChange Tryd.underlying58)
  exact h
theorem own_trialsAffectedByParts : ownKnob Tryd.prog.godebug = none := by kernel_rfl
theorem laidOut_trialsAffectedByParts : laidOutB Tryd.prog = true := by kernel_rfl
set_option maxRecDepth 100000 in
theorem lifted_trialsAffectedByParts (os : Os) (started : os.Started) (H : Type) (enc : TypeId × Value → H) :
    ReturnsInHanded {} Tryd.checked os 3 .any (fun w args => (Rows.trialsAffectedByPartsSpec.pre enc Tryd.prog Tryd.f3 Rows.trialsAffectedByPartsRow.domain false w args ∧ laidMetH Tryd.prog Rows.trialsAffectedByPartsRow.laid w) ∧ sizedMet enc Tryd.prog Tryd.f3 (OpenSpec.ofChange Rows.trialsAffectedByPartsSpec) false w args) (Rows.trialsAffectedByPartsSpec.post enc Tryd.prog Tryd.f3 false true false false) := by
  refine returnsInHanded_both (C := Tryd.checked) (X := fun w _ => laidMetH Tryd.prog Rows.trialsAffectedByPartsRow.laid w) (fun _ _ _ hh h => h.of_heap hh) own_trialsAffectedByParts started (by kernel_rfl) Tryd.func3
    (ChangeSpec.witness_shaped (enc := enc) (C := Tryd.checked) (os := os) (X := fun w _ => laidMetH Tryd.prog Rows.trialsAffectedByPartsRow.laid w) false (World.laidAll Tryd.prog os Rows.trialsAffectedByPartsRow.laid) #[.slice none 0 0, .slice none 0 0, .int .i64 0] 8 (World.laidAll_os _ _ _)
      (World.shaped_of_ZipB (by kernel_rfl) (by kernel_rfl)) (by kernel_rfl) (by kernel_rfl) (by kernel_rfl)
      (by rw [MakeChecks.laidMetH_plain _ _ _ (by kernel_rfl)]; exact laidMet_laidAll _ (by kernel_rfl) (by kernel_rfl))) ?_
  intro W base args ds gs before hval0 hW hcnd hsz0 hL hshp _
  haveI : GlobI 0 W := GlobI.of (t := 3) (zero := #[.int .i64 0]) hshp (of_decide_eq_true (by kernel_rfl)) (by kernel_rfl) rfl (by kernel_rfl) (by kernel_rfl) Tryd.underlying3
  have hsz : (DataW.weightsEach Tryd.prog (Tryd.f3.params.toList ++ Rows.trialsAffectedByPartsSpec.plain.varTypes Tryd.prog) (ds ++ gs)).all (· ≤ reachBytes) = true := hsz0
  have hval : ∀ (j : Nat) t v, Tryd.f3.params[j]? = some t → args[j]? = some v → Value.okWide Tryd.prog W .any base t v := hval0
  have hW' := hW
  obtain ⟨p, q, hA0, hV, rfl, hfz, hnd⟩ := hW
  have hA : DataW.TrodAll enc Tryd.prog W 0 (fun _ => true) true Tryd.f3.params.toList args.toList ds p := hA0
  rw [Tryd.params3] at hA hval hsz
  obtain ⟨v0, vs0, d0, ds0, p0, q0, hargs, rfl, rfl, h0, r0⟩ := trodAll_cons hA
  obtain ⟨v1, vs1, d1, ds1, p1, q1, rfl, rfl, rfl, h1, r1⟩ := trodAll_cons r0
  obtain ⟨v2, vs2, d2, ds2, p2, q2, rfl, rfl, rfl, h2, r2⟩ := trodAll_cons r1
  obtain ⟨rfl, rfl, rfl⟩ := trodAll_nil r2
  obtain rfl : args = #[v0, v1, v2] := by cases args; simp_all
  obtain ⟨rfl, rfl⟩ := trodVars_none hV
  obtain ⟨A0, len0, cap0, rfl⟩ := okWide_slice Tryd.underlying22 (hval 0 22 v0 rfl rfl)
  have k0 := h0
  have lt0 : ∀ x ∈ p0, x.block < W.heap.size := by obtain ⟨m, hm⟩ := k0; exact DataW.trod_lt m _ _ _ hm
  obtain ⟨fuel0, hf0⟩ := h0
  obtain ⟨a0, ⟨B0, c0, hcs0, hc0, hr0⟩, hfit0⟩ := ((Opens.slice Tryd.underlying22 (by kernel_rfl) (by decide) opensTestReads (B := 64) (by kernel_rfl))).go hf0 (weights_at hsz (j := 0) (t := 22) rfl rfl)
  simp [Value.cells] at hcs0
  obtain ⟨rfl, rfl, rfl⟩ := hcs0
  obtain ⟨A1, len1, cap1, rfl⟩ := okWide_slice Tryd.underlying23 (hval 1 23 v1 rfl rfl)
  have k1 := h1
  have lt1 : ∀ x ∈ p1, x.block < W.heap.size := by obtain ⟨m, hm⟩ := k1; exact DataW.trod_lt m _ _ _ hm
  obtain ⟨fuel1, hf1⟩ := h1
  obtain ⟨a1, ⟨B1, c1, hcs1, hc1, hr1⟩, hfit1⟩ := ((Opens.slice Tryd.underlying23 (by kernel_rfl) (by decide) opensTreeChange (B := 24) (by kernel_rfl))).go hf1 (weights_at hsz (j := 1) (t := 23) rfl rfl)
  simp [Value.cells] at hcs1
  obtain ⟨rfl, rfl, rfl⟩ := hcs1
  obtain ⟨a2, rfl, rfl, rfl, w2⟩ := open_int Tryd.underlying3 (hval 2 3 v2 rfl rfl) h2
  clear hA0 hval0 hsz0 hsz
  have heq := TrialsAffectedByParts_pure a0 a1 a2 hfit0 hfit1 w2
  refine (smithyardlaw10_TrialsAffectedByParts_c (w0 := W) (H0 := hp W) (F := []) (Rw.of hr0) hc0 rfl (Rw.of hr1) hc1 rfl heq W (Heap.start W)).mono ?_
  rintro e W' ⟨v, rfl, H', cs', _, hh, rfl, _⟩
  have bel : Below W.heap.size W W' := hh.ext
  exact ⟨_, rfl, _, _, _, [], _, [], hW', trodAll_mk1 (shut_bool Tryd.underlying4 _), (trodAll_cons_mk (Below.trod laidOut_trialsAffectedByParts (by kernel_rfl) (of_decide_eq_true (by kernel_rfl)) k0 bel lt0) (trodAll_cons_mk (Below.trod laidOut_trialsAffectedByParts (by kernel_rfl) (of_decide_eq_true (by kernel_rfl)) k1 bel lt1) (trodAll_cons_mk (shut_int Tryd.underlying3 w2) trodAll_mk0))), rfl, bel.frame _, fun h => by cases h⟩
theorem closed_trialsAffectedByParts : joinedFacts Tryd.prog 3 Tryd.f3 Rows.trialsAffectedByPartsSpec Rows.trialsAffectedByPartsRow = true := by
  unfold joinedFacts
  rw [fact_enter, fact_final, fact_make]
  kernel_rfl
theorem trialsAffectedByParts_row : Rows.TrialsAffectedByPartsSaid :=
  OpenClaim.holds_of_wide 3 Tryd.f3 rfl rfl rfl rfl rfl rfl rfl ⟨rfl, rfl, rfl, rfl, rfl⟩ rfl rfl rfl rfl rfl (by kernel_rfl) Tryd.func3 closed_trialsAffectedByParts
    (of_decide_eq_true (by kernel_rfl)) (by unfold Func.isWrapper; first | (rw [if_pos (by decide +kernel)]; kernel_rfl) | (rw [if_neg (by decide +kernel)]; exact ⟨rfl, rfl⟩))
    (fun os started H enc _ => lifted_trialsAffectedByParts os started H enc)
theorem trialsAffectedByParts_holds : Rows.TrialsAffectedByPartsCardSaid :=
  Claim7.holds_tied_plain_at .later [] [.data, .pinned] true (true, "e4e77cbf342147087e373b4000ae5e918a9166c93357fcf16e5e4dc8531e2112") false trialsAffectedByParts_row (fun _ h => by cases h) (by kernel_rfl) (fun _ h => by cases h) trialsAffectedByParts_row_tie rfl ⟨rfl, rfl⟩ fact_main rfl
    (fun f fn hf hfn => by
      obtain rfl : f = 3 := Option.some.inj ((show Tryd.prog.funcNamed "smithyard/smithyardlaw10.TrialsAffectedByParts" = some 3 by kernel_rfl).symm.trans hf) |>.symm
      obtain rfl : fn = Tryd.f3 := (Option.some.inj (Tryd.func3.symm.trans hfn)).symm
      exact ⟨by kernel_rfl, fun j t ht => by
        rw [Tryd.params3] at ht
        have hm : t ∈ [22, 23, 3] := by simpa using Array.mem_of_getElem? ht
        have hall : ([22, 23, 3].all fun u => !Tryd.prog.wantsStandIn u) = true := by kernel_rfl
        exact (show Tryd.prog.wantsStandIn t = false by simpa using List.all_eq_true.1 hall t hm)⟩)
    (by kernel_rfl)
#print axioms trialsAffectedByParts_holds
end Go.Proofs.YtkgbgapheigjcaaDoor
