/- CacheFollowsMatchSpec: for every input the law returns true and leaves its arguments as they were; its package-level variables start as the program's text lays them. -/
import Derived.Test.YtiecpfnjmlidbaaGreatDoorRows
import Derived.Test.YtiecpfnjmlidbaaGreatDoorCards
import Derived.Test.YtiecpfnjmlidbaaGreatDoorTie
import Derived.Test.YtiecpfnjmlidbaaGreatDoorZ3M
import Derived.Test.YtiecpfnjmlidbaaGreatDoorKitR
import Derived.Test.YtiecpfnjmlidbaaGreatDoorFacts
import Derived.Test.YtiecpfnjmlidbaaGreatDoorPureCacheFollowsMatchSpec
import Derived.WalkKit
import Derived.ProofKit
import Derived.OpenShut
import Derived.ShutString
import Derived.ChangeOld
import Derived.Below
import Derived.SizedLaws
import Derived.LaidMore
import Derived.Lay
import Derived.SevenTiedAt
import Derived.Stop.Joined
namespace Go.Proofs.YtiecpfnjmlidbaaGreatDoor
open Go Go.ChangeShapes Go.WideShapes Go.ChangeAt Go.RowKit Go.Proofs.YtiecpfnjmlidbaaGreatDoor.Kit
open Go.ChangeMaps (open_string shut_string)
set_option linter.unusedVariables false
def bP7 : Kd (Int) := (Kd.int .i64)
def bP8 : Int → Prop := (fun n : Int => (Lit.int .i64 n).wf = true)
def ch2 : Kd (Int × Int) := Kd.pair (Kd.int .i64) bP7
def ch3 : (Int × Int) → Prop := fun y => (fun n : Int => (Lit.int .i64 n).wf = true) y.1 ∧ bP8 y.2
def ch4 : Kd (Int × Int × Int) := Kd.pair (Kd.int .i64) ch2
def ch5 : (Int × Int × Int) → Prop := fun y => (fun n : Int => (Lit.int .i64 n).wf = true) y.1 ∧ ch3 y.2
def ch6 : Kd (Int × Int × Int × Int) := Kd.pair (Kd.int .i64) ch4
def ak2 : (Int × Int × Int × Int) → Prop := fun y => (fun n : Int => (Lit.int .i64 n).wf = true) y.1 ∧ ch5 y.2
def ak6 : Kd (ByteArray × Int × Int × Int × Int) := Kd.pair Kd.string ch6
def ak8 : (ByteArray × Int × Int × Int × Int) → Prop := fun y => (fun s : ByteArray => s.size ≤ reachBytes) y.1 ∧ ak2 y.2
def bP9 (x : Blob) : ByteArray × Int × Int × Int × Int := (x.b7, x.j4, x.Used, x.u6, x.q4)
def cL1 (y : ByteArray × Int × Int × Int × Int) : Blob := ⟨y.1, y.2.1, y.2.2.1, y.2.2.2.1, y.2.2.2.2⟩
theorem cL2 {fs : Array Field} (h : Tryz.prog.underlying 44 = some (.struct fs)) : ad0 reachBytes Tryz.prog fs.toList 0 ak6 ak8 := by
  rw [Tryz.underlying44] at h
  injection h with h
  injection h with h
  subst h
  exact (ad0.cons (d := Kd.string) (d2 := ch6) (fit := (fun s : ByteArray => s.size ≤ reachBytes)) (aw8 := ak2) (by kernel_rfl) (by kernel_rfl) (P4.string Tryz.underlying9) (ad0.cons (d := (Kd.int .i64)) (d2 := ch4) (fit := (fun n : Int => (Lit.int .i64 n).wf = true)) (aw8 := ch5) (by kernel_rfl) (by kernel_rfl) (P4.int Tryz.underlying3) (ad0.cons (d := (Kd.int .i64)) (d2 := ch2) (fit := (fun n : Int => (Lit.int .i64 n).wf = true)) (aw8 := ch3) (by kernel_rfl) (by kernel_rfl) (P4.int Tryz.underlying3) (ad0.cons (d := (Kd.int .i64)) (d2 := bP7) (fit := (fun n : Int => (Lit.int .i64 n).wf = true)) (aw8 := bP8) (by kernel_rfl) (by kernel_rfl) (P4.int Tryz.underlying3) (ad0.last (d := bP7) (fit := bP8) (by kernel_rfl) (by kernel_rfl) (P4.int Tryz.underlying3))))))
theorem cL3 : P4 reachBytes Tryz.prog 44 j7 bC3 := by
  have h : P4 reachBytes Tryz.prog 44 (Kd.iso ak6 bP9) (fun x => ak8 (bP9 x)) := P4.struct (f := bP9) (g := cL1) Tryz.underlying44 (by kernel_rfl) (by rintro ⟨y0, y1, y2, y3, y4⟩; rfl) (cL2 Tryz.underlying44)
  exact h
def bQ0 : Kd (Int) := (Kd.int .i64)
def bQ1 : Int → Prop := (fun n : Int => (Lit.int .i64 n).wf = true)
def ci0 : Kd ((List ByteArray) × Int) := Kd.pair (Kd.slice Kd.string) bQ0
def ci1 : ((List ByteArray) × Int) → Prop := fun y => (fun xs : List ByteArray => xs.length * 16 ≤ reachBytes ∧ ∀ x ∈ xs, (fun s : ByteArray => s.size ≤ reachBytes) x) y.1 ∧ bQ1 y.2
def ci2 : Kd (ByteArray × (List ByteArray) × Int) := Kd.pair Kd.string ci0
def ci3 : (ByteArray × (List ByteArray) × Int) → Prop := fun y => (fun s : ByteArray => s.size ≤ reachBytes) y.1 ∧ ci1 y.2
def bQ2 (x : Entry) : ByteArray × (List ByteArray) × Int := (x.Key, x.Refs, x.Used)
def cL4 (y : ByteArray × (List ByteArray) × Int) : Entry := ⟨y.1, y.2.1, y.2.2⟩
theorem cL5 {fs : Array Field} (h : Tryz.prog.underlying 47 = some (.struct fs)) : ad0 reachBytes Tryz.prog fs.toList 0 ci2 ci3 := by
  rw [Tryz.underlying47] at h
  injection h with h
  injection h with h
  subst h
  exact (ad0.cons (d := Kd.string) (d2 := ci0) (fit := (fun s : ByteArray => s.size ≤ reachBytes)) (aw8 := ci1) (by kernel_rfl) (by kernel_rfl) (P4.string Tryz.underlying9) (ad0.cons (d := (Kd.slice Kd.string)) (d2 := bQ0) (fit := (fun xs : List ByteArray => xs.length * 16 ≤ reachBytes ∧ ∀ x ∈ xs, (fun s : ByteArray => s.size ≤ reachBytes) x)) (aw8 := bQ1) (by kernel_rfl) (by kernel_rfl) (P4.slice Tryz.underlying45 (by kernel_rfl) (by decide) (P4.string Tryz.underlying9) (B := 16) (by kernel_rfl)) (ad0.last (d := bQ0) (fit := bQ1) (by kernel_rfl) (by kernel_rfl) (P4.int Tryz.underlying3))))
theorem cL6 : P4 reachBytes Tryz.prog 47 k5 bQ3 := by
  have h : P4 reachBytes Tryz.prog 47 (Kd.iso ci2 bQ2) (fun x => ci3 (bQ2 x)) := P4.struct (f := bQ2) (g := cL4) Tryz.underlying47 (by kernel_rfl) (by rintro ⟨y0, y1, y2⟩; rfl) (cL5 Tryz.underlying47)
  exact h
def bQ4 : Kd ((List Entry)) := (Kd.slice k5)
def bQ5 : (List Entry) → Prop := (fun xs : List Entry => xs.length * 48 ≤ reachBytes ∧ ∀ x ∈ xs, bQ3 x)
def ci4 : Kd ((List Blob) × (List Entry)) := Kd.pair (Kd.slice j7) bQ4
def ci5 : ((List Blob) × (List Entry)) → Prop := fun y => (fun xs : List Blob => xs.length * 48 ≤ reachBytes ∧ ∀ x ∈ xs, bC3 x) y.1 ∧ bQ5 y.2
def ci6 : Kd (Int × (List Blob) × (List Entry)) := Kd.pair (Kd.int .i64) ci4
def ci7 : (Int × (List Blob) × (List Entry)) → Prop := fun y => (fun n : Int => (Lit.int .i64 n).wf = true) y.1 ∧ ci5 y.2
def ci8 : Kd (Int × Int × (List Blob) × (List Entry)) := Kd.pair (Kd.int .i64) ci6
def ci9 : (Int × Int × (List Blob) × (List Entry)) → Prop := fun y => (fun n : Int => (Lit.int .i64 n).wf = true) y.1 ∧ ci7 y.2
def bQ6 (x : Cache) : Int × Int × (List Blob) × (List Entry) := (x.Room, x.c4, x.U, x.Entries)
def cL7 (y : Int × Int × (List Blob) × (List Entry)) : Cache := ⟨y.1, y.2.1, y.2.2.1, y.2.2.2⟩
theorem cL8 {fs : Array Field} (h : Tryz.prog.underlying 25 = some (.struct fs)) : ad0 reachBytes Tryz.prog fs.toList 0 ci8 ci9 := by
  rw [Tryz.underlying25] at h
  injection h with h
  injection h with h
  subst h
  exact (ad0.cons (d := (Kd.int .i64)) (d2 := ci6) (fit := (fun n : Int => (Lit.int .i64 n).wf = true)) (aw8 := ci7) (by kernel_rfl) (by kernel_rfl) (P4.int Tryz.underlying3) (ad0.cons (d := (Kd.int .i64)) (d2 := ci4) (fit := (fun n : Int => (Lit.int .i64 n).wf = true)) (aw8 := ci5) (by kernel_rfl) (by kernel_rfl) (P4.int Tryz.underlying3) (ad0.cons (d := (Kd.slice j7)) (d2 := bQ4) (fit := (fun xs : List Blob => xs.length * 48 ≤ reachBytes ∧ ∀ x ∈ xs, bC3 x)) (aw8 := bQ5) (by kernel_rfl) (by kernel_rfl) (P4.slice Tryz.underlying22 (by kernel_rfl) (by decide) cL3 (B := 48) (by kernel_rfl)) (ad0.last (d := bQ4) (fit := bQ5) (by kernel_rfl) (by kernel_rfl) (P4.slice Tryz.underlying23 (by kernel_rfl) (by decide) cL6 (B := 48) (by kernel_rfl))))))
theorem cL9 : P4 reachBytes Tryz.prog 25 bQ7 bQ8 := by
  have h : P4 reachBytes Tryz.prog 25 (Kd.iso ci8 bQ6) (fun x => ci9 (bQ6 x)) := P4.struct (f := bQ6) (g := cL7) Tryz.underlying25 (by kernel_rfl) (by rintro ⟨y0, y1, y2, y3⟩; rfl) (cL8 Tryz.underlying25)
  exact h
def bQ9 : Kd (Int) := (Kd.int .i64)
def bR0 : Int → Prop := (fun n : Int => (Lit.int .i64 n).wf = true)
def cj0 : Kd (ByteArray × Int) := Kd.pair Kd.string bQ9
def cj1 : (ByteArray × Int) → Prop := fun y => (fun s : ByteArray => s.size ≤ reachBytes) y.1 ∧ bR0 y.2
def cj2 : Kd ((List ByteArray) × ByteArray × Int) := Kd.pair (Kd.slice Kd.string) cj0
def cj3 : ((List ByteArray) × ByteArray × Int) → Prop := fun y => (fun xs : List ByteArray => xs.length * 16 ≤ reachBytes ∧ ∀ x ∈ xs, (fun s : ByteArray => s.size ≤ reachBytes) x) y.1 ∧ cj1 y.2
def cj4 : Kd (ByteArray × (List ByteArray) × ByteArray × Int) := Kd.pair Kd.string cj2
def cj5 : (ByteArray × (List ByteArray) × ByteArray × Int) → Prop := fun y => (fun s : ByteArray => s.size ≤ reachBytes) y.1 ∧ cj3 y.2
def cj6 : Kd (Int × ByteArray × (List ByteArray) × ByteArray × Int) := Kd.pair (Kd.int .i64) cj4
def cj7 : (Int × ByteArray × (List ByteArray) × ByteArray × Int) → Prop := fun y => (fun n : Int => (Lit.int .i64 n).wf = true) y.1 ∧ cj5 y.2
def cj8 : Kd (Int × Int × ByteArray × (List ByteArray) × ByteArray × Int) := Kd.pair (Kd.int .i64) cj6
def cj9 : (Int × Int × ByteArray × (List ByteArray) × ByteArray × Int) → Prop := fun y => (fun n : Int => (Lit.int .i64 n).wf = true) y.1 ∧ cj7 y.2
def bR1 (x : k7) : Int × Int × ByteArray × (List ByteArray) × ByteArray × Int := (x.Kind, x.At, x.b7, x.j9, x.Key, x.j4)
def cM0 (y : Int × Int × ByteArray × (List ByteArray) × ByteArray × Int) : k7 := ⟨y.1, y.2.1, y.2.2.1, y.2.2.2.1, y.2.2.2.2.1, y.2.2.2.2.2⟩
theorem cM1 {fs : Array Field} (h : Tryz.prog.underlying 50 = some (.struct fs)) : ad0 reachBytes Tryz.prog fs.toList 0 cj8 cj9 := by
  rw [Tryz.underlying50] at h
  injection h with h
  injection h with h
  subst h
  exact (ad0.cons (d := (Kd.int .i64)) (d2 := cj6) (fit := (fun n : Int => (Lit.int .i64 n).wf = true)) (aw8 := cj7) (by kernel_rfl) (by kernel_rfl) (P4.int Tryz.underlying3) (ad0.cons (d := (Kd.int .i64)) (d2 := cj4) (fit := (fun n : Int => (Lit.int .i64 n).wf = true)) (aw8 := cj5) (by kernel_rfl) (by kernel_rfl) (P4.int Tryz.underlying3) (ad0.cons (d := Kd.string) (d2 := cj2) (fit := (fun s : ByteArray => s.size ≤ reachBytes)) (aw8 := cj3) (by kernel_rfl) (by kernel_rfl) (P4.string Tryz.underlying9) (ad0.cons (d := (Kd.slice Kd.string)) (d2 := cj0) (fit := (fun xs : List ByteArray => xs.length * 16 ≤ reachBytes ∧ ∀ x ∈ xs, (fun s : ByteArray => s.size ≤ reachBytes) x)) (aw8 := cj1) (by kernel_rfl) (by kernel_rfl) (P4.slice Tryz.underlying45 (by kernel_rfl) (by decide) (P4.string Tryz.underlying9) (B := 16) (by kernel_rfl)) (ad0.cons (d := Kd.string) (d2 := bQ9) (fit := (fun s : ByteArray => s.size ≤ reachBytes)) (aw8 := bR0) (by kernel_rfl) (by kernel_rfl) (P4.string Tryz.underlying9) (ad0.last (d := bQ9) (fit := bR0) (by kernel_rfl) (by kernel_rfl) (P4.int Tryz.underlying3)))))))
theorem cM2 : P4 reachBytes Tryz.prog 50 O1 ck0 := by
  have h : P4 reachBytes Tryz.prog 50 (Kd.iso cj8 bR1) (fun x => cj9 (bR1 x)) := P4.struct (f := bR1) (g := cM0) Tryz.underlying50 (by kernel_rfl) (by rintro ⟨y0, y1, y2, y3, y4, A0⟩; rfl) (cM1 Tryz.underlying50)
  exact h
theorem cM3 : ownKnob Tryz.prog.godebug = none := by kernel_rfl
theorem ck1 : laidOutB Tryz.prog = true := by kernel_rfl
set_option maxRecDepth 100000 in
theorem cM4 (os : Os) (started : os.Started) (H : Type) (enc : TypeId × Value → H) :
    ReturnsInHanded {} Tryz.checked os 3 .any (fun w args => (Rows.cacheFollowsMatchSpecSpec.pre enc Tryz.prog Tryz.f3 Rows.cacheFollowsMatchSpecRow.domain false w args ∧ laidMetH Tryz.prog Rows.cacheFollowsMatchSpecRow.laid w) ∧ sizedMet enc Tryz.prog Tryz.f3 (OpenSpec.ofChange Rows.cacheFollowsMatchSpecSpec) false w args) (Rows.cacheFollowsMatchSpecSpec.post enc Tryz.prog Tryz.f3 false true false false) := by
  refine returnsInHanded_of_change_and (C := Tryz.checked) (X := fun w _ => laidMetH Tryz.prog Rows.cacheFollowsMatchSpecRow.laid w) (fun _ _ _ hh h => h.of_heap hh) cM3 started (by kernel_rfl) Tryz.func3
    (ChangeSpec.witness_shaped (enc := enc) (C := Tryz.checked) (os := os) (X := fun w _ => laidMetH Tryz.prog Rows.cacheFollowsMatchSpecRow.laid w) false (World.laidAll Tryz.prog os Rows.cacheFollowsMatchSpecRow.laid) #[.agg #[.int .i64 0, .int .i64 0, .slice none 0 0, .slice none 0 0], .slice none 0 0] 8 (World.laidAll_os _ _ _)
      (World.shaped_of_ZipB (by kernel_rfl) (by kernel_rfl)) (by kernel_rfl) (by kernel_rfl) (by kernel_rfl)
      (by rw [MakeChecks.laidMetH_plain _ _ _ (by kernel_rfl)]; exact laidMet_laidAll _ (by kernel_rfl) (by kernel_rfl))) ?_
  intro W base args ds gs before ck2 hW du8 ck3 hL _
  have hsz : (DataW.weightsEach Tryz.prog (Tryz.f3.params.toList ++ Rows.cacheFollowsMatchSpecSpec.plain.varTypes Tryz.prog) (ds ++ gs)).all (· ≤ reachBytes) = true := ck3
  have hval : ∀ (j : Nat) t v, Tryz.f3.params[j]? = some t → args[j]? = some v → Value.okWide Tryz.prog W .any base t v := ck2
  have hW' := hW
  obtain ⟨p, q, hA0, hV, rfl, hfz, hnd⟩ := hW
  have hA : DataW.TrodAll enc Tryz.prog W 0 (fun _ => true) true Tryz.f3.params.toList args.toList ds p := hA0
  rw [Tryz.params3] at hA hval hsz
  obtain ⟨v0, vs0, d0, dv0, aK2, q0, hargs, rfl, rfl, h0, r0⟩ := trodAll_cons hA
  obtain ⟨v1, vs1, d1, dv2, p1, q1, rfl, rfl, rfl, h1, r1⟩ := trodAll_cons r0
  obtain ⟨rfl, rfl, rfl⟩ := trodAll_nil r1
  obtain rfl : args = #[v0, v1] := by cases args; simp_all
  obtain ⟨rfl, rfl⟩ := trodVars_none hV
  obtain ⟨cs0, rfl, dv3⟩ := okWide_struct Tryz.underlying25 (hval 0 25 v0 rfl rfl)
  have k0 := h0
  have lt0 : ∀ x ∈ aK2, x.block < W.heap.size := by obtain ⟨m, hm⟩ := k0; exact DataW.trod_lt m _ _ _ hm
  obtain ⟨dv4, hf0⟩ := h0
  obtain ⟨a0, hK0, cM8⟩ := (cL9).go hf0 (cf1 hsz (j := 0) (t := 25) rfl rfl)
  obtain ⟨E7, E8, P7, P8, cM9, cN0, cN1, cN2, cN3⟩ := cN4 hK0
  obtain rfl : cs0 = #[.int .i64 a0.Room, .int .i64 a0.c4, .slice E7 a0.U.length E8, .slice P7 a0.Entries.length P8] := by cases cs0; simpa [Value.cells] using cM9
  obtain ⟨A1, dv5, dv6, rfl⟩ := okWide_slice Tryz.underlying26 (hval 1 26 v1 rfl rfl)
  have k1 := h1
  have lt1 : ∀ x ∈ p1, x.block < W.heap.size := by obtain ⟨m, hm⟩ := k1; exact DataW.trod_lt m _ _ _ hm
  obtain ⟨fuel1, hf1⟩ := h1
  obtain ⟨a1, ⟨dv7, c1, ck4, hc1, I0⟩, cN7⟩ := ((P4.slice Tryz.underlying26 (by kernel_rfl) (by decide) cM2 (B := 80) (by kernel_rfl))).go hf1 (cf1 hsz (j := 1) (t := 26) rfl rfl)
  simp [Value.cells] at ck4
  obtain ⟨rfl, rfl, rfl⟩ := ck4
  clear hA0 ck2 ck3 hsz
  have heq := cN8 a0 a1 cM8 cN7
  refine (cN9 (w0 := W) (H0 := hp W) (F := []) heq (Rw.of cN1) cN0 rfl (Rw.of cN3) cN2 rfl (Rw.of I0) hc1 rfl W (Heap.start W)).mono ?_
  rintro e W' ⟨v, rfl, H', cs', _, hh, rfl, _⟩
  have bel : Below W.heap.size W W' := hh.ext
  exact ⟨_, rfl, _, _, _, [], _, [], hW', trodAll_mk1 (shut_bool Tryz.underlying4 _), (trodAll_cons_mk (Below.trod ck1 (by kernel_rfl) (of_decide_eq_true (by kernel_rfl)) k0 bel lt0) (trodAll_cons_mk (Below.trod ck1 (by kernel_rfl) (of_decide_eq_true (by kernel_rfl)) k1 bel lt1) trodAll_mk0)), rfl, bel.frame _, fun h => by cases h⟩
theorem cO0 : joinedFacts Tryz.prog 3 Tryz.f3 Rows.cacheFollowsMatchSpecSpec Rows.cacheFollowsMatchSpecRow = true := by
  unfold joinedFacts
  rw [cD6, cD7, cD8]
  kernel_rfl
set_option maxRecDepth 100000 in
theorem cO1 : Rows.CacheFollowsMatchSpecSaid :=
  OpenClaim.holds_of_wide 3 Tryz.f3 rfl rfl rfl rfl rfl rfl rfl ⟨rfl, rfl, rfl, rfl, rfl⟩ rfl rfl rfl rfl rfl (by kernel_rfl) Tryz.func3 cO0
    (of_decide_eq_true (by kernel_rfl)) (by unfold Func.isWrapper; first | (rw [if_pos (by decide +kernel)]; kernel_rfl) | (rw [if_neg (by decide +kernel)]; exact ⟨rfl, rfl⟩))
    (fun os started H enc _ => cM4 os started H enc)
theorem cacheFollowsMatchSpec_holds : Rows.CacheFollowsMatchSpecCardSaid :=
  Claim7.holds_tied_plain_at .later [] [.data, .pinned] true (true, "bb469e3607d496ffbe5e985d12412e3f9eebc11a6e5ba853c2ca7cd01625506e") false cO1 (fun _ h => by cases h) (by kernel_rfl) (fun _ h => by cases h) cacheFollowsMatchSpec_row_tie rfl ⟨rfl, rfl⟩ cD9 rfl
    (fun f fn hf hfn => by
      obtain rfl : f = 3 := Option.some.inj ((show Tryz.prog.funcNamed "smithyard/smithyardlaw7.CacheFollowsMatchSpec" = some 3 by kernel_rfl).symm.trans hf) |>.symm
      obtain rfl : fn = Tryz.f3 := (Option.some.inj (Tryz.func3.symm.trans hfn)).symm
      exact ⟨by kernel_rfl, fun j t ht => by
        rw [Tryz.params3] at ht
        have hm : t ∈ [25, 26] := by simpa using Array.mem_of_getElem? ht
        have hall : ([25, 26].all fun u => !Tryz.prog.wantsStandIn u) = true := by kernel_rfl
        exact (show Tryz.prog.wantsStandIn t = false by simpa using List.all_eq_true.1 hall t hm)⟩)
    (by kernel_rfl)
#print axioms cacheFollowsMatchSpec_holds
end Go.Proofs.YtiecpfnjmlidbaaGreatDoor
