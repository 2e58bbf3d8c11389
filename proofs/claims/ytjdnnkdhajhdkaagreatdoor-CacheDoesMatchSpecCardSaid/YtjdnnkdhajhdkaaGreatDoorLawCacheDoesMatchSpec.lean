/- CacheDoesMatchSpec: for every input the law returns true and leaves its arguments as they were; its package-level variables start as the program's text lays them. -/
import Derived.Test.YtjdnnkdhajhdkaaGreatDoorRows
import Derived.Test.YtjdnnkdhajhdkaaGreatDoorCards
import Derived.Test.YtjdnnkdhajhdkaaGreatDoorTie
import Derived.Test.YtjdnnkdhajhdkaaGreatDoorZ3M
import Derived.Test.YtjdnnkdhajhdkaaGreatDoorKitR
import Derived.Test.YtjdnnkdhajhdkaaGreatDoorFacts
import Derived.Test.YtjdnnkdhajhdkaaGreatDoorPureCacheDoesMatchSpec
import Derived.WalkKit
import Derived.ProofKit
import Derived.OpenShut
import Derived.ShutString
import Derived.ChangeOld
import Derived.Below
import Derived.SizedLaws
import Derived.LaidMore
import Derived.Lay
import Derived.SevenTiedAt
import Derived.Stop.Joined
namespace Go.Proofs.YtjdnnkdhajhdkaaGreatDoor
open Go Go.ChangeShapes Go.WideShapes Go.ChangeAt Go.RowKit Go.Proofs.YtjdnnkdhajhdkaaGreatDoor.Kit
open Go.ChangeMaps (open_string shut_string)
set_option linter.unusedVariables false
def dBlob4 : Kd (Int) := (Kd.int .i64)
def fBlob4 : Int → Prop := (fun n : Int => (Lit.int .i64 n).wf = true)
def dBlob3 : Kd (Int × Int) := Kd.pair (Kd.int .i64) dBlob4
def fBlob3 : (Int × Int) → Prop := fun y => (fun n : Int => (Lit.int .i64 n).wf = true) y.1 ∧ fBlob4 y.2
def dBlob2 : Kd (Int × Int × Int) := Kd.pair (Kd.int .i64) dBlob3
def fBlob2 : (Int × Int × Int) → Prop := fun y => (fun n : Int => (Lit.int .i64 n).wf = true) y.1 ∧ fBlob3 y.2
def dBlob1 : Kd (Int × Int × Int × Int) := Kd.pair (Kd.int .i64) dBlob2
def fBlob1 : (Int × Int × Int × Int) → Prop := fun y => (fun n : Int => (Lit.int .i64 n).wf = true) y.1 ∧ fBlob2 y.2
def dBlob0 : Kd (ByteArray × Int × Int × Int × Int) := Kd.pair Kd.string dBlob1
def fBlob0 : (ByteArray × Int × Int × Int × Int) → Prop := fun y => (fun s : ByteArray => s.size ≤ reachBytes) y.1 ∧ fBlob1 y.2
def FBlob (x : Blob) : ByteArray × Int × Int × Int × Int := (x.Digest, x.Size, x.Used, x.Until, x.Pins)
def GBlob (y : ByteArray × Int × Int × Int × Int) : Blob := ⟨y.1, y.2.1, y.2.2.1, y.2.2.2.1, y.2.2.2.2⟩
theorem opensFBlob {fs : Array Field} (h : Tryz.prog.underlying 45 = some (.struct fs)) : OpensF reachBytes Tryz.prog fs.toList 0 dBlob0 fBlob0 := by
  rw [Tryz.underlying45] at h
  injection h with h
  injection h with h
  subst h
  exact (OpensF.cons (d := Kd.string) (d2 := dBlob1) (fit := (fun s : ByteArray => s.size ≤ reachBytes)) (fit2 := fBlob1) (by kernel_rfl) (by kernel_rfl) (Opens.string Tryz.underlying9) (OpensF.cons (d := (Kd.int .i64)) (d2 := dBlob2) (fit := (fun n : Int => (Lit.int .i64 n).wf = true)) (fit2 := fBlob2) (by kernel_rfl) (by kernel_rfl) (Opens.int Tryz.underlying3) (OpensF.cons (d := (Kd.int .i64)) (d2 := dBlob3) (fit := (fun n : Int => (Lit.int .i64 n).wf = true)) (fit2 := fBlob3) (by kernel_rfl) (by kernel_rfl) (Opens.int Tryz.underlying3) (OpensF.cons (d := (Kd.int .i64)) (d2 := dBlob4) (fit := (fun n : Int => (Lit.int .i64 n).wf = true)) (fit2 := fBlob4) (by kernel_rfl) (by kernel_rfl) (Opens.int Tryz.underlying3) (OpensF.last (d := dBlob4) (fit := fBlob4) (by kernel_rfl) (by kernel_rfl) (Opens.int Tryz.underlying3))))))
theorem opensBlob : Opens reachBytes Tryz.prog 45 kBlob fitBlob := by
  have h : Opens reachBytes Tryz.prog 45 (Kd.iso dBlob0 FBlob) (fun x => fBlob0 (FBlob x)) := Opens.struct (f := FBlob) (g := GBlob) Tryz.underlying45 (by kernel_rfl) (by rintro ⟨y0, y1, y2, y3, y4⟩; rfl) (opensFBlob Tryz.underlying45)
  exact h
def dEntry2 : Kd (Int) := (Kd.int .i64)
def fEntry2 : Int → Prop := (fun n : Int => (Lit.int .i64 n).wf = true)
def dEntry1 : Kd ((List ByteArray) × Int) := Kd.pair (Kd.slice Kd.string) dEntry2
def fEntry1 : ((List ByteArray) × Int) → Prop := fun y => (fun xs : List ByteArray => xs.length * 16 ≤ reachBytes ∧ ∀ x ∈ xs, (fun s : ByteArray => s.size ≤ reachBytes) x) y.1 ∧ fEntry2 y.2
def dEntry0 : Kd (ByteArray × (List ByteArray) × Int) := Kd.pair Kd.string dEntry1
def fEntry0 : (ByteArray × (List ByteArray) × Int) → Prop := fun y => (fun s : ByteArray => s.size ≤ reachBytes) y.1 ∧ fEntry1 y.2
def FEntry (x : Entry) : ByteArray × (List ByteArray) × Int := (x.Key, x.Refs, x.Used)
def GEntry (y : ByteArray × (List ByteArray) × Int) : Entry := ⟨y.1, y.2.1, y.2.2⟩
theorem opensFEntry {fs : Array Field} (h : Tryz.prog.underlying 47 = some (.struct fs)) : OpensF reachBytes Tryz.prog fs.toList 0 dEntry0 fEntry0 := by
  rw [Tryz.underlying47] at h
  injection h with h
  injection h with h
  subst h
  exact (OpensF.cons (d := Kd.string) (d2 := dEntry1) (fit := (fun s : ByteArray => s.size ≤ reachBytes)) (fit2 := fEntry1) (by kernel_rfl) (by kernel_rfl) (Opens.string Tryz.underlying9) (OpensF.cons (d := (Kd.slice Kd.string)) (d2 := dEntry2) (fit := (fun xs : List ByteArray => xs.length * 16 ≤ reachBytes ∧ ∀ x ∈ xs, (fun s : ByteArray => s.size ≤ reachBytes) x)) (fit2 := fEntry2) (by kernel_rfl) (by kernel_rfl) (Opens.slice Tryz.underlying26 (by kernel_rfl) (by decide) (Opens.string Tryz.underlying9) (B := 16) (by kernel_rfl)) (OpensF.last (d := dEntry2) (fit := fEntry2) (by kernel_rfl) (by kernel_rfl) (Opens.int Tryz.underlying3))))
theorem opensEntry : Opens reachBytes Tryz.prog 47 kEntry fitEntry := by
  have h : Opens reachBytes Tryz.prog 47 (Kd.iso dEntry0 FEntry) (fun x => fEntry0 (FEntry x)) := Opens.struct (f := FEntry) (g := GEntry) Tryz.underlying47 (by kernel_rfl) (by rintro ⟨y0, y1, y2⟩; rfl) (opensFEntry Tryz.underlying47)
  exact h
def dCache3 : Kd ((List Entry)) := (Kd.slice kEntry)
def fCache3 : (List Entry) → Prop := (fun xs : List Entry => xs.length * 48 ≤ reachBytes ∧ ∀ x ∈ xs, fitEntry x)
def dCache2 : Kd ((List Blob) × (List Entry)) := Kd.pair (Kd.slice kBlob) dCache3
def fCache2 : ((List Blob) × (List Entry)) → Prop := fun y => (fun xs : List Blob => xs.length * 48 ≤ reachBytes ∧ ∀ x ∈ xs, fitBlob x) y.1 ∧ fCache3 y.2
def dCache1 : Kd (Int × (List Blob) × (List Entry)) := Kd.pair (Kd.int .i64) dCache2
def fCache1 : (Int × (List Blob) × (List Entry)) → Prop := fun y => (fun n : Int => (Lit.int .i64 n).wf = true) y.1 ∧ fCache2 y.2
def dCache0 : Kd (Int × Int × (List Blob) × (List Entry)) := Kd.pair (Kd.int .i64) dCache1
def fCache0 : (Int × Int × (List Blob) × (List Entry)) → Prop := fun y => (fun n : Int => (Lit.int .i64 n).wf = true) y.1 ∧ fCache1 y.2
def FCache (x : Cache) : Int × Int × (List Blob) × (List Entry) := (x.Room, x.Lease, x.Blobs, x.Entries)
def GCache (y : Int × Int × (List Blob) × (List Entry)) : Cache := ⟨y.1, y.2.1, y.2.2.1, y.2.2.2⟩
theorem opensFCache {fs : Array Field} (h : Tryz.prog.underlying 25 = some (.struct fs)) : OpensF reachBytes Tryz.prog fs.toList 0 dCache0 fCache0 := by
  rw [Tryz.underlying25] at h
  injection h with h
  injection h with h
  subst h
  exact (OpensF.cons (d := (Kd.int .i64)) (d2 := dCache1) (fit := (fun n : Int => (Lit.int .i64 n).wf = true)) (fit2 := fCache1) (by kernel_rfl) (by kernel_rfl) (Opens.int Tryz.underlying3) (OpensF.cons (d := (Kd.int .i64)) (d2 := dCache2) (fit := (fun n : Int => (Lit.int .i64 n).wf = true)) (fit2 := fCache2) (by kernel_rfl) (by kernel_rfl) (Opens.int Tryz.underlying3) (OpensF.cons (d := (Kd.slice kBlob)) (d2 := dCache3) (fit := (fun xs : List Blob => xs.length * 48 ≤ reachBytes ∧ ∀ x ∈ xs, fitBlob x)) (fit2 := fCache3) (by kernel_rfl) (by kernel_rfl) (Opens.slice Tryz.underlying22 (by kernel_rfl) (by decide) opensBlob (B := 48) (by kernel_rfl)) (OpensF.last (d := dCache3) (fit := fCache3) (by kernel_rfl) (by kernel_rfl) (Opens.slice Tryz.underlying23 (by kernel_rfl) (by decide) opensEntry (B := 48) (by kernel_rfl))))))
theorem opensCache : Opens reachBytes Tryz.prog 25 kCache fitCache := by
  have h : Opens reachBytes Tryz.prog 25 (Kd.iso dCache0 FCache) (fun x => fCache0 (FCache x)) := Opens.struct (f := FCache) (g := GCache) Tryz.underlying25 (by kernel_rfl) (by rintro ⟨y0, y1, y2, y3⟩; rfl) (opensFCache Tryz.underlying25)
  exact h
def dCacheEvent5 : Kd (Int) := (Kd.int .i64)
def fCacheEvent5 : Int → Prop := (fun n : Int => (Lit.int .i64 n).wf = true)
def dCacheEvent4 : Kd (ByteArray × Int) := Kd.pair Kd.string dCacheEvent5
def fCacheEvent4 : (ByteArray × Int) → Prop := fun y => (fun s : ByteArray => s.size ≤ reachBytes) y.1 ∧ fCacheEvent5 y.2
def dCacheEvent3 : Kd ((List ByteArray) × ByteArray × Int) := Kd.pair (Kd.slice Kd.string) dCacheEvent4
def fCacheEvent3 : ((List ByteArray) × ByteArray × Int) → Prop := fun y => (fun xs : List ByteArray => xs.length * 16 ≤ reachBytes ∧ ∀ x ∈ xs, (fun s : ByteArray => s.size ≤ reachBytes) x) y.1 ∧ fCacheEvent4 y.2
def dCacheEvent2 : Kd (ByteArray × (List ByteArray) × ByteArray × Int) := Kd.pair Kd.string dCacheEvent3
def fCacheEvent2 : (ByteArray × (List ByteArray) × ByteArray × Int) → Prop := fun y => (fun s : ByteArray => s.size ≤ reachBytes) y.1 ∧ fCacheEvent3 y.2
def dCacheEvent1 : Kd (Int × ByteArray × (List ByteArray) × ByteArray × Int) := Kd.pair (Kd.int .i64) dCacheEvent2
def fCacheEvent1 : (Int × ByteArray × (List ByteArray) × ByteArray × Int) → Prop := fun y => (fun n : Int => (Lit.int .i64 n).wf = true) y.1 ∧ fCacheEvent2 y.2
def dCacheEvent0 : Kd (Int × Int × ByteArray × (List ByteArray) × ByteArray × Int) := Kd.pair (Kd.int .i64) dCacheEvent1
def fCacheEvent0 : (Int × Int × ByteArray × (List ByteArray) × ByteArray × Int) → Prop := fun y => (fun n : Int => (Lit.int .i64 n).wf = true) y.1 ∧ fCacheEvent1 y.2
def FCacheEvent (x : CacheEvent) : Int × Int × ByteArray × (List ByteArray) × ByteArray × Int := (x.Kind, x.At, x.Digest, x.Digests, x.Key, x.Size)
def GCacheEvent (y : Int × Int × ByteArray × (List ByteArray) × ByteArray × Int) : CacheEvent := ⟨y.1, y.2.1, y.2.2.1, y.2.2.2.1, y.2.2.2.2.1, y.2.2.2.2.2⟩
theorem opensFCacheEvent {fs : Array Field} (h : Tryz.prog.underlying 28 = some (.struct fs)) : OpensF reachBytes Tryz.prog fs.toList 0 dCacheEvent0 fCacheEvent0 := by
  rw [Tryz.underlying28] at h
  injection h with h
  injection h with h
  subst h
  exact (OpensF.cons (d := (Kd.int .i64)) (d2 := dCacheEvent1) (fit := (fun n : Int => (Lit.int .i64 n).wf = true)) (fit2 := fCacheEvent1) (by kernel_rfl) (by kernel_rfl) (Opens.int Tryz.underlying3) (OpensF.cons (d := (Kd.int .i64)) (d2 := dCacheEvent2) (fit := (fun n : Int => (Lit.int .i64 n).wf = true)) (fit2 := fCacheEvent2) (by kernel_rfl) (by kernel_rfl) (Opens.int Tryz.underlying3) (OpensF.cons (d := Kd.string) (d2 := dCacheEvent3) (fit := (fun s : ByteArray => s.size ≤ reachBytes)) (fit2 := fCacheEvent3) (by kernel_rfl) (by kernel_rfl) (Opens.string Tryz.underlying9) (OpensF.cons (d := (Kd.slice Kd.string)) (d2 := dCacheEvent4) (fit := (fun xs : List ByteArray => xs.length * 16 ≤ reachBytes ∧ ∀ x ∈ xs, (fun s : ByteArray => s.size ≤ reachBytes) x)) (fit2 := fCacheEvent4) (by kernel_rfl) (by kernel_rfl) (Opens.slice Tryz.underlying26 (by kernel_rfl) (by decide) (Opens.string Tryz.underlying9) (B := 16) (by kernel_rfl)) (OpensF.cons (d := Kd.string) (d2 := dCacheEvent5) (fit := (fun s : ByteArray => s.size ≤ reachBytes)) (fit2 := fCacheEvent5) (by kernel_rfl) (by kernel_rfl) (Opens.string Tryz.underlying9) (OpensF.last (d := dCacheEvent5) (fit := fCacheEvent5) (by kernel_rfl) (by kernel_rfl) (Opens.int Tryz.underlying3)))))))
theorem opensCacheEvent : Opens reachBytes Tryz.prog 28 kCacheEvent fitCacheEvent := by
  have h : Opens reachBytes Tryz.prog 28 (Kd.iso dCacheEvent0 FCacheEvent) (fun x => fCacheEvent0 (FCacheEvent x)) := Opens.struct (f := FCacheEvent) (g := GCacheEvent) Tryz.underlying28 (by kernel_rfl) (by rintro ⟨y0, y1, y2, y3, y4, y5⟩; rfl) (opensFCacheEvent Tryz.underlying28)
  exact h
theorem own_cacheDoesMatchSpec : ownKnob Tryz.prog.godebug = none := by kernel_rfl
theorem laidOut_cacheDoesMatchSpec : laidOutB Tryz.prog = true := by kernel_rfl
set_option maxRecDepth 100000 in
theorem lifted_cacheDoesMatchSpec (os : Os) (started : os.Started) (H : Type) (enc : TypeId × Value → H) :
    ReturnsInHanded {} Tryz.checked os 3 .any (fun w args => (Rows.cacheDoesMatchSpecSpec.pre enc Tryz.prog Tryz.f3 Rows.cacheDoesMatchSpecRow.domain false w args ∧ laidMetH Tryz.prog Rows.cacheDoesMatchSpecRow.laid w) ∧ sizedMet enc Tryz.prog Tryz.f3 (OpenSpec.ofChange Rows.cacheDoesMatchSpecSpec) false w args) (Rows.cacheDoesMatchSpecSpec.post enc Tryz.prog Tryz.f3 false true false false) := by
  refine returnsInHanded_of_change_and (C := Tryz.checked) (X := fun w _ => laidMetH Tryz.prog Rows.cacheDoesMatchSpecRow.laid w) (fun _ _ _ hh h => h.of_heap hh) own_cacheDoesMatchSpec started (by kernel_rfl) Tryz.func3
    (ChangeSpec.witness_shaped (enc := enc) (C := Tryz.checked) (os := os) (X := fun w _ => laidMetH Tryz.prog Rows.cacheDoesMatchSpecRow.laid w) false (World.laidAll Tryz.prog os Rows.cacheDoesMatchSpecRow.laid) #[.agg #[.int .i64 0, .int .i64 0, .slice none 0 0, .slice none 0 0], .agg #[.int .i64 0, .int .i64 0, .string ByteArray.empty, .slice none 0 0, .string ByteArray.empty, .int .i64 0]] 8 (World.laidAll_os _ _ _)
      (World.shaped_of_ZipB (by kernel_rfl) (by kernel_rfl)) (by kernel_rfl) (by kernel_rfl) (by kernel_rfl)
      (by rw [MakeChecks.laidMetH_plain _ _ _ (by kernel_rfl)]; exact laidMet_laidAll _ (by kernel_rfl) (by kernel_rfl))) ?_
  intro W base args ds gs before hval0 hW hcnd hsz0 hL _
  have hsz : (DataW.weightsEach Tryz.prog (Tryz.f3.params.toList ++ Rows.cacheDoesMatchSpecSpec.plain.varTypes Tryz.prog) (ds ++ gs)).all (· ≤ reachBytes) = true := hsz0
  have hval : ∀ (j : Nat) t v, Tryz.f3.params[j]? = some t → args[j]? = some v → Value.okWide Tryz.prog W .any base t v := hval0
  have hW' := hW
  obtain ⟨p, q, hA0, hV, rfl, hfz, hnd⟩ := hW
  have hA : DataW.TrodAll enc Tryz.prog W 0 (fun _ => true) true Tryz.f3.params.toList args.toList ds p := hA0
  rw [Tryz.params3] at hA hval hsz
  obtain ⟨v0, vs0, d0, ds0, p0, q0, hargs, rfl, rfl, h0, r0⟩ := trodAll_cons hA
  obtain ⟨v1, vs1, d1, ds1, p1, q1, rfl, rfl, rfl, h1, r1⟩ := trodAll_cons r0
  obtain ⟨rfl, rfl, rfl⟩ := trodAll_nil r1
  obtain rfl : args = #[v0, v1] := by cases args; simp_all
  obtain ⟨rfl, rfl⟩ := trodVars_none hV
  obtain ⟨cs0, rfl, hsize0⟩ := okWide_struct Tryz.underlying25 (hval 0 25 v0 rfl rfl)
  have k0 := h0
  have lt0 : ∀ x ∈ p0, x.block < W.heap.size := by obtain ⟨m, hm⟩ := k0; exact DataW.trod_lt m _ _ _ hm
  obtain ⟨fuel0, hf0⟩ := h0
  obtain ⟨a0, hK0, hfit0⟩ := (opensCache).go hf0 (weights_at hsz (j := 0) (t := 25) rfl rfl)
  obtain ⟨A0_2, c0_2, A0_3, c0_3, hcs0, hc0_2, hr0_2, hc0_3, hr0_3⟩ := kCache_open hK0
  obtain rfl : cs0 = #[.int .i64 a0.Room, .int .i64 a0.Lease, .slice A0_2 a0.Blobs.length c0_2, .slice A0_3 a0.Entries.length c0_3] := by cases cs0; simpa [Value.cells] using hcs0
  obtain ⟨cs1, rfl, hsize1⟩ := okWide_struct Tryz.underlying28 (hval 1 28 v1 rfl rfl)
  have k1 := h1
  have lt1 : ∀ x ∈ p1, x.block < W.heap.size := by obtain ⟨m, hm⟩ := k1; exact DataW.trod_lt m _ _ _ hm
  obtain ⟨fuel1, hf1⟩ := h1
  obtain ⟨a1, hK1, hfit1⟩ := (opensCacheEvent).go hf1 (weights_at hsz (j := 1) (t := 28) rfl rfl)
  obtain ⟨A1_3, c1_3, hcs1, hc1_3, hr1_3⟩ := kCacheEvent_open hK1
  obtain rfl : cs1 = #[.int .i64 a1.Kind, .int .i64 a1.At, .string a1.Digest, .slice A1_3 a1.Digests.length c1_3, .string a1.Key, .int .i64 a1.Size] := by cases cs1; simpa [Value.cells] using hcs1
  clear hA0 hval0 hsz0 hsz
  have heq := CacheDoesMatchSpec_pure a0 a1 hfit0 hfit1
  refine (smithyardlaw7_CacheDoesMatchSpec_c (w0 := W) (H0 := hp W) (F := []) heq (Rw.of hr0_2) hc0_2 rfl (Rw.of hr0_3) hc0_3 rfl hr1_3 hc1_3 rfl W (Heap.start W)).mono ?_
  rintro e W' ⟨v, rfl, H', cs', _, hh, rfl, _⟩
  have bel : Below W.heap.size W W' := hh.ext
  exact ⟨_, rfl, _, _, _, [], _, [], hW', trodAll_mk1 (shut_bool Tryz.underlying4 _), (trodAll_cons_mk (Below.trod laidOut_cacheDoesMatchSpec (by kernel_rfl) (of_decide_eq_true (by kernel_rfl)) k0 bel lt0) (trodAll_cons_mk (Below.trod laidOut_cacheDoesMatchSpec (by kernel_rfl) (of_decide_eq_true (by kernel_rfl)) k1 bel lt1) trodAll_mk0)), rfl, bel.frame _, fun h => by cases h⟩
theorem closed_cacheDoesMatchSpec : joinedFacts Tryz.prog 3 Tryz.f3 Rows.cacheDoesMatchSpecSpec Rows.cacheDoesMatchSpecRow = true := by
  unfold joinedFacts
  rw [fact_enter, fact_final, fact_make]
  kernel_rfl
set_option maxRecDepth 100000 in
theorem cacheDoesMatchSpec_row : Rows.CacheDoesMatchSpecSaid :=
  OpenClaim.holds_of_wide 3 Tryz.f3 rfl rfl rfl rfl rfl rfl rfl ⟨rfl, rfl, rfl, rfl, rfl⟩ rfl rfl rfl rfl rfl (by kernel_rfl) Tryz.func3 closed_cacheDoesMatchSpec
    (of_decide_eq_true (by kernel_rfl)) (by unfold Func.isWrapper; first | (rw [if_pos (by decide +kernel)]; kernel_rfl) | (rw [if_neg (by decide +kernel)]; exact ⟨rfl, rfl⟩))
    (fun os started H enc _ => lifted_cacheDoesMatchSpec os started H enc)
theorem cacheDoesMatchSpec_holds : Rows.CacheDoesMatchSpecCardSaid :=
  Claim7.holds_tied_plain_at .later [] [.data, .pinned] true (true, "788034c841c6118de10e2f286b93fd4bf84afe8cd5157d48c32719d9cc8c1831") false cacheDoesMatchSpec_row (fun _ h => by cases h) (by kernel_rfl) (fun _ h => by cases h) cacheDoesMatchSpec_row_tie rfl ⟨rfl, rfl⟩ fact_main rfl
    (fun f fn hf hfn => by
      obtain rfl : f = 3 := Option.some.inj ((show Tryz.prog.funcNamed "smithyard/smithyardlaw7.CacheDoesMatchSpec" = some 3 by kernel_rfl).symm.trans hf) |>.symm
      obtain rfl : fn = Tryz.f3 := (Option.some.inj (Tryz.func3.symm.trans hfn)).symm
      exact ⟨by kernel_rfl, fun j t ht => by
        rw [Tryz.params3] at ht
        have hm : t ∈ [25, 28] := by simpa using Array.mem_of_getElem? ht
        have hall : ([25, 28].all fun u => !Tryz.prog.wantsStandIn u) = true := by kernel_rfl
        exact (show Tryz.prog.wantsStandIn t = false by simpa using List.all_eq_true.1 hall t hm)⟩)
    (by kernel_rfl)
#print axioms cacheDoesMatchSpec_holds
end Go.Proofs.YtjdnnkdhajhdkaaGreatDoor
