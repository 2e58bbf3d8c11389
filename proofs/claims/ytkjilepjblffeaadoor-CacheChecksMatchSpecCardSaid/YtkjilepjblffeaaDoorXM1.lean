/- What the machine's calls of these functions come to: just what the plain functions say. Written by program. -/
import Derived.Test.YtkjilepjblffeaaDoorProg
import Derived.Test.YtkjilepjblffeaaDoorKitQ
import Derived.Test.YtkjilepjblffeaaDoorXD
import Derived.Test.YtkjilepjblffeaaDoorShelf
set_option linter.unusedVariables false
set_option linter.unusedSimpArgs false
set_option maxRecDepth 100000
set_option maxHeartbeats 1000000
namespace Go.Proofs.YtkjilepjblffeaaDoor
open Go Go.RowKit Go.Proofs.YtkjilepjblffeaaDoor.Kit
def kBlob : Kd Blob := Kd.iso ((Kd.pair Kd.string (Kd.pair (Kd.int .i64) (Kd.pair (Kd.int .i64) (Kd.pair (Kd.int .i64) (Kd.int .i64)))))) (fun x => (x.Digest, x.Size, x.Used, x.Until, x.Pins))
theorem kBlob_open {H : Hp} {x : Blob} {c : List Value} (h : kBlob.K H x c) : c = [.string x.Digest, .int .i64 x.Size, .int .i64 x.Used, .int .i64 x.Until, .int .i64 x.Pins] := by
  obtain ⟨p0, q0, rfl, g0, h0⟩ := h
  obtain rfl : p0 = [_] := g0
  obtain ⟨p1, q1, rfl, g1, h1⟩ := h0
  obtain rfl : p1 = [_] := g1
  obtain ⟨p2, q2, rfl, g2, h2⟩ := h1
  obtain rfl : p2 = [_] := g2
  obtain ⟨p3, q3, rfl, g3, h3⟩ := h2
  obtain rfl : p3 = [_] := g3
  obtain rfl : q3 = [_] := h3
  rfl
theorem kBlob_mk {H : Hp} {x : Blob} : kBlob.K H x [.string x.Digest, .int .i64 x.Size, .int .i64 x.Used, .int .i64 x.Until, .int .i64 x.Pins] := ⟨[.string x.Digest], [.int .i64 x.Size, .int .i64 x.Used, .int .i64 x.Until, .int .i64 x.Pins], rfl, rfl, ⟨[.int .i64 x.Size], [.int .i64 x.Used, .int .i64 x.Until, .int .i64 x.Pins], rfl, rfl, ⟨[.int .i64 x.Used], [.int .i64 x.Until, .int .i64 x.Pins], rfl, rfl, ⟨[.int .i64 x.Until], [.int .i64 x.Pins], rfl, rfl, rfl⟩⟩⟩⟩
def kEntry : Kd Entry := Kd.iso ((Kd.pair Kd.string (Kd.pair (Kd.slice Kd.string) (Kd.int .i64)))) (fun x => (x.Key, x.Refs, x.Used))
theorem kEntry_open {H : Hp} {x : Entry} {c : List Value} (h : kEntry.K H x c) : ∃ A1 c1, c = [.string x.Key, .slice A1 x.Refs.length c1, .int .i64 x.Used] ∧ x.Refs.length ≤ c1 ∧ Kd.Row Kd.string H A1 x.Refs := by
  obtain ⟨p0, q0, rfl, g0, h0⟩ := h
  obtain rfl : p0 = [_] := g0
  obtain ⟨p1, q1, rfl, g1, h1⟩ := h0
  obtain ⟨A1, c1, rfl, u1, v1⟩ := g1
  obtain rfl : q1 = [_] := h1
  exact ⟨A1, c1, rfl, u1, v1⟩
theorem kEntry_mk {H : Hp} {x : Entry} {A1 : Option Addr} {c1 : Nat} (u1 : x.Refs.length ≤ c1) (v1 : Kd.Row Kd.string H A1 x.Refs) : kEntry.K H x [.string x.Key, .slice A1 x.Refs.length c1, .int .i64 x.Used] := ⟨[.string x.Key], [.slice A1 x.Refs.length c1, .int .i64 x.Used], rfl, rfl, ⟨[.slice A1 x.Refs.length c1], [.int .i64 x.Used], rfl, ⟨A1, c1, rfl, u1, v1⟩, rfl⟩⟩
def kCache : Kd Cache := Kd.iso ((Kd.pair (Kd.int .i64) (Kd.pair (Kd.int .i64) (Kd.pair (Kd.slice kBlob) (Kd.slice kEntry))))) (fun x => (x.Room, x.Lease, x.Blobs, x.Entries))
theorem kCache_open {H : Hp} {x : Cache} {c : List Value} (h : kCache.K H x c) : ∃ A2 c2, ∃ A3 c3, c = [.int .i64 x.Room, .int .i64 x.Lease, .slice A2 x.Blobs.length c2, .slice A3 x.Entries.length c3] ∧ x.Blobs.length ≤ c2 ∧ Kd.Row kBlob H A2 x.Blobs ∧ x.Entries.length ≤ c3 ∧ Kd.Row kEntry H A3 x.Entries := by
  obtain ⟨p0, q0, rfl, g0, h0⟩ := h
  obtain rfl : p0 = [_] := g0
  obtain ⟨p1, q1, rfl, g1, h1⟩ := h0
  obtain rfl : p1 = [_] := g1
  obtain ⟨p2, q2, rfl, g2, h2⟩ := h1
  obtain ⟨A2, c2, rfl, u2, v2⟩ := g2
  obtain ⟨A3, c3, rfl, u3, v3⟩ := h2
  exact ⟨A2, c2, A3, c3, rfl, u2, v2, u3, v3⟩
theorem kCache_mk {H : Hp} {x : Cache} {A2 : Option Addr} {c2 : Nat} {A3 : Option Addr} {c3 : Nat} (u2 : x.Blobs.length ≤ c2) (v2 : Kd.Row kBlob H A2 x.Blobs) (u3 : x.Entries.length ≤ c3) (v3 : Kd.Row kEntry H A3 x.Entries) : kCache.K H x [.int .i64 x.Room, .int .i64 x.Lease, .slice A2 x.Blobs.length c2, .slice A3 x.Entries.length c3] := ⟨[.int .i64 x.Room], [.int .i64 x.Lease, .slice A2 x.Blobs.length c2, .slice A3 x.Entries.length c3], rfl, rfl, ⟨[.int .i64 x.Lease], [.slice A2 x.Blobs.length c2, .slice A3 x.Entries.length c3], rfl, rfl, ⟨[.slice A2 x.Blobs.length c2], [.slice A3 x.Entries.length c3], rfl, ⟨A2, c2, rfl, u2, v2⟩, ⟨A3, c3, rfl, u3, v3⟩⟩⟩⟩
noncomputable def C55 : Ctx := { P := Tryd.prog, f := 55, N := 8, c := bodyOf Tryd.f55 }
def S55 (F : List Ch) (H0 : Hp) (r : List Blob) (v : Value) (H : Hp) (cs : List Ch) : Prop := ∃ (A0 : Option Addr) (c0 : Nat) (ch0 : Ch), H0 = H ∧ v = .slice A0 r.length c0 ∧ ch0 :: F = cs ∧ SlOwn kBlob 47 H A0 c0 r ch0
theorem slices_Clone_Blob_c {w0 : World} {H : Hp} {F : List Ch} {a0 : List Blob} {Aa0 : Option Addr} {na0 ca0 : Nat} {r : List Blob} (hra0 : Rw kBlob H F Aa0 a0) (hca0 : na0 ≤ ca0) (hna0 : na0 = a0.length) (heq : slices_Clone_Blob.f a0 = some r) : CallsH Tryd.prog 55 #[.slice Aa0 na0 ca0] H w0 F (S55 F H r) := by
  refine calls_of_runH (F := C55) Tryd.func55 (by kernel_rfl) Tryd.ntmps55 (args := [.slice Aa0 na0 ca0]) (by kernel_rfl) ?_
  subst hna0
  unfold slices_Clone_Blob.f at heq
  obtain ⟨hn, heq⟩ := guard?_some heq
  obtain rfl := Option.some.inj heq
  refine RunH.adm 1 (es' := [.c [0], .c [1]]) (by kernel_rfl) ?_
  refine RunH.reg (by kernel_rfl) ?_
  refine RgH.runk 1 [0] (vs := []) (evs := []) (L' := [(0, .slice Aa0 a0.length ca0)]) (by kernel_rfl) (by kernel_rfl) (fun _ _ => trivial) ?_
  refine RgH.done (by kernel_rfl) ?_
  refine RunH.adm 2 (es' := [.c [1, 0, 0], .c [1, 0, 1], .c [1, 1]]) (by kernel_rfl) ?_
  refine RunH.reg (by kernel_rfl) ?_
  cases Aa0 with
  | none =>
    have h0 : a0 = [] := by
      cases a0 with
      | nil => rfl
      | cons x xs => obtain ⟨b, off, cs, e, fr, hA, _⟩ := hra0 (by simp); cases hA
    subst h0
    refine RgH.runk 2 [4] (vs := []) (evs := []) (L' := [(4, .bool true)]) (by kernel_rfl) (by kernel_rfl) (fun _ _ => trivial) ?_
    refine RgH.done (by kernel_rfl) ?_
    refine RunH.condT (c := true) (by kernel_rfl) rfl ?_
    refine RunH.adm 1 (es' := [.c [1, 0, 1, 0, 0], .c [1, 0, 1, 0, 1], .c [1, 1]]) (by kernel_rfl) ?_
    refine RunH.reg (by kernel_rfl) ?_
    refine RgH.runk 1 [2] (vs := []) (evs := []) (L' := [(2, .slice none 0 0)]) (by kernel_rfl) (by kernel_rfl) (fun _ _ => trivial) ?_
    refine RgH.done (by kernel_rfl) ?_
    refine RunH.nilc ?_
    exact RunH.done (by kernel_rfl) Tryd.func55 (v := .slice none ([] : List Blob).length 0) (by kernel_rfl) ⟨none, 0, none, rfl, rfl, rfl, SlOwn.nil⟩
  | some ad =>
    refine RgH.runk 2 [0, 4] (vs := []) (evs := []) (L' := [(0, .slice (some ad) a0.length ca0), (4, .bool false)]) (by kernel_rfl) (by kernel_rfl) (fun _ _ => trivial) ?_
    refine RgH.done (by kernel_rfl) ?_
    refine RunH.condF (c := false) (by kernel_rfl) rfl ?_
    refine RunH.adm 2 (es' := [.c [1, 1, 0], .c [1, 1, 1]]) (by kernel_rfl) ?_
    refine RunH.reg (by kernel_rfl) ?_
    refine RgH.does (DoesH.new (d := 5) (v := fun g => .slice (some ⟨g, 0, none⟩) 0 0) (o := fun g => .cells #[] 47 (0, 0)) (fun g => by kernel_rfl)) ?_
    rintro _ _ _ _ ⟨g, rfl, rfl, rfl⟩
    have ho : SlOwn kBlob 47 H (some ⟨g, 0, none⟩) 0 ([] : List Blob) (some (g, .cells #[] 47 (0, 0))) := .inr ⟨g, 0, #[], rfl, rfl, by simp, by simp [maxLen], by simp, Kd.Rep.nil⟩
    refine RgH.runk 2 [5, 6] (vs := []) (evs := []) (L' := [(5, .slice (some ⟨g, 0, none⟩) 0 0), (6, .slice (some ad) a0.length ca0)]) (by kernel_rfl) (by kernel_rfl) (fun _ _ => trivial) ?_
    refine RgH.does (DoesH.append (d := 7) (k := 0) (t := 22) (e := 47) (bytes := 48) (kd := kBlob) (n := 0) (m := a0.length) (xs := ([] : List Blob)) (ys := a0) (A := some ⟨g, 0, none⟩) (B := some ad) (c := 0) (cB := ca0) (by kernel_rfl) rfl rfl (by kernel_rfl) rfl ho (fun w hh => hra0.rdb (hh.drop 1)) (room_le hn) (by have := room_le hn; omega)) ?_
    rintro _ _ _ _ ⟨A1, c1, ch1, rfl, rfl, rfl, ho1⟩
    refine RgH.runk 4 [2] (vs := []) (evs := []) (L' := [(2, .slice A1 (([] : List Blob) ++ a0).length c1)]) (by kernel_rfl) (by kernel_rfl) (fun _ _ => trivial) ?_
    refine RgH.done (by kernel_rfl) ?_
    exact RunH.done (by kernel_rfl) Tryd.func55 (v := .slice A1 (([] : List Blob) ++ a0).length c1) (by kernel_rfl) ⟨A1, c1, ch1, rfl, rfl, rfl, ho1⟩
noncomputable def C42 : Ctx := { P := Tryd.prog, f := 42, N := 8, c := bodyOf Tryd.f42 }
def S42 (F : List Ch) (H0 : Hp) (r : List ByteArray) (v : Value) (H : Hp) (cs : List Ch) : Prop := ∃ (A0 : Option Addr) (c0 : Nat) (ch0 : Ch), H0 = H ∧ v = .slice A0 r.length c0 ∧ ch0 :: F = cs ∧ SlOwn Kd.string 9 H A0 c0 r ch0
theorem slices_Clone_string_c {w0 : World} {H : Hp} {F : List Ch} {a0 : List ByteArray} {Aa0 : Option Addr} {na0 ca0 : Nat} {r : List ByteArray} (hra0 : Rw Kd.string H F Aa0 a0) (hca0 : na0 ≤ ca0) (hna0 : na0 = a0.length) (heq : slices_Clone_string.f a0 = some r) : CallsH Tryd.prog 42 #[.slice Aa0 na0 ca0] H w0 F (S42 F H r) := by
  refine calls_of_runH (F := C42) Tryd.func42 (by kernel_rfl) Tryd.ntmps42 (args := [.slice Aa0 na0 ca0]) (by kernel_rfl) ?_
  subst hna0
  unfold slices_Clone_string.f at heq
  obtain ⟨hn, heq⟩ := guard?_some heq
  obtain rfl := Option.some.inj heq
  refine RunH.adm 1 (es' := [.c [0], .c [1]]) (by kernel_rfl) ?_
  refine RunH.reg (by kernel_rfl) ?_
  refine RgH.runk 1 [0] (vs := []) (evs := []) (L' := [(0, .slice Aa0 a0.length ca0)]) (by kernel_rfl) (by kernel_rfl) (fun _ _ => trivial) ?_
  refine RgH.done (by kernel_rfl) ?_
  refine RunH.adm 2 (es' := [.c [1, 0, 0], .c [1, 0, 1], .c [1, 1]]) (by kernel_rfl) ?_
  refine RunH.reg (by kernel_rfl) ?_
  cases Aa0 with
  | none =>
    have h0 : a0 = [] := by
      cases a0 with
      | nil => rfl
      | cons x xs => obtain ⟨b, off, cs, e, fr, hA, _⟩ := hra0 (by simp); cases hA
    subst h0
    refine RgH.runk 2 [4] (vs := []) (evs := []) (L' := [(4, .bool true)]) (by kernel_rfl) (by kernel_rfl) (fun _ _ => trivial) ?_
    refine RgH.done (by kernel_rfl) ?_
    refine RunH.condT (c := true) (by kernel_rfl) rfl ?_
    refine RunH.adm 1 (es' := [.c [1, 0, 1, 0, 0], .c [1, 0, 1, 0, 1], .c [1, 1]]) (by kernel_rfl) ?_
    refine RunH.reg (by kernel_rfl) ?_
    refine RgH.runk 1 [2] (vs := []) (evs := []) (L' := [(2, .slice none 0 0)]) (by kernel_rfl) (by kernel_rfl) (fun _ _ => trivial) ?_
    refine RgH.done (by kernel_rfl) ?_
    refine RunH.nilc ?_
    exact RunH.done (by kernel_rfl) Tryd.func42 (v := .slice none ([] : List ByteArray).length 0) (by kernel_rfl) ⟨none, 0, none, rfl, rfl, rfl, SlOwn.nil⟩
  | some ad =>
    refine RgH.runk 2 [0, 4] (vs := []) (evs := []) (L' := [(0, .slice (some ad) a0.length ca0), (4, .bool false)]) (by kernel_rfl) (by kernel_rfl) (fun _ _ => trivial) ?_
    refine RgH.done (by kernel_rfl) ?_
    refine RunH.condF (c := false) (by kernel_rfl) rfl ?_
    refine RunH.adm 2 (es' := [.c [1, 1, 0], .c [1, 1, 1]]) (by kernel_rfl) ?_
    refine RunH.reg (by kernel_rfl) ?_
    refine RgH.does (DoesH.new (d := 5) (v := fun g => .slice (some ⟨g, 0, none⟩) 0 0) (o := fun g => .cells #[] 9 (0, 0)) (fun g => by kernel_rfl)) ?_
    rintro _ _ _ _ ⟨g, rfl, rfl, rfl⟩
    have ho : SlOwn Kd.string 9 H (some ⟨g, 0, none⟩) 0 ([] : List ByteArray) (some (g, .cells #[] 9 (0, 0))) := .inr ⟨g, 0, #[], rfl, rfl, by simp, by simp [maxLen], by simp, Kd.Rep.nil⟩
    refine RgH.runk 2 [5, 6] (vs := []) (evs := []) (L' := [(5, .slice (some ⟨g, 0, none⟩) 0 0), (6, .slice (some ad) a0.length ca0)]) (by kernel_rfl) (by kernel_rfl) (fun _ _ => trivial) ?_
    refine RgH.does (DoesH.append (d := 7) (k := 0) (t := 34) (e := 9) (bytes := 16) (kd := Kd.string) (n := 0) (m := a0.length) (xs := ([] : List ByteArray)) (ys := a0) (A := some ⟨g, 0, none⟩) (B := some ad) (c := 0) (cB := ca0) (by kernel_rfl) rfl rfl (by kernel_rfl) rfl ho (fun w hh => hra0.rdb (hh.drop 1)) (room_le hn) (by have := room_le hn; omega)) ?_
    rintro _ _ _ _ ⟨A1, c1, ch1, rfl, rfl, rfl, ho1⟩
    refine RgH.runk 4 [2] (vs := []) (evs := []) (L' := [(2, .slice A1 (([] : List ByteArray) ++ a0).length c1)]) (by kernel_rfl) (by kernel_rfl) (fun _ _ => trivial) ?_
    refine RgH.done (by kernel_rfl) ?_
    exact RunH.done (by kernel_rfl) Tryd.func42 (v := .slice A1 (([] : List ByteArray) ++ a0).length c1) (by kernel_rfl) ⟨A1, c1, ch1, rfl, rfl, rfl, ho1⟩
noncomputable def C18 : Ctx := { P := Tryd.prog, f := 18, N := 33, c := bodyOf Tryd.f18 }
def S18 (F : List Ch) (H0 : Hp) (r : Cache) (v : Value) (H : Hp) (cs : List Ch) : Prop := ∃ (A0_2 : Option Addr) (c0_2 : Nat) (ch0_2 : Ch) (A0_3 : Option Addr) (c0_3 : Nat) (ch0_3 : Ch), v = .agg #[.int .i64 r.Room, .int .i64 r.Lease, .slice A0_2 r.Blobs.length c0_2, .slice A0_3 r.Entries.length c0_3] ∧ ch0_2 :: ch0_3 :: F = cs ∧ SlOwn kBlob 47 H A0_2 c0_2 r.Blobs ch0_2 ∧ SlOwn kEntry 51 H A0_3 c0_3 r.Entries ch0_3
theorem smithyardref7_Copy.e1_c {w0 : World} {H0 : Hp} {F : List Ch} {r : Cache} : ∀ (H : Hp) (a0 : Cache) (Aa0_3 : Option Addr) (ca0_3 : Nat) (g1 : Nat) (g2 : Nat) (y1 : List Blob) (A1 : Option Addr) (c1 : Nat) (ch1 : Ch) (v_entries3 : List Entry) (Av_entries3 : Option Addr) (nv_entries3 : Nat) (cv_entries3 : Nat) (chv_entries3 : Ch) , Rw kEntry H F Aa0_3 a0.Entries → a0.Entries.length ≤ ca0_3 → SlOwn kBlob 47 H A1 c1 y1 ch1 → SlOwn kEntry 51 H Av_entries3 cv_entries3 v_entries3 chv_entries3 → nv_entries3 = v_entries3.length → smithyardref7_Copy.e1 a0 y1 v_entries3 = some r → RunH C18 (S18 F H0 r) H0 w0 [.c [1, 1, 1, 1, 0], .c [1, 1, 1, 1, 1]] [(1, .pointer (some ⟨g1, 0, none⟩)), (2, .pointer (some ⟨g2, 0, none⟩)), (3, .slice Av_entries3 nv_entries3 cv_entries3)] H (chv_entries3 :: ch1 :: (some (g2, .cells #[.int .i64 0, .int .i64 0, .slice none 0 0, .slice none 0 0] 25 (0, 0))) :: (some (g1, .cells #[.int .i64 a0.Room, .int .i64 a0.Lease, .slice A1 y1.length c1, .slice Aa0_3 a0.Entries.length ca0_3] 25 (0, 0))) :: F) := by
  intro H a0 Aa0_3 ca0_3 g1 g2 y1 A1 c1 ch1 v_entries3 Av_entries3 nv_entries3 cv_entries3 chv_entries3 hra0_3 hca0_3 ho1 hov_entries3 hnv_entries3 heq
  subst hnv_entries3
  unfold smithyardref7_Copy.e1 at heq
  refine RunH.reg (by kernel_rfl) ?_
  refine RgH.runk 2 [1, 2, 30, 31] (vs := []) (evs := []) (L' := [(1, .pointer (some ⟨g1, 0, none⟩)), (2, .pointer (some ⟨g2, 0, none⟩)), (30, .slice Av_entries3 v_entries3.length cv_entries3), (31, .pointer (some ⟨g1, 3, none⟩))]) (by kernel_rfl) (by kernel_rfl) (fun _ _ => trivial) ?_
  refine RgH.does (DoesH.store (k := 3) (g := g1) (off := 3) (v := .slice Av_entries3 v_entries3.length cv_entries3) (cells' := #[.int .i64 a0.Room, .int .i64 a0.Lease, .slice A1 y1.length c1, .slice Av_entries3 v_entries3.length cv_entries3]) (by kernel_rfl) rfl (by kernel_rfl) (by kernel_rfl)) ?_
  rintro _ _ _ _ ⟨rfl, rfl, rfl⟩
  refine RgH.done (by kernel_rfl) ?_
  refine RunH.adm 1 (es' := [.c [1, 1, 1, 1, 1, 0], .c [1, 1, 1, 1, 1, 1]]) (by kernel_rfl) ?_
  refine RunH.reg (by kernel_rfl) ?_
  refine RgH.runk 1 [2, 32] (vs := [.int .i64 a0.Room, .int .i64 a0.Lease, .slice A1 y1.length c1, .slice Av_entries3 v_entries3.length cv_entries3]) (evs := [.load ⟨g1, 0, none⟩ (.int .i64 a0.Room), .load ⟨g1, 1, none⟩ (.int .i64 a0.Lease), .load ⟨g1, 2, none⟩ (.slice A1 y1.length c1), .load ⟨g1, 3, none⟩ (.slice Av_entries3 v_entries3.length cv_entries3)]) (L' := [(2, .pointer (some ⟨g2, 0, none⟩)), (32, .agg #[.int .i64 a0.Room, .int .i64 a0.Lease, .slice A1 y1.length c1, .slice Av_entries3 v_entries3.length cv_entries3])]) (by kernel_rfl) (by kernel_rfl) (fun w hh => ⟨(hh.box 3 rfl rfl), (hh.box 3 rfl rfl), (hh.box 3 rfl rfl), (hh.box 3 rfl rfl)⟩) ?_
  refine RgH.does (DoesH.store (k := 2) (g := g2) (off := 0) (v := .agg #[.int .i64 a0.Room, .int .i64 a0.Lease, .slice A1 y1.length c1, .slice Av_entries3 v_entries3.length cv_entries3]) (cells' := #[.int .i64 a0.Room, .int .i64 a0.Lease, .slice A1 y1.length c1, .slice Av_entries3 v_entries3.length cv_entries3]) (by kernel_rfl) rfl (by kernel_rfl) (by kernel_rfl)) ?_
  rintro _ _ _ _ ⟨rfl, rfl, rfl⟩
  refine RgH.done (by kernel_rfl) ?_
  obtain rfl := Option.some.inj heq
  refine RunH.pick 4 [2, 1, 0] (cs' := (some (g2, .cells #[.int .i64 a0.Room, .int .i64 a0.Lease, .slice A1 y1.length c1, .slice Av_entries3 v_entries3.length cv_entries3] 25 (0, 0))) :: ch1 :: chv_entries3 :: F) (by kernel_rfl) rfl ?_
  exact RunH.doneM' 1 (vs := [.agg #[.int .i64 a0.Room, .int .i64 a0.Lease, .slice A1 y1.length c1, .slice Av_entries3 v_entries3.length cv_entries3]]) (v := .agg #[.int .i64 a0.Room, .int .i64 a0.Lease, .slice A1 y1.length c1, .slice Av_entries3 v_entries3.length cv_entries3]) (by kernel_rfl) Tryd.func18 (fun w hh => show ResAll _ _ _ [.cell 2 25] _ from ⟨⟨⟨g2, 0, none⟩, by kernel_rfl, trS_run _ (vs := [.int .i64 a0.Room, .int .i64 a0.Lease, .slice A1 y1.length c1, .slice Av_entries3 v_entries3.length cv_entries3]) (r := []) (es := [.load ⟨g2, 0, none⟩ (.int .i64 a0.Room), .load ⟨g2, 1, none⟩ (.int .i64 a0.Lease), .load ⟨g2, 2, none⟩ (.slice A1 y1.length c1), .load ⟨g2, 3, none⟩ (.slice Av_entries3 v_entries3.length cv_entries3)]) (by kernel_rfl) ⟨(hh.box 0 rfl rfl), (hh.box 0 rfl rfl), (hh.box 0 rfl rfl), (hh.box 0 rfl rfl)⟩⟩, trivial⟩) rfl (cs' := ch1 :: chv_entries3 :: F) rfl ⟨A1, c1, ch1, Av_entries3, cv_entries3, chv_entries3, rfl, rfl, ho1, hov_entries3⟩
theorem smithyardref7_Copy.l2_c {w0 : World} {H0 : Hp} {F : List Ch} {r : Cache} (e1 : Cache → (List Blob) → (List Entry) → Option Cache)
    (he1 : ∀ (H : Hp) (a0 : Cache) (Aa0_3 : Option Addr) (ca0_3 : Nat) (g1 : Nat) (g2 : Nat) (y1 : List Blob) (A1 : Option Addr) (c1 : Nat) (ch1 : Ch) (v_entries3 : List Entry) (Av_entries3 : Option Addr) (nv_entries3 : Nat) (cv_entries3 : Nat) (chv_entries3 : Ch) , Rw kEntry H F Aa0_3 a0.Entries → a0.Entries.length ≤ ca0_3 → SlOwn kBlob 47 H A1 c1 y1 ch1 → SlOwn kEntry 51 H Av_entries3 cv_entries3 v_entries3 chv_entries3 → nv_entries3 = v_entries3.length → e1 a0 y1 v_entries3 = some r → RunH C18 (S18 F H0 r) H0 w0 [.c [1, 1, 1, 1, 0], .c [1, 1, 1, 1, 1]] [(1, .pointer (some ⟨g1, 0, none⟩)), (2, .pointer (some ⟨g2, 0, none⟩)), (3, .slice Av_entries3 nv_entries3 cv_entries3)] H (chv_entries3 :: ch1 :: (some (g2, .cells #[.int .i64 0, .int .i64 0, .slice none 0 0, .slice none 0 0] 25 (0, 0))) :: (some (g1, .cells #[.int .i64 a0.Room, .int .i64 a0.Lease, .slice A1 y1.length c1, .slice Aa0_3 a0.Entries.length ca0_3] 25 (0, 0))) :: F)) : ∀ (k : Nat), ∀ (H : Hp) (a0 : Cache) (Aa0_3 : Option Addr) (ca0_3 : Nat) (g1 : Nat) (g2 : Nat) (y1 : List Blob) (A1 : Option Addr) (c1 : Nat) (ch1 : Ch) (v_entries3 : List Entry) (Av_entries3 : Option Addr) (nv_entries3 : Nat) (cv_entries3 : Nat) (chv_entries3 : Ch) (v_i4 : Int) , Rw kEntry H F Aa0_3 a0.Entries → a0.Entries.length ≤ ca0_3 → SlOwn kBlob 47 H A1 c1 y1 ch1 → SlOwn kEntry 51 H Av_entries3 cv_entries3 v_entries3 chv_entries3 → nv_entries3 = v_entries3.length → smithyardref7_Copy.l2 e1 k a0 y1 v_entries3 v_i4 = some r → RunH C18 (S18 F H0 r) H0 w0 [.c [1, 1, 1, 0, 1, 0, 0], .l [1, 1, 1, 0, 1, 0, 0], .b 0, .c [1, 1, 1, 1]] [(1, .pointer (some ⟨g1, 0, none⟩)), (2, .pointer (some ⟨g2, 0, none⟩)), (3, .slice Av_entries3 nv_entries3 cv_entries3), (4, .int .i64 v_i4)] H (chv_entries3 :: ch1 :: (some (g2, .cells #[.int .i64 0, .int .i64 0, .slice none 0 0, .slice none 0 0] 25 (0, 0))) :: (some (g1, .cells #[.int .i64 a0.Room, .int .i64 a0.Lease, .slice A1 y1.length c1, .slice Aa0_3 a0.Entries.length ca0_3] 25 (0, 0))) :: F) := by
  intro k
  induction k with
  | zero => intro H a0 Aa0_3 ca0_3 g1 g2 y1 A1 c1 ch1 v_entries3 Av_entries3 nv_entries3 cv_entries3 chv_entries3 v_i4 hra0_3 hca0_3 ho1 hov_entries3 hnv_entries3 heq; exact nomatch (show (none : Option Cache) = some r from heq)
  | succ k ihk =>
    intro H a0 Aa0_3 ca0_3 g1 g2 y1 A1 c1 ch1 v_entries3 Av_entries3 nv_entries3 cv_entries3 chv_entries3 v_i4 hra0_3 hca0_3 ho1 hov_entries3 hnv_entries3 heq
    subst hnv_entries3
    rw [smithyardref7_Copy.l2] at heq
    refine RunH.adm 2 (es' := [.c [1, 1, 1, 0, 1, 0, 0, 0, 0], .c [1, 1, 1, 0, 1, 0, 0, 0, 1], .c [1, 1, 1, 0, 1, 0, 0, 1], .l [1, 1, 1, 0, 1, 0, 0], .b 0, .c [1, 1, 1, 1]]) (by kernel_rfl) ?_
    refine RunH.reg (by kernel_rfl) ?_
    refine RgH.runk 5 [1, 2, 3, 4, 14] (vs := [.slice Aa0_3 a0.Entries.length ca0_3]) (evs := [.load ⟨g1, 3, none⟩ (.slice Aa0_3 a0.Entries.length ca0_3)]) (L' := [(1, .pointer (some ⟨g1, 0, none⟩)), (2, .pointer (some ⟨g2, 0, none⟩)), (3, .slice Av_entries3 v_entries3.length cv_entries3), (4, .int .i64 v_i4), (14, .bool (decide (v_i4 < (a0.Entries.length : Int))))]) (by kernel_rfl) (by kernel_rfl) (fun w hh => (hh.box 3 rfl rfl)) ?_
    refine RgH.done (by kernel_rfl) ?_
    rcases bool_cases (decide (v_i4 < (a0.Entries.length : Int))) with hb1 | hb1
    · replace heq := bif_true hb1 heq
      refine RunH.condT (c := decide (v_i4 < (a0.Entries.length : Int))) (by kernel_rfl) hb1 ?_
      refine RunH.adm 4 (es' := [.c [1, 1, 1, 0, 1, 0, 0, 1, 0, 0, 0], .c [1, 1, 1, 0, 1, 0, 0, 1, 0, 0, 1], .b 1, .c [1, 1, 1, 0, 1, 0, 0, 1, 1], .l [1, 1, 1, 0, 1, 0, 0], .b 0, .c [1, 1, 1, 1]]) (by kernel_rfl) ?_
      refine RunH.reg (by kernel_rfl) ?_
      obtain ⟨x1, hx1, heq⟩ := bind_some heq
      obtain ⟨ha1, cs1, hK1, hcc1⟩ := hra0_3.get hx1
      obtain ⟨A2, c2, rfl, hc1, hr1⟩ := kEntry_open hK1
      refine RgH.runk 5 [1, 2, 3, 4, 21] (vs := [.slice Aa0_3 a0.Entries.length ca0_3, .string x1.Key, .slice A2 x1.Refs.length c2, .int .i64 x1.Used]) (evs := [.load ⟨g1, 3, none⟩ (.slice Aa0_3 a0.Entries.length ca0_3), .need (Aa0_3 = some (adr Aa0_3) ∧ (0 : Int) ≤ v_i4 ∧ v_i4 < ((a0.Entries.length : Nat) : Int)), .load (((adr Aa0_3).add (v_i4.toNat * 3)).add 0) (.string x1.Key), .load (((adr Aa0_3).add (v_i4.toNat * 3)).add 1) (.slice A2 x1.Refs.length c2), .load (((adr Aa0_3).add (v_i4.toNat * 3)).add 2) (.int .i64 x1.Used)]) (L' := [(1, .pointer (some ⟨g1, 0, none⟩)), (2, .pointer (some ⟨g2, 0, none⟩)), (3, .slice Av_entries3 v_entries3.length cv_entries3), (4, .int .i64 v_i4), (21, .agg #[.string x1.Key, .slice A2 x1.Refs.length c2, .int .i64 x1.Used])]) (by kernel_rfl) (by kernel_rfl) (fun w hh => ⟨(hh.box 3 rfl rfl), ⟨ha1, (at?_some hx1).1, (at?_some hx1).2.1⟩, (hcc1 _ _ (hh.drop 4) 0 _ rfl), (hcc1 _ _ (hh.drop 4) 1 _ rfl), (hcc1 _ _ (hh.drop 4) 2 _ rfl)⟩) ?_
      refine RgH.does (DoesH.new (d := 5) (v := fun g => .pointer (some ⟨g, 0, none⟩)) (o := fun g => .cells #[.string ByteArray.empty, .slice none 0 0, .int .i64 0] 51 (0, 0)) (fun g => by kernel_rfl)) ?_
      rintro _ _ _ _ ⟨g3, rfl, rfl, rfl⟩
      refine RgH.does (DoesH.store (k := 0) (g := g3) (off := 0) (v := .agg #[.string x1.Key, .slice A2 x1.Refs.length c2, .int .i64 x1.Used]) (cells' := #[.string x1.Key, .slice A2 x1.Refs.length c2, .int .i64 x1.Used]) (by kernel_rfl) rfl (by kernel_rfl) (by kernel_rfl)) ?_
      rintro _ _ _ _ ⟨rfl, rfl, rfl⟩
      refine RgH.done (by kernel_rfl) ?_
      refine RunH.adm 1 (es' := [.c [1, 1, 1, 0, 1, 0, 0, 1, 0, 0, 1, 0], .c [1, 1, 1, 0, 1, 0, 0, 1, 0, 0, 1, 1], .b 1, .c [1, 1, 1, 0, 1, 0, 0, 1, 1], .l [1, 1, 1, 0, 1, 0, 0], .b 0, .c [1, 1, 1, 1]]) (by kernel_rfl) ?_
      refine RunH.reg (by kernel_rfl) ?_
      refine RgH.runk 2 [1, 2, 3, 4, 5, 23] (vs := [.slice A2 x1.Refs.length c2]) (evs := [.load ⟨g3, 1, none⟩ (.slice A2 x1.Refs.length c2)]) (L' := [(1, .pointer (some ⟨g1, 0, none⟩)), (2, .pointer (some ⟨g2, 0, none⟩)), (3, .slice Av_entries3 v_entries3.length cv_entries3), (4, .int .i64 v_i4), (5, .pointer (some ⟨g3, 0, none⟩)), (23, .slice A2 x1.Refs.length c2)]) (by kernel_rfl) (by kernel_rfl) (fun w hh => (hh.box 0 rfl rfl)) ?_
      obtain ⟨y2, hy2, heq⟩ := bind_some heq
      refine RgH.does (DoesH.call (d := 24) (g := 42) (args := #[.slice A2 x1.Refs.length c2]) (by kernel_rfl) (slices_Clone_string_c (a0 := x1.Refs) (Rw.of hr1) hc1 rfl hy2)) ?_
      rintro _ _ _ _ ⟨_, rfl, A3, c3, ch2, rfl, rfl, rfl, ho2⟩
      refine RgH.runk 4 [1, 2, 3, 4, 5, 24, 25] (vs := []) (evs := []) (L' := [(1, .pointer (some ⟨g1, 0, none⟩)), (2, .pointer (some ⟨g2, 0, none⟩)), (3, .slice Av_entries3 v_entries3.length cv_entries3), (4, .int .i64 v_i4), (5, .pointer (some ⟨g3, 0, none⟩)), (24, .slice A3 y2.length c3), (25, .pointer (some ⟨g3, 1, none⟩))]) (by kernel_rfl) (by kernel_rfl) (fun _ _ => trivial) ?_
      refine RgH.does (DoesH.store (k := 1) (g := g3) (off := 1) (v := .slice A3 y2.length c3) (cells' := #[.string x1.Key, .slice A3 y2.length c3, .int .i64 x1.Used]) (by kernel_rfl) rfl (by kernel_rfl) (by kernel_rfl)) ?_
      rintro _ _ _ _ ⟨rfl, rfl, rfl⟩
      refine RgH.done (by kernel_rfl) ?_
      refine RunH.reg (by kernel_rfl) ?_
      refine RgH.runk 2 [1, 2, 4, 26, 27] (vs := [.string x1.Key, .slice A3 y2.length c3, .int .i64 x1.Used]) (evs := [.load ⟨g3, 0, none⟩ (.string x1.Key), .load ⟨g3, 1, none⟩ (.slice A3 y2.length c3), .load ⟨g3, 2, none⟩ (.int .i64 x1.Used)]) (L' := [(1, .pointer (some ⟨g1, 0, none⟩)), (2, .pointer (some ⟨g2, 0, none⟩)), (4, .int .i64 v_i4), (26, .slice Av_entries3 v_entries3.length cv_entries3), (27, .agg #[.string x1.Key, .slice A3 y2.length c3, .int .i64 x1.Used])]) (by kernel_rfl) (by kernel_rfl) (fun w hh => ⟨(hh.box 1 rfl rfl), (hh.box 1 rfl rfl), (hh.box 1 rfl rfl)⟩) ?_
      have hc2 := ho2.cap
      refine Hs.freezeS ho2 (fun H hl hr2 => ?_)
      replace ho1 := ho1.mono hl
      replace hra0_3 := hra0_3.mono hl
      replace hov_entries3 := hov_entries3.mono hl
      refine RgH.does (DoesH.new (d := 28) (v := fun g => .slice (some ⟨g, 0, none⟩) 1 1) (o := fun g => .cells #[.string x1.Key, .slice A3 y2.length c3, .int .i64 x1.Used] 51 (0, 0)) (fun g => by kernel_rfl)) ?_
      rintro _ _ _ _ ⟨g4, rfl, rfl, rfl⟩
      have ho3 : SlOwn kEntry 51 H (some ⟨g4, 0, none⟩) 1 ([(⟨x1.Key, y2, x1.Used⟩ : Entry)] : List Entry) (some (g4, .cells #[.string x1.Key, .slice A3 y2.length c3, .int .i64 x1.Used] 51 (0, 0))) := SlOwn.lit (xs := ([(⟨x1.Key, y2, x1.Used⟩ : Entry)] : List Entry)) (by kernel_rfl) (Nat.le_of_ble_eq_true (by kernel_rfl)) (Kd.Rep.one (kEntry_mk hc2 hr2))
      obtain ⟨hn1, heq⟩ := guard?_some heq
      refine RgH.does (DoesH.append (d := 29) (k := 2) (t := 23) (e := 51) (bytes := 48) (kd := kEntry) (n := v_entries3.length) (m := 1) (xs := v_entries3) (ys := ([(⟨x1.Key, y2, x1.Used⟩ : Entry)] : List Entry)) (A := Av_entries3) (B := (some ⟨g4, 0, none⟩)) (c := cv_entries3) (cB := 1) (by kernel_rfl) rfl rfl (by kernel_rfl) rfl hov_entries3 (fun w hh => ho3.rdb (hh.chin 0 rfl)) (room_le hn1) (by have := room_le hn1; omega)) ?_
      rintro _ _ _ _ ⟨A4, c4, ch3, rfl, rfl, rfl, ho4⟩
      refine RgH.runk 5 [1, 2, 3, 4] (vs := []) (evs := []) (L' := [(1, .pointer (some ⟨g1, 0, none⟩)), (2, .pointer (some ⟨g2, 0, none⟩)), (3, .slice A4 ((v_entries3 ++ ([(⟨x1.Key, y2, x1.Used⟩ : Entry)] : List Entry)).length) c4), (4, .int .i64 v_i4)]) (by kernel_rfl) (by kernel_rfl) (fun _ _ => trivial) ?_
      refine RgH.done (by kernel_rfl) ?_
      refine RunH.adm 1 (es' := [.c [1, 1, 1, 0, 1, 0, 0, 1, 1], .l [1, 1, 1, 0, 1, 0, 0], .b 0, .c [1, 1, 1, 1]]) (by kernel_rfl) ?_
      refine RunH.reg (by kernel_rfl) ?_
      refine RgH.runk 3 [1, 2, 3, 4] (vs := []) (evs := []) (L' := [(1, .pointer (some ⟨g1, 0, none⟩)), (2, .pointer (some ⟨g2, 0, none⟩)), (3, .slice A4 ((v_entries3 ++ ([(⟨x1.Key, y2, x1.Used⟩ : Entry)] : List Entry)).length) c4), (4, .int .i64 (w64 (v_i4 + 1)))]) (by kernel_rfl) (by kernel_rfl) (fun _ _ => trivial) ?_
      refine RgH.done (by kernel_rfl) ?_
      refine RunH.adm 1 (es' := [.c [1, 1, 1, 0, 1, 0, 0], .l [1, 1, 1, 0, 1, 0, 0], .b 0, .c [1, 1, 1, 1]]) (by kernel_rfl) ?_
      refine RunH.keep [1, 2, 3, 4] (L' := [(1, .pointer (some ⟨g1, 0, none⟩)), (2, .pointer (some ⟨g2, 0, none⟩)), (3, .slice A4 ((v_entries3 ++ ([(⟨x1.Key, y2, x1.Used⟩ : Entry)] : List Entry)).length) c4), (4, .int .i64 (w64 (v_i4 + 1)))]) (by kernel_rfl) ?_
      refine RunH.pick 6 [2, 3, 4, 5] (cs' := ch3 :: ch1 :: (some (g2, .cells #[.int .i64 0, .int .i64 0, .slice none 0 0, .slice none 0 0] 25 (0, 0))) :: (some (g1, .cells #[.int .i64 a0.Room, .int .i64 a0.Lease, .slice A1 y1.length c1, .slice Aa0_3 a0.Entries.length ca0_3] 25 (0, 0))) :: F) (by kernel_rfl) rfl ?_
      exact ihk _ a0 _ _ _ _ y1 _ _ _ (v_entries3 ++ ([(⟨x1.Key, y2, x1.Used⟩ : Entry)] : List Entry)) _ _ _ _ (w64 (v_i4 + 1)) hra0_3 hca0_3 ho1 ho4 rfl heq
    · replace heq := bif_false hb1 heq
      refine RunH.condF (c := decide (v_i4 < (a0.Entries.length : Int))) (by kernel_rfl) hb1 ?_
      refine RunH.adm 2 (es' := [.c [1, 1, 1, 1, 0], .c [1, 1, 1, 1, 1]]) (by kernel_rfl) ?_
      refine RunH.keep [1, 2, 3] (L' := [(1, .pointer (some ⟨g1, 0, none⟩)), (2, .pointer (some ⟨g2, 0, none⟩)), (3, .slice Av_entries3 v_entries3.length cv_entries3)]) (by kernel_rfl) ?_
      exact he1 _ a0 _ _ _ _ y1 _ _ _ v_entries3 _ _ _ _ hra0_3 hca0_3 ho1 hov_entries3 rfl heq
theorem smithyardref7_Copy_c {w0 : World} {H0 : Hp} {F : List Ch} {a0 : Cache} {Aa0_2 : Option Addr} {na0_2 : Nat} {ca0_2 : Nat} {Aa0_3 : Option Addr} {na0_3 : Nat} {ca0_3 : Nat} {r : Cache} (hra0_2 : Rw kBlob H0 F Aa0_2 a0.Blobs) (hca0_2 : na0_2 ≤ ca0_2) (hna0_2 : na0_2 = a0.Blobs.length) (hra0_3 : Rw kEntry H0 F Aa0_3 a0.Entries) (hca0_3 : na0_3 ≤ ca0_3) (hna0_3 : na0_3 = a0.Entries.length) (heq : smithyardref7_Copy.f a0 = some r) : CallsH Tryd.prog 18 #[.agg #[.int .i64 a0.Room, .int .i64 a0.Lease, .slice Aa0_2 na0_2 ca0_2, .slice Aa0_3 na0_3 ca0_3]] H0 w0 (F) (S18 F H0 r) := by
  refine calls_of_runH (F := C18) Tryd.func18 (by kernel_rfl) Tryd.ntmps18 (args := [.agg #[.int .i64 a0.Room, .int .i64 a0.Lease, .slice Aa0_2 na0_2 ca0_2, .slice Aa0_3 na0_3 ca0_3]]) (by kernel_rfl) ?_
  subst hna0_2
  subst hna0_3
  unfold smithyardref7_Copy.f at heq
  suffices key : ∀ (H : Hp), Rw kBlob H F Aa0_2 a0.Blobs → Rw kEntry H F Aa0_3 a0.Entries → RunH C18 (S18 F H0 r) H0 w0 [.c []] (argL 0 [.agg #[.int .i64 a0.Room, .int .i64 a0.Lease, .slice Aa0_2 (a0.Blobs.length) ca0_2, .slice Aa0_3 (a0.Entries.length) ca0_3]]) H (F) from key H0 hra0_2 hra0_3
  intro H hra0_2 hra0_3
  refine RunH.adm 1 (es' := [.c [0], .c [1]]) (by kernel_rfl) ?_
  refine RunH.reg (by kernel_rfl) ?_
  refine RgH.does (DoesH.new (d := 1) (v := fun g => .pointer (some ⟨g, 0, none⟩)) (o := fun g => .cells #[.int .i64 a0.Room, .int .i64 a0.Lease, .slice Aa0_2 a0.Blobs.length ca0_2, .slice Aa0_3 a0.Entries.length ca0_3] 25 (0, 0)) (fun g => by kernel_rfl)) ?_
  rintro _ _ _ _ ⟨g1, rfl, rfl, rfl⟩
  refine RgH.does (DoesH.new (d := 2) (v := fun g => .pointer (some ⟨g, 0, none⟩)) (o := fun g => .cells #[.int .i64 0, .int .i64 0, .slice none 0 0, .slice none 0 0] 25 (0, 0)) (fun g => by kernel_rfl)) ?_
  rintro _ _ _ _ ⟨g2, rfl, rfl, rfl⟩
  refine RgH.done (by kernel_rfl) ?_
  refine RunH.adm 1 (es' := [.c [1, 0], .c [1, 1]]) (by kernel_rfl) ?_
  refine RunH.reg (by kernel_rfl) ?_
  refine RgH.runk 2 [1, 2, 7] (vs := [.slice Aa0_2 a0.Blobs.length ca0_2]) (evs := [.load ⟨g1, 2, none⟩ (.slice Aa0_2 a0.Blobs.length ca0_2)]) (L' := [(1, .pointer (some ⟨g1, 0, none⟩)), (2, .pointer (some ⟨g2, 0, none⟩)), (7, .slice Aa0_2 a0.Blobs.length ca0_2)]) (by kernel_rfl) (by kernel_rfl) (fun w hh => (hh.box 1 rfl rfl)) ?_
  obtain ⟨y1, hy1, heq⟩ := bind_some heq
  refine RgH.does (DoesH.call (d := 8) (g := 55) (args := #[.slice Aa0_2 a0.Blobs.length ca0_2]) (by kernel_rfl) (slices_Clone_Blob_c (a0 := a0.Blobs) (hra0_2.wk (fun _ h => (.tail _ (.tail _ h)))) hca0_2 rfl hy1)) ?_
  rintro _ _ _ _ ⟨_, rfl, A1, c1, ch1, rfl, rfl, rfl, ho1⟩
  refine RgH.runk 4 [1, 2, 8, 9] (vs := []) (evs := []) (L' := [(1, .pointer (some ⟨g1, 0, none⟩)), (2, .pointer (some ⟨g2, 0, none⟩)), (8, .slice A1 y1.length c1), (9, .pointer (some ⟨g1, 2, none⟩))]) (by kernel_rfl) (by kernel_rfl) (fun _ _ => trivial) ?_
  refine RgH.does (DoesH.store (k := 2) (g := g1) (off := 2) (v := .slice A1 y1.length c1) (cells' := #[.int .i64 a0.Room, .int .i64 a0.Lease, .slice A1 y1.length c1, .slice Aa0_3 a0.Entries.length ca0_3]) (by kernel_rfl) rfl (by kernel_rfl) (by kernel_rfl)) ?_
  rintro _ _ _ _ ⟨rfl, rfl, rfl⟩
  refine RgH.done (by kernel_rfl) ?_
  refine RunH.adm 1 (es' := [.c [1, 1, 0], .c [1, 1, 1]]) (by kernel_rfl) ?_
  refine RunH.reg (by kernel_rfl) ?_
  refine RgH.runk 1 [1, 2, 3] (vs := []) (evs := []) (L' := [(1, .pointer (some ⟨g1, 0, none⟩)), (2, .pointer (some ⟨g2, 0, none⟩)), (3, .slice none 0 0)]) (by kernel_rfl) (by kernel_rfl) (fun _ _ => trivial) ?_
  refine RgH.done (by kernel_rfl) ?_
  refine RunH.adm 2 (es' := [.c [1, 1, 1, 0, 0], .c [1, 1, 1, 0, 1], .c [1, 1, 1, 1]]) (by kernel_rfl) ?_
  refine RunH.reg (by kernel_rfl) ?_
  refine RgH.runk 1 [1, 2, 3, 4] (vs := []) (evs := []) (L' := [(1, .pointer (some ⟨g1, 0, none⟩)), (2, .pointer (some ⟨g2, 0, none⟩)), (3, .slice none 0 0), (4, .int .i64 0)]) (by kernel_rfl) (by kernel_rfl) (fun _ _ => trivial) ?_
  refine RgH.done (by kernel_rfl) ?_
  refine RunH.adm 2 (es' := [.c [1, 1, 1, 0, 1, 0, 0], .l [1, 1, 1, 0, 1, 0, 0], .b 0, .c [1, 1, 1, 1]]) (by kernel_rfl) ?_
  refine RunH.nilc ?_
  have ho5 : SlOwn kEntry 51 H none 0 ([] : List Entry) none := SlOwn.nil
  refine RunH.keep [1, 2, 3, 4] (L' := [(1, .pointer (some ⟨g1, 0, none⟩)), (2, .pointer (some ⟨g2, 0, none⟩)), (3, .slice none 0 0), (4, .int .i64 0)]) (by kernel_rfl) ?_
  exact ((smithyardref7_Copy.l2_c (e1 := smithyardref7_Copy.e1) (smithyardref7_Copy.e1_c)) big) _ a0 _ _ _ _ y1 _ _ _ ([] : List Entry) _ _ _ _ 0 hra0_3 hca0_3 ho1 ho5 rfl heq
noncomputable def C57 : Ctx := { P := Tryd.prog, f := 57, N := 15, c := bodyOf Tryd.f57 }
def S57 (F : List Ch) (H0 : Hp) (r : Bool) (v : Value) (H : Hp) (cs : List Ch) : Prop := H0 = H ∧ v = .bool r ∧ F = cs
theorem cache_within_c {w0 : World} {H : Hp} {F : List Ch} {a0 : Int} {a1 : Int} {a2 : Int} {r : Bool} (heq : cache_within.f a0 a1 a2 = some r) : CallsH Tryd.prog 57 #[.int .i64 a0, .int .i64 a1, .int .i64 a2] H w0 (F) (S57 F H r) := by
  refine calls_of_runH (F := C57) Tryd.func57 (by kernel_rfl) Tryd.ntmps57 (args := [.int .i64 a0, .int .i64 a1, .int .i64 a2]) (by kernel_rfl) ?_
  unfold cache_within.f at heq
  refine RunH.adm 1 (es' := [.c [0], .c [1]]) (by kernel_rfl) ?_
  refine RunH.reg (by kernel_rfl) ?_
  refine RgH.runk 1 [0, 1, 2] (vs := []) (evs := []) (L' := [(0, .int .i64 a0), (1, .int .i64 a1), (2, .int .i64 a2)]) (by kernel_rfl) (by kernel_rfl) (fun _ _ => trivial) ?_
  refine RgH.done (by kernel_rfl) ?_
  refine RunH.adm 1 (es' := [.c [1, 0], .c [1, 1]]) (by kernel_rfl) ?_
  obtain ⟨t1, ht1, heq⟩ := bind_some heq
  have K1 : RunH C57 (S57 F H r) H w0 [.c [1, 1]] [(6, .bool t1)] H (F) := by
    obtain rfl := Option.some.inj heq
    exact RunH.done (by kernel_rfl) Tryd.func57 (v := .bool t1) (by kernel_rfl) ⟨rfl, rfl, rfl⟩
  replace heq := ht1
  refine RunH.reg (by kernel_rfl) ?_
  refine RgH.runk 4 [10, 0, 2] (vs := []) (evs := []) (L' := [(10, .bool (decide (a1 ≤ a0))), (0, .int .i64 a0), (2, .int .i64 a2)]) (by kernel_rfl) (by kernel_rfl) (fun _ _ => trivial) ?_
  rcases bool_cases (decide (a1 ≤ a0)) with hb1 | hb1
  · replace heq := bif_true hb1 heq
    refine RgH.val1 (v' := .bool true) (congrArg Value.bool hb1) ?_
    refine RgH.runk 9 [6] (vs := []) (evs := []) (L' := [(6, .bool (decide (a0 ≤ a2)))]) (by kernel_rfl) (by kernel_rfl) (fun _ _ => trivial) ?_
    obtain rfl := Option.some.inj heq
    refine RgH.keep [6] (L' := [(6, .bool (decide (a0 ≤ a2)))]) (by kernel_rfl) ?_
    refine RgH.done (by kernel_rfl) ?_
    exact K1
  · replace heq := bif_false hb1 heq
    refine RgH.val1 (v' := .bool false) (congrArg Value.bool hb1) ?_
    refine RgH.runk 9 [6] (vs := []) (evs := []) (L' := [(6, .bool false)]) (by kernel_rfl) (by kernel_rfl) (fun _ _ => trivial) ?_
    obtain rfl := Option.some.inj heq
    refine RgH.keep [6] (L' := [(6, .bool false)]) (by kernel_rfl) ?_
    refine RgH.done (by kernel_rfl) ?_
    exact K1
def S106 (F : List Ch) (H0 : Hp) (r : ByteArray) (v : Value) (H : Hp) (cs : List Ch) : Prop := H0 = H ∧ v = .string r ∧ F = cs
theorem strings_Trim_c {w0 : World} {H : Hp} {F : List Ch} {a0 : ByteArray} {a1 : ByteArray} {r : ByteArray} (heq : strings_Trim.f a0 a1 = some r) : CallsH Tryd.prog 106 #[.string a0, .string a1] H w0 F (S106 F H r) := by
  intro w hh
  unfold strings_Trim.f at heq
  obtain ⟨hn, heq⟩ := guard?_some heq
  obtain rfl := Option.some.inj heq
  refine (Shelf.Tryd.strings_Trim a0 a1 w (by simp at hn; exact hn.1) (by simp at hn; exact hn.2.1) (by have h := hn; rw [Bool.and_eq_true, Bool.and_eq_true] at h; exact ascii_of_all h.2.2)).mono ?_
  rintro e w' ⟨rfl, hx⟩
  exact ⟨_, rfl, H, F, Le.refl H, hh.later hx, rfl, rfl, rfl⟩
noncomputable def C59 : Ctx := { P := Tryd.prog, f := 59, N := 11, c := bodyOf Tryd.f59 }
def S59 (F : List Ch) (H0 : Hp) (r : Bool) (v : Value) (H : Hp) (cs : List Ch) : Prop := H0 = H ∧ v = .bool r ∧ F = cs
theorem blob_IsDigest_c {w0 : World} {H : Hp} {F : List Ch} {a0 : ByteArray} {r : Bool} (heq : blob_IsDigest.f a0 = some r) : CallsH Tryd.prog 59 #[.string a0] H w0 (F) (S59 F H r) := by
  refine calls_of_runH (F := C59) Tryd.func59 (by kernel_rfl) Tryd.ntmps59 (args := [.string a0]) (by kernel_rfl) ?_
  unfold blob_IsDigest.f at heq
  refine RunH.adm 1 (es' := [.c [0], .c [1]]) (by kernel_rfl) ?_
  refine RunH.reg (by kernel_rfl) ?_
  refine RgH.runk 1 [0] (vs := []) (evs := []) (L' := [(0, .string a0)]) (by kernel_rfl) (by kernel_rfl) (fun _ _ => trivial) ?_
  refine RgH.done (by kernel_rfl) ?_
  refine RunH.adm 1 (es' := [.c [1, 0], .c [1, 1]]) (by kernel_rfl) ?_
  obtain ⟨t1, ht1, heq⟩ := bind_some heq
  have K1 : RunH C59 (S59 F H r) H w0 [.c [1, 1]] [(2, .bool t1)] H (F) := by
    obtain rfl := Option.some.inj heq
    exact RunH.done (by kernel_rfl) Tryd.func59 (v := .bool t1) (by kernel_rfl) ⟨rfl, rfl, rfl⟩
  replace heq := ht1
  refine RunH.reg (by kernel_rfl) ?_
  refine RgH.runk 4 [6, 0] (vs := []) (evs := []) (L' := [(6, .bool ((a0.size : Int) == 16)), (0, .string a0)]) (by kernel_rfl) (by kernel_rfl) (fun _ _ => trivial) ?_
  rcases bool_cases ((a0.size : Int) == 16) with hb1 | hb1
  · replace heq := bif_true hb1 heq
    refine RgH.val1 (v' := .bool true) (congrArg Value.bool hb1) ?_
    refine RgH.runk 5 [6, 7] (vs := []) (evs := []) (L' := [(6, .bool true), (7, .string a0)]) (by kernel_rfl) (by kernel_rfl) (fun _ _ => trivial) ?_
    obtain ⟨y1, hy1, heq⟩ := bind_some heq
    refine RgH.does (DoesH.call (d := 8) (g := 106) (args := #[.string a0, .string ({ data := #[48, 49, 50, 51, 52, 53, 54, 55, 56, 57, 97, 98, 99, 100, 101, 102] } : ByteArray)]) (by kernel_rfl) (strings_Trim_c (a0 := a0) (a1 := ({ data := #[48, 49, 50, 51, 52, 53, 54, 55, 56, 57, 97, 98, 99, 100, 101, 102] } : ByteArray))  hy1)) ?_
    rintro _ _ _ _ ⟨_, rfl, rfl, rfl, rfl⟩
    refine RgH.runk 9 [2] (vs := []) (evs := []) (L' := [(2, .bool (sEq y1 ({ data := #[] } : ByteArray)))]) (by kernel_rfl) (by kernel_rfl) (fun _ _ => trivial) ?_
    obtain rfl := Option.some.inj heq
    refine RgH.keep [2] (L' := [(2, .bool (sEq y1 ({ data := #[] } : ByteArray)))]) (by kernel_rfl) ?_
    refine RgH.done (by kernel_rfl) ?_
    exact K1
  · replace heq := bif_false hb1 heq
    refine RgH.val1 (v' := .bool false) (congrArg Value.bool hb1) ?_
    refine RgH.runk 9 [2] (vs := []) (evs := []) (L' := [(2, .bool false)]) (by kernel_rfl) (by kernel_rfl) (fun _ _ => trivial) ?_
    obtain rfl := Option.some.inj heq
    refine RgH.keep [2] (L' := [(2, .bool false)]) (by kernel_rfl) ?_
    refine RgH.done (by kernel_rfl) ?_
    exact K1
noncomputable def C61 : Ctx := { P := Tryd.prog, f := 61, N := 5, c := bodyOf Tryd.f61 }
def S61 (F : List Ch) (H0 : Hp) (r : Bool) (v : Value) (H : Hp) (cs : List Ch) : Prop := H0 = H ∧ v = .bool r ∧ F = cs
theorem cache_isMoment_c {w0 : World} {H : Hp} {F : List Ch} {a0 : Int} {r : Bool} (heq : cache_isMoment.f a0 = some r) : CallsH Tryd.prog 61 #[.int .i64 a0] H w0 (F) (S61 F H r) := by
  refine calls_of_runH (F := C61) Tryd.func61 (by kernel_rfl) Tryd.ntmps61 (args := [.int .i64 a0]) (by kernel_rfl) ?_
  unfold cache_isMoment.f at heq
  refine RunH.adm 1 (es' := [.c [0], .c [1]]) (by kernel_rfl) ?_
  refine RunH.reg (by kernel_rfl) ?_
  refine RgH.runk 1 [0] (vs := []) (evs := []) (L' := [(0, .int .i64 a0)]) (by kernel_rfl) (by kernel_rfl) (fun _ _ => trivial) ?_
  refine RgH.done (by kernel_rfl) ?_
  refine RunH.adm 1 (es' := [.c [1, 0], .c [1, 1]]) (by kernel_rfl) ?_
  refine RunH.reg (by kernel_rfl) ?_
  refine RgH.runk 1 [3] (vs := []) (evs := []) (L' := [(3, .int .i64 a0)]) (by kernel_rfl) (by kernel_rfl) (fun _ _ => trivial) ?_
  obtain ⟨y1, hy1, heq⟩ := bind_some heq
  refine RgH.does (DoesH.call (d := 4) (g := 57) (args := #[.int .i64 a0, .int .i64 0, .int .i64 1000000000]) (by kernel_rfl) (cache_within_c (a0 := a0) (a1 := 0) (a2 := 1000000000)  hy1)) ?_
  rintro _ _ _ _ ⟨_, rfl, rfl, rfl, rfl⟩
  refine RgH.runk 3 [2] (vs := []) (evs := []) (L' := [(2, .bool y1)]) (by kernel_rfl) (by kernel_rfl) (fun _ _ => trivial) ?_
  refine RgH.done (by kernel_rfl) ?_
  obtain rfl := Option.some.inj heq
  exact RunH.done (by kernel_rfl) Tryd.func61 (v := .bool y1) (by kernel_rfl) ⟨rfl, rfl, rfl⟩
noncomputable def C58 : Ctx := { P := Tryd.prog, f := 58, N := 68, c := bodyOf Tryd.f58 }
def S58 (F : List Ch) (H0 : Hp) (r : Int) (v : Value) (H : Hp) (cs : List Ch) : Prop := H0 = H ∧ v = .int .i64 r ∧ F = cs
theorem cache_checkBlobs.e1_c {w0 : World} {H : Hp} {F : List Ch} {r : Int} : ∀ (a1 : Int) (v_sum5 : Int) , cache_checkBlobs.e1 a1 v_sum5 = some r → RunH C58 (S58 F H r) H w0 [.c [1, 1, 1, 1, 0, 0], .c [1, 1, 1, 1, 0, 1], .c [1, 1, 1, 1, 1]] [(1, .int .i64 a1), (5, .int .i64 v_sum5)] H (F) := by
  intro a1 v_sum5  heq
  unfold cache_checkBlobs.e1 at heq
  refine RunH.reg (by kernel_rfl) ?_
  refine RgH.runk 3 [67] (vs := []) (evs := []) (L' := [(67, .bool (decide (a1 < v_sum5)))]) (by kernel_rfl) (by kernel_rfl) (fun _ _ => trivial) ?_
  refine RgH.done (by kernel_rfl) ?_
  rcases bool_cases (decide (a1 < v_sum5)) with hb2 | hb2
  · replace heq := bif_true hb2 heq
    refine RunH.condT (c := decide (a1 < v_sum5)) (by kernel_rfl) hb2 ?_
    refine RunH.adm 1 (es' := [.c [1, 1, 1, 1, 0, 1, 0, 0], .c [1, 1, 1, 1, 0, 1, 0, 1], .c [1, 1, 1, 1, 1]]) (by kernel_rfl) ?_
    refine RunH.reg (by kernel_rfl) ?_
    refine RgH.runk 1 [4] (vs := []) (evs := []) (L' := [(4, .int .i64 16)]) (by kernel_rfl) (by kernel_rfl) (fun _ _ => trivial) ?_
    refine RgH.done (by kernel_rfl) ?_
    obtain rfl := Option.some.inj heq
    exact RunH.done (by kernel_rfl) Tryd.func58 (v := .int .i64 16) (by kernel_rfl) ⟨rfl, rfl, rfl⟩
  · replace heq := bif_false hb2 heq
    refine RunH.condF (c := decide (a1 < v_sum5)) (by kernel_rfl) hb2 ?_
    refine RunH.adm 2 (es' := [.c [1, 1, 1, 1, 1, 0], .c [1, 1, 1, 1, 1, 1]]) (by kernel_rfl) ?_
    refine RunH.reg (by kernel_rfl) ?_
    refine RgH.runk 1 [4] (vs := []) (evs := []) (L' := [(4, .int .i64 0)]) (by kernel_rfl) (by kernel_rfl) (fun _ _ => trivial) ?_
    refine RgH.done (by kernel_rfl) ?_
    obtain rfl := Option.some.inj heq
    exact RunH.done (by kernel_rfl) Tryd.func58 (v := .int .i64 0) (by kernel_rfl) ⟨rfl, rfl, rfl⟩
theorem cache_checkBlobs.l2_c {w0 : World} {H : Hp} {F : List Ch} {r : Int} (e1 : Int → Int → Option Int)
    (he1 : ∀ (a1 : Int) (v_sum5 : Int) , e1 a1 v_sum5 = some r → RunH C58 (S58 F H r) H w0 [.c [1, 1, 1, 1, 0, 0], .c [1, 1, 1, 1, 0, 1], .c [1, 1, 1, 1, 1]] [(1, .int .i64 a1), (5, .int .i64 v_sum5)] H (F)) : ∀ (k : Nat), ∀ (a0 : List Blob) (Aa0 : Option Addr) (ca0 : Nat) (a1 : Int) (v_sum5 : Int) (v13 : Int) , Rw kBlob H F Aa0 a0 → a0.length ≤ ca0 → cache_checkBlobs.l2 e1 k a0 a1 v_sum5 v13 = some r → RunH C58 (S58 F H r) H w0 [.c [1, 1, 1, 0, 1, 0, 0], .l [1, 1, 1, 0, 1, 0, 0], .b 0, .c [1, 1, 1, 1]] [(0, .slice Aa0 a0.length ca0), (1, .int .i64 a1), (5, .int .i64 v_sum5), (11, .slice Aa0 a0.length ca0), (12, .int .i64 (a0.length : Int)), (13, .int .i64 v13)] H (F) := by
  intro k
  induction k with
  | zero => intro a0 Aa0 ca0 a1 v_sum5 v13 hra0 hca0 heq; exact nomatch (show (none : Option Int) = some r from heq)
  | succ k ihk =>
    intro a0 Aa0 ca0 a1 v_sum5 v13 hra0 hca0 heq
    rw [cache_checkBlobs.l2] at heq
    refine RunH.adm 1 (es' := [.c [1, 1, 1, 0, 1, 0, 0, 0], .c [1, 1, 1, 0, 1, 0, 0, 1], .l [1, 1, 1, 0, 1, 0, 0], .b 0, .c [1, 1, 1, 1]]) (by kernel_rfl) ?_
    refine RunH.reg (by kernel_rfl) ?_
    refine RgH.runk 1 [0, 1, 5, 11, 12, 13, 14] (vs := []) (evs := []) (L' := [(0, .slice Aa0 a0.length ca0), (1, .int .i64 a1), (5, .int .i64 v_sum5), (11, .slice Aa0 a0.length ca0), (12, .int .i64 (a0.length : Int)), (13, .int .i64 v13), (14, .bool (decide (v13 < (a0.length : Int))))]) (by kernel_rfl) (by kernel_rfl) (fun _ _ => trivial) ?_
    refine RgH.done (by kernel_rfl) ?_
    refine RunH.adm 1 (es' := [.c [1, 1, 1, 0, 1, 0, 0, 1, 0], .c [1, 1, 1, 0, 1, 0, 0, 1, 1], .l [1, 1, 1, 0, 1, 0, 0], .b 0, .c [1, 1, 1, 1]]) (by kernel_rfl) ?_
    rcases bool_cases (decide (v13 < (a0.length : Int))) with hb3 | hb3
    · replace heq := bif_true hb3 heq
      refine RunH.condT (c := decide (v13 < (a0.length : Int))) (by kernel_rfl) hb3 ?_
      refine RunH.adm 4 (es' := [.c [1, 1, 1, 0, 1, 0, 0, 1, 1, 0, 0, 0], .c [1, 1, 1, 0, 1, 0, 0, 1, 1, 0, 0, 1], .b 1, .c [1, 1, 1, 0, 1, 0, 0, 1, 1, 1], .l [1, 1, 1, 0, 1, 0, 0], .b 0, .c [1, 1, 1, 1]]) (by kernel_rfl) ?_
      refine RunH.reg (by kernel_rfl) ?_
      obtain ⟨x1, hx1, heq⟩ := bind_some heq
      obtain ⟨ha1, cs1, hK1, hcc1⟩ := hra0.get hx1
      obtain ⟨rfl⟩ := kBlob_open hK1
      refine RgH.runk 3 [0, 1, 5, 11, 12, 13, 15, 17] (vs := [.string x1.Digest, .int .i64 x1.Size, .int .i64 x1.Used, .int .i64 x1.Until, .int .i64 x1.Pins]) (evs := [.need (Aa0 = some (adr Aa0) ∧ (0 : Int) ≤ v13 ∧ v13 < ((a0.length : Nat) : Int)), .load (((adr Aa0).add (v13.toNat * 5)).add 0) (.string x1.Digest), .load (((adr Aa0).add (v13.toNat * 5)).add 1) (.int .i64 x1.Size), .load (((adr Aa0).add (v13.toNat * 5)).add 2) (.int .i64 x1.Used), .load (((adr Aa0).add (v13.toNat * 5)).add 3) (.int .i64 x1.Until), .load (((adr Aa0).add (v13.toNat * 5)).add 4) (.int .i64 x1.Pins)]) (L' := [(0, .slice Aa0 a0.length ca0), (1, .int .i64 a1), (5, .int .i64 v_sum5), (11, .slice Aa0 a0.length ca0), (12, .int .i64 (a0.length : Int)), (13, .int .i64 v13), (15, .int .i64 v13), (17, .agg #[.string x1.Digest, .int .i64 x1.Size, .int .i64 x1.Used, .int .i64 x1.Until, .int .i64 x1.Pins])]) (by kernel_rfl) (by kernel_rfl) (fun w hh => ⟨⟨ha1, (at?_some hx1).1, (at?_some hx1).2.1⟩, (hcc1 _ _ (hh.drop 0) 0 _ rfl), (hcc1 _ _ (hh.drop 0) 1 _ rfl), (hcc1 _ _ (hh.drop 0) 2 _ rfl), (hcc1 _ _ (hh.drop 0) 3 _ rfl), (hcc1 _ _ (hh.drop 0) 4 _ rfl)⟩) ?_
      refine RgH.does (DoesH.new (d := 7) (v := fun g => .pointer (some ⟨g, 0, none⟩)) (o := fun g => .cells #[.string ByteArray.empty, .int .i64 0, .int .i64 0, .int .i64 0, .int .i64 0] 47 (0, 0)) (fun g => by kernel_rfl)) ?_
      rintro _ _ _ _ ⟨g1, rfl, rfl, rfl⟩
      refine RgH.runk 5 [0, 1, 5, 6, 7, 11, 12, 13, 17] (vs := []) (evs := []) (L' := [(0, .slice Aa0 a0.length ca0), (1, .int .i64 a1), (5, .int .i64 v_sum5), (6, .int .i64 v13), (7, .pointer (some ⟨g1, 0, none⟩)), (11, .slice Aa0 a0.length ca0), (12, .int .i64 (a0.length : Int)), (13, .int .i64 v13), (17, .agg #[.string x1.Digest, .int .i64 x1.Size, .int .i64 x1.Used, .int .i64 x1.Until, .int .i64 x1.Pins])]) (by kernel_rfl) (by kernel_rfl) (fun _ _ => trivial) ?_
      refine RgH.does (DoesH.store (k := 0) (g := g1) (off := 0) (v := .agg #[.string x1.Digest, .int .i64 x1.Size, .int .i64 x1.Used, .int .i64 x1.Until, .int .i64 x1.Pins]) (cells' := #[.string x1.Digest, .int .i64 x1.Size, .int .i64 x1.Used, .int .i64 x1.Until, .int .i64 x1.Pins]) (by kernel_rfl) rfl (by kernel_rfl) (by kernel_rfl)) ?_
      rintro _ _ _ _ ⟨rfl, rfl, rfl⟩
      refine RgH.done (by kernel_rfl) ?_
      refine RunH.adm 3 (es' := [.c [1, 1, 1, 0, 1, 0, 0, 1, 1, 0, 0, 1, 0, 0, 0], .c [1, 1, 1, 0, 1, 0, 0, 1, 1, 0, 0, 1, 0, 0, 1], .b 2, .c [1, 1, 1, 0, 1, 0, 0, 1, 1, 0, 0, 1, 1], .b 1, .c [1, 1, 1, 0, 1, 0, 0, 1, 1, 1], .l [1, 1, 1, 0, 1, 0, 0], .b 0, .c [1, 1, 1, 1]]) (by kernel_rfl) ?_
      refine RunH.reg (by kernel_rfl) ?_
      refine RgH.runk 2 [0, 1, 5, 6, 7, 11, 12, 13, 20] (vs := [.string x1.Digest]) (evs := [.load ⟨g1, 0, none⟩ (.string x1.Digest)]) (L' := [(0, .slice Aa0 a0.length ca0), (1, .int .i64 a1), (5, .int .i64 v_sum5), (6, .int .i64 v13), (7, .pointer (some ⟨g1, 0, none⟩)), (11, .slice Aa0 a0.length ca0), (12, .int .i64 (a0.length : Int)), (13, .int .i64 v13), (20, .string x1.Digest)]) (by kernel_rfl) (by kernel_rfl) (fun w hh => (hh.box 0 rfl rfl)) ?_
      obtain ⟨y1, hy1, heq⟩ := bind_some heq
      refine RgH.does (DoesH.call (d := 21) (g := 59) (args := #[.string x1.Digest]) (by kernel_rfl) (blob_IsDigest_c (a0 := x1.Digest)  hy1)) ?_
      rintro _ _ _ _ ⟨_, rfl, rfl, rfl, rfl⟩
      refine RgH.runk 5 [0, 1, 5, 6, 7, 11, 12, 13, 18] (vs := []) (evs := []) (L' := [(0, .slice Aa0 a0.length ca0), (1, .int .i64 a1), (5, .int .i64 v_sum5), (6, .int .i64 v13), (7, .pointer (some ⟨g1, 0, none⟩)), (11, .slice Aa0 a0.length ca0), (12, .int .i64 (a0.length : Int)), (13, .int .i64 v13), (18, .bool (!y1))]) (by kernel_rfl) (by kernel_rfl) (fun _ _ => trivial) ?_
      refine RgH.done (by kernel_rfl) ?_
      rcases bool_cases (!y1) with hb4 | hb4
      · replace heq := bif_true hb4 heq
        refine RunH.condT (c := !y1) (by kernel_rfl) hb4 ?_
        refine RunH.adm 1 (es' := [.c [1, 1, 1, 0, 1, 0, 0, 1, 1, 0, 0, 1, 0, 0, 1, 0, 0], .c [1, 1, 1, 0, 1, 0, 0, 1, 1, 0, 0, 1, 0, 0, 1, 0, 1], .b 2, .c [1, 1, 1, 0, 1, 0, 0, 1, 1, 0, 0, 1, 1], .b 1, .c [1, 1, 1, 0, 1, 0, 0, 1, 1, 1], .l [1, 1, 1, 0, 1, 0, 0], .b 0, .c [1, 1, 1, 1]]) (by kernel_rfl) ?_
        refine RunH.reg (by kernel_rfl) ?_
        refine RgH.runk 1 [4] (vs := []) (evs := []) (L' := [(4, .int .i64 3)]) (by kernel_rfl) (by kernel_rfl) (fun _ _ => trivial) ?_
        refine RgH.done (by kernel_rfl) ?_
        obtain rfl := Option.some.inj heq
        refine RunH.pick 1 [] (cs' := F) (by kernel_rfl) rfl ?_
        exact RunH.done (by kernel_rfl) Tryd.func58 (v := .int .i64 3) (by kernel_rfl) ⟨rfl, rfl, rfl⟩
      · replace heq := bif_false hb4 heq
        refine RunH.condF (c := !y1) (by kernel_rfl) hb4 ?_
        refine RunH.adm 1 (es' := [.c [1, 1, 1, 0, 1, 0, 0, 1, 1, 0, 0, 1, 0, 0, 1, 1, 0], .c [1, 1, 1, 0, 1, 0, 0, 1, 1, 0, 0, 1, 0, 0, 1, 1, 1], .b 2, .c [1, 1, 1, 0, 1, 0, 0, 1, 1, 0, 0, 1, 1], .b 1, .c [1, 1, 1, 0, 1, 0, 0, 1, 1, 1], .l [1, 1, 1, 0, 1, 0, 0], .b 0, .c [1, 1, 1, 1]]) (by kernel_rfl) ?_
        obtain ⟨t1, ht1, heq⟩ := bind_some heq
        have K2 : RunH C58 (S58 F H r) H w0 [.c [1, 1, 1, 0, 1, 0, 0, 1, 1, 0, 0, 1, 0, 0, 1, 1, 1], .b 2, .c [1, 1, 1, 0, 1, 0, 0, 1, 1, 0, 0, 1, 1], .b 1, .c [1, 1, 1, 0, 1, 0, 0, 1, 1, 1], .l [1, 1, 1, 0, 1, 0, 0], .b 0, .c [1, 1, 1, 1]] [(0, .slice Aa0 a0.length ca0), (1, .int .i64 a1), (5, .int .i64 v_sum5), (6, .int .i64 v13), (7, .pointer (some ⟨g1, 0, none⟩)), (11, .slice Aa0 a0.length ca0), (12, .int .i64 (a0.length : Int)), (13, .int .i64 v13), (23, .bool t1)] H ((some (g1, .cells #[.string x1.Digest, .int .i64 x1.Size, .int .i64 x1.Used, .int .i64 x1.Until, .int .i64 x1.Pins] 47 (0, 0))) :: F) := by
          rcases bool_cases (t1) with hb8 | hb8
          · replace heq := bif_true hb8 heq
            refine RunH.condT (c := t1) (by kernel_rfl) hb8 ?_
            refine RunH.adm 1 (es' := [.c [1, 1, 1, 0, 1, 0, 0, 1, 1, 0, 0, 1, 0, 0, 1, 1, 1, 0, 0], .c [1, 1, 1, 0, 1, 0, 0, 1, 1, 0, 0, 1, 0, 0, 1, 1, 1, 0, 1], .b 2, .c [1, 1, 1, 0, 1, 0, 0, 1, 1, 0, 0, 1, 1], .b 1, .c [1, 1, 1, 0, 1, 0, 0, 1, 1, 1], .l [1, 1, 1, 0, 1, 0, 0], .b 0, .c [1, 1, 1, 1]]) (by kernel_rfl) ?_
            refine RunH.reg (by kernel_rfl) ?_
            refine RgH.runk 1 [4] (vs := []) (evs := []) (L' := [(4, .int .i64 1)]) (by kernel_rfl) (by kernel_rfl) (fun _ _ => trivial) ?_
            refine RgH.done (by kernel_rfl) ?_
            obtain rfl := Option.some.inj heq
            refine RunH.pick 1 [] (cs' := F) (by kernel_rfl) rfl ?_
            exact RunH.done (by kernel_rfl) Tryd.func58 (v := .int .i64 1) (by kernel_rfl) ⟨rfl, rfl, rfl⟩
          · replace heq := bif_false hb8 heq
            refine RunH.condF (c := t1) (by kernel_rfl) hb8 ?_
            refine RunH.adm 1 (es' := [.c [1, 1, 1, 0, 1, 0, 0, 1, 1, 0, 0, 1, 0, 0, 1, 1, 1, 1, 0], .c [1, 1, 1, 0, 1, 0, 0, 1, 1, 0, 0, 1, 0, 0, 1, 1, 1, 1, 1], .b 2, .c [1, 1, 1, 0, 1, 0, 0, 1, 1, 0, 0, 1, 1], .b 1, .c [1, 1, 1, 0, 1, 0, 0, 1, 1, 1], .l [1, 1, 1, 0, 1, 0, 0], .b 0, .c [1, 1, 1, 1]]) (by kernel_rfl) ?_
            obtain ⟨t2, ht2, heq⟩ := bind_some heq
            have K3 : RunH C58 (S58 F H r) H w0 [.c [1, 1, 1, 0, 1, 0, 0, 1, 1, 0, 0, 1, 0, 0, 1, 1, 1, 1, 1], .b 2, .c [1, 1, 1, 0, 1, 0, 0, 1, 1, 0, 0, 1, 1], .b 1, .c [1, 1, 1, 0, 1, 0, 0, 1, 1, 1], .l [1, 1, 1, 0, 1, 0, 0], .b 0, .c [1, 1, 1, 1]] [(0, .slice Aa0 a0.length ca0), (1, .int .i64 a1), (5, .int .i64 v_sum5), (7, .pointer (some ⟨g1, 0, none⟩)), (11, .slice Aa0 a0.length ca0), (12, .int .i64 (a0.length : Int)), (13, .int .i64 v13), (46, .bool t2)] H ((some (g1, .cells #[.string x1.Digest, .int .i64 x1.Size, .int .i64 x1.Used, .int .i64 x1.Until, .int .i64 x1.Pins] 47 (0, 0))) :: F) := by
              rcases bool_cases (t2) with hb10 | hb10
              · replace heq := bif_true hb10 heq
                refine RunH.condT (c := t2) (by kernel_rfl) hb10 ?_
                refine RunH.adm 1 (es' := [.c [1, 1, 1, 0, 1, 0, 0, 1, 1, 0, 0, 1, 0, 0, 1, 1, 1, 1, 1, 0, 0], .c [1, 1, 1, 0, 1, 0, 0, 1, 1, 0, 0, 1, 0, 0, 1, 1, 1, 1, 1, 0, 1], .b 2, .c [1, 1, 1, 0, 1, 0, 0, 1, 1, 0, 0, 1, 1], .b 1, .c [1, 1, 1, 0, 1, 0, 0, 1, 1, 1], .l [1, 1, 1, 0, 1, 0, 0], .b 0, .c [1, 1, 1, 1]]) (by kernel_rfl) ?_
                refine RunH.reg (by kernel_rfl) ?_
                refine RgH.runk 1 [4] (vs := []) (evs := []) (L' := [(4, .int .i64 8)]) (by kernel_rfl) (by kernel_rfl) (fun _ _ => trivial) ?_
                refine RgH.done (by kernel_rfl) ?_
                obtain rfl := Option.some.inj heq
                refine RunH.pick 1 [] (cs' := F) (by kernel_rfl) rfl ?_
                exact RunH.done (by kernel_rfl) Tryd.func58 (v := .int .i64 8) (by kernel_rfl) ⟨rfl, rfl, rfl⟩
              · replace heq := bif_false hb10 heq
                refine RunH.condF (c := t2) (by kernel_rfl) hb10 ?_
                refine RunH.adm 2 (es' := [.c [1, 1, 1, 0, 1, 0, 0, 1, 1, 0, 0, 1, 1], .b 1, .c [1, 1, 1, 0, 1, 0, 0, 1, 1, 1], .l [1, 1, 1, 0, 1, 0, 0], .b 0, .c [1, 1, 1, 1]]) (by kernel_rfl) ?_
                refine RunH.reg (by kernel_rfl) ?_
                refine RgH.runk 5 [0, 1, 5, 11, 12, 13] (vs := [.int .i64 x1.Size]) (evs := [.load ⟨g1, 1, none⟩ (.int .i64 x1.Size)]) (L' := [(0, .slice Aa0 a0.length ca0), (1, .int .i64 a1), (5, .int .i64 (w64 (v_sum5 + x1.Size))), (11, .slice Aa0 a0.length ca0), (12, .int .i64 (a0.length : Int)), (13, .int .i64 v13)]) (by kernel_rfl) (by kernel_rfl) (fun w hh => (hh.box 0 rfl rfl)) ?_
                refine RgH.done (by kernel_rfl) ?_
                refine RunH.adm 1 (es' := [.c [1, 1, 1, 0, 1, 0, 0, 1, 1, 1], .l [1, 1, 1, 0, 1, 0, 0], .b 0, .c [1, 1, 1, 1]]) (by kernel_rfl) ?_
                refine RunH.reg (by kernel_rfl) ?_
                refine RgH.runk 2 [0, 1, 5, 11, 12, 13] (vs := []) (evs := []) (L' := [(0, .slice Aa0 a0.length ca0), (1, .int .i64 a1), (5, .int .i64 (w64 (v_sum5 + x1.Size))), (11, .slice Aa0 a0.length ca0), (12, .int .i64 (a0.length : Int)), (13, .int .i64 (w64 (v13 + 1)))]) (by kernel_rfl) (by kernel_rfl) (fun _ _ => trivial) ?_
                refine RgH.done (by kernel_rfl) ?_
                refine RunH.adm 1 (es' := [.c [1, 1, 1, 0, 1, 0, 0], .l [1, 1, 1, 0, 1, 0, 0], .b 0, .c [1, 1, 1, 1]]) (by kernel_rfl) ?_
                refine RunH.keep [0, 1, 5, 11, 12, 13] (L' := [(0, .slice Aa0 a0.length ca0), (1, .int .i64 a1), (5, .int .i64 (w64 (v_sum5 + x1.Size))), (11, .slice Aa0 a0.length ca0), (12, .int .i64 (a0.length : Int)), (13, .int .i64 (w64 (v13 + 1)))]) (by kernel_rfl) ?_
                refine RunH.pick 1 [] (cs' := F) (by kernel_rfl) rfl ?_
                exact ihk a0 _ _ a1 (w64 (v_sum5 + x1.Size)) (w64 (v13 + 1)) hra0 hca0 heq
            replace heq := ht2
            refine RunH.keep [0, 1, 5, 6, 7, 11, 12, 13] (L' := [(0, .slice Aa0 a0.length ca0), (1, .int .i64 a1), (5, .int .i64 v_sum5), (6, .int .i64 v13), (7, .pointer (some ⟨g1, 0, none⟩)), (11, .slice Aa0 a0.length ca0), (12, .int .i64 (a0.length : Int)), (13, .int .i64 v13)]) (by kernel_rfl) ?_
            refine RunH.draw (fun w => Heap H w0 w ((some (g1, .cells #[.string x1.Digest, .int .i64 x1.Size, .int .i64 x1.Used, .int .i64 x1.Until, .int .i64 x1.Pins] 47 (0, 0))) :: F)) (fun w => Heap H w0 w ((some (g1, .cells #[.string x1.Digest, .int .i64 x1.Size, .int .i64 x1.Used, .int .i64 x1.Until, .int .i64 x1.Pins] 47 (0, 0))) :: F)) [false, false, false, false, false, false, false, false, false, false, false, false, false, false] (n := 14) (ls := [false, false, false, false, false, false, false, false, false, false, false, false, false, false]) (by kernel_rfl) (by kernel_rfl) (by kernel_rfl) rfl ?_
            refine DrH.run [0, 1, 2] (m := 11) (ls' := [true, true, true, false, false, false, false, false, false, false, false, false, false, false]) (vs := []) (evs := []) (L' := [(49, .bool (decide (0 < v13))), (48, .bool (decide (0 < v13))), (47, .int .i64 v13), (0, .slice Aa0 a0.length ca0), (1, .int .i64 a1), (5, .int .i64 v_sum5), (6, .int .i64 v13), (7, .pointer (some ⟨g1, 0, none⟩)), (11, .slice Aa0 a0.length ca0), (12, .int .i64 (a0.length : Int)), (13, .int .i64 v13)]) (by kernel_rfl) (fun w hh => hh.pick 1 [0] (by kernel_rfl)) (fun w hh => hh.pick 1 [0] (by kernel_rfl)) (by kernel_rfl) (fun _ _ => trivial) (by kernel_rfl) ?_
            refine DrH.keep [49, 0, 1, 5, 6, 7, 11, 12, 13] (L' := [(49, .bool (decide (0 < v13))), (0, .slice Aa0 a0.length ca0), (1, .int .i64 a1), (5, .int .i64 v_sum5), (6, .int .i64 v13), (7, .pointer (some ⟨g1, 0, none⟩)), (11, .slice Aa0 a0.length ca0), (12, .int .i64 (a0.length : Int)), (13, .int .i64 v13)]) (by kernel_rfl) ?_
            rcases bool_cases (decide (0 < v13)) with hb9 | hb9
            · replace heq := bif_true hb9 heq
              refine DrH.val1 (v' := .bool true) (congrArg Value.bool hb9) ?_
              obtain ⟨x2, hx2, heq⟩ := bind_some heq
              obtain ⟨ha2, cs2, hK2, hcc2⟩ := hra0.get hx2
              obtain ⟨rfl⟩ := kBlob_open hK2
              refine DrH.run [3, 4, 5, 6, 7, 8, 9, 10, 11, 12, 13] (m := 0) (ls' := [true, true, true, true, true, true, true, true, true, true, true, true, true, true]) (vs := [.string x1.Digest, .string x2.Digest]) (evs := [.load ⟨g1, 0, none⟩ (.string x1.Digest), .need (Aa0 = some (adr Aa0) ∧ (0 : Int) ≤ (w64 (v13 - 1)) ∧ (w64 (v13 - 1)) < ((a0.length : Nat) : Int)), .load (((adr Aa0).add ((w64 (v13 - 1)).toNat * 5)).add 0) (.string x2.Digest)]) (L' := [(46, .bool (sLt x1.Digest x2.Digest || sEq x1.Digest x2.Digest)), (59, .bool (sLt x1.Digest x2.Digest || sEq x1.Digest x2.Digest)), (58, .bool (sLt x1.Digest x2.Digest || sEq x1.Digest x2.Digest)), (57, .string x2.Digest), (56, .pointer (some (((adr Aa0).add ((w64 (v13 - 1)).toNat * 5)).add 0))), (55, .pointer (some ((adr Aa0).add ((w64 (v13 - 1)).toNat * 5)))), (54, .int .i64 (w64 (v13 - 1))), (53, .int .i64 v13), (52, .slice Aa0 a0.length ca0), (51, .string x1.Digest), (50, .pointer (some ⟨g1, 0, none⟩)), (49, .bool true), (0, .slice Aa0 a0.length ca0), (1, .int .i64 a1), (5, .int .i64 v_sum5), (6, .int .i64 v13), (7, .pointer (some ⟨g1, 0, none⟩)), (11, .slice Aa0 a0.length ca0), (12, .int .i64 (a0.length : Int)), (13, .int .i64 v13)]) (by kernel_rfl) (fun w hh => hh.pick 1 [0] (by kernel_rfl)) (fun w hh => hh.pick 1 [0] (by kernel_rfl)) (by kernel_rfl) (fun w hh => ⟨(hh.box 0 rfl rfl), ⟨ha2, (at?_some hx2).1, (at?_some hx2).2.1⟩, (hcc2 _ _ (hh.drop 1) 0 _ rfl)⟩) (by kernel_rfl) ?_
              refine DrH.keep [0, 1, 5, 7, 11, 12, 13, 46] (L' := [(0, .slice Aa0 a0.length ca0), (1, .int .i64 a1), (5, .int .i64 v_sum5), (7, .pointer (some ⟨g1, 0, none⟩)), (11, .slice Aa0 a0.length ca0), (12, .int .i64 (a0.length : Int)), (13, .int .i64 v13), (46, .bool (sLt x1.Digest x2.Digest || sEq x1.Digest x2.Digest))]) (by kernel_rfl) ?_
              obtain rfl := Option.some.inj heq
              refine DrH.keep [0, 1, 5, 7, 11, 12, 13, 46] (L' := [(0, .slice Aa0 a0.length ca0), (1, .int .i64 a1), (5, .int .i64 v_sum5), (7, .pointer (some ⟨g1, 0, none⟩)), (11, .slice Aa0 a0.length ca0), (12, .int .i64 (a0.length : Int)), (13, .int .i64 v13), (46, .bool (sLt x1.Digest x2.Digest || sEq x1.Digest x2.Digest))]) (by kernel_rfl) ?_
              refine DrH.done (by kernel_rfl) ?_
              exact K3
            · replace heq := bif_false hb9 heq
              refine DrH.val1 (v' := .bool false) (congrArg Value.bool hb9) ?_
              refine DrH.run [3, 4, 5, 6, 7, 8, 9, 10, 11, 12, 13] (m := 0) (ls' := [true, true, true, true, true, true, true, true, true, true, true, true, true, true]) (vs := []) (evs := []) (L' := [(46, .bool false), (59, .bool false), (58, undef), (57, undef), (56, undef), (55, undef), (54, undef), (53, undef), (52, undef), (51, undef), (50, undef), (49, .bool false), (0, .slice Aa0 a0.length ca0), (1, .int .i64 a1), (5, .int .i64 v_sum5), (6, .int .i64 v13), (7, .pointer (some ⟨g1, 0, none⟩)), (11, .slice Aa0 a0.length ca0), (12, .int .i64 (a0.length : Int)), (13, .int .i64 v13)]) (by kernel_rfl) (fun w hh => hh.pick 1 [0] (by kernel_rfl)) (fun w hh => hh.pick 1 [0] (by kernel_rfl)) (by kernel_rfl) (fun _ _ => trivial) (by kernel_rfl) ?_
              refine DrH.keep [0, 1, 5, 7, 11, 12, 13, 46] (L' := [(0, .slice Aa0 a0.length ca0), (1, .int .i64 a1), (5, .int .i64 v_sum5), (7, .pointer (some ⟨g1, 0, none⟩)), (11, .slice Aa0 a0.length ca0), (12, .int .i64 (a0.length : Int)), (13, .int .i64 v13), (46, .bool false)]) (by kernel_rfl) ?_
              obtain rfl := Option.some.inj heq
              refine DrH.keep [0, 1, 5, 7, 11, 12, 13, 46] (L' := [(0, .slice Aa0 a0.length ca0), (1, .int .i64 a1), (5, .int .i64 v_sum5), (7, .pointer (some ⟨g1, 0, none⟩)), (11, .slice Aa0 a0.length ca0), (12, .int .i64 (a0.length : Int)), (13, .int .i64 v13), (46, .bool false)]) (by kernel_rfl) ?_
              refine DrH.done (by kernel_rfl) ?_
              exact K3
        replace heq := ht1
        refine RunH.reg (by kernel_rfl) ?_
        refine RgH.runk 2 [0, 1, 5, 6, 7, 11, 12, 13, 25] (vs := [.int .i64 x1.Size]) (evs := [.load ⟨g1, 1, none⟩ (.int .i64 x1.Size)]) (L' := [(0, .slice Aa0 a0.length ca0), (1, .int .i64 a1), (5, .int .i64 v_sum5), (6, .int .i64 v13), (7, .pointer (some ⟨g1, 0, none⟩)), (11, .slice Aa0 a0.length ca0), (12, .int .i64 (a0.length : Int)), (13, .int .i64 v13), (25, .int .i64 x1.Size)]) (by kernel_rfl) (by kernel_rfl) (fun w hh => (hh.box 0 rfl rfl)) ?_
        obtain ⟨y2, hy2, heq⟩ := bind_some heq
        refine RgH.does (DoesH.call (d := 26) (g := 57) (args := #[.int .i64 x1.Size, .int .i64 0, .int .i64 100000000]) (by kernel_rfl) (cache_within_c (a0 := x1.Size) (a1 := 0) (a2 := 100000000)  hy2)) ?_
        rintro _ _ _ _ ⟨_, rfl, rfl, rfl, rfl⟩
        refine RgH.runk 5 [28, 0, 1, 5, 6, 7, 11, 12, 13] (vs := []) (evs := []) (L' := [(28, .bool (!y2)), (0, .slice Aa0 a0.length ca0), (1, .int .i64 a1), (5, .int .i64 v_sum5), (6, .int .i64 v13), (7, .pointer (some ⟨g1, 0, none⟩)), (11, .slice Aa0 a0.length ca0), (12, .int .i64 (a0.length : Int)), (13, .int .i64 v13)]) (by kernel_rfl) (by kernel_rfl) (fun _ _ => trivial) ?_
        rcases bool_cases (!y2) with hb5 | hb5
        · replace heq := bif_true hb5 heq
          refine RgH.val1 (v' := .bool true) (congrArg Value.bool hb5) ?_
          refine RgH.runk 23 [0, 1, 5, 6, 7, 11, 12, 13, 23] (vs := []) (evs := []) (L' := [(0, .slice Aa0 a0.length ca0), (1, .int .i64 a1), (5, .int .i64 v_sum5), (6, .int .i64 v13), (7, .pointer (some ⟨g1, 0, none⟩)), (11, .slice Aa0 a0.length ca0), (12, .int .i64 (a0.length : Int)), (13, .int .i64 v13), (23, .bool true)]) (by kernel_rfl) (by kernel_rfl) (fun _ _ => trivial) ?_
          obtain rfl := Option.some.inj heq
          refine RgH.keep [0, 1, 5, 6, 7, 11, 12, 13, 23] (L' := [(0, .slice Aa0 a0.length ca0), (1, .int .i64 a1), (5, .int .i64 v_sum5), (6, .int .i64 v13), (7, .pointer (some ⟨g1, 0, none⟩)), (11, .slice Aa0 a0.length ca0), (12, .int .i64 (a0.length : Int)), (13, .int .i64 v13), (23, .bool true)]) (by kernel_rfl) ?_
          refine RgH.done (by kernel_rfl) ?_
          exact K2
        · replace heq := bif_false hb5 heq
          refine RgH.val1 (v' := .bool false) (congrArg Value.bool hb5) ?_
          refine RgH.runk 7 [0, 1, 5, 6, 7, 11, 12, 13, 28, 30] (vs := [.int .i64 x1.Used]) (evs := [.load ⟨g1, 2, none⟩ (.int .i64 x1.Used)]) (L' := [(0, .slice Aa0 a0.length ca0), (1, .int .i64 a1), (5, .int .i64 v_sum5), (6, .int .i64 v13), (7, .pointer (some ⟨g1, 0, none⟩)), (11, .slice Aa0 a0.length ca0), (12, .int .i64 (a0.length : Int)), (13, .int .i64 v13), (28, .bool false), (30, .int .i64 x1.Used)]) (by kernel_rfl) (by kernel_rfl) (fun w hh => (hh.box 0 rfl rfl)) ?_
          obtain ⟨y3, hy3, heq⟩ := bind_some heq
          refine RgH.does (DoesH.call (d := 31) (g := 61) (args := #[.int .i64 x1.Used]) (by kernel_rfl) (cache_isMoment_c (a0 := x1.Used)  hy3)) ?_
          rintro _ _ _ _ ⟨_, rfl, rfl, rfl, rfl⟩
          refine RgH.runk 11 [34, 0, 1, 5, 6, 7, 11, 12, 13] (vs := []) (evs := []) (L' := [(34, .bool (!y3)), (0, .slice Aa0 a0.length ca0), (1, .int .i64 a1), (5, .int .i64 v_sum5), (6, .int .i64 v13), (7, .pointer (some ⟨g1, 0, none⟩)), (11, .slice Aa0 a0.length ca0), (12, .int .i64 (a0.length : Int)), (13, .int .i64 v13)]) (by kernel_rfl) (by kernel_rfl) (fun _ _ => trivial) ?_
          rcases bool_cases (!y3) with hb6 | hb6
          · replace heq := bif_true hb6 heq
            refine RgH.val1 (v' := .bool true) (congrArg Value.bool hb6) ?_
            refine RgH.runk 23 [0, 1, 5, 6, 7, 11, 12, 13, 23] (vs := []) (evs := []) (L' := [(0, .slice Aa0 a0.length ca0), (1, .int .i64 a1), (5, .int .i64 v_sum5), (6, .int .i64 v13), (7, .pointer (some ⟨g1, 0, none⟩)), (11, .slice Aa0 a0.length ca0), (12, .int .i64 (a0.length : Int)), (13, .int .i64 v13), (23, .bool true)]) (by kernel_rfl) (by kernel_rfl) (fun _ _ => trivial) ?_
            obtain rfl := Option.some.inj heq
            refine RgH.keep [0, 1, 5, 6, 7, 11, 12, 13, 23] (L' := [(0, .slice Aa0 a0.length ca0), (1, .int .i64 a1), (5, .int .i64 v_sum5), (6, .int .i64 v13), (7, .pointer (some ⟨g1, 0, none⟩)), (11, .slice Aa0 a0.length ca0), (12, .int .i64 (a0.length : Int)), (13, .int .i64 v13), (23, .bool true)]) (by kernel_rfl) ?_
            refine RgH.done (by kernel_rfl) ?_
            exact K2
          · replace heq := bif_false hb6 heq
            refine RgH.val1 (v' := .bool false) (congrArg Value.bool hb6) ?_
            refine RgH.runk 13 [0, 1, 5, 6, 7, 11, 12, 13, 34, 36] (vs := [.int .i64 x1.Until]) (evs := [.load ⟨g1, 3, none⟩ (.int .i64 x1.Until)]) (L' := [(0, .slice Aa0 a0.length ca0), (1, .int .i64 a1), (5, .int .i64 v_sum5), (6, .int .i64 v13), (7, .pointer (some ⟨g1, 0, none⟩)), (11, .slice Aa0 a0.length ca0), (12, .int .i64 (a0.length : Int)), (13, .int .i64 v13), (34, .bool false), (36, .int .i64 x1.Until)]) (by kernel_rfl) (by kernel_rfl) (fun w hh => (hh.box 0 rfl rfl)) ?_
            obtain ⟨y4, hy4, heq⟩ := bind_some heq
            refine RgH.does (DoesH.call (d := 37) (g := 57) (args := #[.int .i64 x1.Until, .int .i64 0, .int .i64 1001000000]) (by kernel_rfl) (cache_within_c (a0 := x1.Until) (a1 := 0) (a2 := 1001000000)  hy4)) ?_
            rintro _ _ _ _ ⟨_, rfl, rfl, rfl, rfl⟩
            refine RgH.runk 17 [40, 0, 1, 5, 6, 7, 11, 12, 13] (vs := []) (evs := []) (L' := [(40, .bool (!y4)), (0, .slice Aa0 a0.length ca0), (1, .int .i64 a1), (5, .int .i64 v_sum5), (6, .int .i64 v13), (7, .pointer (some ⟨g1, 0, none⟩)), (11, .slice Aa0 a0.length ca0), (12, .int .i64 (a0.length : Int)), (13, .int .i64 v13)]) (by kernel_rfl) (by kernel_rfl) (fun _ _ => trivial) ?_
            rcases bool_cases (!y4) with hb7 | hb7
            · replace heq := bif_true hb7 heq
              refine RgH.val1 (v' := .bool true) (congrArg Value.bool hb7) ?_
              refine RgH.runk 23 [0, 1, 5, 6, 7, 11, 12, 13, 23] (vs := []) (evs := []) (L' := [(0, .slice Aa0 a0.length ca0), (1, .int .i64 a1), (5, .int .i64 v_sum5), (6, .int .i64 v13), (7, .pointer (some ⟨g1, 0, none⟩)), (11, .slice Aa0 a0.length ca0), (12, .int .i64 (a0.length : Int)), (13, .int .i64 v13), (23, .bool true)]) (by kernel_rfl) (by kernel_rfl) (fun _ _ => trivial) ?_
              obtain rfl := Option.some.inj heq
              refine RgH.keep [0, 1, 5, 6, 7, 11, 12, 13, 23] (L' := [(0, .slice Aa0 a0.length ca0), (1, .int .i64 a1), (5, .int .i64 v_sum5), (6, .int .i64 v13), (7, .pointer (some ⟨g1, 0, none⟩)), (11, .slice Aa0 a0.length ca0), (12, .int .i64 (a0.length : Int)), (13, .int .i64 v13), (23, .bool true)]) (by kernel_rfl) ?_
              refine RgH.done (by kernel_rfl) ?_
              exact K2
            · replace heq := bif_false hb7 heq
              refine RgH.val1 (v' := .bool false) (congrArg Value.bool hb7) ?_
              refine RgH.runk 19 [0, 1, 5, 6, 7, 11, 12, 13, 40, 42] (vs := [.int .i64 x1.Pins]) (evs := [.load ⟨g1, 4, none⟩ (.int .i64 x1.Pins)]) (L' := [(0, .slice Aa0 a0.length ca0), (1, .int .i64 a1), (5, .int .i64 v_sum5), (6, .int .i64 v13), (7, .pointer (some ⟨g1, 0, none⟩)), (11, .slice Aa0 a0.length ca0), (12, .int .i64 (a0.length : Int)), (13, .int .i64 v13), (40, .bool false), (42, .int .i64 x1.Pins)]) (by kernel_rfl) (by kernel_rfl) (fun w hh => (hh.box 0 rfl rfl)) ?_
              obtain ⟨y5, hy5, heq⟩ := bind_some heq
              refine RgH.does (DoesH.call (d := 43) (g := 57) (args := #[.int .i64 x1.Pins, .int .i64 0, .int .i64 3000]) (by kernel_rfl) (cache_within_c (a0 := x1.Pins) (a1 := 0) (a2 := 3000)  hy5)) ?_
              rintro _ _ _ _ ⟨_, rfl, rfl, rfl, rfl⟩
              refine RgH.runk 23 [0, 1, 5, 6, 7, 11, 12, 13, 23] (vs := []) (evs := []) (L' := [(0, .slice Aa0 a0.length ca0), (1, .int .i64 a1), (5, .int .i64 v_sum5), (6, .int .i64 v13), (7, .pointer (some ⟨g1, 0, none⟩)), (11, .slice Aa0 a0.length ca0), (12, .int .i64 (a0.length : Int)), (13, .int .i64 v13), (23, .bool (!y5))]) (by kernel_rfl) (by kernel_rfl) (fun _ _ => trivial) ?_
              obtain rfl := Option.some.inj heq
              refine RgH.keep [0, 1, 5, 6, 7, 11, 12, 13, 23] (L' := [(0, .slice Aa0 a0.length ca0), (1, .int .i64 a1), (5, .int .i64 v_sum5), (6, .int .i64 v13), (7, .pointer (some ⟨g1, 0, none⟩)), (11, .slice Aa0 a0.length ca0), (12, .int .i64 (a0.length : Int)), (13, .int .i64 v13), (23, .bool (!y5))]) (by kernel_rfl) ?_
              refine RgH.done (by kernel_rfl) ?_
              exact K2
    · replace heq := bif_false hb3 heq
      refine RunH.condF (c := decide (v13 < (a0.length : Int))) (by kernel_rfl) hb3 ?_
      refine RunH.adm 3 (es' := [.c [1, 1, 1, 1, 0, 0], .c [1, 1, 1, 1, 0, 1], .c [1, 1, 1, 1, 1]]) (by kernel_rfl) ?_
      refine RunH.keep [1, 5] (L' := [(1, .int .i64 a1), (5, .int .i64 v_sum5)]) (by kernel_rfl) ?_
      exact he1 a1 v_sum5 heq
theorem cache_checkBlobs_c {w0 : World} {H : Hp} {F : List Ch} {a0 : List Blob} {Aa0 : Option Addr} {na0 : Nat} {ca0 : Nat} {a1 : Int} {r : Int} (hra0 : Rw kBlob H F Aa0 a0) (hca0 : na0 ≤ ca0) (hna0 : na0 = a0.length) (heq : cache_checkBlobs.f a0 a1 = some r) : CallsH Tryd.prog 58 #[.slice Aa0 na0 ca0, .int .i64 a1] H w0 (F) (S58 F H r) := by
  refine calls_of_runH (F := C58) Tryd.func58 (by kernel_rfl) Tryd.ntmps58 (args := [.slice Aa0 na0 ca0, .int .i64 a1]) (by kernel_rfl) ?_
  subst hna0
  unfold cache_checkBlobs.f at heq
  refine RunH.adm 1 (es' := [.c [0], .c [1]]) (by kernel_rfl) ?_
  refine RunH.reg (by kernel_rfl) ?_
  refine RgH.runk 1 [0, 1] (vs := []) (evs := []) (L' := [(0, .slice Aa0 a0.length ca0), (1, .int .i64 a1)]) (by kernel_rfl) (by kernel_rfl) (fun _ _ => trivial) ?_
  refine RgH.done (by kernel_rfl) ?_
  refine RunH.adm 2 (es' := [.c [1, 0, 0], .c [1, 0, 1], .c [1, 1]]) (by kernel_rfl) ?_
  refine RunH.reg (by kernel_rfl) ?_
  refine RgH.runk 3 [0, 1, 10] (vs := []) (evs := []) (L' := [(0, .slice Aa0 a0.length ca0), (1, .int .i64 a1), (10, .bool (decide (3000 < (a0.length : Int))))]) (by kernel_rfl) (by kernel_rfl) (fun _ _ => trivial) ?_
  refine RgH.done (by kernel_rfl) ?_
  rcases bool_cases (decide (3000 < (a0.length : Int))) with hb1 | hb1
  · replace heq := bif_true hb1 heq
    refine RunH.condT (c := decide (3000 < (a0.length : Int))) (by kernel_rfl) hb1 ?_
    refine RunH.adm 1 (es' := [.c [1, 0, 1, 0, 0], .c [1, 0, 1, 0, 1], .c [1, 1]]) (by kernel_rfl) ?_
    refine RunH.reg (by kernel_rfl) ?_
    refine RgH.runk 1 [4] (vs := []) (evs := []) (L' := [(4, .int .i64 2)]) (by kernel_rfl) (by kernel_rfl) (fun _ _ => trivial) ?_
    refine RgH.done (by kernel_rfl) ?_
    obtain rfl := Option.some.inj heq
    exact RunH.done (by kernel_rfl) Tryd.func58 (v := .int .i64 2) (by kernel_rfl) ⟨rfl, rfl, rfl⟩
  · replace heq := bif_false hb1 heq
    refine RunH.condF (c := decide (3000 < (a0.length : Int))) (by kernel_rfl) hb1 ?_
    refine RunH.adm 2 (es' := [.c [1, 1, 0], .c [1, 1, 1]]) (by kernel_rfl) ?_
    refine RunH.reg (by kernel_rfl) ?_
    refine RgH.runk 1 [0, 1, 5] (vs := []) (evs := []) (L' := [(0, .slice Aa0 a0.length ca0), (1, .int .i64 a1), (5, .int .i64 0)]) (by kernel_rfl) (by kernel_rfl) (fun _ _ => trivial) ?_
    refine RgH.done (by kernel_rfl) ?_
    refine RunH.adm 2 (es' := [.c [1, 1, 1, 0, 0], .c [1, 1, 1, 0, 1], .c [1, 1, 1, 1]]) (by kernel_rfl) ?_
    refine RunH.reg (by kernel_rfl) ?_
    refine RgH.runk 3 [0, 1, 5, 11, 12, 13] (vs := []) (evs := []) (L' := [(0, .slice Aa0 a0.length ca0), (1, .int .i64 a1), (5, .int .i64 0), (11, .slice Aa0 a0.length ca0), (12, .int .i64 (a0.length : Int)), (13, .int .i64 0)]) (by kernel_rfl) (by kernel_rfl) (fun _ _ => trivial) ?_
    refine RgH.done (by kernel_rfl) ?_
    refine RunH.adm 2 (es' := [.c [1, 1, 1, 0, 1, 0, 0], .l [1, 1, 1, 0, 1, 0, 0], .b 0, .c [1, 1, 1, 1]]) (by kernel_rfl) ?_
    refine RunH.keep [0, 1, 5, 11, 12, 13] (L' := [(0, .slice Aa0 a0.length ca0), (1, .int .i64 a1), (5, .int .i64 0), (11, .slice Aa0 a0.length ca0), (12, .int .i64 (a0.length : Int)), (13, .int .i64 0)]) (by kernel_rfl) ?_
    exact ((cache_checkBlobs.l2_c (e1 := cache_checkBlobs.e1) (cache_checkBlobs.e1_c)) big) a0 _ _ a1 0 0 hra0 hca0 heq
noncomputable def C60 : Ctx := { P := Tryd.prog, f := 60, N := 33, c := bodyOf Tryd.f60 }
def S60 (F : List Ch) (H0 : Hp) (r : Int) (v : Value) (H : Hp) (cs : List Ch) : Prop := H0 = H ∧ v = .int .i64 r ∧ F = cs
theorem cache_checkDigests.e1_c {w0 : World} {H : Hp} {F : List Ch} {r : Int} : cache_checkDigests.e1 = some r → RunH C60 (S60 F H r) H w0 [.c [1, 1, 1, 0], .c [1, 1, 1, 1]] [] H (F) := by
  intro   heq
  unfold cache_checkDigests.e1 at heq
  refine RunH.reg (by kernel_rfl) ?_
  refine RgH.runk 1 [4] (vs := []) (evs := []) (L' := [(4, .int .i64 0)]) (by kernel_rfl) (by kernel_rfl) (fun _ _ => trivial) ?_
  refine RgH.done (by kernel_rfl) ?_
  obtain rfl := Option.some.inj heq
  exact RunH.done (by kernel_rfl) Tryd.func60 (v := .int .i64 0) (by kernel_rfl) ⟨rfl, rfl, rfl⟩
theorem cache_checkDigests.l2_c {w0 : World} {H : Hp} {F : List Ch} {r : Int} (e1 : Option Int)
    (he1 : e1 = some r → RunH C60 (S60 F H r) H w0 [.c [1, 1, 1, 0], .c [1, 1, 1, 1]] [] H (F)) : ∀ (k : Nat), ∀ (a0 : List ByteArray) (Aa0 : Option Addr) (ca0 : Nat) (v13 : Int) , Rw Kd.string H F Aa0 a0 → a0.length ≤ ca0 → cache_checkDigests.l2 e1 k a0 v13 = some r → RunH C60 (S60 F H r) H w0 [.c [1, 1, 0, 1, 0, 0], .l [1, 1, 0, 1, 0, 0], .b 0, .c [1, 1, 1]] [(0, .slice Aa0 a0.length ca0), (11, .slice Aa0 a0.length ca0), (12, .int .i64 (a0.length : Int)), (13, .int .i64 v13)] H (F) := by
  intro k
  induction k with
  | zero => intro a0 Aa0 ca0 v13 hra0 hca0 heq; exact nomatch (show (none : Option Int) = some r from heq)
  | succ k ihk =>
    intro a0 Aa0 ca0 v13 hra0 hca0 heq
    rw [cache_checkDigests.l2] at heq
    refine RunH.adm 1 (es' := [.c [1, 1, 0, 1, 0, 0, 0], .c [1, 1, 0, 1, 0, 0, 1], .l [1, 1, 0, 1, 0, 0], .b 0, .c [1, 1, 1]]) (by kernel_rfl) ?_
    refine RunH.reg (by kernel_rfl) ?_
    refine RgH.runk 1 [0, 11, 12, 13, 14] (vs := []) (evs := []) (L' := [(0, .slice Aa0 a0.length ca0), (11, .slice Aa0 a0.length ca0), (12, .int .i64 (a0.length : Int)), (13, .int .i64 v13), (14, .bool (decide (v13 < (a0.length : Int))))]) (by kernel_rfl) (by kernel_rfl) (fun _ _ => trivial) ?_
    refine RgH.done (by kernel_rfl) ?_
    refine RunH.adm 1 (es' := [.c [1, 1, 0, 1, 0, 0, 1, 0], .c [1, 1, 0, 1, 0, 0, 1, 1], .l [1, 1, 0, 1, 0, 0], .b 0, .c [1, 1, 1]]) (by kernel_rfl) ?_
    rcases bool_cases (decide (v13 < (a0.length : Int))) with hb2 | hb2
    · replace heq := bif_true hb2 heq
      refine RunH.condT (c := decide (v13 < (a0.length : Int))) (by kernel_rfl) hb2 ?_
      refine RunH.adm 4 (es' := [.c [1, 1, 0, 1, 0, 0, 1, 1, 0, 0, 0], .c [1, 1, 0, 1, 0, 0, 1, 1, 0, 0, 1], .b 1, .c [1, 1, 0, 1, 0, 0, 1, 1, 1], .l [1, 1, 0, 1, 0, 0], .b 0, .c [1, 1, 1]]) (by kernel_rfl) ?_
      refine RunH.reg (by kernel_rfl) ?_
      obtain ⟨x1, hx1, heq⟩ := bind_some heq
      obtain ⟨ha1, cs1, hK1, hcc1⟩ := hra0.get hx1
      obtain rfl : cs1 = [.string x1] := hK1
      refine RgH.runk 5 [0, 5, 6, 11, 12, 13] (vs := [.string x1]) (evs := [.need (Aa0 = some (adr Aa0) ∧ (0 : Int) ≤ v13 ∧ v13 < ((a0.length : Nat) : Int)), .load ((adr Aa0).add (v13.toNat * 1)) (.string x1)]) (L' := [(0, .slice Aa0 a0.length ca0), (5, .int .i64 v13), (6, .string x1), (11, .slice Aa0 a0.length ca0), (12, .int .i64 (a0.length : Int)), (13, .int .i64 v13)]) (by kernel_rfl) (by kernel_rfl) (fun w hh => ⟨⟨ha1, (at?_some hx1).1, (at?_some hx1).2.1⟩, (hcc1 _ _ (hh.drop 0) 0 _ rfl)⟩) ?_
      refine RgH.done (by kernel_rfl) ?_
      refine RunH.adm 2 (es' := [.c [1, 1, 0, 1, 0, 0, 1, 1, 0, 0, 1, 0, 0], .c [1, 1, 0, 1, 0, 0, 1, 1, 0, 0, 1, 0, 1], .c [1, 1, 0, 1, 0, 0, 1, 1, 0, 0, 1, 1], .b 1, .c [1, 1, 0, 1, 0, 0, 1, 1, 1], .l [1, 1, 0, 1, 0, 0], .b 0, .c [1, 1, 1]]) (by kernel_rfl) ?_
      refine RunH.reg (by kernel_rfl) ?_
      refine RgH.runk 1 [0, 5, 6, 11, 12, 13, 18] (vs := []) (evs := []) (L' := [(0, .slice Aa0 a0.length ca0), (5, .int .i64 v13), (6, .string x1), (11, .slice Aa0 a0.length ca0), (12, .int .i64 (a0.length : Int)), (13, .int .i64 v13), (18, .string x1)]) (by kernel_rfl) (by kernel_rfl) (fun _ _ => trivial) ?_
      obtain ⟨y1, hy1, heq⟩ := bind_some heq
      refine RgH.does (DoesH.call (d := 19) (g := 59) (args := #[.string x1]) (by kernel_rfl) (blob_IsDigest_c (a0 := x1)  hy1)) ?_
      rintro _ _ _ _ ⟨_, rfl, rfl, rfl, rfl⟩
      refine RgH.runk 3 [0, 5, 6, 11, 12, 13, 20] (vs := []) (evs := []) (L' := [(0, .slice Aa0 a0.length ca0), (5, .int .i64 v13), (6, .string x1), (11, .slice Aa0 a0.length ca0), (12, .int .i64 (a0.length : Int)), (13, .int .i64 v13), (20, .bool (!y1))]) (by kernel_rfl) (by kernel_rfl) (fun _ _ => trivial) ?_
      refine RgH.done (by kernel_rfl) ?_
      rcases bool_cases (!y1) with hb3 | hb3
      · replace heq := bif_true hb3 heq
        refine RunH.condT (c := !y1) (by kernel_rfl) hb3 ?_
        refine RunH.adm 1 (es' := [.c [1, 1, 0, 1, 0, 0, 1, 1, 0, 0, 1, 0, 1, 0, 0], .c [1, 1, 0, 1, 0, 0, 1, 1, 0, 0, 1, 0, 1, 0, 1], .c [1, 1, 0, 1, 0, 0, 1, 1, 0, 0, 1, 1], .b 1, .c [1, 1, 0, 1, 0, 0, 1, 1, 1], .l [1, 1, 0, 1, 0, 0], .b 0, .c [1, 1, 1]]) (by kernel_rfl) ?_
        refine RunH.reg (by kernel_rfl) ?_
        refine RgH.runk 1 [4] (vs := []) (evs := []) (L' := [(4, .int .i64 3)]) (by kernel_rfl) (by kernel_rfl) (fun _ _ => trivial) ?_
        refine RgH.done (by kernel_rfl) ?_
        obtain rfl := Option.some.inj heq
        exact RunH.done (by kernel_rfl) Tryd.func60 (v := .int .i64 3) (by kernel_rfl) ⟨rfl, rfl, rfl⟩
      · replace heq := bif_false hb3 heq
        refine RunH.condF (c := !y1) (by kernel_rfl) hb3 ?_
        refine RunH.adm 2 (es' := [.c [1, 1, 0, 1, 0, 0, 1, 1, 0, 0, 1, 1, 0], .c [1, 1, 0, 1, 0, 0, 1, 1, 0, 0, 1, 1, 1], .b 1, .c [1, 1, 0, 1, 0, 0, 1, 1, 1], .l [1, 1, 0, 1, 0, 0], .b 0, .c [1, 1, 1]]) (by kernel_rfl) ?_
        obtain ⟨t1, ht1, heq⟩ := bind_some heq
        have K1 : RunH C60 (S60 F H r) H w0 [.c [1, 1, 0, 1, 0, 0, 1, 1, 0, 0, 1, 1, 1], .b 1, .c [1, 1, 0, 1, 0, 0, 1, 1, 1], .l [1, 1, 0, 1, 0, 0], .b 0, .c [1, 1, 1]] [(0, .slice Aa0 a0.length ca0), (11, .slice Aa0 a0.length ca0), (12, .int .i64 (a0.length : Int)), (13, .int .i64 v13), (31, .bool t1)] H (F) := by
          rcases bool_cases (t1) with hb5 | hb5
          · replace heq := bif_true hb5 heq
            refine RunH.condT (c := t1) (by kernel_rfl) hb5 ?_
            refine RunH.adm 1 (es' := [.c [1, 1, 0, 1, 0, 0, 1, 1, 0, 0, 1, 1, 1, 0, 0], .c [1, 1, 0, 1, 0, 0, 1, 1, 0, 0, 1, 1, 1, 0, 1], .b 1, .c [1, 1, 0, 1, 0, 0, 1, 1, 1], .l [1, 1, 0, 1, 0, 0], .b 0, .c [1, 1, 1]]) (by kernel_rfl) ?_
            refine RunH.reg (by kernel_rfl) ?_
            refine RgH.runk 1 [4] (vs := []) (evs := []) (L' := [(4, .int .i64 8)]) (by kernel_rfl) (by kernel_rfl) (fun _ _ => trivial) ?_
            refine RgH.done (by kernel_rfl) ?_
            obtain rfl := Option.some.inj heq
            exact RunH.done (by kernel_rfl) Tryd.func60 (v := .int .i64 8) (by kernel_rfl) ⟨rfl, rfl, rfl⟩
          · replace heq := bif_false hb5 heq
            refine RunH.condF (c := t1) (by kernel_rfl) hb5 ?_
            refine RunH.adm 2 (es' := [.c [1, 1, 0, 1, 0, 0, 1, 1, 1], .l [1, 1, 0, 1, 0, 0], .b 0, .c [1, 1, 1]]) (by kernel_rfl) ?_
            refine RunH.reg (by kernel_rfl) ?_
            refine RgH.runk 2 [0, 11, 12, 13] (vs := []) (evs := []) (L' := [(0, .slice Aa0 a0.length ca0), (11, .slice Aa0 a0.length ca0), (12, .int .i64 (a0.length : Int)), (13, .int .i64 (w64 (v13 + 1)))]) (by kernel_rfl) (by kernel_rfl) (fun _ _ => trivial) ?_
            refine RgH.done (by kernel_rfl) ?_
            refine RunH.adm 1 (es' := [.c [1, 1, 0, 1, 0, 0], .l [1, 1, 0, 1, 0, 0], .b 0, .c [1, 1, 1]]) (by kernel_rfl) ?_
            refine RunH.keep [0, 11, 12, 13] (L' := [(0, .slice Aa0 a0.length ca0), (11, .slice Aa0 a0.length ca0), (12, .int .i64 (a0.length : Int)), (13, .int .i64 (w64 (v13 + 1)))]) (by kernel_rfl) ?_
            exact ihk a0 _ _ (w64 (v13 + 1)) hra0 hca0 heq
        replace heq := ht1
        refine RunH.reg (by kernel_rfl) ?_
        refine RgH.runk 3 [23, 0, 5, 6, 11, 12, 13] (vs := []) (evs := []) (L' := [(23, .bool (decide (0 < v13))), (0, .slice Aa0 a0.length ca0), (5, .int .i64 v13), (6, .string x1), (11, .slice Aa0 a0.length ca0), (12, .int .i64 (a0.length : Int)), (13, .int .i64 v13)]) (by kernel_rfl) (by kernel_rfl) (fun _ _ => trivial) ?_
        rcases bool_cases (decide (0 < v13)) with hb4 | hb4
        · replace heq := bif_true hb4 heq
          refine RgH.val1 (v' := .bool true) (congrArg Value.bool hb4) ?_
          obtain ⟨x2, hx2, heq⟩ := bind_some heq
          obtain ⟨ha2, cs2, hK2, hcc2⟩ := hra0.get hx2
          obtain rfl : cs2 = [.string x2] := hK2
          refine RgH.runk 11 [0, 11, 12, 13, 31] (vs := [.string x2]) (evs := [.need (Aa0 = some (adr Aa0) ∧ (0 : Int) ≤ (w64 (v13 - 1)) ∧ (w64 (v13 - 1)) < ((a0.length : Nat) : Int)), .load ((adr Aa0).add ((w64 (v13 - 1)).toNat * 1)) (.string x2)]) (L' := [(0, .slice Aa0 a0.length ca0), (11, .slice Aa0 a0.length ca0), (12, .int .i64 (a0.length : Int)), (13, .int .i64 v13), (31, .bool (sLt x1 x2 || sEq x1 x2))]) (by kernel_rfl) (by kernel_rfl) (fun w hh => ⟨⟨ha2, (at?_some hx2).1, (at?_some hx2).2.1⟩, (hcc2 _ _ (hh.drop 0) 0 _ rfl)⟩) ?_
          obtain rfl := Option.some.inj heq
          refine RgH.keep [0, 11, 12, 13, 31] (L' := [(0, .slice Aa0 a0.length ca0), (11, .slice Aa0 a0.length ca0), (12, .int .i64 (a0.length : Int)), (13, .int .i64 v13), (31, .bool (sLt x1 x2 || sEq x1 x2))]) (by kernel_rfl) ?_
          refine RgH.done (by kernel_rfl) ?_
          exact K1
        · replace heq := bif_false hb4 heq
          refine RgH.val1 (v' := .bool false) (congrArg Value.bool hb4) ?_
          refine RgH.runk 11 [0, 11, 12, 13, 31] (vs := []) (evs := []) (L' := [(0, .slice Aa0 a0.length ca0), (11, .slice Aa0 a0.length ca0), (12, .int .i64 (a0.length : Int)), (13, .int .i64 v13), (31, .bool false)]) (by kernel_rfl) (by kernel_rfl) (fun _ _ => trivial) ?_
          obtain rfl := Option.some.inj heq
          refine RgH.keep [0, 11, 12, 13, 31] (L' := [(0, .slice Aa0 a0.length ca0), (11, .slice Aa0 a0.length ca0), (12, .int .i64 (a0.length : Int)), (13, .int .i64 v13), (31, .bool false)]) (by kernel_rfl) ?_
          refine RgH.done (by kernel_rfl) ?_
          exact K1
    · replace heq := bif_false hb2 heq
      refine RunH.condF (c := decide (v13 < (a0.length : Int))) (by kernel_rfl) hb2 ?_
      refine RunH.adm 2 (es' := [.c [1, 1, 1, 0], .c [1, 1, 1, 1]]) (by kernel_rfl) ?_
      refine RunH.keep [] (L' := []) (by kernel_rfl) ?_
      exact he1 heq
theorem cache_checkDigests_c {w0 : World} {H : Hp} {F : List Ch} {a0 : List ByteArray} {Aa0 : Option Addr} {na0 : Nat} {ca0 : Nat} {a1 : Int} {r : Int} (hra0 : Rw Kd.string H F Aa0 a0) (hca0 : na0 ≤ ca0) (hna0 : na0 = a0.length) (heq : cache_checkDigests.f a0 a1 = some r) : CallsH Tryd.prog 60 #[.slice Aa0 na0 ca0, .int .i64 a1] H w0 (F) (S60 F H r) := by
  refine calls_of_runH (F := C60) Tryd.func60 (by kernel_rfl) Tryd.ntmps60 (args := [.slice Aa0 na0 ca0, .int .i64 a1]) (by kernel_rfl) ?_
  subst hna0
  unfold cache_checkDigests.f at heq
  refine RunH.adm 1 (es' := [.c [0], .c [1]]) (by kernel_rfl) ?_
  refine RunH.reg (by kernel_rfl) ?_
  refine RgH.runk 1 [0, 1] (vs := []) (evs := []) (L' := [(0, .slice Aa0 a0.length ca0), (1, .int .i64 a1)]) (by kernel_rfl) (by kernel_rfl) (fun _ _ => trivial) ?_
  refine RgH.done (by kernel_rfl) ?_
  refine RunH.adm 2 (es' := [.c [1, 0, 0], .c [1, 0, 1], .c [1, 1]]) (by kernel_rfl) ?_
  refine RunH.reg (by kernel_rfl) ?_
  refine RgH.runk 4 [0, 10] (vs := []) (evs := []) (L' := [(0, .slice Aa0 a0.length ca0), (10, .bool (decide (a1 < (a0.length : Int))))]) (by kernel_rfl) (by kernel_rfl) (fun _ _ => trivial) ?_
  refine RgH.done (by kernel_rfl) ?_
  rcases bool_cases (decide (a1 < (a0.length : Int))) with hb1 | hb1
  · replace heq := bif_true hb1 heq
    refine RunH.condT (c := decide (a1 < (a0.length : Int))) (by kernel_rfl) hb1 ?_
    refine RunH.adm 1 (es' := [.c [1, 0, 1, 0, 0], .c [1, 0, 1, 0, 1], .c [1, 1]]) (by kernel_rfl) ?_
    refine RunH.reg (by kernel_rfl) ?_
    refine RgH.runk 1 [4] (vs := []) (evs := []) (L' := [(4, .int .i64 2)]) (by kernel_rfl) (by kernel_rfl) (fun _ _ => trivial) ?_
    refine RgH.done (by kernel_rfl) ?_
    obtain rfl := Option.some.inj heq
    exact RunH.done (by kernel_rfl) Tryd.func60 (v := .int .i64 2) (by kernel_rfl) ⟨rfl, rfl, rfl⟩
  · replace heq := bif_false hb1 heq
    refine RunH.condF (c := decide (a1 < (a0.length : Int))) (by kernel_rfl) hb1 ?_
    refine RunH.adm 3 (es' := [.c [1, 1, 0, 0], .c [1, 1, 0, 1], .c [1, 1, 1]]) (by kernel_rfl) ?_
    refine RunH.reg (by kernel_rfl) ?_
    refine RgH.runk 3 [0, 11, 12, 13] (vs := []) (evs := []) (L' := [(0, .slice Aa0 a0.length ca0), (11, .slice Aa0 a0.length ca0), (12, .int .i64 (a0.length : Int)), (13, .int .i64 0)]) (by kernel_rfl) (by kernel_rfl) (fun _ _ => trivial) ?_
    refine RgH.done (by kernel_rfl) ?_
    refine RunH.adm 2 (es' := [.c [1, 1, 0, 1, 0, 0], .l [1, 1, 0, 1, 0, 0], .b 0, .c [1, 1, 1]]) (by kernel_rfl) ?_
    refine RunH.keep [0, 11, 12, 13] (L' := [(0, .slice Aa0 a0.length ca0), (11, .slice Aa0 a0.length ca0), (12, .int .i64 (a0.length : Int)), (13, .int .i64 0)]) (by kernel_rfl) ?_
    exact ((cache_checkDigests.l2_c (e1 := cache_checkDigests.e1) (cache_checkDigests.e1_c)) big) a0 _ _ 0 hra0 hca0 heq
noncomputable def C22 : Ctx := { P := Tryd.prog, f := 22, N := 66, c := bodyOf Tryd.f22 }
def S22 (F : List Ch) (H0 : Hp) (r : Int) (v : Value) (H : Hp) (cs : List Ch) : Prop := H0 = H ∧ v = .int .i64 r ∧ F = cs
theorem cache_CheckCache.e1_c {w0 : World} {H : Hp} {F : List Ch} {r : Int} : cache_CheckCache.e1 = some r → RunH C22 (S22 F H r) H w0 [.c [1, 1, 1, 1, 1, 0], .c [1, 1, 1, 1, 1, 1]] [] H (F) := by
  intro   heq
  unfold cache_CheckCache.e1 at heq
  refine RunH.reg (by kernel_rfl) ?_
  refine RgH.runk 1 [2] (vs := []) (evs := []) (L' := [(2, .int .i64 0)]) (by kernel_rfl) (by kernel_rfl) (fun _ _ => trivial) ?_
  refine RgH.done (by kernel_rfl) ?_
  obtain rfl := Option.some.inj heq
  exact RunH.done (by kernel_rfl) Tryd.func22 (v := .int .i64 0) (by kernel_rfl) ⟨rfl, rfl, rfl⟩
theorem cache_CheckCache.l2_c {w0 : World} {H : Hp} {F : List Ch} {r : Int} (e1 : Option Int)
    (he1 : e1 = some r → RunH C22 (S22 F H r) H w0 [.c [1, 1, 1, 1, 1, 0], .c [1, 1, 1, 1, 1, 1]] [] H (F)) : ∀ (k : Nat), ∀ (a0 : Cache) (Aa0_2 : Option Addr) (ca0_2 : Nat) (Aa0_3 : Option Addr) (ca0_3 : Nat) (g1 : Nat) (v32 : Int) , Rw kBlob H F Aa0_2 a0.Blobs → a0.Blobs.length ≤ ca0_2 → Rw kEntry H F Aa0_3 a0.Entries → a0.Entries.length ≤ ca0_3 → cache_CheckCache.l2 e1 k a0 v32 = some r → RunH C22 (S22 F H r) H w0 [.c [1, 1, 1, 1, 0, 1, 0, 0], .l [1, 1, 1, 1, 0, 1, 0, 0], .b 0, .c [1, 1, 1, 1, 1]] [(1, .pointer (some ⟨g1, 0, none⟩)), (30, .slice Aa0_3 a0.Entries.length ca0_3), (31, .int .i64 (a0.Entries.length : Int)), (32, .int .i64 v32)] H ((some (g1, .cells #[.int .i64 a0.Room, .int .i64 a0.Lease, .slice Aa0_2 a0.Blobs.length ca0_2, .slice Aa0_3 a0.Entries.length ca0_3] 25 (0, 0))) :: F) := by
  intro k
  induction k with
  | zero => intro a0 Aa0_2 ca0_2 Aa0_3 ca0_3 g1 v32 hra0_2 hca0_2 hra0_3 hca0_3 heq; exact nomatch (show (none : Option Int) = some r from heq)
  | succ k ihk =>
    intro a0 Aa0_2 ca0_2 Aa0_3 ca0_3 g1 v32 hra0_2 hca0_2 hra0_3 hca0_3 heq
    rw [cache_CheckCache.l2] at heq
    refine RunH.adm 1 (es' := [.c [1, 1, 1, 1, 0, 1, 0, 0, 0], .c [1, 1, 1, 1, 0, 1, 0, 0, 1], .l [1, 1, 1, 1, 0, 1, 0, 0], .b 0, .c [1, 1, 1, 1, 1]]) (by kernel_rfl) ?_
    refine RunH.reg (by kernel_rfl) ?_
    refine RgH.runk 1 [1, 30, 31, 32, 33] (vs := []) (evs := []) (L' := [(1, .pointer (some ⟨g1, 0, none⟩)), (30, .slice Aa0_3 a0.Entries.length ca0_3), (31, .int .i64 (a0.Entries.length : Int)), (32, .int .i64 v32), (33, .bool (decide (v32 < (a0.Entries.length : Int))))]) (by kernel_rfl) (by kernel_rfl) (fun _ _ => trivial) ?_
    refine RgH.done (by kernel_rfl) ?_
    refine RunH.adm 1 (es' := [.c [1, 1, 1, 1, 0, 1, 0, 0, 1, 0], .c [1, 1, 1, 1, 0, 1, 0, 0, 1, 1], .l [1, 1, 1, 1, 0, 1, 0, 0], .b 0, .c [1, 1, 1, 1, 1]]) (by kernel_rfl) ?_
    rcases bool_cases (decide (v32 < (a0.Entries.length : Int))) with hb5 | hb5
    · replace heq := bif_true hb5 heq
      refine RunH.condT (c := decide (v32 < (a0.Entries.length : Int))) (by kernel_rfl) hb5 ?_
      refine RunH.adm 4 (es' := [.c [1, 1, 1, 1, 0, 1, 0, 0, 1, 1, 0, 0, 0], .c [1, 1, 1, 1, 0, 1, 0, 0, 1, 1, 0, 0, 1], .b 1, .c [1, 1, 1, 1, 0, 1, 0, 0, 1, 1, 1], .l [1, 1, 1, 1, 0, 1, 0, 0], .b 0, .c [1, 1, 1, 1, 1]]) (by kernel_rfl) ?_
      refine RunH.reg (by kernel_rfl) ?_
      obtain ⟨x1, hx1, heq⟩ := bind_some heq
      obtain ⟨ha1, cs1, hK1, hcc1⟩ := hra0_3.get hx1
      obtain ⟨A1, c1, rfl, hc1, hr1⟩ := kEntry_open hK1
      refine RgH.runk 3 [1, 30, 31, 32, 34, 36] (vs := [.string x1.Key, .slice A1 x1.Refs.length c1, .int .i64 x1.Used]) (evs := [.need (Aa0_3 = some (adr Aa0_3) ∧ (0 : Int) ≤ v32 ∧ v32 < ((a0.Entries.length : Nat) : Int)), .load (((adr Aa0_3).add (v32.toNat * 3)).add 0) (.string x1.Key), .load (((adr Aa0_3).add (v32.toNat * 3)).add 1) (.slice A1 x1.Refs.length c1), .load (((adr Aa0_3).add (v32.toNat * 3)).add 2) (.int .i64 x1.Used)]) (L' := [(1, .pointer (some ⟨g1, 0, none⟩)), (30, .slice Aa0_3 a0.Entries.length ca0_3), (31, .int .i64 (a0.Entries.length : Int)), (32, .int .i64 v32), (34, .int .i64 v32), (36, .agg #[.string x1.Key, .slice A1 x1.Refs.length c1, .int .i64 x1.Used])]) (by kernel_rfl) (by kernel_rfl) (fun w hh => ⟨⟨ha1, (at?_some hx1).1, (at?_some hx1).2.1⟩, (hcc1 _ _ (hh.drop 1) 0 _ rfl), (hcc1 _ _ (hh.drop 1) 1 _ rfl), (hcc1 _ _ (hh.drop 1) 2 _ rfl)⟩) ?_
      refine RgH.does (DoesH.new (d := 5) (v := fun g => .pointer (some ⟨g, 0, none⟩)) (o := fun g => .cells #[.string ByteArray.empty, .slice none 0 0, .int .i64 0] 51 (0, 0)) (fun g => by kernel_rfl)) ?_
      rintro _ _ _ _ ⟨g2, rfl, rfl, rfl⟩
      refine RgH.runk 5 [1, 4, 5, 30, 31, 32, 36] (vs := []) (evs := []) (L' := [(1, .pointer (some ⟨g1, 0, none⟩)), (4, .int .i64 v32), (5, .pointer (some ⟨g2, 0, none⟩)), (30, .slice Aa0_3 a0.Entries.length ca0_3), (31, .int .i64 (a0.Entries.length : Int)), (32, .int .i64 v32), (36, .agg #[.string x1.Key, .slice A1 x1.Refs.length c1, .int .i64 x1.Used])]) (by kernel_rfl) (by kernel_rfl) (fun _ _ => trivial) ?_
      refine RgH.does (DoesH.store (k := 0) (g := g2) (off := 0) (v := .agg #[.string x1.Key, .slice A1 x1.Refs.length c1, .int .i64 x1.Used]) (cells' := #[.string x1.Key, .slice A1 x1.Refs.length c1, .int .i64 x1.Used]) (by kernel_rfl) rfl (by kernel_rfl) (by kernel_rfl)) ?_
      rintro _ _ _ _ ⟨rfl, rfl, rfl⟩
      refine RgH.done (by kernel_rfl) ?_
      refine RunH.adm 2 (es' := [.c [1, 1, 1, 1, 0, 1, 0, 0, 1, 1, 0, 0, 1, 0, 0], .c [1, 1, 1, 1, 0, 1, 0, 0, 1, 1, 0, 0, 1, 0, 1], .c [1, 1, 1, 1, 0, 1, 0, 0, 1, 1, 0, 0, 1, 1], .b 1, .c [1, 1, 1, 1, 0, 1, 0, 0, 1, 1, 1], .l [1, 1, 1, 1, 0, 1, 0, 0], .b 0, .c [1, 1, 1, 1, 1]]) (by kernel_rfl) ?_
      refine RunH.reg (by kernel_rfl) ?_
      refine RgH.runk 2 [1, 4, 5, 30, 31, 32, 38] (vs := [.string x1.Key]) (evs := [.load ⟨g2, 0, none⟩ (.string x1.Key)]) (L' := [(1, .pointer (some ⟨g1, 0, none⟩)), (4, .int .i64 v32), (5, .pointer (some ⟨g2, 0, none⟩)), (30, .slice Aa0_3 a0.Entries.length ca0_3), (31, .int .i64 (a0.Entries.length : Int)), (32, .int .i64 v32), (38, .string x1.Key)]) (by kernel_rfl) (by kernel_rfl) (fun w hh => (hh.box 0 rfl rfl)) ?_
      obtain ⟨y4, hy4, heq⟩ := bind_some heq
      refine RgH.does (DoesH.call (d := 39) (g := 59) (args := #[.string x1.Key]) (by kernel_rfl) (blob_IsDigest_c (a0 := x1.Key)  hy4)) ?_
      rintro _ _ _ _ ⟨_, rfl, rfl, rfl, rfl⟩
      refine RgH.runk 4 [1, 4, 5, 30, 31, 32, 40] (vs := []) (evs := []) (L' := [(1, .pointer (some ⟨g1, 0, none⟩)), (4, .int .i64 v32), (5, .pointer (some ⟨g2, 0, none⟩)), (30, .slice Aa0_3 a0.Entries.length ca0_3), (31, .int .i64 (a0.Entries.length : Int)), (32, .int .i64 v32), (40, .bool (!y4))]) (by kernel_rfl) (by kernel_rfl) (fun _ _ => trivial) ?_
      refine RgH.done (by kernel_rfl) ?_
      rcases bool_cases (!y4) with hb6 | hb6
      · replace heq := bif_true hb6 heq
        refine RunH.condT (c := !y4) (by kernel_rfl) hb6 ?_
        refine RunH.adm 1 (es' := [.c [1, 1, 1, 1, 0, 1, 0, 0, 1, 1, 0, 0, 1, 0, 1, 0, 0], .c [1, 1, 1, 1, 0, 1, 0, 0, 1, 1, 0, 0, 1, 0, 1, 0, 1], .c [1, 1, 1, 1, 0, 1, 0, 0, 1, 1, 0, 0, 1, 1], .b 1, .c [1, 1, 1, 1, 0, 1, 0, 0, 1, 1, 1], .l [1, 1, 1, 1, 0, 1, 0, 0], .b 0, .c [1, 1, 1, 1, 1]]) (by kernel_rfl) ?_
        refine RunH.reg (by kernel_rfl) ?_
        refine RgH.runk 1 [2] (vs := []) (evs := []) (L' := [(2, .int .i64 3)]) (by kernel_rfl) (by kernel_rfl) (fun _ _ => trivial) ?_
        refine RgH.done (by kernel_rfl) ?_
        obtain rfl := Option.some.inj heq
        refine RunH.pick 2 [] (cs' := F) (by kernel_rfl) rfl ?_
        exact RunH.done (by kernel_rfl) Tryd.func22 (v := .int .i64 3) (by kernel_rfl) ⟨rfl, rfl, rfl⟩
      · replace heq := bif_false hb6 heq
        refine RunH.condF (c := !y4) (by kernel_rfl) hb6 ?_
        refine RunH.adm 3 (es' := [.c [1, 1, 1, 1, 0, 1, 0, 0, 1, 1, 0, 0, 1, 1, 0, 0], .c [1, 1, 1, 1, 0, 1, 0, 0, 1, 1, 0, 0, 1, 1, 0, 1], .c [1, 1, 1, 1, 0, 1, 0, 0, 1, 1, 0, 0, 1, 1, 1], .b 1, .c [1, 1, 1, 1, 0, 1, 0, 0, 1, 1, 1], .l [1, 1, 1, 1, 0, 1, 0, 0], .b 0, .c [1, 1, 1, 1, 1]]) (by kernel_rfl) ?_
        refine RunH.reg (by kernel_rfl) ?_
        refine RgH.runk 2 [1, 4, 5, 30, 31, 32, 42] (vs := [.slice A1 x1.Refs.length c1]) (evs := [.load ⟨g2, 1, none⟩ (.slice A1 x1.Refs.length c1)]) (L' := [(1, .pointer (some ⟨g1, 0, none⟩)), (4, .int .i64 v32), (5, .pointer (some ⟨g2, 0, none⟩)), (30, .slice Aa0_3 a0.Entries.length ca0_3), (31, .int .i64 (a0.Entries.length : Int)), (32, .int .i64 v32), (42, .slice A1 x1.Refs.length c1)]) (by kernel_rfl) (by kernel_rfl) (fun w hh => (hh.box 0 rfl rfl)) ?_
        obtain ⟨y5, hy5, heq⟩ := bind_some heq
        refine RgH.does (DoesH.call (d := 43) (g := 60) (args := #[.slice A1 x1.Refs.length c1, .int .i64 200]) (by kernel_rfl) (cache_checkDigests_c (a0 := x1.Refs) (a1 := 200) (Rw.of hr1) hc1 rfl hy5)) ?_
        rintro _ _ _ _ ⟨_, rfl, rfl, rfl, rfl⟩
        refine RgH.runk 4 [1, 4, 5, 6, 30, 31, 32] (vs := []) (evs := []) (L' := [(1, .pointer (some ⟨g1, 0, none⟩)), (4, .int .i64 v32), (5, .pointer (some ⟨g2, 0, none⟩)), (6, .int .i64 y5), (30, .slice Aa0_3 a0.Entries.length ca0_3), (31, .int .i64 (a0.Entries.length : Int)), (32, .int .i64 v32)]) (by kernel_rfl) (by kernel_rfl) (fun _ _ => trivial) ?_
        refine RgH.done (by kernel_rfl) ?_
        refine RunH.adm 1 (es' := [.c [1, 1, 1, 1, 0, 1, 0, 0, 1, 1, 0, 0, 1, 1, 0, 1, 0], .c [1, 1, 1, 1, 0, 1, 0, 0, 1, 1, 0, 0, 1, 1, 0, 1, 1], .c [1, 1, 1, 1, 0, 1, 0, 0, 1, 1, 0, 0, 1, 1, 1], .b 1, .c [1, 1, 1, 1, 0, 1, 0, 0, 1, 1, 1], .l [1, 1, 1, 1, 0, 1, 0, 0], .b 0, .c [1, 1, 1, 1, 1]]) (by kernel_rfl) ?_
        refine RunH.reg (by kernel_rfl) ?_
        refine RgH.runk 2 [1, 4, 5, 6, 30, 31, 32, 45] (vs := []) (evs := []) (L' := [(1, .pointer (some ⟨g1, 0, none⟩)), (4, .int .i64 v32), (5, .pointer (some ⟨g2, 0, none⟩)), (6, .int .i64 y5), (30, .slice Aa0_3 a0.Entries.length ca0_3), (31, .int .i64 (a0.Entries.length : Int)), (32, .int .i64 v32), (45, .bool (y5 != 0))]) (by kernel_rfl) (by kernel_rfl) (fun _ _ => trivial) ?_
        refine RgH.done (by kernel_rfl) ?_
        rcases bool_cases (y5 != 0) with hb7 | hb7
        · replace heq := bif_true hb7 heq
          refine RunH.condT (c := y5 != 0) (by kernel_rfl) hb7 ?_
          refine RunH.adm 1 (es' := [.c [1, 1, 1, 1, 0, 1, 0, 0, 1, 1, 0, 0, 1, 1, 0, 1, 1, 0, 0], .c [1, 1, 1, 1, 0, 1, 0, 0, 1, 1, 0, 0, 1, 1, 0, 1, 1, 0, 1], .c [1, 1, 1, 1, 0, 1, 0, 0, 1, 1, 0, 0, 1, 1, 1], .b 1, .c [1, 1, 1, 1, 0, 1, 0, 0, 1, 1, 1], .l [1, 1, 1, 1, 0, 1, 0, 0], .b 0, .c [1, 1, 1, 1, 1]]) (by kernel_rfl) ?_
          refine RunH.reg (by kernel_rfl) ?_
          refine RgH.runk 2 [2] (vs := []) (evs := []) (L' := [(2, .int .i64 y5)]) (by kernel_rfl) (by kernel_rfl) (fun _ _ => trivial) ?_
          refine RgH.done (by kernel_rfl) ?_
          obtain rfl := Option.some.inj heq
          refine RunH.pick 2 [] (cs' := F) (by kernel_rfl) rfl ?_
          exact RunH.done (by kernel_rfl) Tryd.func22 (v := .int .i64 y5) (by kernel_rfl) ⟨rfl, rfl, rfl⟩
        · replace heq := bif_false hb7 heq
          refine RunH.condF (c := y5 != 0) (by kernel_rfl) hb7 ?_
          refine RunH.adm 3 (es' := [.c [1, 1, 1, 1, 0, 1, 0, 0, 1, 1, 0, 0, 1, 1, 1, 0, 0], .c [1, 1, 1, 1, 0, 1, 0, 0, 1, 1, 0, 0, 1, 1, 1, 0, 1], .c [1, 1, 1, 1, 0, 1, 0, 0, 1, 1, 0, 0, 1, 1, 1, 1], .b 1, .c [1, 1, 1, 1, 0, 1, 0, 0, 1, 1, 1], .l [1, 1, 1, 1, 0, 1, 0, 0], .b 0, .c [1, 1, 1, 1, 1]]) (by kernel_rfl) ?_
          refine RunH.reg (by kernel_rfl) ?_
          refine RgH.runk 2 [1, 4, 5, 30, 31, 32, 48] (vs := [.int .i64 x1.Used]) (evs := [.load ⟨g2, 2, none⟩ (.int .i64 x1.Used)]) (L' := [(1, .pointer (some ⟨g1, 0, none⟩)), (4, .int .i64 v32), (5, .pointer (some ⟨g2, 0, none⟩)), (30, .slice Aa0_3 a0.Entries.length ca0_3), (31, .int .i64 (a0.Entries.length : Int)), (32, .int .i64 v32), (48, .int .i64 x1.Used)]) (by kernel_rfl) (by kernel_rfl) (fun w hh => (hh.box 0 rfl rfl)) ?_
          obtain ⟨y6, hy6, heq⟩ := bind_some heq
          refine RgH.does (DoesH.call (d := 49) (g := 61) (args := #[.int .i64 x1.Used]) (by kernel_rfl) (cache_isMoment_c (a0 := x1.Used)  hy6)) ?_
          rintro _ _ _ _ ⟨_, rfl, rfl, rfl, rfl⟩
          refine RgH.runk 4 [1, 4, 5, 30, 31, 32, 50] (vs := []) (evs := []) (L' := [(1, .pointer (some ⟨g1, 0, none⟩)), (4, .int .i64 v32), (5, .pointer (some ⟨g2, 0, none⟩)), (30, .slice Aa0_3 a0.Entries.length ca0_3), (31, .int .i64 (a0.Entries.length : Int)), (32, .int .i64 v32), (50, .bool (!y6))]) (by kernel_rfl) (by kernel_rfl) (fun _ _ => trivial) ?_
          refine RgH.done (by kernel_rfl) ?_
          rcases bool_cases (!y6) with hb8 | hb8
          · replace heq := bif_true hb8 heq
            refine RunH.condT (c := !y6) (by kernel_rfl) hb8 ?_
            refine RunH.adm 1 (es' := [.c [1, 1, 1, 1, 0, 1, 0, 0, 1, 1, 0, 0, 1, 1, 1, 0, 1, 0, 0], .c [1, 1, 1, 1, 0, 1, 0, 0, 1, 1, 0, 0, 1, 1, 1, 0, 1, 0, 1], .c [1, 1, 1, 1, 0, 1, 0, 0, 1, 1, 0, 0, 1, 1, 1, 1], .b 1, .c [1, 1, 1, 1, 0, 1, 0, 0, 1, 1, 1], .l [1, 1, 1, 1, 0, 1, 0, 0], .b 0, .c [1, 1, 1, 1, 1]]) (by kernel_rfl) ?_
            refine RunH.reg (by kernel_rfl) ?_
            refine RgH.runk 1 [2] (vs := []) (evs := []) (L' := [(2, .int .i64 1)]) (by kernel_rfl) (by kernel_rfl) (fun _ _ => trivial) ?_
            refine RgH.done (by kernel_rfl) ?_
            obtain rfl := Option.some.inj heq
            refine RunH.pick 2 [] (cs' := F) (by kernel_rfl) rfl ?_
            exact RunH.done (by kernel_rfl) Tryd.func22 (v := .int .i64 1) (by kernel_rfl) ⟨rfl, rfl, rfl⟩
          · replace heq := bif_false hb8 heq
            refine RunH.condF (c := !y6) (by kernel_rfl) hb8 ?_
            refine RunH.adm 2 (es' := [.c [1, 1, 1, 1, 0, 1, 0, 0, 1, 1, 0, 0, 1, 1, 1, 1, 0], .c [1, 1, 1, 1, 0, 1, 0, 0, 1, 1, 0, 0, 1, 1, 1, 1, 1], .b 1, .c [1, 1, 1, 1, 0, 1, 0, 0, 1, 1, 1], .l [1, 1, 1, 1, 0, 1, 0, 0], .b 0, .c [1, 1, 1, 1, 1]]) (by kernel_rfl) ?_
            obtain ⟨t2, ht2, heq⟩ := bind_some heq
            have K4 : RunH C22 (S22 F H r) H w0 [.c [1, 1, 1, 1, 0, 1, 0, 0, 1, 1, 0, 0, 1, 1, 1, 1, 1], .b 1, .c [1, 1, 1, 1, 0, 1, 0, 0, 1, 1, 1], .l [1, 1, 1, 1, 0, 1, 0, 0], .b 0, .c [1, 1, 1, 1, 1]] [(1, .pointer (some ⟨g1, 0, none⟩)), (30, .slice Aa0_3 a0.Entries.length ca0_3), (31, .int .i64 (a0.Entries.length : Int)), (32, .int .i64 v32), (64, .bool t2)] H ((some (g1, .cells #[.int .i64 a0.Room, .int .i64 a0.Lease, .slice Aa0_2 a0.Blobs.length ca0_2, .slice Aa0_3 a0.Entries.length ca0_3] 25 (0, 0))) :: F) := by
              rcases bool_cases (t2) with hb10 | hb10
              · replace heq := bif_true hb10 heq
                refine RunH.condT (c := t2) (by kernel_rfl) hb10 ?_
                refine RunH.adm 1 (es' := [.c [1, 1, 1, 1, 0, 1, 0, 0, 1, 1, 0, 0, 1, 1, 1, 1, 1, 0, 0], .c [1, 1, 1, 1, 0, 1, 0, 0, 1, 1, 0, 0, 1, 1, 1, 1, 1, 0, 1], .b 1, .c [1, 1, 1, 1, 0, 1, 0, 0, 1, 1, 1], .l [1, 1, 1, 1, 0, 1, 0, 0], .b 0, .c [1, 1, 1, 1, 1]]) (by kernel_rfl) ?_
                refine RunH.reg (by kernel_rfl) ?_
                refine RgH.runk 1 [2] (vs := []) (evs := []) (L' := [(2, .int .i64 8)]) (by kernel_rfl) (by kernel_rfl) (fun _ _ => trivial) ?_
                refine RgH.done (by kernel_rfl) ?_
                obtain rfl := Option.some.inj heq
                refine RunH.pick 1 [] (cs' := F) (by kernel_rfl) rfl ?_
                exact RunH.done (by kernel_rfl) Tryd.func22 (v := .int .i64 8) (by kernel_rfl) ⟨rfl, rfl, rfl⟩
              · replace heq := bif_false hb10 heq
                refine RunH.condF (c := t2) (by kernel_rfl) hb10 ?_
                refine RunH.adm 2 (es' := [.c [1, 1, 1, 1, 0, 1, 0, 0, 1, 1, 1], .l [1, 1, 1, 1, 0, 1, 0, 0], .b 0, .c [1, 1, 1, 1, 1]]) (by kernel_rfl) ?_
                refine RunH.reg (by kernel_rfl) ?_
                refine RgH.runk 2 [1, 30, 31, 32] (vs := []) (evs := []) (L' := [(1, .pointer (some ⟨g1, 0, none⟩)), (30, .slice Aa0_3 a0.Entries.length ca0_3), (31, .int .i64 (a0.Entries.length : Int)), (32, .int .i64 (w64 (v32 + 1)))]) (by kernel_rfl) (by kernel_rfl) (fun _ _ => trivial) ?_
                refine RgH.done (by kernel_rfl) ?_
                refine RunH.adm 1 (es' := [.c [1, 1, 1, 1, 0, 1, 0, 0], .l [1, 1, 1, 1, 0, 1, 0, 0], .b 0, .c [1, 1, 1, 1, 1]]) (by kernel_rfl) ?_
                refine RunH.keep [1, 30, 31, 32] (L' := [(1, .pointer (some ⟨g1, 0, none⟩)), (30, .slice Aa0_3 a0.Entries.length ca0_3), (31, .int .i64 (a0.Entries.length : Int)), (32, .int .i64 (w64 (v32 + 1)))]) (by kernel_rfl) ?_
                exact ihk a0 _ _ _ _ _ (w64 (v32 + 1)) hra0_2 hca0_2 hra0_3 hca0_3 heq
            replace heq := ht2
            refine RunH.keep [1, 4, 5, 30, 31, 32] (L' := [(1, .pointer (some ⟨g1, 0, none⟩)), (4, .int .i64 v32), (5, .pointer (some ⟨g2, 0, none⟩)), (30, .slice Aa0_3 a0.Entries.length ca0_3), (31, .int .i64 (a0.Entries.length : Int)), (32, .int .i64 v32)]) (by kernel_rfl) ?_
            refine RunH.draw (fun w => Heap H w0 w ((some (g2, .cells #[.string x1.Key, .slice A1 x1.Refs.length c1, .int .i64 x1.Used] 51 (0, 0))) :: (some (g1, .cells #[.int .i64 a0.Room, .int .i64 a0.Lease, .slice Aa0_2 a0.Blobs.length ca0_2, .slice Aa0_3 a0.Entries.length ca0_3] 25 (0, 0))) :: F)) (fun w => Heap H w0 w ((some (g2, .cells #[.string x1.Key, .slice A1 x1.Refs.length c1, .int .i64 x1.Used] 51 (0, 0))) :: (some (g1, .cells #[.int .i64 a0.Room, .int .i64 a0.Lease, .slice Aa0_2 a0.Blobs.length ca0_2, .slice Aa0_3 a0.Entries.length ca0_3] 25 (0, 0))) :: F)) [false, false, false, false, false, false, false, false, false, false, false, false, false, false] (n := 14) (ls := [false, false, false, false, false, false, false, false, false, false, false, false, false, false]) (by kernel_rfl) (by kernel_rfl) (by kernel_rfl) rfl ?_
            refine DrH.run [0, 1, 2] (m := 11) (ls' := [true, true, true, false, false, false, false, false, false, false, false, false, false, false]) (vs := []) (evs := []) (L' := [(53, .bool (decide (0 < v32))), (52, .bool (decide (0 < v32))), (51, .int .i64 v32), (1, .pointer (some ⟨g1, 0, none⟩)), (4, .int .i64 v32), (5, .pointer (some ⟨g2, 0, none⟩)), (30, .slice Aa0_3 a0.Entries.length ca0_3), (31, .int .i64 (a0.Entries.length : Int)), (32, .int .i64 v32)]) (by kernel_rfl) (fun w hh => hh.pick 2 [0, 1] (by kernel_rfl)) (fun w hh => hh.pick 2 [0, 1] (by kernel_rfl)) (by kernel_rfl) (fun _ _ => trivial) (by kernel_rfl) ?_
            refine DrH.keep [53, 1, 4, 5, 30, 31, 32] (L' := [(53, .bool (decide (0 < v32))), (1, .pointer (some ⟨g1, 0, none⟩)), (4, .int .i64 v32), (5, .pointer (some ⟨g2, 0, none⟩)), (30, .slice Aa0_3 a0.Entries.length ca0_3), (31, .int .i64 (a0.Entries.length : Int)), (32, .int .i64 v32)]) (by kernel_rfl) ?_
            rcases bool_cases (decide (0 < v32)) with hb9 | hb9
            · replace heq := bif_true hb9 heq
              refine DrH.val1 (v' := .bool true) (congrArg Value.bool hb9) ?_
              obtain ⟨x2, hx2, heq⟩ := bind_some heq
              obtain ⟨ha2, cs2, hK2, hcc2⟩ := hra0_3.get hx2
              obtain ⟨A2, c2, rfl, hc2, hr2⟩ := kEntry_open hK2
              refine DrH.run [3, 4, 5, 6, 7, 8, 9, 10, 11, 12, 13] (m := 0) (ls' := [true, true, true, true, true, true, true, true, true, true, true, true, true, true]) (vs := [.string x1.Key, .slice Aa0_3 a0.Entries.length ca0_3, .string x2.Key]) (evs := [.load ⟨g2, 0, none⟩ (.string x1.Key), .load ⟨g1, 3, none⟩ (.slice Aa0_3 a0.Entries.length ca0_3), .need (Aa0_3 = some (adr Aa0_3) ∧ (0 : Int) ≤ (w64 (v32 - 1)) ∧ (w64 (v32 - 1)) < ((a0.Entries.length : Nat) : Int)), .load (((adr Aa0_3).add ((w64 (v32 - 1)).toNat * 3)).add 0) (.string x2.Key)]) (L' := [(64, .bool (sLt x1.Key x2.Key || sEq x1.Key x2.Key)), (63, .bool (sLt x1.Key x2.Key || sEq x1.Key x2.Key)), (62, .string x2.Key), (61, .pointer (some (((adr Aa0_3).add ((w64 (v32 - 1)).toNat * 3)).add 0))), (60, .pointer (some ((adr Aa0_3).add ((w64 (v32 - 1)).toNat * 3)))), (59, .int .i64 (w64 (v32 - 1))), (58, .int .i64 v32), (57, .slice Aa0_3 a0.Entries.length ca0_3), (56, .pointer (some ⟨g1, 3, none⟩)), (55, .string x1.Key), (54, .pointer (some ⟨g2, 0, none⟩)), (53, .bool true), (1, .pointer (some ⟨g1, 0, none⟩)), (4, .int .i64 v32), (5, .pointer (some ⟨g2, 0, none⟩)), (30, .slice Aa0_3 a0.Entries.length ca0_3), (31, .int .i64 (a0.Entries.length : Int)), (32, .int .i64 v32)]) (by kernel_rfl) (fun w hh => hh.pick 2 [0, 1] (by kernel_rfl)) (fun w hh => hh.pick 2 [0, 1] (by kernel_rfl)) (by kernel_rfl) (fun w hh => ⟨(hh.box 0 rfl rfl), (hh.box 1 rfl rfl), ⟨ha2, (at?_some hx2).1, (at?_some hx2).2.1⟩, (hcc2 _ _ (hh.drop 2) 0 _ rfl)⟩) (by kernel_rfl) ?_
              refine DrH.keep [1, 30, 31, 32, 64] (L' := [(1, .pointer (some ⟨g1, 0, none⟩)), (30, .slice Aa0_3 a0.Entries.length ca0_3), (31, .int .i64 (a0.Entries.length : Int)), (32, .int .i64 v32), (64, .bool (sLt x1.Key x2.Key || sEq x1.Key x2.Key))]) (by kernel_rfl) ?_
              obtain rfl := Option.some.inj heq
              refine DrH.keep [1, 30, 31, 32, 64] (L' := [(1, .pointer (some ⟨g1, 0, none⟩)), (30, .slice Aa0_3 a0.Entries.length ca0_3), (31, .int .i64 (a0.Entries.length : Int)), (32, .int .i64 v32), (64, .bool (sLt x1.Key x2.Key || sEq x1.Key x2.Key))]) (by kernel_rfl) ?_
              refine DrH.pick 2 [1] (cs' := (some (g1, .cells #[.int .i64 a0.Room, .int .i64 a0.Lease, .slice Aa0_2 a0.Blobs.length ca0_2, .slice Aa0_3 a0.Entries.length ca0_3] 25 (0, 0))) :: F) (by kernel_rfl) rfl ?_
              refine DrH.done (by kernel_rfl) ?_
              exact K4
            · replace heq := bif_false hb9 heq
              refine DrH.val1 (v' := .bool false) (congrArg Value.bool hb9) ?_
              refine DrH.run [3, 4, 5, 6, 7, 8, 9, 10, 11, 12, 13] (m := 0) (ls' := [true, true, true, true, true, true, true, true, true, true, true, true, true, true]) (vs := []) (evs := []) (L' := [(64, .bool false), (63, undef), (62, undef), (61, undef), (60, undef), (59, undef), (58, undef), (57, undef), (56, undef), (55, undef), (54, undef), (53, .bool false), (1, .pointer (some ⟨g1, 0, none⟩)), (4, .int .i64 v32), (5, .pointer (some ⟨g2, 0, none⟩)), (30, .slice Aa0_3 a0.Entries.length ca0_3), (31, .int .i64 (a0.Entries.length : Int)), (32, .int .i64 v32)]) (by kernel_rfl) (fun w hh => hh.pick 2 [0, 1] (by kernel_rfl)) (fun w hh => hh.pick 2 [0, 1] (by kernel_rfl)) (by kernel_rfl) (fun _ _ => trivial) (by kernel_rfl) ?_
              refine DrH.keep [1, 30, 31, 32, 64] (L' := [(1, .pointer (some ⟨g1, 0, none⟩)), (30, .slice Aa0_3 a0.Entries.length ca0_3), (31, .int .i64 (a0.Entries.length : Int)), (32, .int .i64 v32), (64, .bool false)]) (by kernel_rfl) ?_
              obtain rfl := Option.some.inj heq
              refine DrH.keep [1, 30, 31, 32, 64] (L' := [(1, .pointer (some ⟨g1, 0, none⟩)), (30, .slice Aa0_3 a0.Entries.length ca0_3), (31, .int .i64 (a0.Entries.length : Int)), (32, .int .i64 v32), (64, .bool false)]) (by kernel_rfl) ?_
              refine DrH.pick 2 [1] (cs' := (some (g1, .cells #[.int .i64 a0.Room, .int .i64 a0.Lease, .slice Aa0_2 a0.Blobs.length ca0_2, .slice Aa0_3 a0.Entries.length ca0_3] 25 (0, 0))) :: F) (by kernel_rfl) rfl ?_
              refine DrH.done (by kernel_rfl) ?_
              exact K4
    · replace heq := bif_false hb5 heq
      refine RunH.condF (c := decide (v32 < (a0.Entries.length : Int))) (by kernel_rfl) hb5 ?_
      refine RunH.adm 2 (es' := [.c [1, 1, 1, 1, 1, 0], .c [1, 1, 1, 1, 1, 1]]) (by kernel_rfl) ?_
      refine RunH.keep [] (L' := []) (by kernel_rfl) ?_
      refine RunH.pick 1 [] (cs' := F) (by kernel_rfl) rfl ?_
      exact he1 heq
theorem cache_CheckCache_c {w0 : World} {H : Hp} {F : List Ch} {a0 : Cache} {Aa0_2 : Option Addr} {na0_2 : Nat} {ca0_2 : Nat} {Aa0_3 : Option Addr} {na0_3 : Nat} {ca0_3 : Nat} {r : Int} (hra0_2 : Rw kBlob H F Aa0_2 a0.Blobs) (hca0_2 : na0_2 ≤ ca0_2) (hna0_2 : na0_2 = a0.Blobs.length) (hra0_3 : Rw kEntry H F Aa0_3 a0.Entries) (hca0_3 : na0_3 ≤ ca0_3) (hna0_3 : na0_3 = a0.Entries.length) (heq : cache_CheckCache.f a0 = some r) : CallsH Tryd.prog 22 #[.agg #[.int .i64 a0.Room, .int .i64 a0.Lease, .slice Aa0_2 na0_2 ca0_2, .slice Aa0_3 na0_3 ca0_3]] H w0 (F) (S22 F H r) := by
  refine calls_of_runH (F := C22) Tryd.func22 (by kernel_rfl) Tryd.ntmps22 (args := [.agg #[.int .i64 a0.Room, .int .i64 a0.Lease, .slice Aa0_2 na0_2 ca0_2, .slice Aa0_3 na0_3 ca0_3]]) (by kernel_rfl) ?_
  subst hna0_2
  subst hna0_3
  unfold cache_CheckCache.f at heq
  refine RunH.adm 1 (es' := [.c [0], .c [1]]) (by kernel_rfl) ?_
  refine RunH.reg (by kernel_rfl) ?_
  refine RgH.does (DoesH.new (d := 1) (v := fun g => .pointer (some ⟨g, 0, none⟩)) (o := fun g => .cells #[.int .i64 a0.Room, .int .i64 a0.Lease, .slice Aa0_2 a0.Blobs.length ca0_2, .slice Aa0_3 a0.Entries.length ca0_3] 25 (0, 0)) (fun g => by kernel_rfl)) ?_
  rintro _ _ _ _ ⟨g1, rfl, rfl, rfl⟩
  refine RgH.runk 2 [1] (vs := []) (evs := []) (L' := [(1, .pointer (some ⟨g1, 0, none⟩))]) (by kernel_rfl) (by kernel_rfl) (fun _ _ => trivial) ?_
  refine RgH.done (by kernel_rfl) ?_
  refine RunH.adm 2 (es' := [.c [1, 0, 0], .c [1, 0, 1], .c [1, 1]]) (by kernel_rfl) ?_
  obtain ⟨t1, ht1, heq⟩ := bind_some heq
  have K2 : RunH C22 (S22 F H r) H w0 [.c [1, 0, 1], .c [1, 1]] [(1, .pointer (some ⟨g1, 0, none⟩)), (16, .bool t1)] H ((some (g1, .cells #[.int .i64 a0.Room, .int .i64 a0.Lease, .slice Aa0_2 a0.Blobs.length ca0_2, .slice Aa0_3 a0.Entries.length ca0_3] 25 (0, 0))) :: F) := by
    rcases bool_cases (t1) with hb2 | hb2
    · replace heq := bif_true hb2 heq
      refine RunH.condT (c := t1) (by kernel_rfl) hb2 ?_
      refine RunH.adm 1 (es' := [.c [1, 0, 1, 0, 0], .c [1, 0, 1, 0, 1], .c [1, 1]]) (by kernel_rfl) ?_
      refine RunH.reg (by kernel_rfl) ?_
      refine RgH.runk 1 [2] (vs := []) (evs := []) (L' := [(2, .int .i64 1)]) (by kernel_rfl) (by kernel_rfl) (fun _ _ => trivial) ?_
      refine RgH.done (by kernel_rfl) ?_
      obtain rfl := Option.some.inj heq
      refine RunH.pick 1 [] (cs' := F) (by kernel_rfl) rfl ?_
      exact RunH.done (by kernel_rfl) Tryd.func22 (v := .int .i64 1) (by kernel_rfl) ⟨rfl, rfl, rfl⟩
    · replace heq := bif_false hb2 heq
      refine RunH.condF (c := t1) (by kernel_rfl) hb2 ?_
      refine RunH.adm 3 (es' := [.c [1, 1, 0, 0], .c [1, 1, 0, 1], .c [1, 1, 1]]) (by kernel_rfl) ?_
      refine RunH.reg (by kernel_rfl) ?_
      refine RgH.runk 4 [1, 18, 20] (vs := [.slice Aa0_2 a0.Blobs.length ca0_2, .int .i64 a0.Room]) (evs := [.load ⟨g1, 2, none⟩ (.slice Aa0_2 a0.Blobs.length ca0_2), .load ⟨g1, 0, none⟩ (.int .i64 a0.Room)]) (L' := [(1, .pointer (some ⟨g1, 0, none⟩)), (18, .slice Aa0_2 a0.Blobs.length ca0_2), (20, .int .i64 a0.Room)]) (by kernel_rfl) (by kernel_rfl) (fun w hh => ⟨(hh.box 0 rfl rfl), (hh.box 0 rfl rfl)⟩) ?_
      obtain ⟨y3, hy3, heq⟩ := bind_some heq
      refine RgH.does (DoesH.call (d := 21) (g := 58) (args := #[.slice Aa0_2 a0.Blobs.length ca0_2, .int .i64 a0.Room]) (by kernel_rfl) (cache_checkBlobs_c (a0 := a0.Blobs) (a1 := a0.Room) (hra0_2.wk (fun _ h => (.tail _ h))) hca0_2 rfl hy3)) ?_
      rintro _ _ _ _ ⟨_, rfl, rfl, rfl, rfl⟩
      refine RgH.runk 6 [1, 3] (vs := []) (evs := []) (L' := [(1, .pointer (some ⟨g1, 0, none⟩)), (3, .int .i64 y3)]) (by kernel_rfl) (by kernel_rfl) (fun _ _ => trivial) ?_
      refine RgH.done (by kernel_rfl) ?_
      refine RunH.adm 1 (es' := [.c [1, 1, 0, 1, 0], .c [1, 1, 0, 1, 1], .c [1, 1, 1]]) (by kernel_rfl) ?_
      refine RunH.reg (by kernel_rfl) ?_
      refine RgH.runk 2 [1, 3, 23] (vs := []) (evs := []) (L' := [(1, .pointer (some ⟨g1, 0, none⟩)), (3, .int .i64 y3), (23, .bool (y3 != 0))]) (by kernel_rfl) (by kernel_rfl) (fun _ _ => trivial) ?_
      refine RgH.done (by kernel_rfl) ?_
      rcases bool_cases (y3 != 0) with hb3 | hb3
      · replace heq := bif_true hb3 heq
        refine RunH.condT (c := y3 != 0) (by kernel_rfl) hb3 ?_
        refine RunH.adm 1 (es' := [.c [1, 1, 0, 1, 1, 0, 0], .c [1, 1, 0, 1, 1, 0, 1], .c [1, 1, 1]]) (by kernel_rfl) ?_
        refine RunH.reg (by kernel_rfl) ?_
        refine RgH.runk 2 [2] (vs := []) (evs := []) (L' := [(2, .int .i64 y3)]) (by kernel_rfl) (by kernel_rfl) (fun _ _ => trivial) ?_
        refine RgH.done (by kernel_rfl) ?_
        obtain rfl := Option.some.inj heq
        refine RunH.pick 1 [] (cs' := F) (by kernel_rfl) rfl ?_
        exact RunH.done (by kernel_rfl) Tryd.func22 (v := .int .i64 y3) (by kernel_rfl) ⟨rfl, rfl, rfl⟩
      · replace heq := bif_false hb3 heq
        refine RunH.condF (c := y3 != 0) (by kernel_rfl) hb3 ?_
        refine RunH.adm 3 (es' := [.c [1, 1, 1, 0, 0], .c [1, 1, 1, 0, 1], .c [1, 1, 1, 1]]) (by kernel_rfl) ?_
        refine RunH.reg (by kernel_rfl) ?_
        refine RgH.runk 4 [1, 28] (vs := [.slice Aa0_3 a0.Entries.length ca0_3]) (evs := [.load ⟨g1, 3, none⟩ (.slice Aa0_3 a0.Entries.length ca0_3)]) (L' := [(1, .pointer (some ⟨g1, 0, none⟩)), (28, .bool (decide (1000 < (a0.Entries.length : Int))))]) (by kernel_rfl) (by kernel_rfl) (fun w hh => (hh.box 0 rfl rfl)) ?_
        refine RgH.done (by kernel_rfl) ?_
        rcases bool_cases (decide (1000 < (a0.Entries.length : Int))) with hb4 | hb4
        · replace heq := bif_true hb4 heq
          refine RunH.condT (c := decide (1000 < (a0.Entries.length : Int))) (by kernel_rfl) hb4 ?_
          refine RunH.adm 1 (es' := [.c [1, 1, 1, 0, 1, 0, 0], .c [1, 1, 1, 0, 1, 0, 1], .c [1, 1, 1, 1]]) (by kernel_rfl) ?_
          refine RunH.reg (by kernel_rfl) ?_
          refine RgH.runk 1 [2] (vs := []) (evs := []) (L' := [(2, .int .i64 2)]) (by kernel_rfl) (by kernel_rfl) (fun _ _ => trivial) ?_
          refine RgH.done (by kernel_rfl) ?_
          obtain rfl := Option.some.inj heq
          refine RunH.pick 1 [] (cs' := F) (by kernel_rfl) rfl ?_
          exact RunH.done (by kernel_rfl) Tryd.func22 (v := .int .i64 2) (by kernel_rfl) ⟨rfl, rfl, rfl⟩
        · replace heq := bif_false hb4 heq
          refine RunH.condF (c := decide (1000 < (a0.Entries.length : Int))) (by kernel_rfl) hb4 ?_
          refine RunH.adm 3 (es' := [.c [1, 1, 1, 1, 0, 0], .c [1, 1, 1, 1, 0, 1], .c [1, 1, 1, 1, 1]]) (by kernel_rfl) ?_
          refine RunH.reg (by kernel_rfl) ?_
          refine RgH.runk 4 [1, 30, 31, 32] (vs := [.slice Aa0_3 a0.Entries.length ca0_3]) (evs := [.load ⟨g1, 3, none⟩ (.slice Aa0_3 a0.Entries.length ca0_3)]) (L' := [(1, .pointer (some ⟨g1, 0, none⟩)), (30, .slice Aa0_3 a0.Entries.length ca0_3), (31, .int .i64 (a0.Entries.length : Int)), (32, .int .i64 0)]) (by kernel_rfl) (by kernel_rfl) (fun w hh => (hh.box 0 rfl rfl)) ?_
          refine RgH.done (by kernel_rfl) ?_
          refine RunH.adm 2 (es' := [.c [1, 1, 1, 1, 0, 1, 0, 0], .l [1, 1, 1, 1, 0, 1, 0, 0], .b 0, .c [1, 1, 1, 1, 1]]) (by kernel_rfl) ?_
          refine RunH.keep [1, 30, 31, 32] (L' := [(1, .pointer (some ⟨g1, 0, none⟩)), (30, .slice Aa0_3 a0.Entries.length ca0_3), (31, .int .i64 (a0.Entries.length : Int)), (32, .int .i64 0)]) (by kernel_rfl) ?_
          exact ((cache_CheckCache.l2_c (e1 := cache_CheckCache.e1) (cache_CheckCache.e1_c)) big) a0 _ _ _ _ _ 0 hra0_2 hca0_2 hra0_3 hca0_3 heq
  replace heq := ht1
  refine RunH.reg (by kernel_rfl) ?_
  refine RgH.runk 2 [1, 8] (vs := [.int .i64 a0.Room]) (evs := [.load ⟨g1, 0, none⟩ (.int .i64 a0.Room)]) (L' := [(1, .pointer (some ⟨g1, 0, none⟩)), (8, .int .i64 a0.Room)]) (by kernel_rfl) (by kernel_rfl) (fun w hh => (hh.box 0 rfl rfl)) ?_
  obtain ⟨y1, hy1, heq⟩ := bind_some heq
  refine RgH.does (DoesH.call (d := 9) (g := 57) (args := #[.int .i64 a0.Room, .int .i64 0, .int .i64 1000000000]) (by kernel_rfl) (cache_within_c (a0 := a0.Room) (a1 := 0) (a2 := 1000000000)  hy1)) ?_
  rintro _ _ _ _ ⟨_, rfl, rfl, rfl, rfl⟩
  refine RgH.runk 5 [11, 1] (vs := []) (evs := []) (L' := [(11, .bool (!y1)), (1, .pointer (some ⟨g1, 0, none⟩))]) (by kernel_rfl) (by kernel_rfl) (fun _ _ => trivial) ?_
  rcases bool_cases (!y1) with hb1 | hb1
  · replace heq := bif_true hb1 heq
    refine RgH.val1 (v' := .bool true) (congrArg Value.bool hb1) ?_
    refine RgH.runk 10 [1, 16] (vs := []) (evs := []) (L' := [(1, .pointer (some ⟨g1, 0, none⟩)), (16, .bool true)]) (by kernel_rfl) (by kernel_rfl) (fun _ _ => trivial) ?_
    obtain rfl := Option.some.inj heq
    refine RgH.keep [1, 16] (L' := [(1, .pointer (some ⟨g1, 0, none⟩)), (16, .bool true)]) (by kernel_rfl) ?_
    refine RgH.done (by kernel_rfl) ?_
    exact K2
  · replace heq := bif_false hb1 heq
    refine RgH.val1 (v' := .bool false) (congrArg Value.bool hb1) ?_
    refine RgH.runk 7 [1, 11, 13] (vs := [.int .i64 a0.Lease]) (evs := [.load ⟨g1, 1, none⟩ (.int .i64 a0.Lease)]) (L' := [(1, .pointer (some ⟨g1, 0, none⟩)), (11, .bool false), (13, .int .i64 a0.Lease)]) (by kernel_rfl) (by kernel_rfl) (fun w hh => (hh.box 0 rfl rfl)) ?_
    obtain ⟨y2, hy2, heq⟩ := bind_some heq
    refine RgH.does (DoesH.call (d := 14) (g := 57) (args := #[.int .i64 a0.Lease, .int .i64 0, .int .i64 1000000]) (by kernel_rfl) (cache_within_c (a0 := a0.Lease) (a1 := 0) (a2 := 1000000)  hy2)) ?_
    rintro _ _ _ _ ⟨_, rfl, rfl, rfl, rfl⟩
    refine RgH.runk 10 [1, 16] (vs := []) (evs := []) (L' := [(1, .pointer (some ⟨g1, 0, none⟩)), (16, .bool (!y2))]) (by kernel_rfl) (by kernel_rfl) (fun _ _ => trivial) ?_
    obtain rfl := Option.some.inj heq
    refine RgH.keep [1, 16] (L' := [(1, .pointer (some ⟨g1, 0, none⟩)), (16, .bool (!y2))]) (by kernel_rfl) ?_
    refine RgH.done (by kernel_rfl) ?_
    exact K2
noncomputable def C19 : Ctx := { P := Tryd.prog, f := 19, N := 18, c := bodyOf Tryd.f19 }
def S19 (F : List Ch) (H0 : Hp) (r : Cache × Int) (v : Value) (H : Hp) (cs : List Ch) : Prop := ∃ (A0_2 : Option Addr) (c0_2 : Nat) (ch0_2 : Ch) (A0_3 : Option Addr) (c0_3 : Nat) (ch0_3 : Ch), H0 = H ∧ v = .tuple #[.agg #[.int .i64 r.1.Room, .int .i64 r.1.Lease, .slice A0_2 r.1.Blobs.length c0_2, .slice A0_3 r.1.Entries.length c0_3], .int .i64 r.2] ∧ ch0_2 :: ch0_3 :: F = cs ∧ SlOwn kBlob 47 H A0_2 c0_2 r.1.Blobs ch0_2 ∧ SlOwn kEntry 51 H A0_3 c0_3 r.1.Entries ch0_3
theorem cache_New_c {w0 : World} {H : Hp} {F : List Ch} {a0 : Int} {a1 : Int} {r : Cache × Int} (heq : cache_New.f a0 a1 = some r) : CallsH Tryd.prog 19 #[.int .i64 a0, .int .i64 a1] H w0 (F) (S19 F H r) := by
  refine calls_of_runH (F := C19) Tryd.func19 (by kernel_rfl) Tryd.ntmps19 (args := [.int .i64 a0, .int .i64 a1]) (by kernel_rfl) ?_
  unfold cache_New.f at heq
  refine RunH.adm 1 (es' := [.c [0], .c [1]]) (by kernel_rfl) ?_
  refine RunH.reg (by kernel_rfl) ?_
  refine RgH.does (DoesH.new (d := 4) (v := fun g => .pointer (some ⟨g, 0, none⟩)) (o := fun g => .cells #[.int .i64 0, .int .i64 0, .slice none 0 0, .slice none 0 0] 25 (0, 0)) (fun g => by kernel_rfl)) ?_
  rintro _ _ _ _ ⟨g1, rfl, rfl, rfl⟩
  refine RgH.runk 2 [0, 1, 4] (vs := []) (evs := []) (L' := [(0, .int .i64 a0), (1, .int .i64 a1), (4, .pointer (some ⟨g1, 0, none⟩))]) (by kernel_rfl) (by kernel_rfl) (fun _ _ => trivial) ?_
  refine RgH.done (by kernel_rfl) ?_
  refine RunH.adm 1 (es' := [.c [1, 0], .c [1, 1]]) (by kernel_rfl) ?_
  refine RunH.reg (by kernel_rfl) ?_
  refine RgH.runk 3 [4, 10] (vs := []) (evs := []) (L' := [(4, .pointer (some ⟨g1, 0, none⟩)), (10, .agg #[.int .i64 a0, .int .i64 a1, .slice none 0 0, .slice none 0 0])]) (by kernel_rfl) (by kernel_rfl) (fun _ _ => trivial) ?_
  refine RgH.does (DoesH.new (d := 6) (v := fun g => .pointer (some ⟨g, 0, none⟩)) (o := fun g => .cells #[.int .i64 0, .int .i64 0, .slice none 0 0, .slice none 0 0] 25 (0, 0)) (fun g => by kernel_rfl)) ?_
  rintro _ _ _ _ ⟨g2, rfl, rfl, rfl⟩
  refine RgH.does (DoesH.store (k := 0) (g := g2) (off := 0) (v := .agg #[.int .i64 a0, .int .i64 a1, .slice none 0 0, .slice none 0 0]) (cells' := #[.int .i64 a0, .int .i64 a1, .slice none 0 0, .slice none 0 0]) (by kernel_rfl) rfl (by kernel_rfl) (by kernel_rfl)) ?_
  rintro _ _ _ _ ⟨rfl, rfl, rfl⟩
  refine RgH.done (by kernel_rfl) ?_
  refine RunH.adm 2 (es' := [.c [1, 1, 0, 0], .c [1, 1, 0, 1], .c [1, 1, 1]]) (by kernel_rfl) ?_
  refine RunH.reg (by kernel_rfl) ?_
  refine RgH.runk 1 [4, 6, 11] (vs := [.int .i64 a0, .int .i64 a1, .slice none 0 0, .slice none 0 0]) (evs := [.load ⟨g2, 0, none⟩ (.int .i64 a0), .load ⟨g2, 1, none⟩ (.int .i64 a1), .load ⟨g2, 2, none⟩ (.slice none 0 0), .load ⟨g2, 3, none⟩ (.slice none 0 0)]) (L' := [(4, .pointer (some ⟨g1, 0, none⟩)), (6, .pointer (some ⟨g2, 0, none⟩)), (11, .agg #[.int .i64 a0, .int .i64 a1, .slice none 0 0, .slice none 0 0])]) (by kernel_rfl) (by kernel_rfl) (fun w hh => ⟨(hh.box 0 rfl rfl), (hh.box 0 rfl rfl), (hh.box 0 rfl rfl), (hh.box 0 rfl rfl)⟩) ?_
  obtain ⟨y1, hy1, heq⟩ := bind_some heq
  refine RgH.does (DoesH.call (d := 12) (g := 22) (args := #[.agg #[.int .i64 a0, .int .i64 a1, .slice none 0 0, .slice none 0 0]]) (by kernel_rfl) (cache_CheckCache_c (a0 := (⟨a0, a1, ([] : List Blob), ([] : List Entry)⟩ : Cache)) Rw.nil (Nat.le_refl _) rfl Rw.nil (Nat.le_refl _) rfl hy1)) ?_
  rintro _ _ _ _ ⟨_, rfl, rfl, rfl, rfl⟩
  refine RgH.runk 3 [4, 6, 7] (vs := []) (evs := []) (L' := [(4, .pointer (some ⟨g1, 0, none⟩)), (6, .pointer (some ⟨g2, 0, none⟩)), (7, .int .i64 y1)]) (by kernel_rfl) (by kernel_rfl) (fun _ _ => trivial) ?_
  refine RgH.done (by kernel_rfl) ?_
  refine RunH.adm 1 (es' := [.c [1, 1, 0, 1, 0], .c [1, 1, 0, 1, 1], .c [1, 1, 1]]) (by kernel_rfl) ?_
  refine RunH.reg (by kernel_rfl) ?_
  refine RgH.runk 2 [4, 6, 7, 14] (vs := []) (evs := []) (L' := [(4, .pointer (some ⟨g1, 0, none⟩)), (6, .pointer (some ⟨g2, 0, none⟩)), (7, .int .i64 y1), (14, .bool (y1 != 0))]) (by kernel_rfl) (by kernel_rfl) (fun _ _ => trivial) ?_
  refine RgH.done (by kernel_rfl) ?_
  rcases bool_cases (y1 != 0) with hb1 | hb1
  · replace heq := bif_true hb1 heq
    refine RunH.condT (c := y1 != 0) (by kernel_rfl) hb1 ?_
    refine RunH.adm 1 (es' := [.c [1, 1, 0, 1, 1, 0, 0], .c [1, 1, 0, 1, 1, 0, 1], .c [1, 1, 1]]) (by kernel_rfl) ?_
    refine RunH.reg (by kernel_rfl) ?_
    refine RgH.runk 2 [4, 15, 16] (vs := []) (evs := []) (L' := [(4, .pointer (some ⟨g1, 0, none⟩)), (15, .agg #[.int .i64 0, .int .i64 0, .slice none 0 0, .slice none 0 0]), (16, .int .i64 y1)]) (by kernel_rfl) (by kernel_rfl) (fun _ _ => trivial) ?_
    refine RgH.does (DoesH.store (k := 1) (g := g1) (off := 0) (v := .agg #[.int .i64 0, .int .i64 0, .slice none 0 0, .slice none 0 0]) (cells' := #[.int .i64 0, .int .i64 0, .slice none 0 0, .slice none 0 0]) (by kernel_rfl) rfl (by kernel_rfl) (by kernel_rfl)) ?_
    rintro _ _ _ _ ⟨rfl, rfl, rfl⟩
    refine RgH.runk 4 [4, 5] (vs := []) (evs := []) (L' := [(4, .pointer (some ⟨g1, 0, none⟩)), (5, .int .i64 y1)]) (by kernel_rfl) (by kernel_rfl) (fun _ _ => trivial) ?_
    refine RgH.done (by kernel_rfl) ?_
    refine RunH.nilc ?_
    have ho1 : SlOwn kBlob 47 H none 0 ([] : List Blob) none := SlOwn.nil
    refine RunH.nilc ?_
    have ho2 : SlOwn kEntry 51 H none 0 ([] : List Entry) none := SlOwn.nil
    obtain rfl := Option.some.inj heq
    refine RunH.pick 4 [3, 1, 0] (cs' := (some (g1, .cells #[.int .i64 0, .int .i64 0, .slice none 0 0, .slice none 0 0] 25 (0, 0))) :: none :: none :: F) (by kernel_rfl) rfl ?_
    exact RunH.doneM' 1 (vs := [.agg #[.int .i64 0, .int .i64 0, .slice none 0 0, .slice none 0 0], .int .i64 y1]) (v := .tuple #[.agg #[.int .i64 0, .int .i64 0, .slice none 0 0, .slice none 0 0], .int .i64 y1]) (by kernel_rfl) Tryd.func19 (fun w hh => show ResAll _ _ _ [.cell 4 25, .tmp 5] _ from ⟨⟨⟨g1, 0, none⟩, by kernel_rfl, trS_run _ (vs := [.int .i64 0, .int .i64 0, .slice none 0 0, .slice none 0 0]) (r := []) (es := [.load ⟨g1, 0, none⟩ (.int .i64 0), .load ⟨g1, 1, none⟩ (.int .i64 0), .load ⟨g1, 2, none⟩ (.slice none 0 0), .load ⟨g1, 3, none⟩ (.slice none 0 0)]) (by kernel_rfl) ⟨(hh.box 0 rfl rfl), (hh.box 0 rfl rfl), (hh.box 0 rfl rfl), (hh.box 0 rfl rfl)⟩⟩, (show lk _ _ = some _ by kernel_rfl), trivial⟩) rfl (cs' := none :: none :: F) rfl ⟨none, 0, none, none, 0, none, rfl, rfl, rfl, ho1, ho2⟩
  · replace heq := bif_false hb1 heq
    refine RunH.condF (c := y1 != 0) (by kernel_rfl) hb1 ?_
    refine RunH.adm 2 (es' := [.c [1, 1, 1, 0], .c [1, 1, 1, 1]]) (by kernel_rfl) ?_
    refine RunH.reg (by kernel_rfl) ?_
    refine RgH.runk 1 [4, 17] (vs := [.int .i64 a0, .int .i64 a1, .slice none 0 0, .slice none 0 0]) (evs := [.load ⟨g2, 0, none⟩ (.int .i64 a0), .load ⟨g2, 1, none⟩ (.int .i64 a1), .load ⟨g2, 2, none⟩ (.slice none 0 0), .load ⟨g2, 3, none⟩ (.slice none 0 0)]) (L' := [(4, .pointer (some ⟨g1, 0, none⟩)), (17, .agg #[.int .i64 a0, .int .i64 a1, .slice none 0 0, .slice none 0 0])]) (by kernel_rfl) (by kernel_rfl) (fun w hh => ⟨(hh.box 0 rfl rfl), (hh.box 0 rfl rfl), (hh.box 0 rfl rfl), (hh.box 0 rfl rfl)⟩) ?_
    refine RgH.does (DoesH.store (k := 1) (g := g1) (off := 0) (v := .agg #[.int .i64 a0, .int .i64 a1, .slice none 0 0, .slice none 0 0]) (cells' := #[.int .i64 a0, .int .i64 a1, .slice none 0 0, .slice none 0 0]) (by kernel_rfl) rfl (by kernel_rfl) (by kernel_rfl)) ?_
    rintro _ _ _ _ ⟨rfl, rfl, rfl⟩
    refine RgH.runk 3 [4, 5] (vs := []) (evs := []) (L' := [(4, .pointer (some ⟨g1, 0, none⟩)), (5, .int .i64 0)]) (by kernel_rfl) (by kernel_rfl) (fun _ _ => trivial) ?_
    refine RgH.done (by kernel_rfl) ?_
    refine RunH.nilc ?_
    have ho3 : SlOwn kBlob 47 H none 0 ([] : List Blob) none := SlOwn.nil
    refine RunH.nilc ?_
    have ho4 : SlOwn kEntry 51 H none 0 ([] : List Entry) none := SlOwn.nil
    obtain rfl := Option.some.inj heq
    refine RunH.pick 4 [3, 1, 0] (cs' := (some (g1, .cells #[.int .i64 a0, .int .i64 a1, .slice none 0 0, .slice none 0 0] 25 (0, 0))) :: none :: none :: F) (by kernel_rfl) rfl ?_
    exact RunH.doneM' 1 (vs := [.agg #[.int .i64 a0, .int .i64 a1, .slice none 0 0, .slice none 0 0], .int .i64 0]) (v := .tuple #[.agg #[.int .i64 a0, .int .i64 a1, .slice none 0 0, .slice none 0 0], .int .i64 0]) (by kernel_rfl) Tryd.func19 (fun w hh => show ResAll _ _ _ [.cell 4 25, .tmp 5] _ from ⟨⟨⟨g1, 0, none⟩, by kernel_rfl, trS_run _ (vs := [.int .i64 a0, .int .i64 a1, .slice none 0 0, .slice none 0 0]) (r := []) (es := [.load ⟨g1, 0, none⟩ (.int .i64 a0), .load ⟨g1, 1, none⟩ (.int .i64 a1), .load ⟨g1, 2, none⟩ (.slice none 0 0), .load ⟨g1, 3, none⟩ (.slice none 0 0)]) (by kernel_rfl) ⟨(hh.box 0 rfl rfl), (hh.box 0 rfl rfl), (hh.box 0 rfl rfl), (hh.box 0 rfl rfl)⟩⟩, (show lk _ _ = some _ by kernel_rfl), trivial⟩) rfl (cs' := none :: none :: F) rfl ⟨none, 0, none, none, 0, none, rfl, rfl, rfl, ho3, ho4⟩
noncomputable def C62 : Ctx := { P := Tryd.prog, f := 62, N := 15, c := bodyOf Tryd.f62 }
def S62 (F : List Ch) (H0 : Hp) (r : Bool) (v : Value) (H : Hp) (cs : List Ch) : Prop := H0 = H ∧ v = .bool r ∧ F = cs
theorem smithyardref7_within_c {w0 : World} {H : Hp} {F : List Ch} {a0 : Int} {a1 : Int} {a2 : Int} {r : Bool} (heq : smithyardref7_within.f a0 a1 a2 = some r) : CallsH Tryd.prog 62 #[.int .i64 a0, .int .i64 a1, .int .i64 a2] H w0 (F) (S62 F H r) := by
  refine calls_of_runH (F := C62) Tryd.func62 (by kernel_rfl) Tryd.ntmps62 (args := [.int .i64 a0, .int .i64 a1, .int .i64 a2]) (by kernel_rfl) ?_
  unfold smithyardref7_within.f at heq
  refine RunH.adm 1 (es' := [.c [0], .c [1]]) (by kernel_rfl) ?_
  refine RunH.reg (by kernel_rfl) ?_
  refine RgH.runk 1 [0, 1, 2] (vs := []) (evs := []) (L' := [(0, .int .i64 a0), (1, .int .i64 a1), (2, .int .i64 a2)]) (by kernel_rfl) (by kernel_rfl) (fun _ _ => trivial) ?_
  refine RgH.done (by kernel_rfl) ?_
  refine RunH.adm 1 (es' := [.c [1, 0], .c [1, 1]]) (by kernel_rfl) ?_
  obtain ⟨t1, ht1, heq⟩ := bind_some heq
  have K1 : RunH C62 (S62 F H r) H w0 [.c [1, 1]] [(6, .bool t1)] H (F) := by
    obtain rfl := Option.some.inj heq
    exact RunH.done (by kernel_rfl) Tryd.func62 (v := .bool t1) (by kernel_rfl) ⟨rfl, rfl, rfl⟩
  replace heq := ht1
  refine RunH.reg (by kernel_rfl) ?_
  refine RgH.runk 4 [10, 0, 2] (vs := []) (evs := []) (L' := [(10, .bool (decide (a1 ≤ a0))), (0, .int .i64 a0), (2, .int .i64 a2)]) (by kernel_rfl) (by kernel_rfl) (fun _ _ => trivial) ?_
  rcases bool_cases (decide (a1 ≤ a0)) with hb1 | hb1
  · replace heq := bif_true hb1 heq
    refine RgH.val1 (v' := .bool true) (congrArg Value.bool hb1) ?_
    refine RgH.runk 9 [6] (vs := []) (evs := []) (L' := [(6, .bool (decide (a0 ≤ a2)))]) (by kernel_rfl) (by kernel_rfl) (fun _ _ => trivial) ?_
    obtain rfl := Option.some.inj heq
    refine RgH.keep [6] (L' := [(6, .bool (decide (a0 ≤ a2)))]) (by kernel_rfl) ?_
    refine RgH.done (by kernel_rfl) ?_
    exact K1
  · replace heq := bif_false hb1 heq
    refine RgH.val1 (v' := .bool false) (congrArg Value.bool hb1) ?_
    refine RgH.runk 9 [6] (vs := []) (evs := []) (L' := [(6, .bool false)]) (by kernel_rfl) (by kernel_rfl) (fun _ _ => trivial) ?_
    obtain rfl := Option.some.inj heq
    refine RgH.keep [6] (L' := [(6, .bool false)]) (by kernel_rfl) ?_
    refine RgH.done (by kernel_rfl) ?_
    exact K1
noncomputable def C64 : Ctx := { P := Tryd.prog, f := 64, N := 19, c := bodyOf Tryd.f64 }
def S64 (F : List Ch) (H0 : Hp) (r : Int) (v : Value) (H : Hp) (cs : List Ch) : Prop := H0 = H ∧ v = .int .i64 r ∧ F = cs
theorem smithyardref7_bytesOf.e1_c {w0 : World} {H : Hp} {F : List Ch} {r : Int} : ∀ (v_n3 : Int) , smithyardref7_bytesOf.e1 v_n3 = some r → RunH C64 (S64 F H r) H w0 [.c [1, 1, 1, 0], .c [1, 1, 1, 1]] [(3, .int .i64 v_n3)] H (F) := by
  intro v_n3  heq
  unfold smithyardref7_bytesOf.e1 at heq
  refine RunH.reg (by kernel_rfl) ?_
  refine RgH.runk 2 [2] (vs := []) (evs := []) (L' := [(2, .int .i64 v_n3)]) (by kernel_rfl) (by kernel_rfl) (fun _ _ => trivial) ?_
  refine RgH.done (by kernel_rfl) ?_
  obtain rfl := Option.some.inj heq
  exact RunH.done (by kernel_rfl) Tryd.func64 (v := .int .i64 v_n3) (by kernel_rfl) ⟨rfl, rfl, rfl⟩
theorem smithyardref7_bytesOf.l2_c {w0 : World} {H : Hp} {F : List Ch} {r : Int} (e1 : Int → Option Int)
    (he1 : ∀ (v_n3 : Int) , e1 v_n3 = some r → RunH C64 (S64 F H r) H w0 [.c [1, 1, 1, 0], .c [1, 1, 1, 1]] [(3, .int .i64 v_n3)] H (F)) : ∀ (k : Nat), ∀ (a0 : List Blob) (Aa0 : Option Addr) (ca0 : Nat) (v_n3 : Int) (v_i4 : Int) , Rw kBlob H F Aa0 a0 → a0.length ≤ ca0 → smithyardref7_bytesOf.l2 e1 k a0 v_n3 v_i4 = some r → RunH C64 (S64 F H r) H w0 [.c [1, 1, 0, 1, 0, 0], .l [1, 1, 0, 1, 0, 0], .b 0, .c [1, 1, 1]] [(0, .slice Aa0 a0.length ca0), (3, .int .i64 v_n3), (4, .int .i64 v_i4)] H (F) := by
  intro k
  induction k with
  | zero => intro a0 Aa0 ca0 v_n3 v_i4 hra0 hca0 heq; exact nomatch (show (none : Option Int) = some r from heq)
  | succ k ihk =>
    intro a0 Aa0 ca0 v_n3 v_i4 hra0 hca0 heq
    rw [smithyardref7_bytesOf.l2] at heq
    refine RunH.adm 2 (es' := [.c [1, 1, 0, 1, 0, 0, 0, 0], .c [1, 1, 0, 1, 0, 0, 0, 1], .c [1, 1, 0, 1, 0, 0, 1], .l [1, 1, 0, 1, 0, 0], .b 0, .c [1, 1, 1]]) (by kernel_rfl) ?_
    refine RunH.reg (by kernel_rfl) ?_
    refine RgH.runk 4 [0, 3, 4, 8] (vs := []) (evs := []) (L' := [(0, .slice Aa0 a0.length ca0), (3, .int .i64 v_n3), (4, .int .i64 v_i4), (8, .bool (decide (v_i4 < (a0.length : Int))))]) (by kernel_rfl) (by kernel_rfl) (fun _ _ => trivial) ?_
    refine RgH.done (by kernel_rfl) ?_
    rcases bool_cases (decide (v_i4 < (a0.length : Int))) with hb1 | hb1
    · replace heq := bif_true hb1 heq
      refine RunH.condT (c := decide (v_i4 < (a0.length : Int))) (by kernel_rfl) hb1 ?_
      refine RunH.adm 3 (es' := [.c [1, 1, 0, 1, 0, 0, 1, 0, 0], .b 1, .c [1, 1, 0, 1, 0, 0, 1, 1], .l [1, 1, 0, 1, 0, 0], .b 0, .c [1, 1, 1]]) (by kernel_rfl) ?_
      refine RunH.reg (by kernel_rfl) ?_
      obtain ⟨x1, hx1, heq⟩ := bind_some heq
      obtain ⟨ha1, cs1, hK1, hcc1⟩ := hra0.get hx1
      obtain ⟨rfl⟩ := kBlob_open hK1
      refine RgH.runk 8 [0, 3, 4] (vs := [.int .i64 x1.Size]) (evs := [.need (Aa0 = some (adr Aa0) ∧ (0 : Int) ≤ v_i4 ∧ v_i4 < ((a0.length : Nat) : Int)), .load (((adr Aa0).add (v_i4.toNat * 5)).add 1) (.int .i64 x1.Size)]) (L' := [(0, .slice Aa0 a0.length ca0), (3, .int .i64 (w64 (v_n3 + x1.Size))), (4, .int .i64 v_i4)]) (by kernel_rfl) (by kernel_rfl) (fun w hh => ⟨⟨ha1, (at?_some hx1).1, (at?_some hx1).2.1⟩, (hcc1 _ _ (hh.drop 0) 1 _ rfl)⟩) ?_
      refine RgH.done (by kernel_rfl) ?_
      refine RunH.adm 1 (es' := [.c [1, 1, 0, 1, 0, 0, 1, 1], .l [1, 1, 0, 1, 0, 0], .b 0, .c [1, 1, 1]]) (by kernel_rfl) ?_
      refine RunH.reg (by kernel_rfl) ?_
      refine RgH.runk 3 [0, 3, 4] (vs := []) (evs := []) (L' := [(0, .slice Aa0 a0.length ca0), (3, .int .i64 (w64 (v_n3 + x1.Size))), (4, .int .i64 (w64 (v_i4 + 1)))]) (by kernel_rfl) (by kernel_rfl) (fun _ _ => trivial) ?_
      refine RgH.done (by kernel_rfl) ?_
      refine RunH.adm 1 (es' := [.c [1, 1, 0, 1, 0, 0], .l [1, 1, 0, 1, 0, 0], .b 0, .c [1, 1, 1]]) (by kernel_rfl) ?_
      refine RunH.keep [0, 3, 4] (L' := [(0, .slice Aa0 a0.length ca0), (3, .int .i64 (w64 (v_n3 + x1.Size))), (4, .int .i64 (w64 (v_i4 + 1)))]) (by kernel_rfl) ?_
      exact ihk a0 _ _ (w64 (v_n3 + x1.Size)) (w64 (v_i4 + 1)) hra0 hca0 heq
    · replace heq := bif_false hb1 heq
      refine RunH.condF (c := decide (v_i4 < (a0.length : Int))) (by kernel_rfl) hb1 ?_
      refine RunH.adm 2 (es' := [.c [1, 1, 1, 0], .c [1, 1, 1, 1]]) (by kernel_rfl) ?_
      refine RunH.keep [3] (L' := [(3, .int .i64 v_n3)]) (by kernel_rfl) ?_
      exact he1 v_n3 heq
theorem smithyardref7_bytesOf_c {w0 : World} {H : Hp} {F : List Ch} {a0 : List Blob} {Aa0 : Option Addr} {na0 : Nat} {ca0 : Nat} {r : Int} (hra0 : Rw kBlob H F Aa0 a0) (hca0 : na0 ≤ ca0) (hna0 : na0 = a0.length) (heq : smithyardref7_bytesOf.f a0 = some r) : CallsH Tryd.prog 64 #[.slice Aa0 na0 ca0] H w0 (F) (S64 F H r) := by
  refine calls_of_runH (F := C64) Tryd.func64 (by kernel_rfl) Tryd.ntmps64 (args := [.slice Aa0 na0 ca0]) (by kernel_rfl) ?_
  subst hna0
  unfold smithyardref7_bytesOf.f at heq
  refine RunH.adm 1 (es' := [.c [0], .c [1]]) (by kernel_rfl) ?_
  refine RunH.reg (by kernel_rfl) ?_
  refine RgH.runk 1 [0] (vs := []) (evs := []) (L' := [(0, .slice Aa0 a0.length ca0)]) (by kernel_rfl) (by kernel_rfl) (fun _ _ => trivial) ?_
  refine RgH.done (by kernel_rfl) ?_
  refine RunH.adm 1 (es' := [.c [1, 0], .c [1, 1]]) (by kernel_rfl) ?_
  refine RunH.reg (by kernel_rfl) ?_
  refine RgH.runk 1 [0, 3] (vs := []) (evs := []) (L' := [(0, .slice Aa0 a0.length ca0), (3, .int .i64 0)]) (by kernel_rfl) (by kernel_rfl) (fun _ _ => trivial) ?_
  refine RgH.done (by kernel_rfl) ?_
  refine RunH.adm 2 (es' := [.c [1, 1, 0, 0], .c [1, 1, 0, 1], .c [1, 1, 1]]) (by kernel_rfl) ?_
  refine RunH.reg (by kernel_rfl) ?_
  refine RgH.runk 1 [0, 3, 4] (vs := []) (evs := []) (L' := [(0, .slice Aa0 a0.length ca0), (3, .int .i64 0), (4, .int .i64 0)]) (by kernel_rfl) (by kernel_rfl) (fun _ _ => trivial) ?_
  refine RgH.done (by kernel_rfl) ?_
  refine RunH.adm 2 (es' := [.c [1, 1, 0, 1, 0, 0], .l [1, 1, 0, 1, 0, 0], .b 0, .c [1, 1, 1]]) (by kernel_rfl) ?_
  refine RunH.keep [0, 3, 4] (L' := [(0, .slice Aa0 a0.length ca0), (3, .int .i64 0), (4, .int .i64 0)]) (by kernel_rfl) ?_
  exact ((smithyardref7_bytesOf.l2_c (e1 := smithyardref7_bytesOf.e1) (smithyardref7_bytesOf.e1_c)) big) a0 _ _ 0 0 hra0 hca0 heq
noncomputable def C63 : Ctx := { P := Tryd.prog, f := 63, N := 36, c := bodyOf Tryd.f63 }
def S63 (F : List Ch) (H0 : Hp) (r : Bool) (v : Value) (H : Hp) (cs : List Ch) : Prop := H0 = H ∧ v = .bool r ∧ F = cs
theorem smithyardref1_IsDigest.e1_c {w0 : World} {H : Hp} {F : List Ch} {r : Bool} : ∀ (a0 : ByteArray) , smithyardref1_IsDigest.e1 a0 = some r → RunH C63 (S63 F H r) H w0 [.c [1, 1, 0], .c [1, 1, 1]] [(0, .string a0)] H (F) := by
  intro a0  heq
  unfold smithyardref1_IsDigest.e1 at heq
  refine RunH.reg (by kernel_rfl) ?_
  refine RgH.runk 4 [2] (vs := []) (evs := []) (L' := [(2, .bool ((a0.size : Int) == 16))]) (by kernel_rfl) (by kernel_rfl) (fun _ _ => trivial) ?_
  refine RgH.done (by kernel_rfl) ?_
  obtain rfl := Option.some.inj heq
  exact RunH.done (by kernel_rfl) Tryd.func63 (v := .bool ((a0.size : Int) == 16)) (by kernel_rfl) ⟨rfl, rfl, rfl⟩
theorem smithyardref1_IsDigest.l2_c {w0 : World} {H : Hp} {F : List Ch} {r : Bool} (e1 : ByteArray → Option Bool)
    (he1 : ∀ (a0 : ByteArray) , e1 a0 = some r → RunH C63 (S63 F H r) H w0 [.c [1, 1, 0], .c [1, 1, 1]] [(0, .string a0)] H (F)) : ∀ (k : Nat), ∀ (a0 : ByteArray) (v_i3 : Int) , smithyardref1_IsDigest.l2 e1 k a0 v_i3 = some r → RunH C63 (S63 F H r) H w0 [.c [1, 0, 1, 0, 0], .l [1, 0, 1, 0, 0], .b 0, .c [1, 1]] [(0, .string a0), (3, .int .i64 v_i3)] H (F) := by
  intro k
  induction k with
  | zero => intro a0 v_i3  heq; exact nomatch (show (none : Option Bool) = some r from heq)
  | succ k ihk =>
    intro a0 v_i3  heq
    rw [smithyardref1_IsDigest.l2] at heq
    refine RunH.adm 2 (es' := [.c [1, 0, 1, 0, 0, 0, 0], .c [1, 0, 1, 0, 0, 0, 1], .c [1, 0, 1, 0, 0, 1], .l [1, 0, 1, 0, 0], .b 0, .c [1, 1]]) (by kernel_rfl) ?_
    refine RunH.reg (by kernel_rfl) ?_
    refine RgH.runk 4 [0, 3, 7] (vs := []) (evs := []) (L' := [(0, .string a0), (3, .int .i64 v_i3), (7, .bool (decide (v_i3 < (a0.size : Int))))]) (by kernel_rfl) (by kernel_rfl) (fun _ _ => trivial) ?_
    refine RgH.done (by kernel_rfl) ?_
    rcases bool_cases (decide (v_i3 < (a0.size : Int))) with hb1 | hb1
    · replace heq := bif_true hb1 heq
      refine RunH.condT (c := decide (v_i3 < (a0.size : Int))) (by kernel_rfl) hb1 ?_
      refine RunH.adm 4 (es' := [.c [1, 0, 1, 0, 0, 1, 0, 0, 0], .c [1, 0, 1, 0, 0, 1, 0, 0, 1], .b 1, .c [1, 0, 1, 0, 0, 1, 1], .l [1, 0, 1, 0, 0], .b 0, .c [1, 1]]) (by kernel_rfl) ?_
      obtain ⟨t1, ht1, heq⟩ := bind_some heq
      have K1 : RunH C63 (S63 F H r) H w0 [.c [1, 0, 1, 0, 0, 1, 0, 0, 1], .b 1, .c [1, 0, 1, 0, 0, 1, 1], .l [1, 0, 1, 0, 0], .b 0, .c [1, 1]] [(0, .string a0), (3, .int .i64 v_i3), (32, .bool t1)] H (F) := by
        rcases bool_cases (t1) with hb6 | hb6
        · replace heq := bif_true hb6 heq
          refine RunH.condT (c := t1) (by kernel_rfl) hb6 ?_
          refine RunH.adm 1 (es' := [.c [1, 0, 1, 0, 0, 1, 0, 0, 1, 0, 0], .c [1, 0, 1, 0, 0, 1, 0, 0, 1, 0, 1], .b 1, .c [1, 0, 1, 0, 0, 1, 1], .l [1, 0, 1, 0, 0], .b 0, .c [1, 1]]) (by kernel_rfl) ?_
          refine RunH.reg (by kernel_rfl) ?_
          refine RgH.runk 1 [2] (vs := []) (evs := []) (L' := [(2, .bool false)]) (by kernel_rfl) (by kernel_rfl) (fun _ _ => trivial) ?_
          refine RgH.done (by kernel_rfl) ?_
          obtain rfl := Option.some.inj heq
          exact RunH.done (by kernel_rfl) Tryd.func63 (v := .bool false) (by kernel_rfl) ⟨rfl, rfl, rfl⟩
        · replace heq := bif_false hb6 heq
          refine RunH.condF (c := t1) (by kernel_rfl) hb6 ?_
          refine RunH.adm 2 (es' := [.c [1, 0, 1, 0, 0, 1, 1], .l [1, 0, 1, 0, 0], .b 0, .c [1, 1]]) (by kernel_rfl) ?_
          refine RunH.reg (by kernel_rfl) ?_
          refine RgH.runk 3 [0, 3] (vs := []) (evs := []) (L' := [(0, .string a0), (3, .int .i64 (w64 (v_i3 + 1)))]) (by kernel_rfl) (by kernel_rfl) (fun _ _ => trivial) ?_
          refine RgH.done (by kernel_rfl) ?_
          refine RunH.adm 1 (es' := [.c [1, 0, 1, 0, 0], .l [1, 0, 1, 0, 0], .b 0, .c [1, 1]]) (by kernel_rfl) ?_
          refine RunH.keep [0, 3] (L' := [(0, .string a0), (3, .int .i64 (w64 (v_i3 + 1)))]) (by kernel_rfl) ?_
          exact ihk a0 (w64 (v_i3 + 1)) heq
      replace heq := ht1
      refine RunH.reg (by kernel_rfl) ?_
      obtain ⟨hn1, heq⟩ := guard?_some heq
      refine RgH.runk 5 [14, 0, 3] (vs := []) (evs := [.need ((0 : Int) ≤ v_i3 ∧ v_i3 < (a0.size : Int))]) (L' := [(14, .bool (decide (48 ≤ (bt a0 v_i3)))), (0, .string a0), (3, .int .i64 v_i3)]) (by kernel_rfl) (by kernel_rfl) (fun w hh => (both_of hn1)) ?_
      rcases bool_cases (decide (48 ≤ (bt a0 v_i3))) with hb2 | hb2
      · replace heq := bif_true hb2 heq
        refine RgH.val1 (v' := .bool true) (congrArg Value.bool hb2) ?_
        obtain ⟨hn2, heq⟩ := guard?_some heq
        refine RgH.runk 11 [20, 0, 3] (vs := []) (evs := [.need ((0 : Int) ≤ v_i3 ∧ v_i3 < (a0.size : Int))]) (L' := [(20, .bool (decide ((bt a0 v_i3) ≤ 57))), (0, .string a0), (3, .int .i64 v_i3)]) (by kernel_rfl) (by kernel_rfl) (fun w hh => (both_of hn2)) ?_
        rcases bool_cases (decide ((bt a0 v_i3) ≤ 57)) with hb3 | hb3
        · replace heq := bif_true hb3 heq
          refine RgH.val1 (v' := .bool true) (congrArg Value.bool hb3) ?_
          refine RgH.runk 23 [0, 3, 32] (vs := []) (evs := []) (L' := [(0, .string a0), (3, .int .i64 v_i3), (32, .bool false)]) (by kernel_rfl) (by kernel_rfl) (fun _ _ => trivial) ?_
          obtain rfl := Option.some.inj heq
          refine RgH.keep [0, 3, 32] (L' := [(0, .string a0), (3, .int .i64 v_i3), (32, .bool false)]) (by kernel_rfl) ?_
          refine RgH.done (by kernel_rfl) ?_
          exact K1
        · replace heq := bif_false hb3 heq
          refine RgH.val1 (v' := .bool false) (congrArg Value.bool hb3) ?_
          obtain ⟨hn3, heq⟩ := guard?_some heq
          refine RgH.runk 16 [25, 0, 3, 20] (vs := []) (evs := [.need ((0 : Int) ≤ v_i3 ∧ v_i3 < (a0.size : Int))]) (L' := [(25, .bool (decide (97 ≤ (bt a0 v_i3)))), (0, .string a0), (3, .int .i64 v_i3), (20, .bool false)]) (by kernel_rfl) (by kernel_rfl) (fun w hh => (both_of hn3)) ?_
          rcases bool_cases (decide (97 ≤ (bt a0 v_i3))) with hb4 | hb4
          · replace heq := bif_true hb4 heq
            refine RgH.val1 (v' := .bool true) (congrArg Value.bool hb4) ?_
            obtain ⟨hn4, heq⟩ := guard?_some heq
            refine RgH.runk 23 [0, 3, 32] (vs := []) (evs := [.need ((0 : Int) ≤ v_i3 ∧ v_i3 < (a0.size : Int))]) (L' := [(0, .string a0), (3, .int .i64 v_i3), (32, .bool (!(decide ((bt a0 v_i3) ≤ 102))))]) (by kernel_rfl) (by kernel_rfl) (fun w hh => (both_of hn4)) ?_
            obtain rfl := Option.some.inj heq
            refine RgH.keep [0, 3, 32] (L' := [(0, .string a0), (3, .int .i64 v_i3), (32, .bool (!(decide ((bt a0 v_i3) ≤ 102))))]) (by kernel_rfl) ?_
            refine RgH.done (by kernel_rfl) ?_
            exact K1
          · replace heq := bif_false hb4 heq
            refine RgH.val1 (v' := .bool false) (congrArg Value.bool hb4) ?_
            refine RgH.runk 23 [0, 3, 32] (vs := []) (evs := []) (L' := [(0, .string a0), (3, .int .i64 v_i3), (32, .bool true)]) (by kernel_rfl) (by kernel_rfl) (fun _ _ => trivial) ?_
            obtain rfl := Option.some.inj heq
            refine RgH.keep [0, 3, 32] (L' := [(0, .string a0), (3, .int .i64 v_i3), (32, .bool true)]) (by kernel_rfl) ?_
            refine RgH.done (by kernel_rfl) ?_
            exact K1
      · replace heq := bif_false hb2 heq
        refine RgH.val1 (v' := .bool false) (congrArg Value.bool hb2) ?_
        obtain ⟨hn5, heq⟩ := guard?_some heq
        refine RgH.runk 16 [25, 0, 3, 20] (vs := []) (evs := [.need ((0 : Int) ≤ v_i3 ∧ v_i3 < (a0.size : Int))]) (L' := [(25, .bool (decide (97 ≤ (bt a0 v_i3)))), (0, .string a0), (3, .int .i64 v_i3), (20, .bool false)]) (by kernel_rfl) (by kernel_rfl) (fun w hh => (both_of hn5)) ?_
        rcases bool_cases (decide (97 ≤ (bt a0 v_i3))) with hb5 | hb5
        · replace heq := bif_true hb5 heq
          refine RgH.val1 (v' := .bool true) (congrArg Value.bool hb5) ?_
          obtain ⟨hn6, heq⟩ := guard?_some heq
          refine RgH.runk 23 [0, 3, 32] (vs := []) (evs := [.need ((0 : Int) ≤ v_i3 ∧ v_i3 < (a0.size : Int))]) (L' := [(0, .string a0), (3, .int .i64 v_i3), (32, .bool (!(decide ((bt a0 v_i3) ≤ 102))))]) (by kernel_rfl) (by kernel_rfl) (fun w hh => (both_of hn6)) ?_
          obtain rfl := Option.some.inj heq
          refine RgH.keep [0, 3, 32] (L' := [(0, .string a0), (3, .int .i64 v_i3), (32, .bool (!(decide ((bt a0 v_i3) ≤ 102))))]) (by kernel_rfl) ?_
          refine RgH.done (by kernel_rfl) ?_
          exact K1
        · replace heq := bif_false hb5 heq
          refine RgH.val1 (v' := .bool false) (congrArg Value.bool hb5) ?_
          refine RgH.runk 23 [0, 3, 32] (vs := []) (evs := []) (L' := [(0, .string a0), (3, .int .i64 v_i3), (32, .bool true)]) (by kernel_rfl) (by kernel_rfl) (fun _ _ => trivial) ?_
          obtain rfl := Option.some.inj heq
          refine RgH.keep [0, 3, 32] (L' := [(0, .string a0), (3, .int .i64 v_i3), (32, .bool true)]) (by kernel_rfl) ?_
          refine RgH.done (by kernel_rfl) ?_
          exact K1
    · replace heq := bif_false hb1 heq
      refine RunH.condF (c := decide (v_i3 < (a0.size : Int))) (by kernel_rfl) hb1 ?_
      refine RunH.adm 2 (es' := [.c [1, 1, 0], .c [1, 1, 1]]) (by kernel_rfl) ?_
      refine RunH.keep [0] (L' := [(0, .string a0)]) (by kernel_rfl) ?_
      exact he1 a0 heq
theorem smithyardref1_IsDigest_c {w0 : World} {H : Hp} {F : List Ch} {a0 : ByteArray} {r : Bool} (heq : smithyardref1_IsDigest.f a0 = some r) : CallsH Tryd.prog 63 #[.string a0] H w0 (F) (S63 F H r) := by
  refine calls_of_runH (F := C63) Tryd.func63 (by kernel_rfl) Tryd.ntmps63 (args := [.string a0]) (by kernel_rfl) ?_
  unfold smithyardref1_IsDigest.f at heq
  refine RunH.adm 1 (es' := [.c [0], .c [1]]) (by kernel_rfl) ?_
  refine RunH.reg (by kernel_rfl) ?_
  refine RgH.runk 1 [0] (vs := []) (evs := []) (L' := [(0, .string a0)]) (by kernel_rfl) (by kernel_rfl) (fun _ _ => trivial) ?_
  refine RgH.done (by kernel_rfl) ?_
  refine RunH.adm 2 (es' := [.c [1, 0, 0], .c [1, 0, 1], .c [1, 1]]) (by kernel_rfl) ?_
  refine RunH.reg (by kernel_rfl) ?_
  refine RgH.runk 1 [0, 3] (vs := []) (evs := []) (L' := [(0, .string a0), (3, .int .i64 0)]) (by kernel_rfl) (by kernel_rfl) (fun _ _ => trivial) ?_
  refine RgH.done (by kernel_rfl) ?_
  refine RunH.adm 2 (es' := [.c [1, 0, 1, 0, 0], .l [1, 0, 1, 0, 0], .b 0, .c [1, 1]]) (by kernel_rfl) ?_
  refine RunH.keep [0, 3] (L' := [(0, .string a0), (3, .int .i64 0)]) (by kernel_rfl) ?_
  exact ((smithyardref1_IsDigest.l2_c (e1 := smithyardref1_IsDigest.e1) (smithyardref1_IsDigest.e1_c)) big) a0 0 heq
noncomputable def C65 : Ctx := { P := Tryd.prog, f := 65, N := 30, c := bodyOf Tryd.f65 }
def S65 (F : List Ch) (H0 : Hp) (r : Int) (v : Value) (H : Hp) (cs : List Ch) : Prop := H0 = H ∧ v = .int .i64 r ∧ F = cs
theorem smithyardref7_rising.e1_c {w0 : World} {H : Hp} {F : List Ch} {r : Int} : smithyardref7_rising.e1 = some r → RunH C65 (S65 F H r) H w0 [.c [1, 1, 0], .c [1, 1, 1]] [] H (F) := by
  intro   heq
  unfold smithyardref7_rising.e1 at heq
  refine RunH.reg (by kernel_rfl) ?_
  refine RgH.runk 1 [2] (vs := []) (evs := []) (L' := [(2, .int .i64 0)]) (by kernel_rfl) (by kernel_rfl) (fun _ _ => trivial) ?_
  refine RgH.done (by kernel_rfl) ?_
  obtain rfl := Option.some.inj heq
  exact RunH.done (by kernel_rfl) Tryd.func65 (v := .int .i64 0) (by kernel_rfl) ⟨rfl, rfl, rfl⟩
theorem smithyardref7_rising.l2_c {w0 : World} {H : Hp} {F : List Ch} {r : Int} (e1 : Option Int)
    (he1 : e1 = some r → RunH C65 (S65 F H r) H w0 [.c [1, 1, 0], .c [1, 1, 1]] [] H (F)) : ∀ (k : Nat), ∀ (a0 : List ByteArray) (Aa0 : Option Addr) (ca0 : Nat) (v_i3 : Int) , Rw Kd.string H F Aa0 a0 → a0.length ≤ ca0 → smithyardref7_rising.l2 e1 k a0 v_i3 = some r → RunH C65 (S65 F H r) H w0 [.c [1, 0, 1, 0, 0], .l [1, 0, 1, 0, 0], .b 0, .c [1, 1]] [(0, .slice Aa0 a0.length ca0), (3, .int .i64 v_i3)] H (F) := by
  intro k
  induction k with
  | zero => intro a0 Aa0 ca0 v_i3 hra0 hca0 heq; exact nomatch (show (none : Option Int) = some r from heq)
  | succ k ihk =>
    intro a0 Aa0 ca0 v_i3 hra0 hca0 heq
    rw [smithyardref7_rising.l2] at heq
    refine RunH.adm 2 (es' := [.c [1, 0, 1, 0, 0, 0, 0], .c [1, 0, 1, 0, 0, 0, 1], .c [1, 0, 1, 0, 0, 1], .l [1, 0, 1, 0, 0], .b 0, .c [1, 1]]) (by kernel_rfl) ?_
    refine RunH.reg (by kernel_rfl) ?_
    refine RgH.runk 4 [0, 3, 7] (vs := []) (evs := []) (L' := [(0, .slice Aa0 a0.length ca0), (3, .int .i64 v_i3), (7, .bool (decide (v_i3 < (a0.length : Int))))]) (by kernel_rfl) (by kernel_rfl) (fun _ _ => trivial) ?_
    refine RgH.done (by kernel_rfl) ?_
    rcases bool_cases (decide (v_i3 < (a0.length : Int))) with hb1 | hb1
    · replace heq := bif_true hb1 heq
      refine RunH.condT (c := decide (v_i3 < (a0.length : Int))) (by kernel_rfl) hb1 ?_
      refine RunH.adm 5 (es' := [.c [1, 0, 1, 0, 0, 1, 0, 0, 0, 0], .c [1, 0, 1, 0, 0, 1, 0, 0, 0, 1], .c [1, 0, 1, 0, 0, 1, 0, 0, 1], .b 1, .c [1, 0, 1, 0, 0, 1, 1], .l [1, 0, 1, 0, 0], .b 0, .c [1, 1]]) (by kernel_rfl) ?_
      refine RunH.reg (by kernel_rfl) ?_
      obtain ⟨x1, hx1, heq⟩ := bind_some heq
      obtain ⟨ha1, cs1, hK1, hcc1⟩ := hra0.get hx1
      obtain rfl : cs1 = [.string x1] := hK1
      refine RgH.runk 4 [0, 3, 13] (vs := [.string x1]) (evs := [.need (Aa0 = some (adr Aa0) ∧ (0 : Int) ≤ v_i3 ∧ v_i3 < ((a0.length : Nat) : Int)), .load ((adr Aa0).add (v_i3.toNat * 1)) (.string x1)]) (L' := [(0, .slice Aa0 a0.length ca0), (3, .int .i64 v_i3), (13, .string x1)]) (by kernel_rfl) (by kernel_rfl) (fun w hh => ⟨⟨ha1, (at?_some hx1).1, (at?_some hx1).2.1⟩, (hcc1 _ _ (hh.drop 0) 0 _ rfl)⟩) ?_
      obtain ⟨y1, hy1, heq⟩ := bind_some heq
      refine RgH.does (DoesH.call (d := 14) (g := 63) (args := #[.string x1]) (by kernel_rfl) (smithyardref1_IsDigest_c (a0 := x1)  hy1)) ?_
      rintro _ _ _ _ ⟨_, rfl, rfl, rfl, rfl⟩
      refine RgH.runk 6 [0, 3, 15] (vs := []) (evs := []) (L' := [(0, .slice Aa0 a0.length ca0), (3, .int .i64 v_i3), (15, .bool (!y1))]) (by kernel_rfl) (by kernel_rfl) (fun _ _ => trivial) ?_
      refine RgH.done (by kernel_rfl) ?_
      rcases bool_cases (!y1) with hb2 | hb2
      · replace heq := bif_true hb2 heq
        refine RunH.condT (c := !y1) (by kernel_rfl) hb2 ?_
        refine RunH.adm 1 (es' := [.c [1, 0, 1, 0, 0, 1, 0, 0, 0, 1, 0, 0], .c [1, 0, 1, 0, 0, 1, 0, 0, 0, 1, 0, 1], .c [1, 0, 1, 0, 0, 1, 0, 0, 1], .b 1, .c [1, 0, 1, 0, 0, 1, 1], .l [1, 0, 1, 0, 0], .b 0, .c [1, 1]]) (by kernel_rfl) ?_
        refine RunH.reg (by kernel_rfl) ?_
        refine RgH.runk 1 [2] (vs := []) (evs := []) (L' := [(2, .int .i64 3)]) (by kernel_rfl) (by kernel_rfl) (fun _ _ => trivial) ?_
        refine RgH.done (by kernel_rfl) ?_
        obtain rfl := Option.some.inj heq
        exact RunH.done (by kernel_rfl) Tryd.func65 (v := .int .i64 3) (by kernel_rfl) ⟨rfl, rfl, rfl⟩
      · replace heq := bif_false hb2 heq
        refine RunH.condF (c := !y1) (by kernel_rfl) hb2 ?_
        refine RunH.adm 2 (es' := [.c [1, 0, 1, 0, 0, 1, 0, 0, 1, 0], .c [1, 0, 1, 0, 0, 1, 0, 0, 1, 1], .b 1, .c [1, 0, 1, 0, 0, 1, 1], .l [1, 0, 1, 0, 0], .b 0, .c [1, 1]]) (by kernel_rfl) ?_
        obtain ⟨t1, ht1, heq⟩ := bind_some heq
        have K1 : RunH C65 (S65 F H r) H w0 [.c [1, 0, 1, 0, 0, 1, 0, 0, 1, 1], .b 1, .c [1, 0, 1, 0, 0, 1, 1], .l [1, 0, 1, 0, 0], .b 0, .c [1, 1]] [(0, .slice Aa0 a0.length ca0), (3, .int .i64 v_i3), (29, .bool t1)] H (F) := by
          rcases bool_cases (t1) with hb4 | hb4
          · replace heq := bif_true hb4 heq
            refine RunH.condT (c := t1) (by kernel_rfl) hb4 ?_
            refine RunH.adm 1 (es' := [.c [1, 0, 1, 0, 0, 1, 0, 0, 1, 1, 0, 0], .c [1, 0, 1, 0, 0, 1, 0, 0, 1, 1, 0, 1], .b 1, .c [1, 0, 1, 0, 0, 1, 1], .l [1, 0, 1, 0, 0], .b 0, .c [1, 1]]) (by kernel_rfl) ?_
            refine RunH.reg (by kernel_rfl) ?_
            refine RgH.runk 1 [2] (vs := []) (evs := []) (L' := [(2, .int .i64 8)]) (by kernel_rfl) (by kernel_rfl) (fun _ _ => trivial) ?_
            refine RgH.done (by kernel_rfl) ?_
            obtain rfl := Option.some.inj heq
            exact RunH.done (by kernel_rfl) Tryd.func65 (v := .int .i64 8) (by kernel_rfl) ⟨rfl, rfl, rfl⟩
          · replace heq := bif_false hb4 heq
            refine RunH.condF (c := t1) (by kernel_rfl) hb4 ?_
            refine RunH.adm 2 (es' := [.c [1, 0, 1, 0, 0, 1, 1], .l [1, 0, 1, 0, 0], .b 0, .c [1, 1]]) (by kernel_rfl) ?_
            refine RunH.reg (by kernel_rfl) ?_
            refine RgH.runk 3 [0, 3] (vs := []) (evs := []) (L' := [(0, .slice Aa0 a0.length ca0), (3, .int .i64 (w64 (v_i3 + 1)))]) (by kernel_rfl) (by kernel_rfl) (fun _ _ => trivial) ?_
            refine RgH.done (by kernel_rfl) ?_
            refine RunH.adm 1 (es' := [.c [1, 0, 1, 0, 0], .l [1, 0, 1, 0, 0], .b 0, .c [1, 1]]) (by kernel_rfl) ?_
            refine RunH.keep [0, 3] (L' := [(0, .slice Aa0 a0.length ca0), (3, .int .i64 (w64 (v_i3 + 1)))]) (by kernel_rfl) ?_
            exact ihk a0 _ _ (w64 (v_i3 + 1)) hra0 hca0 heq
        replace heq := ht1
        refine RunH.keep [0, 3] (L' := [(0, .slice Aa0 a0.length ca0), (3, .int .i64 v_i3)]) (by kernel_rfl) ?_
        refine RunH.draw (fun w => Heap H w0 w (F)) (fun w => Heap H w0 w (F)) [false, false, false, false, false, false, false, false, false, false, false, false, false, false] (n := 14) (ls := [false, false, false, false, false, false, false, false, false, false, false, false, false, false]) (by kernel_rfl) (by kernel_rfl) (by kernel_rfl) rfl ?_
        refine DrH.run [0, 1, 2] (m := 11) (ls' := [true, true, true, false, false, false, false, false, false, false, false, false, false, false]) (vs := []) (evs := []) (L' := [(18, .bool (decide (0 < v_i3))), (17, .bool (decide (0 < v_i3))), (16, .int .i64 v_i3), (0, .slice Aa0 a0.length ca0), (3, .int .i64 v_i3)]) (by kernel_rfl) (fun w hh => hh.pick 0 [] (by kernel_rfl)) (fun w hh => hh.pick 0 [] (by kernel_rfl)) (by kernel_rfl) (fun _ _ => trivial) (by kernel_rfl) ?_
        refine DrH.keep [18, 0, 3] (L' := [(18, .bool (decide (0 < v_i3))), (0, .slice Aa0 a0.length ca0), (3, .int .i64 v_i3)]) (by kernel_rfl) ?_
        rcases bool_cases (decide (0 < v_i3)) with hb3 | hb3
        · replace heq := bif_true hb3 heq
          refine DrH.val1 (v' := .bool true) (congrArg Value.bool hb3) ?_
          obtain ⟨x2, hx2, heq⟩ := bind_some heq
          obtain ⟨ha2, cs2, hK2, hcc2⟩ := hra0.get hx2
          obtain rfl : cs2 = [.string x2] := hK2
          obtain ⟨x3, hx3, heq⟩ := bind_some heq
          obtain ⟨ha3, cs3, hK3, hcc3⟩ := hra0.get hx3
          obtain rfl : cs3 = [.string x3] := hK3
          refine DrH.run [3, 4, 5, 6, 7, 8, 9, 10, 11, 12, 13] (m := 0) (ls' := [true, true, true, true, true, true, true, true, true, true, true, true, true, true]) (vs := [.string x2, .string x3]) (evs := [.need (Aa0 = some (adr Aa0) ∧ (0 : Int) ≤ v_i3 ∧ v_i3 < ((a0.length : Nat) : Int)), .load ((adr Aa0).add (v_i3.toNat * 1)) (.string x2), .need (Aa0 = some (adr Aa0) ∧ (0 : Int) ≤ (w64 (v_i3 - 1)) ∧ (w64 (v_i3 - 1)) < ((a0.length : Nat) : Int)), .load ((adr Aa0).add ((w64 (v_i3 - 1)).toNat * 1)) (.string x3)]) (L' := [(29, .bool (sLt x2 x3 || sEq x2 x3)), (28, .bool (sLt x2 x3 || sEq x2 x3)), (27, .string x3), (26, .pointer (some ((adr Aa0).add ((w64 (v_i3 - 1)).toNat * 1)))), (25, .int .i64 (w64 (v_i3 - 1))), (24, .int .i64 v_i3), (23, .slice Aa0 a0.length ca0), (22, .string x2), (21, .pointer (some ((adr Aa0).add (v_i3.toNat * 1)))), (20, .int .i64 v_i3), (19, .slice Aa0 a0.length ca0), (18, .bool true), (0, .slice Aa0 a0.length ca0), (3, .int .i64 v_i3)]) (by kernel_rfl) (fun w hh => hh.pick 0 [] (by kernel_rfl)) (fun w hh => hh.pick 0 [] (by kernel_rfl)) (by kernel_rfl) (fun w hh => ⟨⟨ha2, (at?_some hx2).1, (at?_some hx2).2.1⟩, (hcc2 _ _ (hh.drop 0) 0 _ rfl), ⟨ha3, (at?_some hx3).1, (at?_some hx3).2.1⟩, (hcc3 _ _ (hh.drop 0) 0 _ rfl)⟩) (by kernel_rfl) ?_
          refine DrH.keep [0, 3, 29] (L' := [(0, .slice Aa0 a0.length ca0), (3, .int .i64 v_i3), (29, .bool (sLt x2 x3 || sEq x2 x3))]) (by kernel_rfl) ?_
          obtain rfl := Option.some.inj heq
          refine DrH.keep [0, 3, 29] (L' := [(0, .slice Aa0 a0.length ca0), (3, .int .i64 v_i3), (29, .bool (sLt x2 x3 || sEq x2 x3))]) (by kernel_rfl) ?_
          refine DrH.done (by kernel_rfl) ?_
          exact K1
        · replace heq := bif_false hb3 heq
          refine DrH.val1 (v' := .bool false) (congrArg Value.bool hb3) ?_
          refine DrH.run [3, 4, 5, 6, 7, 8, 9, 10, 11, 12, 13] (m := 0) (ls' := [true, true, true, true, true, true, true, true, true, true, true, true, true, true]) (vs := []) (evs := []) (L' := [(29, .bool false), (28, undef), (27, undef), (26, undef), (25, undef), (24, undef), (23, undef), (22, undef), (21, undef), (20, undef), (19, undef), (18, .bool false), (0, .slice Aa0 a0.length ca0), (3, .int .i64 v_i3)]) (by kernel_rfl) (fun w hh => hh.pick 0 [] (by kernel_rfl)) (fun w hh => hh.pick 0 [] (by kernel_rfl)) (by kernel_rfl) (fun _ _ => trivial) (by kernel_rfl) ?_
          refine DrH.keep [0, 3, 29] (L' := [(0, .slice Aa0 a0.length ca0), (3, .int .i64 v_i3), (29, .bool false)]) (by kernel_rfl) ?_
          obtain rfl := Option.some.inj heq
          refine DrH.keep [0, 3, 29] (L' := [(0, .slice Aa0 a0.length ca0), (3, .int .i64 v_i3), (29, .bool false)]) (by kernel_rfl) ?_
          refine DrH.done (by kernel_rfl) ?_
          exact K1
    · replace heq := bif_false hb1 heq
      refine RunH.condF (c := decide (v_i3 < (a0.length : Int))) (by kernel_rfl) hb1 ?_
      refine RunH.adm 2 (es' := [.c [1, 1, 0], .c [1, 1, 1]]) (by kernel_rfl) ?_
      refine RunH.keep [] (L' := []) (by kernel_rfl) ?_
      exact he1 heq
theorem smithyardref7_rising_c {w0 : World} {H : Hp} {F : List Ch} {a0 : List ByteArray} {Aa0 : Option Addr} {na0 : Nat} {ca0 : Nat} {r : Int} (hra0 : Rw Kd.string H F Aa0 a0) (hca0 : na0 ≤ ca0) (hna0 : na0 = a0.length) (heq : smithyardref7_rising.f a0 = some r) : CallsH Tryd.prog 65 #[.slice Aa0 na0 ca0] H w0 (F) (S65 F H r) := by
  refine calls_of_runH (F := C65) Tryd.func65 (by kernel_rfl) Tryd.ntmps65 (args := [.slice Aa0 na0 ca0]) (by kernel_rfl) ?_
  subst hna0
  unfold smithyardref7_rising.f at heq
  refine RunH.adm 1 (es' := [.c [0], .c [1]]) (by kernel_rfl) ?_
  refine RunH.reg (by kernel_rfl) ?_
  refine RgH.runk 1 [0] (vs := []) (evs := []) (L' := [(0, .slice Aa0 a0.length ca0)]) (by kernel_rfl) (by kernel_rfl) (fun _ _ => trivial) ?_
  refine RgH.done (by kernel_rfl) ?_
  refine RunH.adm 2 (es' := [.c [1, 0, 0], .c [1, 0, 1], .c [1, 1]]) (by kernel_rfl) ?_
  refine RunH.reg (by kernel_rfl) ?_
  refine RgH.runk 1 [0, 3] (vs := []) (evs := []) (L' := [(0, .slice Aa0 a0.length ca0), (3, .int .i64 0)]) (by kernel_rfl) (by kernel_rfl) (fun _ _ => trivial) ?_
  refine RgH.done (by kernel_rfl) ?_
  refine RunH.adm 2 (es' := [.c [1, 0, 1, 0, 0], .l [1, 0, 1, 0, 0], .b 0, .c [1, 1]]) (by kernel_rfl) ?_
  refine RunH.keep [0, 3] (L' := [(0, .slice Aa0 a0.length ca0), (3, .int .i64 0)]) (by kernel_rfl) ?_
  exact ((smithyardref7_rising.l2_c (e1 := smithyardref7_rising.e1) (smithyardref7_rising.e1_c)) big) a0 _ _ 0 hra0 hca0 heq
noncomputable def C23 : Ctx := { P := Tryd.prog, f := 23, N := 128, c := bodyOf Tryd.f23 }
def S23 (F : List Ch) (H0 : Hp) (r : Int) (v : Value) (H : Hp) (cs : List Ch) : Prop := H0 = H ∧ v = .int .i64 r ∧ F = cs
theorem smithyardref7_CheckCache.e2_c {w0 : World} {H : Hp} {F : List Ch} {r : Int} : smithyardref7_CheckCache.e2 = some r → RunH C23 (S23 F H r) H w0 [.c [1, 1, 1, 1, 1, 1, 1, 0], .c [1, 1, 1, 1, 1, 1, 1, 1]] [] H (F) := by
  intro   heq
  unfold smithyardref7_CheckCache.e2 at heq
  refine RunH.reg (by kernel_rfl) ?_
  refine RgH.runk 1 [2] (vs := []) (evs := []) (L' := [(2, .int .i64 0)]) (by kernel_rfl) (by kernel_rfl) (fun _ _ => trivial) ?_
  refine RgH.done (by kernel_rfl) ?_
  obtain rfl := Option.some.inj heq
  exact RunH.done (by kernel_rfl) Tryd.func23 (v := .int .i64 0) (by kernel_rfl) ⟨rfl, rfl, rfl⟩
theorem smithyardref7_CheckCache.l3_c {w0 : World} {H : Hp} {F : List Ch} {r : Int} (e2 : Option Int)
    (he2 : e2 = some r → RunH C23 (S23 F H r) H w0 [.c [1, 1, 1, 1, 1, 1, 1, 0], .c [1, 1, 1, 1, 1, 1, 1, 1]] [] H (F)) : ∀ (k : Nat), ∀ (a0 : Cache) (Aa0_2 : Option Addr) (ca0_2 : Nat) (Aa0_3 : Option Addr) (ca0_3 : Nat) (g1 : Nat) (v_i5 : Int) , Rw kBlob H F Aa0_2 a0.Blobs → a0.Blobs.length ≤ ca0_2 → Rw kEntry H F Aa0_3 a0.Entries → a0.Entries.length ≤ ca0_3 → smithyardref7_CheckCache.l3 e2 k a0 v_i5 = some r → RunH C23 (S23 F H r) H w0 [.c [1, 1, 1, 1, 1, 1, 0, 1, 0, 0], .l [1, 1, 1, 1, 1, 1, 0, 1, 0, 0], .b 2, .c [1, 1, 1, 1, 1, 1, 1]] [(1, .pointer (some ⟨g1, 0, none⟩)), (5, .int .i64 v_i5)] H ((some (g1, .cells #[.int .i64 a0.Room, .int .i64 a0.Lease, .slice Aa0_2 a0.Blobs.length ca0_2, .slice Aa0_3 a0.Entries.length ca0_3] 25 (0, 0))) :: F) := by
  intro k
  induction k with
  | zero => intro a0 Aa0_2 ca0_2 Aa0_3 ca0_3 g1 v_i5 hra0_2 hca0_2 hra0_3 hca0_3 heq; exact nomatch (show (none : Option Int) = some r from heq)
  | succ k ihk =>
    intro a0 Aa0_2 ca0_2 Aa0_3 ca0_3 g1 v_i5 hra0_2 hca0_2 hra0_3 hca0_3 heq
    rw [smithyardref7_CheckCache.l3] at heq
    refine RunH.adm 2 (es' := [.c [1, 1, 1, 1, 1, 1, 0, 1, 0, 0, 0, 0], .c [1, 1, 1, 1, 1, 1, 0, 1, 0, 0, 0, 1], .c [1, 1, 1, 1, 1, 1, 0, 1, 0, 0, 1], .l [1, 1, 1, 1, 1, 1, 0, 1, 0, 0], .b 2, .c [1, 1, 1, 1, 1, 1, 1]]) (by kernel_rfl) ?_
    refine RunH.reg (by kernel_rfl) ?_
    refine RgH.runk 5 [1, 5, 88] (vs := [.slice Aa0_3 a0.Entries.length ca0_3]) (evs := [.load ⟨g1, 3, none⟩ (.slice Aa0_3 a0.Entries.length ca0_3)]) (L' := [(1, .pointer (some ⟨g1, 0, none⟩)), (5, .int .i64 v_i5), (88, .bool (decide (v_i5 < (a0.Entries.length : Int))))]) (by kernel_rfl) (by kernel_rfl) (fun w hh => (hh.box 0 rfl rfl)) ?_
    refine RgH.done (by kernel_rfl) ?_
    rcases bool_cases (decide (v_i5 < (a0.Entries.length : Int))) with hb6 | hb6
    · replace heq := bif_true hb6 heq
      refine RunH.condT (c := decide (v_i5 < (a0.Entries.length : Int))) (by kernel_rfl) hb6 ?_
      refine RunH.adm 4 (es' := [.c [1, 1, 1, 1, 1, 1, 0, 1, 0, 0, 1, 0, 0, 0], .c [1, 1, 1, 1, 1, 1, 0, 1, 0, 0, 1, 0, 0, 1], .b 3, .c [1, 1, 1, 1, 1, 1, 0, 1, 0, 0, 1, 1], .l [1, 1, 1, 1, 1, 1, 0, 1, 0, 0], .b 2, .c [1, 1, 1, 1, 1, 1, 1]]) (by kernel_rfl) ?_
      refine RunH.reg (by kernel_rfl) ?_
      obtain ⟨x1, hx1, heq⟩ := bind_some heq
      obtain ⟨ha1, cs1, hK1, hcc1⟩ := hra0_3.get hx1
      obtain ⟨A1, c1, rfl, hc1, hr1⟩ := kEntry_open hK1
      refine RgH.runk 5 [1, 5, 95] (vs := [.slice Aa0_3 a0.Entries.length ca0_3, .string x1.Key, .slice A1 x1.Refs.length c1, .int .i64 x1.Used]) (evs := [.load ⟨g1, 3, none⟩ (.slice Aa0_3 a0.Entries.length ca0_3), .need (Aa0_3 = some (adr Aa0_3) ∧ (0 : Int) ≤ v_i5 ∧ v_i5 < ((a0.Entries.length : Nat) : Int)), .load (((adr Aa0_3).add (v_i5.toNat * 3)).add 0) (.string x1.Key), .load (((adr Aa0_3).add (v_i5.toNat * 3)).add 1) (.slice A1 x1.Refs.length c1), .load (((adr Aa0_3).add (v_i5.toNat * 3)).add 2) (.int .i64 x1.Used)]) (L' := [(1, .pointer (some ⟨g1, 0, none⟩)), (5, .int .i64 v_i5), (95, .agg #[.string x1.Key, .slice A1 x1.Refs.length c1, .int .i64 x1.Used])]) (by kernel_rfl) (by kernel_rfl) (fun w hh => ⟨(hh.box 0 rfl rfl), ⟨ha1, (at?_some hx1).1, (at?_some hx1).2.1⟩, (hcc1 _ _ (hh.drop 1) 0 _ rfl), (hcc1 _ _ (hh.drop 1) 1 _ rfl), (hcc1 _ _ (hh.drop 1) 2 _ rfl)⟩) ?_
      refine RgH.does (DoesH.new (d := 6) (v := fun g => .pointer (some ⟨g, 0, none⟩)) (o := fun g => .cells #[.string ByteArray.empty, .slice none 0 0, .int .i64 0] 51 (0, 0)) (fun g => by kernel_rfl)) ?_
      rintro _ _ _ _ ⟨g2, rfl, rfl, rfl⟩
      refine RgH.does (DoesH.store (k := 0) (g := g2) (off := 0) (v := .agg #[.string x1.Key, .slice A1 x1.Refs.length c1, .int .i64 x1.Used]) (cells' := #[.string x1.Key, .slice A1 x1.Refs.length c1, .int .i64 x1.Used]) (by kernel_rfl) rfl (by kernel_rfl) (by kernel_rfl)) ?_
      rintro _ _ _ _ ⟨rfl, rfl, rfl⟩
      refine RgH.done (by kernel_rfl) ?_
      refine RunH.adm 2 (es' := [.c [1, 1, 1, 1, 1, 1, 0, 1, 0, 0, 1, 0, 0, 1, 0, 0], .c [1, 1, 1, 1, 1, 1, 0, 1, 0, 0, 1, 0, 0, 1, 0, 1], .c [1, 1, 1, 1, 1, 1, 0, 1, 0, 0, 1, 0, 0, 1, 1], .b 3, .c [1, 1, 1, 1, 1, 1, 0, 1, 0, 0, 1, 1], .l [1, 1, 1, 1, 1, 1, 0, 1, 0, 0], .b 2, .c [1, 1, 1, 1, 1, 1, 1]]) (by kernel_rfl) ?_
      refine RunH.reg (by kernel_rfl) ?_
      refine RgH.runk 2 [1, 5, 6, 97] (vs := [.string x1.Key]) (evs := [.load ⟨g2, 0, none⟩ (.string x1.Key)]) (L' := [(1, .pointer (some ⟨g1, 0, none⟩)), (5, .int .i64 v_i5), (6, .pointer (some ⟨g2, 0, none⟩)), (97, .string x1.Key)]) (by kernel_rfl) (by kernel_rfl) (fun w hh => (hh.box 0 rfl rfl)) ?_
      obtain ⟨y4, hy4, heq⟩ := bind_some heq
      refine RgH.does (DoesH.call (d := 98) (g := 63) (args := #[.string x1.Key]) (by kernel_rfl) (smithyardref1_IsDigest_c (a0 := x1.Key)  hy4)) ?_
      rintro _ _ _ _ ⟨_, rfl, rfl, rfl, rfl⟩
      refine RgH.runk 4 [1, 5, 6, 99] (vs := []) (evs := []) (L' := [(1, .pointer (some ⟨g1, 0, none⟩)), (5, .int .i64 v_i5), (6, .pointer (some ⟨g2, 0, none⟩)), (99, .bool (!y4))]) (by kernel_rfl) (by kernel_rfl) (fun _ _ => trivial) ?_
      refine RgH.done (by kernel_rfl) ?_
      rcases bool_cases (!y4) with hb7 | hb7
      · replace heq := bif_true hb7 heq
        refine RunH.condT (c := !y4) (by kernel_rfl) hb7 ?_
        refine RunH.adm 1 (es' := [.c [1, 1, 1, 1, 1, 1, 0, 1, 0, 0, 1, 0, 0, 1, 0, 1, 0, 0], .c [1, 1, 1, 1, 1, 1, 0, 1, 0, 0, 1, 0, 0, 1, 0, 1, 0, 1], .c [1, 1, 1, 1, 1, 1, 0, 1, 0, 0, 1, 0, 0, 1, 1], .b 3, .c [1, 1, 1, 1, 1, 1, 0, 1, 0, 0, 1, 1], .l [1, 1, 1, 1, 1, 1, 0, 1, 0, 0], .b 2, .c [1, 1, 1, 1, 1, 1, 1]]) (by kernel_rfl) ?_
        refine RunH.reg (by kernel_rfl) ?_
        refine RgH.runk 1 [2] (vs := []) (evs := []) (L' := [(2, .int .i64 3)]) (by kernel_rfl) (by kernel_rfl) (fun _ _ => trivial) ?_
        refine RgH.done (by kernel_rfl) ?_
        obtain rfl := Option.some.inj heq
        refine RunH.pick 2 [] (cs' := F) (by kernel_rfl) rfl ?_
        exact RunH.done (by kernel_rfl) Tryd.func23 (v := .int .i64 3) (by kernel_rfl) ⟨rfl, rfl, rfl⟩
      · replace heq := bif_false hb7 heq
        refine RunH.condF (c := !y4) (by kernel_rfl) hb7 ?_
        refine RunH.adm 3 (es' := [.c [1, 1, 1, 1, 1, 1, 0, 1, 0, 0, 1, 0, 0, 1, 1, 0, 0], .c [1, 1, 1, 1, 1, 1, 0, 1, 0, 0, 1, 0, 0, 1, 1, 0, 1], .c [1, 1, 1, 1, 1, 1, 0, 1, 0, 0, 1, 0, 0, 1, 1, 1], .b 3, .c [1, 1, 1, 1, 1, 1, 0, 1, 0, 0, 1, 1], .l [1, 1, 1, 1, 1, 1, 0, 1, 0, 0], .b 2, .c [1, 1, 1, 1, 1, 1, 1]]) (by kernel_rfl) ?_
        refine RunH.reg (by kernel_rfl) ?_
        refine RgH.runk 4 [1, 5, 6, 103] (vs := [.slice A1 x1.Refs.length c1]) (evs := [.load ⟨g2, 1, none⟩ (.slice A1 x1.Refs.length c1)]) (L' := [(1, .pointer (some ⟨g1, 0, none⟩)), (5, .int .i64 v_i5), (6, .pointer (some ⟨g2, 0, none⟩)), (103, .bool (decide (200 < (x1.Refs.length : Int))))]) (by kernel_rfl) (by kernel_rfl) (fun w hh => (hh.box 0 rfl rfl)) ?_
        refine RgH.done (by kernel_rfl) ?_
        rcases bool_cases (decide (200 < (x1.Refs.length : Int))) with hb8 | hb8
        · replace heq := bif_true hb8 heq
          refine RunH.condT (c := decide (200 < (x1.Refs.length : Int))) (by kernel_rfl) hb8 ?_
          refine RunH.adm 1 (es' := [.c [1, 1, 1, 1, 1, 1, 0, 1, 0, 0, 1, 0, 0, 1, 1, 0, 1, 0, 0], .c [1, 1, 1, 1, 1, 1, 0, 1, 0, 0, 1, 0, 0, 1, 1, 0, 1, 0, 1], .c [1, 1, 1, 1, 1, 1, 0, 1, 0, 0, 1, 0, 0, 1, 1, 1], .b 3, .c [1, 1, 1, 1, 1, 1, 0, 1, 0, 0, 1, 1], .l [1, 1, 1, 1, 1, 1, 0, 1, 0, 0], .b 2, .c [1, 1, 1, 1, 1, 1, 1]]) (by kernel_rfl) ?_
          refine RunH.reg (by kernel_rfl) ?_
          refine RgH.runk 1 [2] (vs := []) (evs := []) (L' := [(2, .int .i64 2)]) (by kernel_rfl) (by kernel_rfl) (fun _ _ => trivial) ?_
          refine RgH.done (by kernel_rfl) ?_
          obtain rfl := Option.some.inj heq
          refine RunH.pick 2 [] (cs' := F) (by kernel_rfl) rfl ?_
          exact RunH.done (by kernel_rfl) Tryd.func23 (v := .int .i64 2) (by kernel_rfl) ⟨rfl, rfl, rfl⟩
        · replace heq := bif_false hb8 heq
          refine RunH.condF (c := decide (200 < (x1.Refs.length : Int))) (by kernel_rfl) hb8 ?_
          refine RunH.adm 3 (es' := [.c [1, 1, 1, 1, 1, 1, 0, 1, 0, 0, 1, 0, 0, 1, 1, 1, 0, 0], .c [1, 1, 1, 1, 1, 1, 0, 1, 0, 0, 1, 0, 0, 1, 1, 1, 0, 1], .c [1, 1, 1, 1, 1, 1, 0, 1, 0, 0, 1, 0, 0, 1, 1, 1, 1], .b 3, .c [1, 1, 1, 1, 1, 1, 0, 1, 0, 0, 1, 1], .l [1, 1, 1, 1, 1, 1, 0, 1, 0, 0], .b 2, .c [1, 1, 1, 1, 1, 1, 1]]) (by kernel_rfl) ?_
          refine RunH.reg (by kernel_rfl) ?_
          refine RgH.runk 2 [1, 5, 6, 105] (vs := [.slice A1 x1.Refs.length c1]) (evs := [.load ⟨g2, 1, none⟩ (.slice A1 x1.Refs.length c1)]) (L' := [(1, .pointer (some ⟨g1, 0, none⟩)), (5, .int .i64 v_i5), (6, .pointer (some ⟨g2, 0, none⟩)), (105, .slice A1 x1.Refs.length c1)]) (by kernel_rfl) (by kernel_rfl) (fun w hh => (hh.box 0 rfl rfl)) ?_
          obtain ⟨y5, hy5, heq⟩ := bind_some heq
          refine RgH.does (DoesH.call (d := 106) (g := 65) (args := #[.slice A1 x1.Refs.length c1]) (by kernel_rfl) (smithyardref7_rising_c (a0 := x1.Refs) (Rw.of hr1) hc1 rfl hy5)) ?_
          rintro _ _ _ _ ⟨_, rfl, rfl, rfl, rfl⟩
          refine RgH.runk 4 [1, 5, 6, 7] (vs := []) (evs := []) (L' := [(1, .pointer (some ⟨g1, 0, none⟩)), (5, .int .i64 v_i5), (6, .pointer (some ⟨g2, 0, none⟩)), (7, .int .i64 y5)]) (by kernel_rfl) (by kernel_rfl) (fun _ _ => trivial) ?_
          refine RgH.done (by kernel_rfl) ?_
          refine RunH.adm 1 (es' := [.c [1, 1, 1, 1, 1, 1, 0, 1, 0, 0, 1, 0, 0, 1, 1, 1, 0, 1, 0], .c [1, 1, 1, 1, 1, 1, 0, 1, 0, 0, 1, 0, 0, 1, 1, 1, 0, 1, 1], .c [1, 1, 1, 1, 1, 1, 0, 1, 0, 0, 1, 0, 0, 1, 1, 1, 1], .b 3, .c [1, 1, 1, 1, 1, 1, 0, 1, 0, 0, 1, 1], .l [1, 1, 1, 1, 1, 1, 0, 1, 0, 0], .b 2, .c [1, 1, 1, 1, 1, 1, 1]]) (by kernel_rfl) ?_
          refine RunH.reg (by kernel_rfl) ?_
          refine RgH.runk 2 [1, 5, 6, 7, 108] (vs := []) (evs := []) (L' := [(1, .pointer (some ⟨g1, 0, none⟩)), (5, .int .i64 v_i5), (6, .pointer (some ⟨g2, 0, none⟩)), (7, .int .i64 y5), (108, .bool (y5 != 0))]) (by kernel_rfl) (by kernel_rfl) (fun _ _ => trivial) ?_
          refine RgH.done (by kernel_rfl) ?_
          rcases bool_cases (y5 != 0) with hb9 | hb9
          · replace heq := bif_true hb9 heq
            refine RunH.condT (c := y5 != 0) (by kernel_rfl) hb9 ?_
            refine RunH.adm 1 (es' := [.c [1, 1, 1, 1, 1, 1, 0, 1, 0, 0, 1, 0, 0, 1, 1, 1, 0, 1, 1, 0, 0], .c [1, 1, 1, 1, 1, 1, 0, 1, 0, 0, 1, 0, 0, 1, 1, 1, 0, 1, 1, 0, 1], .c [1, 1, 1, 1, 1, 1, 0, 1, 0, 0, 1, 0, 0, 1, 1, 1, 1], .b 3, .c [1, 1, 1, 1, 1, 1, 0, 1, 0, 0, 1, 1], .l [1, 1, 1, 1, 1, 1, 0, 1, 0, 0], .b 2, .c [1, 1, 1, 1, 1, 1, 1]]) (by kernel_rfl) ?_
            refine RunH.reg (by kernel_rfl) ?_
            refine RgH.runk 2 [2] (vs := []) (evs := []) (L' := [(2, .int .i64 y5)]) (by kernel_rfl) (by kernel_rfl) (fun _ _ => trivial) ?_
            refine RgH.done (by kernel_rfl) ?_
            obtain rfl := Option.some.inj heq
            refine RunH.pick 2 [] (cs' := F) (by kernel_rfl) rfl ?_
            exact RunH.done (by kernel_rfl) Tryd.func23 (v := .int .i64 y5) (by kernel_rfl) ⟨rfl, rfl, rfl⟩
          · replace heq := bif_false hb9 heq
            refine RunH.condF (c := y5 != 0) (by kernel_rfl) hb9 ?_
            refine RunH.adm 3 (es' := [.c [1, 1, 1, 1, 1, 1, 0, 1, 0, 0, 1, 0, 0, 1, 1, 1, 1, 0, 0], .c [1, 1, 1, 1, 1, 1, 0, 1, 0, 0, 1, 0, 0, 1, 1, 1, 1, 0, 1], .c [1, 1, 1, 1, 1, 1, 0, 1, 0, 0, 1, 0, 0, 1, 1, 1, 1, 1], .b 3, .c [1, 1, 1, 1, 1, 1, 0, 1, 0, 0, 1, 1], .l [1, 1, 1, 1, 1, 1, 0, 1, 0, 0], .b 2, .c [1, 1, 1, 1, 1, 1, 1]]) (by kernel_rfl) ?_
            refine RunH.reg (by kernel_rfl) ?_
            refine RgH.runk 2 [1, 5, 6, 111] (vs := [.int .i64 x1.Used]) (evs := [.load ⟨g2, 2, none⟩ (.int .i64 x1.Used)]) (L' := [(1, .pointer (some ⟨g1, 0, none⟩)), (5, .int .i64 v_i5), (6, .pointer (some ⟨g2, 0, none⟩)), (111, .int .i64 x1.Used)]) (by kernel_rfl) (by kernel_rfl) (fun w hh => (hh.box 0 rfl rfl)) ?_
            obtain ⟨y6, hy6, heq⟩ := bind_some heq
            refine RgH.does (DoesH.call (d := 112) (g := 62) (args := #[.int .i64 x1.Used, .int .i64 0, .int .i64 1000000000]) (by kernel_rfl) (smithyardref7_within_c (a0 := x1.Used) (a1 := 0) (a2 := 1000000000)  hy6)) ?_
            rintro _ _ _ _ ⟨_, rfl, rfl, rfl, rfl⟩
            refine RgH.runk 4 [1, 5, 6, 113] (vs := []) (evs := []) (L' := [(1, .pointer (some ⟨g1, 0, none⟩)), (5, .int .i64 v_i5), (6, .pointer (some ⟨g2, 0, none⟩)), (113, .bool (!y6))]) (by kernel_rfl) (by kernel_rfl) (fun _ _ => trivial) ?_
            refine RgH.done (by kernel_rfl) ?_
            rcases bool_cases (!y6) with hb10 | hb10
            · replace heq := bif_true hb10 heq
              refine RunH.condT (c := !y6) (by kernel_rfl) hb10 ?_
              refine RunH.adm 1 (es' := [.c [1, 1, 1, 1, 1, 1, 0, 1, 0, 0, 1, 0, 0, 1, 1, 1, 1, 0, 1, 0, 0], .c [1, 1, 1, 1, 1, 1, 0, 1, 0, 0, 1, 0, 0, 1, 1, 1, 1, 0, 1, 0, 1], .c [1, 1, 1, 1, 1, 1, 0, 1, 0, 0, 1, 0, 0, 1, 1, 1, 1, 1], .b 3, .c [1, 1, 1, 1, 1, 1, 0, 1, 0, 0, 1, 1], .l [1, 1, 1, 1, 1, 1, 0, 1, 0, 0], .b 2, .c [1, 1, 1, 1, 1, 1, 1]]) (by kernel_rfl) ?_
              refine RunH.reg (by kernel_rfl) ?_
              refine RgH.runk 1 [2] (vs := []) (evs := []) (L' := [(2, .int .i64 1)]) (by kernel_rfl) (by kernel_rfl) (fun _ _ => trivial) ?_
              refine RgH.done (by kernel_rfl) ?_
              obtain rfl := Option.some.inj heq
              refine RunH.pick 2 [] (cs' := F) (by kernel_rfl) rfl ?_
              exact RunH.done (by kernel_rfl) Tryd.func23 (v := .int .i64 1) (by kernel_rfl) ⟨rfl, rfl, rfl⟩
            · replace heq := bif_false hb10 heq
              refine RunH.condF (c := !y6) (by kernel_rfl) hb10 ?_
              refine RunH.adm 2 (es' := [.c [1, 1, 1, 1, 1, 1, 0, 1, 0, 0, 1, 0, 0, 1, 1, 1, 1, 1, 0], .c [1, 1, 1, 1, 1, 1, 0, 1, 0, 0, 1, 0, 0, 1, 1, 1, 1, 1, 1], .b 3, .c [1, 1, 1, 1, 1, 1, 0, 1, 0, 0, 1, 1], .l [1, 1, 1, 1, 1, 1, 0, 1, 0, 0], .b 2, .c [1, 1, 1, 1, 1, 1, 1]]) (by kernel_rfl) ?_
              obtain ⟨t2, ht2, heq⟩ := bind_some heq
              have K4 : RunH C23 (S23 F H r) H w0 [.c [1, 1, 1, 1, 1, 1, 0, 1, 0, 0, 1, 0, 0, 1, 1, 1, 1, 1, 1], .b 3, .c [1, 1, 1, 1, 1, 1, 0, 1, 0, 0, 1, 1], .l [1, 1, 1, 1, 1, 1, 0, 1, 0, 0], .b 2, .c [1, 1, 1, 1, 1, 1, 1]] [(1, .pointer (some ⟨g1, 0, none⟩)), (5, .int .i64 v_i5), (127, .bool t2)] H ((some (g1, .cells #[.int .i64 a0.Room, .int .i64 a0.Lease, .slice Aa0_2 a0.Blobs.length ca0_2, .slice Aa0_3 a0.Entries.length ca0_3] 25 (0, 0))) :: F) := by
                rcases bool_cases (t2) with hb12 | hb12
                · replace heq := bif_true hb12 heq
                  refine RunH.condT (c := t2) (by kernel_rfl) hb12 ?_
                  refine RunH.adm 1 (es' := [.c [1, 1, 1, 1, 1, 1, 0, 1, 0, 0, 1, 0, 0, 1, 1, 1, 1, 1, 1, 0, 0], .c [1, 1, 1, 1, 1, 1, 0, 1, 0, 0, 1, 0, 0, 1, 1, 1, 1, 1, 1, 0, 1], .b 3, .c [1, 1, 1, 1, 1, 1, 0, 1, 0, 0, 1, 1], .l [1, 1, 1, 1, 1, 1, 0, 1, 0, 0], .b 2, .c [1, 1, 1, 1, 1, 1, 1]]) (by kernel_rfl) ?_
                  refine RunH.reg (by kernel_rfl) ?_
                  refine RgH.runk 1 [2] (vs := []) (evs := []) (L' := [(2, .int .i64 8)]) (by kernel_rfl) (by kernel_rfl) (fun _ _ => trivial) ?_
                  refine RgH.done (by kernel_rfl) ?_
                  obtain rfl := Option.some.inj heq
                  refine RunH.pick 1 [] (cs' := F) (by kernel_rfl) rfl ?_
                  exact RunH.done (by kernel_rfl) Tryd.func23 (v := .int .i64 8) (by kernel_rfl) ⟨rfl, rfl, rfl⟩
                · replace heq := bif_false hb12 heq
                  refine RunH.condF (c := t2) (by kernel_rfl) hb12 ?_
                  refine RunH.adm 2 (es' := [.c [1, 1, 1, 1, 1, 1, 0, 1, 0, 0, 1, 1], .l [1, 1, 1, 1, 1, 1, 0, 1, 0, 0], .b 2, .c [1, 1, 1, 1, 1, 1, 1]]) (by kernel_rfl) ?_
                  refine RunH.reg (by kernel_rfl) ?_
                  refine RgH.runk 3 [1, 5] (vs := []) (evs := []) (L' := [(1, .pointer (some ⟨g1, 0, none⟩)), (5, .int .i64 (w64 (v_i5 + 1)))]) (by kernel_rfl) (by kernel_rfl) (fun _ _ => trivial) ?_
                  refine RgH.done (by kernel_rfl) ?_
                  refine RunH.adm 1 (es' := [.c [1, 1, 1, 1, 1, 1, 0, 1, 0, 0], .l [1, 1, 1, 1, 1, 1, 0, 1, 0, 0], .b 2, .c [1, 1, 1, 1, 1, 1, 1]]) (by kernel_rfl) ?_
                  refine RunH.keep [1, 5] (L' := [(1, .pointer (some ⟨g1, 0, none⟩)), (5, .int .i64 (w64 (v_i5 + 1)))]) (by kernel_rfl) ?_
                  exact ihk a0 _ _ _ _ _ (w64 (v_i5 + 1)) hra0_2 hca0_2 hra0_3 hca0_3 heq
              replace heq := ht2
              refine RunH.keep [1, 5, 6] (L' := [(1, .pointer (some ⟨g1, 0, none⟩)), (5, .int .i64 v_i5), (6, .pointer (some ⟨g2, 0, none⟩))]) (by kernel_rfl) ?_
              refine RunH.draw (fun w => Heap H w0 w ((some (g2, .cells #[.string x1.Key, .slice A1 x1.Refs.length c1, .int .i64 x1.Used] 51 (0, 0))) :: (some (g1, .cells #[.int .i64 a0.Room, .int .i64 a0.Lease, .slice Aa0_2 a0.Blobs.length ca0_2, .slice Aa0_3 a0.Entries.length ca0_3] 25 (0, 0))) :: F)) (fun w => Heap H w0 w ((some (g2, .cells #[.string x1.Key, .slice A1 x1.Refs.length c1, .int .i64 x1.Used] 51 (0, 0))) :: (some (g1, .cells #[.int .i64 a0.Room, .int .i64 a0.Lease, .slice Aa0_2 a0.Blobs.length ca0_2, .slice Aa0_3 a0.Entries.length ca0_3] 25 (0, 0))) :: F)) [false, false, false, false, false, false, false, false, false, false, false, false, false, false] (n := 14) (ls := [false, false, false, false, false, false, false, false, false, false, false, false, false, false]) (by kernel_rfl) (by kernel_rfl) (by kernel_rfl) rfl ?_
              refine DrH.run [0, 1, 2] (m := 11) (ls' := [true, true, true, false, false, false, false, false, false, false, false, false, false, false]) (vs := []) (evs := []) (L' := [(116, .bool (decide (0 < v_i5))), (115, .bool (decide (0 < v_i5))), (114, .int .i64 v_i5), (1, .pointer (some ⟨g1, 0, none⟩)), (5, .int .i64 v_i5), (6, .pointer (some ⟨g2, 0, none⟩))]) (by kernel_rfl) (fun w hh => hh.pick 2 [0, 1] (by kernel_rfl)) (fun w hh => hh.pick 2 [0, 1] (by kernel_rfl)) (by kernel_rfl) (fun _ _ => trivial) (by kernel_rfl) ?_
              refine DrH.keep [116, 1, 5, 6] (L' := [(116, .bool (decide (0 < v_i5))), (1, .pointer (some ⟨g1, 0, none⟩)), (5, .int .i64 v_i5), (6, .pointer (some ⟨g2, 0, none⟩))]) (by kernel_rfl) ?_
              rcases bool_cases (decide (0 < v_i5)) with hb11 | hb11
              · replace heq := bif_true hb11 heq
                refine DrH.val1 (v' := .bool true) (congrArg Value.bool hb11) ?_
                obtain ⟨x2, hx2, heq⟩ := bind_some heq
                obtain ⟨ha2, cs2, hK2, hcc2⟩ := hra0_3.get hx2
                obtain ⟨A2, c2, rfl, hc2, hr2⟩ := kEntry_open hK2
                refine DrH.run [3, 4, 5, 6, 7, 8, 9, 10, 11, 12, 13] (m := 0) (ls' := [true, true, true, true, true, true, true, true, true, true, true, true, true, true]) (vs := [.string x1.Key, .slice Aa0_3 a0.Entries.length ca0_3, .string x2.Key]) (evs := [.load ⟨g2, 0, none⟩ (.string x1.Key), .load ⟨g1, 3, none⟩ (.slice Aa0_3 a0.Entries.length ca0_3), .need (Aa0_3 = some (adr Aa0_3) ∧ (0 : Int) ≤ (w64 (v_i5 - 1)) ∧ (w64 (v_i5 - 1)) < ((a0.Entries.length : Nat) : Int)), .load (((adr Aa0_3).add ((w64 (v_i5 - 1)).toNat * 3)).add 0) (.string x2.Key)]) (L' := [(127, .bool (sLt x1.Key x2.Key || sEq x1.Key x2.Key)), (126, .bool (sLt x1.Key x2.Key || sEq x1.Key x2.Key)), (125, .string x2.Key), (124, .pointer (some (((adr Aa0_3).add ((w64 (v_i5 - 1)).toNat * 3)).add 0))), (123, .pointer (some ((adr Aa0_3).add ((w64 (v_i5 - 1)).toNat * 3)))), (122, .int .i64 (w64 (v_i5 - 1))), (121, .int .i64 v_i5), (120, .slice Aa0_3 a0.Entries.length ca0_3), (119, .pointer (some ⟨g1, 3, none⟩)), (118, .string x1.Key), (117, .pointer (some ⟨g2, 0, none⟩)), (116, .bool true), (1, .pointer (some ⟨g1, 0, none⟩)), (5, .int .i64 v_i5), (6, .pointer (some ⟨g2, 0, none⟩))]) (by kernel_rfl) (fun w hh => hh.pick 2 [0, 1] (by kernel_rfl)) (fun w hh => hh.pick 2 [0, 1] (by kernel_rfl)) (by kernel_rfl) (fun w hh => ⟨(hh.box 0 rfl rfl), (hh.box 1 rfl rfl), ⟨ha2, (at?_some hx2).1, (at?_some hx2).2.1⟩, (hcc2 _ _ (hh.drop 2) 0 _ rfl)⟩) (by kernel_rfl) ?_
                refine DrH.keep [1, 5, 127] (L' := [(1, .pointer (some ⟨g1, 0, none⟩)), (5, .int .i64 v_i5), (127, .bool (sLt x1.Key x2.Key || sEq x1.Key x2.Key))]) (by kernel_rfl) ?_
                obtain rfl := Option.some.inj heq
                refine DrH.keep [1, 5, 127] (L' := [(1, .pointer (some ⟨g1, 0, none⟩)), (5, .int .i64 v_i5), (127, .bool (sLt x1.Key x2.Key || sEq x1.Key x2.Key))]) (by kernel_rfl) ?_
                refine DrH.pick 2 [1] (cs' := (some (g1, .cells #[.int .i64 a0.Room, .int .i64 a0.Lease, .slice Aa0_2 a0.Blobs.length ca0_2, .slice Aa0_3 a0.Entries.length ca0_3] 25 (0, 0))) :: F) (by kernel_rfl) rfl ?_
                refine DrH.done (by kernel_rfl) ?_
                exact K4
              · replace heq := bif_false hb11 heq
                refine DrH.val1 (v' := .bool false) (congrArg Value.bool hb11) ?_
                refine DrH.run [3, 4, 5, 6, 7, 8, 9, 10, 11, 12, 13] (m := 0) (ls' := [true, true, true, true, true, true, true, true, true, true, true, true, true, true]) (vs := []) (evs := []) (L' := [(127, .bool false), (126, undef), (125, undef), (124, undef), (123, undef), (122, undef), (121, undef), (120, undef), (119, undef), (118, undef), (117, undef), (116, .bool false), (1, .pointer (some ⟨g1, 0, none⟩)), (5, .int .i64 v_i5), (6, .pointer (some ⟨g2, 0, none⟩))]) (by kernel_rfl) (fun w hh => hh.pick 2 [0, 1] (by kernel_rfl)) (fun w hh => hh.pick 2 [0, 1] (by kernel_rfl)) (by kernel_rfl) (fun _ _ => trivial) (by kernel_rfl) ?_
                refine DrH.keep [1, 5, 127] (L' := [(1, .pointer (some ⟨g1, 0, none⟩)), (5, .int .i64 v_i5), (127, .bool false)]) (by kernel_rfl) ?_
                obtain rfl := Option.some.inj heq
                refine DrH.keep [1, 5, 127] (L' := [(1, .pointer (some ⟨g1, 0, none⟩)), (5, .int .i64 v_i5), (127, .bool false)]) (by kernel_rfl) ?_
                refine DrH.pick 2 [1] (cs' := (some (g1, .cells #[.int .i64 a0.Room, .int .i64 a0.Lease, .slice Aa0_2 a0.Blobs.length ca0_2, .slice Aa0_3 a0.Entries.length ca0_3] 25 (0, 0))) :: F) (by kernel_rfl) rfl ?_
                refine DrH.done (by kernel_rfl) ?_
                exact K4
    · replace heq := bif_false hb6 heq
      refine RunH.condF (c := decide (v_i5 < (a0.Entries.length : Int))) (by kernel_rfl) hb6 ?_
      refine RunH.adm 2 (es' := [.c [1, 1, 1, 1, 1, 1, 1, 0], .c [1, 1, 1, 1, 1, 1, 1, 1]]) (by kernel_rfl) ?_
      refine RunH.keep [] (L' := []) (by kernel_rfl) ?_
      refine RunH.pick 1 [] (cs' := F) (by kernel_rfl) rfl ?_
      exact he2 heq
theorem smithyardref7_CheckCache.e1_c {w0 : World} {H : Hp} {F : List Ch} {r : Int} : ∀ (a0 : Cache) (Aa0_2 : Option Addr) (ca0_2 : Nat) (Aa0_3 : Option Addr) (ca0_3 : Nat) (g1 : Nat) , Rw kBlob H F Aa0_2 a0.Blobs → a0.Blobs.length ≤ ca0_2 → Rw kEntry H F Aa0_3 a0.Entries → a0.Entries.length ≤ ca0_3 → smithyardref7_CheckCache.e1 a0 = some r → RunH C23 (S23 F H r) H w0 [.c [1, 1, 1, 1, 0, 0], .c [1, 1, 1, 1, 0, 1], .c [1, 1, 1, 1, 1]] [(1, .pointer (some ⟨g1, 0, none⟩))] H ((some (g1, .cells #[.int .i64 a0.Room, .int .i64 a0.Lease, .slice Aa0_2 a0.Blobs.length ca0_2, .slice Aa0_3 a0.Entries.length ca0_3] 25 (0, 0))) :: F) := by
  intro a0 Aa0_2 ca0_2 Aa0_3 ca0_3 g1 hra0_2 hca0_2 hra0_3 hca0_3 heq
  unfold smithyardref7_CheckCache.e1 at heq
  refine RunH.keep [1] (L' := [(1, .pointer (some ⟨g1, 0, none⟩))]) (by kernel_rfl) ?_
  refine RunH.draw (fun w => Heap H w0 w ((some (g1, .cells #[.int .i64 a0.Room, .int .i64 a0.Lease, .slice Aa0_2 a0.Blobs.length ca0_2, .slice Aa0_3 a0.Entries.length ca0_3] 25 (0, 0))) :: F)) (fun w => Heap H w0 w ((some (g1, .cells #[.int .i64 a0.Room, .int .i64 a0.Lease, .slice Aa0_2 a0.Blobs.length ca0_2, .slice Aa0_3 a0.Entries.length ca0_3] 25 (0, 0))) :: F)) [false, false, false, false, false, false] (n := 6) (ls := [false, false, false, false, false, false]) (by kernel_rfl) (by kernel_rfl) (by kernel_rfl) rfl ?_
  refine DrH.run [0, 1, 3, 4] (m := 2) (ls' := [true, true, false, true, true, false]) (vs := [.slice Aa0_2 a0.Blobs.length ca0_2, .int .i64 a0.Room]) (evs := [.load ⟨g1, 2, none⟩ (.slice Aa0_2 a0.Blobs.length ca0_2), .load ⟨g1, 0, none⟩ (.int .i64 a0.Room)]) (L' := [(78, .int .i64 a0.Room), (77, .pointer (some ⟨g1, 0, none⟩)), (75, .slice Aa0_2 a0.Blobs.length ca0_2), (74, .pointer (some ⟨g1, 2, none⟩)), (1, .pointer (some ⟨g1, 0, none⟩))]) (by kernel_rfl) (fun w hh => hh.pick 1 [0] (by kernel_rfl)) (fun w hh => hh.pick 1 [0] (by kernel_rfl)) (by kernel_rfl) (fun w hh => ⟨(hh.box 0 rfl rfl), (hh.box 0 rfl rfl)⟩) (by kernel_rfl) ?_
  refine DrH.keep [1, 75, 78] (L' := [(1, .pointer (some ⟨g1, 0, none⟩)), (75, .slice Aa0_2 a0.Blobs.length ca0_2), (78, .int .i64 a0.Room)]) (by kernel_rfl) ?_
  obtain ⟨y3, hy3, heq⟩ := bind_some heq
  refine DrH.does (n := 1) (ls' := [true, true, true, true, true, false]) 2 (by kernel_rfl) rfl (DoesH.call (d := 76) (g := 64) (args := #[.slice Aa0_2 a0.Blobs.length ca0_2]) (by kernel_rfl) (smithyardref7_bytesOf_c (a0 := a0.Blobs) (hra0_2.wk (fun _ h => (.tail _ h))) hca0_2 rfl hy3)) ?_
  rintro _ _ _ _ ⟨_, rfl, rfl, rfl, rfl⟩
  refine ⟨fun w hh => ⟨(fun w hh => hh.pick 1 [0] (by kernel_rfl)) w hh, fun _ => (fun w hh => hh.pick 1 [0] (by kernel_rfl)) w hh⟩, ?_⟩
  refine DrH.run [5] (m := 0) (ls' := [true, true, true, true, true, true]) (vs := []) (evs := []) (L' := [(79, .bool (decide (a0.Room < y3))), (76, .int .i64 y3), (1, .pointer (some ⟨g1, 0, none⟩)), (75, .slice Aa0_2 a0.Blobs.length ca0_2), (78, .int .i64 a0.Room)]) (by kernel_rfl) (fun w hh => hh.pick 1 [0] (by kernel_rfl)) (fun w hh => hh.pick 1 [0] (by kernel_rfl)) (by kernel_rfl) (fun _ _ => trivial) (by kernel_rfl) ?_
  refine DrH.keep [1, 79] (L' := [(1, .pointer (some ⟨g1, 0, none⟩)), (79, .bool (decide (a0.Room < y3)))]) (by kernel_rfl) ?_
  refine DrH.done (by kernel_rfl) ?_
  rcases bool_cases (decide (a0.Room < y3)) with hb4 | hb4
  · replace heq := bif_true hb4 heq
    refine RunH.condT (c := decide (a0.Room < y3)) (by kernel_rfl) hb4 ?_
    refine RunH.adm 1 (es' := [.c [1, 1, 1, 1, 0, 1, 0, 0], .c [1, 1, 1, 1, 0, 1, 0, 1], .c [1, 1, 1, 1, 1]]) (by kernel_rfl) ?_
    refine RunH.reg (by kernel_rfl) ?_
    refine RgH.runk 1 [2] (vs := []) (evs := []) (L' := [(2, .int .i64 16)]) (by kernel_rfl) (by kernel_rfl) (fun _ _ => trivial) ?_
    refine RgH.done (by kernel_rfl) ?_
    obtain rfl := Option.some.inj heq
    refine RunH.pick 1 [] (cs' := F) (by kernel_rfl) rfl ?_
    exact RunH.done (by kernel_rfl) Tryd.func23 (v := .int .i64 16) (by kernel_rfl) ⟨rfl, rfl, rfl⟩
  · replace heq := bif_false hb4 heq
    refine RunH.condF (c := decide (a0.Room < y3)) (by kernel_rfl) hb4 ?_
    refine RunH.adm 3 (es' := [.c [1, 1, 1, 1, 1, 0, 0], .c [1, 1, 1, 1, 1, 0, 1], .c [1, 1, 1, 1, 1, 1]]) (by kernel_rfl) ?_
    refine RunH.reg (by kernel_rfl) ?_
    refine RgH.runk 4 [1, 83] (vs := [.slice Aa0_3 a0.Entries.length ca0_3]) (evs := [.load ⟨g1, 3, none⟩ (.slice Aa0_3 a0.Entries.length ca0_3)]) (L' := [(1, .pointer (some ⟨g1, 0, none⟩)), (83, .bool (decide (1000 < (a0.Entries.length : Int))))]) (by kernel_rfl) (by kernel_rfl) (fun w hh => (hh.box 0 rfl rfl)) ?_
    refine RgH.done (by kernel_rfl) ?_
    rcases bool_cases (decide (1000 < (a0.Entries.length : Int))) with hb5 | hb5
    · replace heq := bif_true hb5 heq
      refine RunH.condT (c := decide (1000 < (a0.Entries.length : Int))) (by kernel_rfl) hb5 ?_
      refine RunH.adm 1 (es' := [.c [1, 1, 1, 1, 1, 0, 1, 0, 0], .c [1, 1, 1, 1, 1, 0, 1, 0, 1], .c [1, 1, 1, 1, 1, 1]]) (by kernel_rfl) ?_
      refine RunH.reg (by kernel_rfl) ?_
      refine RgH.runk 1 [2] (vs := []) (evs := []) (L' := [(2, .int .i64 2)]) (by kernel_rfl) (by kernel_rfl) (fun _ _ => trivial) ?_
      refine RgH.done (by kernel_rfl) ?_
      obtain rfl := Option.some.inj heq
      refine RunH.pick 1 [] (cs' := F) (by kernel_rfl) rfl ?_
      exact RunH.done (by kernel_rfl) Tryd.func23 (v := .int .i64 2) (by kernel_rfl) ⟨rfl, rfl, rfl⟩
    · replace heq := bif_false hb5 heq
      refine RunH.condF (c := decide (1000 < (a0.Entries.length : Int))) (by kernel_rfl) hb5 ?_
      refine RunH.adm 3 (es' := [.c [1, 1, 1, 1, 1, 1, 0, 0], .c [1, 1, 1, 1, 1, 1, 0, 1], .c [1, 1, 1, 1, 1, 1, 1]]) (by kernel_rfl) ?_
      refine RunH.reg (by kernel_rfl) ?_
      refine RgH.runk 1 [1, 5] (vs := []) (evs := []) (L' := [(1, .pointer (some ⟨g1, 0, none⟩)), (5, .int .i64 0)]) (by kernel_rfl) (by kernel_rfl) (fun _ _ => trivial) ?_
      refine RgH.done (by kernel_rfl) ?_
      refine RunH.adm 2 (es' := [.c [1, 1, 1, 1, 1, 1, 0, 1, 0, 0], .l [1, 1, 1, 1, 1, 1, 0, 1, 0, 0], .b 2, .c [1, 1, 1, 1, 1, 1, 1]]) (by kernel_rfl) ?_
      refine RunH.keep [1, 5] (L' := [(1, .pointer (some ⟨g1, 0, none⟩)), (5, .int .i64 0)]) (by kernel_rfl) ?_
      exact ((smithyardref7_CheckCache.l3_c (e2 := smithyardref7_CheckCache.e2) (smithyardref7_CheckCache.e2_c)) big) a0 _ _ _ _ _ 0 hra0_2 hca0_2 hra0_3 hca0_3 heq
theorem smithyardref7_CheckCache.l4_c {w0 : World} {H : Hp} {F : List Ch} {r : Int} (e1 : Cache → Option Int)
    (he1 : ∀ (a0 : Cache) (Aa0_2 : Option Addr) (ca0_2 : Nat) (Aa0_3 : Option Addr) (ca0_3 : Nat) (g1 : Nat) , Rw kBlob H F Aa0_2 a0.Blobs → a0.Blobs.length ≤ ca0_2 → Rw kEntry H F Aa0_3 a0.Entries → a0.Entries.length ≤ ca0_3 → e1 a0 = some r → RunH C23 (S23 F H r) H w0 [.c [1, 1, 1, 1, 0, 0], .c [1, 1, 1, 1, 0, 1], .c [1, 1, 1, 1, 1]] [(1, .pointer (some ⟨g1, 0, none⟩))] H ((some (g1, .cells #[.int .i64 a0.Room, .int .i64 a0.Lease, .slice Aa0_2 a0.Blobs.length ca0_2, .slice Aa0_3 a0.Entries.length ca0_3] 25 (0, 0))) :: F)) : ∀ (k : Nat), ∀ (a0 : Cache) (Aa0_2 : Option Addr) (ca0_2 : Nat) (Aa0_3 : Option Addr) (ca0_3 : Nat) (g1 : Nat) (v_i3 : Int) , Rw kBlob H F Aa0_2 a0.Blobs → a0.Blobs.length ≤ ca0_2 → Rw kEntry H F Aa0_3 a0.Entries → a0.Entries.length ≤ ca0_3 → smithyardref7_CheckCache.l4 e1 k a0 v_i3 = some r → RunH C23 (S23 F H r) H w0 [.c [1, 1, 1, 0, 1, 0, 0], .l [1, 1, 1, 0, 1, 0, 0], .b 0, .c [1, 1, 1, 1]] [(1, .pointer (some ⟨g1, 0, none⟩)), (3, .int .i64 v_i3)] H ((some (g1, .cells #[.int .i64 a0.Room, .int .i64 a0.Lease, .slice Aa0_2 a0.Blobs.length ca0_2, .slice Aa0_3 a0.Entries.length ca0_3] 25 (0, 0))) :: F) := by
  intro k
  induction k with
  | zero => intro a0 Aa0_2 ca0_2 Aa0_3 ca0_3 g1 v_i3 hra0_2 hca0_2 hra0_3 hca0_3 heq; exact nomatch (show (none : Option Int) = some r from heq)
  | succ k ihk =>
    intro a0 Aa0_2 ca0_2 Aa0_3 ca0_3 g1 v_i3 hra0_2 hca0_2 hra0_3 hca0_3 heq
    rw [smithyardref7_CheckCache.l4] at heq
    refine RunH.adm 2 (es' := [.c [1, 1, 1, 0, 1, 0, 0, 0, 0], .c [1, 1, 1, 0, 1, 0, 0, 0, 1], .c [1, 1, 1, 0, 1, 0, 0, 1], .l [1, 1, 1, 0, 1, 0, 0], .b 0, .c [1, 1, 1, 1]]) (by kernel_rfl) ?_
    refine RunH.reg (by kernel_rfl) ?_
    refine RgH.runk 5 [1, 3, 26] (vs := [.slice Aa0_2 a0.Blobs.length ca0_2]) (evs := [.load ⟨g1, 2, none⟩ (.slice Aa0_2 a0.Blobs.length ca0_2)]) (L' := [(1, .pointer (some ⟨g1, 0, none⟩)), (3, .int .i64 v_i3), (26, .bool (decide (v_i3 < (a0.Blobs.length : Int))))]) (by kernel_rfl) (by kernel_rfl) (fun w hh => (hh.box 0 rfl rfl)) ?_
    refine RgH.done (by kernel_rfl) ?_
    rcases bool_cases (decide (v_i3 < (a0.Blobs.length : Int))) with hb13 | hb13
    · replace heq := bif_true hb13 heq
      refine RunH.condT (c := decide (v_i3 < (a0.Blobs.length : Int))) (by kernel_rfl) hb13 ?_
      refine RunH.adm 4 (es' := [.c [1, 1, 1, 0, 1, 0, 0, 1, 0, 0, 0], .c [1, 1, 1, 0, 1, 0, 0, 1, 0, 0, 1], .b 1, .c [1, 1, 1, 0, 1, 0, 0, 1, 1], .l [1, 1, 1, 0, 1, 0, 0], .b 0, .c [1, 1, 1, 1]]) (by kernel_rfl) ?_
      refine RunH.reg (by kernel_rfl) ?_
      obtain ⟨x3, hx3, heq⟩ := bind_some heq
      obtain ⟨ha3, cs3, hK3, hcc3⟩ := hra0_2.get hx3
      obtain ⟨rfl⟩ := kBlob_open hK3
      refine RgH.runk 5 [1, 3, 33] (vs := [.slice Aa0_2 a0.Blobs.length ca0_2, .string x3.Digest, .int .i64 x3.Size, .int .i64 x3.Used, .int .i64 x3.Until, .int .i64 x3.Pins]) (evs := [.load ⟨g1, 2, none⟩ (.slice Aa0_2 a0.Blobs.length ca0_2), .need (Aa0_2 = some (adr Aa0_2) ∧ (0 : Int) ≤ v_i3 ∧ v_i3 < ((a0.Blobs.length : Nat) : Int)), .load (((adr Aa0_2).add (v_i3.toNat * 5)).add 0) (.string x3.Digest), .load (((adr Aa0_2).add (v_i3.toNat * 5)).add 1) (.int .i64 x3.Size), .load (((adr Aa0_2).add (v_i3.toNat * 5)).add 2) (.int .i64 x3.Used), .load (((adr Aa0_2).add (v_i3.toNat * 5)).add 3) (.int .i64 x3.Until), .load (((adr Aa0_2).add (v_i3.toNat * 5)).add 4) (.int .i64 x3.Pins)]) (L' := [(1, .pointer (some ⟨g1, 0, none⟩)), (3, .int .i64 v_i3), (33, .agg #[.string x3.Digest, .int .i64 x3.Size, .int .i64 x3.Used, .int .i64 x3.Until, .int .i64 x3.Pins])]) (by kernel_rfl) (by kernel_rfl) (fun w hh => ⟨(hh.box 0 rfl rfl), ⟨ha3, (at?_some hx3).1, (at?_some hx3).2.1⟩, (hcc3 _ _ (hh.drop 1) 0 _ rfl), (hcc3 _ _ (hh.drop 1) 1 _ rfl), (hcc3 _ _ (hh.drop 1) 2 _ rfl), (hcc3 _ _ (hh.drop 1) 3 _ rfl), (hcc3 _ _ (hh.drop 1) 4 _ rfl)⟩) ?_
      refine RgH.does (DoesH.new (d := 4) (v := fun g => .pointer (some ⟨g, 0, none⟩)) (o := fun g => .cells #[.string ByteArray.empty, .int .i64 0, .int .i64 0, .int .i64 0, .int .i64 0] 47 (0, 0)) (fun g => by kernel_rfl)) ?_
      rintro _ _ _ _ ⟨g3, rfl, rfl, rfl⟩
      refine RgH.does (DoesH.store (k := 0) (g := g3) (off := 0) (v := .agg #[.string x3.Digest, .int .i64 x3.Size, .int .i64 x3.Used, .int .i64 x3.Until, .int .i64 x3.Pins]) (cells' := #[.string x3.Digest, .int .i64 x3.Size, .int .i64 x3.Used, .int .i64 x3.Until, .int .i64 x3.Pins]) (by kernel_rfl) rfl (by kernel_rfl) (by kernel_rfl)) ?_
      rintro _ _ _ _ ⟨rfl, rfl, rfl⟩
      refine RgH.done (by kernel_rfl) ?_
      refine RunH.adm 2 (es' := [.c [1, 1, 1, 0, 1, 0, 0, 1, 0, 0, 1, 0, 0], .c [1, 1, 1, 0, 1, 0, 0, 1, 0, 0, 1, 0, 1], .c [1, 1, 1, 0, 1, 0, 0, 1, 0, 0, 1, 1], .b 1, .c [1, 1, 1, 0, 1, 0, 0, 1, 1], .l [1, 1, 1, 0, 1, 0, 0], .b 0, .c [1, 1, 1, 1]]) (by kernel_rfl) ?_
      refine RunH.reg (by kernel_rfl) ?_
      refine RgH.runk 2 [1, 3, 4, 35] (vs := [.string x3.Digest]) (evs := [.load ⟨g3, 0, none⟩ (.string x3.Digest)]) (L' := [(1, .pointer (some ⟨g1, 0, none⟩)), (3, .int .i64 v_i3), (4, .pointer (some ⟨g3, 0, none⟩)), (35, .string x3.Digest)]) (by kernel_rfl) (by kernel_rfl) (fun w hh => (hh.box 0 rfl rfl)) ?_
      obtain ⟨y7, hy7, heq⟩ := bind_some heq
      refine RgH.does (DoesH.call (d := 36) (g := 63) (args := #[.string x3.Digest]) (by kernel_rfl) (smithyardref1_IsDigest_c (a0 := x3.Digest)  hy7)) ?_
      rintro _ _ _ _ ⟨_, rfl, rfl, rfl, rfl⟩
      refine RgH.runk 4 [1, 3, 4, 37] (vs := []) (evs := []) (L' := [(1, .pointer (some ⟨g1, 0, none⟩)), (3, .int .i64 v_i3), (4, .pointer (some ⟨g3, 0, none⟩)), (37, .bool (!y7))]) (by kernel_rfl) (by kernel_rfl) (fun _ _ => trivial) ?_
      refine RgH.done (by kernel_rfl) ?_
      rcases bool_cases (!y7) with hb14 | hb14
      · replace heq := bif_true hb14 heq
        refine RunH.condT (c := !y7) (by kernel_rfl) hb14 ?_
        refine RunH.adm 1 (es' := [.c [1, 1, 1, 0, 1, 0, 0, 1, 0, 0, 1, 0, 1, 0, 0], .c [1, 1, 1, 0, 1, 0, 0, 1, 0, 0, 1, 0, 1, 0, 1], .c [1, 1, 1, 0, 1, 0, 0, 1, 0, 0, 1, 1], .b 1, .c [1, 1, 1, 0, 1, 0, 0, 1, 1], .l [1, 1, 1, 0, 1, 0, 0], .b 0, .c [1, 1, 1, 1]]) (by kernel_rfl) ?_
        refine RunH.reg (by kernel_rfl) ?_
        refine RgH.runk 1 [2] (vs := []) (evs := []) (L' := [(2, .int .i64 3)]) (by kernel_rfl) (by kernel_rfl) (fun _ _ => trivial) ?_
        refine RgH.done (by kernel_rfl) ?_
        obtain rfl := Option.some.inj heq
        refine RunH.pick 2 [] (cs' := F) (by kernel_rfl) rfl ?_
        exact RunH.done (by kernel_rfl) Tryd.func23 (v := .int .i64 3) (by kernel_rfl) ⟨rfl, rfl, rfl⟩
      · replace heq := bif_false hb14 heq
        refine RunH.condF (c := !y7) (by kernel_rfl) hb14 ?_
        refine RunH.adm 3 (es' := [.c [1, 1, 1, 0, 1, 0, 0, 1, 0, 0, 1, 1, 0, 0], .c [1, 1, 1, 0, 1, 0, 0, 1, 0, 0, 1, 1, 0, 1], .c [1, 1, 1, 0, 1, 0, 0, 1, 0, 0, 1, 1, 1], .b 1, .c [1, 1, 1, 0, 1, 0, 0, 1, 1], .l [1, 1, 1, 0, 1, 0, 0], .b 0, .c [1, 1, 1, 1]]) (by kernel_rfl) ?_
        obtain ⟨t3, ht3, heq⟩ := bind_some heq
        have K6 : RunH C23 (S23 F H r) H w0 [.c [1, 1, 1, 0, 1, 0, 0, 1, 0, 0, 1, 1, 0, 1], .c [1, 1, 1, 0, 1, 0, 0, 1, 0, 0, 1, 1, 1], .b 1, .c [1, 1, 1, 0, 1, 0, 0, 1, 1], .l [1, 1, 1, 0, 1, 0, 0], .b 0, .c [1, 1, 1, 1]] [(1, .pointer (some ⟨g1, 0, none⟩)), (3, .int .i64 v_i3), (4, .pointer (some ⟨g3, 0, none⟩)), (59, .bool t3)] H ((some (g3, .cells #[.string x3.Digest, .int .i64 x3.Size, .int .i64 x3.Used, .int .i64 x3.Until, .int .i64 x3.Pins] 47 (0, 0))) :: (some (g1, .cells #[.int .i64 a0.Room, .int .i64 a0.Lease, .slice Aa0_2 a0.Blobs.length ca0_2, .slice Aa0_3 a0.Entries.length ca0_3] 25 (0, 0))) :: F) := by
          rcases bool_cases (t3) with hb18 | hb18
          · replace heq := bif_true hb18 heq
            refine RunH.condT (c := t3) (by kernel_rfl) hb18 ?_
            refine RunH.adm 1 (es' := [.c [1, 1, 1, 0, 1, 0, 0, 1, 0, 0, 1, 1, 0, 1, 0, 0], .c [1, 1, 1, 0, 1, 0, 0, 1, 0, 0, 1, 1, 0, 1, 0, 1], .c [1, 1, 1, 0, 1, 0, 0, 1, 0, 0, 1, 1, 1], .b 1, .c [1, 1, 1, 0, 1, 0, 0, 1, 1], .l [1, 1, 1, 0, 1, 0, 0], .b 0, .c [1, 1, 1, 1]]) (by kernel_rfl) ?_
            refine RunH.reg (by kernel_rfl) ?_
            refine RgH.runk 1 [2] (vs := []) (evs := []) (L' := [(2, .int .i64 1)]) (by kernel_rfl) (by kernel_rfl) (fun _ _ => trivial) ?_
            refine RgH.done (by kernel_rfl) ?_
            obtain rfl := Option.some.inj heq
            refine RunH.pick 2 [] (cs' := F) (by kernel_rfl) rfl ?_
            exact RunH.done (by kernel_rfl) Tryd.func23 (v := .int .i64 1) (by kernel_rfl) ⟨rfl, rfl, rfl⟩
          · replace heq := bif_false hb18 heq
            refine RunH.condF (c := t3) (by kernel_rfl) hb18 ?_
            refine RunH.adm 2 (es' := [.c [1, 1, 1, 0, 1, 0, 0, 1, 0, 0, 1, 1, 1, 0], .c [1, 1, 1, 0, 1, 0, 0, 1, 0, 0, 1, 1, 1, 1], .b 1, .c [1, 1, 1, 0, 1, 0, 0, 1, 1], .l [1, 1, 1, 0, 1, 0, 0], .b 0, .c [1, 1, 1, 1]]) (by kernel_rfl) ?_
            obtain ⟨t4, ht4, heq⟩ := bind_some heq
            have K7 : RunH C23 (S23 F H r) H w0 [.c [1, 1, 1, 0, 1, 0, 0, 1, 0, 0, 1, 1, 1, 1], .b 1, .c [1, 1, 1, 0, 1, 0, 0, 1, 1], .l [1, 1, 1, 0, 1, 0, 0], .b 0, .c [1, 1, 1, 1]] [(1, .pointer (some ⟨g1, 0, none⟩)), (3, .int .i64 v_i3), (73, .bool t4)] H ((some (g1, .cells #[.int .i64 a0.Room, .int .i64 a0.Lease, .slice Aa0_2 a0.Blobs.length ca0_2, .slice Aa0_3 a0.Entries.length ca0_3] 25 (0, 0))) :: F) := by
              rcases bool_cases (t4) with hb20 | hb20
              · replace heq := bif_true hb20 heq
                refine RunH.condT (c := t4) (by kernel_rfl) hb20 ?_
                refine RunH.adm 1 (es' := [.c [1, 1, 1, 0, 1, 0, 0, 1, 0, 0, 1, 1, 1, 1, 0, 0], .c [1, 1, 1, 0, 1, 0, 0, 1, 0, 0, 1, 1, 1, 1, 0, 1], .b 1, .c [1, 1, 1, 0, 1, 0, 0, 1, 1], .l [1, 1, 1, 0, 1, 0, 0], .b 0, .c [1, 1, 1, 1]]) (by kernel_rfl) ?_
                refine RunH.reg (by kernel_rfl) ?_
                refine RgH.runk 1 [2] (vs := []) (evs := []) (L' := [(2, .int .i64 8)]) (by kernel_rfl) (by kernel_rfl) (fun _ _ => trivial) ?_
                refine RgH.done (by kernel_rfl) ?_
                obtain rfl := Option.some.inj heq
                refine RunH.pick 1 [] (cs' := F) (by kernel_rfl) rfl ?_
                exact RunH.done (by kernel_rfl) Tryd.func23 (v := .int .i64 8) (by kernel_rfl) ⟨rfl, rfl, rfl⟩
              · replace heq := bif_false hb20 heq
                refine RunH.condF (c := t4) (by kernel_rfl) hb20 ?_
                refine RunH.adm 2 (es' := [.c [1, 1, 1, 0, 1, 0, 0, 1, 1], .l [1, 1, 1, 0, 1, 0, 0], .b 0, .c [1, 1, 1, 1]]) (by kernel_rfl) ?_
                refine RunH.reg (by kernel_rfl) ?_
                refine RgH.runk 3 [1, 3] (vs := []) (evs := []) (L' := [(1, .pointer (some ⟨g1, 0, none⟩)), (3, .int .i64 (w64 (v_i3 + 1)))]) (by kernel_rfl) (by kernel_rfl) (fun _ _ => trivial) ?_
                refine RgH.done (by kernel_rfl) ?_
                refine RunH.adm 1 (es' := [.c [1, 1, 1, 0, 1, 0, 0], .l [1, 1, 1, 0, 1, 0, 0], .b 0, .c [1, 1, 1, 1]]) (by kernel_rfl) ?_
                refine RunH.keep [1, 3] (L' := [(1, .pointer (some ⟨g1, 0, none⟩)), (3, .int .i64 (w64 (v_i3 + 1)))]) (by kernel_rfl) ?_
                exact ihk a0 _ _ _ _ _ (w64 (v_i3 + 1)) hra0_2 hca0_2 hra0_3 hca0_3 heq
            replace heq := ht4
            refine RunH.keep [1, 3, 4] (L' := [(1, .pointer (some ⟨g1, 0, none⟩)), (3, .int .i64 v_i3), (4, .pointer (some ⟨g3, 0, none⟩))]) (by kernel_rfl) ?_
            refine RunH.draw (fun w => Heap H w0 w ((some (g3, .cells #[.string x3.Digest, .int .i64 x3.Size, .int .i64 x3.Used, .int .i64 x3.Until, .int .i64 x3.Pins] 47 (0, 0))) :: (some (g1, .cells #[.int .i64 a0.Room, .int .i64 a0.Lease, .slice Aa0_2 a0.Blobs.length ca0_2, .slice Aa0_3 a0.Entries.length ca0_3] 25 (0, 0))) :: F)) (fun w => Heap H w0 w ((some (g3, .cells #[.string x3.Digest, .int .i64 x3.Size, .int .i64 x3.Used, .int .i64 x3.Until, .int .i64 x3.Pins] 47 (0, 0))) :: (some (g1, .cells #[.int .i64 a0.Room, .int .i64 a0.Lease, .slice Aa0_2 a0.Blobs.length ca0_2, .slice Aa0_3 a0.Entries.length ca0_3] 25 (0, 0))) :: F)) [false, false, false, false, false, false, false, false, false, false, false, false, false, false] (n := 14) (ls := [false, false, false, false, false, false, false, false, false, false, false, false, false, false]) (by kernel_rfl) (by kernel_rfl) (by kernel_rfl) rfl ?_
            refine DrH.run [0, 1, 2] (m := 11) (ls' := [true, true, true, false, false, false, false, false, false, false, false, false, false, false]) (vs := []) (evs := []) (L' := [(62, .bool (decide (0 < v_i3))), (61, .bool (decide (0 < v_i3))), (60, .int .i64 v_i3), (1, .pointer (some ⟨g1, 0, none⟩)), (3, .int .i64 v_i3), (4, .pointer (some ⟨g3, 0, none⟩))]) (by kernel_rfl) (fun w hh => hh.pick 2 [0, 1] (by kernel_rfl)) (fun w hh => hh.pick 2 [0, 1] (by kernel_rfl)) (by kernel_rfl) (fun _ _ => trivial) (by kernel_rfl) ?_
            refine DrH.keep [62, 1, 3, 4] (L' := [(62, .bool (decide (0 < v_i3))), (1, .pointer (some ⟨g1, 0, none⟩)), (3, .int .i64 v_i3), (4, .pointer (some ⟨g3, 0, none⟩))]) (by kernel_rfl) ?_
            rcases bool_cases (decide (0 < v_i3)) with hb19 | hb19
            · replace heq := bif_true hb19 heq
              refine DrH.val1 (v' := .bool true) (congrArg Value.bool hb19) ?_
              obtain ⟨x4, hx4, heq⟩ := bind_some heq
              obtain ⟨ha4, cs4, hK4, hcc4⟩ := hra0_2.get hx4
              obtain ⟨rfl⟩ := kBlob_open hK4
              refine DrH.run [3, 4, 5, 6, 7, 8, 9, 10, 11, 12, 13] (m := 0) (ls' := [true, true, true, true, true, true, true, true, true, true, true, true, true, true]) (vs := [.string x3.Digest, .slice Aa0_2 a0.Blobs.length ca0_2, .string x4.Digest]) (evs := [.load ⟨g3, 0, none⟩ (.string x3.Digest), .load ⟨g1, 2, none⟩ (.slice Aa0_2 a0.Blobs.length ca0_2), .need (Aa0_2 = some (adr Aa0_2) ∧ (0 : Int) ≤ (w64 (v_i3 - 1)) ∧ (w64 (v_i3 - 1)) < ((a0.Blobs.length : Nat) : Int)), .load (((adr Aa0_2).add ((w64 (v_i3 - 1)).toNat * 5)).add 0) (.string x4.Digest)]) (L' := [(73, .bool (sLt x3.Digest x4.Digest || sEq x3.Digest x4.Digest)), (72, .bool (sLt x3.Digest x4.Digest || sEq x3.Digest x4.Digest)), (71, .string x4.Digest), (70, .pointer (some (((adr Aa0_2).add ((w64 (v_i3 - 1)).toNat * 5)).add 0))), (69, .pointer (some ((adr Aa0_2).add ((w64 (v_i3 - 1)).toNat * 5)))), (68, .int .i64 (w64 (v_i3 - 1))), (67, .int .i64 v_i3), (66, .slice Aa0_2 a0.Blobs.length ca0_2), (65, .pointer (some ⟨g1, 2, none⟩)), (64, .string x3.Digest), (63, .pointer (some ⟨g3, 0, none⟩)), (62, .bool true), (1, .pointer (some ⟨g1, 0, none⟩)), (3, .int .i64 v_i3), (4, .pointer (some ⟨g3, 0, none⟩))]) (by kernel_rfl) (fun w hh => hh.pick 2 [0, 1] (by kernel_rfl)) (fun w hh => hh.pick 2 [0, 1] (by kernel_rfl)) (by kernel_rfl) (fun w hh => ⟨(hh.box 0 rfl rfl), (hh.box 1 rfl rfl), ⟨ha4, (at?_some hx4).1, (at?_some hx4).2.1⟩, (hcc4 _ _ (hh.drop 2) 0 _ rfl)⟩) (by kernel_rfl) ?_
              refine DrH.keep [1, 3, 73] (L' := [(1, .pointer (some ⟨g1, 0, none⟩)), (3, .int .i64 v_i3), (73, .bool (sLt x3.Digest x4.Digest || sEq x3.Digest x4.Digest))]) (by kernel_rfl) ?_
              obtain rfl := Option.some.inj heq
              refine DrH.keep [1, 3, 73] (L' := [(1, .pointer (some ⟨g1, 0, none⟩)), (3, .int .i64 v_i3), (73, .bool (sLt x3.Digest x4.Digest || sEq x3.Digest x4.Digest))]) (by kernel_rfl) ?_
              refine DrH.pick 2 [1] (cs' := (some (g1, .cells #[.int .i64 a0.Room, .int .i64 a0.Lease, .slice Aa0_2 a0.Blobs.length ca0_2, .slice Aa0_3 a0.Entries.length ca0_3] 25 (0, 0))) :: F) (by kernel_rfl) rfl ?_
              refine DrH.done (by kernel_rfl) ?_
              exact K7
            · replace heq := bif_false hb19 heq
              refine DrH.val1 (v' := .bool false) (congrArg Value.bool hb19) ?_
              refine DrH.run [3, 4, 5, 6, 7, 8, 9, 10, 11, 12, 13] (m := 0) (ls' := [true, true, true, true, true, true, true, true, true, true, true, true, true, true]) (vs := []) (evs := []) (L' := [(73, .bool false), (72, undef), (71, undef), (70, undef), (69, undef), (68, undef), (67, undef), (66, undef), (65, undef), (64, undef), (63, undef), (62, .bool false), (1, .pointer (some ⟨g1, 0, none⟩)), (3, .int .i64 v_i3), (4, .pointer (some ⟨g3, 0, none⟩))]) (by kernel_rfl) (fun w hh => hh.pick 2 [0, 1] (by kernel_rfl)) (fun w hh => hh.pick 2 [0, 1] (by kernel_rfl)) (by kernel_rfl) (fun _ _ => trivial) (by kernel_rfl) ?_
              refine DrH.keep [1, 3, 73] (L' := [(1, .pointer (some ⟨g1, 0, none⟩)), (3, .int .i64 v_i3), (73, .bool false)]) (by kernel_rfl) ?_
              obtain rfl := Option.some.inj heq
              refine DrH.keep [1, 3, 73] (L' := [(1, .pointer (some ⟨g1, 0, none⟩)), (3, .int .i64 v_i3), (73, .bool false)]) (by kernel_rfl) ?_
              refine DrH.pick 2 [1] (cs' := (some (g1, .cells #[.int .i64 a0.Room, .int .i64 a0.Lease, .slice Aa0_2 a0.Blobs.length ca0_2, .slice Aa0_3 a0.Entries.length ca0_3] 25 (0, 0))) :: F) (by kernel_rfl) rfl ?_
              refine DrH.done (by kernel_rfl) ?_
              exact K7
        replace heq := ht3
        refine RunH.reg (by kernel_rfl) ?_
        refine RgH.runk 2 [1, 3, 4, 39] (vs := [.int .i64 x3.Size]) (evs := [.load ⟨g3, 1, none⟩ (.int .i64 x3.Size)]) (L' := [(1, .pointer (some ⟨g1, 0, none⟩)), (3, .int .i64 v_i3), (4, .pointer (some ⟨g3, 0, none⟩)), (39, .int .i64 x3.Size)]) (by kernel_rfl) (by kernel_rfl) (fun w hh => (hh.box 0 rfl rfl)) ?_
        obtain ⟨y8, hy8, heq⟩ := bind_some heq
        refine RgH.does (DoesH.call (d := 40) (g := 62) (args := #[.int .i64 x3.Size, .int .i64 0, .int .i64 100000000]) (by kernel_rfl) (smithyardref7_within_c (a0 := x3.Size) (a1 := 0) (a2 := 100000000)  hy8)) ?_
        rintro _ _ _ _ ⟨_, rfl, rfl, rfl, rfl⟩
        refine RgH.runk 5 [42, 1, 3, 4] (vs := []) (evs := []) (L' := [(42, .bool (!y8)), (1, .pointer (some ⟨g1, 0, none⟩)), (3, .int .i64 v_i3), (4, .pointer (some ⟨g3, 0, none⟩))]) (by kernel_rfl) (by kernel_rfl) (fun _ _ => trivial) ?_
        rcases bool_cases (!y8) with hb15 | hb15
        · replace heq := bif_true hb15 heq
          refine RgH.val1 (v' := .bool true) (congrArg Value.bool hb15) ?_
          refine RgH.runk 22 [1, 3, 4, 59] (vs := []) (evs := []) (L' := [(1, .pointer (some ⟨g1, 0, none⟩)), (3, .int .i64 v_i3), (4, .pointer (some ⟨g3, 0, none⟩)), (59, .bool true)]) (by kernel_rfl) (by kernel_rfl) (fun _ _ => trivial) ?_
          obtain rfl := Option.some.inj heq
          refine RgH.keep [1, 3, 4, 59] (L' := [(1, .pointer (some ⟨g1, 0, none⟩)), (3, .int .i64 v_i3), (4, .pointer (some ⟨g3, 0, none⟩)), (59, .bool true)]) (by kernel_rfl) ?_
          refine RgH.done (by kernel_rfl) ?_
          exact K6
        · replace heq := bif_false hb15 heq
          refine RgH.val1 (v' := .bool false) (congrArg Value.bool hb15) ?_
          refine RgH.runk 7 [1, 3, 4, 42, 44] (vs := [.int .i64 x3.Used]) (evs := [.load ⟨g3, 2, none⟩ (.int .i64 x3.Used)]) (L' := [(1, .pointer (some ⟨g1, 0, none⟩)), (3, .int .i64 v_i3), (4, .pointer (some ⟨g3, 0, none⟩)), (42, .bool false), (44, .int .i64 x3.Used)]) (by kernel_rfl) (by kernel_rfl) (fun w hh => (hh.box 0 rfl rfl)) ?_
          obtain ⟨y9, hy9, heq⟩ := bind_some heq
          refine RgH.does (DoesH.call (d := 45) (g := 62) (args := #[.int .i64 x3.Used, .int .i64 0, .int .i64 1000000000]) (by kernel_rfl) (smithyardref7_within_c (a0 := x3.Used) (a1 := 0) (a2 := 1000000000)  hy9)) ?_
          rintro _ _ _ _ ⟨_, rfl, rfl, rfl, rfl⟩
          refine RgH.runk 11 [48, 1, 3, 4] (vs := []) (evs := []) (L' := [(48, .bool (!y9)), (1, .pointer (some ⟨g1, 0, none⟩)), (3, .int .i64 v_i3), (4, .pointer (some ⟨g3, 0, none⟩))]) (by kernel_rfl) (by kernel_rfl) (fun _ _ => trivial) ?_
          rcases bool_cases (!y9) with hb16 | hb16
          · replace heq := bif_true hb16 heq
            refine RgH.val1 (v' := .bool true) (congrArg Value.bool hb16) ?_
            refine RgH.runk 22 [1, 3, 4, 59] (vs := []) (evs := []) (L' := [(1, .pointer (some ⟨g1, 0, none⟩)), (3, .int .i64 v_i3), (4, .pointer (some ⟨g3, 0, none⟩)), (59, .bool true)]) (by kernel_rfl) (by kernel_rfl) (fun _ _ => trivial) ?_
            obtain rfl := Option.some.inj heq
            refine RgH.keep [1, 3, 4, 59] (L' := [(1, .pointer (some ⟨g1, 0, none⟩)), (3, .int .i64 v_i3), (4, .pointer (some ⟨g3, 0, none⟩)), (59, .bool true)]) (by kernel_rfl) ?_
            refine RgH.done (by kernel_rfl) ?_
            exact K6
          · replace heq := bif_false hb16 heq
            refine RgH.val1 (v' := .bool false) (congrArg Value.bool hb16) ?_
            refine RgH.runk 13 [1, 3, 4, 48, 50] (vs := [.int .i64 x3.Until]) (evs := [.load ⟨g3, 3, none⟩ (.int .i64 x3.Until)]) (L' := [(1, .pointer (some ⟨g1, 0, none⟩)), (3, .int .i64 v_i3), (4, .pointer (some ⟨g3, 0, none⟩)), (48, .bool false), (50, .int .i64 x3.Until)]) (by kernel_rfl) (by kernel_rfl) (fun w hh => (hh.box 0 rfl rfl)) ?_
            obtain ⟨y10, hy10, heq⟩ := bind_some heq
            refine RgH.does (DoesH.call (d := 51) (g := 62) (args := #[.int .i64 x3.Until, .int .i64 0, .int .i64 1001000000]) (by kernel_rfl) (smithyardref7_within_c (a0 := x3.Until) (a1 := 0) (a2 := 1001000000)  hy10)) ?_
            rintro _ _ _ _ ⟨_, rfl, rfl, rfl, rfl⟩
            refine RgH.runk 17 [54, 1, 3, 4] (vs := []) (evs := []) (L' := [(54, .bool (!y10)), (1, .pointer (some ⟨g1, 0, none⟩)), (3, .int .i64 v_i3), (4, .pointer (some ⟨g3, 0, none⟩))]) (by kernel_rfl) (by kernel_rfl) (fun _ _ => trivial) ?_
            rcases bool_cases (!y10) with hb17 | hb17
            · replace heq := bif_true hb17 heq
              refine RgH.val1 (v' := .bool true) (congrArg Value.bool hb17) ?_
              refine RgH.runk 22 [1, 3, 4, 59] (vs := []) (evs := []) (L' := [(1, .pointer (some ⟨g1, 0, none⟩)), (3, .int .i64 v_i3), (4, .pointer (some ⟨g3, 0, none⟩)), (59, .bool true)]) (by kernel_rfl) (by kernel_rfl) (fun _ _ => trivial) ?_
              obtain rfl := Option.some.inj heq
              refine RgH.keep [1, 3, 4, 59] (L' := [(1, .pointer (some ⟨g1, 0, none⟩)), (3, .int .i64 v_i3), (4, .pointer (some ⟨g3, 0, none⟩)), (59, .bool true)]) (by kernel_rfl) ?_
              refine RgH.done (by kernel_rfl) ?_
              exact K6
            · replace heq := bif_false hb17 heq
              refine RgH.val1 (v' := .bool false) (congrArg Value.bool hb17) ?_
              refine RgH.runk 19 [1, 3, 4, 54, 56] (vs := [.int .i64 x3.Pins]) (evs := [.load ⟨g3, 4, none⟩ (.int .i64 x3.Pins)]) (L' := [(1, .pointer (some ⟨g1, 0, none⟩)), (3, .int .i64 v_i3), (4, .pointer (some ⟨g3, 0, none⟩)), (54, .bool false), (56, .int .i64 x3.Pins)]) (by kernel_rfl) (by kernel_rfl) (fun w hh => (hh.box 0 rfl rfl)) ?_
              obtain ⟨y11, hy11, heq⟩ := bind_some heq
              refine RgH.does (DoesH.call (d := 57) (g := 62) (args := #[.int .i64 x3.Pins, .int .i64 0, .int .i64 3000]) (by kernel_rfl) (smithyardref7_within_c (a0 := x3.Pins) (a1 := 0) (a2 := 3000)  hy11)) ?_
              rintro _ _ _ _ ⟨_, rfl, rfl, rfl, rfl⟩
              refine RgH.runk 22 [1, 3, 4, 59] (vs := []) (evs := []) (L' := [(1, .pointer (some ⟨g1, 0, none⟩)), (3, .int .i64 v_i3), (4, .pointer (some ⟨g3, 0, none⟩)), (59, .bool (!y11))]) (by kernel_rfl) (by kernel_rfl) (fun _ _ => trivial) ?_
              obtain rfl := Option.some.inj heq
              refine RgH.keep [1, 3, 4, 59] (L' := [(1, .pointer (some ⟨g1, 0, none⟩)), (3, .int .i64 v_i3), (4, .pointer (some ⟨g3, 0, none⟩)), (59, .bool (!y11))]) (by kernel_rfl) ?_
              refine RgH.done (by kernel_rfl) ?_
              exact K6
    · replace heq := bif_false hb13 heq
      refine RunH.condF (c := decide (v_i3 < (a0.Blobs.length : Int))) (by kernel_rfl) hb13 ?_
      refine RunH.adm 3 (es' := [.c [1, 1, 1, 1, 0, 0], .c [1, 1, 1, 1, 0, 1], .c [1, 1, 1, 1, 1]]) (by kernel_rfl) ?_
      refine RunH.keep [1] (L' := [(1, .pointer (some ⟨g1, 0, none⟩))]) (by kernel_rfl) ?_
      exact he1 a0 _ _ _ _ _ hra0_2 hca0_2 hra0_3 hca0_3 heq
theorem smithyardref7_CheckCache_c {w0 : World} {H : Hp} {F : List Ch} {a0 : Cache} {Aa0_2 : Option Addr} {na0_2 : Nat} {ca0_2 : Nat} {Aa0_3 : Option Addr} {na0_3 : Nat} {ca0_3 : Nat} {r : Int} (hra0_2 : Rw kBlob H F Aa0_2 a0.Blobs) (hca0_2 : na0_2 ≤ ca0_2) (hna0_2 : na0_2 = a0.Blobs.length) (hra0_3 : Rw kEntry H F Aa0_3 a0.Entries) (hca0_3 : na0_3 ≤ ca0_3) (hna0_3 : na0_3 = a0.Entries.length) (heq : smithyardref7_CheckCache.f a0 = some r) : CallsH Tryd.prog 23 #[.agg #[.int .i64 a0.Room, .int .i64 a0.Lease, .slice Aa0_2 na0_2 ca0_2, .slice Aa0_3 na0_3 ca0_3]] H w0 (F) (S23 F H r) := by
  refine calls_of_runH (F := C23) Tryd.func23 (by kernel_rfl) Tryd.ntmps23 (args := [.agg #[.int .i64 a0.Room, .int .i64 a0.Lease, .slice Aa0_2 na0_2 ca0_2, .slice Aa0_3 na0_3 ca0_3]]) (by kernel_rfl) ?_
  subst hna0_2
  subst hna0_3
  unfold smithyardref7_CheckCache.f at heq
  refine RunH.adm 1 (es' := [.c [0], .c [1]]) (by kernel_rfl) ?_
  refine RunH.reg (by kernel_rfl) ?_
  refine RgH.does (DoesH.new (d := 1) (v := fun g => .pointer (some ⟨g, 0, none⟩)) (o := fun g => .cells #[.int .i64 a0.Room, .int .i64 a0.Lease, .slice Aa0_2 a0.Blobs.length ca0_2, .slice Aa0_3 a0.Entries.length ca0_3] 25 (0, 0)) (fun g => by kernel_rfl)) ?_
  rintro _ _ _ _ ⟨g1, rfl, rfl, rfl⟩
  refine RgH.runk 2 [1] (vs := []) (evs := []) (L' := [(1, .pointer (some ⟨g1, 0, none⟩))]) (by kernel_rfl) (by kernel_rfl) (fun _ _ => trivial) ?_
  refine RgH.done (by kernel_rfl) ?_
  refine RunH.adm 2 (es' := [.c [1, 0, 0], .c [1, 0, 1], .c [1, 1]]) (by kernel_rfl) ?_
  obtain ⟨t1, ht1, heq⟩ := bind_some heq
  have K2 : RunH C23 (S23 F H r) H w0 [.c [1, 0, 1], .c [1, 1]] [(1, .pointer (some ⟨g1, 0, none⟩)), (17, .bool t1)] H ((some (g1, .cells #[.int .i64 a0.Room, .int .i64 a0.Lease, .slice Aa0_2 a0.Blobs.length ca0_2, .slice Aa0_3 a0.Entries.length ca0_3] 25 (0, 0))) :: F) := by
    rcases bool_cases (t1) with hb2 | hb2
    · replace heq := bif_true hb2 heq
      refine RunH.condT (c := t1) (by kernel_rfl) hb2 ?_
      refine RunH.adm 1 (es' := [.c [1, 0, 1, 0, 0], .c [1, 0, 1, 0, 1], .c [1, 1]]) (by kernel_rfl) ?_
      refine RunH.reg (by kernel_rfl) ?_
      refine RgH.runk 1 [2] (vs := []) (evs := []) (L' := [(2, .int .i64 1)]) (by kernel_rfl) (by kernel_rfl) (fun _ _ => trivial) ?_
      refine RgH.done (by kernel_rfl) ?_
      obtain rfl := Option.some.inj heq
      refine RunH.pick 1 [] (cs' := F) (by kernel_rfl) rfl ?_
      exact RunH.done (by kernel_rfl) Tryd.func23 (v := .int .i64 1) (by kernel_rfl) ⟨rfl, rfl, rfl⟩
    · replace heq := bif_false hb2 heq
      refine RunH.condF (c := t1) (by kernel_rfl) hb2 ?_
      refine RunH.adm 3 (es' := [.c [1, 1, 0, 0], .c [1, 1, 0, 1], .c [1, 1, 1]]) (by kernel_rfl) ?_
      refine RunH.reg (by kernel_rfl) ?_
      refine RgH.runk 4 [1, 21] (vs := [.slice Aa0_2 a0.Blobs.length ca0_2]) (evs := [.load ⟨g1, 2, none⟩ (.slice Aa0_2 a0.Blobs.length ca0_2)]) (L' := [(1, .pointer (some ⟨g1, 0, none⟩)), (21, .bool (decide (3000 < (a0.Blobs.length : Int))))]) (by kernel_rfl) (by kernel_rfl) (fun w hh => (hh.box 0 rfl rfl)) ?_
      refine RgH.done (by kernel_rfl) ?_
      rcases bool_cases (decide (3000 < (a0.Blobs.length : Int))) with hb3 | hb3
      · replace heq := bif_true hb3 heq
        refine RunH.condT (c := decide (3000 < (a0.Blobs.length : Int))) (by kernel_rfl) hb3 ?_
        refine RunH.adm 1 (es' := [.c [1, 1, 0, 1, 0, 0], .c [1, 1, 0, 1, 0, 1], .c [1, 1, 1]]) (by kernel_rfl) ?_
        refine RunH.reg (by kernel_rfl) ?_
        refine RgH.runk 1 [2] (vs := []) (evs := []) (L' := [(2, .int .i64 2)]) (by kernel_rfl) (by kernel_rfl) (fun _ _ => trivial) ?_
        refine RgH.done (by kernel_rfl) ?_
        obtain rfl := Option.some.inj heq
        refine RunH.pick 1 [] (cs' := F) (by kernel_rfl) rfl ?_
        exact RunH.done (by kernel_rfl) Tryd.func23 (v := .int .i64 2) (by kernel_rfl) ⟨rfl, rfl, rfl⟩
      · replace heq := bif_false hb3 heq
        refine RunH.condF (c := decide (3000 < (a0.Blobs.length : Int))) (by kernel_rfl) hb3 ?_
        refine RunH.adm 3 (es' := [.c [1, 1, 1, 0, 0], .c [1, 1, 1, 0, 1], .c [1, 1, 1, 1]]) (by kernel_rfl) ?_
        refine RunH.reg (by kernel_rfl) ?_
        refine RgH.runk 1 [1, 3] (vs := []) (evs := []) (L' := [(1, .pointer (some ⟨g1, 0, none⟩)), (3, .int .i64 0)]) (by kernel_rfl) (by kernel_rfl) (fun _ _ => trivial) ?_
        refine RgH.done (by kernel_rfl) ?_
        refine RunH.adm 2 (es' := [.c [1, 1, 1, 0, 1, 0, 0], .l [1, 1, 1, 0, 1, 0, 0], .b 0, .c [1, 1, 1, 1]]) (by kernel_rfl) ?_
        refine RunH.keep [1, 3] (L' := [(1, .pointer (some ⟨g1, 0, none⟩)), (3, .int .i64 0)]) (by kernel_rfl) ?_
        exact ((smithyardref7_CheckCache.l4_c (e1 := smithyardref7_CheckCache.e1) (smithyardref7_CheckCache.e1_c)) big) a0 _ _ _ _ _ 0 hra0_2 hca0_2 hra0_3 hca0_3 heq
  replace heq := ht1
  refine RunH.reg (by kernel_rfl) ?_
  refine RgH.runk 2 [1, 9] (vs := [.int .i64 a0.Room]) (evs := [.load ⟨g1, 0, none⟩ (.int .i64 a0.Room)]) (L' := [(1, .pointer (some ⟨g1, 0, none⟩)), (9, .int .i64 a0.Room)]) (by kernel_rfl) (by kernel_rfl) (fun w hh => (hh.box 0 rfl rfl)) ?_
  obtain ⟨y1, hy1, heq⟩ := bind_some heq
  refine RgH.does (DoesH.call (d := 10) (g := 62) (args := #[.int .i64 a0.Room, .int .i64 0, .int .i64 1000000000]) (by kernel_rfl) (smithyardref7_within_c (a0 := a0.Room) (a1 := 0) (a2 := 1000000000)  hy1)) ?_
  rintro _ _ _ _ ⟨_, rfl, rfl, rfl, rfl⟩
  refine RgH.runk 5 [12, 1] (vs := []) (evs := []) (L' := [(12, .bool (!y1)), (1, .pointer (some ⟨g1, 0, none⟩))]) (by kernel_rfl) (by kernel_rfl) (fun _ _ => trivial) ?_
  rcases bool_cases (!y1) with hb1 | hb1
  · replace heq := bif_true hb1 heq
    refine RgH.val1 (v' := .bool true) (congrArg Value.bool hb1) ?_
    refine RgH.runk 10 [1, 17] (vs := []) (evs := []) (L' := [(1, .pointer (some ⟨g1, 0, none⟩)), (17, .bool true)]) (by kernel_rfl) (by kernel_rfl) (fun _ _ => trivial) ?_
    obtain rfl := Option.some.inj heq
    refine RgH.keep [1, 17] (L' := [(1, .pointer (some ⟨g1, 0, none⟩)), (17, .bool true)]) (by kernel_rfl) ?_
    refine RgH.done (by kernel_rfl) ?_
    exact K2
  · replace heq := bif_false hb1 heq
    refine RgH.val1 (v' := .bool false) (congrArg Value.bool hb1) ?_
    refine RgH.runk 7 [1, 12, 14] (vs := [.int .i64 a0.Lease]) (evs := [.load ⟨g1, 1, none⟩ (.int .i64 a0.Lease)]) (L' := [(1, .pointer (some ⟨g1, 0, none⟩)), (12, .bool false), (14, .int .i64 a0.Lease)]) (by kernel_rfl) (by kernel_rfl) (fun w hh => (hh.box 0 rfl rfl)) ?_
    obtain ⟨y2, hy2, heq⟩ := bind_some heq
    refine RgH.does (DoesH.call (d := 15) (g := 62) (args := #[.int .i64 a0.Lease, .int .i64 0, .int .i64 1000000]) (by kernel_rfl) (smithyardref7_within_c (a0 := a0.Lease) (a1 := 0) (a2 := 1000000)  hy2)) ?_
    rintro _ _ _ _ ⟨_, rfl, rfl, rfl, rfl⟩
    refine RgH.runk 10 [1, 17] (vs := []) (evs := []) (L' := [(1, .pointer (some ⟨g1, 0, none⟩)), (17, .bool (!y2))]) (by kernel_rfl) (by kernel_rfl) (fun _ _ => trivial) ?_
    obtain rfl := Option.some.inj heq
    refine RgH.keep [1, 17] (L' := [(1, .pointer (some ⟨g1, 0, none⟩)), (17, .bool (!y2))]) (by kernel_rfl) ?_
    refine RgH.done (by kernel_rfl) ?_
    exact K2
noncomputable def C20 : Ctx := { P := Tryd.prog, f := 20, N := 18, c := bodyOf Tryd.f20 }
def S20 (F : List Ch) (H0 : Hp) (r : Cache × Int) (v : Value) (H : Hp) (cs : List Ch) : Prop := ∃ (A0_2 : Option Addr) (c0_2 : Nat) (ch0_2 : Ch) (A0_3 : Option Addr) (c0_3 : Nat) (ch0_3 : Ch), H0 = H ∧ v = .tuple #[.agg #[.int .i64 r.1.Room, .int .i64 r.1.Lease, .slice A0_2 r.1.Blobs.length c0_2, .slice A0_3 r.1.Entries.length c0_3], .int .i64 r.2] ∧ ch0_2 :: ch0_3 :: F = cs ∧ SlOwn kBlob 47 H A0_2 c0_2 r.1.Blobs ch0_2 ∧ SlOwn kEntry 51 H A0_3 c0_3 r.1.Entries ch0_3
theorem smithyardref7_New_c {w0 : World} {H : Hp} {F : List Ch} {a0 : Int} {a1 : Int} {r : Cache × Int} (heq : smithyardref7_New.f a0 a1 = some r) : CallsH Tryd.prog 20 #[.int .i64 a0, .int .i64 a1] H w0 (F) (S20 F H r) := by
  refine calls_of_runH (F := C20) Tryd.func20 (by kernel_rfl) Tryd.ntmps20 (args := [.int .i64 a0, .int .i64 a1]) (by kernel_rfl) ?_
  unfold smithyardref7_New.f at heq
  refine RunH.adm 1 (es' := [.c [0], .c [1]]) (by kernel_rfl) ?_
  refine RunH.reg (by kernel_rfl) ?_
  refine RgH.does (DoesH.new (d := 4) (v := fun g => .pointer (some ⟨g, 0, none⟩)) (o := fun g => .cells #[.int .i64 0, .int .i64 0, .slice none 0 0, .slice none 0 0] 25 (0, 0)) (fun g => by kernel_rfl)) ?_
  rintro _ _ _ _ ⟨g1, rfl, rfl, rfl⟩
  refine RgH.runk 2 [0, 1, 4] (vs := []) (evs := []) (L' := [(0, .int .i64 a0), (1, .int .i64 a1), (4, .pointer (some ⟨g1, 0, none⟩))]) (by kernel_rfl) (by kernel_rfl) (fun _ _ => trivial) ?_
  refine RgH.done (by kernel_rfl) ?_
  refine RunH.adm 1 (es' := [.c [1, 0], .c [1, 1]]) (by kernel_rfl) ?_
  refine RunH.reg (by kernel_rfl) ?_
  refine RgH.runk 3 [4, 10] (vs := []) (evs := []) (L' := [(4, .pointer (some ⟨g1, 0, none⟩)), (10, .agg #[.int .i64 a0, .int .i64 a1, .slice none 0 0, .slice none 0 0])]) (by kernel_rfl) (by kernel_rfl) (fun _ _ => trivial) ?_
  refine RgH.does (DoesH.new (d := 6) (v := fun g => .pointer (some ⟨g, 0, none⟩)) (o := fun g => .cells #[.int .i64 0, .int .i64 0, .slice none 0 0, .slice none 0 0] 25 (0, 0)) (fun g => by kernel_rfl)) ?_
  rintro _ _ _ _ ⟨g2, rfl, rfl, rfl⟩
  refine RgH.does (DoesH.store (k := 0) (g := g2) (off := 0) (v := .agg #[.int .i64 a0, .int .i64 a1, .slice none 0 0, .slice none 0 0]) (cells' := #[.int .i64 a0, .int .i64 a1, .slice none 0 0, .slice none 0 0]) (by kernel_rfl) rfl (by kernel_rfl) (by kernel_rfl)) ?_
  rintro _ _ _ _ ⟨rfl, rfl, rfl⟩
  refine RgH.done (by kernel_rfl) ?_
  refine RunH.adm 2 (es' := [.c [1, 1, 0, 0], .c [1, 1, 0, 1], .c [1, 1, 1]]) (by kernel_rfl) ?_
  refine RunH.reg (by kernel_rfl) ?_
  refine RgH.runk 1 [4, 6, 11] (vs := [.int .i64 a0, .int .i64 a1, .slice none 0 0, .slice none 0 0]) (evs := [.load ⟨g2, 0, none⟩ (.int .i64 a0), .load ⟨g2, 1, none⟩ (.int .i64 a1), .load ⟨g2, 2, none⟩ (.slice none 0 0), .load ⟨g2, 3, none⟩ (.slice none 0 0)]) (L' := [(4, .pointer (some ⟨g1, 0, none⟩)), (6, .pointer (some ⟨g2, 0, none⟩)), (11, .agg #[.int .i64 a0, .int .i64 a1, .slice none 0 0, .slice none 0 0])]) (by kernel_rfl) (by kernel_rfl) (fun w hh => ⟨(hh.box 0 rfl rfl), (hh.box 0 rfl rfl), (hh.box 0 rfl rfl), (hh.box 0 rfl rfl)⟩) ?_
  obtain ⟨y1, hy1, heq⟩ := bind_some heq
  refine RgH.does (DoesH.call (d := 12) (g := 23) (args := #[.agg #[.int .i64 a0, .int .i64 a1, .slice none 0 0, .slice none 0 0]]) (by kernel_rfl) (smithyardref7_CheckCache_c (a0 := (⟨a0, a1, ([] : List Blob), ([] : List Entry)⟩ : Cache)) Rw.nil (Nat.le_refl _) rfl Rw.nil (Nat.le_refl _) rfl hy1)) ?_
  rintro _ _ _ _ ⟨_, rfl, rfl, rfl, rfl⟩
  refine RgH.runk 3 [4, 6, 7] (vs := []) (evs := []) (L' := [(4, .pointer (some ⟨g1, 0, none⟩)), (6, .pointer (some ⟨g2, 0, none⟩)), (7, .int .i64 y1)]) (by kernel_rfl) (by kernel_rfl) (fun _ _ => trivial) ?_
  refine RgH.done (by kernel_rfl) ?_
  refine RunH.adm 1 (es' := [.c [1, 1, 0, 1, 0], .c [1, 1, 0, 1, 1], .c [1, 1, 1]]) (by kernel_rfl) ?_
  refine RunH.reg (by kernel_rfl) ?_
  refine RgH.runk 2 [4, 6, 7, 14] (vs := []) (evs := []) (L' := [(4, .pointer (some ⟨g1, 0, none⟩)), (6, .pointer (some ⟨g2, 0, none⟩)), (7, .int .i64 y1), (14, .bool (y1 != 0))]) (by kernel_rfl) (by kernel_rfl) (fun _ _ => trivial) ?_
  refine RgH.done (by kernel_rfl) ?_
  rcases bool_cases (y1 != 0) with hb1 | hb1
  · replace heq := bif_true hb1 heq
    refine RunH.condT (c := y1 != 0) (by kernel_rfl) hb1 ?_
    refine RunH.adm 1 (es' := [.c [1, 1, 0, 1, 1, 0, 0], .c [1, 1, 0, 1, 1, 0, 1], .c [1, 1, 1]]) (by kernel_rfl) ?_
    refine RunH.reg (by kernel_rfl) ?_
    refine RgH.runk 2 [4, 15, 16] (vs := []) (evs := []) (L' := [(4, .pointer (some ⟨g1, 0, none⟩)), (15, .agg #[.int .i64 0, .int .i64 0, .slice none 0 0, .slice none 0 0]), (16, .int .i64 y1)]) (by kernel_rfl) (by kernel_rfl) (fun _ _ => trivial) ?_
    refine RgH.does (DoesH.store (k := 1) (g := g1) (off := 0) (v := .agg #[.int .i64 0, .int .i64 0, .slice none 0 0, .slice none 0 0]) (cells' := #[.int .i64 0, .int .i64 0, .slice none 0 0, .slice none 0 0]) (by kernel_rfl) rfl (by kernel_rfl) (by kernel_rfl)) ?_
    rintro _ _ _ _ ⟨rfl, rfl, rfl⟩
    refine RgH.runk 4 [4, 5] (vs := []) (evs := []) (L' := [(4, .pointer (some ⟨g1, 0, none⟩)), (5, .int .i64 y1)]) (by kernel_rfl) (by kernel_rfl) (fun _ _ => trivial) ?_
    refine RgH.done (by kernel_rfl) ?_
    refine RunH.nilc ?_
    have ho1 : SlOwn kBlob 47 H none 0 ([] : List Blob) none := SlOwn.nil
    refine RunH.nilc ?_
    have ho2 : SlOwn kEntry 51 H none 0 ([] : List Entry) none := SlOwn.nil
    obtain rfl := Option.some.inj heq
    refine RunH.pick 4 [3, 1, 0] (cs' := (some (g1, .cells #[.int .i64 0, .int .i64 0, .slice none 0 0, .slice none 0 0] 25 (0, 0))) :: none :: none :: F) (by kernel_rfl) rfl ?_
    exact RunH.doneM' 1 (vs := [.agg #[.int .i64 0, .int .i64 0, .slice none 0 0, .slice none 0 0], .int .i64 y1]) (v := .tuple #[.agg #[.int .i64 0, .int .i64 0, .slice none 0 0, .slice none 0 0], .int .i64 y1]) (by kernel_rfl) Tryd.func20 (fun w hh => show ResAll _ _ _ [.cell 4 25, .tmp 5] _ from ⟨⟨⟨g1, 0, none⟩, by kernel_rfl, trS_run _ (vs := [.int .i64 0, .int .i64 0, .slice none 0 0, .slice none 0 0]) (r := []) (es := [.load ⟨g1, 0, none⟩ (.int .i64 0), .load ⟨g1, 1, none⟩ (.int .i64 0), .load ⟨g1, 2, none⟩ (.slice none 0 0), .load ⟨g1, 3, none⟩ (.slice none 0 0)]) (by kernel_rfl) ⟨(hh.box 0 rfl rfl), (hh.box 0 rfl rfl), (hh.box 0 rfl rfl), (hh.box 0 rfl rfl)⟩⟩, (show lk _ _ = some _ by kernel_rfl), trivial⟩) rfl (cs' := none :: none :: F) rfl ⟨none, 0, none, none, 0, none, rfl, rfl, rfl, ho1, ho2⟩
  · replace heq := bif_false hb1 heq
    refine RunH.condF (c := y1 != 0) (by kernel_rfl) hb1 ?_
    refine RunH.adm 2 (es' := [.c [1, 1, 1, 0], .c [1, 1, 1, 1]]) (by kernel_rfl) ?_
    refine RunH.reg (by kernel_rfl) ?_
    refine RgH.runk 1 [4, 17] (vs := [.int .i64 a0, .int .i64 a1, .slice none 0 0, .slice none 0 0]) (evs := [.load ⟨g2, 0, none⟩ (.int .i64 a0), .load ⟨g2, 1, none⟩ (.int .i64 a1), .load ⟨g2, 2, none⟩ (.slice none 0 0), .load ⟨g2, 3, none⟩ (.slice none 0 0)]) (L' := [(4, .pointer (some ⟨g1, 0, none⟩)), (17, .agg #[.int .i64 a0, .int .i64 a1, .slice none 0 0, .slice none 0 0])]) (by kernel_rfl) (by kernel_rfl) (fun w hh => ⟨(hh.box 0 rfl rfl), (hh.box 0 rfl rfl), (hh.box 0 rfl rfl), (hh.box 0 rfl rfl)⟩) ?_
    refine RgH.does (DoesH.store (k := 1) (g := g1) (off := 0) (v := .agg #[.int .i64 a0, .int .i64 a1, .slice none 0 0, .slice none 0 0]) (cells' := #[.int .i64 a0, .int .i64 a1, .slice none 0 0, .slice none 0 0]) (by kernel_rfl) rfl (by kernel_rfl) (by kernel_rfl)) ?_
    rintro _ _ _ _ ⟨rfl, rfl, rfl⟩
    refine RgH.runk 3 [4, 5] (vs := []) (evs := []) (L' := [(4, .pointer (some ⟨g1, 0, none⟩)), (5, .int .i64 0)]) (by kernel_rfl) (by kernel_rfl) (fun _ _ => trivial) ?_
    refine RgH.done (by kernel_rfl) ?_
    refine RunH.nilc ?_
    have ho3 : SlOwn kBlob 47 H none 0 ([] : List Blob) none := SlOwn.nil
    refine RunH.nilc ?_
    have ho4 : SlOwn kEntry 51 H none 0 ([] : List Entry) none := SlOwn.nil
    obtain rfl := Option.some.inj heq
    refine RunH.pick 4 [3, 1, 0] (cs' := (some (g1, .cells #[.int .i64 a0, .int .i64 a1, .slice none 0 0, .slice none 0 0] 25 (0, 0))) :: none :: none :: F) (by kernel_rfl) rfl ?_
    exact RunH.doneM' 1 (vs := [.agg #[.int .i64 a0, .int .i64 a1, .slice none 0 0, .slice none 0 0], .int .i64 0]) (v := .tuple #[.agg #[.int .i64 a0, .int .i64 a1, .slice none 0 0, .slice none 0 0], .int .i64 0]) (by kernel_rfl) Tryd.func20 (fun w hh => show ResAll _ _ _ [.cell 4 25, .tmp 5] _ from ⟨⟨⟨g1, 0, none⟩, by kernel_rfl, trS_run _ (vs := [.int .i64 a0, .int .i64 a1, .slice none 0 0, .slice none 0 0]) (r := []) (es := [.load ⟨g1, 0, none⟩ (.int .i64 a0), .load ⟨g1, 1, none⟩ (.int .i64 a1), .load ⟨g1, 2, none⟩ (.slice none 0 0), .load ⟨g1, 3, none⟩ (.slice none 0 0)]) (by kernel_rfl) ⟨(hh.box 0 rfl rfl), (hh.box 0 rfl rfl), (hh.box 0 rfl rfl), (hh.box 0 rfl rfl)⟩⟩, (show lk _ _ = some _ by kernel_rfl), trivial⟩) rfl (cs' := none :: none :: F) rfl ⟨none, 0, none, none, 0, none, rfl, rfl, rfl, ho3, ho4⟩
end Go.Proofs.YtkjilepjblffeaaDoor
