/- What the machine's calls of these functions come to: just what the plain functions say. Written by program. -/
import Derived.Test.YtcldjlkgdnjnaaaDoorProg
import Derived.Test.YtcldjlkgdnjnaaaDoorKitQ
import Derived.Test.YtcldjlkgdnjnaaaDoorXD
import Derived.Test.YtcldjlkgdnjnaaaDoorShelf
set_option linter.unusedVariables false
set_option linter.unusedSimpArgs false
set_option maxRecDepth 100000
set_option maxHeartbeats 1000000
namespace Go.Proofs.YtcldjlkgdnjnaaaDoor
open Go Go.RowKit Go.Proofs.YtcldjlkgdnjnaaaDoor.Kit
def kPair : Kd Pair := Kd.iso ((Kd.pair Kd.string Kd.string)) (fun x => (x.Name, x.Value))
theorem kPair_open {H : Hp} {x : Pair} {c : List Value} (h : kPair.K H x c) : c = [.string x.Name, .string x.Value] := by
  obtain ⟨p0, q0, rfl, g0, h0⟩ := h
  obtain rfl : p0 = [_] := g0
  obtain rfl : q0 = [_] := h0
  rfl
theorem kPair_mk {H : Hp} {x : Pair} : kPair.K H x [.string x.Name, .string x.Value] := ⟨[.string x.Name], [.string x.Value], rfl, rfl, rfl⟩
def kSpan : Kd Span := Kd.iso ((Kd.pair (Kd.int .i64) (Kd.int .i64))) (fun x => (x.From, x.To))
theorem kSpan_open {H : Hp} {x : Span} {c : List Value} (h : kSpan.K H x c) : c = [.int .i64 x.From, .int .i64 x.To] := by
  obtain ⟨p0, q0, rfl, g0, h0⟩ := h
  obtain rfl : p0 = [_] := g0
  obtain rfl : q0 = [_] := h0
  rfl
theorem kSpan_mk {H : Hp} {x : Span} : kSpan.K H x [.int .i64 x.From, .int .i64 x.To] := ⟨[.int .i64 x.From], [.int .i64 x.To], rfl, rfl, rfl⟩
def kWorker : Kd Worker := Kd.iso ((Kd.pair Kd.string (Kd.pair (Kd.slice kPair) (Kd.pair (Kd.int .i64) (Kd.pair (Kd.int .i64) (Kd.pair (Kd.int .i64) (Kd.pair (Kd.int .i64) (Kd.slice kSpan)))))))) (fun x => (x.Name, x.Has, x.Slots, x.Speed, x.From, x.To, x.Stands))
theorem kWorker_open {H : Hp} {x : Worker} {c : List Value} (h : kWorker.K H x c) : ∃ A1 c1, ∃ A6 c6, c = [.string x.Name, .slice A1 x.Has.length c1, .int .i64 x.Slots, .int .i64 x.Speed, .int .i64 x.From, .int .i64 x.To, .slice A6 x.Stands.length c6] ∧ x.Has.length ≤ c1 ∧ Kd.Row kPair H A1 x.Has ∧ x.Stands.length ≤ c6 ∧ Kd.Row kSpan H A6 x.Stands := by
  obtain ⟨p0, q0, rfl, g0, h0⟩ := h
  obtain rfl : p0 = [_] := g0
  obtain ⟨p1, q1, rfl, g1, h1⟩ := h0
  obtain ⟨A1, c1, rfl, u1, v1⟩ := g1
  obtain ⟨p2, q2, rfl, g2, h2⟩ := h1
  obtain rfl : p2 = [_] := g2
  obtain ⟨p3, q3, rfl, g3, h3⟩ := h2
  obtain rfl : p3 = [_] := g3
  obtain ⟨p4, q4, rfl, g4, h4⟩ := h3
  obtain rfl : p4 = [_] := g4
  obtain ⟨p5, q5, rfl, g5, h5⟩ := h4
  obtain rfl : p5 = [_] := g5
  obtain ⟨A6, c6, rfl, u6, v6⟩ := h5
  exact ⟨A1, c1, A6, c6, rfl, u1, v1, u6, v6⟩
theorem kWorker_mk {H : Hp} {x : Worker} {A1 : Option Addr} {c1 : Nat} {A6 : Option Addr} {c6 : Nat} (u1 : x.Has.length ≤ c1) (v1 : Kd.Row kPair H A1 x.Has) (u6 : x.Stands.length ≤ c6) (v6 : Kd.Row kSpan H A6 x.Stands) : kWorker.K H x [.string x.Name, .slice A1 x.Has.length c1, .int .i64 x.Slots, .int .i64 x.Speed, .int .i64 x.From, .int .i64 x.To, .slice A6 x.Stands.length c6] := ⟨[.string x.Name], [.slice A1 x.Has.length c1, .int .i64 x.Slots, .int .i64 x.Speed, .int .i64 x.From, .int .i64 x.To, .slice A6 x.Stands.length c6], rfl, rfl, ⟨[.slice A1 x.Has.length c1], [.int .i64 x.Slots, .int .i64 x.Speed, .int .i64 x.From, .int .i64 x.To, .slice A6 x.Stands.length c6], rfl, ⟨A1, c1, rfl, u1, v1⟩, ⟨[.int .i64 x.Slots], [.int .i64 x.Speed, .int .i64 x.From, .int .i64 x.To, .slice A6 x.Stands.length c6], rfl, rfl, ⟨[.int .i64 x.Speed], [.int .i64 x.From, .int .i64 x.To, .slice A6 x.Stands.length c6], rfl, rfl, ⟨[.int .i64 x.From], [.int .i64 x.To, .slice A6 x.Stands.length c6], rfl, rfl, ⟨[.int .i64 x.To], [.slice A6 x.Stands.length c6], rfl, rfl, ⟨A6, c6, rfl, u6, v6⟩⟩⟩⟩⟩⟩⟩
def kRun : Kd Run := Kd.iso ((Kd.pair Kd.string (Kd.pair Kd.string (Kd.pair (Kd.int .i64) (Kd.pair (Kd.int .i64) (Kd.int .i64)))))) (fun x => (x.Id, x.Worker, x.From, x.To, x.End))
theorem kRun_open {H : Hp} {x : Run} {c : List Value} (h : kRun.K H x c) : c = [.string x.Id, .string x.Worker, .int .i64 x.From, .int .i64 x.To, .int .i64 x.End] := by
  obtain ⟨p0, q0, rfl, g0, h0⟩ := h
  obtain rfl : p0 = [_] := g0
  obtain ⟨p1, q1, rfl, g1, h1⟩ := h0
  obtain rfl : p1 = [_] := g1
  obtain ⟨p2, q2, rfl, g2, h2⟩ := h1
  obtain rfl : p2 = [_] := g2
  obtain ⟨p3, q3, rfl, g3, h3⟩ := h2
  obtain rfl : p3 = [_] := g3
  obtain rfl : q3 = [_] := h3
  rfl
theorem kRun_mk {H : Hp} {x : Run} : kRun.K H x [.string x.Id, .string x.Worker, .int .i64 x.From, .int .i64 x.To, .int .i64 x.End] := ⟨[.string x.Id], [.string x.Worker, .int .i64 x.From, .int .i64 x.To, .int .i64 x.End], rfl, rfl, ⟨[.string x.Worker], [.int .i64 x.From, .int .i64 x.To, .int .i64 x.End], rfl, rfl, ⟨[.int .i64 x.From], [.int .i64 x.To, .int .i64 x.End], rfl, rfl, ⟨[.int .i64 x.To], [.int .i64 x.End], rfl, rfl, rfl⟩⟩⟩⟩
def kWork : Kd Work := Kd.iso ((Kd.pair Kd.string (Kd.pair (Kd.slice kPair) (Kd.pair (Kd.int .i64) (Kd.slice Kd.string))))) (fun x => (x.Id, x.Needs, x.Size, x.After))
theorem kWork_open {H : Hp} {x : Work} {c : List Value} (h : kWork.K H x c) : ∃ A1 c1, ∃ A3 c3, c = [.string x.Id, .slice A1 x.Needs.length c1, .int .i64 x.Size, .slice A3 x.After.length c3] ∧ x.Needs.length ≤ c1 ∧ Kd.Row kPair H A1 x.Needs ∧ x.After.length ≤ c3 ∧ Kd.Row Kd.string H A3 x.After := by
  obtain ⟨p0, q0, rfl, g0, h0⟩ := h
  obtain rfl : p0 = [_] := g0
  obtain ⟨p1, q1, rfl, g1, h1⟩ := h0
  obtain ⟨A1, c1, rfl, u1, v1⟩ := g1
  obtain ⟨p2, q2, rfl, g2, h2⟩ := h1
  obtain rfl : p2 = [_] := g2
  obtain ⟨A3, c3, rfl, u3, v3⟩ := h2
  exact ⟨A1, c1, A3, c3, rfl, u1, v1, u3, v3⟩
theorem kWork_mk {H : Hp} {x : Work} {A1 : Option Addr} {c1 : Nat} {A3 : Option Addr} {c3 : Nat} (u1 : x.Needs.length ≤ c1) (v1 : Kd.Row kPair H A1 x.Needs) (u3 : x.After.length ≤ c3) (v3 : Kd.Row Kd.string H A3 x.After) : kWork.K H x [.string x.Id, .slice A1 x.Needs.length c1, .int .i64 x.Size, .slice A3 x.After.length c3] := ⟨[.string x.Id], [.slice A1 x.Needs.length c1, .int .i64 x.Size, .slice A3 x.After.length c3], rfl, rfl, ⟨[.slice A1 x.Needs.length c1], [.int .i64 x.Size, .slice A3 x.After.length c3], rfl, ⟨A1, c1, rfl, u1, v1⟩, ⟨[.int .i64 x.Size], [.slice A3 x.After.length c3], rfl, rfl, ⟨A3, c3, rfl, u3, v3⟩⟩⟩⟩
def S77 (F : List Ch) (H0 : Hp) (r : ByteArray) (v : Value) (H : Hp) (cs : List Ch) : Prop := H0 = H ∧ v = .string r ∧ F = cs
theorem strings_Trim_c {w0 : World} {H : Hp} {F : List Ch} {a0 : ByteArray} {a1 : ByteArray} {r : ByteArray} (heq : strings_Trim.f a0 a1 = some r) : CallsH Tryd.prog 77 #[.string a0, .string a1] H w0 F (S77 F H r) := by
  intro w hh
  unfold strings_Trim.f at heq
  obtain ⟨hn, heq⟩ := guard?_some heq
  obtain rfl := Option.some.inj heq
  refine (Shelf.Tryd.strings_Trim a0 a1 w (by simp at hn; exact hn.1) (by simp at hn; exact hn.2.1) (by have h := hn; rw [Bool.and_eq_true, Bool.and_eq_true] at h; exact ascii_of_all h.2.2)).mono ?_
  rintro e w' ⟨rfl, hx⟩
  exact ⟨_, rfl, H, F, Le.refl H, hh.later hx, rfl, rfl, rfl⟩
noncomputable def C54 : Ctx := { P := Tryd.prog, f := 54, N := 24, c := bodyOf Tryd.f54 }
def S54 (F : List Ch) (H0 : Hp) (r : Bool) (v : Value) (H : Hp) (cs : List Ch) : Prop := H0 = H ∧ v = .bool r ∧ F = cs
theorem config_IsWord_c {w0 : World} {H : Hp} {F : List Ch} {a0 : ByteArray} {r : Bool} (heq : config_IsWord.f a0 = some r) : CallsH Tryd.prog 54 #[.string a0] H w0 (F) (S54 F H r) := by
  refine calls_of_runH (F := C54) Tryd.func54 (by kernel_rfl) Tryd.ntmps54 (args := [.string a0]) (by kernel_rfl) ?_
  unfold config_IsWord.f at heq
  refine RunH.adm 1 (es' := [.c [0], .c [1]]) (by kernel_rfl) ?_
  refine RunH.reg (by kernel_rfl) ?_
  refine RgH.runk 1 [0] (vs := []) (evs := []) (L' := [(0, .string a0)]) (by kernel_rfl) (by kernel_rfl) (fun _ _ => trivial) ?_
  refine RgH.done (by kernel_rfl) ?_
  refine RunH.adm 2 (es' := [.c [1, 0, 0], .c [1, 0, 1], .c [1, 1]]) (by kernel_rfl) ?_
  obtain ⟨t1, ht1, heq⟩ := bind_some heq
  have K1 : RunH C54 (S54 F H r) H w0 [.c [1, 0, 1], .c [1, 1]] [(0, .string a0), (20, .bool t1)] H (F) := by
    rcases bool_cases (t1) with hb4 | hb4
    · replace heq := bif_true hb4 heq
      refine RunH.condT (c := t1) (by kernel_rfl) hb4 ?_
      refine RunH.adm 1 (es' := [.c [1, 0, 1, 0, 0], .c [1, 0, 1, 0, 1], .c [1, 1]]) (by kernel_rfl) ?_
      refine RunH.reg (by kernel_rfl) ?_
      refine RgH.runk 1 [2] (vs := []) (evs := []) (L' := [(2, .bool false)]) (by kernel_rfl) (by kernel_rfl) (fun _ _ => trivial) ?_
      refine RgH.done (by kernel_rfl) ?_
      obtain rfl := Option.some.inj heq
      exact RunH.done (by kernel_rfl) Tryd.func54 (v := .bool false) (by kernel_rfl) ⟨rfl, rfl, rfl⟩
    · replace heq := bif_false hb4 heq
      refine RunH.condF (c := t1) (by kernel_rfl) hb4 ?_
      refine RunH.adm 2 (es' := [.c [1, 1, 0], .c [1, 1, 1]]) (by kernel_rfl) ?_
      refine RunH.reg (by kernel_rfl) ?_
      refine RgH.runk 1 [21] (vs := []) (evs := []) (L' := [(21, .string a0)]) (by kernel_rfl) (by kernel_rfl) (fun _ _ => trivial) ?_
      obtain ⟨y1, hy1, heq⟩ := bind_some heq
      refine RgH.does (DoesH.call (d := 22) (g := 77) (args := #[.string a0, .string ({ data := #[97, 98, 99, 100, 101, 102, 103, 104, 105, 106, 107, 108, 109, 110, 111, 112, 113, 114, 115, 116, 117, 118, 119, 120, 121, 122, 48, 49, 50, 51, 52, 53, 54, 55, 56, 57, 95, 45] } : ByteArray)]) (by kernel_rfl) (strings_Trim_c (a0 := a0) (a1 := ({ data := #[97, 98, 99, 100, 101, 102, 103, 104, 105, 106, 107, 108, 109, 110, 111, 112, 113, 114, 115, 116, 117, 118, 119, 120, 121, 122, 48, 49, 50, 51, 52, 53, 54, 55, 56, 57, 95, 45] } : ByteArray))  hy1)) ?_
      rintro _ _ _ _ ⟨_, rfl, rfl, rfl, rfl⟩
      refine RgH.runk 4 [2] (vs := []) (evs := []) (L' := [(2, .bool (sEq y1 ({ data := #[] } : ByteArray)))]) (by kernel_rfl) (by kernel_rfl) (fun _ _ => trivial) ?_
      refine RgH.done (by kernel_rfl) ?_
      obtain rfl := Option.some.inj heq
      exact RunH.done (by kernel_rfl) Tryd.func54 (v := .bool (sEq y1 ({ data := #[] } : ByteArray))) (by kernel_rfl) ⟨rfl, rfl, rfl⟩
  replace heq := ht1
  refine RunH.reg (by kernel_rfl) ?_
  refine RgH.runk 4 [6, 0] (vs := []) (evs := []) (L' := [(6, .bool (decide ((a0.size : Int) < 1))), (0, .string a0)]) (by kernel_rfl) (by kernel_rfl) (fun _ _ => trivial) ?_
  rcases bool_cases (decide ((a0.size : Int) < 1)) with hb1 | hb1
  · replace heq := bif_true hb1 heq
    refine RgH.val1 (v' := .bool true) (congrArg Value.bool hb1) ?_
    refine RgH.runk 18 [0, 20] (vs := []) (evs := []) (L' := [(0, .string a0), (20, .bool true)]) (by kernel_rfl) (by kernel_rfl) (fun _ _ => trivial) ?_
    obtain rfl := Option.some.inj heq
    refine RgH.keep [0, 20] (L' := [(0, .string a0), (20, .bool true)]) (by kernel_rfl) ?_
    refine RgH.done (by kernel_rfl) ?_
    exact K1
  · replace heq := bif_false hb1 heq
    refine RgH.val1 (v' := .bool false) (congrArg Value.bool hb1) ?_
    refine RgH.runk 9 [11, 0] (vs := []) (evs := []) (L' := [(11, .bool (decide (40 < (a0.size : Int)))), (0, .string a0)]) (by kernel_rfl) (by kernel_rfl) (fun _ _ => trivial) ?_
    rcases bool_cases (decide (40 < (a0.size : Int))) with hb2 | hb2
    · replace heq := bif_true hb2 heq
      refine RgH.val1 (v' := .bool true) (congrArg Value.bool hb2) ?_
      refine RgH.runk 18 [0, 20] (vs := []) (evs := []) (L' := [(0, .string a0), (20, .bool true)]) (by kernel_rfl) (by kernel_rfl) (fun _ _ => trivial) ?_
      obtain rfl := Option.some.inj heq
      refine RgH.keep [0, 20] (L' := [(0, .string a0), (20, .bool true)]) (by kernel_rfl) ?_
      refine RgH.done (by kernel_rfl) ?_
      exact K1
    · replace heq := bif_false hb2 heq
      refine RgH.val1 (v' := .bool false) (congrArg Value.bool hb2) ?_
      obtain ⟨hn1, heq⟩ := guard?_some heq
      refine RgH.runk 14 [16, 0] (vs := []) (evs := [.need ((0 : Int) ≤ 0 ∧ 0 < (a0.size : Int))]) (L' := [(16, .bool (decide ((bt a0 0) < 97))), (0, .string a0)]) (by kernel_rfl) (by kernel_rfl) (fun w hh => (both_of hn1)) ?_
      rcases bool_cases (decide ((bt a0 0) < 97)) with hb3 | hb3
      · replace heq := bif_true hb3 heq
        refine RgH.val1 (v' := .bool true) (congrArg Value.bool hb3) ?_
        refine RgH.runk 18 [0, 20] (vs := []) (evs := []) (L' := [(0, .string a0), (20, .bool true)]) (by kernel_rfl) (by kernel_rfl) (fun _ _ => trivial) ?_
        obtain rfl := Option.some.inj heq
        refine RgH.keep [0, 20] (L' := [(0, .string a0), (20, .bool true)]) (by kernel_rfl) ?_
        refine RgH.done (by kernel_rfl) ?_
        exact K1
      · replace heq := bif_false hb3 heq
        refine RgH.val1 (v' := .bool false) (congrArg Value.bool hb3) ?_
        obtain ⟨hn2, heq⟩ := guard?_some heq
        refine RgH.runk 18 [0, 20] (vs := []) (evs := [.need ((0 : Int) ≤ 0 ∧ 0 < (a0.size : Int))]) (L' := [(0, .string a0), (20, .bool (decide (122 < (bt a0 0))))]) (by kernel_rfl) (by kernel_rfl) (fun w hh => (both_of hn2)) ?_
        obtain rfl := Option.some.inj heq
        refine RgH.keep [0, 20] (L' := [(0, .string a0), (20, .bool (decide (122 < (bt a0 0))))]) (by kernel_rfl) ?_
        refine RgH.done (by kernel_rfl) ?_
        exact K1
noncomputable def C81 : Ctx := { P := Tryd.prog, f := 81, N := 40, c := bodyOf Tryd.f81 }
def S81 (F : List Ch) (H0 : Hp) (r : Int) (v : Value) (H : Hp) (cs : List Ch) : Prop := H0 = H ∧ v = .int .i64 r ∧ F = cs
theorem config_CheckPairs.e1_c {w0 : World} {H : Hp} {F : List Ch} {r : Int} : config_CheckPairs.e1 = some r → RunH C81 (S81 F H r) H w0 [.c [1, 1, 1, 0], .c [1, 1, 1, 1]] [] H (F) := by
  intro   heq
  unfold config_CheckPairs.e1 at heq
  refine RunH.reg (by kernel_rfl) ?_
  refine RgH.runk 1 [2] (vs := []) (evs := []) (L' := [(2, .int .i64 0)]) (by kernel_rfl) (by kernel_rfl) (fun _ _ => trivial) ?_
  refine RgH.done (by kernel_rfl) ?_
  obtain rfl := Option.some.inj heq
  exact RunH.done (by kernel_rfl) Tryd.func81 (v := .int .i64 0) (by kernel_rfl) ⟨rfl, rfl, rfl⟩
theorem config_CheckPairs.l2_c {w0 : World} {H : Hp} {F : List Ch} {r : Int} (e1 : Option Int)
    (he1 : e1 = some r → RunH C81 (S81 F H r) H w0 [.c [1, 1, 1, 0], .c [1, 1, 1, 1]] [] H (F)) : ∀ (k : Nat), ∀ (a0 : List Pair) (Aa0 : Option Addr) (ca0 : Nat) (v10 : Int) , Rw kPair H F Aa0 a0 → a0.length ≤ ca0 → config_CheckPairs.l2 e1 k a0 v10 = some r → RunH C81 (S81 F H r) H w0 [.c [1, 1, 0, 1, 0, 0], .l [1, 1, 0, 1, 0, 0], .b 0, .c [1, 1, 1]] [(0, .slice Aa0 a0.length ca0), (8, .slice Aa0 a0.length ca0), (9, .int .i64 (a0.length : Int)), (10, .int .i64 v10)] H (F) := by
  intro k
  induction k with
  | zero => intro a0 Aa0 ca0 v10 hra0 hca0 heq; exact nomatch (show (none : Option Int) = some r from heq)
  | succ k ihk =>
    intro a0 Aa0 ca0 v10 hra0 hca0 heq
    rw [config_CheckPairs.l2] at heq
    refine RunH.adm 1 (es' := [.c [1, 1, 0, 1, 0, 0, 0], .c [1, 1, 0, 1, 0, 0, 1], .l [1, 1, 0, 1, 0, 0], .b 0, .c [1, 1, 1]]) (by kernel_rfl) ?_
    refine RunH.reg (by kernel_rfl) ?_
    refine RgH.runk 1 [0, 8, 9, 10, 11] (vs := []) (evs := []) (L' := [(0, .slice Aa0 a0.length ca0), (8, .slice Aa0 a0.length ca0), (9, .int .i64 (a0.length : Int)), (10, .int .i64 v10), (11, .bool (decide (v10 < (a0.length : Int))))]) (by kernel_rfl) (by kernel_rfl) (fun _ _ => trivial) ?_
    refine RgH.done (by kernel_rfl) ?_
    refine RunH.adm 1 (es' := [.c [1, 1, 0, 1, 0, 0, 1, 0], .c [1, 1, 0, 1, 0, 0, 1, 1], .l [1, 1, 0, 1, 0, 0], .b 0, .c [1, 1, 1]]) (by kernel_rfl) ?_
    rcases bool_cases (decide (v10 < (a0.length : Int))) with hb2 | hb2
    · replace heq := bif_true hb2 heq
      refine RunH.condT (c := decide (v10 < (a0.length : Int))) (by kernel_rfl) hb2 ?_
      refine RunH.adm 4 (es' := [.c [1, 1, 0, 1, 0, 0, 1, 1, 0, 0, 0], .c [1, 1, 0, 1, 0, 0, 1, 1, 0, 0, 1], .b 1, .c [1, 1, 0, 1, 0, 0, 1, 1, 1], .l [1, 1, 0, 1, 0, 0], .b 0, .c [1, 1, 1]]) (by kernel_rfl) ?_
      refine RunH.reg (by kernel_rfl) ?_
      obtain ⟨x1, hx1, heq⟩ := bind_some heq
      obtain ⟨ha1, cs1, hK1, hcc1⟩ := hra0.get hx1
      obtain ⟨rfl⟩ := kPair_open hK1
      refine RgH.runk 3 [0, 8, 9, 10, 12, 14] (vs := [.string x1.Name, .string x1.Value]) (evs := [.need (Aa0 = some (adr Aa0) ∧ (0 : Int) ≤ v10 ∧ v10 < ((a0.length : Nat) : Int)), .load (((adr Aa0).add (v10.toNat * 2)).add 0) (.string x1.Name), .load (((adr Aa0).add (v10.toNat * 2)).add 1) (.string x1.Value)]) (L' := [(0, .slice Aa0 a0.length ca0), (8, .slice Aa0 a0.length ca0), (9, .int .i64 (a0.length : Int)), (10, .int .i64 v10), (12, .int .i64 v10), (14, .agg #[.string x1.Name, .string x1.Value])]) (by kernel_rfl) (by kernel_rfl) (fun w hh => ⟨⟨ha1, (at?_some hx1).1, (at?_some hx1).2.1⟩, (hcc1 _ _ (hh.drop 0) 0 _ rfl), (hcc1 _ _ (hh.drop 0) 1 _ rfl)⟩) ?_
      refine RgH.does (DoesH.new (d := 4) (v := fun g => .pointer (some ⟨g, 0, none⟩)) (o := fun g => .cells #[.string ByteArray.empty, .string ByteArray.empty] 76 (0, 0)) (fun g => by kernel_rfl)) ?_
      rintro _ _ _ _ ⟨g1, rfl, rfl, rfl⟩
      refine RgH.runk 5 [0, 3, 4, 8, 9, 10, 14] (vs := []) (evs := []) (L' := [(0, .slice Aa0 a0.length ca0), (3, .int .i64 v10), (4, .pointer (some ⟨g1, 0, none⟩)), (8, .slice Aa0 a0.length ca0), (9, .int .i64 (a0.length : Int)), (10, .int .i64 v10), (14, .agg #[.string x1.Name, .string x1.Value])]) (by kernel_rfl) (by kernel_rfl) (fun _ _ => trivial) ?_
      refine RgH.does (DoesH.store (k := 0) (g := g1) (off := 0) (v := .agg #[.string x1.Name, .string x1.Value]) (cells' := #[.string x1.Name, .string x1.Value]) (by kernel_rfl) rfl (by kernel_rfl) (by kernel_rfl)) ?_
      rintro _ _ _ _ ⟨rfl, rfl, rfl⟩
      refine RgH.done (by kernel_rfl) ?_
      refine RunH.adm 2 (es' := [.c [1, 1, 0, 1, 0, 0, 1, 1, 0, 0, 1, 0, 0], .c [1, 1, 0, 1, 0, 0, 1, 1, 0, 0, 1, 0, 1], .b 2, .b 1, .c [1, 1, 0, 1, 0, 0, 1, 1, 1], .l [1, 1, 0, 1, 0, 0], .b 0, .c [1, 1, 1]]) (by kernel_rfl) ?_
      refine RunH.reg (by kernel_rfl) ?_
      refine RgH.runk 2 [0, 3, 4, 8, 9, 10, 17] (vs := [.string x1.Name]) (evs := [.load ⟨g1, 0, none⟩ (.string x1.Name)]) (L' := [(0, .slice Aa0 a0.length ca0), (3, .int .i64 v10), (4, .pointer (some ⟨g1, 0, none⟩)), (8, .slice Aa0 a0.length ca0), (9, .int .i64 (a0.length : Int)), (10, .int .i64 v10), (17, .string x1.Name)]) (by kernel_rfl) (by kernel_rfl) (fun w hh => (hh.box 0 rfl rfl)) ?_
      obtain ⟨y1, hy1, heq⟩ := bind_some heq
      refine RgH.does (DoesH.call (d := 18) (g := 54) (args := #[.string x1.Name]) (by kernel_rfl) (config_IsWord_c (a0 := x1.Name)  hy1)) ?_
      rintro _ _ _ _ ⟨_, rfl, rfl, rfl, rfl⟩
      refine RgH.runk 5 [0, 3, 4, 8, 9, 10, 15] (vs := []) (evs := []) (L' := [(0, .slice Aa0 a0.length ca0), (3, .int .i64 v10), (4, .pointer (some ⟨g1, 0, none⟩)), (8, .slice Aa0 a0.length ca0), (9, .int .i64 (a0.length : Int)), (10, .int .i64 v10), (15, .bool (!y1))]) (by kernel_rfl) (by kernel_rfl) (fun _ _ => trivial) ?_
      refine RgH.done (by kernel_rfl) ?_
      rcases bool_cases (!y1) with hb3 | hb3
      · replace heq := bif_true hb3 heq
        refine RunH.condT (c := !y1) (by kernel_rfl) hb3 ?_
        refine RunH.adm 1 (es' := [.c [1, 1, 0, 1, 0, 0, 1, 1, 0, 0, 1, 0, 1, 0, 0], .c [1, 1, 0, 1, 0, 0, 1, 1, 0, 0, 1, 0, 1, 0, 1], .b 2, .b 1, .c [1, 1, 0, 1, 0, 0, 1, 1, 1], .l [1, 1, 0, 1, 0, 0], .b 0, .c [1, 1, 1]]) (by kernel_rfl) ?_
        refine RunH.reg (by kernel_rfl) ?_
        refine RgH.runk 1 [2] (vs := []) (evs := []) (L' := [(2, .int .i64 5)]) (by kernel_rfl) (by kernel_rfl) (fun _ _ => trivial) ?_
        refine RgH.done (by kernel_rfl) ?_
        obtain rfl := Option.some.inj heq
        refine RunH.pick 1 [] (cs' := F) (by kernel_rfl) rfl ?_
        exact RunH.done (by kernel_rfl) Tryd.func81 (v := .int .i64 5) (by kernel_rfl) ⟨rfl, rfl, rfl⟩
      · replace heq := bif_false hb3 heq
        refine RunH.condF (c := !y1) (by kernel_rfl) hb3 ?_
        refine RunH.adm 1 (es' := [.c [1, 1, 0, 1, 0, 0, 1, 1, 0, 0, 1, 0, 1, 1, 0], .c [1, 1, 0, 1, 0, 0, 1, 1, 0, 0, 1, 0, 1, 1, 1], .b 2, .b 1, .c [1, 1, 0, 1, 0, 0, 1, 1, 1], .l [1, 1, 0, 1, 0, 0], .b 0, .c [1, 1, 1]]) (by kernel_rfl) ?_
        refine RunH.reg (by kernel_rfl) ?_
        refine RgH.runk 2 [0, 3, 4, 8, 9, 10, 22] (vs := [.string x1.Value]) (evs := [.load ⟨g1, 1, none⟩ (.string x1.Value)]) (L' := [(0, .slice Aa0 a0.length ca0), (3, .int .i64 v10), (4, .pointer (some ⟨g1, 0, none⟩)), (8, .slice Aa0 a0.length ca0), (9, .int .i64 (a0.length : Int)), (10, .int .i64 v10), (22, .string x1.Value)]) (by kernel_rfl) (by kernel_rfl) (fun w hh => (hh.box 0 rfl rfl)) ?_
        obtain ⟨y2, hy2, heq⟩ := bind_some heq
        refine RgH.does (DoesH.call (d := 23) (g := 54) (args := #[.string x1.Value]) (by kernel_rfl) (config_IsWord_c (a0 := x1.Value)  hy2)) ?_
        rintro _ _ _ _ ⟨_, rfl, rfl, rfl, rfl⟩
        refine RgH.runk 5 [0, 3, 4, 8, 9, 10, 20] (vs := []) (evs := []) (L' := [(0, .slice Aa0 a0.length ca0), (3, .int .i64 v10), (4, .pointer (some ⟨g1, 0, none⟩)), (8, .slice Aa0 a0.length ca0), (9, .int .i64 (a0.length : Int)), (10, .int .i64 v10), (20, .bool (!y2))]) (by kernel_rfl) (by kernel_rfl) (fun _ _ => trivial) ?_
        refine RgH.done (by kernel_rfl) ?_
        rcases bool_cases (!y2) with hb4 | hb4
        · replace heq := bif_true hb4 heq
          refine RunH.condT (c := !y2) (by kernel_rfl) hb4 ?_
          refine RunH.adm 1 (es' := [.c [1, 1, 0, 1, 0, 0, 1, 1, 0, 0, 1, 0, 1, 1, 1, 0, 0], .c [1, 1, 0, 1, 0, 0, 1, 1, 0, 0, 1, 0, 1, 1, 1, 0, 1], .b 2, .b 1, .c [1, 1, 0, 1, 0, 0, 1, 1, 1], .l [1, 1, 0, 1, 0, 0], .b 0, .c [1, 1, 1]]) (by kernel_rfl) ?_
          refine RunH.reg (by kernel_rfl) ?_
          refine RgH.runk 1 [2] (vs := []) (evs := []) (L' := [(2, .int .i64 1)]) (by kernel_rfl) (by kernel_rfl) (fun _ _ => trivial) ?_
          refine RgH.done (by kernel_rfl) ?_
          obtain rfl := Option.some.inj heq
          refine RunH.pick 1 [] (cs' := F) (by kernel_rfl) rfl ?_
          exact RunH.done (by kernel_rfl) Tryd.func81 (v := .int .i64 1) (by kernel_rfl) ⟨rfl, rfl, rfl⟩
        · replace heq := bif_false hb4 heq
          refine RunH.condF (c := !y2) (by kernel_rfl) hb4 ?_
          refine RunH.adm 1 (es' := [.c [1, 1, 0, 1, 0, 0, 1, 1, 0, 0, 1, 0, 1, 1, 1, 1, 0], .c [1, 1, 0, 1, 0, 0, 1, 1, 0, 0, 1, 0, 1, 1, 1, 1, 1], .b 2, .b 1, .c [1, 1, 0, 1, 0, 0, 1, 1, 1], .l [1, 1, 0, 1, 0, 0], .b 0, .c [1, 1, 1]]) (by kernel_rfl) ?_
          obtain ⟨t1, ht1, heq⟩ := bind_some heq
          have K2 : RunH C81 (S81 F H r) H w0 [.c [1, 1, 0, 1, 0, 0, 1, 1, 0, 0, 1, 0, 1, 1, 1, 1, 1], .b 2, .b 1, .c [1, 1, 0, 1, 0, 0, 1, 1, 1], .l [1, 1, 0, 1, 0, 0], .b 0, .c [1, 1, 1]] [(0, .slice Aa0 a0.length ca0), (8, .slice Aa0 a0.length ca0), (9, .int .i64 (a0.length : Int)), (10, .int .i64 v10), (25, .bool t1)] H (F) := by
            rcases bool_cases (t1) with hb6 | hb6
            · replace heq := bif_true hb6 heq
              refine RunH.condT (c := t1) (by kernel_rfl) hb6 ?_
              refine RunH.adm 1 (es' := [.c [1, 1, 0, 1, 0, 0, 1, 1, 0, 0, 1, 0, 1, 1, 1, 1, 1, 0, 0], .c [1, 1, 0, 1, 0, 0, 1, 1, 0, 0, 1, 0, 1, 1, 1, 1, 1, 0, 1], .b 2, .b 1, .c [1, 1, 0, 1, 0, 0, 1, 1, 1], .l [1, 1, 0, 1, 0, 0], .b 0, .c [1, 1, 1]]) (by kernel_rfl) ?_
              refine RunH.reg (by kernel_rfl) ?_
              refine RgH.runk 1 [2] (vs := []) (evs := []) (L' := [(2, .int .i64 8)]) (by kernel_rfl) (by kernel_rfl) (fun _ _ => trivial) ?_
              refine RgH.done (by kernel_rfl) ?_
              obtain rfl := Option.some.inj heq
              exact RunH.done (by kernel_rfl) Tryd.func81 (v := .int .i64 8) (by kernel_rfl) ⟨rfl, rfl, rfl⟩
            · replace heq := bif_false hb6 heq
              refine RunH.condF (c := t1) (by kernel_rfl) hb6 ?_
              refine RunH.adm 3 (es' := [.c [1, 1, 0, 1, 0, 0, 1, 1, 1], .l [1, 1, 0, 1, 0, 0], .b 0, .c [1, 1, 1]]) (by kernel_rfl) ?_
              refine RunH.reg (by kernel_rfl) ?_
              refine RgH.runk 2 [0, 8, 9, 10] (vs := []) (evs := []) (L' := [(0, .slice Aa0 a0.length ca0), (8, .slice Aa0 a0.length ca0), (9, .int .i64 (a0.length : Int)), (10, .int .i64 (w64 (v10 + 1)))]) (by kernel_rfl) (by kernel_rfl) (fun _ _ => trivial) ?_
              refine RgH.done (by kernel_rfl) ?_
              refine RunH.adm 1 (es' := [.c [1, 1, 0, 1, 0, 0], .l [1, 1, 0, 1, 0, 0], .b 0, .c [1, 1, 1]]) (by kernel_rfl) ?_
              refine RunH.keep [0, 8, 9, 10] (L' := [(0, .slice Aa0 a0.length ca0), (8, .slice Aa0 a0.length ca0), (9, .int .i64 (a0.length : Int)), (10, .int .i64 (w64 (v10 + 1)))]) (by kernel_rfl) ?_
              exact ihk a0 _ _ (w64 (v10 + 1)) hra0 hca0 heq
          replace heq := ht1
          refine RunH.keep [0, 3, 4, 8, 9, 10] (L' := [(0, .slice Aa0 a0.length ca0), (3, .int .i64 v10), (4, .pointer (some ⟨g1, 0, none⟩)), (8, .slice Aa0 a0.length ca0), (9, .int .i64 (a0.length : Int)), (10, .int .i64 v10)]) (by kernel_rfl) ?_
          refine RunH.draw (fun w => Heap H w0 w ((some (g1, .cells #[.string x1.Name, .string x1.Value] 76 (0, 0))) :: F)) (fun w => Heap H w0 w ((some (g1, .cells #[.string x1.Name, .string x1.Value] 76 (0, 0))) :: F)) [false, false, false, false, false, false, false, false, false, false, false, false, false, false] (n := 14) (ls := [false, false, false, false, false, false, false, false, false, false, false, false, false, false]) (by kernel_rfl) (by kernel_rfl) (by kernel_rfl) rfl ?_
          refine DrH.run [0, 1, 2] (m := 11) (ls' := [true, true, true, false, false, false, false, false, false, false, false, false, false, false]) (vs := []) (evs := []) (L' := [(28, .bool (decide (0 < v10))), (27, .bool (decide (0 < v10))), (26, .int .i64 v10), (0, .slice Aa0 a0.length ca0), (3, .int .i64 v10), (4, .pointer (some ⟨g1, 0, none⟩)), (8, .slice Aa0 a0.length ca0), (9, .int .i64 (a0.length : Int)), (10, .int .i64 v10)]) (by kernel_rfl) (fun w hh => hh.pick 1 [0] (by kernel_rfl)) (fun w hh => hh.pick 1 [0] (by kernel_rfl)) (by kernel_rfl) (fun _ _ => trivial) (by kernel_rfl) ?_
          refine DrH.keep [28, 0, 3, 4, 8, 9, 10] (L' := [(28, .bool (decide (0 < v10))), (0, .slice Aa0 a0.length ca0), (3, .int .i64 v10), (4, .pointer (some ⟨g1, 0, none⟩)), (8, .slice Aa0 a0.length ca0), (9, .int .i64 (a0.length : Int)), (10, .int .i64 v10)]) (by kernel_rfl) ?_
          rcases bool_cases (decide (0 < v10)) with hb5 | hb5
          · replace heq := bif_true hb5 heq
            refine DrH.val1 (v' := .bool true) (congrArg Value.bool hb5) ?_
            obtain ⟨x2, hx2, heq⟩ := bind_some heq
            obtain ⟨ha2, cs2, hK2, hcc2⟩ := hra0.get hx2
            obtain ⟨rfl⟩ := kPair_open hK2
            refine DrH.run [3, 4, 5, 6, 7, 8, 9, 10, 11, 12, 13] (m := 0) (ls' := [true, true, true, true, true, true, true, true, true, true, true, true, true, true]) (vs := [.string x1.Name, .string x2.Name]) (evs := [.load ⟨g1, 0, none⟩ (.string x1.Name), .need (Aa0 = some (adr Aa0) ∧ (0 : Int) ≤ (w64 (v10 - 1)) ∧ (w64 (v10 - 1)) < ((a0.length : Nat) : Int)), .load (((adr Aa0).add ((w64 (v10 - 1)).toNat * 2)).add 0) (.string x2.Name)]) (L' := [(25, .bool (sLt x1.Name x2.Name || sEq x1.Name x2.Name)), (38, .bool (sLt x1.Name x2.Name || sEq x1.Name x2.Name)), (37, .bool (sLt x1.Name x2.Name || sEq x1.Name x2.Name)), (36, .string x2.Name), (35, .pointer (some (((adr Aa0).add ((w64 (v10 - 1)).toNat * 2)).add 0))), (34, .pointer (some ((adr Aa0).add ((w64 (v10 - 1)).toNat * 2)))), (33, .int .i64 (w64 (v10 - 1))), (32, .int .i64 v10), (31, .slice Aa0 a0.length ca0), (30, .string x1.Name), (29, .pointer (some ⟨g1, 0, none⟩)), (28, .bool true), (0, .slice Aa0 a0.length ca0), (3, .int .i64 v10), (4, .pointer (some ⟨g1, 0, none⟩)), (8, .slice Aa0 a0.length ca0), (9, .int .i64 (a0.length : Int)), (10, .int .i64 v10)]) (by kernel_rfl) (fun w hh => hh.pick 1 [0] (by kernel_rfl)) (fun w hh => hh.pick 1 [0] (by kernel_rfl)) (by kernel_rfl) (fun w hh => ⟨(hh.box 0 rfl rfl), ⟨ha2, (at?_some hx2).1, (at?_some hx2).2.1⟩, (hcc2 _ _ (hh.drop 1) 0 _ rfl)⟩) (by kernel_rfl) ?_
            refine DrH.keep [0, 8, 9, 10, 25] (L' := [(0, .slice Aa0 a0.length ca0), (8, .slice Aa0 a0.length ca0), (9, .int .i64 (a0.length : Int)), (10, .int .i64 v10), (25, .bool (sLt x1.Name x2.Name || sEq x1.Name x2.Name))]) (by kernel_rfl) ?_
            obtain rfl := Option.some.inj heq
            refine DrH.keep [0, 8, 9, 10, 25] (L' := [(0, .slice Aa0 a0.length ca0), (8, .slice Aa0 a0.length ca0), (9, .int .i64 (a0.length : Int)), (10, .int .i64 v10), (25, .bool (sLt x1.Name x2.Name || sEq x1.Name x2.Name))]) (by kernel_rfl) ?_
            refine DrH.pick 1 [] (cs' := F) (by kernel_rfl) rfl ?_
            refine DrH.done (by kernel_rfl) ?_
            exact K2
          · replace heq := bif_false hb5 heq
            refine DrH.val1 (v' := .bool false) (congrArg Value.bool hb5) ?_
            refine DrH.run [3, 4, 5, 6, 7, 8, 9, 10, 11, 12, 13] (m := 0) (ls' := [true, true, true, true, true, true, true, true, true, true, true, true, true, true]) (vs := []) (evs := []) (L' := [(25, .bool false), (38, .bool false), (37, undef), (36, undef), (35, undef), (34, undef), (33, undef), (32, undef), (31, undef), (30, undef), (29, undef), (28, .bool false), (0, .slice Aa0 a0.length ca0), (3, .int .i64 v10), (4, .pointer (some ⟨g1, 0, none⟩)), (8, .slice Aa0 a0.length ca0), (9, .int .i64 (a0.length : Int)), (10, .int .i64 v10)]) (by kernel_rfl) (fun w hh => hh.pick 1 [0] (by kernel_rfl)) (fun w hh => hh.pick 1 [0] (by kernel_rfl)) (by kernel_rfl) (fun _ _ => trivial) (by kernel_rfl) ?_
            refine DrH.keep [0, 8, 9, 10, 25] (L' := [(0, .slice Aa0 a0.length ca0), (8, .slice Aa0 a0.length ca0), (9, .int .i64 (a0.length : Int)), (10, .int .i64 v10), (25, .bool false)]) (by kernel_rfl) ?_
            obtain rfl := Option.some.inj heq
            refine DrH.keep [0, 8, 9, 10, 25] (L' := [(0, .slice Aa0 a0.length ca0), (8, .slice Aa0 a0.length ca0), (9, .int .i64 (a0.length : Int)), (10, .int .i64 v10), (25, .bool false)]) (by kernel_rfl) ?_
            refine DrH.pick 1 [] (cs' := F) (by kernel_rfl) rfl ?_
            refine DrH.done (by kernel_rfl) ?_
            exact K2
    · replace heq := bif_false hb2 heq
      refine RunH.condF (c := decide (v10 < (a0.length : Int))) (by kernel_rfl) hb2 ?_
      refine RunH.adm 2 (es' := [.c [1, 1, 1, 0], .c [1, 1, 1, 1]]) (by kernel_rfl) ?_
      refine RunH.keep [] (L' := []) (by kernel_rfl) ?_
      exact he1 heq
theorem config_CheckPairs_c {w0 : World} {H : Hp} {F : List Ch} {a0 : List Pair} {Aa0 : Option Addr} {na0 : Nat} {ca0 : Nat} {r : Int} (hra0 : Rw kPair H F Aa0 a0) (hca0 : na0 ≤ ca0) (hna0 : na0 = a0.length) (heq : config_CheckPairs.f a0 = some r) : CallsH Tryd.prog 81 #[.slice Aa0 na0 ca0] H w0 (F) (S81 F H r) := by
  refine calls_of_runH (F := C81) Tryd.func81 (by kernel_rfl) Tryd.ntmps81 (args := [.slice Aa0 na0 ca0]) (by kernel_rfl) ?_
  subst hna0
  unfold config_CheckPairs.f at heq
  refine RunH.adm 1 (es' := [.c [0], .c [1]]) (by kernel_rfl) ?_
  refine RunH.reg (by kernel_rfl) ?_
  refine RgH.runk 1 [0] (vs := []) (evs := []) (L' := [(0, .slice Aa0 a0.length ca0)]) (by kernel_rfl) (by kernel_rfl) (fun _ _ => trivial) ?_
  refine RgH.done (by kernel_rfl) ?_
  refine RunH.adm 2 (es' := [.c [1, 0, 0], .c [1, 0, 1], .c [1, 1]]) (by kernel_rfl) ?_
  refine RunH.reg (by kernel_rfl) ?_
  refine RgH.runk 3 [0, 7] (vs := []) (evs := []) (L' := [(0, .slice Aa0 a0.length ca0), (7, .bool (decide (30 < (a0.length : Int))))]) (by kernel_rfl) (by kernel_rfl) (fun _ _ => trivial) ?_
  refine RgH.done (by kernel_rfl) ?_
  rcases bool_cases (decide (30 < (a0.length : Int))) with hb1 | hb1
  · replace heq := bif_true hb1 heq
    refine RunH.condT (c := decide (30 < (a0.length : Int))) (by kernel_rfl) hb1 ?_
    refine RunH.adm 1 (es' := [.c [1, 0, 1, 0, 0], .c [1, 0, 1, 0, 1], .c [1, 1]]) (by kernel_rfl) ?_
    refine RunH.reg (by kernel_rfl) ?_
    refine RgH.runk 1 [2] (vs := []) (evs := []) (L' := [(2, .int .i64 2)]) (by kernel_rfl) (by kernel_rfl) (fun _ _ => trivial) ?_
    refine RgH.done (by kernel_rfl) ?_
    obtain rfl := Option.some.inj heq
    exact RunH.done (by kernel_rfl) Tryd.func81 (v := .int .i64 2) (by kernel_rfl) ⟨rfl, rfl, rfl⟩
  · replace heq := bif_false hb1 heq
    refine RunH.condF (c := decide (30 < (a0.length : Int))) (by kernel_rfl) hb1 ?_
    refine RunH.adm 3 (es' := [.c [1, 1, 0, 0], .c [1, 1, 0, 1], .c [1, 1, 1]]) (by kernel_rfl) ?_
    refine RunH.reg (by kernel_rfl) ?_
    refine RgH.runk 3 [0, 8, 9, 10] (vs := []) (evs := []) (L' := [(0, .slice Aa0 a0.length ca0), (8, .slice Aa0 a0.length ca0), (9, .int .i64 (a0.length : Int)), (10, .int .i64 0)]) (by kernel_rfl) (by kernel_rfl) (fun _ _ => trivial) ?_
    refine RgH.done (by kernel_rfl) ?_
    refine RunH.adm 2 (es' := [.c [1, 1, 0, 1, 0, 0], .l [1, 1, 0, 1, 0, 0], .b 0, .c [1, 1, 1]]) (by kernel_rfl) ?_
    refine RunH.keep [0, 8, 9, 10] (L' := [(0, .slice Aa0 a0.length ca0), (8, .slice Aa0 a0.length ca0), (9, .int .i64 (a0.length : Int)), (10, .int .i64 0)]) (by kernel_rfl) ?_
    exact ((config_CheckPairs.l2_c (e1 := config_CheckPairs.e1) (config_CheckPairs.e1_c)) big) a0 _ _ 0 hra0 hca0 heq
noncomputable def C56 : Ctx := { P := Tryd.prog, f := 56, N := 15, c := bodyOf Tryd.f56 }
def S56 (F : List Ch) (H0 : Hp) (r : Bool) (v : Value) (H : Hp) (cs : List Ch) : Prop := H0 = H ∧ v = .bool r ∧ F = cs
theorem workers_within_c {w0 : World} {H : Hp} {F : List Ch} {a0 : Int} {a1 : Int} {a2 : Int} {r : Bool} (heq : workers_within.f a0 a1 a2 = some r) : CallsH Tryd.prog 56 #[.int .i64 a0, .int .i64 a1, .int .i64 a2] H w0 (F) (S56 F H r) := by
  refine calls_of_runH (F := C56) Tryd.func56 (by kernel_rfl) Tryd.ntmps56 (args := [.int .i64 a0, .int .i64 a1, .int .i64 a2]) (by kernel_rfl) ?_
  unfold workers_within.f at heq
  refine RunH.adm 1 (es' := [.c [0], .c [1]]) (by kernel_rfl) ?_
  refine RunH.reg (by kernel_rfl) ?_
  refine RgH.runk 1 [0, 1, 2] (vs := []) (evs := []) (L' := [(0, .int .i64 a0), (1, .int .i64 a1), (2, .int .i64 a2)]) (by kernel_rfl) (by kernel_rfl) (fun _ _ => trivial) ?_
  refine RgH.done (by kernel_rfl) ?_
  refine RunH.adm 1 (es' := [.c [1, 0], .c [1, 1]]) (by kernel_rfl) ?_
  obtain ⟨t1, ht1, heq⟩ := bind_some heq
  have K1 : RunH C56 (S56 F H r) H w0 [.c [1, 1]] [(6, .bool t1)] H (F) := by
    obtain rfl := Option.some.inj heq
    exact RunH.done (by kernel_rfl) Tryd.func56 (v := .bool t1) (by kernel_rfl) ⟨rfl, rfl, rfl⟩
  replace heq := ht1
  refine RunH.reg (by kernel_rfl) ?_
  refine RgH.runk 4 [10, 0, 2] (vs := []) (evs := []) (L' := [(10, .bool (decide (a1 ≤ a0))), (0, .int .i64 a0), (2, .int .i64 a2)]) (by kernel_rfl) (by kernel_rfl) (fun _ _ => trivial) ?_
  rcases bool_cases (decide (a1 ≤ a0)) with hb1 | hb1
  · replace heq := bif_true hb1 heq
    refine RgH.val1 (v' := .bool true) (congrArg Value.bool hb1) ?_
    refine RgH.runk 9 [6] (vs := []) (evs := []) (L' := [(6, .bool (decide (a0 ≤ a2)))]) (by kernel_rfl) (by kernel_rfl) (fun _ _ => trivial) ?_
    obtain rfl := Option.some.inj heq
    refine RgH.keep [6] (L' := [(6, .bool (decide (a0 ≤ a2)))]) (by kernel_rfl) ?_
    refine RgH.done (by kernel_rfl) ?_
    exact K1
  · replace heq := bif_false hb1 heq
    refine RgH.val1 (v' := .bool false) (congrArg Value.bool hb1) ?_
    refine RgH.runk 9 [6] (vs := []) (evs := []) (L' := [(6, .bool false)]) (by kernel_rfl) (by kernel_rfl) (fun _ _ => trivial) ?_
    obtain rfl := Option.some.inj heq
    refine RgH.keep [6] (L' := [(6, .bool false)]) (by kernel_rfl) ?_
    refine RgH.done (by kernel_rfl) ?_
    exact K1
noncomputable def C43 : Ctx := { P := Tryd.prog, f := 43, N := 5, c := bodyOf Tryd.f43 }
def S43 (F : List Ch) (H0 : Hp) (r : Bool) (v : Value) (H : Hp) (cs : List Ch) : Prop := H0 = H ∧ v = .bool r ∧ F = cs
theorem workers_isMoment_c {w0 : World} {H : Hp} {F : List Ch} {a0 : Int} {r : Bool} (heq : workers_isMoment.f a0 = some r) : CallsH Tryd.prog 43 #[.int .i64 a0] H w0 (F) (S43 F H r) := by
  refine calls_of_runH (F := C43) Tryd.func43 (by kernel_rfl) Tryd.ntmps43 (args := [.int .i64 a0]) (by kernel_rfl) ?_
  unfold workers_isMoment.f at heq
  refine RunH.adm 1 (es' := [.c [0], .c [1]]) (by kernel_rfl) ?_
  refine RunH.reg (by kernel_rfl) ?_
  refine RgH.runk 1 [0] (vs := []) (evs := []) (L' := [(0, .int .i64 a0)]) (by kernel_rfl) (by kernel_rfl) (fun _ _ => trivial) ?_
  refine RgH.done (by kernel_rfl) ?_
  refine RunH.adm 1 (es' := [.c [1, 0], .c [1, 1]]) (by kernel_rfl) ?_
  refine RunH.reg (by kernel_rfl) ?_
  refine RgH.runk 1 [3] (vs := []) (evs := []) (L' := [(3, .int .i64 a0)]) (by kernel_rfl) (by kernel_rfl) (fun _ _ => trivial) ?_
  obtain ⟨y1, hy1, heq⟩ := bind_some heq
  refine RgH.does (DoesH.call (d := 4) (g := 56) (args := #[.int .i64 a0, .int .i64 0, .int .i64 1000000000]) (by kernel_rfl) (workers_within_c (a0 := a0) (a1 := 0) (a2 := 1000000000)  hy1)) ?_
  rintro _ _ _ _ ⟨_, rfl, rfl, rfl, rfl⟩
  refine RgH.runk 3 [2] (vs := []) (evs := []) (L' := [(2, .bool y1)]) (by kernel_rfl) (by kernel_rfl) (fun _ _ => trivial) ?_
  refine RgH.done (by kernel_rfl) ?_
  obtain rfl := Option.some.inj heq
  exact RunH.done (by kernel_rfl) Tryd.func43 (v := .bool y1) (by kernel_rfl) ⟨rfl, rfl, rfl⟩
noncomputable def C82 : Ctx := { P := Tryd.prog, f := 82, N := 46, c := bodyOf Tryd.f82 }
def S82 (F : List Ch) (H0 : Hp) (r : Int) (v : Value) (H : Hp) (cs : List Ch) : Prop := H0 = H ∧ v = .int .i64 r ∧ F = cs
theorem workers_checkStands.e1_c {w0 : World} {H : Hp} {F : List Ch} {r : Int} : workers_checkStands.e1 = some r → RunH C82 (S82 F H r) H w0 [.c [1, 1, 1, 0], .c [1, 1, 1, 1]] [] H (F) := by
  intro   heq
  unfold workers_checkStands.e1 at heq
  refine RunH.reg (by kernel_rfl) ?_
  refine RgH.runk 1 [2] (vs := []) (evs := []) (L' := [(2, .int .i64 0)]) (by kernel_rfl) (by kernel_rfl) (fun _ _ => trivial) ?_
  refine RgH.done (by kernel_rfl) ?_
  obtain rfl := Option.some.inj heq
  exact RunH.done (by kernel_rfl) Tryd.func82 (v := .int .i64 0) (by kernel_rfl) ⟨rfl, rfl, rfl⟩
theorem workers_checkStands.l2_c {w0 : World} {H : Hp} {F : List Ch} {r : Int} (e1 : Option Int)
    (he1 : e1 = some r → RunH C82 (S82 F H r) H w0 [.c [1, 1, 1, 0], .c [1, 1, 1, 1]] [] H (F)) : ∀ (k : Nat), ∀ (a0 : List Span) (Aa0 : Option Addr) (ca0 : Nat) (v10 : Int) , Rw kSpan H F Aa0 a0 → a0.length ≤ ca0 → workers_checkStands.l2 e1 k a0 v10 = some r → RunH C82 (S82 F H r) H w0 [.c [1, 1, 0, 1, 0, 0], .l [1, 1, 0, 1, 0, 0], .b 0, .c [1, 1, 1]] [(0, .slice Aa0 a0.length ca0), (8, .slice Aa0 a0.length ca0), (9, .int .i64 (a0.length : Int)), (10, .int .i64 v10)] H (F) := by
  intro k
  induction k with
  | zero => intro a0 Aa0 ca0 v10 hra0 hca0 heq; exact nomatch (show (none : Option Int) = some r from heq)
  | succ k ihk =>
    intro a0 Aa0 ca0 v10 hra0 hca0 heq
    rw [workers_checkStands.l2] at heq
    refine RunH.adm 1 (es' := [.c [1, 1, 0, 1, 0, 0, 0], .c [1, 1, 0, 1, 0, 0, 1], .l [1, 1, 0, 1, 0, 0], .b 0, .c [1, 1, 1]]) (by kernel_rfl) ?_
    refine RunH.reg (by kernel_rfl) ?_
    refine RgH.runk 1 [0, 8, 9, 10, 11] (vs := []) (evs := []) (L' := [(0, .slice Aa0 a0.length ca0), (8, .slice Aa0 a0.length ca0), (9, .int .i64 (a0.length : Int)), (10, .int .i64 v10), (11, .bool (decide (v10 < (a0.length : Int))))]) (by kernel_rfl) (by kernel_rfl) (fun _ _ => trivial) ?_
    refine RgH.done (by kernel_rfl) ?_
    refine RunH.adm 1 (es' := [.c [1, 1, 0, 1, 0, 0, 1, 0], .c [1, 1, 0, 1, 0, 0, 1, 1], .l [1, 1, 0, 1, 0, 0], .b 0, .c [1, 1, 1]]) (by kernel_rfl) ?_
    rcases bool_cases (decide (v10 < (a0.length : Int))) with hb2 | hb2
    · replace heq := bif_true hb2 heq
      refine RunH.condT (c := decide (v10 < (a0.length : Int))) (by kernel_rfl) hb2 ?_
      refine RunH.adm 4 (es' := [.c [1, 1, 0, 1, 0, 0, 1, 1, 0, 0, 0], .c [1, 1, 0, 1, 0, 0, 1, 1, 0, 0, 1], .b 1, .c [1, 1, 0, 1, 0, 0, 1, 1, 1], .l [1, 1, 0, 1, 0, 0], .b 0, .c [1, 1, 1]]) (by kernel_rfl) ?_
      refine RunH.reg (by kernel_rfl) ?_
      obtain ⟨x1, hx1, heq⟩ := bind_some heq
      obtain ⟨ha1, cs1, hK1, hcc1⟩ := hra0.get hx1
      obtain ⟨rfl⟩ := kSpan_open hK1
      refine RgH.runk 3 [0, 8, 9, 10, 12, 14] (vs := [.int .i64 x1.From, .int .i64 x1.To]) (evs := [.need (Aa0 = some (adr Aa0) ∧ (0 : Int) ≤ v10 ∧ v10 < ((a0.length : Nat) : Int)), .load (((adr Aa0).add (v10.toNat * 2)).add 0) (.int .i64 x1.From), .load (((adr Aa0).add (v10.toNat * 2)).add 1) (.int .i64 x1.To)]) (L' := [(0, .slice Aa0 a0.length ca0), (8, .slice Aa0 a0.length ca0), (9, .int .i64 (a0.length : Int)), (10, .int .i64 v10), (12, .int .i64 v10), (14, .agg #[.int .i64 x1.From, .int .i64 x1.To])]) (by kernel_rfl) (by kernel_rfl) (fun w hh => ⟨⟨ha1, (at?_some hx1).1, (at?_some hx1).2.1⟩, (hcc1 _ _ (hh.drop 0) 0 _ rfl), (hcc1 _ _ (hh.drop 0) 1 _ rfl)⟩) ?_
      refine RgH.does (DoesH.new (d := 4) (v := fun g => .pointer (some ⟨g, 0, none⟩)) (o := fun g => .cells #[.int .i64 0, .int .i64 0] 79 (0, 0)) (fun g => by kernel_rfl)) ?_
      rintro _ _ _ _ ⟨g1, rfl, rfl, rfl⟩
      refine RgH.runk 5 [0, 3, 4, 8, 9, 10, 14] (vs := []) (evs := []) (L' := [(0, .slice Aa0 a0.length ca0), (3, .int .i64 v10), (4, .pointer (some ⟨g1, 0, none⟩)), (8, .slice Aa0 a0.length ca0), (9, .int .i64 (a0.length : Int)), (10, .int .i64 v10), (14, .agg #[.int .i64 x1.From, .int .i64 x1.To])]) (by kernel_rfl) (by kernel_rfl) (fun _ _ => trivial) ?_
      refine RgH.does (DoesH.store (k := 0) (g := g1) (off := 0) (v := .agg #[.int .i64 x1.From, .int .i64 x1.To]) (cells' := #[.int .i64 x1.From, .int .i64 x1.To]) (by kernel_rfl) rfl (by kernel_rfl) (by kernel_rfl)) ?_
      rintro _ _ _ _ ⟨rfl, rfl, rfl⟩
      refine RgH.done (by kernel_rfl) ?_
      refine RunH.adm 2 (es' := [.c [1, 1, 0, 1, 0, 0, 1, 1, 0, 0, 1, 0, 0], .c [1, 1, 0, 1, 0, 0, 1, 1, 0, 0, 1, 0, 1], .c [1, 1, 0, 1, 0, 0, 1, 1, 0, 0, 1, 1], .b 1, .c [1, 1, 0, 1, 0, 0, 1, 1, 1], .l [1, 1, 0, 1, 0, 0], .b 0, .c [1, 1, 1]]) (by kernel_rfl) ?_
      obtain ⟨t1, ht1, heq⟩ := bind_some heq
      have K2 : RunH C82 (S82 F H r) H w0 [.c [1, 1, 0, 1, 0, 0, 1, 1, 0, 0, 1, 0, 1], .c [1, 1, 0, 1, 0, 0, 1, 1, 0, 0, 1, 1], .b 1, .c [1, 1, 0, 1, 0, 0, 1, 1, 1], .l [1, 1, 0, 1, 0, 0], .b 0, .c [1, 1, 1]] [(0, .slice Aa0 a0.length ca0), (3, .int .i64 v10), (4, .pointer (some ⟨g1, 0, none⟩)), (8, .slice Aa0 a0.length ca0), (9, .int .i64 (a0.length : Int)), (10, .int .i64 v10), (24, .bool t1)] H ((some (g1, .cells #[.int .i64 x1.From, .int .i64 x1.To] 79 (0, 0))) :: F) := by
        rcases bool_cases (t1) with hb4 | hb4
        · replace heq := bif_true hb4 heq
          refine RunH.condT (c := t1) (by kernel_rfl) hb4 ?_
          refine RunH.adm 1 (es' := [.c [1, 1, 0, 1, 0, 0, 1, 1, 0, 0, 1, 0, 1, 0, 0], .c [1, 1, 0, 1, 0, 0, 1, 1, 0, 0, 1, 0, 1, 0, 1], .c [1, 1, 0, 1, 0, 0, 1, 1, 0, 0, 1, 1], .b 1, .c [1, 1, 0, 1, 0, 0, 1, 1, 1], .l [1, 1, 0, 1, 0, 0], .b 0, .c [1, 1, 1]]) (by kernel_rfl) ?_
          refine RunH.reg (by kernel_rfl) ?_
          refine RgH.runk 1 [2] (vs := []) (evs := []) (L' := [(2, .int .i64 1)]) (by kernel_rfl) (by kernel_rfl) (fun _ _ => trivial) ?_
          refine RgH.done (by kernel_rfl) ?_
          obtain rfl := Option.some.inj heq
          refine RunH.pick 1 [] (cs' := F) (by kernel_rfl) rfl ?_
          exact RunH.done (by kernel_rfl) Tryd.func82 (v := .int .i64 1) (by kernel_rfl) ⟨rfl, rfl, rfl⟩
        · replace heq := bif_false hb4 heq
          refine RunH.condF (c := t1) (by kernel_rfl) hb4 ?_
          refine RunH.adm 2 (es' := [.c [1, 1, 0, 1, 0, 0, 1, 1, 0, 0, 1, 1, 0], .c [1, 1, 0, 1, 0, 0, 1, 1, 0, 0, 1, 1, 1], .b 1, .c [1, 1, 0, 1, 0, 0, 1, 1, 1], .l [1, 1, 0, 1, 0, 0], .b 0, .c [1, 1, 1]]) (by kernel_rfl) ?_
          obtain ⟨t2, ht2, heq⟩ := bind_some heq
          have K3 : RunH C82 (S82 F H r) H w0 [.c [1, 1, 0, 1, 0, 0, 1, 1, 0, 0, 1, 1, 1], .b 1, .c [1, 1, 0, 1, 0, 0, 1, 1, 1], .l [1, 1, 0, 1, 0, 0], .b 0, .c [1, 1, 1]] [(0, .slice Aa0 a0.length ca0), (8, .slice Aa0 a0.length ca0), (9, .int .i64 (a0.length : Int)), (10, .int .i64 v10), (44, .bool t2)] H (F) := by
            rcases bool_cases (t2) with hb7 | hb7
            · replace heq := bif_true hb7 heq
              refine RunH.condT (c := t2) (by kernel_rfl) hb7 ?_
              refine RunH.adm 1 (es' := [.c [1, 1, 0, 1, 0, 0, 1, 1, 0, 0, 1, 1, 1, 0, 0], .c [1, 1, 0, 1, 0, 0, 1, 1, 0, 0, 1, 1, 1, 0, 1], .b 1, .c [1, 1, 0, 1, 0, 0, 1, 1, 1], .l [1, 1, 0, 1, 0, 0], .b 0, .c [1, 1, 1]]) (by kernel_rfl) ?_
              refine RunH.reg (by kernel_rfl) ?_
              refine RgH.runk 1 [2] (vs := []) (evs := []) (L' := [(2, .int .i64 8)]) (by kernel_rfl) (by kernel_rfl) (fun _ _ => trivial) ?_
              refine RgH.done (by kernel_rfl) ?_
              obtain rfl := Option.some.inj heq
              exact RunH.done (by kernel_rfl) Tryd.func82 (v := .int .i64 8) (by kernel_rfl) ⟨rfl, rfl, rfl⟩
            · replace heq := bif_false hb7 heq
              refine RunH.condF (c := t2) (by kernel_rfl) hb7 ?_
              refine RunH.adm 2 (es' := [.c [1, 1, 0, 1, 0, 0, 1, 1, 1], .l [1, 1, 0, 1, 0, 0], .b 0, .c [1, 1, 1]]) (by kernel_rfl) ?_
              refine RunH.reg (by kernel_rfl) ?_
              refine RgH.runk 2 [0, 8, 9, 10] (vs := []) (evs := []) (L' := [(0, .slice Aa0 a0.length ca0), (8, .slice Aa0 a0.length ca0), (9, .int .i64 (a0.length : Int)), (10, .int .i64 (w64 (v10 + 1)))]) (by kernel_rfl) (by kernel_rfl) (fun _ _ => trivial) ?_
              refine RgH.done (by kernel_rfl) ?_
              refine RunH.adm 1 (es' := [.c [1, 1, 0, 1, 0, 0], .l [1, 1, 0, 1, 0, 0], .b 0, .c [1, 1, 1]]) (by kernel_rfl) ?_
              refine RunH.keep [0, 8, 9, 10] (L' := [(0, .slice Aa0 a0.length ca0), (8, .slice Aa0 a0.length ca0), (9, .int .i64 (a0.length : Int)), (10, .int .i64 (w64 (v10 + 1)))]) (by kernel_rfl) ?_
              exact ihk a0 _ _ (w64 (v10 + 1)) hra0 hca0 heq
          replace heq := ht2
          refine RunH.keep [0, 3, 4, 8, 9, 10] (L' := [(0, .slice Aa0 a0.length ca0), (3, .int .i64 v10), (4, .pointer (some ⟨g1, 0, none⟩)), (8, .slice Aa0 a0.length ca0), (9, .int .i64 (a0.length : Int)), (10, .int .i64 v10)]) (by kernel_rfl) ?_
          refine RunH.draw (fun w => Heap H w0 w ((some (g1, .cells #[.int .i64 x1.From, .int .i64 x1.To] 79 (0, 0))) :: F)) (fun w => Heap H w0 w ((some (g1, .cells #[.int .i64 x1.From, .int .i64 x1.To] 79 (0, 0))) :: F)) [false, false, false, false, false, false, false, false, false, false, false, false, false, false, false, false, false, false, false, false] (n := 20) (ls := [false, false, false, false, false, false, false, false, false, false, false, false, false, false, false, false, false, false, false, false]) (by kernel_rfl) (by kernel_rfl) (by kernel_rfl) rfl ?_
          refine DrH.run [0, 1, 2, 3, 4, 5] (m := 14) (ls' := [true, true, true, true, true, true, false, false, false, false, false, false, false, false, false, false, false, false, false, false]) (vs := [.int .i64 x1.To, .int .i64 x1.From]) (evs := [.load ⟨g1, 1, none⟩ (.int .i64 x1.To), .load ⟨g1, 0, none⟩ (.int .i64 x1.From)]) (L' := [(30, .bool (decide (x1.To ≤ x1.From))), (29, .bool (decide (x1.To ≤ x1.From))), (28, .int .i64 x1.From), (27, .pointer (some ⟨g1, 0, none⟩)), (26, .int .i64 x1.To), (25, .pointer (some ⟨g1, 1, none⟩)), (0, .slice Aa0 a0.length ca0), (3, .int .i64 v10), (4, .pointer (some ⟨g1, 0, none⟩)), (8, .slice Aa0 a0.length ca0), (9, .int .i64 (a0.length : Int)), (10, .int .i64 v10)]) (by kernel_rfl) (fun w hh => hh.pick 1 [0] (by kernel_rfl)) (fun w hh => hh.pick 1 [0] (by kernel_rfl)) (by kernel_rfl) (fun w hh => ⟨(hh.box 0 rfl rfl), (hh.box 0 rfl rfl)⟩) (by kernel_rfl) ?_
          refine DrH.keep [30, 0, 3, 4, 8, 9, 10] (L' := [(30, .bool (decide (x1.To ≤ x1.From))), (0, .slice Aa0 a0.length ca0), (3, .int .i64 v10), (4, .pointer (some ⟨g1, 0, none⟩)), (8, .slice Aa0 a0.length ca0), (9, .int .i64 (a0.length : Int)), (10, .int .i64 v10)]) (by kernel_rfl) ?_
          rcases bool_cases (decide (x1.To ≤ x1.From)) with hb5 | hb5
          · replace heq := bif_true hb5 heq
            refine DrH.val1 (v' := .bool true) (congrArg Value.bool hb5) ?_
            refine DrH.run [6, 7, 8, 9, 10, 11, 12, 13, 14, 15, 16, 17, 18, 19] (m := 0) (ls' := [true, true, true, true, true, true, true, true, true, true, true, true, true, true, true, true, true, true, true, true]) (vs := []) (evs := []) (L' := [(44, .bool true), (43, undef), (42, undef), (41, undef), (40, undef), (39, undef), (38, undef), (37, undef), (36, undef), (35, undef), (34, undef), (33, undef), (32, undef), (31, undef), (30, .bool true), (0, .slice Aa0 a0.length ca0), (3, .int .i64 v10), (4, .pointer (some ⟨g1, 0, none⟩)), (8, .slice Aa0 a0.length ca0), (9, .int .i64 (a0.length : Int)), (10, .int .i64 v10)]) (by kernel_rfl) (fun w hh => hh.pick 1 [0] (by kernel_rfl)) (fun w hh => hh.pick 1 [0] (by kernel_rfl)) (by kernel_rfl) (fun _ _ => trivial) (by kernel_rfl) ?_
            refine DrH.keep [0, 8, 9, 10, 44] (L' := [(0, .slice Aa0 a0.length ca0), (8, .slice Aa0 a0.length ca0), (9, .int .i64 (a0.length : Int)), (10, .int .i64 v10), (44, .bool true)]) (by kernel_rfl) ?_
            obtain rfl := Option.some.inj heq
            refine DrH.keep [0, 8, 9, 10, 44] (L' := [(0, .slice Aa0 a0.length ca0), (8, .slice Aa0 a0.length ca0), (9, .int .i64 (a0.length : Int)), (10, .int .i64 v10), (44, .bool true)]) (by kernel_rfl) ?_
            refine DrH.pick 1 [] (cs' := F) (by kernel_rfl) rfl ?_
            refine DrH.done (by kernel_rfl) ?_
            exact K3
          · replace heq := bif_false hb5 heq
            refine DrH.val1 (v' := .bool false) (congrArg Value.bool hb5) ?_
            refine DrH.run [6, 7, 8] (m := 11) (ls' := [true, true, true, true, true, true, true, true, true, false, false, false, false, false, false, false, false, false, false, false]) (vs := []) (evs := []) (L' := [(33, .bool (decide (0 < v10))), (32, .bool (decide (0 < v10))), (31, .int .i64 v10), (30, .bool false), (0, .slice Aa0 a0.length ca0), (3, .int .i64 v10), (4, .pointer (some ⟨g1, 0, none⟩)), (8, .slice Aa0 a0.length ca0), (9, .int .i64 (a0.length : Int)), (10, .int .i64 v10)]) (by kernel_rfl) (fun w hh => hh.pick 1 [0] (by kernel_rfl)) (fun w hh => hh.pick 1 [0] (by kernel_rfl)) (by kernel_rfl) (fun _ _ => trivial) (by kernel_rfl) ?_
            refine DrH.keep [33, 0, 3, 4, 8, 9, 10, 30] (L' := [(33, .bool (decide (0 < v10))), (0, .slice Aa0 a0.length ca0), (3, .int .i64 v10), (4, .pointer (some ⟨g1, 0, none⟩)), (8, .slice Aa0 a0.length ca0), (9, .int .i64 (a0.length : Int)), (10, .int .i64 v10), (30, .bool false)]) (by kernel_rfl) ?_
            rcases bool_cases (decide (0 < v10)) with hb6 | hb6
            · replace heq := bif_true hb6 heq
              refine DrH.val1 (v' := .bool true) (congrArg Value.bool hb6) ?_
              obtain ⟨x2, hx2, heq⟩ := bind_some heq
              obtain ⟨ha2, cs2, hK2, hcc2⟩ := hra0.get hx2
              obtain ⟨rfl⟩ := kSpan_open hK2
              refine DrH.run [9, 10, 11, 12, 13, 14, 15, 16, 17, 18, 19] (m := 0) (ls' := [true, true, true, true, true, true, true, true, true, true, true, true, true, true, true, true, true, true, true, true]) (vs := [.int .i64 x1.From, .int .i64 x2.To]) (evs := [.load ⟨g1, 0, none⟩ (.int .i64 x1.From), .need (Aa0 = some (adr Aa0) ∧ (0 : Int) ≤ (w64 (v10 - 1)) ∧ (w64 (v10 - 1)) < ((a0.length : Nat) : Int)), .load (((adr Aa0).add ((w64 (v10 - 1)).toNat * 2)).add 1) (.int .i64 x2.To)]) (L' := [(44, .bool (decide (x1.From < x2.To))), (43, .bool (decide (x1.From < x2.To))), (42, .bool (decide (x1.From < x2.To))), (41, .int .i64 x2.To), (40, .pointer (some (((adr Aa0).add ((w64 (v10 - 1)).toNat * 2)).add 1))), (39, .pointer (some ((adr Aa0).add ((w64 (v10 - 1)).toNat * 2)))), (38, .int .i64 (w64 (v10 - 1))), (37, .int .i64 v10), (36, .slice Aa0 a0.length ca0), (35, .int .i64 x1.From), (34, .pointer (some ⟨g1, 0, none⟩)), (33, .bool true), (0, .slice Aa0 a0.length ca0), (3, .int .i64 v10), (4, .pointer (some ⟨g1, 0, none⟩)), (8, .slice Aa0 a0.length ca0), (9, .int .i64 (a0.length : Int)), (10, .int .i64 v10), (30, .bool false)]) (by kernel_rfl) (fun w hh => hh.pick 1 [0] (by kernel_rfl)) (fun w hh => hh.pick 1 [0] (by kernel_rfl)) (by kernel_rfl) (fun w hh => ⟨(hh.box 0 rfl rfl), ⟨ha2, (at?_some hx2).1, (at?_some hx2).2.1⟩, (hcc2 _ _ (hh.drop 1) 1 _ rfl)⟩) (by kernel_rfl) ?_
              refine DrH.keep [0, 8, 9, 10, 44] (L' := [(0, .slice Aa0 a0.length ca0), (8, .slice Aa0 a0.length ca0), (9, .int .i64 (a0.length : Int)), (10, .int .i64 v10), (44, .bool (decide (x1.From < x2.To)))]) (by kernel_rfl) ?_
              obtain rfl := Option.some.inj heq
              refine DrH.keep [0, 8, 9, 10, 44] (L' := [(0, .slice Aa0 a0.length ca0), (8, .slice Aa0 a0.length ca0), (9, .int .i64 (a0.length : Int)), (10, .int .i64 v10), (44, .bool (decide (x1.From < x2.To)))]) (by kernel_rfl) ?_
              refine DrH.pick 1 [] (cs' := F) (by kernel_rfl) rfl ?_
              refine DrH.done (by kernel_rfl) ?_
              exact K3
            · replace heq := bif_false hb6 heq
              refine DrH.val1 (v' := .bool false) (congrArg Value.bool hb6) ?_
              refine DrH.run [9, 10, 11, 12, 13, 14, 15, 16, 17, 18, 19] (m := 0) (ls' := [true, true, true, true, true, true, true, true, true, true, true, true, true, true, true, true, true, true, true, true]) (vs := []) (evs := []) (L' := [(44, .bool false), (43, .bool false), (42, undef), (41, undef), (40, undef), (39, undef), (38, undef), (37, undef), (36, undef), (35, undef), (34, undef), (33, .bool false), (0, .slice Aa0 a0.length ca0), (3, .int .i64 v10), (4, .pointer (some ⟨g1, 0, none⟩)), (8, .slice Aa0 a0.length ca0), (9, .int .i64 (a0.length : Int)), (10, .int .i64 v10), (30, .bool false)]) (by kernel_rfl) (fun w hh => hh.pick 1 [0] (by kernel_rfl)) (fun w hh => hh.pick 1 [0] (by kernel_rfl)) (by kernel_rfl) (fun _ _ => trivial) (by kernel_rfl) ?_
              refine DrH.keep [0, 8, 9, 10, 44] (L' := [(0, .slice Aa0 a0.length ca0), (8, .slice Aa0 a0.length ca0), (9, .int .i64 (a0.length : Int)), (10, .int .i64 v10), (44, .bool false)]) (by kernel_rfl) ?_
              obtain rfl := Option.some.inj heq
              refine DrH.keep [0, 8, 9, 10, 44] (L' := [(0, .slice Aa0 a0.length ca0), (8, .slice Aa0 a0.length ca0), (9, .int .i64 (a0.length : Int)), (10, .int .i64 v10), (44, .bool false)]) (by kernel_rfl) ?_
              refine DrH.pick 1 [] (cs' := F) (by kernel_rfl) rfl ?_
              refine DrH.done (by kernel_rfl) ?_
              exact K3
      replace heq := ht1
      refine RunH.reg (by kernel_rfl) ?_
      refine RgH.runk 2 [0, 3, 4, 8, 9, 10, 16] (vs := [.int .i64 x1.From]) (evs := [.load ⟨g1, 0, none⟩ (.int .i64 x1.From)]) (L' := [(0, .slice Aa0 a0.length ca0), (3, .int .i64 v10), (4, .pointer (some ⟨g1, 0, none⟩)), (8, .slice Aa0 a0.length ca0), (9, .int .i64 (a0.length : Int)), (10, .int .i64 v10), (16, .int .i64 x1.From)]) (by kernel_rfl) (by kernel_rfl) (fun w hh => (hh.box 0 rfl rfl)) ?_
      obtain ⟨y1, hy1, heq⟩ := bind_some heq
      refine RgH.does (DoesH.call (d := 17) (g := 43) (args := #[.int .i64 x1.From]) (by kernel_rfl) (workers_isMoment_c (a0 := x1.From)  hy1)) ?_
      rintro _ _ _ _ ⟨_, rfl, rfl, rfl, rfl⟩
      refine RgH.runk 5 [19, 0, 3, 4, 8, 9, 10] (vs := []) (evs := []) (L' := [(19, .bool (!y1)), (0, .slice Aa0 a0.length ca0), (3, .int .i64 v10), (4, .pointer (some ⟨g1, 0, none⟩)), (8, .slice Aa0 a0.length ca0), (9, .int .i64 (a0.length : Int)), (10, .int .i64 v10)]) (by kernel_rfl) (by kernel_rfl) (fun _ _ => trivial) ?_
      rcases bool_cases (!y1) with hb3 | hb3
      · replace heq := bif_true hb3 heq
        refine RgH.val1 (v' := .bool true) (congrArg Value.bool hb3) ?_
        refine RgH.runk 10 [0, 3, 4, 8, 9, 10, 24] (vs := []) (evs := []) (L' := [(0, .slice Aa0 a0.length ca0), (3, .int .i64 v10), (4, .pointer (some ⟨g1, 0, none⟩)), (8, .slice Aa0 a0.length ca0), (9, .int .i64 (a0.length : Int)), (10, .int .i64 v10), (24, .bool true)]) (by kernel_rfl) (by kernel_rfl) (fun _ _ => trivial) ?_
        obtain rfl := Option.some.inj heq
        refine RgH.keep [0, 3, 4, 8, 9, 10, 24] (L' := [(0, .slice Aa0 a0.length ca0), (3, .int .i64 v10), (4, .pointer (some ⟨g1, 0, none⟩)), (8, .slice Aa0 a0.length ca0), (9, .int .i64 (a0.length : Int)), (10, .int .i64 v10), (24, .bool true)]) (by kernel_rfl) ?_
        refine RgH.done (by kernel_rfl) ?_
        exact K2
      · replace heq := bif_false hb3 heq
        refine RgH.val1 (v' := .bool false) (congrArg Value.bool hb3) ?_
        refine RgH.runk 7 [0, 3, 4, 8, 9, 10, 19, 21] (vs := [.int .i64 x1.To]) (evs := [.load ⟨g1, 1, none⟩ (.int .i64 x1.To)]) (L' := [(0, .slice Aa0 a0.length ca0), (3, .int .i64 v10), (4, .pointer (some ⟨g1, 0, none⟩)), (8, .slice Aa0 a0.length ca0), (9, .int .i64 (a0.length : Int)), (10, .int .i64 v10), (19, .bool false), (21, .int .i64 x1.To)]) (by kernel_rfl) (by kernel_rfl) (fun w hh => (hh.box 0 rfl rfl)) ?_
        obtain ⟨y2, hy2, heq⟩ := bind_some heq
        refine RgH.does (DoesH.call (d := 22) (g := 43) (args := #[.int .i64 x1.To]) (by kernel_rfl) (workers_isMoment_c (a0 := x1.To)  hy2)) ?_
        rintro _ _ _ _ ⟨_, rfl, rfl, rfl, rfl⟩
        refine RgH.runk 10 [0, 3, 4, 8, 9, 10, 24] (vs := []) (evs := []) (L' := [(0, .slice Aa0 a0.length ca0), (3, .int .i64 v10), (4, .pointer (some ⟨g1, 0, none⟩)), (8, .slice Aa0 a0.length ca0), (9, .int .i64 (a0.length : Int)), (10, .int .i64 v10), (24, .bool (!y2))]) (by kernel_rfl) (by kernel_rfl) (fun _ _ => trivial) ?_
        obtain rfl := Option.some.inj heq
        refine RgH.keep [0, 3, 4, 8, 9, 10, 24] (L' := [(0, .slice Aa0 a0.length ca0), (3, .int .i64 v10), (4, .pointer (some ⟨g1, 0, none⟩)), (8, .slice Aa0 a0.length ca0), (9, .int .i64 (a0.length : Int)), (10, .int .i64 v10), (24, .bool (!y2))]) (by kernel_rfl) ?_
        refine RgH.done (by kernel_rfl) ?_
        exact K2
    · replace heq := bif_false hb2 heq
      refine RunH.condF (c := decide (v10 < (a0.length : Int))) (by kernel_rfl) hb2 ?_
      refine RunH.adm 2 (es' := [.c [1, 1, 1, 0], .c [1, 1, 1, 1]]) (by kernel_rfl) ?_
      refine RunH.keep [] (L' := []) (by kernel_rfl) ?_
      exact he1 heq
theorem workers_checkStands_c {w0 : World} {H : Hp} {F : List Ch} {a0 : List Span} {Aa0 : Option Addr} {na0 : Nat} {ca0 : Nat} {r : Int} (hra0 : Rw kSpan H F Aa0 a0) (hca0 : na0 ≤ ca0) (hna0 : na0 = a0.length) (heq : workers_checkStands.f a0 = some r) : CallsH Tryd.prog 82 #[.slice Aa0 na0 ca0] H w0 (F) (S82 F H r) := by
  refine calls_of_runH (F := C82) Tryd.func82 (by kernel_rfl) Tryd.ntmps82 (args := [.slice Aa0 na0 ca0]) (by kernel_rfl) ?_
  subst hna0
  unfold workers_checkStands.f at heq
  refine RunH.adm 1 (es' := [.c [0], .c [1]]) (by kernel_rfl) ?_
  refine RunH.reg (by kernel_rfl) ?_
  refine RgH.runk 1 [0] (vs := []) (evs := []) (L' := [(0, .slice Aa0 a0.length ca0)]) (by kernel_rfl) (by kernel_rfl) (fun _ _ => trivial) ?_
  refine RgH.done (by kernel_rfl) ?_
  refine RunH.adm 2 (es' := [.c [1, 0, 0], .c [1, 0, 1], .c [1, 1]]) (by kernel_rfl) ?_
  refine RunH.reg (by kernel_rfl) ?_
  refine RgH.runk 3 [0, 7] (vs := []) (evs := []) (L' := [(0, .slice Aa0 a0.length ca0), (7, .bool (decide (20 < (a0.length : Int))))]) (by kernel_rfl) (by kernel_rfl) (fun _ _ => trivial) ?_
  refine RgH.done (by kernel_rfl) ?_
  rcases bool_cases (decide (20 < (a0.length : Int))) with hb1 | hb1
  · replace heq := bif_true hb1 heq
    refine RunH.condT (c := decide (20 < (a0.length : Int))) (by kernel_rfl) hb1 ?_
    refine RunH.adm 1 (es' := [.c [1, 0, 1, 0, 0], .c [1, 0, 1, 0, 1], .c [1, 1]]) (by kernel_rfl) ?_
    refine RunH.reg (by kernel_rfl) ?_
    refine RgH.runk 1 [2] (vs := []) (evs := []) (L' := [(2, .int .i64 2)]) (by kernel_rfl) (by kernel_rfl) (fun _ _ => trivial) ?_
    refine RgH.done (by kernel_rfl) ?_
    obtain rfl := Option.some.inj heq
    exact RunH.done (by kernel_rfl) Tryd.func82 (v := .int .i64 2) (by kernel_rfl) ⟨rfl, rfl, rfl⟩
  · replace heq := bif_false hb1 heq
    refine RunH.condF (c := decide (20 < (a0.length : Int))) (by kernel_rfl) hb1 ?_
    refine RunH.adm 3 (es' := [.c [1, 1, 0, 0], .c [1, 1, 0, 1], .c [1, 1, 1]]) (by kernel_rfl) ?_
    refine RunH.reg (by kernel_rfl) ?_
    refine RgH.runk 3 [0, 8, 9, 10] (vs := []) (evs := []) (L' := [(0, .slice Aa0 a0.length ca0), (8, .slice Aa0 a0.length ca0), (9, .int .i64 (a0.length : Int)), (10, .int .i64 0)]) (by kernel_rfl) (by kernel_rfl) (fun _ _ => trivial) ?_
    refine RgH.done (by kernel_rfl) ?_
    refine RunH.adm 2 (es' := [.c [1, 1, 0, 1, 0, 0], .l [1, 1, 0, 1, 0, 0], .b 0, .c [1, 1, 1]]) (by kernel_rfl) ?_
    refine RunH.keep [0, 8, 9, 10] (L' := [(0, .slice Aa0 a0.length ca0), (8, .slice Aa0 a0.length ca0), (9, .int .i64 (a0.length : Int)), (10, .int .i64 0)]) (by kernel_rfl) ?_
    exact ((workers_checkStands.l2_c (e1 := workers_checkStands.e1) (workers_checkStands.e1_c)) big) a0 _ _ 0 hra0 hca0 heq
noncomputable def C59 : Ctx := { P := Tryd.prog, f := 59, N := 44, c := bodyOf Tryd.f59 }
def S59 (F : List Ch) (H0 : Hp) (r : Int) (v : Value) (H : Hp) (cs : List Ch) : Prop := H0 = H ∧ v = .int .i64 r ∧ F = cs
theorem workers_checkWorker_c {w0 : World} {H : Hp} {F : List Ch} {a0 : Worker} {Aa0_1 : Option Addr} {na0_1 : Nat} {ca0_1 : Nat} {Aa0_6 : Option Addr} {na0_6 : Nat} {ca0_6 : Nat} {r : Int} (hra0_1 : Rw kPair H F Aa0_1 a0.Has) (hca0_1 : na0_1 ≤ ca0_1) (hna0_1 : na0_1 = a0.Has.length) (hra0_6 : Rw kSpan H F Aa0_6 a0.Stands) (hca0_6 : na0_6 ≤ ca0_6) (hna0_6 : na0_6 = a0.Stands.length) (heq : workers_checkWorker.f a0 = some r) : CallsH Tryd.prog 59 #[.agg #[.string a0.Name, .slice Aa0_1 na0_1 ca0_1, .int .i64 a0.Slots, .int .i64 a0.Speed, .int .i64 a0.From, .int .i64 a0.To, .slice Aa0_6 na0_6 ca0_6]] H w0 (F) (S59 F H r) := by
  refine calls_of_runH (F := C59) Tryd.func59 (by kernel_rfl) Tryd.ntmps59 (args := [.agg #[.string a0.Name, .slice Aa0_1 na0_1 ca0_1, .int .i64 a0.Slots, .int .i64 a0.Speed, .int .i64 a0.From, .int .i64 a0.To, .slice Aa0_6 na0_6 ca0_6]]) (by kernel_rfl) ?_
  subst hna0_1
  subst hna0_6
  unfold workers_checkWorker.f at heq
  refine RunH.adm 1 (es' := [.c [0], .c [1]]) (by kernel_rfl) ?_
  refine RunH.reg (by kernel_rfl) ?_
  refine RgH.does (DoesH.new (d := 1) (v := fun g => .pointer (some ⟨g, 0, none⟩)) (o := fun g => .cells #[.string a0.Name, .slice Aa0_1 a0.Has.length ca0_1, .int .i64 a0.Slots, .int .i64 a0.Speed, .int .i64 a0.From, .int .i64 a0.To, .slice Aa0_6 a0.Stands.length ca0_6] 25 (0, 0)) (fun g => by kernel_rfl)) ?_
  rintro _ _ _ _ ⟨g1, rfl, rfl, rfl⟩
  refine RgH.runk 2 [1] (vs := []) (evs := []) (L' := [(1, .pointer (some ⟨g1, 0, none⟩))]) (by kernel_rfl) (by kernel_rfl) (fun _ _ => trivial) ?_
  refine RgH.done (by kernel_rfl) ?_
  refine RunH.adm 2 (es' := [.c [1, 0, 0], .c [1, 0, 1], .c [1, 1]]) (by kernel_rfl) ?_
  refine RunH.reg (by kernel_rfl) ?_
  refine RgH.runk 2 [1, 5] (vs := [.string a0.Name]) (evs := [.load ⟨g1, 0, none⟩ (.string a0.Name)]) (L' := [(1, .pointer (some ⟨g1, 0, none⟩)), (5, .string a0.Name)]) (by kernel_rfl) (by kernel_rfl) (fun w hh => (hh.box 0 rfl rfl)) ?_
  obtain ⟨y1, hy1, heq⟩ := bind_some heq
  refine RgH.does (DoesH.call (d := 6) (g := 54) (args := #[.string a0.Name]) (by kernel_rfl) (config_IsWord_c (a0 := a0.Name)  hy1)) ?_
  rintro _ _ _ _ ⟨_, rfl, rfl, rfl, rfl⟩
  refine RgH.runk 4 [1, 7] (vs := []) (evs := []) (L' := [(1, .pointer (some ⟨g1, 0, none⟩)), (7, .bool (!y1))]) (by kernel_rfl) (by kernel_rfl) (fun _ _ => trivial) ?_
  refine RgH.done (by kernel_rfl) ?_
  rcases bool_cases (!y1) with hb1 | hb1
  · replace heq := bif_true hb1 heq
    refine RunH.condT (c := !y1) (by kernel_rfl) hb1 ?_
    refine RunH.adm 1 (es' := [.c [1, 0, 1, 0, 0], .c [1, 0, 1, 0, 1], .c [1, 1]]) (by kernel_rfl) ?_
    refine RunH.reg (by kernel_rfl) ?_
    refine RgH.runk 1 [2] (vs := []) (evs := []) (L' := [(2, .int .i64 5)]) (by kernel_rfl) (by kernel_rfl) (fun _ _ => trivial) ?_
    refine RgH.done (by kernel_rfl) ?_
    obtain rfl := Option.some.inj heq
    refine RunH.pick 1 [] (cs' := F) (by kernel_rfl) rfl ?_
    exact RunH.done (by kernel_rfl) Tryd.func59 (v := .int .i64 5) (by kernel_rfl) ⟨rfl, rfl, rfl⟩
  · replace heq := bif_false hb1 heq
    refine RunH.condF (c := !y1) (by kernel_rfl) hb1 ?_
    refine RunH.adm 3 (es' := [.c [1, 1, 0, 0], .c [1, 1, 0, 1], .c [1, 1, 1]]) (by kernel_rfl) ?_
    refine RunH.reg (by kernel_rfl) ?_
    refine RgH.runk 2 [1, 9] (vs := [.slice Aa0_1 a0.Has.length ca0_1]) (evs := [.load ⟨g1, 1, none⟩ (.slice Aa0_1 a0.Has.length ca0_1)]) (L' := [(1, .pointer (some ⟨g1, 0, none⟩)), (9, .slice Aa0_1 a0.Has.length ca0_1)]) (by kernel_rfl) (by kernel_rfl) (fun w hh => (hh.box 0 rfl rfl)) ?_
    obtain ⟨y2, hy2, heq⟩ := bind_some heq
    refine RgH.does (DoesH.call (d := 10) (g := 81) (args := #[.slice Aa0_1 a0.Has.length ca0_1]) (by kernel_rfl) (config_CheckPairs_c (a0 := a0.Has) (hra0_1.wk (fun _ h => (.tail _ h))) hca0_1 rfl hy2)) ?_
    rintro _ _ _ _ ⟨_, rfl, rfl, rfl, rfl⟩
    refine RgH.runk 4 [1, 3] (vs := []) (evs := []) (L' := [(1, .pointer (some ⟨g1, 0, none⟩)), (3, .int .i64 y2)]) (by kernel_rfl) (by kernel_rfl) (fun _ _ => trivial) ?_
    refine RgH.done (by kernel_rfl) ?_
    refine RunH.adm 1 (es' := [.c [1, 1, 0, 1, 0], .c [1, 1, 0, 1, 1], .c [1, 1, 1]]) (by kernel_rfl) ?_
    refine RunH.reg (by kernel_rfl) ?_
    refine RgH.runk 2 [1, 3, 12] (vs := []) (evs := []) (L' := [(1, .pointer (some ⟨g1, 0, none⟩)), (3, .int .i64 y2), (12, .bool (y2 != 0))]) (by kernel_rfl) (by kernel_rfl) (fun _ _ => trivial) ?_
    refine RgH.done (by kernel_rfl) ?_
    rcases bool_cases (y2 != 0) with hb2 | hb2
    · replace heq := bif_true hb2 heq
      refine RunH.condT (c := y2 != 0) (by kernel_rfl) hb2 ?_
      refine RunH.adm 1 (es' := [.c [1, 1, 0, 1, 1, 0, 0], .c [1, 1, 0, 1, 1, 0, 1], .c [1, 1, 1]]) (by kernel_rfl) ?_
      refine RunH.reg (by kernel_rfl) ?_
      refine RgH.runk 2 [2] (vs := []) (evs := []) (L' := [(2, .int .i64 y2)]) (by kernel_rfl) (by kernel_rfl) (fun _ _ => trivial) ?_
      refine RgH.done (by kernel_rfl) ?_
      obtain rfl := Option.some.inj heq
      refine RunH.pick 1 [] (cs' := F) (by kernel_rfl) rfl ?_
      exact RunH.done (by kernel_rfl) Tryd.func59 (v := .int .i64 y2) (by kernel_rfl) ⟨rfl, rfl, rfl⟩
    · replace heq := bif_false hb2 heq
      refine RunH.condF (c := y2 != 0) (by kernel_rfl) hb2 ?_
      refine RunH.adm 3 (es' := [.c [1, 1, 1, 0, 0], .c [1, 1, 1, 0, 1], .c [1, 1, 1, 1]]) (by kernel_rfl) ?_
      obtain ⟨t1, ht1, heq⟩ := bind_some heq
      have K2 : RunH C59 (S59 F H r) H w0 [.c [1, 1, 1, 0, 1], .c [1, 1, 1, 1]] [(1, .pointer (some ⟨g1, 0, none⟩)), (35, .bool t1)] H ((some (g1, .cells #[.string a0.Name, .slice Aa0_1 a0.Has.length ca0_1, .int .i64 a0.Slots, .int .i64 a0.Speed, .int .i64 a0.From, .int .i64 a0.To, .slice Aa0_6 a0.Stands.length ca0_6] 25 (0, 0))) :: F) := by
        rcases bool_cases (t1) with hb6 | hb6
        · replace heq := bif_true hb6 heq
          refine RunH.condT (c := t1) (by kernel_rfl) hb6 ?_
          refine RunH.adm 1 (es' := [.c [1, 1, 1, 0, 1, 0, 0], .c [1, 1, 1, 0, 1, 0, 1], .c [1, 1, 1, 1]]) (by kernel_rfl) ?_
          refine RunH.reg (by kernel_rfl) ?_
          refine RgH.runk 1 [2] (vs := []) (evs := []) (L' := [(2, .int .i64 1)]) (by kernel_rfl) (by kernel_rfl) (fun _ _ => trivial) ?_
          refine RgH.done (by kernel_rfl) ?_
          obtain rfl := Option.some.inj heq
          refine RunH.pick 1 [] (cs' := F) (by kernel_rfl) rfl ?_
          exact RunH.done (by kernel_rfl) Tryd.func59 (v := .int .i64 1) (by kernel_rfl) ⟨rfl, rfl, rfl⟩
        · replace heq := bif_false hb6 heq
          refine RunH.condF (c := t1) (by kernel_rfl) hb6 ?_
          refine RunH.adm 3 (es' := [.c [1, 1, 1, 1, 0, 0], .c [1, 1, 1, 1, 0, 1], .c [1, 1, 1, 1, 1]]) (by kernel_rfl) ?_
          refine RunH.reg (by kernel_rfl) ?_
          refine RgH.runk 5 [1, 40] (vs := [.int .i64 a0.To, .int .i64 a0.From]) (evs := [.load ⟨g1, 5, none⟩ (.int .i64 a0.To), .load ⟨g1, 4, none⟩ (.int .i64 a0.From)]) (L' := [(1, .pointer (some ⟨g1, 0, none⟩)), (40, .bool (decide (a0.To ≤ a0.From)))]) (by kernel_rfl) (by kernel_rfl) (fun w hh => ⟨(hh.box 0 rfl rfl), (hh.box 0 rfl rfl)⟩) ?_
          refine RgH.done (by kernel_rfl) ?_
          rcases bool_cases (decide (a0.To ≤ a0.From)) with hb7 | hb7
          · replace heq := bif_true hb7 heq
            refine RunH.condT (c := decide (a0.To ≤ a0.From)) (by kernel_rfl) hb7 ?_
            refine RunH.adm 1 (es' := [.c [1, 1, 1, 1, 0, 1, 0, 0], .c [1, 1, 1, 1, 0, 1, 0, 1], .c [1, 1, 1, 1, 1]]) (by kernel_rfl) ?_
            refine RunH.reg (by kernel_rfl) ?_
            refine RgH.runk 1 [2] (vs := []) (evs := []) (L' := [(2, .int .i64 8)]) (by kernel_rfl) (by kernel_rfl) (fun _ _ => trivial) ?_
            refine RgH.done (by kernel_rfl) ?_
            obtain rfl := Option.some.inj heq
            refine RunH.pick 1 [] (cs' := F) (by kernel_rfl) rfl ?_
            exact RunH.done (by kernel_rfl) Tryd.func59 (v := .int .i64 8) (by kernel_rfl) ⟨rfl, rfl, rfl⟩
          · replace heq := bif_false hb7 heq
            refine RunH.condF (c := decide (a0.To ≤ a0.From)) (by kernel_rfl) hb7 ?_
            refine RunH.adm 2 (es' := [.c [1, 1, 1, 1, 1, 0], .c [1, 1, 1, 1, 1, 1]]) (by kernel_rfl) ?_
            refine RunH.reg (by kernel_rfl) ?_
            refine RgH.runk 2 [42] (vs := [.slice Aa0_6 a0.Stands.length ca0_6]) (evs := [.load ⟨g1, 6, none⟩ (.slice Aa0_6 a0.Stands.length ca0_6)]) (L' := [(42, .slice Aa0_6 a0.Stands.length ca0_6)]) (by kernel_rfl) (by kernel_rfl) (fun w hh => (hh.box 0 rfl rfl)) ?_
            obtain ⟨y7, hy7, heq⟩ := bind_some heq
            refine RgH.does (DoesH.call (d := 43) (g := 82) (args := #[.slice Aa0_6 a0.Stands.length ca0_6]) (by kernel_rfl) (workers_checkStands_c (a0 := a0.Stands) (hra0_6.wk (fun _ h => (.tail _ h))) hca0_6 rfl hy7)) ?_
            rintro _ _ _ _ ⟨_, rfl, rfl, rfl, rfl⟩
            refine RgH.runk 4 [2] (vs := []) (evs := []) (L' := [(2, .int .i64 y7)]) (by kernel_rfl) (by kernel_rfl) (fun _ _ => trivial) ?_
            refine RgH.done (by kernel_rfl) ?_
            obtain rfl := Option.some.inj heq
            refine RunH.pick 1 [] (cs' := F) (by kernel_rfl) rfl ?_
            exact RunH.done (by kernel_rfl) Tryd.func59 (v := .int .i64 y7) (by kernel_rfl) ⟨rfl, rfl, rfl⟩
      replace heq := ht1
      refine RunH.reg (by kernel_rfl) ?_
      refine RgH.runk 2 [1, 15] (vs := [.int .i64 a0.Slots]) (evs := [.load ⟨g1, 2, none⟩ (.int .i64 a0.Slots)]) (L' := [(1, .pointer (some ⟨g1, 0, none⟩)), (15, .int .i64 a0.Slots)]) (by kernel_rfl) (by kernel_rfl) (fun w hh => (hh.box 0 rfl rfl)) ?_
      obtain ⟨y3, hy3, heq⟩ := bind_some heq
      refine RgH.does (DoesH.call (d := 16) (g := 56) (args := #[.int .i64 a0.Slots, .int .i64 1, .int .i64 20]) (by kernel_rfl) (workers_within_c (a0 := a0.Slots) (a1 := 1) (a2 := 20)  hy3)) ?_
      rintro _ _ _ _ ⟨_, rfl, rfl, rfl, rfl⟩
      refine RgH.runk 5 [18, 1] (vs := []) (evs := []) (L' := [(18, .bool (!y3)), (1, .pointer (some ⟨g1, 0, none⟩))]) (by kernel_rfl) (by kernel_rfl) (fun _ _ => trivial) ?_
      rcases bool_cases (!y3) with hb3 | hb3
      · replace heq := bif_true hb3 heq
        refine RgH.val1 (v' := .bool true) (congrArg Value.bool hb3) ?_
        refine RgH.runk 22 [1, 35] (vs := []) (evs := []) (L' := [(1, .pointer (some ⟨g1, 0, none⟩)), (35, .bool true)]) (by kernel_rfl) (by kernel_rfl) (fun _ _ => trivial) ?_
        obtain rfl := Option.some.inj heq
        refine RgH.keep [1, 35] (L' := [(1, .pointer (some ⟨g1, 0, none⟩)), (35, .bool true)]) (by kernel_rfl) ?_
        refine RgH.done (by kernel_rfl) ?_
        exact K2
      · replace heq := bif_false hb3 heq
        refine RgH.val1 (v' := .bool false) (congrArg Value.bool hb3) ?_
        refine RgH.runk 7 [1, 18, 20] (vs := [.int .i64 a0.Speed]) (evs := [.load ⟨g1, 3, none⟩ (.int .i64 a0.Speed)]) (L' := [(1, .pointer (some ⟨g1, 0, none⟩)), (18, .bool false), (20, .int .i64 a0.Speed)]) (by kernel_rfl) (by kernel_rfl) (fun w hh => (hh.box 0 rfl rfl)) ?_
        obtain ⟨y4, hy4, heq⟩ := bind_some heq
        refine RgH.does (DoesH.call (d := 21) (g := 56) (args := #[.int .i64 a0.Speed, .int .i64 1, .int .i64 1000]) (by kernel_rfl) (workers_within_c (a0 := a0.Speed) (a1 := 1) (a2 := 1000)  hy4)) ?_
        rintro _ _ _ _ ⟨_, rfl, rfl, rfl, rfl⟩
        refine RgH.runk 11 [24, 1] (vs := []) (evs := []) (L' := [(24, .bool (!y4)), (1, .pointer (some ⟨g1, 0, none⟩))]) (by kernel_rfl) (by kernel_rfl) (fun _ _ => trivial) ?_
        rcases bool_cases (!y4) with hb4 | hb4
        · replace heq := bif_true hb4 heq
          refine RgH.val1 (v' := .bool true) (congrArg Value.bool hb4) ?_
          refine RgH.runk 22 [1, 35] (vs := []) (evs := []) (L' := [(1, .pointer (some ⟨g1, 0, none⟩)), (35, .bool true)]) (by kernel_rfl) (by kernel_rfl) (fun _ _ => trivial) ?_
          obtain rfl := Option.some.inj heq
          refine RgH.keep [1, 35] (L' := [(1, .pointer (some ⟨g1, 0, none⟩)), (35, .bool true)]) (by kernel_rfl) ?_
          refine RgH.done (by kernel_rfl) ?_
          exact K2
        · replace heq := bif_false hb4 heq
          refine RgH.val1 (v' := .bool false) (congrArg Value.bool hb4) ?_
          refine RgH.runk 13 [1, 24, 26] (vs := [.int .i64 a0.From]) (evs := [.load ⟨g1, 4, none⟩ (.int .i64 a0.From)]) (L' := [(1, .pointer (some ⟨g1, 0, none⟩)), (24, .bool false), (26, .int .i64 a0.From)]) (by kernel_rfl) (by kernel_rfl) (fun w hh => (hh.box 0 rfl rfl)) ?_
          obtain ⟨y5, hy5, heq⟩ := bind_some heq
          refine RgH.does (DoesH.call (d := 27) (g := 43) (args := #[.int .i64 a0.From]) (by kernel_rfl) (workers_isMoment_c (a0 := a0.From)  hy5)) ?_
          rintro _ _ _ _ ⟨_, rfl, rfl, rfl, rfl⟩
          refine RgH.runk 17 [30, 1] (vs := []) (evs := []) (L' := [(30, .bool (!y5)), (1, .pointer (some ⟨g1, 0, none⟩))]) (by kernel_rfl) (by kernel_rfl) (fun _ _ => trivial) ?_
          rcases bool_cases (!y5) with hb5 | hb5
          · replace heq := bif_true hb5 heq
            refine RgH.val1 (v' := .bool true) (congrArg Value.bool hb5) ?_
            refine RgH.runk 22 [1, 35] (vs := []) (evs := []) (L' := [(1, .pointer (some ⟨g1, 0, none⟩)), (35, .bool true)]) (by kernel_rfl) (by kernel_rfl) (fun _ _ => trivial) ?_
            obtain rfl := Option.some.inj heq
            refine RgH.keep [1, 35] (L' := [(1, .pointer (some ⟨g1, 0, none⟩)), (35, .bool true)]) (by kernel_rfl) ?_
            refine RgH.done (by kernel_rfl) ?_
            exact K2
          · replace heq := bif_false hb5 heq
            refine RgH.val1 (v' := .bool false) (congrArg Value.bool hb5) ?_
            refine RgH.runk 19 [1, 30, 32] (vs := [.int .i64 a0.To]) (evs := [.load ⟨g1, 5, none⟩ (.int .i64 a0.To)]) (L' := [(1, .pointer (some ⟨g1, 0, none⟩)), (30, .bool false), (32, .int .i64 a0.To)]) (by kernel_rfl) (by kernel_rfl) (fun w hh => (hh.box 0 rfl rfl)) ?_
            obtain ⟨y6, hy6, heq⟩ := bind_some heq
            refine RgH.does (DoesH.call (d := 33) (g := 43) (args := #[.int .i64 a0.To]) (by kernel_rfl) (workers_isMoment_c (a0 := a0.To)  hy6)) ?_
            rintro _ _ _ _ ⟨_, rfl, rfl, rfl, rfl⟩
            refine RgH.runk 22 [1, 35] (vs := []) (evs := []) (L' := [(1, .pointer (some ⟨g1, 0, none⟩)), (35, .bool (!y6))]) (by kernel_rfl) (by kernel_rfl) (fun _ _ => trivial) ?_
            obtain rfl := Option.some.inj heq
            refine RgH.keep [1, 35] (L' := [(1, .pointer (some ⟨g1, 0, none⟩)), (35, .bool (!y6))]) (by kernel_rfl) ?_
            refine RgH.done (by kernel_rfl) ?_
            exact K2
noncomputable def C42 : Ctx := { P := Tryd.prog, f := 42, N := 14, c := bodyOf Tryd.f42 }
def S42 (F : List Ch) (H0 : Hp) (r : Int) (v : Value) (H : Hp) (cs : List Ch) : Prop := H0 = H ∧ v = .int .i64 r ∧ F = cs
theorem workers_checkSize_c {w0 : World} {H : Hp} {F : List Ch} {a0 : Worker} {Aa0_1 : Option Addr} {na0_1 : Nat} {ca0_1 : Nat} {Aa0_6 : Option Addr} {na0_6 : Nat} {ca0_6 : Nat} {a1 : Int} {r : Int} (hra0_1 : Rw kPair H F Aa0_1 a0.Has) (hca0_1 : na0_1 ≤ ca0_1) (hna0_1 : na0_1 = a0.Has.length) (hra0_6 : Rw kSpan H F Aa0_6 a0.Stands) (hca0_6 : na0_6 ≤ ca0_6) (hna0_6 : na0_6 = a0.Stands.length) (heq : workers_checkSize.f a0 a1 = some r) : CallsH Tryd.prog 42 #[.agg #[.string a0.Name, .slice Aa0_1 na0_1 ca0_1, .int .i64 a0.Slots, .int .i64 a0.Speed, .int .i64 a0.From, .int .i64 a0.To, .slice Aa0_6 na0_6 ca0_6], .int .i64 a1] H w0 (F) (S42 F H r) := by
  refine calls_of_runH (F := C42) Tryd.func42 (by kernel_rfl) Tryd.ntmps42 (args := [.agg #[.string a0.Name, .slice Aa0_1 na0_1 ca0_1, .int .i64 a0.Slots, .int .i64 a0.Speed, .int .i64 a0.From, .int .i64 a0.To, .slice Aa0_6 na0_6 ca0_6], .int .i64 a1]) (by kernel_rfl) ?_
  subst hna0_1
  subst hna0_6
  unfold workers_checkSize.f at heq
  refine RunH.adm 1 (es' := [.c [0], .c [1]]) (by kernel_rfl) ?_
  refine RunH.reg (by kernel_rfl) ?_
  refine RgH.does (DoesH.new (d := 2) (v := fun g => .pointer (some ⟨g, 0, none⟩)) (o := fun g => .cells #[.string a0.Name, .slice Aa0_1 a0.Has.length ca0_1, .int .i64 a0.Slots, .int .i64 a0.Speed, .int .i64 a0.From, .int .i64 a0.To, .slice Aa0_6 a0.Stands.length ca0_6] 25 (0, 0)) (fun g => by kernel_rfl)) ?_
  rintro _ _ _ _ ⟨g1, rfl, rfl, rfl⟩
  refine RgH.runk 2 [1, 2] (vs := []) (evs := []) (L' := [(1, .int .i64 a1), (2, .pointer (some ⟨g1, 0, none⟩))]) (by kernel_rfl) (by kernel_rfl) (fun _ _ => trivial) ?_
  refine RgH.done (by kernel_rfl) ?_
  refine RunH.adm 2 (es' := [.c [1, 0, 0], .c [1, 0, 1], .c [1, 1]]) (by kernel_rfl) ?_
  refine RunH.reg (by kernel_rfl) ?_
  refine RgH.runk 1 [1, 6] (vs := [.string a0.Name, .slice Aa0_1 a0.Has.length ca0_1, .int .i64 a0.Slots, .int .i64 a0.Speed, .int .i64 a0.From, .int .i64 a0.To, .slice Aa0_6 a0.Stands.length ca0_6]) (evs := [.load ⟨g1, 0, none⟩ (.string a0.Name), .load ⟨g1, 1, none⟩ (.slice Aa0_1 a0.Has.length ca0_1), .load ⟨g1, 2, none⟩ (.int .i64 a0.Slots), .load ⟨g1, 3, none⟩ (.int .i64 a0.Speed), .load ⟨g1, 4, none⟩ (.int .i64 a0.From), .load ⟨g1, 5, none⟩ (.int .i64 a0.To), .load ⟨g1, 6, none⟩ (.slice Aa0_6 a0.Stands.length ca0_6)]) (L' := [(1, .int .i64 a1), (6, .agg #[.string a0.Name, .slice Aa0_1 a0.Has.length ca0_1, .int .i64 a0.Slots, .int .i64 a0.Speed, .int .i64 a0.From, .int .i64 a0.To, .slice Aa0_6 a0.Stands.length ca0_6])]) (by kernel_rfl) (by kernel_rfl) (fun w hh => ⟨(hh.box 0 rfl rfl), (hh.box 0 rfl rfl), (hh.box 0 rfl rfl), (hh.box 0 rfl rfl), (hh.box 0 rfl rfl), (hh.box 0 rfl rfl), (hh.box 0 rfl rfl)⟩) ?_
  obtain ⟨y1, hy1, heq⟩ := bind_some heq
  refine RgH.does (DoesH.call (d := 7) (g := 59) (args := #[.agg #[.string a0.Name, .slice Aa0_1 a0.Has.length ca0_1, .int .i64 a0.Slots, .int .i64 a0.Speed, .int .i64 a0.From, .int .i64 a0.To, .slice Aa0_6 a0.Stands.length ca0_6]]) (by kernel_rfl) (workers_checkWorker_c (a0 := a0) (hra0_1.wk (fun _ h => (.tail _ h))) hca0_1 rfl (hra0_6.wk (fun _ h => (.tail _ h))) hca0_6 rfl hy1)) ?_
  rintro _ _ _ _ ⟨_, rfl, rfl, rfl, rfl⟩
  refine RgH.runk 3 [1, 5] (vs := []) (evs := []) (L' := [(1, .int .i64 a1), (5, .int .i64 y1)]) (by kernel_rfl) (by kernel_rfl) (fun _ _ => trivial) ?_
  refine RgH.done (by kernel_rfl) ?_
  refine RunH.adm 1 (es' := [.c [1, 0, 1, 0], .c [1, 0, 1, 1], .c [1, 1]]) (by kernel_rfl) ?_
  refine RunH.reg (by kernel_rfl) ?_
  refine RgH.runk 2 [1, 5, 9] (vs := []) (evs := []) (L' := [(1, .int .i64 a1), (5, .int .i64 y1), (9, .bool (y1 != 0))]) (by kernel_rfl) (by kernel_rfl) (fun _ _ => trivial) ?_
  refine RgH.done (by kernel_rfl) ?_
  rcases bool_cases (y1 != 0) with hb1 | hb1
  · replace heq := bif_true hb1 heq
    refine RunH.condT (c := y1 != 0) (by kernel_rfl) hb1 ?_
    refine RunH.adm 1 (es' := [.c [1, 0, 1, 1, 0, 0], .c [1, 0, 1, 1, 0, 1], .c [1, 1]]) (by kernel_rfl) ?_
    refine RunH.reg (by kernel_rfl) ?_
    refine RgH.runk 2 [4] (vs := []) (evs := []) (L' := [(4, .int .i64 y1)]) (by kernel_rfl) (by kernel_rfl) (fun _ _ => trivial) ?_
    refine RgH.done (by kernel_rfl) ?_
    obtain rfl := Option.some.inj heq
    refine RunH.pick 1 [] (cs' := F) (by kernel_rfl) rfl ?_
    exact RunH.done (by kernel_rfl) Tryd.func42 (v := .int .i64 y1) (by kernel_rfl) ⟨rfl, rfl, rfl⟩
  · replace heq := bif_false hb1 heq
    refine RunH.condF (c := y1 != 0) (by kernel_rfl) hb1 ?_
    refine RunH.adm 3 (es' := [.c [1, 1, 0, 0], .c [1, 1, 0, 1], .c [1, 1, 1]]) (by kernel_rfl) ?_
    refine RunH.reg (by kernel_rfl) ?_
    refine RgH.runk 1 [11] (vs := []) (evs := []) (L' := [(11, .int .i64 a1)]) (by kernel_rfl) (by kernel_rfl) (fun _ _ => trivial) ?_
    obtain ⟨y2, hy2, heq⟩ := bind_some heq
    refine RgH.does (DoesH.call (d := 12) (g := 56) (args := #[.int .i64 a1, .int .i64 1, .int .i64 1000000]) (by kernel_rfl) (workers_within_c (a0 := a1) (a1 := 1) (a2 := 1000000)  hy2)) ?_
    rintro _ _ _ _ ⟨_, rfl, rfl, rfl, rfl⟩
    refine RgH.runk 3 [13] (vs := []) (evs := []) (L' := [(13, .bool (!y2))]) (by kernel_rfl) (by kernel_rfl) (fun _ _ => trivial) ?_
    refine RgH.done (by kernel_rfl) ?_
    rcases bool_cases (!y2) with hb2 | hb2
    · replace heq := bif_true hb2 heq
      refine RunH.condT (c := !y2) (by kernel_rfl) hb2 ?_
      refine RunH.adm 1 (es' := [.c [1, 1, 0, 1, 0, 0], .c [1, 1, 0, 1, 0, 1], .c [1, 1, 1]]) (by kernel_rfl) ?_
      refine RunH.reg (by kernel_rfl) ?_
      refine RgH.runk 1 [4] (vs := []) (evs := []) (L' := [(4, .int .i64 1)]) (by kernel_rfl) (by kernel_rfl) (fun _ _ => trivial) ?_
      refine RgH.done (by kernel_rfl) ?_
      obtain rfl := Option.some.inj heq
      refine RunH.pick 1 [] (cs' := F) (by kernel_rfl) rfl ?_
      exact RunH.done (by kernel_rfl) Tryd.func42 (v := .int .i64 1) (by kernel_rfl) ⟨rfl, rfl, rfl⟩
    · replace heq := bif_false hb2 heq
      refine RunH.condF (c := !y2) (by kernel_rfl) hb2 ?_
      refine RunH.adm 2 (es' := [.c [1, 1, 1, 0], .c [1, 1, 1, 1]]) (by kernel_rfl) ?_
      refine RunH.reg (by kernel_rfl) ?_
      refine RgH.runk 1 [4] (vs := []) (evs := []) (L' := [(4, .int .i64 0)]) (by kernel_rfl) (by kernel_rfl) (fun _ _ => trivial) ?_
      refine RgH.done (by kernel_rfl) ?_
      obtain rfl := Option.some.inj heq
      refine RunH.pick 1 [] (cs' := F) (by kernel_rfl) rfl ?_
      exact RunH.done (by kernel_rfl) Tryd.func42 (v := .int .i64 0) (by kernel_rfl) ⟨rfl, rfl, rfl⟩
noncomputable def C47 : Ctx := { P := Tryd.prog, f := 47, N := 13, c := bodyOf Tryd.f47 }
def S47 (F : List Ch) (H0 : Hp) (r : Int) (v : Value) (H : Hp) (cs : List Ch) : Prop := H0 = H ∧ v = .int .i64 r ∧ F = cs
theorem workers_seconds_c {w0 : World} {H : Hp} {F : List Ch} {a0 : Worker} {Aa0_1 : Option Addr} {na0_1 : Nat} {ca0_1 : Nat} {Aa0_6 : Option Addr} {na0_6 : Nat} {ca0_6 : Nat} {a1 : Int} {r : Int} (hra0_1 : Rw kPair H F Aa0_1 a0.Has) (hca0_1 : na0_1 ≤ ca0_1) (hna0_1 : na0_1 = a0.Has.length) (hra0_6 : Rw kSpan H F Aa0_6 a0.Stands) (hca0_6 : na0_6 ≤ ca0_6) (hna0_6 : na0_6 = a0.Stands.length) (heq : workers_seconds.f a0 a1 = some r) : CallsH Tryd.prog 47 #[.agg #[.string a0.Name, .slice Aa0_1 na0_1 ca0_1, .int .i64 a0.Slots, .int .i64 a0.Speed, .int .i64 a0.From, .int .i64 a0.To, .slice Aa0_6 na0_6 ca0_6], .int .i64 a1] H w0 (F) (S47 F H r) := by
  refine calls_of_runH (F := C47) Tryd.func47 (by kernel_rfl) Tryd.ntmps47 (args := [.agg #[.string a0.Name, .slice Aa0_1 na0_1 ca0_1, .int .i64 a0.Slots, .int .i64 a0.Speed, .int .i64 a0.From, .int .i64 a0.To, .slice Aa0_6 na0_6 ca0_6], .int .i64 a1]) (by kernel_rfl) ?_
  subst hna0_1
  subst hna0_6
  unfold workers_seconds.f at heq
  refine RunH.adm 1 (es' := [.c [0], .c [1]]) (by kernel_rfl) ?_
  refine RunH.reg (by kernel_rfl) ?_
  refine RgH.does (DoesH.new (d := 2) (v := fun g => .pointer (some ⟨g, 0, none⟩)) (o := fun g => .cells #[.string a0.Name, .slice Aa0_1 a0.Has.length ca0_1, .int .i64 a0.Slots, .int .i64 a0.Speed, .int .i64 a0.From, .int .i64 a0.To, .slice Aa0_6 a0.Stands.length ca0_6] 25 (0, 0)) (fun g => by kernel_rfl)) ?_
  rintro _ _ _ _ ⟨g1, rfl, rfl, rfl⟩
  refine RgH.runk 2 [1, 2] (vs := []) (evs := []) (L' := [(1, .int .i64 a1), (2, .pointer (some ⟨g1, 0, none⟩))]) (by kernel_rfl) (by kernel_rfl) (fun _ _ => trivial) ?_
  refine RgH.done (by kernel_rfl) ?_
  refine RunH.adm 1 (es' := [.c [1, 0], .c [1, 1]]) (by kernel_rfl) ?_
  refine RunH.reg (by kernel_rfl) ?_
  obtain ⟨hn1, heq⟩ := guard?_some heq
  refine RgH.runk 9 [4] (vs := [.int .i64 a0.Speed, .int .i64 a0.Speed]) (evs := [.load ⟨g1, 3, none⟩ (.int .i64 a0.Speed), .load ⟨g1, 3, none⟩ (.int .i64 a0.Speed), .need (a0.Speed ≠ (0 : Int))]) (L' := [(4, .int .i64 (w64 ((w64 ((w64 (a1 + a0.Speed)) - 1)).tdiv a0.Speed)))]) (by kernel_rfl) (by kernel_rfl) (fun w hh => ⟨(hh.box 0 rfl rfl), (hh.box 0 rfl rfl), (ne_of_bne hn1)⟩) ?_
  refine RgH.done (by kernel_rfl) ?_
  obtain rfl := Option.some.inj heq
  refine RunH.pick 1 [] (cs' := F) (by kernel_rfl) rfl ?_
  exact RunH.done (by kernel_rfl) Tryd.func47 (v := .int .i64 (w64 ((w64 ((w64 (a1 + a0.Speed)) - 1)).tdiv a0.Speed))) (by kernel_rfl) ⟨rfl, rfl, rfl⟩
noncomputable def C11 : Ctx := { P := Tryd.prog, f := 11, N := 16, c := bodyOf Tryd.f11 }
def S11 (F : List Ch) (H0 : Hp) (r : Int × Int) (v : Value) (H : Hp) (cs : List Ch) : Prop := H0 = H ∧ v = .tuple #[.int .i64 r.1, .int .i64 r.2] ∧ F = cs
theorem workers_Seconds_c {w0 : World} {H : Hp} {F : List Ch} {a0 : Worker} {Aa0_1 : Option Addr} {na0_1 : Nat} {ca0_1 : Nat} {Aa0_6 : Option Addr} {na0_6 : Nat} {ca0_6 : Nat} {a1 : Int} {r : Int × Int} (hra0_1 : Rw kPair H F Aa0_1 a0.Has) (hca0_1 : na0_1 ≤ ca0_1) (hna0_1 : na0_1 = a0.Has.length) (hra0_6 : Rw kSpan H F Aa0_6 a0.Stands) (hca0_6 : na0_6 ≤ ca0_6) (hna0_6 : na0_6 = a0.Stands.length) (heq : workers_Seconds.f a0 a1 = some r) : CallsH Tryd.prog 11 #[.agg #[.string a0.Name, .slice Aa0_1 na0_1 ca0_1, .int .i64 a0.Slots, .int .i64 a0.Speed, .int .i64 a0.From, .int .i64 a0.To, .slice Aa0_6 na0_6 ca0_6], .int .i64 a1] H w0 (F) (S11 F H r) := by
  refine calls_of_runH (F := C11) Tryd.func11 (by kernel_rfl) Tryd.ntmps11 (args := [.agg #[.string a0.Name, .slice Aa0_1 na0_1 ca0_1, .int .i64 a0.Slots, .int .i64 a0.Speed, .int .i64 a0.From, .int .i64 a0.To, .slice Aa0_6 na0_6 ca0_6], .int .i64 a1]) (by kernel_rfl) ?_
  subst hna0_1
  subst hna0_6
  unfold workers_Seconds.f at heq
  refine RunH.adm 1 (es' := [.c [0], .c [1]]) (by kernel_rfl) ?_
  refine RunH.reg (by kernel_rfl) ?_
  refine RgH.does (DoesH.new (d := 2) (v := fun g => .pointer (some ⟨g, 0, none⟩)) (o := fun g => .cells #[.string a0.Name, .slice Aa0_1 a0.Has.length ca0_1, .int .i64 a0.Slots, .int .i64 a0.Speed, .int .i64 a0.From, .int .i64 a0.To, .slice Aa0_6 a0.Stands.length ca0_6] 25 (0, 0)) (fun g => by kernel_rfl)) ?_
  rintro _ _ _ _ ⟨g1, rfl, rfl, rfl⟩
  refine RgH.runk 3 [1, 2] (vs := []) (evs := []) (L' := [(1, .int .i64 a1), (2, .pointer (some ⟨g1, 0, none⟩))]) (by kernel_rfl) (by kernel_rfl) (fun _ _ => trivial) ?_
  refine RgH.done (by kernel_rfl) ?_
  refine RunH.adm 2 (es' := [.c [1, 0, 0], .c [1, 0, 1], .c [1, 1]]) (by kernel_rfl) ?_
  refine RunH.reg (by kernel_rfl) ?_
  refine RgH.runk 2 [1, 2, 7, 8] (vs := [.string a0.Name, .slice Aa0_1 a0.Has.length ca0_1, .int .i64 a0.Slots, .int .i64 a0.Speed, .int .i64 a0.From, .int .i64 a0.To, .slice Aa0_6 a0.Stands.length ca0_6]) (evs := [.load ⟨g1, 0, none⟩ (.string a0.Name), .load ⟨g1, 1, none⟩ (.slice Aa0_1 a0.Has.length ca0_1), .load ⟨g1, 2, none⟩ (.int .i64 a0.Slots), .load ⟨g1, 3, none⟩ (.int .i64 a0.Speed), .load ⟨g1, 4, none⟩ (.int .i64 a0.From), .load ⟨g1, 5, none⟩ (.int .i64 a0.To), .load ⟨g1, 6, none⟩ (.slice Aa0_6 a0.Stands.length ca0_6)]) (L' := [(1, .int .i64 a1), (2, .pointer (some ⟨g1, 0, none⟩)), (7, .agg #[.string a0.Name, .slice Aa0_1 a0.Has.length ca0_1, .int .i64 a0.Slots, .int .i64 a0.Speed, .int .i64 a0.From, .int .i64 a0.To, .slice Aa0_6 a0.Stands.length ca0_6]), (8, .int .i64 a1)]) (by kernel_rfl) (by kernel_rfl) (fun w hh => ⟨(hh.box 0 rfl rfl), (hh.box 0 rfl rfl), (hh.box 0 rfl rfl), (hh.box 0 rfl rfl), (hh.box 0 rfl rfl), (hh.box 0 rfl rfl), (hh.box 0 rfl rfl)⟩) ?_
  obtain ⟨y1, hy1, heq⟩ := bind_some heq
  refine RgH.does (DoesH.call (d := 9) (g := 42) (args := #[.agg #[.string a0.Name, .slice Aa0_1 a0.Has.length ca0_1, .int .i64 a0.Slots, .int .i64 a0.Speed, .int .i64 a0.From, .int .i64 a0.To, .slice Aa0_6 a0.Stands.length ca0_6], .int .i64 a1]) (by kernel_rfl) (workers_checkSize_c (a0 := a0) (a1 := a1) (hra0_1.wk (fun _ h => (.tail _ h))) hca0_1 rfl (hra0_6.wk (fun _ h => (.tail _ h))) hca0_6 rfl hy1)) ?_
  rintro _ _ _ _ ⟨_, rfl, rfl, rfl, rfl⟩
  refine RgH.runk 4 [1, 2, 6] (vs := []) (evs := []) (L' := [(1, .int .i64 a1), (2, .pointer (some ⟨g1, 0, none⟩)), (6, .int .i64 y1)]) (by kernel_rfl) (by kernel_rfl) (fun _ _ => trivial) ?_
  refine RgH.done (by kernel_rfl) ?_
  refine RunH.adm 1 (es' := [.c [1, 0, 1, 0], .c [1, 0, 1, 1], .c [1, 1]]) (by kernel_rfl) ?_
  refine RunH.reg (by kernel_rfl) ?_
  refine RgH.runk 2 [1, 2, 6, 11] (vs := []) (evs := []) (L' := [(1, .int .i64 a1), (2, .pointer (some ⟨g1, 0, none⟩)), (6, .int .i64 y1), (11, .bool (y1 != 0))]) (by kernel_rfl) (by kernel_rfl) (fun _ _ => trivial) ?_
  refine RgH.done (by kernel_rfl) ?_
  rcases bool_cases (y1 != 0) with hb1 | hb1
  · replace heq := bif_true hb1 heq
    refine RunH.condT (c := y1 != 0) (by kernel_rfl) hb1 ?_
    refine RunH.adm 1 (es' := [.c [1, 0, 1, 1, 0, 0], .c [1, 0, 1, 1, 0, 1], .c [1, 1]]) (by kernel_rfl) ?_
    refine RunH.reg (by kernel_rfl) ?_
    refine RgH.runk 3 [4, 5] (vs := []) (evs := []) (L' := [(4, .int .i64 0), (5, .int .i64 y1)]) (by kernel_rfl) (by kernel_rfl) (fun _ _ => trivial) ?_
    refine RgH.done (by kernel_rfl) ?_
    obtain rfl := Option.some.inj heq
    refine RunH.pick 1 [] (cs' := F) (by kernel_rfl) rfl ?_
    exact RunH.done (by kernel_rfl) Tryd.func11 (v := .tuple #[.int .i64 0, .int .i64 y1]) (by kernel_rfl) ⟨rfl, rfl, rfl⟩
  · replace heq := bif_false hb1 heq
    refine RunH.condF (c := y1 != 0) (by kernel_rfl) hb1 ?_
    refine RunH.adm 2 (es' := [.c [1, 1, 0], .c [1, 1, 1]]) (by kernel_rfl) ?_
    refine RunH.reg (by kernel_rfl) ?_
    refine RgH.runk 2 [13, 14] (vs := [.string a0.Name, .slice Aa0_1 a0.Has.length ca0_1, .int .i64 a0.Slots, .int .i64 a0.Speed, .int .i64 a0.From, .int .i64 a0.To, .slice Aa0_6 a0.Stands.length ca0_6]) (evs := [.load ⟨g1, 0, none⟩ (.string a0.Name), .load ⟨g1, 1, none⟩ (.slice Aa0_1 a0.Has.length ca0_1), .load ⟨g1, 2, none⟩ (.int .i64 a0.Slots), .load ⟨g1, 3, none⟩ (.int .i64 a0.Speed), .load ⟨g1, 4, none⟩ (.int .i64 a0.From), .load ⟨g1, 5, none⟩ (.int .i64 a0.To), .load ⟨g1, 6, none⟩ (.slice Aa0_6 a0.Stands.length ca0_6)]) (L' := [(13, .agg #[.string a0.Name, .slice Aa0_1 a0.Has.length ca0_1, .int .i64 a0.Slots, .int .i64 a0.Speed, .int .i64 a0.From, .int .i64 a0.To, .slice Aa0_6 a0.Stands.length ca0_6]), (14, .int .i64 a1)]) (by kernel_rfl) (by kernel_rfl) (fun w hh => ⟨(hh.box 0 rfl rfl), (hh.box 0 rfl rfl), (hh.box 0 rfl rfl), (hh.box 0 rfl rfl), (hh.box 0 rfl rfl), (hh.box 0 rfl rfl), (hh.box 0 rfl rfl)⟩) ?_
    obtain ⟨y2, hy2, heq⟩ := bind_some heq
    refine RgH.does (DoesH.call (d := 15) (g := 47) (args := #[.agg #[.string a0.Name, .slice Aa0_1 a0.Has.length ca0_1, .int .i64 a0.Slots, .int .i64 a0.Speed, .int .i64 a0.From, .int .i64 a0.To, .slice Aa0_6 a0.Stands.length ca0_6], .int .i64 a1]) (by kernel_rfl) (workers_seconds_c (a0 := a0) (a1 := a1) (hra0_1.wk (fun _ h => (.tail _ h))) hca0_1 rfl (hra0_6.wk (fun _ h => (.tail _ h))) hca0_6 rfl hy2)) ?_
    rintro _ _ _ _ ⟨_, rfl, rfl, rfl, rfl⟩
    refine RgH.runk 5 [4, 5] (vs := []) (evs := []) (L' := [(4, .int .i64 y2), (5, .int .i64 0)]) (by kernel_rfl) (by kernel_rfl) (fun _ _ => trivial) ?_
    refine RgH.done (by kernel_rfl) ?_
    obtain rfl := Option.some.inj heq
    refine RunH.pick 1 [] (cs' := F) (by kernel_rfl) rfl ?_
    exact RunH.done (by kernel_rfl) Tryd.func11 (v := .tuple #[.int .i64 y2, .int .i64 0]) (by kernel_rfl) ⟨rfl, rfl, rfl⟩
noncomputable def C8 : Ctx := { P := Tryd.prog, f := 8, N := 14, c := bodyOf Tryd.f8 }
def S8 (F : List Ch) (H0 : Hp) (r : Bool) (v : Value) (H : Hp) (cs : List Ch) : Prop := H0 = H ∧ v = .bool r ∧ F = cs
theorem smithyardlaw9_awake_c {w0 : World} {H : Hp} {F : List Ch} {r : Bool} (heq : smithyardlaw9_awake.f = some r) : CallsH Tryd.prog 8 (List.toArray []) H w0 (F) (S8 F H r) := by
  refine calls_of_runH (F := C8) Tryd.func8 (by kernel_rfl) Tryd.ntmps8 (args := []) (by kernel_rfl) ?_
  unfold smithyardlaw9_awake.f at heq
  refine RunH.adm 1 (es' := [.c [0], .c [1]]) (by kernel_rfl) ?_
  refine RunH.reg (by kernel_rfl) ?_
  refine RgH.runk 1 [] (vs := []) (evs := []) (L' := []) (by kernel_rfl) (by kernel_rfl) (fun _ _ => trivial) ?_
  refine RgH.done (by kernel_rfl) ?_
  refine RunH.adm 1 (es' := [.c [1, 0], .c [1, 1]]) (by kernel_rfl) ?_
  refine RunH.reg (by kernel_rfl) ?_
  refine RgH.runk 1 [4] (vs := []) (evs := []) (L' := [(4, .agg #[.string ({ data := #[97] } : ByteArray), .slice none 0 0, .int .i64 1, .int .i64 2, .int .i64 0, .int .i64 1, .slice none 0 0])]) (by kernel_rfl) (by kernel_rfl) (fun _ _ => trivial) ?_
  obtain ⟨y1, hy1, heq⟩ := bind_some heq
  refine RgH.does (DoesH.call (d := 5) (g := 11) (args := #[.agg #[.string ({ data := #[97] } : ByteArray), .slice none 0 0, .int .i64 1, .int .i64 2, .int .i64 0, .int .i64 1, .slice none 0 0], .int .i64 3]) (by kernel_rfl) (workers_Seconds_c (a0 := (⟨({ data := #[97] } : ByteArray), ([] : List Pair), 1, 2, 0, 1, ([] : List Span)⟩ : Worker)) (a1 := 3) Rw.nil (Nat.le_refl _) rfl Rw.nil (Nat.le_refl _) rfl hy1)) ?_
  rintro _ _ _ _ ⟨_, rfl, rfl, rfl, rfl⟩
  refine RgH.runk 7 [1, 2] (vs := []) (evs := []) (L' := [(1, .int .i64 y1.1), (2, .int .i64 y1.2)]) (by kernel_rfl) (by kernel_rfl) (fun _ _ => trivial) ?_
  refine RgH.done (by kernel_rfl) ?_
  refine RunH.adm 1 (es' := [.c [1, 1, 0], .c [1, 1, 1]]) (by kernel_rfl) ?_
  obtain ⟨t1, ht1, heq⟩ := bind_some heq
  have K1 : RunH C8 (S8 F H r) H w0 [.c [1, 1, 1]] [(0, .bool t1)] H (F) := by
    obtain rfl := Option.some.inj heq
    exact RunH.done (by kernel_rfl) Tryd.func8 (v := .bool t1) (by kernel_rfl) ⟨rfl, rfl, rfl⟩
  replace heq := ht1
  refine RunH.reg (by kernel_rfl) ?_
  refine RgH.runk 3 [10, 1] (vs := []) (evs := []) (L' := [(10, .bool (y1.2 == 0)), (1, .int .i64 y1.1)]) (by kernel_rfl) (by kernel_rfl) (fun _ _ => trivial) ?_
  rcases bool_cases (y1.2 == 0) with hb1 | hb1
  · replace heq := bif_true hb1 heq
    refine RgH.val1 (v' := .bool true) (congrArg Value.bool hb1) ?_
    refine RgH.runk 7 [0] (vs := []) (evs := []) (L' := [(0, .bool (y1.1 == 2))]) (by kernel_rfl) (by kernel_rfl) (fun _ _ => trivial) ?_
    obtain rfl := Option.some.inj heq
    refine RgH.keep [0] (L' := [(0, .bool (y1.1 == 2))]) (by kernel_rfl) ?_
    refine RgH.done (by kernel_rfl) ?_
    exact K1
  · replace heq := bif_false hb1 heq
    refine RgH.val1 (v' := .bool false) (congrArg Value.bool hb1) ?_
    refine RgH.runk 7 [0] (vs := []) (evs := []) (L' := [(0, .bool false)]) (by kernel_rfl) (by kernel_rfl) (fun _ _ => trivial) ?_
    obtain rfl := Option.some.inj heq
    refine RgH.keep [0] (L' := [(0, .bool false)]) (by kernel_rfl) ?_
    refine RgH.done (by kernel_rfl) ?_
    exact K1
noncomputable def C44 : Ctx := { P := Tryd.prog, f := 44, N := 59, c := bodyOf Tryd.f44 }
def S44 (F : List Ch) (H0 : Hp) (r : Int × Bool) (v : Value) (H : Hp) (cs : List Ch) : Prop := H0 = H ∧ v = .tuple #[.int .i64 r.1, .bool r.2] ∧ F = cs
theorem workers_ends.e1_c {w0 : World} {H : Hp} {F : List Ch} {r : Int × Bool} : ∀ (a0 : Worker) (Aa0_1 : Option Addr) (ca0_1 : Nat) (Aa0_6 : Option Addr) (ca0_6 : Nat) (g1 : Nat) (v_left8 : Int) (v_at9 : Int) , Rw kPair H F Aa0_1 a0.Has → a0.Has.length ≤ ca0_1 → Rw kSpan H F Aa0_6 a0.Stands → a0.Stands.length ≤ ca0_6 → workers_ends.e1 a0 v_left8 v_at9 = some r → RunH C44 (S44 F H r) H w0 [.c [1, 1, 1, 1, 0, 0], .c [1, 1, 1, 1, 0, 1], .c [1, 1, 1, 1, 1]] [(3, .pointer (some ⟨g1, 0, none⟩)), (8, .int .i64 v_left8), (9, .int .i64 v_at9)] H ((some (g1, .cells #[.string a0.Name, .slice Aa0_1 a0.Has.length ca0_1, .int .i64 a0.Slots, .int .i64 a0.Speed, .int .i64 a0.From, .int .i64 a0.To, .slice Aa0_6 a0.Stands.length ca0_6] 25 (0, 0))) :: F) := by
  intro a0 Aa0_1 ca0_1 Aa0_6 ca0_6 g1 v_left8 v_at9 hra0_1 hca0_1 hra0_6 hca0_6 heq
  unfold workers_ends.e1 at heq
  refine RunH.reg (by kernel_rfl) ?_
  refine RgH.runk 6 [8, 9, 55] (vs := [.int .i64 a0.To]) (evs := [.load ⟨g1, 5, none⟩ (.int .i64 a0.To)]) (L' := [(8, .int .i64 v_left8), (9, .int .i64 v_at9), (55, .bool (decide (a0.To < (w64 (v_at9 + v_left8)))))]) (by kernel_rfl) (by kernel_rfl) (fun w hh => (hh.box 0 rfl rfl)) ?_
  refine RgH.done (by kernel_rfl) ?_
  rcases bool_cases (decide (a0.To < (w64 (v_at9 + v_left8)))) with hb2 | hb2
  · replace heq := bif_true hb2 heq
    refine RunH.condT (c := decide (a0.To < (w64 (v_at9 + v_left8)))) (by kernel_rfl) hb2 ?_
    refine RunH.adm 1 (es' := [.c [1, 1, 1, 1, 0, 1, 0, 0], .c [1, 1, 1, 1, 0, 1, 0, 1], .c [1, 1, 1, 1, 1]]) (by kernel_rfl) ?_
    refine RunH.reg (by kernel_rfl) ?_
    refine RgH.runk 2 [6, 7] (vs := []) (evs := []) (L' := [(6, .int .i64 0), (7, .bool false)]) (by kernel_rfl) (by kernel_rfl) (fun _ _ => trivial) ?_
    refine RgH.done (by kernel_rfl) ?_
    obtain rfl := Option.some.inj heq
    refine RunH.pick 1 [] (cs' := F) (by kernel_rfl) rfl ?_
    exact RunH.done (by kernel_rfl) Tryd.func44 (v := .tuple #[.int .i64 0, .bool false]) (by kernel_rfl) ⟨rfl, rfl, rfl⟩
  · replace heq := bif_false hb2 heq
    refine RunH.condF (c := decide (a0.To < (w64 (v_at9 + v_left8)))) (by kernel_rfl) hb2 ?_
    refine RunH.adm 2 (es' := [.c [1, 1, 1, 1, 1, 0], .c [1, 1, 1, 1, 1, 1]]) (by kernel_rfl) ?_
    refine RunH.reg (by kernel_rfl) ?_
    refine RgH.runk 5 [6, 7] (vs := []) (evs := []) (L' := [(6, .int .i64 (w64 (v_at9 + v_left8))), (7, .bool true)]) (by kernel_rfl) (by kernel_rfl) (fun _ _ => trivial) ?_
    refine RgH.done (by kernel_rfl) ?_
    obtain rfl := Option.some.inj heq
    refine RunH.pick 1 [] (cs' := F) (by kernel_rfl) rfl ?_
    exact RunH.done (by kernel_rfl) Tryd.func44 (v := .tuple #[.int .i64 (w64 (v_at9 + v_left8)), .bool true]) (by kernel_rfl) ⟨rfl, rfl, rfl⟩
theorem workers_ends.j3_c {w0 : World} {H : Hp} {F : List Ch} {r : Int × Bool} (backl2 : Worker → Int → Int → Int → Option (Int × Bool))
    (hbackl2 : ∀ (a0 : Worker) (Aa0_1 : Option Addr) (ca0_1 : Nat) (Aa0_6 : Option Addr) (ca0_6 : Nat) (g1 : Nat) (v_left8 : Int) (v_at9 : Int) (v23 : Int) , Rw kPair H F Aa0_1 a0.Has → a0.Has.length ≤ ca0_1 → Rw kSpan H F Aa0_6 a0.Stands → a0.Stands.length ≤ ca0_6 → backl2 a0 v_left8 v_at9 v23 = some r → RunH C44 (S44 F H r) H w0 [.c [1, 1, 1, 0, 1, 0, 0], .l [1, 1, 1, 0, 1, 0, 0], .b 0, .c [1, 1, 1, 1]] [(3, .pointer (some ⟨g1, 0, none⟩)), (8, .int .i64 v_left8), (9, .int .i64 v_at9), (21, .slice Aa0_6 a0.Stands.length ca0_6), (22, .int .i64 (a0.Stands.length : Int)), (23, .int .i64 v23)] H ((some (g1, .cells #[.string a0.Name, .slice Aa0_1 a0.Has.length ca0_1, .int .i64 a0.Slots, .int .i64 a0.Speed, .int .i64 a0.From, .int .i64 a0.To, .slice Aa0_6 a0.Stands.length ca0_6] 25 (0, 0))) :: F)) : ∀ (a0 : Worker) (Aa0_1 : Option Addr) (ca0_1 : Nat) (Aa0_6 : Option Addr) (ca0_6 : Nat) (g1 : Nat) (v23 : Int) (v_left8 : Int) (v_at9 : Int) , Rw kPair H F Aa0_1 a0.Has → a0.Has.length ≤ ca0_1 → Rw kSpan H F Aa0_6 a0.Stands → a0.Stands.length ≤ ca0_6 → workers_ends.j3 backl2 a0 v23 v_left8 v_at9 = some r → RunH C44 (S44 F H r) H w0 [.c [1, 1, 1, 0, 1, 0, 0, 1, 1, 1], .l [1, 1, 1, 0, 1, 0, 0], .b 0, .c [1, 1, 1, 1]] [(3, .pointer (some ⟨g1, 0, none⟩)), (8, .int .i64 v_left8), (9, .int .i64 v_at9), (21, .slice Aa0_6 a0.Stands.length ca0_6), (22, .int .i64 (a0.Stands.length : Int)), (23, .int .i64 v23)] H ((some (g1, .cells #[.string a0.Name, .slice Aa0_1 a0.Has.length ca0_1, .int .i64 a0.Slots, .int .i64 a0.Speed, .int .i64 a0.From, .int .i64 a0.To, .slice Aa0_6 a0.Stands.length ca0_6] 25 (0, 0))) :: F) := by
  intro a0 Aa0_1 ca0_1 Aa0_6 ca0_6 g1 v23 v_left8 v_at9 hra0_1 hca0_1 hra0_6 hca0_6 heq
  unfold workers_ends.j3 at heq
  refine RunH.reg (by kernel_rfl) ?_
  refine RgH.runk 2 [3, 8, 9, 21, 22, 23] (vs := []) (evs := []) (L' := [(3, .pointer (some ⟨g1, 0, none⟩)), (8, .int .i64 v_left8), (9, .int .i64 v_at9), (21, .slice Aa0_6 a0.Stands.length ca0_6), (22, .int .i64 (a0.Stands.length : Int)), (23, .int .i64 (w64 (v23 + 1)))]) (by kernel_rfl) (by kernel_rfl) (fun _ _ => trivial) ?_
  refine RgH.done (by kernel_rfl) ?_
  refine RunH.adm 1 (es' := [.c [1, 1, 1, 0, 1, 0, 0], .l [1, 1, 1, 0, 1, 0, 0], .b 0, .c [1, 1, 1, 1]]) (by kernel_rfl) ?_
  refine RunH.keep [3, 8, 9, 21, 22, 23] (L' := [(3, .pointer (some ⟨g1, 0, none⟩)), (8, .int .i64 v_left8), (9, .int .i64 v_at9), (21, .slice Aa0_6 a0.Stands.length ca0_6), (22, .int .i64 (a0.Stands.length : Int)), (23, .int .i64 (w64 (v23 + 1)))]) (by kernel_rfl) ?_
  exact hbackl2 a0 _ _ _ _ _ v_left8 v_at9 (w64 (v23 + 1)) hra0_1 hca0_1 hra0_6 hca0_6 heq
theorem workers_ends.j4_c {w0 : World} {H : Hp} {F : List Ch} {r : Int × Bool} (j3 : Worker → Int → Int → Int → Option (Int × Bool))
    (hj3 : ∀ (a0 : Worker) (Aa0_1 : Option Addr) (ca0_1 : Nat) (Aa0_6 : Option Addr) (ca0_6 : Nat) (g1 : Nat) (v23 : Int) (v_left8 : Int) (v_at9 : Int) , Rw kPair H F Aa0_1 a0.Has → a0.Has.length ≤ ca0_1 → Rw kSpan H F Aa0_6 a0.Stands → a0.Stands.length ≤ ca0_6 → j3 a0 v23 v_left8 v_at9 = some r → RunH C44 (S44 F H r) H w0 [.c [1, 1, 1, 0, 1, 0, 0, 1, 1, 1], .l [1, 1, 1, 0, 1, 0, 0], .b 0, .c [1, 1, 1, 1]] [(3, .pointer (some ⟨g1, 0, none⟩)), (8, .int .i64 v_left8), (9, .int .i64 v_at9), (21, .slice Aa0_6 a0.Stands.length ca0_6), (22, .int .i64 (a0.Stands.length : Int)), (23, .int .i64 v23)] H ((some (g1, .cells #[.string a0.Name, .slice Aa0_1 a0.Has.length ca0_1, .int .i64 a0.Slots, .int .i64 a0.Speed, .int .i64 a0.From, .int .i64 a0.To, .slice Aa0_6 a0.Stands.length ca0_6] 25 (0, 0))) :: F)) : ∀ (a0 : Worker) (Aa0_1 : Option Addr) (ca0_1 : Nat) (Aa0_6 : Option Addr) (ca0_6 : Nat) (g1 : Nat) (v23 : Int) (x1 : Span) (g2 : Nat) (v_left8 : Int) , Rw kPair H F Aa0_1 a0.Has → a0.Has.length ≤ ca0_1 → Rw kSpan H F Aa0_6 a0.Stands → a0.Stands.length ≤ ca0_6 → workers_ends.j4 j3 a0 v23 x1 v_left8 = some r → RunH C44 (S44 F H r) H w0 [.c [1, 1, 1, 0, 1, 0, 0, 1, 1, 0, 0, 1, 1, 1], .b 1, .c [1, 1, 1, 0, 1, 0, 0, 1, 1, 1], .l [1, 1, 1, 0, 1, 0, 0], .b 0, .c [1, 1, 1, 1]] [(3, .pointer (some ⟨g1, 0, none⟩)), (8, .int .i64 v_left8), (11, .pointer (some ⟨g2, 0, none⟩)), (21, .slice Aa0_6 a0.Stands.length ca0_6), (22, .int .i64 (a0.Stands.length : Int)), (23, .int .i64 v23)] H ((some (g2, .cells #[.int .i64 x1.From, .int .i64 x1.To] 79 (0, 0))) :: (some (g1, .cells #[.string a0.Name, .slice Aa0_1 a0.Has.length ca0_1, .int .i64 a0.Slots, .int .i64 a0.Speed, .int .i64 a0.From, .int .i64 a0.To, .slice Aa0_6 a0.Stands.length ca0_6] 25 (0, 0))) :: F) := by
  intro a0 Aa0_1 ca0_1 Aa0_6 ca0_6 g1 v23 x1 g2 v_left8 hra0_1 hca0_1 hra0_6 hca0_6 heq
  unfold workers_ends.j4 at heq
  refine RunH.reg (by kernel_rfl) ?_
  refine RgH.runk 3 [3, 8, 9, 21, 22, 23] (vs := [.int .i64 x1.To]) (evs := [.load ⟨g2, 1, none⟩ (.int .i64 x1.To)]) (L' := [(3, .pointer (some ⟨g1, 0, none⟩)), (8, .int .i64 v_left8), (9, .int .i64 x1.To), (21, .slice Aa0_6 a0.Stands.length ca0_6), (22, .int .i64 (a0.Stands.length : Int)), (23, .int .i64 v23)]) (by kernel_rfl) (by kernel_rfl) (fun w hh => (hh.box 0 rfl rfl)) ?_
  refine RgH.done (by kernel_rfl) ?_
  refine RunH.adm 1 (es' := [.c [1, 1, 1, 0, 1, 0, 0, 1, 1, 1], .l [1, 1, 1, 0, 1, 0, 0], .b 0, .c [1, 1, 1, 1]]) (by kernel_rfl) ?_
  refine RunH.keep [3, 8, 9, 21, 22, 23] (L' := [(3, .pointer (some ⟨g1, 0, none⟩)), (8, .int .i64 v_left8), (9, .int .i64 x1.To), (21, .slice Aa0_6 a0.Stands.length ca0_6), (22, .int .i64 (a0.Stands.length : Int)), (23, .int .i64 v23)]) (by kernel_rfl) ?_
  refine RunH.pick 2 [1] (cs' := (some (g1, .cells #[.string a0.Name, .slice Aa0_1 a0.Has.length ca0_1, .int .i64 a0.Slots, .int .i64 a0.Speed, .int .i64 a0.From, .int .i64 a0.To, .slice Aa0_6 a0.Stands.length ca0_6] 25 (0, 0))) :: F) (by kernel_rfl) rfl ?_
  exact hj3 a0 _ _ _ _ _ v23 v_left8 x1.To hra0_1 hca0_1 hra0_6 hca0_6 heq
theorem workers_ends.l2_c {w0 : World} {H : Hp} {F : List Ch} {r : Int × Bool} (e1 : Worker → Int → Int → Option (Int × Bool))
    (he1 : ∀ (a0 : Worker) (Aa0_1 : Option Addr) (ca0_1 : Nat) (Aa0_6 : Option Addr) (ca0_6 : Nat) (g1 : Nat) (v_left8 : Int) (v_at9 : Int) , Rw kPair H F Aa0_1 a0.Has → a0.Has.length ≤ ca0_1 → Rw kSpan H F Aa0_6 a0.Stands → a0.Stands.length ≤ ca0_6 → e1 a0 v_left8 v_at9 = some r → RunH C44 (S44 F H r) H w0 [.c [1, 1, 1, 1, 0, 0], .c [1, 1, 1, 1, 0, 1], .c [1, 1, 1, 1, 1]] [(3, .pointer (some ⟨g1, 0, none⟩)), (8, .int .i64 v_left8), (9, .int .i64 v_at9)] H ((some (g1, .cells #[.string a0.Name, .slice Aa0_1 a0.Has.length ca0_1, .int .i64 a0.Slots, .int .i64 a0.Speed, .int .i64 a0.From, .int .i64 a0.To, .slice Aa0_6 a0.Stands.length ca0_6] 25 (0, 0))) :: F)) : ∀ (k : Nat), ∀ (a0 : Worker) (Aa0_1 : Option Addr) (ca0_1 : Nat) (Aa0_6 : Option Addr) (ca0_6 : Nat) (g1 : Nat) (v_left8 : Int) (v_at9 : Int) (v23 : Int) , Rw kPair H F Aa0_1 a0.Has → a0.Has.length ≤ ca0_1 → Rw kSpan H F Aa0_6 a0.Stands → a0.Stands.length ≤ ca0_6 → workers_ends.l2 e1 k a0 v_left8 v_at9 v23 = some r → RunH C44 (S44 F H r) H w0 [.c [1, 1, 1, 0, 1, 0, 0], .l [1, 1, 1, 0, 1, 0, 0], .b 0, .c [1, 1, 1, 1]] [(3, .pointer (some ⟨g1, 0, none⟩)), (8, .int .i64 v_left8), (9, .int .i64 v_at9), (21, .slice Aa0_6 a0.Stands.length ca0_6), (22, .int .i64 (a0.Stands.length : Int)), (23, .int .i64 v23)] H ((some (g1, .cells #[.string a0.Name, .slice Aa0_1 a0.Has.length ca0_1, .int .i64 a0.Slots, .int .i64 a0.Speed, .int .i64 a0.From, .int .i64 a0.To, .slice Aa0_6 a0.Stands.length ca0_6] 25 (0, 0))) :: F) := by
  intro k
  induction k with
  | zero => intro a0 Aa0_1 ca0_1 Aa0_6 ca0_6 g1 v_left8 v_at9 v23 hra0_1 hca0_1 hra0_6 hca0_6 heq; exact nomatch (show (none : Option (Int × Bool)) = some r from heq)
  | succ k ihk =>
    intro a0 Aa0_1 ca0_1 Aa0_6 ca0_6 g1 v_left8 v_at9 v23 hra0_1 hca0_1 hra0_6 hca0_6 heq
    rw [workers_ends.l2] at heq
    refine RunH.adm 1 (es' := [.c [1, 1, 1, 0, 1, 0, 0, 0], .c [1, 1, 1, 0, 1, 0, 0, 1], .l [1, 1, 1, 0, 1, 0, 0], .b 0, .c [1, 1, 1, 1]]) (by kernel_rfl) ?_
    refine RunH.reg (by kernel_rfl) ?_
    refine RgH.runk 1 [3, 8, 9, 21, 22, 23, 24] (vs := []) (evs := []) (L' := [(3, .pointer (some ⟨g1, 0, none⟩)), (8, .int .i64 v_left8), (9, .int .i64 v_at9), (21, .slice Aa0_6 a0.Stands.length ca0_6), (22, .int .i64 (a0.Stands.length : Int)), (23, .int .i64 v23), (24, .bool (decide (v23 < (a0.Stands.length : Int))))]) (by kernel_rfl) (by kernel_rfl) (fun _ _ => trivial) ?_
    refine RgH.done (by kernel_rfl) ?_
    refine RunH.adm 1 (es' := [.c [1, 1, 1, 0, 1, 0, 0, 1, 0], .c [1, 1, 1, 0, 1, 0, 0, 1, 1], .l [1, 1, 1, 0, 1, 0, 0], .b 0, .c [1, 1, 1, 1]]) (by kernel_rfl) ?_
    rcases bool_cases (decide (v23 < (a0.Stands.length : Int))) with hb3 | hb3
    · replace heq := bif_true hb3 heq
      refine RunH.condT (c := decide (v23 < (a0.Stands.length : Int))) (by kernel_rfl) hb3 ?_
      refine RunH.adm 4 (es' := [.c [1, 1, 1, 0, 1, 0, 0, 1, 1, 0, 0, 0], .c [1, 1, 1, 0, 1, 0, 0, 1, 1, 0, 0, 1], .b 1, .c [1, 1, 1, 0, 1, 0, 0, 1, 1, 1], .l [1, 1, 1, 0, 1, 0, 0], .b 0, .c [1, 1, 1, 1]]) (by kernel_rfl) ?_
      refine RunH.reg (by kernel_rfl) ?_
      obtain ⟨x1, hx1, heq⟩ := bind_some heq
      obtain ⟨ha1, cs1, hK1, hcc1⟩ := hra0_6.get hx1
      obtain ⟨rfl⟩ := kSpan_open hK1
      refine RgH.runk 2 [3, 8, 9, 21, 22, 23, 26] (vs := [.int .i64 x1.From, .int .i64 x1.To]) (evs := [.need (Aa0_6 = some (adr Aa0_6) ∧ (0 : Int) ≤ v23 ∧ v23 < ((a0.Stands.length : Nat) : Int)), .load (((adr Aa0_6).add (v23.toNat * 2)).add 0) (.int .i64 x1.From), .load (((adr Aa0_6).add (v23.toNat * 2)).add 1) (.int .i64 x1.To)]) (L' := [(3, .pointer (some ⟨g1, 0, none⟩)), (8, .int .i64 v_left8), (9, .int .i64 v_at9), (21, .slice Aa0_6 a0.Stands.length ca0_6), (22, .int .i64 (a0.Stands.length : Int)), (23, .int .i64 v23), (26, .agg #[.int .i64 x1.From, .int .i64 x1.To])]) (by kernel_rfl) (by kernel_rfl) (fun w hh => ⟨⟨ha1, (at?_some hx1).1, (at?_some hx1).2.1⟩, (hcc1 _ _ (hh.drop 1) 0 _ rfl), (hcc1 _ _ (hh.drop 1) 1 _ rfl)⟩) ?_
      refine RgH.does (DoesH.new (d := 11) (v := fun g => .pointer (some ⟨g, 0, none⟩)) (o := fun g => .cells #[.int .i64 0, .int .i64 0] 79 (0, 0)) (fun g => by kernel_rfl)) ?_
      rintro _ _ _ _ ⟨g2, rfl, rfl, rfl⟩
      refine RgH.does (DoesH.store (k := 0) (g := g2) (off := 0) (v := .agg #[.int .i64 x1.From, .int .i64 x1.To]) (cells' := #[.int .i64 x1.From, .int .i64 x1.To]) (by kernel_rfl) rfl (by kernel_rfl) (by kernel_rfl)) ?_
      rintro _ _ _ _ ⟨rfl, rfl, rfl⟩
      refine RgH.done (by kernel_rfl) ?_
      refine RunH.adm 2 (es' := [.c [1, 1, 1, 0, 1, 0, 0, 1, 1, 0, 0, 1, 0, 0], .c [1, 1, 1, 0, 1, 0, 0, 1, 1, 0, 0, 1, 0, 1], .c [1, 1, 1, 0, 1, 0, 0, 1, 1, 0, 0, 1, 1], .b 1, .c [1, 1, 1, 0, 1, 0, 0, 1, 1, 1], .l [1, 1, 1, 0, 1, 0, 0], .b 0, .c [1, 1, 1, 1]]) (by kernel_rfl) ?_
      refine RunH.reg (by kernel_rfl) ?_
      refine RgH.runk 4 [3, 8, 9, 11, 21, 22, 23, 30] (vs := [.int .i64 x1.To]) (evs := [.load ⟨g2, 1, none⟩ (.int .i64 x1.To)]) (L' := [(3, .pointer (some ⟨g1, 0, none⟩)), (8, .int .i64 v_left8), (9, .int .i64 v_at9), (11, .pointer (some ⟨g2, 0, none⟩)), (21, .slice Aa0_6 a0.Stands.length ca0_6), (22, .int .i64 (a0.Stands.length : Int)), (23, .int .i64 v23), (30, .bool (decide (x1.To ≤ v_at9)))]) (by kernel_rfl) (by kernel_rfl) (fun w hh => (hh.box 0 rfl rfl)) ?_
      refine RgH.done (by kernel_rfl) ?_
      rcases bool_cases (decide (x1.To ≤ v_at9)) with hb4 | hb4
      · replace heq := bif_true hb4 heq
        refine RunH.condT (c := decide (x1.To ≤ v_at9)) (by kernel_rfl) hb4 ?_
        refine RunH.adm 1 (es' := [.c [1, 1, 1, 0, 1, 0, 0, 1, 1, 1], .l [1, 1, 1, 0, 1, 0, 0], .b 0, .c [1, 1, 1, 1]]) (by kernel_rfl) ?_
        refine RunH.keep [3, 8, 9, 21, 22, 23] (L' := [(3, .pointer (some ⟨g1, 0, none⟩)), (8, .int .i64 v_left8), (9, .int .i64 v_at9), (21, .slice Aa0_6 a0.Stands.length ca0_6), (22, .int .i64 (a0.Stands.length : Int)), (23, .int .i64 v23)]) (by kernel_rfl) ?_
        refine RunH.pick 2 [1] (cs' := (some (g1, .cells #[.string a0.Name, .slice Aa0_1 a0.Has.length ca0_1, .int .i64 a0.Slots, .int .i64 a0.Speed, .int .i64 a0.From, .int .i64 a0.To, .slice Aa0_6 a0.Stands.length ca0_6] 25 (0, 0))) :: F) (by kernel_rfl) rfl ?_
        exact (workers_ends.j3_c (backl2 := (workers_ends.l2 e1 k)) ihk) a0 _ _ _ _ _ v23 v_left8 v_at9 hra0_1 hca0_1 hra0_6 hca0_6 heq
      · replace heq := bif_false hb4 heq
        refine RunH.condF (c := decide (x1.To ≤ v_at9)) (by kernel_rfl) hb4 ?_
        refine RunH.adm 3 (es' := [.c [1, 1, 1, 0, 1, 0, 0, 1, 1, 0, 0, 1, 1, 0, 0], .c [1, 1, 1, 0, 1, 0, 0, 1, 1, 0, 0, 1, 1, 0, 1], .c [1, 1, 1, 0, 1, 0, 0, 1, 1, 0, 0, 1, 1, 1], .b 1, .c [1, 1, 1, 0, 1, 0, 0, 1, 1, 1], .l [1, 1, 1, 0, 1, 0, 0], .b 0, .c [1, 1, 1, 1]]) (by kernel_rfl) ?_
        refine RunH.reg (by kernel_rfl) ?_
        refine RgH.runk 4 [3, 8, 9, 11, 21, 22, 23, 34] (vs := [.int .i64 x1.From]) (evs := [.load ⟨g2, 0, none⟩ (.int .i64 x1.From)]) (L' := [(3, .pointer (some ⟨g1, 0, none⟩)), (8, .int .i64 v_left8), (9, .int .i64 v_at9), (11, .pointer (some ⟨g2, 0, none⟩)), (21, .slice Aa0_6 a0.Stands.length ca0_6), (22, .int .i64 (a0.Stands.length : Int)), (23, .int .i64 v23), (34, .bool (decide (v_at9 < x1.From)))]) (by kernel_rfl) (by kernel_rfl) (fun w hh => (hh.box 0 rfl rfl)) ?_
        refine RgH.done (by kernel_rfl) ?_
        rcases bool_cases (decide (v_at9 < x1.From)) with hb5 | hb5
        · replace heq := bif_true hb5 heq
          refine RunH.condT (c := decide (v_at9 < x1.From)) (by kernel_rfl) hb5 ?_
          refine RunH.adm 2 (es' := [.c [1, 1, 1, 0, 1, 0, 0, 1, 1, 0, 0, 1, 1, 0, 1, 0, 0, 0], .c [1, 1, 1, 0, 1, 0, 0, 1, 1, 0, 0, 1, 1, 0, 1, 0, 0, 1], .c [1, 1, 1, 0, 1, 0, 0, 1, 1, 0, 0, 1, 1, 0, 1, 0, 1], .c [1, 1, 1, 0, 1, 0, 0, 1, 1, 0, 0, 1, 1, 1], .b 1, .c [1, 1, 1, 0, 1, 0, 0, 1, 1, 1], .l [1, 1, 1, 0, 1, 0, 0], .b 0, .c [1, 1, 1, 1]]) (by kernel_rfl) ?_
          refine RunH.reg (by kernel_rfl) ?_
          refine RgH.runk 6 [3, 8, 9, 11, 21, 22, 23, 40] (vs := [.int .i64 x1.From]) (evs := [.load ⟨g2, 0, none⟩ (.int .i64 x1.From)]) (L' := [(3, .pointer (some ⟨g1, 0, none⟩)), (8, .int .i64 v_left8), (9, .int .i64 v_at9), (11, .pointer (some ⟨g2, 0, none⟩)), (21, .slice Aa0_6 a0.Stands.length ca0_6), (22, .int .i64 (a0.Stands.length : Int)), (23, .int .i64 v23), (40, .bool (decide (v_left8 ≤ (w64 (x1.From - v_at9)))))]) (by kernel_rfl) (by kernel_rfl) (fun w hh => (hh.box 0 rfl rfl)) ?_
          refine RgH.done (by kernel_rfl) ?_
          rcases bool_cases (decide (v_left8 ≤ (w64 (x1.From - v_at9)))) with hb6 | hb6
          · replace heq := bif_true hb6 heq
            refine RunH.condT (c := decide (v_left8 ≤ (w64 (x1.From - v_at9)))) (by kernel_rfl) hb6 ?_
            refine RunH.adm 3 (es' := [.c [1, 1, 1, 1, 0, 0], .c [1, 1, 1, 1, 0, 1], .c [1, 1, 1, 1, 1]]) (by kernel_rfl) ?_
            refine RunH.keep [3, 8, 9] (L' := [(3, .pointer (some ⟨g1, 0, none⟩)), (8, .int .i64 v_left8), (9, .int .i64 v_at9)]) (by kernel_rfl) ?_
            refine RunH.pick 2 [1] (cs' := (some (g1, .cells #[.string a0.Name, .slice Aa0_1 a0.Has.length ca0_1, .int .i64 a0.Slots, .int .i64 a0.Speed, .int .i64 a0.From, .int .i64 a0.To, .slice Aa0_6 a0.Stands.length ca0_6] 25 (0, 0))) :: F) (by kernel_rfl) rfl ?_
            exact he1 a0 _ _ _ _ _ v_left8 v_at9 hra0_1 hca0_1 hra0_6 hca0_6 heq
          · replace heq := bif_false hb6 heq
            refine RunH.condF (c := decide (v_left8 ≤ (w64 (x1.From - v_at9)))) (by kernel_rfl) hb6 ?_
            refine RunH.adm 1 (es' := [.c [1, 1, 1, 0, 1, 0, 0, 1, 1, 0, 0, 1, 1, 0, 1, 0, 1], .c [1, 1, 1, 0, 1, 0, 0, 1, 1, 0, 0, 1, 1, 1], .b 1, .c [1, 1, 1, 0, 1, 0, 0, 1, 1, 1], .l [1, 1, 1, 0, 1, 0, 0], .b 0, .c [1, 1, 1, 1]]) (by kernel_rfl) ?_
            refine RunH.reg (by kernel_rfl) ?_
            refine RgH.runk 7 [3, 8, 11, 21, 22, 23] (vs := [.int .i64 x1.From]) (evs := [.load ⟨g2, 0, none⟩ (.int .i64 x1.From)]) (L' := [(3, .pointer (some ⟨g1, 0, none⟩)), (8, .int .i64 (w64 (v_left8 - (w64 (x1.From - v_at9))))), (11, .pointer (some ⟨g2, 0, none⟩)), (21, .slice Aa0_6 a0.Stands.length ca0_6), (22, .int .i64 (a0.Stands.length : Int)), (23, .int .i64 v23)]) (by kernel_rfl) (by kernel_rfl) (fun w hh => (hh.box 0 rfl rfl)) ?_
            refine RgH.done (by kernel_rfl) ?_
            refine RunH.keep [3, 8, 11, 21, 22, 23] (L' := [(3, .pointer (some ⟨g1, 0, none⟩)), (8, .int .i64 (w64 (v_left8 - (w64 (x1.From - v_at9))))), (11, .pointer (some ⟨g2, 0, none⟩)), (21, .slice Aa0_6 a0.Stands.length ca0_6), (22, .int .i64 (a0.Stands.length : Int)), (23, .int .i64 v23)]) (by kernel_rfl) ?_
            exact (workers_ends.j4_c (j3 := workers_ends.j3 ((workers_ends.l2 e1 k))) (workers_ends.j3_c (backl2 := (workers_ends.l2 e1 k)) ihk)) a0 _ _ _ _ _ v23 x1 _ (w64 (v_left8 - (w64 (x1.From - v_at9)))) hra0_1 hca0_1 hra0_6 hca0_6 heq
        · replace heq := bif_false hb5 heq
          refine RunH.condF (c := decide (v_at9 < x1.From)) (by kernel_rfl) hb5 ?_
          refine RunH.adm 1 (es' := [.c [1, 1, 1, 0, 1, 0, 0, 1, 1, 0, 0, 1, 1, 1], .b 1, .c [1, 1, 1, 0, 1, 0, 0, 1, 1, 1], .l [1, 1, 1, 0, 1, 0, 0], .b 0, .c [1, 1, 1, 1]]) (by kernel_rfl) ?_
          refine RunH.keep [3, 8, 11, 21, 22, 23] (L' := [(3, .pointer (some ⟨g1, 0, none⟩)), (8, .int .i64 v_left8), (11, .pointer (some ⟨g2, 0, none⟩)), (21, .slice Aa0_6 a0.Stands.length ca0_6), (22, .int .i64 (a0.Stands.length : Int)), (23, .int .i64 v23)]) (by kernel_rfl) ?_
          exact (workers_ends.j4_c (j3 := workers_ends.j3 ((workers_ends.l2 e1 k))) (workers_ends.j3_c (backl2 := (workers_ends.l2 e1 k)) ihk)) a0 _ _ _ _ _ v23 x1 _ v_left8 hra0_1 hca0_1 hra0_6 hca0_6 heq
    · replace heq := bif_false hb3 heq
      refine RunH.condF (c := decide (v23 < (a0.Stands.length : Int))) (by kernel_rfl) hb3 ?_
      refine RunH.adm 3 (es' := [.c [1, 1, 1, 1, 0, 0], .c [1, 1, 1, 1, 0, 1], .c [1, 1, 1, 1, 1]]) (by kernel_rfl) ?_
      refine RunH.keep [3, 8, 9] (L' := [(3, .pointer (some ⟨g1, 0, none⟩)), (8, .int .i64 v_left8), (9, .int .i64 v_at9)]) (by kernel_rfl) ?_
      exact he1 a0 _ _ _ _ _ v_left8 v_at9 hra0_1 hca0_1 hra0_6 hca0_6 heq
theorem workers_ends_c {w0 : World} {H : Hp} {F : List Ch} {a0 : Worker} {Aa0_1 : Option Addr} {na0_1 : Nat} {ca0_1 : Nat} {Aa0_6 : Option Addr} {na0_6 : Nat} {ca0_6 : Nat} {a1 : Int} {a2 : Int} {r : Int × Bool} (hra0_1 : Rw kPair H F Aa0_1 a0.Has) (hca0_1 : na0_1 ≤ ca0_1) (hna0_1 : na0_1 = a0.Has.length) (hra0_6 : Rw kSpan H F Aa0_6 a0.Stands) (hca0_6 : na0_6 ≤ ca0_6) (hna0_6 : na0_6 = a0.Stands.length) (heq : workers_ends.f a0 a1 a2 = some r) : CallsH Tryd.prog 44 #[.agg #[.string a0.Name, .slice Aa0_1 na0_1 ca0_1, .int .i64 a0.Slots, .int .i64 a0.Speed, .int .i64 a0.From, .int .i64 a0.To, .slice Aa0_6 na0_6 ca0_6], .int .i64 a1, .int .i64 a2] H w0 (F) (S44 F H r) := by
  refine calls_of_runH (F := C44) Tryd.func44 (by kernel_rfl) Tryd.ntmps44 (args := [.agg #[.string a0.Name, .slice Aa0_1 na0_1 ca0_1, .int .i64 a0.Slots, .int .i64 a0.Speed, .int .i64 a0.From, .int .i64 a0.To, .slice Aa0_6 na0_6 ca0_6], .int .i64 a1, .int .i64 a2]) (by kernel_rfl) ?_
  subst hna0_1
  subst hna0_6
  unfold workers_ends.f at heq
  refine RunH.adm 1 (es' := [.c [0], .c [1]]) (by kernel_rfl) ?_
  refine RunH.reg (by kernel_rfl) ?_
  refine RgH.does (DoesH.new (d := 3) (v := fun g => .pointer (some ⟨g, 0, none⟩)) (o := fun g => .cells #[.string a0.Name, .slice Aa0_1 a0.Has.length ca0_1, .int .i64 a0.Slots, .int .i64 a0.Speed, .int .i64 a0.From, .int .i64 a0.To, .slice Aa0_6 a0.Stands.length ca0_6] 25 (0, 0)) (fun g => by kernel_rfl)) ?_
  rintro _ _ _ _ ⟨g1, rfl, rfl, rfl⟩
  refine RgH.runk 3 [1, 2, 3] (vs := []) (evs := []) (L' := [(1, .int .i64 a1), (2, .int .i64 a2), (3, .pointer (some ⟨g1, 0, none⟩))]) (by kernel_rfl) (by kernel_rfl) (fun _ _ => trivial) ?_
  refine RgH.done (by kernel_rfl) ?_
  refine RunH.adm 2 (es' := [.c [1, 0, 0], .c [1, 0, 1], .c [1, 1]]) (by kernel_rfl) ?_
  refine RunH.reg (by kernel_rfl) ?_
  refine RgH.runk 4 [1, 2, 3, 15] (vs := [.int .i64 a0.From]) (evs := [.load ⟨g1, 4, none⟩ (.int .i64 a0.From)]) (L' := [(1, .int .i64 a1), (2, .int .i64 a2), (3, .pointer (some ⟨g1, 0, none⟩)), (15, .bool (decide (a2 < a0.From)))]) (by kernel_rfl) (by kernel_rfl) (fun w hh => (hh.box 0 rfl rfl)) ?_
  refine RgH.done (by kernel_rfl) ?_
  rcases bool_cases (decide (a2 < a0.From)) with hb1 | hb1
  · replace heq := bif_true hb1 heq
    refine RunH.condT (c := decide (a2 < a0.From)) (by kernel_rfl) hb1 ?_
    refine RunH.adm 1 (es' := [.c [1, 0, 1, 0, 0], .c [1, 0, 1, 0, 1], .c [1, 1]]) (by kernel_rfl) ?_
    refine RunH.reg (by kernel_rfl) ?_
    refine RgH.runk 2 [6, 7] (vs := []) (evs := []) (L' := [(6, .int .i64 0), (7, .bool false)]) (by kernel_rfl) (by kernel_rfl) (fun _ _ => trivial) ?_
    refine RgH.done (by kernel_rfl) ?_
    obtain rfl := Option.some.inj heq
    refine RunH.pick 1 [] (cs' := F) (by kernel_rfl) rfl ?_
    exact RunH.done (by kernel_rfl) Tryd.func44 (v := .tuple #[.int .i64 0, .bool false]) (by kernel_rfl) ⟨rfl, rfl, rfl⟩
  · replace heq := bif_false hb1 heq
    refine RunH.condF (c := decide (a2 < a0.From)) (by kernel_rfl) hb1 ?_
    refine RunH.adm 2 (es' := [.c [1, 1, 0], .c [1, 1, 1]]) (by kernel_rfl) ?_
    refine RunH.reg (by kernel_rfl) ?_
    refine RgH.runk 2 [2, 3, 16, 17] (vs := [.string a0.Name, .slice Aa0_1 a0.Has.length ca0_1, .int .i64 a0.Slots, .int .i64 a0.Speed, .int .i64 a0.From, .int .i64 a0.To, .slice Aa0_6 a0.Stands.length ca0_6]) (evs := [.load ⟨g1, 0, none⟩ (.string a0.Name), .load ⟨g1, 1, none⟩ (.slice Aa0_1 a0.Has.length ca0_1), .load ⟨g1, 2, none⟩ (.int .i64 a0.Slots), .load ⟨g1, 3, none⟩ (.int .i64 a0.Speed), .load ⟨g1, 4, none⟩ (.int .i64 a0.From), .load ⟨g1, 5, none⟩ (.int .i64 a0.To), .load ⟨g1, 6, none⟩ (.slice Aa0_6 a0.Stands.length ca0_6)]) (L' := [(2, .int .i64 a2), (3, .pointer (some ⟨g1, 0, none⟩)), (16, .agg #[.string a0.Name, .slice Aa0_1 a0.Has.length ca0_1, .int .i64 a0.Slots, .int .i64 a0.Speed, .int .i64 a0.From, .int .i64 a0.To, .slice Aa0_6 a0.Stands.length ca0_6]), (17, .int .i64 a1)]) (by kernel_rfl) (by kernel_rfl) (fun w hh => ⟨(hh.box 0 rfl rfl), (hh.box 0 rfl rfl), (hh.box 0 rfl rfl), (hh.box 0 rfl rfl), (hh.box 0 rfl rfl), (hh.box 0 rfl rfl), (hh.box 0 rfl rfl)⟩) ?_
    obtain ⟨y1, hy1, heq⟩ := bind_some heq
    refine RgH.does (DoesH.call (d := 18) (g := 47) (args := #[.agg #[.string a0.Name, .slice Aa0_1 a0.Has.length ca0_1, .int .i64 a0.Slots, .int .i64 a0.Speed, .int .i64 a0.From, .int .i64 a0.To, .slice Aa0_6 a0.Stands.length ca0_6], .int .i64 a1]) (by kernel_rfl) (workers_seconds_c (a0 := a0) (a1 := a1) (hra0_1.wk (fun _ h => (.tail _ h))) hca0_1 rfl (hra0_6.wk (fun _ h => (.tail _ h))) hca0_6 rfl hy1)) ?_
    rintro _ _ _ _ ⟨_, rfl, rfl, rfl, rfl⟩
    refine RgH.runk 6 [3, 8, 9] (vs := []) (evs := []) (L' := [(3, .pointer (some ⟨g1, 0, none⟩)), (8, .int .i64 y1), (9, .int .i64 a2)]) (by kernel_rfl) (by kernel_rfl) (fun _ _ => trivial) ?_
    refine RgH.done (by kernel_rfl) ?_
    refine RunH.adm 2 (es' := [.c [1, 1, 1, 0, 0], .c [1, 1, 1, 0, 1], .c [1, 1, 1, 1]]) (by kernel_rfl) ?_
    refine RunH.reg (by kernel_rfl) ?_
    refine RgH.runk 4 [3, 8, 9, 21, 22, 23] (vs := [.slice Aa0_6 a0.Stands.length ca0_6]) (evs := [.load ⟨g1, 6, none⟩ (.slice Aa0_6 a0.Stands.length ca0_6)]) (L' := [(3, .pointer (some ⟨g1, 0, none⟩)), (8, .int .i64 y1), (9, .int .i64 a2), (21, .slice Aa0_6 a0.Stands.length ca0_6), (22, .int .i64 (a0.Stands.length : Int)), (23, .int .i64 0)]) (by kernel_rfl) (by kernel_rfl) (fun w hh => (hh.box 0 rfl rfl)) ?_
    refine RgH.done (by kernel_rfl) ?_
    refine RunH.adm 2 (es' := [.c [1, 1, 1, 0, 1, 0, 0], .l [1, 1, 1, 0, 1, 0, 0], .b 0, .c [1, 1, 1, 1]]) (by kernel_rfl) ?_
    refine RunH.keep [3, 8, 9, 21, 22, 23] (L' := [(3, .pointer (some ⟨g1, 0, none⟩)), (8, .int .i64 y1), (9, .int .i64 a2), (21, .slice Aa0_6 a0.Stands.length ca0_6), (22, .int .i64 (a0.Stands.length : Int)), (23, .int .i64 0)]) (by kernel_rfl) ?_
    exact ((workers_ends.l2_c (e1 := workers_ends.e1) (workers_ends.e1_c)) big) a0 _ _ _ _ _ y1 a2 0 hra0_1 hca0_1 hra0_6 hca0_6 heq
noncomputable def C9 : Ctx := { P := Tryd.prog, f := 9, N := 30, c := bodyOf Tryd.f9 }
def S9 (F : List Ch) (H0 : Hp) (r : Int × Bool × Int) (v : Value) (H : Hp) (cs : List Ch) : Prop := H0 = H ∧ v = .tuple #[.int .i64 r.1, .bool r.2.1, .int .i64 r.2.2] ∧ F = cs
theorem workers_Ends_c {w0 : World} {H : Hp} {F : List Ch} {a0 : Worker} {Aa0_1 : Option Addr} {na0_1 : Nat} {ca0_1 : Nat} {Aa0_6 : Option Addr} {na0_6 : Nat} {ca0_6 : Nat} {a1 : Int} {a2 : Int} {r : Int × Bool × Int} (hra0_1 : Rw kPair H F Aa0_1 a0.Has) (hca0_1 : na0_1 ≤ ca0_1) (hna0_1 : na0_1 = a0.Has.length) (hra0_6 : Rw kSpan H F Aa0_6 a0.Stands) (hca0_6 : na0_6 ≤ ca0_6) (hna0_6 : na0_6 = a0.Stands.length) (heq : workers_Ends.f a0 a1 a2 = some r) : CallsH Tryd.prog 9 #[.agg #[.string a0.Name, .slice Aa0_1 na0_1 ca0_1, .int .i64 a0.Slots, .int .i64 a0.Speed, .int .i64 a0.From, .int .i64 a0.To, .slice Aa0_6 na0_6 ca0_6], .int .i64 a1, .int .i64 a2] H w0 (F) (S9 F H r) := by
  refine calls_of_runH (F := C9) Tryd.func9 (by kernel_rfl) Tryd.ntmps9 (args := [.agg #[.string a0.Name, .slice Aa0_1 na0_1 ca0_1, .int .i64 a0.Slots, .int .i64 a0.Speed, .int .i64 a0.From, .int .i64 a0.To, .slice Aa0_6 na0_6 ca0_6], .int .i64 a1, .int .i64 a2]) (by kernel_rfl) ?_
  subst hna0_1
  subst hna0_6
  unfold workers_Ends.f at heq
  refine RunH.adm 1 (es' := [.c [0], .c [1]]) (by kernel_rfl) ?_
  refine RunH.reg (by kernel_rfl) ?_
  refine RgH.does (DoesH.new (d := 3) (v := fun g => .pointer (some ⟨g, 0, none⟩)) (o := fun g => .cells #[.string a0.Name, .slice Aa0_1 a0.Has.length ca0_1, .int .i64 a0.Slots, .int .i64 a0.Speed, .int .i64 a0.From, .int .i64 a0.To, .slice Aa0_6 a0.Stands.length ca0_6] 25 (0, 0)) (fun g => by kernel_rfl)) ?_
  rintro _ _ _ _ ⟨g1, rfl, rfl, rfl⟩
  refine RgH.runk 4 [1, 2, 3] (vs := []) (evs := []) (L' := [(1, .int .i64 a1), (2, .int .i64 a2), (3, .pointer (some ⟨g1, 0, none⟩))]) (by kernel_rfl) (by kernel_rfl) (fun _ _ => trivial) ?_
  refine RgH.done (by kernel_rfl) ?_
  refine RunH.adm 2 (es' := [.c [1, 0, 0], .c [1, 0, 1], .c [1, 1]]) (by kernel_rfl) ?_
  refine RunH.reg (by kernel_rfl) ?_
  refine RgH.runk 2 [1, 2, 3, 12, 13] (vs := [.string a0.Name, .slice Aa0_1 a0.Has.length ca0_1, .int .i64 a0.Slots, .int .i64 a0.Speed, .int .i64 a0.From, .int .i64 a0.To, .slice Aa0_6 a0.Stands.length ca0_6]) (evs := [.load ⟨g1, 0, none⟩ (.string a0.Name), .load ⟨g1, 1, none⟩ (.slice Aa0_1 a0.Has.length ca0_1), .load ⟨g1, 2, none⟩ (.int .i64 a0.Slots), .load ⟨g1, 3, none⟩ (.int .i64 a0.Speed), .load ⟨g1, 4, none⟩ (.int .i64 a0.From), .load ⟨g1, 5, none⟩ (.int .i64 a0.To), .load ⟨g1, 6, none⟩ (.slice Aa0_6 a0.Stands.length ca0_6)]) (L' := [(1, .int .i64 a1), (2, .int .i64 a2), (3, .pointer (some ⟨g1, 0, none⟩)), (12, .agg #[.string a0.Name, .slice Aa0_1 a0.Has.length ca0_1, .int .i64 a0.Slots, .int .i64 a0.Speed, .int .i64 a0.From, .int .i64 a0.To, .slice Aa0_6 a0.Stands.length ca0_6]), (13, .int .i64 a1)]) (by kernel_rfl) (by kernel_rfl) (fun w hh => ⟨(hh.box 0 rfl rfl), (hh.box 0 rfl rfl), (hh.box 0 rfl rfl), (hh.box 0 rfl rfl), (hh.box 0 rfl rfl), (hh.box 0 rfl rfl), (hh.box 0 rfl rfl)⟩) ?_
  obtain ⟨y1, hy1, heq⟩ := bind_some heq
  refine RgH.does (DoesH.call (d := 14) (g := 42) (args := #[.agg #[.string a0.Name, .slice Aa0_1 a0.Has.length ca0_1, .int .i64 a0.Slots, .int .i64 a0.Speed, .int .i64 a0.From, .int .i64 a0.To, .slice Aa0_6 a0.Stands.length ca0_6], .int .i64 a1]) (by kernel_rfl) (workers_checkSize_c (a0 := a0) (a1 := a1) (hra0_1.wk (fun _ h => (.tail _ h))) hca0_1 rfl (hra0_6.wk (fun _ h => (.tail _ h))) hca0_6 rfl hy1)) ?_
  rintro _ _ _ _ ⟨_, rfl, rfl, rfl, rfl⟩
  refine RgH.runk 4 [1, 2, 3, 9] (vs := []) (evs := []) (L' := [(1, .int .i64 a1), (2, .int .i64 a2), (3, .pointer (some ⟨g1, 0, none⟩)), (9, .int .i64 y1)]) (by kernel_rfl) (by kernel_rfl) (fun _ _ => trivial) ?_
  refine RgH.done (by kernel_rfl) ?_
  refine RunH.adm 1 (es' := [.c [1, 0, 1, 0], .c [1, 0, 1, 1], .c [1, 1]]) (by kernel_rfl) ?_
  refine RunH.reg (by kernel_rfl) ?_
  refine RgH.runk 2 [1, 2, 3, 9, 16] (vs := []) (evs := []) (L' := [(1, .int .i64 a1), (2, .int .i64 a2), (3, .pointer (some ⟨g1, 0, none⟩)), (9, .int .i64 y1), (16, .bool (y1 != 0))]) (by kernel_rfl) (by kernel_rfl) (fun _ _ => trivial) ?_
  refine RgH.done (by kernel_rfl) ?_
  rcases bool_cases (y1 != 0) with hb1 | hb1
  · replace heq := bif_true hb1 heq
    refine RunH.condT (c := y1 != 0) (by kernel_rfl) hb1 ?_
    refine RunH.adm 1 (es' := [.c [1, 0, 1, 1, 0, 0], .c [1, 0, 1, 1, 0, 1], .c [1, 1]]) (by kernel_rfl) ?_
    refine RunH.reg (by kernel_rfl) ?_
    refine RgH.runk 4 [6, 7, 8] (vs := []) (evs := []) (L' := [(6, .int .i64 0), (7, .bool false), (8, .int .i64 y1)]) (by kernel_rfl) (by kernel_rfl) (fun _ _ => trivial) ?_
    refine RgH.done (by kernel_rfl) ?_
    obtain rfl := Option.some.inj heq
    refine RunH.pick 1 [] (cs' := F) (by kernel_rfl) rfl ?_
    exact RunH.done (by kernel_rfl) Tryd.func9 (v := .tuple #[.int .i64 0, .bool false, .int .i64 y1]) (by kernel_rfl) ⟨rfl, rfl, rfl⟩
  · replace heq := bif_false hb1 heq
    refine RunH.condF (c := y1 != 0) (by kernel_rfl) hb1 ?_
    refine RunH.adm 3 (es' := [.c [1, 1, 0, 0], .c [1, 1, 0, 1], .c [1, 1, 1]]) (by kernel_rfl) ?_
    refine RunH.reg (by kernel_rfl) ?_
    refine RgH.runk 1 [1, 2, 3, 18] (vs := []) (evs := []) (L' := [(1, .int .i64 a1), (2, .int .i64 a2), (3, .pointer (some ⟨g1, 0, none⟩)), (18, .int .i64 a2)]) (by kernel_rfl) (by kernel_rfl) (fun _ _ => trivial) ?_
    obtain ⟨y2, hy2, heq⟩ := bind_some heq
    refine RgH.does (DoesH.call (d := 19) (g := 43) (args := #[.int .i64 a2]) (by kernel_rfl) (workers_isMoment_c (a0 := a2)  hy2)) ?_
    rintro _ _ _ _ ⟨_, rfl, rfl, rfl, rfl⟩
    refine RgH.runk 3 [1, 2, 3, 20] (vs := []) (evs := []) (L' := [(1, .int .i64 a1), (2, .int .i64 a2), (3, .pointer (some ⟨g1, 0, none⟩)), (20, .bool (!y2))]) (by kernel_rfl) (by kernel_rfl) (fun _ _ => trivial) ?_
    refine RgH.done (by kernel_rfl) ?_
    rcases bool_cases (!y2) with hb2 | hb2
    · replace heq := bif_true hb2 heq
      refine RunH.condT (c := !y2) (by kernel_rfl) hb2 ?_
      refine RunH.adm 1 (es' := [.c [1, 1, 0, 1, 0, 0], .c [1, 1, 0, 1, 0, 1], .c [1, 1, 1]]) (by kernel_rfl) ?_
      refine RunH.reg (by kernel_rfl) ?_
      refine RgH.runk 3 [6, 7, 8] (vs := []) (evs := []) (L' := [(6, .int .i64 0), (7, .bool false), (8, .int .i64 1)]) (by kernel_rfl) (by kernel_rfl) (fun _ _ => trivial) ?_
      refine RgH.done (by kernel_rfl) ?_
      obtain rfl := Option.some.inj heq
      refine RunH.pick 1 [] (cs' := F) (by kernel_rfl) rfl ?_
      exact RunH.done (by kernel_rfl) Tryd.func9 (v := .tuple #[.int .i64 0, .bool false, .int .i64 1]) (by kernel_rfl) ⟨rfl, rfl, rfl⟩
    · replace heq := bif_false hb2 heq
      refine RunH.condF (c := !y2) (by kernel_rfl) hb2 ?_
      refine RunH.adm 2 (es' := [.c [1, 1, 1, 0], .c [1, 1, 1, 1]]) (by kernel_rfl) ?_
      refine RunH.reg (by kernel_rfl) ?_
      refine RgH.runk 3 [22, 23, 24] (vs := [.string a0.Name, .slice Aa0_1 a0.Has.length ca0_1, .int .i64 a0.Slots, .int .i64 a0.Speed, .int .i64 a0.From, .int .i64 a0.To, .slice Aa0_6 a0.Stands.length ca0_6]) (evs := [.load ⟨g1, 0, none⟩ (.string a0.Name), .load ⟨g1, 1, none⟩ (.slice Aa0_1 a0.Has.length ca0_1), .load ⟨g1, 2, none⟩ (.int .i64 a0.Slots), .load ⟨g1, 3, none⟩ (.int .i64 a0.Speed), .load ⟨g1, 4, none⟩ (.int .i64 a0.From), .load ⟨g1, 5, none⟩ (.int .i64 a0.To), .load ⟨g1, 6, none⟩ (.slice Aa0_6 a0.Stands.length ca0_6)]) (L' := [(22, .agg #[.string a0.Name, .slice Aa0_1 a0.Has.length ca0_1, .int .i64 a0.Slots, .int .i64 a0.Speed, .int .i64 a0.From, .int .i64 a0.To, .slice Aa0_6 a0.Stands.length ca0_6]), (23, .int .i64 a1), (24, .int .i64 a2)]) (by kernel_rfl) (by kernel_rfl) (fun w hh => ⟨(hh.box 0 rfl rfl), (hh.box 0 rfl rfl), (hh.box 0 rfl rfl), (hh.box 0 rfl rfl), (hh.box 0 rfl rfl), (hh.box 0 rfl rfl), (hh.box 0 rfl rfl)⟩) ?_
      obtain ⟨y3, hy3, heq⟩ := bind_some heq
      refine RgH.does (DoesH.call (d := 25) (g := 44) (args := #[.agg #[.string a0.Name, .slice Aa0_1 a0.Has.length ca0_1, .int .i64 a0.Slots, .int .i64 a0.Speed, .int .i64 a0.From, .int .i64 a0.To, .slice Aa0_6 a0.Stands.length ca0_6], .int .i64 a1, .int .i64 a2]) (by kernel_rfl) (workers_ends_c (a0 := a0) (a1 := a1) (a2 := a2) (hra0_1.wk (fun _ h => (.tail _ h))) hca0_1 rfl (hra0_6.wk (fun _ h => (.tail _ h))) hca0_6 rfl hy3)) ?_
      rintro _ _ _ _ ⟨_, rfl, rfl, rfl, rfl⟩
      refine RgH.runk 9 [10, 11] (vs := []) (evs := []) (L' := [(10, .int .i64 y3.1), (11, .bool y3.2)]) (by kernel_rfl) (by kernel_rfl) (fun _ _ => trivial) ?_
      refine RgH.done (by kernel_rfl) ?_
      refine RunH.adm 1 (es' := [.c [1, 1, 1, 1, 0], .c [1, 1, 1, 1, 1]]) (by kernel_rfl) ?_
      refine RunH.reg (by kernel_rfl) ?_
      refine RgH.runk 5 [6, 7, 8] (vs := []) (evs := []) (L' := [(6, .int .i64 y3.1), (7, .bool y3.2), (8, .int .i64 0)]) (by kernel_rfl) (by kernel_rfl) (fun _ _ => trivial) ?_
      refine RgH.done (by kernel_rfl) ?_
      obtain rfl := Option.some.inj heq
      refine RunH.pick 1 [] (cs' := F) (by kernel_rfl) rfl ?_
      exact RunH.done (by kernel_rfl) Tryd.func9 (v := .tuple #[.int .i64 y3.1, .bool y3.2, .int .i64 0]) (by kernel_rfl) ⟨rfl, rfl, rfl⟩
noncomputable def C3 : Ctx := { P := Tryd.prog, f := 3, N := 118, c := bodyOf Tryd.f3 }
def S3 (F : List Ch) (H0 : Hp) (r : Bool) (v : Value) (H : Hp) (cs : List Ch) : Prop := H0 = H ∧ v = .bool r ∧ F = cs
theorem smithyardlaw9_WorkersEndsAddUp_c {w0 : World} {H : Hp} {F : List Ch} {a0 : Worker} {Aa0_1 : Option Addr} {na0_1 : Nat} {ca0_1 : Nat} {Aa0_6 : Option Addr} {na0_6 : Nat} {ca0_6 : Nat} {a1 : Int} {a2 : Int} {a3 : Int} {r : Bool} (hra0_1 : Rw kPair H F Aa0_1 a0.Has) (hca0_1 : na0_1 ≤ ca0_1) (hna0_1 : na0_1 = a0.Has.length) (hra0_6 : Rw kSpan H F Aa0_6 a0.Stands) (hca0_6 : na0_6 ≤ ca0_6) (hna0_6 : na0_6 = a0.Stands.length) (heq : smithyardlaw9_WorkersEndsAddUp.f a0 a1 a2 a3 = some r) : CallsH Tryd.prog 3 #[.agg #[.string a0.Name, .slice Aa0_1 na0_1 ca0_1, .int .i64 a0.Slots, .int .i64 a0.Speed, .int .i64 a0.From, .int .i64 a0.To, .slice Aa0_6 na0_6 ca0_6], .int .i64 a1, .int .i64 a2, .int .i64 a3] H w0 (F) (S3 F H r) := by
  refine calls_of_runH (F := C3) Tryd.func3 (by kernel_rfl) Tryd.ntmps3 (args := [.agg #[.string a0.Name, .slice Aa0_1 na0_1 ca0_1, .int .i64 a0.Slots, .int .i64 a0.Speed, .int .i64 a0.From, .int .i64 a0.To, .slice Aa0_6 na0_6 ca0_6], .int .i64 a1, .int .i64 a2, .int .i64 a3]) (by kernel_rfl) ?_
  subst hna0_1
  subst hna0_6
  unfold smithyardlaw9_WorkersEndsAddUp.f at heq
  refine RunH.adm 1 (es' := [.c [0], .c [1]]) (by kernel_rfl) ?_
  refine RunH.reg (by kernel_rfl) ?_
  refine RgH.does (DoesH.new (d := 4) (v := fun g => .pointer (some ⟨g, 0, none⟩)) (o := fun g => .cells #[.string a0.Name, .slice Aa0_1 a0.Has.length ca0_1, .int .i64 a0.Slots, .int .i64 a0.Speed, .int .i64 a0.From, .int .i64 a0.To, .slice Aa0_6 a0.Stands.length ca0_6] 25 (0, 0)) (fun g => by kernel_rfl)) ?_
  rintro _ _ _ _ ⟨g1, rfl, rfl, rfl⟩
  refine RgH.runk 2 [1, 2, 3, 4] (vs := []) (evs := []) (L' := [(1, .int .i64 a1), (2, .int .i64 a2), (3, .int .i64 a3), (4, .pointer (some ⟨g1, 0, none⟩))]) (by kernel_rfl) (by kernel_rfl) (fun _ _ => trivial) ?_
  refine RgH.done (by kernel_rfl) ?_
  refine RunH.adm 2 (es' := [.c [1, 0, 0], .c [1, 0, 1], .c [1, 1]]) (by kernel_rfl) ?_
  obtain ⟨t1, ht1, heq⟩ := bind_some heq
  have K2 : RunH C3 (S3 F H r) H w0 [.c [1, 0, 1], .c [1, 1]] [(1, .int .i64 a1), (2, .int .i64 a2), (3, .int .i64 a3), (4, .pointer (some ⟨g1, 0, none⟩)), (53, .bool t1)] H ((some (g1, .cells #[.string a0.Name, .slice Aa0_1 a0.Has.length ca0_1, .int .i64 a0.Slots, .int .i64 a0.Speed, .int .i64 a0.From, .int .i64 a0.To, .slice Aa0_6 a0.Stands.length ca0_6] 25 (0, 0))) :: F) := by
    rcases bool_cases (t1) with hb8 | hb8
    · replace heq := bif_true hb8 heq
      refine RunH.condT (c := t1) (by kernel_rfl) hb8 ?_
      refine RunH.adm 1 (es' := [.c [1, 0, 1, 0, 0], .c [1, 0, 1, 0, 1], .c [1, 1]]) (by kernel_rfl) ?_
      refine RunH.reg (by kernel_rfl) ?_
      obtain ⟨y1, hy1, heq⟩ := bind_some heq
      refine RgH.does (DoesH.call (d := 54) (g := 8) (args := (List.toArray [])) (by kernel_rfl) (smithyardlaw9_awake_c  hy1)) ?_
      rintro _ _ _ _ ⟨_, rfl, rfl, rfl, rfl⟩
      refine RgH.runk 2 [8] (vs := []) (evs := []) (L' := [(8, .bool y1)]) (by kernel_rfl) (by kernel_rfl) (fun _ _ => trivial) ?_
      refine RgH.done (by kernel_rfl) ?_
      obtain rfl := Option.some.inj heq
      refine RunH.pick 1 [] (cs' := F) (by kernel_rfl) rfl ?_
      exact RunH.done (by kernel_rfl) Tryd.func3 (v := .bool y1) (by kernel_rfl) ⟨rfl, rfl, rfl⟩
    · replace heq := bif_false hb8 heq
      refine RunH.condF (c := t1) (by kernel_rfl) hb8 ?_
      refine RunH.adm 2 (es' := [.c [1, 1, 0], .c [1, 1, 1]]) (by kernel_rfl) ?_
      refine RunH.reg (by kernel_rfl) ?_
      refine RgH.runk 8 [1, 2, 3, 4, 56, 62, 63] (vs := [.string a0.Name, .slice Aa0_1 a0.Has.length ca0_1, .int .i64 a0.Slots, .int .i64 a0.Speed, .int .i64 a0.From, .int .i64 a0.To, .slice Aa0_6 a0.Stands.length ca0_6, .int .i64 a0.Speed]) (evs := [.load ⟨g1, 0, none⟩ (.string a0.Name), .load ⟨g1, 1, none⟩ (.slice Aa0_1 a0.Has.length ca0_1), .load ⟨g1, 2, none⟩ (.int .i64 a0.Slots), .load ⟨g1, 3, none⟩ (.int .i64 a0.Speed), .load ⟨g1, 4, none⟩ (.int .i64 a0.From), .load ⟨g1, 5, none⟩ (.int .i64 a0.To), .load ⟨g1, 6, none⟩ (.slice Aa0_6 a0.Stands.length ca0_6), .load ⟨g1, 3, none⟩ (.int .i64 a0.Speed)]) (L' := [(1, .int .i64 a1), (2, .int .i64 a2), (3, .int .i64 a3), (4, .pointer (some ⟨g1, 0, none⟩)), (56, .agg #[.string a0.Name, .slice Aa0_1 a0.Has.length ca0_1, .int .i64 a0.Slots, .int .i64 a0.Speed, .int .i64 a0.From, .int .i64 a0.To, .slice Aa0_6 a0.Stands.length ca0_6]), (62, .int .i64 (w64 ((w64 (a1 * a0.Speed)) + a2))), (63, .int .i64 a3)]) (by kernel_rfl) (by kernel_rfl) (fun w hh => ⟨(hh.box 0 rfl rfl), (hh.box 0 rfl rfl), (hh.box 0 rfl rfl), (hh.box 0 rfl rfl), (hh.box 0 rfl rfl), (hh.box 0 rfl rfl), (hh.box 0 rfl rfl), (hh.box 0 rfl rfl)⟩) ?_
      obtain ⟨y2, hy2, heq⟩ := bind_some heq
      refine RgH.does (DoesH.call (d := 64) (g := 9) (args := #[.agg #[.string a0.Name, .slice Aa0_1 a0.Has.length ca0_1, .int .i64 a0.Slots, .int .i64 a0.Speed, .int .i64 a0.From, .int .i64 a0.To, .slice Aa0_6 a0.Stands.length ca0_6], .int .i64 (w64 ((w64 (a1 * a0.Speed)) + a2)), .int .i64 a3]) (by kernel_rfl) (workers_Ends_c (a0 := a0) (a1 := w64 ((w64 (a1 * a0.Speed)) + a2)) (a2 := a3) (hra0_1.wk (fun _ h => (.tail _ h))) hca0_1 rfl (hra0_6.wk (fun _ h => (.tail _ h))) hca0_6 rfl hy2)) ?_
      rintro _ _ _ _ ⟨_, rfl, rfl, rfl, rfl⟩
      refine RgH.runk 16 [1, 2, 3, 4, 9, 10, 11] (vs := []) (evs := []) (L' := [(1, .int .i64 a1), (2, .int .i64 a2), (3, .int .i64 a3), (4, .pointer (some ⟨g1, 0, none⟩)), (9, .int .i64 y2.1), (10, .bool y2.2.1), (11, .int .i64 y2.2.2)]) (by kernel_rfl) (by kernel_rfl) (fun _ _ => trivial) ?_
      refine RgH.done (by kernel_rfl) ?_
      refine RunH.adm 2 (es' := [.c [1, 1, 1, 0, 0], .c [1, 1, 1, 0, 1], .c [1, 1, 1, 1]]) (by kernel_rfl) ?_
      obtain ⟨t2, ht2, heq⟩ := bind_some heq
      have K3 : RunH C3 (S3 F H r) H w0 [.c [1, 1, 1, 0, 1], .c [1, 1, 1, 1]] [(1, .int .i64 a1), (2, .int .i64 a2), (3, .int .i64 a3), (4, .pointer (some ⟨g1, 0, none⟩)), (9, .int .i64 y2.1), (73, .bool t2)] H ((some (g1, .cells #[.string a0.Name, .slice Aa0_1 a0.Has.length ca0_1, .int .i64 a0.Slots, .int .i64 a0.Speed, .int .i64 a0.From, .int .i64 a0.To, .slice Aa0_6 a0.Stands.length ca0_6] 25 (0, 0))) :: F) := by
        rcases bool_cases (t2) with hb10 | hb10
        · replace heq := bif_true hb10 heq
          refine RunH.condT (c := t2) (by kernel_rfl) hb10 ?_
          refine RunH.adm 1 (es' := [.c [1, 1, 1, 0, 1, 0, 0], .c [1, 1, 1, 0, 1, 0, 1], .c [1, 1, 1, 1]]) (by kernel_rfl) ?_
          obtain ⟨t3, ht3, heq⟩ := bind_some heq
          have K4 : RunH C3 (S3 F H r) H w0 [.c [1, 1, 1, 0, 1, 0, 1], .c [1, 1, 1, 1]] [(8, .bool t3)] H (F) := by
            obtain rfl := Option.some.inj heq
            exact RunH.done (by kernel_rfl) Tryd.func3 (v := .bool t3) (by kernel_rfl) ⟨rfl, rfl, rfl⟩
          replace heq := ht3
          refine RunH.reg (by kernel_rfl) ?_
          refine RgH.runk 3 [76] (vs := []) (evs := []) (L' := [(76, .bool (y2.1 == 0))]) (by kernel_rfl) (by kernel_rfl) (fun _ _ => trivial) ?_
          rcases bool_cases (y2.1 == 0) with hb11 | hb11
          · replace heq := bif_true hb11 heq
            refine RgH.val1 (v' := .bool true) (congrArg Value.bool hb11) ?_
            obtain ⟨y3, hy3, heq⟩ := bind_some heq
            refine RgH.does (DoesH.call (d := 77) (g := 8) (args := (List.toArray [])) (by kernel_rfl) (smithyardlaw9_awake_c  hy3)) ?_
            rintro _ _ _ _ ⟨_, rfl, rfl, rfl, rfl⟩
            refine RgH.runk 6 [8] (vs := []) (evs := []) (L' := [(8, .bool y3)]) (by kernel_rfl) (by kernel_rfl) (fun _ _ => trivial) ?_
            obtain rfl := Option.some.inj heq
            refine RgH.keep [8] (L' := [(8, .bool y3)]) (by kernel_rfl) ?_
            refine RgH.pick 1 [] (cs' := F) (by kernel_rfl) rfl ?_
            refine RgH.done (by kernel_rfl) ?_
            exact K4
          · replace heq := bif_false hb11 heq
            refine RgH.val1 (v' := .bool false) (congrArg Value.bool hb11) ?_
            refine RgH.runk 6 [8] (vs := []) (evs := []) (L' := [(8, .bool false)]) (by kernel_rfl) (by kernel_rfl) (fun _ _ => trivial) ?_
            obtain rfl := Option.some.inj heq
            refine RgH.keep [8] (L' := [(8, .bool false)]) (by kernel_rfl) ?_
            refine RgH.pick 1 [] (cs' := F) (by kernel_rfl) rfl ?_
            refine RgH.done (by kernel_rfl) ?_
            exact K4
        · replace heq := bif_false hb10 heq
          refine RunH.condF (c := t2) (by kernel_rfl) hb10 ?_
          refine RunH.adm 2 (es' := [.c [1, 1, 1, 1, 0], .c [1, 1, 1, 1, 1]]) (by kernel_rfl) ?_
          refine RunH.reg (by kernel_rfl) ?_
          refine RgH.runk 6 [2, 4, 9, 80, 84, 85] (vs := [.string a0.Name, .slice Aa0_1 a0.Has.length ca0_1, .int .i64 a0.Slots, .int .i64 a0.Speed, .int .i64 a0.From, .int .i64 a0.To, .slice Aa0_6 a0.Stands.length ca0_6, .int .i64 a0.Speed]) (evs := [.load ⟨g1, 0, none⟩ (.string a0.Name), .load ⟨g1, 1, none⟩ (.slice Aa0_1 a0.Has.length ca0_1), .load ⟨g1, 2, none⟩ (.int .i64 a0.Slots), .load ⟨g1, 3, none⟩ (.int .i64 a0.Speed), .load ⟨g1, 4, none⟩ (.int .i64 a0.From), .load ⟨g1, 5, none⟩ (.int .i64 a0.To), .load ⟨g1, 6, none⟩ (.slice Aa0_6 a0.Stands.length ca0_6), .load ⟨g1, 3, none⟩ (.int .i64 a0.Speed)]) (L' := [(2, .int .i64 a2), (4, .pointer (some ⟨g1, 0, none⟩)), (9, .int .i64 y2.1), (80, .agg #[.string a0.Name, .slice Aa0_1 a0.Has.length ca0_1, .int .i64 a0.Slots, .int .i64 a0.Speed, .int .i64 a0.From, .int .i64 a0.To, .slice Aa0_6 a0.Stands.length ca0_6]), (84, .int .i64 (w64 (a1 * a0.Speed))), (85, .int .i64 a3)]) (by kernel_rfl) (by kernel_rfl) (fun w hh => ⟨(hh.box 0 rfl rfl), (hh.box 0 rfl rfl), (hh.box 0 rfl rfl), (hh.box 0 rfl rfl), (hh.box 0 rfl rfl), (hh.box 0 rfl rfl), (hh.box 0 rfl rfl), (hh.box 0 rfl rfl)⟩) ?_
          obtain ⟨y4, hy4, heq⟩ := bind_some heq
          refine RgH.does (DoesH.call (d := 86) (g := 9) (args := #[.agg #[.string a0.Name, .slice Aa0_1 a0.Has.length ca0_1, .int .i64 a0.Slots, .int .i64 a0.Speed, .int .i64 a0.From, .int .i64 a0.To, .slice Aa0_6 a0.Stands.length ca0_6], .int .i64 (w64 (a1 * a0.Speed)), .int .i64 a3]) (by kernel_rfl) (workers_Ends_c (a0 := a0) (a1 := w64 (a1 * a0.Speed)) (a2 := a3) (hra0_1.wk (fun _ h => (.tail _ h))) hca0_1 rfl (hra0_6.wk (fun _ h => (.tail _ h))) hca0_6 rfl hy4)) ?_
          rintro _ _ _ _ ⟨_, rfl, rfl, rfl, rfl⟩
          refine RgH.runk 14 [2, 4, 9, 10, 11, 12] (vs := []) (evs := []) (L' := [(2, .int .i64 a2), (4, .pointer (some ⟨g1, 0, none⟩)), (9, .int .i64 y2.1), (10, .bool y4.2.1), (11, .int .i64 y4.2.2), (12, .int .i64 y4.1)]) (by kernel_rfl) (by kernel_rfl) (fun _ _ => trivial) ?_
          refine RgH.done (by kernel_rfl) ?_
          refine RunH.adm 2 (es' := [.c [1, 1, 1, 1, 1, 0, 0], .c [1, 1, 1, 1, 1, 0, 1], .c [1, 1, 1, 1, 1, 1]]) (by kernel_rfl) ?_
          obtain ⟨t4, ht4, heq⟩ := bind_some heq
          have K5 : RunH C3 (S3 F H r) H w0 [.c [1, 1, 1, 1, 1, 0, 1], .c [1, 1, 1, 1, 1, 1]] [(2, .int .i64 a2), (4, .pointer (some ⟨g1, 0, none⟩)), (9, .int .i64 y2.1), (12, .int .i64 y4.1), (99, .bool t4)] H ((some (g1, .cells #[.string a0.Name, .slice Aa0_1 a0.Has.length ca0_1, .int .i64 a0.Slots, .int .i64 a0.Speed, .int .i64 a0.From, .int .i64 a0.To, .slice Aa0_6 a0.Stands.length ca0_6] 25 (0, 0))) :: F) := by
            rcases bool_cases (t4) with hb14 | hb14
            · replace heq := bif_true hb14 heq
              refine RunH.condT (c := t4) (by kernel_rfl) hb14 ?_
              refine RunH.adm 1 (es' := [.c [1, 1, 1, 1, 1, 0, 1, 0, 0], .c [1, 1, 1, 1, 1, 0, 1, 0, 1], .c [1, 1, 1, 1, 1, 1]]) (by kernel_rfl) ?_
              refine RunH.reg (by kernel_rfl) ?_
              refine RgH.runk 1 [8] (vs := []) (evs := []) (L' := [(8, .bool false)]) (by kernel_rfl) (by kernel_rfl) (fun _ _ => trivial) ?_
              refine RgH.done (by kernel_rfl) ?_
              obtain rfl := Option.some.inj heq
              refine RunH.pick 1 [] (cs' := F) (by kernel_rfl) rfl ?_
              exact RunH.done (by kernel_rfl) Tryd.func3 (v := .bool false) (by kernel_rfl) ⟨rfl, rfl, rfl⟩
            · replace heq := bif_false hb14 heq
              refine RunH.condF (c := t4) (by kernel_rfl) hb14 ?_
              refine RunH.adm 2 (es' := [.c [1, 1, 1, 1, 1, 1, 0], .c [1, 1, 1, 1, 1, 1, 1]]) (by kernel_rfl) ?_
              refine RunH.reg (by kernel_rfl) ?_
              refine RgH.runk 3 [9, 101, 102, 103] (vs := [.string a0.Name, .slice Aa0_1 a0.Has.length ca0_1, .int .i64 a0.Slots, .int .i64 a0.Speed, .int .i64 a0.From, .int .i64 a0.To, .slice Aa0_6 a0.Stands.length ca0_6]) (evs := [.load ⟨g1, 0, none⟩ (.string a0.Name), .load ⟨g1, 1, none⟩ (.slice Aa0_1 a0.Has.length ca0_1), .load ⟨g1, 2, none⟩ (.int .i64 a0.Slots), .load ⟨g1, 3, none⟩ (.int .i64 a0.Speed), .load ⟨g1, 4, none⟩ (.int .i64 a0.From), .load ⟨g1, 5, none⟩ (.int .i64 a0.To), .load ⟨g1, 6, none⟩ (.slice Aa0_6 a0.Stands.length ca0_6)]) (L' := [(9, .int .i64 y2.1), (101, .agg #[.string a0.Name, .slice Aa0_1 a0.Has.length ca0_1, .int .i64 a0.Slots, .int .i64 a0.Speed, .int .i64 a0.From, .int .i64 a0.To, .slice Aa0_6 a0.Stands.length ca0_6]), (102, .int .i64 a2), (103, .int .i64 y4.1)]) (by kernel_rfl) (by kernel_rfl) (fun w hh => ⟨(hh.box 0 rfl rfl), (hh.box 0 rfl rfl), (hh.box 0 rfl rfl), (hh.box 0 rfl rfl), (hh.box 0 rfl rfl), (hh.box 0 rfl rfl), (hh.box 0 rfl rfl)⟩) ?_
              obtain ⟨y6, hy6, heq⟩ := bind_some heq
              refine RgH.does (DoesH.call (d := 104) (g := 9) (args := #[.agg #[.string a0.Name, .slice Aa0_1 a0.Has.length ca0_1, .int .i64 a0.Slots, .int .i64 a0.Speed, .int .i64 a0.From, .int .i64 a0.To, .slice Aa0_6 a0.Stands.length ca0_6], .int .i64 a2, .int .i64 y4.1]) (by kernel_rfl) (workers_Ends_c (a0 := a0) (a1 := a2) (a2 := y4.1) (hra0_1.wk (fun _ h => (.tail _ h))) hca0_1 rfl (hra0_6.wk (fun _ h => (.tail _ h))) hca0_6 rfl hy6)) ?_
              rintro _ _ _ _ ⟨_, rfl, rfl, rfl, rfl⟩
              refine RgH.runk 11 [9, 10, 11, 13] (vs := []) (evs := []) (L' := [(9, .int .i64 y2.1), (10, .bool y6.2.1), (11, .int .i64 y6.2.2), (13, .int .i64 y6.1)]) (by kernel_rfl) (by kernel_rfl) (fun _ _ => trivial) ?_
              refine RgH.done (by kernel_rfl) ?_
              refine RunH.adm 1 (es' := [.c [1, 1, 1, 1, 1, 1, 1, 0], .c [1, 1, 1, 1, 1, 1, 1, 1]]) (by kernel_rfl) ?_
              obtain ⟨t5, ht5, heq⟩ := bind_some heq
              have K6 : RunH C3 (S3 F H r) H w0 [.c [1, 1, 1, 1, 1, 1, 1, 1]] [(8, .bool t5)] H (F) := by
                obtain rfl := Option.some.inj heq
                exact RunH.done (by kernel_rfl) Tryd.func3 (v := .bool t5) (by kernel_rfl) ⟨rfl, rfl, rfl⟩
              replace heq := ht5
              refine RunH.reg (by kernel_rfl) ?_
              refine RgH.runk 3 [110, 9, 10, 13] (vs := []) (evs := []) (L' := [(110, .bool (y6.2.2 == 0)), (9, .int .i64 y2.1), (10, .bool y6.2.1), (13, .int .i64 y6.1)]) (by kernel_rfl) (by kernel_rfl) (fun _ _ => trivial) ?_
              rcases bool_cases (y6.2.2 == 0) with hb15 | hb15
              · replace heq := bif_true hb15 heq
                refine RgH.val1 (v' := .bool true) (congrArg Value.bool hb15) ?_
                refine RgH.runk 6 [113, 9, 13] (vs := []) (evs := []) (L' := [(113, .bool y6.2.1), (9, .int .i64 y2.1), (13, .int .i64 y6.1)]) (by kernel_rfl) (by kernel_rfl) (fun _ _ => trivial) ?_
                rcases bool_cases (y6.2.1) with hb16 | hb16
                · replace heq := bif_true hb16 heq
                  refine RgH.val1 (v' := .bool true) (congrArg Value.bool hb16) ?_
                  refine RgH.runk 11 [8] (vs := []) (evs := []) (L' := [(8, .bool (y6.1 == y2.1))]) (by kernel_rfl) (by kernel_rfl) (fun _ _ => trivial) ?_
                  obtain rfl := Option.some.inj heq
                  refine RgH.keep [8] (L' := [(8, .bool (y6.1 == y2.1))]) (by kernel_rfl) ?_
                  refine RgH.pick 1 [] (cs' := F) (by kernel_rfl) rfl ?_
                  refine RgH.done (by kernel_rfl) ?_
                  exact K6
                · replace heq := bif_false hb16 heq
                  refine RgH.val1 (v' := .bool false) (congrArg Value.bool hb16) ?_
                  refine RgH.runk 11 [8] (vs := []) (evs := []) (L' := [(8, .bool false)]) (by kernel_rfl) (by kernel_rfl) (fun _ _ => trivial) ?_
                  obtain rfl := Option.some.inj heq
                  refine RgH.keep [8] (L' := [(8, .bool false)]) (by kernel_rfl) ?_
                  refine RgH.pick 1 [] (cs' := F) (by kernel_rfl) rfl ?_
                  refine RgH.done (by kernel_rfl) ?_
                  exact K6
              · replace heq := bif_false hb15 heq
                refine RgH.val1 (v' := .bool false) (congrArg Value.bool hb15) ?_
                refine RgH.runk 11 [8] (vs := []) (evs := []) (L' := [(8, .bool false)]) (by kernel_rfl) (by kernel_rfl) (fun _ _ => trivial) ?_
                obtain rfl := Option.some.inj heq
                refine RgH.keep [8] (L' := [(8, .bool false)]) (by kernel_rfl) ?_
                refine RgH.pick 1 [] (cs' := F) (by kernel_rfl) rfl ?_
                refine RgH.done (by kernel_rfl) ?_
                exact K6
          replace heq := ht4
          refine RunH.reg (by kernel_rfl) ?_
          refine RgH.runk 3 [92, 2, 4, 9, 10, 12] (vs := []) (evs := []) (L' := [(92, .bool (y4.2.2 != 0)), (2, .int .i64 a2), (4, .pointer (some ⟨g1, 0, none⟩)), (9, .int .i64 y2.1), (10, .bool y4.2.1), (12, .int .i64 y4.1)]) (by kernel_rfl) (by kernel_rfl) (fun _ _ => trivial) ?_
          rcases bool_cases (y4.2.2 != 0) with hb12 | hb12
          · replace heq := bif_true hb12 heq
            refine RgH.val1 (v' := .bool true) (congrArg Value.bool hb12) ?_
            refine RgH.runk 10 [2, 4, 9, 12, 99] (vs := []) (evs := []) (L' := [(2, .int .i64 a2), (4, .pointer (some ⟨g1, 0, none⟩)), (9, .int .i64 y2.1), (12, .int .i64 y4.1), (99, .bool true)]) (by kernel_rfl) (by kernel_rfl) (fun _ _ => trivial) ?_
            obtain rfl := Option.some.inj heq
            refine RgH.keep [2, 4, 9, 12, 99] (L' := [(2, .int .i64 a2), (4, .pointer (some ⟨g1, 0, none⟩)), (9, .int .i64 y2.1), (12, .int .i64 y4.1), (99, .bool true)]) (by kernel_rfl) ?_
            refine RgH.done (by kernel_rfl) ?_
            exact K5
          · replace heq := bif_false hb12 heq
            refine RgH.val1 (v' := .bool false) (congrArg Value.bool hb12) ?_
            refine RgH.runk 7 [96, 2, 4, 9, 12] (vs := []) (evs := []) (L' := [(96, .bool (!y4.2.1)), (2, .int .i64 a2), (4, .pointer (some ⟨g1, 0, none⟩)), (9, .int .i64 y2.1), (12, .int .i64 y4.1)]) (by kernel_rfl) (by kernel_rfl) (fun _ _ => trivial) ?_
            rcases bool_cases (!y4.2.1) with hb13 | hb13
            · replace heq := bif_true hb13 heq
              refine RgH.val1 (v' := .bool true) (congrArg Value.bool hb13) ?_
              refine RgH.runk 10 [2, 4, 9, 12, 99] (vs := []) (evs := []) (L' := [(2, .int .i64 a2), (4, .pointer (some ⟨g1, 0, none⟩)), (9, .int .i64 y2.1), (12, .int .i64 y4.1), (99, .bool true)]) (by kernel_rfl) (by kernel_rfl) (fun _ _ => trivial) ?_
              obtain rfl := Option.some.inj heq
              refine RgH.keep [2, 4, 9, 12, 99] (L' := [(2, .int .i64 a2), (4, .pointer (some ⟨g1, 0, none⟩)), (9, .int .i64 y2.1), (12, .int .i64 y4.1), (99, .bool true)]) (by kernel_rfl) ?_
              refine RgH.done (by kernel_rfl) ?_
              exact K5
            · replace heq := bif_false hb13 heq
              refine RgH.val1 (v' := .bool false) (congrArg Value.bool hb13) ?_
              obtain ⟨y5, hy5, heq⟩ := bind_some heq
              refine RgH.does (DoesH.call (d := 97) (g := 8) (args := (List.toArray [])) (by kernel_rfl) (smithyardlaw9_awake_c  hy5)) ?_
              rintro _ _ _ _ ⟨_, rfl, rfl, rfl, rfl⟩
              refine RgH.runk 10 [2, 4, 9, 12, 99] (vs := []) (evs := []) (L' := [(2, .int .i64 a2), (4, .pointer (some ⟨g1, 0, none⟩)), (9, .int .i64 y2.1), (12, .int .i64 y4.1), (99, .bool (!y5))]) (by kernel_rfl) (by kernel_rfl) (fun _ _ => trivial) ?_
              obtain rfl := Option.some.inj heq
              refine RgH.keep [2, 4, 9, 12, 99] (L' := [(2, .int .i64 a2), (4, .pointer (some ⟨g1, 0, none⟩)), (9, .int .i64 y2.1), (12, .int .i64 y4.1), (99, .bool (!y5))]) (by kernel_rfl) ?_
              refine RgH.done (by kernel_rfl) ?_
              exact K5
      replace heq := ht2
      refine RunH.reg (by kernel_rfl) ?_
      refine RgH.runk 3 [70, 1, 2, 3, 4, 9, 10] (vs := []) (evs := []) (L' := [(70, .bool (y2.2.2 != 0)), (1, .int .i64 a1), (2, .int .i64 a2), (3, .int .i64 a3), (4, .pointer (some ⟨g1, 0, none⟩)), (9, .int .i64 y2.1), (10, .bool y2.2.1)]) (by kernel_rfl) (by kernel_rfl) (fun _ _ => trivial) ?_
      rcases bool_cases (y2.2.2 != 0) with hb9 | hb9
      · replace heq := bif_true hb9 heq
        refine RgH.val1 (v' := .bool true) (congrArg Value.bool hb9) ?_
        refine RgH.runk 6 [1, 2, 3, 4, 9, 73] (vs := []) (evs := []) (L' := [(1, .int .i64 a1), (2, .int .i64 a2), (3, .int .i64 a3), (4, .pointer (some ⟨g1, 0, none⟩)), (9, .int .i64 y2.1), (73, .bool true)]) (by kernel_rfl) (by kernel_rfl) (fun _ _ => trivial) ?_
        obtain rfl := Option.some.inj heq
        refine RgH.keep [1, 2, 3, 4, 9, 73] (L' := [(1, .int .i64 a1), (2, .int .i64 a2), (3, .int .i64 a3), (4, .pointer (some ⟨g1, 0, none⟩)), (9, .int .i64 y2.1), (73, .bool true)]) (by kernel_rfl) ?_
        refine RgH.done (by kernel_rfl) ?_
        exact K3
      · replace heq := bif_false hb9 heq
        refine RgH.val1 (v' := .bool false) (congrArg Value.bool hb9) ?_
        refine RgH.runk 6 [1, 2, 3, 4, 9, 73] (vs := []) (evs := []) (L' := [(1, .int .i64 a1), (2, .int .i64 a2), (3, .int .i64 a3), (4, .pointer (some ⟨g1, 0, none⟩)), (9, .int .i64 y2.1), (73, .bool (!y2.2.1))]) (by kernel_rfl) (by kernel_rfl) (fun _ _ => trivial) ?_
        obtain rfl := Option.some.inj heq
        refine RgH.keep [1, 2, 3, 4, 9, 73] (L' := [(1, .int .i64 a1), (2, .int .i64 a2), (3, .int .i64 a3), (4, .pointer (some ⟨g1, 0, none⟩)), (9, .int .i64 y2.1), (73, .bool (!y2.2.1))]) (by kernel_rfl) ?_
        refine RgH.done (by kernel_rfl) ?_
        exact K3
  replace heq := ht1
  refine RunH.reg (by kernel_rfl) ?_
  refine RgH.runk 3 [16, 1, 2, 3, 4] (vs := []) (evs := []) (L' := [(16, .bool (decide (a1 < 1))), (1, .int .i64 a1), (2, .int .i64 a2), (3, .int .i64 a3), (4, .pointer (some ⟨g1, 0, none⟩))]) (by kernel_rfl) (by kernel_rfl) (fun _ _ => trivial) ?_
  rcases bool_cases (decide (a1 < 1)) with hb1 | hb1
  · replace heq := bif_true hb1 heq
    refine RgH.val1 (v' := .bool true) (congrArg Value.bool hb1) ?_
    refine RgH.runk 40 [1, 2, 3, 4, 53] (vs := []) (evs := []) (L' := [(1, .int .i64 a1), (2, .int .i64 a2), (3, .int .i64 a3), (4, .pointer (some ⟨g1, 0, none⟩)), (53, .bool true)]) (by kernel_rfl) (by kernel_rfl) (fun _ _ => trivial) ?_
    obtain rfl := Option.some.inj heq
    refine RgH.keep [1, 2, 3, 4, 53] (L' := [(1, .int .i64 a1), (2, .int .i64 a2), (3, .int .i64 a3), (4, .pointer (some ⟨g1, 0, none⟩)), (53, .bool true)]) (by kernel_rfl) ?_
    refine RgH.done (by kernel_rfl) ?_
    exact K2
  · replace heq := bif_false hb1 heq
    refine RgH.val1 (v' := .bool false) (congrArg Value.bool hb1) ?_
    refine RgH.runk 7 [20, 1, 2, 3, 4] (vs := []) (evs := []) (L' := [(20, .bool (decide (a2 < 1))), (1, .int .i64 a1), (2, .int .i64 a2), (3, .int .i64 a3), (4, .pointer (some ⟨g1, 0, none⟩))]) (by kernel_rfl) (by kernel_rfl) (fun _ _ => trivial) ?_
    rcases bool_cases (decide (a2 < 1)) with hb2 | hb2
    · replace heq := bif_true hb2 heq
      refine RgH.val1 (v' := .bool true) (congrArg Value.bool hb2) ?_
      refine RgH.runk 40 [1, 2, 3, 4, 53] (vs := []) (evs := []) (L' := [(1, .int .i64 a1), (2, .int .i64 a2), (3, .int .i64 a3), (4, .pointer (some ⟨g1, 0, none⟩)), (53, .bool true)]) (by kernel_rfl) (by kernel_rfl) (fun _ _ => trivial) ?_
      obtain rfl := Option.some.inj heq
      refine RgH.keep [1, 2, 3, 4, 53] (L' := [(1, .int .i64 a1), (2, .int .i64 a2), (3, .int .i64 a3), (4, .pointer (some ⟨g1, 0, none⟩)), (53, .bool true)]) (by kernel_rfl) ?_
      refine RgH.done (by kernel_rfl) ?_
      exact K2
    · replace heq := bif_false hb2 heq
      refine RgH.val1 (v' := .bool false) (congrArg Value.bool hb2) ?_
      refine RgH.runk 11 [24, 1, 2, 3, 4] (vs := []) (evs := []) (L' := [(24, .bool (decide (1000000 < a1))), (1, .int .i64 a1), (2, .int .i64 a2), (3, .int .i64 a3), (4, .pointer (some ⟨g1, 0, none⟩))]) (by kernel_rfl) (by kernel_rfl) (fun _ _ => trivial) ?_
      rcases bool_cases (decide (1000000 < a1)) with hb3 | hb3
      · replace heq := bif_true hb3 heq
        refine RgH.val1 (v' := .bool true) (congrArg Value.bool hb3) ?_
        refine RgH.runk 40 [1, 2, 3, 4, 53] (vs := []) (evs := []) (L' := [(1, .int .i64 a1), (2, .int .i64 a2), (3, .int .i64 a3), (4, .pointer (some ⟨g1, 0, none⟩)), (53, .bool true)]) (by kernel_rfl) (by kernel_rfl) (fun _ _ => trivial) ?_
        obtain rfl := Option.some.inj heq
        refine RgH.keep [1, 2, 3, 4, 53] (L' := [(1, .int .i64 a1), (2, .int .i64 a2), (3, .int .i64 a3), (4, .pointer (some ⟨g1, 0, none⟩)), (53, .bool true)]) (by kernel_rfl) ?_
        refine RgH.done (by kernel_rfl) ?_
        exact K2
      · replace heq := bif_false hb3 heq
        refine RgH.val1 (v' := .bool false) (congrArg Value.bool hb3) ?_
        refine RgH.runk 15 [28, 1, 2, 3, 4] (vs := []) (evs := []) (L' := [(28, .bool (decide (1000000 < a2))), (1, .int .i64 a1), (2, .int .i64 a2), (3, .int .i64 a3), (4, .pointer (some ⟨g1, 0, none⟩))]) (by kernel_rfl) (by kernel_rfl) (fun _ _ => trivial) ?_
        rcases bool_cases (decide (1000000 < a2)) with hb4 | hb4
        · replace heq := bif_true hb4 heq
          refine RgH.val1 (v' := .bool true) (congrArg Value.bool hb4) ?_
          refine RgH.runk 40 [1, 2, 3, 4, 53] (vs := []) (evs := []) (L' := [(1, .int .i64 a1), (2, .int .i64 a2), (3, .int .i64 a3), (4, .pointer (some ⟨g1, 0, none⟩)), (53, .bool true)]) (by kernel_rfl) (by kernel_rfl) (fun _ _ => trivial) ?_
          obtain rfl := Option.some.inj heq
          refine RgH.keep [1, 2, 3, 4, 53] (L' := [(1, .int .i64 a1), (2, .int .i64 a2), (3, .int .i64 a3), (4, .pointer (some ⟨g1, 0, none⟩)), (53, .bool true)]) (by kernel_rfl) ?_
          refine RgH.done (by kernel_rfl) ?_
          exact K2
        · replace heq := bif_false hb4 heq
          refine RgH.val1 (v' := .bool false) (congrArg Value.bool hb4) ?_
          refine RgH.runk 20 [33, 1, 2, 3, 4] (vs := [.int .i64 a0.Speed]) (evs := [.load ⟨g1, 3, none⟩ (.int .i64 a0.Speed)]) (L' := [(33, .bool (decide (a0.Speed < 1))), (1, .int .i64 a1), (2, .int .i64 a2), (3, .int .i64 a3), (4, .pointer (some ⟨g1, 0, none⟩))]) (by kernel_rfl) (by kernel_rfl) (fun w hh => (hh.box 0 rfl rfl)) ?_
          rcases bool_cases (decide (a0.Speed < 1)) with hb5 | hb5
          · replace heq := bif_true hb5 heq
            refine RgH.val1 (v' := .bool true) (congrArg Value.bool hb5) ?_
            refine RgH.runk 40 [1, 2, 3, 4, 53] (vs := []) (evs := []) (L' := [(1, .int .i64 a1), (2, .int .i64 a2), (3, .int .i64 a3), (4, .pointer (some ⟨g1, 0, none⟩)), (53, .bool true)]) (by kernel_rfl) (by kernel_rfl) (fun _ _ => trivial) ?_
            obtain rfl := Option.some.inj heq
            refine RgH.keep [1, 2, 3, 4, 53] (L' := [(1, .int .i64 a1), (2, .int .i64 a2), (3, .int .i64 a3), (4, .pointer (some ⟨g1, 0, none⟩)), (53, .bool true)]) (by kernel_rfl) ?_
            refine RgH.done (by kernel_rfl) ?_
            exact K2
          · replace heq := bif_false hb5 heq
            refine RgH.val1 (v' := .bool false) (congrArg Value.bool hb5) ?_
            refine RgH.runk 25 [38, 1, 2, 3, 4] (vs := [.int .i64 a0.Speed]) (evs := [.load ⟨g1, 3, none⟩ (.int .i64 a0.Speed)]) (L' := [(38, .bool (decide (1000 < a0.Speed))), (1, .int .i64 a1), (2, .int .i64 a2), (3, .int .i64 a3), (4, .pointer (some ⟨g1, 0, none⟩))]) (by kernel_rfl) (by kernel_rfl) (fun w hh => (hh.box 0 rfl rfl)) ?_
            rcases bool_cases (decide (1000 < a0.Speed)) with hb6 | hb6
            · replace heq := bif_true hb6 heq
              refine RgH.val1 (v' := .bool true) (congrArg Value.bool hb6) ?_
              refine RgH.runk 40 [1, 2, 3, 4, 53] (vs := []) (evs := []) (L' := [(1, .int .i64 a1), (2, .int .i64 a2), (3, .int .i64 a3), (4, .pointer (some ⟨g1, 0, none⟩)), (53, .bool true)]) (by kernel_rfl) (by kernel_rfl) (fun _ _ => trivial) ?_
              obtain rfl := Option.some.inj heq
              refine RgH.keep [1, 2, 3, 4, 53] (L' := [(1, .int .i64 a1), (2, .int .i64 a2), (3, .int .i64 a3), (4, .pointer (some ⟨g1, 0, none⟩)), (53, .bool true)]) (by kernel_rfl) ?_
              refine RgH.done (by kernel_rfl) ?_
              exact K2
            · replace heq := bif_false hb6 heq
              refine RgH.val1 (v' := .bool false) (congrArg Value.bool hb6) ?_
              refine RgH.runk 32 [45, 1, 2, 3, 4] (vs := [.int .i64 a0.Speed]) (evs := [.load ⟨g1, 3, none⟩ (.int .i64 a0.Speed)]) (L' := [(45, .bool (decide (1000000 < (w64 (a1 * a0.Speed))))), (1, .int .i64 a1), (2, .int .i64 a2), (3, .int .i64 a3), (4, .pointer (some ⟨g1, 0, none⟩))]) (by kernel_rfl) (by kernel_rfl) (fun w hh => (hh.box 0 rfl rfl)) ?_
              rcases bool_cases (decide (1000000 < (w64 (a1 * a0.Speed)))) with hb7 | hb7
              · replace heq := bif_true hb7 heq
                refine RgH.val1 (v' := .bool true) (congrArg Value.bool hb7) ?_
                refine RgH.runk 40 [1, 2, 3, 4, 53] (vs := []) (evs := []) (L' := [(1, .int .i64 a1), (2, .int .i64 a2), (3, .int .i64 a3), (4, .pointer (some ⟨g1, 0, none⟩)), (53, .bool true)]) (by kernel_rfl) (by kernel_rfl) (fun _ _ => trivial) ?_
                obtain rfl := Option.some.inj heq
                refine RgH.keep [1, 2, 3, 4, 53] (L' := [(1, .int .i64 a1), (2, .int .i64 a2), (3, .int .i64 a3), (4, .pointer (some ⟨g1, 0, none⟩)), (53, .bool true)]) (by kernel_rfl) ?_
                refine RgH.done (by kernel_rfl) ?_
                exact K2
              · replace heq := bif_false hb7 heq
                refine RgH.val1 (v' := .bool false) (congrArg Value.bool hb7) ?_
                refine RgH.runk 40 [1, 2, 3, 4, 53] (vs := [.int .i64 a0.Speed]) (evs := [.load ⟨g1, 3, none⟩ (.int .i64 a0.Speed)]) (L' := [(1, .int .i64 a1), (2, .int .i64 a2), (3, .int .i64 a3), (4, .pointer (some ⟨g1, 0, none⟩)), (53, .bool (decide (1000000 < (w64 ((w64 (a1 * a0.Speed)) + a2)))))]) (by kernel_rfl) (by kernel_rfl) (fun w hh => (hh.box 0 rfl rfl)) ?_
                obtain rfl := Option.some.inj heq
                refine RgH.keep [1, 2, 3, 4, 53] (L' := [(1, .int .i64 a1), (2, .int .i64 a2), (3, .int .i64 a3), (4, .pointer (some ⟨g1, 0, none⟩)), (53, .bool (decide (1000000 < (w64 ((w64 (a1 * a0.Speed)) + a2)))))]) (by kernel_rfl) ?_
                refine RgH.done (by kernel_rfl) ?_
                exact K2
noncomputable def C45 : Ctx := { P := Tryd.prog, f := 45, N := 8, c := bodyOf Tryd.f45 }
def S45 (F : List Ch) (H0 : Hp) (r : List Pair) (v : Value) (H : Hp) (cs : List Ch) : Prop := ∃ (A0 : Option Addr) (c0 : Nat) (ch0 : Ch), H0 = H ∧ v = .slice A0 r.length c0 ∧ ch0 :: F = cs ∧ SlOwn kPair 76 H A0 c0 r ch0
theorem slices_Clone_Pair_c {w0 : World} {H : Hp} {F : List Ch} {a0 : List Pair} {Aa0 : Option Addr} {na0 ca0 : Nat} {r : List Pair} (hra0 : Rw kPair H F Aa0 a0) (hca0 : na0 ≤ ca0) (hna0 : na0 = a0.length) (heq : slices_Clone_Pair.f a0 = some r) : CallsH Tryd.prog 45 #[.slice Aa0 na0 ca0] H w0 F (S45 F H r) := by
  refine calls_of_runH (F := C45) Tryd.func45 (by kernel_rfl) Tryd.ntmps45 (args := [.slice Aa0 na0 ca0]) (by kernel_rfl) ?_
  subst hna0
  unfold slices_Clone_Pair.f at heq
  obtain ⟨hn, heq⟩ := guard?_some heq
  obtain rfl := Option.some.inj heq
  refine RunH.adm 1 (es' := [.c [0], .c [1]]) (by kernel_rfl) ?_
  refine RunH.reg (by kernel_rfl) ?_
  refine RgH.runk 1 [0] (vs := []) (evs := []) (L' := [(0, .slice Aa0 a0.length ca0)]) (by kernel_rfl) (by kernel_rfl) (fun _ _ => trivial) ?_
  refine RgH.done (by kernel_rfl) ?_
  refine RunH.adm 2 (es' := [.c [1, 0, 0], .c [1, 0, 1], .c [1, 1]]) (by kernel_rfl) ?_
  refine RunH.reg (by kernel_rfl) ?_
  cases Aa0 with
  | none =>
    have h0 : a0 = [] := by
      cases a0 with
      | nil => rfl
      | cons x xs => obtain ⟨b, off, cs, e, fr, hA, _⟩ := hra0 (by simp); cases hA
    subst h0
    refine RgH.runk 2 [4] (vs := []) (evs := []) (L' := [(4, .bool true)]) (by kernel_rfl) (by kernel_rfl) (fun _ _ => trivial) ?_
    refine RgH.done (by kernel_rfl) ?_
    refine RunH.condT (c := true) (by kernel_rfl) rfl ?_
    refine RunH.adm 1 (es' := [.c [1, 0, 1, 0, 0], .c [1, 0, 1, 0, 1], .c [1, 1]]) (by kernel_rfl) ?_
    refine RunH.reg (by kernel_rfl) ?_
    refine RgH.runk 1 [2] (vs := []) (evs := []) (L' := [(2, .slice none 0 0)]) (by kernel_rfl) (by kernel_rfl) (fun _ _ => trivial) ?_
    refine RgH.done (by kernel_rfl) ?_
    refine RunH.nilc ?_
    exact RunH.done (by kernel_rfl) Tryd.func45 (v := .slice none ([] : List Pair).length 0) (by kernel_rfl) ⟨none, 0, none, rfl, rfl, rfl, SlOwn.nil⟩
  | some ad =>
    refine RgH.runk 2 [0, 4] (vs := []) (evs := []) (L' := [(0, .slice (some ad) a0.length ca0), (4, .bool false)]) (by kernel_rfl) (by kernel_rfl) (fun _ _ => trivial) ?_
    refine RgH.done (by kernel_rfl) ?_
    refine RunH.condF (c := false) (by kernel_rfl) rfl ?_
    refine RunH.adm 2 (es' := [.c [1, 1, 0], .c [1, 1, 1]]) (by kernel_rfl) ?_
    refine RunH.reg (by kernel_rfl) ?_
    refine RgH.does (DoesH.new (d := 5) (v := fun g => .slice (some ⟨g, 0, none⟩) 0 0) (o := fun g => .cells #[] 76 (0, 0)) (fun g => by kernel_rfl)) ?_
    rintro _ _ _ _ ⟨g, rfl, rfl, rfl⟩
    have ho : SlOwn kPair 76 H (some ⟨g, 0, none⟩) 0 ([] : List Pair) (some (g, .cells #[] 76 (0, 0))) := .inr ⟨g, 0, #[], rfl, rfl, by simp, by simp [maxLen], by simp, Kd.Rep.nil⟩
    refine RgH.runk 2 [5, 6] (vs := []) (evs := []) (L' := [(5, .slice (some ⟨g, 0, none⟩) 0 0), (6, .slice (some ad) a0.length ca0)]) (by kernel_rfl) (by kernel_rfl) (fun _ _ => trivial) ?_
    refine RgH.does (DoesH.append (d := 7) (k := 0) (t := 22) (e := 76) (bytes := 32) (kd := kPair) (n := 0) (m := a0.length) (xs := ([] : List Pair)) (ys := a0) (A := some ⟨g, 0, none⟩) (B := some ad) (c := 0) (cB := ca0) (by kernel_rfl) rfl rfl (by kernel_rfl) rfl ho (fun w hh => hra0.rdb (hh.drop 1)) (room_le hn) (by have := room_le hn; omega)) ?_
    rintro _ _ _ _ ⟨A1, c1, ch1, rfl, rfl, rfl, ho1⟩
    refine RgH.runk 4 [2] (vs := []) (evs := []) (L' := [(2, .slice A1 (([] : List Pair) ++ a0).length c1)]) (by kernel_rfl) (by kernel_rfl) (fun _ _ => trivial) ?_
    refine RgH.done (by kernel_rfl) ?_
    exact RunH.done (by kernel_rfl) Tryd.func45 (v := .slice A1 (([] : List Pair) ++ a0).length c1) (by kernel_rfl) ⟨A1, c1, ch1, rfl, rfl, rfl, ho1⟩
noncomputable def C46 : Ctx := { P := Tryd.prog, f := 46, N := 8, c := bodyOf Tryd.f46 }
def S46 (F : List Ch) (H0 : Hp) (r : List Span) (v : Value) (H : Hp) (cs : List Ch) : Prop := ∃ (A0 : Option Addr) (c0 : Nat) (ch0 : Ch), H0 = H ∧ v = .slice A0 r.length c0 ∧ ch0 :: F = cs ∧ SlOwn kSpan 79 H A0 c0 r ch0
theorem slices_Clone_Span_c {w0 : World} {H : Hp} {F : List Ch} {a0 : List Span} {Aa0 : Option Addr} {na0 ca0 : Nat} {r : List Span} (hra0 : Rw kSpan H F Aa0 a0) (hca0 : na0 ≤ ca0) (hna0 : na0 = a0.length) (heq : slices_Clone_Span.f a0 = some r) : CallsH Tryd.prog 46 #[.slice Aa0 na0 ca0] H w0 F (S46 F H r) := by
  refine calls_of_runH (F := C46) Tryd.func46 (by kernel_rfl) Tryd.ntmps46 (args := [.slice Aa0 na0 ca0]) (by kernel_rfl) ?_
  subst hna0
  unfold slices_Clone_Span.f at heq
  obtain ⟨hn, heq⟩ := guard?_some heq
  obtain rfl := Option.some.inj heq
  refine RunH.adm 1 (es' := [.c [0], .c [1]]) (by kernel_rfl) ?_
  refine RunH.reg (by kernel_rfl) ?_
  refine RgH.runk 1 [0] (vs := []) (evs := []) (L' := [(0, .slice Aa0 a0.length ca0)]) (by kernel_rfl) (by kernel_rfl) (fun _ _ => trivial) ?_
  refine RgH.done (by kernel_rfl) ?_
  refine RunH.adm 2 (es' := [.c [1, 0, 0], .c [1, 0, 1], .c [1, 1]]) (by kernel_rfl) ?_
  refine RunH.reg (by kernel_rfl) ?_
  cases Aa0 with
  | none =>
    have h0 : a0 = [] := by
      cases a0 with
      | nil => rfl
      | cons x xs => obtain ⟨b, off, cs, e, fr, hA, _⟩ := hra0 (by simp); cases hA
    subst h0
    refine RgH.runk 2 [4] (vs := []) (evs := []) (L' := [(4, .bool true)]) (by kernel_rfl) (by kernel_rfl) (fun _ _ => trivial) ?_
    refine RgH.done (by kernel_rfl) ?_
    refine RunH.condT (c := true) (by kernel_rfl) rfl ?_
    refine RunH.adm 1 (es' := [.c [1, 0, 1, 0, 0], .c [1, 0, 1, 0, 1], .c [1, 1]]) (by kernel_rfl) ?_
    refine RunH.reg (by kernel_rfl) ?_
    refine RgH.runk 1 [2] (vs := []) (evs := []) (L' := [(2, .slice none 0 0)]) (by kernel_rfl) (by kernel_rfl) (fun _ _ => trivial) ?_
    refine RgH.done (by kernel_rfl) ?_
    refine RunH.nilc ?_
    exact RunH.done (by kernel_rfl) Tryd.func46 (v := .slice none ([] : List Span).length 0) (by kernel_rfl) ⟨none, 0, none, rfl, rfl, rfl, SlOwn.nil⟩
  | some ad =>
    refine RgH.runk 2 [0, 4] (vs := []) (evs := []) (L' := [(0, .slice (some ad) a0.length ca0), (4, .bool false)]) (by kernel_rfl) (by kernel_rfl) (fun _ _ => trivial) ?_
    refine RgH.done (by kernel_rfl) ?_
    refine RunH.condF (c := false) (by kernel_rfl) rfl ?_
    refine RunH.adm 2 (es' := [.c [1, 1, 0], .c [1, 1, 1]]) (by kernel_rfl) ?_
    refine RunH.reg (by kernel_rfl) ?_
    refine RgH.does (DoesH.new (d := 5) (v := fun g => .slice (some ⟨g, 0, none⟩) 0 0) (o := fun g => .cells #[] 79 (0, 0)) (fun g => by kernel_rfl)) ?_
    rintro _ _ _ _ ⟨g, rfl, rfl, rfl⟩
    have ho : SlOwn kSpan 79 H (some ⟨g, 0, none⟩) 0 ([] : List Span) (some (g, .cells #[] 79 (0, 0))) := .inr ⟨g, 0, #[], rfl, rfl, by simp, by simp [maxLen], by simp, Kd.Rep.nil⟩
    refine RgH.runk 2 [5, 6] (vs := []) (evs := []) (L' := [(5, .slice (some ⟨g, 0, none⟩) 0 0), (6, .slice (some ad) a0.length ca0)]) (by kernel_rfl) (by kernel_rfl) (fun _ _ => trivial) ?_
    refine RgH.does (DoesH.append (d := 7) (k := 0) (t := 23) (e := 79) (bytes := 16) (kd := kSpan) (n := 0) (m := a0.length) (xs := ([] : List Span)) (ys := a0) (A := some ⟨g, 0, none⟩) (B := some ad) (c := 0) (cB := ca0) (by kernel_rfl) rfl rfl (by kernel_rfl) rfl ho (fun w hh => hra0.rdb (hh.drop 1)) (room_le hn) (by have := room_le hn; omega)) ?_
    rintro _ _ _ _ ⟨A1, c1, ch1, rfl, rfl, rfl, ho1⟩
    refine RgH.runk 4 [2] (vs := []) (evs := []) (L' := [(2, .slice A1 (([] : List Span) ++ a0).length c1)]) (by kernel_rfl) (by kernel_rfl) (fun _ _ => trivial) ?_
    refine RgH.done (by kernel_rfl) ?_
    exact RunH.done (by kernel_rfl) Tryd.func46 (v := .slice A1 (([] : List Span) ++ a0).length c1) (by kernel_rfl) ⟨A1, c1, ch1, rfl, rfl, rfl, ho1⟩
noncomputable def C10 : Ctx := { P := Tryd.prog, f := 10, N := 12, c := bodyOf Tryd.f10 }
def S10 (F : List Ch) (H0 : Hp) (r : Worker) (v : Value) (H : Hp) (cs : List Ch) : Prop := ∃ (A0_1 : Option Addr) (c0_1 : Nat) (ch0_1 : Ch) (A0_6 : Option Addr) (c0_6 : Nat) (ch0_6 : Ch), H0 = H ∧ v = .agg #[.string r.Name, .slice A0_1 r.Has.length c0_1, .int .i64 r.Slots, .int .i64 r.Speed, .int .i64 r.From, .int .i64 r.To, .slice A0_6 r.Stands.length c0_6] ∧ ch0_1 :: ch0_6 :: F = cs ∧ SlOwn kPair 76 H A0_1 c0_1 r.Has ch0_1 ∧ SlOwn kSpan 79 H A0_6 c0_6 r.Stands ch0_6
theorem smithyardref9_CopyWorker_c {w0 : World} {H : Hp} {F : List Ch} {a0 : Worker} {Aa0_1 : Option Addr} {na0_1 : Nat} {ca0_1 : Nat} {Aa0_6 : Option Addr} {na0_6 : Nat} {ca0_6 : Nat} {r : Worker} (hra0_1 : Rw kPair H F Aa0_1 a0.Has) (hca0_1 : na0_1 ≤ ca0_1) (hna0_1 : na0_1 = a0.Has.length) (hra0_6 : Rw kSpan H F Aa0_6 a0.Stands) (hca0_6 : na0_6 ≤ ca0_6) (hna0_6 : na0_6 = a0.Stands.length) (heq : smithyardref9_CopyWorker.f a0 = some r) : CallsH Tryd.prog 10 #[.agg #[.string a0.Name, .slice Aa0_1 na0_1 ca0_1, .int .i64 a0.Slots, .int .i64 a0.Speed, .int .i64 a0.From, .int .i64 a0.To, .slice Aa0_6 na0_6 ca0_6]] H w0 (F) (S10 F H r) := by
  refine calls_of_runH (F := C10) Tryd.func10 (by kernel_rfl) Tryd.ntmps10 (args := [.agg #[.string a0.Name, .slice Aa0_1 na0_1 ca0_1, .int .i64 a0.Slots, .int .i64 a0.Speed, .int .i64 a0.From, .int .i64 a0.To, .slice Aa0_6 na0_6 ca0_6]]) (by kernel_rfl) ?_
  subst hna0_1
  subst hna0_6
  unfold smithyardref9_CopyWorker.f at heq
  refine RunH.adm 1 (es' := [.c [0], .c [1]]) (by kernel_rfl) ?_
  refine RunH.reg (by kernel_rfl) ?_
  refine RgH.does (DoesH.new (d := 1) (v := fun g => .pointer (some ⟨g, 0, none⟩)) (o := fun g => .cells #[.string a0.Name, .slice Aa0_1 a0.Has.length ca0_1, .int .i64 a0.Slots, .int .i64 a0.Speed, .int .i64 a0.From, .int .i64 a0.To, .slice Aa0_6 a0.Stands.length ca0_6] 25 (0, 0)) (fun g => by kernel_rfl)) ?_
  rintro _ _ _ _ ⟨g1, rfl, rfl, rfl⟩
  refine RgH.does (DoesH.new (d := 2) (v := fun g => .pointer (some ⟨g, 0, none⟩)) (o := fun g => .cells #[.string ByteArray.empty, .slice none 0 0, .int .i64 0, .int .i64 0, .int .i64 0, .int .i64 0, .slice none 0 0] 25 (0, 0)) (fun g => by kernel_rfl)) ?_
  rintro _ _ _ _ ⟨g2, rfl, rfl, rfl⟩
  refine RgH.done (by kernel_rfl) ?_
  refine RunH.adm 1 (es' := [.c [1, 0], .c [1, 1]]) (by kernel_rfl) ?_
  refine RunH.keep [1, 2] (L' := [(1, .pointer (some ⟨g1, 0, none⟩)), (2, .pointer (some ⟨g2, 0, none⟩))]) (by kernel_rfl) ?_
  refine RunH.draw (fun w => Heap H w0 w ((some (g2, .cells #[.string ByteArray.empty, .slice none 0 0, .int .i64 0, .int .i64 0, .int .i64 0, .int .i64 0, .slice none 0 0] 25 (0, 0))) :: (some (g1, .cells #[.string a0.Name, .slice Aa0_1 a0.Has.length ca0_1, .int .i64 a0.Slots, .int .i64 a0.Speed, .int .i64 a0.From, .int .i64 a0.To, .slice Aa0_6 a0.Stands.length ca0_6] 25 (0, 0))) :: F)) (fun w => Heap H w0 w ((some (g2, .cells #[.string ByteArray.empty, .slice none 0 0, .int .i64 0, .int .i64 0, .int .i64 0, .int .i64 0, .slice none 0 0] 25 (0, 0))) :: F)) [false, false, false, false, false, false, false, true, true, true] (n := 10) (ls := [false, false, false, false, false, false, false, false, false, false]) (by kernel_rfl) (by kernel_rfl) (by kernel_rfl) rfl ?_
  refine DrH.run [0, 1, 3, 4] (m := 6) (ls' := [true, true, false, true, true, false, false, false, false, false]) (vs := [.slice Aa0_1 a0.Has.length ca0_1, .slice Aa0_6 a0.Stands.length ca0_6]) (evs := [.load ⟨g1, 1, none⟩ (.slice Aa0_1 a0.Has.length ca0_1), .load ⟨g1, 6, none⟩ (.slice Aa0_6 a0.Stands.length ca0_6)]) (L' := [(7, .slice Aa0_6 a0.Stands.length ca0_6), (6, .pointer (some ⟨g1, 6, none⟩)), (4, .slice Aa0_1 a0.Has.length ca0_1), (3, .pointer (some ⟨g1, 1, none⟩)), (1, .pointer (some ⟨g1, 0, none⟩)), (2, .pointer (some ⟨g2, 0, none⟩))]) (by kernel_rfl) (fun w hh => hh.pick 2 [0, 1] (by kernel_rfl)) (fun w hh => hh.pick 2 [0] (by kernel_rfl)) (by kernel_rfl) (fun w hh => ⟨(hh.box 1 rfl rfl), (hh.box 1 rfl rfl)⟩) (by kernel_rfl) ?_
  refine DrH.keep [1, 2, 4, 7] (L' := [(1, .pointer (some ⟨g1, 0, none⟩)), (2, .pointer (some ⟨g2, 0, none⟩)), (4, .slice Aa0_1 a0.Has.length ca0_1), (7, .slice Aa0_6 a0.Stands.length ca0_6)]) (by kernel_rfl) ?_
  obtain ⟨y1, hy1, heq⟩ := bind_some heq
  refine DrH.does (n := 5) (ls' := [true, true, true, true, true, false, false, false, false, false]) 2 (by kernel_rfl) rfl (DoesH.call (d := 5) (g := 45) (args := #[.slice Aa0_1 a0.Has.length ca0_1]) (by kernel_rfl) (slices_Clone_Pair_c (a0 := a0.Has) (hra0_1.wk (fun _ h => (.tail _ (.tail _ h)))) hca0_1 rfl hy1)) ?_
  rintro _ _ _ _ ⟨_, rfl, A1, c1, ch1, rfl, rfl, rfl, ho1⟩
  refine ⟨fun w hh => ⟨(fun w hh => hh.pick 3 [1] (by kernel_rfl)) w hh, fun _ => (fun w hh => hh.pick 3 [1, 2] (by kernel_rfl)) w hh⟩, ?_⟩
  refine DrH.run [6] (m := 4) (ls' := [true, true, true, true, true, false, true, false, false, false]) (vs := []) (evs := []) (L' := [(9, .pointer (some ⟨g1, 1, none⟩)), (5, .slice A1 y1.length c1), (1, .pointer (some ⟨g1, 0, none⟩)), (2, .pointer (some ⟨g2, 0, none⟩)), (4, .slice Aa0_1 a0.Has.length ca0_1), (7, .slice Aa0_6 a0.Stands.length ca0_6)]) (by kernel_rfl) (fun w hh => hh.pick 3 [1, 2] (by kernel_rfl)) (fun w hh => hh.pick 2 [0] (by kernel_rfl)) (by kernel_rfl) (fun _ _ => trivial) (by kernel_rfl) ?_
  refine DrH.keep [1, 2, 5, 7, 9] (L' := [(1, .pointer (some ⟨g1, 0, none⟩)), (2, .pointer (some ⟨g2, 0, none⟩)), (5, .slice A1 y1.length c1), (7, .slice Aa0_6 a0.Stands.length ca0_6), (9, .pointer (some ⟨g1, 1, none⟩))]) (by kernel_rfl) ?_
  obtain ⟨y2, hy2, heq⟩ := bind_some heq
  refine DrH.does (n := 3) (ls' := [true, true, true, true, true, true, true, false, false, false]) 5 (by kernel_rfl) rfl (DoesH.call (d := 8) (g := 46) (args := #[.slice Aa0_6 a0.Stands.length ca0_6]) (by kernel_rfl) (slices_Clone_Span_c (a0 := a0.Stands) (hra0_6.wk (fun _ h => (.tail _ (.tail _ (.tail _ h))))) hca0_6 rfl hy2)) ?_
  rintro _ _ _ _ ⟨_, rfl, A2, c2, ch2, rfl, rfl, rfl, ho2⟩
  refine ⟨fun w hh => ⟨(fun w hh => hh.pick 4 [2] (by kernel_rfl)) w hh, fun _ => (fun w hh => hh.pick 4 [2, 3] (by kernel_rfl)) w hh⟩, ?_⟩
  refine DrH.keep [1, 2, 5, 8, 9] (L' := [(1, .pointer (some ⟨g1, 0, none⟩)), (2, .pointer (some ⟨g2, 0, none⟩)), (5, .slice A1 y1.length c1), (8, .slice A2 y2.length c2), (9, .pointer (some ⟨g1, 1, none⟩))]) (by kernel_rfl) ?_
  refine DrH.does (n := 2) (ls' := [true, true, true, true, true, true, true, true, false, false]) 7 (by kernel_rfl) rfl (DoesH.store (k := 3) (g := g1) (off := 1) (v := .slice A1 y1.length c1) (cells' := #[.string a0.Name, .slice A1 y1.length c1, .int .i64 a0.Slots, .int .i64 a0.Speed, .int .i64 a0.From, .int .i64 a0.To, .slice Aa0_6 a0.Stands.length ca0_6]) (by kernel_rfl) rfl (by kernel_rfl) (by kernel_rfl)) ?_
  rintro _ _ _ _ ⟨rfl, rfl, rfl⟩
  refine ⟨fun w hh => ⟨(fun w hh => hh.pick 4 [2] (by kernel_rfl)) w hh, fun h => by cases h⟩, ?_⟩
  refine DrH.run2 [8] (m := 1) (ls' := [true, true, true, true, true, true, true, true, true, false]) (vs := []) (evs := []) (L' := [(10, .pointer (some ⟨g1, 6, none⟩)), (1, .pointer (some ⟨g1, 0, none⟩)), (2, .pointer (some ⟨g2, 0, none⟩)), (5, .slice A1 y1.length c1), (8, .slice A2 y2.length c2), (9, .pointer (some ⟨g1, 1, none⟩))]) (by kernel_rfl) (fun w hh => hh.pick 4 [2] (by kernel_rfl)) (by kernel_rfl) (fun _ _ => trivial) (by kernel_rfl) ?_
  refine DrH.keep [1, 2, 8, 10] (L' := [(1, .pointer (some ⟨g1, 0, none⟩)), (2, .pointer (some ⟨g2, 0, none⟩)), (8, .slice A2 y2.length c2), (10, .pointer (some ⟨g1, 6, none⟩))]) (by kernel_rfl) ?_
  refine DrH.does (n := 0) (ls' := [true, true, true, true, true, true, true, true, true, true]) 9 (by kernel_rfl) rfl (DoesH.store (k := 3) (g := g1) (off := 6) (v := .slice A2 y2.length c2) (cells' := #[.string a0.Name, .slice A1 y1.length c1, .int .i64 a0.Slots, .int .i64 a0.Speed, .int .i64 a0.From, .int .i64 a0.To, .slice A2 y2.length c2]) (by kernel_rfl) rfl (by kernel_rfl) (by kernel_rfl)) ?_
  rintro _ _ _ _ ⟨rfl, rfl, rfl⟩
  refine ⟨fun w hh => ⟨(fun w hh => hh.pick 4 [2] (by kernel_rfl)) w hh, fun h => by cases h⟩, ?_⟩
  refine DrH.keep [1, 2] (L' := [(1, .pointer (some ⟨g1, 0, none⟩)), (2, .pointer (some ⟨g2, 0, none⟩))]) (by kernel_rfl) ?_
  refine DrH.done (by kernel_rfl) ?_
  refine RunH.adm 1 (es' := [.c [1, 1, 0], .c [1, 1, 1]]) (by kernel_rfl) ?_
  refine RunH.reg (by kernel_rfl) ?_
  refine RgH.runk 1 [2, 11] (vs := [.string a0.Name, .slice A1 y1.length c1, .int .i64 a0.Slots, .int .i64 a0.Speed, .int .i64 a0.From, .int .i64 a0.To, .slice A2 y2.length c2]) (evs := [.load ⟨g1, 0, none⟩ (.string a0.Name), .load ⟨g1, 1, none⟩ (.slice A1 y1.length c1), .load ⟨g1, 2, none⟩ (.int .i64 a0.Slots), .load ⟨g1, 3, none⟩ (.int .i64 a0.Speed), .load ⟨g1, 4, none⟩ (.int .i64 a0.From), .load ⟨g1, 5, none⟩ (.int .i64 a0.To), .load ⟨g1, 6, none⟩ (.slice A2 y2.length c2)]) (L' := [(2, .pointer (some ⟨g2, 0, none⟩)), (11, .agg #[.string a0.Name, .slice A1 y1.length c1, .int .i64 a0.Slots, .int .i64 a0.Speed, .int .i64 a0.From, .int .i64 a0.To, .slice A2 y2.length c2])]) (by kernel_rfl) (by kernel_rfl) (fun w hh => ⟨(hh.box 3 rfl rfl), (hh.box 3 rfl rfl), (hh.box 3 rfl rfl), (hh.box 3 rfl rfl), (hh.box 3 rfl rfl), (hh.box 3 rfl rfl), (hh.box 3 rfl rfl)⟩) ?_
  refine RgH.does (DoesH.store (k := 2) (g := g2) (off := 0) (v := .agg #[.string a0.Name, .slice A1 y1.length c1, .int .i64 a0.Slots, .int .i64 a0.Speed, .int .i64 a0.From, .int .i64 a0.To, .slice A2 y2.length c2]) (cells' := #[.string a0.Name, .slice A1 y1.length c1, .int .i64 a0.Slots, .int .i64 a0.Speed, .int .i64 a0.From, .int .i64 a0.To, .slice A2 y2.length c2]) (by kernel_rfl) rfl (by kernel_rfl) (by kernel_rfl)) ?_
  rintro _ _ _ _ ⟨rfl, rfl, rfl⟩
  refine RgH.done (by kernel_rfl) ?_
  obtain rfl := Option.some.inj heq
  refine RunH.pick 4 [2, 1, 0] (cs' := (some (g2, .cells #[.string a0.Name, .slice A1 y1.length c1, .int .i64 a0.Slots, .int .i64 a0.Speed, .int .i64 a0.From, .int .i64 a0.To, .slice A2 y2.length c2] 25 (0, 0))) :: ch1 :: ch2 :: F) (by kernel_rfl) rfl ?_
  exact RunH.doneM' 1 (vs := [.agg #[.string a0.Name, .slice A1 y1.length c1, .int .i64 a0.Slots, .int .i64 a0.Speed, .int .i64 a0.From, .int .i64 a0.To, .slice A2 y2.length c2]]) (v := .agg #[.string a0.Name, .slice A1 y1.length c1, .int .i64 a0.Slots, .int .i64 a0.Speed, .int .i64 a0.From, .int .i64 a0.To, .slice A2 y2.length c2]) (by kernel_rfl) Tryd.func10 (fun w hh => show ResAll _ _ _ [.cell 2 25] _ from ⟨⟨⟨g2, 0, none⟩, by kernel_rfl, trS_run _ (vs := [.string a0.Name, .slice A1 y1.length c1, .int .i64 a0.Slots, .int .i64 a0.Speed, .int .i64 a0.From, .int .i64 a0.To, .slice A2 y2.length c2]) (r := []) (es := [.load ⟨g2, 0, none⟩ (.string a0.Name), .load ⟨g2, 1, none⟩ (.slice A1 y1.length c1), .load ⟨g2, 2, none⟩ (.int .i64 a0.Slots), .load ⟨g2, 3, none⟩ (.int .i64 a0.Speed), .load ⟨g2, 4, none⟩ (.int .i64 a0.From), .load ⟨g2, 5, none⟩ (.int .i64 a0.To), .load ⟨g2, 6, none⟩ (.slice A2 y2.length c2)]) (by kernel_rfl) ⟨(hh.box 0 rfl rfl), (hh.box 0 rfl rfl), (hh.box 0 rfl rfl), (hh.box 0 rfl rfl), (hh.box 0 rfl rfl), (hh.box 0 rfl rfl), (hh.box 0 rfl rfl)⟩⟩, trivial⟩) rfl (cs' := ch1 :: ch2 :: F) rfl ⟨A1, c1, ch1, A2, c2, ch2, rfl, rfl, rfl, ho1, ho2⟩
noncomputable def C49 : Ctx := { P := Tryd.prog, f := 49, N := 15, c := bodyOf Tryd.f49 }
def S49 (F : List Ch) (H0 : Hp) (r : Bool) (v : Value) (H : Hp) (cs : List Ch) : Prop := H0 = H ∧ v = .bool r ∧ F = cs
theorem smithyardref9_within_c {w0 : World} {H : Hp} {F : List Ch} {a0 : Int} {a1 : Int} {a2 : Int} {r : Bool} (heq : smithyardref9_within.f a0 a1 a2 = some r) : CallsH Tryd.prog 49 #[.int .i64 a0, .int .i64 a1, .int .i64 a2] H w0 (F) (S49 F H r) := by
  refine calls_of_runH (F := C49) Tryd.func49 (by kernel_rfl) Tryd.ntmps49 (args := [.int .i64 a0, .int .i64 a1, .int .i64 a2]) (by kernel_rfl) ?_
  unfold smithyardref9_within.f at heq
  refine RunH.adm 1 (es' := [.c [0], .c [1]]) (by kernel_rfl) ?_
  refine RunH.reg (by kernel_rfl) ?_
  refine RgH.runk 1 [0, 1, 2] (vs := []) (evs := []) (L' := [(0, .int .i64 a0), (1, .int .i64 a1), (2, .int .i64 a2)]) (by kernel_rfl) (by kernel_rfl) (fun _ _ => trivial) ?_
  refine RgH.done (by kernel_rfl) ?_
  refine RunH.adm 1 (es' := [.c [1, 0], .c [1, 1]]) (by kernel_rfl) ?_
  obtain ⟨t1, ht1, heq⟩ := bind_some heq
  have K1 : RunH C49 (S49 F H r) H w0 [.c [1, 1]] [(6, .bool t1)] H (F) := by
    obtain rfl := Option.some.inj heq
    exact RunH.done (by kernel_rfl) Tryd.func49 (v := .bool t1) (by kernel_rfl) ⟨rfl, rfl, rfl⟩
  replace heq := ht1
  refine RunH.reg (by kernel_rfl) ?_
  refine RgH.runk 4 [10, 0, 2] (vs := []) (evs := []) (L' := [(10, .bool (decide (a1 ≤ a0))), (0, .int .i64 a0), (2, .int .i64 a2)]) (by kernel_rfl) (by kernel_rfl) (fun _ _ => trivial) ?_
  rcases bool_cases (decide (a1 ≤ a0)) with hb1 | hb1
  · replace heq := bif_true hb1 heq
    refine RgH.val1 (v' := .bool true) (congrArg Value.bool hb1) ?_
    refine RgH.runk 9 [6] (vs := []) (evs := []) (L' := [(6, .bool (decide (a0 ≤ a2)))]) (by kernel_rfl) (by kernel_rfl) (fun _ _ => trivial) ?_
    obtain rfl := Option.some.inj heq
    refine RgH.keep [6] (L' := [(6, .bool (decide (a0 ≤ a2)))]) (by kernel_rfl) ?_
    refine RgH.done (by kernel_rfl) ?_
    exact K1
  · replace heq := bif_false hb1 heq
    refine RgH.val1 (v' := .bool false) (congrArg Value.bool hb1) ?_
    refine RgH.runk 9 [6] (vs := []) (evs := []) (L' := [(6, .bool false)]) (by kernel_rfl) (by kernel_rfl) (fun _ _ => trivial) ?_
    obtain rfl := Option.some.inj heq
    refine RgH.keep [6] (L' := [(6, .bool false)]) (by kernel_rfl) ?_
    refine RgH.done (by kernel_rfl) ?_
    exact K1
noncomputable def C55 : Ctx := { P := Tryd.prog, f := 55, N := 50, c := bodyOf Tryd.f55 }
def S55 (F : List Ch) (H0 : Hp) (r : Bool) (v : Value) (H : Hp) (cs : List Ch) : Prop := H0 = H ∧ v = .bool r ∧ F = cs
theorem smithyardref9_isWord.e1_c {w0 : World} {H : Hp} {F : List Ch} {r : Bool} : smithyardref9_isWord.e1 = some r → RunH C55 (S55 F H r) H w0 [.c [1, 1, 1, 0], .c [1, 1, 1, 1]] [] H (F) := by
  intro   heq
  unfold smithyardref9_isWord.e1 at heq
  refine RunH.reg (by kernel_rfl) ?_
  refine RgH.runk 1 [2] (vs := []) (evs := []) (L' := [(2, .bool true)]) (by kernel_rfl) (by kernel_rfl) (fun _ _ => trivial) ?_
  refine RgH.done (by kernel_rfl) ?_
  obtain rfl := Option.some.inj heq
  exact RunH.done (by kernel_rfl) Tryd.func55 (v := .bool true) (by kernel_rfl) ⟨rfl, rfl, rfl⟩
theorem smithyardref9_isWord.l2_c {w0 : World} {H : Hp} {F : List Ch} {r : Bool} (e1 : Option Bool)
    (he1 : e1 = some r → RunH C55 (S55 F H r) H w0 [.c [1, 1, 1, 0], .c [1, 1, 1, 1]] [] H (F)) : ∀ (k : Nat), ∀ (a0 : ByteArray) (v21 : Int) , smithyardref9_isWord.l2 e1 k a0 v21 = some r → RunH C55 (S55 F H r) H w0 [.c [1, 1, 0, 1, 0, 0], .l [1, 1, 0, 1, 0, 0], .b 0, .c [1, 1, 1]] [(0, .string a0), (20, .int .i64 (a0.size : Int)), (21, .int .i64 v21)] H (F) := by
  intro k
  induction k with
  | zero => intro a0 v21  heq; exact nomatch (show (none : Option Bool) = some r from heq)
  | succ k ihk =>
    intro a0 v21  heq
    rw [smithyardref9_isWord.l2] at heq
    refine RunH.adm 1 (es' := [.c [1, 1, 0, 1, 0, 0, 0], .c [1, 1, 0, 1, 0, 0, 1], .l [1, 1, 0, 1, 0, 0], .b 0, .c [1, 1, 1]]) (by kernel_rfl) ?_
    refine RunH.reg (by kernel_rfl) ?_
    refine RgH.runk 1 [0, 20, 21, 22] (vs := []) (evs := []) (L' := [(0, .string a0), (20, .int .i64 (a0.size : Int)), (21, .int .i64 v21), (22, .bool (decide (v21 < (a0.size : Int))))]) (by kernel_rfl) (by kernel_rfl) (fun _ _ => trivial) ?_
    refine RgH.done (by kernel_rfl) ?_
    refine RunH.adm 1 (es' := [.c [1, 1, 0, 1, 0, 0, 1, 0], .c [1, 1, 0, 1, 0, 0, 1, 1], .l [1, 1, 0, 1, 0, 0], .b 0, .c [1, 1, 1]]) (by kernel_rfl) ?_
    rcases bool_cases (decide (v21 < (a0.size : Int))) with hb4 | hb4
    · replace heq := bif_true hb4 heq
      refine RunH.condT (c := decide (v21 < (a0.size : Int))) (by kernel_rfl) hb4 ?_
      refine RunH.adm 4 (es' := [.c [1, 1, 0, 1, 0, 0, 1, 1, 0, 0, 0], .c [1, 1, 0, 1, 0, 0, 1, 1, 0, 0, 1], .b 1, .c [1, 1, 0, 1, 0, 0, 1, 1, 1], .l [1, 1, 0, 1, 0, 0], .b 0, .c [1, 1, 1]]) (by kernel_rfl) ?_
      refine RunH.reg (by kernel_rfl) ?_
      refine RgH.runk 2 [0, 3, 20, 21] (vs := []) (evs := []) (L' := [(0, .string a0), (3, .int .i64 v21), (20, .int .i64 (a0.size : Int)), (21, .int .i64 v21)]) (by kernel_rfl) (by kernel_rfl) (fun _ _ => trivial) ?_
      refine RgH.done (by kernel_rfl) ?_
      refine RunH.adm 1 (es' := [.c [1, 1, 0, 1, 0, 0, 1, 1, 0, 0, 1, 0], .c [1, 1, 0, 1, 0, 0, 1, 1, 0, 0, 1, 1], .b 1, .c [1, 1, 0, 1, 0, 0, 1, 1, 1], .l [1, 1, 0, 1, 0, 0], .b 0, .c [1, 1, 1]]) (by kernel_rfl) ?_
      refine RunH.reg (by kernel_rfl) ?_
      obtain ⟨hn3, heq⟩ := guard?_some heq
      refine RgH.runk 4 [0, 4, 20, 21] (vs := []) (evs := [.need ((0 : Int) ≤ v21 ∧ v21 < (a0.size : Int))]) (L' := [(0, .string a0), (4, .int .u8 (bt a0 v21)), (20, .int .i64 (a0.size : Int)), (21, .int .i64 v21)]) (by kernel_rfl) (by kernel_rfl) (fun w hh => (both_of hn3)) ?_
      refine RgH.done (by kernel_rfl) ?_
      refine RunH.adm 1 (es' := [.c [1, 1, 0, 1, 0, 0, 1, 1, 0, 0, 1, 1, 0], .c [1, 1, 0, 1, 0, 0, 1, 1, 0, 0, 1, 1, 1], .b 1, .c [1, 1, 0, 1, 0, 0, 1, 1, 1], .l [1, 1, 0, 1, 0, 0], .b 0, .c [1, 1, 1]]) (by kernel_rfl) ?_
      obtain ⟨t2, ht2, heq⟩ := bind_some heq
      have K2 : RunH C55 (S55 F H r) H w0 [.c [1, 1, 0, 1, 0, 0, 1, 1, 0, 0, 1, 1, 1], .b 1, .c [1, 1, 0, 1, 0, 0, 1, 1, 1], .l [1, 1, 0, 1, 0, 0], .b 0, .c [1, 1, 1]] [(0, .string a0), (20, .int .i64 (a0.size : Int)), (21, .int .i64 v21), (48, .bool t2)] H (F) := by
        rcases bool_cases (t2) with hb15 | hb15
        · replace heq := bif_true hb15 heq
          refine RunH.condT (c := t2) (by kernel_rfl) hb15 ?_
          refine RunH.adm 1 (es' := [.c [1, 1, 0, 1, 0, 0, 1, 1, 0, 0, 1, 1, 1, 0, 0], .c [1, 1, 0, 1, 0, 0, 1, 1, 0, 0, 1, 1, 1, 0, 1], .b 1, .c [1, 1, 0, 1, 0, 0, 1, 1, 1], .l [1, 1, 0, 1, 0, 0], .b 0, .c [1, 1, 1]]) (by kernel_rfl) ?_
          refine RunH.reg (by kernel_rfl) ?_
          refine RgH.runk 1 [2] (vs := []) (evs := []) (L' := [(2, .bool false)]) (by kernel_rfl) (by kernel_rfl) (fun _ _ => trivial) ?_
          refine RgH.done (by kernel_rfl) ?_
          obtain rfl := Option.some.inj heq
          exact RunH.done (by kernel_rfl) Tryd.func55 (v := .bool false) (by kernel_rfl) ⟨rfl, rfl, rfl⟩
        · replace heq := bif_false hb15 heq
          refine RunH.condF (c := t2) (by kernel_rfl) hb15 ?_
          refine RunH.adm 2 (es' := [.c [1, 1, 0, 1, 0, 0, 1, 1, 1], .l [1, 1, 0, 1, 0, 0], .b 0, .c [1, 1, 1]]) (by kernel_rfl) ?_
          refine RunH.reg (by kernel_rfl) ?_
          refine RgH.runk 2 [0, 20, 21] (vs := []) (evs := []) (L' := [(0, .string a0), (20, .int .i64 (a0.size : Int)), (21, .int .i64 (w64 (v21 + 1)))]) (by kernel_rfl) (by kernel_rfl) (fun _ _ => trivial) ?_
          refine RgH.done (by kernel_rfl) ?_
          refine RunH.adm 1 (es' := [.c [1, 1, 0, 1, 0, 0], .l [1, 1, 0, 1, 0, 0], .b 0, .c [1, 1, 1]]) (by kernel_rfl) ?_
          refine RunH.keep [0, 20, 21] (L' := [(0, .string a0), (20, .int .i64 (a0.size : Int)), (21, .int .i64 (w64 (v21 + 1)))]) (by kernel_rfl) ?_
          exact ihk a0 (w64 (v21 + 1)) heq
      replace heq := ht2
      refine RunH.reg (by kernel_rfl) ?_
      refine RgH.runk 3 [29, 0, 4, 20, 21] (vs := []) (evs := []) (L' := [(29, .bool (decide ((bt a0 v21) < 97))), (0, .string a0), (4, .int .u8 (bt a0 v21)), (20, .int .i64 (a0.size : Int)), (21, .int .i64 v21)]) (by kernel_rfl) (by kernel_rfl) (fun _ _ => trivial) ?_
      rcases bool_cases (decide ((bt a0 v21) < 97)) with hb5 | hb5
      · replace heq := bif_true hb5 heq
        refine RgH.val1 (v' := .bool true) (congrArg Value.bool hb5) ?_
        refine RgH.runk 10 [36, 0, 4, 20, 21, 33] (vs := []) (evs := []) (L' := [(36, .bool (decide ((bt a0 v21) < 48))), (0, .string a0), (4, .int .u8 (bt a0 v21)), (20, .int .i64 (a0.size : Int)), (21, .int .i64 v21), (33, .bool true)]) (by kernel_rfl) (by kernel_rfl) (fun _ _ => trivial) ?_
        rcases bool_cases (decide ((bt a0 v21) < 48)) with hb6 | hb6
        · replace heq := bif_true hb6 heq
          refine RgH.val1 (v' := .bool true) (congrArg Value.bool hb6) ?_
          refine RgH.runk 19 [45, 0, 4, 20, 21] (vs := []) (evs := []) (L' := [(45, .bool ((bt a0 v21) != 45)), (0, .string a0), (4, .int .u8 (bt a0 v21)), (20, .int .i64 (a0.size : Int)), (21, .int .i64 v21)]) (by kernel_rfl) (by kernel_rfl) (fun _ _ => trivial) ?_
          rcases bool_cases ((bt a0 v21) != 45) with hb7 | hb7
          · replace heq := bif_true hb7 heq
            refine RgH.val1 (v' := .bool true) (congrArg Value.bool hb7) ?_
            refine RgH.runk 22 [0, 20, 21, 48] (vs := []) (evs := []) (L' := [(0, .string a0), (20, .int .i64 (a0.size : Int)), (21, .int .i64 v21), (48, .bool ((bt a0 v21) != 95))]) (by kernel_rfl) (by kernel_rfl) (fun _ _ => trivial) ?_
            obtain rfl := Option.some.inj heq
            refine RgH.keep [0, 20, 21, 48] (L' := [(0, .string a0), (20, .int .i64 (a0.size : Int)), (21, .int .i64 v21), (48, .bool ((bt a0 v21) != 95))]) (by kernel_rfl) ?_
            refine RgH.done (by kernel_rfl) ?_
            exact K2
          · replace heq := bif_false hb7 heq
            refine RgH.val1 (v' := .bool false) (congrArg Value.bool hb7) ?_
            refine RgH.runk 22 [0, 20, 21, 48] (vs := []) (evs := []) (L' := [(0, .string a0), (20, .int .i64 (a0.size : Int)), (21, .int .i64 v21), (48, .bool false)]) (by kernel_rfl) (by kernel_rfl) (fun _ _ => trivial) ?_
            obtain rfl := Option.some.inj heq
            refine RgH.keep [0, 20, 21, 48] (L' := [(0, .string a0), (20, .int .i64 (a0.size : Int)), (21, .int .i64 v21), (48, .bool false)]) (by kernel_rfl) ?_
            refine RgH.done (by kernel_rfl) ?_
            exact K2
        · replace heq := bif_false hb6 heq
          refine RgH.val1 (v' := .bool false) (congrArg Value.bool hb6) ?_
          refine RgH.runk 15 [41, 0, 4, 20, 21] (vs := []) (evs := []) (L' := [(41, .bool (decide (57 < (bt a0 v21)))), (0, .string a0), (4, .int .u8 (bt a0 v21)), (20, .int .i64 (a0.size : Int)), (21, .int .i64 v21)]) (by kernel_rfl) (by kernel_rfl) (fun _ _ => trivial) ?_
          rcases bool_cases (decide (57 < (bt a0 v21))) with hb8 | hb8
          · replace heq := bif_true hb8 heq
            refine RgH.val1 (v' := .bool true) (congrArg Value.bool hb8) ?_
            refine RgH.runk 19 [45, 0, 4, 20, 21] (vs := []) (evs := []) (L' := [(45, .bool ((bt a0 v21) != 45)), (0, .string a0), (4, .int .u8 (bt a0 v21)), (20, .int .i64 (a0.size : Int)), (21, .int .i64 v21)]) (by kernel_rfl) (by kernel_rfl) (fun _ _ => trivial) ?_
            rcases bool_cases ((bt a0 v21) != 45) with hb9 | hb9
            · replace heq := bif_true hb9 heq
              refine RgH.val1 (v' := .bool true) (congrArg Value.bool hb9) ?_
              refine RgH.runk 22 [0, 20, 21, 48] (vs := []) (evs := []) (L' := [(0, .string a0), (20, .int .i64 (a0.size : Int)), (21, .int .i64 v21), (48, .bool ((bt a0 v21) != 95))]) (by kernel_rfl) (by kernel_rfl) (fun _ _ => trivial) ?_
              obtain rfl := Option.some.inj heq
              refine RgH.keep [0, 20, 21, 48] (L' := [(0, .string a0), (20, .int .i64 (a0.size : Int)), (21, .int .i64 v21), (48, .bool ((bt a0 v21) != 95))]) (by kernel_rfl) ?_
              refine RgH.done (by kernel_rfl) ?_
              exact K2
            · replace heq := bif_false hb9 heq
              refine RgH.val1 (v' := .bool false) (congrArg Value.bool hb9) ?_
              refine RgH.runk 22 [0, 20, 21, 48] (vs := []) (evs := []) (L' := [(0, .string a0), (20, .int .i64 (a0.size : Int)), (21, .int .i64 v21), (48, .bool false)]) (by kernel_rfl) (by kernel_rfl) (fun _ _ => trivial) ?_
              obtain rfl := Option.some.inj heq
              refine RgH.keep [0, 20, 21, 48] (L' := [(0, .string a0), (20, .int .i64 (a0.size : Int)), (21, .int .i64 v21), (48, .bool false)]) (by kernel_rfl) ?_
              refine RgH.done (by kernel_rfl) ?_
              exact K2
          · replace heq := bif_false hb8 heq
            refine RgH.val1 (v' := .bool false) (congrArg Value.bool hb8) ?_
            refine RgH.runk 22 [0, 20, 21, 48] (vs := []) (evs := []) (L' := [(0, .string a0), (20, .int .i64 (a0.size : Int)), (21, .int .i64 v21), (48, .bool false)]) (by kernel_rfl) (by kernel_rfl) (fun _ _ => trivial) ?_
            obtain rfl := Option.some.inj heq
            refine RgH.keep [0, 20, 21, 48] (L' := [(0, .string a0), (20, .int .i64 (a0.size : Int)), (21, .int .i64 v21), (48, .bool false)]) (by kernel_rfl) ?_
            refine RgH.done (by kernel_rfl) ?_
            exact K2
      · replace heq := bif_false hb5 heq
        refine RgH.val1 (v' := .bool false) (congrArg Value.bool hb5) ?_
        refine RgH.runk 7 [33, 0, 4, 20, 21] (vs := []) (evs := []) (L' := [(33, .bool (decide (122 < (bt a0 v21)))), (0, .string a0), (4, .int .u8 (bt a0 v21)), (20, .int .i64 (a0.size : Int)), (21, .int .i64 v21)]) (by kernel_rfl) (by kernel_rfl) (fun _ _ => trivial) ?_
        rcases bool_cases (decide (122 < (bt a0 v21))) with hb10 | hb10
        · replace heq := bif_true hb10 heq
          refine RgH.val1 (v' := .bool true) (congrArg Value.bool hb10) ?_
          refine RgH.runk 10 [36, 0, 4, 20, 21, 33] (vs := []) (evs := []) (L' := [(36, .bool (decide ((bt a0 v21) < 48))), (0, .string a0), (4, .int .u8 (bt a0 v21)), (20, .int .i64 (a0.size : Int)), (21, .int .i64 v21), (33, .bool true)]) (by kernel_rfl) (by kernel_rfl) (fun _ _ => trivial) ?_
          rcases bool_cases (decide ((bt a0 v21) < 48)) with hb11 | hb11
          · replace heq := bif_true hb11 heq
            refine RgH.val1 (v' := .bool true) (congrArg Value.bool hb11) ?_
            refine RgH.runk 19 [45, 0, 4, 20, 21] (vs := []) (evs := []) (L' := [(45, .bool ((bt a0 v21) != 45)), (0, .string a0), (4, .int .u8 (bt a0 v21)), (20, .int .i64 (a0.size : Int)), (21, .int .i64 v21)]) (by kernel_rfl) (by kernel_rfl) (fun _ _ => trivial) ?_
            rcases bool_cases ((bt a0 v21) != 45) with hb12 | hb12
            · replace heq := bif_true hb12 heq
              refine RgH.val1 (v' := .bool true) (congrArg Value.bool hb12) ?_
              refine RgH.runk 22 [0, 20, 21, 48] (vs := []) (evs := []) (L' := [(0, .string a0), (20, .int .i64 (a0.size : Int)), (21, .int .i64 v21), (48, .bool ((bt a0 v21) != 95))]) (by kernel_rfl) (by kernel_rfl) (fun _ _ => trivial) ?_
              obtain rfl := Option.some.inj heq
              refine RgH.keep [0, 20, 21, 48] (L' := [(0, .string a0), (20, .int .i64 (a0.size : Int)), (21, .int .i64 v21), (48, .bool ((bt a0 v21) != 95))]) (by kernel_rfl) ?_
              refine RgH.done (by kernel_rfl) ?_
              exact K2
            · replace heq := bif_false hb12 heq
              refine RgH.val1 (v' := .bool false) (congrArg Value.bool hb12) ?_
              refine RgH.runk 22 [0, 20, 21, 48] (vs := []) (evs := []) (L' := [(0, .string a0), (20, .int .i64 (a0.size : Int)), (21, .int .i64 v21), (48, .bool false)]) (by kernel_rfl) (by kernel_rfl) (fun _ _ => trivial) ?_
              obtain rfl := Option.some.inj heq
              refine RgH.keep [0, 20, 21, 48] (L' := [(0, .string a0), (20, .int .i64 (a0.size : Int)), (21, .int .i64 v21), (48, .bool false)]) (by kernel_rfl) ?_
              refine RgH.done (by kernel_rfl) ?_
              exact K2
          · replace heq := bif_false hb11 heq
            refine RgH.val1 (v' := .bool false) (congrArg Value.bool hb11) ?_
            refine RgH.runk 15 [41, 0, 4, 20, 21] (vs := []) (evs := []) (L' := [(41, .bool (decide (57 < (bt a0 v21)))), (0, .string a0), (4, .int .u8 (bt a0 v21)), (20, .int .i64 (a0.size : Int)), (21, .int .i64 v21)]) (by kernel_rfl) (by kernel_rfl) (fun _ _ => trivial) ?_
            rcases bool_cases (decide (57 < (bt a0 v21))) with hb13 | hb13
            · replace heq := bif_true hb13 heq
              refine RgH.val1 (v' := .bool true) (congrArg Value.bool hb13) ?_
              refine RgH.runk 19 [45, 0, 4, 20, 21] (vs := []) (evs := []) (L' := [(45, .bool ((bt a0 v21) != 45)), (0, .string a0), (4, .int .u8 (bt a0 v21)), (20, .int .i64 (a0.size : Int)), (21, .int .i64 v21)]) (by kernel_rfl) (by kernel_rfl) (fun _ _ => trivial) ?_
              rcases bool_cases ((bt a0 v21) != 45) with hb14 | hb14
              · replace heq := bif_true hb14 heq
                refine RgH.val1 (v' := .bool true) (congrArg Value.bool hb14) ?_
                refine RgH.runk 22 [0, 20, 21, 48] (vs := []) (evs := []) (L' := [(0, .string a0), (20, .int .i64 (a0.size : Int)), (21, .int .i64 v21), (48, .bool ((bt a0 v21) != 95))]) (by kernel_rfl) (by kernel_rfl) (fun _ _ => trivial) ?_
                obtain rfl := Option.some.inj heq
                refine RgH.keep [0, 20, 21, 48] (L' := [(0, .string a0), (20, .int .i64 (a0.size : Int)), (21, .int .i64 v21), (48, .bool ((bt a0 v21) != 95))]) (by kernel_rfl) ?_
                refine RgH.done (by kernel_rfl) ?_
                exact K2
              · replace heq := bif_false hb14 heq
                refine RgH.val1 (v' := .bool false) (congrArg Value.bool hb14) ?_
                refine RgH.runk 22 [0, 20, 21, 48] (vs := []) (evs := []) (L' := [(0, .string a0), (20, .int .i64 (a0.size : Int)), (21, .int .i64 v21), (48, .bool false)]) (by kernel_rfl) (by kernel_rfl) (fun _ _ => trivial) ?_
                obtain rfl := Option.some.inj heq
                refine RgH.keep [0, 20, 21, 48] (L' := [(0, .string a0), (20, .int .i64 (a0.size : Int)), (21, .int .i64 v21), (48, .bool false)]) (by kernel_rfl) ?_
                refine RgH.done (by kernel_rfl) ?_
                exact K2
            · replace heq := bif_false hb13 heq
              refine RgH.val1 (v' := .bool false) (congrArg Value.bool hb13) ?_
              refine RgH.runk 22 [0, 20, 21, 48] (vs := []) (evs := []) (L' := [(0, .string a0), (20, .int .i64 (a0.size : Int)), (21, .int .i64 v21), (48, .bool false)]) (by kernel_rfl) (by kernel_rfl) (fun _ _ => trivial) ?_
              obtain rfl := Option.some.inj heq
              refine RgH.keep [0, 20, 21, 48] (L' := [(0, .string a0), (20, .int .i64 (a0.size : Int)), (21, .int .i64 v21), (48, .bool false)]) (by kernel_rfl) ?_
              refine RgH.done (by kernel_rfl) ?_
              exact K2
        · replace heq := bif_false hb10 heq
          refine RgH.val1 (v' := .bool false) (congrArg Value.bool hb10) ?_
          refine RgH.runk 22 [0, 20, 21, 48] (vs := []) (evs := []) (L' := [(0, .string a0), (20, .int .i64 (a0.size : Int)), (21, .int .i64 v21), (48, .bool false)]) (by kernel_rfl) (by kernel_rfl) (fun _ _ => trivial) ?_
          obtain rfl := Option.some.inj heq
          refine RgH.keep [0, 20, 21, 48] (L' := [(0, .string a0), (20, .int .i64 (a0.size : Int)), (21, .int .i64 v21), (48, .bool false)]) (by kernel_rfl) ?_
          refine RgH.done (by kernel_rfl) ?_
          exact K2
    · replace heq := bif_false hb4 heq
      refine RunH.condF (c := decide (v21 < (a0.size : Int))) (by kernel_rfl) hb4 ?_
      refine RunH.adm 2 (es' := [.c [1, 1, 1, 0], .c [1, 1, 1, 1]]) (by kernel_rfl) ?_
      refine RunH.keep [] (L' := []) (by kernel_rfl) ?_
      exact he1 heq
theorem smithyardref9_isWord_c {w0 : World} {H : Hp} {F : List Ch} {a0 : ByteArray} {r : Bool} (heq : smithyardref9_isWord.f a0 = some r) : CallsH Tryd.prog 55 #[.string a0] H w0 (F) (S55 F H r) := by
  refine calls_of_runH (F := C55) Tryd.func55 (by kernel_rfl) Tryd.ntmps55 (args := [.string a0]) (by kernel_rfl) ?_
  unfold smithyardref9_isWord.f at heq
  refine RunH.adm 1 (es' := [.c [0], .c [1]]) (by kernel_rfl) ?_
  refine RunH.reg (by kernel_rfl) ?_
  refine RgH.runk 1 [0] (vs := []) (evs := []) (L' := [(0, .string a0)]) (by kernel_rfl) (by kernel_rfl) (fun _ _ => trivial) ?_
  refine RgH.done (by kernel_rfl) ?_
  refine RunH.adm 2 (es' := [.c [1, 0, 0], .c [1, 0, 1], .c [1, 1]]) (by kernel_rfl) ?_
  obtain ⟨t1, ht1, heq⟩ := bind_some heq
  have K1 : RunH C55 (S55 F H r) H w0 [.c [1, 0, 1], .c [1, 1]] [(0, .string a0), (18, .bool t1)] H (F) := by
    rcases bool_cases (t1) with hb3 | hb3
    · replace heq := bif_true hb3 heq
      refine RunH.condT (c := t1) (by kernel_rfl) hb3 ?_
      refine RunH.adm 1 (es' := [.c [1, 0, 1, 0, 0], .c [1, 0, 1, 0, 1], .c [1, 1]]) (by kernel_rfl) ?_
      refine RunH.reg (by kernel_rfl) ?_
      refine RgH.runk 1 [2] (vs := []) (evs := []) (L' := [(2, .bool false)]) (by kernel_rfl) (by kernel_rfl) (fun _ _ => trivial) ?_
      refine RgH.done (by kernel_rfl) ?_
      obtain rfl := Option.some.inj heq
      exact RunH.done (by kernel_rfl) Tryd.func55 (v := .bool false) (by kernel_rfl) ⟨rfl, rfl, rfl⟩
    · replace heq := bif_false hb3 heq
      refine RunH.condF (c := t1) (by kernel_rfl) hb3 ?_
      refine RunH.adm 3 (es' := [.c [1, 1, 0, 0], .c [1, 1, 0, 1], .c [1, 1, 1]]) (by kernel_rfl) ?_
      refine RunH.reg (by kernel_rfl) ?_
      refine RgH.runk 3 [0, 20, 21] (vs := []) (evs := []) (L' := [(0, .string a0), (20, .int .i64 (a0.size : Int)), (21, .int .i64 0)]) (by kernel_rfl) (by kernel_rfl) (fun _ _ => trivial) ?_
      refine RgH.done (by kernel_rfl) ?_
      refine RunH.adm 2 (es' := [.c [1, 1, 0, 1, 0, 0], .l [1, 1, 0, 1, 0, 0], .b 0, .c [1, 1, 1]]) (by kernel_rfl) ?_
      refine RunH.keep [0, 20, 21] (L' := [(0, .string a0), (20, .int .i64 (a0.size : Int)), (21, .int .i64 0)]) (by kernel_rfl) ?_
      exact ((smithyardref9_isWord.l2_c (e1 := smithyardref9_isWord.e1) (smithyardref9_isWord.e1_c)) big) a0 0 heq
  replace heq := ht1
  refine RunH.reg (by kernel_rfl) ?_
  refine RgH.runk 2 [0, 6] (vs := []) (evs := []) (L' := [(0, .string a0), (6, .int .i64 (a0.size : Int))]) (by kernel_rfl) (by kernel_rfl) (fun _ _ => trivial) ?_
  obtain ⟨y1, hy1, heq⟩ := bind_some heq
  refine RgH.does (DoesH.call (d := 7) (g := 49) (args := #[.int .i64 (a0.size : Int), .int .i64 1, .int .i64 40]) (by kernel_rfl) (smithyardref9_within_c (a0 := (a0.size : Int)) (a1 := 1) (a2 := 40)  hy1)) ?_
  rintro _ _ _ _ ⟨_, rfl, rfl, rfl, rfl⟩
  refine RgH.runk 5 [9, 0] (vs := []) (evs := []) (L' := [(9, .bool (!y1)), (0, .string a0)]) (by kernel_rfl) (by kernel_rfl) (fun _ _ => trivial) ?_
  rcases bool_cases (!y1) with hb1 | hb1
  · replace heq := bif_true hb1 heq
    refine RgH.val1 (v' := .bool true) (congrArg Value.bool hb1) ?_
    refine RgH.runk 14 [0, 18] (vs := []) (evs := []) (L' := [(0, .string a0), (18, .bool true)]) (by kernel_rfl) (by kernel_rfl) (fun _ _ => trivial) ?_
    obtain rfl := Option.some.inj heq
    refine RgH.keep [0, 18] (L' := [(0, .string a0), (18, .bool true)]) (by kernel_rfl) ?_
    refine RgH.done (by kernel_rfl) ?_
    exact K1
  · replace heq := bif_false hb1 heq
    refine RgH.val1 (v' := .bool false) (congrArg Value.bool hb1) ?_
    obtain ⟨hn1, heq⟩ := guard?_some heq
    refine RgH.runk 10 [14, 0] (vs := []) (evs := [.need ((0 : Int) ≤ 0 ∧ 0 < (a0.size : Int))]) (L' := [(14, .bool (decide ((bt a0 0) < 97))), (0, .string a0)]) (by kernel_rfl) (by kernel_rfl) (fun w hh => (both_of hn1)) ?_
    rcases bool_cases (decide ((bt a0 0) < 97)) with hb2 | hb2
    · replace heq := bif_true hb2 heq
      refine RgH.val1 (v' := .bool true) (congrArg Value.bool hb2) ?_
      refine RgH.runk 14 [0, 18] (vs := []) (evs := []) (L' := [(0, .string a0), (18, .bool true)]) (by kernel_rfl) (by kernel_rfl) (fun _ _ => trivial) ?_
      obtain rfl := Option.some.inj heq
      refine RgH.keep [0, 18] (L' := [(0, .string a0), (18, .bool true)]) (by kernel_rfl) ?_
      refine RgH.done (by kernel_rfl) ?_
      exact K1
    · replace heq := bif_false hb2 heq
      refine RgH.val1 (v' := .bool false) (congrArg Value.bool hb2) ?_
      obtain ⟨hn2, heq⟩ := guard?_some heq
      refine RgH.runk 14 [0, 18] (vs := []) (evs := [.need ((0 : Int) ≤ 0 ∧ 0 < (a0.size : Int))]) (L' := [(0, .string a0), (18, .bool (decide (122 < (bt a0 0))))]) (by kernel_rfl) (by kernel_rfl) (fun w hh => (both_of hn2)) ?_
      obtain rfl := Option.some.inj heq
      refine RgH.keep [0, 18] (L' := [(0, .string a0), (18, .bool (decide (122 < (bt a0 0))))]) (by kernel_rfl) ?_
      refine RgH.done (by kernel_rfl) ?_
      exact K1
noncomputable def C75 : Ctx := { P := Tryd.prog, f := 75, N := 40, c := bodyOf Tryd.f75 }
def S75 (F : List Ch) (H0 : Hp) (r : Int) (v : Value) (H : Hp) (cs : List Ch) : Prop := H0 = H ∧ v = .int .i64 r ∧ F = cs
theorem smithyardref9_checkPairs.e1_c {w0 : World} {H : Hp} {F : List Ch} {r : Int} : smithyardref9_checkPairs.e1 = some r → RunH C75 (S75 F H r) H w0 [.c [1, 1, 1, 0], .c [1, 1, 1, 1]] [] H (F) := by
  intro   heq
  unfold smithyardref9_checkPairs.e1 at heq
  refine RunH.reg (by kernel_rfl) ?_
  refine RgH.runk 1 [2] (vs := []) (evs := []) (L' := [(2, .int .i64 0)]) (by kernel_rfl) (by kernel_rfl) (fun _ _ => trivial) ?_
  refine RgH.done (by kernel_rfl) ?_
  obtain rfl := Option.some.inj heq
  exact RunH.done (by kernel_rfl) Tryd.func75 (v := .int .i64 0) (by kernel_rfl) ⟨rfl, rfl, rfl⟩
theorem smithyardref9_checkPairs.l2_c {w0 : World} {H : Hp} {F : List Ch} {r : Int} (e1 : Option Int)
    (he1 : e1 = some r → RunH C75 (S75 F H r) H w0 [.c [1, 1, 1, 0], .c [1, 1, 1, 1]] [] H (F)) : ∀ (k : Nat), ∀ (a0 : List Pair) (Aa0 : Option Addr) (ca0 : Nat) (v10 : Int) , Rw kPair H F Aa0 a0 → a0.length ≤ ca0 → smithyardref9_checkPairs.l2 e1 k a0 v10 = some r → RunH C75 (S75 F H r) H w0 [.c [1, 1, 0, 1, 0, 0], .l [1, 1, 0, 1, 0, 0], .b 0, .c [1, 1, 1]] [(0, .slice Aa0 a0.length ca0), (8, .slice Aa0 a0.length ca0), (9, .int .i64 (a0.length : Int)), (10, .int .i64 v10)] H (F) := by
  intro k
  induction k with
  | zero => intro a0 Aa0 ca0 v10 hra0 hca0 heq; exact nomatch (show (none : Option Int) = some r from heq)
  | succ k ihk =>
    intro a0 Aa0 ca0 v10 hra0 hca0 heq
    rw [smithyardref9_checkPairs.l2] at heq
    refine RunH.adm 1 (es' := [.c [1, 1, 0, 1, 0, 0, 0], .c [1, 1, 0, 1, 0, 0, 1], .l [1, 1, 0, 1, 0, 0], .b 0, .c [1, 1, 1]]) (by kernel_rfl) ?_
    refine RunH.reg (by kernel_rfl) ?_
    refine RgH.runk 1 [0, 8, 9, 10, 11] (vs := []) (evs := []) (L' := [(0, .slice Aa0 a0.length ca0), (8, .slice Aa0 a0.length ca0), (9, .int .i64 (a0.length : Int)), (10, .int .i64 v10), (11, .bool (decide (v10 < (a0.length : Int))))]) (by kernel_rfl) (by kernel_rfl) (fun _ _ => trivial) ?_
    refine RgH.done (by kernel_rfl) ?_
    refine RunH.adm 1 (es' := [.c [1, 1, 0, 1, 0, 0, 1, 0], .c [1, 1, 0, 1, 0, 0, 1, 1], .l [1, 1, 0, 1, 0, 0], .b 0, .c [1, 1, 1]]) (by kernel_rfl) ?_
    rcases bool_cases (decide (v10 < (a0.length : Int))) with hb2 | hb2
    · replace heq := bif_true hb2 heq
      refine RunH.condT (c := decide (v10 < (a0.length : Int))) (by kernel_rfl) hb2 ?_
      refine RunH.adm 4 (es' := [.c [1, 1, 0, 1, 0, 0, 1, 1, 0, 0, 0], .c [1, 1, 0, 1, 0, 0, 1, 1, 0, 0, 1], .b 1, .c [1, 1, 0, 1, 0, 0, 1, 1, 1], .l [1, 1, 0, 1, 0, 0], .b 0, .c [1, 1, 1]]) (by kernel_rfl) ?_
      refine RunH.reg (by kernel_rfl) ?_
      obtain ⟨x1, hx1, heq⟩ := bind_some heq
      obtain ⟨ha1, cs1, hK1, hcc1⟩ := hra0.get hx1
      obtain ⟨rfl⟩ := kPair_open hK1
      refine RgH.runk 3 [0, 8, 9, 10, 12, 14] (vs := [.string x1.Name, .string x1.Value]) (evs := [.need (Aa0 = some (adr Aa0) ∧ (0 : Int) ≤ v10 ∧ v10 < ((a0.length : Nat) : Int)), .load (((adr Aa0).add (v10.toNat * 2)).add 0) (.string x1.Name), .load (((adr Aa0).add (v10.toNat * 2)).add 1) (.string x1.Value)]) (L' := [(0, .slice Aa0 a0.length ca0), (8, .slice Aa0 a0.length ca0), (9, .int .i64 (a0.length : Int)), (10, .int .i64 v10), (12, .int .i64 v10), (14, .agg #[.string x1.Name, .string x1.Value])]) (by kernel_rfl) (by kernel_rfl) (fun w hh => ⟨⟨ha1, (at?_some hx1).1, (at?_some hx1).2.1⟩, (hcc1 _ _ (hh.drop 0) 0 _ rfl), (hcc1 _ _ (hh.drop 0) 1 _ rfl)⟩) ?_
      refine RgH.does (DoesH.new (d := 4) (v := fun g => .pointer (some ⟨g, 0, none⟩)) (o := fun g => .cells #[.string ByteArray.empty, .string ByteArray.empty] 76 (0, 0)) (fun g => by kernel_rfl)) ?_
      rintro _ _ _ _ ⟨g1, rfl, rfl, rfl⟩
      refine RgH.runk 5 [0, 3, 4, 8, 9, 10, 14] (vs := []) (evs := []) (L' := [(0, .slice Aa0 a0.length ca0), (3, .int .i64 v10), (4, .pointer (some ⟨g1, 0, none⟩)), (8, .slice Aa0 a0.length ca0), (9, .int .i64 (a0.length : Int)), (10, .int .i64 v10), (14, .agg #[.string x1.Name, .string x1.Value])]) (by kernel_rfl) (by kernel_rfl) (fun _ _ => trivial) ?_
      refine RgH.does (DoesH.store (k := 0) (g := g1) (off := 0) (v := .agg #[.string x1.Name, .string x1.Value]) (cells' := #[.string x1.Name, .string x1.Value]) (by kernel_rfl) rfl (by kernel_rfl) (by kernel_rfl)) ?_
      rintro _ _ _ _ ⟨rfl, rfl, rfl⟩
      refine RgH.done (by kernel_rfl) ?_
      refine RunH.adm 2 (es' := [.c [1, 1, 0, 1, 0, 0, 1, 1, 0, 0, 1, 0, 0], .c [1, 1, 0, 1, 0, 0, 1, 1, 0, 0, 1, 0, 1], .b 2, .b 1, .c [1, 1, 0, 1, 0, 0, 1, 1, 1], .l [1, 1, 0, 1, 0, 0], .b 0, .c [1, 1, 1]]) (by kernel_rfl) ?_
      refine RunH.reg (by kernel_rfl) ?_
      refine RgH.runk 2 [0, 3, 4, 8, 9, 10, 17] (vs := [.string x1.Name]) (evs := [.load ⟨g1, 0, none⟩ (.string x1.Name)]) (L' := [(0, .slice Aa0 a0.length ca0), (3, .int .i64 v10), (4, .pointer (some ⟨g1, 0, none⟩)), (8, .slice Aa0 a0.length ca0), (9, .int .i64 (a0.length : Int)), (10, .int .i64 v10), (17, .string x1.Name)]) (by kernel_rfl) (by kernel_rfl) (fun w hh => (hh.box 0 rfl rfl)) ?_
      obtain ⟨y1, hy1, heq⟩ := bind_some heq
      refine RgH.does (DoesH.call (d := 18) (g := 55) (args := #[.string x1.Name]) (by kernel_rfl) (smithyardref9_isWord_c (a0 := x1.Name)  hy1)) ?_
      rintro _ _ _ _ ⟨_, rfl, rfl, rfl, rfl⟩
      refine RgH.runk 5 [0, 3, 4, 8, 9, 10, 15] (vs := []) (evs := []) (L' := [(0, .slice Aa0 a0.length ca0), (3, .int .i64 v10), (4, .pointer (some ⟨g1, 0, none⟩)), (8, .slice Aa0 a0.length ca0), (9, .int .i64 (a0.length : Int)), (10, .int .i64 v10), (15, .bool (!y1))]) (by kernel_rfl) (by kernel_rfl) (fun _ _ => trivial) ?_
      refine RgH.done (by kernel_rfl) ?_
      rcases bool_cases (!y1) with hb3 | hb3
      · replace heq := bif_true hb3 heq
        refine RunH.condT (c := !y1) (by kernel_rfl) hb3 ?_
        refine RunH.adm 1 (es' := [.c [1, 1, 0, 1, 0, 0, 1, 1, 0, 0, 1, 0, 1, 0, 0], .c [1, 1, 0, 1, 0, 0, 1, 1, 0, 0, 1, 0, 1, 0, 1], .b 2, .b 1, .c [1, 1, 0, 1, 0, 0, 1, 1, 1], .l [1, 1, 0, 1, 0, 0], .b 0, .c [1, 1, 1]]) (by kernel_rfl) ?_
        refine RunH.reg (by kernel_rfl) ?_
        refine RgH.runk 1 [2] (vs := []) (evs := []) (L' := [(2, .int .i64 5)]) (by kernel_rfl) (by kernel_rfl) (fun _ _ => trivial) ?_
        refine RgH.done (by kernel_rfl) ?_
        obtain rfl := Option.some.inj heq
        refine RunH.pick 1 [] (cs' := F) (by kernel_rfl) rfl ?_
        exact RunH.done (by kernel_rfl) Tryd.func75 (v := .int .i64 5) (by kernel_rfl) ⟨rfl, rfl, rfl⟩
      · replace heq := bif_false hb3 heq
        refine RunH.condF (c := !y1) (by kernel_rfl) hb3 ?_
        refine RunH.adm 1 (es' := [.c [1, 1, 0, 1, 0, 0, 1, 1, 0, 0, 1, 0, 1, 1, 0], .c [1, 1, 0, 1, 0, 0, 1, 1, 0, 0, 1, 0, 1, 1, 1], .b 2, .b 1, .c [1, 1, 0, 1, 0, 0, 1, 1, 1], .l [1, 1, 0, 1, 0, 0], .b 0, .c [1, 1, 1]]) (by kernel_rfl) ?_
        refine RunH.reg (by kernel_rfl) ?_
        refine RgH.runk 2 [0, 3, 4, 8, 9, 10, 22] (vs := [.string x1.Value]) (evs := [.load ⟨g1, 1, none⟩ (.string x1.Value)]) (L' := [(0, .slice Aa0 a0.length ca0), (3, .int .i64 v10), (4, .pointer (some ⟨g1, 0, none⟩)), (8, .slice Aa0 a0.length ca0), (9, .int .i64 (a0.length : Int)), (10, .int .i64 v10), (22, .string x1.Value)]) (by kernel_rfl) (by kernel_rfl) (fun w hh => (hh.box 0 rfl rfl)) ?_
        obtain ⟨y2, hy2, heq⟩ := bind_some heq
        refine RgH.does (DoesH.call (d := 23) (g := 55) (args := #[.string x1.Value]) (by kernel_rfl) (smithyardref9_isWord_c (a0 := x1.Value)  hy2)) ?_
        rintro _ _ _ _ ⟨_, rfl, rfl, rfl, rfl⟩
        refine RgH.runk 5 [0, 3, 4, 8, 9, 10, 20] (vs := []) (evs := []) (L' := [(0, .slice Aa0 a0.length ca0), (3, .int .i64 v10), (4, .pointer (some ⟨g1, 0, none⟩)), (8, .slice Aa0 a0.length ca0), (9, .int .i64 (a0.length : Int)), (10, .int .i64 v10), (20, .bool (!y2))]) (by kernel_rfl) (by kernel_rfl) (fun _ _ => trivial) ?_
        refine RgH.done (by kernel_rfl) ?_
        rcases bool_cases (!y2) with hb4 | hb4
        · replace heq := bif_true hb4 heq
          refine RunH.condT (c := !y2) (by kernel_rfl) hb4 ?_
          refine RunH.adm 1 (es' := [.c [1, 1, 0, 1, 0, 0, 1, 1, 0, 0, 1, 0, 1, 1, 1, 0, 0], .c [1, 1, 0, 1, 0, 0, 1, 1, 0, 0, 1, 0, 1, 1, 1, 0, 1], .b 2, .b 1, .c [1, 1, 0, 1, 0, 0, 1, 1, 1], .l [1, 1, 0, 1, 0, 0], .b 0, .c [1, 1, 1]]) (by kernel_rfl) ?_
          refine RunH.reg (by kernel_rfl) ?_
          refine RgH.runk 1 [2] (vs := []) (evs := []) (L' := [(2, .int .i64 1)]) (by kernel_rfl) (by kernel_rfl) (fun _ _ => trivial) ?_
          refine RgH.done (by kernel_rfl) ?_
          obtain rfl := Option.some.inj heq
          refine RunH.pick 1 [] (cs' := F) (by kernel_rfl) rfl ?_
          exact RunH.done (by kernel_rfl) Tryd.func75 (v := .int .i64 1) (by kernel_rfl) ⟨rfl, rfl, rfl⟩
        · replace heq := bif_false hb4 heq
          refine RunH.condF (c := !y2) (by kernel_rfl) hb4 ?_
          refine RunH.adm 1 (es' := [.c [1, 1, 0, 1, 0, 0, 1, 1, 0, 0, 1, 0, 1, 1, 1, 1, 0], .c [1, 1, 0, 1, 0, 0, 1, 1, 0, 0, 1, 0, 1, 1, 1, 1, 1], .b 2, .b 1, .c [1, 1, 0, 1, 0, 0, 1, 1, 1], .l [1, 1, 0, 1, 0, 0], .b 0, .c [1, 1, 1]]) (by kernel_rfl) ?_
          obtain ⟨t1, ht1, heq⟩ := bind_some heq
          have K2 : RunH C75 (S75 F H r) H w0 [.c [1, 1, 0, 1, 0, 0, 1, 1, 0, 0, 1, 0, 1, 1, 1, 1, 1], .b 2, .b 1, .c [1, 1, 0, 1, 0, 0, 1, 1, 1], .l [1, 1, 0, 1, 0, 0], .b 0, .c [1, 1, 1]] [(0, .slice Aa0 a0.length ca0), (8, .slice Aa0 a0.length ca0), (9, .int .i64 (a0.length : Int)), (10, .int .i64 v10), (25, .bool t1)] H (F) := by
            rcases bool_cases (t1) with hb6 | hb6
            · replace heq := bif_true hb6 heq
              refine RunH.condT (c := t1) (by kernel_rfl) hb6 ?_
              refine RunH.adm 1 (es' := [.c [1, 1, 0, 1, 0, 0, 1, 1, 0, 0, 1, 0, 1, 1, 1, 1, 1, 0, 0], .c [1, 1, 0, 1, 0, 0, 1, 1, 0, 0, 1, 0, 1, 1, 1, 1, 1, 0, 1], .b 2, .b 1, .c [1, 1, 0, 1, 0, 0, 1, 1, 1], .l [1, 1, 0, 1, 0, 0], .b 0, .c [1, 1, 1]]) (by kernel_rfl) ?_
              refine RunH.reg (by kernel_rfl) ?_
              refine RgH.runk 1 [2] (vs := []) (evs := []) (L' := [(2, .int .i64 8)]) (by kernel_rfl) (by kernel_rfl) (fun _ _ => trivial) ?_
              refine RgH.done (by kernel_rfl) ?_
              obtain rfl := Option.some.inj heq
              exact RunH.done (by kernel_rfl) Tryd.func75 (v := .int .i64 8) (by kernel_rfl) ⟨rfl, rfl, rfl⟩
            · replace heq := bif_false hb6 heq
              refine RunH.condF (c := t1) (by kernel_rfl) hb6 ?_
              refine RunH.adm 3 (es' := [.c [1, 1, 0, 1, 0, 0, 1, 1, 1], .l [1, 1, 0, 1, 0, 0], .b 0, .c [1, 1, 1]]) (by kernel_rfl) ?_
              refine RunH.reg (by kernel_rfl) ?_
              refine RgH.runk 2 [0, 8, 9, 10] (vs := []) (evs := []) (L' := [(0, .slice Aa0 a0.length ca0), (8, .slice Aa0 a0.length ca0), (9, .int .i64 (a0.length : Int)), (10, .int .i64 (w64 (v10 + 1)))]) (by kernel_rfl) (by kernel_rfl) (fun _ _ => trivial) ?_
              refine RgH.done (by kernel_rfl) ?_
              refine RunH.adm 1 (es' := [.c [1, 1, 0, 1, 0, 0], .l [1, 1, 0, 1, 0, 0], .b 0, .c [1, 1, 1]]) (by kernel_rfl) ?_
              refine RunH.keep [0, 8, 9, 10] (L' := [(0, .slice Aa0 a0.length ca0), (8, .slice Aa0 a0.length ca0), (9, .int .i64 (a0.length : Int)), (10, .int .i64 (w64 (v10 + 1)))]) (by kernel_rfl) ?_
              exact ihk a0 _ _ (w64 (v10 + 1)) hra0 hca0 heq
          replace heq := ht1
          refine RunH.keep [0, 3, 4, 8, 9, 10] (L' := [(0, .slice Aa0 a0.length ca0), (3, .int .i64 v10), (4, .pointer (some ⟨g1, 0, none⟩)), (8, .slice Aa0 a0.length ca0), (9, .int .i64 (a0.length : Int)), (10, .int .i64 v10)]) (by kernel_rfl) ?_
          refine RunH.draw (fun w => Heap H w0 w ((some (g1, .cells #[.string x1.Name, .string x1.Value] 76 (0, 0))) :: F)) (fun w => Heap H w0 w ((some (g1, .cells #[.string x1.Name, .string x1.Value] 76 (0, 0))) :: F)) [false, false, false, false, false, false, false, false, false, false, false, false, false, false] (n := 14) (ls := [false, false, false, false, false, false, false, false, false, false, false, false, false, false]) (by kernel_rfl) (by kernel_rfl) (by kernel_rfl) rfl ?_
          refine DrH.run [0, 1, 2] (m := 11) (ls' := [true, true, true, false, false, false, false, false, false, false, false, false, false, false]) (vs := []) (evs := []) (L' := [(28, .bool (decide (0 < v10))), (27, .bool (decide (0 < v10))), (26, .int .i64 v10), (0, .slice Aa0 a0.length ca0), (3, .int .i64 v10), (4, .pointer (some ⟨g1, 0, none⟩)), (8, .slice Aa0 a0.length ca0), (9, .int .i64 (a0.length : Int)), (10, .int .i64 v10)]) (by kernel_rfl) (fun w hh => hh.pick 1 [0] (by kernel_rfl)) (fun w hh => hh.pick 1 [0] (by kernel_rfl)) (by kernel_rfl) (fun _ _ => trivial) (by kernel_rfl) ?_
          refine DrH.keep [28, 0, 3, 4, 8, 9, 10] (L' := [(28, .bool (decide (0 < v10))), (0, .slice Aa0 a0.length ca0), (3, .int .i64 v10), (4, .pointer (some ⟨g1, 0, none⟩)), (8, .slice Aa0 a0.length ca0), (9, .int .i64 (a0.length : Int)), (10, .int .i64 v10)]) (by kernel_rfl) ?_
          rcases bool_cases (decide (0 < v10)) with hb5 | hb5
          · replace heq := bif_true hb5 heq
            refine DrH.val1 (v' := .bool true) (congrArg Value.bool hb5) ?_
            obtain ⟨x2, hx2, heq⟩ := bind_some heq
            obtain ⟨ha2, cs2, hK2, hcc2⟩ := hra0.get hx2
            obtain ⟨rfl⟩ := kPair_open hK2
            refine DrH.run [3, 4, 5, 6, 7, 8, 9, 10, 11, 12, 13] (m := 0) (ls' := [true, true, true, true, true, true, true, true, true, true, true, true, true, true]) (vs := [.string x1.Name, .string x2.Name]) (evs := [.load ⟨g1, 0, none⟩ (.string x1.Name), .need (Aa0 = some (adr Aa0) ∧ (0 : Int) ≤ (w64 (v10 - 1)) ∧ (w64 (v10 - 1)) < ((a0.length : Nat) : Int)), .load (((adr Aa0).add ((w64 (v10 - 1)).toNat * 2)).add 0) (.string x2.Name)]) (L' := [(25, .bool (sLt x1.Name x2.Name || sEq x1.Name x2.Name)), (38, .bool (sLt x1.Name x2.Name || sEq x1.Name x2.Name)), (37, .bool (sLt x1.Name x2.Name || sEq x1.Name x2.Name)), (36, .string x2.Name), (35, .pointer (some (((adr Aa0).add ((w64 (v10 - 1)).toNat * 2)).add 0))), (34, .pointer (some ((adr Aa0).add ((w64 (v10 - 1)).toNat * 2)))), (33, .int .i64 (w64 (v10 - 1))), (32, .int .i64 v10), (31, .slice Aa0 a0.length ca0), (30, .string x1.Name), (29, .pointer (some ⟨g1, 0, none⟩)), (28, .bool true), (0, .slice Aa0 a0.length ca0), (3, .int .i64 v10), (4, .pointer (some ⟨g1, 0, none⟩)), (8, .slice Aa0 a0.length ca0), (9, .int .i64 (a0.length : Int)), (10, .int .i64 v10)]) (by kernel_rfl) (fun w hh => hh.pick 1 [0] (by kernel_rfl)) (fun w hh => hh.pick 1 [0] (by kernel_rfl)) (by kernel_rfl) (fun w hh => ⟨(hh.box 0 rfl rfl), ⟨ha2, (at?_some hx2).1, (at?_some hx2).2.1⟩, (hcc2 _ _ (hh.drop 1) 0 _ rfl)⟩) (by kernel_rfl) ?_
            refine DrH.keep [0, 8, 9, 10, 25] (L' := [(0, .slice Aa0 a0.length ca0), (8, .slice Aa0 a0.length ca0), (9, .int .i64 (a0.length : Int)), (10, .int .i64 v10), (25, .bool (sLt x1.Name x2.Name || sEq x1.Name x2.Name))]) (by kernel_rfl) ?_
            obtain rfl := Option.some.inj heq
            refine DrH.keep [0, 8, 9, 10, 25] (L' := [(0, .slice Aa0 a0.length ca0), (8, .slice Aa0 a0.length ca0), (9, .int .i64 (a0.length : Int)), (10, .int .i64 v10), (25, .bool (sLt x1.Name x2.Name || sEq x1.Name x2.Name))]) (by kernel_rfl) ?_
            refine DrH.pick 1 [] (cs' := F) (by kernel_rfl) rfl ?_
            refine DrH.done (by kernel_rfl) ?_
            exact K2
          · replace heq := bif_false hb5 heq
            refine DrH.val1 (v' := .bool false) (congrArg Value.bool hb5) ?_
            refine DrH.run [3, 4, 5, 6, 7, 8, 9, 10, 11, 12, 13] (m := 0) (ls' := [true, true, true, true, true, true, true, true, true, true, true, true, true, true]) (vs := []) (evs := []) (L' := [(25, .bool false), (38, .bool false), (37, undef), (36, undef), (35, undef), (34, undef), (33, undef), (32, undef), (31, undef), (30, undef), (29, undef), (28, .bool false), (0, .slice Aa0 a0.length ca0), (3, .int .i64 v10), (4, .pointer (some ⟨g1, 0, none⟩)), (8, .slice Aa0 a0.length ca0), (9, .int .i64 (a0.length : Int)), (10, .int .i64 v10)]) (by kernel_rfl) (fun w hh => hh.pick 1 [0] (by kernel_rfl)) (fun w hh => hh.pick 1 [0] (by kernel_rfl)) (by kernel_rfl) (fun _ _ => trivial) (by kernel_rfl) ?_
            refine DrH.keep [0, 8, 9, 10, 25] (L' := [(0, .slice Aa0 a0.length ca0), (8, .slice Aa0 a0.length ca0), (9, .int .i64 (a0.length : Int)), (10, .int .i64 v10), (25, .bool false)]) (by kernel_rfl) ?_
            obtain rfl := Option.some.inj heq
            refine DrH.keep [0, 8, 9, 10, 25] (L' := [(0, .slice Aa0 a0.length ca0), (8, .slice Aa0 a0.length ca0), (9, .int .i64 (a0.length : Int)), (10, .int .i64 v10), (25, .bool false)]) (by kernel_rfl) ?_
            refine DrH.pick 1 [] (cs' := F) (by kernel_rfl) rfl ?_
            refine DrH.done (by kernel_rfl) ?_
            exact K2
    · replace heq := bif_false hb2 heq
      refine RunH.condF (c := decide (v10 < (a0.length : Int))) (by kernel_rfl) hb2 ?_
      refine RunH.adm 2 (es' := [.c [1, 1, 1, 0], .c [1, 1, 1, 1]]) (by kernel_rfl) ?_
      refine RunH.keep [] (L' := []) (by kernel_rfl) ?_
      exact he1 heq
theorem smithyardref9_checkPairs_c {w0 : World} {H : Hp} {F : List Ch} {a0 : List Pair} {Aa0 : Option Addr} {na0 : Nat} {ca0 : Nat} {r : Int} (hra0 : Rw kPair H F Aa0 a0) (hca0 : na0 ≤ ca0) (hna0 : na0 = a0.length) (heq : smithyardref9_checkPairs.f a0 = some r) : CallsH Tryd.prog 75 #[.slice Aa0 na0 ca0] H w0 (F) (S75 F H r) := by
  refine calls_of_runH (F := C75) Tryd.func75 (by kernel_rfl) Tryd.ntmps75 (args := [.slice Aa0 na0 ca0]) (by kernel_rfl) ?_
  subst hna0
  unfold smithyardref9_checkPairs.f at heq
  refine RunH.adm 1 (es' := [.c [0], .c [1]]) (by kernel_rfl) ?_
  refine RunH.reg (by kernel_rfl) ?_
  refine RgH.runk 1 [0] (vs := []) (evs := []) (L' := [(0, .slice Aa0 a0.length ca0)]) (by kernel_rfl) (by kernel_rfl) (fun _ _ => trivial) ?_
  refine RgH.done (by kernel_rfl) ?_
  refine RunH.adm 2 (es' := [.c [1, 0, 0], .c [1, 0, 1], .c [1, 1]]) (by kernel_rfl) ?_
  refine RunH.reg (by kernel_rfl) ?_
  refine RgH.runk 3 [0, 7] (vs := []) (evs := []) (L' := [(0, .slice Aa0 a0.length ca0), (7, .bool (decide (30 < (a0.length : Int))))]) (by kernel_rfl) (by kernel_rfl) (fun _ _ => trivial) ?_
  refine RgH.done (by kernel_rfl) ?_
  rcases bool_cases (decide (30 < (a0.length : Int))) with hb1 | hb1
  · replace heq := bif_true hb1 heq
    refine RunH.condT (c := decide (30 < (a0.length : Int))) (by kernel_rfl) hb1 ?_
    refine RunH.adm 1 (es' := [.c [1, 0, 1, 0, 0], .c [1, 0, 1, 0, 1], .c [1, 1]]) (by kernel_rfl) ?_
    refine RunH.reg (by kernel_rfl) ?_
    refine RgH.runk 1 [2] (vs := []) (evs := []) (L' := [(2, .int .i64 2)]) (by kernel_rfl) (by kernel_rfl) (fun _ _ => trivial) ?_
    refine RgH.done (by kernel_rfl) ?_
    obtain rfl := Option.some.inj heq
    exact RunH.done (by kernel_rfl) Tryd.func75 (v := .int .i64 2) (by kernel_rfl) ⟨rfl, rfl, rfl⟩
  · replace heq := bif_false hb1 heq
    refine RunH.condF (c := decide (30 < (a0.length : Int))) (by kernel_rfl) hb1 ?_
    refine RunH.adm 3 (es' := [.c [1, 1, 0, 0], .c [1, 1, 0, 1], .c [1, 1, 1]]) (by kernel_rfl) ?_
    refine RunH.reg (by kernel_rfl) ?_
    refine RgH.runk 3 [0, 8, 9, 10] (vs := []) (evs := []) (L' := [(0, .slice Aa0 a0.length ca0), (8, .slice Aa0 a0.length ca0), (9, .int .i64 (a0.length : Int)), (10, .int .i64 0)]) (by kernel_rfl) (by kernel_rfl) (fun _ _ => trivial) ?_
    refine RgH.done (by kernel_rfl) ?_
    refine RunH.adm 2 (es' := [.c [1, 1, 0, 1, 0, 0], .l [1, 1, 0, 1, 0, 0], .b 0, .c [1, 1, 1]]) (by kernel_rfl) ?_
    refine RunH.keep [0, 8, 9, 10] (L' := [(0, .slice Aa0 a0.length ca0), (8, .slice Aa0 a0.length ca0), (9, .int .i64 (a0.length : Int)), (10, .int .i64 0)]) (by kernel_rfl) ?_
    exact ((smithyardref9_checkPairs.l2_c (e1 := smithyardref9_checkPairs.e1) (smithyardref9_checkPairs.e1_c)) big) a0 _ _ 0 hra0 hca0 heq
end Go.Proofs.YtcldjlkgdnjnaaaDoor
