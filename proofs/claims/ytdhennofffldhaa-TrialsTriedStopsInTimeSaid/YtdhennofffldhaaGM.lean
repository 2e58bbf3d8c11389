/- What the machine's calls of these functions come to: just what the plain functions say. Written by program. -/
import Derived.Test.YtdhennofffldhaaProg
import Derived.Test.YtdhennofffldhaaKitF
import Derived.Test.YtdhennofffldhaaGD
set_option linter.unusedVariables false
set_option linter.unusedSimpArgs false
set_option maxRecDepth 100000
namespace Go.Proofs.Ytdhennofffldhaa
open Go Go.RowKit Go.Proofs.Ytdhennofffldhaa.Kit
def kProbe : Kd Probe := Kd.iso ((Kd.pair (Kd.int .i64) Kd.bool)) (fun x => (x.Place, x.Pass))
theorem kProbe_open {H : Hp} {x : Probe} {c : List Value} (h : kProbe.K H x c) : c = [.int .i64 x.Place, .bool x.Pass] := by
  obtain ⟨p0, q0, rfl, g0, h0⟩ := h
  obtain rfl : p0 = [_] := g0
  obtain rfl : q0 = [_] := h0
  rfl
noncomputable def C19 : Ctx := { P := Try.prog, f := 19, N := 15, c := bodyOf Try.f19 }
def S19 (w0 : World) (r : Bool) (v : Value) (w : World) : Prop := Ext w0 w ∧ v = .bool r
theorem trials_within_c {w0 : World} {H : Hp} {a0 : Int} {a1 : Int} {a2 : Int} {r : Bool} (hH : Sub H w0) (heq : trials_within.f a0 a1 a2 = some r) : Calls Try.prog 19 #[.int .i64 a0, .int .i64 a1, .int .i64 a2] w0 (Ret (S19 w0 r)) := by
  refine calls_of_runL (F := C19) Try.func19 (by kernel_rfl) Try.ntmps19 (args := [.int .i64 a0, .int .i64 a1, .int .i64 a2]) (by kernel_rfl) ?_
  unfold trials_within.f at heq
  suffices h : ∀ w, Ext w0 w → Sub H w → RunL C19 (Ret (S19 w0 r)) [.c []] (argL 0 [.int .i64 a0, .int .i64 a1, .int .i64 a2]) w from h w0 (Ext.refl w0) hH
  clear hH
  intro w hE hH
  refine RunL.adm 1 (es' := [.c [0], .c [1]]) (by kernel_rfl) ?_
  refine RunL.reg (by kernel_rfl) ?_
  refine RgL.runk 1 [0, 1, 2] (vs := []) (evs := []) (L' := [(0, .int .i64 a0), (1, .int .i64 a1), (2, .int .i64 a2)]) (by kernel_rfl) (by kernel_rfl) trivial ?_
  refine RgL.done (by kernel_rfl) ?_
  refine RunL.adm 1 (es' := [.c [1, 0], .c [1, 1]]) (by kernel_rfl) ?_
  refine RunL.reg (by kernel_rfl) ?_
  obtain ⟨t3, ht4, heq⟩ := bind_some heq
  have K5 : ∀ w2, Ext w w2 → RunL C19 (Ret (S19 w0 r)) [.c [1, 1]] [(6, .bool t3)] w2 := by
    intro w hx
    replace hH := hH.ext hx
    replace hE := hE.then hx
    obtain rfl := Option.some.inj heq
    exact RunL.done (by kernel_rfl) Try.func19 (v := .bool t3) (by kernel_rfl) ⟨hE, rfl⟩
  replace heq := ht4
  have hE0 := Ext.refl w
  refine RgL.runk 4 [10, 0, 2] (vs := []) (evs := []) (L' := [(10, .bool (decide (a1 ≤ a0))), (0, .int .i64 a0), (2, .int .i64 a2)]) (by kernel_rfl) (by kernel_rfl) trivial ?_
  rcases bool_cases (decide (a1 ≤ a0)) with hb6 | hb6
  · replace heq := bif_true hb6 heq
    refine RgL.bool1 hb6 ?_
    refine RgL.runk 9 [6] (vs := []) (evs := []) (L' := [(6, .bool (decide (a0 ≤ a2)))]) (by kernel_rfl) (by kernel_rfl) trivial ?_
    obtain rfl := Option.some.inj heq
    refine RgL.keep [6] (L' := [(6, .bool (decide (a0 ≤ a2)))]) (by kernel_rfl) ?_
    exact RgL.done (by kernel_rfl) (K5 _ hE0)
  · replace heq := bif_false hb6 heq
    refine RgL.bool1 hb6 ?_
    refine RgL.runk 9 [6] (vs := []) (evs := []) (L' := [(6, .bool false)]) (by kernel_rfl) (by kernel_rfl) trivial ?_
    obtain rfl := Option.some.inj heq
    refine RgL.keep [6] (L' := [(6, .bool false)]) (by kernel_rfl) ?_
    exact RgL.done (by kernel_rfl) (K5 _ hE0)
noncomputable def C20 : Ctx := { P := Try.prog, f := 20, N := 15, c := bodyOf Try.f20 }
def S20 (w0 : World) (r : Bool) (v : Value) (w : World) : Prop := Ext w0 w ∧ v = .bool r
theorem smithyardref10_within_c {w0 : World} {H : Hp} {a0 : Int} {a1 : Int} {a2 : Int} {r : Bool} (hH : Sub H w0) (heq : smithyardref10_within.f a0 a1 a2 = some r) : Calls Try.prog 20 #[.int .i64 a0, .int .i64 a1, .int .i64 a2] w0 (Ret (S20 w0 r)) := by
  refine calls_of_runL (F := C20) Try.func20 (by kernel_rfl) Try.ntmps20 (args := [.int .i64 a0, .int .i64 a1, .int .i64 a2]) (by kernel_rfl) ?_
  unfold smithyardref10_within.f at heq
  suffices h : ∀ w, Ext w0 w → Sub H w → RunL C20 (Ret (S20 w0 r)) [.c []] (argL 0 [.int .i64 a0, .int .i64 a1, .int .i64 a2]) w from h w0 (Ext.refl w0) hH
  clear hH
  intro w hE hH
  refine RunL.adm 1 (es' := [.c [0], .c [1]]) (by kernel_rfl) ?_
  refine RunL.reg (by kernel_rfl) ?_
  refine RgL.runk 1 [0, 1, 2] (vs := []) (evs := []) (L' := [(0, .int .i64 a0), (1, .int .i64 a1), (2, .int .i64 a2)]) (by kernel_rfl) (by kernel_rfl) trivial ?_
  refine RgL.done (by kernel_rfl) ?_
  refine RunL.adm 1 (es' := [.c [1, 0], .c [1, 1]]) (by kernel_rfl) ?_
  refine RunL.reg (by kernel_rfl) ?_
  obtain ⟨t3, ht4, heq⟩ := bind_some heq
  have K5 : ∀ w2, Ext w w2 → RunL C20 (Ret (S20 w0 r)) [.c [1, 1]] [(6, .bool t3)] w2 := by
    intro w hx
    replace hH := hH.ext hx
    replace hE := hE.then hx
    obtain rfl := Option.some.inj heq
    exact RunL.done (by kernel_rfl) Try.func20 (v := .bool t3) (by kernel_rfl) ⟨hE, rfl⟩
  replace heq := ht4
  have hE0 := Ext.refl w
  refine RgL.runk 4 [10, 0, 2] (vs := []) (evs := []) (L' := [(10, .bool (decide (a1 ≤ a0))), (0, .int .i64 a0), (2, .int .i64 a2)]) (by kernel_rfl) (by kernel_rfl) trivial ?_
  rcases bool_cases (decide (a1 ≤ a0)) with hb6 | hb6
  · replace heq := bif_true hb6 heq
    refine RgL.bool1 hb6 ?_
    refine RgL.runk 9 [6] (vs := []) (evs := []) (L' := [(6, .bool (decide (a0 ≤ a2)))]) (by kernel_rfl) (by kernel_rfl) trivial ?_
    obtain rfl := Option.some.inj heq
    refine RgL.keep [6] (L' := [(6, .bool (decide (a0 ≤ a2)))]) (by kernel_rfl) ?_
    exact RgL.done (by kernel_rfl) (K5 _ hE0)
  · replace heq := bif_false hb6 heq
    refine RgL.bool1 hb6 ?_
    refine RgL.runk 9 [6] (vs := []) (evs := []) (L' := [(6, .bool false)]) (by kernel_rfl) (by kernel_rfl) trivial ?_
    obtain rfl := Option.some.inj heq
    refine RgL.keep [6] (L' := [(6, .bool false)]) (by kernel_rfl) ?_
    exact RgL.done (by kernel_rfl) (K5 _ hE0)
noncomputable def C12 : Ctx := { P := Try.prog, f := 12, N := 14, c := bodyOf Try.f12 }
def S12 (w0 : World) (r : Int) (v : Value) (w : World) : Prop := Ext w0 w ∧ v = .int .i64 r
theorem smithyardref10_Below.j5_c {w0 : World} {r : Int} : ∀ (H : Hp) (w : World) (v_x0 : Int), Sub H w → Ext w0 w → smithyardref10_Below.j5 v_x0 = some r → RunL C12 (Ret (S12 w0 r)) [.c [1, 1, 1, 0], .c [1, 1, 1, 1]] [(0, .int .i64 v_x0)] w := by
  intro H w v_x0 hH hE  heq
  unfold smithyardref10_Below.j5 at heq
  refine RunL.reg (by kernel_rfl) ?_
  refine RgL.runk 2 [4] (vs := []) (evs := []) (L' := [(4, .int .i64 v_x0)]) (by kernel_rfl) (by kernel_rfl) trivial ?_
  refine RgL.done (by kernel_rfl) ?_
  obtain rfl := Option.some.inj heq
  exact RunL.done (by kernel_rfl) Try.func12 (v := .int .i64 v_x0) (by kernel_rfl) ⟨hE, rfl⟩
theorem smithyardref10_Below_c {w0 : World} {H : Hp} {a0 : Int} {a1 : Int} {r : Int} (hH : Sub H w0) (heq : smithyardref10_Below.f a0 a1 = some r) : Calls Try.prog 12 #[.int .i64 a0, .int .i64 a1] w0 (Ret (S12 w0 r)) := by
  refine calls_of_runL (F := C12) Try.func12 (by kernel_rfl) Try.ntmps12 (args := [.int .i64 a0, .int .i64 a1]) (by kernel_rfl) ?_
  unfold smithyardref10_Below.f at heq
  suffices h : ∀ w, Ext w0 w → Sub H w → RunL C12 (Ret (S12 w0 r)) [.c []] (argL 0 [.int .i64 a0, .int .i64 a1]) w from h w0 (Ext.refl w0) hH
  clear hH
  intro w hE hH
  refine RunL.adm 1 (es' := [.c [0], .c [1]]) (by kernel_rfl) ?_
  refine RunL.reg (by kernel_rfl) ?_
  refine RgL.runk 1 [0, 1] (vs := []) (evs := []) (L' := [(0, .int .i64 a0), (1, .int .i64 a1)]) (by kernel_rfl) (by kernel_rfl) trivial ?_
  refine RgL.done (by kernel_rfl) ?_
  refine RunL.adm 1 (es' := [.c [1, 0], .c [1, 1]]) (by kernel_rfl) ?_
  refine RunL.reg (by kernel_rfl) ?_
  obtain ⟨hn2, heq⟩ := guard?_some heq
  refine RgL.runk 4 [0, 1] (vs := []) (evs := [.need (a1 ≠ (0 : Int))]) (L' := [(0, .int .i64 (a0.tmod a1)), (1, .int .i64 a1)]) (by kernel_rfl) (by kernel_rfl) (ne_of_bne hn2) ?_
  refine RgL.done (by kernel_rfl) ?_
  refine RunL.adm 2 (es' := [.c [1, 1, 0, 0], .c [1, 1, 0, 1], .c [1, 1, 1]]) (by kernel_rfl) ?_
  refine RunL.reg (by kernel_rfl) ?_
  refine RgL.runk 2 [0, 1, 9] (vs := []) (evs := []) (L' := [(0, .int .i64 (a0.tmod a1)), (1, .int .i64 a1), (9, .bool (decide ((a0.tmod a1) < 0)))]) (by kernel_rfl) (by kernel_rfl) trivial ?_
  refine RgL.done (by kernel_rfl) ?_
  rcases bool_cases (decide ((a0.tmod a1) < 0)) with hb7 | hb7
  · replace heq := bif_true hb7 heq
    refine RunL.condT (c := decide ((a0.tmod a1) < 0)) (by kernel_rfl) hb7 ?_
    refine RunL.reg (by kernel_rfl) ?_
    refine RgL.runk 4 [0] (vs := []) (evs := []) (L' := [(0, .int .i64 (w64 ((a0.tmod a1) + a1)))]) (by kernel_rfl) (by kernel_rfl) trivial ?_
    refine RgL.done (by kernel_rfl) ?_
    refine RunL.adm 1 (es' := [.c [1, 1, 1, 0], .c [1, 1, 1, 1]]) (by kernel_rfl) ?_
    refine RunL.keep [0] (L' := [(0, .int .i64 (w64 ((a0.tmod a1) + a1)))]) (by kernel_rfl) ?_
    exact (smithyardref10_Below.j5_c) _ _ _ hH hE  heq
  · replace heq := bif_false hb7 heq
    refine RunL.condF (c := decide ((a0.tmod a1) < 0)) (by kernel_rfl) hb7 ?_
    refine RunL.adm 2 (es' := [.c [1, 1, 1, 0], .c [1, 1, 1, 1]]) (by kernel_rfl) ?_
    refine RunL.keep [0] (L' := [(0, .int .i64 (a0.tmod a1))]) (by kernel_rfl) ?_
    exact (smithyardref10_Below.j5_c) _ _ _ hH hE  heq
noncomputable def C7 : Ctx := { P := Try.prog, f := 7, N := 64, c := bodyOf Try.f7 }
def S7 (w0 : World) (r : Int × Int × Int) (v : Value) (w : World) : Prop := Ext w0 w ∧ v = .tuple #[.int .i64 r.1, .int .i64 r.2.1, .int .i64 r.2.2]
theorem trials_Tried.e15_c {w0 : World} {r : Int × Int × Int} : ∀ (H : Hp) (w : World) (a0 : Int), Sub H w → Ext w0 w → trials_Tried.e15 a0 = some r → RunL C7 (Ret (S7 w0 r)) [.c [1, 1, 1, 1, 1, 0], .c [1, 1, 1, 1, 1, 1]] [(0, .int .i64 a0)] w := by
  intro H w a0 hH hE  heq
  unfold trials_Tried.e15 at heq
  refine RunL.reg (by kernel_rfl) ?_
  refine RgL.runk 4 [6, 7, 8] (vs := []) (evs := []) (L' := [(6, .int .i64 3), (7, .int .i64 a0), (8, .int .i64 0)]) (by kernel_rfl) (by kernel_rfl) trivial ?_
  refine RgL.done (by kernel_rfl) ?_
  obtain rfl := Option.some.inj heq
  exact RunL.done (by kernel_rfl) Try.func7 (v := .tuple #[.int .i64 3, .int .i64 a0, .int .i64 0]) (by kernel_rfl) ⟨hE, rfl⟩
theorem trials_Tried.j24_c {w0 : World} {r : Int × Int × Int} (backl17 : Int → Int → (List Bool) → Int → Int → Option (Int × Int × Int))
    (hbackl17 : ∀ (H : Hp) (w : World) (a0 : Int) (a1 : Int) (a2 : List Bool) (Aa2 : Option Addr) (ca2 : Nat) (v_passed9 : Int) (v28 : Int), Sub H w → Ext w0 w → Kd.Row Kd.bool H Aa2 a2 → a2.length ≤ ca2 → backl17 a0 a1 a2 v_passed9 v28 = some r → RunL C7 (Ret (S7 w0 r)) [.c [1, 1, 1, 1, 0, 1, 0, 0], .l [1, 1, 1, 1, 0, 1, 0, 0], .b 0, .c [1, 1, 1, 1, 1]] [(0, .int .i64 a0), (1, .int .i64 a1), (9, .int .i64 v_passed9), (26, .slice Aa2 a2.length ca2), (27, .int .i64 (a2.length : Int)), (28, .int .i64 v28)] w) : ∀ (H : Hp) (w : World) (a0 : Int) (a1 : Int) (a2 : List Bool) (ad21 : Addr) (ca2 : Nat) (v28 : Int) (v_passed9 : Int), Sub H w → Ext w0 w → Kd.Row Kd.bool H (some ad21) a2 → a2.length ≤ ca2 → trials_Tried.j24 backl17 a0 a1 a2 v28 v_passed9 = some r → RunL C7 (Ret (S7 w0 r)) [.c [1, 1, 1, 1, 0, 1, 0, 0, 1, 1, 0, 0, 1, 1, 0], .c [1, 1, 1, 1, 0, 1, 0, 0, 1, 1, 0, 0, 1, 1, 1], .b 1, .c [1, 1, 1, 1, 0, 1, 0, 0, 1, 1, 1], .l [1, 1, 1, 1, 0, 1, 0, 0], .b 0, .c [1, 1, 1, 1, 1]] [(0, .int .i64 a0), (1, .int .i64 a1), (9, .int .i64 v_passed9), (10, .int .i64 v28), (26, .slice (some ad21) a2.length ca2), (27, .int .i64 (a2.length : Int)), (28, .int .i64 v28)] w := by
  intro H w a0 a1 a2 ad21 ca2 v28 v_passed9 hH hE hra2 hca2 heq
  unfold trials_Tried.j24 at heq
  refine RunL.reg (by kernel_rfl) ?_
  refine RgL.runk 3 [0, 1, 9, 12, 26, 27, 28] (vs := []) (evs := []) (L' := [(0, .int .i64 a0), (1, .int .i64 a1), (9, .int .i64 v_passed9), (12, .int .i64 (w64 (v28 + 1))), (26, .slice (some ad21) a2.length ca2), (27, .int .i64 (a2.length : Int)), (28, .int .i64 v28)]) (by kernel_rfl) (by kernel_rfl) trivial ?_
  refine RgL.done (by kernel_rfl) ?_
  refine RunL.adm 2 (es' := [.c [1, 1, 1, 1, 0, 1, 0, 0, 1, 1, 0, 0, 1, 1, 1, 0, 0], .c [1, 1, 1, 1, 0, 1, 0, 0, 1, 1, 0, 0, 1, 1, 1, 0, 1], .b 2, .b 1, .c [1, 1, 1, 1, 0, 1, 0, 0, 1, 1, 1], .l [1, 1, 1, 1, 0, 1, 0, 0], .b 0, .c [1, 1, 1, 1, 1]]) (by kernel_rfl) ?_
  refine RunL.reg (by kernel_rfl) ?_
  obtain ⟨t27, ht28, heq⟩ := bind_some heq
  have K29 : ∀ w2, Ext w w2 → RunL C7 (Ret (S7 w0 r)) [.c [1, 1, 1, 1, 0, 1, 0, 0, 1, 1, 0, 0, 1, 1, 1, 0, 1], .b 2, .b 1, .c [1, 1, 1, 1, 0, 1, 0, 0, 1, 1, 1], .l [1, 1, 1, 1, 0, 1, 0, 0], .b 0, .c [1, 1, 1, 1, 1]] [(0, .int .i64 a0), (1, .int .i64 a1), (9, .int .i64 v_passed9), (12, .int .i64 (w64 (v28 + 1))), (26, .slice (some ad21) a2.length ca2), (27, .int .i64 (a2.length : Int)), (28, .int .i64 v28), (38, .bool t27)] w2 := by
    intro w hx
    replace hH := hH.ext hx
    replace hE := hE.then hx
    rcases bool_cases (t27) with hb30 | hb30
    · replace heq := bif_true hb30 heq
      refine RunL.condT (c := t27) (by kernel_rfl) hb30 ?_
      refine RunL.adm 1 (es' := [.c [1, 1, 1, 1, 0, 1, 0, 0, 1, 1, 0, 0, 1, 1, 1, 0, 1, 0, 0], .c [1, 1, 1, 1, 0, 1, 0, 0, 1, 1, 0, 0, 1, 1, 1, 0, 1, 0, 1], .b 2, .b 1, .c [1, 1, 1, 1, 0, 1, 0, 0, 1, 1, 1], .l [1, 1, 1, 1, 0, 1, 0, 0], .b 0, .c [1, 1, 1, 1, 1]]) (by kernel_rfl) ?_
      refine RunL.reg (by kernel_rfl) ?_
      refine RgL.runk 4 [6, 7, 8] (vs := []) (evs := []) (L' := [(6, .int .i64 2), (7, .int .i64 (w64 (v28 + 1))), (8, .int .i64 0)]) (by kernel_rfl) (by kernel_rfl) trivial ?_
      refine RgL.done (by kernel_rfl) ?_
      obtain rfl := Option.some.inj heq
      exact RunL.done (by kernel_rfl) Try.func7 (v := .tuple #[.int .i64 2, .int .i64 (w64 (v28 + 1)), .int .i64 0]) (by kernel_rfl) ⟨hE, rfl⟩
    · replace heq := bif_false hb30 heq
      refine RunL.condF (c := t27) (by kernel_rfl) hb30 ?_
      refine RunL.adm 1 (es' := [.c [1, 1, 1, 1, 0, 1, 0, 0, 1, 1, 0, 0, 1, 1, 1, 0, 1, 1, 0], .c [1, 1, 1, 1, 0, 1, 0, 0, 1, 1, 0, 0, 1, 1, 1, 0, 1, 1, 1], .b 2, .b 1, .c [1, 1, 1, 1, 0, 1, 0, 0, 1, 1, 1], .l [1, 1, 1, 1, 0, 1, 0, 0], .b 0, .c [1, 1, 1, 1, 1]]) (by kernel_rfl) ?_
      refine RunL.reg (by kernel_rfl) ?_
      refine RgL.runk 4 [0, 1, 9, 12, 26, 27, 28, 48] (vs := []) (evs := []) (L' := [(0, .int .i64 a0), (1, .int .i64 a1), (9, .int .i64 v_passed9), (12, .int .i64 (w64 (v28 + 1))), (26, .slice (some ad21) a2.length ca2), (27, .int .i64 (a2.length : Int)), (28, .int .i64 v28), (48, .bool (v_passed9 == a1))]) (by kernel_rfl) (by kernel_rfl) trivial ?_
      refine RgL.done (by kernel_rfl) ?_
      rcases bool_cases (v_passed9 == a1) with hb33 | hb33
      · replace heq := bif_true hb33 heq
        refine RunL.condT (c := v_passed9 == a1) (by kernel_rfl) hb33 ?_
        refine RunL.adm 1 (es' := [.c [1, 1, 1, 1, 0, 1, 0, 0, 1, 1, 0, 0, 1, 1, 1, 0, 1, 1, 1, 0, 0], .c [1, 1, 1, 1, 0, 1, 0, 0, 1, 1, 0, 0, 1, 1, 1, 0, 1, 1, 1, 0, 1], .b 2, .b 1, .c [1, 1, 1, 1, 0, 1, 0, 0, 1, 1, 1], .l [1, 1, 1, 1, 0, 1, 0, 0], .b 0, .c [1, 1, 1, 1, 1]]) (by kernel_rfl) ?_
        refine RunL.reg (by kernel_rfl) ?_
        refine RgL.runk 4 [6, 7, 8] (vs := []) (evs := []) (L' := [(6, .int .i64 4), (7, .int .i64 (w64 (v28 + 1))), (8, .int .i64 0)]) (by kernel_rfl) (by kernel_rfl) trivial ?_
        refine RgL.done (by kernel_rfl) ?_
        obtain rfl := Option.some.inj heq
        exact RunL.done (by kernel_rfl) Try.func7 (v := .tuple #[.int .i64 4, .int .i64 (w64 (v28 + 1)), .int .i64 0]) (by kernel_rfl) ⟨hE, rfl⟩
      · replace heq := bif_false hb33 heq
        refine RunL.condF (c := v_passed9 == a1) (by kernel_rfl) hb33 ?_
        refine RunL.adm 1 (es' := [.c [1, 1, 1, 1, 0, 1, 0, 0, 1, 1, 0, 0, 1, 1, 1, 0, 1, 1, 1, 1, 0], .c [1, 1, 1, 1, 0, 1, 0, 0, 1, 1, 0, 0, 1, 1, 1, 0, 1, 1, 1, 1, 1], .b 2, .b 1, .c [1, 1, 1, 1, 0, 1, 0, 0, 1, 1, 1], .l [1, 1, 1, 1, 0, 1, 0, 0], .b 0, .c [1, 1, 1, 1, 1]]) (by kernel_rfl) ?_
        refine RunL.reg (by kernel_rfl) ?_
        refine RgL.runk 8 [0, 1, 9, 12, 26, 27, 28, 53] (vs := []) (evs := []) (L' := [(0, .int .i64 a0), (1, .int .i64 a1), (9, .int .i64 v_passed9), (12, .int .i64 (w64 (v28 + 1))), (26, .slice (some ad21) a2.length ca2), (27, .int .i64 (a2.length : Int)), (28, .int .i64 v28), (53, .bool (decide ((w64 ((w64 (v_passed9 + a0)) - (w64 (v28 + 1)))) < a1)))]) (by kernel_rfl) (by kernel_rfl) trivial ?_
        refine RgL.done (by kernel_rfl) ?_
        rcases bool_cases (decide ((w64 ((w64 (v_passed9 + a0)) - (w64 (v28 + 1)))) < a1)) with hb36 | hb36
        · replace heq := bif_true hb36 heq
          refine RunL.condT (c := decide ((w64 ((w64 (v_passed9 + a0)) - (w64 (v28 + 1)))) < a1)) (by kernel_rfl) hb36 ?_
          refine RunL.adm 1 (es' := [.c [1, 1, 1, 1, 0, 1, 0, 0, 1, 1, 0, 0, 1, 1, 1, 0, 1, 1, 1, 1, 1, 0, 0], .c [1, 1, 1, 1, 0, 1, 0, 0, 1, 1, 0, 0, 1, 1, 1, 0, 1, 1, 1, 1, 1, 0, 1], .b 2, .b 1, .c [1, 1, 1, 1, 0, 1, 0, 0, 1, 1, 1], .l [1, 1, 1, 1, 0, 1, 0, 0], .b 0, .c [1, 1, 1, 1, 1]]) (by kernel_rfl) ?_
          refine RunL.reg (by kernel_rfl) ?_
          refine RgL.runk 4 [6, 7, 8] (vs := []) (evs := []) (L' := [(6, .int .i64 3), (7, .int .i64 (w64 (v28 + 1))), (8, .int .i64 0)]) (by kernel_rfl) (by kernel_rfl) trivial ?_
          refine RgL.done (by kernel_rfl) ?_
          obtain rfl := Option.some.inj heq
          exact RunL.done (by kernel_rfl) Try.func7 (v := .tuple #[.int .i64 3, .int .i64 (w64 (v28 + 1)), .int .i64 0]) (by kernel_rfl) ⟨hE, rfl⟩
        · replace heq := bif_false hb36 heq
          refine RunL.condF (c := decide ((w64 ((w64 (v_passed9 + a0)) - (w64 (v28 + 1)))) < a1)) (by kernel_rfl) hb36 ?_
          refine RunL.adm 3 (es' := [.c [1, 1, 1, 1, 0, 1, 0, 0, 1, 1, 1], .l [1, 1, 1, 1, 0, 1, 0, 0], .b 0, .c [1, 1, 1, 1, 1]]) (by kernel_rfl) ?_
          refine RunL.reg (by kernel_rfl) ?_
          refine RgL.runk 2 [0, 1, 9, 26, 27, 28] (vs := []) (evs := []) (L' := [(0, .int .i64 a0), (1, .int .i64 a1), (9, .int .i64 v_passed9), (26, .slice (some ad21) a2.length ca2), (27, .int .i64 (a2.length : Int)), (28, .int .i64 (w64 (v28 + 1)))]) (by kernel_rfl) (by kernel_rfl) trivial ?_
          refine RgL.done (by kernel_rfl) ?_
          refine RunL.adm 1 (es' := [.c [1, 1, 1, 1, 0, 1, 0, 0], .l [1, 1, 1, 1, 0, 1, 0, 0], .b 0, .c [1, 1, 1, 1, 1]]) (by kernel_rfl) ?_
          refine RunL.keep [0, 1, 9, 26, 27, 28] (L' := [(0, .int .i64 a0), (1, .int .i64 a1), (9, .int .i64 v_passed9), (26, .slice (some ad21) a2.length ca2), (27, .int .i64 (a2.length : Int)), (28, .int .i64 (w64 (v28 + 1)))]) (by kernel_rfl) ?_
          exact hbackl17 _ _ _ _ _ _ _ _ _ hH hE hra2 hca2 heq
  replace heq := ht28
  have hE0 := Ext.refl w
  refine RgL.runk 4 [42, 0, 1, 9, 12, 26, 27, 28] (vs := []) (evs := []) (L' := [(42, .bool (v_passed9 == a1)), (0, .int .i64 a0), (1, .int .i64 a1), (9, .int .i64 v_passed9), (12, .int .i64 (w64 (v28 + 1))), (26, .slice (some ad21) a2.length ca2), (27, .int .i64 (a2.length : Int)), (28, .int .i64 v28)]) (by kernel_rfl) (by kernel_rfl) trivial ?_
  rcases bool_cases (v_passed9 == a1) with hb39 | hb39
  · replace heq := bif_true hb39 heq
    refine RgL.bool1 hb39 ?_
    refine RgL.runk 9 [0, 1, 9, 12, 26, 27, 28, 38] (vs := []) (evs := []) (L' := [(0, .int .i64 a0), (1, .int .i64 a1), (9, .int .i64 v_passed9), (12, .int .i64 (w64 (v28 + 1))), (26, .slice (some ad21) a2.length ca2), (27, .int .i64 (a2.length : Int)), (28, .int .i64 v28), (38, .bool ((w64 (v28 + 1)) == a1))]) (by kernel_rfl) (by kernel_rfl) trivial ?_
    obtain rfl := Option.some.inj heq
    refine RgL.keep [0, 1, 9, 12, 26, 27, 28, 38] (L' := [(0, .int .i64 a0), (1, .int .i64 a1), (9, .int .i64 v_passed9), (12, .int .i64 (w64 (v28 + 1))), (26, .slice (some ad21) a2.length ca2), (27, .int .i64 (a2.length : Int)), (28, .int .i64 v28), (38, .bool ((w64 (v28 + 1)) == a1))]) (by kernel_rfl) ?_
    exact RgL.done (by kernel_rfl) (K29 _ hE0)
  · replace heq := bif_false hb39 heq
    refine RgL.bool1 hb39 ?_
    refine RgL.runk 9 [0, 1, 9, 12, 26, 27, 28, 38] (vs := []) (evs := []) (L' := [(0, .int .i64 a0), (1, .int .i64 a1), (9, .int .i64 v_passed9), (12, .int .i64 (w64 (v28 + 1))), (26, .slice (some ad21) a2.length ca2), (27, .int .i64 (a2.length : Int)), (28, .int .i64 v28), (38, .bool false)]) (by kernel_rfl) (by kernel_rfl) trivial ?_
    obtain rfl := Option.some.inj heq
    refine RgL.keep [0, 1, 9, 12, 26, 27, 28, 38] (L' := [(0, .int .i64 a0), (1, .int .i64 a1), (9, .int .i64 v_passed9), (12, .int .i64 (w64 (v28 + 1))), (26, .slice (some ad21) a2.length ca2), (27, .int .i64 (a2.length : Int)), (28, .int .i64 v28), (38, .bool false)]) (by kernel_rfl) ?_
    exact RgL.done (by kernel_rfl) (K29 _ hE0)
theorem trials_Tried.l17_c {w0 : World} {r : Int × Int × Int} (e15 : Int → Option (Int × Int × Int))
    (he15 : ∀ (H : Hp) (w : World) (a0 : Int), Sub H w → Ext w0 w → e15 a0 = some r → RunL C7 (Ret (S7 w0 r)) [.c [1, 1, 1, 1, 1, 0], .c [1, 1, 1, 1, 1, 1]] [(0, .int .i64 a0)] w) : ∀ (k : Nat), ∀ (H : Hp) (w : World) (a0 : Int) (a1 : Int) (a2 : List Bool) (Aa2 : Option Addr) (ca2 : Nat) (v_passed9 : Int) (v28 : Int), Sub H w → Ext w0 w → Kd.Row Kd.bool H Aa2 a2 → a2.length ≤ ca2 → trials_Tried.l17 e15 k a0 a1 a2 v_passed9 v28 = some r → RunL C7 (Ret (S7 w0 r)) [.c [1, 1, 1, 1, 0, 1, 0, 0], .l [1, 1, 1, 1, 0, 1, 0, 0], .b 0, .c [1, 1, 1, 1, 1]] [(0, .int .i64 a0), (1, .int .i64 a1), (9, .int .i64 v_passed9), (26, .slice Aa2 a2.length ca2), (27, .int .i64 (a2.length : Int)), (28, .int .i64 v28)] w := by
  intro k
  induction k with
  | zero => intro H w a0 a1 a2 Aa2 ca2 v_passed9 v28 hH hE hra2 hca2 heq; exact nomatch (show (none : Option (Int × Int × Int)) = some r from heq)
  | succ k ih =>
    intro H w a0 a1 a2 Aa2 ca2 v_passed9 v28 hH hE hra2 hca2 heq
    rw [trials_Tried.l17] at heq
    refine RunL.adm 1 (es' := [.c [1, 1, 1, 1, 0, 1, 0, 0, 0], .c [1, 1, 1, 1, 0, 1, 0, 0, 1], .l [1, 1, 1, 1, 0, 1, 0, 0], .b 0, .c [1, 1, 1, 1, 1]]) (by kernel_rfl) ?_
    refine RunL.reg (by kernel_rfl) ?_
    refine RgL.runk 1 [0, 1, 9, 26, 27, 28, 29] (vs := []) (evs := []) (L' := [(0, .int .i64 a0), (1, .int .i64 a1), (9, .int .i64 v_passed9), (26, .slice Aa2 a2.length ca2), (27, .int .i64 (a2.length : Int)), (28, .int .i64 v28), (29, .bool (decide (v28 < (a2.length : Int))))]) (by kernel_rfl) (by kernel_rfl) trivial ?_
    refine RgL.done (by kernel_rfl) ?_
    refine RunL.adm 1 (es' := [.c [1, 1, 1, 1, 0, 1, 0, 0, 1, 0], .c [1, 1, 1, 1, 0, 1, 0, 0, 1, 1], .l [1, 1, 1, 1, 0, 1, 0, 0], .b 0, .c [1, 1, 1, 1, 1]]) (by kernel_rfl) ?_
    rcases bool_cases (decide (v28 < (a2.length : Int))) with hb19 | hb19
    · replace heq := bif_true hb19 heq
      refine RunL.condT (c := decide (v28 < (a2.length : Int))) (by kernel_rfl) hb19 ?_
      refine RunL.adm 4 (es' := [.c [1, 1, 1, 1, 0, 1, 0, 0, 1, 1, 0, 0, 0], .c [1, 1, 1, 1, 0, 1, 0, 0, 1, 1, 0, 0, 1], .b 1, .c [1, 1, 1, 1, 0, 1, 0, 0, 1, 1, 1], .l [1, 1, 1, 1, 0, 1, 0, 0], .b 0, .c [1, 1, 1, 1, 1]]) (by kernel_rfl) ?_
      refine RunL.reg (by kernel_rfl) ?_
      obtain ⟨x20, hx20, heq⟩ := bind_some heq
      obtain ⟨ad21, rfl⟩ := hra2.addr hx20
      obtain ⟨csx20, hKx20, hcx20⟩ := hra2.get hx20
      obtain rfl : csx20 = [.bool x20] := hKx20
      refine RgL.runk 5 [0, 1, 9, 10, 11, 26, 27, 28] (vs := [.bool x20]) (evs := [.need (0 ≤ v28 ∧ v28 < (a2.length : Int)), .load (ad21.add (v28.toNat * 1)) (.bool x20)]) (L' := [(0, .int .i64 a0), (1, .int .i64 a1), (9, .int .i64 v_passed9), (10, .int .i64 v28), (11, .bool x20), (26, .slice (some ad21) a2.length ca2), (27, .int .i64 (a2.length : Int)), (28, .int .i64 v28)]) (by kernel_rfl) (by kernel_rfl) ⟨⟨(at?_some hx20).1, (at?_some hx20).2.1⟩, hcx20 _ hH 0 _ rfl⟩ ?_
      refine RgL.done (by kernel_rfl) ?_
      refine RunL.adm 2 (es' := [.c [1, 1, 1, 1, 0, 1, 0, 0, 1, 1, 0, 0, 1, 0, 0], .c [1, 1, 1, 1, 0, 1, 0, 0, 1, 1, 0, 0, 1, 0, 1], .c [1, 1, 1, 1, 0, 1, 0, 0, 1, 1, 0, 0, 1, 1], .b 1, .c [1, 1, 1, 1, 0, 1, 0, 0, 1, 1, 1], .l [1, 1, 1, 1, 0, 1, 0, 0], .b 0, .c [1, 1, 1, 1, 1]]) (by kernel_rfl) ?_
      refine RunL.reg (by kernel_rfl) ?_
      refine RgL.runk 1 [0, 1, 9, 10, 26, 27, 28, 33] (vs := []) (evs := []) (L' := [(0, .int .i64 a0), (1, .int .i64 a1), (9, .int .i64 v_passed9), (10, .int .i64 v28), (26, .slice (some ad21) a2.length ca2), (27, .int .i64 (a2.length : Int)), (28, .int .i64 v28), (33, .bool x20)]) (by kernel_rfl) (by kernel_rfl) trivial ?_
      refine RgL.done (by kernel_rfl) ?_
      rcases bool_cases (x20) with hb40 | hb40
      · replace heq := bif_true hb40 heq
        refine RunL.condT (c := x20) (by kernel_rfl) hb40 ?_
        refine RunL.reg (by kernel_rfl) ?_
        refine RgL.runk 3 [0, 1, 9, 10, 26, 27, 28] (vs := []) (evs := []) (L' := [(0, .int .i64 a0), (1, .int .i64 a1), (9, .int .i64 (w64 (v_passed9 + 1))), (10, .int .i64 v28), (26, .slice (some ad21) a2.length ca2), (27, .int .i64 (a2.length : Int)), (28, .int .i64 v28)]) (by kernel_rfl) (by kernel_rfl) trivial ?_
        refine RgL.done (by kernel_rfl) ?_
        refine RunL.adm 1 (es' := [.c [1, 1, 1, 1, 0, 1, 0, 0, 1, 1, 0, 0, 1, 1, 0], .c [1, 1, 1, 1, 0, 1, 0, 0, 1, 1, 0, 0, 1, 1, 1], .b 1, .c [1, 1, 1, 1, 0, 1, 0, 0, 1, 1, 1], .l [1, 1, 1, 1, 0, 1, 0, 0], .b 0, .c [1, 1, 1, 1, 1]]) (by kernel_rfl) ?_
        refine RunL.keep [0, 1, 9, 10, 26, 27, 28] (L' := [(0, .int .i64 a0), (1, .int .i64 a1), (9, .int .i64 (w64 (v_passed9 + 1))), (10, .int .i64 v28), (26, .slice (some ad21) a2.length ca2), (27, .int .i64 (a2.length : Int)), (28, .int .i64 v28)]) (by kernel_rfl) ?_
        exact (trials_Tried.j24_c (trials_Tried.l17 e15 k) ih) _ _ _ _ _ _ _ _ _ hH hE hra2 hca2 heq
      · replace heq := bif_false hb40 heq
        refine RunL.condF (c := x20) (by kernel_rfl) hb40 ?_
        refine RunL.adm 2 (es' := [.c [1, 1, 1, 1, 0, 1, 0, 0, 1, 1, 0, 0, 1, 1, 0], .c [1, 1, 1, 1, 0, 1, 0, 0, 1, 1, 0, 0, 1, 1, 1], .b 1, .c [1, 1, 1, 1, 0, 1, 0, 0, 1, 1, 1], .l [1, 1, 1, 1, 0, 1, 0, 0], .b 0, .c [1, 1, 1, 1, 1]]) (by kernel_rfl) ?_
        refine RunL.keep [0, 1, 9, 10, 26, 27, 28] (L' := [(0, .int .i64 a0), (1, .int .i64 a1), (9, .int .i64 v_passed9), (10, .int .i64 v28), (26, .slice (some ad21) a2.length ca2), (27, .int .i64 (a2.length : Int)), (28, .int .i64 v28)]) (by kernel_rfl) ?_
        exact (trials_Tried.j24_c (trials_Tried.l17 e15 k) ih) _ _ _ _ _ _ _ _ _ hH hE hra2 hca2 heq
    · replace heq := bif_false hb19 heq
      refine RunL.condF (c := decide (v28 < (a2.length : Int))) (by kernel_rfl) hb19 ?_
      refine RunL.adm 2 (es' := [.c [1, 1, 1, 1, 1, 0], .c [1, 1, 1, 1, 1, 1]]) (by kernel_rfl) ?_
      refine RunL.keep [0] (L' := [(0, .int .i64 a0)]) (by kernel_rfl) ?_
      exact he15 _ _ _ hH hE  heq
theorem trials_Tried_c {w0 : World} {H : Hp} {a0 : Int} {a1 : Int} {a2 : List Bool} {Aa2 : Option Addr} {ca2 : Nat} {r : Int × Int × Int} (hH : Sub H w0) (hra2 : Kd.Row Kd.bool H Aa2 a2) (hca2 : a2.length ≤ ca2) (heq : trials_Tried.f a0 a1 a2 = some r) : Calls Try.prog 7 #[.int .i64 a0, .int .i64 a1, .slice Aa2 a2.length ca2] w0 (Ret (S7 w0 r)) := by
  refine calls_of_runL (F := C7) Try.func7 (by kernel_rfl) Try.ntmps7 (args := [.int .i64 a0, .int .i64 a1, .slice Aa2 a2.length ca2]) (by kernel_rfl) ?_
  unfold trials_Tried.f at heq
  suffices h : ∀ w, Ext w0 w → Sub H w → RunL C7 (Ret (S7 w0 r)) [.c []] (argL 0 [.int .i64 a0, .int .i64 a1, .slice Aa2 a2.length ca2]) w from h w0 (Ext.refl w0) hH
  clear hH
  intro w hE hH
  refine RunL.adm 1 (es' := [.c [0], .c [1]]) (by kernel_rfl) ?_
  refine RunL.reg (by kernel_rfl) ?_
  refine RgL.runk 3 [0, 1, 2] (vs := []) (evs := []) (L' := [(0, .int .i64 a0), (1, .int .i64 a1), (2, .slice Aa2 a2.length ca2)]) (by kernel_rfl) (by kernel_rfl) trivial ?_
  refine RgL.done (by kernel_rfl) ?_
  refine RunL.adm 2 (es' := [.c [1, 0, 0], .c [1, 0, 1], .c [1, 1]]) (by kernel_rfl) ?_
  refine RunL.reg (by kernel_rfl) ?_
  obtain ⟨t5, ht6, heq⟩ := bind_some heq
  have K7 : ∀ w2, Ext w w2 → RunL C7 (Ret (S7 w0 r)) [.c [1, 0, 1], .c [1, 1]] [(0, .int .i64 a0), (1, .int .i64 a1), (2, .slice Aa2 a2.length ca2), (21, .bool t5)] w2 := by
    intro w hx
    replace hH := hH.ext hx
    replace hE := hE.then hx
    rcases bool_cases (t5) with hb8 | hb8
    · replace heq := bif_true hb8 heq
      refine RunL.condT (c := t5) (by kernel_rfl) hb8 ?_
      refine RunL.adm 1 (es' := [.c [1, 0, 1, 0, 0], .c [1, 0, 1, 0, 1], .c [1, 1]]) (by kernel_rfl) ?_
      refine RunL.reg (by kernel_rfl) ?_
      refine RgL.runk 3 [6, 7, 8] (vs := []) (evs := []) (L' := [(6, .int .i64 0), (7, .int .i64 0), (8, .int .i64 1)]) (by kernel_rfl) (by kernel_rfl) trivial ?_
      refine RgL.done (by kernel_rfl) ?_
      obtain rfl := Option.some.inj heq
      exact RunL.done (by kernel_rfl) Try.func7 (v := .tuple #[.int .i64 0, .int .i64 0, .int .i64 1]) (by kernel_rfl) ⟨hE, rfl⟩
    · replace heq := bif_false hb8 heq
      refine RunL.condF (c := t5) (by kernel_rfl) hb8 ?_
      refine RunL.adm 3 (es' := [.c [1, 1, 0, 0], .c [1, 1, 0, 1], .c [1, 1, 1]]) (by kernel_rfl) ?_
      refine RunL.reg (by kernel_rfl) ?_
      refine RgL.runk 4 [0, 1, 2, 25] (vs := []) (evs := []) (L' := [(0, .int .i64 a0), (1, .int .i64 a1), (2, .slice Aa2 a2.length ca2), (25, .bool ((a2.length : Int) != a0))]) (by kernel_rfl) (by kernel_rfl) trivial ?_
      refine RgL.done (by kernel_rfl) ?_
      rcases bool_cases ((a2.length : Int) != a0) with hb11 | hb11
      · replace heq := bif_true hb11 heq
        refine RunL.condT (c := (a2.length : Int) != a0) (by kernel_rfl) hb11 ?_
        refine RunL.adm 1 (es' := [.c [1, 1, 0, 1, 0, 0], .c [1, 1, 0, 1, 0, 1], .c [1, 1, 1]]) (by kernel_rfl) ?_
        refine RunL.reg (by kernel_rfl) ?_
        refine RgL.runk 3 [6, 7, 8] (vs := []) (evs := []) (L' := [(6, .int .i64 0), (7, .int .i64 0), (8, .int .i64 3)]) (by kernel_rfl) (by kernel_rfl) trivial ?_
        refine RgL.done (by kernel_rfl) ?_
        obtain rfl := Option.some.inj heq
        exact RunL.done (by kernel_rfl) Try.func7 (v := .tuple #[.int .i64 0, .int .i64 0, .int .i64 3]) (by kernel_rfl) ⟨hE, rfl⟩
      · replace heq := bif_false hb11 heq
        refine RunL.condF (c := (a2.length : Int) != a0) (by kernel_rfl) hb11 ?_
        refine RunL.adm 2 (es' := [.c [1, 1, 1, 0], .c [1, 1, 1, 1]]) (by kernel_rfl) ?_
        refine RunL.reg (by kernel_rfl) ?_
        refine RgL.runk 1 [0, 1, 2, 9] (vs := []) (evs := []) (L' := [(0, .int .i64 a0), (1, .int .i64 a1), (2, .slice Aa2 a2.length ca2), (9, .int .i64 0)]) (by kernel_rfl) (by kernel_rfl) trivial ?_
        refine RgL.done (by kernel_rfl) ?_
        refine RunL.adm 2 (es' := [.c [1, 1, 1, 1, 0, 0], .c [1, 1, 1, 1, 0, 1], .c [1, 1, 1, 1, 1]]) (by kernel_rfl) ?_
        refine RunL.reg (by kernel_rfl) ?_
        refine RgL.runk 3 [0, 1, 9, 26, 27, 28] (vs := []) (evs := []) (L' := [(0, .int .i64 a0), (1, .int .i64 a1), (9, .int .i64 0), (26, .slice Aa2 a2.length ca2), (27, .int .i64 (a2.length : Int)), (28, .int .i64 0)]) (by kernel_rfl) (by kernel_rfl) trivial ?_
        refine RgL.done (by kernel_rfl) ?_
        refine RunL.adm 2 (es' := [.c [1, 1, 1, 1, 0, 1, 0, 0], .l [1, 1, 1, 1, 0, 1, 0, 0], .b 0, .c [1, 1, 1, 1, 1]]) (by kernel_rfl) ?_
        refine RunL.keep [0, 1, 9, 26, 27, 28] (L' := [(0, .int .i64 a0), (1, .int .i64 a1), (9, .int .i64 0), (26, .slice Aa2 a2.length ca2), (27, .int .i64 (a2.length : Int)), (28, .int .i64 0)]) (by kernel_rfl) ?_
        exact (trials_Tried.l17_c trials_Tried.e15 (trials_Tried.e15_c)) (((a2.length : Int) - 0).toNat + 1) _ _ _ _ _ _ _ _ _ hH hE hra2 hca2 heq
  replace heq := ht6
  have hE0 := Ext.refl w
  refine RgL.runk 1 [0, 1, 2, 13] (vs := []) (evs := []) (L' := [(0, .int .i64 a0), (1, .int .i64 a1), (2, .slice Aa2 a2.length ca2), (13, .int .i64 a0)]) (by kernel_rfl) (by kernel_rfl) trivial ?_
  obtain ⟨y2, hy2, heq⟩ := bind_some heq
  refine RgL.call (d := some 14) (g := 19) (args := #[.int .i64 a0, .int .i64 1, .int .i64 100]) (by kernel_rfl) (trials_within_c hH  hy2) ?_
  rintro _ w ⟨hx42, rfl⟩
  replace hH := hH.ext hx42
  replace hE := hE.then hx42
  try replace hE0 := hE0.then hx42
  refine RgL.runk 4 [16, 0, 1, 2] (vs := []) (evs := []) (L' := [(16, .bool (!y2)), (0, .int .i64 a0), (1, .int .i64 a1), (2, .slice Aa2 a2.length ca2)]) (by kernel_rfl) (by kernel_rfl) trivial ?_
  rcases bool_cases (!y2) with hb43 | hb43
  · replace heq := bif_true hb43 heq
    refine RgL.bool1 hb43 ?_
    refine RgL.runk 9 [0, 1, 2, 21] (vs := []) (evs := []) (L' := [(0, .int .i64 a0), (1, .int .i64 a1), (2, .slice Aa2 a2.length ca2), (21, .bool true)]) (by kernel_rfl) (by kernel_rfl) trivial ?_
    obtain rfl := Option.some.inj heq
    refine RgL.keep [0, 1, 2, 21] (L' := [(0, .int .i64 a0), (1, .int .i64 a1), (2, .slice Aa2 a2.length ca2), (21, .bool true)]) (by kernel_rfl) ?_
    exact RgL.done (by kernel_rfl) (K7 _ hE0)
  · replace heq := bif_false hb43 heq
    refine RgL.bool1 hb43 ?_
    refine RgL.runk 6 [0, 1, 2, 16, 17, 18] (vs := []) (evs := []) (L' := [(0, .int .i64 a0), (1, .int .i64 a1), (2, .slice Aa2 a2.length ca2), (16, .bool false), (17, .int .i64 a1), (18, .int .i64 a0)]) (by kernel_rfl) (by kernel_rfl) trivial ?_
    obtain ⟨y3, hy3, heq⟩ := bind_some heq
    refine RgL.call (d := some 19) (g := 19) (args := #[.int .i64 a1, .int .i64 1, .int .i64 a0]) (by kernel_rfl) (trials_within_c hH  hy3) ?_
    rintro _ w ⟨hx44, rfl⟩
    replace hH := hH.ext hx44
    replace hE := hE.then hx44
    try replace hE0 := hE0.then hx44
    refine RgL.runk 9 [0, 1, 2, 21] (vs := []) (evs := []) (L' := [(0, .int .i64 a0), (1, .int .i64 a1), (2, .slice Aa2 a2.length ca2), (21, .bool (!y3))]) (by kernel_rfl) (by kernel_rfl) trivial ?_
    obtain rfl := Option.some.inj heq
    refine RgL.keep [0, 1, 2, 21] (L' := [(0, .int .i64 a0), (1, .int .i64 a1), (2, .slice Aa2 a2.length ca2), (21, .bool (!y3))]) (by kernel_rfl) ?_
    exact RgL.done (by kernel_rfl) (K7 _ hE0)
noncomputable def C8 : Ctx := { P := Try.prog, f := 8, N := 20, c := bodyOf Try.f8 }
def S8 (w0 : World) (r : Bool) (v : Value) (w : World) : Prop := Ext w0 w ∧ v = .bool r
theorem smithyardlaw10_awake_c {w0 : World} {H : Hp} {r : Bool} (hH : Sub H w0) (heq : smithyardlaw10_awake.f = some r) : Calls Try.prog 8 (List.toArray []) w0 (Ret (S8 w0 r)) := by
  refine calls_of_runL (F := C8) Try.func8 (by kernel_rfl) Try.ntmps8 (args := []) (by kernel_rfl) ?_
  unfold smithyardlaw10_awake.f at heq
  suffices h : ∀ w, Ext w0 w → Sub H w → RunL C8 (Ret (S8 w0 r)) [.c []] (argL 0 []) w from h w0 (Ext.refl w0) hH
  clear hH
  intro w hE hH
  refine RunL.adm 1 (es' := [.c [0], .c [1]]) (by kernel_rfl) ?_
  refine RunL.reg (by kernel_rfl) ?_
  refine RgL.runk 1 [] (vs := []) (evs := []) (L' := []) (by kernel_rfl) (by kernel_rfl) trivial ?_
  refine RgL.done (by kernel_rfl) ?_
  refine RunL.adm 1 (es' := [.c [1, 0], .c [1, 1]]) (by kernel_rfl) ?_
  refine RunL.reg (by kernel_rfl) ?_
  refine RgL.new (d := some 5) (v := fun g => .slice (some ⟨g, 0, none⟩) ([false, true, true] : List Bool).length ([false, true, true] : List Bool).length) (o := fun g => .cells #[.bool false, .bool true, .bool true] 4 (0, 0)) (fun g => by kernel_rfl) ?_
  intro g2 w hgg2 hx5 hsg2 hbg2
  obtain ⟨H, hl, hH, hbH, hk⟩ := addH hH hx5 hgg2 hbg2
  replace hE := hE.then hx5
  try replace hE0 := hE0.then hx5
  have hrg2 : Kd.Row Kd.bool H (some ⟨g2, 0, none⟩) (([false, true, true] : List Bool) : List Bool) := Kd.Row.lit hbH (Kd.Rep.scalars rfl)
  clear hbH
  obtain ⟨y3, hy3, heq⟩ := bind_some heq
  refine RgL.call (d := some 6) (g := 7) (args := #[.int .i64 3, .int .i64 1, .slice (some ⟨g2, 0, none⟩) (([false, true, true] : List Bool).length) (([false, true, true] : List Bool).length)]) (by kernel_rfl) (trials_Tried_c hH hrg2 (Nat.le_refl _) hy3) ?_
  rintro _ w ⟨hx6, rfl⟩
  replace hH := hH.ext hx6
  replace hE := hE.then hx6
  try replace hE0 := hE0.then hx6
  refine RgL.runk 9 [1, 2, 3] (vs := []) (evs := []) (L' := [(1, .int .i64 y3.1), (2, .int .i64 y3.2.1), (3, .int .i64 y3.2.2)]) (by kernel_rfl) (by kernel_rfl) trivial ?_
  refine RgL.done (by kernel_rfl) ?_
  refine RunL.adm 1 (es' := [.c [1, 1, 0], .c [1, 1, 1]]) (by kernel_rfl) ?_
  refine RunL.reg (by kernel_rfl) ?_
  obtain ⟨t8, ht9, heq⟩ := bind_some heq
  have K10 : ∀ w2, Ext w w2 → RunL C8 (Ret (S8 w0 r)) [.c [1, 1, 1]] [(0, .bool t8)] w2 := by
    intro w hx
    replace hH := hH.ext hx
    replace hE := hE.then hx
    obtain rfl := Option.some.inj heq
    exact RunL.done (by kernel_rfl) Try.func8 (v := .bool t8) (by kernel_rfl) ⟨hE, rfl⟩
  replace heq := ht9
  have hE0 := Ext.refl w
  refine RgL.runk 3 [12, 1, 2] (vs := []) (evs := []) (L' := [(12, .bool (y3.2.2 == 0)), (1, .int .i64 y3.1), (2, .int .i64 y3.2.1)]) (by kernel_rfl) (by kernel_rfl) trivial ?_
  rcases bool_cases (y3.2.2 == 0) with hb11 | hb11
  · replace heq := bif_true hb11 heq
    refine RgL.bool1 hb11 ?_
    refine RgL.runk 7 [16, 2] (vs := []) (evs := []) (L' := [(16, .bool (y3.1 == 4)), (2, .int .i64 y3.2.1)]) (by kernel_rfl) (by kernel_rfl) trivial ?_
    rcases bool_cases (y3.1 == 4) with hb12 | hb12
    · replace heq := bif_true hb12 heq
      refine RgL.bool1 hb12 ?_
      refine RgL.runk 11 [0] (vs := []) (evs := []) (L' := [(0, .bool (y3.2.1 == 2))]) (by kernel_rfl) (by kernel_rfl) trivial ?_
      obtain rfl := Option.some.inj heq
      refine RgL.keep [0] (L' := [(0, .bool (y3.2.1 == 2))]) (by kernel_rfl) ?_
      exact RgL.done (by kernel_rfl) (K10 _ hE0)
    · replace heq := bif_false hb12 heq
      refine RgL.bool1 hb12 ?_
      refine RgL.runk 11 [0] (vs := []) (evs := []) (L' := [(0, .bool false)]) (by kernel_rfl) (by kernel_rfl) trivial ?_
      obtain rfl := Option.some.inj heq
      refine RgL.keep [0] (L' := [(0, .bool false)]) (by kernel_rfl) ?_
      exact RgL.done (by kernel_rfl) (K10 _ hE0)
  · replace heq := bif_false hb11 heq
    refine RgL.bool1 hb11 ?_
    refine RgL.runk 11 [0] (vs := []) (evs := []) (L' := [(0, .bool false)]) (by kernel_rfl) (by kernel_rfl) trivial ?_
    obtain rfl := Option.some.inj heq
    refine RgL.keep [0] (L' := [(0, .bool false)]) (by kernel_rfl) ?_
    exact RgL.done (by kernel_rfl) (K10 _ hE0)
noncomputable def C10 : Ctx := { P := Try.prog, f := 10, N := 55, c := bodyOf Try.f10 }
def S10 (w0 : World) (r : Int × Int × Int) (v : Value) (w : World) : Prop := Ext w0 w ∧ v = .tuple #[.int .i64 r.1, .int .i64 r.2.1, .int .i64 r.2.2]
theorem smithyardref10_Tried.e14_c {w0 : World} {r : Int × Int × Int} : ∀ (H : Hp) (w : World) (a1 : Int) (v_good9 : Int) (v_n10 : Int), Sub H w → Ext w0 w → smithyardref10_Tried.e14 a1 v_good9 v_n10 = some r → RunL C10 (Ret (S10 w0 r)) [.c [1, 1, 1, 1, 1, 0, 0, 0], .c [1, 1, 1, 1, 1, 0, 0, 1], .b 2, .c [1, 1, 1, 1, 1, 1]] [(1, .int .i64 a1), (9, .int .i64 v_good9), (10, .int .i64 v_n10)] w := by
  intro H w a1 v_good9 v_n10 hH hE  heq
  unfold smithyardref10_Tried.e14 at heq
  refine RunL.reg (by kernel_rfl) ?_
  refine RgL.runk 4 [9, 10, 44] (vs := []) (evs := []) (L' := [(9, .int .i64 v_good9), (10, .int .i64 v_n10), (44, .bool (decide (v_good9 < a1)))]) (by kernel_rfl) (by kernel_rfl) trivial ?_
  refine RgL.done (by kernel_rfl) ?_
  rcases bool_cases (decide (v_good9 < a1)) with hb16 | hb16
  · replace heq := bif_true hb16 heq
    refine RunL.condT (c := decide (v_good9 < a1)) (by kernel_rfl) hb16 ?_
    refine RunL.adm 1 (es' := [.c [1, 1, 1, 1, 1, 0, 0, 1, 0, 0], .c [1, 1, 1, 1, 1, 0, 0, 1, 0, 1], .b 2, .c [1, 1, 1, 1, 1, 1]]) (by kernel_rfl) ?_
    refine RunL.reg (by kernel_rfl) ?_
    refine RgL.runk 4 [6, 7, 8] (vs := []) (evs := []) (L' := [(6, .int .i64 3), (7, .int .i64 v_n10), (8, .int .i64 0)]) (by kernel_rfl) (by kernel_rfl) trivial ?_
    refine RgL.done (by kernel_rfl) ?_
    obtain rfl := Option.some.inj heq
    exact RunL.done (by kernel_rfl) Try.func10 (v := .tuple #[.int .i64 3, .int .i64 v_n10, .int .i64 0]) (by kernel_rfl) ⟨hE, rfl⟩
  · replace heq := bif_false hb16 heq
    refine RunL.condF (c := decide (v_good9 < a1)) (by kernel_rfl) hb16 ?_
    refine RunL.adm 1 (es' := [.c [1, 1, 1, 1, 1, 0, 0, 1, 1, 0], .c [1, 1, 1, 1, 1, 0, 0, 1, 1, 1], .b 2, .c [1, 1, 1, 1, 1, 1]]) (by kernel_rfl) ?_
    refine RunL.reg (by kernel_rfl) ?_
    refine RgL.runk 4 [10, 49] (vs := []) (evs := []) (L' := [(10, .int .i64 v_n10), (49, .bool (decide (v_good9 < v_n10)))]) (by kernel_rfl) (by kernel_rfl) trivial ?_
    refine RgL.done (by kernel_rfl) ?_
    rcases bool_cases (decide (v_good9 < v_n10)) with hb19 | hb19
    · replace heq := bif_true hb19 heq
      refine RunL.condT (c := decide (v_good9 < v_n10)) (by kernel_rfl) hb19 ?_
      refine RunL.adm 1 (es' := [.c [1, 1, 1, 1, 1, 0, 0, 1, 1, 1, 0, 0], .c [1, 1, 1, 1, 1, 0, 0, 1, 1, 1, 0, 1], .b 2, .c [1, 1, 1, 1, 1, 1]]) (by kernel_rfl) ?_
      refine RunL.reg (by kernel_rfl) ?_
      refine RgL.runk 4 [6, 7, 8] (vs := []) (evs := []) (L' := [(6, .int .i64 4), (7, .int .i64 v_n10), (8, .int .i64 0)]) (by kernel_rfl) (by kernel_rfl) trivial ?_
      refine RgL.done (by kernel_rfl) ?_
      obtain rfl := Option.some.inj heq
      exact RunL.done (by kernel_rfl) Try.func10 (v := .tuple #[.int .i64 4, .int .i64 v_n10, .int .i64 0]) (by kernel_rfl) ⟨hE, rfl⟩
    · replace heq := bif_false hb19 heq
      refine RunL.condF (c := decide (v_good9 < v_n10)) (by kernel_rfl) hb19 ?_
      refine RunL.adm 3 (es' := [.c [1, 1, 1, 1, 1, 1, 0], .c [1, 1, 1, 1, 1, 1, 1]]) (by kernel_rfl) ?_
      refine RunL.reg (by kernel_rfl) ?_
      refine RgL.runk 4 [6, 7, 8] (vs := []) (evs := []) (L' := [(6, .int .i64 2), (7, .int .i64 v_n10), (8, .int .i64 0)]) (by kernel_rfl) (by kernel_rfl) trivial ?_
      refine RgL.done (by kernel_rfl) ?_
      obtain rfl := Option.some.inj heq
      exact RunL.done (by kernel_rfl) Try.func10 (v := .tuple #[.int .i64 2, .int .i64 v_n10, .int .i64 0]) (by kernel_rfl) ⟨hE, rfl⟩
theorem smithyardref10_Tried.j31_c {w0 : World} {r : Int × Int × Int} (backl22 : Int → Int → (List Bool) → Int → Int → Option (Int × Int × Int))
    (hbackl22 : ∀ (H : Hp) (w : World) (a0 : Int) (a1 : Int) (a2 : List Bool) (Aa2 : Option Addr) (ca2 : Nat) (v_good9 : Int) (v_n10 : Int), Sub H w → Ext w0 w → Kd.Row Kd.bool H Aa2 a2 → a2.length ≤ ca2 → backl22 a0 a1 a2 v_good9 v_n10 = some r → RunL C10 (Ret (S10 w0 r)) [.c [1, 1, 1, 1, 0, 0, 0], .l [1, 1, 1, 1, 0, 0, 0], .b 0, .c [1, 1, 1, 1, 1]] [(0, .int .i64 a0), (1, .int .i64 a1), (2, .slice Aa2 a2.length ca2), (9, .int .i64 v_good9), (10, .int .i64 v_n10)] w) : ∀ (H : Hp) (w : World) (a0 : Int) (a1 : Int) (a2 : List Bool) (ad29 : Addr) (ca2 : Nat) (v_n10 : Int) (v_good9 : Int), Sub H w → Ext w0 w → Kd.Row Kd.bool H (some ad29) a2 → a2.length ≤ ca2 → smithyardref10_Tried.j31 backl22 a0 a1 a2 v_n10 v_good9 = some r → RunL C10 (Ret (S10 w0 r)) [.c [1, 1, 1, 1, 0, 0, 0, 1, 0, 1], .b 1, .l [1, 1, 1, 1, 0, 0, 0], .b 0, .c [1, 1, 1, 1, 1]] [(0, .int .i64 a0), (1, .int .i64 a1), (2, .slice (some ad29) a2.length ca2), (9, .int .i64 v_good9), (10, .int .i64 v_n10)] w := by
  intro H w a0 a1 a2 ad29 ca2 v_n10 v_good9 hH hE hra2 hca2 heq
  unfold smithyardref10_Tried.j31 at heq
  refine RunL.reg (by kernel_rfl) ?_
  refine RgL.runk 3 [0, 1, 2, 9, 10] (vs := []) (evs := []) (L' := [(0, .int .i64 a0), (1, .int .i64 a1), (2, .slice (some ad29) a2.length ca2), (9, .int .i64 v_good9), (10, .int .i64 (w64 (v_n10 + 1)))]) (by kernel_rfl) (by kernel_rfl) trivial ?_
  refine RgL.done (by kernel_rfl) ?_
  refine RunL.adm 2 (es' := [.c [1, 1, 1, 1, 0, 0, 0], .l [1, 1, 1, 1, 0, 0, 0], .b 0, .c [1, 1, 1, 1, 1]]) (by kernel_rfl) ?_
  refine RunL.keep [0, 1, 2, 9, 10] (L' := [(0, .int .i64 a0), (1, .int .i64 a1), (2, .slice (some ad29) a2.length ca2), (9, .int .i64 v_good9), (10, .int .i64 (w64 (v_n10 + 1)))]) (by kernel_rfl) ?_
  exact hbackl22 _ _ _ _ _ _ _ _ _ hH hE hra2 hca2 heq
theorem smithyardref10_Tried.l22_c {w0 : World} {r : Int × Int × Int} (e14 : Int → Int → Int → Option (Int × Int × Int))
    (he14 : ∀ (H : Hp) (w : World) (a1 : Int) (v_good9 : Int) (v_n10 : Int), Sub H w → Ext w0 w → e14 a1 v_good9 v_n10 = some r → RunL C10 (Ret (S10 w0 r)) [.c [1, 1, 1, 1, 1, 0, 0, 0], .c [1, 1, 1, 1, 1, 0, 0, 1], .b 2, .c [1, 1, 1, 1, 1, 1]] [(1, .int .i64 a1), (9, .int .i64 v_good9), (10, .int .i64 v_n10)] w) : ∀ (k : Nat), ∀ (H : Hp) (w : World) (a0 : Int) (a1 : Int) (a2 : List Bool) (Aa2 : Option Addr) (ca2 : Nat) (v_good9 : Int) (v_n10 : Int), Sub H w → Ext w0 w → Kd.Row Kd.bool H Aa2 a2 → a2.length ≤ ca2 → smithyardref10_Tried.l22 e14 k a0 a1 a2 v_good9 v_n10 = some r → RunL C10 (Ret (S10 w0 r)) [.c [1, 1, 1, 1, 0, 0, 0], .l [1, 1, 1, 1, 0, 0, 0], .b 0, .c [1, 1, 1, 1, 1]] [(0, .int .i64 a0), (1, .int .i64 a1), (2, .slice Aa2 a2.length ca2), (9, .int .i64 v_good9), (10, .int .i64 v_n10)] w := by
  intro k
  induction k with
  | zero => intro H w a0 a1 a2 Aa2 ca2 v_good9 v_n10 hH hE hra2 hca2 heq; exact nomatch (show (none : Option (Int × Int × Int)) = some r from heq)
  | succ k ih =>
    intro H w a0 a1 a2 Aa2 ca2 v_good9 v_n10 hH hE hra2 hca2 heq
    rw [smithyardref10_Tried.l22] at heq
    refine RunL.adm 2 (es' := [.c [1, 1, 1, 1, 0, 0, 0, 0, 0], .c [1, 1, 1, 1, 0, 0, 0, 0, 1], .c [1, 1, 1, 1, 0, 0, 0, 1], .l [1, 1, 1, 1, 0, 0, 0], .b 0, .c [1, 1, 1, 1, 1]]) (by kernel_rfl) ?_
    refine RunL.reg (by kernel_rfl) ?_
    obtain ⟨t24, ht25, heq⟩ := bind_some heq
    have K26 : ∀ w2, Ext w w2 → RunL C10 (Ret (S10 w0 r)) [.c [1, 1, 1, 1, 0, 0, 0, 0, 1], .c [1, 1, 1, 1, 0, 0, 0, 1], .l [1, 1, 1, 1, 0, 0, 0], .b 0, .c [1, 1, 1, 1, 1]] [(0, .int .i64 a0), (1, .int .i64 a1), (2, .slice Aa2 a2.length ca2), (9, .int .i64 v_good9), (10, .int .i64 v_n10), (35, .bool t24)] w2 := by
      intro w hx
      replace hH := hH.ext hx
      replace hE := hE.then hx
      rcases bool_cases (t24) with hb27 | hb27
      · replace heq := bif_true hb27 heq
        refine RunL.condT (c := t24) (by kernel_rfl) hb27 ?_
        refine RunL.adm 4 (es' := [.c [1, 1, 1, 1, 0, 0, 0, 1, 0, 0, 0], .c [1, 1, 1, 1, 0, 0, 0, 1, 0, 0, 1], .c [1, 1, 1, 1, 0, 0, 0, 1, 0, 1], .b 1, .l [1, 1, 1, 1, 0, 0, 0], .b 0, .c [1, 1, 1, 1, 1]]) (by kernel_rfl) ?_
        refine RunL.reg (by kernel_rfl) ?_
        obtain ⟨x28, hx28, heq⟩ := bind_some heq
        obtain ⟨ad29, rfl⟩ := hra2.addr hx28
        obtain ⟨csx28, hKx28, hcx28⟩ := hra2.get hx28
        obtain rfl : csx28 = [.bool x28] := hKx28
        refine RgL.runk 4 [0, 1, 2, 9, 10, 39] (vs := [.bool x28]) (evs := [.need (0 ≤ v_n10 ∧ v_n10 < (a2.length : Int)), .load (ad29.add (v_n10.toNat * 1)) (.bool x28)]) (L' := [(0, .int .i64 a0), (1, .int .i64 a1), (2, .slice (some ad29) a2.length ca2), (9, .int .i64 v_good9), (10, .int .i64 v_n10), (39, .bool x28)]) (by kernel_rfl) (by kernel_rfl) ⟨⟨(at?_some hx28).1, (at?_some hx28).2.1⟩, hcx28 _ hH 0 _ rfl⟩ ?_
        refine RgL.done (by kernel_rfl) ?_
        rcases bool_cases (x28) with hb33 | hb33
        · replace heq := bif_true hb33 heq
          refine RunL.condT (c := x28) (by kernel_rfl) hb33 ?_
          refine RunL.reg (by kernel_rfl) ?_
          refine RgL.runk 3 [0, 1, 2, 9, 10] (vs := []) (evs := []) (L' := [(0, .int .i64 a0), (1, .int .i64 a1), (2, .slice (some ad29) a2.length ca2), (9, .int .i64 (w64 (v_good9 + 1))), (10, .int .i64 v_n10)]) (by kernel_rfl) (by kernel_rfl) trivial ?_
          refine RgL.done (by kernel_rfl) ?_
          refine RunL.keep [0, 1, 2, 9, 10] (L' := [(0, .int .i64 a0), (1, .int .i64 a1), (2, .slice (some ad29) a2.length ca2), (9, .int .i64 (w64 (v_good9 + 1))), (10, .int .i64 v_n10)]) (by kernel_rfl) ?_
          exact (smithyardref10_Tried.j31_c (smithyardref10_Tried.l22 e14 k) ih) _ _ _ _ _ _ _ _ _ hH hE hra2 hca2 heq
        · replace heq := bif_false hb33 heq
          refine RunL.condF (c := x28) (by kernel_rfl) hb33 ?_
          refine RunL.adm 1 (es' := [.c [1, 1, 1, 1, 0, 0, 0, 1, 0, 1], .b 1, .l [1, 1, 1, 1, 0, 0, 0], .b 0, .c [1, 1, 1, 1, 1]]) (by kernel_rfl) ?_
          refine RunL.keep [0, 1, 2, 9, 10] (L' := [(0, .int .i64 a0), (1, .int .i64 a1), (2, .slice (some ad29) a2.length ca2), (9, .int .i64 v_good9), (10, .int .i64 v_n10)]) (by kernel_rfl) ?_
          exact (smithyardref10_Tried.j31_c (smithyardref10_Tried.l22 e14 k) ih) _ _ _ _ _ _ _ _ _ hH hE hra2 hca2 heq
      · replace heq := bif_false hb27 heq
        refine RunL.condF (c := t24) (by kernel_rfl) hb27 ?_
        refine RunL.adm 4 (es' := [.c [1, 1, 1, 1, 1, 0, 0, 0], .c [1, 1, 1, 1, 1, 0, 0, 1], .b 2, .c [1, 1, 1, 1, 1, 1]]) (by kernel_rfl) ?_
        refine RunL.keep [1, 9, 10] (L' := [(1, .int .i64 a1), (9, .int .i64 v_good9), (10, .int .i64 v_n10)]) (by kernel_rfl) ?_
        exact he14 _ _ _ _ _ hH hE  heq
    replace heq := ht25
    have hE0 := Ext.refl w
    refine RgL.runk 4 [27, 0, 1, 2, 9, 10] (vs := []) (evs := []) (L' := [(27, .bool (decide (v_good9 < a1))), (0, .int .i64 a0), (1, .int .i64 a1), (2, .slice Aa2 a2.length ca2), (9, .int .i64 v_good9), (10, .int .i64 v_n10)]) (by kernel_rfl) (by kernel_rfl) trivial ?_
    rcases bool_cases (decide (v_good9 < a1)) with hb35 | hb35
    · replace heq := bif_true hb35 heq
      refine RgL.bool1 hb35 ?_
      refine RgL.runk 12 [0, 1, 2, 9, 10, 35] (vs := []) (evs := []) (L' := [(0, .int .i64 a0), (1, .int .i64 a1), (2, .slice Aa2 a2.length ca2), (9, .int .i64 v_good9), (10, .int .i64 v_n10), (35, .bool (decide (a1 ≤ (w64 ((w64 (v_good9 + a0)) - v_n10)))))]) (by kernel_rfl) (by kernel_rfl) trivial ?_
      obtain rfl := Option.some.inj heq
      refine RgL.keep [0, 1, 2, 9, 10, 35] (L' := [(0, .int .i64 a0), (1, .int .i64 a1), (2, .slice Aa2 a2.length ca2), (9, .int .i64 v_good9), (10, .int .i64 v_n10), (35, .bool (decide (a1 ≤ (w64 ((w64 (v_good9 + a0)) - v_n10)))))]) (by kernel_rfl) ?_
      exact RgL.done (by kernel_rfl) (K26 _ hE0)
    · replace heq := bif_false hb35 heq
      refine RgL.bool1 hb35 ?_
      refine RgL.runk 12 [0, 1, 2, 9, 10, 35] (vs := []) (evs := []) (L' := [(0, .int .i64 a0), (1, .int .i64 a1), (2, .slice Aa2 a2.length ca2), (9, .int .i64 v_good9), (10, .int .i64 v_n10), (35, .bool false)]) (by kernel_rfl) (by kernel_rfl) trivial ?_
      obtain rfl := Option.some.inj heq
      refine RgL.keep [0, 1, 2, 9, 10, 35] (L' := [(0, .int .i64 a0), (1, .int .i64 a1), (2, .slice Aa2 a2.length ca2), (9, .int .i64 v_good9), (10, .int .i64 v_n10), (35, .bool false)]) (by kernel_rfl) ?_
      exact RgL.done (by kernel_rfl) (K26 _ hE0)
theorem smithyardref10_Tried_c {w0 : World} {H : Hp} {a0 : Int} {a1 : Int} {a2 : List Bool} {Aa2 : Option Addr} {ca2 : Nat} {r : Int × Int × Int} (hH : Sub H w0) (hra2 : Kd.Row Kd.bool H Aa2 a2) (hca2 : a2.length ≤ ca2) (heq : smithyardref10_Tried.f a0 a1 a2 = some r) : Calls Try.prog 10 #[.int .i64 a0, .int .i64 a1, .slice Aa2 a2.length ca2] w0 (Ret (S10 w0 r)) := by
  refine calls_of_runL (F := C10) Try.func10 (by kernel_rfl) Try.ntmps10 (args := [.int .i64 a0, .int .i64 a1, .slice Aa2 a2.length ca2]) (by kernel_rfl) ?_
  unfold smithyardref10_Tried.f at heq
  suffices h : ∀ w, Ext w0 w → Sub H w → RunL C10 (Ret (S10 w0 r)) [.c []] (argL 0 [.int .i64 a0, .int .i64 a1, .slice Aa2 a2.length ca2]) w from h w0 (Ext.refl w0) hH
  clear hH
  intro w hE hH
  refine RunL.adm 1 (es' := [.c [0], .c [1]]) (by kernel_rfl) ?_
  refine RunL.reg (by kernel_rfl) ?_
  refine RgL.runk 3 [0, 1, 2] (vs := []) (evs := []) (L' := [(0, .int .i64 a0), (1, .int .i64 a1), (2, .slice Aa2 a2.length ca2)]) (by kernel_rfl) (by kernel_rfl) trivial ?_
  refine RgL.done (by kernel_rfl) ?_
  refine RunL.adm 2 (es' := [.c [1, 0, 0], .c [1, 0, 1], .c [1, 1]]) (by kernel_rfl) ?_
  refine RunL.reg (by kernel_rfl) ?_
  obtain ⟨t5, ht6, heq⟩ := bind_some heq
  have K7 : ∀ w2, Ext w w2 → RunL C10 (Ret (S10 w0 r)) [.c [1, 0, 1], .c [1, 1]] [(0, .int .i64 a0), (1, .int .i64 a1), (2, .slice Aa2 a2.length ca2), (19, .bool t5)] w2 := by
    intro w hx
    replace hH := hH.ext hx
    replace hE := hE.then hx
    rcases bool_cases (t5) with hb8 | hb8
    · replace heq := bif_true hb8 heq
      refine RunL.condT (c := t5) (by kernel_rfl) hb8 ?_
      refine RunL.adm 1 (es' := [.c [1, 0, 1, 0, 0], .c [1, 0, 1, 0, 1], .c [1, 1]]) (by kernel_rfl) ?_
      refine RunL.reg (by kernel_rfl) ?_
      refine RgL.runk 3 [6, 7, 8] (vs := []) (evs := []) (L' := [(6, .int .i64 0), (7, .int .i64 0), (8, .int .i64 1)]) (by kernel_rfl) (by kernel_rfl) trivial ?_
      refine RgL.done (by kernel_rfl) ?_
      obtain rfl := Option.some.inj heq
      exact RunL.done (by kernel_rfl) Try.func10 (v := .tuple #[.int .i64 0, .int .i64 0, .int .i64 1]) (by kernel_rfl) ⟨hE, rfl⟩
    · replace heq := bif_false hb8 heq
      refine RunL.condF (c := t5) (by kernel_rfl) hb8 ?_
      refine RunL.adm 3 (es' := [.c [1, 1, 0, 0], .c [1, 1, 0, 1], .c [1, 1, 1]]) (by kernel_rfl) ?_
      refine RunL.reg (by kernel_rfl) ?_
      refine RgL.runk 4 [0, 1, 2, 23] (vs := []) (evs := []) (L' := [(0, .int .i64 a0), (1, .int .i64 a1), (2, .slice Aa2 a2.length ca2), (23, .bool ((a2.length : Int) != a0))]) (by kernel_rfl) (by kernel_rfl) trivial ?_
      refine RgL.done (by kernel_rfl) ?_
      rcases bool_cases ((a2.length : Int) != a0) with hb11 | hb11
      · replace heq := bif_true hb11 heq
        refine RunL.condT (c := (a2.length : Int) != a0) (by kernel_rfl) hb11 ?_
        refine RunL.adm 1 (es' := [.c [1, 1, 0, 1, 0, 0], .c [1, 1, 0, 1, 0, 1], .c [1, 1, 1]]) (by kernel_rfl) ?_
        refine RunL.reg (by kernel_rfl) ?_
        refine RgL.runk 3 [6, 7, 8] (vs := []) (evs := []) (L' := [(6, .int .i64 0), (7, .int .i64 0), (8, .int .i64 3)]) (by kernel_rfl) (by kernel_rfl) trivial ?_
        refine RgL.done (by kernel_rfl) ?_
        obtain rfl := Option.some.inj heq
        exact RunL.done (by kernel_rfl) Try.func10 (v := .tuple #[.int .i64 0, .int .i64 0, .int .i64 3]) (by kernel_rfl) ⟨hE, rfl⟩
      · replace heq := bif_false hb11 heq
        refine RunL.condF (c := (a2.length : Int) != a0) (by kernel_rfl) hb11 ?_
        refine RunL.adm 2 (es' := [.c [1, 1, 1, 0], .c [1, 1, 1, 1]]) (by kernel_rfl) ?_
        refine RunL.reg (by kernel_rfl) ?_
        refine RgL.runk 2 [0, 1, 2, 9, 10] (vs := []) (evs := []) (L' := [(0, .int .i64 a0), (1, .int .i64 a1), (2, .slice Aa2 a2.length ca2), (9, .int .i64 0), (10, .int .i64 0)]) (by kernel_rfl) (by kernel_rfl) trivial ?_
        refine RgL.done (by kernel_rfl) ?_
        refine RunL.adm 3 (es' := [.c [1, 1, 1, 1, 0, 0, 0], .l [1, 1, 1, 1, 0, 0, 0], .b 0, .c [1, 1, 1, 1, 1]]) (by kernel_rfl) ?_
        refine RunL.keep [0, 1, 2, 9, 10] (L' := [(0, .int .i64 a0), (1, .int .i64 a1), (2, .slice Aa2 a2.length ca2), (9, .int .i64 0), (10, .int .i64 0)]) (by kernel_rfl) ?_
        exact (smithyardref10_Tried.l22_c smithyardref10_Tried.e14 (smithyardref10_Tried.e14_c)) (a0.toNat + 1) _ _ _ _ _ _ _ _ _ hH hE hra2 hca2 heq
  replace heq := ht6
  have hE0 := Ext.refl w
  refine RgL.runk 1 [0, 1, 2, 11] (vs := []) (evs := []) (L' := [(0, .int .i64 a0), (1, .int .i64 a1), (2, .slice Aa2 a2.length ca2), (11, .int .i64 a0)]) (by kernel_rfl) (by kernel_rfl) trivial ?_
  obtain ⟨y2, hy2, heq⟩ := bind_some heq
  refine RgL.call (d := some 12) (g := 20) (args := #[.int .i64 a0, .int .i64 1, .int .i64 100]) (by kernel_rfl) (smithyardref10_within_c hH  hy2) ?_
  rintro _ w ⟨hx36, rfl⟩
  replace hH := hH.ext hx36
  replace hE := hE.then hx36
  try replace hE0 := hE0.then hx36
  refine RgL.runk 4 [14, 0, 1, 2] (vs := []) (evs := []) (L' := [(14, .bool (!y2)), (0, .int .i64 a0), (1, .int .i64 a1), (2, .slice Aa2 a2.length ca2)]) (by kernel_rfl) (by kernel_rfl) trivial ?_
  rcases bool_cases (!y2) with hb37 | hb37
  · replace heq := bif_true hb37 heq
    refine RgL.bool1 hb37 ?_
    refine RgL.runk 9 [0, 1, 2, 19] (vs := []) (evs := []) (L' := [(0, .int .i64 a0), (1, .int .i64 a1), (2, .slice Aa2 a2.length ca2), (19, .bool true)]) (by kernel_rfl) (by kernel_rfl) trivial ?_
    obtain rfl := Option.some.inj heq
    refine RgL.keep [0, 1, 2, 19] (L' := [(0, .int .i64 a0), (1, .int .i64 a1), (2, .slice Aa2 a2.length ca2), (19, .bool true)]) (by kernel_rfl) ?_
    exact RgL.done (by kernel_rfl) (K7 _ hE0)
  · replace heq := bif_false hb37 heq
    refine RgL.bool1 hb37 ?_
    refine RgL.runk 6 [0, 1, 2, 14, 15, 16] (vs := []) (evs := []) (L' := [(0, .int .i64 a0), (1, .int .i64 a1), (2, .slice Aa2 a2.length ca2), (14, .bool false), (15, .int .i64 a1), (16, .int .i64 a0)]) (by kernel_rfl) (by kernel_rfl) trivial ?_
    obtain ⟨y3, hy3, heq⟩ := bind_some heq
    refine RgL.call (d := some 17) (g := 20) (args := #[.int .i64 a1, .int .i64 1, .int .i64 a0]) (by kernel_rfl) (smithyardref10_within_c hH  hy3) ?_
    rintro _ w ⟨hx38, rfl⟩
    replace hH := hH.ext hx38
    replace hE := hE.then hx38
    try replace hE0 := hE0.then hx38
    refine RgL.runk 9 [0, 1, 2, 19] (vs := []) (evs := []) (L' := [(0, .int .i64 a0), (1, .int .i64 a1), (2, .slice Aa2 a2.length ca2), (19, .bool (!y3))]) (by kernel_rfl) (by kernel_rfl) trivial ?_
    obtain rfl := Option.some.inj heq
    refine RgL.keep [0, 1, 2, 19] (L' := [(0, .int .i64 a0), (1, .int .i64 a1), (2, .slice Aa2 a2.length ca2), (19, .bool (!y3))]) (by kernel_rfl) ?_
    exact RgL.done (by kernel_rfl) (K7 _ hE0)
noncomputable def C11 : Ctx := { P := Try.prog, f := 11, N := 26, c := bodyOf Try.f11 }
def S11 (w0 : World) (r : Bool) (v : Value) (w : World) : Prop := Ext w0 w ∧ v = .bool r
theorem slices_Equal_bool.e6_c {w0 : World} {r : Bool} : ∀ (H : Hp) (w : World) , Sub H w → Ext w0 w → slices_Equal_bool.e6 = some r → RunL C11 (Ret (S11 w0 r)) [.c [1, 1, 1, 0], .c [1, 1, 1, 1]] [] w := by
  intro H w  hH hE  heq
  unfold slices_Equal_bool.e6 at heq
  refine RunL.reg (by kernel_rfl) ?_
  refine RgL.runk 1 [4] (vs := []) (evs := []) (L' := [(4, .bool true)]) (by kernel_rfl) (by kernel_rfl) trivial ?_
  refine RgL.done (by kernel_rfl) ?_
  obtain rfl := Option.some.inj heq
  exact RunL.done (by kernel_rfl) Try.func11 (v := .bool true) (by kernel_rfl) ⟨hE, rfl⟩
theorem slices_Equal_bool.l8_c {w0 : World} {r : Bool} (e6 : Option Bool)
    (he6 : ∀ (H : Hp) (w : World) , Sub H w → Ext w0 w → e6 = some r → RunL C11 (Ret (S11 w0 r)) [.c [1, 1, 1, 0], .c [1, 1, 1, 1]] [] w) : ∀ (k : Nat), ∀ (H : Hp) (w : World) (a0 : List Bool) (Aa0 : Option Addr) (ca0 : Nat) (a1 : List Bool) (Aa1 : Option Addr) (ca1 : Nat) (v13 : Int), Sub H w → Ext w0 w → Kd.Row Kd.bool H Aa0 a0 → a0.length ≤ ca0 → Kd.Row Kd.bool H Aa1 a1 → a1.length ≤ ca1 → slices_Equal_bool.l8 e6 k a0 a1 v13 = some r → RunL C11 (Ret (S11 w0 r)) [.c [1, 1, 0, 1, 0, 0], .l [1, 1, 0, 1, 0, 0], .b 0, .c [1, 1, 1]] [(0, .slice Aa0 a0.length ca0), (1, .slice Aa1 a1.length ca1), (12, .int .i64 (a0.length : Int)), (13, .int .i64 v13)] w := by
  intro k
  induction k with
  | zero => intro H w a0 Aa0 ca0 a1 Aa1 ca1 v13 hH hE hra0 hca0 hra1 hca1 heq; exact nomatch (show (none : Option Bool) = some r from heq)
  | succ k ih =>
    intro H w a0 Aa0 ca0 a1 Aa1 ca1 v13 hH hE hra0 hca0 hra1 hca1 heq
    rw [slices_Equal_bool.l8] at heq
    refine RunL.adm 1 (es' := [.c [1, 1, 0, 1, 0, 0, 0], .c [1, 1, 0, 1, 0, 0, 1], .l [1, 1, 0, 1, 0, 0], .b 0, .c [1, 1, 1]]) (by kernel_rfl) ?_
    refine RunL.reg (by kernel_rfl) ?_
    refine RgL.runk 1 [0, 1, 12, 13, 14] (vs := []) (evs := []) (L' := [(0, .slice Aa0 a0.length ca0), (1, .slice Aa1 a1.length ca1), (12, .int .i64 (a0.length : Int)), (13, .int .i64 v13), (14, .bool (decide (v13 < (a0.length : Int))))]) (by kernel_rfl) (by kernel_rfl) trivial ?_
    refine RgL.done (by kernel_rfl) ?_
    refine RunL.adm 1 (es' := [.c [1, 1, 0, 1, 0, 0, 1, 0], .c [1, 1, 0, 1, 0, 0, 1, 1], .l [1, 1, 0, 1, 0, 0], .b 0, .c [1, 1, 1]]) (by kernel_rfl) ?_
    rcases bool_cases (decide (v13 < (a0.length : Int))) with hb10 | hb10
    · replace heq := bif_true hb10 heq
      refine RunL.condT (c := decide (v13 < (a0.length : Int))) (by kernel_rfl) hb10 ?_
      refine RunL.adm 4 (es' := [.c [1, 1, 0, 1, 0, 0, 1, 1, 0, 0, 0], .c [1, 1, 0, 1, 0, 0, 1, 1, 0, 0, 1], .b 1, .c [1, 1, 0, 1, 0, 0, 1, 1, 1], .l [1, 1, 0, 1, 0, 0], .b 0, .c [1, 1, 1]]) (by kernel_rfl) ?_
      refine RunL.reg (by kernel_rfl) ?_
      refine RgL.runk 2 [0, 1, 5, 12, 13] (vs := []) (evs := []) (L' := [(0, .slice Aa0 a0.length ca0), (1, .slice Aa1 a1.length ca1), (5, .int .i64 v13), (12, .int .i64 (a0.length : Int)), (13, .int .i64 v13)]) (by kernel_rfl) (by kernel_rfl) trivial ?_
      refine RgL.done (by kernel_rfl) ?_
      refine RunL.adm 1 (es' := [.c [1, 1, 0, 1, 0, 0, 1, 1, 0, 0, 1, 0], .c [1, 1, 0, 1, 0, 0, 1, 1, 0, 0, 1, 1], .b 1, .c [1, 1, 0, 1, 0, 0, 1, 1, 1], .l [1, 1, 0, 1, 0, 0], .b 0, .c [1, 1, 1]]) (by kernel_rfl) ?_
      refine RunL.quiet (Ext w) (by kernel_rfl) (by kernel_rfl) (by kernel_rfl) (Ext.drawn w) ?_
      obtain ⟨x12, hx12, heq⟩ := bind_some heq
      obtain ⟨ad13, rfl⟩ := hra0.addr hx12
      obtain ⟨csx12, hKx12, hcx12⟩ := hra0.get hx12
      obtain rfl : csx12 = [.bool x12] := hKx12
      obtain ⟨x14, hx14, heq⟩ := bind_some heq
      obtain ⟨ad15, rfl⟩ := hra1.addr hx14
      obtain ⟨csx14, hKx14, hcx14⟩ := hra1.get hx14
      obtain rfl : csx14 = [.bool x14] := hKx14
      refine QgL.runk 9 [0, 1, 12, 13, 24] (vs := [.bool x12, .bool x14]) (evs := [.need (0 ≤ v13 ∧ v13 < (a0.length : Int)), .load (ad13.add (v13.toNat * 1)) (.bool x12), .need (0 ≤ v13 ∧ v13 < (a1.length : Int)), .load (ad15.add (v13.toNat * 1)) (.bool x14)]) (L' := [(0, .slice (some ad13) a0.length ca0), (1, .slice (some ad15) a1.length ca1), (12, .int .i64 (a0.length : Int)), (13, .int .i64 v13), (24, .bool (!(x12 == x14)))]) (by kernel_rfl) (by kernel_rfl) (fun wC hC => ⟨⟨(at?_some hx12).1, (at?_some hx12).2.1⟩, hcx12 _ (hH.ext hC) 0 _ rfl, ⟨(at?_some hx14).1, (at?_some hx14).2.1⟩, hcx14 _ (hH.ext hC) 0 _ rfl⟩) ?_
      refine QgL.done (by kernel_rfl) (fun w hx17 => ?_)
      replace hH := hH.ext hx17
      replace hE := hE.then hx17
      try replace hE0 := hE0.then hx17
      rcases bool_cases (!(x12 == x14)) with hb18 | hb18
      · replace heq := bif_true hb18 heq
        refine RunL.condT (c := !(x12 == x14)) (by kernel_rfl) hb18 ?_
        refine RunL.adm 1 (es' := [.c [1, 1, 0, 1, 0, 0, 1, 1, 0, 0, 1, 1, 0, 0], .c [1, 1, 0, 1, 0, 0, 1, 1, 0, 0, 1, 1, 0, 1], .b 1, .c [1, 1, 0, 1, 0, 0, 1, 1, 1], .l [1, 1, 0, 1, 0, 0], .b 0, .c [1, 1, 1]]) (by kernel_rfl) ?_
        refine RunL.reg (by kernel_rfl) ?_
        refine RgL.runk 1 [4] (vs := []) (evs := []) (L' := [(4, .bool false)]) (by kernel_rfl) (by kernel_rfl) trivial ?_
        refine RgL.done (by kernel_rfl) ?_
        obtain rfl := Option.some.inj heq
        exact RunL.done (by kernel_rfl) Try.func11 (v := .bool false) (by kernel_rfl) ⟨hE, rfl⟩
      · replace heq := bif_false hb18 heq
        refine RunL.condF (c := !(x12 == x14)) (by kernel_rfl) hb18 ?_
        refine RunL.adm 2 (es' := [.c [1, 1, 0, 1, 0, 0, 1, 1, 1], .l [1, 1, 0, 1, 0, 0], .b 0, .c [1, 1, 1]]) (by kernel_rfl) ?_
        refine RunL.reg (by kernel_rfl) ?_
        refine RgL.runk 2 [0, 1, 12, 13] (vs := []) (evs := []) (L' := [(0, .slice (some ad13) a0.length ca0), (1, .slice (some ad15) a1.length ca1), (12, .int .i64 (a0.length : Int)), (13, .int .i64 (w64 (v13 + 1)))]) (by kernel_rfl) (by kernel_rfl) trivial ?_
        refine RgL.done (by kernel_rfl) ?_
        refine RunL.adm 1 (es' := [.c [1, 1, 0, 1, 0, 0], .l [1, 1, 0, 1, 0, 0], .b 0, .c [1, 1, 1]]) (by kernel_rfl) ?_
        refine RunL.keep [0, 1, 12, 13] (L' := [(0, .slice (some ad13) a0.length ca0), (1, .slice (some ad15) a1.length ca1), (12, .int .i64 (a0.length : Int)), (13, .int .i64 (w64 (v13 + 1)))]) (by kernel_rfl) ?_
        exact ih _ _ _ _ _ _ _ _ _ hH hE hra0 hca0 hra1 hca1 heq
    · replace heq := bif_false hb10 heq
      refine RunL.condF (c := decide (v13 < (a0.length : Int))) (by kernel_rfl) hb10 ?_
      refine RunL.adm 2 (es' := [.c [1, 1, 1, 0], .c [1, 1, 1, 1]]) (by kernel_rfl) ?_
      refine RunL.keep [] (L' := []) (by kernel_rfl) ?_
      exact he6 _ _  hH hE  heq
theorem slices_Equal_bool_c {w0 : World} {H : Hp} {a0 : List Bool} {Aa0 : Option Addr} {ca0 : Nat} {a1 : List Bool} {Aa1 : Option Addr} {ca1 : Nat} {r : Bool} (hH : Sub H w0) (hra0 : Kd.Row Kd.bool H Aa0 a0) (hca0 : a0.length ≤ ca0) (hra1 : Kd.Row Kd.bool H Aa1 a1) (hca1 : a1.length ≤ ca1) (heq : slices_Equal_bool.f a0 a1 = some r) : Calls Try.prog 11 #[.slice Aa0 a0.length ca0, .slice Aa1 a1.length ca1] w0 (Ret (S11 w0 r)) := by
  refine calls_of_runL (F := C11) Try.func11 (by kernel_rfl) Try.ntmps11 (args := [.slice Aa0 a0.length ca0, .slice Aa1 a1.length ca1]) (by kernel_rfl) ?_
  unfold slices_Equal_bool.f at heq
  suffices h : ∀ w, Ext w0 w → Sub H w → RunL C11 (Ret (S11 w0 r)) [.c []] (argL 0 [.slice Aa0 a0.length ca0, .slice Aa1 a1.length ca1]) w from h w0 (Ext.refl w0) hH
  clear hH
  intro w hE hH
  refine RunL.adm 1 (es' := [.c [0], .c [1]]) (by kernel_rfl) ?_
  refine RunL.reg (by kernel_rfl) ?_
  refine RgL.runk 1 [0, 1] (vs := []) (evs := []) (L' := [(0, .slice Aa0 a0.length ca0), (1, .slice Aa1 a1.length ca1)]) (by kernel_rfl) (by kernel_rfl) trivial ?_
  refine RgL.done (by kernel_rfl) ?_
  refine RunL.adm 2 (es' := [.c [1, 0, 0], .c [1, 0, 1], .c [1, 1]]) (by kernel_rfl) ?_
  refine RunL.reg (by kernel_rfl) ?_
  refine RgL.runk 5 [0, 1, 10] (vs := []) (evs := []) (L' := [(0, .slice Aa0 a0.length ca0), (1, .slice Aa1 a1.length ca1), (10, .bool ((a0.length : Int) != (a1.length : Int)))]) (by kernel_rfl) (by kernel_rfl) trivial ?_
  refine RgL.done (by kernel_rfl) ?_
  rcases bool_cases ((a0.length : Int) != (a1.length : Int)) with hb3 | hb3
  · replace heq := bif_true hb3 heq
    refine RunL.condT (c := (a0.length : Int) != (a1.length : Int)) (by kernel_rfl) hb3 ?_
    refine RunL.adm 1 (es' := [.c [1, 0, 1, 0, 0], .c [1, 0, 1, 0, 1], .c [1, 1]]) (by kernel_rfl) ?_
    refine RunL.reg (by kernel_rfl) ?_
    refine RgL.runk 1 [4] (vs := []) (evs := []) (L' := [(4, .bool false)]) (by kernel_rfl) (by kernel_rfl) trivial ?_
    refine RgL.done (by kernel_rfl) ?_
    obtain rfl := Option.some.inj heq
    exact RunL.done (by kernel_rfl) Try.func11 (v := .bool false) (by kernel_rfl) ⟨hE, rfl⟩
  · replace heq := bif_false hb3 heq
    refine RunL.condF (c := (a0.length : Int) != (a1.length : Int)) (by kernel_rfl) hb3 ?_
    refine RunL.adm 3 (es' := [.c [1, 1, 0, 0], .c [1, 1, 0, 1], .c [1, 1, 1]]) (by kernel_rfl) ?_
    refine RunL.reg (by kernel_rfl) ?_
    refine RgL.runk 3 [0, 1, 12, 13] (vs := []) (evs := []) (L' := [(0, .slice Aa0 a0.length ca0), (1, .slice Aa1 a1.length ca1), (12, .int .i64 (a0.length : Int)), (13, .int .i64 0)]) (by kernel_rfl) (by kernel_rfl) trivial ?_
    refine RgL.done (by kernel_rfl) ?_
    refine RunL.adm 2 (es' := [.c [1, 1, 0, 1, 0, 0], .l [1, 1, 0, 1, 0, 0], .b 0, .c [1, 1, 1]]) (by kernel_rfl) ?_
    refine RunL.keep [0, 1, 12, 13] (L' := [(0, .slice Aa0 a0.length ca0), (1, .slice Aa1 a1.length ca1), (12, .int .i64 (a0.length : Int)), (13, .int .i64 0)]) (by kernel_rfl) ?_
    exact (slices_Equal_bool.l8_c slices_Equal_bool.e6 (slices_Equal_bool.e6_c)) (((a0.length : Int) - 0).toNat + 1) _ _ _ _ _ _ _ _ _ hH hE hra0 hca0 hra1 hca1 heq
noncomputable def C14 : Ctx := { P := Try.prog, f := 14, N := 45, c := bodyOf Try.f14 }
def S14 (w0 : World) (r : Int × Int × Int) (v : Value) (w : World) : Prop := Ext w0 w ∧ v = .tuple #[.int .i64 r.1, .int .i64 r.2.1, .int .i64 r.2.2]
theorem trials_Suspects.e12_c {w0 : World} {r : Int × Int × Int} : ∀ (H : Hp) (w : World) (v_most7 : Int), Sub H w → Ext w0 w → trials_Suspects.e12 v_most7 = some r → RunL C14 (Ret (S14 w0 r)) [.c [1, 1, 1, 1, 1, 0], .c [1, 1, 1, 1, 1, 1]] [(7, .int .i64 v_most7)] w := by
  intro H w v_most7 hH hE  heq
  unfold trials_Suspects.e12 at heq
  refine RunL.reg (by kernel_rfl) ?_
  refine RgL.runk 4 [4, 5, 6] (vs := []) (evs := []) (L' := [(4, .int .i64 1), (5, .int .i64 v_most7), (6, .int .i64 0)]) (by kernel_rfl) (by kernel_rfl) trivial ?_
  refine RgL.done (by kernel_rfl) ?_
  obtain rfl := Option.some.inj heq
  exact RunL.done (by kernel_rfl) Try.func14 (v := .tuple #[.int .i64 1, .int .i64 v_most7, .int .i64 0]) (by kernel_rfl) ⟨hE, rfl⟩
theorem trials_Suspects.j34_c {w0 : World} {r : Int × Int × Int} (backl14 : Int → (List Probe) → Int → Int → Option (Int × Int × Int))
    (hbackl14 : ∀ (H : Hp) (w : World) (a0 : Int) (a1 : List Probe) (Aa1 : Option Addr) (ca1 : Nat) (v_most7 : Int) (v19 : Int), Sub H w → Ext w0 w → Kd.Row kProbe H Aa1 a1 → a1.length ≤ ca1 → backl14 a0 a1 v_most7 v19 = some r → RunL C14 (Ret (S14 w0 r)) [.c [1, 1, 1, 1, 0, 1, 0, 0], .l [1, 1, 1, 1, 0, 1, 0, 0], .b 0, .c [1, 1, 1, 1, 1]] [(0, .int .i64 a0), (7, .int .i64 v_most7), (17, .slice Aa1 a1.length ca1), (18, .int .i64 (a1.length : Int)), (19, .int .i64 v19)] w) : ∀ (H : Hp) (w : World) (a0 : Int) (a1 : List Probe) (ad18 : Addr) (ca1 : Nat) (v19 : Int) (v_most7 : Int), Sub H w → Ext w0 w → Kd.Row kProbe H (some ad18) a1 → a1.length ≤ ca1 → trials_Suspects.j34 backl14 a0 a1 v19 v_most7 = some r → RunL C14 (Ret (S14 w0 r)) [.c [1, 1, 1, 1, 0, 1, 0, 0, 1, 1, 1], .l [1, 1, 1, 1, 0, 1, 0, 0], .b 0, .c [1, 1, 1, 1, 1]] [(0, .int .i64 a0), (7, .int .i64 v_most7), (17, .slice (some ad18) a1.length ca1), (18, .int .i64 (a1.length : Int)), (19, .int .i64 v19)] w := by
  intro H w a0 a1 ad18 ca1 v19 v_most7 hH hE hra1 hca1 heq
  unfold trials_Suspects.j34 at heq
  refine RunL.reg (by kernel_rfl) ?_
  refine RgL.runk 2 [0, 7, 17, 18, 19] (vs := []) (evs := []) (L' := [(0, .int .i64 a0), (7, .int .i64 v_most7), (17, .slice (some ad18) a1.length ca1), (18, .int .i64 (a1.length : Int)), (19, .int .i64 (w64 (v19 + 1)))]) (by kernel_rfl) (by kernel_rfl) trivial ?_
  refine RgL.done (by kernel_rfl) ?_
  refine RunL.adm 1 (es' := [.c [1, 1, 1, 1, 0, 1, 0, 0], .l [1, 1, 1, 1, 0, 1, 0, 0], .b 0, .c [1, 1, 1, 1, 1]]) (by kernel_rfl) ?_
  refine RunL.keep [0, 7, 17, 18, 19] (L' := [(0, .int .i64 a0), (7, .int .i64 v_most7), (17, .slice (some ad18) a1.length ca1), (18, .int .i64 (a1.length : Int)), (19, .int .i64 (w64 (v19 + 1)))]) (by kernel_rfl) ?_
  exact hbackl14 _ _ _ _ _ _ _ _ hH hE hra1 hca1 heq
theorem trials_Suspects.l14_c {w0 : World} {r : Int × Int × Int} (e12 : Int → Option (Int × Int × Int))
    (he12 : ∀ (H : Hp) (w : World) (v_most7 : Int), Sub H w → Ext w0 w → e12 v_most7 = some r → RunL C14 (Ret (S14 w0 r)) [.c [1, 1, 1, 1, 1, 0], .c [1, 1, 1, 1, 1, 1]] [(7, .int .i64 v_most7)] w) : ∀ (k : Nat), ∀ (H : Hp) (w : World) (a0 : Int) (a1 : List Probe) (Aa1 : Option Addr) (ca1 : Nat) (v_most7 : Int) (v19 : Int), Sub H w → Ext w0 w → Kd.Row kProbe H Aa1 a1 → a1.length ≤ ca1 → trials_Suspects.l14 e12 k a0 a1 v_most7 v19 = some r → RunL C14 (Ret (S14 w0 r)) [.c [1, 1, 1, 1, 0, 1, 0, 0], .l [1, 1, 1, 1, 0, 1, 0, 0], .b 0, .c [1, 1, 1, 1, 1]] [(0, .int .i64 a0), (7, .int .i64 v_most7), (17, .slice Aa1 a1.length ca1), (18, .int .i64 (a1.length : Int)), (19, .int .i64 v19)] w := by
  intro k
  induction k with
  | zero => intro H w a0 a1 Aa1 ca1 v_most7 v19 hH hE hra1 hca1 heq; exact nomatch (show (none : Option (Int × Int × Int)) = some r from heq)
  | succ k ih =>
    intro H w a0 a1 Aa1 ca1 v_most7 v19 hH hE hra1 hca1 heq
    rw [trials_Suspects.l14] at heq
    refine RunL.adm 1 (es' := [.c [1, 1, 1, 1, 0, 1, 0, 0, 0], .c [1, 1, 1, 1, 0, 1, 0, 0, 1], .l [1, 1, 1, 1, 0, 1, 0, 0], .b 0, .c [1, 1, 1, 1, 1]]) (by kernel_rfl) ?_
    refine RunL.reg (by kernel_rfl) ?_
    refine RgL.runk 1 [0, 7, 17, 18, 19, 20] (vs := []) (evs := []) (L' := [(0, .int .i64 a0), (7, .int .i64 v_most7), (17, .slice Aa1 a1.length ca1), (18, .int .i64 (a1.length : Int)), (19, .int .i64 v19), (20, .bool (decide (v19 < (a1.length : Int))))]) (by kernel_rfl) (by kernel_rfl) trivial ?_
    refine RgL.done (by kernel_rfl) ?_
    refine RunL.adm 1 (es' := [.c [1, 1, 1, 1, 0, 1, 0, 0, 1, 0], .c [1, 1, 1, 1, 0, 1, 0, 0, 1, 1], .l [1, 1, 1, 1, 0, 1, 0, 0], .b 0, .c [1, 1, 1, 1, 1]]) (by kernel_rfl) ?_
    rcases bool_cases (decide (v19 < (a1.length : Int))) with hb16 | hb16
    · replace heq := bif_true hb16 heq
      refine RunL.condT (c := decide (v19 < (a1.length : Int))) (by kernel_rfl) hb16 ?_
      refine RunL.adm 4 (es' := [.c [1, 1, 1, 1, 0, 1, 0, 0, 1, 1, 0, 0, 0], .c [1, 1, 1, 1, 0, 1, 0, 0, 1, 1, 0, 0, 1], .b 1, .c [1, 1, 1, 1, 0, 1, 0, 0, 1, 1, 1], .l [1, 1, 1, 1, 0, 1, 0, 0], .b 0, .c [1, 1, 1, 1, 1]]) (by kernel_rfl) ?_
      refine RunL.reg (by kernel_rfl) ?_
      obtain ⟨x17, hx17, heq⟩ := bind_some heq
      obtain ⟨ad18, rfl⟩ := hra1.addr hx17
      obtain ⟨csx17, hKx17, hcx17⟩ := hra1.get hx17
      obtain ⟨rfl⟩ := kProbe_open hKx17
      refine RgL.runk 2 [0, 7, 17, 18, 19, 22] (vs := [.int .i64 x17.Place, .bool x17.Pass]) (evs := [.need (0 ≤ v19 ∧ v19 < (a1.length : Int)), .load ((ad18.add (v19.toNat * 2)).add 0) (.int .i64 x17.Place), .load ((ad18.add (v19.toNat * 2)).add 1) (.bool x17.Pass)]) (L' := [(0, .int .i64 a0), (7, .int .i64 v_most7), (17, .slice (some ad18) a1.length ca1), (18, .int .i64 (a1.length : Int)), (19, .int .i64 v19), (22, .agg #[.int .i64 x17.Place, .bool x17.Pass])]) (by kernel_rfl) (by kernel_rfl) ⟨⟨(at?_some hx17).1, (at?_some hx17).2.1⟩, hcx17 _ hH 0 _ rfl, hcx17 _ hH 1 _ rfl⟩ ?_
      refine RgL.newBox (d := 9) (v := .agg #[.int .i64 x17.Place, .bool x17.Pass]) (cs0 := #[.int .i64 0, .bool false]) (cs' := #[.int .i64 x17.Place, .bool x17.Pass]) (e := 37) (fun g => by kernel_rfl) (fun g => by kernel_rfl) (by kernel_rfl) (by kernel_rfl) ?_
      intro g19 w hgg19 hx21 hsg19 hbg19
      obtain ⟨H, hl, hH, hig19, hk⟩ := addH hH hx21 hgg19 hbg19
      replace hE := hE.then hx21
      try replace hE0 := hE0.then hx21
      replace hra1 := hra1.mono hl
      refine RgL.done (by kernel_rfl) ?_
      refine RunL.adm 2 (es' := [.c [1, 1, 1, 1, 0, 1, 0, 0, 1, 1, 0, 0, 1, 0, 0], .c [1, 1, 1, 1, 0, 1, 0, 0, 1, 1, 0, 0, 1, 0, 1], .c [1, 1, 1, 1, 0, 1, 0, 0, 1, 1, 0, 0, 1, 1], .b 1, .c [1, 1, 1, 1, 0, 1, 0, 0, 1, 1, 1], .l [1, 1, 1, 1, 0, 1, 0, 0], .b 0, .c [1, 1, 1, 1, 1]]) (by kernel_rfl) ?_
      refine RunL.reg (by kernel_rfl) ?_
      refine RgL.runk 3 [0, 7, 9, 17, 18, 19, 24, 25] (vs := [.int .i64 x17.Place]) (evs := [.load ⟨g19, 0, none⟩ (.int .i64 x17.Place)]) (L' := [(0, .int .i64 a0), (7, .int .i64 v_most7), (9, .pointer (some ⟨g19, 0, none⟩)), (17, .slice (some ad18) a1.length ca1), (18, .int .i64 (a1.length : Int)), (19, .int .i64 v19), (24, .int .i64 x17.Place), (25, .int .i64 a0)]) (by kernel_rfl) (by kernel_rfl) (cellH hig19 hH rfl) ?_
      obtain ⟨y22, hy22, heq⟩ := bind_some heq
      refine RgL.call (d := some 26) (g := 19) (args := #[.int .i64 x17.Place, .int .i64 0, .int .i64 a0]) (by kernel_rfl) (trials_within_c hH  hy22) ?_
      rintro _ w ⟨hx24, rfl⟩
      replace hH := hH.ext hx24
      replace hE := hE.then hx24
      try replace hE0 := hE0.then hx24
      refine RgL.runk 5 [0, 7, 9, 17, 18, 19, 27] (vs := []) (evs := []) (L' := [(0, .int .i64 a0), (7, .int .i64 v_most7), (9, .pointer (some ⟨g19, 0, none⟩)), (17, .slice (some ad18) a1.length ca1), (18, .int .i64 (a1.length : Int)), (19, .int .i64 v19), (27, .bool (!y22))]) (by kernel_rfl) (by kernel_rfl) trivial ?_
      refine RgL.done (by kernel_rfl) ?_
      rcases bool_cases (!y22) with hb25 | hb25
      · replace heq := bif_true hb25 heq
        refine RunL.condT (c := !y22) (by kernel_rfl) hb25 ?_
        refine RunL.adm 1 (es' := [.c [1, 1, 1, 1, 0, 1, 0, 0, 1, 1, 0, 0, 1, 0, 1, 0, 0], .c [1, 1, 1, 1, 0, 1, 0, 0, 1, 1, 0, 0, 1, 0, 1, 0, 1], .c [1, 1, 1, 1, 0, 1, 0, 0, 1, 1, 0, 0, 1, 1], .b 1, .c [1, 1, 1, 1, 0, 1, 0, 0, 1, 1, 1], .l [1, 1, 1, 1, 0, 1, 0, 0], .b 0, .c [1, 1, 1, 1, 1]]) (by kernel_rfl) ?_
        refine RunL.reg (by kernel_rfl) ?_
        refine RgL.runk 3 [4, 5, 6] (vs := []) (evs := []) (L' := [(4, .int .i64 0), (5, .int .i64 0), (6, .int .i64 1)]) (by kernel_rfl) (by kernel_rfl) trivial ?_
        refine RgL.done (by kernel_rfl) ?_
        obtain rfl := Option.some.inj heq
        exact RunL.done (by kernel_rfl) Try.func14 (v := .tuple #[.int .i64 0, .int .i64 0, .int .i64 1]) (by kernel_rfl) ⟨hE, rfl⟩
      · replace heq := bif_false hb25 heq
        refine RunL.condF (c := !y22) (by kernel_rfl) hb25 ?_
        refine RunL.adm 3 (es' := [.c [1, 1, 1, 1, 0, 1, 0, 0, 1, 1, 0, 0, 1, 1, 0, 0], .c [1, 1, 1, 1, 0, 1, 0, 0, 1, 1, 0, 0, 1, 1, 0, 1], .c [1, 1, 1, 1, 0, 1, 0, 0, 1, 1, 0, 0, 1, 1, 1], .b 1, .c [1, 1, 1, 1, 0, 1, 0, 0, 1, 1, 1], .l [1, 1, 1, 1, 0, 1, 0, 0], .b 0, .c [1, 1, 1, 1, 1]]) (by kernel_rfl) ?_
        refine RunL.reg (by kernel_rfl) ?_
        obtain ⟨t28, ht29, heq⟩ := bind_some heq
        have K30 : ∀ w2, Ext w w2 → RunL C14 (Ret (S14 w0 r)) [.c [1, 1, 1, 1, 0, 1, 0, 0, 1, 1, 0, 0, 1, 1, 0, 1], .c [1, 1, 1, 1, 0, 1, 0, 0, 1, 1, 0, 0, 1, 1, 1], .b 1, .c [1, 1, 1, 1, 0, 1, 0, 0, 1, 1, 1], .l [1, 1, 1, 1, 0, 1, 0, 0], .b 0, .c [1, 1, 1, 1, 1]] [(0, .int .i64 a0), (7, .int .i64 v_most7), (9, .pointer (some ⟨g19, 0, none⟩)), (17, .slice (some ad18) a1.length ca1), (18, .int .i64 (a1.length : Int)), (19, .int .i64 v19), (35, .bool t28)] w2 := by
          intro w hx
          replace hH := hH.ext hx
          replace hE := hE.then hx
          rcases bool_cases (t28) with hb31 | hb31
          · replace heq := bif_true hb31 heq
            refine RunL.condT (c := t28) (by kernel_rfl) hb31 ?_
            refine RunL.adm 1 (es' := [.c [1, 1, 1, 1, 0, 1, 0, 0, 1, 1, 0, 0, 1, 1, 0, 1, 0, 0], .c [1, 1, 1, 1, 0, 1, 0, 0, 1, 1, 0, 0, 1, 1, 0, 1, 0, 1], .c [1, 1, 1, 1, 0, 1, 0, 0, 1, 1, 0, 0, 1, 1, 1], .b 1, .c [1, 1, 1, 1, 0, 1, 0, 0, 1, 1, 1], .l [1, 1, 1, 1, 0, 1, 0, 0], .b 0, .c [1, 1, 1, 1, 1]]) (by kernel_rfl) ?_
            refine RunL.reg (by kernel_rfl) ?_
            refine RgL.runk 3 [4, 5, 6] (vs := []) (evs := []) (L' := [(4, .int .i64 0), (5, .int .i64 0), (6, .int .i64 12)]) (by kernel_rfl) (by kernel_rfl) trivial ?_
            refine RgL.done (by kernel_rfl) ?_
            obtain rfl := Option.some.inj heq
            exact RunL.done (by kernel_rfl) Try.func14 (v := .tuple #[.int .i64 0, .int .i64 0, .int .i64 12]) (by kernel_rfl) ⟨hE, rfl⟩
          · replace heq := bif_false hb31 heq
            refine RunL.condF (c := t28) (by kernel_rfl) hb31 ?_
            refine RunL.adm 2 (es' := [.c [1, 1, 1, 1, 0, 1, 0, 0, 1, 1, 0, 0, 1, 1, 1, 0], .c [1, 1, 1, 1, 0, 1, 0, 0, 1, 1, 0, 0, 1, 1, 1, 1], .b 1, .c [1, 1, 1, 1, 0, 1, 0, 0, 1, 1, 1], .l [1, 1, 1, 1, 0, 1, 0, 0], .b 0, .c [1, 1, 1, 1, 1]]) (by kernel_rfl) ?_
            refine RunL.reg (by kernel_rfl) ?_
            refine RgL.runk 3 [0, 7, 9, 17, 18, 19, 38] (vs := [.bool x17.Pass]) (evs := [.load ⟨g19, 1, none⟩ (.bool x17.Pass)]) (L' := [(0, .int .i64 a0), (7, .int .i64 v_most7), (9, .pointer (some ⟨g19, 0, none⟩)), (17, .slice (some ad18) a1.length ca1), (18, .int .i64 (a1.length : Int)), (19, .int .i64 v19), (38, .bool (!x17.Pass))]) (by kernel_rfl) (by kernel_rfl) (cellH hig19 hH rfl) ?_
            refine RgL.done (by kernel_rfl) ?_
            rcases bool_cases (!x17.Pass) with hb36 | hb36
            · replace heq := bif_true hb36 heq
              refine RunL.condT (c := !x17.Pass) (by kernel_rfl) hb36 ?_
              refine RunL.reg (by kernel_rfl) ?_
              refine RgL.runk 5 [0, 7, 17, 18, 19] (vs := [.int .i64 x17.Place]) (evs := [.load ⟨g19, 0, none⟩ (.int .i64 x17.Place)]) (L' := [(0, .int .i64 a0), (7, .int .i64 (min2 v_most7 x17.Place)), (17, .slice (some ad18) a1.length ca1), (18, .int .i64 (a1.length : Int)), (19, .int .i64 v19)]) (by kernel_rfl) (by kernel_rfl) (cellH hig19 hH rfl) ?_
              refine RgL.done (by kernel_rfl) ?_
              refine RunL.adm 1 (es' := [.c [1, 1, 1, 1, 0, 1, 0, 0, 1, 1, 1], .l [1, 1, 1, 1, 0, 1, 0, 0], .b 0, .c [1, 1, 1, 1, 1]]) (by kernel_rfl) ?_
              refine RunL.keep [0, 7, 17, 18, 19] (L' := [(0, .int .i64 a0), (7, .int .i64 (min2 v_most7 x17.Place)), (17, .slice (some ad18) a1.length ca1), (18, .int .i64 (a1.length : Int)), (19, .int .i64 v19)]) (by kernel_rfl) ?_
              exact (trials_Suspects.j34_c (trials_Suspects.l14 e12 k) ih) _ _ _ _ _ _ _ _ hH hE hra1 hca1 heq
            · replace heq := bif_false hb36 heq
              refine RunL.condF (c := !x17.Pass) (by kernel_rfl) hb36 ?_
              refine RunL.adm 2 (es' := [.c [1, 1, 1, 1, 0, 1, 0, 0, 1, 1, 1], .l [1, 1, 1, 1, 0, 1, 0, 0], .b 0, .c [1, 1, 1, 1, 1]]) (by kernel_rfl) ?_
              refine RunL.keep [0, 7, 17, 18, 19] (L' := [(0, .int .i64 a0), (7, .int .i64 v_most7), (17, .slice (some ad18) a1.length ca1), (18, .int .i64 (a1.length : Int)), (19, .int .i64 v19)]) (by kernel_rfl) ?_
              exact (trials_Suspects.j34_c (trials_Suspects.l14 e12 k) ih) _ _ _ _ _ _ _ _ hH hE hra1 hca1 heq
        replace heq := ht29
        have hE0 := Ext.refl w
        refine RgL.runk 4 [31, 0, 7, 9, 17, 18, 19] (vs := [.int .i64 x17.Place]) (evs := [.load ⟨g19, 0, none⟩ (.int .i64 x17.Place)]) (L' := [(31, .bool (x17.Place == 0)), (0, .int .i64 a0), (7, .int .i64 v_most7), (9, .pointer (some ⟨g19, 0, none⟩)), (17, .slice (some ad18) a1.length ca1), (18, .int .i64 (a1.length : Int)), (19, .int .i64 v19)]) (by kernel_rfl) (by kernel_rfl) (cellH hig19 hH rfl) ?_
        rcases bool_cases (x17.Place == 0) with hb38 | hb38
        · replace heq := bif_true hb38 heq
          refine RgL.bool1 hb38 ?_
          refine RgL.runk 8 [0, 7, 9, 17, 18, 19, 35] (vs := [.bool x17.Pass]) (evs := [.load ⟨g19, 1, none⟩ (.bool x17.Pass)]) (L' := [(0, .int .i64 a0), (7, .int .i64 v_most7), (9, .pointer (some ⟨g19, 0, none⟩)), (17, .slice (some ad18) a1.length ca1), (18, .int .i64 (a1.length : Int)), (19, .int .i64 v19), (35, .bool (!x17.Pass))]) (by kernel_rfl) (by kernel_rfl) (cellH hig19 hH rfl) ?_
          obtain rfl := Option.some.inj heq
          refine RgL.keep [0, 7, 9, 17, 18, 19, 35] (L' := [(0, .int .i64 a0), (7, .int .i64 v_most7), (9, .pointer (some ⟨g19, 0, none⟩)), (17, .slice (some ad18) a1.length ca1), (18, .int .i64 (a1.length : Int)), (19, .int .i64 v19), (35, .bool (!x17.Pass))]) (by kernel_rfl) ?_
          exact RgL.done (by kernel_rfl) (K30 _ hE0)
        · replace heq := bif_false hb38 heq
          refine RgL.bool1 hb38 ?_
          refine RgL.runk 8 [0, 7, 9, 17, 18, 19, 35] (vs := []) (evs := []) (L' := [(0, .int .i64 a0), (7, .int .i64 v_most7), (9, .pointer (some ⟨g19, 0, none⟩)), (17, .slice (some ad18) a1.length ca1), (18, .int .i64 (a1.length : Int)), (19, .int .i64 v19), (35, .bool false)]) (by kernel_rfl) (by kernel_rfl) trivial ?_
          obtain rfl := Option.some.inj heq
          refine RgL.keep [0, 7, 9, 17, 18, 19, 35] (L' := [(0, .int .i64 a0), (7, .int .i64 v_most7), (9, .pointer (some ⟨g19, 0, none⟩)), (17, .slice (some ad18) a1.length ca1), (18, .int .i64 (a1.length : Int)), (19, .int .i64 v19), (35, .bool false)]) (by kernel_rfl) ?_
          exact RgL.done (by kernel_rfl) (K30 _ hE0)
    · replace heq := bif_false hb16 heq
      refine RunL.condF (c := decide (v19 < (a1.length : Int))) (by kernel_rfl) hb16 ?_
      refine RunL.adm 2 (es' := [.c [1, 1, 1, 1, 1, 0], .c [1, 1, 1, 1, 1, 1]]) (by kernel_rfl) ?_
      refine RunL.keep [7] (L' := [(7, .int .i64 v_most7)]) (by kernel_rfl) ?_
      exact he12 _ _ _ hH hE  heq
theorem trials_Suspects_c {w0 : World} {H : Hp} {a0 : Int} {a1 : List Probe} {Aa1 : Option Addr} {ca1 : Nat} {r : Int × Int × Int} (hH : Sub H w0) (hra1 : Kd.Row kProbe H Aa1 a1) (hca1 : a1.length ≤ ca1) (heq : trials_Suspects.f a0 a1 = some r) : Calls Try.prog 14 #[.int .i64 a0, .slice Aa1 a1.length ca1] w0 (Ret (S14 w0 r)) := by
  refine calls_of_runL (F := C14) Try.func14 (by kernel_rfl) Try.ntmps14 (args := [.int .i64 a0, .slice Aa1 a1.length ca1]) (by kernel_rfl) ?_
  unfold trials_Suspects.f at heq
  suffices h : ∀ w, Ext w0 w → Sub H w → RunL C14 (Ret (S14 w0 r)) [.c []] (argL 0 [.int .i64 a0, .slice Aa1 a1.length ca1]) w from h w0 (Ext.refl w0) hH
  clear hH
  intro w hE hH
  refine RunL.adm 1 (es' := [.c [0], .c [1]]) (by kernel_rfl) ?_
  refine RunL.reg (by kernel_rfl) ?_
  refine RgL.runk 3 [0, 1] (vs := []) (evs := []) (L' := [(0, .int .i64 a0), (1, .slice Aa1 a1.length ca1)]) (by kernel_rfl) (by kernel_rfl) trivial ?_
  refine RgL.done (by kernel_rfl) ?_
  refine RunL.adm 2 (es' := [.c [1, 0, 0], .c [1, 0, 1], .c [1, 1]]) (by kernel_rfl) ?_
  refine RunL.reg (by kernel_rfl) ?_
  refine RgL.runk 1 [0, 1, 10] (vs := []) (evs := []) (L' := [(0, .int .i64 a0), (1, .slice Aa1 a1.length ca1), (10, .int .i64 a0)]) (by kernel_rfl) (by kernel_rfl) trivial ?_
  obtain ⟨y2, hy2, heq⟩ := bind_some heq
  refine RgL.call (d := some 11) (g := 19) (args := #[.int .i64 a0, .int .i64 1, .int .i64 100000]) (by kernel_rfl) (trials_within_c hH  hy2) ?_
  rintro _ w ⟨hx4, rfl⟩
  replace hH := hH.ext hx4
  replace hE := hE.then hx4
  try replace hE0 := hE0.then hx4
  refine RgL.runk 3 [0, 1, 12] (vs := []) (evs := []) (L' := [(0, .int .i64 a0), (1, .slice Aa1 a1.length ca1), (12, .bool (!y2))]) (by kernel_rfl) (by kernel_rfl) trivial ?_
  refine RgL.done (by kernel_rfl) ?_
  rcases bool_cases (!y2) with hb5 | hb5
  · replace heq := bif_true hb5 heq
    refine RunL.condT (c := !y2) (by kernel_rfl) hb5 ?_
    refine RunL.adm 1 (es' := [.c [1, 0, 1, 0, 0], .c [1, 0, 1, 0, 1], .c [1, 1]]) (by kernel_rfl) ?_
    refine RunL.reg (by kernel_rfl) ?_
    refine RgL.runk 3 [4, 5, 6] (vs := []) (evs := []) (L' := [(4, .int .i64 0), (5, .int .i64 0), (6, .int .i64 1)]) (by kernel_rfl) (by kernel_rfl) trivial ?_
    refine RgL.done (by kernel_rfl) ?_
    obtain rfl := Option.some.inj heq
    exact RunL.done (by kernel_rfl) Try.func14 (v := .tuple #[.int .i64 0, .int .i64 0, .int .i64 1]) (by kernel_rfl) ⟨hE, rfl⟩
  · replace heq := bif_false hb5 heq
    refine RunL.condF (c := !y2) (by kernel_rfl) hb5 ?_
    refine RunL.adm 3 (es' := [.c [1, 1, 0, 0], .c [1, 1, 0, 1], .c [1, 1, 1]]) (by kernel_rfl) ?_
    refine RunL.reg (by kernel_rfl) ?_
    refine RgL.runk 3 [0, 1, 15] (vs := []) (evs := []) (L' := [(0, .int .i64 a0), (1, .slice Aa1 a1.length ca1), (15, .bool (decide (3000 < (a1.length : Int))))]) (by kernel_rfl) (by kernel_rfl) trivial ?_
    refine RgL.done (by kernel_rfl) ?_
    rcases bool_cases (decide (3000 < (a1.length : Int))) with hb8 | hb8
    · replace heq := bif_true hb8 heq
      refine RunL.condT (c := decide (3000 < (a1.length : Int))) (by kernel_rfl) hb8 ?_
      refine RunL.adm 1 (es' := [.c [1, 1, 0, 1, 0, 0], .c [1, 1, 0, 1, 0, 1], .c [1, 1, 1]]) (by kernel_rfl) ?_
      refine RunL.reg (by kernel_rfl) ?_
      refine RgL.runk 3 [4, 5, 6] (vs := []) (evs := []) (L' := [(4, .int .i64 0), (5, .int .i64 0), (6, .int .i64 2)]) (by kernel_rfl) (by kernel_rfl) trivial ?_
      refine RgL.done (by kernel_rfl) ?_
      obtain rfl := Option.some.inj heq
      exact RunL.done (by kernel_rfl) Try.func14 (v := .tuple #[.int .i64 0, .int .i64 0, .int .i64 2]) (by kernel_rfl) ⟨hE, rfl⟩
    · replace heq := bif_false hb8 heq
      refine RunL.condF (c := decide (3000 < (a1.length : Int))) (by kernel_rfl) hb8 ?_
      refine RunL.adm 2 (es' := [.c [1, 1, 1, 0], .c [1, 1, 1, 1]]) (by kernel_rfl) ?_
      refine RunL.reg (by kernel_rfl) ?_
      refine RgL.runk 2 [0, 1, 7] (vs := []) (evs := []) (L' := [(0, .int .i64 a0), (1, .slice Aa1 a1.length ca1), (7, .int .i64 a0)]) (by kernel_rfl) (by kernel_rfl) trivial ?_
      refine RgL.done (by kernel_rfl) ?_
      refine RunL.adm 2 (es' := [.c [1, 1, 1, 1, 0, 0], .c [1, 1, 1, 1, 0, 1], .c [1, 1, 1, 1, 1]]) (by kernel_rfl) ?_
      refine RunL.reg (by kernel_rfl) ?_
      refine RgL.runk 3 [0, 7, 17, 18, 19] (vs := []) (evs := []) (L' := [(0, .int .i64 a0), (7, .int .i64 a0), (17, .slice Aa1 a1.length ca1), (18, .int .i64 (a1.length : Int)), (19, .int .i64 0)]) (by kernel_rfl) (by kernel_rfl) trivial ?_
      refine RgL.done (by kernel_rfl) ?_
      refine RunL.adm 2 (es' := [.c [1, 1, 1, 1, 0, 1, 0, 0], .l [1, 1, 1, 1, 0, 1, 0, 0], .b 0, .c [1, 1, 1, 1, 1]]) (by kernel_rfl) ?_
      refine RunL.keep [0, 7, 17, 18, 19] (L' := [(0, .int .i64 a0), (7, .int .i64 a0), (17, .slice Aa1 a1.length ca1), (18, .int .i64 (a1.length : Int)), (19, .int .i64 0)]) (by kernel_rfl) ?_
      exact (trials_Suspects.l14_c trials_Suspects.e12 (trials_Suspects.e12_c)) (((a1.length : Int) - 0).toNat + 1) _ _ _ _ _ _ _ _ hH hE hra1 hca1 heq
noncomputable def C21 : Ctx := { P := Try.prog, f := 21, N := 33, c := bodyOf Try.f21 }
def S21 (w0 : World) (r : Int) (v : Value) (w : World) : Prop := Ext w0 w ∧ v = .int .i64 r
theorem smithyardref10_askProbes.e11_c {w0 : World} {r : Int} : ∀ (H : Hp) (w : World) , Sub H w → Ext w0 w → smithyardref10_askProbes.e11 = some r → RunL C21 (Ret (S21 w0 r)) [.c [1, 1, 1, 1, 0], .c [1, 1, 1, 1, 1]] [] w := by
  intro H w  hH hE  heq
  unfold smithyardref10_askProbes.e11 at heq
  refine RunL.reg (by kernel_rfl) ?_
  refine RgL.runk 1 [4] (vs := []) (evs := []) (L' := [(4, .int .i64 0)]) (by kernel_rfl) (by kernel_rfl) trivial ?_
  refine RgL.done (by kernel_rfl) ?_
  obtain rfl := Option.some.inj heq
  exact RunL.done (by kernel_rfl) Try.func21 (v := .int .i64 0) (by kernel_rfl) ⟨hE, rfl⟩
theorem smithyardref10_askProbes.l13_c {w0 : World} {r : Int} (e11 : Option Int)
    (he11 : ∀ (H : Hp) (w : World) , Sub H w → Ext w0 w → e11 = some r → RunL C21 (Ret (S21 w0 r)) [.c [1, 1, 1, 1, 0], .c [1, 1, 1, 1, 1]] [] w) : ∀ (k : Nat), ∀ (H : Hp) (w : World) (a0 : Int) (a1 : List Probe) (Aa1 : Option Addr) (ca1 : Nat) (v15 : Int), Sub H w → Ext w0 w → Kd.Row kProbe H Aa1 a1 → a1.length ≤ ca1 → smithyardref10_askProbes.l13 e11 k a0 a1 v15 = some r → RunL C21 (Ret (S21 w0 r)) [.c [1, 1, 1, 0, 1, 0, 0], .l [1, 1, 1, 0, 1, 0, 0], .b 0, .c [1, 1, 1, 1]] [(0, .int .i64 a0), (13, .slice Aa1 a1.length ca1), (14, .int .i64 (a1.length : Int)), (15, .int .i64 v15)] w := by
  intro k
  induction k with
  | zero => intro H w a0 a1 Aa1 ca1 v15 hH hE hra1 hca1 heq; exact nomatch (show (none : Option Int) = some r from heq)
  | succ k ih =>
    intro H w a0 a1 Aa1 ca1 v15 hH hE hra1 hca1 heq
    rw [smithyardref10_askProbes.l13] at heq
    refine RunL.adm 1 (es' := [.c [1, 1, 1, 0, 1, 0, 0, 0], .c [1, 1, 1, 0, 1, 0, 0, 1], .l [1, 1, 1, 0, 1, 0, 0], .b 0, .c [1, 1, 1, 1]]) (by kernel_rfl) ?_
    refine RunL.reg (by kernel_rfl) ?_
    refine RgL.runk 1 [0, 13, 14, 15, 16] (vs := []) (evs := []) (L' := [(0, .int .i64 a0), (13, .slice Aa1 a1.length ca1), (14, .int .i64 (a1.length : Int)), (15, .int .i64 v15), (16, .bool (decide (v15 < (a1.length : Int))))]) (by kernel_rfl) (by kernel_rfl) trivial ?_
    refine RgL.done (by kernel_rfl) ?_
    refine RunL.adm 1 (es' := [.c [1, 1, 1, 0, 1, 0, 0, 1, 0], .c [1, 1, 1, 0, 1, 0, 0, 1, 1], .l [1, 1, 1, 0, 1, 0, 0], .b 0, .c [1, 1, 1, 1]]) (by kernel_rfl) ?_
    rcases bool_cases (decide (v15 < (a1.length : Int))) with hb15 | hb15
    · replace heq := bif_true hb15 heq
      refine RunL.condT (c := decide (v15 < (a1.length : Int))) (by kernel_rfl) hb15 ?_
      refine RunL.adm 4 (es' := [.c [1, 1, 1, 0, 1, 0, 0, 1, 1, 0, 0, 0], .c [1, 1, 1, 0, 1, 0, 0, 1, 1, 0, 0, 1], .b 1, .c [1, 1, 1, 0, 1, 0, 0, 1, 1, 1], .l [1, 1, 1, 0, 1, 0, 0], .b 0, .c [1, 1, 1, 1]]) (by kernel_rfl) ?_
      refine RunL.reg (by kernel_rfl) ?_
      obtain ⟨x16, hx16, heq⟩ := bind_some heq
      obtain ⟨ad17, rfl⟩ := hra1.addr hx16
      obtain ⟨csx16, hKx16, hcx16⟩ := hra1.get hx16
      obtain ⟨rfl⟩ := kProbe_open hKx16
      refine RgL.runk 2 [0, 13, 14, 15, 18] (vs := [.int .i64 x16.Place, .bool x16.Pass]) (evs := [.need (0 ≤ v15 ∧ v15 < (a1.length : Int)), .load ((ad17.add (v15.toNat * 2)).add 0) (.int .i64 x16.Place), .load ((ad17.add (v15.toNat * 2)).add 1) (.bool x16.Pass)]) (L' := [(0, .int .i64 a0), (13, .slice (some ad17) a1.length ca1), (14, .int .i64 (a1.length : Int)), (15, .int .i64 v15), (18, .agg #[.int .i64 x16.Place, .bool x16.Pass])]) (by kernel_rfl) (by kernel_rfl) ⟨⟨(at?_some hx16).1, (at?_some hx16).2.1⟩, hcx16 _ hH 0 _ rfl, hcx16 _ hH 1 _ rfl⟩ ?_
      refine RgL.newBox (d := 6) (v := .agg #[.int .i64 x16.Place, .bool x16.Pass]) (cs0 := #[.int .i64 0, .bool false]) (cs' := #[.int .i64 x16.Place, .bool x16.Pass]) (e := 37) (fun g => by kernel_rfl) (fun g => by kernel_rfl) (by kernel_rfl) (by kernel_rfl) ?_
      intro g18 w hgg18 hx20 hsg18 hbg18
      obtain ⟨H, hl, hH, hig18, hk⟩ := addH hH hx20 hgg18 hbg18
      replace hE := hE.then hx20
      try replace hE0 := hE0.then hx20
      replace hra1 := hra1.mono hl
      refine RgL.done (by kernel_rfl) ?_
      refine RunL.adm 2 (es' := [.c [1, 1, 1, 0, 1, 0, 0, 1, 1, 0, 0, 1, 0, 0], .c [1, 1, 1, 0, 1, 0, 0, 1, 1, 0, 0, 1, 0, 1], .c [1, 1, 1, 0, 1, 0, 0, 1, 1, 0, 0, 1, 1], .b 1, .c [1, 1, 1, 0, 1, 0, 0, 1, 1, 1], .l [1, 1, 1, 0, 1, 0, 0], .b 0, .c [1, 1, 1, 1]]) (by kernel_rfl) ?_
      refine RunL.reg (by kernel_rfl) ?_
      refine RgL.runk 3 [0, 6, 13, 14, 15, 20, 21] (vs := [.int .i64 x16.Place]) (evs := [.load ⟨g18, 0, none⟩ (.int .i64 x16.Place)]) (L' := [(0, .int .i64 a0), (6, .pointer (some ⟨g18, 0, none⟩)), (13, .slice (some ad17) a1.length ca1), (14, .int .i64 (a1.length : Int)), (15, .int .i64 v15), (20, .int .i64 x16.Place), (21, .int .i64 a0)]) (by kernel_rfl) (by kernel_rfl) (cellH hig18 hH rfl) ?_
      obtain ⟨y21, hy21, heq⟩ := bind_some heq
      refine RgL.call (d := some 22) (g := 20) (args := #[.int .i64 x16.Place, .int .i64 0, .int .i64 a0]) (by kernel_rfl) (smithyardref10_within_c hH  hy21) ?_
      rintro _ w ⟨hx23, rfl⟩
      replace hH := hH.ext hx23
      replace hE := hE.then hx23
      try replace hE0 := hE0.then hx23
      refine RgL.runk 5 [0, 6, 13, 14, 15, 23] (vs := []) (evs := []) (L' := [(0, .int .i64 a0), (6, .pointer (some ⟨g18, 0, none⟩)), (13, .slice (some ad17) a1.length ca1), (14, .int .i64 (a1.length : Int)), (15, .int .i64 v15), (23, .bool (!y21))]) (by kernel_rfl) (by kernel_rfl) trivial ?_
      refine RgL.done (by kernel_rfl) ?_
      rcases bool_cases (!y21) with hb24 | hb24
      · replace heq := bif_true hb24 heq
        refine RunL.condT (c := !y21) (by kernel_rfl) hb24 ?_
        refine RunL.adm 1 (es' := [.c [1, 1, 1, 0, 1, 0, 0, 1, 1, 0, 0, 1, 0, 1, 0, 0], .c [1, 1, 1, 0, 1, 0, 0, 1, 1, 0, 0, 1, 0, 1, 0, 1], .c [1, 1, 1, 0, 1, 0, 0, 1, 1, 0, 0, 1, 1], .b 1, .c [1, 1, 1, 0, 1, 0, 0, 1, 1, 1], .l [1, 1, 1, 0, 1, 0, 0], .b 0, .c [1, 1, 1, 1]]) (by kernel_rfl) ?_
        refine RunL.reg (by kernel_rfl) ?_
        refine RgL.runk 1 [4] (vs := []) (evs := []) (L' := [(4, .int .i64 1)]) (by kernel_rfl) (by kernel_rfl) trivial ?_
        refine RgL.done (by kernel_rfl) ?_
        obtain rfl := Option.some.inj heq
        exact RunL.done (by kernel_rfl) Try.func21 (v := .int .i64 1) (by kernel_rfl) ⟨hE, rfl⟩
      · replace heq := bif_false hb24 heq
        refine RunL.condF (c := !y21) (by kernel_rfl) hb24 ?_
        refine RunL.adm 2 (es' := [.c [1, 1, 1, 0, 1, 0, 0, 1, 1, 0, 0, 1, 1, 0], .c [1, 1, 1, 0, 1, 0, 0, 1, 1, 0, 0, 1, 1, 1], .b 1, .c [1, 1, 1, 0, 1, 0, 0, 1, 1, 1], .l [1, 1, 1, 0, 1, 0, 0], .b 0, .c [1, 1, 1, 1]]) (by kernel_rfl) ?_
        refine RunL.reg (by kernel_rfl) ?_
        obtain ⟨t27, ht28, heq⟩ := bind_some heq
        have K29 : ∀ w2, Ext w w2 → RunL C21 (Ret (S21 w0 r)) [.c [1, 1, 1, 0, 1, 0, 0, 1, 1, 0, 0, 1, 1, 1], .b 1, .c [1, 1, 1, 0, 1, 0, 0, 1, 1, 1], .l [1, 1, 1, 0, 1, 0, 0], .b 0, .c [1, 1, 1, 1]] [(0, .int .i64 a0), (13, .slice (some ad17) a1.length ca1), (14, .int .i64 (a1.length : Int)), (15, .int .i64 v15), (31, .bool t27)] w2 := by
          intro w hx
          replace hH := hH.ext hx
          replace hE := hE.then hx
          rcases bool_cases (t27) with hb30 | hb30
          · replace heq := bif_true hb30 heq
            refine RunL.condT (c := t27) (by kernel_rfl) hb30 ?_
            refine RunL.adm 1 (es' := [.c [1, 1, 1, 0, 1, 0, 0, 1, 1, 0, 0, 1, 1, 1, 0, 0], .c [1, 1, 1, 0, 1, 0, 0, 1, 1, 0, 0, 1, 1, 1, 0, 1], .b 1, .c [1, 1, 1, 0, 1, 0, 0, 1, 1, 1], .l [1, 1, 1, 0, 1, 0, 0], .b 0, .c [1, 1, 1, 1]]) (by kernel_rfl) ?_
            refine RunL.reg (by kernel_rfl) ?_
            refine RgL.runk 1 [4] (vs := []) (evs := []) (L' := [(4, .int .i64 12)]) (by kernel_rfl) (by kernel_rfl) trivial ?_
            refine RgL.done (by kernel_rfl) ?_
            obtain rfl := Option.some.inj heq
            exact RunL.done (by kernel_rfl) Try.func21 (v := .int .i64 12) (by kernel_rfl) ⟨hE, rfl⟩
          · replace heq := bif_false hb30 heq
            refine RunL.condF (c := t27) (by kernel_rfl) hb30 ?_
            refine RunL.adm 2 (es' := [.c [1, 1, 1, 0, 1, 0, 0, 1, 1, 1], .l [1, 1, 1, 0, 1, 0, 0], .b 0, .c [1, 1, 1, 1]]) (by kernel_rfl) ?_
            refine RunL.reg (by kernel_rfl) ?_
            refine RgL.runk 2 [0, 13, 14, 15] (vs := []) (evs := []) (L' := [(0, .int .i64 a0), (13, .slice (some ad17) a1.length ca1), (14, .int .i64 (a1.length : Int)), (15, .int .i64 (w64 (v15 + 1)))]) (by kernel_rfl) (by kernel_rfl) trivial ?_
            refine RgL.done (by kernel_rfl) ?_
            refine RunL.adm 1 (es' := [.c [1, 1, 1, 0, 1, 0, 0], .l [1, 1, 1, 0, 1, 0, 0], .b 0, .c [1, 1, 1, 1]]) (by kernel_rfl) ?_
            refine RunL.keep [0, 13, 14, 15] (L' := [(0, .int .i64 a0), (13, .slice (some ad17) a1.length ca1), (14, .int .i64 (a1.length : Int)), (15, .int .i64 (w64 (v15 + 1)))]) (by kernel_rfl) ?_
            exact ih _ _ _ _ _ _ _ hH hE hra1 hca1 heq
        replace heq := ht28
        have hE0 := Ext.refl w
        refine RgL.runk 4 [27, 0, 6, 13, 14, 15] (vs := [.int .i64 x16.Place]) (evs := [.load ⟨g18, 0, none⟩ (.int .i64 x16.Place)]) (L' := [(27, .bool (x16.Place == 0)), (0, .int .i64 a0), (6, .pointer (some ⟨g18, 0, none⟩)), (13, .slice (some ad17) a1.length ca1), (14, .int .i64 (a1.length : Int)), (15, .int .i64 v15)]) (by kernel_rfl) (by kernel_rfl) (cellH hig18 hH rfl) ?_
        rcases bool_cases (x16.Place == 0) with hb33 | hb33
        · replace heq := bif_true hb33 heq
          refine RgL.bool1 hb33 ?_
          refine RgL.runk 8 [0, 13, 14, 15, 31] (vs := [.bool x16.Pass]) (evs := [.load ⟨g18, 1, none⟩ (.bool x16.Pass)]) (L' := [(0, .int .i64 a0), (13, .slice (some ad17) a1.length ca1), (14, .int .i64 (a1.length : Int)), (15, .int .i64 v15), (31, .bool (!x16.Pass))]) (by kernel_rfl) (by kernel_rfl) (cellH hig18 hH rfl) ?_
          obtain rfl := Option.some.inj heq
          refine RgL.keep [0, 13, 14, 15, 31] (L' := [(0, .int .i64 a0), (13, .slice (some ad17) a1.length ca1), (14, .int .i64 (a1.length : Int)), (15, .int .i64 v15), (31, .bool (!x16.Pass))]) (by kernel_rfl) ?_
          exact RgL.done (by kernel_rfl) (K29 _ hE0)
        · replace heq := bif_false hb33 heq
          refine RgL.bool1 hb33 ?_
          refine RgL.runk 8 [0, 13, 14, 15, 31] (vs := []) (evs := []) (L' := [(0, .int .i64 a0), (13, .slice (some ad17) a1.length ca1), (14, .int .i64 (a1.length : Int)), (15, .int .i64 v15), (31, .bool false)]) (by kernel_rfl) (by kernel_rfl) trivial ?_
          obtain rfl := Option.some.inj heq
          refine RgL.keep [0, 13, 14, 15, 31] (L' := [(0, .int .i64 a0), (13, .slice (some ad17) a1.length ca1), (14, .int .i64 (a1.length : Int)), (15, .int .i64 v15), (31, .bool false)]) (by kernel_rfl) ?_
          exact RgL.done (by kernel_rfl) (K29 _ hE0)
    · replace heq := bif_false hb15 heq
      refine RunL.condF (c := decide (v15 < (a1.length : Int))) (by kernel_rfl) hb15 ?_
      refine RunL.adm 2 (es' := [.c [1, 1, 1, 1, 0], .c [1, 1, 1, 1, 1]]) (by kernel_rfl) ?_
      refine RunL.keep [] (L' := []) (by kernel_rfl) ?_
      exact he11 _ _  hH hE  heq
theorem smithyardref10_askProbes_c {w0 : World} {H : Hp} {a0 : Int} {a1 : List Probe} {Aa1 : Option Addr} {ca1 : Nat} {r : Int} (hH : Sub H w0) (hra1 : Kd.Row kProbe H Aa1 a1) (hca1 : a1.length ≤ ca1) (heq : smithyardref10_askProbes.f a0 a1 = some r) : Calls Try.prog 21 #[.int .i64 a0, .slice Aa1 a1.length ca1] w0 (Ret (S21 w0 r)) := by
  refine calls_of_runL (F := C21) Try.func21 (by kernel_rfl) Try.ntmps21 (args := [.int .i64 a0, .slice Aa1 a1.length ca1]) (by kernel_rfl) ?_
  unfold smithyardref10_askProbes.f at heq
  suffices h : ∀ w, Ext w0 w → Sub H w → RunL C21 (Ret (S21 w0 r)) [.c []] (argL 0 [.int .i64 a0, .slice Aa1 a1.length ca1]) w from h w0 (Ext.refl w0) hH
  clear hH
  intro w hE hH
  refine RunL.adm 1 (es' := [.c [0], .c [1]]) (by kernel_rfl) ?_
  refine RunL.reg (by kernel_rfl) ?_
  refine RgL.runk 1 [0, 1] (vs := []) (evs := []) (L' := [(0, .int .i64 a0), (1, .slice Aa1 a1.length ca1)]) (by kernel_rfl) (by kernel_rfl) trivial ?_
  refine RgL.done (by kernel_rfl) ?_
  refine RunL.adm 2 (es' := [.c [1, 0, 0], .c [1, 0, 1], .c [1, 1]]) (by kernel_rfl) ?_
  refine RunL.reg (by kernel_rfl) ?_
  refine RgL.runk 1 [0, 1, 7] (vs := []) (evs := []) (L' := [(0, .int .i64 a0), (1, .slice Aa1 a1.length ca1), (7, .int .i64 a0)]) (by kernel_rfl) (by kernel_rfl) trivial ?_
  obtain ⟨y2, hy2, heq⟩ := bind_some heq
  refine RgL.call (d := some 8) (g := 20) (args := #[.int .i64 a0, .int .i64 1, .int .i64 100000]) (by kernel_rfl) (smithyardref10_within_c hH  hy2) ?_
  rintro _ w ⟨hx4, rfl⟩
  replace hH := hH.ext hx4
  replace hE := hE.then hx4
  try replace hE0 := hE0.then hx4
  refine RgL.runk 3 [0, 1, 9] (vs := []) (evs := []) (L' := [(0, .int .i64 a0), (1, .slice Aa1 a1.length ca1), (9, .bool (!y2))]) (by kernel_rfl) (by kernel_rfl) trivial ?_
  refine RgL.done (by kernel_rfl) ?_
  rcases bool_cases (!y2) with hb5 | hb5
  · replace heq := bif_true hb5 heq
    refine RunL.condT (c := !y2) (by kernel_rfl) hb5 ?_
    refine RunL.adm 1 (es' := [.c [1, 0, 1, 0, 0], .c [1, 0, 1, 0, 1], .c [1, 1]]) (by kernel_rfl) ?_
    refine RunL.reg (by kernel_rfl) ?_
    refine RgL.runk 1 [4] (vs := []) (evs := []) (L' := [(4, .int .i64 1)]) (by kernel_rfl) (by kernel_rfl) trivial ?_
    refine RgL.done (by kernel_rfl) ?_
    obtain rfl := Option.some.inj heq
    exact RunL.done (by kernel_rfl) Try.func21 (v := .int .i64 1) (by kernel_rfl) ⟨hE, rfl⟩
  · replace heq := bif_false hb5 heq
    refine RunL.condF (c := !y2) (by kernel_rfl) hb5 ?_
    refine RunL.adm 3 (es' := [.c [1, 1, 0, 0], .c [1, 1, 0, 1], .c [1, 1, 1]]) (by kernel_rfl) ?_
    refine RunL.reg (by kernel_rfl) ?_
    refine RgL.runk 3 [0, 1, 12] (vs := []) (evs := []) (L' := [(0, .int .i64 a0), (1, .slice Aa1 a1.length ca1), (12, .bool (decide (3000 < (a1.length : Int))))]) (by kernel_rfl) (by kernel_rfl) trivial ?_
    refine RgL.done (by kernel_rfl) ?_
    rcases bool_cases (decide (3000 < (a1.length : Int))) with hb8 | hb8
    · replace heq := bif_true hb8 heq
      refine RunL.condT (c := decide (3000 < (a1.length : Int))) (by kernel_rfl) hb8 ?_
      refine RunL.adm 1 (es' := [.c [1, 1, 0, 1, 0, 0], .c [1, 1, 0, 1, 0, 1], .c [1, 1, 1]]) (by kernel_rfl) ?_
      refine RunL.reg (by kernel_rfl) ?_
      refine RgL.runk 1 [4] (vs := []) (evs := []) (L' := [(4, .int .i64 2)]) (by kernel_rfl) (by kernel_rfl) trivial ?_
      refine RgL.done (by kernel_rfl) ?_
      obtain rfl := Option.some.inj heq
      exact RunL.done (by kernel_rfl) Try.func21 (v := .int .i64 2) (by kernel_rfl) ⟨hE, rfl⟩
    · replace heq := bif_false hb8 heq
      refine RunL.condF (c := decide (3000 < (a1.length : Int))) (by kernel_rfl) hb8 ?_
      refine RunL.adm 3 (es' := [.c [1, 1, 1, 0, 0], .c [1, 1, 1, 0, 1], .c [1, 1, 1, 1]]) (by kernel_rfl) ?_
      refine RunL.reg (by kernel_rfl) ?_
      refine RgL.runk 3 [0, 13, 14, 15] (vs := []) (evs := []) (L' := [(0, .int .i64 a0), (13, .slice Aa1 a1.length ca1), (14, .int .i64 (a1.length : Int)), (15, .int .i64 0)]) (by kernel_rfl) (by kernel_rfl) trivial ?_
      refine RgL.done (by kernel_rfl) ?_
      refine RunL.adm 2 (es' := [.c [1, 1, 1, 0, 1, 0, 0], .l [1, 1, 1, 0, 1, 0, 0], .b 0, .c [1, 1, 1, 1]]) (by kernel_rfl) ?_
      refine RunL.keep [0, 13, 14, 15] (L' := [(0, .int .i64 a0), (13, .slice Aa1 a1.length ca1), (14, .int .i64 (a1.length : Int)), (15, .int .i64 0)]) (by kernel_rfl) ?_
      exact (smithyardref10_askProbes.l13_c smithyardref10_askProbes.e11 (smithyardref10_askProbes.e11_c)) (((a1.length : Int) - 0).toNat + 1) _ _ _ _ _ _ _ hH hE hra1 hca1 heq
noncomputable def C22 : Ctx := { P := Try.prog, f := 22, N := 22, c := bodyOf Try.f22 }
def S22 (w0 : World) (r : Int) (v : Value) (w : World) : Prop := Ext w0 w ∧ v = .int .i64 r
theorem smithyardref10_greatest.e3_c {w0 : World} {r : Int} : ∀ (H : Hp) (w : World) (v_n0 : Int), Sub H w → Ext w0 w → smithyardref10_greatest.e3 v_n0 = some r → RunL C22 (Ret (S22 w0 r)) [.c [1, 1, 0], .c [1, 1, 1]] [(0, .int .i64 v_n0)] w := by
  intro H w v_n0 hH hE  heq
  unfold smithyardref10_greatest.e3 at heq
  refine RunL.reg (by kernel_rfl) ?_
  refine RgL.runk 2 [4] (vs := []) (evs := []) (L' := [(4, .int .i64 v_n0)]) (by kernel_rfl) (by kernel_rfl) trivial ?_
  refine RgL.done (by kernel_rfl) ?_
  obtain rfl := Option.some.inj heq
  exact RunL.done (by kernel_rfl) Try.func22 (v := .int .i64 v_n0) (by kernel_rfl) ⟨hE, rfl⟩
theorem smithyardref10_greatest.j14_c {w0 : World} {r : Int} (backl5 : (List Probe) → Int → Int → Option Int)
    (hbackl5 : ∀ (H : Hp) (w : World) (a1 : List Probe) (Aa1 : Option Addr) (ca1 : Nat) (v_n0 : Int) (v9 : Int), Sub H w → Ext w0 w → Kd.Row kProbe H Aa1 a1 → a1.length ≤ ca1 → backl5 a1 v_n0 v9 = some r → RunL C22 (Ret (S22 w0 r)) [.c [1, 0, 1, 0, 0], .l [1, 0, 1, 0, 0], .b 0, .c [1, 1]] [(0, .int .i64 v_n0), (7, .slice Aa1 a1.length ca1), (8, .int .i64 (a1.length : Int)), (9, .int .i64 v9)] w) : ∀ (H : Hp) (w : World) (a1 : List Probe) (ad9 : Addr) (ca1 : Nat) (v9 : Int) (v_n0 : Int), Sub H w → Ext w0 w → Kd.Row kProbe H (some ad9) a1 → a1.length ≤ ca1 → smithyardref10_greatest.j14 backl5 a1 v9 v_n0 = some r → RunL C22 (Ret (S22 w0 r)) [.c [1, 0, 1, 0, 0, 1, 1, 1], .l [1, 0, 1, 0, 0], .b 0, .c [1, 1]] [(0, .int .i64 v_n0), (7, .slice (some ad9) a1.length ca1), (8, .int .i64 (a1.length : Int)), (9, .int .i64 v9)] w := by
  intro H w a1 ad9 ca1 v9 v_n0 hH hE hra1 hca1 heq
  unfold smithyardref10_greatest.j14 at heq
  refine RunL.reg (by kernel_rfl) ?_
  refine RgL.runk 2 [0, 7, 8, 9] (vs := []) (evs := []) (L' := [(0, .int .i64 v_n0), (7, .slice (some ad9) a1.length ca1), (8, .int .i64 (a1.length : Int)), (9, .int .i64 (w64 (v9 + 1)))]) (by kernel_rfl) (by kernel_rfl) trivial ?_
  refine RgL.done (by kernel_rfl) ?_
  refine RunL.adm 1 (es' := [.c [1, 0, 1, 0, 0], .l [1, 0, 1, 0, 0], .b 0, .c [1, 1]]) (by kernel_rfl) ?_
  refine RunL.keep [0, 7, 8, 9] (L' := [(0, .int .i64 v_n0), (7, .slice (some ad9) a1.length ca1), (8, .int .i64 (a1.length : Int)), (9, .int .i64 (w64 (v9 + 1)))]) (by kernel_rfl) ?_
  exact hbackl5 _ _ _ _ _ _ _ hH hE hra1 hca1 heq
theorem smithyardref10_greatest.l5_c {w0 : World} {r : Int} (e3 : Int → Option Int)
    (he3 : ∀ (H : Hp) (w : World) (v_n0 : Int), Sub H w → Ext w0 w → e3 v_n0 = some r → RunL C22 (Ret (S22 w0 r)) [.c [1, 1, 0], .c [1, 1, 1]] [(0, .int .i64 v_n0)] w) : ∀ (k : Nat), ∀ (H : Hp) (w : World) (a1 : List Probe) (Aa1 : Option Addr) (ca1 : Nat) (v_n0 : Int) (v9 : Int), Sub H w → Ext w0 w → Kd.Row kProbe H Aa1 a1 → a1.length ≤ ca1 → smithyardref10_greatest.l5 e3 k a1 v_n0 v9 = some r → RunL C22 (Ret (S22 w0 r)) [.c [1, 0, 1, 0, 0], .l [1, 0, 1, 0, 0], .b 0, .c [1, 1]] [(0, .int .i64 v_n0), (7, .slice Aa1 a1.length ca1), (8, .int .i64 (a1.length : Int)), (9, .int .i64 v9)] w := by
  intro k
  induction k with
  | zero => intro H w a1 Aa1 ca1 v_n0 v9 hH hE hra1 hca1 heq; exact nomatch (show (none : Option Int) = some r from heq)
  | succ k ih =>
    intro H w a1 Aa1 ca1 v_n0 v9 hH hE hra1 hca1 heq
    rw [smithyardref10_greatest.l5] at heq
    refine RunL.adm 1 (es' := [.c [1, 0, 1, 0, 0, 0], .c [1, 0, 1, 0, 0, 1], .l [1, 0, 1, 0, 0], .b 0, .c [1, 1]]) (by kernel_rfl) ?_
    refine RunL.reg (by kernel_rfl) ?_
    refine RgL.runk 1 [0, 7, 8, 9, 10] (vs := []) (evs := []) (L' := [(0, .int .i64 v_n0), (7, .slice Aa1 a1.length ca1), (8, .int .i64 (a1.length : Int)), (9, .int .i64 v9), (10, .bool (decide (v9 < (a1.length : Int))))]) (by kernel_rfl) (by kernel_rfl) trivial ?_
    refine RgL.done (by kernel_rfl) ?_
    refine RunL.adm 1 (es' := [.c [1, 0, 1, 0, 0, 1, 0], .c [1, 0, 1, 0, 0, 1, 1], .l [1, 0, 1, 0, 0], .b 0, .c [1, 1]]) (by kernel_rfl) ?_
    rcases bool_cases (decide (v9 < (a1.length : Int))) with hb7 | hb7
    · replace heq := bif_true hb7 heq
      refine RunL.condT (c := decide (v9 < (a1.length : Int))) (by kernel_rfl) hb7 ?_
      refine RunL.adm 4 (es' := [.c [1, 0, 1, 0, 0, 1, 1, 0, 0, 0], .c [1, 0, 1, 0, 0, 1, 1, 0, 0, 1], .b 1, .c [1, 0, 1, 0, 0, 1, 1, 1], .l [1, 0, 1, 0, 0], .b 0, .c [1, 1]]) (by kernel_rfl) ?_
      refine RunL.reg (by kernel_rfl) ?_
      obtain ⟨x8, hx8, heq⟩ := bind_some heq
      obtain ⟨ad9, rfl⟩ := hra1.addr hx8
      obtain ⟨csx8, hKx8, hcx8⟩ := hra1.get hx8
      obtain ⟨rfl⟩ := kProbe_open hKx8
      refine RgL.runk 2 [0, 7, 8, 9, 12] (vs := [.int .i64 x8.Place, .bool x8.Pass]) (evs := [.need (0 ≤ v9 ∧ v9 < (a1.length : Int)), .load ((ad9.add (v9.toNat * 2)).add 0) (.int .i64 x8.Place), .load ((ad9.add (v9.toNat * 2)).add 1) (.bool x8.Pass)]) (L' := [(0, .int .i64 v_n0), (7, .slice (some ad9) a1.length ca1), (8, .int .i64 (a1.length : Int)), (9, .int .i64 v9), (12, .agg #[.int .i64 x8.Place, .bool x8.Pass])]) (by kernel_rfl) (by kernel_rfl) ⟨⟨(at?_some hx8).1, (at?_some hx8).2.1⟩, hcx8 _ hH 0 _ rfl, hcx8 _ hH 1 _ rfl⟩ ?_
      refine RgL.newBox (d := 6) (v := .agg #[.int .i64 x8.Place, .bool x8.Pass]) (cs0 := #[.int .i64 0, .bool false]) (cs' := #[.int .i64 x8.Place, .bool x8.Pass]) (e := 37) (fun g => by kernel_rfl) (fun g => by kernel_rfl) (by kernel_rfl) (by kernel_rfl) ?_
      intro g10 w hgg10 hx12 hsg10 hbg10
      obtain ⟨H, hl, hH, hig10, hk⟩ := addH hH hx12 hgg10 hbg10
      replace hE := hE.then hx12
      try replace hE0 := hE0.then hx12
      replace hra1 := hra1.mono hl
      refine RgL.done (by kernel_rfl) ?_
      refine RunL.adm 1 (es' := [.c [1, 0, 1, 0, 0, 1, 1, 0, 0, 1, 0], .c [1, 0, 1, 0, 0, 1, 1, 0, 0, 1, 1], .b 1, .c [1, 0, 1, 0, 0, 1, 1, 1], .l [1, 0, 1, 0, 0], .b 0, .c [1, 1]]) (by kernel_rfl) ?_
      refine RunL.reg (by kernel_rfl) ?_
      refine RgL.runk 3 [0, 6, 7, 8, 9, 15] (vs := [.bool x8.Pass]) (evs := [.load ⟨g10, 1, none⟩ (.bool x8.Pass)]) (L' := [(0, .int .i64 v_n0), (6, .pointer (some ⟨g10, 0, none⟩)), (7, .slice (some ad9) a1.length ca1), (8, .int .i64 (a1.length : Int)), (9, .int .i64 v9), (15, .bool (!x8.Pass))]) (by kernel_rfl) (by kernel_rfl) (cellH hig10 hH rfl) ?_
      refine RgL.done (by kernel_rfl) ?_
      rcases bool_cases (!x8.Pass) with hb16 | hb16
      · replace heq := bif_true hb16 heq
        refine RunL.condT (c := !x8.Pass) (by kernel_rfl) hb16 ?_
        refine RunL.reg (by kernel_rfl) ?_
        refine RgL.runk 5 [0, 7, 8, 9] (vs := [.int .i64 x8.Place]) (evs := [.load ⟨g10, 0, none⟩ (.int .i64 x8.Place)]) (L' := [(0, .int .i64 (min2 v_n0 x8.Place)), (7, .slice (some ad9) a1.length ca1), (8, .int .i64 (a1.length : Int)), (9, .int .i64 v9)]) (by kernel_rfl) (by kernel_rfl) (cellH hig10 hH rfl) ?_
        refine RgL.done (by kernel_rfl) ?_
        refine RunL.adm 1 (es' := [.c [1, 0, 1, 0, 0, 1, 1, 1], .l [1, 0, 1, 0, 0], .b 0, .c [1, 1]]) (by kernel_rfl) ?_
        refine RunL.keep [0, 7, 8, 9] (L' := [(0, .int .i64 (min2 v_n0 x8.Place)), (7, .slice (some ad9) a1.length ca1), (8, .int .i64 (a1.length : Int)), (9, .int .i64 v9)]) (by kernel_rfl) ?_
        exact (smithyardref10_greatest.j14_c (smithyardref10_greatest.l5 e3 k) ih) _ _ _ _ _ _ _ hH hE hra1 hca1 heq
      · replace heq := bif_false hb16 heq
        refine RunL.condF (c := !x8.Pass) (by kernel_rfl) hb16 ?_
        refine RunL.adm 2 (es' := [.c [1, 0, 1, 0, 0, 1, 1, 1], .l [1, 0, 1, 0, 0], .b 0, .c [1, 1]]) (by kernel_rfl) ?_
        refine RunL.keep [0, 7, 8, 9] (L' := [(0, .int .i64 v_n0), (7, .slice (some ad9) a1.length ca1), (8, .int .i64 (a1.length : Int)), (9, .int .i64 v9)]) (by kernel_rfl) ?_
        exact (smithyardref10_greatest.j14_c (smithyardref10_greatest.l5 e3 k) ih) _ _ _ _ _ _ _ hH hE hra1 hca1 heq
    · replace heq := bif_false hb7 heq
      refine RunL.condF (c := decide (v9 < (a1.length : Int))) (by kernel_rfl) hb7 ?_
      refine RunL.adm 2 (es' := [.c [1, 1, 0], .c [1, 1, 1]]) (by kernel_rfl) ?_
      refine RunL.keep [0] (L' := [(0, .int .i64 v_n0)]) (by kernel_rfl) ?_
      exact he3 _ _ _ hH hE  heq
theorem smithyardref10_greatest_c {w0 : World} {H : Hp} {a0 : Int} {a1 : List Probe} {Aa1 : Option Addr} {ca1 : Nat} {r : Int} (hH : Sub H w0) (hra1 : Kd.Row kProbe H Aa1 a1) (hca1 : a1.length ≤ ca1) (heq : smithyardref10_greatest.f a0 a1 = some r) : Calls Try.prog 22 #[.int .i64 a0, .slice Aa1 a1.length ca1] w0 (Ret (S22 w0 r)) := by
  refine calls_of_runL (F := C22) Try.func22 (by kernel_rfl) Try.ntmps22 (args := [.int .i64 a0, .slice Aa1 a1.length ca1]) (by kernel_rfl) ?_
  unfold smithyardref10_greatest.f at heq
  suffices h : ∀ w, Ext w0 w → Sub H w → RunL C22 (Ret (S22 w0 r)) [.c []] (argL 0 [.int .i64 a0, .slice Aa1 a1.length ca1]) w from h w0 (Ext.refl w0) hH
  clear hH
  intro w hE hH
  refine RunL.adm 1 (es' := [.c [0], .c [1]]) (by kernel_rfl) ?_
  refine RunL.reg (by kernel_rfl) ?_
  refine RgL.runk 1 [0, 1] (vs := []) (evs := []) (L' := [(0, .int .i64 a0), (1, .slice Aa1 a1.length ca1)]) (by kernel_rfl) (by kernel_rfl) trivial ?_
  refine RgL.done (by kernel_rfl) ?_
  refine RunL.adm 2 (es' := [.c [1, 0, 0], .c [1, 0, 1], .c [1, 1]]) (by kernel_rfl) ?_
  refine RunL.reg (by kernel_rfl) ?_
  refine RgL.runk 3 [0, 7, 8, 9] (vs := []) (evs := []) (L' := [(0, .int .i64 a0), (7, .slice Aa1 a1.length ca1), (8, .int .i64 (a1.length : Int)), (9, .int .i64 0)]) (by kernel_rfl) (by kernel_rfl) trivial ?_
  refine RgL.done (by kernel_rfl) ?_
  refine RunL.adm 2 (es' := [.c [1, 0, 1, 0, 0], .l [1, 0, 1, 0, 0], .b 0, .c [1, 1]]) (by kernel_rfl) ?_
  refine RunL.keep [0, 7, 8, 9] (L' := [(0, .int .i64 a0), (7, .slice Aa1 a1.length ca1), (8, .int .i64 (a1.length : Int)), (9, .int .i64 0)]) (by kernel_rfl) ?_
  exact (smithyardref10_greatest.l5_c smithyardref10_greatest.e3 (smithyardref10_greatest.e3_c)) (((a1.length : Int) - 0).toNat + 1) _ _ _ _ _ _ _ hH hE hra1 hca1 heq
noncomputable def C16 : Ctx := { P := Try.prog, f := 16, N := 17, c := bodyOf Try.f16 }
def S16 (w0 : World) (r : Int × Int × Int) (v : Value) (w : World) : Prop := Ext w0 w ∧ v = .tuple #[.int .i64 r.1, .int .i64 r.2.1, .int .i64 r.2.2]
theorem smithyardref10_Suspects_c {w0 : World} {H : Hp} {a0 : Int} {a1 : List Probe} {Aa1 : Option Addr} {ca1 : Nat} {r : Int × Int × Int} (hH : Sub H w0) (hra1 : Kd.Row kProbe H Aa1 a1) (hca1 : a1.length ≤ ca1) (heq : smithyardref10_Suspects.f a0 a1 = some r) : Calls Try.prog 16 #[.int .i64 a0, .slice Aa1 a1.length ca1] w0 (Ret (S16 w0 r)) := by
  refine calls_of_runL (F := C16) Try.func16 (by kernel_rfl) Try.ntmps16 (args := [.int .i64 a0, .slice Aa1 a1.length ca1]) (by kernel_rfl) ?_
  unfold smithyardref10_Suspects.f at heq
  suffices h : ∀ w, Ext w0 w → Sub H w → RunL C16 (Ret (S16 w0 r)) [.c []] (argL 0 [.int .i64 a0, .slice Aa1 a1.length ca1]) w from h w0 (Ext.refl w0) hH
  clear hH
  intro w hE hH
  refine RunL.adm 1 (es' := [.c [0], .c [1]]) (by kernel_rfl) ?_
  refine RunL.reg (by kernel_rfl) ?_
  refine RgL.runk 3 [0, 1] (vs := []) (evs := []) (L' := [(0, .int .i64 a0), (1, .slice Aa1 a1.length ca1)]) (by kernel_rfl) (by kernel_rfl) trivial ?_
  refine RgL.done (by kernel_rfl) ?_
  refine RunL.adm 2 (es' := [.c [1, 0, 0], .c [1, 0, 1], .c [1, 1]]) (by kernel_rfl) ?_
  refine RunL.reg (by kernel_rfl) ?_
  refine RgL.runk 2 [0, 1, 8, 9] (vs := []) (evs := []) (L' := [(0, .int .i64 a0), (1, .slice Aa1 a1.length ca1), (8, .int .i64 a0), (9, .slice Aa1 a1.length ca1)]) (by kernel_rfl) (by kernel_rfl) trivial ?_
  obtain ⟨y2, hy2, heq⟩ := bind_some heq
  refine RgL.call (d := some 10) (g := 21) (args := #[.int .i64 a0, .slice Aa1 a1.length ca1]) (by kernel_rfl) (smithyardref10_askProbes_c hH hra1 hca1 hy2) ?_
  rintro _ w ⟨hx4, rfl⟩
  replace hH := hH.ext hx4
  replace hE := hE.then hx4
  try replace hE0 := hE0.then hx4
  refine RgL.runk 4 [0, 1, 7] (vs := []) (evs := []) (L' := [(0, .int .i64 a0), (1, .slice Aa1 a1.length ca1), (7, .int .i64 y2)]) (by kernel_rfl) (by kernel_rfl) trivial ?_
  refine RgL.done (by kernel_rfl) ?_
  refine RunL.adm 1 (es' := [.c [1, 0, 1, 0], .c [1, 0, 1, 1], .c [1, 1]]) (by kernel_rfl) ?_
  refine RunL.reg (by kernel_rfl) ?_
  refine RgL.runk 2 [0, 1, 7, 12] (vs := []) (evs := []) (L' := [(0, .int .i64 a0), (1, .slice Aa1 a1.length ca1), (7, .int .i64 y2), (12, .bool (y2 != 0))]) (by kernel_rfl) (by kernel_rfl) trivial ?_
  refine RgL.done (by kernel_rfl) ?_
  rcases bool_cases (y2 != 0) with hb6 | hb6
  · replace heq := bif_true hb6 heq
    refine RunL.condT (c := y2 != 0) (by kernel_rfl) hb6 ?_
    refine RunL.adm 1 (es' := [.c [1, 0, 1, 1, 0, 0], .c [1, 0, 1, 1, 0, 1], .c [1, 1]]) (by kernel_rfl) ?_
    refine RunL.reg (by kernel_rfl) ?_
    refine RgL.runk 4 [4, 5, 6] (vs := []) (evs := []) (L' := [(4, .int .i64 0), (5, .int .i64 0), (6, .int .i64 y2)]) (by kernel_rfl) (by kernel_rfl) trivial ?_
    refine RgL.done (by kernel_rfl) ?_
    obtain rfl := Option.some.inj heq
    exact RunL.done (by kernel_rfl) Try.func16 (v := .tuple #[.int .i64 0, .int .i64 0, .int .i64 y2]) (by kernel_rfl) ⟨hE, rfl⟩
  · replace heq := bif_false hb6 heq
    refine RunL.condF (c := y2 != 0) (by kernel_rfl) hb6 ?_
    refine RunL.adm 2 (es' := [.c [1, 1, 0], .c [1, 1, 1]]) (by kernel_rfl) ?_
    refine RunL.reg (by kernel_rfl) ?_
    refine RgL.runk 2 [14, 15] (vs := []) (evs := []) (L' := [(14, .int .i64 a0), (15, .slice Aa1 a1.length ca1)]) (by kernel_rfl) (by kernel_rfl) trivial ?_
    obtain ⟨y8, hy8, heq⟩ := bind_some heq
    refine RgL.call (d := some 16) (g := 22) (args := #[.int .i64 a0, .slice Aa1 a1.length ca1]) (by kernel_rfl) (smithyardref10_greatest_c hH hra1 hca1 hy8) ?_
    rintro _ w ⟨hx10, rfl⟩
    replace hH := hH.ext hx10
    replace hE := hE.then hx10
    try replace hE0 := hE0.then hx10
    refine RgL.runk 6 [4, 5, 6] (vs := []) (evs := []) (L' := [(4, .int .i64 1), (5, .int .i64 y8), (6, .int .i64 0)]) (by kernel_rfl) (by kernel_rfl) trivial ?_
    refine RgL.done (by kernel_rfl) ?_
    obtain rfl := Option.some.inj heq
    exact RunL.done (by kernel_rfl) Try.func16 (v := .tuple #[.int .i64 1, .int .i64 y8, .int .i64 0]) (by kernel_rfl) ⟨hE, rfl⟩
noncomputable def C18 : Ctx := { P := Try.prog, f := 18, N := 26, c := bodyOf Try.f18 }
def S18 (w0 : World) (r : Bool) (v : Value) (w : World) : Prop := Ext w0 w ∧ v = .bool r
theorem slices_Equal_Probe.e6_c {w0 : World} {r : Bool} : ∀ (H : Hp) (w : World) , Sub H w → Ext w0 w → slices_Equal_Probe.e6 = some r → RunL C18 (Ret (S18 w0 r)) [.c [1, 1, 1, 0], .c [1, 1, 1, 1]] [] w := by
  intro H w  hH hE  heq
  unfold slices_Equal_Probe.e6 at heq
  refine RunL.reg (by kernel_rfl) ?_
  refine RgL.runk 1 [4] (vs := []) (evs := []) (L' := [(4, .bool true)]) (by kernel_rfl) (by kernel_rfl) trivial ?_
  refine RgL.done (by kernel_rfl) ?_
  obtain rfl := Option.some.inj heq
  exact RunL.done (by kernel_rfl) Try.func18 (v := .bool true) (by kernel_rfl) ⟨hE, rfl⟩
theorem slices_Equal_Probe.l8_c {w0 : World} {r : Bool} (e6 : Option Bool)
    (he6 : ∀ (H : Hp) (w : World) , Sub H w → Ext w0 w → e6 = some r → RunL C18 (Ret (S18 w0 r)) [.c [1, 1, 1, 0], .c [1, 1, 1, 1]] [] w) : ∀ (k : Nat), ∀ (H : Hp) (w : World) (a0 : List Probe) (Aa0 : Option Addr) (ca0 : Nat) (a1 : List Probe) (Aa1 : Option Addr) (ca1 : Nat) (v13 : Int), Sub H w → Ext w0 w → Kd.Row kProbe H Aa0 a0 → a0.length ≤ ca0 → Kd.Row kProbe H Aa1 a1 → a1.length ≤ ca1 → slices_Equal_Probe.l8 e6 k a0 a1 v13 = some r → RunL C18 (Ret (S18 w0 r)) [.c [1, 1, 0, 1, 0, 0], .l [1, 1, 0, 1, 0, 0], .b 0, .c [1, 1, 1]] [(0, .slice Aa0 a0.length ca0), (1, .slice Aa1 a1.length ca1), (12, .int .i64 (a0.length : Int)), (13, .int .i64 v13)] w := by
  intro k
  induction k with
  | zero => intro H w a0 Aa0 ca0 a1 Aa1 ca1 v13 hH hE hra0 hca0 hra1 hca1 heq; exact nomatch (show (none : Option Bool) = some r from heq)
  | succ k ih =>
    intro H w a0 Aa0 ca0 a1 Aa1 ca1 v13 hH hE hra0 hca0 hra1 hca1 heq
    rw [slices_Equal_Probe.l8] at heq
    refine RunL.adm 1 (es' := [.c [1, 1, 0, 1, 0, 0, 0], .c [1, 1, 0, 1, 0, 0, 1], .l [1, 1, 0, 1, 0, 0], .b 0, .c [1, 1, 1]]) (by kernel_rfl) ?_
    refine RunL.reg (by kernel_rfl) ?_
    refine RgL.runk 1 [0, 1, 12, 13, 14] (vs := []) (evs := []) (L' := [(0, .slice Aa0 a0.length ca0), (1, .slice Aa1 a1.length ca1), (12, .int .i64 (a0.length : Int)), (13, .int .i64 v13), (14, .bool (decide (v13 < (a0.length : Int))))]) (by kernel_rfl) (by kernel_rfl) trivial ?_
    refine RgL.done (by kernel_rfl) ?_
    refine RunL.adm 1 (es' := [.c [1, 1, 0, 1, 0, 0, 1, 0], .c [1, 1, 0, 1, 0, 0, 1, 1], .l [1, 1, 0, 1, 0, 0], .b 0, .c [1, 1, 1]]) (by kernel_rfl) ?_
    rcases bool_cases (decide (v13 < (a0.length : Int))) with hb10 | hb10
    · replace heq := bif_true hb10 heq
      refine RunL.condT (c := decide (v13 < (a0.length : Int))) (by kernel_rfl) hb10 ?_
      refine RunL.adm 4 (es' := [.c [1, 1, 0, 1, 0, 0, 1, 1, 0, 0, 0], .c [1, 1, 0, 1, 0, 0, 1, 1, 0, 0, 1], .b 1, .c [1, 1, 0, 1, 0, 0, 1, 1, 1], .l [1, 1, 0, 1, 0, 0], .b 0, .c [1, 1, 1]]) (by kernel_rfl) ?_
      refine RunL.reg (by kernel_rfl) ?_
      refine RgL.runk 2 [0, 1, 5, 12, 13] (vs := []) (evs := []) (L' := [(0, .slice Aa0 a0.length ca0), (1, .slice Aa1 a1.length ca1), (5, .int .i64 v13), (12, .int .i64 (a0.length : Int)), (13, .int .i64 v13)]) (by kernel_rfl) (by kernel_rfl) trivial ?_
      refine RgL.done (by kernel_rfl) ?_
      refine RunL.adm 1 (es' := [.c [1, 1, 0, 1, 0, 0, 1, 1, 0, 0, 1, 0], .c [1, 1, 0, 1, 0, 0, 1, 1, 0, 0, 1, 1], .b 1, .c [1, 1, 0, 1, 0, 0, 1, 1, 1], .l [1, 1, 0, 1, 0, 0], .b 0, .c [1, 1, 1]]) (by kernel_rfl) ?_
      refine RunL.quiet (Ext w) (by kernel_rfl) (by kernel_rfl) (by kernel_rfl) (Ext.drawn w) ?_
      obtain ⟨x12, hx12, heq⟩ := bind_some heq
      obtain ⟨ad13, rfl⟩ := hra0.addr hx12
      obtain ⟨csx12, hKx12, hcx12⟩ := hra0.get hx12
      obtain ⟨rfl⟩ := kProbe_open hKx12
      obtain ⟨x14, hx14, heq⟩ := bind_some heq
      obtain ⟨ad15, rfl⟩ := hra1.addr hx14
      obtain ⟨csx14, hKx14, hcx14⟩ := hra1.get hx14
      obtain ⟨rfl⟩ := kProbe_open hKx14
      refine QgL.runk 9 [0, 1, 12, 13, 24] (vs := [.int .i64 x12.Place, .bool x12.Pass, .int .i64 x14.Place, .bool x14.Pass]) (evs := [.need (0 ≤ v13 ∧ v13 < (a0.length : Int)), .load ((ad13.add (v13.toNat * 2)).add 0) (.int .i64 x12.Place), .load ((ad13.add (v13.toNat * 2)).add 1) (.bool x12.Pass), .need (0 ≤ v13 ∧ v13 < (a1.length : Int)), .load ((ad15.add (v13.toNat * 2)).add 0) (.int .i64 x14.Place), .load ((ad15.add (v13.toNat * 2)).add 1) (.bool x14.Pass)]) (L' := [(0, .slice (some ad13) a0.length ca0), (1, .slice (some ad15) a1.length ca1), (12, .int .i64 (a0.length : Int)), (13, .int .i64 v13), (24, .bool (!(x12.Place == x14.Place && (x12.Pass == x14.Pass && true))))]) (by kernel_rfl) (by kernel_rfl) (fun wC hC => ⟨⟨(at?_some hx12).1, (at?_some hx12).2.1⟩, hcx12 _ (hH.ext hC) 0 _ rfl, hcx12 _ (hH.ext hC) 1 _ rfl, ⟨(at?_some hx14).1, (at?_some hx14).2.1⟩, hcx14 _ (hH.ext hC) 0 _ rfl, hcx14 _ (hH.ext hC) 1 _ rfl⟩) ?_
      refine QgL.done (by kernel_rfl) (fun w hx17 => ?_)
      replace hH := hH.ext hx17
      replace hE := hE.then hx17
      try replace hE0 := hE0.then hx17
      rcases bool_cases (!(x12.Place == x14.Place && (x12.Pass == x14.Pass && true))) with hb18 | hb18
      · replace heq := bif_true hb18 heq
        refine RunL.condT (c := !(x12.Place == x14.Place && (x12.Pass == x14.Pass && true))) (by kernel_rfl) hb18 ?_
        refine RunL.adm 1 (es' := [.c [1, 1, 0, 1, 0, 0, 1, 1, 0, 0, 1, 1, 0, 0], .c [1, 1, 0, 1, 0, 0, 1, 1, 0, 0, 1, 1, 0, 1], .b 1, .c [1, 1, 0, 1, 0, 0, 1, 1, 1], .l [1, 1, 0, 1, 0, 0], .b 0, .c [1, 1, 1]]) (by kernel_rfl) ?_
        refine RunL.reg (by kernel_rfl) ?_
        refine RgL.runk 1 [4] (vs := []) (evs := []) (L' := [(4, .bool false)]) (by kernel_rfl) (by kernel_rfl) trivial ?_
        refine RgL.done (by kernel_rfl) ?_
        obtain rfl := Option.some.inj heq
        exact RunL.done (by kernel_rfl) Try.func18 (v := .bool false) (by kernel_rfl) ⟨hE, rfl⟩
      · replace heq := bif_false hb18 heq
        refine RunL.condF (c := !(x12.Place == x14.Place && (x12.Pass == x14.Pass && true))) (by kernel_rfl) hb18 ?_
        refine RunL.adm 2 (es' := [.c [1, 1, 0, 1, 0, 0, 1, 1, 1], .l [1, 1, 0, 1, 0, 0], .b 0, .c [1, 1, 1]]) (by kernel_rfl) ?_
        refine RunL.reg (by kernel_rfl) ?_
        refine RgL.runk 2 [0, 1, 12, 13] (vs := []) (evs := []) (L' := [(0, .slice (some ad13) a0.length ca0), (1, .slice (some ad15) a1.length ca1), (12, .int .i64 (a0.length : Int)), (13, .int .i64 (w64 (v13 + 1)))]) (by kernel_rfl) (by kernel_rfl) trivial ?_
        refine RgL.done (by kernel_rfl) ?_
        refine RunL.adm 1 (es' := [.c [1, 1, 0, 1, 0, 0], .l [1, 1, 0, 1, 0, 0], .b 0, .c [1, 1, 1]]) (by kernel_rfl) ?_
        refine RunL.keep [0, 1, 12, 13] (L' := [(0, .slice (some ad13) a0.length ca0), (1, .slice (some ad15) a1.length ca1), (12, .int .i64 (a0.length : Int)), (13, .int .i64 (w64 (v13 + 1)))]) (by kernel_rfl) ?_
        exact ih _ _ _ _ _ _ _ _ _ hH hE hra0 hca0 hra1 hca1 heq
    · replace heq := bif_false hb10 heq
      refine RunL.condF (c := decide (v13 < (a0.length : Int))) (by kernel_rfl) hb10 ?_
      refine RunL.adm 2 (es' := [.c [1, 1, 1, 0], .c [1, 1, 1, 1]]) (by kernel_rfl) ?_
      refine RunL.keep [] (L' := []) (by kernel_rfl) ?_
      exact he6 _ _  hH hE  heq
theorem slices_Equal_Probe_c {w0 : World} {H : Hp} {a0 : List Probe} {Aa0 : Option Addr} {ca0 : Nat} {a1 : List Probe} {Aa1 : Option Addr} {ca1 : Nat} {r : Bool} (hH : Sub H w0) (hra0 : Kd.Row kProbe H Aa0 a0) (hca0 : a0.length ≤ ca0) (hra1 : Kd.Row kProbe H Aa1 a1) (hca1 : a1.length ≤ ca1) (heq : slices_Equal_Probe.f a0 a1 = some r) : Calls Try.prog 18 #[.slice Aa0 a0.length ca0, .slice Aa1 a1.length ca1] w0 (Ret (S18 w0 r)) := by
  refine calls_of_runL (F := C18) Try.func18 (by kernel_rfl) Try.ntmps18 (args := [.slice Aa0 a0.length ca0, .slice Aa1 a1.length ca1]) (by kernel_rfl) ?_
  unfold slices_Equal_Probe.f at heq
  suffices h : ∀ w, Ext w0 w → Sub H w → RunL C18 (Ret (S18 w0 r)) [.c []] (argL 0 [.slice Aa0 a0.length ca0, .slice Aa1 a1.length ca1]) w from h w0 (Ext.refl w0) hH
  clear hH
  intro w hE hH
  refine RunL.adm 1 (es' := [.c [0], .c [1]]) (by kernel_rfl) ?_
  refine RunL.reg (by kernel_rfl) ?_
  refine RgL.runk 1 [0, 1] (vs := []) (evs := []) (L' := [(0, .slice Aa0 a0.length ca0), (1, .slice Aa1 a1.length ca1)]) (by kernel_rfl) (by kernel_rfl) trivial ?_
  refine RgL.done (by kernel_rfl) ?_
  refine RunL.adm 2 (es' := [.c [1, 0, 0], .c [1, 0, 1], .c [1, 1]]) (by kernel_rfl) ?_
  refine RunL.reg (by kernel_rfl) ?_
  refine RgL.runk 5 [0, 1, 10] (vs := []) (evs := []) (L' := [(0, .slice Aa0 a0.length ca0), (1, .slice Aa1 a1.length ca1), (10, .bool ((a0.length : Int) != (a1.length : Int)))]) (by kernel_rfl) (by kernel_rfl) trivial ?_
  refine RgL.done (by kernel_rfl) ?_
  rcases bool_cases ((a0.length : Int) != (a1.length : Int)) with hb3 | hb3
  · replace heq := bif_true hb3 heq
    refine RunL.condT (c := (a0.length : Int) != (a1.length : Int)) (by kernel_rfl) hb3 ?_
    refine RunL.adm 1 (es' := [.c [1, 0, 1, 0, 0], .c [1, 0, 1, 0, 1], .c [1, 1]]) (by kernel_rfl) ?_
    refine RunL.reg (by kernel_rfl) ?_
    refine RgL.runk 1 [4] (vs := []) (evs := []) (L' := [(4, .bool false)]) (by kernel_rfl) (by kernel_rfl) trivial ?_
    refine RgL.done (by kernel_rfl) ?_
    obtain rfl := Option.some.inj heq
    exact RunL.done (by kernel_rfl) Try.func18 (v := .bool false) (by kernel_rfl) ⟨hE, rfl⟩
  · replace heq := bif_false hb3 heq
    refine RunL.condF (c := (a0.length : Int) != (a1.length : Int)) (by kernel_rfl) hb3 ?_
    refine RunL.adm 3 (es' := [.c [1, 1, 0, 0], .c [1, 1, 0, 1], .c [1, 1, 1]]) (by kernel_rfl) ?_
    refine RunL.reg (by kernel_rfl) ?_
    refine RgL.runk 3 [0, 1, 12, 13] (vs := []) (evs := []) (L' := [(0, .slice Aa0 a0.length ca0), (1, .slice Aa1 a1.length ca1), (12, .int .i64 (a0.length : Int)), (13, .int .i64 0)]) (by kernel_rfl) (by kernel_rfl) trivial ?_
    refine RgL.done (by kernel_rfl) ?_
    refine RunL.adm 2 (es' := [.c [1, 1, 0, 1, 0, 0], .l [1, 1, 0, 1, 0, 0], .b 0, .c [1, 1, 1]]) (by kernel_rfl) ?_
    refine RunL.keep [0, 1, 12, 13] (L' := [(0, .slice Aa0 a0.length ca0), (1, .slice Aa1 a1.length ca1), (12, .int .i64 (a0.length : Int)), (13, .int .i64 0)]) (by kernel_rfl) ?_
    exact (slices_Equal_Probe.l8_c slices_Equal_Probe.e6 (slices_Equal_Probe.e6_c)) (((a0.length : Int) - 0).toNat + 1) _ _ _ _ _ _ _ _ _ hH hE hra0 hca0 hra1 hca1 heq
noncomputable def C17 : Ctx := { P := Try.prog, f := 17, N := 58, c := bodyOf Try.f17 }
def S17 (w0 : World) (r : Int × Bool × Int) (v : Value) (w : World) : Prop := Ext w0 w ∧ v = .tuple #[.int .i64 r.1, .bool r.2.1, .int .i64 r.2.2]
theorem smithyardref10_NextProbe.e16_c {w0 : World} {r : Int × Bool × Int} : ∀ (H : Hp) (w : World) , Sub H w → Ext w0 w → smithyardref10_NextProbe.e16 = some r → RunL C17 (Ret (S17 w0 r)) [.c [1, 1, 1, 1, 1, 0], .c [1, 1, 1, 1, 1, 1]] [] w := by
  intro H w  hH hE  heq
  unfold smithyardref10_NextProbe.e16 at heq
  refine RunL.reg (by kernel_rfl) ?_
  refine RgL.runk 3 [6, 7, 8] (vs := []) (evs := []) (L' := [(6, .int .i64 0), (7, .bool false), (8, .int .i64 0)]) (by kernel_rfl) (by kernel_rfl) trivial ?_
  refine RgL.done (by kernel_rfl) ?_
  obtain rfl := Option.some.inj heq
  exact RunL.done (by kernel_rfl) Try.func17 (v := .tuple #[.int .i64 0, .bool false, .int .i64 0]) (by kernel_rfl) ⟨hE, rfl⟩
theorem smithyardref10_NextProbe.e24_c {w0 : World} {r : Int × Bool × Int} (backl18 : (List Probe) → Int → Int → Int → Option (Int × Bool × Int))
    (hbackl18 : ∀ (H : Hp) (w : World) (a1 : List Probe) (Aa1 : Option Addr) (ca1 : Nat) (a2 : Int) (y13 : Int) (v_lo10 : Int), Sub H w → Ext w0 w → Kd.Row kProbe H Aa1 a1 → a1.length ≤ ca1 → backl18 a1 a2 y13 v_lo10 = some r → RunL C17 (Ret (S17 w0 r)) [.c [1, 1, 1, 1, 0, 0, 0], .l [1, 1, 1, 1, 0, 0, 0], .b 0, .c [1, 1, 1, 1, 1]] [(1, .slice Aa1 a1.length ca1), (2, .int .i64 a2), (10, .int .i64 v_lo10), (11, .int .i64 y13)] w) : ∀ (H : Hp) (w : World) (a1 : List Probe) (Aa1 : Option Addr) (ca1 : Nat) (a2 : Int) (y13 : Int) (v_mid12 : Int) (v_good13 : Int), Sub H w → Ext w0 w → Kd.Row kProbe H Aa1 a1 → a1.length ≤ ca1 → smithyardref10_NextProbe.e24 backl18 a1 a2 y13 v_mid12 v_good13 = some r → RunL C17 (Ret (S17 w0 r)) [.c [1, 1, 1, 1, 0, 0, 0, 1, 0, 1, 1, 1, 0, 0], .c [1, 1, 1, 1, 0, 0, 0, 1, 0, 1, 1, 1, 0, 1], .c [1, 1, 1, 1, 0, 0, 0, 1, 0, 1, 1, 1, 1], .b 1, .l [1, 1, 1, 1, 0, 0, 0], .b 0, .c [1, 1, 1, 1, 1]] [(1, .slice Aa1 a1.length ca1), (2, .int .i64 a2), (11, .int .i64 y13), (12, .int .i64 v_mid12), (13, .int .i64 v_good13)] w := by
  intro H w a1 Aa1 ca1 a2 y13 v_mid12 v_good13 hH hE hra1 hca1 heq
  unfold smithyardref10_NextProbe.e24 at heq
  refine RunL.reg (by kernel_rfl) ?_
  refine RgL.runk 3 [1, 2, 11, 12, 55] (vs := []) (evs := []) (L' := [(1, .slice Aa1 a1.length ca1), (2, .int .i64 a2), (11, .int .i64 y13), (12, .int .i64 v_mid12), (55, .bool (decide (v_good13 < a2)))]) (by kernel_rfl) (by kernel_rfl) trivial ?_
  refine RgL.done (by kernel_rfl) ?_
  rcases bool_cases (decide (v_good13 < a2)) with hb26 | hb26
  · replace heq := bif_true hb26 heq
    refine RunL.condT (c := decide (v_good13 < a2)) (by kernel_rfl) hb26 ?_
    refine RunL.adm 1 (es' := [.c [1, 1, 1, 1, 0, 0, 0, 1, 0, 1, 1, 1, 0, 1, 0, 0], .c [1, 1, 1, 1, 0, 0, 0, 1, 0, 1, 1, 1, 0, 1, 0, 1], .c [1, 1, 1, 1, 0, 0, 0, 1, 0, 1, 1, 1, 1], .b 1, .l [1, 1, 1, 1, 0, 0, 0], .b 0, .c [1, 1, 1, 1, 1]]) (by kernel_rfl) ?_
    refine RunL.reg (by kernel_rfl) ?_
    refine RgL.runk 4 [6, 7, 8] (vs := []) (evs := []) (L' := [(6, .int .i64 v_mid12), (7, .bool true), (8, .int .i64 0)]) (by kernel_rfl) (by kernel_rfl) trivial ?_
    refine RgL.done (by kernel_rfl) ?_
    obtain rfl := Option.some.inj heq
    exact RunL.done (by kernel_rfl) Try.func17 (v := .tuple #[.int .i64 v_mid12, .bool true, .int .i64 0]) (by kernel_rfl) ⟨hE, rfl⟩
  · replace heq := bif_false hb26 heq
    refine RunL.condF (c := decide (v_good13 < a2)) (by kernel_rfl) hb26 ?_
    refine RunL.adm 1 (es' := [.c [1, 1, 1, 1, 0, 0, 0, 1, 0, 1, 1, 1, 1], .b 1, .l [1, 1, 1, 1, 0, 0, 0], .b 0, .c [1, 1, 1, 1, 1]]) (by kernel_rfl) ?_
    refine RunL.reg (by kernel_rfl) ?_
    refine RgL.runk 2 [1, 2, 10, 11] (vs := []) (evs := []) (L' := [(1, .slice Aa1 a1.length ca1), (2, .int .i64 a2), (10, .int .i64 v_mid12), (11, .int .i64 y13)]) (by kernel_rfl) (by kernel_rfl) trivial ?_
    refine RgL.done (by kernel_rfl) ?_
    refine RunL.adm 2 (es' := [.c [1, 1, 1, 1, 0, 0, 0], .l [1, 1, 1, 1, 0, 0, 0], .b 0, .c [1, 1, 1, 1, 1]]) (by kernel_rfl) ?_
    refine RunL.keep [1, 2, 10, 11] (L' := [(1, .slice Aa1 a1.length ca1), (2, .int .i64 a2), (10, .int .i64 v_mid12), (11, .int .i64 y13)]) (by kernel_rfl) ?_
    exact hbackl18 _ _ _ _ _ _ _ _ hH hE hra1 hca1 heq
theorem smithyardref10_NextProbe.j41_c {w0 : World} {r : Int × Bool × Int} (backl29 : (List Probe) → Int → Int → Int → Int → (List Probe) → Int → Int → Option (Int × Bool × Int))
    (hbackl29 : ∀ (H : Hp) (w : World) (a1 : List Probe) (Aa1 : Option Addr) (ca1 : Nat) (a2 : Int) (y13 : Int) (v_mid12 : Int) (v_good13 : Int) (v36 : List Probe) (Av36 : Option Addr) (cv36 : Nat) (v37 : Int) (v38 : Int), Sub H w → Ext w0 w → Kd.Row kProbe H Aa1 a1 → a1.length ≤ ca1 → Kd.Row kProbe H Av36 v36 → v36.length ≤ cv36 → backl29 a1 a2 y13 v_mid12 v_good13 v36 v37 v38 = some r → RunL C17 (Ret (S17 w0 r)) [.c [1, 1, 1, 1, 0, 0, 0, 1, 0, 1, 1, 0, 1, 0, 0], .l [1, 1, 1, 1, 0, 0, 0, 1, 0, 1, 1, 0, 1, 0, 0], .b 2, .c [1, 1, 1, 1, 0, 0, 0, 1, 0, 1, 1, 1], .b 1, .l [1, 1, 1, 1, 0, 0, 0], .b 0, .c [1, 1, 1, 1, 1]] [(1, .slice Aa1 a1.length ca1), (2, .int .i64 a2), (11, .int .i64 y13), (12, .int .i64 v_mid12), (13, .int .i64 v_good13), (36, .slice Av36 v36.length cv36), (37, .int .i64 v37), (38, .int .i64 v38)] w) : ∀ (H : Hp) (w : World) (a1 : List Probe) (Aa1 : Option Addr) (ca1 : Nat) (a2 : Int) (y13 : Int) (v_mid12 : Int) (v36 : List Probe) (ad33 : Addr) (cv36 : Nat) (v37 : Int) (v38 : Int) (v_good13 : Int), Sub H w → Ext w0 w → Kd.Row kProbe H Aa1 a1 → a1.length ≤ ca1 → Kd.Row kProbe H (some ad33) v36 → v36.length ≤ cv36 → smithyardref10_NextProbe.j41 backl29 a1 a2 y13 v_mid12 v36 v37 v38 v_good13 = some r → RunL C17 (Ret (S17 w0 r)) [.c [1, 1, 1, 1, 0, 0, 0, 1, 0, 1, 1, 0, 1, 0, 0, 1, 1, 1], .l [1, 1, 1, 1, 0, 0, 0, 1, 0, 1, 1, 0, 1, 0, 0], .b 2, .c [1, 1, 1, 1, 0, 0, 0, 1, 0, 1, 1, 1], .b 1, .l [1, 1, 1, 1, 0, 0, 0], .b 0, .c [1, 1, 1, 1, 1]] [(1, .slice Aa1 a1.length ca1), (2, .int .i64 a2), (11, .int .i64 y13), (12, .int .i64 v_mid12), (13, .int .i64 v_good13), (36, .slice (some ad33) v36.length cv36), (37, .int .i64 v37), (38, .int .i64 v38)] w := by
  intro H w a1 Aa1 ca1 a2 y13 v_mid12 v36 ad33 cv36 v37 v38 v_good13 hH hE hra1 hca1 hrv36 hcv36 heq
  unfold smithyardref10_NextProbe.j41 at heq
  refine RunL.reg (by kernel_rfl) ?_
  refine RgL.runk 2 [1, 2, 11, 12, 13, 36, 37, 38] (vs := []) (evs := []) (L' := [(1, .slice Aa1 a1.length ca1), (2, .int .i64 a2), (11, .int .i64 y13), (12, .int .i64 v_mid12), (13, .int .i64 v_good13), (36, .slice (some ad33) v36.length cv36), (37, .int .i64 v37), (38, .int .i64 (w64 (v38 + 1)))]) (by kernel_rfl) (by kernel_rfl) trivial ?_
  refine RgL.done (by kernel_rfl) ?_
  refine RunL.adm 1 (es' := [.c [1, 1, 1, 1, 0, 0, 0, 1, 0, 1, 1, 0, 1, 0, 0], .l [1, 1, 1, 1, 0, 0, 0, 1, 0, 1, 1, 0, 1, 0, 0], .b 2, .c [1, 1, 1, 1, 0, 0, 0, 1, 0, 1, 1, 1], .b 1, .l [1, 1, 1, 1, 0, 0, 0], .b 0, .c [1, 1, 1, 1, 1]]) (by kernel_rfl) ?_
  refine RunL.keep [1, 2, 11, 12, 13, 36, 37, 38] (L' := [(1, .slice Aa1 a1.length ca1), (2, .int .i64 a2), (11, .int .i64 y13), (12, .int .i64 v_mid12), (13, .int .i64 v_good13), (36, .slice (some ad33) v36.length cv36), (37, .int .i64 v37), (38, .int .i64 (w64 (v38 + 1)))]) (by kernel_rfl) ?_
  exact hbackl29 _ _ _ _ _ _ _ _ _ _ _ _ _ _ hH hE hra1 hca1 hrv36 hcv36 heq
theorem smithyardref10_NextProbe.l29_c {w0 : World} {r : Int × Bool × Int} (e24 : (List Probe) → Int → Int → Int → Int → Option (Int × Bool × Int))
    (he24 : ∀ (H : Hp) (w : World) (a1 : List Probe) (Aa1 : Option Addr) (ca1 : Nat) (a2 : Int) (y13 : Int) (v_mid12 : Int) (v_good13 : Int), Sub H w → Ext w0 w → Kd.Row kProbe H Aa1 a1 → a1.length ≤ ca1 → e24 a1 a2 y13 v_mid12 v_good13 = some r → RunL C17 (Ret (S17 w0 r)) [.c [1, 1, 1, 1, 0, 0, 0, 1, 0, 1, 1, 1, 0, 0], .c [1, 1, 1, 1, 0, 0, 0, 1, 0, 1, 1, 1, 0, 1], .c [1, 1, 1, 1, 0, 0, 0, 1, 0, 1, 1, 1, 1], .b 1, .l [1, 1, 1, 1, 0, 0, 0], .b 0, .c [1, 1, 1, 1, 1]] [(1, .slice Aa1 a1.length ca1), (2, .int .i64 a2), (11, .int .i64 y13), (12, .int .i64 v_mid12), (13, .int .i64 v_good13)] w) : ∀ (k : Nat), ∀ (H : Hp) (w : World) (a1 : List Probe) (Aa1 : Option Addr) (ca1 : Nat) (a2 : Int) (y13 : Int) (v_mid12 : Int) (v_good13 : Int) (v36 : List Probe) (Av36 : Option Addr) (cv36 : Nat) (v37 : Int) (v38 : Int), Sub H w → Ext w0 w → Kd.Row kProbe H Aa1 a1 → a1.length ≤ ca1 → Kd.Row kProbe H Av36 v36 → v36.length ≤ cv36 → smithyardref10_NextProbe.l29 e24 k a1 a2 y13 v_mid12 v_good13 v36 v37 v38 = some r → RunL C17 (Ret (S17 w0 r)) [.c [1, 1, 1, 1, 0, 0, 0, 1, 0, 1, 1, 0, 1, 0, 0], .l [1, 1, 1, 1, 0, 0, 0, 1, 0, 1, 1, 0, 1, 0, 0], .b 2, .c [1, 1, 1, 1, 0, 0, 0, 1, 0, 1, 1, 1], .b 1, .l [1, 1, 1, 1, 0, 0, 0], .b 0, .c [1, 1, 1, 1, 1]] [(1, .slice Aa1 a1.length ca1), (2, .int .i64 a2), (11, .int .i64 y13), (12, .int .i64 v_mid12), (13, .int .i64 v_good13), (36, .slice Av36 v36.length cv36), (37, .int .i64 v37), (38, .int .i64 v38)] w := by
  intro k
  induction k with
  | zero => intro H w a1 Aa1 ca1 a2 y13 v_mid12 v_good13 v36 Av36 cv36 v37 v38 hH hE hra1 hca1 hrv36 hcv36 heq; exact nomatch (show (none : Option (Int × Bool × Int)) = some r from heq)
  | succ k ih =>
    intro H w a1 Aa1 ca1 a2 y13 v_mid12 v_good13 v36 Av36 cv36 v37 v38 hH hE hra1 hca1 hrv36 hcv36 heq
    rw [smithyardref10_NextProbe.l29] at heq
    refine RunL.adm 1 (es' := [.c [1, 1, 1, 1, 0, 0, 0, 1, 0, 1, 1, 0, 1, 0, 0, 0], .c [1, 1, 1, 1, 0, 0, 0, 1, 0, 1, 1, 0, 1, 0, 0, 1], .l [1, 1, 1, 1, 0, 0, 0, 1, 0, 1, 1, 0, 1, 0, 0], .b 2, .c [1, 1, 1, 1, 0, 0, 0, 1, 0, 1, 1, 1], .b 1, .l [1, 1, 1, 1, 0, 0, 0], .b 0, .c [1, 1, 1, 1, 1]]) (by kernel_rfl) ?_
    refine RunL.reg (by kernel_rfl) ?_
    refine RgL.runk 1 [1, 2, 11, 12, 13, 36, 37, 38, 39] (vs := []) (evs := []) (L' := [(1, .slice Aa1 a1.length ca1), (2, .int .i64 a2), (11, .int .i64 y13), (12, .int .i64 v_mid12), (13, .int .i64 v_good13), (36, .slice Av36 v36.length cv36), (37, .int .i64 v37), (38, .int .i64 v38), (39, .bool (decide (v38 < v37)))]) (by kernel_rfl) (by kernel_rfl) trivial ?_
    refine RgL.done (by kernel_rfl) ?_
    refine RunL.adm 1 (es' := [.c [1, 1, 1, 1, 0, 0, 0, 1, 0, 1, 1, 0, 1, 0, 0, 1, 0], .c [1, 1, 1, 1, 0, 0, 0, 1, 0, 1, 1, 0, 1, 0, 0, 1, 1], .l [1, 1, 1, 1, 0, 0, 0, 1, 0, 1, 1, 0, 1, 0, 0], .b 2, .c [1, 1, 1, 1, 0, 0, 0, 1, 0, 1, 1, 1], .b 1, .l [1, 1, 1, 1, 0, 0, 0], .b 0, .c [1, 1, 1, 1, 1]]) (by kernel_rfl) ?_
    rcases bool_cases (decide (v38 < v37)) with hb31 | hb31
    · replace heq := bif_true hb31 heq
      refine RunL.condT (c := decide (v38 < v37)) (by kernel_rfl) hb31 ?_
      refine RunL.adm 4 (es' := [.c [1, 1, 1, 1, 0, 0, 0, 1, 0, 1, 1, 0, 1, 0, 0, 1, 1, 0, 0, 0], .c [1, 1, 1, 1, 0, 0, 0, 1, 0, 1, 1, 0, 1, 0, 0, 1, 1, 0, 0, 1], .b 3, .c [1, 1, 1, 1, 0, 0, 0, 1, 0, 1, 1, 0, 1, 0, 0, 1, 1, 1], .l [1, 1, 1, 1, 0, 0, 0, 1, 0, 1, 1, 0, 1, 0, 0], .b 2, .c [1, 1, 1, 1, 0, 0, 0, 1, 0, 1, 1, 1], .b 1, .l [1, 1, 1, 1, 0, 0, 0], .b 0, .c [1, 1, 1, 1, 1]]) (by kernel_rfl) ?_
      refine RunL.reg (by kernel_rfl) ?_
      obtain ⟨x32, hx32, heq⟩ := bind_some heq
      obtain ⟨ad33, rfl⟩ := hrv36.addr hx32
      obtain ⟨csx32, hKx32, hcx32⟩ := hrv36.get hx32
      obtain ⟨rfl⟩ := kProbe_open hKx32
      refine RgL.runk 2 [1, 2, 11, 12, 13, 36, 37, 38, 41] (vs := [.int .i64 x32.Place, .bool x32.Pass]) (evs := [.need (0 ≤ v38 ∧ v38 < (v36.length : Int)), .load ((ad33.add (v38.toNat * 2)).add 0) (.int .i64 x32.Place), .load ((ad33.add (v38.toNat * 2)).add 1) (.bool x32.Pass)]) (L' := [(1, .slice Aa1 a1.length ca1), (2, .int .i64 a2), (11, .int .i64 y13), (12, .int .i64 v_mid12), (13, .int .i64 v_good13), (36, .slice (some ad33) v36.length cv36), (37, .int .i64 v37), (38, .int .i64 v38), (41, .agg #[.int .i64 x32.Place, .bool x32.Pass])]) (by kernel_rfl) (by kernel_rfl) ⟨⟨(at?_some hx32).1, (at?_some hx32).2.1⟩, hcx32 _ hH 0 _ rfl, hcx32 _ hH 1 _ rfl⟩ ?_
      refine RgL.newBox (d := 15) (v := .agg #[.int .i64 x32.Place, .bool x32.Pass]) (cs0 := #[.int .i64 0, .bool false]) (cs' := #[.int .i64 x32.Place, .bool x32.Pass]) (e := 37) (fun g => by kernel_rfl) (fun g => by kernel_rfl) (by kernel_rfl) (by kernel_rfl) ?_
      intro g34 w hgg34 hx36 hsg34 hbg34
      obtain ⟨H, hl, hH, hig34, hk⟩ := addH hH hx36 hgg34 hbg34
      replace hE := hE.then hx36
      try replace hE0 := hE0.then hx36
      replace hra1 := hra1.mono hl
      replace hrv36 := hrv36.mono hl
      refine RgL.done (by kernel_rfl) ?_
      refine RunL.adm 1 (es' := [.c [1, 1, 1, 1, 0, 0, 0, 1, 0, 1, 1, 0, 1, 0, 0, 1, 1, 0, 0, 1, 0], .c [1, 1, 1, 1, 0, 0, 0, 1, 0, 1, 1, 0, 1, 0, 0, 1, 1, 0, 0, 1, 1], .b 3, .c [1, 1, 1, 1, 0, 0, 0, 1, 0, 1, 1, 0, 1, 0, 0, 1, 1, 1], .l [1, 1, 1, 1, 0, 0, 0, 1, 0, 1, 1, 0, 1, 0, 0], .b 2, .c [1, 1, 1, 1, 0, 0, 0, 1, 0, 1, 1, 1], .b 1, .l [1, 1, 1, 1, 0, 0, 0], .b 0, .c [1, 1, 1, 1, 1]]) (by kernel_rfl) ?_
      refine RunL.reg (by kernel_rfl) ?_
      obtain ⟨t38, ht39, heq⟩ := bind_some heq
      have K40 : ∀ w2, Ext w w2 → RunL C17 (Ret (S17 w0 r)) [.c [1, 1, 1, 1, 0, 0, 0, 1, 0, 1, 1, 0, 1, 0, 0, 1, 1, 0, 0, 1, 1], .b 3, .c [1, 1, 1, 1, 0, 0, 0, 1, 0, 1, 1, 0, 1, 0, 0, 1, 1, 1], .l [1, 1, 1, 1, 0, 0, 0, 1, 0, 1, 1, 0, 1, 0, 0], .b 2, .c [1, 1, 1, 1, 0, 0, 0, 1, 0, 1, 1, 1], .b 1, .l [1, 1, 1, 1, 0, 0, 0], .b 0, .c [1, 1, 1, 1, 1]] [(1, .slice Aa1 a1.length ca1), (2, .int .i64 a2), (11, .int .i64 y13), (12, .int .i64 v_mid12), (13, .int .i64 v_good13), (36, .slice (some ad33) v36.length cv36), (37, .int .i64 v37), (38, .int .i64 v38), (49, .bool t38)] w2 := by
        intro w hx
        replace hH := hH.ext hx
        replace hE := hE.then hx
        rcases bool_cases (t38) with hb43 | hb43
        · replace heq := bif_true hb43 heq
          refine RunL.condT (c := t38) (by kernel_rfl) hb43 ?_
          refine RunL.reg (by kernel_rfl) ?_
          refine RgL.runk 3 [1, 2, 11, 12, 13, 36, 37, 38] (vs := []) (evs := []) (L' := [(1, .slice Aa1 a1.length ca1), (2, .int .i64 a2), (11, .int .i64 y13), (12, .int .i64 v_mid12), (13, .int .i64 (w64 (v_good13 + 1))), (36, .slice (some ad33) v36.length cv36), (37, .int .i64 v37), (38, .int .i64 v38)]) (by kernel_rfl) (by kernel_rfl) trivial ?_
          refine RgL.done (by kernel_rfl) ?_
          refine RunL.adm 1 (es' := [.c [1, 1, 1, 1, 0, 0, 0, 1, 0, 1, 1, 0, 1, 0, 0, 1, 1, 1], .l [1, 1, 1, 1, 0, 0, 0, 1, 0, 1, 1, 0, 1, 0, 0], .b 2, .c [1, 1, 1, 1, 0, 0, 0, 1, 0, 1, 1, 1], .b 1, .l [1, 1, 1, 1, 0, 0, 0], .b 0, .c [1, 1, 1, 1, 1]]) (by kernel_rfl) ?_
          refine RunL.keep [1, 2, 11, 12, 13, 36, 37, 38] (L' := [(1, .slice Aa1 a1.length ca1), (2, .int .i64 a2), (11, .int .i64 y13), (12, .int .i64 v_mid12), (13, .int .i64 (w64 (v_good13 + 1))), (36, .slice (some ad33) v36.length cv36), (37, .int .i64 v37), (38, .int .i64 v38)]) (by kernel_rfl) ?_
          exact (smithyardref10_NextProbe.j41_c (smithyardref10_NextProbe.l29 e24 k) ih) _ _ _ _ _ _ _ _ _ _ _ _ _ _ hH hE hra1 hca1 hrv36 hcv36 heq
        · replace heq := bif_false hb43 heq
          refine RunL.condF (c := t38) (by kernel_rfl) hb43 ?_
          refine RunL.adm 2 (es' := [.c [1, 1, 1, 1, 0, 0, 0, 1, 0, 1, 1, 0, 1, 0, 0, 1, 1, 1], .l [1, 1, 1, 1, 0, 0, 0, 1, 0, 1, 1, 0, 1, 0, 0], .b 2, .c [1, 1, 1, 1, 0, 0, 0, 1, 0, 1, 1, 1], .b 1, .l [1, 1, 1, 1, 0, 0, 0], .b 0, .c [1, 1, 1, 1, 1]]) (by kernel_rfl) ?_
          refine RunL.keep [1, 2, 11, 12, 13, 36, 37, 38] (L' := [(1, .slice Aa1 a1.length ca1), (2, .int .i64 a2), (11, .int .i64 y13), (12, .int .i64 v_mid12), (13, .int .i64 v_good13), (36, .slice (some ad33) v36.length cv36), (37, .int .i64 v37), (38, .int .i64 v38)]) (by kernel_rfl) ?_
          exact (smithyardref10_NextProbe.j41_c (smithyardref10_NextProbe.l29 e24 k) ih) _ _ _ _ _ _ _ _ _ _ _ _ _ _ hH hE hra1 hca1 hrv36 hcv36 heq
      replace heq := ht39
      have hE0 := Ext.refl w
      refine RgL.runk 5 [46, 1, 2, 11, 12, 13, 15, 36, 37, 38] (vs := [.int .i64 x32.Place]) (evs := [.load ⟨g34, 0, none⟩ (.int .i64 x32.Place)]) (L' := [(46, .bool (x32.Place == v_mid12)), (1, .slice Aa1 a1.length ca1), (2, .int .i64 a2), (11, .int .i64 y13), (12, .int .i64 v_mid12), (13, .int .i64 v_good13), (15, .pointer (some ⟨g34, 0, none⟩)), (36, .slice (some ad33) v36.length cv36), (37, .int .i64 v37), (38, .int .i64 v38)]) (by kernel_rfl) (by kernel_rfl) (cellH hig34 hH rfl) ?_
      rcases bool_cases (x32.Place == v_mid12) with hb45 | hb45
      · replace heq := bif_true hb45 heq
        refine RgL.bool1 hb45 ?_
        refine RgL.runk 8 [1, 2, 11, 12, 13, 36, 37, 38, 49] (vs := [.bool x32.Pass]) (evs := [.load ⟨g34, 1, none⟩ (.bool x32.Pass)]) (L' := [(1, .slice Aa1 a1.length ca1), (2, .int .i64 a2), (11, .int .i64 y13), (12, .int .i64 v_mid12), (13, .int .i64 v_good13), (36, .slice (some ad33) v36.length cv36), (37, .int .i64 v37), (38, .int .i64 v38), (49, .bool x32.Pass)]) (by kernel_rfl) (by kernel_rfl) (cellH hig34 hH rfl) ?_
        obtain rfl := Option.some.inj heq
        refine RgL.keep [1, 2, 11, 12, 13, 36, 37, 38, 49] (L' := [(1, .slice Aa1 a1.length ca1), (2, .int .i64 a2), (11, .int .i64 y13), (12, .int .i64 v_mid12), (13, .int .i64 v_good13), (36, .slice (some ad33) v36.length cv36), (37, .int .i64 v37), (38, .int .i64 v38), (49, .bool x32.Pass)]) (by kernel_rfl) ?_
        exact RgL.done (by kernel_rfl) (K40 _ hE0)
      · replace heq := bif_false hb45 heq
        refine RgL.bool1 hb45 ?_
        refine RgL.runk 8 [1, 2, 11, 12, 13, 36, 37, 38, 49] (vs := []) (evs := []) (L' := [(1, .slice Aa1 a1.length ca1), (2, .int .i64 a2), (11, .int .i64 y13), (12, .int .i64 v_mid12), (13, .int .i64 v_good13), (36, .slice (some ad33) v36.length cv36), (37, .int .i64 v37), (38, .int .i64 v38), (49, .bool false)]) (by kernel_rfl) (by kernel_rfl) trivial ?_
        obtain rfl := Option.some.inj heq
        refine RgL.keep [1, 2, 11, 12, 13, 36, 37, 38, 49] (L' := [(1, .slice Aa1 a1.length ca1), (2, .int .i64 a2), (11, .int .i64 y13), (12, .int .i64 v_mid12), (13, .int .i64 v_good13), (36, .slice (some ad33) v36.length cv36), (37, .int .i64 v37), (38, .int .i64 v38), (49, .bool false)]) (by kernel_rfl) ?_
        exact RgL.done (by kernel_rfl) (K40 _ hE0)
    · replace heq := bif_false hb31 heq
      refine RunL.condF (c := decide (v38 < v37)) (by kernel_rfl) hb31 ?_
      refine RunL.adm 3 (es' := [.c [1, 1, 1, 1, 0, 0, 0, 1, 0, 1, 1, 1, 0, 0], .c [1, 1, 1, 1, 0, 0, 0, 1, 0, 1, 1, 1, 0, 1], .c [1, 1, 1, 1, 0, 0, 0, 1, 0, 1, 1, 1, 1], .b 1, .l [1, 1, 1, 1, 0, 0, 0], .b 0, .c [1, 1, 1, 1, 1]]) (by kernel_rfl) ?_
      refine RunL.keep [1, 2, 11, 12, 13] (L' := [(1, .slice Aa1 a1.length ca1), (2, .int .i64 a2), (11, .int .i64 y13), (12, .int .i64 v_mid12), (13, .int .i64 v_good13)]) (by kernel_rfl) ?_
      exact he24 _ _ _ _ _ _ _ _ _ hH hE hra1 hca1 heq
theorem smithyardref10_NextProbe.l18_c {w0 : World} {r : Int × Bool × Int} (e16 : Option (Int × Bool × Int))
    (he16 : ∀ (H : Hp) (w : World) , Sub H w → Ext w0 w → e16 = some r → RunL C17 (Ret (S17 w0 r)) [.c [1, 1, 1, 1, 1, 0], .c [1, 1, 1, 1, 1, 1]] [] w) : ∀ (k : Nat), ∀ (H : Hp) (w : World) (a1 : List Probe) (Aa1 : Option Addr) (ca1 : Nat) (a2 : Int) (y13 : Int) (v_lo10 : Int), Sub H w → Ext w0 w → Kd.Row kProbe H Aa1 a1 → a1.length ≤ ca1 → smithyardref10_NextProbe.l18 e16 k a1 a2 y13 v_lo10 = some r → RunL C17 (Ret (S17 w0 r)) [.c [1, 1, 1, 1, 0, 0, 0], .l [1, 1, 1, 1, 0, 0, 0], .b 0, .c [1, 1, 1, 1, 1]] [(1, .slice Aa1 a1.length ca1), (2, .int .i64 a2), (10, .int .i64 v_lo10), (11, .int .i64 y13)] w := by
  intro k
  induction k with
  | zero => intro H w a1 Aa1 ca1 a2 y13 v_lo10 hH hE hra1 hca1 heq; exact nomatch (show (none : Option (Int × Bool × Int)) = some r from heq)
  | succ k ih =>
    intro H w a1 Aa1 ca1 a2 y13 v_lo10 hH hE hra1 hca1 heq
    rw [smithyardref10_NextProbe.l18] at heq
    refine RunL.adm 2 (es' := [.c [1, 1, 1, 1, 0, 0, 0, 0, 0], .c [1, 1, 1, 1, 0, 0, 0, 0, 1], .c [1, 1, 1, 1, 0, 0, 0, 1], .l [1, 1, 1, 1, 0, 0, 0], .b 0, .c [1, 1, 1, 1, 1]]) (by kernel_rfl) ?_
    refine RunL.reg (by kernel_rfl) ?_
    refine RgL.runk 4 [1, 2, 10, 11, 31] (vs := []) (evs := []) (L' := [(1, .slice Aa1 a1.length ca1), (2, .int .i64 a2), (10, .int .i64 v_lo10), (11, .int .i64 y13), (31, .bool (decide ((w64 (v_lo10 + 1)) < y13)))]) (by kernel_rfl) (by kernel_rfl) trivial ?_
    refine RgL.done (by kernel_rfl) ?_
    rcases bool_cases (decide ((w64 (v_lo10 + 1)) < y13)) with hb20 | hb20
    · replace heq := bif_true hb20 heq
      refine RunL.condT (c := decide ((w64 (v_lo10 + 1)) < y13)) (by kernel_rfl) hb20 ?_
      refine RunL.adm 3 (es' := [.c [1, 1, 1, 1, 0, 0, 0, 1, 0, 0], .c [1, 1, 1, 1, 0, 0, 0, 1, 0, 1], .b 1, .l [1, 1, 1, 1, 0, 0, 0], .b 0, .c [1, 1, 1, 1, 1]]) (by kernel_rfl) ?_
      refine RunL.reg (by kernel_rfl) ?_
      refine RgL.runk 5 [1, 2, 11, 12] (vs := []) (evs := [.need ((2 : Int) ≠ 0)]) (L' := [(1, .slice Aa1 a1.length ca1), (2, .int .i64 a2), (11, .int .i64 y13), (12, .int .i64 (w64 ((w64 (v_lo10 + y13)).tdiv 2)))]) (by kernel_rfl) (by kernel_rfl) (show (2 : Int) ≠ 0 by decide) ?_
      refine RgL.done (by kernel_rfl) ?_
      refine RunL.adm 1 (es' := [.c [1, 1, 1, 1, 0, 0, 0, 1, 0, 1, 0], .c [1, 1, 1, 1, 0, 0, 0, 1, 0, 1, 1], .b 1, .l [1, 1, 1, 1, 0, 0, 0], .b 0, .c [1, 1, 1, 1, 1]]) (by kernel_rfl) ?_
      refine RunL.reg (by kernel_rfl) ?_
      refine RgL.runk 1 [1, 2, 11, 12, 13] (vs := []) (evs := []) (L' := [(1, .slice Aa1 a1.length ca1), (2, .int .i64 a2), (11, .int .i64 y13), (12, .int .i64 (w64 ((w64 (v_lo10 + y13)).tdiv 2))), (13, .int .i64 0)]) (by kernel_rfl) (by kernel_rfl) trivial ?_
      refine RgL.done (by kernel_rfl) ?_
      refine RunL.adm 2 (es' := [.c [1, 1, 1, 1, 0, 0, 0, 1, 0, 1, 1, 0, 0], .c [1, 1, 1, 1, 0, 0, 0, 1, 0, 1, 1, 0, 1], .c [1, 1, 1, 1, 0, 0, 0, 1, 0, 1, 1, 1], .b 1, .l [1, 1, 1, 1, 0, 0, 0], .b 0, .c [1, 1, 1, 1, 1]]) (by kernel_rfl) ?_
      refine RunL.reg (by kernel_rfl) ?_
      refine RgL.runk 3 [1, 2, 11, 12, 13, 36, 37, 38] (vs := []) (evs := []) (L' := [(1, .slice Aa1 a1.length ca1), (2, .int .i64 a2), (11, .int .i64 y13), (12, .int .i64 (w64 ((w64 (v_lo10 + y13)).tdiv 2))), (13, .int .i64 0), (36, .slice Aa1 a1.length ca1), (37, .int .i64 (a1.length : Int)), (38, .int .i64 0)]) (by kernel_rfl) (by kernel_rfl) trivial ?_
      refine RgL.done (by kernel_rfl) ?_
      refine RunL.adm 2 (es' := [.c [1, 1, 1, 1, 0, 0, 0, 1, 0, 1, 1, 0, 1, 0, 0], .l [1, 1, 1, 1, 0, 0, 0, 1, 0, 1, 1, 0, 1, 0, 0], .b 2, .c [1, 1, 1, 1, 0, 0, 0, 1, 0, 1, 1, 1], .b 1, .l [1, 1, 1, 1, 0, 0, 0], .b 0, .c [1, 1, 1, 1, 1]]) (by kernel_rfl) ?_
      refine RunL.keep [1, 2, 11, 12, 13, 36, 37, 38] (L' := [(1, .slice Aa1 a1.length ca1), (2, .int .i64 a2), (11, .int .i64 y13), (12, .int .i64 (w64 ((w64 (v_lo10 + y13)).tdiv 2))), (13, .int .i64 0), (36, .slice Aa1 a1.length ca1), (37, .int .i64 (a1.length : Int)), (38, .int .i64 0)]) (by kernel_rfl) ?_
      exact (smithyardref10_NextProbe.l29_c (smithyardref10_NextProbe.e24 (smithyardref10_NextProbe.l18 e16 k)) (smithyardref10_NextProbe.e24_c (smithyardref10_NextProbe.l18 e16 k) ih)) (((a1.length : Int) - 0).toNat + 1) _ _ _ _ _ _ _ _ _ _ _ _ _ _ hH hE hra1 hca1 hra1 hca1 heq
    · replace heq := bif_false hb20 heq
      refine RunL.condF (c := decide ((w64 (v_lo10 + 1)) < y13)) (by kernel_rfl) hb20 ?_
      refine RunL.adm 2 (es' := [.c [1, 1, 1, 1, 1, 0], .c [1, 1, 1, 1, 1, 1]]) (by kernel_rfl) ?_
      refine RunL.keep [] (L' := []) (by kernel_rfl) ?_
      exact he16 _ _  hH hE  heq
theorem smithyardref10_NextProbe_c {w0 : World} {H : Hp} {a0 : Int} {a1 : List Probe} {Aa1 : Option Addr} {ca1 : Nat} {a2 : Int} {r : Int × Bool × Int} (hH : Sub H w0) (hra1 : Kd.Row kProbe H Aa1 a1) (hca1 : a1.length ≤ ca1) (heq : smithyardref10_NextProbe.f a0 a1 a2 = some r) : Calls Try.prog 17 #[.int .i64 a0, .slice Aa1 a1.length ca1, .int .i64 a2] w0 (Ret (S17 w0 r)) := by
  refine calls_of_runL (F := C17) Try.func17 (by kernel_rfl) Try.ntmps17 (args := [.int .i64 a0, .slice Aa1 a1.length ca1, .int .i64 a2]) (by kernel_rfl) ?_
  unfold smithyardref10_NextProbe.f at heq
  suffices h : ∀ w, Ext w0 w → Sub H w → RunL C17 (Ret (S17 w0 r)) [.c []] (argL 0 [.int .i64 a0, .slice Aa1 a1.length ca1, .int .i64 a2]) w from h w0 (Ext.refl w0) hH
  clear hH
  intro w hE hH
  refine RunL.adm 1 (es' := [.c [0], .c [1]]) (by kernel_rfl) ?_
  refine RunL.reg (by kernel_rfl) ?_
  refine RgL.runk 3 [0, 1, 2] (vs := []) (evs := []) (L' := [(0, .int .i64 a0), (1, .slice Aa1 a1.length ca1), (2, .int .i64 a2)]) (by kernel_rfl) (by kernel_rfl) trivial ?_
  refine RgL.done (by kernel_rfl) ?_
  refine RunL.adm 2 (es' := [.c [1, 0, 0], .c [1, 0, 1], .c [1, 1]]) (by kernel_rfl) ?_
  refine RunL.reg (by kernel_rfl) ?_
  refine RgL.runk 2 [0, 1, 2, 16, 17] (vs := []) (evs := []) (L' := [(0, .int .i64 a0), (1, .slice Aa1 a1.length ca1), (2, .int .i64 a2), (16, .int .i64 a0), (17, .slice Aa1 a1.length ca1)]) (by kernel_rfl) (by kernel_rfl) trivial ?_
  obtain ⟨y2, hy2, heq⟩ := bind_some heq
  refine RgL.call (d := some 18) (g := 21) (args := #[.int .i64 a0, .slice Aa1 a1.length ca1]) (by kernel_rfl) (smithyardref10_askProbes_c hH hra1 hca1 hy2) ?_
  rintro _ w ⟨hx4, rfl⟩
  replace hH := hH.ext hx4
  replace hE := hE.then hx4
  try replace hE0 := hE0.then hx4
  refine RgL.runk 4 [0, 1, 2, 9] (vs := []) (evs := []) (L' := [(0, .int .i64 a0), (1, .slice Aa1 a1.length ca1), (2, .int .i64 a2), (9, .int .i64 y2)]) (by kernel_rfl) (by kernel_rfl) trivial ?_
  refine RgL.done (by kernel_rfl) ?_
  refine RunL.adm 1 (es' := [.c [1, 0, 1, 0], .c [1, 0, 1, 1], .c [1, 1]]) (by kernel_rfl) ?_
  refine RunL.reg (by kernel_rfl) ?_
  refine RgL.runk 2 [0, 1, 2, 9, 20] (vs := []) (evs := []) (L' := [(0, .int .i64 a0), (1, .slice Aa1 a1.length ca1), (2, .int .i64 a2), (9, .int .i64 y2), (20, .bool (y2 != 0))]) (by kernel_rfl) (by kernel_rfl) trivial ?_
  refine RgL.done (by kernel_rfl) ?_
  rcases bool_cases (y2 != 0) with hb6 | hb6
  · replace heq := bif_true hb6 heq
    refine RunL.condT (c := y2 != 0) (by kernel_rfl) hb6 ?_
    refine RunL.adm 1 (es' := [.c [1, 0, 1, 1, 0, 0], .c [1, 0, 1, 1, 0, 1], .c [1, 1]]) (by kernel_rfl) ?_
    refine RunL.reg (by kernel_rfl) ?_
    refine RgL.runk 4 [6, 7, 8] (vs := []) (evs := []) (L' := [(6, .int .i64 0), (7, .bool false), (8, .int .i64 y2)]) (by kernel_rfl) (by kernel_rfl) trivial ?_
    refine RgL.done (by kernel_rfl) ?_
    obtain rfl := Option.some.inj heq
    exact RunL.done (by kernel_rfl) Try.func17 (v := .tuple #[.int .i64 0, .bool false, .int .i64 y2]) (by kernel_rfl) ⟨hE, rfl⟩
  · replace heq := bif_false hb6 heq
    refine RunL.condF (c := y2 != 0) (by kernel_rfl) hb6 ?_
    refine RunL.adm 3 (es' := [.c [1, 1, 0, 0], .c [1, 1, 0, 1], .c [1, 1, 1]]) (by kernel_rfl) ?_
    refine RunL.reg (by kernel_rfl) ?_
    refine RgL.runk 1 [0, 1, 2, 22] (vs := []) (evs := []) (L' := [(0, .int .i64 a0), (1, .slice Aa1 a1.length ca1), (2, .int .i64 a2), (22, .int .i64 a2)]) (by kernel_rfl) (by kernel_rfl) trivial ?_
    obtain ⟨y8, hy8, heq⟩ := bind_some heq
    refine RgL.call (d := some 23) (g := 20) (args := #[.int .i64 a2, .int .i64 1, .int .i64 100]) (by kernel_rfl) (smithyardref10_within_c hH  hy8) ?_
    rintro _ w ⟨hx10, rfl⟩
    replace hH := hH.ext hx10
    replace hE := hE.then hx10
    try replace hE0 := hE0.then hx10
    refine RgL.runk 3 [0, 1, 2, 24] (vs := []) (evs := []) (L' := [(0, .int .i64 a0), (1, .slice Aa1 a1.length ca1), (2, .int .i64 a2), (24, .bool (!y8))]) (by kernel_rfl) (by kernel_rfl) trivial ?_
    refine RgL.done (by kernel_rfl) ?_
    rcases bool_cases (!y8) with hb11 | hb11
    · replace heq := bif_true hb11 heq
      refine RunL.condT (c := !y8) (by kernel_rfl) hb11 ?_
      refine RunL.adm 1 (es' := [.c [1, 1, 0, 1, 0, 0], .c [1, 1, 0, 1, 0, 1], .c [1, 1, 1]]) (by kernel_rfl) ?_
      refine RunL.reg (by kernel_rfl) ?_
      refine RgL.runk 3 [6, 7, 8] (vs := []) (evs := []) (L' := [(6, .int .i64 0), (7, .bool false), (8, .int .i64 1)]) (by kernel_rfl) (by kernel_rfl) trivial ?_
      refine RgL.done (by kernel_rfl) ?_
      obtain rfl := Option.some.inj heq
      exact RunL.done (by kernel_rfl) Try.func17 (v := .tuple #[.int .i64 0, .bool false, .int .i64 1]) (by kernel_rfl) ⟨hE, rfl⟩
    · replace heq := bif_false hb11 heq
      refine RunL.condF (c := !y8) (by kernel_rfl) hb11 ?_
      refine RunL.adm 2 (es' := [.c [1, 1, 1, 0], .c [1, 1, 1, 1]]) (by kernel_rfl) ?_
      refine RunL.reg (by kernel_rfl) ?_
      refine RgL.runk 2 [1, 2, 25, 26] (vs := []) (evs := []) (L' := [(1, .slice Aa1 a1.length ca1), (2, .int .i64 a2), (25, .int .i64 a0), (26, .slice Aa1 a1.length ca1)]) (by kernel_rfl) (by kernel_rfl) trivial ?_
      obtain ⟨y13, hy13, heq⟩ := bind_some heq
      refine RgL.call (d := some 27) (g := 22) (args := #[.int .i64 a0, .slice Aa1 a1.length ca1]) (by kernel_rfl) (smithyardref10_greatest_c hH hra1 hca1 hy13) ?_
      rintro _ w ⟨hx15, rfl⟩
      replace hH := hH.ext hx15
      replace hE := hE.then hx15
      try replace hE0 := hE0.then hx15
      refine RgL.runk 5 [1, 2, 10, 11] (vs := []) (evs := []) (L' := [(1, .slice Aa1 a1.length ca1), (2, .int .i64 a2), (10, .int .i64 0), (11, .int .i64 y13)]) (by kernel_rfl) (by kernel_rfl) trivial ?_
      refine RgL.done (by kernel_rfl) ?_
      refine RunL.adm 3 (es' := [.c [1, 1, 1, 1, 0, 0, 0], .l [1, 1, 1, 1, 0, 0, 0], .b 0, .c [1, 1, 1, 1, 1]]) (by kernel_rfl) ?_
      refine RunL.keep [1, 2, 10, 11] (L' := [(1, .slice Aa1 a1.length ca1), (2, .int .i64 a2), (10, .int .i64 0), (11, .int .i64 y13)]) (by kernel_rfl) ?_
      exact (smithyardref10_NextProbe.l18_c smithyardref10_NextProbe.e16 (smithyardref10_NextProbe.e16_c)) ((y13 - 0).toNat + 1) _ _ _ _ _ _ _ _ hH hE hra1 hca1 heq
noncomputable def C9 : Ctx := { P := Try.prog, f := 9, N := 8, c := bodyOf Try.f9 }
def S9 (w0 : World) (H0 : Hp) (r : List Bool) (v : Value) (w : World) : Prop := Ext w0 w ∧ ∃ H A0 c0, HX H0 w0 H w ∧ v = .slice A0 r.length c0 ∧ Own Kd.bool 4 H w w0.heap.size A0 c0 r
theorem slices_Clone_bool_c {w0 : World} {H0 : Hp} {a0 : List Bool} {Aa0 : Option Addr} {ca0 : Nat} {r : List Bool} (hH : Sub H0 w0) (hra0 : Kd.Row Kd.bool H0 Aa0 a0) (hca0 : a0.length ≤ ca0) (heq : slices_Clone_bool.f a0 = some r) : Calls Try.prog 9 #[.slice Aa0 a0.length ca0] w0 (Ret (S9 w0 H0 r)) := by
  refine calls_of_runL (F := C9) Try.func9 (by kernel_rfl) Try.ntmps9 (args := [.slice Aa0 a0.length ca0]) (by kernel_rfl) ?_
  unfold slices_Clone_bool.f at heq
  obtain ⟨hn, heq⟩ := guard?_some heq
  obtain rfl := Option.some.inj heq
  refine RunL.adm 1 (es' := [.c [0], .c [1]]) (by kernel_rfl) ?_
  refine RunL.reg (by kernel_rfl) ?_
  refine RgL.runk 1 [0] (vs := []) (evs := []) (L' := [(0, .slice Aa0 a0.length ca0)]) (by kernel_rfl) (by kernel_rfl) trivial ?_
  refine RgL.done (by kernel_rfl) ?_
  refine RunL.adm 2 (es' := [.c [1, 0, 0], .c [1, 0, 1], .c [1, 1]]) (by kernel_rfl) ?_
  refine RunL.reg (by kernel_rfl) ?_
  cases Aa0 with
  | none =>
    have h0 : a0 = [] := by
      cases a0 with
      | nil => rfl
      | cons x xs => obtain ⟨b, off, cs, e, fr, hA, _⟩ := hra0 (by simp); simp at hA
    subst h0
    refine RgL.runk 2 [4] (vs := []) (evs := []) (L' := [(4, .bool true)]) (by kernel_rfl) (by kernel_rfl) trivial ?_
    refine RgL.done (by kernel_rfl) ?_
    refine RunL.condT (c := true) (by kernel_rfl) rfl ?_
    refine RunL.adm 1 (es' := [.c [1, 0, 1, 0, 0], .c [1, 0, 1, 0, 1], .c [1, 1]]) (by kernel_rfl) ?_
    refine RunL.reg (by kernel_rfl) ?_
    refine RgL.runk 1 [2] (vs := []) (evs := []) (L' := [(2, .slice none 0 0)]) (by kernel_rfl) (by kernel_rfl) trivial ?_
    refine RgL.done (by kernel_rfl) ?_
    exact RunL.done (by kernel_rfl) Try.func9 (v := .slice none ([] : List Bool).length 0) (by kernel_rfl) ⟨Ext.refl _, H0, none, 0, HX.of hH (Ext.refl _), rfl, Own.nil⟩
  | some ad =>
    refine RgL.runk 2 [0, 4] (vs := []) (evs := []) (L' := [(0, .slice (some ad) a0.length ca0), (4, .bool false)]) (by kernel_rfl) (by kernel_rfl) trivial ?_
    refine RgL.done (by kernel_rfl) ?_
    refine RunL.condF (c := false) (by kernel_rfl) rfl ?_
    refine RunL.adm 2 (es' := [.c [1, 1, 0], .c [1, 1, 1]]) (by kernel_rfl) ?_
    refine RunL.reg (by kernel_rfl) ?_
    refine RgL.new (d := some 5) (v := fun g => .slice (some ⟨g, 0, none⟩) 0 0) (o := fun g => .cells #[] 4 (0, 0)) (fun g => by kernel_rfl) ?_
    intro g w hg hx hs hb
    have ho : Own Kd.bool 4 H0 w w0.heap.size (some ⟨g, 0, none⟩) 0 ([] : List Bool) := .inr ⟨g, #[], rfl, by omega, hH.none hg, hb, by simp, by simp [maxLen], by simp, Kd.Rep.nil⟩
    refine RgL.runk 2 [5, 6] (vs := []) (evs := []) (L' := [(5, .slice (some ⟨g, 0, none⟩) ([] : List Bool).length 0), (6, .slice (some ad) a0.length ca0)]) (by kernel_rfl) (by kernel_rfl) trivial ?_
    refine RgL.append (d := 7) (t := 22) (e := 4) (bytes := 1) (kd := Kd.bool) (xs := ([] : List Bool)) (ys := a0) (A := some ⟨g, 0, none⟩) (B := some ad) (c := 0) (cB := ca0) (by kernel_rfl) (by kernel_rfl) hx.size ho hra0 (hH.ext hx) hca0 (room_le hn) (by have := room_le hn; simp at this ⊢; omega) ?_
    intro A c w1 ha ho1
    refine RgL.runk 4 [2] (vs := []) (evs := []) (L' := [(2, .slice A (([] : List Bool) ++ a0).length c)]) (by kernel_rfl) (by kernel_rfl) trivial ?_
    refine RgL.done (by kernel_rfl) ?_
    exact RunL.done (by kernel_rfl) Try.func9 (v := .slice A (([] : List Bool) ++ a0).length c) (by kernel_rfl) ⟨ha.ext hx ho, H0, A, c, ⟨Le.refl _, ha.sub (hH.ext hx) ho, fun _ _ h => h⟩, rfl, ho1⟩

noncomputable def C15 : Ctx := { P := Try.prog, f := 15, N := 8, c := bodyOf Try.f15 }
def S15 (w0 : World) (H0 : Hp) (r : List Probe) (v : Value) (w : World) : Prop := Ext w0 w ∧ ∃ H A0 c0, HX H0 w0 H w ∧ v = .slice A0 r.length c0 ∧ Own kProbe 37 H w w0.heap.size A0 c0 r
theorem slices_Clone_Probe_c {w0 : World} {H0 : Hp} {a0 : List Probe} {Aa0 : Option Addr} {ca0 : Nat} {r : List Probe} (hH : Sub H0 w0) (hra0 : Kd.Row kProbe H0 Aa0 a0) (hca0 : a0.length ≤ ca0) (heq : slices_Clone_Probe.f a0 = some r) : Calls Try.prog 15 #[.slice Aa0 a0.length ca0] w0 (Ret (S15 w0 H0 r)) := by
  refine calls_of_runL (F := C15) Try.func15 (by kernel_rfl) Try.ntmps15 (args := [.slice Aa0 a0.length ca0]) (by kernel_rfl) ?_
  unfold slices_Clone_Probe.f at heq
  obtain ⟨hn, heq⟩ := guard?_some heq
  obtain rfl := Option.some.inj heq
  refine RunL.adm 1 (es' := [.c [0], .c [1]]) (by kernel_rfl) ?_
  refine RunL.reg (by kernel_rfl) ?_
  refine RgL.runk 1 [0] (vs := []) (evs := []) (L' := [(0, .slice Aa0 a0.length ca0)]) (by kernel_rfl) (by kernel_rfl) trivial ?_
  refine RgL.done (by kernel_rfl) ?_
  refine RunL.adm 2 (es' := [.c [1, 0, 0], .c [1, 0, 1], .c [1, 1]]) (by kernel_rfl) ?_
  refine RunL.reg (by kernel_rfl) ?_
  cases Aa0 with
  | none =>
    have h0 : a0 = [] := by
      cases a0 with
      | nil => rfl
      | cons x xs => obtain ⟨b, off, cs, e, fr, hA, _⟩ := hra0 (by simp); simp at hA
    subst h0
    refine RgL.runk 2 [4] (vs := []) (evs := []) (L' := [(4, .bool true)]) (by kernel_rfl) (by kernel_rfl) trivial ?_
    refine RgL.done (by kernel_rfl) ?_
    refine RunL.condT (c := true) (by kernel_rfl) rfl ?_
    refine RunL.adm 1 (es' := [.c [1, 0, 1, 0, 0], .c [1, 0, 1, 0, 1], .c [1, 1]]) (by kernel_rfl) ?_
    refine RunL.reg (by kernel_rfl) ?_
    refine RgL.runk 1 [2] (vs := []) (evs := []) (L' := [(2, .slice none 0 0)]) (by kernel_rfl) (by kernel_rfl) trivial ?_
    refine RgL.done (by kernel_rfl) ?_
    exact RunL.done (by kernel_rfl) Try.func15 (v := .slice none ([] : List Probe).length 0) (by kernel_rfl) ⟨Ext.refl _, H0, none, 0, HX.of hH (Ext.refl _), rfl, Own.nil⟩
  | some ad =>
    refine RgL.runk 2 [0, 4] (vs := []) (evs := []) (L' := [(0, .slice (some ad) a0.length ca0), (4, .bool false)]) (by kernel_rfl) (by kernel_rfl) trivial ?_
    refine RgL.done (by kernel_rfl) ?_
    refine RunL.condF (c := false) (by kernel_rfl) rfl ?_
    refine RunL.adm 2 (es' := [.c [1, 1, 0], .c [1, 1, 1]]) (by kernel_rfl) ?_
    refine RunL.reg (by kernel_rfl) ?_
    refine RgL.new (d := some 5) (v := fun g => .slice (some ⟨g, 0, none⟩) 0 0) (o := fun g => .cells #[] 37 (0, 0)) (fun g => by kernel_rfl) ?_
    intro g w hg hx hs hb
    have ho : Own kProbe 37 H0 w w0.heap.size (some ⟨g, 0, none⟩) 0 ([] : List Probe) := .inr ⟨g, #[], rfl, by omega, hH.none hg, hb, by simp, by simp [maxLen], by simp, Kd.Rep.nil⟩
    refine RgL.runk 2 [5, 6] (vs := []) (evs := []) (L' := [(5, .slice (some ⟨g, 0, none⟩) ([] : List Probe).length 0), (6, .slice (some ad) a0.length ca0)]) (by kernel_rfl) (by kernel_rfl) trivial ?_
    refine RgL.append (d := 7) (t := 32) (e := 37) (bytes := 16) (kd := kProbe) (xs := ([] : List Probe)) (ys := a0) (A := some ⟨g, 0, none⟩) (B := some ad) (c := 0) (cB := ca0) (by kernel_rfl) (by kernel_rfl) hx.size ho hra0 (hH.ext hx) hca0 (room_le hn) (by have := room_le hn; simp at this ⊢; omega) ?_
    intro A c w1 ha ho1
    refine RgL.runk 4 [2] (vs := []) (evs := []) (L' := [(2, .slice A (([] : List Probe) ++ a0).length c)]) (by kernel_rfl) (by kernel_rfl) trivial ?_
    refine RgL.done (by kernel_rfl) ?_
    exact RunL.done (by kernel_rfl) Try.func15 (v := .slice A (([] : List Probe) ++ a0).length c) (by kernel_rfl) ⟨ha.ext hx ho, H0, A, c, ⟨Le.refl _, ha.sub (hH.ext hx) ho, fun _ _ h => h⟩, rfl, ho1⟩

noncomputable def C4 : Ctx := { P := Try.prog, f := 4, N := 53, c := bodyOf Try.f4 }
def S4 (w0 : World) (r : Bool) (v : Value) (w : World) : Prop := Ext w0 w ∧ v = .bool r
theorem smithyardlaw10_TrialsTriedMatchesSpec_c {w0 : World} {H : Hp} {a0 : Int} {a1 : Int} {a2 : List Bool} {Aa2 : Option Addr} {ca2 : Nat} {r : Bool} (hH : Sub H w0) (hra2 : Kd.Row Kd.bool H Aa2 a2) (hca2 : a2.length ≤ ca2) (heq : smithyardlaw10_TrialsTriedMatchesSpec.f a0 a1 a2 = some r) : Calls Try.prog 4 #[.int .i64 a0, .int .i64 a1, .slice Aa2 a2.length ca2] w0 (Ret (S4 w0 r)) := by
  refine calls_of_runL (F := C4) Try.func4 (by kernel_rfl) Try.ntmps4 (args := [.int .i64 a0, .int .i64 a1, .slice Aa2 a2.length ca2]) (by kernel_rfl) ?_
  unfold smithyardlaw10_TrialsTriedMatchesSpec.f at heq
  suffices h : ∀ w, Ext w0 w → Sub H w → RunL C4 (Ret (S4 w0 r)) [.c []] (argL 0 [.int .i64 a0, .int .i64 a1, .slice Aa2 a2.length ca2]) w from h w0 (Ext.refl w0) hH
  clear hH
  intro w hE hH
  refine RunL.adm 1 (es' := [.c [0], .c [1]]) (by kernel_rfl) ?_
  refine RunL.reg (by kernel_rfl) ?_
  refine RgL.runk 1 [0, 1, 2] (vs := []) (evs := []) (L' := [(0, .int .i64 a0), (1, .int .i64 a1), (2, .slice Aa2 a2.length ca2)]) (by kernel_rfl) (by kernel_rfl) trivial ?_
  refine RgL.done (by kernel_rfl) ?_
  refine RunL.adm 1 (es' := [.c [1, 0], .c [1, 1]]) (by kernel_rfl) ?_
  refine RunL.reg (by kernel_rfl) ?_
  refine RgL.runk 1 [0, 1, 2, 14] (vs := []) (evs := []) (L' := [(0, .int .i64 a0), (1, .int .i64 a1), (2, .slice Aa2 a2.length ca2), (14, .slice Aa2 a2.length ca2)]) (by kernel_rfl) (by kernel_rfl) trivial ?_
  obtain ⟨y2, hy2, heq⟩ := bind_some heq
  refine RgL.call (d := some 15) (g := 9) (args := #[.slice Aa2 a2.length ca2]) (by kernel_rfl) (slices_Clone_bool_c hH hra2 hca2 hy2) ?_
  rintro _ w ⟨hx4, H, Ay2_0, cy2_0, hX5, rfl, hoy2_0⟩
  replace hoy2_0 := hoy2_0.base hE.size
  have hl := hX5.le
  have hk := hX5.none
  replace hH := hX5.sub
  replace hE := hE.then hx4
  try replace hE0 := hE0.then hx4
  replace hra2 := hra2.mono hl
  refine RgL.runk 3 [0, 1, 2, 7] (vs := []) (evs := []) (L' := [(0, .int .i64 a0), (1, .int .i64 a1), (2, .slice Aa2 a2.length ca2), (7, .slice Ay2_0 y2.length cy2_0)]) (by kernel_rfl) (by kernel_rfl) trivial ?_
  refine RgL.done (by kernel_rfl) ?_
  refine RunL.adm 1 (es' := [.c [1, 1, 0], .c [1, 1, 1]]) (by kernel_rfl) ?_
  refine RunL.reg (by kernel_rfl) ?_
  refine RgL.runk 3 [0, 1, 2, 7, 17, 18, 19] (vs := []) (evs := []) (L' := [(0, .int .i64 a0), (1, .int .i64 a1), (2, .slice Aa2 a2.length ca2), (7, .slice Ay2_0 y2.length cy2_0), (17, .int .i64 a0), (18, .int .i64 a1), (19, .slice Aa2 a2.length ca2)]) (by kernel_rfl) (by kernel_rfl) trivial ?_
  obtain ⟨y6, hy6, heq⟩ := bind_some heq
  refine RgL.call (d := some 20) (g := 7) (args := #[.int .i64 a0, .int .i64 a1, .slice Aa2 a2.length ca2]) (by kernel_rfl) (trials_Tried_c hH hra2 hca2 hy6) ?_
  rintro _ w ⟨hx8, rfl⟩
  replace hoy2_0 := hoy2_0.ext hx8
  replace hH := hH.ext hx8
  replace hE := hE.then hx8
  try replace hE0 := hE0.then hx8
  refine RgL.runk 11 [0, 1, 2, 7, 8, 9, 10] (vs := []) (evs := []) (L' := [(0, .int .i64 a0), (1, .int .i64 a1), (2, .slice Aa2 a2.length ca2), (7, .slice Ay2_0 y2.length cy2_0), (8, .int .i64 y6.1), (9, .int .i64 y6.2.1), (10, .int .i64 y6.2.2)]) (by kernel_rfl) (by kernel_rfl) trivial ?_
  refine RgL.done (by kernel_rfl) ?_
  refine RunL.adm 1 (es' := [.c [1, 1, 1, 0], .c [1, 1, 1, 1]]) (by kernel_rfl) ?_
  refine RunL.reg (by kernel_rfl) ?_
  refine RgL.runk 3 [2, 7, 8, 9, 10, 25, 26, 27] (vs := []) (evs := []) (L' := [(2, .slice Aa2 a2.length ca2), (7, .slice Ay2_0 y2.length cy2_0), (8, .int .i64 y6.1), (9, .int .i64 y6.2.1), (10, .int .i64 y6.2.2), (25, .int .i64 a0), (26, .int .i64 a1), (27, .slice Ay2_0 y2.length cy2_0)]) (by kernel_rfl) (by kernel_rfl) trivial ?_
  obtain ⟨y9, hy9, heq⟩ := bind_some heq
  obtain ⟨HL11, hlL11, hHL11, hrL11⟩ := hoy2_0.lend hH
  refine RgL.call (d := some 28) (g := 10) (args := #[.int .i64 a0, .int .i64 a1, .slice Ay2_0 y2.length cy2_0]) (by kernel_rfl) (smithyardref10_Tried_c hHL11 hrL11 hoy2_0.cap hy9) ?_
  rintro _ w ⟨hx12, rfl⟩
  replace hoy2_0 := hoy2_0.ext hx12
  replace hH := hH.ext hx12
  replace hE := hE.then hx12
  try replace hE0 := hE0.then hx12
  refine RgL.runk 11 [2, 7, 8, 9, 10, 11, 12, 13] (vs := []) (evs := []) (L' := [(2, .slice Aa2 a2.length ca2), (7, .slice Ay2_0 y2.length cy2_0), (8, .int .i64 y6.1), (9, .int .i64 y6.2.1), (10, .int .i64 y6.2.2), (11, .int .i64 y9.1), (12, .int .i64 y9.2.1), (13, .int .i64 y9.2.2)]) (by kernel_rfl) (by kernel_rfl) trivial ?_
  refine RgL.done (by kernel_rfl) ?_
  refine RunL.adm 1 (es' := [.c [1, 1, 1, 1, 0], .c [1, 1, 1, 1, 1]]) (by kernel_rfl) ?_
  refine RunL.reg (by kernel_rfl) ?_
  obtain ⟨t16, ht17, heq⟩ := bind_some heq
  have K18 : ∀ w2, Ext w w2 → RunL C4 (Ret (S4 w0 r)) [.c [1, 1, 1, 1, 1]] [(6, .bool t16)] w2 := by
    intro w hx
    replace hH := hH.ext hx
    replace hE := hE.then hx
    obtain rfl := Option.some.inj heq
    exact RunL.done (by kernel_rfl) Try.func4 (v := .bool t16) (by kernel_rfl) ⟨hE, rfl⟩
  replace heq := ht17
  have hE0 := Ext.refl w
  refine RgL.runk 4 [35, 2, 7, 8, 9, 11, 12] (vs := []) (evs := []) (L' := [(35, .bool (y6.2.2 == y9.2.2)), (2, .slice Aa2 a2.length ca2), (7, .slice Ay2_0 y2.length cy2_0), (8, .int .i64 y6.1), (9, .int .i64 y6.2.1), (11, .int .i64 y9.1), (12, .int .i64 y9.2.1)]) (by kernel_rfl) (by kernel_rfl) trivial ?_
  rcases bool_cases (y6.2.2 == y9.2.2) with hb19 | hb19
  · replace heq := bif_true hb19 heq
    refine RgL.bool1 hb19 ?_
    refine RgL.runk 9 [40, 2, 7, 9, 12] (vs := []) (evs := []) (L' := [(40, .bool (y6.1 == y9.1)), (2, .slice Aa2 a2.length ca2), (7, .slice Ay2_0 y2.length cy2_0), (9, .int .i64 y6.2.1), (12, .int .i64 y9.2.1)]) (by kernel_rfl) (by kernel_rfl) trivial ?_
    rcases bool_cases (y6.1 == y9.1) with hb20 | hb20
    · replace heq := bif_true hb20 heq
      refine RgL.bool1 hb20 ?_
      refine RgL.runk 14 [45, 2, 7] (vs := []) (evs := []) (L' := [(45, .bool (y6.2.1 == y9.2.1)), (2, .slice Aa2 a2.length ca2), (7, .slice Ay2_0 y2.length cy2_0)]) (by kernel_rfl) (by kernel_rfl) trivial ?_
      rcases bool_cases (y6.2.1 == y9.2.1) with hb21 | hb21
      · replace heq := bif_true hb21 heq
        refine RgL.bool1 hb21 ?_
        refine RgL.runk 16 [45, 46, 47] (vs := []) (evs := []) (L' := [(45, .bool true), (46, .slice Aa2 a2.length ca2), (47, .slice Ay2_0 y2.length cy2_0)]) (by kernel_rfl) (by kernel_rfl) trivial ?_
        obtain ⟨y13, hy13, heq⟩ := bind_some heq
        obtain ⟨HL22, hlL22, hHL22, hrL22⟩ := hoy2_0.lend hH
        refine RgL.call (d := some 48) (g := 11) (args := #[.slice Aa2 a2.length ca2, .slice Ay2_0 y2.length cy2_0]) (by kernel_rfl) (slices_Equal_bool_c hHL22 (hra2.mono hlL22) hca2 hrL22 hoy2_0.cap hy13) ?_
        rintro _ w ⟨hx23, rfl⟩
        replace hoy2_0 := hoy2_0.ext hx23
        replace hH := hH.ext hx23
        replace hE := hE.then hx23
        try replace hE0 := hE0.then hx23
        refine RgL.runk 19 [50] (vs := []) (evs := []) (L' := [(50, .bool y13)]) (by kernel_rfl) (by kernel_rfl) trivial ?_
        rcases bool_cases (y13) with hb24 | hb24
        · replace heq := bif_true hb24 heq
          refine RgL.bool1 hb24 ?_
          obtain ⟨y14, hy14, heq⟩ := bind_some heq
          refine RgL.call (d := some 51) (g := 8) (args := (List.toArray [])) (by kernel_rfl) (smithyardlaw10_awake_c hH  hy14) ?_
          rintro _ w ⟨hx25, rfl⟩
          replace hH := hH.ext hx25
          replace hE := hE.then hx25
          try replace hE0 := hE0.then hx25
          refine RgL.runk 22 [6] (vs := []) (evs := []) (L' := [(6, .bool y14)]) (by kernel_rfl) (by kernel_rfl) trivial ?_
          obtain rfl := Option.some.inj heq
          refine RgL.keep [6] (L' := [(6, .bool y14)]) (by kernel_rfl) ?_
          exact RgL.done (by kernel_rfl) (K18 _ hE0)
        · replace heq := bif_false hb24 heq
          refine RgL.bool1 hb24 ?_
          refine RgL.runk 22 [6] (vs := []) (evs := []) (L' := [(6, .bool false)]) (by kernel_rfl) (by kernel_rfl) trivial ?_
          obtain rfl := Option.some.inj heq
          refine RgL.keep [6] (L' := [(6, .bool false)]) (by kernel_rfl) ?_
          exact RgL.done (by kernel_rfl) (K18 _ hE0)
      · replace heq := bif_false hb21 heq
        refine RgL.bool1 hb21 ?_
        refine RgL.runk 22 [6] (vs := []) (evs := []) (L' := [(6, .bool false)]) (by kernel_rfl) (by kernel_rfl) trivial ?_
        obtain rfl := Option.some.inj heq
        refine RgL.keep [6] (L' := [(6, .bool false)]) (by kernel_rfl) ?_
        exact RgL.done (by kernel_rfl) (K18 _ hE0)
    · replace heq := bif_false hb20 heq
      refine RgL.bool1 hb20 ?_
      refine RgL.runk 22 [6] (vs := []) (evs := []) (L' := [(6, .bool false)]) (by kernel_rfl) (by kernel_rfl) trivial ?_
      obtain rfl := Option.some.inj heq
      refine RgL.keep [6] (L' := [(6, .bool false)]) (by kernel_rfl) ?_
      exact RgL.done (by kernel_rfl) (K18 _ hE0)
  · replace heq := bif_false hb19 heq
    refine RgL.bool1 hb19 ?_
    refine RgL.runk 22 [6] (vs := []) (evs := []) (L' := [(6, .bool false)]) (by kernel_rfl) (by kernel_rfl) trivial ?_
    obtain rfl := Option.some.inj heq
    refine RgL.keep [6] (L' := [(6, .bool false)]) (by kernel_rfl) ?_
    exact RgL.done (by kernel_rfl) (K18 _ hE0)
noncomputable def C3 : Ctx := { P := Try.prog, f := 3, N := 79, c := bodyOf Try.f3 }
def S3 (w0 : World) (r : Bool) (v : Value) (w : World) : Prop := Ext w0 w ∧ v = .bool r
theorem smithyardlaw10_TrialsTriedStopsInTime.e32_c {w0 : World} {r : Bool} : ∀ (H : Hp) (w : World) (a0 : Int) (a1 : Int) (y2 : Int × Int × Int) (v_m12 : List Bool) (Av_m12 : Option Addr) (cv_m12 : Nat), Sub H w → Ext w0 w → Own Kd.bool 4 H w w0.heap.size Av_m12 cv_m12 v_m12 → smithyardlaw10_TrialsTriedStopsInTime.e32 a0 a1 y2 v_m12 = some r → RunL C3 (Ret (S3 w0 r)) [.c [1, 1, 1, 1, 1, 1, 0], .c [1, 1, 1, 1, 1, 1, 1]] [(0, .int .i64 a0), (1, .int .i64 a1), (9, .int .i64 y2.1), (10, .int .i64 y2.2.1), (12, .slice Av_m12 v_m12.length cv_m12)] w := by
  intro H w a0 a1 y2 v_m12 Av_m12 cv_m12 hH hE hov_m12 heq
  unfold smithyardlaw10_TrialsTriedStopsInTime.e32 at heq
  refine RunL.reg (by kernel_rfl) ?_
  obtain ⟨hn33, heq⟩ := guard?_some heq
  refine RgL.runk 5 [59, 9, 10, 55, 56] (vs := []) (evs := [.need (0 ≤ a0 ∧ a0 ≤ (cv_m12 : Int))]) (L' := [(59, .slice Av_m12 a0.toNat cv_m12), (9, .int .i64 y2.1), (10, .int .i64 y2.2.1), (55, .int .i64 a0), (56, .int .i64 a1)]) (by kernel_rfl) (by kernel_rfl) ⟨(both_of hn33).1, by have := (both_of hn33).2; have := hov_m12.cap; omega⟩ ?_
  have ho34 := hov_m12.take a0.toNat
  refine RgL.val1 (v' := .slice Av_m12 ((v_m12.take a0.toNat).length) cv_m12) (congrArg (Value.slice Av_m12 · cv_m12) (len_take (by have := both_of hn33; omega))) ?_
  obtain ⟨y35, hy35, heq⟩ := bind_some heq
  obtain ⟨HL37, hlL37, hHL37, hrL37⟩ := ho34.lend hH
  refine RgL.call (d := some 60) (g := 7) (args := #[.int .i64 a0, .int .i64 a1, .slice Av_m12 ((v_m12.take a0.toNat).length) cv_m12]) (by kernel_rfl) (trials_Tried_c hHL37 hrL37 ho34.cap hy35) ?_
  rintro _ w ⟨hx38, rfl⟩
  replace ho34 := ho34.ext hx38
  replace hH := hH.ext hx38
  replace hE := hE.then hx38
  try replace hE0 := hE0.then hx38
  refine RgL.runk 13 [9, 10, 11, 13, 14] (vs := []) (evs := []) (L' := [(9, .int .i64 y2.1), (10, .int .i64 y2.2.1), (11, .int .i64 y35.2.2), (13, .int .i64 y35.1), (14, .int .i64 y35.2.1)]) (by kernel_rfl) (by kernel_rfl) trivial ?_
  refine RgL.done (by kernel_rfl) ?_
  refine RunL.adm 1 (es' := [.c [1, 1, 1, 1, 1, 1, 1, 0], .c [1, 1, 1, 1, 1, 1, 1, 1]]) (by kernel_rfl) ?_
  refine RunL.reg (by kernel_rfl) ?_
  obtain ⟨t41, ht42, heq⟩ := bind_some heq
  have K43 : ∀ w2, Ext w w2 → RunL C3 (Ret (S3 w0 r)) [.c [1, 1, 1, 1, 1, 1, 1, 1]] [(8, .bool t41)] w2 := by
    intro w hx
    replace hH := hH.ext hx
    replace hE := hE.then hx
    obtain rfl := Option.some.inj heq
    exact RunL.done (by kernel_rfl) Try.func3 (v := .bool t41) (by kernel_rfl) ⟨hE, rfl⟩
  replace heq := ht42
  have hE0 := Ext.refl w
  refine RgL.runk 3 [66, 9, 10, 13, 14] (vs := []) (evs := []) (L' := [(66, .bool (y35.2.2 == 0)), (9, .int .i64 y2.1), (10, .int .i64 y2.2.1), (13, .int .i64 y35.1), (14, .int .i64 y35.2.1)]) (by kernel_rfl) (by kernel_rfl) trivial ?_
  rcases bool_cases (y35.2.2 == 0) with hb44 | hb44
  · replace heq := bif_true hb44 heq
    refine RgL.bool1 hb44 ?_
    refine RgL.runk 8 [71, 10, 14] (vs := []) (evs := []) (L' := [(71, .bool (y2.1 == y35.1)), (10, .int .i64 y2.2.1), (14, .int .i64 y35.2.1)]) (by kernel_rfl) (by kernel_rfl) trivial ?_
    rcases bool_cases (y2.1 == y35.1) with hb45 | hb45
    · replace heq := bif_true hb45 heq
      refine RgL.bool1 hb45 ?_
      refine RgL.runk 13 [76] (vs := []) (evs := []) (L' := [(76, .bool (y2.2.1 == y35.2.1))]) (by kernel_rfl) (by kernel_rfl) trivial ?_
      rcases bool_cases (y2.2.1 == y35.2.1) with hb46 | hb46
      · replace heq := bif_true hb46 heq
        refine RgL.bool1 hb46 ?_
        obtain ⟨y39, hy39, heq⟩ := bind_some heq
        refine RgL.call (d := some 77) (g := 8) (args := (List.toArray [])) (by kernel_rfl) (smithyardlaw10_awake_c hH  hy39) ?_
        rintro _ w ⟨hx47, rfl⟩
        replace hH := hH.ext hx47
        replace hE := hE.then hx47
        try replace hE0 := hE0.then hx47
        refine RgL.runk 16 [8] (vs := []) (evs := []) (L' := [(8, .bool y39)]) (by kernel_rfl) (by kernel_rfl) trivial ?_
        obtain rfl := Option.some.inj heq
        refine RgL.keep [8] (L' := [(8, .bool y39)]) (by kernel_rfl) ?_
        exact RgL.done (by kernel_rfl) (K43 _ hE0)
      · replace heq := bif_false hb46 heq
        refine RgL.bool1 hb46 ?_
        refine RgL.runk 16 [8] (vs := []) (evs := []) (L' := [(8, .bool false)]) (by kernel_rfl) (by kernel_rfl) trivial ?_
        obtain rfl := Option.some.inj heq
        refine RgL.keep [8] (L' := [(8, .bool false)]) (by kernel_rfl) ?_
        exact RgL.done (by kernel_rfl) (K43 _ hE0)
    · replace heq := bif_false hb45 heq
      refine RgL.bool1 hb45 ?_
      refine RgL.runk 16 [8] (vs := []) (evs := []) (L' := [(8, .bool false)]) (by kernel_rfl) (by kernel_rfl) trivial ?_
      obtain rfl := Option.some.inj heq
      refine RgL.keep [8] (L' := [(8, .bool false)]) (by kernel_rfl) ?_
      exact RgL.done (by kernel_rfl) (K43 _ hE0)
  · replace heq := bif_false hb44 heq
    refine RgL.bool1 hb44 ?_
    refine RgL.runk 16 [8] (vs := []) (evs := []) (L' := [(8, .bool false)]) (by kernel_rfl) (by kernel_rfl) trivial ?_
    obtain rfl := Option.some.inj heq
    refine RgL.keep [8] (L' := [(8, .bool false)]) (by kernel_rfl) ?_
    exact RgL.done (by kernel_rfl) (K43 _ hE0)
theorem smithyardlaw10_TrialsTriedStopsInTime.l48_c {w0 : World} {r : Bool} (e32 : Int → Int → (Int × Int × Int) → (List Bool) → Option Bool)
    (he32 : ∀ (H : Hp) (w : World) (a0 : Int) (a1 : Int) (y2 : Int × Int × Int) (v_m12 : List Bool) (Av_m12 : Option Addr) (cv_m12 : Nat), Sub H w → Ext w0 w → Own Kd.bool 4 H w w0.heap.size Av_m12 cv_m12 v_m12 → e32 a0 a1 y2 v_m12 = some r → RunL C3 (Ret (S3 w0 r)) [.c [1, 1, 1, 1, 1, 1, 0], .c [1, 1, 1, 1, 1, 1, 1]] [(0, .int .i64 a0), (1, .int .i64 a1), (9, .int .i64 y2.1), (10, .int .i64 y2.2.1), (12, .slice Av_m12 v_m12.length cv_m12)] w) : ∀ (k : Nat), ∀ (H : Hp) (w : World) (a0 : Int) (a1 : Int) (y2 : Int × Int × Int) (v_m12 : List Bool) (Av_m12 : Option Addr) (cv_m12 : Nat), Sub H w → Ext w0 w → Own Kd.bool 4 H w w0.heap.size Av_m12 cv_m12 v_m12 → smithyardlaw10_TrialsTriedStopsInTime.l48 e32 k a0 a1 y2 v_m12 = some r → RunL C3 (Ret (S3 w0 r)) [.c [1, 1, 1, 1, 1, 0, 0, 0], .l [1, 1, 1, 1, 1, 0, 0, 0], .b 0, .c [1, 1, 1, 1, 1, 1]] [(0, .int .i64 a0), (1, .int .i64 a1), (9, .int .i64 y2.1), (10, .int .i64 y2.2.1), (12, .slice Av_m12 v_m12.length cv_m12)] w := by
  intro k
  induction k with
  | zero => intro H w a0 a1 y2 v_m12 Av_m12 cv_m12 hH hE hov_m12 heq; exact nomatch (show (none : Option Bool) = some r from heq)
  | succ k ih =>
    intro H w a0 a1 y2 v_m12 Av_m12 cv_m12 hH hE hov_m12 heq
    rw [smithyardlaw10_TrialsTriedStopsInTime.l48] at heq
    refine RunL.adm 2 (es' := [.c [1, 1, 1, 1, 1, 0, 0, 0, 0, 0], .c [1, 1, 1, 1, 1, 0, 0, 0, 0, 1], .c [1, 1, 1, 1, 1, 0, 0, 0, 1], .l [1, 1, 1, 1, 1, 0, 0, 0], .b 0, .c [1, 1, 1, 1, 1, 1]]) (by kernel_rfl) ?_
    refine RunL.reg (by kernel_rfl) ?_
    refine RgL.runk 4 [0, 1, 9, 10, 12, 50] (vs := []) (evs := []) (L' := [(0, .int .i64 a0), (1, .int .i64 a1), (9, .int .i64 y2.1), (10, .int .i64 y2.2.1), (12, .slice Av_m12 v_m12.length cv_m12), (50, .bool (decide ((v_m12.length : Int) < a0)))]) (by kernel_rfl) (by kernel_rfl) trivial ?_
    refine RgL.done (by kernel_rfl) ?_
    rcases bool_cases (decide ((v_m12.length : Int) < a0)) with hb50 | hb50
    · replace heq := bif_true hb50 heq
      refine RunL.condT (c := decide ((v_m12.length : Int) < a0)) (by kernel_rfl) hb50 ?_
      refine RunL.adm 2 (es' := [.c [1, 1, 1, 1, 1, 0, 0, 0, 1, 0], .b 1, .l [1, 1, 1, 1, 1, 0, 0, 0], .b 0, .c [1, 1, 1, 1, 1, 1]]) (by kernel_rfl) ?_
      refine RunL.reg (by kernel_rfl) ?_
      refine RgL.runk 1 [0, 1, 9, 10, 51] (vs := []) (evs := []) (L' := [(0, .int .i64 a0), (1, .int .i64 a1), (9, .int .i64 y2.1), (10, .int .i64 y2.2.1), (51, .slice Av_m12 v_m12.length cv_m12)]) (by kernel_rfl) (by kernel_rfl) trivial ?_
      refine RgL.new (d := some 52) (v := fun g => .slice (some ⟨g, 0, none⟩) ([false] : List Bool).length ([false] : List Bool).length) (o := fun g => .cells #[.bool false] 4 (0, 0)) (fun g => by kernel_rfl) ?_
      intro g51 w hgg51 hx57 hsg51 hbg51
      obtain ⟨H, hl, hH, hbH, hk⟩ := addH hH hx57 hgg51 hbg51
      replace hE := hE.then hx57
      try replace hE0 := hE0.then hx57
      replace hov_m12 := hov_m12.grow hl hk hx57
      have hrg51 : Kd.Row Kd.bool H (some ⟨g51, 0, none⟩) (([false] : List Bool) : List Bool) := Kd.Row.lit hbH (Kd.Rep.scalars rfl)
      clear hbH
      obtain ⟨hn52, heq⟩ := guard?_some heq
      refine RgL.append (d := 53) (t := 22) (e := 4) (bytes := 1) (kd := Kd.bool) (xs := v_m12) (ys := ([false] : List Bool)) (A := Av_m12) (B := (some ⟨g51, 0, none⟩)) (c := cv_m12) (cB := (([false] : List Bool).length)) (by kernel_rfl) (by kernel_rfl) hE.size hov_m12 hrg51 hH (Nat.le_refl _) (room_le hn52) (by have := room_le hn52; omega) ?_
      intro A53 c54 w ha58 ho55
      replace hE := ha58.ext hE (hov_m12 : Own Kd.bool 4 H _ w0.heap.size _ _ v_m12)
      replace hH := ha58.sub hH (hov_m12 : Own Kd.bool 4 H _ w0.heap.size _ _ v_m12)
      clear hov_m12
      refine RgL.runk 4 [0, 1, 9, 10, 12] (vs := []) (evs := []) (L' := [(0, .int .i64 a0), (1, .int .i64 a1), (9, .int .i64 y2.1), (10, .int .i64 y2.2.1), (12, .slice A53 ((v_m12 ++ ([false] : List Bool)).length) c54)]) (by kernel_rfl) (by kernel_rfl) trivial ?_
      refine RgL.done (by kernel_rfl) ?_
      refine RunL.adm 2 (es' := [.c [1, 1, 1, 1, 1, 0, 0, 0], .l [1, 1, 1, 1, 1, 0, 0, 0], .b 0, .c [1, 1, 1, 1, 1, 1]]) (by kernel_rfl) ?_
      refine RunL.keep [0, 1, 9, 10, 12] (L' := [(0, .int .i64 a0), (1, .int .i64 a1), (9, .int .i64 y2.1), (10, .int .i64 y2.2.1), (12, .slice A53 ((v_m12 ++ ([false] : List Bool)).length) c54)]) (by kernel_rfl) ?_
      exact ih _ _ _ _ _ _ _ _ hH hE ho55 heq
    · replace heq := bif_false hb50 heq
      refine RunL.condF (c := decide ((v_m12.length : Int) < a0)) (by kernel_rfl) hb50 ?_
      refine RunL.adm 2 (es' := [.c [1, 1, 1, 1, 1, 1, 0], .c [1, 1, 1, 1, 1, 1, 1]]) (by kernel_rfl) ?_
      refine RunL.keep [0, 1, 9, 10, 12] (L' := [(0, .int .i64 a0), (1, .int .i64 a1), (9, .int .i64 y2.1), (10, .int .i64 y2.2.1), (12, .slice Av_m12 v_m12.length cv_m12)]) (by kernel_rfl) ?_
      exact he32 _ _ _ _ _ _ _ _ hH hE hov_m12 heq
theorem smithyardlaw10_TrialsTriedStopsInTime_c {w0 : World} {H : Hp} {a0 : Int} {a1 : Int} {a2 : List Bool} {Aa2 : Option Addr} {ca2 : Nat} {a3 : List Bool} {Aa3 : Option Addr} {ca3 : Nat} {r : Bool} (hH : Sub H w0) (hra2 : Kd.Row Kd.bool H Aa2 a2) (hca2 : a2.length ≤ ca2) (hra3 : Kd.Row Kd.bool H Aa3 a3) (hca3 : a3.length ≤ ca3) (heq : smithyardlaw10_TrialsTriedStopsInTime.f a0 a1 a2 a3 = some r) : Calls Try.prog 3 #[.int .i64 a0, .int .i64 a1, .slice Aa2 a2.length ca2, .slice Aa3 a3.length ca3] w0 (Ret (S3 w0 r)) := by
  refine calls_of_runL (F := C3) Try.func3 (by kernel_rfl) Try.ntmps3 (args := [.int .i64 a0, .int .i64 a1, .slice Aa2 a2.length ca2, .slice Aa3 a3.length ca3]) (by kernel_rfl) ?_
  unfold smithyardlaw10_TrialsTriedStopsInTime.f at heq
  suffices h : ∀ w, Ext w0 w → Sub H w → RunL C3 (Ret (S3 w0 r)) [.c []] (argL 0 [.int .i64 a0, .int .i64 a1, .slice Aa2 a2.length ca2, .slice Aa3 a3.length ca3]) w from h w0 (Ext.refl w0) hH
  clear hH
  intro w hE hH
  refine RunL.adm 1 (es' := [.c [0], .c [1]]) (by kernel_rfl) ?_
  refine RunL.reg (by kernel_rfl) ?_
  refine RgL.runk 1 [0, 1, 2, 3] (vs := []) (evs := []) (L' := [(0, .int .i64 a0), (1, .int .i64 a1), (2, .slice Aa2 a2.length ca2), (3, .slice Aa3 a3.length ca3)]) (by kernel_rfl) (by kernel_rfl) trivial ?_
  refine RgL.done (by kernel_rfl) ?_
  refine RunL.adm 1 (es' := [.c [1, 0], .c [1, 1]]) (by kernel_rfl) ?_
  refine RunL.reg (by kernel_rfl) ?_
  refine RgL.runk 3 [0, 1, 2, 3, 16, 17, 18] (vs := []) (evs := []) (L' := [(0, .int .i64 a0), (1, .int .i64 a1), (2, .slice Aa2 a2.length ca2), (3, .slice Aa3 a3.length ca3), (16, .int .i64 a0), (17, .int .i64 a1), (18, .slice Aa2 a2.length ca2)]) (by kernel_rfl) (by kernel_rfl) trivial ?_
  obtain ⟨y2, hy2, heq⟩ := bind_some heq
  refine RgL.call (d := some 19) (g := 7) (args := #[.int .i64 a0, .int .i64 a1, .slice Aa2 a2.length ca2]) (by kernel_rfl) (trials_Tried_c hH hra2 hca2 hy2) ?_
  rintro _ w ⟨hx4, rfl⟩
  replace hH := hH.ext hx4
  replace hE := hE.then hx4
  try replace hE0 := hE0.then hx4
  refine RgL.runk 11 [0, 1, 2, 3, 9, 10, 11] (vs := []) (evs := []) (L' := [(0, .int .i64 a0), (1, .int .i64 a1), (2, .slice Aa2 a2.length ca2), (3, .slice Aa3 a3.length ca3), (9, .int .i64 y2.1), (10, .int .i64 y2.2.1), (11, .int .i64 y2.2.2)]) (by kernel_rfl) (by kernel_rfl) trivial ?_
  refine RgL.done (by kernel_rfl) ?_
  refine RunL.adm 2 (es' := [.c [1, 1, 0, 0], .c [1, 1, 0, 1], .c [1, 1, 1]]) (by kernel_rfl) ?_
  refine RunL.reg (by kernel_rfl) ?_
  refine RgL.runk 2 [0, 1, 2, 3, 9, 10, 24] (vs := []) (evs := []) (L' := [(0, .int .i64 a0), (1, .int .i64 a1), (2, .slice Aa2 a2.length ca2), (3, .slice Aa3 a3.length ca3), (9, .int .i64 y2.1), (10, .int .i64 y2.2.1), (24, .bool (y2.2.2 != 0))]) (by kernel_rfl) (by kernel_rfl) trivial ?_
  refine RgL.done (by kernel_rfl) ?_
  rcases bool_cases (y2.2.2 != 0) with hb6 | hb6
  · replace heq := bif_true hb6 heq
    refine RunL.condT (c := y2.2.2 != 0) (by kernel_rfl) hb6 ?_
    refine RunL.adm 1 (es' := [.c [1, 1, 0, 1, 0, 0], .c [1, 1, 0, 1, 0, 1], .c [1, 1, 1]]) (by kernel_rfl) ?_
    refine RunL.reg (by kernel_rfl) ?_
    obtain ⟨t9, ht10, heq⟩ := bind_some heq
    have K11 : ∀ w2, Ext w w2 → RunL C3 (Ret (S3 w0 r)) [.c [1, 1, 0, 1, 0, 1], .c [1, 1, 1]] [(8, .bool t9)] w2 := by
      intro w hx
      replace hH := hH.ext hx
      replace hE := hE.then hx
      obtain rfl := Option.some.inj heq
      exact RunL.done (by kernel_rfl) Try.func3 (v := .bool t9) (by kernel_rfl) ⟨hE, rfl⟩
    replace heq := ht10
    have hE0 := Ext.refl w
    refine RgL.runk 3 [27, 10] (vs := []) (evs := []) (L' := [(27, .bool (y2.1 == 0)), (10, .int .i64 y2.2.1)]) (by kernel_rfl) (by kernel_rfl) trivial ?_
    rcases bool_cases (y2.1 == 0) with hb12 | hb12
    · replace heq := bif_true hb12 heq
      refine RgL.bool1 hb12 ?_
      refine RgL.runk 7 [31] (vs := []) (evs := []) (L' := [(31, .bool (y2.2.1 == 0))]) (by kernel_rfl) (by kernel_rfl) trivial ?_
      rcases bool_cases (y2.2.1 == 0) with hb13 | hb13
      · replace heq := bif_true hb13 heq
        refine RgL.bool1 hb13 ?_
        obtain ⟨y7, hy7, heq⟩ := bind_some heq
        refine RgL.call (d := some 32) (g := 8) (args := (List.toArray [])) (by kernel_rfl) (smithyardlaw10_awake_c hH  hy7) ?_
        rintro _ w ⟨hx14, rfl⟩
        replace hH := hH.ext hx14
        replace hE := hE.then hx14
        try replace hE0 := hE0.then hx14
        refine RgL.runk 10 [8] (vs := []) (evs := []) (L' := [(8, .bool y7)]) (by kernel_rfl) (by kernel_rfl) trivial ?_
        obtain rfl := Option.some.inj heq
        refine RgL.keep [8] (L' := [(8, .bool y7)]) (by kernel_rfl) ?_
        exact RgL.done (by kernel_rfl) (K11 _ hE0)
      · replace heq := bif_false hb13 heq
        refine RgL.bool1 hb13 ?_
        refine RgL.runk 10 [8] (vs := []) (evs := []) (L' := [(8, .bool false)]) (by kernel_rfl) (by kernel_rfl) trivial ?_
        obtain rfl := Option.some.inj heq
        refine RgL.keep [8] (L' := [(8, .bool false)]) (by kernel_rfl) ?_
        exact RgL.done (by kernel_rfl) (K11 _ hE0)
    · replace heq := bif_false hb12 heq
      refine RgL.bool1 hb12 ?_
      refine RgL.runk 10 [8] (vs := []) (evs := []) (L' := [(8, .bool false)]) (by kernel_rfl) (by kernel_rfl) trivial ?_
      obtain rfl := Option.some.inj heq
      refine RgL.keep [8] (L' := [(8, .bool false)]) (by kernel_rfl) ?_
      exact RgL.done (by kernel_rfl) (K11 _ hE0)
  · replace heq := bif_false hb6 heq
    refine RunL.condF (c := y2.2.2 != 0) (by kernel_rfl) hb6 ?_
    refine RunL.adm 3 (es' := [.c [1, 1, 1, 0, 0], .c [1, 1, 1, 0, 1], .c [1, 1, 1, 1]]) (by kernel_rfl) ?_
    refine RunL.reg (by kernel_rfl) ?_
    obtain ⟨t16, ht17, heq⟩ := bind_some heq
    have K18 : ∀ w2, Ext w w2 → RunL C3 (Ret (S3 w0 r)) [.c [1, 1, 1, 0, 1], .c [1, 1, 1, 1]] [(0, .int .i64 a0), (1, .int .i64 a1), (2, .slice Aa2 a2.length ca2), (3, .slice Aa3 a3.length ca3), (9, .int .i64 y2.1), (10, .int .i64 y2.2.1), (40, .bool t16)] w2 := by
      intro w hx
      replace hH := hH.ext hx
      replace hE := hE.then hx
      rcases bool_cases (t16) with hb19 | hb19
      · replace heq := bif_true hb19 heq
        refine RunL.condT (c := t16) (by kernel_rfl) hb19 ?_
        refine RunL.adm 1 (es' := [.c [1, 1, 1, 0, 1, 0, 0], .c [1, 1, 1, 0, 1, 0, 1], .c [1, 1, 1, 1]]) (by kernel_rfl) ?_
        refine RunL.reg (by kernel_rfl) ?_
        refine RgL.runk 1 [8] (vs := []) (evs := []) (L' := [(8, .bool false)]) (by kernel_rfl) (by kernel_rfl) trivial ?_
        refine RgL.done (by kernel_rfl) ?_
        obtain rfl := Option.some.inj heq
        exact RunL.done (by kernel_rfl) Try.func3 (v := .bool false) (by kernel_rfl) ⟨hE, rfl⟩
      · replace heq := bif_false hb19 heq
        refine RunL.condF (c := t16) (by kernel_rfl) hb19 ?_
        refine RunL.adm 2 (es' := [.c [1, 1, 1, 1, 0], .c [1, 1, 1, 1, 1]]) (by kernel_rfl) ?_
        refine RunL.reg (by kernel_rfl) ?_
        obtain ⟨hn21, heq⟩ := guard?_some heq
        refine RgL.runk 3 [43, 0, 1, 3, 9, 10] (vs := []) (evs := [.need (0 ≤ y2.2.1 ∧ y2.2.1 ≤ (ca2 : Int))]) (L' := [(43, .slice Aa2 y2.2.1.toNat ca2), (0, .int .i64 a0), (1, .int .i64 a1), (3, .slice Aa3 a3.length ca3), (9, .int .i64 y2.1), (10, .int .i64 y2.2.1)]) (by kernel_rfl) (by kernel_rfl) ⟨(both_of hn21).1, by have := (both_of hn21).2; have := hca2; omega⟩ ?_
        have hrq22 := Kd.Row.take hra2 y2.2.1.toNat
        have hcq22 := cap_take (n := y2.2.1.toNat) hca2
        refine RgL.val1 (v' := .slice Aa2 ((a2.take y2.2.1.toNat).length) ca2) (congrArg (Value.slice Aa2 · ca2) (len_take (by have := both_of hn21; omega))) ?_
        obtain ⟨y23, hy23, heq⟩ := bind_some heq
        refine RgL.call (d := some 44) (g := 9) (args := #[.slice Aa2 ((a2.take y2.2.1.toNat).length) ca2]) (by kernel_rfl) (slices_Clone_bool_c hH hrq22 hcq22 hy23) ?_
        rintro _ w ⟨hx29, H, Ay23_0, cy23_0, hX30, rfl, hoy23_0⟩
        replace hoy23_0 := hoy23_0.base hE.size
        have hl := hX30.le
        have hk := hX30.none
        replace hH := hX30.sub
        replace hE := hE.then hx29
        try replace hE0 := hE0.then hx29
        replace hrq22 := hrq22.mono hl
        replace hra3 := hra3.mono hl
        refine RgL.runk 5 [0, 1, 9, 10, 44, 45] (vs := []) (evs := []) (L' := [(0, .int .i64 a0), (1, .int .i64 a1), (9, .int .i64 y2.1), (10, .int .i64 y2.2.1), (44, .slice Ay23_0 y23.length cy23_0), (45, .slice Aa3 a3.length ca3)]) (by kernel_rfl) (by kernel_rfl) trivial ?_
        obtain ⟨hn24, heq⟩ := guard?_some heq
        refine RgL.append (d := 46) (t := 22) (e := 4) (bytes := 1) (kd := Kd.bool) (xs := y23) (ys := a3) (A := Ay23_0) (B := Aa3) (c := cy23_0) (cB := ca3) (by kernel_rfl) (by kernel_rfl) hE.size hoy23_0 hra3 hH hca3 (room_le hn24) (by have := room_le hn24; omega) ?_
        intro A25 c26 w ha31 ho27
        replace hE := ha31.ext hE (hoy23_0 : Own Kd.bool 4 H _ w0.heap.size _ _ y23)
        replace hH := ha31.sub hH (hoy23_0 : Own Kd.bool 4 H _ w0.heap.size _ _ y23)
        clear hoy23_0
        refine RgL.runk 7 [0, 1, 9, 10, 12] (vs := []) (evs := []) (L' := [(0, .int .i64 a0), (1, .int .i64 a1), (9, .int .i64 y2.1), (10, .int .i64 y2.2.1), (12, .slice A25 ((y23 ++ a3).length) c26)]) (by kernel_rfl) (by kernel_rfl) trivial ?_
        refine RgL.done (by kernel_rfl) ?_
        refine RunL.adm 3 (es' := [.c [1, 1, 1, 1, 1, 0, 0, 0], .l [1, 1, 1, 1, 1, 0, 0, 0], .b 0, .c [1, 1, 1, 1, 1, 1]]) (by kernel_rfl) ?_
        refine RunL.keep [0, 1, 9, 10, 12] (L' := [(0, .int .i64 a0), (1, .int .i64 a1), (9, .int .i64 y2.1), (10, .int .i64 y2.2.1), (12, .slice A25 ((y23 ++ a3).length) c26)]) (by kernel_rfl) ?_
        exact (smithyardlaw10_TrialsTriedStopsInTime.l48_c smithyardlaw10_TrialsTriedStopsInTime.e32 (smithyardlaw10_TrialsTriedStopsInTime.e32_c)) (a0.toNat + 1) _ _ _ _ _ _ _ _ hH hE ho27 heq
    replace heq := ht17
    have hE0 := Ext.refl w
    refine RgL.runk 3 [36, 0, 1, 2, 3, 9, 10] (vs := []) (evs := []) (L' := [(36, .bool (decide (y2.2.1 < 1))), (0, .int .i64 a0), (1, .int .i64 a1), (2, .slice Aa2 a2.length ca2), (3, .slice Aa3 a3.length ca3), (9, .int .i64 y2.1), (10, .int .i64 y2.2.1)]) (by kernel_rfl) (by kernel_rfl) trivial ?_
    rcases bool_cases (decide (y2.2.1 < 1)) with hb59 | hb59
    · replace heq := bif_true hb59 heq
      refine RgL.bool1 hb59 ?_
      refine RgL.runk 7 [0, 1, 2, 3, 9, 10, 40] (vs := []) (evs := []) (L' := [(0, .int .i64 a0), (1, .int .i64 a1), (2, .slice Aa2 a2.length ca2), (3, .slice Aa3 a3.length ca3), (9, .int .i64 y2.1), (10, .int .i64 y2.2.1), (40, .bool true)]) (by kernel_rfl) (by kernel_rfl) trivial ?_
      obtain rfl := Option.some.inj heq
      refine RgL.keep [0, 1, 2, 3, 9, 10, 40] (L' := [(0, .int .i64 a0), (1, .int .i64 a1), (2, .slice Aa2 a2.length ca2), (3, .slice Aa3 a3.length ca3), (9, .int .i64 y2.1), (10, .int .i64 y2.2.1), (40, .bool true)]) (by kernel_rfl) ?_
      exact RgL.done (by kernel_rfl) (K18 _ hE0)
    · replace heq := bif_false hb59 heq
      refine RgL.bool1 hb59 ?_
      refine RgL.runk 7 [0, 1, 2, 3, 9, 10, 40] (vs := []) (evs := []) (L' := [(0, .int .i64 a0), (1, .int .i64 a1), (2, .slice Aa2 a2.length ca2), (3, .slice Aa3 a3.length ca3), (9, .int .i64 y2.1), (10, .int .i64 y2.2.1), (40, .bool (decide (a0 < y2.2.1)))]) (by kernel_rfl) (by kernel_rfl) trivial ?_
      obtain rfl := Option.some.inj heq
      refine RgL.keep [0, 1, 2, 3, 9, 10, 40] (L' := [(0, .int .i64 a0), (1, .int .i64 a1), (2, .slice Aa2 a2.length ca2), (3, .slice Aa3 a3.length ca3), (9, .int .i64 y2.1), (10, .int .i64 y2.2.1), (40, .bool (decide (a0 < y2.2.1)))]) (by kernel_rfl) ?_
      exact RgL.done (by kernel_rfl) (K18 _ hE0)
end Go.Proofs.Ytdhennofffldhaa
