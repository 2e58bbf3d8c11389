/- What the machine's calls of these functions come to: just what the plain functions say. Written by program. -/
import Derived.Test.YtcldjlkgdnjnaaaDoorProg
import Derived.Test.YtcldjlkgdnjnaaaDoorKitQ
import Derived.Test.YtcldjlkgdnjnaaaDoorXD
import Derived.Test.YtcldjlkgdnjnaaaDoorShelf
import Derived.Test.YtcldjlkgdnjnaaaDoorXM1
set_option linter.unusedVariables false
set_option linter.unusedSimpArgs false
set_option maxRecDepth 100000
set_option maxHeartbeats 1000000
namespace Go.Proofs.YtcldjlkgdnjnaaaDoor
open Go Go.RowKit Go.Proofs.YtcldjlkgdnjnaaaDoor.Kit
noncomputable def C76 : Ctx := { P := Tryd.prog, f := 76, N := 46, c := bodyOf Tryd.f76 }
def S76 (F : List Ch) (H0 : Hp) (r : Int) (v : Value) (H : Hp) (cs : List Ch) : Prop := H0 = H ∧ v = .int .i64 r ∧ F = cs
theorem smithyardref9_checkStands.e1_c {w0 : World} {H : Hp} {F : List Ch} {r : Int} : smithyardref9_checkStands.e1 = some r → RunH C76 (S76 F H r) H w0 [.c [1, 1, 1, 0], .c [1, 1, 1, 1]] [] H (F) := by
  intro   heq
  unfold smithyardref9_checkStands.e1 at heq
  refine RunH.reg (by kernel_rfl) ?_
  refine RgH.runk 1 [2] (vs := []) (evs := []) (L' := [(2, .int .i64 0)]) (by kernel_rfl) (by kernel_rfl) (fun _ _ => trivial) ?_
  refine RgH.done (by kernel_rfl) ?_
  obtain rfl := Option.some.inj heq
  exact RunH.done (by kernel_rfl) Tryd.func76 (v := .int .i64 0) (by kernel_rfl) ⟨rfl, rfl, rfl⟩
theorem smithyardref9_checkStands.l2_c {w0 : World} {H : Hp} {F : List Ch} {r : Int} (e1 : Option Int)
    (he1 : e1 = some r → RunH C76 (S76 F H r) H w0 [.c [1, 1, 1, 0], .c [1, 1, 1, 1]] [] H (F)) : ∀ (k : Nat), ∀ (a0 : List Span) (Aa0 : Option Addr) (ca0 : Nat) (v10 : Int) , Rw kSpan H F Aa0 a0 → a0.length ≤ ca0 → smithyardref9_checkStands.l2 e1 k a0 v10 = some r → RunH C76 (S76 F H r) H w0 [.c [1, 1, 0, 1, 0, 0], .l [1, 1, 0, 1, 0, 0], .b 0, .c [1, 1, 1]] [(0, .slice Aa0 a0.length ca0), (8, .slice Aa0 a0.length ca0), (9, .int .i64 (a0.length : Int)), (10, .int .i64 v10)] H (F) := by
  intro k
  induction k with
  | zero => intro a0 Aa0 ca0 v10 hra0 hca0 heq; exact nomatch (show (none : Option Int) = some r from heq)
  | succ k ihk =>
    intro a0 Aa0 ca0 v10 hra0 hca0 heq
    rw [smithyardref9_checkStands.l2] at heq
    refine RunH.adm 1 (es' := [.c [1, 1, 0, 1, 0, 0, 0], .c [1, 1, 0, 1, 0, 0, 1], .l [1, 1, 0, 1, 0, 0], .b 0, .c [1, 1, 1]]) (by kernel_rfl) ?_
    refine RunH.reg (by kernel_rfl) ?_
    refine RgH.runk 1 [0, 8, 9, 10, 11] (vs := []) (evs := []) (L' := [(0, .slice Aa0 a0.length ca0), (8, .slice Aa0 a0.length ca0), (9, .int .i64 (a0.length : Int)), (10, .int .i64 v10), (11, .bool (decide (v10 < (a0.length : Int))))]) (by kernel_rfl) (by kernel_rfl) (fun _ _ => trivial) ?_
    refine RgH.done (by kernel_rfl) ?_
    refine RunH.adm 1 (es' := [.c [1, 1, 0, 1, 0, 0, 1, 0], .c [1, 1, 0, 1, 0, 0, 1, 1], .l [1, 1, 0, 1, 0, 0], .b 0, .c [1, 1, 1]]) (by kernel_rfl) ?_
    rcases bool_cases (decide (v10 < (a0.length : Int))) with hb2 | hb2
    · replace heq := bif_true hb2 heq
      refine RunH.condT (c := decide (v10 < (a0.length : Int))) (by kernel_rfl) hb2 ?_
      refine RunH.adm 4 (es' := [.c [1, 1, 0, 1, 0, 0, 1, 1, 0, 0, 0], .c [1, 1, 0, 1, 0, 0, 1, 1, 0, 0, 1], .b 1, .c [1, 1, 0, 1, 0, 0, 1, 1, 1], .l [1, 1, 0, 1, 0, 0], .b 0, .c [1, 1, 1]]) (by kernel_rfl) ?_
      refine RunH.reg (by kernel_rfl) ?_
      obtain ⟨x1, hx1, heq⟩ := bind_some heq
      obtain ⟨ha1, cs1, hK1, hcc1⟩ := hra0.get hx1
      obtain ⟨rfl⟩ := kSpan_open hK1
      refine RgH.runk 3 [0, 8, 9, 10, 12, 14] (vs := [.int .i64 x1.From, .int .i64 x1.To]) (evs := [.need (Aa0 = some (adr Aa0) ∧ (0 : Int) ≤ v10 ∧ v10 < ((a0.length : Nat) : Int)), .load (((adr Aa0).add (v10.toNat * 2)).add 0) (.int .i64 x1.From), .load (((adr Aa0).add (v10.toNat * 2)).add 1) (.int .i64 x1.To)]) (L' := [(0, .slice Aa0 a0.length ca0), (8, .slice Aa0 a0.length ca0), (9, .int .i64 (a0.length : Int)), (10, .int .i64 v10), (12, .int .i64 v10), (14, .agg #[.int .i64 x1.From, .int .i64 x1.To])]) (by kernel_rfl) (by kernel_rfl) (fun w hh => ⟨⟨ha1, (at?_some hx1).1, (at?_some hx1).2.1⟩, (hcc1 _ _ (hh.drop 0) 0 _ rfl), (hcc1 _ _ (hh.drop 0) 1 _ rfl)⟩) ?_
      refine RgH.does (DoesH.new (d := 4) (v := fun g => .pointer (some ⟨g, 0, none⟩)) (o := fun g => .cells #[.int .i64 0, .int .i64 0] 79 (0, 0)) (fun g => by kernel_rfl)) ?_
      rintro _ _ _ _ ⟨g1, rfl, rfl, rfl⟩
      refine RgH.runk 5 [0, 3, 4, 8, 9, 10, 14] (vs := []) (evs := []) (L' := [(0, .slice Aa0 a0.length ca0), (3, .int .i64 v10), (4, .pointer (some ⟨g1, 0, none⟩)), (8, .slice Aa0 a0.length ca0), (9, .int .i64 (a0.length : Int)), (10, .int .i64 v10), (14, .agg #[.int .i64 x1.From, .int .i64 x1.To])]) (by kernel_rfl) (by kernel_rfl) (fun _ _ => trivial) ?_
      refine RgH.does (DoesH.store (k := 0) (g := g1) (off := 0) (v := .agg #[.int .i64 x1.From, .int .i64 x1.To]) (cells' := #[.int .i64 x1.From, .int .i64 x1.To]) (by kernel_rfl) rfl (by kernel_rfl) (by kernel_rfl)) ?_
      rintro _ _ _ _ ⟨rfl, rfl, rfl⟩
      refine RgH.done (by kernel_rfl) ?_
      refine RunH.adm 2 (es' := [.c [1, 1, 0, 1, 0, 0, 1, 1, 0, 0, 1, 0, 0], .c [1, 1, 0, 1, 0, 0, 1, 1, 0, 0, 1, 0, 1], .c [1, 1, 0, 1, 0, 0, 1, 1, 0, 0, 1, 1], .b 1, .c [1, 1, 0, 1, 0, 0, 1, 1, 1], .l [1, 1, 0, 1, 0, 0], .b 0, .c [1, 1, 1]]) (by kernel_rfl) ?_
      obtain ⟨t1, ht1, heq⟩ := bind_some heq
      have K2 : RunH C76 (S76 F H r) H w0 [.c [1, 1, 0, 1, 0, 0, 1, 1, 0, 0, 1, 0, 1], .c [1, 1, 0, 1, 0, 0, 1, 1, 0, 0, 1, 1], .b 1, .c [1, 1, 0, 1, 0, 0, 1, 1, 1], .l [1, 1, 0, 1, 0, 0], .b 0, .c [1, 1, 1]] [(0, .slice Aa0 a0.length ca0), (3, .int .i64 v10), (4, .pointer (some ⟨g1, 0, none⟩)), (8, .slice Aa0 a0.length ca0), (9, .int .i64 (a0.length : Int)), (10, .int .i64 v10), (24, .bool t1)] H ((some (g1, .cells #[.int .i64 x1.From, .int .i64 x1.To] 79 (0, 0))) :: F) := by
        rcases bool_cases (t1) with hb4 | hb4
        · replace heq := bif_true hb4 heq
          refine RunH.condT (c := t1) (by kernel_rfl) hb4 ?_
          refine RunH.adm 1 (es' := [.c [1, 1, 0, 1, 0, 0, 1, 1, 0, 0, 1, 0, 1, 0, 0], .c [1, 1, 0, 1, 0, 0, 1, 1, 0, 0, 1, 0, 1, 0, 1], .c [1, 1, 0, 1, 0, 0, 1, 1, 0, 0, 1, 1], .b 1, .c [1, 1, 0, 1, 0, 0, 1, 1, 1], .l [1, 1, 0, 1, 0, 0], .b 0, .c [1, 1, 1]]) (by kernel_rfl) ?_
          refine RunH.reg (by kernel_rfl) ?_
          refine RgH.runk 1 [2] (vs := []) (evs := []) (L' := [(2, .int .i64 1)]) (by kernel_rfl) (by kernel_rfl) (fun _ _ => trivial) ?_
          refine RgH.done (by kernel_rfl) ?_
          obtain rfl := Option.some.inj heq
          refine RunH.pick 1 [] (cs' := F) (by kernel_rfl) rfl ?_
          exact RunH.done (by kernel_rfl) Tryd.func76 (v := .int .i64 1) (by kernel_rfl) ⟨rfl, rfl, rfl⟩
        · replace heq := bif_false hb4 heq
          refine RunH.condF (c := t1) (by kernel_rfl) hb4 ?_
          refine RunH.adm 2 (es' := [.c [1, 1, 0, 1, 0, 0, 1, 1, 0, 0, 1, 1, 0], .c [1, 1, 0, 1, 0, 0, 1, 1, 0, 0, 1, 1, 1], .b 1, .c [1, 1, 0, 1, 0, 0, 1, 1, 1], .l [1, 1, 0, 1, 0, 0], .b 0, .c [1, 1, 1]]) (by kernel_rfl) ?_
          obtain ⟨t2, ht2, heq⟩ := bind_some heq
          have K3 : RunH C76 (S76 F H r) H w0 [.c [1, 1, 0, 1, 0, 0, 1, 1, 0, 0, 1, 1, 1], .b 1, .c [1, 1, 0, 1, 0, 0, 1, 1, 1], .l [1, 1, 0, 1, 0, 0], .b 0, .c [1, 1, 1]] [(0, .slice Aa0 a0.length ca0), (8, .slice Aa0 a0.length ca0), (9, .int .i64 (a0.length : Int)), (10, .int .i64 v10), (44, .bool t2)] H (F) := by
            rcases bool_cases (t2) with hb7 | hb7
            · replace heq := bif_true hb7 heq
              refine RunH.condT (c := t2) (by kernel_rfl) hb7 ?_
              refine RunH.adm 1 (es' := [.c [1, 1, 0, 1, 0, 0, 1, 1, 0, 0, 1, 1, 1, 0, 0], .c [1, 1, 0, 1, 0, 0, 1, 1, 0, 0, 1, 1, 1, 0, 1], .b 1, .c [1, 1, 0, 1, 0, 0, 1, 1, 1], .l [1, 1, 0, 1, 0, 0], .b 0, .c [1, 1, 1]]) (by kernel_rfl) ?_
              refine RunH.reg (by kernel_rfl) ?_
              refine RgH.runk 1 [2] (vs := []) (evs := []) (L' := [(2, .int .i64 8)]) (by kernel_rfl) (by kernel_rfl) (fun _ _ => trivial) ?_
              refine RgH.done (by kernel_rfl) ?_
              obtain rfl := Option.some.inj heq
              exact RunH.done (by kernel_rfl) Tryd.func76 (v := .int .i64 8) (by kernel_rfl) ⟨rfl, rfl, rfl⟩
            · replace heq := bif_false hb7 heq
              refine RunH.condF (c := t2) (by kernel_rfl) hb7 ?_
              refine RunH.adm 2 (es' := [.c [1, 1, 0, 1, 0, 0, 1, 1, 1], .l [1, 1, 0, 1, 0, 0], .b 0, .c [1, 1, 1]]) (by kernel_rfl) ?_
              refine RunH.reg (by kernel_rfl) ?_
              refine RgH.runk 2 [0, 8, 9, 10] (vs := []) (evs := []) (L' := [(0, .slice Aa0 a0.length ca0), (8, .slice Aa0 a0.length ca0), (9, .int .i64 (a0.length : Int)), (10, .int .i64 (w64 (v10 + 1)))]) (by kernel_rfl) (by kernel_rfl) (fun _ _ => trivial) ?_
              refine RgH.done (by kernel_rfl) ?_
              refine RunH.adm 1 (es' := [.c [1, 1, 0, 1, 0, 0], .l [1, 1, 0, 1, 0, 0], .b 0, .c [1, 1, 1]]) (by kernel_rfl) ?_
              refine RunH.keep [0, 8, 9, 10] (L' := [(0, .slice Aa0 a0.length ca0), (8, .slice Aa0 a0.length ca0), (9, .int .i64 (a0.length : Int)), (10, .int .i64 (w64 (v10 + 1)))]) (by kernel_rfl) ?_
              exact ihk a0 _ _ (w64 (v10 + 1)) hra0 hca0 heq
          replace heq := ht2
          refine RunH.keep [0, 3, 4, 8, 9, 10] (L' := [(0, .slice Aa0 a0.length ca0), (3, .int .i64 v10), (4, .pointer (some ⟨g1, 0, none⟩)), (8, .slice Aa0 a0.length ca0), (9, .int .i64 (a0.length : Int)), (10, .int .i64 v10)]) (by kernel_rfl) ?_
          refine RunH.draw (fun w => Heap H w0 w ((some (g1, .cells #[.int .i64 x1.From, .int .i64 x1.To] 79 (0, 0))) :: F)) (fun w => Heap H w0 w ((some (g1, .cells #[.int .i64 x1.From, .int .i64 x1.To] 79 (0, 0))) :: F)) [false, false, false, false, false, false, false, false, false, false, false, false, false, false, false, false, false, false, false, false] (n := 20) (ls := [false, false, false, false, false, false, false, false, false, false, false, false, false, false, false, false, false, false, false, false]) (by kernel_rfl) (by kernel_rfl) (by kernel_rfl) rfl ?_
          refine DrH.run [0, 1, 2, 3, 4, 5] (m := 14) (ls' := [true, true, true, true, true, true, false, false, false, false, false, false, false, false, false, false, false, false, false, false]) (vs := [.int .i64 x1.To, .int .i64 x1.From]) (evs := [.load ⟨g1, 1, none⟩ (.int .i64 x1.To), .load ⟨g1, 0, none⟩ (.int .i64 x1.From)]) (L' := [(30, .bool (decide (x1.To ≤ x1.From))), (29, .bool (decide (x1.To ≤ x1.From))), (28, .int .i64 x1.From), (27, .pointer (some ⟨g1, 0, none⟩)), (26, .int .i64 x1.To), (25, .pointer (some ⟨g1, 1, none⟩)), (0, .slice Aa0 a0.length ca0), (3, .int .i64 v10), (4, .pointer (some ⟨g1, 0, none⟩)), (8, .slice Aa0 a0.length ca0), (9, .int .i64 (a0.length : Int)), (10, .int .i64 v10)]) (by kernel_rfl) (fun w hh => hh.pick 1 [0] (by kernel_rfl)) (fun w hh => hh.pick 1 [0] (by kernel_rfl)) (by kernel_rfl) (fun w hh => ⟨(hh.box 0 rfl rfl), (hh.box 0 rfl rfl)⟩) (by kernel_rfl) ?_
          refine DrH.keep [30, 0, 3, 4, 8, 9, 10] (L' := [(30, .bool (decide (x1.To ≤ x1.From))), (0, .slice Aa0 a0.length ca0), (3, .int .i64 v10), (4, .pointer (some ⟨g1, 0, none⟩)), (8, .slice Aa0 a0.length ca0), (9, .int .i64 (a0.length : Int)), (10, .int .i64 v10)]) (by kernel_rfl) ?_
          rcases bool_cases (decide (x1.To ≤ x1.From)) with hb5 | hb5
          · replace heq := bif_true hb5 heq
            refine DrH.val1 (v' := .bool true) (congrArg Value.bool hb5) ?_
            refine DrH.run [6, 7, 8, 9, 10, 11, 12, 13, 14, 15, 16, 17, 18, 19] (m := 0) (ls' := [true, true, true, true, true, true, true, true, true, true, true, true, true, true, true, true, true, true, true, true]) (vs := []) (evs := []) (L' := [(44, .bool true), (43, undef), (42, undef), (41, undef), (40, undef), (39, undef), (38, undef), (37, undef), (36, undef), (35, undef), (34, undef), (33, undef), (32, undef), (31, undef), (30, .bool true), (0, .slice Aa0 a0.length ca0), (3, .int .i64 v10), (4, .pointer (some ⟨g1, 0, none⟩)), (8, .slice Aa0 a0.length ca0), (9, .int .i64 (a0.length : Int)), (10, .int .i64 v10)]) (by kernel_rfl) (fun w hh => hh.pick 1 [0] (by kernel_rfl)) (fun w hh => hh.pick 1 [0] (by kernel_rfl)) (by kernel_rfl) (fun _ _ => trivial) (by kernel_rfl) ?_
            refine DrH.keep [0, 8, 9, 10, 44] (L' := [(0, .slice Aa0 a0.length ca0), (8, .slice Aa0 a0.length ca0), (9, .int .i64 (a0.length : Int)), (10, .int .i64 v10), (44, .bool true)]) (by kernel_rfl) ?_
            obtain rfl := Option.some.inj heq
            refine DrH.keep [0, 8, 9, 10, 44] (L' := [(0, .slice Aa0 a0.length ca0), (8, .slice Aa0 a0.length ca0), (9, .int .i64 (a0.length : Int)), (10, .int .i64 v10), (44, .bool true)]) (by kernel_rfl) ?_
            refine DrH.pick 1 [] (cs' := F) (by kernel_rfl) rfl ?_
            refine DrH.done (by kernel_rfl) ?_
            exact K3
          · replace heq := bif_false hb5 heq
            refine DrH.val1 (v' := .bool false) (congrArg Value.bool hb5) ?_
            refine DrH.run [6, 7, 8] (m := 11) (ls' := [true, true, true, true, true, true, true, true, true, false, false, false, false, false, false, false, false, false, false, false]) (vs := []) (evs := []) (L' := [(33, .bool (decide (0 < v10))), (32, .bool (decide (0 < v10))), (31, .int .i64 v10), (30, .bool false), (0, .slice Aa0 a0.length ca0), (3, .int .i64 v10), (4, .pointer (some ⟨g1, 0, none⟩)), (8, .slice Aa0 a0.length ca0), (9, .int .i64 (a0.length : Int)), (10, .int .i64 v10)]) (by kernel_rfl) (fun w hh => hh.pick 1 [0] (by kernel_rfl)) (fun w hh => hh.pick 1 [0] (by kernel_rfl)) (by kernel_rfl) (fun _ _ => trivial) (by kernel_rfl) ?_
            refine DrH.keep [33, 0, 3, 4, 8, 9, 10, 30] (L' := [(33, .bool (decide (0 < v10))), (0, .slice Aa0 a0.length ca0), (3, .int .i64 v10), (4, .pointer (some ⟨g1, 0, none⟩)), (8, .slice Aa0 a0.length ca0), (9, .int .i64 (a0.length : Int)), (10, .int .i64 v10), (30, .bool false)]) (by kernel_rfl) ?_
            rcases bool_cases (decide (0 < v10)) with hb6 | hb6
            · replace heq := bif_true hb6 heq
              refine DrH.val1 (v' := .bool true) (congrArg Value.bool hb6) ?_
              obtain ⟨x2, hx2, heq⟩ := bind_some heq
              obtain ⟨ha2, cs2, hK2, hcc2⟩ := hra0.get hx2
              obtain ⟨rfl⟩ := kSpan_open hK2
              refine DrH.run [9, 10, 11, 12, 13, 14, 15, 16, 17, 18, 19] (m := 0) (ls' := [true, true, true, true, true, true, true, true, true, true, true, true, true, true, true, true, true, true, true, true]) (vs := [.int .i64 x1.From, .int .i64 x2.To]) (evs := [.load ⟨g1, 0, none⟩ (.int .i64 x1.From), .need (Aa0 = some (adr Aa0) ∧ (0 : Int) ≤ (w64 (v10 - 1)) ∧ (w64 (v10 - 1)) < ((a0.length : Nat) : Int)), .load (((adr Aa0).add ((w64 (v10 - 1)).toNat * 2)).add 1) (.int .i64 x2.To)]) (L' := [(44, .bool (decide (x1.From < x2.To))), (43, .bool (decide (x1.From < x2.To))), (42, .bool (decide (x1.From < x2.To))), (41, .int .i64 x2.To), (40, .pointer (some (((adr Aa0).add ((w64 (v10 - 1)).toNat * 2)).add 1))), (39, .pointer (some ((adr Aa0).add ((w64 (v10 - 1)).toNat * 2)))), (38, .int .i64 (w64 (v10 - 1))), (37, .int .i64 v10), (36, .slice Aa0 a0.length ca0), (35, .int .i64 x1.From), (34, .pointer (some ⟨g1, 0, none⟩)), (33, .bool true), (0, .slice Aa0 a0.length ca0), (3, .int .i64 v10), (4, .pointer (some ⟨g1, 0, none⟩)), (8, .slice Aa0 a0.length ca0), (9, .int .i64 (a0.length : Int)), (10, .int .i64 v10), (30, .bool false)]) (by kernel_rfl) (fun w hh => hh.pick 1 [0] (by kernel_rfl)) (fun w hh => hh.pick 1 [0] (by kernel_rfl)) (by kernel_rfl) (fun w hh => ⟨(hh.box 0 rfl rfl), ⟨ha2, (at?_some hx2).1, (at?_some hx2).2.1⟩, (hcc2 _ _ (hh.drop 1) 1 _ rfl)⟩) (by kernel_rfl) ?_
              refine DrH.keep [0, 8, 9, 10, 44] (L' := [(0, .slice Aa0 a0.length ca0), (8, .slice Aa0 a0.length ca0), (9, .int .i64 (a0.length : Int)), (10, .int .i64 v10), (44, .bool (decide (x1.From < x2.To)))]) (by kernel_rfl) ?_
              obtain rfl := Option.some.inj heq
              refine DrH.keep [0, 8, 9, 10, 44] (L' := [(0, .slice Aa0 a0.length ca0), (8, .slice Aa0 a0.length ca0), (9, .int .i64 (a0.length : Int)), (10, .int .i64 v10), (44, .bool (decide (x1.From < x2.To)))]) (by kernel_rfl) ?_
              refine DrH.pick 1 [] (cs' := F) (by kernel_rfl) rfl ?_
              refine DrH.done (by kernel_rfl) ?_
              exact K3
            · replace heq := bif_false hb6 heq
              refine DrH.val1 (v' := .bool false) (congrArg Value.bool hb6) ?_
              refine DrH.run [9, 10, 11, 12, 13, 14, 15, 16, 17, 18, 19] (m := 0) (ls' := [true, true, true, true, true, true, true, true, true, true, true, true, true, true, true, true, true, true, true, true]) (vs := []) (evs := []) (L' := [(44, .bool false), (43, .bool false), (42, undef), (41, undef), (40, undef), (39, undef), (38, undef), (37, undef), (36, undef), (35, undef), (34, undef), (33, .bool false), (0, .slice Aa0 a0.length ca0), (3, .int .i64 v10), (4, .pointer (some ⟨g1, 0, none⟩)), (8, .slice Aa0 a0.length ca0), (9, .int .i64 (a0.length : Int)), (10, .int .i64 v10), (30, .bool false)]) (by kernel_rfl) (fun w hh => hh.pick 1 [0] (by kernel_rfl)) (fun w hh => hh.pick 1 [0] (by kernel_rfl)) (by kernel_rfl) (fun _ _ => trivial) (by kernel_rfl) ?_
              refine DrH.keep [0, 8, 9, 10, 44] (L' := [(0, .slice Aa0 a0.length ca0), (8, .slice Aa0 a0.length ca0), (9, .int .i64 (a0.length : Int)), (10, .int .i64 v10), (44, .bool false)]) (by kernel_rfl) ?_
              obtain rfl := Option.some.inj heq
              refine DrH.keep [0, 8, 9, 10, 44] (L' := [(0, .slice Aa0 a0.length ca0), (8, .slice Aa0 a0.length ca0), (9, .int .i64 (a0.length : Int)), (10, .int .i64 v10), (44, .bool false)]) (by kernel_rfl) ?_
              refine DrH.pick 1 [] (cs' := F) (by kernel_rfl) rfl ?_
              refine DrH.done (by kernel_rfl) ?_
              exact K3
      replace heq := ht1
      refine RunH.reg (by kernel_rfl) ?_
      refine RgH.runk 2 [0, 3, 4, 8, 9, 10, 16] (vs := [.int .i64 x1.From]) (evs := [.load ⟨g1, 0, none⟩ (.int .i64 x1.From)]) (L' := [(0, .slice Aa0 a0.length ca0), (3, .int .i64 v10), (4, .pointer (some ⟨g1, 0, none⟩)), (8, .slice Aa0 a0.length ca0), (9, .int .i64 (a0.length : Int)), (10, .int .i64 v10), (16, .int .i64 x1.From)]) (by kernel_rfl) (by kernel_rfl) (fun w hh => (hh.box 0 rfl rfl)) ?_
      obtain ⟨y1, hy1, heq⟩ := bind_some heq
      refine RgH.does (DoesH.call (d := 17) (g := 49) (args := #[.int .i64 x1.From, .int .i64 0, .int .i64 1000000000]) (by kernel_rfl) (smithyardref9_within_c (a0 := x1.From) (a1 := 0) (a2 := 1000000000)  hy1)) ?_
      rintro _ _ _ _ ⟨_, rfl, rfl, rfl, rfl⟩
      refine RgH.runk 5 [19, 0, 3, 4, 8, 9, 10] (vs := []) (evs := []) (L' := [(19, .bool (!y1)), (0, .slice Aa0 a0.length ca0), (3, .int .i64 v10), (4, .pointer (some ⟨g1, 0, none⟩)), (8, .slice Aa0 a0.length ca0), (9, .int .i64 (a0.length : Int)), (10, .int .i64 v10)]) (by kernel_rfl) (by kernel_rfl) (fun _ _ => trivial) ?_
      rcases bool_cases (!y1) with hb3 | hb3
      · replace heq := bif_true hb3 heq
        refine RgH.val1 (v' := .bool true) (congrArg Value.bool hb3) ?_
        refine RgH.runk 10 [0, 3, 4, 8, 9, 10, 24] (vs := []) (evs := []) (L' := [(0, .slice Aa0 a0.length ca0), (3, .int .i64 v10), (4, .pointer (some ⟨g1, 0, none⟩)), (8, .slice Aa0 a0.length ca0), (9, .int .i64 (a0.length : Int)), (10, .int .i64 v10), (24, .bool true)]) (by kernel_rfl) (by kernel_rfl) (fun _ _ => trivial) ?_
        obtain rfl := Option.some.inj heq
        refine RgH.keep [0, 3, 4, 8, 9, 10, 24] (L' := [(0, .slice Aa0 a0.length ca0), (3, .int .i64 v10), (4, .pointer (some ⟨g1, 0, none⟩)), (8, .slice Aa0 a0.length ca0), (9, .int .i64 (a0.length : Int)), (10, .int .i64 v10), (24, .bool true)]) (by kernel_rfl) ?_
        refine RgH.done (by kernel_rfl) ?_
        exact K2
      · replace heq := bif_false hb3 heq
        refine RgH.val1 (v' := .bool false) (congrArg Value.bool hb3) ?_
        refine RgH.runk 7 [0, 3, 4, 8, 9, 10, 19, 21] (vs := [.int .i64 x1.To]) (evs := [.load ⟨g1, 1, none⟩ (.int .i64 x1.To)]) (L' := [(0, .slice Aa0 a0.length ca0), (3, .int .i64 v10), (4, .pointer (some ⟨g1, 0, none⟩)), (8, .slice Aa0 a0.length ca0), (9, .int .i64 (a0.length : Int)), (10, .int .i64 v10), (19, .bool false), (21, .int .i64 x1.To)]) (by kernel_rfl) (by kernel_rfl) (fun w hh => (hh.box 0 rfl rfl)) ?_
        obtain ⟨y2, hy2, heq⟩ := bind_some heq
        refine RgH.does (DoesH.call (d := 22) (g := 49) (args := #[.int .i64 x1.To, .int .i64 0, .int .i64 1000000000]) (by kernel_rfl) (smithyardref9_within_c (a0 := x1.To) (a1 := 0) (a2 := 1000000000)  hy2)) ?_
        rintro _ _ _ _ ⟨_, rfl, rfl, rfl, rfl⟩
        refine RgH.runk 10 [0, 3, 4, 8, 9, 10, 24] (vs := []) (evs := []) (L' := [(0, .slice Aa0 a0.length ca0), (3, .int .i64 v10), (4, .pointer (some ⟨g1, 0, none⟩)), (8, .slice Aa0 a0.length ca0), (9, .int .i64 (a0.length : Int)), (10, .int .i64 v10), (24, .bool (!y2))]) (by kernel_rfl) (by kernel_rfl) (fun _ _ => trivial) ?_
        obtain rfl := Option.some.inj heq
        refine RgH.keep [0, 3, 4, 8, 9, 10, 24] (L' := [(0, .slice Aa0 a0.length ca0), (3, .int .i64 v10), (4, .pointer (some ⟨g1, 0, none⟩)), (8, .slice Aa0 a0.length ca0), (9, .int .i64 (a0.length : Int)), (10, .int .i64 v10), (24, .bool (!y2))]) (by kernel_rfl) ?_
        refine RgH.done (by kernel_rfl) ?_
        exact K2
    · replace heq := bif_false hb2 heq
      refine RunH.condF (c := decide (v10 < (a0.length : Int))) (by kernel_rfl) hb2 ?_
      refine RunH.adm 2 (es' := [.c [1, 1, 1, 0], .c [1, 1, 1, 1]]) (by kernel_rfl) ?_
      refine RunH.keep [] (L' := []) (by kernel_rfl) ?_
      exact he1 heq
theorem smithyardref9_checkStands_c {w0 : World} {H : Hp} {F : List Ch} {a0 : List Span} {Aa0 : Option Addr} {na0 : Nat} {ca0 : Nat} {r : Int} (hra0 : Rw kSpan H F Aa0 a0) (hca0 : na0 ≤ ca0) (hna0 : na0 = a0.length) (heq : smithyardref9_checkStands.f a0 = some r) : CallsH Tryd.prog 76 #[.slice Aa0 na0 ca0] H w0 (F) (S76 F H r) := by
  refine calls_of_runH (F := C76) Tryd.func76 (by kernel_rfl) Tryd.ntmps76 (args := [.slice Aa0 na0 ca0]) (by kernel_rfl) ?_
  subst hna0
  unfold smithyardref9_checkStands.f at heq
  refine RunH.adm 1 (es' := [.c [0], .c [1]]) (by kernel_rfl) ?_
  refine RunH.reg (by kernel_rfl) ?_
  refine RgH.runk 1 [0] (vs := []) (evs := []) (L' := [(0, .slice Aa0 a0.length ca0)]) (by kernel_rfl) (by kernel_rfl) (fun _ _ => trivial) ?_
  refine RgH.done (by kernel_rfl) ?_
  refine RunH.adm 2 (es' := [.c [1, 0, 0], .c [1, 0, 1], .c [1, 1]]) (by kernel_rfl) ?_
  refine RunH.reg (by kernel_rfl) ?_
  refine RgH.runk 3 [0, 7] (vs := []) (evs := []) (L' := [(0, .slice Aa0 a0.length ca0), (7, .bool (decide (20 < (a0.length : Int))))]) (by kernel_rfl) (by kernel_rfl) (fun _ _ => trivial) ?_
  refine RgH.done (by kernel_rfl) ?_
  rcases bool_cases (decide (20 < (a0.length : Int))) with hb1 | hb1
  · replace heq := bif_true hb1 heq
    refine RunH.condT (c := decide (20 < (a0.length : Int))) (by kernel_rfl) hb1 ?_
    refine RunH.adm 1 (es' := [.c [1, 0, 1, 0, 0], .c [1, 0, 1, 0, 1], .c [1, 1]]) (by kernel_rfl) ?_
    refine RunH.reg (by kernel_rfl) ?_
    refine RgH.runk 1 [2] (vs := []) (evs := []) (L' := [(2, .int .i64 2)]) (by kernel_rfl) (by kernel_rfl) (fun _ _ => trivial) ?_
    refine RgH.done (by kernel_rfl) ?_
    obtain rfl := Option.some.inj heq
    exact RunH.done (by kernel_rfl) Tryd.func76 (v := .int .i64 2) (by kernel_rfl) ⟨rfl, rfl, rfl⟩
  · replace heq := bif_false hb1 heq
    refine RunH.condF (c := decide (20 < (a0.length : Int))) (by kernel_rfl) hb1 ?_
    refine RunH.adm 3 (es' := [.c [1, 1, 0, 0], .c [1, 1, 0, 1], .c [1, 1, 1]]) (by kernel_rfl) ?_
    refine RunH.reg (by kernel_rfl) ?_
    refine RgH.runk 3 [0, 8, 9, 10] (vs := []) (evs := []) (L' := [(0, .slice Aa0 a0.length ca0), (8, .slice Aa0 a0.length ca0), (9, .int .i64 (a0.length : Int)), (10, .int .i64 0)]) (by kernel_rfl) (by kernel_rfl) (fun _ _ => trivial) ?_
    refine RgH.done (by kernel_rfl) ?_
    refine RunH.adm 2 (es' := [.c [1, 1, 0, 1, 0, 0], .l [1, 1, 0, 1, 0, 0], .b 0, .c [1, 1, 1]]) (by kernel_rfl) ?_
    refine RunH.keep [0, 8, 9, 10] (L' := [(0, .slice Aa0 a0.length ca0), (8, .slice Aa0 a0.length ca0), (9, .int .i64 (a0.length : Int)), (10, .int .i64 0)]) (by kernel_rfl) ?_
    exact ((smithyardref9_checkStands.l2_c (e1 := smithyardref9_checkStands.e1) (smithyardref9_checkStands.e1_c)) big) a0 _ _ 0 hra0 hca0 heq
noncomputable def C48 : Ctx := { P := Tryd.prog, f := 48, N := 46, c := bodyOf Tryd.f48 }
def S48 (F : List Ch) (H0 : Hp) (r : Int) (v : Value) (H : Hp) (cs : List Ch) : Prop := H0 = H ∧ v = .int .i64 r ∧ F = cs
theorem smithyardref9_checkWorker_c {w0 : World} {H : Hp} {F : List Ch} {a0 : Worker} {Aa0_1 : Option Addr} {na0_1 : Nat} {ca0_1 : Nat} {Aa0_6 : Option Addr} {na0_6 : Nat} {ca0_6 : Nat} {r : Int} (hra0_1 : Rw kPair H F Aa0_1 a0.Has) (hca0_1 : na0_1 ≤ ca0_1) (hna0_1 : na0_1 = a0.Has.length) (hra0_6 : Rw kSpan H F Aa0_6 a0.Stands) (hca0_6 : na0_6 ≤ ca0_6) (hna0_6 : na0_6 = a0.Stands.length) (heq : smithyardref9_checkWorker.f a0 = some r) : CallsH Tryd.prog 48 #[.agg #[.string a0.Name, .slice Aa0_1 na0_1 ca0_1, .int .i64 a0.Slots, .int .i64 a0.Speed, .int .i64 a0.From, .int .i64 a0.To, .slice Aa0_6 na0_6 ca0_6]] H w0 (F) (S48 F H r) := by
  refine calls_of_runH (F := C48) Tryd.func48 (by kernel_rfl) Tryd.ntmps48 (args := [.agg #[.string a0.Name, .slice Aa0_1 na0_1 ca0_1, .int .i64 a0.Slots, .int .i64 a0.Speed, .int .i64 a0.From, .int .i64 a0.To, .slice Aa0_6 na0_6 ca0_6]]) (by kernel_rfl) ?_
  subst hna0_1
  subst hna0_6
  unfold smithyardref9_checkWorker.f at heq
  refine RunH.adm 1 (es' := [.c [0], .c [1]]) (by kernel_rfl) ?_
  refine RunH.reg (by kernel_rfl) ?_
  refine RgH.does (DoesH.new (d := 1) (v := fun g => .pointer (some ⟨g, 0, none⟩)) (o := fun g => .cells #[.string a0.Name, .slice Aa0_1 a0.Has.length ca0_1, .int .i64 a0.Slots, .int .i64 a0.Speed, .int .i64 a0.From, .int .i64 a0.To, .slice Aa0_6 a0.Stands.length ca0_6] 25 (0, 0)) (fun g => by kernel_rfl)) ?_
  rintro _ _ _ _ ⟨g1, rfl, rfl, rfl⟩
  refine RgH.runk 2 [1] (vs := []) (evs := []) (L' := [(1, .pointer (some ⟨g1, 0, none⟩))]) (by kernel_rfl) (by kernel_rfl) (fun _ _ => trivial) ?_
  refine RgH.done (by kernel_rfl) ?_
  refine RunH.adm 2 (es' := [.c [1, 0, 0], .c [1, 0, 1], .c [1, 1]]) (by kernel_rfl) ?_
  refine RunH.reg (by kernel_rfl) ?_
  refine RgH.runk 2 [1, 5] (vs := [.string a0.Name]) (evs := [.load ⟨g1, 0, none⟩ (.string a0.Name)]) (L' := [(1, .pointer (some ⟨g1, 0, none⟩)), (5, .string a0.Name)]) (by kernel_rfl) (by kernel_rfl) (fun w hh => (hh.box 0 rfl rfl)) ?_
  obtain ⟨y1, hy1, heq⟩ := bind_some heq
  refine RgH.does (DoesH.call (d := 6) (g := 55) (args := #[.string a0.Name]) (by kernel_rfl) (smithyardref9_isWord_c (a0 := a0.Name)  hy1)) ?_
  rintro _ _ _ _ ⟨_, rfl, rfl, rfl, rfl⟩
  refine RgH.runk 4 [1, 7] (vs := []) (evs := []) (L' := [(1, .pointer (some ⟨g1, 0, none⟩)), (7, .bool (!y1))]) (by kernel_rfl) (by kernel_rfl) (fun _ _ => trivial) ?_
  refine RgH.done (by kernel_rfl) ?_
  rcases bool_cases (!y1) with hb1 | hb1
  · replace heq := bif_true hb1 heq
    refine RunH.condT (c := !y1) (by kernel_rfl) hb1 ?_
    refine RunH.adm 1 (es' := [.c [1, 0, 1, 0, 0], .c [1, 0, 1, 0, 1], .c [1, 1]]) (by kernel_rfl) ?_
    refine RunH.reg (by kernel_rfl) ?_
    refine RgH.runk 1 [2] (vs := []) (evs := []) (L' := [(2, .int .i64 5)]) (by kernel_rfl) (by kernel_rfl) (fun _ _ => trivial) ?_
    refine RgH.done (by kernel_rfl) ?_
    obtain rfl := Option.some.inj heq
    refine RunH.pick 1 [] (cs' := F) (by kernel_rfl) rfl ?_
    exact RunH.done (by kernel_rfl) Tryd.func48 (v := .int .i64 5) (by kernel_rfl) ⟨rfl, rfl, rfl⟩
  · replace heq := bif_false hb1 heq
    refine RunH.condF (c := !y1) (by kernel_rfl) hb1 ?_
    refine RunH.adm 3 (es' := [.c [1, 1, 0, 0], .c [1, 1, 0, 1], .c [1, 1, 1]]) (by kernel_rfl) ?_
    refine RunH.reg (by kernel_rfl) ?_
    refine RgH.runk 2 [1, 9] (vs := [.slice Aa0_1 a0.Has.length ca0_1]) (evs := [.load ⟨g1, 1, none⟩ (.slice Aa0_1 a0.Has.length ca0_1)]) (L' := [(1, .pointer (some ⟨g1, 0, none⟩)), (9, .slice Aa0_1 a0.Has.length ca0_1)]) (by kernel_rfl) (by kernel_rfl) (fun w hh => (hh.box 0 rfl rfl)) ?_
    obtain ⟨y2, hy2, heq⟩ := bind_some heq
    refine RgH.does (DoesH.call (d := 10) (g := 75) (args := #[.slice Aa0_1 a0.Has.length ca0_1]) (by kernel_rfl) (smithyardref9_checkPairs_c (a0 := a0.Has) (hra0_1.wk (fun _ h => (.tail _ h))) hca0_1 rfl hy2)) ?_
    rintro _ _ _ _ ⟨_, rfl, rfl, rfl, rfl⟩
    refine RgH.runk 4 [1, 3] (vs := []) (evs := []) (L' := [(1, .pointer (some ⟨g1, 0, none⟩)), (3, .int .i64 y2)]) (by kernel_rfl) (by kernel_rfl) (fun _ _ => trivial) ?_
    refine RgH.done (by kernel_rfl) ?_
    refine RunH.adm 1 (es' := [.c [1, 1, 0, 1, 0], .c [1, 1, 0, 1, 1], .c [1, 1, 1]]) (by kernel_rfl) ?_
    refine RunH.reg (by kernel_rfl) ?_
    refine RgH.runk 2 [1, 3, 12] (vs := []) (evs := []) (L' := [(1, .pointer (some ⟨g1, 0, none⟩)), (3, .int .i64 y2), (12, .bool (y2 != 0))]) (by kernel_rfl) (by kernel_rfl) (fun _ _ => trivial) ?_
    refine RgH.done (by kernel_rfl) ?_
    rcases bool_cases (y2 != 0) with hb2 | hb2
    · replace heq := bif_true hb2 heq
      refine RunH.condT (c := y2 != 0) (by kernel_rfl) hb2 ?_
      refine RunH.adm 1 (es' := [.c [1, 1, 0, 1, 1, 0, 0], .c [1, 1, 0, 1, 1, 0, 1], .c [1, 1, 1]]) (by kernel_rfl) ?_
      refine RunH.reg (by kernel_rfl) ?_
      refine RgH.runk 2 [2] (vs := []) (evs := []) (L' := [(2, .int .i64 y2)]) (by kernel_rfl) (by kernel_rfl) (fun _ _ => trivial) ?_
      refine RgH.done (by kernel_rfl) ?_
      obtain rfl := Option.some.inj heq
      refine RunH.pick 1 [] (cs' := F) (by kernel_rfl) rfl ?_
      exact RunH.done (by kernel_rfl) Tryd.func48 (v := .int .i64 y2) (by kernel_rfl) ⟨rfl, rfl, rfl⟩
    · replace heq := bif_false hb2 heq
      refine RunH.condF (c := y2 != 0) (by kernel_rfl) hb2 ?_
      refine RunH.adm 4 (es' := [.c [1, 1, 1, 0, 0, 0], .c [1, 1, 1, 0, 0, 1], .b 0, .c [1, 1, 1, 1]]) (by kernel_rfl) ?_
      obtain ⟨t1, ht1, heq⟩ := bind_some heq
      have K2 : RunH C48 (S48 F H r) H w0 [.c [1, 1, 1, 0, 0, 1], .b 0, .c [1, 1, 1, 1]] [(1, .pointer (some ⟨g1, 0, none⟩)), (14, .bool t1)] H ((some (g1, .cells #[.string a0.Name, .slice Aa0_1 a0.Has.length ca0_1, .int .i64 a0.Slots, .int .i64 a0.Speed, .int .i64 a0.From, .int .i64 a0.To, .slice Aa0_6 a0.Stands.length ca0_6] 25 (0, 0))) :: F) := by
        rcases bool_cases (t1) with hb6 | hb6
        · replace heq := bif_true hb6 heq
          refine RunH.condT (c := t1) (by kernel_rfl) hb6 ?_
          refine RunH.adm 1 (es' := [.c [1, 1, 1, 0, 0, 1, 0, 0], .c [1, 1, 1, 0, 0, 1, 0, 1], .b 0, .c [1, 1, 1, 1]]) (by kernel_rfl) ?_
          refine RunH.reg (by kernel_rfl) ?_
          refine RgH.runk 1 [2] (vs := []) (evs := []) (L' := [(2, .int .i64 1)]) (by kernel_rfl) (by kernel_rfl) (fun _ _ => trivial) ?_
          refine RgH.done (by kernel_rfl) ?_
          obtain rfl := Option.some.inj heq
          refine RunH.pick 1 [] (cs' := F) (by kernel_rfl) rfl ?_
          exact RunH.done (by kernel_rfl) Tryd.func48 (v := .int .i64 1) (by kernel_rfl) ⟨rfl, rfl, rfl⟩
        · replace heq := bif_false hb6 heq
          refine RunH.condF (c := t1) (by kernel_rfl) hb6 ?_
          refine RunH.adm 1 (es' := [.c [1, 1, 1, 0, 0, 1, 1, 0], .c [1, 1, 1, 0, 0, 1, 1, 1], .b 0, .c [1, 1, 1, 1]]) (by kernel_rfl) ?_
          refine RunH.reg (by kernel_rfl) ?_
          refine RgH.runk 6 [1, 37] (vs := [.int .i64 a0.To, .int .i64 a0.From]) (evs := [.load ⟨g1, 5, none⟩ (.int .i64 a0.To), .load ⟨g1, 4, none⟩ (.int .i64 a0.From)]) (L' := [(1, .pointer (some ⟨g1, 0, none⟩)), (37, .bool (decide (a0.To ≤ a0.From)))]) (by kernel_rfl) (by kernel_rfl) (fun w hh => ⟨(hh.box 0 rfl rfl), (hh.box 0 rfl rfl)⟩) ?_
          refine RgH.done (by kernel_rfl) ?_
          rcases bool_cases (decide (a0.To ≤ a0.From)) with hb7 | hb7
          · replace heq := bif_true hb7 heq
            refine RunH.condT (c := decide (a0.To ≤ a0.From)) (by kernel_rfl) hb7 ?_
            refine RunH.adm 1 (es' := [.c [1, 1, 1, 0, 0, 1, 1, 1, 0, 0], .c [1, 1, 1, 0, 0, 1, 1, 1, 0, 1], .b 0, .c [1, 1, 1, 1]]) (by kernel_rfl) ?_
            refine RunH.reg (by kernel_rfl) ?_
            refine RgH.runk 1 [2] (vs := []) (evs := []) (L' := [(2, .int .i64 8)]) (by kernel_rfl) (by kernel_rfl) (fun _ _ => trivial) ?_
            refine RgH.done (by kernel_rfl) ?_
            obtain rfl := Option.some.inj heq
            refine RunH.pick 1 [] (cs' := F) (by kernel_rfl) rfl ?_
            exact RunH.done (by kernel_rfl) Tryd.func48 (v := .int .i64 8) (by kernel_rfl) ⟨rfl, rfl, rfl⟩
          · replace heq := bif_false hb7 heq
            refine RunH.condF (c := decide (a0.To ≤ a0.From)) (by kernel_rfl) hb7 ?_
            refine RunH.adm 3 (es' := [.c [1, 1, 1, 1, 0], .c [1, 1, 1, 1, 1]]) (by kernel_rfl) ?_
            refine RunH.reg (by kernel_rfl) ?_
            refine RgH.runk 2 [44] (vs := [.slice Aa0_6 a0.Stands.length ca0_6]) (evs := [.load ⟨g1, 6, none⟩ (.slice Aa0_6 a0.Stands.length ca0_6)]) (L' := [(44, .slice Aa0_6 a0.Stands.length ca0_6)]) (by kernel_rfl) (by kernel_rfl) (fun w hh => (hh.box 0 rfl rfl)) ?_
            obtain ⟨y7, hy7, heq⟩ := bind_some heq
            refine RgH.does (DoesH.call (d := 45) (g := 76) (args := #[.slice Aa0_6 a0.Stands.length ca0_6]) (by kernel_rfl) (smithyardref9_checkStands_c (a0 := a0.Stands) (hra0_6.wk (fun _ h => (.tail _ h))) hca0_6 rfl hy7)) ?_
            rintro _ _ _ _ ⟨_, rfl, rfl, rfl, rfl⟩
            refine RgH.runk 4 [2] (vs := []) (evs := []) (L' := [(2, .int .i64 y7)]) (by kernel_rfl) (by kernel_rfl) (fun _ _ => trivial) ?_
            refine RgH.done (by kernel_rfl) ?_
            obtain rfl := Option.some.inj heq
            refine RunH.pick 1 [] (cs' := F) (by kernel_rfl) rfl ?_
            exact RunH.done (by kernel_rfl) Tryd.func48 (v := .int .i64 y7) (by kernel_rfl) ⟨rfl, rfl, rfl⟩
      replace heq := ht1
      refine RunH.reg (by kernel_rfl) ?_
      refine RgH.runk 2 [1, 16] (vs := [.int .i64 a0.Slots]) (evs := [.load ⟨g1, 2, none⟩ (.int .i64 a0.Slots)]) (L' := [(1, .pointer (some ⟨g1, 0, none⟩)), (16, .int .i64 a0.Slots)]) (by kernel_rfl) (by kernel_rfl) (fun w hh => (hh.box 0 rfl rfl)) ?_
      obtain ⟨y3, hy3, heq⟩ := bind_some heq
      refine RgH.does (DoesH.call (d := 17) (g := 49) (args := #[.int .i64 a0.Slots, .int .i64 1, .int .i64 20]) (by kernel_rfl) (smithyardref9_within_c (a0 := a0.Slots) (a1 := 1) (a2 := 20)  hy3)) ?_
      rintro _ _ _ _ ⟨_, rfl, rfl, rfl, rfl⟩
      refine RgH.runk 5 [19, 1] (vs := []) (evs := []) (L' := [(19, .bool (!y3)), (1, .pointer (some ⟨g1, 0, none⟩))]) (by kernel_rfl) (by kernel_rfl) (fun _ _ => trivial) ?_
      rcases bool_cases (!y3) with hb3 | hb3
      · replace heq := bif_true hb3 heq
        refine RgH.val1 (v' := .bool true) (congrArg Value.bool hb3) ?_
        refine RgH.runk 23 [1, 14] (vs := []) (evs := []) (L' := [(1, .pointer (some ⟨g1, 0, none⟩)), (14, .bool true)]) (by kernel_rfl) (by kernel_rfl) (fun _ _ => trivial) ?_
        obtain rfl := Option.some.inj heq
        refine RgH.keep [1, 14] (L' := [(1, .pointer (some ⟨g1, 0, none⟩)), (14, .bool true)]) (by kernel_rfl) ?_
        refine RgH.done (by kernel_rfl) ?_
        exact K2
      · replace heq := bif_false hb3 heq
        refine RgH.val1 (v' := .bool false) (congrArg Value.bool hb3) ?_
        refine RgH.runk 7 [1, 19, 21] (vs := [.int .i64 a0.Speed]) (evs := [.load ⟨g1, 3, none⟩ (.int .i64 a0.Speed)]) (L' := [(1, .pointer (some ⟨g1, 0, none⟩)), (19, .bool false), (21, .int .i64 a0.Speed)]) (by kernel_rfl) (by kernel_rfl) (fun w hh => (hh.box 0 rfl rfl)) ?_
        obtain ⟨y4, hy4, heq⟩ := bind_some heq
        refine RgH.does (DoesH.call (d := 22) (g := 49) (args := #[.int .i64 a0.Speed, .int .i64 1, .int .i64 1000]) (by kernel_rfl) (smithyardref9_within_c (a0 := a0.Speed) (a1 := 1) (a2 := 1000)  hy4)) ?_
        rintro _ _ _ _ ⟨_, rfl, rfl, rfl, rfl⟩
        refine RgH.runk 11 [25, 1] (vs := []) (evs := []) (L' := [(25, .bool (!y4)), (1, .pointer (some ⟨g1, 0, none⟩))]) (by kernel_rfl) (by kernel_rfl) (fun _ _ => trivial) ?_
        rcases bool_cases (!y4) with hb4 | hb4
        · replace heq := bif_true hb4 heq
          refine RgH.val1 (v' := .bool true) (congrArg Value.bool hb4) ?_
          refine RgH.runk 23 [1, 14] (vs := []) (evs := []) (L' := [(1, .pointer (some ⟨g1, 0, none⟩)), (14, .bool true)]) (by kernel_rfl) (by kernel_rfl) (fun _ _ => trivial) ?_
          obtain rfl := Option.some.inj heq
          refine RgH.keep [1, 14] (L' := [(1, .pointer (some ⟨g1, 0, none⟩)), (14, .bool true)]) (by kernel_rfl) ?_
          refine RgH.done (by kernel_rfl) ?_
          exact K2
        · replace heq := bif_false hb4 heq
          refine RgH.val1 (v' := .bool false) (congrArg Value.bool hb4) ?_
          refine RgH.runk 13 [1, 25, 27] (vs := [.int .i64 a0.From]) (evs := [.load ⟨g1, 4, none⟩ (.int .i64 a0.From)]) (L' := [(1, .pointer (some ⟨g1, 0, none⟩)), (25, .bool false), (27, .int .i64 a0.From)]) (by kernel_rfl) (by kernel_rfl) (fun w hh => (hh.box 0 rfl rfl)) ?_
          obtain ⟨y5, hy5, heq⟩ := bind_some heq
          refine RgH.does (DoesH.call (d := 28) (g := 49) (args := #[.int .i64 a0.From, .int .i64 0, .int .i64 1000000000]) (by kernel_rfl) (smithyardref9_within_c (a0 := a0.From) (a1 := 0) (a2 := 1000000000)  hy5)) ?_
          rintro _ _ _ _ ⟨_, rfl, rfl, rfl, rfl⟩
          refine RgH.runk 17 [31, 1] (vs := []) (evs := []) (L' := [(31, .bool (!y5)), (1, .pointer (some ⟨g1, 0, none⟩))]) (by kernel_rfl) (by kernel_rfl) (fun _ _ => trivial) ?_
          rcases bool_cases (!y5) with hb5 | hb5
          · replace heq := bif_true hb5 heq
            refine RgH.val1 (v' := .bool true) (congrArg Value.bool hb5) ?_
            refine RgH.runk 23 [1, 14] (vs := []) (evs := []) (L' := [(1, .pointer (some ⟨g1, 0, none⟩)), (14, .bool true)]) (by kernel_rfl) (by kernel_rfl) (fun _ _ => trivial) ?_
            obtain rfl := Option.some.inj heq
            refine RgH.keep [1, 14] (L' := [(1, .pointer (some ⟨g1, 0, none⟩)), (14, .bool true)]) (by kernel_rfl) ?_
            refine RgH.done (by kernel_rfl) ?_
            exact K2
          · replace heq := bif_false hb5 heq
            refine RgH.val1 (v' := .bool false) (congrArg Value.bool hb5) ?_
            refine RgH.runk 19 [1, 31, 33] (vs := [.int .i64 a0.To]) (evs := [.load ⟨g1, 5, none⟩ (.int .i64 a0.To)]) (L' := [(1, .pointer (some ⟨g1, 0, none⟩)), (31, .bool false), (33, .int .i64 a0.To)]) (by kernel_rfl) (by kernel_rfl) (fun w hh => (hh.box 0 rfl rfl)) ?_
            obtain ⟨y6, hy6, heq⟩ := bind_some heq
            refine RgH.does (DoesH.call (d := 34) (g := 49) (args := #[.int .i64 a0.To, .int .i64 0, .int .i64 1000000000]) (by kernel_rfl) (smithyardref9_within_c (a0 := a0.To) (a1 := 0) (a2 := 1000000000)  hy6)) ?_
            rintro _ _ _ _ ⟨_, rfl, rfl, rfl, rfl⟩
            refine RgH.runk 23 [1, 14] (vs := []) (evs := []) (L' := [(1, .pointer (some ⟨g1, 0, none⟩)), (14, .bool (!y6))]) (by kernel_rfl) (by kernel_rfl) (fun _ _ => trivial) ?_
            obtain rfl := Option.some.inj heq
            refine RgH.keep [1, 14] (L' := [(1, .pointer (some ⟨g1, 0, none⟩)), (14, .bool (!y6))]) (by kernel_rfl) ?_
            refine RgH.done (by kernel_rfl) ?_
            exact K2
noncomputable def C50 : Ctx := { P := Tryd.prog, f := 50, N := 13, c := bodyOf Tryd.f50 }
def S50 (F : List Ch) (H0 : Hp) (r : Int) (v : Value) (H : Hp) (cs : List Ch) : Prop := H0 = H ∧ v = .int .i64 r ∧ F = cs
theorem smithyardref9_seconds_c {w0 : World} {H : Hp} {F : List Ch} {a0 : Worker} {Aa0_1 : Option Addr} {na0_1 : Nat} {ca0_1 : Nat} {Aa0_6 : Option Addr} {na0_6 : Nat} {ca0_6 : Nat} {a1 : Int} {r : Int} (hra0_1 : Rw kPair H F Aa0_1 a0.Has) (hca0_1 : na0_1 ≤ ca0_1) (hna0_1 : na0_1 = a0.Has.length) (hra0_6 : Rw kSpan H F Aa0_6 a0.Stands) (hca0_6 : na0_6 ≤ ca0_6) (hna0_6 : na0_6 = a0.Stands.length) (heq : smithyardref9_seconds.f a0 a1 = some r) : CallsH Tryd.prog 50 #[.agg #[.string a0.Name, .slice Aa0_1 na0_1 ca0_1, .int .i64 a0.Slots, .int .i64 a0.Speed, .int .i64 a0.From, .int .i64 a0.To, .slice Aa0_6 na0_6 ca0_6], .int .i64 a1] H w0 (F) (S50 F H r) := by
  refine calls_of_runH (F := C50) Tryd.func50 (by kernel_rfl) Tryd.ntmps50 (args := [.agg #[.string a0.Name, .slice Aa0_1 na0_1 ca0_1, .int .i64 a0.Slots, .int .i64 a0.Speed, .int .i64 a0.From, .int .i64 a0.To, .slice Aa0_6 na0_6 ca0_6], .int .i64 a1]) (by kernel_rfl) ?_
  subst hna0_1
  subst hna0_6
  unfold smithyardref9_seconds.f at heq
  refine RunH.adm 1 (es' := [.c [0], .c [1]]) (by kernel_rfl) ?_
  refine RunH.reg (by kernel_rfl) ?_
  refine RgH.does (DoesH.new (d := 2) (v := fun g => .pointer (some ⟨g, 0, none⟩)) (o := fun g => .cells #[.string a0.Name, .slice Aa0_1 a0.Has.length ca0_1, .int .i64 a0.Slots, .int .i64 a0.Speed, .int .i64 a0.From, .int .i64 a0.To, .slice Aa0_6 a0.Stands.length ca0_6] 25 (0, 0)) (fun g => by kernel_rfl)) ?_
  rintro _ _ _ _ ⟨g1, rfl, rfl, rfl⟩
  refine RgH.runk 2 [1, 2] (vs := []) (evs := []) (L' := [(1, .int .i64 a1), (2, .pointer (some ⟨g1, 0, none⟩))]) (by kernel_rfl) (by kernel_rfl) (fun _ _ => trivial) ?_
  refine RgH.done (by kernel_rfl) ?_
  refine RunH.adm 1 (es' := [.c [1, 0], .c [1, 1]]) (by kernel_rfl) ?_
  refine RunH.reg (by kernel_rfl) ?_
  obtain ⟨hn1, heq⟩ := guard?_some heq
  refine RgH.runk 9 [4] (vs := [.int .i64 a0.Speed, .int .i64 a0.Speed]) (evs := [.load ⟨g1, 3, none⟩ (.int .i64 a0.Speed), .load ⟨g1, 3, none⟩ (.int .i64 a0.Speed), .need (a0.Speed ≠ (0 : Int))]) (L' := [(4, .int .i64 (w64 ((w64 ((w64 (a1 + a0.Speed)) - 1)).tdiv a0.Speed)))]) (by kernel_rfl) (by kernel_rfl) (fun w hh => ⟨(hh.box 0 rfl rfl), (hh.box 0 rfl rfl), (ne_of_bne hn1)⟩) ?_
  refine RgH.done (by kernel_rfl) ?_
  obtain rfl := Option.some.inj heq
  refine RunH.pick 1 [] (cs' := F) (by kernel_rfl) rfl ?_
  exact RunH.done (by kernel_rfl) Tryd.func50 (v := .int .i64 (w64 ((w64 ((w64 (a1 + a0.Speed)) - 1)).tdiv a0.Speed))) (by kernel_rfl) ⟨rfl, rfl, rfl⟩
noncomputable def C12 : Ctx := { P := Tryd.prog, f := 12, N := 18, c := bodyOf Tryd.f12 }
def S12 (F : List Ch) (H0 : Hp) (r : Int × Int) (v : Value) (H : Hp) (cs : List Ch) : Prop := H0 = H ∧ v = .tuple #[.int .i64 r.1, .int .i64 r.2] ∧ F = cs
theorem smithyardref9_Seconds_c {w0 : World} {H : Hp} {F : List Ch} {a0 : Worker} {Aa0_1 : Option Addr} {na0_1 : Nat} {ca0_1 : Nat} {Aa0_6 : Option Addr} {na0_6 : Nat} {ca0_6 : Nat} {a1 : Int} {r : Int × Int} (hra0_1 : Rw kPair H F Aa0_1 a0.Has) (hca0_1 : na0_1 ≤ ca0_1) (hna0_1 : na0_1 = a0.Has.length) (hra0_6 : Rw kSpan H F Aa0_6 a0.Stands) (hca0_6 : na0_6 ≤ ca0_6) (hna0_6 : na0_6 = a0.Stands.length) (heq : smithyardref9_Seconds.f a0 a1 = some r) : CallsH Tryd.prog 12 #[.agg #[.string a0.Name, .slice Aa0_1 na0_1 ca0_1, .int .i64 a0.Slots, .int .i64 a0.Speed, .int .i64 a0.From, .int .i64 a0.To, .slice Aa0_6 na0_6 ca0_6], .int .i64 a1] H w0 (F) (S12 F H r) := by
  refine calls_of_runH (F := C12) Tryd.func12 (by kernel_rfl) Tryd.ntmps12 (args := [.agg #[.string a0.Name, .slice Aa0_1 na0_1 ca0_1, .int .i64 a0.Slots, .int .i64 a0.Speed, .int .i64 a0.From, .int .i64 a0.To, .slice Aa0_6 na0_6 ca0_6], .int .i64 a1]) (by kernel_rfl) ?_
  subst hna0_1
  subst hna0_6
  unfold smithyardref9_Seconds.f at heq
  refine RunH.adm 1 (es' := [.c [0], .c [1]]) (by kernel_rfl) ?_
  refine RunH.reg (by kernel_rfl) ?_
  refine RgH.does (DoesH.new (d := 2) (v := fun g => .pointer (some ⟨g, 0, none⟩)) (o := fun g => .cells #[.string a0.Name, .slice Aa0_1 a0.Has.length ca0_1, .int .i64 a0.Slots, .int .i64 a0.Speed, .int .i64 a0.From, .int .i64 a0.To, .slice Aa0_6 a0.Stands.length ca0_6] 25 (0, 0)) (fun g => by kernel_rfl)) ?_
  rintro _ _ _ _ ⟨g1, rfl, rfl, rfl⟩
  refine RgH.runk 3 [1, 2] (vs := []) (evs := []) (L' := [(1, .int .i64 a1), (2, .pointer (some ⟨g1, 0, none⟩))]) (by kernel_rfl) (by kernel_rfl) (fun _ _ => trivial) ?_
  refine RgH.done (by kernel_rfl) ?_
  refine RunH.adm 2 (es' := [.c [1, 0, 0], .c [1, 0, 1], .c [1, 1]]) (by kernel_rfl) ?_
  refine RunH.reg (by kernel_rfl) ?_
  refine RgH.runk 1 [1, 2, 7] (vs := [.string a0.Name, .slice Aa0_1 a0.Has.length ca0_1, .int .i64 a0.Slots, .int .i64 a0.Speed, .int .i64 a0.From, .int .i64 a0.To, .slice Aa0_6 a0.Stands.length ca0_6]) (evs := [.load ⟨g1, 0, none⟩ (.string a0.Name), .load ⟨g1, 1, none⟩ (.slice Aa0_1 a0.Has.length ca0_1), .load ⟨g1, 2, none⟩ (.int .i64 a0.Slots), .load ⟨g1, 3, none⟩ (.int .i64 a0.Speed), .load ⟨g1, 4, none⟩ (.int .i64 a0.From), .load ⟨g1, 5, none⟩ (.int .i64 a0.To), .load ⟨g1, 6, none⟩ (.slice Aa0_6 a0.Stands.length ca0_6)]) (L' := [(1, .int .i64 a1), (2, .pointer (some ⟨g1, 0, none⟩)), (7, .agg #[.string a0.Name, .slice Aa0_1 a0.Has.length ca0_1, .int .i64 a0.Slots, .int .i64 a0.Speed, .int .i64 a0.From, .int .i64 a0.To, .slice Aa0_6 a0.Stands.length ca0_6])]) (by kernel_rfl) (by kernel_rfl) (fun w hh => ⟨(hh.box 0 rfl rfl), (hh.box 0 rfl rfl), (hh.box 0 rfl rfl), (hh.box 0 rfl rfl), (hh.box 0 rfl rfl), (hh.box 0 rfl rfl), (hh.box 0 rfl rfl)⟩) ?_
  obtain ⟨y1, hy1, heq⟩ := bind_some heq
  refine RgH.does (DoesH.call (d := 8) (g := 48) (args := #[.agg #[.string a0.Name, .slice Aa0_1 a0.Has.length ca0_1, .int .i64 a0.Slots, .int .i64 a0.Speed, .int .i64 a0.From, .int .i64 a0.To, .slice Aa0_6 a0.Stands.length ca0_6]]) (by kernel_rfl) (smithyardref9_checkWorker_c (a0 := a0) (hra0_1.wk (fun _ h => (.tail _ h))) hca0_1 rfl (hra0_6.wk (fun _ h => (.tail _ h))) hca0_6 rfl hy1)) ?_
  rintro _ _ _ _ ⟨_, rfl, rfl, rfl, rfl⟩
  refine RgH.runk 3 [1, 2, 6] (vs := []) (evs := []) (L' := [(1, .int .i64 a1), (2, .pointer (some ⟨g1, 0, none⟩)), (6, .int .i64 y1)]) (by kernel_rfl) (by kernel_rfl) (fun _ _ => trivial) ?_
  refine RgH.done (by kernel_rfl) ?_
  refine RunH.adm 1 (es' := [.c [1, 0, 1, 0], .c [1, 0, 1, 1], .c [1, 1]]) (by kernel_rfl) ?_
  refine RunH.reg (by kernel_rfl) ?_
  refine RgH.runk 2 [1, 2, 6, 10] (vs := []) (evs := []) (L' := [(1, .int .i64 a1), (2, .pointer (some ⟨g1, 0, none⟩)), (6, .int .i64 y1), (10, .bool (y1 != 0))]) (by kernel_rfl) (by kernel_rfl) (fun _ _ => trivial) ?_
  refine RgH.done (by kernel_rfl) ?_
  rcases bool_cases (y1 != 0) with hb1 | hb1
  · replace heq := bif_true hb1 heq
    refine RunH.condT (c := y1 != 0) (by kernel_rfl) hb1 ?_
    refine RunH.adm 1 (es' := [.c [1, 0, 1, 1, 0, 0], .c [1, 0, 1, 1, 0, 1], .c [1, 1]]) (by kernel_rfl) ?_
    refine RunH.reg (by kernel_rfl) ?_
    refine RgH.runk 3 [4, 5] (vs := []) (evs := []) (L' := [(4, .int .i64 0), (5, .int .i64 y1)]) (by kernel_rfl) (by kernel_rfl) (fun _ _ => trivial) ?_
    refine RgH.done (by kernel_rfl) ?_
    obtain rfl := Option.some.inj heq
    refine RunH.pick 1 [] (cs' := F) (by kernel_rfl) rfl ?_
    exact RunH.done (by kernel_rfl) Tryd.func12 (v := .tuple #[.int .i64 0, .int .i64 y1]) (by kernel_rfl) ⟨rfl, rfl, rfl⟩
  · replace heq := bif_false hb1 heq
    refine RunH.condF (c := y1 != 0) (by kernel_rfl) hb1 ?_
    refine RunH.adm 3 (es' := [.c [1, 1, 0, 0], .c [1, 1, 0, 1], .c [1, 1, 1]]) (by kernel_rfl) ?_
    refine RunH.reg (by kernel_rfl) ?_
    refine RgH.runk 1 [1, 2, 12] (vs := []) (evs := []) (L' := [(1, .int .i64 a1), (2, .pointer (some ⟨g1, 0, none⟩)), (12, .int .i64 a1)]) (by kernel_rfl) (by kernel_rfl) (fun _ _ => trivial) ?_
    obtain ⟨y2, hy2, heq⟩ := bind_some heq
    refine RgH.does (DoesH.call (d := 13) (g := 49) (args := #[.int .i64 a1, .int .i64 1, .int .i64 1000000]) (by kernel_rfl) (smithyardref9_within_c (a0 := a1) (a1 := 1) (a2 := 1000000)  hy2)) ?_
    rintro _ _ _ _ ⟨_, rfl, rfl, rfl, rfl⟩
    refine RgH.runk 3 [1, 2, 14] (vs := []) (evs := []) (L' := [(1, .int .i64 a1), (2, .pointer (some ⟨g1, 0, none⟩)), (14, .bool (!y2))]) (by kernel_rfl) (by kernel_rfl) (fun _ _ => trivial) ?_
    refine RgH.done (by kernel_rfl) ?_
    rcases bool_cases (!y2) with hb2 | hb2
    · replace heq := bif_true hb2 heq
      refine RunH.condT (c := !y2) (by kernel_rfl) hb2 ?_
      refine RunH.adm 1 (es' := [.c [1, 1, 0, 1, 0, 0], .c [1, 1, 0, 1, 0, 1], .c [1, 1, 1]]) (by kernel_rfl) ?_
      refine RunH.reg (by kernel_rfl) ?_
      refine RgH.runk 2 [4, 5] (vs := []) (evs := []) (L' := [(4, .int .i64 0), (5, .int .i64 1)]) (by kernel_rfl) (by kernel_rfl) (fun _ _ => trivial) ?_
      refine RgH.done (by kernel_rfl) ?_
      obtain rfl := Option.some.inj heq
      refine RunH.pick 1 [] (cs' := F) (by kernel_rfl) rfl ?_
      exact RunH.done (by kernel_rfl) Tryd.func12 (v := .tuple #[.int .i64 0, .int .i64 1]) (by kernel_rfl) ⟨rfl, rfl, rfl⟩
    · replace heq := bif_false hb2 heq
      refine RunH.condF (c := !y2) (by kernel_rfl) hb2 ?_
      refine RunH.adm 2 (es' := [.c [1, 1, 1, 0], .c [1, 1, 1, 1]]) (by kernel_rfl) ?_
      refine RunH.reg (by kernel_rfl) ?_
      refine RgH.runk 2 [15, 16] (vs := [.string a0.Name, .slice Aa0_1 a0.Has.length ca0_1, .int .i64 a0.Slots, .int .i64 a0.Speed, .int .i64 a0.From, .int .i64 a0.To, .slice Aa0_6 a0.Stands.length ca0_6]) (evs := [.load ⟨g1, 0, none⟩ (.string a0.Name), .load ⟨g1, 1, none⟩ (.slice Aa0_1 a0.Has.length ca0_1), .load ⟨g1, 2, none⟩ (.int .i64 a0.Slots), .load ⟨g1, 3, none⟩ (.int .i64 a0.Speed), .load ⟨g1, 4, none⟩ (.int .i64 a0.From), .load ⟨g1, 5, none⟩ (.int .i64 a0.To), .load ⟨g1, 6, none⟩ (.slice Aa0_6 a0.Stands.length ca0_6)]) (L' := [(15, .agg #[.string a0.Name, .slice Aa0_1 a0.Has.length ca0_1, .int .i64 a0.Slots, .int .i64 a0.Speed, .int .i64 a0.From, .int .i64 a0.To, .slice Aa0_6 a0.Stands.length ca0_6]), (16, .int .i64 a1)]) (by kernel_rfl) (by kernel_rfl) (fun w hh => ⟨(hh.box 0 rfl rfl), (hh.box 0 rfl rfl), (hh.box 0 rfl rfl), (hh.box 0 rfl rfl), (hh.box 0 rfl rfl), (hh.box 0 rfl rfl), (hh.box 0 rfl rfl)⟩) ?_
      obtain ⟨y3, hy3, heq⟩ := bind_some heq
      refine RgH.does (DoesH.call (d := 17) (g := 50) (args := #[.agg #[.string a0.Name, .slice Aa0_1 a0.Has.length ca0_1, .int .i64 a0.Slots, .int .i64 a0.Speed, .int .i64 a0.From, .int .i64 a0.To, .slice Aa0_6 a0.Stands.length ca0_6], .int .i64 a1]) (by kernel_rfl) (smithyardref9_seconds_c (a0 := a0) (a1 := a1) (hra0_1.wk (fun _ h => (.tail _ h))) hca0_1 rfl (hra0_6.wk (fun _ h => (.tail _ h))) hca0_6 rfl hy3)) ?_
      rintro _ _ _ _ ⟨_, rfl, rfl, rfl, rfl⟩
      refine RgH.runk 5 [4, 5] (vs := []) (evs := []) (L' := [(4, .int .i64 y3), (5, .int .i64 0)]) (by kernel_rfl) (by kernel_rfl) (fun _ _ => trivial) ?_
      refine RgH.done (by kernel_rfl) ?_
      obtain rfl := Option.some.inj heq
      refine RunH.pick 1 [] (cs' := F) (by kernel_rfl) rfl ?_
      exact RunH.done (by kernel_rfl) Tryd.func12 (v := .tuple #[.int .i64 y3, .int .i64 0]) (by kernel_rfl) ⟨rfl, rfl, rfl⟩
noncomputable def C51 : Ctx := { P := Tryd.prog, f := 51, N := 55, c := bodyOf Tryd.f51 }
def S51 (F : List Ch) (H0 : Hp) (r : Int × Bool) (v : Value) (H : Hp) (cs : List Ch) : Prop := H0 = H ∧ v = .tuple #[.int .i64 r.1, .bool r.2] ∧ F = cs
theorem smithyardref9_ends.e1_c {w0 : World} {H : Hp} {F : List Ch} {r : Int × Bool} : ∀ (a0 : Worker) (Aa0_1 : Option Addr) (ca0_1 : Nat) (Aa0_6 : Option Addr) (ca0_6 : Nat) (g1 : Nat) (v_left8 : Int) (v_at9 : Int) , Rw kPair H F Aa0_1 a0.Has → a0.Has.length ≤ ca0_1 → Rw kSpan H F Aa0_6 a0.Stands → a0.Stands.length ≤ ca0_6 → smithyardref9_ends.e1 a0 v_left8 v_at9 = some r → RunH C51 (S51 F H r) H w0 [.c [1, 1, 1, 1, 0], .c [1, 1, 1, 1, 1]] [(3, .pointer (some ⟨g1, 0, none⟩)), (8, .int .i64 v_left8), (9, .int .i64 v_at9)] H ((some (g1, .cells #[.string a0.Name, .slice Aa0_1 a0.Has.length ca0_1, .int .i64 a0.Slots, .int .i64 a0.Speed, .int .i64 a0.From, .int .i64 a0.To, .slice Aa0_6 a0.Stands.length ca0_6] 25 (0, 0))) :: F) := by
  intro a0 Aa0_1 ca0_1 Aa0_6 ca0_6 g1 v_left8 v_at9 hra0_1 hca0_1 hra0_6 hca0_6 heq
  unfold smithyardref9_ends.e1 at heq
  refine RunH.reg (by kernel_rfl) ?_
  refine RgH.runk 4 [3, 9] (vs := []) (evs := []) (L' := [(3, .pointer (some ⟨g1, 0, none⟩)), (9, .int .i64 (w64 (v_at9 + v_left8)))]) (by kernel_rfl) (by kernel_rfl) (fun _ _ => trivial) ?_
  refine RgH.done (by kernel_rfl) ?_
  refine RunH.adm 1 (es' := [.c [1, 1, 1, 1, 1, 0], .c [1, 1, 1, 1, 1, 1]]) (by kernel_rfl) ?_
  refine RunH.keep [3, 9] (L' := [(3, .pointer (some ⟨g1, 0, none⟩)), (9, .int .i64 (w64 (v_at9 + v_left8)))]) (by kernel_rfl) ?_
  refine RunH.draw (fun w => Heap H w0 w ((some (g1, .cells #[.string a0.Name, .slice Aa0_1 a0.Has.length ca0_1, .int .i64 a0.Slots, .int .i64 a0.Speed, .int .i64 a0.From, .int .i64 a0.To, .slice Aa0_6 a0.Stands.length ca0_6] 25 (0, 0))) :: F)) (fun w => Heap H w0 w ((some (g1, .cells #[.string a0.Name, .slice Aa0_1 a0.Has.length ca0_1, .int .i64 a0.Slots, .int .i64 a0.Speed, .int .i64 a0.From, .int .i64 a0.To, .slice Aa0_6 a0.Stands.length ca0_6] 25 (0, 0))) :: F)) [false, false, false, false, false, false, false] (n := 7) (ls := [false, false, false, false, false, false, false]) (by kernel_rfl) (by kernel_rfl) (by kernel_rfl) rfl ?_
  refine DrH.run [0, 1, 2, 3, 4, 5, 6] (m := 0) (ls' := [true, true, true, true, true, true, true]) (vs := [.int .i64 a0.To]) (evs := [.load ⟨g1, 5, none⟩ (.int .i64 a0.To)]) (L' := [(7, .bool (decide ((w64 (v_at9 + v_left8)) ≤ a0.To))), (6, .int .i64 (w64 (v_at9 + v_left8))), (54, .bool (decide ((w64 (v_at9 + v_left8)) ≤ a0.To))), (53, .int .i64 a0.To), (52, .pointer (some ⟨g1, 5, none⟩)), (51, .int .i64 (w64 (v_at9 + v_left8))), (50, .int .i64 (w64 (v_at9 + v_left8))), (3, .pointer (some ⟨g1, 0, none⟩)), (9, .int .i64 (w64 (v_at9 + v_left8)))]) (by kernel_rfl) (fun w hh => hh.pick 1 [0] (by kernel_rfl)) (fun w hh => hh.pick 1 [0] (by kernel_rfl)) (by kernel_rfl) (fun w hh => (hh.box 0 rfl rfl)) (by kernel_rfl) ?_
  refine DrH.keep [6, 7] (L' := [(6, .int .i64 (w64 (v_at9 + v_left8))), (7, .bool (decide ((w64 (v_at9 + v_left8)) ≤ a0.To)))]) (by kernel_rfl) ?_
  refine DrH.done (by kernel_rfl) ?_
  obtain rfl := Option.some.inj heq
  refine RunH.pick 1 [] (cs' := F) (by kernel_rfl) rfl ?_
  exact RunH.done (by kernel_rfl) Tryd.func51 (v := .tuple #[.int .i64 (w64 (v_at9 + v_left8)), .bool (decide ((w64 (v_at9 + v_left8)) ≤ a0.To))]) (by kernel_rfl) ⟨rfl, rfl, rfl⟩
theorem smithyardref9_ends.j3_c {w0 : World} {H : Hp} {F : List Ch} {r : Int × Bool} (backl2 : Worker → Int → Int → Int → Option (Int × Bool))
    (hbackl2 : ∀ (a0 : Worker) (Aa0_1 : Option Addr) (ca0_1 : Nat) (Aa0_6 : Option Addr) (ca0_6 : Nat) (g1 : Nat) (v_left8 : Int) (v_at9 : Int) (v23 : Int) , Rw kPair H F Aa0_1 a0.Has → a0.Has.length ≤ ca0_1 → Rw kSpan H F Aa0_6 a0.Stands → a0.Stands.length ≤ ca0_6 → backl2 a0 v_left8 v_at9 v23 = some r → RunH C51 (S51 F H r) H w0 [.c [1, 1, 1, 0, 1, 0, 0], .l [1, 1, 1, 0, 1, 0, 0], .b 0, .c [1, 1, 1, 1]] [(3, .pointer (some ⟨g1, 0, none⟩)), (8, .int .i64 v_left8), (9, .int .i64 v_at9), (21, .slice Aa0_6 a0.Stands.length ca0_6), (22, .int .i64 (a0.Stands.length : Int)), (23, .int .i64 v23)] H ((some (g1, .cells #[.string a0.Name, .slice Aa0_1 a0.Has.length ca0_1, .int .i64 a0.Slots, .int .i64 a0.Speed, .int .i64 a0.From, .int .i64 a0.To, .slice Aa0_6 a0.Stands.length ca0_6] 25 (0, 0))) :: F)) : ∀ (a0 : Worker) (Aa0_1 : Option Addr) (ca0_1 : Nat) (Aa0_6 : Option Addr) (ca0_6 : Nat) (g1 : Nat) (v23 : Int) (v_left8 : Int) (v_at9 : Int) , Rw kPair H F Aa0_1 a0.Has → a0.Has.length ≤ ca0_1 → Rw kSpan H F Aa0_6 a0.Stands → a0.Stands.length ≤ ca0_6 → smithyardref9_ends.j3 backl2 a0 v23 v_left8 v_at9 = some r → RunH C51 (S51 F H r) H w0 [.c [1, 1, 1, 0, 1, 0, 0, 1, 1, 1], .l [1, 1, 1, 0, 1, 0, 0], .b 0, .c [1, 1, 1, 1]] [(3, .pointer (some ⟨g1, 0, none⟩)), (8, .int .i64 v_left8), (9, .int .i64 v_at9), (21, .slice Aa0_6 a0.Stands.length ca0_6), (22, .int .i64 (a0.Stands.length : Int)), (23, .int .i64 v23)] H ((some (g1, .cells #[.string a0.Name, .slice Aa0_1 a0.Has.length ca0_1, .int .i64 a0.Slots, .int .i64 a0.Speed, .int .i64 a0.From, .int .i64 a0.To, .slice Aa0_6 a0.Stands.length ca0_6] 25 (0, 0))) :: F) := by
  intro a0 Aa0_1 ca0_1 Aa0_6 ca0_6 g1 v23 v_left8 v_at9 hra0_1 hca0_1 hra0_6 hca0_6 heq
  unfold smithyardref9_ends.j3 at heq
  refine RunH.reg (by kernel_rfl) ?_
  refine RgH.runk 2 [3, 8, 9, 21, 22, 23] (vs := []) (evs := []) (L' := [(3, .pointer (some ⟨g1, 0, none⟩)), (8, .int .i64 v_left8), (9, .int .i64 v_at9), (21, .slice Aa0_6 a0.Stands.length ca0_6), (22, .int .i64 (a0.Stands.length : Int)), (23, .int .i64 (w64 (v23 + 1)))]) (by kernel_rfl) (by kernel_rfl) (fun _ _ => trivial) ?_
  refine RgH.done (by kernel_rfl) ?_
  refine RunH.adm 1 (es' := [.c [1, 1, 1, 0, 1, 0, 0], .l [1, 1, 1, 0, 1, 0, 0], .b 0, .c [1, 1, 1, 1]]) (by kernel_rfl) ?_
  refine RunH.keep [3, 8, 9, 21, 22, 23] (L' := [(3, .pointer (some ⟨g1, 0, none⟩)), (8, .int .i64 v_left8), (9, .int .i64 v_at9), (21, .slice Aa0_6 a0.Stands.length ca0_6), (22, .int .i64 (a0.Stands.length : Int)), (23, .int .i64 (w64 (v23 + 1)))]) (by kernel_rfl) ?_
  exact hbackl2 a0 _ _ _ _ _ v_left8 v_at9 (w64 (v23 + 1)) hra0_1 hca0_1 hra0_6 hca0_6 heq
theorem smithyardref9_ends.l2_c {w0 : World} {H : Hp} {F : List Ch} {r : Int × Bool} (e1 : Worker → Int → Int → Option (Int × Bool))
    (he1 : ∀ (a0 : Worker) (Aa0_1 : Option Addr) (ca0_1 : Nat) (Aa0_6 : Option Addr) (ca0_6 : Nat) (g1 : Nat) (v_left8 : Int) (v_at9 : Int) , Rw kPair H F Aa0_1 a0.Has → a0.Has.length ≤ ca0_1 → Rw kSpan H F Aa0_6 a0.Stands → a0.Stands.length ≤ ca0_6 → e1 a0 v_left8 v_at9 = some r → RunH C51 (S51 F H r) H w0 [.c [1, 1, 1, 1, 0], .c [1, 1, 1, 1, 1]] [(3, .pointer (some ⟨g1, 0, none⟩)), (8, .int .i64 v_left8), (9, .int .i64 v_at9)] H ((some (g1, .cells #[.string a0.Name, .slice Aa0_1 a0.Has.length ca0_1, .int .i64 a0.Slots, .int .i64 a0.Speed, .int .i64 a0.From, .int .i64 a0.To, .slice Aa0_6 a0.Stands.length ca0_6] 25 (0, 0))) :: F)) : ∀ (k : Nat), ∀ (a0 : Worker) (Aa0_1 : Option Addr) (ca0_1 : Nat) (Aa0_6 : Option Addr) (ca0_6 : Nat) (g1 : Nat) (v_left8 : Int) (v_at9 : Int) (v23 : Int) , Rw kPair H F Aa0_1 a0.Has → a0.Has.length ≤ ca0_1 → Rw kSpan H F Aa0_6 a0.Stands → a0.Stands.length ≤ ca0_6 → smithyardref9_ends.l2 e1 k a0 v_left8 v_at9 v23 = some r → RunH C51 (S51 F H r) H w0 [.c [1, 1, 1, 0, 1, 0, 0], .l [1, 1, 1, 0, 1, 0, 0], .b 0, .c [1, 1, 1, 1]] [(3, .pointer (some ⟨g1, 0, none⟩)), (8, .int .i64 v_left8), (9, .int .i64 v_at9), (21, .slice Aa0_6 a0.Stands.length ca0_6), (22, .int .i64 (a0.Stands.length : Int)), (23, .int .i64 v23)] H ((some (g1, .cells #[.string a0.Name, .slice Aa0_1 a0.Has.length ca0_1, .int .i64 a0.Slots, .int .i64 a0.Speed, .int .i64 a0.From, .int .i64 a0.To, .slice Aa0_6 a0.Stands.length ca0_6] 25 (0, 0))) :: F) := by
  intro k
  induction k with
  | zero => intro a0 Aa0_1 ca0_1 Aa0_6 ca0_6 g1 v_left8 v_at9 v23 hra0_1 hca0_1 hra0_6 hca0_6 heq; exact nomatch (show (none : Option (Int × Bool)) = some r from heq)
  | succ k ihk =>
    intro a0 Aa0_1 ca0_1 Aa0_6 ca0_6 g1 v_left8 v_at9 v23 hra0_1 hca0_1 hra0_6 hca0_6 heq
    rw [smithyardref9_ends.l2] at heq
    refine RunH.adm 1 (es' := [.c [1, 1, 1, 0, 1, 0, 0, 0], .c [1, 1, 1, 0, 1, 0, 0, 1], .l [1, 1, 1, 0, 1, 0, 0], .b 0, .c [1, 1, 1, 1]]) (by kernel_rfl) ?_
    refine RunH.reg (by kernel_rfl) ?_
    refine RgH.runk 1 [3, 8, 9, 21, 22, 23, 24] (vs := []) (evs := []) (L' := [(3, .pointer (some ⟨g1, 0, none⟩)), (8, .int .i64 v_left8), (9, .int .i64 v_at9), (21, .slice Aa0_6 a0.Stands.length ca0_6), (22, .int .i64 (a0.Stands.length : Int)), (23, .int .i64 v23), (24, .bool (decide (v23 < (a0.Stands.length : Int))))]) (by kernel_rfl) (by kernel_rfl) (fun _ _ => trivial) ?_
    refine RgH.done (by kernel_rfl) ?_
    refine RunH.adm 1 (es' := [.c [1, 1, 1, 0, 1, 0, 0, 1, 0], .c [1, 1, 1, 0, 1, 0, 0, 1, 1], .l [1, 1, 1, 0, 1, 0, 0], .b 0, .c [1, 1, 1, 1]]) (by kernel_rfl) ?_
    rcases bool_cases (decide (v23 < (a0.Stands.length : Int))) with hb2 | hb2
    · replace heq := bif_true hb2 heq
      refine RunH.condT (c := decide (v23 < (a0.Stands.length : Int))) (by kernel_rfl) hb2 ?_
      refine RunH.adm 4 (es' := [.c [1, 1, 1, 0, 1, 0, 0, 1, 1, 0, 0, 0], .c [1, 1, 1, 0, 1, 0, 0, 1, 1, 0, 0, 1], .b 1, .c [1, 1, 1, 0, 1, 0, 0, 1, 1, 1], .l [1, 1, 1, 0, 1, 0, 0], .b 0, .c [1, 1, 1, 1]]) (by kernel_rfl) ?_
      refine RunH.reg (by kernel_rfl) ?_
      obtain ⟨x1, hx1, heq⟩ := bind_some heq
      obtain ⟨ha1, cs1, hK1, hcc1⟩ := hra0_6.get hx1
      obtain ⟨rfl⟩ := kSpan_open hK1
      refine RgH.runk 2 [3, 8, 9, 21, 22, 23, 26] (vs := [.int .i64 x1.From, .int .i64 x1.To]) (evs := [.need (Aa0_6 = some (adr Aa0_6) ∧ (0 : Int) ≤ v23 ∧ v23 < ((a0.Stands.length : Nat) : Int)), .load (((adr Aa0_6).add (v23.toNat * 2)).add 0) (.int .i64 x1.From), .load (((adr Aa0_6).add (v23.toNat * 2)).add 1) (.int .i64 x1.To)]) (L' := [(3, .pointer (some ⟨g1, 0, none⟩)), (8, .int .i64 v_left8), (9, .int .i64 v_at9), (21, .slice Aa0_6 a0.Stands.length ca0_6), (22, .int .i64 (a0.Stands.length : Int)), (23, .int .i64 v23), (26, .agg #[.int .i64 x1.From, .int .i64 x1.To])]) (by kernel_rfl) (by kernel_rfl) (fun w hh => ⟨⟨ha1, (at?_some hx1).1, (at?_some hx1).2.1⟩, (hcc1 _ _ (hh.drop 1) 0 _ rfl), (hcc1 _ _ (hh.drop 1) 1 _ rfl)⟩) ?_
      refine RgH.does (DoesH.new (d := 11) (v := fun g => .pointer (some ⟨g, 0, none⟩)) (o := fun g => .cells #[.int .i64 0, .int .i64 0] 79 (0, 0)) (fun g => by kernel_rfl)) ?_
      rintro _ _ _ _ ⟨g2, rfl, rfl, rfl⟩
      refine RgH.does (DoesH.store (k := 0) (g := g2) (off := 0) (v := .agg #[.int .i64 x1.From, .int .i64 x1.To]) (cells' := #[.int .i64 x1.From, .int .i64 x1.To]) (by kernel_rfl) rfl (by kernel_rfl) (by kernel_rfl)) ?_
      rintro _ _ _ _ ⟨rfl, rfl, rfl⟩
      refine RgH.done (by kernel_rfl) ?_
      refine RunH.adm 2 (es' := [.c [1, 1, 1, 0, 1, 0, 0, 1, 1, 0, 0, 1, 0, 0], .c [1, 1, 1, 0, 1, 0, 0, 1, 1, 0, 0, 1, 0, 1], .c [1, 1, 1, 0, 1, 0, 0, 1, 1, 0, 0, 1, 1], .b 1, .c [1, 1, 1, 0, 1, 0, 0, 1, 1, 1], .l [1, 1, 1, 0, 1, 0, 0], .b 0, .c [1, 1, 1, 1]]) (by kernel_rfl) ?_
      refine RunH.reg (by kernel_rfl) ?_
      refine RgH.runk 4 [3, 8, 9, 11, 21, 22, 23, 30] (vs := [.int .i64 x1.To]) (evs := [.load ⟨g2, 1, none⟩ (.int .i64 x1.To)]) (L' := [(3, .pointer (some ⟨g1, 0, none⟩)), (8, .int .i64 v_left8), (9, .int .i64 v_at9), (11, .pointer (some ⟨g2, 0, none⟩)), (21, .slice Aa0_6 a0.Stands.length ca0_6), (22, .int .i64 (a0.Stands.length : Int)), (23, .int .i64 v23), (30, .bool (decide (x1.To ≤ v_at9)))]) (by kernel_rfl) (by kernel_rfl) (fun w hh => (hh.box 0 rfl rfl)) ?_
      refine RgH.done (by kernel_rfl) ?_
      rcases bool_cases (decide (x1.To ≤ v_at9)) with hb3 | hb3
      · replace heq := bif_true hb3 heq
        refine RunH.condT (c := decide (x1.To ≤ v_at9)) (by kernel_rfl) hb3 ?_
        refine RunH.adm 1 (es' := [.c [1, 1, 1, 0, 1, 0, 0, 1, 1, 1], .l [1, 1, 1, 0, 1, 0, 0], .b 0, .c [1, 1, 1, 1]]) (by kernel_rfl) ?_
        refine RunH.keep [3, 8, 9, 21, 22, 23] (L' := [(3, .pointer (some ⟨g1, 0, none⟩)), (8, .int .i64 v_left8), (9, .int .i64 v_at9), (21, .slice Aa0_6 a0.Stands.length ca0_6), (22, .int .i64 (a0.Stands.length : Int)), (23, .int .i64 v23)]) (by kernel_rfl) ?_
        refine RunH.pick 2 [1] (cs' := (some (g1, .cells #[.string a0.Name, .slice Aa0_1 a0.Has.length ca0_1, .int .i64 a0.Slots, .int .i64 a0.Speed, .int .i64 a0.From, .int .i64 a0.To, .slice Aa0_6 a0.Stands.length ca0_6] 25 (0, 0))) :: F) (by kernel_rfl) rfl ?_
        exact (smithyardref9_ends.j3_c (backl2 := (smithyardref9_ends.l2 e1 k)) ihk) a0 _ _ _ _ _ v23 v_left8 v_at9 hra0_1 hca0_1 hra0_6 hca0_6 heq
      · replace heq := bif_false hb3 heq
        refine RunH.condF (c := decide (x1.To ≤ v_at9)) (by kernel_rfl) hb3 ?_
        refine RunH.adm 3 (es' := [.c [1, 1, 1, 0, 1, 0, 0, 1, 1, 0, 0, 1, 1, 0, 0], .c [1, 1, 1, 0, 1, 0, 0, 1, 1, 0, 0, 1, 1, 0, 1], .c [1, 1, 1, 0, 1, 0, 0, 1, 1, 0, 0, 1, 1, 1], .b 1, .c [1, 1, 1, 0, 1, 0, 0, 1, 1, 1], .l [1, 1, 1, 0, 1, 0, 0], .b 0, .c [1, 1, 1, 1]]) (by kernel_rfl) ?_
        refine RunH.reg (by kernel_rfl) ?_
        refine RgH.runk 6 [3, 8, 9, 11, 21, 22, 23, 36] (vs := [.int .i64 x1.From]) (evs := [.load ⟨g2, 0, none⟩ (.int .i64 x1.From)]) (L' := [(3, .pointer (some ⟨g1, 0, none⟩)), (8, .int .i64 v_left8), (9, .int .i64 v_at9), (11, .pointer (some ⟨g2, 0, none⟩)), (21, .slice Aa0_6 a0.Stands.length ca0_6), (22, .int .i64 (a0.Stands.length : Int)), (23, .int .i64 v23), (36, .bool (decide (v_left8 ≤ (w64 (x1.From - v_at9)))))]) (by kernel_rfl) (by kernel_rfl) (fun w hh => (hh.box 0 rfl rfl)) ?_
        refine RgH.done (by kernel_rfl) ?_
        rcases bool_cases (decide (v_left8 ≤ (w64 (x1.From - v_at9)))) with hb4 | hb4
        · replace heq := bif_true hb4 heq
          refine RunH.condT (c := decide (v_left8 ≤ (w64 (x1.From - v_at9)))) (by kernel_rfl) hb4 ?_
          refine RunH.adm 2 (es' := [.c [1, 1, 1, 1, 0], .c [1, 1, 1, 1, 1]]) (by kernel_rfl) ?_
          refine RunH.keep [3, 8, 9] (L' := [(3, .pointer (some ⟨g1, 0, none⟩)), (8, .int .i64 v_left8), (9, .int .i64 v_at9)]) (by kernel_rfl) ?_
          refine RunH.pick 2 [1] (cs' := (some (g1, .cells #[.string a0.Name, .slice Aa0_1 a0.Has.length ca0_1, .int .i64 a0.Slots, .int .i64 a0.Speed, .int .i64 a0.From, .int .i64 a0.To, .slice Aa0_6 a0.Stands.length ca0_6] 25 (0, 0))) :: F) (by kernel_rfl) rfl ?_
          exact he1 a0 _ _ _ _ _ v_left8 v_at9 hra0_1 hca0_1 hra0_6 hca0_6 heq
        · replace heq := bif_false hb4 heq
          refine RunH.condF (c := decide (v_left8 ≤ (w64 (x1.From - v_at9)))) (by kernel_rfl) hb4 ?_
          refine RunH.adm 2 (es' := [.c [1, 1, 1, 0, 1, 0, 0, 1, 1, 0, 0, 1, 1, 1, 0], .c [1, 1, 1, 0, 1, 0, 0, 1, 1, 0, 0, 1, 1, 1, 1], .b 1, .c [1, 1, 1, 0, 1, 0, 0, 1, 1, 1], .l [1, 1, 1, 0, 1, 0, 0], .b 0, .c [1, 1, 1, 1]]) (by kernel_rfl) ?_
          refine RunH.reg (by kernel_rfl) ?_
          refine RgH.runk 8 [3, 8, 11, 21, 22, 23] (vs := [.int .i64 x1.From]) (evs := [.load ⟨g2, 0, none⟩ (.int .i64 x1.From)]) (L' := [(3, .pointer (some ⟨g1, 0, none⟩)), (8, .int .i64 (w64 (v_left8 - (max2 (w64 (x1.From - v_at9)) 0)))), (11, .pointer (some ⟨g2, 0, none⟩)), (21, .slice Aa0_6 a0.Stands.length ca0_6), (22, .int .i64 (a0.Stands.length : Int)), (23, .int .i64 v23)]) (by kernel_rfl) (by kernel_rfl) (fun w hh => (hh.box 0 rfl rfl)) ?_
          refine RgH.done (by kernel_rfl) ?_
          refine RunH.reg (by kernel_rfl) ?_
          refine RgH.runk 3 [3, 8, 9, 21, 22, 23] (vs := [.int .i64 x1.To]) (evs := [.load ⟨g2, 1, none⟩ (.int .i64 x1.To)]) (L' := [(3, .pointer (some ⟨g1, 0, none⟩)), (8, .int .i64 (w64 (v_left8 - (max2 (w64 (x1.From - v_at9)) 0)))), (9, .int .i64 x1.To), (21, .slice Aa0_6 a0.Stands.length ca0_6), (22, .int .i64 (a0.Stands.length : Int)), (23, .int .i64 v23)]) (by kernel_rfl) (by kernel_rfl) (fun w hh => (hh.box 0 rfl rfl)) ?_
          refine RgH.done (by kernel_rfl) ?_
          refine RunH.adm 1 (es' := [.c [1, 1, 1, 0, 1, 0, 0, 1, 1, 1], .l [1, 1, 1, 0, 1, 0, 0], .b 0, .c [1, 1, 1, 1]]) (by kernel_rfl) ?_
          refine RunH.keep [3, 8, 9, 21, 22, 23] (L' := [(3, .pointer (some ⟨g1, 0, none⟩)), (8, .int .i64 (w64 (v_left8 - (max2 (w64 (x1.From - v_at9)) 0)))), (9, .int .i64 x1.To), (21, .slice Aa0_6 a0.Stands.length ca0_6), (22, .int .i64 (a0.Stands.length : Int)), (23, .int .i64 v23)]) (by kernel_rfl) ?_
          refine RunH.pick 2 [1] (cs' := (some (g1, .cells #[.string a0.Name, .slice Aa0_1 a0.Has.length ca0_1, .int .i64 a0.Slots, .int .i64 a0.Speed, .int .i64 a0.From, .int .i64 a0.To, .slice Aa0_6 a0.Stands.length ca0_6] 25 (0, 0))) :: F) (by kernel_rfl) rfl ?_
          exact (smithyardref9_ends.j3_c (backl2 := (smithyardref9_ends.l2 e1 k)) ihk) a0 _ _ _ _ _ v23 (w64 (v_left8 - (max2 (w64 (x1.From - v_at9)) 0))) x1.To hra0_1 hca0_1 hra0_6 hca0_6 heq
    · replace heq := bif_false hb2 heq
      refine RunH.condF (c := decide (v23 < (a0.Stands.length : Int))) (by kernel_rfl) hb2 ?_
      refine RunH.adm 2 (es' := [.c [1, 1, 1, 1, 0], .c [1, 1, 1, 1, 1]]) (by kernel_rfl) ?_
      refine RunH.keep [3, 8, 9] (L' := [(3, .pointer (some ⟨g1, 0, none⟩)), (8, .int .i64 v_left8), (9, .int .i64 v_at9)]) (by kernel_rfl) ?_
      exact he1 a0 _ _ _ _ _ v_left8 v_at9 hra0_1 hca0_1 hra0_6 hca0_6 heq
theorem smithyardref9_ends_c {w0 : World} {H : Hp} {F : List Ch} {a0 : Worker} {Aa0_1 : Option Addr} {na0_1 : Nat} {ca0_1 : Nat} {Aa0_6 : Option Addr} {na0_6 : Nat} {ca0_6 : Nat} {a1 : Int} {a2 : Int} {r : Int × Bool} (hra0_1 : Rw kPair H F Aa0_1 a0.Has) (hca0_1 : na0_1 ≤ ca0_1) (hna0_1 : na0_1 = a0.Has.length) (hra0_6 : Rw kSpan H F Aa0_6 a0.Stands) (hca0_6 : na0_6 ≤ ca0_6) (hna0_6 : na0_6 = a0.Stands.length) (heq : smithyardref9_ends.f a0 a1 a2 = some r) : CallsH Tryd.prog 51 #[.agg #[.string a0.Name, .slice Aa0_1 na0_1 ca0_1, .int .i64 a0.Slots, .int .i64 a0.Speed, .int .i64 a0.From, .int .i64 a0.To, .slice Aa0_6 na0_6 ca0_6], .int .i64 a1, .int .i64 a2] H w0 (F) (S51 F H r) := by
  refine calls_of_runH (F := C51) Tryd.func51 (by kernel_rfl) Tryd.ntmps51 (args := [.agg #[.string a0.Name, .slice Aa0_1 na0_1 ca0_1, .int .i64 a0.Slots, .int .i64 a0.Speed, .int .i64 a0.From, .int .i64 a0.To, .slice Aa0_6 na0_6 ca0_6], .int .i64 a1, .int .i64 a2]) (by kernel_rfl) ?_
  subst hna0_1
  subst hna0_6
  unfold smithyardref9_ends.f at heq
  refine RunH.adm 1 (es' := [.c [0], .c [1]]) (by kernel_rfl) ?_
  refine RunH.reg (by kernel_rfl) ?_
  refine RgH.does (DoesH.new (d := 3) (v := fun g => .pointer (some ⟨g, 0, none⟩)) (o := fun g => .cells #[.string a0.Name, .slice Aa0_1 a0.Has.length ca0_1, .int .i64 a0.Slots, .int .i64 a0.Speed, .int .i64 a0.From, .int .i64 a0.To, .slice Aa0_6 a0.Stands.length ca0_6] 25 (0, 0)) (fun g => by kernel_rfl)) ?_
  rintro _ _ _ _ ⟨g1, rfl, rfl, rfl⟩
  refine RgH.runk 3 [1, 2, 3] (vs := []) (evs := []) (L' := [(1, .int .i64 a1), (2, .int .i64 a2), (3, .pointer (some ⟨g1, 0, none⟩))]) (by kernel_rfl) (by kernel_rfl) (fun _ _ => trivial) ?_
  refine RgH.done (by kernel_rfl) ?_
  refine RunH.adm 2 (es' := [.c [1, 0, 0], .c [1, 0, 1], .c [1, 1]]) (by kernel_rfl) ?_
  refine RunH.reg (by kernel_rfl) ?_
  refine RgH.runk 4 [1, 2, 3, 15] (vs := [.int .i64 a0.From]) (evs := [.load ⟨g1, 4, none⟩ (.int .i64 a0.From)]) (L' := [(1, .int .i64 a1), (2, .int .i64 a2), (3, .pointer (some ⟨g1, 0, none⟩)), (15, .bool (decide (a2 < a0.From)))]) (by kernel_rfl) (by kernel_rfl) (fun w hh => (hh.box 0 rfl rfl)) ?_
  refine RgH.done (by kernel_rfl) ?_
  rcases bool_cases (decide (a2 < a0.From)) with hb1 | hb1
  · replace heq := bif_true hb1 heq
    refine RunH.condT (c := decide (a2 < a0.From)) (by kernel_rfl) hb1 ?_
    refine RunH.adm 1 (es' := [.c [1, 0, 1, 0, 0], .c [1, 0, 1, 0, 1], .c [1, 1]]) (by kernel_rfl) ?_
    refine RunH.reg (by kernel_rfl) ?_
    refine RgH.runk 2 [6, 7] (vs := []) (evs := []) (L' := [(6, .int .i64 0), (7, .bool false)]) (by kernel_rfl) (by kernel_rfl) (fun _ _ => trivial) ?_
    refine RgH.done (by kernel_rfl) ?_
    obtain rfl := Option.some.inj heq
    refine RunH.pick 1 [] (cs' := F) (by kernel_rfl) rfl ?_
    exact RunH.done (by kernel_rfl) Tryd.func51 (v := .tuple #[.int .i64 0, .bool false]) (by kernel_rfl) ⟨rfl, rfl, rfl⟩
  · replace heq := bif_false hb1 heq
    refine RunH.condF (c := decide (a2 < a0.From)) (by kernel_rfl) hb1 ?_
    refine RunH.adm 2 (es' := [.c [1, 1, 0], .c [1, 1, 1]]) (by kernel_rfl) ?_
    refine RunH.reg (by kernel_rfl) ?_
    refine RgH.runk 2 [2, 3, 16, 17] (vs := [.string a0.Name, .slice Aa0_1 a0.Has.length ca0_1, .int .i64 a0.Slots, .int .i64 a0.Speed, .int .i64 a0.From, .int .i64 a0.To, .slice Aa0_6 a0.Stands.length ca0_6]) (evs := [.load ⟨g1, 0, none⟩ (.string a0.Name), .load ⟨g1, 1, none⟩ (.slice Aa0_1 a0.Has.length ca0_1), .load ⟨g1, 2, none⟩ (.int .i64 a0.Slots), .load ⟨g1, 3, none⟩ (.int .i64 a0.Speed), .load ⟨g1, 4, none⟩ (.int .i64 a0.From), .load ⟨g1, 5, none⟩ (.int .i64 a0.To), .load ⟨g1, 6, none⟩ (.slice Aa0_6 a0.Stands.length ca0_6)]) (L' := [(2, .int .i64 a2), (3, .pointer (some ⟨g1, 0, none⟩)), (16, .agg #[.string a0.Name, .slice Aa0_1 a0.Has.length ca0_1, .int .i64 a0.Slots, .int .i64 a0.Speed, .int .i64 a0.From, .int .i64 a0.To, .slice Aa0_6 a0.Stands.length ca0_6]), (17, .int .i64 a1)]) (by kernel_rfl) (by kernel_rfl) (fun w hh => ⟨(hh.box 0 rfl rfl), (hh.box 0 rfl rfl), (hh.box 0 rfl rfl), (hh.box 0 rfl rfl), (hh.box 0 rfl rfl), (hh.box 0 rfl rfl), (hh.box 0 rfl rfl)⟩) ?_
    obtain ⟨y1, hy1, heq⟩ := bind_some heq
    refine RgH.does (DoesH.call (d := 18) (g := 50) (args := #[.agg #[.string a0.Name, .slice Aa0_1 a0.Has.length ca0_1, .int .i64 a0.Slots, .int .i64 a0.Speed, .int .i64 a0.From, .int .i64 a0.To, .slice Aa0_6 a0.Stands.length ca0_6], .int .i64 a1]) (by kernel_rfl) (smithyardref9_seconds_c (a0 := a0) (a1 := a1) (hra0_1.wk (fun _ h => (.tail _ h))) hca0_1 rfl (hra0_6.wk (fun _ h => (.tail _ h))) hca0_6 rfl hy1)) ?_
    rintro _ _ _ _ ⟨_, rfl, rfl, rfl, rfl⟩
    refine RgH.runk 6 [3, 8, 9] (vs := []) (evs := []) (L' := [(3, .pointer (some ⟨g1, 0, none⟩)), (8, .int .i64 y1), (9, .int .i64 a2)]) (by kernel_rfl) (by kernel_rfl) (fun _ _ => trivial) ?_
    refine RgH.done (by kernel_rfl) ?_
    refine RunH.adm 2 (es' := [.c [1, 1, 1, 0, 0], .c [1, 1, 1, 0, 1], .c [1, 1, 1, 1]]) (by kernel_rfl) ?_
    refine RunH.reg (by kernel_rfl) ?_
    refine RgH.runk 4 [3, 8, 9, 21, 22, 23] (vs := [.slice Aa0_6 a0.Stands.length ca0_6]) (evs := [.load ⟨g1, 6, none⟩ (.slice Aa0_6 a0.Stands.length ca0_6)]) (L' := [(3, .pointer (some ⟨g1, 0, none⟩)), (8, .int .i64 y1), (9, .int .i64 a2), (21, .slice Aa0_6 a0.Stands.length ca0_6), (22, .int .i64 (a0.Stands.length : Int)), (23, .int .i64 0)]) (by kernel_rfl) (by kernel_rfl) (fun w hh => (hh.box 0 rfl rfl)) ?_
    refine RgH.done (by kernel_rfl) ?_
    refine RunH.adm 2 (es' := [.c [1, 1, 1, 0, 1, 0, 0], .l [1, 1, 1, 0, 1, 0, 0], .b 0, .c [1, 1, 1, 1]]) (by kernel_rfl) ?_
    refine RunH.keep [3, 8, 9, 21, 22, 23] (L' := [(3, .pointer (some ⟨g1, 0, none⟩)), (8, .int .i64 y1), (9, .int .i64 a2), (21, .slice Aa0_6 a0.Stands.length ca0_6), (22, .int .i64 (a0.Stands.length : Int)), (23, .int .i64 0)]) (by kernel_rfl) ?_
    exact ((smithyardref9_ends.l2_c (e1 := smithyardref9_ends.e1) (smithyardref9_ends.e1_c)) big) a0 _ _ _ _ _ y1 a2 0 hra0_1 hca0_1 hra0_6 hca0_6 heq
noncomputable def C13 : Ctx := { P := Tryd.prog, f := 13, N := 35, c := bodyOf Tryd.f13 }
def S13 (F : List Ch) (H0 : Hp) (r : Int × Bool × Int) (v : Value) (H : Hp) (cs : List Ch) : Prop := H0 = H ∧ v = .tuple #[.int .i64 r.1, .bool r.2.1, .int .i64 r.2.2] ∧ F = cs
theorem smithyardref9_Ends_c {w0 : World} {H : Hp} {F : List Ch} {a0 : Worker} {Aa0_1 : Option Addr} {na0_1 : Nat} {ca0_1 : Nat} {Aa0_6 : Option Addr} {na0_6 : Nat} {ca0_6 : Nat} {a1 : Int} {a2 : Int} {r : Int × Bool × Int} (hra0_1 : Rw kPair H F Aa0_1 a0.Has) (hca0_1 : na0_1 ≤ ca0_1) (hna0_1 : na0_1 = a0.Has.length) (hra0_6 : Rw kSpan H F Aa0_6 a0.Stands) (hca0_6 : na0_6 ≤ ca0_6) (hna0_6 : na0_6 = a0.Stands.length) (heq : smithyardref9_Ends.f a0 a1 a2 = some r) : CallsH Tryd.prog 13 #[.agg #[.string a0.Name, .slice Aa0_1 na0_1 ca0_1, .int .i64 a0.Slots, .int .i64 a0.Speed, .int .i64 a0.From, .int .i64 a0.To, .slice Aa0_6 na0_6 ca0_6], .int .i64 a1, .int .i64 a2] H w0 (F) (S13 F H r) := by
  refine calls_of_runH (F := C13) Tryd.func13 (by kernel_rfl) Tryd.ntmps13 (args := [.agg #[.string a0.Name, .slice Aa0_1 na0_1 ca0_1, .int .i64 a0.Slots, .int .i64 a0.Speed, .int .i64 a0.From, .int .i64 a0.To, .slice Aa0_6 na0_6 ca0_6], .int .i64 a1, .int .i64 a2]) (by kernel_rfl) ?_
  subst hna0_1
  subst hna0_6
  unfold smithyardref9_Ends.f at heq
  refine RunH.adm 1 (es' := [.c [0], .c [1]]) (by kernel_rfl) ?_
  refine RunH.reg (by kernel_rfl) ?_
  refine RgH.does (DoesH.new (d := 3) (v := fun g => .pointer (some ⟨g, 0, none⟩)) (o := fun g => .cells #[.string a0.Name, .slice Aa0_1 a0.Has.length ca0_1, .int .i64 a0.Slots, .int .i64 a0.Speed, .int .i64 a0.From, .int .i64 a0.To, .slice Aa0_6 a0.Stands.length ca0_6] 25 (0, 0)) (fun g => by kernel_rfl)) ?_
  rintro _ _ _ _ ⟨g1, rfl, rfl, rfl⟩
  refine RgH.runk 4 [1, 2, 3] (vs := []) (evs := []) (L' := [(1, .int .i64 a1), (2, .int .i64 a2), (3, .pointer (some ⟨g1, 0, none⟩))]) (by kernel_rfl) (by kernel_rfl) (fun _ _ => trivial) ?_
  refine RgH.done (by kernel_rfl) ?_
  refine RunH.adm 2 (es' := [.c [1, 0, 0], .c [1, 0, 1], .c [1, 1]]) (by kernel_rfl) ?_
  refine RunH.reg (by kernel_rfl) ?_
  refine RgH.runk 1 [1, 2, 3, 12] (vs := [.string a0.Name, .slice Aa0_1 a0.Has.length ca0_1, .int .i64 a0.Slots, .int .i64 a0.Speed, .int .i64 a0.From, .int .i64 a0.To, .slice Aa0_6 a0.Stands.length ca0_6]) (evs := [.load ⟨g1, 0, none⟩ (.string a0.Name), .load ⟨g1, 1, none⟩ (.slice Aa0_1 a0.Has.length ca0_1), .load ⟨g1, 2, none⟩ (.int .i64 a0.Slots), .load ⟨g1, 3, none⟩ (.int .i64 a0.Speed), .load ⟨g1, 4, none⟩ (.int .i64 a0.From), .load ⟨g1, 5, none⟩ (.int .i64 a0.To), .load ⟨g1, 6, none⟩ (.slice Aa0_6 a0.Stands.length ca0_6)]) (L' := [(1, .int .i64 a1), (2, .int .i64 a2), (3, .pointer (some ⟨g1, 0, none⟩)), (12, .agg #[.string a0.Name, .slice Aa0_1 a0.Has.length ca0_1, .int .i64 a0.Slots, .int .i64 a0.Speed, .int .i64 a0.From, .int .i64 a0.To, .slice Aa0_6 a0.Stands.length ca0_6])]) (by kernel_rfl) (by kernel_rfl) (fun w hh => ⟨(hh.box 0 rfl rfl), (hh.box 0 rfl rfl), (hh.box 0 rfl rfl), (hh.box 0 rfl rfl), (hh.box 0 rfl rfl), (hh.box 0 rfl rfl), (hh.box 0 rfl rfl)⟩) ?_
  obtain ⟨y1, hy1, heq⟩ := bind_some heq
  refine RgH.does (DoesH.call (d := 13) (g := 48) (args := #[.agg #[.string a0.Name, .slice Aa0_1 a0.Has.length ca0_1, .int .i64 a0.Slots, .int .i64 a0.Speed, .int .i64 a0.From, .int .i64 a0.To, .slice Aa0_6 a0.Stands.length ca0_6]]) (by kernel_rfl) (smithyardref9_checkWorker_c (a0 := a0) (hra0_1.wk (fun _ h => (.tail _ h))) hca0_1 rfl (hra0_6.wk (fun _ h => (.tail _ h))) hca0_6 rfl hy1)) ?_
  rintro _ _ _ _ ⟨_, rfl, rfl, rfl, rfl⟩
  refine RgH.runk 3 [1, 2, 3, 9] (vs := []) (evs := []) (L' := [(1, .int .i64 a1), (2, .int .i64 a2), (3, .pointer (some ⟨g1, 0, none⟩)), (9, .int .i64 y1)]) (by kernel_rfl) (by kernel_rfl) (fun _ _ => trivial) ?_
  refine RgH.done (by kernel_rfl) ?_
  refine RunH.adm 1 (es' := [.c [1, 0, 1, 0], .c [1, 0, 1, 1], .c [1, 1]]) (by kernel_rfl) ?_
  refine RunH.reg (by kernel_rfl) ?_
  refine RgH.runk 2 [1, 2, 3, 9, 15] (vs := []) (evs := []) (L' := [(1, .int .i64 a1), (2, .int .i64 a2), (3, .pointer (some ⟨g1, 0, none⟩)), (9, .int .i64 y1), (15, .bool (y1 != 0))]) (by kernel_rfl) (by kernel_rfl) (fun _ _ => trivial) ?_
  refine RgH.done (by kernel_rfl) ?_
  rcases bool_cases (y1 != 0) with hb1 | hb1
  · replace heq := bif_true hb1 heq
    refine RunH.condT (c := y1 != 0) (by kernel_rfl) hb1 ?_
    refine RunH.adm 1 (es' := [.c [1, 0, 1, 1, 0, 0], .c [1, 0, 1, 1, 0, 1], .c [1, 1]]) (by kernel_rfl) ?_
    refine RunH.reg (by kernel_rfl) ?_
    refine RgH.runk 4 [6, 7, 8] (vs := []) (evs := []) (L' := [(6, .int .i64 0), (7, .bool false), (8, .int .i64 y1)]) (by kernel_rfl) (by kernel_rfl) (fun _ _ => trivial) ?_
    refine RgH.done (by kernel_rfl) ?_
    obtain rfl := Option.some.inj heq
    refine RunH.pick 1 [] (cs' := F) (by kernel_rfl) rfl ?_
    exact RunH.done (by kernel_rfl) Tryd.func13 (v := .tuple #[.int .i64 0, .bool false, .int .i64 y1]) (by kernel_rfl) ⟨rfl, rfl, rfl⟩
  · replace heq := bif_false hb1 heq
    refine RunH.condF (c := y1 != 0) (by kernel_rfl) hb1 ?_
    refine RunH.adm 3 (es' := [.c [1, 1, 0, 0], .c [1, 1, 0, 1], .c [1, 1, 1]]) (by kernel_rfl) ?_
    obtain ⟨t1, ht1, heq⟩ := bind_some heq
    have K2 : RunH C13 (S13 F H r) H w0 [.c [1, 1, 0, 1], .c [1, 1, 1]] [(1, .int .i64 a1), (2, .int .i64 a2), (3, .pointer (some ⟨g1, 0, none⟩)), (24, .bool t1)] H ((some (g1, .cells #[.string a0.Name, .slice Aa0_1 a0.Has.length ca0_1, .int .i64 a0.Slots, .int .i64 a0.Speed, .int .i64 a0.From, .int .i64 a0.To, .slice Aa0_6 a0.Stands.length ca0_6] 25 (0, 0))) :: F) := by
      rcases bool_cases (t1) with hb3 | hb3
      · replace heq := bif_true hb3 heq
        refine RunH.condT (c := t1) (by kernel_rfl) hb3 ?_
        refine RunH.adm 1 (es' := [.c [1, 1, 0, 1, 0, 0], .c [1, 1, 0, 1, 0, 1], .c [1, 1, 1]]) (by kernel_rfl) ?_
        refine RunH.reg (by kernel_rfl) ?_
        refine RgH.runk 3 [6, 7, 8] (vs := []) (evs := []) (L' := [(6, .int .i64 0), (7, .bool false), (8, .int .i64 1)]) (by kernel_rfl) (by kernel_rfl) (fun _ _ => trivial) ?_
        refine RgH.done (by kernel_rfl) ?_
        obtain rfl := Option.some.inj heq
        refine RunH.pick 1 [] (cs' := F) (by kernel_rfl) rfl ?_
        exact RunH.done (by kernel_rfl) Tryd.func13 (v := .tuple #[.int .i64 0, .bool false, .int .i64 1]) (by kernel_rfl) ⟨rfl, rfl, rfl⟩
      · replace heq := bif_false hb3 heq
        refine RunH.condF (c := t1) (by kernel_rfl) hb3 ?_
        refine RunH.adm 2 (es' := [.c [1, 1, 1, 0], .c [1, 1, 1, 1]]) (by kernel_rfl) ?_
        refine RunH.reg (by kernel_rfl) ?_
        refine RgH.runk 3 [26, 27, 28] (vs := [.string a0.Name, .slice Aa0_1 a0.Has.length ca0_1, .int .i64 a0.Slots, .int .i64 a0.Speed, .int .i64 a0.From, .int .i64 a0.To, .slice Aa0_6 a0.Stands.length ca0_6]) (evs := [.load ⟨g1, 0, none⟩ (.string a0.Name), .load ⟨g1, 1, none⟩ (.slice Aa0_1 a0.Has.length ca0_1), .load ⟨g1, 2, none⟩ (.int .i64 a0.Slots), .load ⟨g1, 3, none⟩ (.int .i64 a0.Speed), .load ⟨g1, 4, none⟩ (.int .i64 a0.From), .load ⟨g1, 5, none⟩ (.int .i64 a0.To), .load ⟨g1, 6, none⟩ (.slice Aa0_6 a0.Stands.length ca0_6)]) (L' := [(26, .agg #[.string a0.Name, .slice Aa0_1 a0.Has.length ca0_1, .int .i64 a0.Slots, .int .i64 a0.Speed, .int .i64 a0.From, .int .i64 a0.To, .slice Aa0_6 a0.Stands.length ca0_6]), (27, .int .i64 a1), (28, .int .i64 a2)]) (by kernel_rfl) (by kernel_rfl) (fun w hh => ⟨(hh.box 0 rfl rfl), (hh.box 0 rfl rfl), (hh.box 0 rfl rfl), (hh.box 0 rfl rfl), (hh.box 0 rfl rfl), (hh.box 0 rfl rfl), (hh.box 0 rfl rfl)⟩) ?_
        obtain ⟨y4, hy4, heq⟩ := bind_some heq
        refine RgH.does (DoesH.call (d := 29) (g := 51) (args := #[.agg #[.string a0.Name, .slice Aa0_1 a0.Has.length ca0_1, .int .i64 a0.Slots, .int .i64 a0.Speed, .int .i64 a0.From, .int .i64 a0.To, .slice Aa0_6 a0.Stands.length ca0_6], .int .i64 a1, .int .i64 a2]) (by kernel_rfl) (smithyardref9_ends_c (a0 := a0) (a1 := a1) (a2 := a2) (hra0_1.wk (fun _ h => (.tail _ h))) hca0_1 rfl (hra0_6.wk (fun _ h => (.tail _ h))) hca0_6 rfl hy4)) ?_
        rintro _ _ _ _ ⟨_, rfl, rfl, rfl, rfl⟩
        refine RgH.runk 9 [10, 11] (vs := []) (evs := []) (L' := [(10, .int .i64 y4.1), (11, .bool y4.2)]) (by kernel_rfl) (by kernel_rfl) (fun _ _ => trivial) ?_
        refine RgH.done (by kernel_rfl) ?_
        refine RunH.adm 2 (es' := [.c [1, 1, 1, 1, 0, 0], .c [1, 1, 1, 1, 0, 1], .c [1, 1, 1, 1, 1]]) (by kernel_rfl) ?_
        refine RunH.reg (by kernel_rfl) ?_
        refine RgH.runk 2 [10, 33] (vs := []) (evs := []) (L' := [(10, .int .i64 y4.1), (33, .bool (!y4.2))]) (by kernel_rfl) (by kernel_rfl) (fun _ _ => trivial) ?_
        refine RgH.done (by kernel_rfl) ?_
        rcases bool_cases (!y4.2) with hb4 | hb4
        · replace heq := bif_true hb4 heq
          refine RunH.condT (c := !y4.2) (by kernel_rfl) hb4 ?_
          refine RunH.adm 1 (es' := [.c [1, 1, 1, 1, 0, 1, 0, 0], .c [1, 1, 1, 1, 0, 1, 0, 1], .c [1, 1, 1, 1, 1]]) (by kernel_rfl) ?_
          refine RunH.reg (by kernel_rfl) ?_
          refine RgH.runk 3 [6, 7, 8] (vs := []) (evs := []) (L' := [(6, .int .i64 0), (7, .bool false), (8, .int .i64 0)]) (by kernel_rfl) (by kernel_rfl) (fun _ _ => trivial) ?_
          refine RgH.done (by kernel_rfl) ?_
          obtain rfl := Option.some.inj heq
          refine RunH.pick 1 [] (cs' := F) (by kernel_rfl) rfl ?_
          exact RunH.done (by kernel_rfl) Tryd.func13 (v := .tuple #[.int .i64 0, .bool false, .int .i64 0]) (by kernel_rfl) ⟨rfl, rfl, rfl⟩
        · replace heq := bif_false hb4 heq
          refine RunH.condF (c := !y4.2) (by kernel_rfl) hb4 ?_
          refine RunH.adm 2 (es' := [.c [1, 1, 1, 1, 1, 0], .c [1, 1, 1, 1, 1, 1]]) (by kernel_rfl) ?_
          refine RunH.reg (by kernel_rfl) ?_
          refine RgH.runk 4 [6, 7, 8] (vs := []) (evs := []) (L' := [(6, .int .i64 y4.1), (7, .bool true), (8, .int .i64 0)]) (by kernel_rfl) (by kernel_rfl) (fun _ _ => trivial) ?_
          refine RgH.done (by kernel_rfl) ?_
          obtain rfl := Option.some.inj heq
          refine RunH.pick 1 [] (cs' := F) (by kernel_rfl) rfl ?_
          exact RunH.done (by kernel_rfl) Tryd.func13 (v := .tuple #[.int .i64 y4.1, .bool true, .int .i64 0]) (by kernel_rfl) ⟨rfl, rfl, rfl⟩
    replace heq := ht1
    refine RunH.reg (by kernel_rfl) ?_
    refine RgH.runk 1 [1, 2, 3, 17] (vs := []) (evs := []) (L' := [(1, .int .i64 a1), (2, .int .i64 a2), (3, .pointer (some ⟨g1, 0, none⟩)), (17, .int .i64 a1)]) (by kernel_rfl) (by kernel_rfl) (fun _ _ => trivial) ?_
    obtain ⟨y2, hy2, heq⟩ := bind_some heq
    refine RgH.does (DoesH.call (d := 18) (g := 49) (args := #[.int .i64 a1, .int .i64 1, .int .i64 1000000]) (by kernel_rfl) (smithyardref9_within_c (a0 := a1) (a1 := 1) (a2 := 1000000)  hy2)) ?_
    rintro _ _ _ _ ⟨_, rfl, rfl, rfl, rfl⟩
    refine RgH.runk 4 [20, 1, 2, 3] (vs := []) (evs := []) (L' := [(20, .bool (!y2)), (1, .int .i64 a1), (2, .int .i64 a2), (3, .pointer (some ⟨g1, 0, none⟩))]) (by kernel_rfl) (by kernel_rfl) (fun _ _ => trivial) ?_
    rcases bool_cases (!y2) with hb2 | hb2
    · replace heq := bif_true hb2 heq
      refine RgH.val1 (v' := .bool true) (congrArg Value.bool hb2) ?_
      refine RgH.runk 8 [1, 2, 3, 24] (vs := []) (evs := []) (L' := [(1, .int .i64 a1), (2, .int .i64 a2), (3, .pointer (some ⟨g1, 0, none⟩)), (24, .bool true)]) (by kernel_rfl) (by kernel_rfl) (fun _ _ => trivial) ?_
      obtain rfl := Option.some.inj heq
      refine RgH.keep [1, 2, 3, 24] (L' := [(1, .int .i64 a1), (2, .int .i64 a2), (3, .pointer (some ⟨g1, 0, none⟩)), (24, .bool true)]) (by kernel_rfl) ?_
      refine RgH.done (by kernel_rfl) ?_
      exact K2
    · replace heq := bif_false hb2 heq
      refine RgH.val1 (v' := .bool false) (congrArg Value.bool hb2) ?_
      refine RgH.runk 5 [1, 2, 3, 20, 21] (vs := []) (evs := []) (L' := [(1, .int .i64 a1), (2, .int .i64 a2), (3, .pointer (some ⟨g1, 0, none⟩)), (20, .bool false), (21, .int .i64 a2)]) (by kernel_rfl) (by kernel_rfl) (fun _ _ => trivial) ?_
      obtain ⟨y3, hy3, heq⟩ := bind_some heq
      refine RgH.does (DoesH.call (d := 22) (g := 49) (args := #[.int .i64 a2, .int .i64 0, .int .i64 1000000000]) (by kernel_rfl) (smithyardref9_within_c (a0 := a2) (a1 := 0) (a2 := 1000000000)  hy3)) ?_
      rintro _ _ _ _ ⟨_, rfl, rfl, rfl, rfl⟩
      refine RgH.runk 8 [1, 2, 3, 24] (vs := []) (evs := []) (L' := [(1, .int .i64 a1), (2, .int .i64 a2), (3, .pointer (some ⟨g1, 0, none⟩)), (24, .bool (!y3))]) (by kernel_rfl) (by kernel_rfl) (fun _ _ => trivial) ?_
      obtain rfl := Option.some.inj heq
      refine RgH.keep [1, 2, 3, 24] (L' := [(1, .int .i64 a1), (2, .int .i64 a2), (3, .pointer (some ⟨g1, 0, none⟩)), (24, .bool (!y3))]) (by kernel_rfl) ?_
      refine RgH.done (by kernel_rfl) ?_
      exact K2
noncomputable def C52 : Ctx := { P := Tryd.prog, f := 52, N := 26, c := bodyOf Tryd.f52 }
def S52 (F : List Ch) (H0 : Hp) (r : Bool) (v : Value) (H : Hp) (cs : List Ch) : Prop := H0 = H ∧ v = .bool r ∧ F = cs
theorem slices_Equal_Pair.e1_c {w0 : World} {H : Hp} {F : List Ch} {r : Bool} : slices_Equal_Pair.e1 = some r → RunH C52 (S52 F H r) H w0 [.c [1, 1, 1, 0], .c [1, 1, 1, 1]] [] H (F) := by
  intro   heq
  unfold slices_Equal_Pair.e1 at heq
  refine RunH.reg (by kernel_rfl) ?_
  refine RgH.runk 1 [4] (vs := []) (evs := []) (L' := [(4, .bool true)]) (by kernel_rfl) (by kernel_rfl) (fun _ _ => trivial) ?_
  refine RgH.done (by kernel_rfl) ?_
  obtain rfl := Option.some.inj heq
  exact RunH.done (by kernel_rfl) Tryd.func52 (v := .bool true) (by kernel_rfl) ⟨rfl, rfl, rfl⟩
theorem slices_Equal_Pair.l2_c {w0 : World} {H : Hp} {F : List Ch} {r : Bool} (e1 : Option Bool)
    (he1 : e1 = some r → RunH C52 (S52 F H r) H w0 [.c [1, 1, 1, 0], .c [1, 1, 1, 1]] [] H (F)) : ∀ (k : Nat), ∀ (a0 : List Pair) (Aa0 : Option Addr) (ca0 : Nat) (a1 : List Pair) (Aa1 : Option Addr) (ca1 : Nat) (v13 : Int) , Rw kPair H F Aa0 a0 → a0.length ≤ ca0 → Rw kPair H F Aa1 a1 → a1.length ≤ ca1 → slices_Equal_Pair.l2 e1 k a0 a1 v13 = some r → RunH C52 (S52 F H r) H w0 [.c [1, 1, 0, 1, 0, 0], .l [1, 1, 0, 1, 0, 0], .b 0, .c [1, 1, 1]] [(0, .slice Aa0 a0.length ca0), (1, .slice Aa1 a1.length ca1), (12, .int .i64 (a0.length : Int)), (13, .int .i64 v13)] H (F) := by
  intro k
  induction k with
  | zero => intro a0 Aa0 ca0 a1 Aa1 ca1 v13 hra0 hca0 hra1 hca1 heq; exact nomatch (show (none : Option Bool) = some r from heq)
  | succ k ihk =>
    intro a0 Aa0 ca0 a1 Aa1 ca1 v13 hra0 hca0 hra1 hca1 heq
    rw [slices_Equal_Pair.l2] at heq
    refine RunH.adm 1 (es' := [.c [1, 1, 0, 1, 0, 0, 0], .c [1, 1, 0, 1, 0, 0, 1], .l [1, 1, 0, 1, 0, 0], .b 0, .c [1, 1, 1]]) (by kernel_rfl) ?_
    refine RunH.reg (by kernel_rfl) ?_
    refine RgH.runk 1 [0, 1, 12, 13, 14] (vs := []) (evs := []) (L' := [(0, .slice Aa0 a0.length ca0), (1, .slice Aa1 a1.length ca1), (12, .int .i64 (a0.length : Int)), (13, .int .i64 v13), (14, .bool (decide (v13 < (a0.length : Int))))]) (by kernel_rfl) (by kernel_rfl) (fun _ _ => trivial) ?_
    refine RgH.done (by kernel_rfl) ?_
    refine RunH.adm 1 (es' := [.c [1, 1, 0, 1, 0, 0, 1, 0], .c [1, 1, 0, 1, 0, 0, 1, 1], .l [1, 1, 0, 1, 0, 0], .b 0, .c [1, 1, 1]]) (by kernel_rfl) ?_
    rcases bool_cases (decide (v13 < (a0.length : Int))) with hb2 | hb2
    · replace heq := bif_true hb2 heq
      refine RunH.condT (c := decide (v13 < (a0.length : Int))) (by kernel_rfl) hb2 ?_
      refine RunH.adm 4 (es' := [.c [1, 1, 0, 1, 0, 0, 1, 1, 0, 0, 0], .c [1, 1, 0, 1, 0, 0, 1, 1, 0, 0, 1], .b 1, .c [1, 1, 0, 1, 0, 0, 1, 1, 1], .l [1, 1, 0, 1, 0, 0], .b 0, .c [1, 1, 1]]) (by kernel_rfl) ?_
      refine RunH.reg (by kernel_rfl) ?_
      refine RgH.runk 2 [0, 1, 5, 12, 13] (vs := []) (evs := []) (L' := [(0, .slice Aa0 a0.length ca0), (1, .slice Aa1 a1.length ca1), (5, .int .i64 v13), (12, .int .i64 (a0.length : Int)), (13, .int .i64 v13)]) (by kernel_rfl) (by kernel_rfl) (fun _ _ => trivial) ?_
      refine RgH.done (by kernel_rfl) ?_
      refine RunH.adm 1 (es' := [.c [1, 1, 0, 1, 0, 0, 1, 1, 0, 0, 1, 0], .c [1, 1, 0, 1, 0, 0, 1, 1, 0, 0, 1, 1], .b 1, .c [1, 1, 0, 1, 0, 0, 1, 1, 1], .l [1, 1, 0, 1, 0, 0], .b 0, .c [1, 1, 1]]) (by kernel_rfl) ?_
      refine RunH.keep [0, 1, 5, 12, 13] (L' := [(0, .slice Aa0 a0.length ca0), (1, .slice Aa1 a1.length ca1), (5, .int .i64 v13), (12, .int .i64 (a0.length : Int)), (13, .int .i64 v13)]) (by kernel_rfl) ?_
      refine RunH.draw (fun w => Heap H w0 w (F)) (fun w => Heap H w0 w (F)) [false, false, false, false, false, false, false, false, false] (n := 9) (ls := [false, false, false, false, false, false, false, false, false]) (by kernel_rfl) (by kernel_rfl) (by kernel_rfl) rfl ?_
      obtain ⟨x1, hx1, heq⟩ := bind_some heq
      obtain ⟨ha1, cs1, hK1, hcc1⟩ := hra0.get hx1
      obtain ⟨rfl⟩ := kPair_open hK1
      obtain ⟨x2, hx2, heq⟩ := bind_some heq
      obtain ⟨ha2, cs2, hK2, hcc2⟩ := hra1.get hx2
      obtain ⟨rfl⟩ := kPair_open hK2
      refine DrH.run [0, 1, 2, 3, 4, 5, 6, 7, 8] (m := 0) (ls' := [true, true, true, true, true, true, true, true, true]) (vs := [.string x1.Name, .string x1.Value, .string x2.Name, .string x2.Value]) (evs := [.need (Aa0 = some (adr Aa0) ∧ (0 : Int) ≤ v13 ∧ v13 < ((a0.length : Nat) : Int)), .load (((adr Aa0).add (v13.toNat * 2)).add 0) (.string x1.Name), .load (((adr Aa0).add (v13.toNat * 2)).add 1) (.string x1.Value), .need (Aa1 = some (adr Aa1) ∧ (0 : Int) ≤ v13 ∧ v13 < ((a1.length : Nat) : Int)), .load (((adr Aa1).add (v13.toNat * 2)).add 0) (.string x2.Name), .load (((adr Aa1).add (v13.toNat * 2)).add 1) (.string x2.Value)]) (L' := [(24, .bool (!(sEq x1.Name x2.Name && (sEq x1.Value x2.Value && true)))), (23, .agg #[.string x2.Name, .string x2.Value]), (22, .pointer (some ((adr Aa1).add (v13.toNat * 2)))), (21, .int .i64 v13), (20, .slice Aa1 a1.length ca1), (19, .agg #[.string x1.Name, .string x1.Value]), (18, .pointer (some ((adr Aa0).add (v13.toNat * 2)))), (17, .int .i64 v13), (16, .slice Aa0 a0.length ca0), (0, .slice Aa0 a0.length ca0), (1, .slice Aa1 a1.length ca1), (5, .int .i64 v13), (12, .int .i64 (a0.length : Int)), (13, .int .i64 v13)]) (by kernel_rfl) (fun w hh => hh.pick 0 [] (by kernel_rfl)) (fun w hh => hh.pick 0 [] (by kernel_rfl)) (by kernel_rfl) (fun w hh => ⟨⟨ha1, (at?_some hx1).1, (at?_some hx1).2.1⟩, (hcc1 _ _ (hh.drop 0) 0 _ rfl), (hcc1 _ _ (hh.drop 0) 1 _ rfl), ⟨ha2, (at?_some hx2).1, (at?_some hx2).2.1⟩, (hcc2 _ _ (hh.drop 0) 0 _ rfl), (hcc2 _ _ (hh.drop 0) 1 _ rfl)⟩) (by kernel_rfl) ?_
      refine DrH.keep [0, 1, 12, 13, 24] (L' := [(0, .slice Aa0 a0.length ca0), (1, .slice Aa1 a1.length ca1), (12, .int .i64 (a0.length : Int)), (13, .int .i64 v13), (24, .bool (!(sEq x1.Name x2.Name && (sEq x1.Value x2.Value && true))))]) (by kernel_rfl) ?_
      refine DrH.done (by kernel_rfl) ?_
      rcases bool_cases (!(sEq x1.Name x2.Name && (sEq x1.Value x2.Value && true))) with hb3 | hb3
      · replace heq := bif_true hb3 heq
        refine RunH.condT (c := !(sEq x1.Name x2.Name && (sEq x1.Value x2.Value && true))) (by kernel_rfl) hb3 ?_
        refine RunH.adm 1 (es' := [.c [1, 1, 0, 1, 0, 0, 1, 1, 0, 0, 1, 1, 0, 0], .c [1, 1, 0, 1, 0, 0, 1, 1, 0, 0, 1, 1, 0, 1], .b 1, .c [1, 1, 0, 1, 0, 0, 1, 1, 1], .l [1, 1, 0, 1, 0, 0], .b 0, .c [1, 1, 1]]) (by kernel_rfl) ?_
        refine RunH.reg (by kernel_rfl) ?_
        refine RgH.runk 1 [4] (vs := []) (evs := []) (L' := [(4, .bool false)]) (by kernel_rfl) (by kernel_rfl) (fun _ _ => trivial) ?_
        refine RgH.done (by kernel_rfl) ?_
        obtain rfl := Option.some.inj heq
        exact RunH.done (by kernel_rfl) Tryd.func52 (v := .bool false) (by kernel_rfl) ⟨rfl, rfl, rfl⟩
      · replace heq := bif_false hb3 heq
        refine RunH.condF (c := !(sEq x1.Name x2.Name && (sEq x1.Value x2.Value && true))) (by kernel_rfl) hb3 ?_
        refine RunH.adm 2 (es' := [.c [1, 1, 0, 1, 0, 0, 1, 1, 1], .l [1, 1, 0, 1, 0, 0], .b 0, .c [1, 1, 1]]) (by kernel_rfl) ?_
        refine RunH.reg (by kernel_rfl) ?_
        refine RgH.runk 2 [0, 1, 12, 13] (vs := []) (evs := []) (L' := [(0, .slice Aa0 a0.length ca0), (1, .slice Aa1 a1.length ca1), (12, .int .i64 (a0.length : Int)), (13, .int .i64 (w64 (v13 + 1)))]) (by kernel_rfl) (by kernel_rfl) (fun _ _ => trivial) ?_
        refine RgH.done (by kernel_rfl) ?_
        refine RunH.adm 1 (es' := [.c [1, 1, 0, 1, 0, 0], .l [1, 1, 0, 1, 0, 0], .b 0, .c [1, 1, 1]]) (by kernel_rfl) ?_
        refine RunH.keep [0, 1, 12, 13] (L' := [(0, .slice Aa0 a0.length ca0), (1, .slice Aa1 a1.length ca1), (12, .int .i64 (a0.length : Int)), (13, .int .i64 (w64 (v13 + 1)))]) (by kernel_rfl) ?_
        exact ihk a0 _ _ a1 _ _ (w64 (v13 + 1)) hra0 hca0 hra1 hca1 heq
    · replace heq := bif_false hb2 heq
      refine RunH.condF (c := decide (v13 < (a0.length : Int))) (by kernel_rfl) hb2 ?_
      refine RunH.adm 2 (es' := [.c [1, 1, 1, 0], .c [1, 1, 1, 1]]) (by kernel_rfl) ?_
      refine RunH.keep [] (L' := []) (by kernel_rfl) ?_
      exact he1 heq
theorem slices_Equal_Pair_c {w0 : World} {H : Hp} {F : List Ch} {a0 : List Pair} {Aa0 : Option Addr} {na0 : Nat} {ca0 : Nat} {a1 : List Pair} {Aa1 : Option Addr} {na1 : Nat} {ca1 : Nat} {r : Bool} (hra0 : Rw kPair H F Aa0 a0) (hca0 : na0 ≤ ca0) (hna0 : na0 = a0.length) (hra1 : Rw kPair H F Aa1 a1) (hca1 : na1 ≤ ca1) (hna1 : na1 = a1.length) (heq : slices_Equal_Pair.f a0 a1 = some r) : CallsH Tryd.prog 52 #[.slice Aa0 na0 ca0, .slice Aa1 na1 ca1] H w0 (F) (S52 F H r) := by
  refine calls_of_runH (F := C52) Tryd.func52 (by kernel_rfl) Tryd.ntmps52 (args := [.slice Aa0 na0 ca0, .slice Aa1 na1 ca1]) (by kernel_rfl) ?_
  subst hna0
  subst hna1
  unfold slices_Equal_Pair.f at heq
  refine RunH.adm 1 (es' := [.c [0], .c [1]]) (by kernel_rfl) ?_
  refine RunH.reg (by kernel_rfl) ?_
  refine RgH.runk 1 [0, 1] (vs := []) (evs := []) (L' := [(0, .slice Aa0 a0.length ca0), (1, .slice Aa1 a1.length ca1)]) (by kernel_rfl) (by kernel_rfl) (fun _ _ => trivial) ?_
  refine RgH.done (by kernel_rfl) ?_
  refine RunH.adm 2 (es' := [.c [1, 0, 0], .c [1, 0, 1], .c [1, 1]]) (by kernel_rfl) ?_
  refine RunH.reg (by kernel_rfl) ?_
  refine RgH.runk 5 [0, 1, 10] (vs := []) (evs := []) (L' := [(0, .slice Aa0 a0.length ca0), (1, .slice Aa1 a1.length ca1), (10, .bool ((a0.length : Int) != (a1.length : Int)))]) (by kernel_rfl) (by kernel_rfl) (fun _ _ => trivial) ?_
  refine RgH.done (by kernel_rfl) ?_
  rcases bool_cases ((a0.length : Int) != (a1.length : Int)) with hb1 | hb1
  · replace heq := bif_true hb1 heq
    refine RunH.condT (c := (a0.length : Int) != (a1.length : Int)) (by kernel_rfl) hb1 ?_
    refine RunH.adm 1 (es' := [.c [1, 0, 1, 0, 0], .c [1, 0, 1, 0, 1], .c [1, 1]]) (by kernel_rfl) ?_
    refine RunH.reg (by kernel_rfl) ?_
    refine RgH.runk 1 [4] (vs := []) (evs := []) (L' := [(4, .bool false)]) (by kernel_rfl) (by kernel_rfl) (fun _ _ => trivial) ?_
    refine RgH.done (by kernel_rfl) ?_
    obtain rfl := Option.some.inj heq
    exact RunH.done (by kernel_rfl) Tryd.func52 (v := .bool false) (by kernel_rfl) ⟨rfl, rfl, rfl⟩
  · replace heq := bif_false hb1 heq
    refine RunH.condF (c := (a0.length : Int) != (a1.length : Int)) (by kernel_rfl) hb1 ?_
    refine RunH.adm 3 (es' := [.c [1, 1, 0, 0], .c [1, 1, 0, 1], .c [1, 1, 1]]) (by kernel_rfl) ?_
    refine RunH.reg (by kernel_rfl) ?_
    refine RgH.runk 3 [0, 1, 12, 13] (vs := []) (evs := []) (L' := [(0, .slice Aa0 a0.length ca0), (1, .slice Aa1 a1.length ca1), (12, .int .i64 (a0.length : Int)), (13, .int .i64 0)]) (by kernel_rfl) (by kernel_rfl) (fun _ _ => trivial) ?_
    refine RgH.done (by kernel_rfl) ?_
    refine RunH.adm 2 (es' := [.c [1, 1, 0, 1, 0, 0], .l [1, 1, 0, 1, 0, 0], .b 0, .c [1, 1, 1]]) (by kernel_rfl) ?_
    refine RunH.keep [0, 1, 12, 13] (L' := [(0, .slice Aa0 a0.length ca0), (1, .slice Aa1 a1.length ca1), (12, .int .i64 (a0.length : Int)), (13, .int .i64 0)]) (by kernel_rfl) ?_
    exact ((slices_Equal_Pair.l2_c (e1 := slices_Equal_Pair.e1) (slices_Equal_Pair.e1_c)) big) a0 _ _ a1 _ _ 0 hra0 hca0 hra1 hca1 heq
noncomputable def C53 : Ctx := { P := Tryd.prog, f := 53, N := 26, c := bodyOf Tryd.f53 }
def S53 (F : List Ch) (H0 : Hp) (r : Bool) (v : Value) (H : Hp) (cs : List Ch) : Prop := H0 = H ∧ v = .bool r ∧ F = cs
theorem slices_Equal_Span.e1_c {w0 : World} {H : Hp} {F : List Ch} {r : Bool} : slices_Equal_Span.e1 = some r → RunH C53 (S53 F H r) H w0 [.c [1, 1, 1, 0], .c [1, 1, 1, 1]] [] H (F) := by
  intro   heq
  unfold slices_Equal_Span.e1 at heq
  refine RunH.reg (by kernel_rfl) ?_
  refine RgH.runk 1 [4] (vs := []) (evs := []) (L' := [(4, .bool true)]) (by kernel_rfl) (by kernel_rfl) (fun _ _ => trivial) ?_
  refine RgH.done (by kernel_rfl) ?_
  obtain rfl := Option.some.inj heq
  exact RunH.done (by kernel_rfl) Tryd.func53 (v := .bool true) (by kernel_rfl) ⟨rfl, rfl, rfl⟩
theorem slices_Equal_Span.l2_c {w0 : World} {H : Hp} {F : List Ch} {r : Bool} (e1 : Option Bool)
    (he1 : e1 = some r → RunH C53 (S53 F H r) H w0 [.c [1, 1, 1, 0], .c [1, 1, 1, 1]] [] H (F)) : ∀ (k : Nat), ∀ (a0 : List Span) (Aa0 : Option Addr) (ca0 : Nat) (a1 : List Span) (Aa1 : Option Addr) (ca1 : Nat) (v13 : Int) , Rw kSpan H F Aa0 a0 → a0.length ≤ ca0 → Rw kSpan H F Aa1 a1 → a1.length ≤ ca1 → slices_Equal_Span.l2 e1 k a0 a1 v13 = some r → RunH C53 (S53 F H r) H w0 [.c [1, 1, 0, 1, 0, 0], .l [1, 1, 0, 1, 0, 0], .b 0, .c [1, 1, 1]] [(0, .slice Aa0 a0.length ca0), (1, .slice Aa1 a1.length ca1), (12, .int .i64 (a0.length : Int)), (13, .int .i64 v13)] H (F) := by
  intro k
  induction k with
  | zero => intro a0 Aa0 ca0 a1 Aa1 ca1 v13 hra0 hca0 hra1 hca1 heq; exact nomatch (show (none : Option Bool) = some r from heq)
  | succ k ihk =>
    intro a0 Aa0 ca0 a1 Aa1 ca1 v13 hra0 hca0 hra1 hca1 heq
    rw [slices_Equal_Span.l2] at heq
    refine RunH.adm 1 (es' := [.c [1, 1, 0, 1, 0, 0, 0], .c [1, 1, 0, 1, 0, 0, 1], .l [1, 1, 0, 1, 0, 0], .b 0, .c [1, 1, 1]]) (by kernel_rfl) ?_
    refine RunH.reg (by kernel_rfl) ?_
    refine RgH.runk 1 [0, 1, 12, 13, 14] (vs := []) (evs := []) (L' := [(0, .slice Aa0 a0.length ca0), (1, .slice Aa1 a1.length ca1), (12, .int .i64 (a0.length : Int)), (13, .int .i64 v13), (14, .bool (decide (v13 < (a0.length : Int))))]) (by kernel_rfl) (by kernel_rfl) (fun _ _ => trivial) ?_
    refine RgH.done (by kernel_rfl) ?_
    refine RunH.adm 1 (es' := [.c [1, 1, 0, 1, 0, 0, 1, 0], .c [1, 1, 0, 1, 0, 0, 1, 1], .l [1, 1, 0, 1, 0, 0], .b 0, .c [1, 1, 1]]) (by kernel_rfl) ?_
    rcases bool_cases (decide (v13 < (a0.length : Int))) with hb2 | hb2
    · replace heq := bif_true hb2 heq
      refine RunH.condT (c := decide (v13 < (a0.length : Int))) (by kernel_rfl) hb2 ?_
      refine RunH.adm 4 (es' := [.c [1, 1, 0, 1, 0, 0, 1, 1, 0, 0, 0], .c [1, 1, 0, 1, 0, 0, 1, 1, 0, 0, 1], .b 1, .c [1, 1, 0, 1, 0, 0, 1, 1, 1], .l [1, 1, 0, 1, 0, 0], .b 0, .c [1, 1, 1]]) (by kernel_rfl) ?_
      refine RunH.reg (by kernel_rfl) ?_
      refine RgH.runk 2 [0, 1, 5, 12, 13] (vs := []) (evs := []) (L' := [(0, .slice Aa0 a0.length ca0), (1, .slice Aa1 a1.length ca1), (5, .int .i64 v13), (12, .int .i64 (a0.length : Int)), (13, .int .i64 v13)]) (by kernel_rfl) (by kernel_rfl) (fun _ _ => trivial) ?_
      refine RgH.done (by kernel_rfl) ?_
      refine RunH.adm 1 (es' := [.c [1, 1, 0, 1, 0, 0, 1, 1, 0, 0, 1, 0], .c [1, 1, 0, 1, 0, 0, 1, 1, 0, 0, 1, 1], .b 1, .c [1, 1, 0, 1, 0, 0, 1, 1, 1], .l [1, 1, 0, 1, 0, 0], .b 0, .c [1, 1, 1]]) (by kernel_rfl) ?_
      refine RunH.keep [0, 1, 5, 12, 13] (L' := [(0, .slice Aa0 a0.length ca0), (1, .slice Aa1 a1.length ca1), (5, .int .i64 v13), (12, .int .i64 (a0.length : Int)), (13, .int .i64 v13)]) (by kernel_rfl) ?_
      refine RunH.draw (fun w => Heap H w0 w (F)) (fun w => Heap H w0 w (F)) [false, false, false, false, false, false, false, false, false] (n := 9) (ls := [false, false, false, false, false, false, false, false, false]) (by kernel_rfl) (by kernel_rfl) (by kernel_rfl) rfl ?_
      obtain ⟨x1, hx1, heq⟩ := bind_some heq
      obtain ⟨ha1, cs1, hK1, hcc1⟩ := hra0.get hx1
      obtain ⟨rfl⟩ := kSpan_open hK1
      obtain ⟨x2, hx2, heq⟩ := bind_some heq
      obtain ⟨ha2, cs2, hK2, hcc2⟩ := hra1.get hx2
      obtain ⟨rfl⟩ := kSpan_open hK2
      refine DrH.run [0, 1, 2, 3, 4, 5, 6, 7, 8] (m := 0) (ls' := [true, true, true, true, true, true, true, true, true]) (vs := [.int .i64 x1.From, .int .i64 x1.To, .int .i64 x2.From, .int .i64 x2.To]) (evs := [.need (Aa0 = some (adr Aa0) ∧ (0 : Int) ≤ v13 ∧ v13 < ((a0.length : Nat) : Int)), .load (((adr Aa0).add (v13.toNat * 2)).add 0) (.int .i64 x1.From), .load (((adr Aa0).add (v13.toNat * 2)).add 1) (.int .i64 x1.To), .need (Aa1 = some (adr Aa1) ∧ (0 : Int) ≤ v13 ∧ v13 < ((a1.length : Nat) : Int)), .load (((adr Aa1).add (v13.toNat * 2)).add 0) (.int .i64 x2.From), .load (((adr Aa1).add (v13.toNat * 2)).add 1) (.int .i64 x2.To)]) (L' := [(24, .bool (!(x1.From == x2.From && (x1.To == x2.To && true)))), (23, .agg #[.int .i64 x2.From, .int .i64 x2.To]), (22, .pointer (some ((adr Aa1).add (v13.toNat * 2)))), (21, .int .i64 v13), (20, .slice Aa1 a1.length ca1), (19, .agg #[.int .i64 x1.From, .int .i64 x1.To]), (18, .pointer (some ((adr Aa0).add (v13.toNat * 2)))), (17, .int .i64 v13), (16, .slice Aa0 a0.length ca0), (0, .slice Aa0 a0.length ca0), (1, .slice Aa1 a1.length ca1), (5, .int .i64 v13), (12, .int .i64 (a0.length : Int)), (13, .int .i64 v13)]) (by kernel_rfl) (fun w hh => hh.pick 0 [] (by kernel_rfl)) (fun w hh => hh.pick 0 [] (by kernel_rfl)) (by kernel_rfl) (fun w hh => ⟨⟨ha1, (at?_some hx1).1, (at?_some hx1).2.1⟩, (hcc1 _ _ (hh.drop 0) 0 _ rfl), (hcc1 _ _ (hh.drop 0) 1 _ rfl), ⟨ha2, (at?_some hx2).1, (at?_some hx2).2.1⟩, (hcc2 _ _ (hh.drop 0) 0 _ rfl), (hcc2 _ _ (hh.drop 0) 1 _ rfl)⟩) (by kernel_rfl) ?_
      refine DrH.keep [0, 1, 12, 13, 24] (L' := [(0, .slice Aa0 a0.length ca0), (1, .slice Aa1 a1.length ca1), (12, .int .i64 (a0.length : Int)), (13, .int .i64 v13), (24, .bool (!(x1.From == x2.From && (x1.To == x2.To && true))))]) (by kernel_rfl) ?_
      refine DrH.done (by kernel_rfl) ?_
      rcases bool_cases (!(x1.From == x2.From && (x1.To == x2.To && true))) with hb3 | hb3
      · replace heq := bif_true hb3 heq
        refine RunH.condT (c := !(x1.From == x2.From && (x1.To == x2.To && true))) (by kernel_rfl) hb3 ?_
        refine RunH.adm 1 (es' := [.c [1, 1, 0, 1, 0, 0, 1, 1, 0, 0, 1, 1, 0, 0], .c [1, 1, 0, 1, 0, 0, 1, 1, 0, 0, 1, 1, 0, 1], .b 1, .c [1, 1, 0, 1, 0, 0, 1, 1, 1], .l [1, 1, 0, 1, 0, 0], .b 0, .c [1, 1, 1]]) (by kernel_rfl) ?_
        refine RunH.reg (by kernel_rfl) ?_
        refine RgH.runk 1 [4] (vs := []) (evs := []) (L' := [(4, .bool false)]) (by kernel_rfl) (by kernel_rfl) (fun _ _ => trivial) ?_
        refine RgH.done (by kernel_rfl) ?_
        obtain rfl := Option.some.inj heq
        exact RunH.done (by kernel_rfl) Tryd.func53 (v := .bool false) (by kernel_rfl) ⟨rfl, rfl, rfl⟩
      · replace heq := bif_false hb3 heq
        refine RunH.condF (c := !(x1.From == x2.From && (x1.To == x2.To && true))) (by kernel_rfl) hb3 ?_
        refine RunH.adm 2 (es' := [.c [1, 1, 0, 1, 0, 0, 1, 1, 1], .l [1, 1, 0, 1, 0, 0], .b 0, .c [1, 1, 1]]) (by kernel_rfl) ?_
        refine RunH.reg (by kernel_rfl) ?_
        refine RgH.runk 2 [0, 1, 12, 13] (vs := []) (evs := []) (L' := [(0, .slice Aa0 a0.length ca0), (1, .slice Aa1 a1.length ca1), (12, .int .i64 (a0.length : Int)), (13, .int .i64 (w64 (v13 + 1)))]) (by kernel_rfl) (by kernel_rfl) (fun _ _ => trivial) ?_
        refine RgH.done (by kernel_rfl) ?_
        refine RunH.adm 1 (es' := [.c [1, 1, 0, 1, 0, 0], .l [1, 1, 0, 1, 0, 0], .b 0, .c [1, 1, 1]]) (by kernel_rfl) ?_
        refine RunH.keep [0, 1, 12, 13] (L' := [(0, .slice Aa0 a0.length ca0), (1, .slice Aa1 a1.length ca1), (12, .int .i64 (a0.length : Int)), (13, .int .i64 (w64 (v13 + 1)))]) (by kernel_rfl) ?_
        exact ihk a0 _ _ a1 _ _ (w64 (v13 + 1)) hra0 hca0 hra1 hca1 heq
    · replace heq := bif_false hb2 heq
      refine RunH.condF (c := decide (v13 < (a0.length : Int))) (by kernel_rfl) hb2 ?_
      refine RunH.adm 2 (es' := [.c [1, 1, 1, 0], .c [1, 1, 1, 1]]) (by kernel_rfl) ?_
      refine RunH.keep [] (L' := []) (by kernel_rfl) ?_
      exact he1 heq
theorem slices_Equal_Span_c {w0 : World} {H : Hp} {F : List Ch} {a0 : List Span} {Aa0 : Option Addr} {na0 : Nat} {ca0 : Nat} {a1 : List Span} {Aa1 : Option Addr} {na1 : Nat} {ca1 : Nat} {r : Bool} (hra0 : Rw kSpan H F Aa0 a0) (hca0 : na0 ≤ ca0) (hna0 : na0 = a0.length) (hra1 : Rw kSpan H F Aa1 a1) (hca1 : na1 ≤ ca1) (hna1 : na1 = a1.length) (heq : slices_Equal_Span.f a0 a1 = some r) : CallsH Tryd.prog 53 #[.slice Aa0 na0 ca0, .slice Aa1 na1 ca1] H w0 (F) (S53 F H r) := by
  refine calls_of_runH (F := C53) Tryd.func53 (by kernel_rfl) Tryd.ntmps53 (args := [.slice Aa0 na0 ca0, .slice Aa1 na1 ca1]) (by kernel_rfl) ?_
  subst hna0
  subst hna1
  unfold slices_Equal_Span.f at heq
  refine RunH.adm 1 (es' := [.c [0], .c [1]]) (by kernel_rfl) ?_
  refine RunH.reg (by kernel_rfl) ?_
  refine RgH.runk 1 [0, 1] (vs := []) (evs := []) (L' := [(0, .slice Aa0 a0.length ca0), (1, .slice Aa1 a1.length ca1)]) (by kernel_rfl) (by kernel_rfl) (fun _ _ => trivial) ?_
  refine RgH.done (by kernel_rfl) ?_
  refine RunH.adm 2 (es' := [.c [1, 0, 0], .c [1, 0, 1], .c [1, 1]]) (by kernel_rfl) ?_
  refine RunH.reg (by kernel_rfl) ?_
  refine RgH.runk 5 [0, 1, 10] (vs := []) (evs := []) (L' := [(0, .slice Aa0 a0.length ca0), (1, .slice Aa1 a1.length ca1), (10, .bool ((a0.length : Int) != (a1.length : Int)))]) (by kernel_rfl) (by kernel_rfl) (fun _ _ => trivial) ?_
  refine RgH.done (by kernel_rfl) ?_
  rcases bool_cases ((a0.length : Int) != (a1.length : Int)) with hb1 | hb1
  · replace heq := bif_true hb1 heq
    refine RunH.condT (c := (a0.length : Int) != (a1.length : Int)) (by kernel_rfl) hb1 ?_
    refine RunH.adm 1 (es' := [.c [1, 0, 1, 0, 0], .c [1, 0, 1, 0, 1], .c [1, 1]]) (by kernel_rfl) ?_
    refine RunH.reg (by kernel_rfl) ?_
    refine RgH.runk 1 [4] (vs := []) (evs := []) (L' := [(4, .bool false)]) (by kernel_rfl) (by kernel_rfl) (fun _ _ => trivial) ?_
    refine RgH.done (by kernel_rfl) ?_
    obtain rfl := Option.some.inj heq
    exact RunH.done (by kernel_rfl) Tryd.func53 (v := .bool false) (by kernel_rfl) ⟨rfl, rfl, rfl⟩
  · replace heq := bif_false hb1 heq
    refine RunH.condF (c := (a0.length : Int) != (a1.length : Int)) (by kernel_rfl) hb1 ?_
    refine RunH.adm 3 (es' := [.c [1, 1, 0, 0], .c [1, 1, 0, 1], .c [1, 1, 1]]) (by kernel_rfl) ?_
    refine RunH.reg (by kernel_rfl) ?_
    refine RgH.runk 3 [0, 1, 12, 13] (vs := []) (evs := []) (L' := [(0, .slice Aa0 a0.length ca0), (1, .slice Aa1 a1.length ca1), (12, .int .i64 (a0.length : Int)), (13, .int .i64 0)]) (by kernel_rfl) (by kernel_rfl) (fun _ _ => trivial) ?_
    refine RgH.done (by kernel_rfl) ?_
    refine RunH.adm 2 (es' := [.c [1, 1, 0, 1, 0, 0], .l [1, 1, 0, 1, 0, 0], .b 0, .c [1, 1, 1]]) (by kernel_rfl) ?_
    refine RunH.keep [0, 1, 12, 13] (L' := [(0, .slice Aa0 a0.length ca0), (1, .slice Aa1 a1.length ca1), (12, .int .i64 (a0.length : Int)), (13, .int .i64 0)]) (by kernel_rfl) ?_
    exact ((slices_Equal_Span.l2_c (e1 := slices_Equal_Span.e1) (slices_Equal_Span.e1_c)) big) a0 _ _ a1 _ _ 0 hra0 hca0 hra1 hca1 heq
noncomputable def C14 : Ctx := { P := Tryd.prog, f := 14, N := 52, c := bodyOf Tryd.f14 }
def S14 (F : List Ch) (H0 : Hp) (r : Bool) (v : Value) (H : Hp) (cs : List Ch) : Prop := H0 = H ∧ v = .bool r ∧ F = cs
theorem smithyardref9_SameWorker_c {w0 : World} {H : Hp} {F : List Ch} {a0 : Worker} {Aa0_1 : Option Addr} {na0_1 : Nat} {ca0_1 : Nat} {Aa0_6 : Option Addr} {na0_6 : Nat} {ca0_6 : Nat} {a1 : Worker} {Aa1_1 : Option Addr} {na1_1 : Nat} {ca1_1 : Nat} {Aa1_6 : Option Addr} {na1_6 : Nat} {ca1_6 : Nat} {r : Bool} (hra0_1 : Rw kPair H F Aa0_1 a0.Has) (hca0_1 : na0_1 ≤ ca0_1) (hna0_1 : na0_1 = a0.Has.length) (hra0_6 : Rw kSpan H F Aa0_6 a0.Stands) (hca0_6 : na0_6 ≤ ca0_6) (hna0_6 : na0_6 = a0.Stands.length) (hra1_1 : Rw kPair H F Aa1_1 a1.Has) (hca1_1 : na1_1 ≤ ca1_1) (hna1_1 : na1_1 = a1.Has.length) (hra1_6 : Rw kSpan H F Aa1_6 a1.Stands) (hca1_6 : na1_6 ≤ ca1_6) (hna1_6 : na1_6 = a1.Stands.length) (heq : smithyardref9_SameWorker.f a0 a1 = some r) : CallsH Tryd.prog 14 #[.agg #[.string a0.Name, .slice Aa0_1 na0_1 ca0_1, .int .i64 a0.Slots, .int .i64 a0.Speed, .int .i64 a0.From, .int .i64 a0.To, .slice Aa0_6 na0_6 ca0_6], .agg #[.string a1.Name, .slice Aa1_1 na1_1 ca1_1, .int .i64 a1.Slots, .int .i64 a1.Speed, .int .i64 a1.From, .int .i64 a1.To, .slice Aa1_6 na1_6 ca1_6]] H w0 (F) (S14 F H r) := by
  refine calls_of_runH (F := C14) Tryd.func14 (by kernel_rfl) Tryd.ntmps14 (args := [.agg #[.string a0.Name, .slice Aa0_1 na0_1 ca0_1, .int .i64 a0.Slots, .int .i64 a0.Speed, .int .i64 a0.From, .int .i64 a0.To, .slice Aa0_6 na0_6 ca0_6], .agg #[.string a1.Name, .slice Aa1_1 na1_1 ca1_1, .int .i64 a1.Slots, .int .i64 a1.Speed, .int .i64 a1.From, .int .i64 a1.To, .slice Aa1_6 na1_6 ca1_6]]) (by kernel_rfl) ?_
  subst hna0_1
  subst hna0_6
  subst hna1_1
  subst hna1_6
  unfold smithyardref9_SameWorker.f at heq
  refine RunH.adm 1 (es' := [.c [0], .c [1]]) (by kernel_rfl) ?_
  refine RunH.reg (by kernel_rfl) ?_
  refine RgH.does (DoesH.new (d := 2) (v := fun g => .pointer (some ⟨g, 0, none⟩)) (o := fun g => .cells #[.string a0.Name, .slice Aa0_1 a0.Has.length ca0_1, .int .i64 a0.Slots, .int .i64 a0.Speed, .int .i64 a0.From, .int .i64 a0.To, .slice Aa0_6 a0.Stands.length ca0_6] 25 (0, 0)) (fun g => by kernel_rfl)) ?_
  rintro _ _ _ _ ⟨g1, rfl, rfl, rfl⟩
  refine RgH.does (DoesH.new (d := 3) (v := fun g => .pointer (some ⟨g, 0, none⟩)) (o := fun g => .cells #[.string a1.Name, .slice Aa1_1 a1.Has.length ca1_1, .int .i64 a1.Slots, .int .i64 a1.Speed, .int .i64 a1.From, .int .i64 a1.To, .slice Aa1_6 a1.Stands.length ca1_6] 25 (0, 0)) (fun g => by kernel_rfl)) ?_
  rintro _ _ _ _ ⟨g2, rfl, rfl, rfl⟩
  refine RgH.runk 3 [2, 3] (vs := []) (evs := []) (L' := [(2, .pointer (some ⟨g1, 0, none⟩)), (3, .pointer (some ⟨g2, 0, none⟩))]) (by kernel_rfl) (by kernel_rfl) (fun _ _ => trivial) ?_
  refine RgH.done (by kernel_rfl) ?_
  refine RunH.adm 1 (es' := [.c [1, 0], .c [1, 1]]) (by kernel_rfl) ?_
  obtain ⟨t1, ht1, heq⟩ := bind_some heq
  have K3 : RunH C14 (S14 F H r) H w0 [.c [1, 1]] [(4, .bool t1)] H (F) := by
    obtain rfl := Option.some.inj heq
    exact RunH.done (by kernel_rfl) Tryd.func14 (v := .bool t1) (by kernel_rfl) ⟨rfl, rfl, rfl⟩
  replace heq := ht1
  refine RunH.reg (by kernel_rfl) ?_
  refine RgH.runk 6 [10, 2, 3] (vs := [.string a0.Name, .string a1.Name]) (evs := [.load ⟨g1, 0, none⟩ (.string a0.Name), .load ⟨g2, 0, none⟩ (.string a1.Name)]) (L' := [(10, .bool (sEq a0.Name a1.Name)), (2, .pointer (some ⟨g1, 0, none⟩)), (3, .pointer (some ⟨g2, 0, none⟩))]) (by kernel_rfl) (by kernel_rfl) (fun w hh => ⟨(hh.box 1 rfl rfl), (hh.box 0 rfl rfl)⟩) ?_
  rcases bool_cases (sEq a0.Name a1.Name) with hb1 | hb1
  · replace heq := bif_true hb1 heq
    refine RgH.val1 (v' := .bool true) (congrArg Value.bool hb1) ?_
    refine RgH.runk 10 [2, 3, 10, 12, 14] (vs := [.slice Aa0_1 a0.Has.length ca0_1, .slice Aa1_1 a1.Has.length ca1_1]) (evs := [.load ⟨g1, 1, none⟩ (.slice Aa0_1 a0.Has.length ca0_1), .load ⟨g2, 1, none⟩ (.slice Aa1_1 a1.Has.length ca1_1)]) (L' := [(2, .pointer (some ⟨g1, 0, none⟩)), (3, .pointer (some ⟨g2, 0, none⟩)), (10, .bool true), (12, .slice Aa0_1 a0.Has.length ca0_1), (14, .slice Aa1_1 a1.Has.length ca1_1)]) (by kernel_rfl) (by kernel_rfl) (fun w hh => ⟨(hh.box 1 rfl rfl), (hh.box 0 rfl rfl)⟩) ?_
    obtain ⟨y1, hy1, heq⟩ := bind_some heq
    refine RgH.does (DoesH.call (d := 15) (g := 52) (args := #[.slice Aa0_1 a0.Has.length ca0_1, .slice Aa1_1 a1.Has.length ca1_1]) (by kernel_rfl) (slices_Equal_Pair_c (a0 := a0.Has) (a1 := a1.Has) (hra0_1.wk (fun _ h => (.tail _ (.tail _ h)))) hca0_1 rfl (hra1_1.wk (fun _ h => (.tail _ (.tail _ h)))) hca1_1 rfl hy1)) ?_
    rintro _ _ _ _ ⟨_, rfl, rfl, rfl, rfl⟩
    refine RgH.runk 13 [17, 2, 3] (vs := []) (evs := []) (L' := [(17, .bool y1), (2, .pointer (some ⟨g1, 0, none⟩)), (3, .pointer (some ⟨g2, 0, none⟩))]) (by kernel_rfl) (by kernel_rfl) (fun _ _ => trivial) ?_
    rcases bool_cases (y1) with hb2 | hb2
    · replace heq := bif_true hb2 heq
      refine RgH.val1 (v' := .bool true) (congrArg Value.bool hb2) ?_
      refine RgH.runk 20 [24, 2, 3] (vs := [.int .i64 a0.Slots, .int .i64 a1.Slots]) (evs := [.load ⟨g1, 2, none⟩ (.int .i64 a0.Slots), .load ⟨g2, 2, none⟩ (.int .i64 a1.Slots)]) (L' := [(24, .bool (a0.Slots == a1.Slots)), (2, .pointer (some ⟨g1, 0, none⟩)), (3, .pointer (some ⟨g2, 0, none⟩))]) (by kernel_rfl) (by kernel_rfl) (fun w hh => ⟨(hh.box 1 rfl rfl), (hh.box 0 rfl rfl)⟩) ?_
      rcases bool_cases (a0.Slots == a1.Slots) with hb3 | hb3
      · replace heq := bif_true hb3 heq
        refine RgH.val1 (v' := .bool true) (congrArg Value.bool hb3) ?_
        refine RgH.runk 27 [31, 2, 3] (vs := [.int .i64 a0.Speed, .int .i64 a1.Speed]) (evs := [.load ⟨g1, 3, none⟩ (.int .i64 a0.Speed), .load ⟨g2, 3, none⟩ (.int .i64 a1.Speed)]) (L' := [(31, .bool (a0.Speed == a1.Speed)), (2, .pointer (some ⟨g1, 0, none⟩)), (3, .pointer (some ⟨g2, 0, none⟩))]) (by kernel_rfl) (by kernel_rfl) (fun w hh => ⟨(hh.box 1 rfl rfl), (hh.box 0 rfl rfl)⟩) ?_
        rcases bool_cases (a0.Speed == a1.Speed) with hb4 | hb4
        · replace heq := bif_true hb4 heq
          refine RgH.val1 (v' := .bool true) (congrArg Value.bool hb4) ?_
          refine RgH.runk 34 [38, 2, 3] (vs := [.int .i64 a0.From, .int .i64 a1.From]) (evs := [.load ⟨g1, 4, none⟩ (.int .i64 a0.From), .load ⟨g2, 4, none⟩ (.int .i64 a1.From)]) (L' := [(38, .bool (a0.From == a1.From)), (2, .pointer (some ⟨g1, 0, none⟩)), (3, .pointer (some ⟨g2, 0, none⟩))]) (by kernel_rfl) (by kernel_rfl) (fun w hh => ⟨(hh.box 1 rfl rfl), (hh.box 0 rfl rfl)⟩) ?_
          rcases bool_cases (a0.From == a1.From) with hb5 | hb5
          · replace heq := bif_true hb5 heq
            refine RgH.val1 (v' := .bool true) (congrArg Value.bool hb5) ?_
            refine RgH.runk 41 [45, 2, 3] (vs := [.int .i64 a0.To, .int .i64 a1.To]) (evs := [.load ⟨g1, 5, none⟩ (.int .i64 a0.To), .load ⟨g2, 5, none⟩ (.int .i64 a1.To)]) (L' := [(45, .bool (a0.To == a1.To)), (2, .pointer (some ⟨g1, 0, none⟩)), (3, .pointer (some ⟨g2, 0, none⟩))]) (by kernel_rfl) (by kernel_rfl) (fun w hh => ⟨(hh.box 1 rfl rfl), (hh.box 0 rfl rfl)⟩) ?_
            rcases bool_cases (a0.To == a1.To) with hb6 | hb6
            · replace heq := bif_true hb6 heq
              refine RgH.val1 (v' := .bool true) (congrArg Value.bool hb6) ?_
              refine RgH.runk 45 [45, 47, 49] (vs := [.slice Aa0_6 a0.Stands.length ca0_6, .slice Aa1_6 a1.Stands.length ca1_6]) (evs := [.load ⟨g1, 6, none⟩ (.slice Aa0_6 a0.Stands.length ca0_6), .load ⟨g2, 6, none⟩ (.slice Aa1_6 a1.Stands.length ca1_6)]) (L' := [(45, .bool true), (47, .slice Aa0_6 a0.Stands.length ca0_6), (49, .slice Aa1_6 a1.Stands.length ca1_6)]) (by kernel_rfl) (by kernel_rfl) (fun w hh => ⟨(hh.box 1 rfl rfl), (hh.box 0 rfl rfl)⟩) ?_
              obtain ⟨y2, hy2, heq⟩ := bind_some heq
              refine RgH.does (DoesH.call (d := 50) (g := 53) (args := #[.slice Aa0_6 a0.Stands.length ca0_6, .slice Aa1_6 a1.Stands.length ca1_6]) (by kernel_rfl) (slices_Equal_Span_c (a0 := a0.Stands) (a1 := a1.Stands) (hra0_6.wk (fun _ h => (.tail _ (.tail _ h)))) hca0_6 rfl (hra1_6.wk (fun _ h => (.tail _ (.tail _ h)))) hca1_6 rfl hy2)) ?_
              rintro _ _ _ _ ⟨_, rfl, rfl, rfl, rfl⟩
              refine RgH.runk 48 [4] (vs := []) (evs := []) (L' := [(4, .bool y2)]) (by kernel_rfl) (by kernel_rfl) (fun _ _ => trivial) ?_
              obtain rfl := Option.some.inj heq
              refine RgH.keep [4] (L' := [(4, .bool y2)]) (by kernel_rfl) ?_
              refine RgH.pick 2 [] (cs' := F) (by kernel_rfl) rfl ?_
              refine RgH.done (by kernel_rfl) ?_
              exact K3
            · replace heq := bif_false hb6 heq
              refine RgH.val1 (v' := .bool false) (congrArg Value.bool hb6) ?_
              refine RgH.runk 48 [4] (vs := []) (evs := []) (L' := [(4, .bool false)]) (by kernel_rfl) (by kernel_rfl) (fun _ _ => trivial) ?_
              obtain rfl := Option.some.inj heq
              refine RgH.keep [4] (L' := [(4, .bool false)]) (by kernel_rfl) ?_
              refine RgH.pick 2 [] (cs' := F) (by kernel_rfl) rfl ?_
              refine RgH.done (by kernel_rfl) ?_
              exact K3
          · replace heq := bif_false hb5 heq
            refine RgH.val1 (v' := .bool false) (congrArg Value.bool hb5) ?_
            refine RgH.runk 48 [4] (vs := []) (evs := []) (L' := [(4, .bool false)]) (by kernel_rfl) (by kernel_rfl) (fun _ _ => trivial) ?_
            obtain rfl := Option.some.inj heq
            refine RgH.keep [4] (L' := [(4, .bool false)]) (by kernel_rfl) ?_
            refine RgH.pick 2 [] (cs' := F) (by kernel_rfl) rfl ?_
            refine RgH.done (by kernel_rfl) ?_
            exact K3
        · replace heq := bif_false hb4 heq
          refine RgH.val1 (v' := .bool false) (congrArg Value.bool hb4) ?_
          refine RgH.runk 48 [4] (vs := []) (evs := []) (L' := [(4, .bool false)]) (by kernel_rfl) (by kernel_rfl) (fun _ _ => trivial) ?_
          obtain rfl := Option.some.inj heq
          refine RgH.keep [4] (L' := [(4, .bool false)]) (by kernel_rfl) ?_
          refine RgH.pick 2 [] (cs' := F) (by kernel_rfl) rfl ?_
          refine RgH.done (by kernel_rfl) ?_
          exact K3
      · replace heq := bif_false hb3 heq
        refine RgH.val1 (v' := .bool false) (congrArg Value.bool hb3) ?_
        refine RgH.runk 48 [4] (vs := []) (evs := []) (L' := [(4, .bool false)]) (by kernel_rfl) (by kernel_rfl) (fun _ _ => trivial) ?_
        obtain rfl := Option.some.inj heq
        refine RgH.keep [4] (L' := [(4, .bool false)]) (by kernel_rfl) ?_
        refine RgH.pick 2 [] (cs' := F) (by kernel_rfl) rfl ?_
        refine RgH.done (by kernel_rfl) ?_
        exact K3
    · replace heq := bif_false hb2 heq
      refine RgH.val1 (v' := .bool false) (congrArg Value.bool hb2) ?_
      refine RgH.runk 48 [4] (vs := []) (evs := []) (L' := [(4, .bool false)]) (by kernel_rfl) (by kernel_rfl) (fun _ _ => trivial) ?_
      obtain rfl := Option.some.inj heq
      refine RgH.keep [4] (L' := [(4, .bool false)]) (by kernel_rfl) ?_
      refine RgH.pick 2 [] (cs' := F) (by kernel_rfl) rfl ?_
      refine RgH.done (by kernel_rfl) ?_
      exact K3
  · replace heq := bif_false hb1 heq
    refine RgH.val1 (v' := .bool false) (congrArg Value.bool hb1) ?_
    refine RgH.runk 48 [4] (vs := []) (evs := []) (L' := [(4, .bool false)]) (by kernel_rfl) (by kernel_rfl) (fun _ _ => trivial) ?_
    obtain rfl := Option.some.inj heq
    refine RgH.keep [4] (L' := [(4, .bool false)]) (by kernel_rfl) ?_
    refine RgH.pick 2 [] (cs' := F) (by kernel_rfl) rfl ?_
    refine RgH.done (by kernel_rfl) ?_
    exact K3
noncomputable def C4 : Ctx := { P := Tryd.prog, f := 4, N := 73, c := bodyOf Tryd.f4 }
def S4 (F : List Ch) (H0 : Hp) (r : Bool) (v : Value) (H : Hp) (cs : List Ch) : Prop := H0 = H ∧ v = .bool r ∧ F = cs
theorem smithyardlaw9_WorkersEndsMatchSpec_c {w0 : World} {H : Hp} {F : List Ch} {a0 : Worker} {Aa0_1 : Option Addr} {na0_1 : Nat} {ca0_1 : Nat} {Aa0_6 : Option Addr} {na0_6 : Nat} {ca0_6 : Nat} {a1 : Int} {a2 : Int} {r : Bool} (hra0_1 : Rw kPair H F Aa0_1 a0.Has) (hca0_1 : na0_1 ≤ ca0_1) (hna0_1 : na0_1 = a0.Has.length) (hra0_6 : Rw kSpan H F Aa0_6 a0.Stands) (hca0_6 : na0_6 ≤ ca0_6) (hna0_6 : na0_6 = a0.Stands.length) (heq : smithyardlaw9_WorkersEndsMatchSpec.f a0 a1 a2 = some r) : CallsH Tryd.prog 4 #[.agg #[.string a0.Name, .slice Aa0_1 na0_1 ca0_1, .int .i64 a0.Slots, .int .i64 a0.Speed, .int .i64 a0.From, .int .i64 a0.To, .slice Aa0_6 na0_6 ca0_6], .int .i64 a1, .int .i64 a2] H w0 (F) (S4 F H r) := by
  refine calls_of_runH (F := C4) Tryd.func4 (by kernel_rfl) Tryd.ntmps4 (args := [.agg #[.string a0.Name, .slice Aa0_1 na0_1 ca0_1, .int .i64 a0.Slots, .int .i64 a0.Speed, .int .i64 a0.From, .int .i64 a0.To, .slice Aa0_6 na0_6 ca0_6], .int .i64 a1, .int .i64 a2]) (by kernel_rfl) ?_
  subst hna0_1
  subst hna0_6
  unfold smithyardlaw9_WorkersEndsMatchSpec.f at heq
  refine RunH.adm 1 (es' := [.c [0], .c [1]]) (by kernel_rfl) ?_
  refine RunH.reg (by kernel_rfl) ?_
  refine RgH.does (DoesH.new (d := 3) (v := fun g => .pointer (some ⟨g, 0, none⟩)) (o := fun g => .cells #[.string a0.Name, .slice Aa0_1 a0.Has.length ca0_1, .int .i64 a0.Slots, .int .i64 a0.Speed, .int .i64 a0.From, .int .i64 a0.To, .slice Aa0_6 a0.Stands.length ca0_6] 25 (0, 0)) (fun g => by kernel_rfl)) ?_
  rintro _ _ _ _ ⟨g1, rfl, rfl, rfl⟩
  refine RgH.runk 2 [1, 2, 3] (vs := []) (evs := []) (L' := [(1, .int .i64 a1), (2, .int .i64 a2), (3, .pointer (some ⟨g1, 0, none⟩))]) (by kernel_rfl) (by kernel_rfl) (fun _ _ => trivial) ?_
  refine RgH.done (by kernel_rfl) ?_
  refine RunH.adm 1 (es' := [.c [1, 0], .c [1, 1]]) (by kernel_rfl) ?_
  refine RunH.reg (by kernel_rfl) ?_
  refine RgH.runk 1 [1, 2, 3, 14] (vs := [.string a0.Name, .slice Aa0_1 a0.Has.length ca0_1, .int .i64 a0.Slots, .int .i64 a0.Speed, .int .i64 a0.From, .int .i64 a0.To, .slice Aa0_6 a0.Stands.length ca0_6]) (evs := [.load ⟨g1, 0, none⟩ (.string a0.Name), .load ⟨g1, 1, none⟩ (.slice Aa0_1 a0.Has.length ca0_1), .load ⟨g1, 2, none⟩ (.int .i64 a0.Slots), .load ⟨g1, 3, none⟩ (.int .i64 a0.Speed), .load ⟨g1, 4, none⟩ (.int .i64 a0.From), .load ⟨g1, 5, none⟩ (.int .i64 a0.To), .load ⟨g1, 6, none⟩ (.slice Aa0_6 a0.Stands.length ca0_6)]) (L' := [(1, .int .i64 a1), (2, .int .i64 a2), (3, .pointer (some ⟨g1, 0, none⟩)), (14, .agg #[.string a0.Name, .slice Aa0_1 a0.Has.length ca0_1, .int .i64 a0.Slots, .int .i64 a0.Speed, .int .i64 a0.From, .int .i64 a0.To, .slice Aa0_6 a0.Stands.length ca0_6])]) (by kernel_rfl) (by kernel_rfl) (fun w hh => ⟨(hh.box 0 rfl rfl), (hh.box 0 rfl rfl), (hh.box 0 rfl rfl), (hh.box 0 rfl rfl), (hh.box 0 rfl rfl), (hh.box 0 rfl rfl), (hh.box 0 rfl rfl)⟩) ?_
  obtain ⟨y1, hy1, heq⟩ := bind_some heq
  refine RgH.does (DoesH.call (d := 15) (g := 10) (args := #[.agg #[.string a0.Name, .slice Aa0_1 a0.Has.length ca0_1, .int .i64 a0.Slots, .int .i64 a0.Speed, .int .i64 a0.From, .int .i64 a0.To, .slice Aa0_6 a0.Stands.length ca0_6]]) (by kernel_rfl) (smithyardref9_CopyWorker_c (a0 := a0) (hra0_1.wk (fun _ h => (.tail _ h))) hca0_1 rfl (hra0_6.wk (fun _ h => (.tail _ h))) hca0_6 rfl hy1)) ?_
  rintro _ _ _ _ ⟨_, rfl, A1, c1, ch1, A2, c2, ch2, rfl, rfl, rfl, ho1, ho2⟩
  refine RgH.does (DoesH.new (d := 7) (v := fun g => .pointer (some ⟨g, 0, none⟩)) (o := fun g => .cells #[.string ByteArray.empty, .slice none 0 0, .int .i64 0, .int .i64 0, .int .i64 0, .int .i64 0, .slice none 0 0] 25 (0, 0)) (fun g => by kernel_rfl)) ?_
  rintro _ _ _ _ ⟨g2, rfl, rfl, rfl⟩
  refine RgH.does (DoesH.store (k := 0) (g := g2) (off := 0) (v := .agg #[.string y1.Name, .slice A1 y1.Has.length c1, .int .i64 y1.Slots, .int .i64 y1.Speed, .int .i64 y1.From, .int .i64 y1.To, .slice A2 y1.Stands.length c2]) (cells' := #[.string y1.Name, .slice A1 y1.Has.length c1, .int .i64 y1.Slots, .int .i64 y1.Speed, .int .i64 y1.From, .int .i64 y1.To, .slice A2 y1.Stands.length c2]) (by kernel_rfl) rfl (by kernel_rfl) (by kernel_rfl)) ?_
  rintro _ _ _ _ ⟨rfl, rfl, rfl⟩
  refine RgH.done (by kernel_rfl) ?_
  refine RunH.adm 1 (es' := [.c [1, 1, 0], .c [1, 1, 1]]) (by kernel_rfl) ?_
  refine RunH.reg (by kernel_rfl) ?_
  refine RgH.runk 2 [1, 2, 3, 7, 17, 18] (vs := [.string a0.Name, .slice Aa0_1 a0.Has.length ca0_1, .int .i64 a0.Slots, .int .i64 a0.Speed, .int .i64 a0.From, .int .i64 a0.To, .slice Aa0_6 a0.Stands.length ca0_6]) (evs := [.load ⟨g1, 0, none⟩ (.string a0.Name), .load ⟨g1, 1, none⟩ (.slice Aa0_1 a0.Has.length ca0_1), .load ⟨g1, 2, none⟩ (.int .i64 a0.Slots), .load ⟨g1, 3, none⟩ (.int .i64 a0.Speed), .load ⟨g1, 4, none⟩ (.int .i64 a0.From), .load ⟨g1, 5, none⟩ (.int .i64 a0.To), .load ⟨g1, 6, none⟩ (.slice Aa0_6 a0.Stands.length ca0_6)]) (L' := [(1, .int .i64 a1), (2, .int .i64 a2), (3, .pointer (some ⟨g1, 0, none⟩)), (7, .pointer (some ⟨g2, 0, none⟩)), (17, .agg #[.string a0.Name, .slice Aa0_1 a0.Has.length ca0_1, .int .i64 a0.Slots, .int .i64 a0.Speed, .int .i64 a0.From, .int .i64 a0.To, .slice Aa0_6 a0.Stands.length ca0_6]), (18, .int .i64 a1)]) (by kernel_rfl) (by kernel_rfl) (fun w hh => ⟨(hh.box 3 rfl rfl), (hh.box 3 rfl rfl), (hh.box 3 rfl rfl), (hh.box 3 rfl rfl), (hh.box 3 rfl rfl), (hh.box 3 rfl rfl), (hh.box 3 rfl rfl)⟩) ?_
  obtain ⟨y2, hy2, heq⟩ := bind_some heq
  refine RgH.does (DoesH.call (d := 19) (g := 11) (args := #[.agg #[.string a0.Name, .slice Aa0_1 a0.Has.length ca0_1, .int .i64 a0.Slots, .int .i64 a0.Speed, .int .i64 a0.From, .int .i64 a0.To, .slice Aa0_6 a0.Stands.length ca0_6], .int .i64 a1]) (by kernel_rfl) (workers_Seconds_c (a0 := a0) (a1 := a1) (hra0_1.wk (fun _ h => (.tail _ (.tail _ (.tail _ (.tail _ h)))))) hca0_1 rfl (hra0_6.wk (fun _ h => (.tail _ (.tail _ (.tail _ (.tail _ h)))))) hca0_6 rfl hy2)) ?_
  rintro _ _ _ _ ⟨_, rfl, rfl, rfl, rfl⟩
  refine RgH.runk 8 [1, 2, 3, 7, 8, 9] (vs := []) (evs := []) (L' := [(1, .int .i64 a1), (2, .int .i64 a2), (3, .pointer (some ⟨g1, 0, none⟩)), (7, .pointer (some ⟨g2, 0, none⟩)), (8, .int .i64 y2.1), (9, .int .i64 y2.2)]) (by kernel_rfl) (by kernel_rfl) (fun _ _ => trivial) ?_
  refine RgH.done (by kernel_rfl) ?_
  refine RunH.adm 1 (es' := [.c [1, 1, 1, 0], .c [1, 1, 1, 1]]) (by kernel_rfl) ?_
  refine RunH.reg (by kernel_rfl) ?_
  refine RgH.runk 2 [1, 2, 3, 7, 8, 9, 23, 24] (vs := [.string y1.Name, .slice A1 y1.Has.length c1, .int .i64 y1.Slots, .int .i64 y1.Speed, .int .i64 y1.From, .int .i64 y1.To, .slice A2 y1.Stands.length c2]) (evs := [.load ⟨g2, 0, none⟩ (.string y1.Name), .load ⟨g2, 1, none⟩ (.slice A1 y1.Has.length c1), .load ⟨g2, 2, none⟩ (.int .i64 y1.Slots), .load ⟨g2, 3, none⟩ (.int .i64 y1.Speed), .load ⟨g2, 4, none⟩ (.int .i64 y1.From), .load ⟨g2, 5, none⟩ (.int .i64 y1.To), .load ⟨g2, 6, none⟩ (.slice A2 y1.Stands.length c2)]) (L' := [(1, .int .i64 a1), (2, .int .i64 a2), (3, .pointer (some ⟨g1, 0, none⟩)), (7, .pointer (some ⟨g2, 0, none⟩)), (8, .int .i64 y2.1), (9, .int .i64 y2.2), (23, .agg #[.string y1.Name, .slice A1 y1.Has.length c1, .int .i64 y1.Slots, .int .i64 y1.Speed, .int .i64 y1.From, .int .i64 y1.To, .slice A2 y1.Stands.length c2]), (24, .int .i64 a1)]) (by kernel_rfl) (by kernel_rfl) (fun w hh => ⟨(hh.box 0 rfl rfl), (hh.box 0 rfl rfl), (hh.box 0 rfl rfl), (hh.box 0 rfl rfl), (hh.box 0 rfl rfl), (hh.box 0 rfl rfl), (hh.box 0 rfl rfl)⟩) ?_
  obtain ⟨y3, hy3, heq⟩ := bind_some heq
  refine RgH.does (DoesH.call (d := 25) (g := 12) (args := #[.agg #[.string y1.Name, .slice A1 y1.Has.length c1, .int .i64 y1.Slots, .int .i64 y1.Speed, .int .i64 y1.From, .int .i64 y1.To, .slice A2 y1.Stands.length c2], .int .i64 a1]) (by kernel_rfl) (smithyardref9_Seconds_c (a0 := (⟨y1.Name, y1.Has, y1.Slots, y1.Speed, y1.From, y1.To, y1.Stands⟩ : Worker)) (a1 := a1) (ho1.rw (.tail _ (.head _))) ho1.cap rfl (ho2.rw (.tail _ (.tail _ (.head _)))) ho2.cap rfl hy3)) ?_
  rintro _ _ _ _ ⟨_, rfl, rfl, rfl, rfl⟩
  refine RgH.runk 8 [1, 2, 3, 7, 8, 9, 10, 11] (vs := []) (evs := []) (L' := [(1, .int .i64 a1), (2, .int .i64 a2), (3, .pointer (some ⟨g1, 0, none⟩)), (7, .pointer (some ⟨g2, 0, none⟩)), (8, .int .i64 y2.1), (9, .int .i64 y2.2), (10, .int .i64 y3.1), (11, .int .i64 y3.2)]) (by kernel_rfl) (by kernel_rfl) (fun _ _ => trivial) ?_
  refine RgH.done (by kernel_rfl) ?_
  refine RunH.adm 2 (es' := [.c [1, 1, 1, 1, 0, 0], .c [1, 1, 1, 1, 0, 1], .c [1, 1, 1, 1, 1]]) (by kernel_rfl) ?_
  obtain ⟨t1, ht1, heq⟩ := bind_some heq
  have K5 : RunH C4 (S4 F H r) H w0 [.c [1, 1, 1, 1, 0, 1], .c [1, 1, 1, 1, 1]] [(1, .int .i64 a1), (2, .int .i64 a2), (3, .pointer (some ⟨g1, 0, none⟩)), (7, .pointer (some ⟨g2, 0, none⟩)), (35, .bool t1)] H ((some (g2, .cells #[.string y1.Name, .slice A1 y1.Has.length c1, .int .i64 y1.Slots, .int .i64 y1.Speed, .int .i64 y1.From, .int .i64 y1.To, .slice A2 y1.Stands.length c2] 25 (0, 0))) :: ch1 :: ch2 :: (some (g1, .cells #[.string a0.Name, .slice Aa0_1 a0.Has.length ca0_1, .int .i64 a0.Slots, .int .i64 a0.Speed, .int .i64 a0.From, .int .i64 a0.To, .slice Aa0_6 a0.Stands.length ca0_6] 25 (0, 0))) :: F) := by
    rcases bool_cases (t1) with hb2 | hb2
    · replace heq := bif_true hb2 heq
      refine RunH.condT (c := t1) (by kernel_rfl) hb2 ?_
      refine RunH.adm 1 (es' := [.c [1, 1, 1, 1, 0, 1, 0, 0], .c [1, 1, 1, 1, 0, 1, 0, 1], .c [1, 1, 1, 1, 1]]) (by kernel_rfl) ?_
      refine RunH.reg (by kernel_rfl) ?_
      refine RgH.runk 1 [6] (vs := []) (evs := []) (L' := [(6, .bool false)]) (by kernel_rfl) (by kernel_rfl) (fun _ _ => trivial) ?_
      refine RgH.done (by kernel_rfl) ?_
      obtain rfl := Option.some.inj heq
      refine RunH.pick 4 [] (cs' := F) (by kernel_rfl) rfl ?_
      exact RunH.done (by kernel_rfl) Tryd.func4 (v := .bool false) (by kernel_rfl) ⟨rfl, rfl, rfl⟩
    · replace heq := bif_false hb2 heq
      refine RunH.condF (c := t1) (by kernel_rfl) hb2 ?_
      refine RunH.adm 2 (es' := [.c [1, 1, 1, 1, 1, 0], .c [1, 1, 1, 1, 1, 1]]) (by kernel_rfl) ?_
      refine RunH.reg (by kernel_rfl) ?_
      refine RgH.runk 3 [1, 2, 3, 7, 37, 38, 39] (vs := [.string a0.Name, .slice Aa0_1 a0.Has.length ca0_1, .int .i64 a0.Slots, .int .i64 a0.Speed, .int .i64 a0.From, .int .i64 a0.To, .slice Aa0_6 a0.Stands.length ca0_6]) (evs := [.load ⟨g1, 0, none⟩ (.string a0.Name), .load ⟨g1, 1, none⟩ (.slice Aa0_1 a0.Has.length ca0_1), .load ⟨g1, 2, none⟩ (.int .i64 a0.Slots), .load ⟨g1, 3, none⟩ (.int .i64 a0.Speed), .load ⟨g1, 4, none⟩ (.int .i64 a0.From), .load ⟨g1, 5, none⟩ (.int .i64 a0.To), .load ⟨g1, 6, none⟩ (.slice Aa0_6 a0.Stands.length ca0_6)]) (L' := [(1, .int .i64 a1), (2, .int .i64 a2), (3, .pointer (some ⟨g1, 0, none⟩)), (7, .pointer (some ⟨g2, 0, none⟩)), (37, .agg #[.string a0.Name, .slice Aa0_1 a0.Has.length ca0_1, .int .i64 a0.Slots, .int .i64 a0.Speed, .int .i64 a0.From, .int .i64 a0.To, .slice Aa0_6 a0.Stands.length ca0_6]), (38, .int .i64 a1), (39, .int .i64 a2)]) (by kernel_rfl) (by kernel_rfl) (fun w hh => ⟨(hh.box 3 rfl rfl), (hh.box 3 rfl rfl), (hh.box 3 rfl rfl), (hh.box 3 rfl rfl), (hh.box 3 rfl rfl), (hh.box 3 rfl rfl), (hh.box 3 rfl rfl)⟩) ?_
      obtain ⟨y4, hy4, heq⟩ := bind_some heq
      refine RgH.does (DoesH.call (d := 40) (g := 9) (args := #[.agg #[.string a0.Name, .slice Aa0_1 a0.Has.length ca0_1, .int .i64 a0.Slots, .int .i64 a0.Speed, .int .i64 a0.From, .int .i64 a0.To, .slice Aa0_6 a0.Stands.length ca0_6], .int .i64 a1, .int .i64 a2]) (by kernel_rfl) (workers_Ends_c (a0 := a0) (a1 := a1) (a2 := a2) (hra0_1.wk (fun _ h => (.tail _ (.tail _ (.tail _ (.tail _ h)))))) hca0_1 rfl (hra0_6.wk (fun _ h => (.tail _ (.tail _ (.tail _ (.tail _ h)))))) hca0_6 rfl hy4)) ?_
      rintro _ _ _ _ ⟨_, rfl, rfl, rfl, rfl⟩
      refine RgH.runk 11 [1, 2, 3, 7, 8, 9, 12] (vs := []) (evs := []) (L' := [(1, .int .i64 a1), (2, .int .i64 a2), (3, .pointer (some ⟨g1, 0, none⟩)), (7, .pointer (some ⟨g2, 0, none⟩)), (8, .int .i64 y4.1), (9, .int .i64 y4.2.2), (12, .bool y4.2.1)]) (by kernel_rfl) (by kernel_rfl) (fun _ _ => trivial) ?_
      refine RgH.done (by kernel_rfl) ?_
      refine RunH.adm 1 (es' := [.c [1, 1, 1, 1, 1, 1, 0], .c [1, 1, 1, 1, 1, 1, 1]]) (by kernel_rfl) ?_
      refine RunH.reg (by kernel_rfl) ?_
      refine RgH.runk 3 [3, 7, 8, 9, 12, 45, 46, 47] (vs := [.string y1.Name, .slice A1 y1.Has.length c1, .int .i64 y1.Slots, .int .i64 y1.Speed, .int .i64 y1.From, .int .i64 y1.To, .slice A2 y1.Stands.length c2]) (evs := [.load ⟨g2, 0, none⟩ (.string y1.Name), .load ⟨g2, 1, none⟩ (.slice A1 y1.Has.length c1), .load ⟨g2, 2, none⟩ (.int .i64 y1.Slots), .load ⟨g2, 3, none⟩ (.int .i64 y1.Speed), .load ⟨g2, 4, none⟩ (.int .i64 y1.From), .load ⟨g2, 5, none⟩ (.int .i64 y1.To), .load ⟨g2, 6, none⟩ (.slice A2 y1.Stands.length c2)]) (L' := [(3, .pointer (some ⟨g1, 0, none⟩)), (7, .pointer (some ⟨g2, 0, none⟩)), (8, .int .i64 y4.1), (9, .int .i64 y4.2.2), (12, .bool y4.2.1), (45, .agg #[.string y1.Name, .slice A1 y1.Has.length c1, .int .i64 y1.Slots, .int .i64 y1.Speed, .int .i64 y1.From, .int .i64 y1.To, .slice A2 y1.Stands.length c2]), (46, .int .i64 a1), (47, .int .i64 a2)]) (by kernel_rfl) (by kernel_rfl) (fun w hh => ⟨(hh.box 0 rfl rfl), (hh.box 0 rfl rfl), (hh.box 0 rfl rfl), (hh.box 0 rfl rfl), (hh.box 0 rfl rfl), (hh.box 0 rfl rfl), (hh.box 0 rfl rfl)⟩) ?_
      obtain ⟨y5, hy5, heq⟩ := bind_some heq
      refine RgH.does (DoesH.call (d := 48) (g := 13) (args := #[.agg #[.string y1.Name, .slice A1 y1.Has.length c1, .int .i64 y1.Slots, .int .i64 y1.Speed, .int .i64 y1.From, .int .i64 y1.To, .slice A2 y1.Stands.length c2], .int .i64 a1, .int .i64 a2]) (by kernel_rfl) (smithyardref9_Ends_c (a0 := (⟨y1.Name, y1.Has, y1.Slots, y1.Speed, y1.From, y1.To, y1.Stands⟩ : Worker)) (a1 := a1) (a2 := a2) (ho1.rw (.tail _ (.head _))) ho1.cap rfl (ho2.rw (.tail _ (.tail _ (.head _)))) ho2.cap rfl hy5)) ?_
      rintro _ _ _ _ ⟨_, rfl, rfl, rfl, rfl⟩
      refine RgH.runk 11 [3, 7, 8, 9, 10, 11, 12, 13] (vs := []) (evs := []) (L' := [(3, .pointer (some ⟨g1, 0, none⟩)), (7, .pointer (some ⟨g2, 0, none⟩)), (8, .int .i64 y4.1), (9, .int .i64 y4.2.2), (10, .int .i64 y5.1), (11, .int .i64 y5.2.2), (12, .bool y4.2.1), (13, .bool y5.2.1)]) (by kernel_rfl) (by kernel_rfl) (fun _ _ => trivial) ?_
      refine RgH.done (by kernel_rfl) ?_
      refine RunH.adm 1 (es' := [.c [1, 1, 1, 1, 1, 1, 1, 0], .c [1, 1, 1, 1, 1, 1, 1, 1]]) (by kernel_rfl) ?_
      obtain ⟨t2, ht2, heq⟩ := bind_some heq
      have K6 : RunH C4 (S4 F H r) H w0 [.c [1, 1, 1, 1, 1, 1, 1, 1]] [(6, .bool t2)] H (F) := by
        obtain rfl := Option.some.inj heq
        exact RunH.done (by kernel_rfl) Tryd.func4 (v := .bool t2) (by kernel_rfl) ⟨rfl, rfl, rfl⟩
      replace heq := ht2
      refine RunH.reg (by kernel_rfl) ?_
      refine RgH.runk 4 [55, 3, 7, 8, 10, 12, 13] (vs := []) (evs := []) (L' := [(55, .bool (y4.2.2 == y5.2.2)), (3, .pointer (some ⟨g1, 0, none⟩)), (7, .pointer (some ⟨g2, 0, none⟩)), (8, .int .i64 y4.1), (10, .int .i64 y5.1), (12, .bool y4.2.1), (13, .bool y5.2.1)]) (by kernel_rfl) (by kernel_rfl) (fun _ _ => trivial) ?_
      rcases bool_cases (y4.2.2 == y5.2.2) with hb3 | hb3
      · replace heq := bif_true hb3 heq
        refine RgH.val1 (v' := .bool true) (congrArg Value.bool hb3) ?_
        refine RgH.runk 9 [60, 3, 7, 12, 13] (vs := []) (evs := []) (L' := [(60, .bool (y4.1 == y5.1)), (3, .pointer (some ⟨g1, 0, none⟩)), (7, .pointer (some ⟨g2, 0, none⟩)), (12, .bool y4.2.1), (13, .bool y5.2.1)]) (by kernel_rfl) (by kernel_rfl) (fun _ _ => trivial) ?_
        rcases bool_cases (y4.1 == y5.1) with hb4 | hb4
        · replace heq := bif_true hb4 heq
          refine RgH.val1 (v' := .bool true) (congrArg Value.bool hb4) ?_
          refine RgH.runk 14 [65, 3, 7] (vs := []) (evs := []) (L' := [(65, .bool (y4.2.1 == y5.2.1)), (3, .pointer (some ⟨g1, 0, none⟩)), (7, .pointer (some ⟨g2, 0, none⟩))]) (by kernel_rfl) (by kernel_rfl) (fun _ _ => trivial) ?_
          rcases bool_cases (y4.2.1 == y5.2.1) with hb5 | hb5
          · replace heq := bif_true hb5 heq
            refine RgH.val1 (v' := .bool true) (congrArg Value.bool hb5) ?_
            refine RgH.runk 16 [65, 66, 67] (vs := [.string a0.Name, .slice Aa0_1 a0.Has.length ca0_1, .int .i64 a0.Slots, .int .i64 a0.Speed, .int .i64 a0.From, .int .i64 a0.To, .slice Aa0_6 a0.Stands.length ca0_6, .string y1.Name, .slice A1 y1.Has.length c1, .int .i64 y1.Slots, .int .i64 y1.Speed, .int .i64 y1.From, .int .i64 y1.To, .slice A2 y1.Stands.length c2]) (evs := [.load ⟨g1, 0, none⟩ (.string a0.Name), .load ⟨g1, 1, none⟩ (.slice Aa0_1 a0.Has.length ca0_1), .load ⟨g1, 2, none⟩ (.int .i64 a0.Slots), .load ⟨g1, 3, none⟩ (.int .i64 a0.Speed), .load ⟨g1, 4, none⟩ (.int .i64 a0.From), .load ⟨g1, 5, none⟩ (.int .i64 a0.To), .load ⟨g1, 6, none⟩ (.slice Aa0_6 a0.Stands.length ca0_6), .load ⟨g2, 0, none⟩ (.string y1.Name), .load ⟨g2, 1, none⟩ (.slice A1 y1.Has.length c1), .load ⟨g2, 2, none⟩ (.int .i64 y1.Slots), .load ⟨g2, 3, none⟩ (.int .i64 y1.Speed), .load ⟨g2, 4, none⟩ (.int .i64 y1.From), .load ⟨g2, 5, none⟩ (.int .i64 y1.To), .load ⟨g2, 6, none⟩ (.slice A2 y1.Stands.length c2)]) (L' := [(65, .bool true), (66, .agg #[.string a0.Name, .slice Aa0_1 a0.Has.length ca0_1, .int .i64 a0.Slots, .int .i64 a0.Speed, .int .i64 a0.From, .int .i64 a0.To, .slice Aa0_6 a0.Stands.length ca0_6]), (67, .agg #[.string y1.Name, .slice A1 y1.Has.length c1, .int .i64 y1.Slots, .int .i64 y1.Speed, .int .i64 y1.From, .int .i64 y1.To, .slice A2 y1.Stands.length c2])]) (by kernel_rfl) (by kernel_rfl) (fun w hh => ⟨(hh.box 3 rfl rfl), (hh.box 3 rfl rfl), (hh.box 3 rfl rfl), (hh.box 3 rfl rfl), (hh.box 3 rfl rfl), (hh.box 3 rfl rfl), (hh.box 3 rfl rfl), (hh.box 0 rfl rfl), (hh.box 0 rfl rfl), (hh.box 0 rfl rfl), (hh.box 0 rfl rfl), (hh.box 0 rfl rfl), (hh.box 0 rfl rfl), (hh.box 0 rfl rfl)⟩) ?_
            obtain ⟨y6, hy6, heq⟩ := bind_some heq
            refine RgH.does (DoesH.call (d := 68) (g := 14) (args := #[.agg #[.string a0.Name, .slice Aa0_1 a0.Has.length ca0_1, .int .i64 a0.Slots, .int .i64 a0.Speed, .int .i64 a0.From, .int .i64 a0.To, .slice Aa0_6 a0.Stands.length ca0_6], .agg #[.string y1.Name, .slice A1 y1.Has.length c1, .int .i64 y1.Slots, .int .i64 y1.Speed, .int .i64 y1.From, .int .i64 y1.To, .slice A2 y1.Stands.length c2]]) (by kernel_rfl) (smithyardref9_SameWorker_c (a0 := a0) (a1 := (⟨y1.Name, y1.Has, y1.Slots, y1.Speed, y1.From, y1.To, y1.Stands⟩ : Worker)) (hra0_1.wk (fun _ h => (.tail _ (.tail _ (.tail _ (.tail _ h)))))) hca0_1 rfl (hra0_6.wk (fun _ h => (.tail _ (.tail _ (.tail _ (.tail _ h)))))) hca0_6 rfl (ho1.rw (.tail _ (.head _))) ho1.cap rfl (ho2.rw (.tail _ (.tail _ (.head _)))) ho2.cap rfl hy6)) ?_
            rintro _ _ _ _ ⟨_, rfl, rfl, rfl, rfl⟩
            refine RgH.runk 19 [70] (vs := []) (evs := []) (L' := [(70, .bool y6)]) (by kernel_rfl) (by kernel_rfl) (fun _ _ => trivial) ?_
            rcases bool_cases (y6) with hb6 | hb6
            · replace heq := bif_true hb6 heq
              refine RgH.val1 (v' := .bool true) (congrArg Value.bool hb6) ?_
              obtain ⟨y7, hy7, heq⟩ := bind_some heq
              refine RgH.does (DoesH.call (d := 71) (g := 8) (args := (List.toArray [])) (by kernel_rfl) (smithyardlaw9_awake_c  hy7)) ?_
              rintro _ _ _ _ ⟨_, rfl, rfl, rfl, rfl⟩
              refine RgH.runk 22 [6] (vs := []) (evs := []) (L' := [(6, .bool y7)]) (by kernel_rfl) (by kernel_rfl) (fun _ _ => trivial) ?_
              obtain rfl := Option.some.inj heq
              refine RgH.keep [6] (L' := [(6, .bool y7)]) (by kernel_rfl) ?_
              refine RgH.pick 4 [] (cs' := F) (by kernel_rfl) rfl ?_
              refine RgH.done (by kernel_rfl) ?_
              exact K6
            · replace heq := bif_false hb6 heq
              refine RgH.val1 (v' := .bool false) (congrArg Value.bool hb6) ?_
              refine RgH.runk 22 [6] (vs := []) (evs := []) (L' := [(6, .bool false)]) (by kernel_rfl) (by kernel_rfl) (fun _ _ => trivial) ?_
              obtain rfl := Option.some.inj heq
              refine RgH.keep [6] (L' := [(6, .bool false)]) (by kernel_rfl) ?_
              refine RgH.pick 4 [] (cs' := F) (by kernel_rfl) rfl ?_
              refine RgH.done (by kernel_rfl) ?_
              exact K6
          · replace heq := bif_false hb5 heq
            refine RgH.val1 (v' := .bool false) (congrArg Value.bool hb5) ?_
            refine RgH.runk 22 [6] (vs := []) (evs := []) (L' := [(6, .bool false)]) (by kernel_rfl) (by kernel_rfl) (fun _ _ => trivial) ?_
            obtain rfl := Option.some.inj heq
            refine RgH.keep [6] (L' := [(6, .bool false)]) (by kernel_rfl) ?_
            refine RgH.pick 4 [] (cs' := F) (by kernel_rfl) rfl ?_
            refine RgH.done (by kernel_rfl) ?_
            exact K6
        · replace heq := bif_false hb4 heq
          refine RgH.val1 (v' := .bool false) (congrArg Value.bool hb4) ?_
          refine RgH.runk 22 [6] (vs := []) (evs := []) (L' := [(6, .bool false)]) (by kernel_rfl) (by kernel_rfl) (fun _ _ => trivial) ?_
          obtain rfl := Option.some.inj heq
          refine RgH.keep [6] (L' := [(6, .bool false)]) (by kernel_rfl) ?_
          refine RgH.pick 4 [] (cs' := F) (by kernel_rfl) rfl ?_
          refine RgH.done (by kernel_rfl) ?_
          exact K6
      · replace heq := bif_false hb3 heq
        refine RgH.val1 (v' := .bool false) (congrArg Value.bool hb3) ?_
        refine RgH.runk 22 [6] (vs := []) (evs := []) (L' := [(6, .bool false)]) (by kernel_rfl) (by kernel_rfl) (fun _ _ => trivial) ?_
        obtain rfl := Option.some.inj heq
        refine RgH.keep [6] (L' := [(6, .bool false)]) (by kernel_rfl) ?_
        refine RgH.pick 4 [] (cs' := F) (by kernel_rfl) rfl ?_
        refine RgH.done (by kernel_rfl) ?_
        exact K6
  replace heq := ht1
  refine RunH.reg (by kernel_rfl) ?_
  refine RgH.runk 4 [31, 1, 2, 3, 7, 8, 10] (vs := []) (evs := []) (L' := [(31, .bool (y2.2 != y3.2)), (1, .int .i64 a1), (2, .int .i64 a2), (3, .pointer (some ⟨g1, 0, none⟩)), (7, .pointer (some ⟨g2, 0, none⟩)), (8, .int .i64 y2.1), (10, .int .i64 y3.1)]) (by kernel_rfl) (by kernel_rfl) (fun _ _ => trivial) ?_
  rcases bool_cases (y2.2 != y3.2) with hb1 | hb1
  · replace heq := bif_true hb1 heq
    refine RgH.val1 (v' := .bool true) (congrArg Value.bool hb1) ?_
    refine RgH.runk 8 [1, 2, 3, 7, 35] (vs := []) (evs := []) (L' := [(1, .int .i64 a1), (2, .int .i64 a2), (3, .pointer (some ⟨g1, 0, none⟩)), (7, .pointer (some ⟨g2, 0, none⟩)), (35, .bool true)]) (by kernel_rfl) (by kernel_rfl) (fun _ _ => trivial) ?_
    obtain rfl := Option.some.inj heq
    refine RgH.keep [1, 2, 3, 7, 35] (L' := [(1, .int .i64 a1), (2, .int .i64 a2), (3, .pointer (some ⟨g1, 0, none⟩)), (7, .pointer (some ⟨g2, 0, none⟩)), (35, .bool true)]) (by kernel_rfl) ?_
    refine RgH.done (by kernel_rfl) ?_
    exact K5
  · replace heq := bif_false hb1 heq
    refine RgH.val1 (v' := .bool false) (congrArg Value.bool hb1) ?_
    refine RgH.runk 8 [1, 2, 3, 7, 35] (vs := []) (evs := []) (L' := [(1, .int .i64 a1), (2, .int .i64 a2), (3, .pointer (some ⟨g1, 0, none⟩)), (7, .pointer (some ⟨g2, 0, none⟩)), (35, .bool (y2.1 != y3.1))]) (by kernel_rfl) (by kernel_rfl) (fun _ _ => trivial) ?_
    obtain rfl := Option.some.inj heq
    refine RgH.keep [1, 2, 3, 7, 35] (L' := [(1, .int .i64 a1), (2, .int .i64 a2), (3, .pointer (some ⟨g1, 0, none⟩)), (7, .pointer (some ⟨g2, 0, none⟩)), (35, .bool (y2.1 != y3.1))]) (by kernel_rfl) ?_
    refine RgH.done (by kernel_rfl) ?_
    exact K5
noncomputable def C15 : Ctx := { P := Tryd.prog, f := 15, N := 8, c := bodyOf Tryd.f15 }
def S15 (F : List Ch) (H0 : Hp) (r : List Run) (v : Value) (H : Hp) (cs : List Ch) : Prop := ∃ (A0 : Option Addr) (c0 : Nat) (ch0 : Ch), H0 = H ∧ v = .slice A0 r.length c0 ∧ ch0 :: F = cs ∧ SlOwn kRun 39 H A0 c0 r ch0
theorem slices_Clone_Run_c {w0 : World} {H : Hp} {F : List Ch} {a0 : List Run} {Aa0 : Option Addr} {na0 ca0 : Nat} {r : List Run} (hra0 : Rw kRun H F Aa0 a0) (hca0 : na0 ≤ ca0) (hna0 : na0 = a0.length) (heq : slices_Clone_Run.f a0 = some r) : CallsH Tryd.prog 15 #[.slice Aa0 na0 ca0] H w0 F (S15 F H r) := by
  refine calls_of_runH (F := C15) Tryd.func15 (by kernel_rfl) Tryd.ntmps15 (args := [.slice Aa0 na0 ca0]) (by kernel_rfl) ?_
  subst hna0
  unfold slices_Clone_Run.f at heq
  obtain ⟨hn, heq⟩ := guard?_some heq
  obtain rfl := Option.some.inj heq
  refine RunH.adm 1 (es' := [.c [0], .c [1]]) (by kernel_rfl) ?_
  refine RunH.reg (by kernel_rfl) ?_
  refine RgH.runk 1 [0] (vs := []) (evs := []) (L' := [(0, .slice Aa0 a0.length ca0)]) (by kernel_rfl) (by kernel_rfl) (fun _ _ => trivial) ?_
  refine RgH.done (by kernel_rfl) ?_
  refine RunH.adm 2 (es' := [.c [1, 0, 0], .c [1, 0, 1], .c [1, 1]]) (by kernel_rfl) ?_
  refine RunH.reg (by kernel_rfl) ?_
  cases Aa0 with
  | none =>
    have h0 : a0 = [] := by
      cases a0 with
      | nil => rfl
      | cons x xs => obtain ⟨b, off, cs, e, fr, hA, _⟩ := hra0 (by simp); cases hA
    subst h0
    refine RgH.runk 2 [4] (vs := []) (evs := []) (L' := [(4, .bool true)]) (by kernel_rfl) (by kernel_rfl) (fun _ _ => trivial) ?_
    refine RgH.done (by kernel_rfl) ?_
    refine RunH.condT (c := true) (by kernel_rfl) rfl ?_
    refine RunH.adm 1 (es' := [.c [1, 0, 1, 0, 0], .c [1, 0, 1, 0, 1], .c [1, 1]]) (by kernel_rfl) ?_
    refine RunH.reg (by kernel_rfl) ?_
    refine RgH.runk 1 [2] (vs := []) (evs := []) (L' := [(2, .slice none 0 0)]) (by kernel_rfl) (by kernel_rfl) (fun _ _ => trivial) ?_
    refine RgH.done (by kernel_rfl) ?_
    refine RunH.nilc ?_
    exact RunH.done (by kernel_rfl) Tryd.func15 (v := .slice none ([] : List Run).length 0) (by kernel_rfl) ⟨none, 0, none, rfl, rfl, rfl, SlOwn.nil⟩
  | some ad =>
    refine RgH.runk 2 [0, 4] (vs := []) (evs := []) (L' := [(0, .slice (some ad) a0.length ca0), (4, .bool false)]) (by kernel_rfl) (by kernel_rfl) (fun _ _ => trivial) ?_
    refine RgH.done (by kernel_rfl) ?_
    refine RunH.condF (c := false) (by kernel_rfl) rfl ?_
    refine RunH.adm 2 (es' := [.c [1, 1, 0], .c [1, 1, 1]]) (by kernel_rfl) ?_
    refine RunH.reg (by kernel_rfl) ?_
    refine RgH.does (DoesH.new (d := 5) (v := fun g => .slice (some ⟨g, 0, none⟩) 0 0) (o := fun g => .cells #[] 39 (0, 0)) (fun g => by kernel_rfl)) ?_
    rintro _ _ _ _ ⟨g, rfl, rfl, rfl⟩
    have ho : SlOwn kRun 39 H (some ⟨g, 0, none⟩) 0 ([] : List Run) (some (g, .cells #[] 39 (0, 0))) := .inr ⟨g, 0, #[], rfl, rfl, by simp, by simp [maxLen], by simp, Kd.Rep.nil⟩
    refine RgH.runk 2 [5, 6] (vs := []) (evs := []) (L' := [(5, .slice (some ⟨g, 0, none⟩) 0 0), (6, .slice (some ad) a0.length ca0)]) (by kernel_rfl) (by kernel_rfl) (fun _ _ => trivial) ?_
    refine RgH.does (DoesH.append (d := 7) (k := 0) (t := 36) (e := 39) (bytes := 56) (kd := kRun) (n := 0) (m := a0.length) (xs := ([] : List Run)) (ys := a0) (A := some ⟨g, 0, none⟩) (B := some ad) (c := 0) (cB := ca0) (by kernel_rfl) rfl rfl (by kernel_rfl) rfl ho (fun w hh => hra0.rdb (hh.drop 1)) (room_le hn) (by have := room_le hn; omega)) ?_
    rintro _ _ _ _ ⟨A1, c1, ch1, rfl, rfl, rfl, ho1⟩
    refine RgH.runk 4 [2] (vs := []) (evs := []) (L' := [(2, .slice A1 (([] : List Run) ++ a0).length c1)]) (by kernel_rfl) (by kernel_rfl) (fun _ _ => trivial) ?_
    refine RgH.done (by kernel_rfl) ?_
    exact RunH.done (by kernel_rfl) Tryd.func15 (v := .slice A1 (([] : List Run) ++ a0).length c1) (by kernel_rfl) ⟨A1, c1, ch1, rfl, rfl, rfl, ho1⟩
noncomputable def C101 : Ctx := { P := Tryd.prog, f := 101, N := 6, c := bodyOf Tryd.f101 }
def S101 (F : List Ch) (H0 : Hp) (r : Bool) (v : Value) (H : Hp) (cs : List Ch) : Prop := H0 = H ∧ v = .bool r ∧ F = cs
theorem cmp_isNaN_int_c {w0 : World} {H : Hp} {F : List Ch} {a0 : Int} {r : Bool} (heq : cmp_isNaN_int.f a0 = some r) : CallsH Tryd.prog 101 #[.int .i64 a0] H w0 (F) (S101 F H r) := by
  refine calls_of_runH (F := C101) Tryd.func101 (by kernel_rfl) Tryd.ntmps101 (args := [.int .i64 a0]) (by kernel_rfl) ?_
  unfold cmp_isNaN_int.f at heq
  refine RunH.adm 1 (es' := [.c [0], .c [1]]) (by kernel_rfl) ?_
  refine RunH.reg (by kernel_rfl) ?_
  refine RgH.runk 1 [0] (vs := []) (evs := []) (L' := [(0, .int .i64 a0)]) (by kernel_rfl) (by kernel_rfl) (fun _ _ => trivial) ?_
  refine RgH.done (by kernel_rfl) ?_
  refine RunH.adm 1 (es' := [.c [1, 0], .c [1, 1]]) (by kernel_rfl) ?_
  refine RunH.reg (by kernel_rfl) ?_
  refine RgH.runk 4 [2] (vs := []) (evs := []) (L' := [(2, .bool (a0 != a0))]) (by kernel_rfl) (by kernel_rfl) (fun _ _ => trivial) ?_
  refine RgH.done (by kernel_rfl) ?_
  obtain rfl := Option.some.inj heq
  exact RunH.done (by kernel_rfl) Tryd.func101 (v := .bool (a0 != a0)) (by kernel_rfl) ⟨rfl, rfl, rfl⟩
noncomputable def C79 : Ctx := { P := Tryd.prog, f := 79, N := 20, c := bodyOf Tryd.f79 }
def S79 (F : List Ch) (H0 : Hp) (r : Int) (v : Value) (H : Hp) (cs : List Ch) : Prop := H0 = H ∧ v = .int .i64 r ∧ F = cs
theorem cmp_Compare_int_c {w0 : World} {H : Hp} {F : List Ch} {a0 : Int} {a1 : Int} {r : Int} (heq : cmp_Compare_int.f a0 a1 = some r) : CallsH Tryd.prog 79 #[.int .i64 a0, .int .i64 a1] H w0 (F) (S79 F H r) := by
  refine calls_of_runH (F := C79) Tryd.func79 (by kernel_rfl) Tryd.ntmps79 (args := [.int .i64 a0, .int .i64 a1]) (by kernel_rfl) ?_
  unfold cmp_Compare_int.f at heq
  refine RunH.adm 1 (es' := [.c [0], .c [1]]) (by kernel_rfl) ?_
  refine RunH.reg (by kernel_rfl) ?_
  refine RgH.runk 1 [0, 1] (vs := []) (evs := []) (L' := [(0, .int .i64 a0), (1, .int .i64 a1)]) (by kernel_rfl) (by kernel_rfl) (fun _ _ => trivial) ?_
  refine RgH.done (by kernel_rfl) ?_
  refine RunH.adm 1 (es' := [.c [1, 0], .c [1, 1]]) (by kernel_rfl) ?_
  refine RunH.reg (by kernel_rfl) ?_
  refine RgH.runk 1 [0, 1, 7] (vs := []) (evs := []) (L' := [(0, .int .i64 a0), (1, .int .i64 a1), (7, .int .i64 a0)]) (by kernel_rfl) (by kernel_rfl) (fun _ _ => trivial) ?_
  obtain ⟨y1, hy1, heq⟩ := bind_some heq
  refine RgH.does (DoesH.call (d := 8) (g := 101) (args := #[.int .i64 a0]) (by kernel_rfl) (cmp_isNaN_int_c (a0 := a0)  hy1)) ?_
  rintro _ _ _ _ ⟨_, rfl, rfl, rfl, rfl⟩
  refine RgH.runk 3 [0, 1, 5] (vs := []) (evs := []) (L' := [(0, .int .i64 a0), (1, .int .i64 a1), (5, .bool y1)]) (by kernel_rfl) (by kernel_rfl) (fun _ _ => trivial) ?_
  refine RgH.done (by kernel_rfl) ?_
  refine RunH.adm 1 (es' := [.c [1, 1, 0], .c [1, 1, 1]]) (by kernel_rfl) ?_
  refine RunH.reg (by kernel_rfl) ?_
  refine RgH.runk 1 [0, 1, 5, 9] (vs := []) (evs := []) (L' := [(0, .int .i64 a0), (1, .int .i64 a1), (5, .bool y1), (9, .int .i64 a1)]) (by kernel_rfl) (by kernel_rfl) (fun _ _ => trivial) ?_
  obtain ⟨y2, hy2, heq⟩ := bind_some heq
  refine RgH.does (DoesH.call (d := 10) (g := 101) (args := #[.int .i64 a1]) (by kernel_rfl) (cmp_isNaN_int_c (a0 := a1)  hy2)) ?_
  rintro _ _ _ _ ⟨_, rfl, rfl, rfl, rfl⟩
  refine RgH.runk 3 [0, 1, 5, 6] (vs := []) (evs := []) (L' := [(0, .int .i64 a0), (1, .int .i64 a1), (5, .bool y1), (6, .bool y2)]) (by kernel_rfl) (by kernel_rfl) (fun _ _ => trivial) ?_
  refine RgH.done (by kernel_rfl) ?_
  refine RunH.adm 2 (es' := [.c [1, 1, 1, 0, 0], .c [1, 1, 1, 0, 1], .c [1, 1, 1, 1]]) (by kernel_rfl) ?_
  refine RunH.reg (by kernel_rfl) ?_
  refine RgH.runk 1 [0, 1, 6, 11] (vs := []) (evs := []) (L' := [(0, .int .i64 a0), (1, .int .i64 a1), (6, .bool y2), (11, .bool y1)]) (by kernel_rfl) (by kernel_rfl) (fun _ _ => trivial) ?_
  refine RgH.done (by kernel_rfl) ?_
  rcases bool_cases (y1) with hb1 | hb1
  · replace heq := bif_true hb1 heq
    refine RunH.condT (c := y1) (by kernel_rfl) hb1 ?_
    refine RunH.adm 2 (es' := [.c [1, 1, 1, 0, 1, 0, 0, 0], .c [1, 1, 1, 0, 1, 0, 0, 1], .c [1, 1, 1, 0, 1, 0, 1], .c [1, 1, 1, 1]]) (by kernel_rfl) ?_
    refine RunH.reg (by kernel_rfl) ?_
    refine RgH.runk 1 [12] (vs := []) (evs := []) (L' := [(12, .bool y2)]) (by kernel_rfl) (by kernel_rfl) (fun _ _ => trivial) ?_
    refine RgH.done (by kernel_rfl) ?_
    rcases bool_cases (y2) with hb2 | hb2
    · replace heq := bif_true hb2 heq
      refine RunH.condT (c := y2) (by kernel_rfl) hb2 ?_
      refine RunH.adm 1 (es' := [.c [1, 1, 1, 0, 1, 0, 0, 1, 0, 0], .c [1, 1, 1, 0, 1, 0, 0, 1, 0, 1], .c [1, 1, 1, 0, 1, 0, 1], .c [1, 1, 1, 1]]) (by kernel_rfl) ?_
      refine RunH.reg (by kernel_rfl) ?_
      refine RgH.runk 1 [4] (vs := []) (evs := []) (L' := [(4, .int .i64 0)]) (by kernel_rfl) (by kernel_rfl) (fun _ _ => trivial) ?_
      refine RgH.done (by kernel_rfl) ?_
      obtain rfl := Option.some.inj heq
      exact RunH.done (by kernel_rfl) Tryd.func79 (v := .int .i64 0) (by kernel_rfl) ⟨rfl, rfl, rfl⟩
    · replace heq := bif_false hb2 heq
      refine RunH.condF (c := y2) (by kernel_rfl) hb2 ?_
      refine RunH.adm 2 (es' := [.c [1, 1, 1, 0, 1, 0, 1, 0], .c [1, 1, 1, 0, 1, 0, 1, 1], .c [1, 1, 1, 1]]) (by kernel_rfl) ?_
      refine RunH.reg (by kernel_rfl) ?_
      refine RgH.runk 1 [4] (vs := []) (evs := []) (L' := [(4, .int .i64 (-1))]) (by kernel_rfl) (by kernel_rfl) (fun _ _ => trivial) ?_
      refine RgH.done (by kernel_rfl) ?_
      obtain rfl := Option.some.inj heq
      exact RunH.done (by kernel_rfl) Tryd.func79 (v := .int .i64 (-1)) (by kernel_rfl) ⟨rfl, rfl, rfl⟩
  · replace heq := bif_false hb1 heq
    refine RunH.condF (c := y1) (by kernel_rfl) hb1 ?_
    refine RunH.adm 3 (es' := [.c [1, 1, 1, 1, 0, 0], .c [1, 1, 1, 1, 0, 1], .c [1, 1, 1, 1, 1]]) (by kernel_rfl) ?_
    refine RunH.reg (by kernel_rfl) ?_
    refine RgH.runk 1 [0, 1, 13] (vs := []) (evs := []) (L' := [(0, .int .i64 a0), (1, .int .i64 a1), (13, .bool y2)]) (by kernel_rfl) (by kernel_rfl) (fun _ _ => trivial) ?_
    refine RgH.done (by kernel_rfl) ?_
    rcases bool_cases (y2) with hb3 | hb3
    · replace heq := bif_true hb3 heq
      refine RunH.condT (c := y2) (by kernel_rfl) hb3 ?_
      refine RunH.adm 1 (es' := [.c [1, 1, 1, 1, 0, 1, 0, 0], .c [1, 1, 1, 1, 0, 1, 0, 1], .c [1, 1, 1, 1, 1]]) (by kernel_rfl) ?_
      refine RunH.reg (by kernel_rfl) ?_
      refine RgH.runk 1 [4] (vs := []) (evs := []) (L' := [(4, .int .i64 1)]) (by kernel_rfl) (by kernel_rfl) (fun _ _ => trivial) ?_
      refine RgH.done (by kernel_rfl) ?_
      obtain rfl := Option.some.inj heq
      exact RunH.done (by kernel_rfl) Tryd.func79 (v := .int .i64 1) (by kernel_rfl) ⟨rfl, rfl, rfl⟩
    · replace heq := bif_false hb3 heq
      refine RunH.condF (c := y2) (by kernel_rfl) hb3 ?_
      refine RunH.adm 3 (es' := [.c [1, 1, 1, 1, 1, 0, 0], .c [1, 1, 1, 1, 1, 0, 1], .c [1, 1, 1, 1, 1, 1]]) (by kernel_rfl) ?_
      refine RunH.reg (by kernel_rfl) ?_
      refine RgH.runk 3 [0, 1, 16] (vs := []) (evs := []) (L' := [(0, .int .i64 a0), (1, .int .i64 a1), (16, .bool (decide (a0 < a1)))]) (by kernel_rfl) (by kernel_rfl) (fun _ _ => trivial) ?_
      refine RgH.done (by kernel_rfl) ?_
      rcases bool_cases (decide (a0 < a1)) with hb4 | hb4
      · replace heq := bif_true hb4 heq
        refine RunH.condT (c := decide (a0 < a1)) (by kernel_rfl) hb4 ?_
        refine RunH.adm 1 (es' := [.c [1, 1, 1, 1, 1, 0, 1, 0, 0], .c [1, 1, 1, 1, 1, 0, 1, 0, 1], .c [1, 1, 1, 1, 1, 1]]) (by kernel_rfl) ?_
        refine RunH.reg (by kernel_rfl) ?_
        refine RgH.runk 1 [4] (vs := []) (evs := []) (L' := [(4, .int .i64 (-1))]) (by kernel_rfl) (by kernel_rfl) (fun _ _ => trivial) ?_
        refine RgH.done (by kernel_rfl) ?_
        obtain rfl := Option.some.inj heq
        exact RunH.done (by kernel_rfl) Tryd.func79 (v := .int .i64 (-1)) (by kernel_rfl) ⟨rfl, rfl, rfl⟩
      · replace heq := bif_false hb4 heq
        refine RunH.condF (c := decide (a0 < a1)) (by kernel_rfl) hb4 ?_
        refine RunH.adm 3 (es' := [.c [1, 1, 1, 1, 1, 1, 0, 0], .c [1, 1, 1, 1, 1, 1, 0, 1], .c [1, 1, 1, 1, 1, 1, 1]]) (by kernel_rfl) ?_
        refine RunH.reg (by kernel_rfl) ?_
        refine RgH.runk 3 [19] (vs := []) (evs := []) (L' := [(19, .bool (decide (a1 < a0)))]) (by kernel_rfl) (by kernel_rfl) (fun _ _ => trivial) ?_
        refine RgH.done (by kernel_rfl) ?_
        rcases bool_cases (decide (a1 < a0)) with hb5 | hb5
        · replace heq := bif_true hb5 heq
          refine RunH.condT (c := decide (a1 < a0)) (by kernel_rfl) hb5 ?_
          refine RunH.adm 1 (es' := [.c [1, 1, 1, 1, 1, 1, 0, 1, 0, 0], .c [1, 1, 1, 1, 1, 1, 0, 1, 0, 1], .c [1, 1, 1, 1, 1, 1, 1]]) (by kernel_rfl) ?_
          refine RunH.reg (by kernel_rfl) ?_
          refine RgH.runk 1 [4] (vs := []) (evs := []) (L' := [(4, .int .i64 1)]) (by kernel_rfl) (by kernel_rfl) (fun _ _ => trivial) ?_
          refine RgH.done (by kernel_rfl) ?_
          obtain rfl := Option.some.inj heq
          exact RunH.done (by kernel_rfl) Tryd.func79 (v := .int .i64 1) (by kernel_rfl) ⟨rfl, rfl, rfl⟩
        · replace heq := bif_false hb5 heq
          refine RunH.condF (c := decide (a1 < a0)) (by kernel_rfl) hb5 ?_
          refine RunH.adm 2 (es' := [.c [1, 1, 1, 1, 1, 1, 1, 0], .c [1, 1, 1, 1, 1, 1, 1, 1]]) (by kernel_rfl) ?_
          refine RunH.reg (by kernel_rfl) ?_
          refine RgH.runk 1 [4] (vs := []) (evs := []) (L' := [(4, .int .i64 0)]) (by kernel_rfl) (by kernel_rfl) (fun _ _ => trivial) ?_
          refine RgH.done (by kernel_rfl) ?_
          obtain rfl := Option.some.inj heq
          exact RunH.done (by kernel_rfl) Tryd.func79 (v := .int .i64 0) (by kernel_rfl) ⟨rfl, rfl, rfl⟩
def S80 (F : List Ch) (H0 : Hp) (r : Int) (v : Value) (H : Hp) (cs : List Ch) : Prop := H0 = H ∧ v = .int .i64 r ∧ F = cs
theorem strings_Compare_c {w0 : World} {H : Hp} {F : List Ch} {a0 : ByteArray} {a1 : ByteArray} {r : Int} (heq : strings_Compare.f a0 a1 = some r) : CallsH Tryd.prog 80 #[.string a0, .string a1] H w0 F (S80 F H r) := by
  intro w hh
  unfold strings_Compare.f at heq
  obtain rfl := Option.some.inj heq
  refine (Shelf.Tryd.strings_Compare a0 a1 w).mono ?_
  rintro e w' ⟨rfl, rfl⟩
  exact ⟨_, rfl, H, F, Le.refl H, hh, rfl, rfl, rfl⟩
noncomputable def C78 : Ctx := { P := Tryd.prog, f := 78, N := 18, c := bodyOf Tryd.f78 }
def S78 (F : List Ch) (H0 : Hp) (r : Int) (v : Value) (H : Hp) (cs : List Ch) : Prop := H0 = H ∧ v = .int .i64 r ∧ F = cs
theorem cmp_Or_int.e1_c {w0 : World} {H : Hp} {F : List Ch} {r : Int} : cmp_Or_int.e1 = some r → RunH C78 (S78 F H r) H w0 [.c [1, 1, 1, 0], .c [1, 1, 1, 1]] [(3, .int .i64 0)] H (F) := by
  intro   heq
  unfold cmp_Or_int.e1 at heq
  refine RunH.reg (by kernel_rfl) ?_
  refine RgH.runk 2 [2] (vs := []) (evs := []) (L' := [(2, .int .i64 0)]) (by kernel_rfl) (by kernel_rfl) (fun _ _ => trivial) ?_
  refine RgH.done (by kernel_rfl) ?_
  obtain rfl := Option.some.inj heq
  exact RunH.done (by kernel_rfl) Tryd.func78 (v := .int .i64 0) (by kernel_rfl) ⟨rfl, rfl, rfl⟩
theorem cmp_Or_int.l2_c {w0 : World} {H : Hp} {F : List Ch} {r : Int} (e1 : Option Int)
    (he1 : e1 = some r → RunH C78 (S78 F H r) H w0 [.c [1, 1, 1, 0], .c [1, 1, 1, 1]] [(3, .int .i64 0)] H (F)) : ∀ (k : Nat), ∀ (a0 : List Int) (Aa0 : Option Addr) (ca0 : Nat) (v8 : Int) , Rw (Kd.int .i64) H F Aa0 a0 → a0.length ≤ ca0 → cmp_Or_int.l2 e1 k a0 v8 = some r → RunH C78 (S78 F H r) H w0 [.c [1, 1, 0, 1, 0, 0], .l [1, 1, 0, 1, 0, 0], .b 0, .c [1, 1, 1]] [(3, .int .i64 0), (6, .slice Aa0 a0.length ca0), (7, .int .i64 (a0.length : Int)), (8, .int .i64 v8)] H (F) := by
  intro k
  induction k with
  | zero => intro a0 Aa0 ca0 v8 hra0 hca0 heq; exact nomatch (show (none : Option Int) = some r from heq)
  | succ k ihk =>
    intro a0 Aa0 ca0 v8 hra0 hca0 heq
    rw [cmp_Or_int.l2] at heq
    refine RunH.adm 1 (es' := [.c [1, 1, 0, 1, 0, 0, 0], .c [1, 1, 0, 1, 0, 0, 1], .l [1, 1, 0, 1, 0, 0], .b 0, .c [1, 1, 1]]) (by kernel_rfl) ?_
    refine RunH.reg (by kernel_rfl) ?_
    refine RgH.runk 1 [3, 6, 7, 8, 9] (vs := []) (evs := []) (L' := [(3, .int .i64 0), (6, .slice Aa0 a0.length ca0), (7, .int .i64 (a0.length : Int)), (8, .int .i64 v8), (9, .bool (decide (v8 < (a0.length : Int))))]) (by kernel_rfl) (by kernel_rfl) (fun _ _ => trivial) ?_
    refine RgH.done (by kernel_rfl) ?_
    refine RunH.adm 1 (es' := [.c [1, 1, 0, 1, 0, 0, 1, 0], .c [1, 1, 0, 1, 0, 0, 1, 1], .l [1, 1, 0, 1, 0, 0], .b 0, .c [1, 1, 1]]) (by kernel_rfl) ?_
    rcases bool_cases (decide (v8 < (a0.length : Int))) with hb1 | hb1
    · replace heq := bif_true hb1 heq
      refine RunH.condT (c := decide (v8 < (a0.length : Int))) (by kernel_rfl) hb1 ?_
      refine RunH.adm 4 (es' := [.c [1, 1, 0, 1, 0, 0, 1, 1, 0, 0, 0], .c [1, 1, 0, 1, 0, 0, 1, 1, 0, 0, 1], .b 1, .c [1, 1, 0, 1, 0, 0, 1, 1, 1], .l [1, 1, 0, 1, 0, 0], .b 0, .c [1, 1, 1]]) (by kernel_rfl) ?_
      refine RunH.reg (by kernel_rfl) ?_
      obtain ⟨x1, hx1, heq⟩ := bind_some heq
      obtain ⟨ha1, cs1, hK1, hcc1⟩ := hra0.get hx1
      obtain rfl : cs1 = [.int .i64 x1] := hK1
      refine RgH.runk 3 [3, 5, 6, 7, 8] (vs := [.int .i64 x1]) (evs := [.need (Aa0 = some (adr Aa0) ∧ (0 : Int) ≤ v8 ∧ v8 < ((a0.length : Nat) : Int)), .load ((adr Aa0).add (v8.toNat * 1)) (.int .i64 x1)]) (L' := [(3, .int .i64 0), (5, .int .i64 x1), (6, .slice Aa0 a0.length ca0), (7, .int .i64 (a0.length : Int)), (8, .int .i64 v8)]) (by kernel_rfl) (by kernel_rfl) (fun w hh => ⟨⟨ha1, (at?_some hx1).1, (at?_some hx1).2.1⟩, (hcc1 _ _ (hh.drop 0) 0 _ rfl)⟩) ?_
      refine RgH.done (by kernel_rfl) ?_
      refine RunH.adm 1 (es' := [.c [1, 1, 0, 1, 0, 0, 1, 1, 0, 0, 1, 0], .c [1, 1, 0, 1, 0, 0, 1, 1, 0, 0, 1, 1], .b 1, .c [1, 1, 0, 1, 0, 0, 1, 1, 1], .l [1, 1, 0, 1, 0, 0], .b 0, .c [1, 1, 1]]) (by kernel_rfl) ?_
      refine RunH.reg (by kernel_rfl) ?_
      refine RgH.runk 3 [3, 5, 6, 7, 8, 14] (vs := []) (evs := []) (L' := [(3, .int .i64 0), (5, .int .i64 x1), (6, .slice Aa0 a0.length ca0), (7, .int .i64 (a0.length : Int)), (8, .int .i64 v8), (14, .bool (x1 != 0))]) (by kernel_rfl) (by kernel_rfl) (fun _ _ => trivial) ?_
      refine RgH.done (by kernel_rfl) ?_
      rcases bool_cases (x1 != 0) with hb2 | hb2
      · replace heq := bif_true hb2 heq
        refine RunH.condT (c := x1 != 0) (by kernel_rfl) hb2 ?_
        refine RunH.adm 1 (es' := [.c [1, 1, 0, 1, 0, 0, 1, 1, 0, 0, 1, 1, 0, 0], .c [1, 1, 0, 1, 0, 0, 1, 1, 0, 0, 1, 1, 0, 1], .b 1, .c [1, 1, 0, 1, 0, 0, 1, 1, 1], .l [1, 1, 0, 1, 0, 0], .b 0, .c [1, 1, 1]]) (by kernel_rfl) ?_
        refine RunH.reg (by kernel_rfl) ?_
        refine RgH.runk 2 [2] (vs := []) (evs := []) (L' := [(2, .int .i64 x1)]) (by kernel_rfl) (by kernel_rfl) (fun _ _ => trivial) ?_
        refine RgH.done (by kernel_rfl) ?_
        obtain rfl := Option.some.inj heq
        exact RunH.done (by kernel_rfl) Tryd.func78 (v := .int .i64 x1) (by kernel_rfl) ⟨rfl, rfl, rfl⟩
      · replace heq := bif_false hb2 heq
        refine RunH.condF (c := x1 != 0) (by kernel_rfl) hb2 ?_
        refine RunH.adm 2 (es' := [.c [1, 1, 0, 1, 0, 0, 1, 1, 1], .l [1, 1, 0, 1, 0, 0], .b 0, .c [1, 1, 1]]) (by kernel_rfl) ?_
        refine RunH.reg (by kernel_rfl) ?_
        refine RgH.runk 2 [3, 6, 7, 8] (vs := []) (evs := []) (L' := [(3, .int .i64 0), (6, .slice Aa0 a0.length ca0), (7, .int .i64 (a0.length : Int)), (8, .int .i64 (w64 (v8 + 1)))]) (by kernel_rfl) (by kernel_rfl) (fun _ _ => trivial) ?_
        refine RgH.done (by kernel_rfl) ?_
        refine RunH.adm 1 (es' := [.c [1, 1, 0, 1, 0, 0], .l [1, 1, 0, 1, 0, 0], .b 0, .c [1, 1, 1]]) (by kernel_rfl) ?_
        refine RunH.keep [3, 6, 7, 8] (L' := [(3, .int .i64 0), (6, .slice Aa0 a0.length ca0), (7, .int .i64 (a0.length : Int)), (8, .int .i64 (w64 (v8 + 1)))]) (by kernel_rfl) ?_
        exact ihk a0 _ _ (w64 (v8 + 1)) hra0 hca0 heq
    · replace heq := bif_false hb1 heq
      refine RunH.condF (c := decide (v8 < (a0.length : Int))) (by kernel_rfl) hb1 ?_
      refine RunH.adm 2 (es' := [.c [1, 1, 1, 0], .c [1, 1, 1, 1]]) (by kernel_rfl) ?_
      refine RunH.keep [3] (L' := [(3, .int .i64 0)]) (by kernel_rfl) ?_
      exact he1 heq
theorem cmp_Or_int_c {w0 : World} {H : Hp} {F : List Ch} {a0 : List Int} {Aa0 : Option Addr} {na0 : Nat} {ca0 : Nat} {r : Int} (hra0 : Rw (Kd.int .i64) H F Aa0 a0) (hca0 : na0 ≤ ca0) (hna0 : na0 = a0.length) (heq : cmp_Or_int.f a0 = some r) : CallsH Tryd.prog 78 #[.slice Aa0 na0 ca0] H w0 (F) (S78 F H r) := by
  refine calls_of_runH (F := C78) Tryd.func78 (by kernel_rfl) Tryd.ntmps78 (args := [.slice Aa0 na0 ca0]) (by kernel_rfl) ?_
  subst hna0
  unfold cmp_Or_int.f at heq
  refine RunH.adm 1 (es' := [.c [0], .c [1]]) (by kernel_rfl) ?_
  refine RunH.reg (by kernel_rfl) ?_
  refine RgH.runk 1 [0] (vs := []) (evs := []) (L' := [(0, .slice Aa0 a0.length ca0)]) (by kernel_rfl) (by kernel_rfl) (fun _ _ => trivial) ?_
  refine RgH.done (by kernel_rfl) ?_
  refine RunH.adm 1 (es' := [.c [1, 0], .c [1, 1]]) (by kernel_rfl) ?_
  refine RunH.reg (by kernel_rfl) ?_
  refine RgH.runk 1 [0, 3] (vs := []) (evs := []) (L' := [(0, .slice Aa0 a0.length ca0), (3, .int .i64 0)]) (by kernel_rfl) (by kernel_rfl) (fun _ _ => trivial) ?_
  refine RgH.done (by kernel_rfl) ?_
  refine RunH.adm 2 (es' := [.c [1, 1, 0, 0], .c [1, 1, 0, 1], .c [1, 1, 1]]) (by kernel_rfl) ?_
  refine RunH.reg (by kernel_rfl) ?_
  refine RgH.runk 3 [3, 6, 7, 8] (vs := []) (evs := []) (L' := [(3, .int .i64 0), (6, .slice Aa0 a0.length ca0), (7, .int .i64 (a0.length : Int)), (8, .int .i64 0)]) (by kernel_rfl) (by kernel_rfl) (fun _ _ => trivial) ?_
  refine RgH.done (by kernel_rfl) ?_
  refine RunH.adm 2 (es' := [.c [1, 1, 0, 1, 0, 0], .l [1, 1, 0, 1, 0, 0], .b 0, .c [1, 1, 1]]) (by kernel_rfl) ?_
  refine RunH.keep [3, 6, 7, 8] (L' := [(3, .int .i64 0), (6, .slice Aa0 a0.length ca0), (7, .int .i64 (a0.length : Int)), (8, .int .i64 0)]) (by kernel_rfl) ?_
  exact ((cmp_Or_int.l2_c (e1 := cmp_Or_int.e1) (cmp_Or_int.e1_c)) big) a0 _ _ 0 hra0 hca0 heq
noncomputable def C57 : Ctx := { P := Tryd.prog, f := 57, N := 22, c := bodyOf Tryd.f57 }
def S57 (F : List Ch) (H0 : Hp) (r : Int) (v : Value) (H : Hp) (cs : List Ch) : Prop := H0 = H ∧ v = .int .i64 r ∧ F = cs
theorem workers_compareRuns_c {w0 : World} {H : Hp} {F : List Ch} {a0 : Run} {a1 : Run} {r : Int} (heq : workers_compareRuns.f a0 a1 = some r) : CallsH Tryd.prog 57 #[.agg #[.string a0.Id, .string a0.Worker, .int .i64 a0.From, .int .i64 a0.To, .int .i64 a0.End], .agg #[.string a1.Id, .string a1.Worker, .int .i64 a1.From, .int .i64 a1.To, .int .i64 a1.End]] H w0 (F) (S57 F H r) := by
  refine calls_of_runH (F := C57) Tryd.func57 (by kernel_rfl) Tryd.ntmps57 (args := [.agg #[.string a0.Id, .string a0.Worker, .int .i64 a0.From, .int .i64 a0.To, .int .i64 a0.End], .agg #[.string a1.Id, .string a1.Worker, .int .i64 a1.From, .int .i64 a1.To, .int .i64 a1.End]]) (by kernel_rfl) ?_
  unfold workers_compareRuns.f at heq
  refine RunH.adm 1 (es' := [.c [0], .c [1]]) (by kernel_rfl) ?_
  refine RunH.reg (by kernel_rfl) ?_
  refine RgH.does (DoesH.new (d := 2) (v := fun g => .pointer (some ⟨g, 0, none⟩)) (o := fun g => .cells #[.string a0.Id, .string a0.Worker, .int .i64 a0.From, .int .i64 a0.To, .int .i64 a0.End] 39 (0, 0)) (fun g => by kernel_rfl)) ?_
  rintro _ _ _ _ ⟨g1, rfl, rfl, rfl⟩
  refine RgH.does (DoesH.new (d := 3) (v := fun g => .pointer (some ⟨g, 0, none⟩)) (o := fun g => .cells #[.string a1.Id, .string a1.Worker, .int .i64 a1.From, .int .i64 a1.To, .int .i64 a1.End] 39 (0, 0)) (fun g => by kernel_rfl)) ?_
  rintro _ _ _ _ ⟨g2, rfl, rfl, rfl⟩
  refine RgH.runk 3 [2, 3] (vs := []) (evs := []) (L' := [(2, .pointer (some ⟨g1, 0, none⟩)), (3, .pointer (some ⟨g2, 0, none⟩))]) (by kernel_rfl) (by kernel_rfl) (fun _ _ => trivial) ?_
  refine RgH.done (by kernel_rfl) ?_
  refine RunH.adm 1 (es' := [.c [1, 0], .c [1, 1]]) (by kernel_rfl) ?_
  refine RunH.keep [2, 3] (L' := [(2, .pointer (some ⟨g1, 0, none⟩)), (3, .pointer (some ⟨g2, 0, none⟩))]) (by kernel_rfl) ?_
  refine RunH.draw (fun w => Heap H w0 w ((some (g2, .cells #[.string a1.Id, .string a1.Worker, .int .i64 a1.From, .int .i64 a1.To, .int .i64 a1.End] 39 (0, 0))) :: (some (g1, .cells #[.string a0.Id, .string a0.Worker, .int .i64 a0.From, .int .i64 a0.To, .int .i64 a0.End] 39 (0, 0))) :: F)) (fun w => Heap H w0 w ((some (g2, .cells #[.string a1.Id, .string a1.Worker, .int .i64 a1.From, .int .i64 a1.To, .int .i64 a1.End] 39 (0, 0))) :: (some (g1, .cells #[.string a0.Id, .string a0.Worker, .int .i64 a0.From, .int .i64 a0.To, .int .i64 a0.End] 39 (0, 0))) :: F)) [false, false, false, false, false, false, false, false, false, false, false, false, false, false, false, false, false, false] (n := 18) (ls := [false, false, false, false, false, false, false, false, false, false, false, false, false, false, false, false, false, false]) (by kernel_rfl) (by kernel_rfl) (by kernel_rfl) rfl ?_
  refine DrH.run [0, 1, 2, 3, 5, 6, 7, 8, 10, 11, 12, 13] (m := 6) (ls' := [true, true, true, true, false, true, true, true, true, false, true, true, true, true, false, false, false, false]) (vs := [.int .i64 a0.From, .int .i64 a1.From, .string a0.Id, .string a1.Id, .string a0.Worker, .string a1.Worker]) (evs := [.load ⟨g1, 2, none⟩ (.int .i64 a0.From), .load ⟨g2, 2, none⟩ (.int .i64 a1.From), .load ⟨g1, 0, none⟩ (.string a0.Id), .load ⟨g2, 0, none⟩ (.string a1.Id), .load ⟨g1, 1, none⟩ (.string a0.Worker), .load ⟨g2, 1, none⟩ (.string a1.Worker)]) (L' := [(18, .string a1.Worker), (17, .pointer (some ⟨g2, 1, none⟩)), (16, .string a0.Worker), (15, .pointer (some ⟨g1, 1, none⟩)), (13, .string a1.Id), (12, .pointer (some ⟨g2, 0, none⟩)), (11, .string a0.Id), (10, .pointer (some ⟨g1, 0, none⟩)), (8, .int .i64 a1.From), (7, .pointer (some ⟨g2, 2, none⟩)), (6, .int .i64 a0.From), (5, .pointer (some ⟨g1, 2, none⟩)), (2, .pointer (some ⟨g1, 0, none⟩)), (3, .pointer (some ⟨g2, 0, none⟩))]) (by kernel_rfl) (fun w hh => hh.pick 2 [0, 1] (by kernel_rfl)) (fun w hh => hh.pick 2 [0, 1] (by kernel_rfl)) (by kernel_rfl) (fun w hh => ⟨(hh.box 1 rfl rfl), (hh.box 0 rfl rfl), (hh.box 1 rfl rfl), (hh.box 0 rfl rfl), (hh.box 1 rfl rfl), (hh.box 0 rfl rfl)⟩) (by kernel_rfl) ?_
  refine DrH.keep [6, 8, 11, 13, 16, 18] (L' := [(6, .int .i64 a0.From), (8, .int .i64 a1.From), (11, .string a0.Id), (13, .string a1.Id), (16, .string a0.Worker), (18, .string a1.Worker)]) (by kernel_rfl) ?_
  obtain ⟨y1, hy1, heq⟩ := bind_some heq
  refine DrH.does (n := 5) (ls' := [true, true, true, true, true, true, true, true, true, false, true, true, true, true, false, false, false, false]) 4 (by kernel_rfl) rfl (DoesH.call (d := 9) (g := 79) (args := #[.int .i64 a0.From, .int .i64 a1.From]) (by kernel_rfl) (cmp_Compare_int_c (a0 := a0.From) (a1 := a1.From)  hy1)) ?_
  rintro _ _ _ _ ⟨_, rfl, rfl, rfl, rfl⟩
  refine ⟨fun w hh => ⟨(fun w hh => hh.pick 2 [0, 1] (by kernel_rfl)) w hh, fun _ => (fun w hh => hh.pick 2 [0, 1] (by kernel_rfl)) w hh⟩, ?_⟩
  refine DrH.keep [9, 11, 13, 16, 18] (L' := [(9, .int .i64 y1), (11, .string a0.Id), (13, .string a1.Id), (16, .string a0.Worker), (18, .string a1.Worker)]) (by kernel_rfl) ?_
  obtain ⟨y2, hy2, heq⟩ := bind_some heq
  refine DrH.does (n := 4) (ls' := [true, true, true, true, true, true, true, true, true, true, true, true, true, true, false, false, false, false]) 9 (by kernel_rfl) rfl (DoesH.call (d := 14) (g := 80) (args := #[.string a0.Id, .string a1.Id]) (by kernel_rfl) (strings_Compare_c (a0 := a0.Id) (a1 := a1.Id)  hy2)) ?_
  rintro _ _ _ _ ⟨_, rfl, rfl, rfl, rfl⟩
  refine ⟨fun w hh => ⟨(fun w hh => hh.pick 2 [0, 1] (by kernel_rfl)) w hh, fun _ => (fun w hh => hh.pick 2 [0, 1] (by kernel_rfl)) w hh⟩, ?_⟩
  refine DrH.keep [9, 14, 16, 18] (L' := [(9, .int .i64 y1), (14, .int .i64 y2), (16, .string a0.Worker), (18, .string a1.Worker)]) (by kernel_rfl) ?_
  obtain ⟨y3, hy3, heq⟩ := bind_some heq
  refine DrH.does (n := 3) (ls' := [true, true, true, true, true, true, true, true, true, true, true, true, true, true, true, false, false, false]) 14 (by kernel_rfl) rfl (DoesH.call (d := 19) (g := 80) (args := #[.string a0.Worker, .string a1.Worker]) (by kernel_rfl) (strings_Compare_c (a0 := a0.Worker) (a1 := a1.Worker)  hy3)) ?_
  rintro _ _ _ _ ⟨_, rfl, rfl, rfl, rfl⟩
  refine ⟨fun w hh => ⟨(fun w hh => hh.pick 2 [0, 1] (by kernel_rfl)) w hh, fun _ => (fun w hh => hh.pick 2 [0, 1] (by kernel_rfl)) w hh⟩, ?_⟩
  refine DrH.keep [9, 14, 19] (L' := [(9, .int .i64 y1), (14, .int .i64 y2), (19, .int .i64 y3)]) (by kernel_rfl) ?_
  refine DrH.does (n := 2) (ls' := [true, true, true, true, true, true, true, true, true, true, true, true, true, true, true, true, false, false]) 15 (by kernel_rfl) rfl (DoesH.new (d := 20) (v := fun g => .slice (some ⟨g, 0, none⟩) 3 3) (o := fun g => .cells #[.int .i64 y1, .int .i64 y2, .int .i64 y3] 3 (0, 0)) (fun g => by kernel_rfl)) ?_
  rintro _ _ _ _ ⟨g3, rfl, rfl, rfl⟩
  have ho1 : SlOwn (Kd.int .i64) 3 H (some ⟨g3, 0, none⟩) 3 ([y1, y2, y3] : List Int) (some (g3, .cells #[.int .i64 y1, .int .i64 y2, .int .i64 y3] 3 (0, 0))) := SlOwn.lit (xs := ([y1, y2, y3] : List Int)) (by kernel_rfl) (Nat.le_of_ble_eq_true (by kernel_rfl)) (Kd.Rep.scalars rfl)
  refine ⟨fun w hh => ⟨(fun w hh => hh.pick 3 [1, 2] (by kernel_rfl)) w hh, fun _ => (fun w hh => hh.pick 3 [1, 2] (by kernel_rfl)) w hh⟩, ?_⟩
  refine DrH.keep [20] (L' := [(20, .slice (some ⟨g3, 0, none⟩) 3 3)]) (by kernel_rfl) ?_
  obtain ⟨y4, hy4, heq⟩ := bind_some heq
  refine DrH.does (n := 1) (ls' := [true, true, true, true, true, true, true, true, true, true, true, true, true, true, true, true, true, false]) 16 (by kernel_rfl) rfl (DoesH.call (d := 21) (g := 78) (args := #[.slice (some ⟨g3, 0, none⟩) 3 3]) (by kernel_rfl) (cmp_Or_int_c (a0 := ([y1, y2, y3] : List Int)) (ho1.rw (.head _)) ho1.cap rfl hy4)) ?_
  rintro _ _ _ _ ⟨_, rfl, rfl, rfl, rfl⟩
  refine ⟨fun w hh => ⟨(fun w hh => hh.pick 3 [1, 2] (by kernel_rfl)) w hh, fun _ => (fun w hh => hh.pick 3 [1, 2] (by kernel_rfl)) w hh⟩, ?_⟩
  refine DrH.run [17] (m := 0) (ls' := [true, true, true, true, true, true, true, true, true, true, true, true, true, true, true, true, true, true]) (vs := []) (evs := []) (L' := [(4, .int .i64 y4), (21, .int .i64 y4), (20, .slice (some ⟨g3, 0, none⟩) 3 3)]) (by kernel_rfl) (fun w hh => hh.pick 3 [1, 2] (by kernel_rfl)) (fun w hh => hh.pick 2 [0, 1] (by kernel_rfl)) (by kernel_rfl) (fun _ _ => trivial) (by kernel_rfl) ?_
  refine DrH.keep [4] (L' := [(4, .int .i64 y4)]) (by kernel_rfl) ?_
  refine DrH.done (by kernel_rfl) ?_
  obtain rfl := Option.some.inj heq
  refine RunH.pick 3 [] (cs' := F) (by kernel_rfl) rfl ?_
  exact RunH.done (by kernel_rfl) Tryd.func57 (v := .int .i64 y4) (by kernel_rfl) ⟨rfl, rfl, rfl⟩
noncomputable def C18 : Ctx := { P := Tryd.prog, f := 18, N := 62, c := bodyOf Tryd.f18 }
def S18 (F : List Ch) (H0 : Hp) (r : Int) (v : Value) (H : Hp) (cs : List Ch) : Prop := H0 = H ∧ v = .int .i64 r ∧ F = cs
theorem workers_CheckRuns.e1_c {w0 : World} {H : Hp} {F : List Ch} {r : Int} : workers_CheckRuns.e1 = some r → RunH C18 (S18 F H r) H w0 [.c [1, 1, 1, 0], .c [1, 1, 1, 1]] [] H (F) := by
  intro   heq
  unfold workers_CheckRuns.e1 at heq
  refine RunH.reg (by kernel_rfl) ?_
  refine RgH.runk 1 [2] (vs := []) (evs := []) (L' := [(2, .int .i64 0)]) (by kernel_rfl) (by kernel_rfl) (fun _ _ => trivial) ?_
  refine RgH.done (by kernel_rfl) ?_
  obtain rfl := Option.some.inj heq
  exact RunH.done (by kernel_rfl) Tryd.func18 (v := .int .i64 0) (by kernel_rfl) ⟨rfl, rfl, rfl⟩
theorem workers_CheckRuns.l2_c {w0 : World} {H : Hp} {F : List Ch} {r : Int} (e1 : Option Int)
    (he1 : e1 = some r → RunH C18 (S18 F H r) H w0 [.c [1, 1, 1, 0], .c [1, 1, 1, 1]] [] H (F)) : ∀ (k : Nat), ∀ (a0 : List Run) (Aa0 : Option Addr) (ca0 : Nat) (v10 : Int) , Rw kRun H F Aa0 a0 → a0.length ≤ ca0 → workers_CheckRuns.l2 e1 k a0 v10 = some r → RunH C18 (S18 F H r) H w0 [.c [1, 1, 0, 1, 0, 0], .l [1, 1, 0, 1, 0, 0], .b 0, .c [1, 1, 1]] [(0, .slice Aa0 a0.length ca0), (8, .slice Aa0 a0.length ca0), (9, .int .i64 (a0.length : Int)), (10, .int .i64 v10)] H (F) := by
  intro k
  induction k with
  | zero => intro a0 Aa0 ca0 v10 hra0 hca0 heq; exact nomatch (show (none : Option Int) = some r from heq)
  | succ k ihk =>
    intro a0 Aa0 ca0 v10 hra0 hca0 heq
    rw [workers_CheckRuns.l2] at heq
    refine RunH.adm 1 (es' := [.c [1, 1, 0, 1, 0, 0, 0], .c [1, 1, 0, 1, 0, 0, 1], .l [1, 1, 0, 1, 0, 0], .b 0, .c [1, 1, 1]]) (by kernel_rfl) ?_
    refine RunH.reg (by kernel_rfl) ?_
    refine RgH.runk 1 [0, 8, 9, 10, 11] (vs := []) (evs := []) (L' := [(0, .slice Aa0 a0.length ca0), (8, .slice Aa0 a0.length ca0), (9, .int .i64 (a0.length : Int)), (10, .int .i64 v10), (11, .bool (decide (v10 < (a0.length : Int))))]) (by kernel_rfl) (by kernel_rfl) (fun _ _ => trivial) ?_
    refine RgH.done (by kernel_rfl) ?_
    refine RunH.adm 1 (es' := [.c [1, 1, 0, 1, 0, 0, 1, 0], .c [1, 1, 0, 1, 0, 0, 1, 1], .l [1, 1, 0, 1, 0, 0], .b 0, .c [1, 1, 1]]) (by kernel_rfl) ?_
    rcases bool_cases (decide (v10 < (a0.length : Int))) with hb2 | hb2
    · replace heq := bif_true hb2 heq
      refine RunH.condT (c := decide (v10 < (a0.length : Int))) (by kernel_rfl) hb2 ?_
      refine RunH.adm 4 (es' := [.c [1, 1, 0, 1, 0, 0, 1, 1, 0, 0, 0], .c [1, 1, 0, 1, 0, 0, 1, 1, 0, 0, 1], .b 1, .c [1, 1, 0, 1, 0, 0, 1, 1, 1], .l [1, 1, 0, 1, 0, 0], .b 0, .c [1, 1, 1]]) (by kernel_rfl) ?_
      refine RunH.reg (by kernel_rfl) ?_
      obtain ⟨x1, hx1, heq⟩ := bind_some heq
      obtain ⟨ha1, cs1, hK1, hcc1⟩ := hra0.get hx1
      obtain ⟨rfl⟩ := kRun_open hK1
      refine RgH.runk 3 [0, 8, 9, 10, 12, 14] (vs := [.string x1.Id, .string x1.Worker, .int .i64 x1.From, .int .i64 x1.To, .int .i64 x1.End]) (evs := [.need (Aa0 = some (adr Aa0) ∧ (0 : Int) ≤ v10 ∧ v10 < ((a0.length : Nat) : Int)), .load (((adr Aa0).add (v10.toNat * 5)).add 0) (.string x1.Id), .load (((adr Aa0).add (v10.toNat * 5)).add 1) (.string x1.Worker), .load (((adr Aa0).add (v10.toNat * 5)).add 2) (.int .i64 x1.From), .load (((adr Aa0).add (v10.toNat * 5)).add 3) (.int .i64 x1.To), .load (((adr Aa0).add (v10.toNat * 5)).add 4) (.int .i64 x1.End)]) (L' := [(0, .slice Aa0 a0.length ca0), (8, .slice Aa0 a0.length ca0), (9, .int .i64 (a0.length : Int)), (10, .int .i64 v10), (12, .int .i64 v10), (14, .agg #[.string x1.Id, .string x1.Worker, .int .i64 x1.From, .int .i64 x1.To, .int .i64 x1.End])]) (by kernel_rfl) (by kernel_rfl) (fun w hh => ⟨⟨ha1, (at?_some hx1).1, (at?_some hx1).2.1⟩, (hcc1 _ _ (hh.drop 0) 0 _ rfl), (hcc1 _ _ (hh.drop 0) 1 _ rfl), (hcc1 _ _ (hh.drop 0) 2 _ rfl), (hcc1 _ _ (hh.drop 0) 3 _ rfl), (hcc1 _ _ (hh.drop 0) 4 _ rfl)⟩) ?_
      refine RgH.does (DoesH.new (d := 4) (v := fun g => .pointer (some ⟨g, 0, none⟩)) (o := fun g => .cells #[.string ByteArray.empty, .string ByteArray.empty, .int .i64 0, .int .i64 0, .int .i64 0] 39 (0, 0)) (fun g => by kernel_rfl)) ?_
      rintro _ _ _ _ ⟨g1, rfl, rfl, rfl⟩
      refine RgH.runk 5 [0, 3, 4, 8, 9, 10, 14] (vs := []) (evs := []) (L' := [(0, .slice Aa0 a0.length ca0), (3, .int .i64 v10), (4, .pointer (some ⟨g1, 0, none⟩)), (8, .slice Aa0 a0.length ca0), (9, .int .i64 (a0.length : Int)), (10, .int .i64 v10), (14, .agg #[.string x1.Id, .string x1.Worker, .int .i64 x1.From, .int .i64 x1.To, .int .i64 x1.End])]) (by kernel_rfl) (by kernel_rfl) (fun _ _ => trivial) ?_
      refine RgH.does (DoesH.store (k := 0) (g := g1) (off := 0) (v := .agg #[.string x1.Id, .string x1.Worker, .int .i64 x1.From, .int .i64 x1.To, .int .i64 x1.End]) (cells' := #[.string x1.Id, .string x1.Worker, .int .i64 x1.From, .int .i64 x1.To, .int .i64 x1.End]) (by kernel_rfl) rfl (by kernel_rfl) (by kernel_rfl)) ?_
      rintro _ _ _ _ ⟨rfl, rfl, rfl⟩
      refine RgH.done (by kernel_rfl) ?_
      refine RunH.adm 2 (es' := [.c [1, 1, 0, 1, 0, 0, 1, 1, 0, 0, 1, 0, 0], .c [1, 1, 0, 1, 0, 0, 1, 1, 0, 0, 1, 0, 1], .b 2, .b 1, .c [1, 1, 0, 1, 0, 0, 1, 1, 1], .l [1, 1, 0, 1, 0, 0], .b 0, .c [1, 1, 1]]) (by kernel_rfl) ?_
      obtain ⟨t1, ht1, heq⟩ := bind_some heq
      have K2 : RunH C18 (S18 F H r) H w0 [.c [1, 1, 0, 1, 0, 0, 1, 1, 0, 0, 1, 0, 1], .b 2, .b 1, .c [1, 1, 0, 1, 0, 0, 1, 1, 1], .l [1, 1, 0, 1, 0, 0], .b 0, .c [1, 1, 1]] [(0, .slice Aa0 a0.length ca0), (3, .int .i64 v10), (4, .pointer (some ⟨g1, 0, none⟩)), (8, .slice Aa0 a0.length ca0), (9, .int .i64 (a0.length : Int)), (10, .int .i64 v10), (15, .bool t1)] H ((some (g1, .cells #[.string x1.Id, .string x1.Worker, .int .i64 x1.From, .int .i64 x1.To, .int .i64 x1.End] 39 (0, 0))) :: F) := by
        rcases bool_cases (t1) with hb4 | hb4
        · replace heq := bif_true hb4 heq
          refine RunH.condT (c := t1) (by kernel_rfl) hb4 ?_
          refine RunH.adm 1 (es' := [.c [1, 1, 0, 1, 0, 0, 1, 1, 0, 0, 1, 0, 1, 0, 0], .c [1, 1, 0, 1, 0, 0, 1, 1, 0, 0, 1, 0, 1, 0, 1], .b 2, .b 1, .c [1, 1, 0, 1, 0, 0, 1, 1, 1], .l [1, 1, 0, 1, 0, 0], .b 0, .c [1, 1, 1]]) (by kernel_rfl) ?_
          refine RunH.reg (by kernel_rfl) ?_
          refine RgH.runk 1 [2] (vs := []) (evs := []) (L' := [(2, .int .i64 5)]) (by kernel_rfl) (by kernel_rfl) (fun _ _ => trivial) ?_
          refine RgH.done (by kernel_rfl) ?_
          obtain rfl := Option.some.inj heq
          refine RunH.pick 1 [] (cs' := F) (by kernel_rfl) rfl ?_
          exact RunH.done (by kernel_rfl) Tryd.func18 (v := .int .i64 5) (by kernel_rfl) ⟨rfl, rfl, rfl⟩
        · replace heq := bif_false hb4 heq
          refine RunH.condF (c := t1) (by kernel_rfl) hb4 ?_
          refine RunH.adm 1 (es' := [.c [1, 1, 0, 1, 0, 0, 1, 1, 0, 0, 1, 0, 1, 1, 0], .c [1, 1, 0, 1, 0, 0, 1, 1, 0, 0, 1, 0, 1, 1, 1], .b 2, .b 1, .c [1, 1, 0, 1, 0, 0, 1, 1, 1], .l [1, 1, 0, 1, 0, 0], .b 0, .c [1, 1, 1]]) (by kernel_rfl) ?_
          obtain ⟨t2, ht2, heq⟩ := bind_some heq
          have K3 : RunH C18 (S18 F H r) H w0 [.c [1, 1, 0, 1, 0, 0, 1, 1, 0, 0, 1, 0, 1, 1, 1], .b 2, .b 1, .c [1, 1, 0, 1, 0, 0, 1, 1, 1], .l [1, 1, 0, 1, 0, 0], .b 0, .c [1, 1, 1]] [(0, .slice Aa0 a0.length ca0), (3, .int .i64 v10), (4, .pointer (some ⟨g1, 0, none⟩)), (8, .slice Aa0 a0.length ca0), (9, .int .i64 (a0.length : Int)), (10, .int .i64 v10), (26, .bool t2)] H ((some (g1, .cells #[.string x1.Id, .string x1.Worker, .int .i64 x1.From, .int .i64 x1.To, .int .i64 x1.End] 39 (0, 0))) :: F) := by
            rcases bool_cases (t2) with hb6 | hb6
            · replace heq := bif_true hb6 heq
              refine RunH.condT (c := t2) (by kernel_rfl) hb6 ?_
              refine RunH.adm 1 (es' := [.c [1, 1, 0, 1, 0, 0, 1, 1, 0, 0, 1, 0, 1, 1, 1, 0, 0], .c [1, 1, 0, 1, 0, 0, 1, 1, 0, 0, 1, 0, 1, 1, 1, 0, 1], .b 2, .b 1, .c [1, 1, 0, 1, 0, 0, 1, 1, 1], .l [1, 1, 0, 1, 0, 0], .b 0, .c [1, 1, 1]]) (by kernel_rfl) ?_
              refine RunH.reg (by kernel_rfl) ?_
              refine RgH.runk 1 [2] (vs := []) (evs := []) (L' := [(2, .int .i64 1)]) (by kernel_rfl) (by kernel_rfl) (fun _ _ => trivial) ?_
              refine RgH.done (by kernel_rfl) ?_
              obtain rfl := Option.some.inj heq
              refine RunH.pick 1 [] (cs' := F) (by kernel_rfl) rfl ?_
              exact RunH.done (by kernel_rfl) Tryd.func18 (v := .int .i64 1) (by kernel_rfl) ⟨rfl, rfl, rfl⟩
            · replace heq := bif_false hb6 heq
              refine RunH.condF (c := t2) (by kernel_rfl) hb6 ?_
              refine RunH.adm 1 (es' := [.c [1, 1, 0, 1, 0, 0, 1, 1, 0, 0, 1, 0, 1, 1, 1, 1, 0], .c [1, 1, 0, 1, 0, 0, 1, 1, 0, 0, 1, 0, 1, 1, 1, 1, 1], .b 2, .b 1, .c [1, 1, 0, 1, 0, 0, 1, 1, 1], .l [1, 1, 0, 1, 0, 0], .b 0, .c [1, 1, 1]]) (by kernel_rfl) ?_
              refine RunH.reg (by kernel_rfl) ?_
              refine RgH.runk 6 [0, 3, 4, 8, 9, 10, 37] (vs := [.int .i64 x1.To, .int .i64 x1.From]) (evs := [.load ⟨g1, 3, none⟩ (.int .i64 x1.To), .load ⟨g1, 2, none⟩ (.int .i64 x1.From)]) (L' := [(0, .slice Aa0 a0.length ca0), (3, .int .i64 v10), (4, .pointer (some ⟨g1, 0, none⟩)), (8, .slice Aa0 a0.length ca0), (9, .int .i64 (a0.length : Int)), (10, .int .i64 v10), (37, .bool (decide (x1.To < x1.From)))]) (by kernel_rfl) (by kernel_rfl) (fun w hh => ⟨(hh.box 0 rfl rfl), (hh.box 0 rfl rfl)⟩) ?_
              refine RgH.done (by kernel_rfl) ?_
              rcases bool_cases (decide (x1.To < x1.From)) with hb7 | hb7
              · replace heq := bif_true hb7 heq
                refine RunH.condT (c := decide (x1.To < x1.From)) (by kernel_rfl) hb7 ?_
                refine RunH.adm 1 (es' := [.c [1, 1, 0, 1, 0, 0, 1, 1, 0, 0, 1, 0, 1, 1, 1, 1, 1, 0, 0], .c [1, 1, 0, 1, 0, 0, 1, 1, 0, 0, 1, 0, 1, 1, 1, 1, 1, 0, 1], .b 2, .b 1, .c [1, 1, 0, 1, 0, 0, 1, 1, 1], .l [1, 1, 0, 1, 0, 0], .b 0, .c [1, 1, 1]]) (by kernel_rfl) ?_
                refine RunH.reg (by kernel_rfl) ?_
                refine RgH.runk 1 [2] (vs := []) (evs := []) (L' := [(2, .int .i64 8)]) (by kernel_rfl) (by kernel_rfl) (fun _ _ => trivial) ?_
                refine RgH.done (by kernel_rfl) ?_
                obtain rfl := Option.some.inj heq
                refine RunH.pick 1 [] (cs' := F) (by kernel_rfl) rfl ?_
                exact RunH.done (by kernel_rfl) Tryd.func18 (v := .int .i64 8) (by kernel_rfl) ⟨rfl, rfl, rfl⟩
              · replace heq := bif_false hb7 heq
                refine RunH.condF (c := decide (x1.To < x1.From)) (by kernel_rfl) hb7 ?_
                refine RunH.adm 1 (es' := [.c [1, 1, 0, 1, 0, 0, 1, 1, 0, 0, 1, 0, 1, 1, 1, 1, 1, 1, 0], .c [1, 1, 0, 1, 0, 0, 1, 1, 0, 0, 1, 0, 1, 1, 1, 1, 1, 1, 1], .b 2, .b 1, .c [1, 1, 0, 1, 0, 0, 1, 1, 1], .l [1, 1, 0, 1, 0, 0], .b 0, .c [1, 1, 1]]) (by kernel_rfl) ?_
                refine RunH.reg (by kernel_rfl) ?_
                refine RgH.runk 2 [0, 3, 4, 8, 9, 10, 45] (vs := [.int .i64 x1.End]) (evs := [.load ⟨g1, 4, none⟩ (.int .i64 x1.End)]) (L' := [(0, .slice Aa0 a0.length ca0), (3, .int .i64 v10), (4, .pointer (some ⟨g1, 0, none⟩)), (8, .slice Aa0 a0.length ca0), (9, .int .i64 (a0.length : Int)), (10, .int .i64 v10), (45, .int .i64 x1.End)]) (by kernel_rfl) (by kernel_rfl) (fun w hh => (hh.box 0 rfl rfl)) ?_
                obtain ⟨y5, hy5, heq⟩ := bind_some heq
                refine RgH.does (DoesH.call (d := 46) (g := 56) (args := #[.int .i64 x1.End, .int .i64 1, .int .i64 3]) (by kernel_rfl) (workers_within_c (a0 := x1.End) (a1 := 1) (a2 := 3)  hy5)) ?_
                rintro _ _ _ _ ⟨_, rfl, rfl, rfl, rfl⟩
                refine RgH.runk 5 [0, 3, 4, 8, 9, 10, 43] (vs := []) (evs := []) (L' := [(0, .slice Aa0 a0.length ca0), (3, .int .i64 v10), (4, .pointer (some ⟨g1, 0, none⟩)), (8, .slice Aa0 a0.length ca0), (9, .int .i64 (a0.length : Int)), (10, .int .i64 v10), (43, .bool (!y5))]) (by kernel_rfl) (by kernel_rfl) (fun _ _ => trivial) ?_
                refine RgH.done (by kernel_rfl) ?_
                rcases bool_cases (!y5) with hb8 | hb8
                · replace heq := bif_true hb8 heq
                  refine RunH.condT (c := !y5) (by kernel_rfl) hb8 ?_
                  refine RunH.adm 1 (es' := [.c [1, 1, 0, 1, 0, 0, 1, 1, 0, 0, 1, 0, 1, 1, 1, 1, 1, 1, 1, 0, 0], .c [1, 1, 0, 1, 0, 0, 1, 1, 0, 0, 1, 0, 1, 1, 1, 1, 1, 1, 1, 0, 1], .b 2, .b 1, .c [1, 1, 0, 1, 0, 0, 1, 1, 1], .l [1, 1, 0, 1, 0, 0], .b 0, .c [1, 1, 1]]) (by kernel_rfl) ?_
                  refine RunH.reg (by kernel_rfl) ?_
                  refine RgH.runk 1 [2] (vs := []) (evs := []) (L' := [(2, .int .i64 4)]) (by kernel_rfl) (by kernel_rfl) (fun _ _ => trivial) ?_
                  refine RgH.done (by kernel_rfl) ?_
                  obtain rfl := Option.some.inj heq
                  refine RunH.pick 1 [] (cs' := F) (by kernel_rfl) rfl ?_
                  exact RunH.done (by kernel_rfl) Tryd.func18 (v := .int .i64 4) (by kernel_rfl) ⟨rfl, rfl, rfl⟩
                · replace heq := bif_false hb8 heq
                  refine RunH.condF (c := !y5) (by kernel_rfl) hb8 ?_
                  refine RunH.adm 1 (es' := [.c [1, 1, 0, 1, 0, 0, 1, 1, 0, 0, 1, 0, 1, 1, 1, 1, 1, 1, 1, 1, 0], .c [1, 1, 0, 1, 0, 0, 1, 1, 0, 0, 1, 0, 1, 1, 1, 1, 1, 1, 1, 1, 1], .b 2, .b 1, .c [1, 1, 0, 1, 0, 0, 1, 1, 1], .l [1, 1, 0, 1, 0, 0], .b 0, .c [1, 1, 1]]) (by kernel_rfl) ?_
                  obtain ⟨t3, ht3, heq⟩ := bind_some heq
                  have K4 : RunH C18 (S18 F H r) H w0 [.c [1, 1, 0, 1, 0, 0, 1, 1, 0, 0, 1, 0, 1, 1, 1, 1, 1, 1, 1, 1, 1], .b 2, .b 1, .c [1, 1, 0, 1, 0, 0, 1, 1, 1], .l [1, 1, 0, 1, 0, 0], .b 0, .c [1, 1, 1]] [(0, .slice Aa0 a0.length ca0), (8, .slice Aa0 a0.length ca0), (9, .int .i64 (a0.length : Int)), (10, .int .i64 v10), (48, .bool t3)] H (F) := by
                    rcases bool_cases (t3) with hb10 | hb10
                    · replace heq := bif_true hb10 heq
                      refine RunH.condT (c := t3) (by kernel_rfl) hb10 ?_
                      refine RunH.adm 1 (es' := [.c [1, 1, 0, 1, 0, 0, 1, 1, 0, 0, 1, 0, 1, 1, 1, 1, 1, 1, 1, 1, 1, 0, 0], .c [1, 1, 0, 1, 0, 0, 1, 1, 0, 0, 1, 0, 1, 1, 1, 1, 1, 1, 1, 1, 1, 0, 1], .b 2, .b 1, .c [1, 1, 0, 1, 0, 0, 1, 1, 1], .l [1, 1, 0, 1, 0, 0], .b 0, .c [1, 1, 1]]) (by kernel_rfl) ?_
                      refine RunH.reg (by kernel_rfl) ?_
                      refine RgH.runk 1 [2] (vs := []) (evs := []) (L' := [(2, .int .i64 8)]) (by kernel_rfl) (by kernel_rfl) (fun _ _ => trivial) ?_
                      refine RgH.done (by kernel_rfl) ?_
                      obtain rfl := Option.some.inj heq
                      exact RunH.done (by kernel_rfl) Tryd.func18 (v := .int .i64 8) (by kernel_rfl) ⟨rfl, rfl, rfl⟩
                    · replace heq := bif_false hb10 heq
                      refine RunH.condF (c := t3) (by kernel_rfl) hb10 ?_
                      refine RunH.adm 3 (es' := [.c [1, 1, 0, 1, 0, 0, 1, 1, 1], .l [1, 1, 0, 1, 0, 0], .b 0, .c [1, 1, 1]]) (by kernel_rfl) ?_
                      refine RunH.reg (by kernel_rfl) ?_
                      refine RgH.runk 2 [0, 8, 9, 10] (vs := []) (evs := []) (L' := [(0, .slice Aa0 a0.length ca0), (8, .slice Aa0 a0.length ca0), (9, .int .i64 (a0.length : Int)), (10, .int .i64 (w64 (v10 + 1)))]) (by kernel_rfl) (by kernel_rfl) (fun _ _ => trivial) ?_
                      refine RgH.done (by kernel_rfl) ?_
                      refine RunH.adm 1 (es' := [.c [1, 1, 0, 1, 0, 0], .l [1, 1, 0, 1, 0, 0], .b 0, .c [1, 1, 1]]) (by kernel_rfl) ?_
                      refine RunH.keep [0, 8, 9, 10] (L' := [(0, .slice Aa0 a0.length ca0), (8, .slice Aa0 a0.length ca0), (9, .int .i64 (a0.length : Int)), (10, .int .i64 (w64 (v10 + 1)))]) (by kernel_rfl) ?_
                      exact ihk a0 _ _ (w64 (v10 + 1)) hra0 hca0 heq
                  replace heq := ht3
                  refine RunH.keep [0, 3, 4, 8, 9, 10] (L' := [(0, .slice Aa0 a0.length ca0), (3, .int .i64 v10), (4, .pointer (some ⟨g1, 0, none⟩)), (8, .slice Aa0 a0.length ca0), (9, .int .i64 (a0.length : Int)), (10, .int .i64 v10)]) (by kernel_rfl) ?_
                  refine RunH.draw (fun w => Heap H w0 w ((some (g1, .cells #[.string x1.Id, .string x1.Worker, .int .i64 x1.From, .int .i64 x1.To, .int .i64 x1.End] 39 (0, 0))) :: F)) (fun w => Heap H w0 w ((some (g1, .cells #[.string x1.Id, .string x1.Worker, .int .i64 x1.From, .int .i64 x1.To, .int .i64 x1.End] 39 (0, 0))) :: F)) [false, false, false, false, false, false, false, false, false, false, false, false, false] (n := 13) (ls := [false, false, false, false, false, false, false, false, false, false, false, false, false]) (by kernel_rfl) (by kernel_rfl) (by kernel_rfl) rfl ?_
                  refine DrH.run [0, 1, 2] (m := 10) (ls' := [true, true, true, false, false, false, false, false, false, false, false, false, false]) (vs := []) (evs := []) (L' := [(51, .bool (decide (0 < v10))), (50, .bool (decide (0 < v10))), (49, .int .i64 v10), (0, .slice Aa0 a0.length ca0), (3, .int .i64 v10), (4, .pointer (some ⟨g1, 0, none⟩)), (8, .slice Aa0 a0.length ca0), (9, .int .i64 (a0.length : Int)), (10, .int .i64 v10)]) (by kernel_rfl) (fun w hh => hh.pick 1 [0] (by kernel_rfl)) (fun w hh => hh.pick 1 [0] (by kernel_rfl)) (by kernel_rfl) (fun _ _ => trivial) (by kernel_rfl) ?_
                  refine DrH.keep [51, 0, 3, 4, 8, 9, 10] (L' := [(51, .bool (decide (0 < v10))), (0, .slice Aa0 a0.length ca0), (3, .int .i64 v10), (4, .pointer (some ⟨g1, 0, none⟩)), (8, .slice Aa0 a0.length ca0), (9, .int .i64 (a0.length : Int)), (10, .int .i64 v10)]) (by kernel_rfl) ?_
                  rcases bool_cases (decide (0 < v10)) with hb9 | hb9
                  · replace heq := bif_true hb9 heq
                    refine DrH.val1 (v' := .bool true) (congrArg Value.bool hb9) ?_
                    obtain ⟨x2, hx2, heq⟩ := bind_some heq
                    obtain ⟨ha2, cs2, hK2, hcc2⟩ := hra0.get hx2
                    obtain ⟨rfl⟩ := kRun_open hK2
                    refine DrH.run [3, 4, 5, 6, 7, 8] (m := 4) (ls' := [true, true, true, true, true, true, true, true, true, false, false, false, false]) (vs := [.string x1.Id, .string x1.Worker, .int .i64 x1.From, .int .i64 x1.To, .int .i64 x1.End, .string x2.Id, .string x2.Worker, .int .i64 x2.From, .int .i64 x2.To, .int .i64 x2.End]) (evs := [.load ⟨g1, 0, none⟩ (.string x1.Id), .load ⟨g1, 1, none⟩ (.string x1.Worker), .load ⟨g1, 2, none⟩ (.int .i64 x1.From), .load ⟨g1, 3, none⟩ (.int .i64 x1.To), .load ⟨g1, 4, none⟩ (.int .i64 x1.End), .need (Aa0 = some (adr Aa0) ∧ (0 : Int) ≤ (w64 (v10 - 1)) ∧ (w64 (v10 - 1)) < ((a0.length : Nat) : Int)), .load (((adr Aa0).add ((w64 (v10 - 1)).toNat * 5)).add 0) (.string x2.Id), .load (((adr Aa0).add ((w64 (v10 - 1)).toNat * 5)).add 1) (.string x2.Worker), .load (((adr Aa0).add ((w64 (v10 - 1)).toNat * 5)).add 2) (.int .i64 x2.From), .load (((adr Aa0).add ((w64 (v10 - 1)).toNat * 5)).add 3) (.int .i64 x2.To), .load (((adr Aa0).add ((w64 (v10 - 1)).toNat * 5)).add 4) (.int .i64 x2.End)]) (L' := [(57, .agg #[.string x2.Id, .string x2.Worker, .int .i64 x2.From, .int .i64 x2.To, .int .i64 x2.End]), (56, .pointer (some ((adr Aa0).add ((w64 (v10 - 1)).toNat * 5)))), (55, .int .i64 (w64 (v10 - 1))), (54, .int .i64 v10), (53, .slice Aa0 a0.length ca0), (52, .agg #[.string x1.Id, .string x1.Worker, .int .i64 x1.From, .int .i64 x1.To, .int .i64 x1.End]), (51, .bool true), (0, .slice Aa0 a0.length ca0), (3, .int .i64 v10), (4, .pointer (some ⟨g1, 0, none⟩)), (8, .slice Aa0 a0.length ca0), (9, .int .i64 (a0.length : Int)), (10, .int .i64 v10)]) (by kernel_rfl) (fun w hh => hh.pick 1 [0] (by kernel_rfl)) (fun w hh => hh.pick 1 [0] (by kernel_rfl)) (by kernel_rfl) (fun w hh => ⟨(hh.box 0 rfl rfl), (hh.box 0 rfl rfl), (hh.box 0 rfl rfl), (hh.box 0 rfl rfl), (hh.box 0 rfl rfl), ⟨ha2, (at?_some hx2).1, (at?_some hx2).2.1⟩, (hcc2 _ _ (hh.drop 1) 0 _ rfl), (hcc2 _ _ (hh.drop 1) 1 _ rfl), (hcc2 _ _ (hh.drop 1) 2 _ rfl), (hcc2 _ _ (hh.drop 1) 3 _ rfl), (hcc2 _ _ (hh.drop 1) 4 _ rfl)⟩) (by kernel_rfl) ?_
                    refine DrH.keep [0, 8, 9, 10, 51, 52, 57] (L' := [(0, .slice Aa0 a0.length ca0), (8, .slice Aa0 a0.length ca0), (9, .int .i64 (a0.length : Int)), (10, .int .i64 v10), (51, .bool true), (52, .agg #[.string x1.Id, .string x1.Worker, .int .i64 x1.From, .int .i64 x1.To, .int .i64 x1.End]), (57, .agg #[.string x2.Id, .string x2.Worker, .int .i64 x2.From, .int .i64 x2.To, .int .i64 x2.End])]) (by kernel_rfl) ?_
                    obtain ⟨y6, hy6, heq⟩ := bind_some heq
                    refine DrH.does (n := 3) (ls' := [true, true, true, true, true, true, true, true, true, true, false, false, false]) 9 (by kernel_rfl) rfl (DoesH.call (d := 58) (g := 57) (args := #[.agg #[.string x1.Id, .string x1.Worker, .int .i64 x1.From, .int .i64 x1.To, .int .i64 x1.End], .agg #[.string x2.Id, .string x2.Worker, .int .i64 x2.From, .int .i64 x2.To, .int .i64 x2.End]]) (by kernel_rfl) (workers_compareRuns_c (a0 := x1) (a1 := x2)  hy6)) ?_
                    rintro _ _ _ _ ⟨_, rfl, rfl, rfl, rfl⟩
                    refine ⟨fun w hh => ⟨(fun w hh => hh.pick 1 [0] (by kernel_rfl)) w hh, fun _ => (fun w hh => hh.pick 1 [0] (by kernel_rfl)) w hh⟩, ?_⟩
                    refine DrH.run [10, 11, 12] (m := 0) (ls' := [true, true, true, true, true, true, true, true, true, true, true, true, true]) (vs := []) (evs := []) (L' := [(48, .bool (decide (y6 ≤ 0))), (60, .bool (decide (y6 ≤ 0))), (59, .bool (decide (y6 ≤ 0))), (58, .int .i64 y6), (0, .slice Aa0 a0.length ca0), (8, .slice Aa0 a0.length ca0), (9, .int .i64 (a0.length : Int)), (10, .int .i64 v10), (51, .bool true), (52, .agg #[.string x1.Id, .string x1.Worker, .int .i64 x1.From, .int .i64 x1.To, .int .i64 x1.End]), (57, .agg #[.string x2.Id, .string x2.Worker, .int .i64 x2.From, .int .i64 x2.To, .int .i64 x2.End])]) (by kernel_rfl) (fun w hh => hh.pick 1 [0] (by kernel_rfl)) (fun w hh => hh.pick 1 [0] (by kernel_rfl)) (by kernel_rfl) (fun _ _ => trivial) (by kernel_rfl) ?_
                    refine DrH.keep [0, 8, 9, 10, 48] (L' := [(0, .slice Aa0 a0.length ca0), (8, .slice Aa0 a0.length ca0), (9, .int .i64 (a0.length : Int)), (10, .int .i64 v10), (48, .bool (decide (y6 ≤ 0)))]) (by kernel_rfl) ?_
                    obtain rfl := Option.some.inj heq
                    refine DrH.keep [0, 8, 9, 10, 48] (L' := [(0, .slice Aa0 a0.length ca0), (8, .slice Aa0 a0.length ca0), (9, .int .i64 (a0.length : Int)), (10, .int .i64 v10), (48, .bool (decide (y6 ≤ 0)))]) (by kernel_rfl) ?_
                    refine DrH.pick 1 [] (cs' := F) (by kernel_rfl) rfl ?_
                    refine DrH.done (by kernel_rfl) ?_
                    exact K4
                  · replace heq := bif_false hb9 heq
                    refine DrH.val1 (v' := .bool false) (congrArg Value.bool hb9) ?_
                    refine DrH.run [3, 4, 5, 6, 7, 8, 9, 10, 11, 12] (m := 0) (ls' := [true, true, true, true, true, true, true, true, true, true, true, true, true]) (vs := []) (evs := []) (L' := [(48, .bool false), (60, .bool false), (59, undef), (58, undef), (57, undef), (56, undef), (55, undef), (54, undef), (53, undef), (52, undef), (51, .bool false), (0, .slice Aa0 a0.length ca0), (3, .int .i64 v10), (4, .pointer (some ⟨g1, 0, none⟩)), (8, .slice Aa0 a0.length ca0), (9, .int .i64 (a0.length : Int)), (10, .int .i64 v10)]) (by kernel_rfl) (fun w hh => hh.pick 1 [0] (by kernel_rfl)) (fun w hh => hh.pick 1 [0] (by kernel_rfl)) (by kernel_rfl) (fun _ _ => trivial) (by kernel_rfl) ?_
                    refine DrH.keep [0, 8, 9, 10, 48] (L' := [(0, .slice Aa0 a0.length ca0), (8, .slice Aa0 a0.length ca0), (9, .int .i64 (a0.length : Int)), (10, .int .i64 v10), (48, .bool false)]) (by kernel_rfl) ?_
                    obtain rfl := Option.some.inj heq
                    refine DrH.keep [0, 8, 9, 10, 48] (L' := [(0, .slice Aa0 a0.length ca0), (8, .slice Aa0 a0.length ca0), (9, .int .i64 (a0.length : Int)), (10, .int .i64 v10), (48, .bool false)]) (by kernel_rfl) ?_
                    refine DrH.pick 1 [] (cs' := F) (by kernel_rfl) rfl ?_
                    refine DrH.done (by kernel_rfl) ?_
                    exact K4
          replace heq := ht2
          refine RunH.reg (by kernel_rfl) ?_
          refine RgH.runk 2 [0, 3, 4, 8, 9, 10, 28] (vs := [.int .i64 x1.From]) (evs := [.load ⟨g1, 2, none⟩ (.int .i64 x1.From)]) (L' := [(0, .slice Aa0 a0.length ca0), (3, .int .i64 v10), (4, .pointer (some ⟨g1, 0, none⟩)), (8, .slice Aa0 a0.length ca0), (9, .int .i64 (a0.length : Int)), (10, .int .i64 v10), (28, .int .i64 x1.From)]) (by kernel_rfl) (by kernel_rfl) (fun w hh => (hh.box 0 rfl rfl)) ?_
          obtain ⟨y3, hy3, heq⟩ := bind_some heq
          refine RgH.does (DoesH.call (d := 29) (g := 43) (args := #[.int .i64 x1.From]) (by kernel_rfl) (workers_isMoment_c (a0 := x1.From)  hy3)) ?_
          rintro _ _ _ _ ⟨_, rfl, rfl, rfl, rfl⟩
          refine RgH.runk 5 [31, 0, 3, 4, 8, 9, 10] (vs := []) (evs := []) (L' := [(31, .bool (!y3)), (0, .slice Aa0 a0.length ca0), (3, .int .i64 v10), (4, .pointer (some ⟨g1, 0, none⟩)), (8, .slice Aa0 a0.length ca0), (9, .int .i64 (a0.length : Int)), (10, .int .i64 v10)]) (by kernel_rfl) (by kernel_rfl) (fun _ _ => trivial) ?_
          rcases bool_cases (!y3) with hb5 | hb5
          · replace heq := bif_true hb5 heq
            refine RgH.val1 (v' := .bool true) (congrArg Value.bool hb5) ?_
            refine RgH.runk 11 [0, 3, 4, 8, 9, 10, 26] (vs := []) (evs := []) (L' := [(0, .slice Aa0 a0.length ca0), (3, .int .i64 v10), (4, .pointer (some ⟨g1, 0, none⟩)), (8, .slice Aa0 a0.length ca0), (9, .int .i64 (a0.length : Int)), (10, .int .i64 v10), (26, .bool true)]) (by kernel_rfl) (by kernel_rfl) (fun _ _ => trivial) ?_
            obtain rfl := Option.some.inj heq
            refine RgH.keep [0, 3, 4, 8, 9, 10, 26] (L' := [(0, .slice Aa0 a0.length ca0), (3, .int .i64 v10), (4, .pointer (some ⟨g1, 0, none⟩)), (8, .slice Aa0 a0.length ca0), (9, .int .i64 (a0.length : Int)), (10, .int .i64 v10), (26, .bool true)]) (by kernel_rfl) ?_
            refine RgH.done (by kernel_rfl) ?_
            exact K3
          · replace heq := bif_false hb5 heq
            refine RgH.val1 (v' := .bool false) (congrArg Value.bool hb5) ?_
            refine RgH.runk 7 [0, 3, 4, 8, 9, 10, 31, 33] (vs := [.int .i64 x1.To]) (evs := [.load ⟨g1, 3, none⟩ (.int .i64 x1.To)]) (L' := [(0, .slice Aa0 a0.length ca0), (3, .int .i64 v10), (4, .pointer (some ⟨g1, 0, none⟩)), (8, .slice Aa0 a0.length ca0), (9, .int .i64 (a0.length : Int)), (10, .int .i64 v10), (31, .bool false), (33, .int .i64 x1.To)]) (by kernel_rfl) (by kernel_rfl) (fun w hh => (hh.box 0 rfl rfl)) ?_
            obtain ⟨y4, hy4, heq⟩ := bind_some heq
            refine RgH.does (DoesH.call (d := 34) (g := 43) (args := #[.int .i64 x1.To]) (by kernel_rfl) (workers_isMoment_c (a0 := x1.To)  hy4)) ?_
            rintro _ _ _ _ ⟨_, rfl, rfl, rfl, rfl⟩
            refine RgH.runk 11 [0, 3, 4, 8, 9, 10, 26] (vs := []) (evs := []) (L' := [(0, .slice Aa0 a0.length ca0), (3, .int .i64 v10), (4, .pointer (some ⟨g1, 0, none⟩)), (8, .slice Aa0 a0.length ca0), (9, .int .i64 (a0.length : Int)), (10, .int .i64 v10), (26, .bool (!y4))]) (by kernel_rfl) (by kernel_rfl) (fun _ _ => trivial) ?_
            obtain rfl := Option.some.inj heq
            refine RgH.keep [0, 3, 4, 8, 9, 10, 26] (L' := [(0, .slice Aa0 a0.length ca0), (3, .int .i64 v10), (4, .pointer (some ⟨g1, 0, none⟩)), (8, .slice Aa0 a0.length ca0), (9, .int .i64 (a0.length : Int)), (10, .int .i64 v10), (26, .bool (!y4))]) (by kernel_rfl) ?_
            refine RgH.done (by kernel_rfl) ?_
            exact K3
      replace heq := ht1
      refine RunH.reg (by kernel_rfl) ?_
      refine RgH.runk 2 [0, 3, 4, 8, 9, 10, 17] (vs := [.string x1.Id]) (evs := [.load ⟨g1, 0, none⟩ (.string x1.Id)]) (L' := [(0, .slice Aa0 a0.length ca0), (3, .int .i64 v10), (4, .pointer (some ⟨g1, 0, none⟩)), (8, .slice Aa0 a0.length ca0), (9, .int .i64 (a0.length : Int)), (10, .int .i64 v10), (17, .string x1.Id)]) (by kernel_rfl) (by kernel_rfl) (fun w hh => (hh.box 0 rfl rfl)) ?_
      obtain ⟨y1, hy1, heq⟩ := bind_some heq
      refine RgH.does (DoesH.call (d := 18) (g := 54) (args := #[.string x1.Id]) (by kernel_rfl) (config_IsWord_c (a0 := x1.Id)  hy1)) ?_
      rintro _ _ _ _ ⟨_, rfl, rfl, rfl, rfl⟩
      refine RgH.runk 5 [20, 0, 3, 4, 8, 9, 10] (vs := []) (evs := []) (L' := [(20, .bool (!y1)), (0, .slice Aa0 a0.length ca0), (3, .int .i64 v10), (4, .pointer (some ⟨g1, 0, none⟩)), (8, .slice Aa0 a0.length ca0), (9, .int .i64 (a0.length : Int)), (10, .int .i64 v10)]) (by kernel_rfl) (by kernel_rfl) (fun _ _ => trivial) ?_
      rcases bool_cases (!y1) with hb3 | hb3
      · replace heq := bif_true hb3 heq
        refine RgH.val1 (v' := .bool true) (congrArg Value.bool hb3) ?_
        refine RgH.runk 11 [0, 3, 4, 8, 9, 10, 15] (vs := []) (evs := []) (L' := [(0, .slice Aa0 a0.length ca0), (3, .int .i64 v10), (4, .pointer (some ⟨g1, 0, none⟩)), (8, .slice Aa0 a0.length ca0), (9, .int .i64 (a0.length : Int)), (10, .int .i64 v10), (15, .bool true)]) (by kernel_rfl) (by kernel_rfl) (fun _ _ => trivial) ?_
        obtain rfl := Option.some.inj heq
        refine RgH.keep [0, 3, 4, 8, 9, 10, 15] (L' := [(0, .slice Aa0 a0.length ca0), (3, .int .i64 v10), (4, .pointer (some ⟨g1, 0, none⟩)), (8, .slice Aa0 a0.length ca0), (9, .int .i64 (a0.length : Int)), (10, .int .i64 v10), (15, .bool true)]) (by kernel_rfl) ?_
        refine RgH.done (by kernel_rfl) ?_
        exact K2
      · replace heq := bif_false hb3 heq
        refine RgH.val1 (v' := .bool false) (congrArg Value.bool hb3) ?_
        refine RgH.runk 7 [0, 3, 4, 8, 9, 10, 20, 22] (vs := [.string x1.Worker]) (evs := [.load ⟨g1, 1, none⟩ (.string x1.Worker)]) (L' := [(0, .slice Aa0 a0.length ca0), (3, .int .i64 v10), (4, .pointer (some ⟨g1, 0, none⟩)), (8, .slice Aa0 a0.length ca0), (9, .int .i64 (a0.length : Int)), (10, .int .i64 v10), (20, .bool false), (22, .string x1.Worker)]) (by kernel_rfl) (by kernel_rfl) (fun w hh => (hh.box 0 rfl rfl)) ?_
        obtain ⟨y2, hy2, heq⟩ := bind_some heq
        refine RgH.does (DoesH.call (d := 23) (g := 54) (args := #[.string x1.Worker]) (by kernel_rfl) (config_IsWord_c (a0 := x1.Worker)  hy2)) ?_
        rintro _ _ _ _ ⟨_, rfl, rfl, rfl, rfl⟩
        refine RgH.runk 11 [0, 3, 4, 8, 9, 10, 15] (vs := []) (evs := []) (L' := [(0, .slice Aa0 a0.length ca0), (3, .int .i64 v10), (4, .pointer (some ⟨g1, 0, none⟩)), (8, .slice Aa0 a0.length ca0), (9, .int .i64 (a0.length : Int)), (10, .int .i64 v10), (15, .bool (!y2))]) (by kernel_rfl) (by kernel_rfl) (fun _ _ => trivial) ?_
        obtain rfl := Option.some.inj heq
        refine RgH.keep [0, 3, 4, 8, 9, 10, 15] (L' := [(0, .slice Aa0 a0.length ca0), (3, .int .i64 v10), (4, .pointer (some ⟨g1, 0, none⟩)), (8, .slice Aa0 a0.length ca0), (9, .int .i64 (a0.length : Int)), (10, .int .i64 v10), (15, .bool (!y2))]) (by kernel_rfl) ?_
        refine RgH.done (by kernel_rfl) ?_
        exact K2
    · replace heq := bif_false hb2 heq
      refine RunH.condF (c := decide (v10 < (a0.length : Int))) (by kernel_rfl) hb2 ?_
      refine RunH.adm 2 (es' := [.c [1, 1, 1, 0], .c [1, 1, 1, 1]]) (by kernel_rfl) ?_
      refine RunH.keep [] (L' := []) (by kernel_rfl) ?_
      exact he1 heq
theorem workers_CheckRuns_c {w0 : World} {H : Hp} {F : List Ch} {a0 : List Run} {Aa0 : Option Addr} {na0 : Nat} {ca0 : Nat} {r : Int} (hra0 : Rw kRun H F Aa0 a0) (hca0 : na0 ≤ ca0) (hna0 : na0 = a0.length) (heq : workers_CheckRuns.f a0 = some r) : CallsH Tryd.prog 18 #[.slice Aa0 na0 ca0] H w0 (F) (S18 F H r) := by
  refine calls_of_runH (F := C18) Tryd.func18 (by kernel_rfl) Tryd.ntmps18 (args := [.slice Aa0 na0 ca0]) (by kernel_rfl) ?_
  subst hna0
  unfold workers_CheckRuns.f at heq
  refine RunH.adm 1 (es' := [.c [0], .c [1]]) (by kernel_rfl) ?_
  refine RunH.reg (by kernel_rfl) ?_
  refine RgH.runk 1 [0] (vs := []) (evs := []) (L' := [(0, .slice Aa0 a0.length ca0)]) (by kernel_rfl) (by kernel_rfl) (fun _ _ => trivial) ?_
  refine RgH.done (by kernel_rfl) ?_
  refine RunH.adm 2 (es' := [.c [1, 0, 0], .c [1, 0, 1], .c [1, 1]]) (by kernel_rfl) ?_
  refine RunH.reg (by kernel_rfl) ?_
  refine RgH.runk 3 [0, 7] (vs := []) (evs := []) (L' := [(0, .slice Aa0 a0.length ca0), (7, .bool (decide (4000 < (a0.length : Int))))]) (by kernel_rfl) (by kernel_rfl) (fun _ _ => trivial) ?_
  refine RgH.done (by kernel_rfl) ?_
  rcases bool_cases (decide (4000 < (a0.length : Int))) with hb1 | hb1
  · replace heq := bif_true hb1 heq
    refine RunH.condT (c := decide (4000 < (a0.length : Int))) (by kernel_rfl) hb1 ?_
    refine RunH.adm 1 (es' := [.c [1, 0, 1, 0, 0], .c [1, 0, 1, 0, 1], .c [1, 1]]) (by kernel_rfl) ?_
    refine RunH.reg (by kernel_rfl) ?_
    refine RgH.runk 1 [2] (vs := []) (evs := []) (L' := [(2, .int .i64 2)]) (by kernel_rfl) (by kernel_rfl) (fun _ _ => trivial) ?_
    refine RgH.done (by kernel_rfl) ?_
    obtain rfl := Option.some.inj heq
    exact RunH.done (by kernel_rfl) Tryd.func18 (v := .int .i64 2) (by kernel_rfl) ⟨rfl, rfl, rfl⟩
  · replace heq := bif_false hb1 heq
    refine RunH.condF (c := decide (4000 < (a0.length : Int))) (by kernel_rfl) hb1 ?_
    refine RunH.adm 3 (es' := [.c [1, 1, 0, 0], .c [1, 1, 0, 1], .c [1, 1, 1]]) (by kernel_rfl) ?_
    refine RunH.reg (by kernel_rfl) ?_
    refine RgH.runk 3 [0, 8, 9, 10] (vs := []) (evs := []) (L' := [(0, .slice Aa0 a0.length ca0), (8, .slice Aa0 a0.length ca0), (9, .int .i64 (a0.length : Int)), (10, .int .i64 0)]) (by kernel_rfl) (by kernel_rfl) (fun _ _ => trivial) ?_
    refine RgH.done (by kernel_rfl) ?_
    refine RunH.adm 2 (es' := [.c [1, 1, 0, 1, 0, 0], .l [1, 1, 0, 1, 0, 0], .b 0, .c [1, 1, 1]]) (by kernel_rfl) ?_
    refine RunH.keep [0, 8, 9, 10] (L' := [(0, .slice Aa0 a0.length ca0), (8, .slice Aa0 a0.length ca0), (9, .int .i64 (a0.length : Int)), (10, .int .i64 0)]) (by kernel_rfl) ?_
    exact ((workers_CheckRuns.l2_c (e1 := workers_CheckRuns.e1) (workers_CheckRuns.e1_c)) big) a0 _ _ 0 hra0 hca0 heq
noncomputable def C16 : Ctx := { P := Tryd.prog, f := 16, N := 54, c := bodyOf Tryd.f16 }
def S16 (F : List Ch) (H0 : Hp) (r : Int × Int) (v : Value) (H : Hp) (cs : List Ch) : Prop := H0 = H ∧ v = .tuple #[.int .i64 r.1, .int .i64 r.2] ∧ F = cs
theorem workers_Busy.e1_c {w0 : World} {H : Hp} {F : List Ch} {r : Int × Int} : ∀ (v_sum11 : Int) , workers_Busy.e1 v_sum11 = some r → RunH C16 (S16 F H r) H w0 [.c [1, 1, 1, 1, 1, 1, 0], .c [1, 1, 1, 1, 1, 1, 1]] [(11, .int .i64 v_sum11)] H (F) := by
  intro v_sum11  heq
  unfold workers_Busy.e1 at heq
  refine RunH.reg (by kernel_rfl) ?_
  refine RgH.runk 3 [8, 9] (vs := []) (evs := []) (L' := [(8, .int .i64 v_sum11), (9, .int .i64 0)]) (by kernel_rfl) (by kernel_rfl) (fun _ _ => trivial) ?_
  refine RgH.done (by kernel_rfl) ?_
  obtain rfl := Option.some.inj heq
  exact RunH.done (by kernel_rfl) Tryd.func16 (v := .tuple #[.int .i64 v_sum11, .int .i64 0]) (by kernel_rfl) ⟨rfl, rfl, rfl⟩
theorem workers_Busy.j3_c {w0 : World} {H : Hp} {F : List Ch} {r : Int × Int} (backl2 : (List Run) → ByteArray → Int → Int → Int → Int → Option (Int × Int))
    (hbackl2 : ∀ (a0 : List Run) (Aa0 : Option Addr) (ca0 : Nat) (a1 : ByteArray) (a2 : Int) (a3 : Int) (v_sum11 : Int) (v32 : Int) , Rw kRun H F Aa0 a0 → a0.length ≤ ca0 → backl2 a0 a1 a2 a3 v_sum11 v32 = some r → RunH C16 (S16 F H r) H w0 [.c [1, 1, 1, 1, 1, 0, 1, 0, 0], .l [1, 1, 1, 1, 1, 0, 1, 0, 0], .b 0, .c [1, 1, 1, 1, 1, 1]] [(1, .string a1), (2, .int .i64 a2), (3, .int .i64 a3), (11, .int .i64 v_sum11), (30, .slice Aa0 a0.length ca0), (31, .int .i64 (a0.length : Int)), (32, .int .i64 v32)] H (F)) : ∀ (a0 : List Run) (Aa0 : Option Addr) (ca0 : Nat) (a1 : ByteArray) (a2 : Int) (a3 : Int) (v32 : Int) (v_sum11 : Int) , Rw kRun H F Aa0 a0 → a0.length ≤ ca0 → workers_Busy.j3 backl2 a0 a1 a2 a3 v32 v_sum11 = some r → RunH C16 (S16 F H r) H w0 [.c [1, 1, 1, 1, 1, 0, 1, 0, 0, 1, 1, 1], .l [1, 1, 1, 1, 1, 0, 1, 0, 0], .b 0, .c [1, 1, 1, 1, 1, 1]] [(1, .string a1), (2, .int .i64 a2), (3, .int .i64 a3), (11, .int .i64 v_sum11), (30, .slice Aa0 a0.length ca0), (31, .int .i64 (a0.length : Int)), (32, .int .i64 v32)] H (F) := by
  intro a0 Aa0 ca0 a1 a2 a3 v32 v_sum11 hra0 hca0 heq
  unfold workers_Busy.j3 at heq
  refine RunH.reg (by kernel_rfl) ?_
  refine RgH.runk 2 [1, 2, 3, 11, 30, 31, 32] (vs := []) (evs := []) (L' := [(1, .string a1), (2, .int .i64 a2), (3, .int .i64 a3), (11, .int .i64 v_sum11), (30, .slice Aa0 a0.length ca0), (31, .int .i64 (a0.length : Int)), (32, .int .i64 (w64 (v32 + 1)))]) (by kernel_rfl) (by kernel_rfl) (fun _ _ => trivial) ?_
  refine RgH.done (by kernel_rfl) ?_
  refine RunH.adm 1 (es' := [.c [1, 1, 1, 1, 1, 0, 1, 0, 0], .l [1, 1, 1, 1, 1, 0, 1, 0, 0], .b 0, .c [1, 1, 1, 1, 1, 1]]) (by kernel_rfl) ?_
  refine RunH.keep [1, 2, 3, 11, 30, 31, 32] (L' := [(1, .string a1), (2, .int .i64 a2), (3, .int .i64 a3), (11, .int .i64 v_sum11), (30, .slice Aa0 a0.length ca0), (31, .int .i64 (a0.length : Int)), (32, .int .i64 (w64 (v32 + 1)))]) (by kernel_rfl) ?_
  exact hbackl2 a0 _ _ a1 a2 a3 v_sum11 (w64 (v32 + 1)) hra0 hca0 heq
theorem workers_Busy.l2_c {w0 : World} {H : Hp} {F : List Ch} {r : Int × Int} (e1 : Int → Option (Int × Int))
    (he1 : ∀ (v_sum11 : Int) , e1 v_sum11 = some r → RunH C16 (S16 F H r) H w0 [.c [1, 1, 1, 1, 1, 1, 0], .c [1, 1, 1, 1, 1, 1, 1]] [(11, .int .i64 v_sum11)] H (F)) : ∀ (k : Nat), ∀ (a0 : List Run) (Aa0 : Option Addr) (ca0 : Nat) (a1 : ByteArray) (a2 : Int) (a3 : Int) (v_sum11 : Int) (v32 : Int) , Rw kRun H F Aa0 a0 → a0.length ≤ ca0 → workers_Busy.l2 e1 k a0 a1 a2 a3 v_sum11 v32 = some r → RunH C16 (S16 F H r) H w0 [.c [1, 1, 1, 1, 1, 0, 1, 0, 0], .l [1, 1, 1, 1, 1, 0, 1, 0, 0], .b 0, .c [1, 1, 1, 1, 1, 1]] [(1, .string a1), (2, .int .i64 a2), (3, .int .i64 a3), (11, .int .i64 v_sum11), (30, .slice Aa0 a0.length ca0), (31, .int .i64 (a0.length : Int)), (32, .int .i64 v32)] H (F) := by
  intro k
  induction k with
  | zero => intro a0 Aa0 ca0 a1 a2 a3 v_sum11 v32 hra0 hca0 heq; exact nomatch (show (none : Option (Int × Int)) = some r from heq)
  | succ k ihk =>
    intro a0 Aa0 ca0 a1 a2 a3 v_sum11 v32 hra0 hca0 heq
    rw [workers_Busy.l2] at heq
    refine RunH.adm 1 (es' := [.c [1, 1, 1, 1, 1, 0, 1, 0, 0, 0], .c [1, 1, 1, 1, 1, 0, 1, 0, 0, 1], .l [1, 1, 1, 1, 1, 0, 1, 0, 0], .b 0, .c [1, 1, 1, 1, 1, 1]]) (by kernel_rfl) ?_
    refine RunH.reg (by kernel_rfl) ?_
    refine RgH.runk 1 [1, 2, 3, 11, 30, 31, 32, 33] (vs := []) (evs := []) (L' := [(1, .string a1), (2, .int .i64 a2), (3, .int .i64 a3), (11, .int .i64 v_sum11), (30, .slice Aa0 a0.length ca0), (31, .int .i64 (a0.length : Int)), (32, .int .i64 v32), (33, .bool (decide (v32 < (a0.length : Int))))]) (by kernel_rfl) (by kernel_rfl) (fun _ _ => trivial) ?_
    refine RgH.done (by kernel_rfl) ?_
    refine RunH.adm 1 (es' := [.c [1, 1, 1, 1, 1, 0, 1, 0, 0, 1, 0], .c [1, 1, 1, 1, 1, 0, 1, 0, 0, 1, 1], .l [1, 1, 1, 1, 1, 0, 1, 0, 0], .b 0, .c [1, 1, 1, 1, 1, 1]]) (by kernel_rfl) ?_
    rcases bool_cases (decide (v32 < (a0.length : Int))) with hb5 | hb5
    · replace heq := bif_true hb5 heq
      refine RunH.condT (c := decide (v32 < (a0.length : Int))) (by kernel_rfl) hb5 ?_
      refine RunH.adm 4 (es' := [.c [1, 1, 1, 1, 1, 0, 1, 0, 0, 1, 1, 0, 0, 0], .c [1, 1, 1, 1, 1, 0, 1, 0, 0, 1, 1, 0, 0, 1], .b 1, .c [1, 1, 1, 1, 1, 0, 1, 0, 0, 1, 1, 1], .l [1, 1, 1, 1, 1, 0, 1, 0, 0], .b 0, .c [1, 1, 1, 1, 1, 1]]) (by kernel_rfl) ?_
      refine RunH.reg (by kernel_rfl) ?_
      obtain ⟨x1, hx1, heq⟩ := bind_some heq
      obtain ⟨ha1, cs1, hK1, hcc1⟩ := hra0.get hx1
      obtain ⟨rfl⟩ := kRun_open hK1
      refine RgH.runk 2 [1, 2, 3, 11, 30, 31, 32, 35] (vs := [.string x1.Id, .string x1.Worker, .int .i64 x1.From, .int .i64 x1.To, .int .i64 x1.End]) (evs := [.need (Aa0 = some (adr Aa0) ∧ (0 : Int) ≤ v32 ∧ v32 < ((a0.length : Nat) : Int)), .load (((adr Aa0).add (v32.toNat * 5)).add 0) (.string x1.Id), .load (((adr Aa0).add (v32.toNat * 5)).add 1) (.string x1.Worker), .load (((adr Aa0).add (v32.toNat * 5)).add 2) (.int .i64 x1.From), .load (((adr Aa0).add (v32.toNat * 5)).add 3) (.int .i64 x1.To), .load (((adr Aa0).add (v32.toNat * 5)).add 4) (.int .i64 x1.End)]) (L' := [(1, .string a1), (2, .int .i64 a2), (3, .int .i64 a3), (11, .int .i64 v_sum11), (30, .slice Aa0 a0.length ca0), (31, .int .i64 (a0.length : Int)), (32, .int .i64 v32), (35, .agg #[.string x1.Id, .string x1.Worker, .int .i64 x1.From, .int .i64 x1.To, .int .i64 x1.End])]) (by kernel_rfl) (by kernel_rfl) (fun w hh => ⟨⟨ha1, (at?_some hx1).1, (at?_some hx1).2.1⟩, (hcc1 _ _ (hh.drop 0) 0 _ rfl), (hcc1 _ _ (hh.drop 0) 1 _ rfl), (hcc1 _ _ (hh.drop 0) 2 _ rfl), (hcc1 _ _ (hh.drop 0) 3 _ rfl), (hcc1 _ _ (hh.drop 0) 4 _ rfl)⟩) ?_
      refine RgH.does (DoesH.new (d := 13) (v := fun g => .pointer (some ⟨g, 0, none⟩)) (o := fun g => .cells #[.string ByteArray.empty, .string ByteArray.empty, .int .i64 0, .int .i64 0, .int .i64 0] 39 (0, 0)) (fun g => by kernel_rfl)) ?_
      rintro _ _ _ _ ⟨g1, rfl, rfl, rfl⟩
      refine RgH.does (DoesH.store (k := 0) (g := g1) (off := 0) (v := .agg #[.string x1.Id, .string x1.Worker, .int .i64 x1.From, .int .i64 x1.To, .int .i64 x1.End]) (cells' := #[.string x1.Id, .string x1.Worker, .int .i64 x1.From, .int .i64 x1.To, .int .i64 x1.End]) (by kernel_rfl) rfl (by kernel_rfl) (by kernel_rfl)) ?_
      rintro _ _ _ _ ⟨rfl, rfl, rfl⟩
      refine RgH.done (by kernel_rfl) ?_
      refine RunH.adm 1 (es' := [.c [1, 1, 1, 1, 1, 0, 1, 0, 0, 1, 1, 0, 0, 1, 0], .c [1, 1, 1, 1, 1, 0, 1, 0, 0, 1, 1, 0, 0, 1, 1], .b 1, .c [1, 1, 1, 1, 1, 0, 1, 0, 0, 1, 1, 1], .l [1, 1, 1, 1, 1, 0, 1, 0, 0], .b 0, .c [1, 1, 1, 1, 1, 1]]) (by kernel_rfl) ?_
      refine RunH.reg (by kernel_rfl) ?_
      refine RgH.runk 4 [1, 2, 3, 11, 13, 30, 31, 32, 39] (vs := [.string x1.Worker]) (evs := [.load ⟨g1, 1, none⟩ (.string x1.Worker)]) (L' := [(1, .string a1), (2, .int .i64 a2), (3, .int .i64 a3), (11, .int .i64 v_sum11), (13, .pointer (some ⟨g1, 0, none⟩)), (30, .slice Aa0 a0.length ca0), (31, .int .i64 (a0.length : Int)), (32, .int .i64 v32), (39, .bool (sEq x1.Worker a1))]) (by kernel_rfl) (by kernel_rfl) (fun w hh => (hh.box 0 rfl rfl)) ?_
      refine RgH.done (by kernel_rfl) ?_
      rcases bool_cases (sEq x1.Worker a1) with hb6 | hb6
      · replace heq := bif_true hb6 heq
        refine RunH.condT (c := sEq x1.Worker a1) (by kernel_rfl) hb6 ?_
        refine RunH.reg (by kernel_rfl) ?_
        refine RgH.runk 13 [1, 2, 3, 11, 30, 31, 32] (vs := [.int .i64 x1.To, .int .i64 x1.From]) (evs := [.load ⟨g1, 3, none⟩ (.int .i64 x1.To), .load ⟨g1, 2, none⟩ (.int .i64 x1.From)]) (L' := [(1, .string a1), (2, .int .i64 a2), (3, .int .i64 a3), (11, .int .i64 (w64 (v_sum11 + (max2 0 (w64 ((min2 x1.To a3) - (max2 x1.From a2))))))), (30, .slice Aa0 a0.length ca0), (31, .int .i64 (a0.length : Int)), (32, .int .i64 v32)]) (by kernel_rfl) (by kernel_rfl) (fun w hh => ⟨(hh.box 0 rfl rfl), (hh.box 0 rfl rfl)⟩) ?_
        refine RgH.done (by kernel_rfl) ?_
        refine RunH.adm 1 (es' := [.c [1, 1, 1, 1, 1, 0, 1, 0, 0, 1, 1, 1], .l [1, 1, 1, 1, 1, 0, 1, 0, 0], .b 0, .c [1, 1, 1, 1, 1, 1]]) (by kernel_rfl) ?_
        refine RunH.keep [1, 2, 3, 11, 30, 31, 32] (L' := [(1, .string a1), (2, .int .i64 a2), (3, .int .i64 a3), (11, .int .i64 (w64 (v_sum11 + (max2 0 (w64 ((min2 x1.To a3) - (max2 x1.From a2))))))), (30, .slice Aa0 a0.length ca0), (31, .int .i64 (a0.length : Int)), (32, .int .i64 v32)]) (by kernel_rfl) ?_
        refine RunH.pick 1 [] (cs' := F) (by kernel_rfl) rfl ?_
        exact (workers_Busy.j3_c (backl2 := (workers_Busy.l2 e1 k)) ihk) a0 _ _ a1 a2 a3 v32 (w64 (v_sum11 + (max2 0 (w64 ((min2 x1.To a3) - (max2 x1.From a2)))))) hra0 hca0 heq
      · replace heq := bif_false hb6 heq
        refine RunH.condF (c := sEq x1.Worker a1) (by kernel_rfl) hb6 ?_
        refine RunH.adm 2 (es' := [.c [1, 1, 1, 1, 1, 0, 1, 0, 0, 1, 1, 1], .l [1, 1, 1, 1, 1, 0, 1, 0, 0], .b 0, .c [1, 1, 1, 1, 1, 1]]) (by kernel_rfl) ?_
        refine RunH.keep [1, 2, 3, 11, 30, 31, 32] (L' := [(1, .string a1), (2, .int .i64 a2), (3, .int .i64 a3), (11, .int .i64 v_sum11), (30, .slice Aa0 a0.length ca0), (31, .int .i64 (a0.length : Int)), (32, .int .i64 v32)]) (by kernel_rfl) ?_
        refine RunH.pick 1 [] (cs' := F) (by kernel_rfl) rfl ?_
        exact (workers_Busy.j3_c (backl2 := (workers_Busy.l2 e1 k)) ihk) a0 _ _ a1 a2 a3 v32 v_sum11 hra0 hca0 heq
    · replace heq := bif_false hb5 heq
      refine RunH.condF (c := decide (v32 < (a0.length : Int))) (by kernel_rfl) hb5 ?_
      refine RunH.adm 2 (es' := [.c [1, 1, 1, 1, 1, 1, 0], .c [1, 1, 1, 1, 1, 1, 1]]) (by kernel_rfl) ?_
      refine RunH.keep [11] (L' := [(11, .int .i64 v_sum11)]) (by kernel_rfl) ?_
      exact he1 v_sum11 heq
theorem workers_Busy_c {w0 : World} {H : Hp} {F : List Ch} {a0 : List Run} {Aa0 : Option Addr} {na0 : Nat} {ca0 : Nat} {a1 : ByteArray} {a2 : Int} {a3 : Int} {r : Int × Int} (hra0 : Rw kRun H F Aa0 a0) (hca0 : na0 ≤ ca0) (hna0 : na0 = a0.length) (heq : workers_Busy.f a0 a1 a2 a3 = some r) : CallsH Tryd.prog 16 #[.slice Aa0 na0 ca0, .string a1, .int .i64 a2, .int .i64 a3] H w0 (F) (S16 F H r) := by
  refine calls_of_runH (F := C16) Tryd.func16 (by kernel_rfl) Tryd.ntmps16 (args := [.slice Aa0 na0 ca0, .string a1, .int .i64 a2, .int .i64 a3]) (by kernel_rfl) ?_
  subst hna0
  unfold workers_Busy.f at heq
  refine RunH.adm 1 (es' := [.c [0], .c [1]]) (by kernel_rfl) ?_
  refine RunH.reg (by kernel_rfl) ?_
  refine RgH.runk 2 [0, 1, 2, 3] (vs := []) (evs := []) (L' := [(0, .slice Aa0 a0.length ca0), (1, .string a1), (2, .int .i64 a2), (3, .int .i64 a3)]) (by kernel_rfl) (by kernel_rfl) (fun _ _ => trivial) ?_
  refine RgH.done (by kernel_rfl) ?_
  refine RunH.adm 2 (es' := [.c [1, 0, 0], .c [1, 0, 1], .c [1, 1]]) (by kernel_rfl) ?_
  refine RunH.reg (by kernel_rfl) ?_
  refine RgH.runk 1 [0, 1, 2, 3, 14] (vs := []) (evs := []) (L' := [(0, .slice Aa0 a0.length ca0), (1, .string a1), (2, .int .i64 a2), (3, .int .i64 a3), (14, .slice Aa0 a0.length ca0)]) (by kernel_rfl) (by kernel_rfl) (fun _ _ => trivial) ?_
  obtain ⟨y1, hy1, heq⟩ := bind_some heq
  refine RgH.does (DoesH.call (d := 15) (g := 18) (args := #[.slice Aa0 a0.length ca0]) (by kernel_rfl) (workers_CheckRuns_c (a0 := a0) hra0 hca0 rfl hy1)) ?_
  rintro _ _ _ _ ⟨_, rfl, rfl, rfl, rfl⟩
  refine RgH.runk 3 [0, 1, 2, 3, 10] (vs := []) (evs := []) (L' := [(0, .slice Aa0 a0.length ca0), (1, .string a1), (2, .int .i64 a2), (3, .int .i64 a3), (10, .int .i64 y1)]) (by kernel_rfl) (by kernel_rfl) (fun _ _ => trivial) ?_
  refine RgH.done (by kernel_rfl) ?_
  refine RunH.adm 1 (es' := [.c [1, 0, 1, 0], .c [1, 0, 1, 1], .c [1, 1]]) (by kernel_rfl) ?_
  refine RunH.reg (by kernel_rfl) ?_
  refine RgH.runk 2 [0, 1, 2, 3, 10, 17] (vs := []) (evs := []) (L' := [(0, .slice Aa0 a0.length ca0), (1, .string a1), (2, .int .i64 a2), (3, .int .i64 a3), (10, .int .i64 y1), (17, .bool (y1 != 0))]) (by kernel_rfl) (by kernel_rfl) (fun _ _ => trivial) ?_
  refine RgH.done (by kernel_rfl) ?_
  rcases bool_cases (y1 != 0) with hb1 | hb1
  · replace heq := bif_true hb1 heq
    refine RunH.condT (c := y1 != 0) (by kernel_rfl) hb1 ?_
    refine RunH.adm 1 (es' := [.c [1, 0, 1, 1, 0, 0], .c [1, 0, 1, 1, 0, 1], .c [1, 1]]) (by kernel_rfl) ?_
    refine RunH.reg (by kernel_rfl) ?_
    refine RgH.runk 3 [8, 9] (vs := []) (evs := []) (L' := [(8, .int .i64 0), (9, .int .i64 y1)]) (by kernel_rfl) (by kernel_rfl) (fun _ _ => trivial) ?_
    refine RgH.done (by kernel_rfl) ?_
    obtain rfl := Option.some.inj heq
    exact RunH.done (by kernel_rfl) Tryd.func16 (v := .tuple #[.int .i64 0, .int .i64 y1]) (by kernel_rfl) ⟨rfl, rfl, rfl⟩
  · replace heq := bif_false hb1 heq
    refine RunH.condF (c := y1 != 0) (by kernel_rfl) hb1 ?_
    refine RunH.adm 3 (es' := [.c [1, 1, 0, 0], .c [1, 1, 0, 1], .c [1, 1, 1]]) (by kernel_rfl) ?_
    refine RunH.reg (by kernel_rfl) ?_
    refine RgH.runk 1 [0, 1, 2, 3, 19] (vs := []) (evs := []) (L' := [(0, .slice Aa0 a0.length ca0), (1, .string a1), (2, .int .i64 a2), (3, .int .i64 a3), (19, .string a1)]) (by kernel_rfl) (by kernel_rfl) (fun _ _ => trivial) ?_
    obtain ⟨y2, hy2, heq⟩ := bind_some heq
    refine RgH.does (DoesH.call (d := 20) (g := 54) (args := #[.string a1]) (by kernel_rfl) (config_IsWord_c (a0 := a1)  hy2)) ?_
    rintro _ _ _ _ ⟨_, rfl, rfl, rfl, rfl⟩
    refine RgH.runk 3 [0, 1, 2, 3, 21] (vs := []) (evs := []) (L' := [(0, .slice Aa0 a0.length ca0), (1, .string a1), (2, .int .i64 a2), (3, .int .i64 a3), (21, .bool (!y2))]) (by kernel_rfl) (by kernel_rfl) (fun _ _ => trivial) ?_
    refine RgH.done (by kernel_rfl) ?_
    rcases bool_cases (!y2) with hb2 | hb2
    · replace heq := bif_true hb2 heq
      refine RunH.condT (c := !y2) (by kernel_rfl) hb2 ?_
      refine RunH.adm 1 (es' := [.c [1, 1, 0, 1, 0, 0], .c [1, 1, 0, 1, 0, 1], .c [1, 1, 1]]) (by kernel_rfl) ?_
      refine RunH.reg (by kernel_rfl) ?_
      refine RgH.runk 2 [8, 9] (vs := []) (evs := []) (L' := [(8, .int .i64 0), (9, .int .i64 5)]) (by kernel_rfl) (by kernel_rfl) (fun _ _ => trivial) ?_
      refine RgH.done (by kernel_rfl) ?_
      obtain rfl := Option.some.inj heq
      exact RunH.done (by kernel_rfl) Tryd.func16 (v := .tuple #[.int .i64 0, .int .i64 5]) (by kernel_rfl) ⟨rfl, rfl, rfl⟩
    · replace heq := bif_false hb2 heq
      refine RunH.condF (c := !y2) (by kernel_rfl) hb2 ?_
      refine RunH.adm 3 (es' := [.c [1, 1, 1, 0, 0], .c [1, 1, 1, 0, 1], .c [1, 1, 1, 1]]) (by kernel_rfl) ?_
      obtain ⟨t1, ht1, heq⟩ := bind_some heq
      have K1 : RunH C16 (S16 F H r) H w0 [.c [1, 1, 1, 0, 1], .c [1, 1, 1, 1]] [(0, .slice Aa0 a0.length ca0), (1, .string a1), (2, .int .i64 a2), (3, .int .i64 a3), (29, .bool t1)] H (F) := by
        rcases bool_cases (t1) with hb4 | hb4
        · replace heq := bif_true hb4 heq
          refine RunH.condT (c := t1) (by kernel_rfl) hb4 ?_
          refine RunH.adm 1 (es' := [.c [1, 1, 1, 0, 1, 0, 0], .c [1, 1, 1, 0, 1, 0, 1], .c [1, 1, 1, 1]]) (by kernel_rfl) ?_
          refine RunH.reg (by kernel_rfl) ?_
          refine RgH.runk 2 [8, 9] (vs := []) (evs := []) (L' := [(8, .int .i64 0), (9, .int .i64 1)]) (by kernel_rfl) (by kernel_rfl) (fun _ _ => trivial) ?_
          refine RgH.done (by kernel_rfl) ?_
          obtain rfl := Option.some.inj heq
          exact RunH.done (by kernel_rfl) Tryd.func16 (v := .tuple #[.int .i64 0, .int .i64 1]) (by kernel_rfl) ⟨rfl, rfl, rfl⟩
        · replace heq := bif_false hb4 heq
          refine RunH.condF (c := t1) (by kernel_rfl) hb4 ?_
          refine RunH.adm 2 (es' := [.c [1, 1, 1, 1, 0], .c [1, 1, 1, 1, 1]]) (by kernel_rfl) ?_
          refine RunH.reg (by kernel_rfl) ?_
          refine RgH.runk 1 [0, 1, 2, 3, 11] (vs := []) (evs := []) (L' := [(0, .slice Aa0 a0.length ca0), (1, .string a1), (2, .int .i64 a2), (3, .int .i64 a3), (11, .int .i64 0)]) (by kernel_rfl) (by kernel_rfl) (fun _ _ => trivial) ?_
          refine RgH.done (by kernel_rfl) ?_
          refine RunH.adm 2 (es' := [.c [1, 1, 1, 1, 1, 0, 0], .c [1, 1, 1, 1, 1, 0, 1], .c [1, 1, 1, 1, 1, 1]]) (by kernel_rfl) ?_
          refine RunH.reg (by kernel_rfl) ?_
          refine RgH.runk 3 [1, 2, 3, 11, 30, 31, 32] (vs := []) (evs := []) (L' := [(1, .string a1), (2, .int .i64 a2), (3, .int .i64 a3), (11, .int .i64 0), (30, .slice Aa0 a0.length ca0), (31, .int .i64 (a0.length : Int)), (32, .int .i64 0)]) (by kernel_rfl) (by kernel_rfl) (fun _ _ => trivial) ?_
          refine RgH.done (by kernel_rfl) ?_
          refine RunH.adm 2 (es' := [.c [1, 1, 1, 1, 1, 0, 1, 0, 0], .l [1, 1, 1, 1, 1, 0, 1, 0, 0], .b 0, .c [1, 1, 1, 1, 1, 1]]) (by kernel_rfl) ?_
          refine RunH.keep [1, 2, 3, 11, 30, 31, 32] (L' := [(1, .string a1), (2, .int .i64 a2), (3, .int .i64 a3), (11, .int .i64 0), (30, .slice Aa0 a0.length ca0), (31, .int .i64 (a0.length : Int)), (32, .int .i64 0)]) (by kernel_rfl) ?_
          exact ((workers_Busy.l2_c (e1 := workers_Busy.e1) (workers_Busy.e1_c)) big) a0 _ _ a1 a2 a3 0 0 hra0 hca0 heq
      replace heq := ht1
      refine RunH.reg (by kernel_rfl) ?_
      refine RgH.runk 1 [0, 1, 2, 3, 22] (vs := []) (evs := []) (L' := [(0, .slice Aa0 a0.length ca0), (1, .string a1), (2, .int .i64 a2), (3, .int .i64 a3), (22, .int .i64 a2)]) (by kernel_rfl) (by kernel_rfl) (fun _ _ => trivial) ?_
      obtain ⟨y3, hy3, heq⟩ := bind_some heq
      refine RgH.does (DoesH.call (d := 23) (g := 43) (args := #[.int .i64 a2]) (by kernel_rfl) (workers_isMoment_c (a0 := a2)  hy3)) ?_
      rintro _ _ _ _ ⟨_, rfl, rfl, rfl, rfl⟩
      refine RgH.runk 4 [25, 0, 1, 2, 3] (vs := []) (evs := []) (L' := [(25, .bool (!y3)), (0, .slice Aa0 a0.length ca0), (1, .string a1), (2, .int .i64 a2), (3, .int .i64 a3)]) (by kernel_rfl) (by kernel_rfl) (fun _ _ => trivial) ?_
      rcases bool_cases (!y3) with hb3 | hb3
      · replace heq := bif_true hb3 heq
        refine RgH.val1 (v' := .bool true) (congrArg Value.bool hb3) ?_
        refine RgH.runk 8 [0, 1, 2, 3, 29] (vs := []) (evs := []) (L' := [(0, .slice Aa0 a0.length ca0), (1, .string a1), (2, .int .i64 a2), (3, .int .i64 a3), (29, .bool true)]) (by kernel_rfl) (by kernel_rfl) (fun _ _ => trivial) ?_
        obtain rfl := Option.some.inj heq
        refine RgH.keep [0, 1, 2, 3, 29] (L' := [(0, .slice Aa0 a0.length ca0), (1, .string a1), (2, .int .i64 a2), (3, .int .i64 a3), (29, .bool true)]) (by kernel_rfl) ?_
        refine RgH.done (by kernel_rfl) ?_
        exact K1
      · replace heq := bif_false hb3 heq
        refine RgH.val1 (v' := .bool false) (congrArg Value.bool hb3) ?_
        refine RgH.runk 5 [0, 1, 2, 3, 25, 26] (vs := []) (evs := []) (L' := [(0, .slice Aa0 a0.length ca0), (1, .string a1), (2, .int .i64 a2), (3, .int .i64 a3), (25, .bool false), (26, .int .i64 a3)]) (by kernel_rfl) (by kernel_rfl) (fun _ _ => trivial) ?_
        obtain ⟨y4, hy4, heq⟩ := bind_some heq
        refine RgH.does (DoesH.call (d := 27) (g := 43) (args := #[.int .i64 a3]) (by kernel_rfl) (workers_isMoment_c (a0 := a3)  hy4)) ?_
        rintro _ _ _ _ ⟨_, rfl, rfl, rfl, rfl⟩
        refine RgH.runk 8 [0, 1, 2, 3, 29] (vs := []) (evs := []) (L' := [(0, .slice Aa0 a0.length ca0), (1, .string a1), (2, .int .i64 a2), (3, .int .i64 a3), (29, .bool (!y4))]) (by kernel_rfl) (by kernel_rfl) (fun _ _ => trivial) ?_
        obtain rfl := Option.some.inj heq
        refine RgH.keep [0, 1, 2, 3, 29] (L' := [(0, .slice Aa0 a0.length ca0), (1, .string a1), (2, .int .i64 a2), (3, .int .i64 a3), (29, .bool (!y4))]) (by kernel_rfl) ?_
        refine RgH.done (by kernel_rfl) ?_
        exact K1
noncomputable def C58 : Ctx := { P := Tryd.prog, f := 58, N := 30, c := bodyOf Tryd.f58 }
def S58 (F : List Ch) (H0 : Hp) (r : Bool) (v : Value) (H : Hp) (cs : List Ch) : Prop := H0 = H ∧ v = .bool r ∧ F = cs
theorem smithyardref9_before_c {w0 : World} {H : Hp} {F : List Ch} {a0 : Run} {a1 : Run} {r : Bool} (heq : smithyardref9_before.f a0 a1 = some r) : CallsH Tryd.prog 58 #[.agg #[.string a0.Id, .string a0.Worker, .int .i64 a0.From, .int .i64 a0.To, .int .i64 a0.End], .agg #[.string a1.Id, .string a1.Worker, .int .i64 a1.From, .int .i64 a1.To, .int .i64 a1.End]] H w0 (F) (S58 F H r) := by
  refine calls_of_runH (F := C58) Tryd.func58 (by kernel_rfl) Tryd.ntmps58 (args := [.agg #[.string a0.Id, .string a0.Worker, .int .i64 a0.From, .int .i64 a0.To, .int .i64 a0.End], .agg #[.string a1.Id, .string a1.Worker, .int .i64 a1.From, .int .i64 a1.To, .int .i64 a1.End]]) (by kernel_rfl) ?_
  unfold smithyardref9_before.f at heq
  refine RunH.adm 1 (es' := [.c [0], .c [1]]) (by kernel_rfl) ?_
  refine RunH.reg (by kernel_rfl) ?_
  refine RgH.does (DoesH.new (d := 2) (v := fun g => .pointer (some ⟨g, 0, none⟩)) (o := fun g => .cells #[.string a0.Id, .string a0.Worker, .int .i64 a0.From, .int .i64 a0.To, .int .i64 a0.End] 39 (0, 0)) (fun g => by kernel_rfl)) ?_
  rintro _ _ _ _ ⟨g1, rfl, rfl, rfl⟩
  refine RgH.does (DoesH.new (d := 3) (v := fun g => .pointer (some ⟨g, 0, none⟩)) (o := fun g => .cells #[.string a1.Id, .string a1.Worker, .int .i64 a1.From, .int .i64 a1.To, .int .i64 a1.End] 39 (0, 0)) (fun g => by kernel_rfl)) ?_
  rintro _ _ _ _ ⟨g2, rfl, rfl, rfl⟩
  refine RgH.runk 3 [2, 3] (vs := []) (evs := []) (L' := [(2, .pointer (some ⟨g1, 0, none⟩)), (3, .pointer (some ⟨g2, 0, none⟩))]) (by kernel_rfl) (by kernel_rfl) (fun _ _ => trivial) ?_
  refine RgH.done (by kernel_rfl) ?_
  refine RunH.adm 2 (es' := [.c [1, 0, 0], .c [1, 0, 1], .c [1, 1]]) (by kernel_rfl) ?_
  refine RunH.reg (by kernel_rfl) ?_
  refine RgH.runk 5 [2, 3, 9] (vs := [.int .i64 a0.From, .int .i64 a1.From]) (evs := [.load ⟨g1, 2, none⟩ (.int .i64 a0.From), .load ⟨g2, 2, none⟩ (.int .i64 a1.From)]) (L' := [(2, .pointer (some ⟨g1, 0, none⟩)), (3, .pointer (some ⟨g2, 0, none⟩)), (9, .bool (a0.From != a1.From))]) (by kernel_rfl) (by kernel_rfl) (fun w hh => ⟨(hh.box 1 rfl rfl), (hh.box 0 rfl rfl)⟩) ?_
  refine RgH.done (by kernel_rfl) ?_
  rcases bool_cases (a0.From != a1.From) with hb1 | hb1
  · replace heq := bif_true hb1 heq
    refine RunH.condT (c := a0.From != a1.From) (by kernel_rfl) hb1 ?_
    refine RunH.adm 1 (es' := [.c [1, 0, 1, 0, 0], .c [1, 0, 1, 0, 1], .c [1, 1]]) (by kernel_rfl) ?_
    refine RunH.reg (by kernel_rfl) ?_
    refine RgH.runk 6 [4] (vs := [.int .i64 a0.From, .int .i64 a1.From]) (evs := [.load ⟨g1, 2, none⟩ (.int .i64 a0.From), .load ⟨g2, 2, none⟩ (.int .i64 a1.From)]) (L' := [(4, .bool (decide (a0.From < a1.From)))]) (by kernel_rfl) (by kernel_rfl) (fun w hh => ⟨(hh.box 1 rfl rfl), (hh.box 0 rfl rfl)⟩) ?_
    refine RgH.done (by kernel_rfl) ?_
    obtain rfl := Option.some.inj heq
    refine RunH.pick 2 [] (cs' := F) (by kernel_rfl) rfl ?_
    exact RunH.done (by kernel_rfl) Tryd.func58 (v := .bool (decide (a0.From < a1.From))) (by kernel_rfl) ⟨rfl, rfl, rfl⟩
  · replace heq := bif_false hb1 heq
    refine RunH.condF (c := a0.From != a1.From) (by kernel_rfl) hb1 ?_
    refine RunH.adm 3 (es' := [.c [1, 1, 0, 0], .c [1, 1, 0, 1], .c [1, 1, 1]]) (by kernel_rfl) ?_
    refine RunH.reg (by kernel_rfl) ?_
    refine RgH.runk 5 [2, 3, 19] (vs := [.string a0.Id, .string a1.Id]) (evs := [.load ⟨g1, 0, none⟩ (.string a0.Id), .load ⟨g2, 0, none⟩ (.string a1.Id)]) (L' := [(2, .pointer (some ⟨g1, 0, none⟩)), (3, .pointer (some ⟨g2, 0, none⟩)), (19, .bool (!sEq a0.Id a1.Id))]) (by kernel_rfl) (by kernel_rfl) (fun w hh => ⟨(hh.box 1 rfl rfl), (hh.box 0 rfl rfl)⟩) ?_
    refine RgH.done (by kernel_rfl) ?_
    rcases bool_cases (!sEq a0.Id a1.Id) with hb2 | hb2
    · replace heq := bif_true hb2 heq
      refine RunH.condT (c := !sEq a0.Id a1.Id) (by kernel_rfl) hb2 ?_
      refine RunH.adm 1 (es' := [.c [1, 1, 0, 1, 0, 0], .c [1, 1, 0, 1, 0, 1], .c [1, 1, 1]]) (by kernel_rfl) ?_
      refine RunH.reg (by kernel_rfl) ?_
      refine RgH.runk 6 [4] (vs := [.string a0.Id, .string a1.Id]) (evs := [.load ⟨g1, 0, none⟩ (.string a0.Id), .load ⟨g2, 0, none⟩ (.string a1.Id)]) (L' := [(4, .bool (sLt a0.Id a1.Id))]) (by kernel_rfl) (by kernel_rfl) (fun w hh => ⟨(hh.box 1 rfl rfl), (hh.box 0 rfl rfl)⟩) ?_
      refine RgH.done (by kernel_rfl) ?_
      obtain rfl := Option.some.inj heq
      refine RunH.pick 2 [] (cs' := F) (by kernel_rfl) rfl ?_
      exact RunH.done (by kernel_rfl) Tryd.func58 (v := .bool (sLt a0.Id a1.Id)) (by kernel_rfl) ⟨rfl, rfl, rfl⟩
    · replace heq := bif_false hb2 heq
      refine RunH.condF (c := !sEq a0.Id a1.Id) (by kernel_rfl) hb2 ?_
      refine RunH.adm 2 (es' := [.c [1, 1, 1, 0], .c [1, 1, 1, 1]]) (by kernel_rfl) ?_
      refine RunH.reg (by kernel_rfl) ?_
      refine RgH.runk 6 [4] (vs := [.string a0.Worker, .string a1.Worker]) (evs := [.load ⟨g1, 1, none⟩ (.string a0.Worker), .load ⟨g2, 1, none⟩ (.string a1.Worker)]) (L' := [(4, .bool (sLt a0.Worker a1.Worker))]) (by kernel_rfl) (by kernel_rfl) (fun w hh => ⟨(hh.box 1 rfl rfl), (hh.box 0 rfl rfl)⟩) ?_
      refine RgH.done (by kernel_rfl) ?_
      obtain rfl := Option.some.inj heq
      refine RunH.pick 2 [] (cs' := F) (by kernel_rfl) rfl ?_
      exact RunH.done (by kernel_rfl) Tryd.func58 (v := .bool (sLt a0.Worker a1.Worker)) (by kernel_rfl) ⟨rfl, rfl, rfl⟩
end Go.Proofs.YtcldjlkgdnjnaaaDoor
