/- What the machine's calls of these functions come to: just what the plain functions say. Written by program. -/
import Derived.Test.YtcldjlkgdnjnaaaDoorProg
import Derived.Test.YtcldjlkgdnjnaaaDoorKitQ
import Derived.Test.YtcldjlkgdnjnaaaDoorXD
import Derived.Test.YtcldjlkgdnjnaaaDoorShelf
import Derived.Test.YtcldjlkgdnjnaaaDoorXM2
set_option linter.unusedVariables false
set_option linter.unusedSimpArgs false
set_option maxRecDepth 100000
set_option maxHeartbeats 1000000
namespace Go.Proofs.YtcldjlkgdnjnaaaDoor
open Go Go.RowKit Go.Proofs.YtcldjlkgdnjnaaaDoor.Kit
noncomputable def C19 : Ctx := { P := Tryd.prog, f := 19, N := 62, c := bodyOf Tryd.f19 }
def S19 (F : List Ch) (H0 : Hp) (r : Int) (v : Value) (H : Hp) (cs : List Ch) : Prop := H0 = H ∧ v = .int .i64 r ∧ F = cs
theorem smithyardref9_CheckRuns.e1_c {w0 : World} {H : Hp} {F : List Ch} {r : Int} : smithyardref9_CheckRuns.e1 = some r → RunH C19 (S19 F H r) H w0 [.c [1, 1, 1, 0], .c [1, 1, 1, 1]] [] H (F) := by
  intro   heq
  unfold smithyardref9_CheckRuns.e1 at heq
  refine RunH.reg (by kernel_rfl) ?_
  refine RgH.runk 1 [2] (vs := []) (evs := []) (L' := [(2, .int .i64 0)]) (by kernel_rfl) (by kernel_rfl) (fun _ _ => trivial) ?_
  refine RgH.done (by kernel_rfl) ?_
  obtain rfl := Option.some.inj heq
  exact RunH.done (by kernel_rfl) Tryd.func19 (v := .int .i64 0) (by kernel_rfl) ⟨rfl, rfl, rfl⟩
theorem smithyardref9_CheckRuns.l2_c {w0 : World} {H : Hp} {F : List Ch} {r : Int} (e1 : Option Int)
    (he1 : e1 = some r → RunH C19 (S19 F H r) H w0 [.c [1, 1, 1, 0], .c [1, 1, 1, 1]] [] H (F)) : ∀ (k : Nat), ∀ (a0 : List Run) (Aa0 : Option Addr) (ca0 : Nat) (v10 : Int) , Rw kRun H F Aa0 a0 → a0.length ≤ ca0 → smithyardref9_CheckRuns.l2 e1 k a0 v10 = some r → RunH C19 (S19 F H r) H w0 [.c [1, 1, 0, 1, 0, 0], .l [1, 1, 0, 1, 0, 0], .b 0, .c [1, 1, 1]] [(0, .slice Aa0 a0.length ca0), (8, .slice Aa0 a0.length ca0), (9, .int .i64 (a0.length : Int)), (10, .int .i64 v10)] H (F) := by
  intro k
  induction k with
  | zero => intro a0 Aa0 ca0 v10 hra0 hca0 heq; exact nomatch (show (none : Option Int) = some r from heq)
  | succ k ihk =>
    intro a0 Aa0 ca0 v10 hra0 hca0 heq
    rw [smithyardref9_CheckRuns.l2] at heq
    refine RunH.adm 1 (es' := [.c [1, 1, 0, 1, 0, 0, 0], .c [1, 1, 0, 1, 0, 0, 1], .l [1, 1, 0, 1, 0, 0], .b 0, .c [1, 1, 1]]) (by kernel_rfl) ?_
    refine RunH.reg (by kernel_rfl) ?_
    refine RgH.runk 1 [0, 8, 9, 10, 11] (vs := []) (evs := []) (L' := [(0, .slice Aa0 a0.length ca0), (8, .slice Aa0 a0.length ca0), (9, .int .i64 (a0.length : Int)), (10, .int .i64 v10), (11, .bool (decide (v10 < (a0.length : Int))))]) (by kernel_rfl) (by kernel_rfl) (fun _ _ => trivial) ?_
    refine RgH.done (by kernel_rfl) ?_
    refine RunH.adm 1 (es' := [.c [1, 1, 0, 1, 0, 0, 1, 0], .c [1, 1, 0, 1, 0, 0, 1, 1], .l [1, 1, 0, 1, 0, 0], .b 0, .c [1, 1, 1]]) (by kernel_rfl) ?_
    rcases bool_cases (decide (v10 < (a0.length : Int))) with hb2 | hb2
    · replace heq := bif_true hb2 heq
      refine RunH.condT (c := decide (v10 < (a0.length : Int))) (by kernel_rfl) hb2 ?_
      refine RunH.adm 4 (es' := [.c [1, 1, 0, 1, 0, 0, 1, 1, 0, 0, 0], .c [1, 1, 0, 1, 0, 0, 1, 1, 0, 0, 1], .b 1, .c [1, 1, 0, 1, 0, 0, 1, 1, 1], .l [1, 1, 0, 1, 0, 0], .b 0, .c [1, 1, 1]]) (by kernel_rfl) ?_
      refine RunH.reg (by kernel_rfl) ?_
      obtain ⟨x1, hx1, heq⟩ := bind_some heq
      obtain ⟨ha1, cs1, hK1, hcc1⟩ := hra0.get hx1
      obtain ⟨rfl⟩ := kRun_open hK1
      refine RgH.runk 3 [0, 8, 9, 10, 12, 14] (vs := [.string x1.Id, .string x1.Worker, .int .i64 x1.From, .int .i64 x1.To, .int .i64 x1.End]) (evs := [.need (Aa0 = some (adr Aa0) ∧ (0 : Int) ≤ v10 ∧ v10 < ((a0.length : Nat) : Int)), .load (((adr Aa0).add (v10.toNat * 5)).add 0) (.string x1.Id), .load (((adr Aa0).add (v10.toNat * 5)).add 1) (.string x1.Worker), .load (((adr Aa0).add (v10.toNat * 5)).add 2) (.int .i64 x1.From), .load (((adr Aa0).add (v10.toNat * 5)).add 3) (.int .i64 x1.To), .load (((adr Aa0).add (v10.toNat * 5)).add 4) (.int .i64 x1.End)]) (L' := [(0, .slice Aa0 a0.length ca0), (8, .slice Aa0 a0.length ca0), (9, .int .i64 (a0.length : Int)), (10, .int .i64 v10), (12, .int .i64 v10), (14, .agg #[.string x1.Id, .string x1.Worker, .int .i64 x1.From, .int .i64 x1.To, .int .i64 x1.End])]) (by kernel_rfl) (by kernel_rfl) (fun w hh => ⟨⟨ha1, (at?_some hx1).1, (at?_some hx1).2.1⟩, (hcc1 _ _ (hh.drop 0) 0 _ rfl), (hcc1 _ _ (hh.drop 0) 1 _ rfl), (hcc1 _ _ (hh.drop 0) 2 _ rfl), (hcc1 _ _ (hh.drop 0) 3 _ rfl), (hcc1 _ _ (hh.drop 0) 4 _ rfl)⟩) ?_
      refine RgH.does (DoesH.new (d := 4) (v := fun g => .pointer (some ⟨g, 0, none⟩)) (o := fun g => .cells #[.string ByteArray.empty, .string ByteArray.empty, .int .i64 0, .int .i64 0, .int .i64 0] 39 (0, 0)) (fun g => by kernel_rfl)) ?_
      rintro _ _ _ _ ⟨g1, rfl, rfl, rfl⟩
      refine RgH.runk 5 [0, 3, 4, 8, 9, 10, 14] (vs := []) (evs := []) (L' := [(0, .slice Aa0 a0.length ca0), (3, .int .i64 v10), (4, .pointer (some ⟨g1, 0, none⟩)), (8, .slice Aa0 a0.length ca0), (9, .int .i64 (a0.length : Int)), (10, .int .i64 v10), (14, .agg #[.string x1.Id, .string x1.Worker, .int .i64 x1.From, .int .i64 x1.To, .int .i64 x1.End])]) (by kernel_rfl) (by kernel_rfl) (fun _ _ => trivial) ?_
      refine RgH.does (DoesH.store (k := 0) (g := g1) (off := 0) (v := .agg #[.string x1.Id, .string x1.Worker, .int .i64 x1.From, .int .i64 x1.To, .int .i64 x1.End]) (cells' := #[.string x1.Id, .string x1.Worker, .int .i64 x1.From, .int .i64 x1.To, .int .i64 x1.End]) (by kernel_rfl) rfl (by kernel_rfl) (by kernel_rfl)) ?_
      rintro _ _ _ _ ⟨rfl, rfl, rfl⟩
      refine RgH.done (by kernel_rfl) ?_
      refine RunH.adm 2 (es' := [.c [1, 1, 0, 1, 0, 0, 1, 1, 0, 0, 1, 0, 0], .c [1, 1, 0, 1, 0, 0, 1, 1, 0, 0, 1, 0, 1], .b 2, .b 1, .c [1, 1, 0, 1, 0, 0, 1, 1, 1], .l [1, 1, 0, 1, 0, 0], .b 0, .c [1, 1, 1]]) (by kernel_rfl) ?_
      obtain ⟨t1, ht1, heq⟩ := bind_some heq
      have K2 : RunH C19 (S19 F H r) H w0 [.c [1, 1, 0, 1, 0, 0, 1, 1, 0, 0, 1, 0, 1], .b 2, .b 1, .c [1, 1, 0, 1, 0, 0, 1, 1, 1], .l [1, 1, 0, 1, 0, 0], .b 0, .c [1, 1, 1]] [(0, .slice Aa0 a0.length ca0), (3, .int .i64 v10), (4, .pointer (some ⟨g1, 0, none⟩)), (8, .slice Aa0 a0.length ca0), (9, .int .i64 (a0.length : Int)), (10, .int .i64 v10), (15, .bool t1)] H ((some (g1, .cells #[.string x1.Id, .string x1.Worker, .int .i64 x1.From, .int .i64 x1.To, .int .i64 x1.End] 39 (0, 0))) :: F) := by
        rcases bool_cases (t1) with hb4 | hb4
        · replace heq := bif_true hb4 heq
          refine RunH.condT (c := t1) (by kernel_rfl) hb4 ?_
          refine RunH.adm 1 (es' := [.c [1, 1, 0, 1, 0, 0, 1, 1, 0, 0, 1, 0, 1, 0, 0], .c [1, 1, 0, 1, 0, 0, 1, 1, 0, 0, 1, 0, 1, 0, 1], .b 2, .b 1, .c [1, 1, 0, 1, 0, 0, 1, 1, 1], .l [1, 1, 0, 1, 0, 0], .b 0, .c [1, 1, 1]]) (by kernel_rfl) ?_
          refine RunH.reg (by kernel_rfl) ?_
          refine RgH.runk 1 [2] (vs := []) (evs := []) (L' := [(2, .int .i64 5)]) (by kernel_rfl) (by kernel_rfl) (fun _ _ => trivial) ?_
          refine RgH.done (by kernel_rfl) ?_
          obtain rfl := Option.some.inj heq
          refine RunH.pick 1 [] (cs' := F) (by kernel_rfl) rfl ?_
          exact RunH.done (by kernel_rfl) Tryd.func19 (v := .int .i64 5) (by kernel_rfl) ⟨rfl, rfl, rfl⟩
        · replace heq := bif_false hb4 heq
          refine RunH.condF (c := t1) (by kernel_rfl) hb4 ?_
          refine RunH.adm 1 (es' := [.c [1, 1, 0, 1, 0, 0, 1, 1, 0, 0, 1, 0, 1, 1, 0], .c [1, 1, 0, 1, 0, 0, 1, 1, 0, 0, 1, 0, 1, 1, 1], .b 2, .b 1, .c [1, 1, 0, 1, 0, 0, 1, 1, 1], .l [1, 1, 0, 1, 0, 0], .b 0, .c [1, 1, 1]]) (by kernel_rfl) ?_
          obtain ⟨t2, ht2, heq⟩ := bind_some heq
          have K3 : RunH C19 (S19 F H r) H w0 [.c [1, 1, 0, 1, 0, 0, 1, 1, 0, 0, 1, 0, 1, 1, 1], .b 2, .b 1, .c [1, 1, 0, 1, 0, 0, 1, 1, 1], .l [1, 1, 0, 1, 0, 0], .b 0, .c [1, 1, 1]] [(0, .slice Aa0 a0.length ca0), (3, .int .i64 v10), (4, .pointer (some ⟨g1, 0, none⟩)), (8, .slice Aa0 a0.length ca0), (9, .int .i64 (a0.length : Int)), (10, .int .i64 v10), (26, .bool t2)] H ((some (g1, .cells #[.string x1.Id, .string x1.Worker, .int .i64 x1.From, .int .i64 x1.To, .int .i64 x1.End] 39 (0, 0))) :: F) := by
            rcases bool_cases (t2) with hb6 | hb6
            · replace heq := bif_true hb6 heq
              refine RunH.condT (c := t2) (by kernel_rfl) hb6 ?_
              refine RunH.adm 1 (es' := [.c [1, 1, 0, 1, 0, 0, 1, 1, 0, 0, 1, 0, 1, 1, 1, 0, 0], .c [1, 1, 0, 1, 0, 0, 1, 1, 0, 0, 1, 0, 1, 1, 1, 0, 1], .b 2, .b 1, .c [1, 1, 0, 1, 0, 0, 1, 1, 1], .l [1, 1, 0, 1, 0, 0], .b 0, .c [1, 1, 1]]) (by kernel_rfl) ?_
              refine RunH.reg (by kernel_rfl) ?_
              refine RgH.runk 1 [2] (vs := []) (evs := []) (L' := [(2, .int .i64 1)]) (by kernel_rfl) (by kernel_rfl) (fun _ _ => trivial) ?_
              refine RgH.done (by kernel_rfl) ?_
              obtain rfl := Option.some.inj heq
              refine RunH.pick 1 [] (cs' := F) (by kernel_rfl) rfl ?_
              exact RunH.done (by kernel_rfl) Tryd.func19 (v := .int .i64 1) (by kernel_rfl) ⟨rfl, rfl, rfl⟩
            · replace heq := bif_false hb6 heq
              refine RunH.condF (c := t2) (by kernel_rfl) hb6 ?_
              refine RunH.adm 1 (es' := [.c [1, 1, 0, 1, 0, 0, 1, 1, 0, 0, 1, 0, 1, 1, 1, 1, 0], .c [1, 1, 0, 1, 0, 0, 1, 1, 0, 0, 1, 0, 1, 1, 1, 1, 1], .b 2, .b 1, .c [1, 1, 0, 1, 0, 0, 1, 1, 1], .l [1, 1, 0, 1, 0, 0], .b 0, .c [1, 1, 1]]) (by kernel_rfl) ?_
              refine RunH.reg (by kernel_rfl) ?_
              refine RgH.runk 6 [0, 3, 4, 8, 9, 10, 37] (vs := [.int .i64 x1.To, .int .i64 x1.From]) (evs := [.load ⟨g1, 3, none⟩ (.int .i64 x1.To), .load ⟨g1, 2, none⟩ (.int .i64 x1.From)]) (L' := [(0, .slice Aa0 a0.length ca0), (3, .int .i64 v10), (4, .pointer (some ⟨g1, 0, none⟩)), (8, .slice Aa0 a0.length ca0), (9, .int .i64 (a0.length : Int)), (10, .int .i64 v10), (37, .bool (decide (x1.To < x1.From)))]) (by kernel_rfl) (by kernel_rfl) (fun w hh => ⟨(hh.box 0 rfl rfl), (hh.box 0 rfl rfl)⟩) ?_
              refine RgH.done (by kernel_rfl) ?_
              rcases bool_cases (decide (x1.To < x1.From)) with hb7 | hb7
              · replace heq := bif_true hb7 heq
                refine RunH.condT (c := decide (x1.To < x1.From)) (by kernel_rfl) hb7 ?_
                refine RunH.adm 1 (es' := [.c [1, 1, 0, 1, 0, 0, 1, 1, 0, 0, 1, 0, 1, 1, 1, 1, 1, 0, 0], .c [1, 1, 0, 1, 0, 0, 1, 1, 0, 0, 1, 0, 1, 1, 1, 1, 1, 0, 1], .b 2, .b 1, .c [1, 1, 0, 1, 0, 0, 1, 1, 1], .l [1, 1, 0, 1, 0, 0], .b 0, .c [1, 1, 1]]) (by kernel_rfl) ?_
                refine RunH.reg (by kernel_rfl) ?_
                refine RgH.runk 1 [2] (vs := []) (evs := []) (L' := [(2, .int .i64 8)]) (by kernel_rfl) (by kernel_rfl) (fun _ _ => trivial) ?_
                refine RgH.done (by kernel_rfl) ?_
                obtain rfl := Option.some.inj heq
                refine RunH.pick 1 [] (cs' := F) (by kernel_rfl) rfl ?_
                exact RunH.done (by kernel_rfl) Tryd.func19 (v := .int .i64 8) (by kernel_rfl) ⟨rfl, rfl, rfl⟩
              · replace heq := bif_false hb7 heq
                refine RunH.condF (c := decide (x1.To < x1.From)) (by kernel_rfl) hb7 ?_
                refine RunH.adm 1 (es' := [.c [1, 1, 0, 1, 0, 0, 1, 1, 0, 0, 1, 0, 1, 1, 1, 1, 1, 1, 0], .c [1, 1, 0, 1, 0, 0, 1, 1, 0, 0, 1, 0, 1, 1, 1, 1, 1, 1, 1], .b 2, .b 1, .c [1, 1, 0, 1, 0, 0, 1, 1, 1], .l [1, 1, 0, 1, 0, 0], .b 0, .c [1, 1, 1]]) (by kernel_rfl) ?_
                refine RunH.reg (by kernel_rfl) ?_
                refine RgH.runk 2 [0, 3, 4, 8, 9, 10, 45] (vs := [.int .i64 x1.End]) (evs := [.load ⟨g1, 4, none⟩ (.int .i64 x1.End)]) (L' := [(0, .slice Aa0 a0.length ca0), (3, .int .i64 v10), (4, .pointer (some ⟨g1, 0, none⟩)), (8, .slice Aa0 a0.length ca0), (9, .int .i64 (a0.length : Int)), (10, .int .i64 v10), (45, .int .i64 x1.End)]) (by kernel_rfl) (by kernel_rfl) (fun w hh => (hh.box 0 rfl rfl)) ?_
                obtain ⟨y5, hy5, heq⟩ := bind_some heq
                refine RgH.does (DoesH.call (d := 46) (g := 49) (args := #[.int .i64 x1.End, .int .i64 1, .int .i64 3]) (by kernel_rfl) (smithyardref9_within_c (a0 := x1.End) (a1 := 1) (a2 := 3)  hy5)) ?_
                rintro _ _ _ _ ⟨_, rfl, rfl, rfl, rfl⟩
                refine RgH.runk 5 [0, 3, 4, 8, 9, 10, 43] (vs := []) (evs := []) (L' := [(0, .slice Aa0 a0.length ca0), (3, .int .i64 v10), (4, .pointer (some ⟨g1, 0, none⟩)), (8, .slice Aa0 a0.length ca0), (9, .int .i64 (a0.length : Int)), (10, .int .i64 v10), (43, .bool (!y5))]) (by kernel_rfl) (by kernel_rfl) (fun _ _ => trivial) ?_
                refine RgH.done (by kernel_rfl) ?_
                rcases bool_cases (!y5) with hb8 | hb8
                · replace heq := bif_true hb8 heq
                  refine RunH.condT (c := !y5) (by kernel_rfl) hb8 ?_
                  refine RunH.adm 1 (es' := [.c [1, 1, 0, 1, 0, 0, 1, 1, 0, 0, 1, 0, 1, 1, 1, 1, 1, 1, 1, 0, 0], .c [1, 1, 0, 1, 0, 0, 1, 1, 0, 0, 1, 0, 1, 1, 1, 1, 1, 1, 1, 0, 1], .b 2, .b 1, .c [1, 1, 0, 1, 0, 0, 1, 1, 1], .l [1, 1, 0, 1, 0, 0], .b 0, .c [1, 1, 1]]) (by kernel_rfl) ?_
                  refine RunH.reg (by kernel_rfl) ?_
                  refine RgH.runk 1 [2] (vs := []) (evs := []) (L' := [(2, .int .i64 4)]) (by kernel_rfl) (by kernel_rfl) (fun _ _ => trivial) ?_
                  refine RgH.done (by kernel_rfl) ?_
                  obtain rfl := Option.some.inj heq
                  refine RunH.pick 1 [] (cs' := F) (by kernel_rfl) rfl ?_
                  exact RunH.done (by kernel_rfl) Tryd.func19 (v := .int .i64 4) (by kernel_rfl) ⟨rfl, rfl, rfl⟩
                · replace heq := bif_false hb8 heq
                  refine RunH.condF (c := !y5) (by kernel_rfl) hb8 ?_
                  refine RunH.adm 1 (es' := [.c [1, 1, 0, 1, 0, 0, 1, 1, 0, 0, 1, 0, 1, 1, 1, 1, 1, 1, 1, 1, 0], .c [1, 1, 0, 1, 0, 0, 1, 1, 0, 0, 1, 0, 1, 1, 1, 1, 1, 1, 1, 1, 1], .b 2, .b 1, .c [1, 1, 0, 1, 0, 0, 1, 1, 1], .l [1, 1, 0, 1, 0, 0], .b 0, .c [1, 1, 1]]) (by kernel_rfl) ?_
                  obtain ⟨t3, ht3, heq⟩ := bind_some heq
                  have K4 : RunH C19 (S19 F H r) H w0 [.c [1, 1, 0, 1, 0, 0, 1, 1, 0, 0, 1, 0, 1, 1, 1, 1, 1, 1, 1, 1, 1], .b 2, .b 1, .c [1, 1, 0, 1, 0, 0, 1, 1, 1], .l [1, 1, 0, 1, 0, 0], .b 0, .c [1, 1, 1]] [(0, .slice Aa0 a0.length ca0), (8, .slice Aa0 a0.length ca0), (9, .int .i64 (a0.length : Int)), (10, .int .i64 v10), (48, .bool t3)] H (F) := by
                    rcases bool_cases (t3) with hb10 | hb10
                    · replace heq := bif_true hb10 heq
                      refine RunH.condT (c := t3) (by kernel_rfl) hb10 ?_
                      refine RunH.adm 1 (es' := [.c [1, 1, 0, 1, 0, 0, 1, 1, 0, 0, 1, 0, 1, 1, 1, 1, 1, 1, 1, 1, 1, 0, 0], .c [1, 1, 0, 1, 0, 0, 1, 1, 0, 0, 1, 0, 1, 1, 1, 1, 1, 1, 1, 1, 1, 0, 1], .b 2, .b 1, .c [1, 1, 0, 1, 0, 0, 1, 1, 1], .l [1, 1, 0, 1, 0, 0], .b 0, .c [1, 1, 1]]) (by kernel_rfl) ?_
                      refine RunH.reg (by kernel_rfl) ?_
                      refine RgH.runk 1 [2] (vs := []) (evs := []) (L' := [(2, .int .i64 8)]) (by kernel_rfl) (by kernel_rfl) (fun _ _ => trivial) ?_
                      refine RgH.done (by kernel_rfl) ?_
                      obtain rfl := Option.some.inj heq
                      exact RunH.done (by kernel_rfl) Tryd.func19 (v := .int .i64 8) (by kernel_rfl) ⟨rfl, rfl, rfl⟩
                    · replace heq := bif_false hb10 heq
                      refine RunH.condF (c := t3) (by kernel_rfl) hb10 ?_
                      refine RunH.adm 3 (es' := [.c [1, 1, 0, 1, 0, 0, 1, 1, 1], .l [1, 1, 0, 1, 0, 0], .b 0, .c [1, 1, 1]]) (by kernel_rfl) ?_
                      refine RunH.reg (by kernel_rfl) ?_
                      refine RgH.runk 2 [0, 8, 9, 10] (vs := []) (evs := []) (L' := [(0, .slice Aa0 a0.length ca0), (8, .slice Aa0 a0.length ca0), (9, .int .i64 (a0.length : Int)), (10, .int .i64 (w64 (v10 + 1)))]) (by kernel_rfl) (by kernel_rfl) (fun _ _ => trivial) ?_
                      refine RgH.done (by kernel_rfl) ?_
                      refine RunH.adm 1 (es' := [.c [1, 1, 0, 1, 0, 0], .l [1, 1, 0, 1, 0, 0], .b 0, .c [1, 1, 1]]) (by kernel_rfl) ?_
                      refine RunH.keep [0, 8, 9, 10] (L' := [(0, .slice Aa0 a0.length ca0), (8, .slice Aa0 a0.length ca0), (9, .int .i64 (a0.length : Int)), (10, .int .i64 (w64 (v10 + 1)))]) (by kernel_rfl) ?_
                      exact ihk a0 _ _ (w64 (v10 + 1)) hra0 hca0 heq
                  replace heq := ht3
                  refine RunH.keep [0, 3, 4, 8, 9, 10] (L' := [(0, .slice Aa0 a0.length ca0), (3, .int .i64 v10), (4, .pointer (some ⟨g1, 0, none⟩)), (8, .slice Aa0 a0.length ca0), (9, .int .i64 (a0.length : Int)), (10, .int .i64 v10)]) (by kernel_rfl) ?_
                  refine RunH.draw (fun w => Heap H w0 w ((some (g1, .cells #[.string x1.Id, .string x1.Worker, .int .i64 x1.From, .int .i64 x1.To, .int .i64 x1.End] 39 (0, 0))) :: F)) (fun w => Heap H w0 w ((some (g1, .cells #[.string x1.Id, .string x1.Worker, .int .i64 x1.From, .int .i64 x1.To, .int .i64 x1.End] 39 (0, 0))) :: F)) [false, false, false, false, false, false, false, false, false, false, false, false, false] (n := 13) (ls := [false, false, false, false, false, false, false, false, false, false, false, false, false]) (by kernel_rfl) (by kernel_rfl) (by kernel_rfl) rfl ?_
                  refine DrH.run [0, 1, 2] (m := 10) (ls' := [true, true, true, false, false, false, false, false, false, false, false, false, false]) (vs := []) (evs := []) (L' := [(51, .bool (decide (0 < v10))), (50, .bool (decide (0 < v10))), (49, .int .i64 v10), (0, .slice Aa0 a0.length ca0), (3, .int .i64 v10), (4, .pointer (some ⟨g1, 0, none⟩)), (8, .slice Aa0 a0.length ca0), (9, .int .i64 (a0.length : Int)), (10, .int .i64 v10)]) (by kernel_rfl) (fun w hh => hh.pick 1 [0] (by kernel_rfl)) (fun w hh => hh.pick 1 [0] (by kernel_rfl)) (by kernel_rfl) (fun _ _ => trivial) (by kernel_rfl) ?_
                  refine DrH.keep [51, 0, 3, 4, 8, 9, 10] (L' := [(51, .bool (decide (0 < v10))), (0, .slice Aa0 a0.length ca0), (3, .int .i64 v10), (4, .pointer (some ⟨g1, 0, none⟩)), (8, .slice Aa0 a0.length ca0), (9, .int .i64 (a0.length : Int)), (10, .int .i64 v10)]) (by kernel_rfl) ?_
                  rcases bool_cases (decide (0 < v10)) with hb9 | hb9
                  · replace heq := bif_true hb9 heq
                    refine DrH.val1 (v' := .bool true) (congrArg Value.bool hb9) ?_
                    obtain ⟨x2, hx2, heq⟩ := bind_some heq
                    obtain ⟨ha2, cs2, hK2, hcc2⟩ := hra0.get hx2
                    obtain ⟨rfl⟩ := kRun_open hK2
                    refine DrH.run [3, 4, 5, 6, 7, 8] (m := 4) (ls' := [true, true, true, true, true, true, true, true, true, false, false, false, false]) (vs := [.string x2.Id, .string x2.Worker, .int .i64 x2.From, .int .i64 x2.To, .int .i64 x2.End, .string x1.Id, .string x1.Worker, .int .i64 x1.From, .int .i64 x1.To, .int .i64 x1.End]) (evs := [.need (Aa0 = some (adr Aa0) ∧ (0 : Int) ≤ (w64 (v10 - 1)) ∧ (w64 (v10 - 1)) < ((a0.length : Nat) : Int)), .load (((adr Aa0).add ((w64 (v10 - 1)).toNat * 5)).add 0) (.string x2.Id), .load (((adr Aa0).add ((w64 (v10 - 1)).toNat * 5)).add 1) (.string x2.Worker), .load (((adr Aa0).add ((w64 (v10 - 1)).toNat * 5)).add 2) (.int .i64 x2.From), .load (((adr Aa0).add ((w64 (v10 - 1)).toNat * 5)).add 3) (.int .i64 x2.To), .load (((adr Aa0).add ((w64 (v10 - 1)).toNat * 5)).add 4) (.int .i64 x2.End), .load ⟨g1, 0, none⟩ (.string x1.Id), .load ⟨g1, 1, none⟩ (.string x1.Worker), .load ⟨g1, 2, none⟩ (.int .i64 x1.From), .load ⟨g1, 3, none⟩ (.int .i64 x1.To), .load ⟨g1, 4, none⟩ (.int .i64 x1.End)]) (L' := [(57, .agg #[.string x1.Id, .string x1.Worker, .int .i64 x1.From, .int .i64 x1.To, .int .i64 x1.End]), (56, .agg #[.string x2.Id, .string x2.Worker, .int .i64 x2.From, .int .i64 x2.To, .int .i64 x2.End]), (55, .pointer (some ((adr Aa0).add ((w64 (v10 - 1)).toNat * 5)))), (54, .int .i64 (w64 (v10 - 1))), (53, .int .i64 v10), (52, .slice Aa0 a0.length ca0), (51, .bool true), (0, .slice Aa0 a0.length ca0), (3, .int .i64 v10), (4, .pointer (some ⟨g1, 0, none⟩)), (8, .slice Aa0 a0.length ca0), (9, .int .i64 (a0.length : Int)), (10, .int .i64 v10)]) (by kernel_rfl) (fun w hh => hh.pick 1 [0] (by kernel_rfl)) (fun w hh => hh.pick 1 [0] (by kernel_rfl)) (by kernel_rfl) (fun w hh => ⟨⟨ha2, (at?_some hx2).1, (at?_some hx2).2.1⟩, (hcc2 _ _ (hh.drop 1) 0 _ rfl), (hcc2 _ _ (hh.drop 1) 1 _ rfl), (hcc2 _ _ (hh.drop 1) 2 _ rfl), (hcc2 _ _ (hh.drop 1) 3 _ rfl), (hcc2 _ _ (hh.drop 1) 4 _ rfl), (hh.box 0 rfl rfl), (hh.box 0 rfl rfl), (hh.box 0 rfl rfl), (hh.box 0 rfl rfl), (hh.box 0 rfl rfl)⟩) (by kernel_rfl) ?_
                    refine DrH.keep [0, 8, 9, 10, 51, 56, 57] (L' := [(0, .slice Aa0 a0.length ca0), (8, .slice Aa0 a0.length ca0), (9, .int .i64 (a0.length : Int)), (10, .int .i64 v10), (51, .bool true), (56, .agg #[.string x2.Id, .string x2.Worker, .int .i64 x2.From, .int .i64 x2.To, .int .i64 x2.End]), (57, .agg #[.string x1.Id, .string x1.Worker, .int .i64 x1.From, .int .i64 x1.To, .int .i64 x1.End])]) (by kernel_rfl) ?_
                    obtain ⟨y6, hy6, heq⟩ := bind_some heq
                    refine DrH.does (n := 3) (ls' := [true, true, true, true, true, true, true, true, true, true, false, false, false]) 9 (by kernel_rfl) rfl (DoesH.call (d := 58) (g := 58) (args := #[.agg #[.string x2.Id, .string x2.Worker, .int .i64 x2.From, .int .i64 x2.To, .int .i64 x2.End], .agg #[.string x1.Id, .string x1.Worker, .int .i64 x1.From, .int .i64 x1.To, .int .i64 x1.End]]) (by kernel_rfl) (smithyardref9_before_c (a0 := x2) (a1 := x1)  hy6)) ?_
                    rintro _ _ _ _ ⟨_, rfl, rfl, rfl, rfl⟩
                    refine ⟨fun w hh => ⟨(fun w hh => hh.pick 1 [0] (by kernel_rfl)) w hh, fun _ => (fun w hh => hh.pick 1 [0] (by kernel_rfl)) w hh⟩, ?_⟩
                    refine DrH.run [10, 11, 12] (m := 0) (ls' := [true, true, true, true, true, true, true, true, true, true, true, true, true]) (vs := []) (evs := []) (L' := [(48, .bool (!y6)), (60, .bool (!y6)), (59, .bool (!y6)), (58, .bool y6), (0, .slice Aa0 a0.length ca0), (8, .slice Aa0 a0.length ca0), (9, .int .i64 (a0.length : Int)), (10, .int .i64 v10), (51, .bool true), (56, .agg #[.string x2.Id, .string x2.Worker, .int .i64 x2.From, .int .i64 x2.To, .int .i64 x2.End]), (57, .agg #[.string x1.Id, .string x1.Worker, .int .i64 x1.From, .int .i64 x1.To, .int .i64 x1.End])]) (by kernel_rfl) (fun w hh => hh.pick 1 [0] (by kernel_rfl)) (fun w hh => hh.pick 1 [0] (by kernel_rfl)) (by kernel_rfl) (fun _ _ => trivial) (by kernel_rfl) ?_
                    refine DrH.keep [0, 8, 9, 10, 48] (L' := [(0, .slice Aa0 a0.length ca0), (8, .slice Aa0 a0.length ca0), (9, .int .i64 (a0.length : Int)), (10, .int .i64 v10), (48, .bool (!y6))]) (by kernel_rfl) ?_
                    obtain rfl := Option.some.inj heq
                    refine DrH.keep [0, 8, 9, 10, 48] (L' := [(0, .slice Aa0 a0.length ca0), (8, .slice Aa0 a0.length ca0), (9, .int .i64 (a0.length : Int)), (10, .int .i64 v10), (48, .bool (!y6))]) (by kernel_rfl) ?_
                    refine DrH.pick 1 [] (cs' := F) (by kernel_rfl) rfl ?_
                    refine DrH.done (by kernel_rfl) ?_
                    exact K4
                  · replace heq := bif_false hb9 heq
                    refine DrH.val1 (v' := .bool false) (congrArg Value.bool hb9) ?_
                    refine DrH.run [3, 4, 5, 6, 7, 8, 9, 10, 11, 12] (m := 0) (ls' := [true, true, true, true, true, true, true, true, true, true, true, true, true]) (vs := []) (evs := []) (L' := [(48, .bool false), (60, .bool false), (59, undef), (58, undef), (57, undef), (56, undef), (55, undef), (54, undef), (53, undef), (52, undef), (51, .bool false), (0, .slice Aa0 a0.length ca0), (3, .int .i64 v10), (4, .pointer (some ⟨g1, 0, none⟩)), (8, .slice Aa0 a0.length ca0), (9, .int .i64 (a0.length : Int)), (10, .int .i64 v10)]) (by kernel_rfl) (fun w hh => hh.pick 1 [0] (by kernel_rfl)) (fun w hh => hh.pick 1 [0] (by kernel_rfl)) (by kernel_rfl) (fun _ _ => trivial) (by kernel_rfl) ?_
                    refine DrH.keep [0, 8, 9, 10, 48] (L' := [(0, .slice Aa0 a0.length ca0), (8, .slice Aa0 a0.length ca0), (9, .int .i64 (a0.length : Int)), (10, .int .i64 v10), (48, .bool false)]) (by kernel_rfl) ?_
                    obtain rfl := Option.some.inj heq
                    refine DrH.keep [0, 8, 9, 10, 48] (L' := [(0, .slice Aa0 a0.length ca0), (8, .slice Aa0 a0.length ca0), (9, .int .i64 (a0.length : Int)), (10, .int .i64 v10), (48, .bool false)]) (by kernel_rfl) ?_
                    refine DrH.pick 1 [] (cs' := F) (by kernel_rfl) rfl ?_
                    refine DrH.done (by kernel_rfl) ?_
                    exact K4
          replace heq := ht2
          refine RunH.reg (by kernel_rfl) ?_
          refine RgH.runk 2 [0, 3, 4, 8, 9, 10, 28] (vs := [.int .i64 x1.From]) (evs := [.load ⟨g1, 2, none⟩ (.int .i64 x1.From)]) (L' := [(0, .slice Aa0 a0.length ca0), (3, .int .i64 v10), (4, .pointer (some ⟨g1, 0, none⟩)), (8, .slice Aa0 a0.length ca0), (9, .int .i64 (a0.length : Int)), (10, .int .i64 v10), (28, .int .i64 x1.From)]) (by kernel_rfl) (by kernel_rfl) (fun w hh => (hh.box 0 rfl rfl)) ?_
          obtain ⟨y3, hy3, heq⟩ := bind_some heq
          refine RgH.does (DoesH.call (d := 29) (g := 49) (args := #[.int .i64 x1.From, .int .i64 0, .int .i64 1000000000]) (by kernel_rfl) (smithyardref9_within_c (a0 := x1.From) (a1 := 0) (a2 := 1000000000)  hy3)) ?_
          rintro _ _ _ _ ⟨_, rfl, rfl, rfl, rfl⟩
          refine RgH.runk 5 [31, 0, 3, 4, 8, 9, 10] (vs := []) (evs := []) (L' := [(31, .bool (!y3)), (0, .slice Aa0 a0.length ca0), (3, .int .i64 v10), (4, .pointer (some ⟨g1, 0, none⟩)), (8, .slice Aa0 a0.length ca0), (9, .int .i64 (a0.length : Int)), (10, .int .i64 v10)]) (by kernel_rfl) (by kernel_rfl) (fun _ _ => trivial) ?_
          rcases bool_cases (!y3) with hb5 | hb5
          · replace heq := bif_true hb5 heq
            refine RgH.val1 (v' := .bool true) (congrArg Value.bool hb5) ?_
            refine RgH.runk 11 [0, 3, 4, 8, 9, 10, 26] (vs := []) (evs := []) (L' := [(0, .slice Aa0 a0.length ca0), (3, .int .i64 v10), (4, .pointer (some ⟨g1, 0, none⟩)), (8, .slice Aa0 a0.length ca0), (9, .int .i64 (a0.length : Int)), (10, .int .i64 v10), (26, .bool true)]) (by kernel_rfl) (by kernel_rfl) (fun _ _ => trivial) ?_
            obtain rfl := Option.some.inj heq
            refine RgH.keep [0, 3, 4, 8, 9, 10, 26] (L' := [(0, .slice Aa0 a0.length ca0), (3, .int .i64 v10), (4, .pointer (some ⟨g1, 0, none⟩)), (8, .slice Aa0 a0.length ca0), (9, .int .i64 (a0.length : Int)), (10, .int .i64 v10), (26, .bool true)]) (by kernel_rfl) ?_
            refine RgH.done (by kernel_rfl) ?_
            exact K3
          · replace heq := bif_false hb5 heq
            refine RgH.val1 (v' := .bool false) (congrArg Value.bool hb5) ?_
            refine RgH.runk 7 [0, 3, 4, 8, 9, 10, 31, 33] (vs := [.int .i64 x1.To]) (evs := [.load ⟨g1, 3, none⟩ (.int .i64 x1.To)]) (L' := [(0, .slice Aa0 a0.length ca0), (3, .int .i64 v10), (4, .pointer (some ⟨g1, 0, none⟩)), (8, .slice Aa0 a0.length ca0), (9, .int .i64 (a0.length : Int)), (10, .int .i64 v10), (31, .bool false), (33, .int .i64 x1.To)]) (by kernel_rfl) (by kernel_rfl) (fun w hh => (hh.box 0 rfl rfl)) ?_
            obtain ⟨y4, hy4, heq⟩ := bind_some heq
            refine RgH.does (DoesH.call (d := 34) (g := 49) (args := #[.int .i64 x1.To, .int .i64 0, .int .i64 1000000000]) (by kernel_rfl) (smithyardref9_within_c (a0 := x1.To) (a1 := 0) (a2 := 1000000000)  hy4)) ?_
            rintro _ _ _ _ ⟨_, rfl, rfl, rfl, rfl⟩
            refine RgH.runk 11 [0, 3, 4, 8, 9, 10, 26] (vs := []) (evs := []) (L' := [(0, .slice Aa0 a0.length ca0), (3, .int .i64 v10), (4, .pointer (some ⟨g1, 0, none⟩)), (8, .slice Aa0 a0.length ca0), (9, .int .i64 (a0.length : Int)), (10, .int .i64 v10), (26, .bool (!y4))]) (by kernel_rfl) (by kernel_rfl) (fun _ _ => trivial) ?_
            obtain rfl := Option.some.inj heq
            refine RgH.keep [0, 3, 4, 8, 9, 10, 26] (L' := [(0, .slice Aa0 a0.length ca0), (3, .int .i64 v10), (4, .pointer (some ⟨g1, 0, none⟩)), (8, .slice Aa0 a0.length ca0), (9, .int .i64 (a0.length : Int)), (10, .int .i64 v10), (26, .bool (!y4))]) (by kernel_rfl) ?_
            refine RgH.done (by kernel_rfl) ?_
            exact K3
      replace heq := ht1
      refine RunH.reg (by kernel_rfl) ?_
      refine RgH.runk 2 [0, 3, 4, 8, 9, 10, 17] (vs := [.string x1.Id]) (evs := [.load ⟨g1, 0, none⟩ (.string x1.Id)]) (L' := [(0, .slice Aa0 a0.length ca0), (3, .int .i64 v10), (4, .pointer (some ⟨g1, 0, none⟩)), (8, .slice Aa0 a0.length ca0), (9, .int .i64 (a0.length : Int)), (10, .int .i64 v10), (17, .string x1.Id)]) (by kernel_rfl) (by kernel_rfl) (fun w hh => (hh.box 0 rfl rfl)) ?_
      obtain ⟨y1, hy1, heq⟩ := bind_some heq
      refine RgH.does (DoesH.call (d := 18) (g := 55) (args := #[.string x1.Id]) (by kernel_rfl) (smithyardref9_isWord_c (a0 := x1.Id)  hy1)) ?_
      rintro _ _ _ _ ⟨_, rfl, rfl, rfl, rfl⟩
      refine RgH.runk 5 [20, 0, 3, 4, 8, 9, 10] (vs := []) (evs := []) (L' := [(20, .bool (!y1)), (0, .slice Aa0 a0.length ca0), (3, .int .i64 v10), (4, .pointer (some ⟨g1, 0, none⟩)), (8, .slice Aa0 a0.length ca0), (9, .int .i64 (a0.length : Int)), (10, .int .i64 v10)]) (by kernel_rfl) (by kernel_rfl) (fun _ _ => trivial) ?_
      rcases bool_cases (!y1) with hb3 | hb3
      · replace heq := bif_true hb3 heq
        refine RgH.val1 (v' := .bool true) (congrArg Value.bool hb3) ?_
        refine RgH.runk 11 [0, 3, 4, 8, 9, 10, 15] (vs := []) (evs := []) (L' := [(0, .slice Aa0 a0.length ca0), (3, .int .i64 v10), (4, .pointer (some ⟨g1, 0, none⟩)), (8, .slice Aa0 a0.length ca0), (9, .int .i64 (a0.length : Int)), (10, .int .i64 v10), (15, .bool true)]) (by kernel_rfl) (by kernel_rfl) (fun _ _ => trivial) ?_
        obtain rfl := Option.some.inj heq
        refine RgH.keep [0, 3, 4, 8, 9, 10, 15] (L' := [(0, .slice Aa0 a0.length ca0), (3, .int .i64 v10), (4, .pointer (some ⟨g1, 0, none⟩)), (8, .slice Aa0 a0.length ca0), (9, .int .i64 (a0.length : Int)), (10, .int .i64 v10), (15, .bool true)]) (by kernel_rfl) ?_
        refine RgH.done (by kernel_rfl) ?_
        exact K2
      · replace heq := bif_false hb3 heq
        refine RgH.val1 (v' := .bool false) (congrArg Value.bool hb3) ?_
        refine RgH.runk 7 [0, 3, 4, 8, 9, 10, 20, 22] (vs := [.string x1.Worker]) (evs := [.load ⟨g1, 1, none⟩ (.string x1.Worker)]) (L' := [(0, .slice Aa0 a0.length ca0), (3, .int .i64 v10), (4, .pointer (some ⟨g1, 0, none⟩)), (8, .slice Aa0 a0.length ca0), (9, .int .i64 (a0.length : Int)), (10, .int .i64 v10), (20, .bool false), (22, .string x1.Worker)]) (by kernel_rfl) (by kernel_rfl) (fun w hh => (hh.box 0 rfl rfl)) ?_
        obtain ⟨y2, hy2, heq⟩ := bind_some heq
        refine RgH.does (DoesH.call (d := 23) (g := 55) (args := #[.string x1.Worker]) (by kernel_rfl) (smithyardref9_isWord_c (a0 := x1.Worker)  hy2)) ?_
        rintro _ _ _ _ ⟨_, rfl, rfl, rfl, rfl⟩
        refine RgH.runk 11 [0, 3, 4, 8, 9, 10, 15] (vs := []) (evs := []) (L' := [(0, .slice Aa0 a0.length ca0), (3, .int .i64 v10), (4, .pointer (some ⟨g1, 0, none⟩)), (8, .slice Aa0 a0.length ca0), (9, .int .i64 (a0.length : Int)), (10, .int .i64 v10), (15, .bool (!y2))]) (by kernel_rfl) (by kernel_rfl) (fun _ _ => trivial) ?_
        obtain rfl := Option.some.inj heq
        refine RgH.keep [0, 3, 4, 8, 9, 10, 15] (L' := [(0, .slice Aa0 a0.length ca0), (3, .int .i64 v10), (4, .pointer (some ⟨g1, 0, none⟩)), (8, .slice Aa0 a0.length ca0), (9, .int .i64 (a0.length : Int)), (10, .int .i64 v10), (15, .bool (!y2))]) (by kernel_rfl) ?_
        refine RgH.done (by kernel_rfl) ?_
        exact K2
    · replace heq := bif_false hb2 heq
      refine RunH.condF (c := decide (v10 < (a0.length : Int))) (by kernel_rfl) hb2 ?_
      refine RunH.adm 2 (es' := [.c [1, 1, 1, 0], .c [1, 1, 1, 1]]) (by kernel_rfl) ?_
      refine RunH.keep [] (L' := []) (by kernel_rfl) ?_
      exact he1 heq
theorem smithyardref9_CheckRuns_c {w0 : World} {H : Hp} {F : List Ch} {a0 : List Run} {Aa0 : Option Addr} {na0 : Nat} {ca0 : Nat} {r : Int} (hra0 : Rw kRun H F Aa0 a0) (hca0 : na0 ≤ ca0) (hna0 : na0 = a0.length) (heq : smithyardref9_CheckRuns.f a0 = some r) : CallsH Tryd.prog 19 #[.slice Aa0 na0 ca0] H w0 (F) (S19 F H r) := by
  refine calls_of_runH (F := C19) Tryd.func19 (by kernel_rfl) Tryd.ntmps19 (args := [.slice Aa0 na0 ca0]) (by kernel_rfl) ?_
  subst hna0
  unfold smithyardref9_CheckRuns.f at heq
  refine RunH.adm 1 (es' := [.c [0], .c [1]]) (by kernel_rfl) ?_
  refine RunH.reg (by kernel_rfl) ?_
  refine RgH.runk 1 [0] (vs := []) (evs := []) (L' := [(0, .slice Aa0 a0.length ca0)]) (by kernel_rfl) (by kernel_rfl) (fun _ _ => trivial) ?_
  refine RgH.done (by kernel_rfl) ?_
  refine RunH.adm 2 (es' := [.c [1, 0, 0], .c [1, 0, 1], .c [1, 1]]) (by kernel_rfl) ?_
  refine RunH.reg (by kernel_rfl) ?_
  refine RgH.runk 3 [0, 7] (vs := []) (evs := []) (L' := [(0, .slice Aa0 a0.length ca0), (7, .bool (decide (4000 < (a0.length : Int))))]) (by kernel_rfl) (by kernel_rfl) (fun _ _ => trivial) ?_
  refine RgH.done (by kernel_rfl) ?_
  rcases bool_cases (decide (4000 < (a0.length : Int))) with hb1 | hb1
  · replace heq := bif_true hb1 heq
    refine RunH.condT (c := decide (4000 < (a0.length : Int))) (by kernel_rfl) hb1 ?_
    refine RunH.adm 1 (es' := [.c [1, 0, 1, 0, 0], .c [1, 0, 1, 0, 1], .c [1, 1]]) (by kernel_rfl) ?_
    refine RunH.reg (by kernel_rfl) ?_
    refine RgH.runk 1 [2] (vs := []) (evs := []) (L' := [(2, .int .i64 2)]) (by kernel_rfl) (by kernel_rfl) (fun _ _ => trivial) ?_
    refine RgH.done (by kernel_rfl) ?_
    obtain rfl := Option.some.inj heq
    exact RunH.done (by kernel_rfl) Tryd.func19 (v := .int .i64 2) (by kernel_rfl) ⟨rfl, rfl, rfl⟩
  · replace heq := bif_false hb1 heq
    refine RunH.condF (c := decide (4000 < (a0.length : Int))) (by kernel_rfl) hb1 ?_
    refine RunH.adm 3 (es' := [.c [1, 1, 0, 0], .c [1, 1, 0, 1], .c [1, 1, 1]]) (by kernel_rfl) ?_
    refine RunH.reg (by kernel_rfl) ?_
    refine RgH.runk 3 [0, 8, 9, 10] (vs := []) (evs := []) (L' := [(0, .slice Aa0 a0.length ca0), (8, .slice Aa0 a0.length ca0), (9, .int .i64 (a0.length : Int)), (10, .int .i64 0)]) (by kernel_rfl) (by kernel_rfl) (fun _ _ => trivial) ?_
    refine RgH.done (by kernel_rfl) ?_
    refine RunH.adm 2 (es' := [.c [1, 1, 0, 1, 0, 0], .l [1, 1, 0, 1, 0, 0], .b 0, .c [1, 1, 1]]) (by kernel_rfl) ?_
    refine RunH.keep [0, 8, 9, 10] (L' := [(0, .slice Aa0 a0.length ca0), (8, .slice Aa0 a0.length ca0), (9, .int .i64 (a0.length : Int)), (10, .int .i64 0)]) (by kernel_rfl) ?_
    exact ((smithyardref9_CheckRuns.l2_c (e1 := smithyardref9_CheckRuns.e1) (smithyardref9_CheckRuns.e1_c)) big) a0 _ _ 0 hra0 hca0 heq
noncomputable def C17 : Ctx := { P := Tryd.prog, f := 17, N := 54, c := bodyOf Tryd.f17 }
def S17 (F : List Ch) (H0 : Hp) (r : Int × Int) (v : Value) (H : Hp) (cs : List Ch) : Prop := H0 = H ∧ v = .tuple #[.int .i64 r.1, .int .i64 r.2] ∧ F = cs
theorem smithyardref9_Busy.e1_c {w0 : World} {H : Hp} {F : List Ch} {r : Int × Int} : ∀ (v_n11 : Int) , smithyardref9_Busy.e1 v_n11 = some r → RunH C17 (S17 F H r) H w0 [.c [1, 1, 1, 1, 1, 1, 0], .c [1, 1, 1, 1, 1, 1, 1]] [(11, .int .i64 v_n11)] H (F) := by
  intro v_n11  heq
  unfold smithyardref9_Busy.e1 at heq
  refine RunH.reg (by kernel_rfl) ?_
  refine RgH.runk 3 [8, 9] (vs := []) (evs := []) (L' := [(8, .int .i64 v_n11), (9, .int .i64 0)]) (by kernel_rfl) (by kernel_rfl) (fun _ _ => trivial) ?_
  refine RgH.done (by kernel_rfl) ?_
  obtain rfl := Option.some.inj heq
  exact RunH.done (by kernel_rfl) Tryd.func17 (v := .tuple #[.int .i64 v_n11, .int .i64 0]) (by kernel_rfl) ⟨rfl, rfl, rfl⟩
theorem smithyardref9_Busy.j3_c {w0 : World} {H : Hp} {F : List Ch} {r : Int × Int} (backl2 : (List Run) → ByteArray → Int → Int → Int → Int → Option (Int × Int))
    (hbackl2 : ∀ (a0 : List Run) (Aa0 : Option Addr) (ca0 : Nat) (a1 : ByteArray) (a2 : Int) (a3 : Int) (v_n11 : Int) (v32 : Int) , Rw kRun H F Aa0 a0 → a0.length ≤ ca0 → backl2 a0 a1 a2 a3 v_n11 v32 = some r → RunH C17 (S17 F H r) H w0 [.c [1, 1, 1, 1, 1, 0, 1, 0, 0], .l [1, 1, 1, 1, 1, 0, 1, 0, 0], .b 0, .c [1, 1, 1, 1, 1, 1]] [(1, .string a1), (2, .int .i64 a2), (3, .int .i64 a3), (11, .int .i64 v_n11), (30, .slice Aa0 a0.length ca0), (31, .int .i64 (a0.length : Int)), (32, .int .i64 v32)] H (F)) : ∀ (a0 : List Run) (Aa0 : Option Addr) (ca0 : Nat) (a1 : ByteArray) (a2 : Int) (a3 : Int) (v32 : Int) (v_n11 : Int) , Rw kRun H F Aa0 a0 → a0.length ≤ ca0 → smithyardref9_Busy.j3 backl2 a0 a1 a2 a3 v32 v_n11 = some r → RunH C17 (S17 F H r) H w0 [.c [1, 1, 1, 1, 1, 0, 1, 0, 0, 1, 1, 1], .l [1, 1, 1, 1, 1, 0, 1, 0, 0], .b 0, .c [1, 1, 1, 1, 1, 1]] [(1, .string a1), (2, .int .i64 a2), (3, .int .i64 a3), (11, .int .i64 v_n11), (30, .slice Aa0 a0.length ca0), (31, .int .i64 (a0.length : Int)), (32, .int .i64 v32)] H (F) := by
  intro a0 Aa0 ca0 a1 a2 a3 v32 v_n11 hra0 hca0 heq
  unfold smithyardref9_Busy.j3 at heq
  refine RunH.reg (by kernel_rfl) ?_
  refine RgH.runk 2 [1, 2, 3, 11, 30, 31, 32] (vs := []) (evs := []) (L' := [(1, .string a1), (2, .int .i64 a2), (3, .int .i64 a3), (11, .int .i64 v_n11), (30, .slice Aa0 a0.length ca0), (31, .int .i64 (a0.length : Int)), (32, .int .i64 (w64 (v32 + 1)))]) (by kernel_rfl) (by kernel_rfl) (fun _ _ => trivial) ?_
  refine RgH.done (by kernel_rfl) ?_
  refine RunH.adm 1 (es' := [.c [1, 1, 1, 1, 1, 0, 1, 0, 0], .l [1, 1, 1, 1, 1, 0, 1, 0, 0], .b 0, .c [1, 1, 1, 1, 1, 1]]) (by kernel_rfl) ?_
  refine RunH.keep [1, 2, 3, 11, 30, 31, 32] (L' := [(1, .string a1), (2, .int .i64 a2), (3, .int .i64 a3), (11, .int .i64 v_n11), (30, .slice Aa0 a0.length ca0), (31, .int .i64 (a0.length : Int)), (32, .int .i64 (w64 (v32 + 1)))]) (by kernel_rfl) ?_
  exact hbackl2 a0 _ _ a1 a2 a3 v_n11 (w64 (v32 + 1)) hra0 hca0 heq
theorem smithyardref9_Busy.l2_c {w0 : World} {H : Hp} {F : List Ch} {r : Int × Int} (e1 : Int → Option (Int × Int))
    (he1 : ∀ (v_n11 : Int) , e1 v_n11 = some r → RunH C17 (S17 F H r) H w0 [.c [1, 1, 1, 1, 1, 1, 0], .c [1, 1, 1, 1, 1, 1, 1]] [(11, .int .i64 v_n11)] H (F)) : ∀ (k : Nat), ∀ (a0 : List Run) (Aa0 : Option Addr) (ca0 : Nat) (a1 : ByteArray) (a2 : Int) (a3 : Int) (v_n11 : Int) (v32 : Int) , Rw kRun H F Aa0 a0 → a0.length ≤ ca0 → smithyardref9_Busy.l2 e1 k a0 a1 a2 a3 v_n11 v32 = some r → RunH C17 (S17 F H r) H w0 [.c [1, 1, 1, 1, 1, 0, 1, 0, 0], .l [1, 1, 1, 1, 1, 0, 1, 0, 0], .b 0, .c [1, 1, 1, 1, 1, 1]] [(1, .string a1), (2, .int .i64 a2), (3, .int .i64 a3), (11, .int .i64 v_n11), (30, .slice Aa0 a0.length ca0), (31, .int .i64 (a0.length : Int)), (32, .int .i64 v32)] H (F) := by
  intro k
  induction k with
  | zero => intro a0 Aa0 ca0 a1 a2 a3 v_n11 v32 hra0 hca0 heq; exact nomatch (show (none : Option (Int × Int)) = some r from heq)
  | succ k ihk =>
    intro a0 Aa0 ca0 a1 a2 a3 v_n11 v32 hra0 hca0 heq
    rw [smithyardref9_Busy.l2] at heq
    refine RunH.adm 1 (es' := [.c [1, 1, 1, 1, 1, 0, 1, 0, 0, 0], .c [1, 1, 1, 1, 1, 0, 1, 0, 0, 1], .l [1, 1, 1, 1, 1, 0, 1, 0, 0], .b 0, .c [1, 1, 1, 1, 1, 1]]) (by kernel_rfl) ?_
    refine RunH.reg (by kernel_rfl) ?_
    refine RgH.runk 1 [1, 2, 3, 11, 30, 31, 32, 33] (vs := []) (evs := []) (L' := [(1, .string a1), (2, .int .i64 a2), (3, .int .i64 a3), (11, .int .i64 v_n11), (30, .slice Aa0 a0.length ca0), (31, .int .i64 (a0.length : Int)), (32, .int .i64 v32), (33, .bool (decide (v32 < (a0.length : Int))))]) (by kernel_rfl) (by kernel_rfl) (fun _ _ => trivial) ?_
    refine RgH.done (by kernel_rfl) ?_
    refine RunH.adm 1 (es' := [.c [1, 1, 1, 1, 1, 0, 1, 0, 0, 1, 0], .c [1, 1, 1, 1, 1, 0, 1, 0, 0, 1, 1], .l [1, 1, 1, 1, 1, 0, 1, 0, 0], .b 0, .c [1, 1, 1, 1, 1, 1]]) (by kernel_rfl) ?_
    rcases bool_cases (decide (v32 < (a0.length : Int))) with hb5 | hb5
    · replace heq := bif_true hb5 heq
      refine RunH.condT (c := decide (v32 < (a0.length : Int))) (by kernel_rfl) hb5 ?_
      refine RunH.adm 4 (es' := [.c [1, 1, 1, 1, 1, 0, 1, 0, 0, 1, 1, 0, 0, 0], .c [1, 1, 1, 1, 1, 0, 1, 0, 0, 1, 1, 0, 0, 1], .b 1, .c [1, 1, 1, 1, 1, 0, 1, 0, 0, 1, 1, 1], .l [1, 1, 1, 1, 1, 0, 1, 0, 0], .b 0, .c [1, 1, 1, 1, 1, 1]]) (by kernel_rfl) ?_
      refine RunH.reg (by kernel_rfl) ?_
      obtain ⟨x1, hx1, heq⟩ := bind_some heq
      obtain ⟨ha1, cs1, hK1, hcc1⟩ := hra0.get hx1
      obtain ⟨rfl⟩ := kRun_open hK1
      refine RgH.runk 2 [1, 2, 3, 11, 30, 31, 32, 35] (vs := [.string x1.Id, .string x1.Worker, .int .i64 x1.From, .int .i64 x1.To, .int .i64 x1.End]) (evs := [.need (Aa0 = some (adr Aa0) ∧ (0 : Int) ≤ v32 ∧ v32 < ((a0.length : Nat) : Int)), .load (((adr Aa0).add (v32.toNat * 5)).add 0) (.string x1.Id), .load (((adr Aa0).add (v32.toNat * 5)).add 1) (.string x1.Worker), .load (((adr Aa0).add (v32.toNat * 5)).add 2) (.int .i64 x1.From), .load (((adr Aa0).add (v32.toNat * 5)).add 3) (.int .i64 x1.To), .load (((adr Aa0).add (v32.toNat * 5)).add 4) (.int .i64 x1.End)]) (L' := [(1, .string a1), (2, .int .i64 a2), (3, .int .i64 a3), (11, .int .i64 v_n11), (30, .slice Aa0 a0.length ca0), (31, .int .i64 (a0.length : Int)), (32, .int .i64 v32), (35, .agg #[.string x1.Id, .string x1.Worker, .int .i64 x1.From, .int .i64 x1.To, .int .i64 x1.End])]) (by kernel_rfl) (by kernel_rfl) (fun w hh => ⟨⟨ha1, (at?_some hx1).1, (at?_some hx1).2.1⟩, (hcc1 _ _ (hh.drop 0) 0 _ rfl), (hcc1 _ _ (hh.drop 0) 1 _ rfl), (hcc1 _ _ (hh.drop 0) 2 _ rfl), (hcc1 _ _ (hh.drop 0) 3 _ rfl), (hcc1 _ _ (hh.drop 0) 4 _ rfl)⟩) ?_
      refine RgH.does (DoesH.new (d := 13) (v := fun g => .pointer (some ⟨g, 0, none⟩)) (o := fun g => .cells #[.string ByteArray.empty, .string ByteArray.empty, .int .i64 0, .int .i64 0, .int .i64 0] 39 (0, 0)) (fun g => by kernel_rfl)) ?_
      rintro _ _ _ _ ⟨g1, rfl, rfl, rfl⟩
      refine RgH.does (DoesH.store (k := 0) (g := g1) (off := 0) (v := .agg #[.string x1.Id, .string x1.Worker, .int .i64 x1.From, .int .i64 x1.To, .int .i64 x1.End]) (cells' := #[.string x1.Id, .string x1.Worker, .int .i64 x1.From, .int .i64 x1.To, .int .i64 x1.End]) (by kernel_rfl) rfl (by kernel_rfl) (by kernel_rfl)) ?_
      rintro _ _ _ _ ⟨rfl, rfl, rfl⟩
      refine RgH.done (by kernel_rfl) ?_
      refine RunH.adm 1 (es' := [.c [1, 1, 1, 1, 1, 0, 1, 0, 0, 1, 1, 0, 0, 1, 0], .c [1, 1, 1, 1, 1, 0, 1, 0, 0, 1, 1, 0, 0, 1, 1], .b 1, .c [1, 1, 1, 1, 1, 0, 1, 0, 0, 1, 1, 1], .l [1, 1, 1, 1, 1, 0, 1, 0, 0], .b 0, .c [1, 1, 1, 1, 1, 1]]) (by kernel_rfl) ?_
      refine RunH.reg (by kernel_rfl) ?_
      refine RgH.runk 4 [1, 2, 3, 11, 13, 30, 31, 32, 39] (vs := [.string x1.Worker]) (evs := [.load ⟨g1, 1, none⟩ (.string x1.Worker)]) (L' := [(1, .string a1), (2, .int .i64 a2), (3, .int .i64 a3), (11, .int .i64 v_n11), (13, .pointer (some ⟨g1, 0, none⟩)), (30, .slice Aa0 a0.length ca0), (31, .int .i64 (a0.length : Int)), (32, .int .i64 v32), (39, .bool (sEq x1.Worker a1))]) (by kernel_rfl) (by kernel_rfl) (fun w hh => (hh.box 0 rfl rfl)) ?_
      refine RgH.done (by kernel_rfl) ?_
      rcases bool_cases (sEq x1.Worker a1) with hb6 | hb6
      · replace heq := bif_true hb6 heq
        refine RunH.condT (c := sEq x1.Worker a1) (by kernel_rfl) hb6 ?_
        refine RunH.reg (by kernel_rfl) ?_
        refine RgH.runk 13 [1, 2, 3, 11, 30, 31, 32] (vs := [.int .i64 x1.To, .int .i64 x1.From]) (evs := [.load ⟨g1, 3, none⟩ (.int .i64 x1.To), .load ⟨g1, 2, none⟩ (.int .i64 x1.From)]) (L' := [(1, .string a1), (2, .int .i64 a2), (3, .int .i64 a3), (11, .int .i64 (w64 (v_n11 + (max2 0 (w64 ((min2 x1.To a3) - (max2 x1.From a2))))))), (30, .slice Aa0 a0.length ca0), (31, .int .i64 (a0.length : Int)), (32, .int .i64 v32)]) (by kernel_rfl) (by kernel_rfl) (fun w hh => ⟨(hh.box 0 rfl rfl), (hh.box 0 rfl rfl)⟩) ?_
        refine RgH.done (by kernel_rfl) ?_
        refine RunH.adm 1 (es' := [.c [1, 1, 1, 1, 1, 0, 1, 0, 0, 1, 1, 1], .l [1, 1, 1, 1, 1, 0, 1, 0, 0], .b 0, .c [1, 1, 1, 1, 1, 1]]) (by kernel_rfl) ?_
        refine RunH.keep [1, 2, 3, 11, 30, 31, 32] (L' := [(1, .string a1), (2, .int .i64 a2), (3, .int .i64 a3), (11, .int .i64 (w64 (v_n11 + (max2 0 (w64 ((min2 x1.To a3) - (max2 x1.From a2))))))), (30, .slice Aa0 a0.length ca0), (31, .int .i64 (a0.length : Int)), (32, .int .i64 v32)]) (by kernel_rfl) ?_
        refine RunH.pick 1 [] (cs' := F) (by kernel_rfl) rfl ?_
        exact (smithyardref9_Busy.j3_c (backl2 := (smithyardref9_Busy.l2 e1 k)) ihk) a0 _ _ a1 a2 a3 v32 (w64 (v_n11 + (max2 0 (w64 ((min2 x1.To a3) - (max2 x1.From a2)))))) hra0 hca0 heq
      · replace heq := bif_false hb6 heq
        refine RunH.condF (c := sEq x1.Worker a1) (by kernel_rfl) hb6 ?_
        refine RunH.adm 2 (es' := [.c [1, 1, 1, 1, 1, 0, 1, 0, 0, 1, 1, 1], .l [1, 1, 1, 1, 1, 0, 1, 0, 0], .b 0, .c [1, 1, 1, 1, 1, 1]]) (by kernel_rfl) ?_
        refine RunH.keep [1, 2, 3, 11, 30, 31, 32] (L' := [(1, .string a1), (2, .int .i64 a2), (3, .int .i64 a3), (11, .int .i64 v_n11), (30, .slice Aa0 a0.length ca0), (31, .int .i64 (a0.length : Int)), (32, .int .i64 v32)]) (by kernel_rfl) ?_
        refine RunH.pick 1 [] (cs' := F) (by kernel_rfl) rfl ?_
        exact (smithyardref9_Busy.j3_c (backl2 := (smithyardref9_Busy.l2 e1 k)) ihk) a0 _ _ a1 a2 a3 v32 v_n11 hra0 hca0 heq
    · replace heq := bif_false hb5 heq
      refine RunH.condF (c := decide (v32 < (a0.length : Int))) (by kernel_rfl) hb5 ?_
      refine RunH.adm 2 (es' := [.c [1, 1, 1, 1, 1, 1, 0], .c [1, 1, 1, 1, 1, 1, 1]]) (by kernel_rfl) ?_
      refine RunH.keep [11] (L' := [(11, .int .i64 v_n11)]) (by kernel_rfl) ?_
      exact he1 v_n11 heq
theorem smithyardref9_Busy_c {w0 : World} {H : Hp} {F : List Ch} {a0 : List Run} {Aa0 : Option Addr} {na0 : Nat} {ca0 : Nat} {a1 : ByteArray} {a2 : Int} {a3 : Int} {r : Int × Int} (hra0 : Rw kRun H F Aa0 a0) (hca0 : na0 ≤ ca0) (hna0 : na0 = a0.length) (heq : smithyardref9_Busy.f a0 a1 a2 a3 = some r) : CallsH Tryd.prog 17 #[.slice Aa0 na0 ca0, .string a1, .int .i64 a2, .int .i64 a3] H w0 (F) (S17 F H r) := by
  refine calls_of_runH (F := C17) Tryd.func17 (by kernel_rfl) Tryd.ntmps17 (args := [.slice Aa0 na0 ca0, .string a1, .int .i64 a2, .int .i64 a3]) (by kernel_rfl) ?_
  subst hna0
  unfold smithyardref9_Busy.f at heq
  refine RunH.adm 1 (es' := [.c [0], .c [1]]) (by kernel_rfl) ?_
  refine RunH.reg (by kernel_rfl) ?_
  refine RgH.runk 2 [0, 1, 2, 3] (vs := []) (evs := []) (L' := [(0, .slice Aa0 a0.length ca0), (1, .string a1), (2, .int .i64 a2), (3, .int .i64 a3)]) (by kernel_rfl) (by kernel_rfl) (fun _ _ => trivial) ?_
  refine RgH.done (by kernel_rfl) ?_
  refine RunH.adm 2 (es' := [.c [1, 0, 0], .c [1, 0, 1], .c [1, 1]]) (by kernel_rfl) ?_
  refine RunH.reg (by kernel_rfl) ?_
  refine RgH.runk 1 [0, 1, 2, 3, 14] (vs := []) (evs := []) (L' := [(0, .slice Aa0 a0.length ca0), (1, .string a1), (2, .int .i64 a2), (3, .int .i64 a3), (14, .slice Aa0 a0.length ca0)]) (by kernel_rfl) (by kernel_rfl) (fun _ _ => trivial) ?_
  obtain ⟨y1, hy1, heq⟩ := bind_some heq
  refine RgH.does (DoesH.call (d := 15) (g := 19) (args := #[.slice Aa0 a0.length ca0]) (by kernel_rfl) (smithyardref9_CheckRuns_c (a0 := a0) hra0 hca0 rfl hy1)) ?_
  rintro _ _ _ _ ⟨_, rfl, rfl, rfl, rfl⟩
  refine RgH.runk 3 [0, 1, 2, 3, 10] (vs := []) (evs := []) (L' := [(0, .slice Aa0 a0.length ca0), (1, .string a1), (2, .int .i64 a2), (3, .int .i64 a3), (10, .int .i64 y1)]) (by kernel_rfl) (by kernel_rfl) (fun _ _ => trivial) ?_
  refine RgH.done (by kernel_rfl) ?_
  refine RunH.adm 1 (es' := [.c [1, 0, 1, 0], .c [1, 0, 1, 1], .c [1, 1]]) (by kernel_rfl) ?_
  refine RunH.reg (by kernel_rfl) ?_
  refine RgH.runk 2 [0, 1, 2, 3, 10, 17] (vs := []) (evs := []) (L' := [(0, .slice Aa0 a0.length ca0), (1, .string a1), (2, .int .i64 a2), (3, .int .i64 a3), (10, .int .i64 y1), (17, .bool (y1 != 0))]) (by kernel_rfl) (by kernel_rfl) (fun _ _ => trivial) ?_
  refine RgH.done (by kernel_rfl) ?_
  rcases bool_cases (y1 != 0) with hb1 | hb1
  · replace heq := bif_true hb1 heq
    refine RunH.condT (c := y1 != 0) (by kernel_rfl) hb1 ?_
    refine RunH.adm 1 (es' := [.c [1, 0, 1, 1, 0, 0], .c [1, 0, 1, 1, 0, 1], .c [1, 1]]) (by kernel_rfl) ?_
    refine RunH.reg (by kernel_rfl) ?_
    refine RgH.runk 3 [8, 9] (vs := []) (evs := []) (L' := [(8, .int .i64 0), (9, .int .i64 y1)]) (by kernel_rfl) (by kernel_rfl) (fun _ _ => trivial) ?_
    refine RgH.done (by kernel_rfl) ?_
    obtain rfl := Option.some.inj heq
    exact RunH.done (by kernel_rfl) Tryd.func17 (v := .tuple #[.int .i64 0, .int .i64 y1]) (by kernel_rfl) ⟨rfl, rfl, rfl⟩
  · replace heq := bif_false hb1 heq
    refine RunH.condF (c := y1 != 0) (by kernel_rfl) hb1 ?_
    refine RunH.adm 3 (es' := [.c [1, 1, 0, 0], .c [1, 1, 0, 1], .c [1, 1, 1]]) (by kernel_rfl) ?_
    refine RunH.reg (by kernel_rfl) ?_
    refine RgH.runk 1 [0, 1, 2, 3, 19] (vs := []) (evs := []) (L' := [(0, .slice Aa0 a0.length ca0), (1, .string a1), (2, .int .i64 a2), (3, .int .i64 a3), (19, .string a1)]) (by kernel_rfl) (by kernel_rfl) (fun _ _ => trivial) ?_
    obtain ⟨y2, hy2, heq⟩ := bind_some heq
    refine RgH.does (DoesH.call (d := 20) (g := 55) (args := #[.string a1]) (by kernel_rfl) (smithyardref9_isWord_c (a0 := a1)  hy2)) ?_
    rintro _ _ _ _ ⟨_, rfl, rfl, rfl, rfl⟩
    refine RgH.runk 3 [0, 1, 2, 3, 21] (vs := []) (evs := []) (L' := [(0, .slice Aa0 a0.length ca0), (1, .string a1), (2, .int .i64 a2), (3, .int .i64 a3), (21, .bool (!y2))]) (by kernel_rfl) (by kernel_rfl) (fun _ _ => trivial) ?_
    refine RgH.done (by kernel_rfl) ?_
    rcases bool_cases (!y2) with hb2 | hb2
    · replace heq := bif_true hb2 heq
      refine RunH.condT (c := !y2) (by kernel_rfl) hb2 ?_
      refine RunH.adm 1 (es' := [.c [1, 1, 0, 1, 0, 0], .c [1, 1, 0, 1, 0, 1], .c [1, 1, 1]]) (by kernel_rfl) ?_
      refine RunH.reg (by kernel_rfl) ?_
      refine RgH.runk 2 [8, 9] (vs := []) (evs := []) (L' := [(8, .int .i64 0), (9, .int .i64 5)]) (by kernel_rfl) (by kernel_rfl) (fun _ _ => trivial) ?_
      refine RgH.done (by kernel_rfl) ?_
      obtain rfl := Option.some.inj heq
      exact RunH.done (by kernel_rfl) Tryd.func17 (v := .tuple #[.int .i64 0, .int .i64 5]) (by kernel_rfl) ⟨rfl, rfl, rfl⟩
    · replace heq := bif_false hb2 heq
      refine RunH.condF (c := !y2) (by kernel_rfl) hb2 ?_
      refine RunH.adm 3 (es' := [.c [1, 1, 1, 0, 0], .c [1, 1, 1, 0, 1], .c [1, 1, 1, 1]]) (by kernel_rfl) ?_
      obtain ⟨t1, ht1, heq⟩ := bind_some heq
      have K1 : RunH C17 (S17 F H r) H w0 [.c [1, 1, 1, 0, 1], .c [1, 1, 1, 1]] [(0, .slice Aa0 a0.length ca0), (1, .string a1), (2, .int .i64 a2), (3, .int .i64 a3), (29, .bool t1)] H (F) := by
        rcases bool_cases (t1) with hb4 | hb4
        · replace heq := bif_true hb4 heq
          refine RunH.condT (c := t1) (by kernel_rfl) hb4 ?_
          refine RunH.adm 1 (es' := [.c [1, 1, 1, 0, 1, 0, 0], .c [1, 1, 1, 0, 1, 0, 1], .c [1, 1, 1, 1]]) (by kernel_rfl) ?_
          refine RunH.reg (by kernel_rfl) ?_
          refine RgH.runk 2 [8, 9] (vs := []) (evs := []) (L' := [(8, .int .i64 0), (9, .int .i64 1)]) (by kernel_rfl) (by kernel_rfl) (fun _ _ => trivial) ?_
          refine RgH.done (by kernel_rfl) ?_
          obtain rfl := Option.some.inj heq
          exact RunH.done (by kernel_rfl) Tryd.func17 (v := .tuple #[.int .i64 0, .int .i64 1]) (by kernel_rfl) ⟨rfl, rfl, rfl⟩
        · replace heq := bif_false hb4 heq
          refine RunH.condF (c := t1) (by kernel_rfl) hb4 ?_
          refine RunH.adm 2 (es' := [.c [1, 1, 1, 1, 0], .c [1, 1, 1, 1, 1]]) (by kernel_rfl) ?_
          refine RunH.reg (by kernel_rfl) ?_
          refine RgH.runk 1 [0, 1, 2, 3, 11] (vs := []) (evs := []) (L' := [(0, .slice Aa0 a0.length ca0), (1, .string a1), (2, .int .i64 a2), (3, .int .i64 a3), (11, .int .i64 0)]) (by kernel_rfl) (by kernel_rfl) (fun _ _ => trivial) ?_
          refine RgH.done (by kernel_rfl) ?_
          refine RunH.adm 2 (es' := [.c [1, 1, 1, 1, 1, 0, 0], .c [1, 1, 1, 1, 1, 0, 1], .c [1, 1, 1, 1, 1, 1]]) (by kernel_rfl) ?_
          refine RunH.reg (by kernel_rfl) ?_
          refine RgH.runk 3 [1, 2, 3, 11, 30, 31, 32] (vs := []) (evs := []) (L' := [(1, .string a1), (2, .int .i64 a2), (3, .int .i64 a3), (11, .int .i64 0), (30, .slice Aa0 a0.length ca0), (31, .int .i64 (a0.length : Int)), (32, .int .i64 0)]) (by kernel_rfl) (by kernel_rfl) (fun _ _ => trivial) ?_
          refine RgH.done (by kernel_rfl) ?_
          refine RunH.adm 2 (es' := [.c [1, 1, 1, 1, 1, 0, 1, 0, 0], .l [1, 1, 1, 1, 1, 0, 1, 0, 0], .b 0, .c [1, 1, 1, 1, 1, 1]]) (by kernel_rfl) ?_
          refine RunH.keep [1, 2, 3, 11, 30, 31, 32] (L' := [(1, .string a1), (2, .int .i64 a2), (3, .int .i64 a3), (11, .int .i64 0), (30, .slice Aa0 a0.length ca0), (31, .int .i64 (a0.length : Int)), (32, .int .i64 0)]) (by kernel_rfl) ?_
          exact ((smithyardref9_Busy.l2_c (e1 := smithyardref9_Busy.e1) (smithyardref9_Busy.e1_c)) big) a0 _ _ a1 a2 a3 0 0 hra0 hca0 heq
      replace heq := ht1
      refine RunH.reg (by kernel_rfl) ?_
      refine RgH.runk 1 [0, 1, 2, 3, 22] (vs := []) (evs := []) (L' := [(0, .slice Aa0 a0.length ca0), (1, .string a1), (2, .int .i64 a2), (3, .int .i64 a3), (22, .int .i64 a2)]) (by kernel_rfl) (by kernel_rfl) (fun _ _ => trivial) ?_
      obtain ⟨y3, hy3, heq⟩ := bind_some heq
      refine RgH.does (DoesH.call (d := 23) (g := 49) (args := #[.int .i64 a2, .int .i64 0, .int .i64 1000000000]) (by kernel_rfl) (smithyardref9_within_c (a0 := a2) (a1 := 0) (a2 := 1000000000)  hy3)) ?_
      rintro _ _ _ _ ⟨_, rfl, rfl, rfl, rfl⟩
      refine RgH.runk 4 [25, 0, 1, 2, 3] (vs := []) (evs := []) (L' := [(25, .bool (!y3)), (0, .slice Aa0 a0.length ca0), (1, .string a1), (2, .int .i64 a2), (3, .int .i64 a3)]) (by kernel_rfl) (by kernel_rfl) (fun _ _ => trivial) ?_
      rcases bool_cases (!y3) with hb3 | hb3
      · replace heq := bif_true hb3 heq
        refine RgH.val1 (v' := .bool true) (congrArg Value.bool hb3) ?_
        refine RgH.runk 8 [0, 1, 2, 3, 29] (vs := []) (evs := []) (L' := [(0, .slice Aa0 a0.length ca0), (1, .string a1), (2, .int .i64 a2), (3, .int .i64 a3), (29, .bool true)]) (by kernel_rfl) (by kernel_rfl) (fun _ _ => trivial) ?_
        obtain rfl := Option.some.inj heq
        refine RgH.keep [0, 1, 2, 3, 29] (L' := [(0, .slice Aa0 a0.length ca0), (1, .string a1), (2, .int .i64 a2), (3, .int .i64 a3), (29, .bool true)]) (by kernel_rfl) ?_
        refine RgH.done (by kernel_rfl) ?_
        exact K1
      · replace heq := bif_false hb3 heq
        refine RgH.val1 (v' := .bool false) (congrArg Value.bool hb3) ?_
        refine RgH.runk 5 [0, 1, 2, 3, 25, 26] (vs := []) (evs := []) (L' := [(0, .slice Aa0 a0.length ca0), (1, .string a1), (2, .int .i64 a2), (3, .int .i64 a3), (25, .bool false), (26, .int .i64 a3)]) (by kernel_rfl) (by kernel_rfl) (fun _ _ => trivial) ?_
        obtain ⟨y4, hy4, heq⟩ := bind_some heq
        refine RgH.does (DoesH.call (d := 27) (g := 49) (args := #[.int .i64 a3, .int .i64 0, .int .i64 1000000000]) (by kernel_rfl) (smithyardref9_within_c (a0 := a3) (a1 := 0) (a2 := 1000000000)  hy4)) ?_
        rintro _ _ _ _ ⟨_, rfl, rfl, rfl, rfl⟩
        refine RgH.runk 8 [0, 1, 2, 3, 29] (vs := []) (evs := []) (L' := [(0, .slice Aa0 a0.length ca0), (1, .string a1), (2, .int .i64 a2), (3, .int .i64 a3), (29, .bool (!y4))]) (by kernel_rfl) (by kernel_rfl) (fun _ _ => trivial) ?_
        obtain rfl := Option.some.inj heq
        refine RgH.keep [0, 1, 2, 3, 29] (L' := [(0, .slice Aa0 a0.length ca0), (1, .string a1), (2, .int .i64 a2), (3, .int .i64 a3), (29, .bool (!y4))]) (by kernel_rfl) ?_
        refine RgH.done (by kernel_rfl) ?_
        exact K1
noncomputable def C20 : Ctx := { P := Tryd.prog, f := 20, N := 31, c := bodyOf Tryd.f20 }
def S20 (F : List Ch) (H0 : Hp) (r : Int × Int) (v : Value) (H : Hp) (cs : List Ch) : Prop := H0 = H ∧ v = .tuple #[.int .i64 r.1, .int .i64 r.2] ∧ F = cs
theorem workers_Wasted.e1_c {w0 : World} {H : Hp} {F : List Ch} {r : Int × Int} : ∀ (v_sum5 : Int) , workers_Wasted.e1 v_sum5 = some r → RunH C20 (S20 F H r) H w0 [.c [1, 1, 1, 1, 0], .c [1, 1, 1, 1, 1]] [(5, .int .i64 v_sum5)] H (F) := by
  intro v_sum5  heq
  unfold workers_Wasted.e1 at heq
  refine RunH.reg (by kernel_rfl) ?_
  refine RgH.runk 3 [2, 3] (vs := []) (evs := []) (L' := [(2, .int .i64 v_sum5), (3, .int .i64 0)]) (by kernel_rfl) (by kernel_rfl) (fun _ _ => trivial) ?_
  refine RgH.done (by kernel_rfl) ?_
  obtain rfl := Option.some.inj heq
  exact RunH.done (by kernel_rfl) Tryd.func20 (v := .tuple #[.int .i64 v_sum5, .int .i64 0]) (by kernel_rfl) ⟨rfl, rfl, rfl⟩
theorem workers_Wasted.j3_c {w0 : World} {H : Hp} {F : List Ch} {r : Int × Int} (backl2 : (List Run) → Int → Int → Option (Int × Int))
    (hbackl2 : ∀ (a0 : List Run) (Aa0 : Option Addr) (ca0 : Nat) (v_sum5 : Int) (v15 : Int) , Rw kRun H F Aa0 a0 → a0.length ≤ ca0 → backl2 a0 v_sum5 v15 = some r → RunH C20 (S20 F H r) H w0 [.c [1, 1, 1, 0, 1, 0, 0], .l [1, 1, 1, 0, 1, 0, 0], .b 0, .c [1, 1, 1, 1]] [(5, .int .i64 v_sum5), (13, .slice Aa0 a0.length ca0), (14, .int .i64 (a0.length : Int)), (15, .int .i64 v15)] H (F)) : ∀ (a0 : List Run) (Aa0 : Option Addr) (ca0 : Nat) (v15 : Int) (v_sum5 : Int) , Rw kRun H F Aa0 a0 → a0.length ≤ ca0 → workers_Wasted.j3 backl2 a0 v15 v_sum5 = some r → RunH C20 (S20 F H r) H w0 [.c [1, 1, 1, 0, 1, 0, 0, 1, 1, 1], .l [1, 1, 1, 0, 1, 0, 0], .b 0, .c [1, 1, 1, 1]] [(5, .int .i64 v_sum5), (13, .slice Aa0 a0.length ca0), (14, .int .i64 (a0.length : Int)), (15, .int .i64 v15)] H (F) := by
  intro a0 Aa0 ca0 v15 v_sum5 hra0 hca0 heq
  unfold workers_Wasted.j3 at heq
  refine RunH.reg (by kernel_rfl) ?_
  refine RgH.runk 2 [5, 13, 14, 15] (vs := []) (evs := []) (L' := [(5, .int .i64 v_sum5), (13, .slice Aa0 a0.length ca0), (14, .int .i64 (a0.length : Int)), (15, .int .i64 (w64 (v15 + 1)))]) (by kernel_rfl) (by kernel_rfl) (fun _ _ => trivial) ?_
  refine RgH.done (by kernel_rfl) ?_
  refine RunH.adm 1 (es' := [.c [1, 1, 1, 0, 1, 0, 0], .l [1, 1, 1, 0, 1, 0, 0], .b 0, .c [1, 1, 1, 1]]) (by kernel_rfl) ?_
  refine RunH.keep [5, 13, 14, 15] (L' := [(5, .int .i64 v_sum5), (13, .slice Aa0 a0.length ca0), (14, .int .i64 (a0.length : Int)), (15, .int .i64 (w64 (v15 + 1)))]) (by kernel_rfl) ?_
  exact hbackl2 a0 _ _ v_sum5 (w64 (v15 + 1)) hra0 hca0 heq
theorem workers_Wasted.l2_c {w0 : World} {H : Hp} {F : List Ch} {r : Int × Int} (e1 : Int → Option (Int × Int))
    (he1 : ∀ (v_sum5 : Int) , e1 v_sum5 = some r → RunH C20 (S20 F H r) H w0 [.c [1, 1, 1, 1, 0], .c [1, 1, 1, 1, 1]] [(5, .int .i64 v_sum5)] H (F)) : ∀ (k : Nat), ∀ (a0 : List Run) (Aa0 : Option Addr) (ca0 : Nat) (v_sum5 : Int) (v15 : Int) , Rw kRun H F Aa0 a0 → a0.length ≤ ca0 → workers_Wasted.l2 e1 k a0 v_sum5 v15 = some r → RunH C20 (S20 F H r) H w0 [.c [1, 1, 1, 0, 1, 0, 0], .l [1, 1, 1, 0, 1, 0, 0], .b 0, .c [1, 1, 1, 1]] [(5, .int .i64 v_sum5), (13, .slice Aa0 a0.length ca0), (14, .int .i64 (a0.length : Int)), (15, .int .i64 v15)] H (F) := by
  intro k
  induction k with
  | zero => intro a0 Aa0 ca0 v_sum5 v15 hra0 hca0 heq; exact nomatch (show (none : Option (Int × Int)) = some r from heq)
  | succ k ihk =>
    intro a0 Aa0 ca0 v_sum5 v15 hra0 hca0 heq
    rw [workers_Wasted.l2] at heq
    refine RunH.adm 1 (es' := [.c [1, 1, 1, 0, 1, 0, 0, 0], .c [1, 1, 1, 0, 1, 0, 0, 1], .l [1, 1, 1, 0, 1, 0, 0], .b 0, .c [1, 1, 1, 1]]) (by kernel_rfl) ?_
    refine RunH.reg (by kernel_rfl) ?_
    refine RgH.runk 1 [5, 13, 14, 15, 16] (vs := []) (evs := []) (L' := [(5, .int .i64 v_sum5), (13, .slice Aa0 a0.length ca0), (14, .int .i64 (a0.length : Int)), (15, .int .i64 v15), (16, .bool (decide (v15 < (a0.length : Int))))]) (by kernel_rfl) (by kernel_rfl) (fun _ _ => trivial) ?_
    refine RgH.done (by kernel_rfl) ?_
    refine RunH.adm 1 (es' := [.c [1, 1, 1, 0, 1, 0, 0, 1, 0], .c [1, 1, 1, 0, 1, 0, 0, 1, 1], .l [1, 1, 1, 0, 1, 0, 0], .b 0, .c [1, 1, 1, 1]]) (by kernel_rfl) ?_
    rcases bool_cases (decide (v15 < (a0.length : Int))) with hb2 | hb2
    · replace heq := bif_true hb2 heq
      refine RunH.condT (c := decide (v15 < (a0.length : Int))) (by kernel_rfl) hb2 ?_
      refine RunH.adm 4 (es' := [.c [1, 1, 1, 0, 1, 0, 0, 1, 1, 0, 0, 0], .c [1, 1, 1, 0, 1, 0, 0, 1, 1, 0, 0, 1], .b 1, .c [1, 1, 1, 0, 1, 0, 0, 1, 1, 1], .l [1, 1, 1, 0, 1, 0, 0], .b 0, .c [1, 1, 1, 1]]) (by kernel_rfl) ?_
      refine RunH.reg (by kernel_rfl) ?_
      obtain ⟨x1, hx1, heq⟩ := bind_some heq
      obtain ⟨ha1, cs1, hK1, hcc1⟩ := hra0.get hx1
      obtain ⟨rfl⟩ := kRun_open hK1
      refine RgH.runk 2 [5, 13, 14, 15, 18] (vs := [.string x1.Id, .string x1.Worker, .int .i64 x1.From, .int .i64 x1.To, .int .i64 x1.End]) (evs := [.need (Aa0 = some (adr Aa0) ∧ (0 : Int) ≤ v15 ∧ v15 < ((a0.length : Nat) : Int)), .load (((adr Aa0).add (v15.toNat * 5)).add 0) (.string x1.Id), .load (((adr Aa0).add (v15.toNat * 5)).add 1) (.string x1.Worker), .load (((adr Aa0).add (v15.toNat * 5)).add 2) (.int .i64 x1.From), .load (((adr Aa0).add (v15.toNat * 5)).add 3) (.int .i64 x1.To), .load (((adr Aa0).add (v15.toNat * 5)).add 4) (.int .i64 x1.End)]) (L' := [(5, .int .i64 v_sum5), (13, .slice Aa0 a0.length ca0), (14, .int .i64 (a0.length : Int)), (15, .int .i64 v15), (18, .agg #[.string x1.Id, .string x1.Worker, .int .i64 x1.From, .int .i64 x1.To, .int .i64 x1.End])]) (by kernel_rfl) (by kernel_rfl) (fun w hh => ⟨⟨ha1, (at?_some hx1).1, (at?_some hx1).2.1⟩, (hcc1 _ _ (hh.drop 0) 0 _ rfl), (hcc1 _ _ (hh.drop 0) 1 _ rfl), (hcc1 _ _ (hh.drop 0) 2 _ rfl), (hcc1 _ _ (hh.drop 0) 3 _ rfl), (hcc1 _ _ (hh.drop 0) 4 _ rfl)⟩) ?_
      refine RgH.does (DoesH.new (d := 7) (v := fun g => .pointer (some ⟨g, 0, none⟩)) (o := fun g => .cells #[.string ByteArray.empty, .string ByteArray.empty, .int .i64 0, .int .i64 0, .int .i64 0] 39 (0, 0)) (fun g => by kernel_rfl)) ?_
      rintro _ _ _ _ ⟨g1, rfl, rfl, rfl⟩
      refine RgH.does (DoesH.store (k := 0) (g := g1) (off := 0) (v := .agg #[.string x1.Id, .string x1.Worker, .int .i64 x1.From, .int .i64 x1.To, .int .i64 x1.End]) (cells' := #[.string x1.Id, .string x1.Worker, .int .i64 x1.From, .int .i64 x1.To, .int .i64 x1.End]) (by kernel_rfl) rfl (by kernel_rfl) (by kernel_rfl)) ?_
      rintro _ _ _ _ ⟨rfl, rfl, rfl⟩
      refine RgH.done (by kernel_rfl) ?_
      refine RunH.adm 1 (es' := [.c [1, 1, 1, 0, 1, 0, 0, 1, 1, 0, 0, 1, 0], .c [1, 1, 1, 0, 1, 0, 0, 1, 1, 0, 0, 1, 1], .b 1, .c [1, 1, 1, 0, 1, 0, 0, 1, 1, 1], .l [1, 1, 1, 0, 1, 0, 0], .b 0, .c [1, 1, 1, 1]]) (by kernel_rfl) ?_
      refine RunH.reg (by kernel_rfl) ?_
      refine RgH.runk 3 [5, 7, 13, 14, 15, 21] (vs := [.int .i64 x1.End]) (evs := [.load ⟨g1, 4, none⟩ (.int .i64 x1.End)]) (L' := [(5, .int .i64 v_sum5), (7, .pointer (some ⟨g1, 0, none⟩)), (13, .slice Aa0 a0.length ca0), (14, .int .i64 (a0.length : Int)), (15, .int .i64 v15), (21, .bool (x1.End != 1))]) (by kernel_rfl) (by kernel_rfl) (fun w hh => (hh.box 0 rfl rfl)) ?_
      refine RgH.done (by kernel_rfl) ?_
      rcases bool_cases (x1.End != 1) with hb3 | hb3
      · replace heq := bif_true hb3 heq
        refine RunH.condT (c := x1.End != 1) (by kernel_rfl) hb3 ?_
        refine RunH.reg (by kernel_rfl) ?_
        refine RgH.runk 8 [5, 13, 14, 15] (vs := [.int .i64 x1.To, .int .i64 x1.From]) (evs := [.load ⟨g1, 3, none⟩ (.int .i64 x1.To), .load ⟨g1, 2, none⟩ (.int .i64 x1.From)]) (L' := [(5, .int .i64 (w64 (v_sum5 + (w64 (x1.To - x1.From))))), (13, .slice Aa0 a0.length ca0), (14, .int .i64 (a0.length : Int)), (15, .int .i64 v15)]) (by kernel_rfl) (by kernel_rfl) (fun w hh => ⟨(hh.box 0 rfl rfl), (hh.box 0 rfl rfl)⟩) ?_
        refine RgH.done (by kernel_rfl) ?_
        refine RunH.adm 1 (es' := [.c [1, 1, 1, 0, 1, 0, 0, 1, 1, 1], .l [1, 1, 1, 0, 1, 0, 0], .b 0, .c [1, 1, 1, 1]]) (by kernel_rfl) ?_
        refine RunH.keep [5, 13, 14, 15] (L' := [(5, .int .i64 (w64 (v_sum5 + (w64 (x1.To - x1.From))))), (13, .slice Aa0 a0.length ca0), (14, .int .i64 (a0.length : Int)), (15, .int .i64 v15)]) (by kernel_rfl) ?_
        refine RunH.pick 1 [] (cs' := F) (by kernel_rfl) rfl ?_
        exact (workers_Wasted.j3_c (backl2 := (workers_Wasted.l2 e1 k)) ihk) a0 _ _ v15 (w64 (v_sum5 + (w64 (x1.To - x1.From)))) hra0 hca0 heq
      · replace heq := bif_false hb3 heq
        refine RunH.condF (c := x1.End != 1) (by kernel_rfl) hb3 ?_
        refine RunH.adm 2 (es' := [.c [1, 1, 1, 0, 1, 0, 0, 1, 1, 1], .l [1, 1, 1, 0, 1, 0, 0], .b 0, .c [1, 1, 1, 1]]) (by kernel_rfl) ?_
        refine RunH.keep [5, 13, 14, 15] (L' := [(5, .int .i64 v_sum5), (13, .slice Aa0 a0.length ca0), (14, .int .i64 (a0.length : Int)), (15, .int .i64 v15)]) (by kernel_rfl) ?_
        refine RunH.pick 1 [] (cs' := F) (by kernel_rfl) rfl ?_
        exact (workers_Wasted.j3_c (backl2 := (workers_Wasted.l2 e1 k)) ihk) a0 _ _ v15 v_sum5 hra0 hca0 heq
    · replace heq := bif_false hb2 heq
      refine RunH.condF (c := decide (v15 < (a0.length : Int))) (by kernel_rfl) hb2 ?_
      refine RunH.adm 2 (es' := [.c [1, 1, 1, 1, 0], .c [1, 1, 1, 1, 1]]) (by kernel_rfl) ?_
      refine RunH.keep [5] (L' := [(5, .int .i64 v_sum5)]) (by kernel_rfl) ?_
      exact he1 v_sum5 heq
theorem workers_Wasted_c {w0 : World} {H : Hp} {F : List Ch} {a0 : List Run} {Aa0 : Option Addr} {na0 : Nat} {ca0 : Nat} {r : Int × Int} (hra0 : Rw kRun H F Aa0 a0) (hca0 : na0 ≤ ca0) (hna0 : na0 = a0.length) (heq : workers_Wasted.f a0 = some r) : CallsH Tryd.prog 20 #[.slice Aa0 na0 ca0] H w0 (F) (S20 F H r) := by
  refine calls_of_runH (F := C20) Tryd.func20 (by kernel_rfl) Tryd.ntmps20 (args := [.slice Aa0 na0 ca0]) (by kernel_rfl) ?_
  subst hna0
  unfold workers_Wasted.f at heq
  refine RunH.adm 1 (es' := [.c [0], .c [1]]) (by kernel_rfl) ?_
  refine RunH.reg (by kernel_rfl) ?_
  refine RgH.runk 2 [0] (vs := []) (evs := []) (L' := [(0, .slice Aa0 a0.length ca0)]) (by kernel_rfl) (by kernel_rfl) (fun _ _ => trivial) ?_
  refine RgH.done (by kernel_rfl) ?_
  refine RunH.adm 2 (es' := [.c [1, 0, 0], .c [1, 0, 1], .c [1, 1]]) (by kernel_rfl) ?_
  refine RunH.reg (by kernel_rfl) ?_
  refine RgH.runk 1 [0, 8] (vs := []) (evs := []) (L' := [(0, .slice Aa0 a0.length ca0), (8, .slice Aa0 a0.length ca0)]) (by kernel_rfl) (by kernel_rfl) (fun _ _ => trivial) ?_
  obtain ⟨y1, hy1, heq⟩ := bind_some heq
  refine RgH.does (DoesH.call (d := 9) (g := 18) (args := #[.slice Aa0 a0.length ca0]) (by kernel_rfl) (workers_CheckRuns_c (a0 := a0) hra0 hca0 rfl hy1)) ?_
  rintro _ _ _ _ ⟨_, rfl, rfl, rfl, rfl⟩
  refine RgH.runk 3 [0, 4] (vs := []) (evs := []) (L' := [(0, .slice Aa0 a0.length ca0), (4, .int .i64 y1)]) (by kernel_rfl) (by kernel_rfl) (fun _ _ => trivial) ?_
  refine RgH.done (by kernel_rfl) ?_
  refine RunH.adm 1 (es' := [.c [1, 0, 1, 0], .c [1, 0, 1, 1], .c [1, 1]]) (by kernel_rfl) ?_
  refine RunH.reg (by kernel_rfl) ?_
  refine RgH.runk 2 [0, 4, 11] (vs := []) (evs := []) (L' := [(0, .slice Aa0 a0.length ca0), (4, .int .i64 y1), (11, .bool (y1 != 0))]) (by kernel_rfl) (by kernel_rfl) (fun _ _ => trivial) ?_
  refine RgH.done (by kernel_rfl) ?_
  rcases bool_cases (y1 != 0) with hb1 | hb1
  · replace heq := bif_true hb1 heq
    refine RunH.condT (c := y1 != 0) (by kernel_rfl) hb1 ?_
    refine RunH.adm 1 (es' := [.c [1, 0, 1, 1, 0, 0], .c [1, 0, 1, 1, 0, 1], .c [1, 1]]) (by kernel_rfl) ?_
    refine RunH.reg (by kernel_rfl) ?_
    refine RgH.runk 3 [2, 3] (vs := []) (evs := []) (L' := [(2, .int .i64 0), (3, .int .i64 y1)]) (by kernel_rfl) (by kernel_rfl) (fun _ _ => trivial) ?_
    refine RgH.done (by kernel_rfl) ?_
    obtain rfl := Option.some.inj heq
    exact RunH.done (by kernel_rfl) Tryd.func20 (v := .tuple #[.int .i64 0, .int .i64 y1]) (by kernel_rfl) ⟨rfl, rfl, rfl⟩
  · replace heq := bif_false hb1 heq
    refine RunH.condF (c := y1 != 0) (by kernel_rfl) hb1 ?_
    refine RunH.adm 2 (es' := [.c [1, 1, 0], .c [1, 1, 1]]) (by kernel_rfl) ?_
    refine RunH.reg (by kernel_rfl) ?_
    refine RgH.runk 1 [0, 5] (vs := []) (evs := []) (L' := [(0, .slice Aa0 a0.length ca0), (5, .int .i64 0)]) (by kernel_rfl) (by kernel_rfl) (fun _ _ => trivial) ?_
    refine RgH.done (by kernel_rfl) ?_
    refine RunH.adm 2 (es' := [.c [1, 1, 1, 0, 0], .c [1, 1, 1, 0, 1], .c [1, 1, 1, 1]]) (by kernel_rfl) ?_
    refine RunH.reg (by kernel_rfl) ?_
    refine RgH.runk 3 [5, 13, 14, 15] (vs := []) (evs := []) (L' := [(5, .int .i64 0), (13, .slice Aa0 a0.length ca0), (14, .int .i64 (a0.length : Int)), (15, .int .i64 0)]) (by kernel_rfl) (by kernel_rfl) (fun _ _ => trivial) ?_
    refine RgH.done (by kernel_rfl) ?_
    refine RunH.adm 2 (es' := [.c [1, 1, 1, 0, 1, 0, 0], .l [1, 1, 1, 0, 1, 0, 0], .b 0, .c [1, 1, 1, 1]]) (by kernel_rfl) ?_
    refine RunH.keep [5, 13, 14, 15] (L' := [(5, .int .i64 0), (13, .slice Aa0 a0.length ca0), (14, .int .i64 (a0.length : Int)), (15, .int .i64 0)]) (by kernel_rfl) ?_
    exact ((workers_Wasted.l2_c (e1 := workers_Wasted.e1) (workers_Wasted.e1_c)) big) a0 _ _ 0 0 hra0 hca0 heq
noncomputable def C21 : Ctx := { P := Tryd.prog, f := 21, N := 31, c := bodyOf Tryd.f21 }
def S21 (F : List Ch) (H0 : Hp) (r : Int × Int) (v : Value) (H : Hp) (cs : List Ch) : Prop := H0 = H ∧ v = .tuple #[.int .i64 r.1, .int .i64 r.2] ∧ F = cs
theorem smithyardref9_Wasted.e1_c {w0 : World} {H : Hp} {F : List Ch} {r : Int × Int} : ∀ (v_n5 : Int) , smithyardref9_Wasted.e1 v_n5 = some r → RunH C21 (S21 F H r) H w0 [.c [1, 1, 1, 1, 0], .c [1, 1, 1, 1, 1]] [(5, .int .i64 v_n5)] H (F) := by
  intro v_n5  heq
  unfold smithyardref9_Wasted.e1 at heq
  refine RunH.reg (by kernel_rfl) ?_
  refine RgH.runk 3 [2, 3] (vs := []) (evs := []) (L' := [(2, .int .i64 v_n5), (3, .int .i64 0)]) (by kernel_rfl) (by kernel_rfl) (fun _ _ => trivial) ?_
  refine RgH.done (by kernel_rfl) ?_
  obtain rfl := Option.some.inj heq
  exact RunH.done (by kernel_rfl) Tryd.func21 (v := .tuple #[.int .i64 v_n5, .int .i64 0]) (by kernel_rfl) ⟨rfl, rfl, rfl⟩
theorem smithyardref9_Wasted.j3_c {w0 : World} {H : Hp} {F : List Ch} {r : Int × Int} (backl2 : (List Run) → Int → Int → Option (Int × Int))
    (hbackl2 : ∀ (a0 : List Run) (Aa0 : Option Addr) (ca0 : Nat) (v_n5 : Int) (v15 : Int) , Rw kRun H F Aa0 a0 → a0.length ≤ ca0 → backl2 a0 v_n5 v15 = some r → RunH C21 (S21 F H r) H w0 [.c [1, 1, 1, 0, 1, 0, 0], .l [1, 1, 1, 0, 1, 0, 0], .b 0, .c [1, 1, 1, 1]] [(5, .int .i64 v_n5), (13, .slice Aa0 a0.length ca0), (14, .int .i64 (a0.length : Int)), (15, .int .i64 v15)] H (F)) : ∀ (a0 : List Run) (Aa0 : Option Addr) (ca0 : Nat) (v15 : Int) (v_n5 : Int) , Rw kRun H F Aa0 a0 → a0.length ≤ ca0 → smithyardref9_Wasted.j3 backl2 a0 v15 v_n5 = some r → RunH C21 (S21 F H r) H w0 [.c [1, 1, 1, 0, 1, 0, 0, 1, 1, 1], .l [1, 1, 1, 0, 1, 0, 0], .b 0, .c [1, 1, 1, 1]] [(5, .int .i64 v_n5), (13, .slice Aa0 a0.length ca0), (14, .int .i64 (a0.length : Int)), (15, .int .i64 v15)] H (F) := by
  intro a0 Aa0 ca0 v15 v_n5 hra0 hca0 heq
  unfold smithyardref9_Wasted.j3 at heq
  refine RunH.reg (by kernel_rfl) ?_
  refine RgH.runk 2 [5, 13, 14, 15] (vs := []) (evs := []) (L' := [(5, .int .i64 v_n5), (13, .slice Aa0 a0.length ca0), (14, .int .i64 (a0.length : Int)), (15, .int .i64 (w64 (v15 + 1)))]) (by kernel_rfl) (by kernel_rfl) (fun _ _ => trivial) ?_
  refine RgH.done (by kernel_rfl) ?_
  refine RunH.adm 1 (es' := [.c [1, 1, 1, 0, 1, 0, 0], .l [1, 1, 1, 0, 1, 0, 0], .b 0, .c [1, 1, 1, 1]]) (by kernel_rfl) ?_
  refine RunH.keep [5, 13, 14, 15] (L' := [(5, .int .i64 v_n5), (13, .slice Aa0 a0.length ca0), (14, .int .i64 (a0.length : Int)), (15, .int .i64 (w64 (v15 + 1)))]) (by kernel_rfl) ?_
  exact hbackl2 a0 _ _ v_n5 (w64 (v15 + 1)) hra0 hca0 heq
theorem smithyardref9_Wasted.l2_c {w0 : World} {H : Hp} {F : List Ch} {r : Int × Int} (e1 : Int → Option (Int × Int))
    (he1 : ∀ (v_n5 : Int) , e1 v_n5 = some r → RunH C21 (S21 F H r) H w0 [.c [1, 1, 1, 1, 0], .c [1, 1, 1, 1, 1]] [(5, .int .i64 v_n5)] H (F)) : ∀ (k : Nat), ∀ (a0 : List Run) (Aa0 : Option Addr) (ca0 : Nat) (v_n5 : Int) (v15 : Int) , Rw kRun H F Aa0 a0 → a0.length ≤ ca0 → smithyardref9_Wasted.l2 e1 k a0 v_n5 v15 = some r → RunH C21 (S21 F H r) H w0 [.c [1, 1, 1, 0, 1, 0, 0], .l [1, 1, 1, 0, 1, 0, 0], .b 0, .c [1, 1, 1, 1]] [(5, .int .i64 v_n5), (13, .slice Aa0 a0.length ca0), (14, .int .i64 (a0.length : Int)), (15, .int .i64 v15)] H (F) := by
  intro k
  induction k with
  | zero => intro a0 Aa0 ca0 v_n5 v15 hra0 hca0 heq; exact nomatch (show (none : Option (Int × Int)) = some r from heq)
  | succ k ihk =>
    intro a0 Aa0 ca0 v_n5 v15 hra0 hca0 heq
    rw [smithyardref9_Wasted.l2] at heq
    refine RunH.adm 1 (es' := [.c [1, 1, 1, 0, 1, 0, 0, 0], .c [1, 1, 1, 0, 1, 0, 0, 1], .l [1, 1, 1, 0, 1, 0, 0], .b 0, .c [1, 1, 1, 1]]) (by kernel_rfl) ?_
    refine RunH.reg (by kernel_rfl) ?_
    refine RgH.runk 1 [5, 13, 14, 15, 16] (vs := []) (evs := []) (L' := [(5, .int .i64 v_n5), (13, .slice Aa0 a0.length ca0), (14, .int .i64 (a0.length : Int)), (15, .int .i64 v15), (16, .bool (decide (v15 < (a0.length : Int))))]) (by kernel_rfl) (by kernel_rfl) (fun _ _ => trivial) ?_
    refine RgH.done (by kernel_rfl) ?_
    refine RunH.adm 1 (es' := [.c [1, 1, 1, 0, 1, 0, 0, 1, 0], .c [1, 1, 1, 0, 1, 0, 0, 1, 1], .l [1, 1, 1, 0, 1, 0, 0], .b 0, .c [1, 1, 1, 1]]) (by kernel_rfl) ?_
    rcases bool_cases (decide (v15 < (a0.length : Int))) with hb2 | hb2
    · replace heq := bif_true hb2 heq
      refine RunH.condT (c := decide (v15 < (a0.length : Int))) (by kernel_rfl) hb2 ?_
      refine RunH.adm 4 (es' := [.c [1, 1, 1, 0, 1, 0, 0, 1, 1, 0, 0, 0], .c [1, 1, 1, 0, 1, 0, 0, 1, 1, 0, 0, 1], .b 1, .c [1, 1, 1, 0, 1, 0, 0, 1, 1, 1], .l [1, 1, 1, 0, 1, 0, 0], .b 0, .c [1, 1, 1, 1]]) (by kernel_rfl) ?_
      refine RunH.reg (by kernel_rfl) ?_
      obtain ⟨x1, hx1, heq⟩ := bind_some heq
      obtain ⟨ha1, cs1, hK1, hcc1⟩ := hra0.get hx1
      obtain ⟨rfl⟩ := kRun_open hK1
      refine RgH.runk 2 [5, 13, 14, 15, 18] (vs := [.string x1.Id, .string x1.Worker, .int .i64 x1.From, .int .i64 x1.To, .int .i64 x1.End]) (evs := [.need (Aa0 = some (adr Aa0) ∧ (0 : Int) ≤ v15 ∧ v15 < ((a0.length : Nat) : Int)), .load (((adr Aa0).add (v15.toNat * 5)).add 0) (.string x1.Id), .load (((adr Aa0).add (v15.toNat * 5)).add 1) (.string x1.Worker), .load (((adr Aa0).add (v15.toNat * 5)).add 2) (.int .i64 x1.From), .load (((adr Aa0).add (v15.toNat * 5)).add 3) (.int .i64 x1.To), .load (((adr Aa0).add (v15.toNat * 5)).add 4) (.int .i64 x1.End)]) (L' := [(5, .int .i64 v_n5), (13, .slice Aa0 a0.length ca0), (14, .int .i64 (a0.length : Int)), (15, .int .i64 v15), (18, .agg #[.string x1.Id, .string x1.Worker, .int .i64 x1.From, .int .i64 x1.To, .int .i64 x1.End])]) (by kernel_rfl) (by kernel_rfl) (fun w hh => ⟨⟨ha1, (at?_some hx1).1, (at?_some hx1).2.1⟩, (hcc1 _ _ (hh.drop 0) 0 _ rfl), (hcc1 _ _ (hh.drop 0) 1 _ rfl), (hcc1 _ _ (hh.drop 0) 2 _ rfl), (hcc1 _ _ (hh.drop 0) 3 _ rfl), (hcc1 _ _ (hh.drop 0) 4 _ rfl)⟩) ?_
      refine RgH.does (DoesH.new (d := 7) (v := fun g => .pointer (some ⟨g, 0, none⟩)) (o := fun g => .cells #[.string ByteArray.empty, .string ByteArray.empty, .int .i64 0, .int .i64 0, .int .i64 0] 39 (0, 0)) (fun g => by kernel_rfl)) ?_
      rintro _ _ _ _ ⟨g1, rfl, rfl, rfl⟩
      refine RgH.does (DoesH.store (k := 0) (g := g1) (off := 0) (v := .agg #[.string x1.Id, .string x1.Worker, .int .i64 x1.From, .int .i64 x1.To, .int .i64 x1.End]) (cells' := #[.string x1.Id, .string x1.Worker, .int .i64 x1.From, .int .i64 x1.To, .int .i64 x1.End]) (by kernel_rfl) rfl (by kernel_rfl) (by kernel_rfl)) ?_
      rintro _ _ _ _ ⟨rfl, rfl, rfl⟩
      refine RgH.done (by kernel_rfl) ?_
      refine RunH.adm 1 (es' := [.c [1, 1, 1, 0, 1, 0, 0, 1, 1, 0, 0, 1, 0], .c [1, 1, 1, 0, 1, 0, 0, 1, 1, 0, 0, 1, 1], .b 1, .c [1, 1, 1, 0, 1, 0, 0, 1, 1, 1], .l [1, 1, 1, 0, 1, 0, 0], .b 0, .c [1, 1, 1, 1]]) (by kernel_rfl) ?_
      refine RunH.reg (by kernel_rfl) ?_
      refine RgH.runk 3 [5, 7, 13, 14, 15, 21] (vs := [.int .i64 x1.End]) (evs := [.load ⟨g1, 4, none⟩ (.int .i64 x1.End)]) (L' := [(5, .int .i64 v_n5), (7, .pointer (some ⟨g1, 0, none⟩)), (13, .slice Aa0 a0.length ca0), (14, .int .i64 (a0.length : Int)), (15, .int .i64 v15), (21, .bool (x1.End != 1))]) (by kernel_rfl) (by kernel_rfl) (fun w hh => (hh.box 0 rfl rfl)) ?_
      refine RgH.done (by kernel_rfl) ?_
      rcases bool_cases (x1.End != 1) with hb3 | hb3
      · replace heq := bif_true hb3 heq
        refine RunH.condT (c := x1.End != 1) (by kernel_rfl) hb3 ?_
        refine RunH.reg (by kernel_rfl) ?_
        refine RgH.runk 8 [5, 13, 14, 15] (vs := [.int .i64 x1.To, .int .i64 x1.From]) (evs := [.load ⟨g1, 3, none⟩ (.int .i64 x1.To), .load ⟨g1, 2, none⟩ (.int .i64 x1.From)]) (L' := [(5, .int .i64 (w64 (v_n5 + (w64 (x1.To - x1.From))))), (13, .slice Aa0 a0.length ca0), (14, .int .i64 (a0.length : Int)), (15, .int .i64 v15)]) (by kernel_rfl) (by kernel_rfl) (fun w hh => ⟨(hh.box 0 rfl rfl), (hh.box 0 rfl rfl)⟩) ?_
        refine RgH.done (by kernel_rfl) ?_
        refine RunH.adm 1 (es' := [.c [1, 1, 1, 0, 1, 0, 0, 1, 1, 1], .l [1, 1, 1, 0, 1, 0, 0], .b 0, .c [1, 1, 1, 1]]) (by kernel_rfl) ?_
        refine RunH.keep [5, 13, 14, 15] (L' := [(5, .int .i64 (w64 (v_n5 + (w64 (x1.To - x1.From))))), (13, .slice Aa0 a0.length ca0), (14, .int .i64 (a0.length : Int)), (15, .int .i64 v15)]) (by kernel_rfl) ?_
        refine RunH.pick 1 [] (cs' := F) (by kernel_rfl) rfl ?_
        exact (smithyardref9_Wasted.j3_c (backl2 := (smithyardref9_Wasted.l2 e1 k)) ihk) a0 _ _ v15 (w64 (v_n5 + (w64 (x1.To - x1.From)))) hra0 hca0 heq
      · replace heq := bif_false hb3 heq
        refine RunH.condF (c := x1.End != 1) (by kernel_rfl) hb3 ?_
        refine RunH.adm 2 (es' := [.c [1, 1, 1, 0, 1, 0, 0, 1, 1, 1], .l [1, 1, 1, 0, 1, 0, 0], .b 0, .c [1, 1, 1, 1]]) (by kernel_rfl) ?_
        refine RunH.keep [5, 13, 14, 15] (L' := [(5, .int .i64 v_n5), (13, .slice Aa0 a0.length ca0), (14, .int .i64 (a0.length : Int)), (15, .int .i64 v15)]) (by kernel_rfl) ?_
        refine RunH.pick 1 [] (cs' := F) (by kernel_rfl) rfl ?_
        exact (smithyardref9_Wasted.j3_c (backl2 := (smithyardref9_Wasted.l2 e1 k)) ihk) a0 _ _ v15 v_n5 hra0 hca0 heq
    · replace heq := bif_false hb2 heq
      refine RunH.condF (c := decide (v15 < (a0.length : Int))) (by kernel_rfl) hb2 ?_
      refine RunH.adm 2 (es' := [.c [1, 1, 1, 1, 0], .c [1, 1, 1, 1, 1]]) (by kernel_rfl) ?_
      refine RunH.keep [5] (L' := [(5, .int .i64 v_n5)]) (by kernel_rfl) ?_
      exact he1 v_n5 heq
theorem smithyardref9_Wasted_c {w0 : World} {H : Hp} {F : List Ch} {a0 : List Run} {Aa0 : Option Addr} {na0 : Nat} {ca0 : Nat} {r : Int × Int} (hra0 : Rw kRun H F Aa0 a0) (hca0 : na0 ≤ ca0) (hna0 : na0 = a0.length) (heq : smithyardref9_Wasted.f a0 = some r) : CallsH Tryd.prog 21 #[.slice Aa0 na0 ca0] H w0 (F) (S21 F H r) := by
  refine calls_of_runH (F := C21) Tryd.func21 (by kernel_rfl) Tryd.ntmps21 (args := [.slice Aa0 na0 ca0]) (by kernel_rfl) ?_
  subst hna0
  unfold smithyardref9_Wasted.f at heq
  refine RunH.adm 1 (es' := [.c [0], .c [1]]) (by kernel_rfl) ?_
  refine RunH.reg (by kernel_rfl) ?_
  refine RgH.runk 2 [0] (vs := []) (evs := []) (L' := [(0, .slice Aa0 a0.length ca0)]) (by kernel_rfl) (by kernel_rfl) (fun _ _ => trivial) ?_
  refine RgH.done (by kernel_rfl) ?_
  refine RunH.adm 2 (es' := [.c [1, 0, 0], .c [1, 0, 1], .c [1, 1]]) (by kernel_rfl) ?_
  refine RunH.reg (by kernel_rfl) ?_
  refine RgH.runk 1 [0, 8] (vs := []) (evs := []) (L' := [(0, .slice Aa0 a0.length ca0), (8, .slice Aa0 a0.length ca0)]) (by kernel_rfl) (by kernel_rfl) (fun _ _ => trivial) ?_
  obtain ⟨y1, hy1, heq⟩ := bind_some heq
  refine RgH.does (DoesH.call (d := 9) (g := 19) (args := #[.slice Aa0 a0.length ca0]) (by kernel_rfl) (smithyardref9_CheckRuns_c (a0 := a0) hra0 hca0 rfl hy1)) ?_
  rintro _ _ _ _ ⟨_, rfl, rfl, rfl, rfl⟩
  refine RgH.runk 3 [0, 4] (vs := []) (evs := []) (L' := [(0, .slice Aa0 a0.length ca0), (4, .int .i64 y1)]) (by kernel_rfl) (by kernel_rfl) (fun _ _ => trivial) ?_
  refine RgH.done (by kernel_rfl) ?_
  refine RunH.adm 1 (es' := [.c [1, 0, 1, 0], .c [1, 0, 1, 1], .c [1, 1]]) (by kernel_rfl) ?_
  refine RunH.reg (by kernel_rfl) ?_
  refine RgH.runk 2 [0, 4, 11] (vs := []) (evs := []) (L' := [(0, .slice Aa0 a0.length ca0), (4, .int .i64 y1), (11, .bool (y1 != 0))]) (by kernel_rfl) (by kernel_rfl) (fun _ _ => trivial) ?_
  refine RgH.done (by kernel_rfl) ?_
  rcases bool_cases (y1 != 0) with hb1 | hb1
  · replace heq := bif_true hb1 heq
    refine RunH.condT (c := y1 != 0) (by kernel_rfl) hb1 ?_
    refine RunH.adm 1 (es' := [.c [1, 0, 1, 1, 0, 0], .c [1, 0, 1, 1, 0, 1], .c [1, 1]]) (by kernel_rfl) ?_
    refine RunH.reg (by kernel_rfl) ?_
    refine RgH.runk 3 [2, 3] (vs := []) (evs := []) (L' := [(2, .int .i64 0), (3, .int .i64 y1)]) (by kernel_rfl) (by kernel_rfl) (fun _ _ => trivial) ?_
    refine RgH.done (by kernel_rfl) ?_
    obtain rfl := Option.some.inj heq
    exact RunH.done (by kernel_rfl) Tryd.func21 (v := .tuple #[.int .i64 0, .int .i64 y1]) (by kernel_rfl) ⟨rfl, rfl, rfl⟩
  · replace heq := bif_false hb1 heq
    refine RunH.condF (c := y1 != 0) (by kernel_rfl) hb1 ?_
    refine RunH.adm 2 (es' := [.c [1, 1, 0], .c [1, 1, 1]]) (by kernel_rfl) ?_
    refine RunH.reg (by kernel_rfl) ?_
    refine RgH.runk 1 [0, 5] (vs := []) (evs := []) (L' := [(0, .slice Aa0 a0.length ca0), (5, .int .i64 0)]) (by kernel_rfl) (by kernel_rfl) (fun _ _ => trivial) ?_
    refine RgH.done (by kernel_rfl) ?_
    refine RunH.adm 2 (es' := [.c [1, 1, 1, 0, 0], .c [1, 1, 1, 0, 1], .c [1, 1, 1, 1]]) (by kernel_rfl) ?_
    refine RunH.reg (by kernel_rfl) ?_
    refine RgH.runk 3 [5, 13, 14, 15] (vs := []) (evs := []) (L' := [(5, .int .i64 0), (13, .slice Aa0 a0.length ca0), (14, .int .i64 (a0.length : Int)), (15, .int .i64 0)]) (by kernel_rfl) (by kernel_rfl) (fun _ _ => trivial) ?_
    refine RgH.done (by kernel_rfl) ?_
    refine RunH.adm 2 (es' := [.c [1, 1, 1, 0, 1, 0, 0], .l [1, 1, 1, 0, 1, 0, 0], .b 0, .c [1, 1, 1, 1]]) (by kernel_rfl) ?_
    refine RunH.keep [5, 13, 14, 15] (L' := [(5, .int .i64 0), (13, .slice Aa0 a0.length ca0), (14, .int .i64 (a0.length : Int)), (15, .int .i64 0)]) (by kernel_rfl) ?_
    exact ((smithyardref9_Wasted.l2_c (e1 := smithyardref9_Wasted.e1) (smithyardref9_Wasted.e1_c)) big) a0 _ _ 0 0 hra0 hca0 heq
noncomputable def C22 : Ctx := { P := Tryd.prog, f := 22, N := 26, c := bodyOf Tryd.f22 }
def S22 (F : List Ch) (H0 : Hp) (r : Bool) (v : Value) (H : Hp) (cs : List Ch) : Prop := H0 = H ∧ v = .bool r ∧ F = cs
theorem slices_Equal_Run.e1_c {w0 : World} {H : Hp} {F : List Ch} {r : Bool} : slices_Equal_Run.e1 = some r → RunH C22 (S22 F H r) H w0 [.c [1, 1, 1, 0], .c [1, 1, 1, 1]] [] H (F) := by
  intro   heq
  unfold slices_Equal_Run.e1 at heq
  refine RunH.reg (by kernel_rfl) ?_
  refine RgH.runk 1 [4] (vs := []) (evs := []) (L' := [(4, .bool true)]) (by kernel_rfl) (by kernel_rfl) (fun _ _ => trivial) ?_
  refine RgH.done (by kernel_rfl) ?_
  obtain rfl := Option.some.inj heq
  exact RunH.done (by kernel_rfl) Tryd.func22 (v := .bool true) (by kernel_rfl) ⟨rfl, rfl, rfl⟩
theorem slices_Equal_Run.l2_c {w0 : World} {H : Hp} {F : List Ch} {r : Bool} (e1 : Option Bool)
    (he1 : e1 = some r → RunH C22 (S22 F H r) H w0 [.c [1, 1, 1, 0], .c [1, 1, 1, 1]] [] H (F)) : ∀ (k : Nat), ∀ (a0 : List Run) (Aa0 : Option Addr) (ca0 : Nat) (a1 : List Run) (Aa1 : Option Addr) (ca1 : Nat) (v13 : Int) , Rw kRun H F Aa0 a0 → a0.length ≤ ca0 → Rw kRun H F Aa1 a1 → a1.length ≤ ca1 → slices_Equal_Run.l2 e1 k a0 a1 v13 = some r → RunH C22 (S22 F H r) H w0 [.c [1, 1, 0, 1, 0, 0], .l [1, 1, 0, 1, 0, 0], .b 0, .c [1, 1, 1]] [(0, .slice Aa0 a0.length ca0), (1, .slice Aa1 a1.length ca1), (12, .int .i64 (a0.length : Int)), (13, .int .i64 v13)] H (F) := by
  intro k
  induction k with
  | zero => intro a0 Aa0 ca0 a1 Aa1 ca1 v13 hra0 hca0 hra1 hca1 heq; exact nomatch (show (none : Option Bool) = some r from heq)
  | succ k ihk =>
    intro a0 Aa0 ca0 a1 Aa1 ca1 v13 hra0 hca0 hra1 hca1 heq
    rw [slices_Equal_Run.l2] at heq
    refine RunH.adm 1 (es' := [.c [1, 1, 0, 1, 0, 0, 0], .c [1, 1, 0, 1, 0, 0, 1], .l [1, 1, 0, 1, 0, 0], .b 0, .c [1, 1, 1]]) (by kernel_rfl) ?_
    refine RunH.reg (by kernel_rfl) ?_
    refine RgH.runk 1 [0, 1, 12, 13, 14] (vs := []) (evs := []) (L' := [(0, .slice Aa0 a0.length ca0), (1, .slice Aa1 a1.length ca1), (12, .int .i64 (a0.length : Int)), (13, .int .i64 v13), (14, .bool (decide (v13 < (a0.length : Int))))]) (by kernel_rfl) (by kernel_rfl) (fun _ _ => trivial) ?_
    refine RgH.done (by kernel_rfl) ?_
    refine RunH.adm 1 (es' := [.c [1, 1, 0, 1, 0, 0, 1, 0], .c [1, 1, 0, 1, 0, 0, 1, 1], .l [1, 1, 0, 1, 0, 0], .b 0, .c [1, 1, 1]]) (by kernel_rfl) ?_
    rcases bool_cases (decide (v13 < (a0.length : Int))) with hb2 | hb2
    · replace heq := bif_true hb2 heq
      refine RunH.condT (c := decide (v13 < (a0.length : Int))) (by kernel_rfl) hb2 ?_
      refine RunH.adm 4 (es' := [.c [1, 1, 0, 1, 0, 0, 1, 1, 0, 0, 0], .c [1, 1, 0, 1, 0, 0, 1, 1, 0, 0, 1], .b 1, .c [1, 1, 0, 1, 0, 0, 1, 1, 1], .l [1, 1, 0, 1, 0, 0], .b 0, .c [1, 1, 1]]) (by kernel_rfl) ?_
      refine RunH.reg (by kernel_rfl) ?_
      refine RgH.runk 2 [0, 1, 5, 12, 13] (vs := []) (evs := []) (L' := [(0, .slice Aa0 a0.length ca0), (1, .slice Aa1 a1.length ca1), (5, .int .i64 v13), (12, .int .i64 (a0.length : Int)), (13, .int .i64 v13)]) (by kernel_rfl) (by kernel_rfl) (fun _ _ => trivial) ?_
      refine RgH.done (by kernel_rfl) ?_
      refine RunH.adm 1 (es' := [.c [1, 1, 0, 1, 0, 0, 1, 1, 0, 0, 1, 0], .c [1, 1, 0, 1, 0, 0, 1, 1, 0, 0, 1, 1], .b 1, .c [1, 1, 0, 1, 0, 0, 1, 1, 1], .l [1, 1, 0, 1, 0, 0], .b 0, .c [1, 1, 1]]) (by kernel_rfl) ?_
      refine RunH.keep [0, 1, 5, 12, 13] (L' := [(0, .slice Aa0 a0.length ca0), (1, .slice Aa1 a1.length ca1), (5, .int .i64 v13), (12, .int .i64 (a0.length : Int)), (13, .int .i64 v13)]) (by kernel_rfl) ?_
      refine RunH.draw (fun w => Heap H w0 w (F)) (fun w => Heap H w0 w (F)) [false, false, false, false, false, false, false, false, false] (n := 9) (ls := [false, false, false, false, false, false, false, false, false]) (by kernel_rfl) (by kernel_rfl) (by kernel_rfl) rfl ?_
      obtain ⟨x1, hx1, heq⟩ := bind_some heq
      obtain ⟨ha1, cs1, hK1, hcc1⟩ := hra0.get hx1
      obtain ⟨rfl⟩ := kRun_open hK1
      obtain ⟨x2, hx2, heq⟩ := bind_some heq
      obtain ⟨ha2, cs2, hK2, hcc2⟩ := hra1.get hx2
      obtain ⟨rfl⟩ := kRun_open hK2
      refine DrH.run [0, 1, 2, 3, 4, 5, 6, 7, 8] (m := 0) (ls' := [true, true, true, true, true, true, true, true, true]) (vs := [.string x1.Id, .string x1.Worker, .int .i64 x1.From, .int .i64 x1.To, .int .i64 x1.End, .string x2.Id, .string x2.Worker, .int .i64 x2.From, .int .i64 x2.To, .int .i64 x2.End]) (evs := [.need (Aa0 = some (adr Aa0) ∧ (0 : Int) ≤ v13 ∧ v13 < ((a0.length : Nat) : Int)), .load (((adr Aa0).add (v13.toNat * 5)).add 0) (.string x1.Id), .load (((adr Aa0).add (v13.toNat * 5)).add 1) (.string x1.Worker), .load (((adr Aa0).add (v13.toNat * 5)).add 2) (.int .i64 x1.From), .load (((adr Aa0).add (v13.toNat * 5)).add 3) (.int .i64 x1.To), .load (((adr Aa0).add (v13.toNat * 5)).add 4) (.int .i64 x1.End), .need (Aa1 = some (adr Aa1) ∧ (0 : Int) ≤ v13 ∧ v13 < ((a1.length : Nat) : Int)), .load (((adr Aa1).add (v13.toNat * 5)).add 0) (.string x2.Id), .load (((adr Aa1).add (v13.toNat * 5)).add 1) (.string x2.Worker), .load (((adr Aa1).add (v13.toNat * 5)).add 2) (.int .i64 x2.From), .load (((adr Aa1).add (v13.toNat * 5)).add 3) (.int .i64 x2.To), .load (((adr Aa1).add (v13.toNat * 5)).add 4) (.int .i64 x2.End)]) (L' := [(24, .bool (!(sEq x1.Id x2.Id && (sEq x1.Worker x2.Worker && (x1.From == x2.From && (x1.To == x2.To && (x1.End == x2.End && true))))))), (23, .agg #[.string x2.Id, .string x2.Worker, .int .i64 x2.From, .int .i64 x2.To, .int .i64 x2.End]), (22, .pointer (some ((adr Aa1).add (v13.toNat * 5)))), (21, .int .i64 v13), (20, .slice Aa1 a1.length ca1), (19, .agg #[.string x1.Id, .string x1.Worker, .int .i64 x1.From, .int .i64 x1.To, .int .i64 x1.End]), (18, .pointer (some ((adr Aa0).add (v13.toNat * 5)))), (17, .int .i64 v13), (16, .slice Aa0 a0.length ca0), (0, .slice Aa0 a0.length ca0), (1, .slice Aa1 a1.length ca1), (5, .int .i64 v13), (12, .int .i64 (a0.length : Int)), (13, .int .i64 v13)]) (by kernel_rfl) (fun w hh => hh.pick 0 [] (by kernel_rfl)) (fun w hh => hh.pick 0 [] (by kernel_rfl)) (by kernel_rfl) (fun w hh => ⟨⟨ha1, (at?_some hx1).1, (at?_some hx1).2.1⟩, (hcc1 _ _ (hh.drop 0) 0 _ rfl), (hcc1 _ _ (hh.drop 0) 1 _ rfl), (hcc1 _ _ (hh.drop 0) 2 _ rfl), (hcc1 _ _ (hh.drop 0) 3 _ rfl), (hcc1 _ _ (hh.drop 0) 4 _ rfl), ⟨ha2, (at?_some hx2).1, (at?_some hx2).2.1⟩, (hcc2 _ _ (hh.drop 0) 0 _ rfl), (hcc2 _ _ (hh.drop 0) 1 _ rfl), (hcc2 _ _ (hh.drop 0) 2 _ rfl), (hcc2 _ _ (hh.drop 0) 3 _ rfl), (hcc2 _ _ (hh.drop 0) 4 _ rfl)⟩) (by kernel_rfl) ?_
      refine DrH.keep [0, 1, 12, 13, 24] (L' := [(0, .slice Aa0 a0.length ca0), (1, .slice Aa1 a1.length ca1), (12, .int .i64 (a0.length : Int)), (13, .int .i64 v13), (24, .bool (!(sEq x1.Id x2.Id && (sEq x1.Worker x2.Worker && (x1.From == x2.From && (x1.To == x2.To && (x1.End == x2.End && true)))))))]) (by kernel_rfl) ?_
      refine DrH.done (by kernel_rfl) ?_
      rcases bool_cases (!(sEq x1.Id x2.Id && (sEq x1.Worker x2.Worker && (x1.From == x2.From && (x1.To == x2.To && (x1.End == x2.End && true)))))) with hb3 | hb3
      · replace heq := bif_true hb3 heq
        refine RunH.condT (c := !(sEq x1.Id x2.Id && (sEq x1.Worker x2.Worker && (x1.From == x2.From && (x1.To == x2.To && (x1.End == x2.End && true)))))) (by kernel_rfl) hb3 ?_
        refine RunH.adm 1 (es' := [.c [1, 1, 0, 1, 0, 0, 1, 1, 0, 0, 1, 1, 0, 0], .c [1, 1, 0, 1, 0, 0, 1, 1, 0, 0, 1, 1, 0, 1], .b 1, .c [1, 1, 0, 1, 0, 0, 1, 1, 1], .l [1, 1, 0, 1, 0, 0], .b 0, .c [1, 1, 1]]) (by kernel_rfl) ?_
        refine RunH.reg (by kernel_rfl) ?_
        refine RgH.runk 1 [4] (vs := []) (evs := []) (L' := [(4, .bool false)]) (by kernel_rfl) (by kernel_rfl) (fun _ _ => trivial) ?_
        refine RgH.done (by kernel_rfl) ?_
        obtain rfl := Option.some.inj heq
        exact RunH.done (by kernel_rfl) Tryd.func22 (v := .bool false) (by kernel_rfl) ⟨rfl, rfl, rfl⟩
      · replace heq := bif_false hb3 heq
        refine RunH.condF (c := !(sEq x1.Id x2.Id && (sEq x1.Worker x2.Worker && (x1.From == x2.From && (x1.To == x2.To && (x1.End == x2.End && true)))))) (by kernel_rfl) hb3 ?_
        refine RunH.adm 2 (es' := [.c [1, 1, 0, 1, 0, 0, 1, 1, 1], .l [1, 1, 0, 1, 0, 0], .b 0, .c [1, 1, 1]]) (by kernel_rfl) ?_
        refine RunH.reg (by kernel_rfl) ?_
        refine RgH.runk 2 [0, 1, 12, 13] (vs := []) (evs := []) (L' := [(0, .slice Aa0 a0.length ca0), (1, .slice Aa1 a1.length ca1), (12, .int .i64 (a0.length : Int)), (13, .int .i64 (w64 (v13 + 1)))]) (by kernel_rfl) (by kernel_rfl) (fun _ _ => trivial) ?_
        refine RgH.done (by kernel_rfl) ?_
        refine RunH.adm 1 (es' := [.c [1, 1, 0, 1, 0, 0], .l [1, 1, 0, 1, 0, 0], .b 0, .c [1, 1, 1]]) (by kernel_rfl) ?_
        refine RunH.keep [0, 1, 12, 13] (L' := [(0, .slice Aa0 a0.length ca0), (1, .slice Aa1 a1.length ca1), (12, .int .i64 (a0.length : Int)), (13, .int .i64 (w64 (v13 + 1)))]) (by kernel_rfl) ?_
        exact ihk a0 _ _ a1 _ _ (w64 (v13 + 1)) hra0 hca0 hra1 hca1 heq
    · replace heq := bif_false hb2 heq
      refine RunH.condF (c := decide (v13 < (a0.length : Int))) (by kernel_rfl) hb2 ?_
      refine RunH.adm 2 (es' := [.c [1, 1, 1, 0], .c [1, 1, 1, 1]]) (by kernel_rfl) ?_
      refine RunH.keep [] (L' := []) (by kernel_rfl) ?_
      exact he1 heq
theorem slices_Equal_Run_c {w0 : World} {H : Hp} {F : List Ch} {a0 : List Run} {Aa0 : Option Addr} {na0 : Nat} {ca0 : Nat} {a1 : List Run} {Aa1 : Option Addr} {na1 : Nat} {ca1 : Nat} {r : Bool} (hra0 : Rw kRun H F Aa0 a0) (hca0 : na0 ≤ ca0) (hna0 : na0 = a0.length) (hra1 : Rw kRun H F Aa1 a1) (hca1 : na1 ≤ ca1) (hna1 : na1 = a1.length) (heq : slices_Equal_Run.f a0 a1 = some r) : CallsH Tryd.prog 22 #[.slice Aa0 na0 ca0, .slice Aa1 na1 ca1] H w0 (F) (S22 F H r) := by
  refine calls_of_runH (F := C22) Tryd.func22 (by kernel_rfl) Tryd.ntmps22 (args := [.slice Aa0 na0 ca0, .slice Aa1 na1 ca1]) (by kernel_rfl) ?_
  subst hna0
  subst hna1
  unfold slices_Equal_Run.f at heq
  refine RunH.adm 1 (es' := [.c [0], .c [1]]) (by kernel_rfl) ?_
  refine RunH.reg (by kernel_rfl) ?_
  refine RgH.runk 1 [0, 1] (vs := []) (evs := []) (L' := [(0, .slice Aa0 a0.length ca0), (1, .slice Aa1 a1.length ca1)]) (by kernel_rfl) (by kernel_rfl) (fun _ _ => trivial) ?_
  refine RgH.done (by kernel_rfl) ?_
  refine RunH.adm 2 (es' := [.c [1, 0, 0], .c [1, 0, 1], .c [1, 1]]) (by kernel_rfl) ?_
  refine RunH.reg (by kernel_rfl) ?_
  refine RgH.runk 5 [0, 1, 10] (vs := []) (evs := []) (L' := [(0, .slice Aa0 a0.length ca0), (1, .slice Aa1 a1.length ca1), (10, .bool ((a0.length : Int) != (a1.length : Int)))]) (by kernel_rfl) (by kernel_rfl) (fun _ _ => trivial) ?_
  refine RgH.done (by kernel_rfl) ?_
  rcases bool_cases ((a0.length : Int) != (a1.length : Int)) with hb1 | hb1
  · replace heq := bif_true hb1 heq
    refine RunH.condT (c := (a0.length : Int) != (a1.length : Int)) (by kernel_rfl) hb1 ?_
    refine RunH.adm 1 (es' := [.c [1, 0, 1, 0, 0], .c [1, 0, 1, 0, 1], .c [1, 1]]) (by kernel_rfl) ?_
    refine RunH.reg (by kernel_rfl) ?_
    refine RgH.runk 1 [4] (vs := []) (evs := []) (L' := [(4, .bool false)]) (by kernel_rfl) (by kernel_rfl) (fun _ _ => trivial) ?_
    refine RgH.done (by kernel_rfl) ?_
    obtain rfl := Option.some.inj heq
    exact RunH.done (by kernel_rfl) Tryd.func22 (v := .bool false) (by kernel_rfl) ⟨rfl, rfl, rfl⟩
  · replace heq := bif_false hb1 heq
    refine RunH.condF (c := (a0.length : Int) != (a1.length : Int)) (by kernel_rfl) hb1 ?_
    refine RunH.adm 3 (es' := [.c [1, 1, 0, 0], .c [1, 1, 0, 1], .c [1, 1, 1]]) (by kernel_rfl) ?_
    refine RunH.reg (by kernel_rfl) ?_
    refine RgH.runk 3 [0, 1, 12, 13] (vs := []) (evs := []) (L' := [(0, .slice Aa0 a0.length ca0), (1, .slice Aa1 a1.length ca1), (12, .int .i64 (a0.length : Int)), (13, .int .i64 0)]) (by kernel_rfl) (by kernel_rfl) (fun _ _ => trivial) ?_
    refine RgH.done (by kernel_rfl) ?_
    refine RunH.adm 2 (es' := [.c [1, 1, 0, 1, 0, 0], .l [1, 1, 0, 1, 0, 0], .b 0, .c [1, 1, 1]]) (by kernel_rfl) ?_
    refine RunH.keep [0, 1, 12, 13] (L' := [(0, .slice Aa0 a0.length ca0), (1, .slice Aa1 a1.length ca1), (12, .int .i64 (a0.length : Int)), (13, .int .i64 0)]) (by kernel_rfl) ?_
    exact ((slices_Equal_Run.l2_c (e1 := slices_Equal_Run.e1) (slices_Equal_Run.e1_c)) big) a0 _ _ a1 _ _ 0 hra0 hca0 hra1 hca1 heq
noncomputable def C5 : Ctx := { P := Tryd.prog, f := 5, N := 124, c := bodyOf Tryd.f5 }
def S5 (F : List Ch) (H0 : Hp) (r : Bool) (v : Value) (H : Hp) (cs : List Ch) : Prop := H0 = H ∧ v = .bool r ∧ F = cs
theorem smithyardlaw9_WorkersBusyMatchesSpec_c {w0 : World} {H : Hp} {F : List Ch} {a0 : List Run} {Aa0 : Option Addr} {na0 : Nat} {ca0 : Nat} {a1 : ByteArray} {a2 : Int} {a3 : Int} {a4 : Int} {r : Bool} (hra0 : Rw kRun H F Aa0 a0) (hca0 : na0 ≤ ca0) (hna0 : na0 = a0.length) (heq : smithyardlaw9_WorkersBusyMatchesSpec.f a0 a1 a2 a3 a4 = some r) : CallsH Tryd.prog 5 #[.slice Aa0 na0 ca0, .string a1, .int .i64 a2, .int .i64 a3, .int .i64 a4] H w0 (F) (S5 F H r) := by
  refine calls_of_runH (F := C5) Tryd.func5 (by kernel_rfl) Tryd.ntmps5 (args := [.slice Aa0 na0 ca0, .string a1, .int .i64 a2, .int .i64 a3, .int .i64 a4]) (by kernel_rfl) ?_
  subst hna0
  unfold smithyardlaw9_WorkersBusyMatchesSpec.f at heq
  refine RunH.adm 1 (es' := [.c [0], .c [1]]) (by kernel_rfl) ?_
  refine RunH.reg (by kernel_rfl) ?_
  refine RgH.runk 1 [0, 1, 2, 3, 4] (vs := []) (evs := []) (L' := [(0, .slice Aa0 a0.length ca0), (1, .string a1), (2, .int .i64 a2), (3, .int .i64 a3), (4, .int .i64 a4)]) (by kernel_rfl) (by kernel_rfl) (fun _ _ => trivial) ?_
  refine RgH.done (by kernel_rfl) ?_
  refine RunH.adm 1 (es' := [.c [1, 0], .c [1, 1]]) (by kernel_rfl) ?_
  refine RunH.reg (by kernel_rfl) ?_
  refine RgH.runk 1 [0, 1, 2, 3, 4, 22] (vs := []) (evs := []) (L' := [(0, .slice Aa0 a0.length ca0), (1, .string a1), (2, .int .i64 a2), (3, .int .i64 a3), (4, .int .i64 a4), (22, .slice Aa0 a0.length ca0)]) (by kernel_rfl) (by kernel_rfl) (fun _ _ => trivial) ?_
  obtain ⟨y1, hy1, heq⟩ := bind_some heq
  refine RgH.does (DoesH.call (d := 23) (g := 15) (args := #[.slice Aa0 a0.length ca0]) (by kernel_rfl) (slices_Clone_Run_c (a0 := a0) hra0 hca0 rfl hy1)) ?_
  rintro _ _ _ _ ⟨_, rfl, A1, c1, ch1, rfl, rfl, rfl, ho1⟩
  refine RgH.runk 3 [0, 1, 2, 3, 4, 11] (vs := []) (evs := []) (L' := [(0, .slice Aa0 a0.length ca0), (1, .string a1), (2, .int .i64 a2), (3, .int .i64 a3), (4, .int .i64 a4), (11, .slice A1 y1.length c1)]) (by kernel_rfl) (by kernel_rfl) (fun _ _ => trivial) ?_
  refine RgH.done (by kernel_rfl) ?_
  refine RunH.adm 1 (es' := [.c [1, 1, 0], .c [1, 1, 1]]) (by kernel_rfl) ?_
  refine RunH.reg (by kernel_rfl) ?_
  refine RgH.runk 4 [0, 1, 2, 3, 4, 11, 25, 26, 27, 28] (vs := []) (evs := []) (L' := [(0, .slice Aa0 a0.length ca0), (1, .string a1), (2, .int .i64 a2), (3, .int .i64 a3), (4, .int .i64 a4), (11, .slice A1 y1.length c1), (25, .slice Aa0 a0.length ca0), (26, .string a1), (27, .int .i64 a2), (28, .int .i64 a4)]) (by kernel_rfl) (by kernel_rfl) (fun _ _ => trivial) ?_
  obtain ⟨y2, hy2, heq⟩ := bind_some heq
  refine RgH.does (DoesH.call (d := 29) (g := 16) (args := #[.slice Aa0 a0.length ca0, .string a1, .int .i64 a2, .int .i64 a4]) (by kernel_rfl) (workers_Busy_c (a0 := a0) (a1 := a1) (a2 := a2) (a3 := a4) (hra0.wk (fun _ h => (.tail _ h))) hca0 rfl hy2)) ?_
  rintro _ _ _ _ ⟨_, rfl, rfl, rfl, rfl⟩
  refine RgH.runk 10 [0, 1, 2, 3, 4, 11, 12, 13] (vs := []) (evs := []) (L' := [(0, .slice Aa0 a0.length ca0), (1, .string a1), (2, .int .i64 a2), (3, .int .i64 a3), (4, .int .i64 a4), (11, .slice A1 y1.length c1), (12, .int .i64 y2.1), (13, .int .i64 y2.2)]) (by kernel_rfl) (by kernel_rfl) (fun _ _ => trivial) ?_
  refine RgH.done (by kernel_rfl) ?_
  refine RunH.adm 1 (es' := [.c [1, 1, 1, 0], .c [1, 1, 1, 1]]) (by kernel_rfl) ?_
  refine RunH.reg (by kernel_rfl) ?_
  refine RgH.runk 4 [0, 1, 2, 3, 4, 11, 12, 13, 33, 34, 35, 36] (vs := []) (evs := []) (L' := [(0, .slice Aa0 a0.length ca0), (1, .string a1), (2, .int .i64 a2), (3, .int .i64 a3), (4, .int .i64 a4), (11, .slice A1 y1.length c1), (12, .int .i64 y2.1), (13, .int .i64 y2.2), (33, .slice A1 y1.length c1), (34, .string a1), (35, .int .i64 a2), (36, .int .i64 a4)]) (by kernel_rfl) (by kernel_rfl) (fun _ _ => trivial) ?_
  obtain ⟨y3, hy3, heq⟩ := bind_some heq
  refine RgH.does (DoesH.call (d := 37) (g := 17) (args := #[.slice A1 y1.length c1, .string a1, .int .i64 a2, .int .i64 a4]) (by kernel_rfl) (smithyardref9_Busy_c (a0 := y1) (a1 := a1) (a2 := a2) (a3 := a4) (ho1.rw (.head _)) ho1.cap rfl hy3)) ?_
  rintro _ _ _ _ ⟨_, rfl, rfl, rfl, rfl⟩
  refine RgH.runk 10 [0, 1, 2, 3, 4, 11, 12, 13, 14, 15] (vs := []) (evs := []) (L' := [(0, .slice Aa0 a0.length ca0), (1, .string a1), (2, .int .i64 a2), (3, .int .i64 a3), (4, .int .i64 a4), (11, .slice A1 y1.length c1), (12, .int .i64 y2.1), (13, .int .i64 y2.2), (14, .int .i64 y3.1), (15, .int .i64 y3.2)]) (by kernel_rfl) (by kernel_rfl) (fun _ _ => trivial) ?_
  refine RgH.done (by kernel_rfl) ?_
  refine RunH.adm 2 (es' := [.c [1, 1, 1, 1, 0, 0], .c [1, 1, 1, 1, 0, 1], .c [1, 1, 1, 1, 1]]) (by kernel_rfl) ?_
  obtain ⟨t1, ht1, heq⟩ := bind_some heq
  have K2 : RunH C5 (S5 F H r) H w0 [.c [1, 1, 1, 1, 0, 1], .c [1, 1, 1, 1, 1]] [(0, .slice Aa0 a0.length ca0), (1, .string a1), (2, .int .i64 a2), (3, .int .i64 a3), (4, .int .i64 a4), (11, .slice A1 y1.length c1), (12, .int .i64 y2.1), (13, .int .i64 y2.2), (54, .bool t1)] H (ch1 :: F) := by
    rcases bool_cases (t1) with hb3 | hb3
    · replace heq := bif_true hb3 heq
      refine RunH.condT (c := t1) (by kernel_rfl) hb3 ?_
      refine RunH.adm 1 (es' := [.c [1, 1, 1, 1, 0, 1, 0, 0], .c [1, 1, 1, 1, 0, 1, 0, 1], .c [1, 1, 1, 1, 1]]) (by kernel_rfl) ?_
      refine RunH.reg (by kernel_rfl) ?_
      refine RgH.runk 1 [10] (vs := []) (evs := []) (L' := [(10, .bool false)]) (by kernel_rfl) (by kernel_rfl) (fun _ _ => trivial) ?_
      refine RgH.done (by kernel_rfl) ?_
      obtain rfl := Option.some.inj heq
      refine RunH.pick 1 [] (cs' := F) (by kernel_rfl) rfl ?_
      exact RunH.done (by kernel_rfl) Tryd.func5 (v := .bool false) (by kernel_rfl) ⟨rfl, rfl, rfl⟩
    · replace heq := bif_false hb3 heq
      refine RunH.condF (c := t1) (by kernel_rfl) hb3 ?_
      refine RunH.adm 2 (es' := [.c [1, 1, 1, 1, 1, 0], .c [1, 1, 1, 1, 1, 1]]) (by kernel_rfl) ?_
      refine RunH.reg (by kernel_rfl) ?_
      refine RgH.runk 1 [0, 1, 2, 3, 4, 11, 12, 13, 56] (vs := []) (evs := []) (L' := [(0, .slice Aa0 a0.length ca0), (1, .string a1), (2, .int .i64 a2), (3, .int .i64 a3), (4, .int .i64 a4), (11, .slice A1 y1.length c1), (12, .int .i64 y2.1), (13, .int .i64 y2.2), (56, .slice Aa0 a0.length ca0)]) (by kernel_rfl) (by kernel_rfl) (fun _ _ => trivial) ?_
      obtain ⟨y6, hy6, heq⟩ := bind_some heq
      refine RgH.does (DoesH.call (d := 57) (g := 20) (args := #[.slice Aa0 a0.length ca0]) (by kernel_rfl) (workers_Wasted_c (a0 := a0) (hra0.wk (fun _ h => (.tail _ h))) hca0 rfl hy6)) ?_
      rintro _ _ _ _ ⟨_, rfl, rfl, rfl, rfl⟩
      refine RgH.runk 7 [0, 1, 2, 3, 4, 11, 12, 13, 16, 17] (vs := []) (evs := []) (L' := [(0, .slice Aa0 a0.length ca0), (1, .string a1), (2, .int .i64 a2), (3, .int .i64 a3), (4, .int .i64 a4), (11, .slice A1 y1.length c1), (12, .int .i64 y2.1), (13, .int .i64 y2.2), (16, .int .i64 y6.1), (17, .int .i64 y6.2)]) (by kernel_rfl) (by kernel_rfl) (fun _ _ => trivial) ?_
      refine RgH.done (by kernel_rfl) ?_
      refine RunH.adm 1 (es' := [.c [1, 1, 1, 1, 1, 1, 0], .c [1, 1, 1, 1, 1, 1, 1]]) (by kernel_rfl) ?_
      refine RunH.reg (by kernel_rfl) ?_
      refine RgH.runk 1 [0, 1, 2, 3, 4, 11, 12, 13, 16, 17, 61] (vs := []) (evs := []) (L' := [(0, .slice Aa0 a0.length ca0), (1, .string a1), (2, .int .i64 a2), (3, .int .i64 a3), (4, .int .i64 a4), (11, .slice A1 y1.length c1), (12, .int .i64 y2.1), (13, .int .i64 y2.2), (16, .int .i64 y6.1), (17, .int .i64 y6.2), (61, .slice A1 y1.length c1)]) (by kernel_rfl) (by kernel_rfl) (fun _ _ => trivial) ?_
      obtain ⟨y7, hy7, heq⟩ := bind_some heq
      refine RgH.does (DoesH.call (d := 62) (g := 21) (args := #[.slice A1 y1.length c1]) (by kernel_rfl) (smithyardref9_Wasted_c (a0 := y1) (ho1.rw (.head _)) ho1.cap rfl hy7)) ?_
      rintro _ _ _ _ ⟨_, rfl, rfl, rfl, rfl⟩
      refine RgH.runk 7 [0, 1, 2, 3, 4, 11, 12, 13, 16, 17, 18, 19] (vs := []) (evs := []) (L' := [(0, .slice Aa0 a0.length ca0), (1, .string a1), (2, .int .i64 a2), (3, .int .i64 a3), (4, .int .i64 a4), (11, .slice A1 y1.length c1), (12, .int .i64 y2.1), (13, .int .i64 y2.2), (16, .int .i64 y6.1), (17, .int .i64 y6.2), (18, .int .i64 y7.1), (19, .int .i64 y7.2)]) (by kernel_rfl) (by kernel_rfl) (fun _ _ => trivial) ?_
      refine RgH.done (by kernel_rfl) ?_
      refine RunH.adm 2 (es' := [.c [1, 1, 1, 1, 1, 1, 1, 0, 0], .c [1, 1, 1, 1, 1, 1, 1, 0, 1], .c [1, 1, 1, 1, 1, 1, 1, 1]]) (by kernel_rfl) ?_
      obtain ⟨t2, ht2, heq⟩ := bind_some heq
      have K3 : RunH C5 (S5 F H r) H w0 [.c [1, 1, 1, 1, 1, 1, 1, 0, 1], .c [1, 1, 1, 1, 1, 1, 1, 1]] [(0, .slice Aa0 a0.length ca0), (1, .string a1), (2, .int .i64 a2), (3, .int .i64 a3), (4, .int .i64 a4), (12, .int .i64 y2.1), (13, .int .i64 y2.2), (82, .bool t2)] H (F) := by
        rcases bool_cases (t2) with hb7 | hb7
        · replace heq := bif_true hb7 heq
          refine RunH.condT (c := t2) (by kernel_rfl) hb7 ?_
          refine RunH.adm 1 (es' := [.c [1, 1, 1, 1, 1, 1, 1, 0, 1, 0, 0], .c [1, 1, 1, 1, 1, 1, 1, 0, 1, 0, 1], .c [1, 1, 1, 1, 1, 1, 1, 1]]) (by kernel_rfl) ?_
          refine RunH.reg (by kernel_rfl) ?_
          refine RgH.runk 1 [10] (vs := []) (evs := []) (L' := [(10, .bool false)]) (by kernel_rfl) (by kernel_rfl) (fun _ _ => trivial) ?_
          refine RgH.done (by kernel_rfl) ?_
          obtain rfl := Option.some.inj heq
          exact RunH.done (by kernel_rfl) Tryd.func5 (v := .bool false) (by kernel_rfl) ⟨rfl, rfl, rfl⟩
        · replace heq := bif_false hb7 heq
          refine RunH.condF (c := t2) (by kernel_rfl) hb7 ?_
          refine RunH.adm 3 (es' := [.c [1, 1, 1, 1, 1, 1, 1, 1, 0, 0], .c [1, 1, 1, 1, 1, 1, 1, 1, 0, 1], .c [1, 1, 1, 1, 1, 1, 1, 1, 1]]) (by kernel_rfl) ?_
          obtain ⟨t3, ht3, heq⟩ := bind_some heq
          have K4 : RunH C5 (S5 F H r) H w0 [.c [1, 1, 1, 1, 1, 1, 1, 1, 0, 1], .c [1, 1, 1, 1, 1, 1, 1, 1, 1]] [(0, .slice Aa0 a0.length ca0), (1, .string a1), (2, .int .i64 a2), (3, .int .i64 a3), (4, .int .i64 a4), (12, .int .i64 y2.1), (94, .bool t3)] H (F) := by
            rcases bool_cases (t3) with hb10 | hb10
            · replace heq := bif_true hb10 heq
              refine RunH.condT (c := t3) (by kernel_rfl) hb10 ?_
              refine RunH.adm 1 (es' := [.c [1, 1, 1, 1, 1, 1, 1, 1, 0, 1, 0, 0], .c [1, 1, 1, 1, 1, 1, 1, 1, 0, 1, 0, 1], .c [1, 1, 1, 1, 1, 1, 1, 1, 1]]) (by kernel_rfl) ?_
              refine RunH.reg (by kernel_rfl) ?_
              refine RgH.runk 1 [10] (vs := []) (evs := []) (L' := [(10, .bool true)]) (by kernel_rfl) (by kernel_rfl) (fun _ _ => trivial) ?_
              refine RgH.done (by kernel_rfl) ?_
              obtain rfl := Option.some.inj heq
              exact RunH.done (by kernel_rfl) Tryd.func5 (v := .bool true) (by kernel_rfl) ⟨rfl, rfl, rfl⟩
            · replace heq := bif_false hb10 heq
              refine RunH.condF (c := t3) (by kernel_rfl) hb10 ?_
              refine RunH.adm 2 (es' := [.c [1, 1, 1, 1, 1, 1, 1, 1, 1, 0], .c [1, 1, 1, 1, 1, 1, 1, 1, 1, 1]]) (by kernel_rfl) ?_
              refine RunH.reg (by kernel_rfl) ?_
              refine RgH.runk 4 [0, 1, 3, 4, 12, 96, 97, 98, 99] (vs := []) (evs := []) (L' := [(0, .slice Aa0 a0.length ca0), (1, .string a1), (3, .int .i64 a3), (4, .int .i64 a4), (12, .int .i64 y2.1), (96, .slice Aa0 a0.length ca0), (97, .string a1), (98, .int .i64 a2), (99, .int .i64 a3)]) (by kernel_rfl) (by kernel_rfl) (fun _ _ => trivial) ?_
              obtain ⟨y10, hy10, heq⟩ := bind_some heq
              refine RgH.does (DoesH.call (d := 100) (g := 16) (args := #[.slice Aa0 a0.length ca0, .string a1, .int .i64 a2, .int .i64 a3]) (by kernel_rfl) (workers_Busy_c (a0 := a0) (a1 := a1) (a2 := a2) (a3 := a3) hra0 hca0 rfl hy10)) ?_
              rintro _ _ _ _ ⟨_, rfl, rfl, rfl, rfl⟩
              refine RgH.runk 10 [0, 1, 3, 4, 12, 13, 20] (vs := []) (evs := []) (L' := [(0, .slice Aa0 a0.length ca0), (1, .string a1), (3, .int .i64 a3), (4, .int .i64 a4), (12, .int .i64 y2.1), (13, .int .i64 y10.2), (20, .int .i64 y10.1)]) (by kernel_rfl) (by kernel_rfl) (fun _ _ => trivial) ?_
              refine RgH.done (by kernel_rfl) ?_
              refine RunH.adm 1 (es' := [.c [1, 1, 1, 1, 1, 1, 1, 1, 1, 1, 0], .c [1, 1, 1, 1, 1, 1, 1, 1, 1, 1, 1]]) (by kernel_rfl) ?_
              refine RunH.reg (by kernel_rfl) ?_
              refine RgH.runk 4 [12, 13, 20, 104, 105, 106, 107] (vs := []) (evs := []) (L' := [(12, .int .i64 y2.1), (13, .int .i64 y10.2), (20, .int .i64 y10.1), (104, .slice Aa0 a0.length ca0), (105, .string a1), (106, .int .i64 a3), (107, .int .i64 a4)]) (by kernel_rfl) (by kernel_rfl) (fun _ _ => trivial) ?_
              obtain ⟨y11, hy11, heq⟩ := bind_some heq
              refine RgH.does (DoesH.call (d := 108) (g := 16) (args := #[.slice Aa0 a0.length ca0, .string a1, .int .i64 a3, .int .i64 a4]) (by kernel_rfl) (workers_Busy_c (a0 := a0) (a1 := a1) (a2 := a3) (a3 := a4) hra0 hca0 rfl hy11)) ?_
              rintro _ _ _ _ ⟨_, rfl, rfl, rfl, rfl⟩
              refine RgH.runk 10 [12, 13, 15, 20, 21] (vs := []) (evs := []) (L' := [(12, .int .i64 y2.1), (13, .int .i64 y10.2), (15, .int .i64 y11.2), (20, .int .i64 y10.1), (21, .int .i64 y11.1)]) (by kernel_rfl) (by kernel_rfl) (fun _ _ => trivial) ?_
              refine RgH.done (by kernel_rfl) ?_
              refine RunH.adm 1 (es' := [.c [1, 1, 1, 1, 1, 1, 1, 1, 1, 1, 1, 0], .c [1, 1, 1, 1, 1, 1, 1, 1, 1, 1, 1, 1]]) (by kernel_rfl) ?_
              obtain ⟨t4, ht4, heq⟩ := bind_some heq
              have K5 : RunH C5 (S5 F H r) H w0 [.c [1, 1, 1, 1, 1, 1, 1, 1, 1, 1, 1, 1]] [(10, .bool t4)] H (F) := by
                obtain rfl := Option.some.inj heq
                exact RunH.done (by kernel_rfl) Tryd.func5 (v := .bool t4) (by kernel_rfl) ⟨rfl, rfl, rfl⟩
              replace heq := ht4
              refine RunH.reg (by kernel_rfl) ?_
              refine RgH.runk 3 [113, 12, 15, 20, 21] (vs := []) (evs := []) (L' := [(113, .bool (y10.2 == 0)), (12, .int .i64 y2.1), (15, .int .i64 y11.2), (20, .int .i64 y10.1), (21, .int .i64 y11.1)]) (by kernel_rfl) (by kernel_rfl) (fun _ _ => trivial) ?_
              rcases bool_cases (y10.2 == 0) with hb11 | hb11
              · replace heq := bif_true hb11 heq
                refine RgH.val1 (v' := .bool true) (congrArg Value.bool hb11) ?_
                refine RgH.runk 7 [117, 12, 20, 21] (vs := []) (evs := []) (L' := [(117, .bool (y11.2 == 0)), (12, .int .i64 y2.1), (20, .int .i64 y10.1), (21, .int .i64 y11.1)]) (by kernel_rfl) (by kernel_rfl) (fun _ _ => trivial) ?_
                rcases bool_cases (y11.2 == 0) with hb12 | hb12
                · replace heq := bif_true hb12 heq
                  refine RgH.val1 (v' := .bool true) (congrArg Value.bool hb12) ?_
                  refine RgH.runk 14 [10] (vs := []) (evs := []) (L' := [(10, .bool ((w64 (y10.1 + y11.1)) == y2.1))]) (by kernel_rfl) (by kernel_rfl) (fun _ _ => trivial) ?_
                  obtain rfl := Option.some.inj heq
                  refine RgH.keep [10] (L' := [(10, .bool ((w64 (y10.1 + y11.1)) == y2.1))]) (by kernel_rfl) ?_
                  refine RgH.done (by kernel_rfl) ?_
                  exact K5
                · replace heq := bif_false hb12 heq
                  refine RgH.val1 (v' := .bool false) (congrArg Value.bool hb12) ?_
                  refine RgH.runk 14 [10] (vs := []) (evs := []) (L' := [(10, .bool false)]) (by kernel_rfl) (by kernel_rfl) (fun _ _ => trivial) ?_
                  obtain rfl := Option.some.inj heq
                  refine RgH.keep [10] (L' := [(10, .bool false)]) (by kernel_rfl) ?_
                  refine RgH.done (by kernel_rfl) ?_
                  exact K5
              · replace heq := bif_false hb11 heq
                refine RgH.val1 (v' := .bool false) (congrArg Value.bool hb11) ?_
                refine RgH.runk 14 [10] (vs := []) (evs := []) (L' := [(10, .bool false)]) (by kernel_rfl) (by kernel_rfl) (fun _ _ => trivial) ?_
                obtain rfl := Option.some.inj heq
                refine RgH.keep [10] (L' := [(10, .bool false)]) (by kernel_rfl) ?_
                refine RgH.done (by kernel_rfl) ?_
                exact K5
          replace heq := ht3
          refine RunH.reg (by kernel_rfl) ?_
          refine RgH.runk 3 [85, 0, 1, 2, 3, 4, 12] (vs := []) (evs := []) (L' := [(85, .bool (y2.2 != 0)), (0, .slice Aa0 a0.length ca0), (1, .string a1), (2, .int .i64 a2), (3, .int .i64 a3), (4, .int .i64 a4), (12, .int .i64 y2.1)]) (by kernel_rfl) (by kernel_rfl) (fun _ _ => trivial) ?_
          rcases bool_cases (y2.2 != 0) with hb8 | hb8
          · replace heq := bif_true hb8 heq
            refine RgH.val1 (v' := .bool true) (congrArg Value.bool hb8) ?_
            refine RgH.runk 12 [0, 1, 2, 3, 4, 12, 94] (vs := []) (evs := []) (L' := [(0, .slice Aa0 a0.length ca0), (1, .string a1), (2, .int .i64 a2), (3, .int .i64 a3), (4, .int .i64 a4), (12, .int .i64 y2.1), (94, .bool true)]) (by kernel_rfl) (by kernel_rfl) (fun _ _ => trivial) ?_
            obtain rfl := Option.some.inj heq
            refine RgH.keep [0, 1, 2, 3, 4, 12, 94] (L' := [(0, .slice Aa0 a0.length ca0), (1, .string a1), (2, .int .i64 a2), (3, .int .i64 a3), (4, .int .i64 a4), (12, .int .i64 y2.1), (94, .bool true)]) (by kernel_rfl) ?_
            refine RgH.done (by kernel_rfl) ?_
            exact K4
          · replace heq := bif_false hb8 heq
            refine RgH.val1 (v' := .bool false) (congrArg Value.bool hb8) ?_
            refine RgH.runk 8 [90, 0, 1, 2, 3, 4, 12] (vs := []) (evs := []) (L' := [(90, .bool (decide (a3 < a2))), (0, .slice Aa0 a0.length ca0), (1, .string a1), (2, .int .i64 a2), (3, .int .i64 a3), (4, .int .i64 a4), (12, .int .i64 y2.1)]) (by kernel_rfl) (by kernel_rfl) (fun _ _ => trivial) ?_
            rcases bool_cases (decide (a3 < a2)) with hb9 | hb9
            · replace heq := bif_true hb9 heq
              refine RgH.val1 (v' := .bool true) (congrArg Value.bool hb9) ?_
              refine RgH.runk 12 [0, 1, 2, 3, 4, 12, 94] (vs := []) (evs := []) (L' := [(0, .slice Aa0 a0.length ca0), (1, .string a1), (2, .int .i64 a2), (3, .int .i64 a3), (4, .int .i64 a4), (12, .int .i64 y2.1), (94, .bool true)]) (by kernel_rfl) (by kernel_rfl) (fun _ _ => trivial) ?_
              obtain rfl := Option.some.inj heq
              refine RgH.keep [0, 1, 2, 3, 4, 12, 94] (L' := [(0, .slice Aa0 a0.length ca0), (1, .string a1), (2, .int .i64 a2), (3, .int .i64 a3), (4, .int .i64 a4), (12, .int .i64 y2.1), (94, .bool true)]) (by kernel_rfl) ?_
              refine RgH.done (by kernel_rfl) ?_
              exact K4
            · replace heq := bif_false hb9 heq
              refine RgH.val1 (v' := .bool false) (congrArg Value.bool hb9) ?_
              refine RgH.runk 12 [0, 1, 2, 3, 4, 12, 94] (vs := []) (evs := []) (L' := [(0, .slice Aa0 a0.length ca0), (1, .string a1), (2, .int .i64 a2), (3, .int .i64 a3), (4, .int .i64 a4), (12, .int .i64 y2.1), (94, .bool (decide (a4 < a3)))]) (by kernel_rfl) (by kernel_rfl) (fun _ _ => trivial) ?_
              obtain rfl := Option.some.inj heq
              refine RgH.keep [0, 1, 2, 3, 4, 12, 94] (L' := [(0, .slice Aa0 a0.length ca0), (1, .string a1), (2, .int .i64 a2), (3, .int .i64 a3), (4, .int .i64 a4), (12, .int .i64 y2.1), (94, .bool (decide (a4 < a3)))]) (by kernel_rfl) ?_
              refine RgH.done (by kernel_rfl) ?_
              exact K4
      replace heq := ht2
      refine RunH.reg (by kernel_rfl) ?_
      refine RgH.runk 4 [68, 0, 1, 2, 3, 4, 11, 12, 13, 16, 18] (vs := []) (evs := []) (L' := [(68, .bool (y6.2 != y7.2)), (0, .slice Aa0 a0.length ca0), (1, .string a1), (2, .int .i64 a2), (3, .int .i64 a3), (4, .int .i64 a4), (11, .slice A1 y1.length c1), (12, .int .i64 y2.1), (13, .int .i64 y2.2), (16, .int .i64 y6.1), (18, .int .i64 y7.1)]) (by kernel_rfl) (by kernel_rfl) (fun _ _ => trivial) ?_
      rcases bool_cases (y6.2 != y7.2) with hb4 | hb4
      · replace heq := bif_true hb4 heq
        refine RgH.val1 (v' := .bool true) (congrArg Value.bool hb4) ?_
        refine RgH.runk 18 [0, 1, 2, 3, 4, 12, 13, 82] (vs := []) (evs := []) (L' := [(0, .slice Aa0 a0.length ca0), (1, .string a1), (2, .int .i64 a2), (3, .int .i64 a3), (4, .int .i64 a4), (12, .int .i64 y2.1), (13, .int .i64 y2.2), (82, .bool true)]) (by kernel_rfl) (by kernel_rfl) (fun _ _ => trivial) ?_
        obtain rfl := Option.some.inj heq
        refine RgH.keep [0, 1, 2, 3, 4, 12, 13, 82] (L' := [(0, .slice Aa0 a0.length ca0), (1, .string a1), (2, .int .i64 a2), (3, .int .i64 a3), (4, .int .i64 a4), (12, .int .i64 y2.1), (13, .int .i64 y2.2), (82, .bool true)]) (by kernel_rfl) ?_
        refine RgH.pick 1 [] (cs' := F) (by kernel_rfl) rfl ?_
        refine RgH.done (by kernel_rfl) ?_
        exact K3
      · replace heq := bif_false hb4 heq
        refine RgH.val1 (v' := .bool false) (congrArg Value.bool hb4) ?_
        refine RgH.runk 9 [73, 0, 1, 2, 3, 4, 11, 12, 13] (vs := []) (evs := []) (L' := [(73, .bool (y6.1 != y7.1)), (0, .slice Aa0 a0.length ca0), (1, .string a1), (2, .int .i64 a2), (3, .int .i64 a3), (4, .int .i64 a4), (11, .slice A1 y1.length c1), (12, .int .i64 y2.1), (13, .int .i64 y2.2)]) (by kernel_rfl) (by kernel_rfl) (fun _ _ => trivial) ?_
        rcases bool_cases (y6.1 != y7.1) with hb5 | hb5
        · replace heq := bif_true hb5 heq
          refine RgH.val1 (v' := .bool true) (congrArg Value.bool hb5) ?_
          refine RgH.runk 18 [0, 1, 2, 3, 4, 12, 13, 82] (vs := []) (evs := []) (L' := [(0, .slice Aa0 a0.length ca0), (1, .string a1), (2, .int .i64 a2), (3, .int .i64 a3), (4, .int .i64 a4), (12, .int .i64 y2.1), (13, .int .i64 y2.2), (82, .bool true)]) (by kernel_rfl) (by kernel_rfl) (fun _ _ => trivial) ?_
          obtain rfl := Option.some.inj heq
          refine RgH.keep [0, 1, 2, 3, 4, 12, 13, 82] (L' := [(0, .slice Aa0 a0.length ca0), (1, .string a1), (2, .int .i64 a2), (3, .int .i64 a3), (4, .int .i64 a4), (12, .int .i64 y2.1), (13, .int .i64 y2.2), (82, .bool true)]) (by kernel_rfl) ?_
          refine RgH.pick 1 [] (cs' := F) (by kernel_rfl) rfl ?_
          refine RgH.done (by kernel_rfl) ?_
          exact K3
        · replace heq := bif_false hb5 heq
          refine RgH.val1 (v' := .bool false) (congrArg Value.bool hb5) ?_
          refine RgH.runk 11 [0, 1, 2, 3, 4, 12, 13, 73, 74, 75] (vs := []) (evs := []) (L' := [(0, .slice Aa0 a0.length ca0), (1, .string a1), (2, .int .i64 a2), (3, .int .i64 a3), (4, .int .i64 a4), (12, .int .i64 y2.1), (13, .int .i64 y2.2), (73, .bool false), (74, .slice Aa0 a0.length ca0), (75, .slice A1 y1.length c1)]) (by kernel_rfl) (by kernel_rfl) (fun _ _ => trivial) ?_
          obtain ⟨y8, hy8, heq⟩ := bind_some heq
          refine RgH.does (DoesH.call (d := 76) (g := 22) (args := #[.slice Aa0 a0.length ca0, .slice A1 y1.length c1]) (by kernel_rfl) (slices_Equal_Run_c (a0 := a0) (a1 := y1) (hra0.wk (fun _ h => (.tail _ h))) hca0 rfl (ho1.rw (.head _)) ho1.cap rfl hy8)) ?_
          rintro _ _ _ _ ⟨_, rfl, rfl, rfl, rfl⟩
          refine RgH.runk 15 [79, 0, 1, 2, 3, 4, 12, 13] (vs := []) (evs := []) (L' := [(79, .bool (!y8)), (0, .slice Aa0 a0.length ca0), (1, .string a1), (2, .int .i64 a2), (3, .int .i64 a3), (4, .int .i64 a4), (12, .int .i64 y2.1), (13, .int .i64 y2.2)]) (by kernel_rfl) (by kernel_rfl) (fun _ _ => trivial) ?_
          rcases bool_cases (!y8) with hb6 | hb6
          · replace heq := bif_true hb6 heq
            refine RgH.val1 (v' := .bool true) (congrArg Value.bool hb6) ?_
            refine RgH.runk 18 [0, 1, 2, 3, 4, 12, 13, 82] (vs := []) (evs := []) (L' := [(0, .slice Aa0 a0.length ca0), (1, .string a1), (2, .int .i64 a2), (3, .int .i64 a3), (4, .int .i64 a4), (12, .int .i64 y2.1), (13, .int .i64 y2.2), (82, .bool true)]) (by kernel_rfl) (by kernel_rfl) (fun _ _ => trivial) ?_
            obtain rfl := Option.some.inj heq
            refine RgH.keep [0, 1, 2, 3, 4, 12, 13, 82] (L' := [(0, .slice Aa0 a0.length ca0), (1, .string a1), (2, .int .i64 a2), (3, .int .i64 a3), (4, .int .i64 a4), (12, .int .i64 y2.1), (13, .int .i64 y2.2), (82, .bool true)]) (by kernel_rfl) ?_
            refine RgH.pick 1 [] (cs' := F) (by kernel_rfl) rfl ?_
            refine RgH.done (by kernel_rfl) ?_
            exact K3
          · replace heq := bif_false hb6 heq
            refine RgH.val1 (v' := .bool false) (congrArg Value.bool hb6) ?_
            obtain ⟨y9, hy9, heq⟩ := bind_some heq
            refine RgH.does (DoesH.call (d := 80) (g := 8) (args := (List.toArray [])) (by kernel_rfl) (smithyardlaw9_awake_c  hy9)) ?_
            rintro _ _ _ _ ⟨_, rfl, rfl, rfl, rfl⟩
            refine RgH.runk 18 [0, 1, 2, 3, 4, 12, 13, 82] (vs := []) (evs := []) (L' := [(0, .slice Aa0 a0.length ca0), (1, .string a1), (2, .int .i64 a2), (3, .int .i64 a3), (4, .int .i64 a4), (12, .int .i64 y2.1), (13, .int .i64 y2.2), (82, .bool (!y9))]) (by kernel_rfl) (by kernel_rfl) (fun _ _ => trivial) ?_
            obtain rfl := Option.some.inj heq
            refine RgH.keep [0, 1, 2, 3, 4, 12, 13, 82] (L' := [(0, .slice Aa0 a0.length ca0), (1, .string a1), (2, .int .i64 a2), (3, .int .i64 a3), (4, .int .i64 a4), (12, .int .i64 y2.1), (13, .int .i64 y2.2), (82, .bool (!y9))]) (by kernel_rfl) ?_
            refine RgH.pick 1 [] (cs' := F) (by kernel_rfl) rfl ?_
            refine RgH.done (by kernel_rfl) ?_
            exact K3
  replace heq := ht1
  refine RunH.reg (by kernel_rfl) ?_
  refine RgH.runk 1 [0, 1, 2, 3, 4, 11, 12, 13, 14, 15, 40] (vs := []) (evs := []) (L' := [(0, .slice Aa0 a0.length ca0), (1, .string a1), (2, .int .i64 a2), (3, .int .i64 a3), (4, .int .i64 a4), (11, .slice A1 y1.length c1), (12, .int .i64 y2.1), (13, .int .i64 y2.2), (14, .int .i64 y3.1), (15, .int .i64 y3.2), (40, .slice Aa0 a0.length ca0)]) (by kernel_rfl) (by kernel_rfl) (fun _ _ => trivial) ?_
  obtain ⟨y4, hy4, heq⟩ := bind_some heq
  refine RgH.does (DoesH.call (d := 41) (g := 18) (args := #[.slice Aa0 a0.length ca0]) (by kernel_rfl) (workers_CheckRuns_c (a0 := a0) (hra0.wk (fun _ h => (.tail _ h))) hca0 rfl hy4)) ?_
  rintro _ _ _ _ ⟨_, rfl, rfl, rfl, rfl⟩
  refine RgH.runk 3 [0, 1, 2, 3, 4, 11, 12, 13, 14, 15, 41, 42] (vs := []) (evs := []) (L' := [(0, .slice Aa0 a0.length ca0), (1, .string a1), (2, .int .i64 a2), (3, .int .i64 a3), (4, .int .i64 a4), (11, .slice A1 y1.length c1), (12, .int .i64 y2.1), (13, .int .i64 y2.2), (14, .int .i64 y3.1), (15, .int .i64 y3.2), (41, .int .i64 y4), (42, .slice A1 y1.length c1)]) (by kernel_rfl) (by kernel_rfl) (fun _ _ => trivial) ?_
  obtain ⟨y5, hy5, heq⟩ := bind_some heq
  refine RgH.does (DoesH.call (d := 43) (g := 19) (args := #[.slice A1 y1.length c1]) (by kernel_rfl) (smithyardref9_CheckRuns_c (a0 := y1) (ho1.rw (.head _)) ho1.cap rfl hy5)) ?_
  rintro _ _ _ _ ⟨_, rfl, rfl, rfl, rfl⟩
  refine RgH.runk 6 [45, 0, 1, 2, 3, 4, 11, 12, 13, 14, 15] (vs := []) (evs := []) (L' := [(45, .bool (y4 != y5)), (0, .slice Aa0 a0.length ca0), (1, .string a1), (2, .int .i64 a2), (3, .int .i64 a3), (4, .int .i64 a4), (11, .slice A1 y1.length c1), (12, .int .i64 y2.1), (13, .int .i64 y2.2), (14, .int .i64 y3.1), (15, .int .i64 y3.2)]) (by kernel_rfl) (by kernel_rfl) (fun _ _ => trivial) ?_
  rcases bool_cases (y4 != y5) with hb1 | hb1
  · replace heq := bif_true hb1 heq
    refine RgH.val1 (v' := .bool true) (congrArg Value.bool hb1) ?_
    refine RgH.runk 15 [0, 1, 2, 3, 4, 11, 12, 13, 54] (vs := []) (evs := []) (L' := [(0, .slice Aa0 a0.length ca0), (1, .string a1), (2, .int .i64 a2), (3, .int .i64 a3), (4, .int .i64 a4), (11, .slice A1 y1.length c1), (12, .int .i64 y2.1), (13, .int .i64 y2.2), (54, .bool true)]) (by kernel_rfl) (by kernel_rfl) (fun _ _ => trivial) ?_
    obtain rfl := Option.some.inj heq
    refine RgH.keep [0, 1, 2, 3, 4, 11, 12, 13, 54] (L' := [(0, .slice Aa0 a0.length ca0), (1, .string a1), (2, .int .i64 a2), (3, .int .i64 a3), (4, .int .i64 a4), (11, .slice A1 y1.length c1), (12, .int .i64 y2.1), (13, .int .i64 y2.2), (54, .bool true)]) (by kernel_rfl) ?_
    refine RgH.done (by kernel_rfl) ?_
    exact K2
  · replace heq := bif_false hb1 heq
    refine RgH.val1 (v' := .bool false) (congrArg Value.bool hb1) ?_
    refine RgH.runk 11 [50, 0, 1, 2, 3, 4, 11, 12, 13, 14] (vs := []) (evs := []) (L' := [(50, .bool (y2.2 != y3.2)), (0, .slice Aa0 a0.length ca0), (1, .string a1), (2, .int .i64 a2), (3, .int .i64 a3), (4, .int .i64 a4), (11, .slice A1 y1.length c1), (12, .int .i64 y2.1), (13, .int .i64 y2.2), (14, .int .i64 y3.1)]) (by kernel_rfl) (by kernel_rfl) (fun _ _ => trivial) ?_
    rcases bool_cases (y2.2 != y3.2) with hb2 | hb2
    · replace heq := bif_true hb2 heq
      refine RgH.val1 (v' := .bool true) (congrArg Value.bool hb2) ?_
      refine RgH.runk 15 [0, 1, 2, 3, 4, 11, 12, 13, 54] (vs := []) (evs := []) (L' := [(0, .slice Aa0 a0.length ca0), (1, .string a1), (2, .int .i64 a2), (3, .int .i64 a3), (4, .int .i64 a4), (11, .slice A1 y1.length c1), (12, .int .i64 y2.1), (13, .int .i64 y2.2), (54, .bool true)]) (by kernel_rfl) (by kernel_rfl) (fun _ _ => trivial) ?_
      obtain rfl := Option.some.inj heq
      refine RgH.keep [0, 1, 2, 3, 4, 11, 12, 13, 54] (L' := [(0, .slice Aa0 a0.length ca0), (1, .string a1), (2, .int .i64 a2), (3, .int .i64 a3), (4, .int .i64 a4), (11, .slice A1 y1.length c1), (12, .int .i64 y2.1), (13, .int .i64 y2.2), (54, .bool true)]) (by kernel_rfl) ?_
      refine RgH.done (by kernel_rfl) ?_
      exact K2
    · replace heq := bif_false hb2 heq
      refine RgH.val1 (v' := .bool false) (congrArg Value.bool hb2) ?_
      refine RgH.runk 15 [0, 1, 2, 3, 4, 11, 12, 13, 54] (vs := []) (evs := []) (L' := [(0, .slice Aa0 a0.length ca0), (1, .string a1), (2, .int .i64 a2), (3, .int .i64 a3), (4, .int .i64 a4), (11, .slice A1 y1.length c1), (12, .int .i64 y2.1), (13, .int .i64 y2.2), (54, .bool (y2.1 != y3.1))]) (by kernel_rfl) (by kernel_rfl) (fun _ _ => trivial) ?_
      obtain rfl := Option.some.inj heq
      refine RgH.keep [0, 1, 2, 3, 4, 11, 12, 13, 54] (L' := [(0, .slice Aa0 a0.length ca0), (1, .string a1), (2, .int .i64 a2), (3, .int .i64 a3), (4, .int .i64 a4), (11, .slice A1 y1.length c1), (12, .int .i64 y2.1), (13, .int .i64 y2.2), (54, .bool (y2.1 != y3.1))]) (by kernel_rfl) ?_
      refine RgH.done (by kernel_rfl) ?_
      exact K2
noncomputable def C35 : Ctx := { P := Tryd.prog, f := 35, N := 8, c := bodyOf Tryd.f35 }
def S35 (F : List Ch) (H0 : Hp) (r : List ByteArray) (v : Value) (H : Hp) (cs : List Ch) : Prop := ∃ (A0 : Option Addr) (c0 : Nat) (ch0 : Ch), H0 = H ∧ v = .slice A0 r.length c0 ∧ ch0 :: F = cs ∧ SlOwn Kd.string 9 H A0 c0 r ch0
theorem slices_Clone_string_c {w0 : World} {H : Hp} {F : List Ch} {a0 : List ByteArray} {Aa0 : Option Addr} {na0 ca0 : Nat} {r : List ByteArray} (hra0 : Rw Kd.string H F Aa0 a0) (hca0 : na0 ≤ ca0) (hna0 : na0 = a0.length) (heq : slices_Clone_string.f a0 = some r) : CallsH Tryd.prog 35 #[.slice Aa0 na0 ca0] H w0 F (S35 F H r) := by
  refine calls_of_runH (F := C35) Tryd.func35 (by kernel_rfl) Tryd.ntmps35 (args := [.slice Aa0 na0 ca0]) (by kernel_rfl) ?_
  subst hna0
  unfold slices_Clone_string.f at heq
  obtain ⟨hn, heq⟩ := guard?_some heq
  obtain rfl := Option.some.inj heq
  refine RunH.adm 1 (es' := [.c [0], .c [1]]) (by kernel_rfl) ?_
  refine RunH.reg (by kernel_rfl) ?_
  refine RgH.runk 1 [0] (vs := []) (evs := []) (L' := [(0, .slice Aa0 a0.length ca0)]) (by kernel_rfl) (by kernel_rfl) (fun _ _ => trivial) ?_
  refine RgH.done (by kernel_rfl) ?_
  refine RunH.adm 2 (es' := [.c [1, 0, 0], .c [1, 0, 1], .c [1, 1]]) (by kernel_rfl) ?_
  refine RunH.reg (by kernel_rfl) ?_
  cases Aa0 with
  | none =>
    have h0 : a0 = [] := by
      cases a0 with
      | nil => rfl
      | cons x xs => obtain ⟨b, off, cs, e, fr, hA, _⟩ := hra0 (by simp); cases hA
    subst h0
    refine RgH.runk 2 [4] (vs := []) (evs := []) (L' := [(4, .bool true)]) (by kernel_rfl) (by kernel_rfl) (fun _ _ => trivial) ?_
    refine RgH.done (by kernel_rfl) ?_
    refine RunH.condT (c := true) (by kernel_rfl) rfl ?_
    refine RunH.adm 1 (es' := [.c [1, 0, 1, 0, 0], .c [1, 0, 1, 0, 1], .c [1, 1]]) (by kernel_rfl) ?_
    refine RunH.reg (by kernel_rfl) ?_
    refine RgH.runk 1 [2] (vs := []) (evs := []) (L' := [(2, .slice none 0 0)]) (by kernel_rfl) (by kernel_rfl) (fun _ _ => trivial) ?_
    refine RgH.done (by kernel_rfl) ?_
    refine RunH.nilc ?_
    exact RunH.done (by kernel_rfl) Tryd.func35 (v := .slice none ([] : List ByteArray).length 0) (by kernel_rfl) ⟨none, 0, none, rfl, rfl, rfl, SlOwn.nil⟩
  | some ad =>
    refine RgH.runk 2 [0, 4] (vs := []) (evs := []) (L' := [(0, .slice (some ad) a0.length ca0), (4, .bool false)]) (by kernel_rfl) (by kernel_rfl) (fun _ _ => trivial) ?_
    refine RgH.done (by kernel_rfl) ?_
    refine RunH.condF (c := false) (by kernel_rfl) rfl ?_
    refine RunH.adm 2 (es' := [.c [1, 1, 0], .c [1, 1, 1]]) (by kernel_rfl) ?_
    refine RunH.reg (by kernel_rfl) ?_
    refine RgH.does (DoesH.new (d := 5) (v := fun g => .slice (some ⟨g, 0, none⟩) 0 0) (o := fun g => .cells #[] 9 (0, 0)) (fun g => by kernel_rfl)) ?_
    rintro _ _ _ _ ⟨g, rfl, rfl, rfl⟩
    have ho : SlOwn Kd.string 9 H (some ⟨g, 0, none⟩) 0 ([] : List ByteArray) (some (g, .cells #[] 9 (0, 0))) := .inr ⟨g, 0, #[], rfl, rfl, by simp, by simp [maxLen], by simp, Kd.Rep.nil⟩
    refine RgH.runk 2 [5, 6] (vs := []) (evs := []) (L' := [(5, .slice (some ⟨g, 0, none⟩) 0 0), (6, .slice (some ad) a0.length ca0)]) (by kernel_rfl) (by kernel_rfl) (fun _ _ => trivial) ?_
    refine RgH.does (DoesH.append (d := 7) (k := 0) (t := 47) (e := 9) (bytes := 16) (kd := Kd.string) (n := 0) (m := a0.length) (xs := ([] : List ByteArray)) (ys := a0) (A := some ⟨g, 0, none⟩) (B := some ad) (c := 0) (cB := ca0) (by kernel_rfl) rfl rfl (by kernel_rfl) rfl ho (fun w hh => hra0.rdb (hh.drop 1)) (room_le hn) (by have := room_le hn; omega)) ?_
    rintro _ _ _ _ ⟨A1, c1, ch1, rfl, rfl, rfl, ho1⟩
    refine RgH.runk 4 [2] (vs := []) (evs := []) (L' := [(2, .slice A1 (([] : List ByteArray) ++ a0).length c1)]) (by kernel_rfl) (by kernel_rfl) (fun _ _ => trivial) ?_
    refine RgH.done (by kernel_rfl) ?_
    exact RunH.done (by kernel_rfl) Tryd.func35 (v := .slice A1 (([] : List ByteArray) ++ a0).length c1) (by kernel_rfl) ⟨A1, c1, ch1, rfl, rfl, rfl, ho1⟩
noncomputable def C25 : Ctx := { P := Tryd.prog, f := 25, N := 12, c := bodyOf Tryd.f25 }
def S25 (F : List Ch) (H0 : Hp) (r : Work) (v : Value) (H : Hp) (cs : List Ch) : Prop := ∃ (A0_1 : Option Addr) (c0_1 : Nat) (ch0_1 : Ch) (A0_3 : Option Addr) (c0_3 : Nat) (ch0_3 : Ch), H0 = H ∧ v = .agg #[.string r.Id, .slice A0_1 r.Needs.length c0_1, .int .i64 r.Size, .slice A0_3 r.After.length c0_3] ∧ ch0_1 :: ch0_3 :: F = cs ∧ SlOwn kPair 76 H A0_1 c0_1 r.Needs ch0_1 ∧ SlOwn Kd.string 9 H A0_3 c0_3 r.After ch0_3
theorem smithyardref9_CopyWork_c {w0 : World} {H : Hp} {F : List Ch} {a0 : Work} {Aa0_1 : Option Addr} {na0_1 : Nat} {ca0_1 : Nat} {Aa0_3 : Option Addr} {na0_3 : Nat} {ca0_3 : Nat} {r : Work} (hra0_1 : Rw kPair H F Aa0_1 a0.Needs) (hca0_1 : na0_1 ≤ ca0_1) (hna0_1 : na0_1 = a0.Needs.length) (hra0_3 : Rw Kd.string H F Aa0_3 a0.After) (hca0_3 : na0_3 ≤ ca0_3) (hna0_3 : na0_3 = a0.After.length) (heq : smithyardref9_CopyWork.f a0 = some r) : CallsH Tryd.prog 25 #[.agg #[.string a0.Id, .slice Aa0_1 na0_1 ca0_1, .int .i64 a0.Size, .slice Aa0_3 na0_3 ca0_3]] H w0 (F) (S25 F H r) := by
  refine calls_of_runH (F := C25) Tryd.func25 (by kernel_rfl) Tryd.ntmps25 (args := [.agg #[.string a0.Id, .slice Aa0_1 na0_1 ca0_1, .int .i64 a0.Size, .slice Aa0_3 na0_3 ca0_3]]) (by kernel_rfl) ?_
  subst hna0_1
  subst hna0_3
  unfold smithyardref9_CopyWork.f at heq
  refine RunH.adm 1 (es' := [.c [0], .c [1]]) (by kernel_rfl) ?_
  refine RunH.reg (by kernel_rfl) ?_
  refine RgH.does (DoesH.new (d := 1) (v := fun g => .pointer (some ⟨g, 0, none⟩)) (o := fun g => .cells #[.string a0.Id, .slice Aa0_1 a0.Needs.length ca0_1, .int .i64 a0.Size, .slice Aa0_3 a0.After.length ca0_3] 49 (0, 0)) (fun g => by kernel_rfl)) ?_
  rintro _ _ _ _ ⟨g1, rfl, rfl, rfl⟩
  refine RgH.does (DoesH.new (d := 2) (v := fun g => .pointer (some ⟨g, 0, none⟩)) (o := fun g => .cells #[.string ByteArray.empty, .slice none 0 0, .int .i64 0, .slice none 0 0] 49 (0, 0)) (fun g => by kernel_rfl)) ?_
  rintro _ _ _ _ ⟨g2, rfl, rfl, rfl⟩
  refine RgH.done (by kernel_rfl) ?_
  refine RunH.adm 1 (es' := [.c [1, 0], .c [1, 1]]) (by kernel_rfl) ?_
  refine RunH.keep [1, 2] (L' := [(1, .pointer (some ⟨g1, 0, none⟩)), (2, .pointer (some ⟨g2, 0, none⟩))]) (by kernel_rfl) ?_
  refine RunH.draw (fun w => Heap H w0 w ((some (g2, .cells #[.string ByteArray.empty, .slice none 0 0, .int .i64 0, .slice none 0 0] 49 (0, 0))) :: (some (g1, .cells #[.string a0.Id, .slice Aa0_1 a0.Needs.length ca0_1, .int .i64 a0.Size, .slice Aa0_3 a0.After.length ca0_3] 49 (0, 0))) :: F)) (fun w => Heap H w0 w ((some (g2, .cells #[.string ByteArray.empty, .slice none 0 0, .int .i64 0, .slice none 0 0] 49 (0, 0))) :: F)) [false, false, false, false, false, false, false, true, true, true] (n := 10) (ls := [false, false, false, false, false, false, false, false, false, false]) (by kernel_rfl) (by kernel_rfl) (by kernel_rfl) rfl ?_
  refine DrH.run [0, 1, 3, 4] (m := 6) (ls' := [true, true, false, true, true, false, false, false, false, false]) (vs := [.slice Aa0_1 a0.Needs.length ca0_1, .slice Aa0_3 a0.After.length ca0_3]) (evs := [.load ⟨g1, 1, none⟩ (.slice Aa0_1 a0.Needs.length ca0_1), .load ⟨g1, 3, none⟩ (.slice Aa0_3 a0.After.length ca0_3)]) (L' := [(7, .slice Aa0_3 a0.After.length ca0_3), (6, .pointer (some ⟨g1, 3, none⟩)), (4, .slice Aa0_1 a0.Needs.length ca0_1), (3, .pointer (some ⟨g1, 1, none⟩)), (1, .pointer (some ⟨g1, 0, none⟩)), (2, .pointer (some ⟨g2, 0, none⟩))]) (by kernel_rfl) (fun w hh => hh.pick 2 [0, 1] (by kernel_rfl)) (fun w hh => hh.pick 2 [0] (by kernel_rfl)) (by kernel_rfl) (fun w hh => ⟨(hh.box 1 rfl rfl), (hh.box 1 rfl rfl)⟩) (by kernel_rfl) ?_
  refine DrH.keep [1, 2, 4, 7] (L' := [(1, .pointer (some ⟨g1, 0, none⟩)), (2, .pointer (some ⟨g2, 0, none⟩)), (4, .slice Aa0_1 a0.Needs.length ca0_1), (7, .slice Aa0_3 a0.After.length ca0_3)]) (by kernel_rfl) ?_
  obtain ⟨y1, hy1, heq⟩ := bind_some heq
  refine DrH.does (n := 5) (ls' := [true, true, true, true, true, false, false, false, false, false]) 2 (by kernel_rfl) rfl (DoesH.call (d := 5) (g := 45) (args := #[.slice Aa0_1 a0.Needs.length ca0_1]) (by kernel_rfl) (slices_Clone_Pair_c (a0 := a0.Needs) (hra0_1.wk (fun _ h => (.tail _ (.tail _ h)))) hca0_1 rfl hy1)) ?_
  rintro _ _ _ _ ⟨_, rfl, A1, c1, ch1, rfl, rfl, rfl, ho1⟩
  refine ⟨fun w hh => ⟨(fun w hh => hh.pick 3 [1] (by kernel_rfl)) w hh, fun _ => (fun w hh => hh.pick 3 [1, 2] (by kernel_rfl)) w hh⟩, ?_⟩
  refine DrH.run [6] (m := 4) (ls' := [true, true, true, true, true, false, true, false, false, false]) (vs := []) (evs := []) (L' := [(9, .pointer (some ⟨g1, 1, none⟩)), (5, .slice A1 y1.length c1), (1, .pointer (some ⟨g1, 0, none⟩)), (2, .pointer (some ⟨g2, 0, none⟩)), (4, .slice Aa0_1 a0.Needs.length ca0_1), (7, .slice Aa0_3 a0.After.length ca0_3)]) (by kernel_rfl) (fun w hh => hh.pick 3 [1, 2] (by kernel_rfl)) (fun w hh => hh.pick 2 [0] (by kernel_rfl)) (by kernel_rfl) (fun _ _ => trivial) (by kernel_rfl) ?_
  refine DrH.keep [1, 2, 5, 7, 9] (L' := [(1, .pointer (some ⟨g1, 0, none⟩)), (2, .pointer (some ⟨g2, 0, none⟩)), (5, .slice A1 y1.length c1), (7, .slice Aa0_3 a0.After.length ca0_3), (9, .pointer (some ⟨g1, 1, none⟩))]) (by kernel_rfl) ?_
  obtain ⟨y2, hy2, heq⟩ := bind_some heq
  refine DrH.does (n := 3) (ls' := [true, true, true, true, true, true, true, false, false, false]) 5 (by kernel_rfl) rfl (DoesH.call (d := 8) (g := 35) (args := #[.slice Aa0_3 a0.After.length ca0_3]) (by kernel_rfl) (slices_Clone_string_c (a0 := a0.After) (hra0_3.wk (fun _ h => (.tail _ (.tail _ (.tail _ h))))) hca0_3 rfl hy2)) ?_
  rintro _ _ _ _ ⟨_, rfl, A2, c2, ch2, rfl, rfl, rfl, ho2⟩
  refine ⟨fun w hh => ⟨(fun w hh => hh.pick 4 [2] (by kernel_rfl)) w hh, fun _ => (fun w hh => hh.pick 4 [2, 3] (by kernel_rfl)) w hh⟩, ?_⟩
  refine DrH.keep [1, 2, 5, 8, 9] (L' := [(1, .pointer (some ⟨g1, 0, none⟩)), (2, .pointer (some ⟨g2, 0, none⟩)), (5, .slice A1 y1.length c1), (8, .slice A2 y2.length c2), (9, .pointer (some ⟨g1, 1, none⟩))]) (by kernel_rfl) ?_
  refine DrH.does (n := 2) (ls' := [true, true, true, true, true, true, true, true, false, false]) 7 (by kernel_rfl) rfl (DoesH.store (k := 3) (g := g1) (off := 1) (v := .slice A1 y1.length c1) (cells' := #[.string a0.Id, .slice A1 y1.length c1, .int .i64 a0.Size, .slice Aa0_3 a0.After.length ca0_3]) (by kernel_rfl) rfl (by kernel_rfl) (by kernel_rfl)) ?_
  rintro _ _ _ _ ⟨rfl, rfl, rfl⟩
  refine ⟨fun w hh => ⟨(fun w hh => hh.pick 4 [2] (by kernel_rfl)) w hh, fun h => by cases h⟩, ?_⟩
  refine DrH.run2 [8] (m := 1) (ls' := [true, true, true, true, true, true, true, true, true, false]) (vs := []) (evs := []) (L' := [(10, .pointer (some ⟨g1, 3, none⟩)), (1, .pointer (some ⟨g1, 0, none⟩)), (2, .pointer (some ⟨g2, 0, none⟩)), (5, .slice A1 y1.length c1), (8, .slice A2 y2.length c2), (9, .pointer (some ⟨g1, 1, none⟩))]) (by kernel_rfl) (fun w hh => hh.pick 4 [2] (by kernel_rfl)) (by kernel_rfl) (fun _ _ => trivial) (by kernel_rfl) ?_
  refine DrH.keep [1, 2, 8, 10] (L' := [(1, .pointer (some ⟨g1, 0, none⟩)), (2, .pointer (some ⟨g2, 0, none⟩)), (8, .slice A2 y2.length c2), (10, .pointer (some ⟨g1, 3, none⟩))]) (by kernel_rfl) ?_
  refine DrH.does (n := 0) (ls' := [true, true, true, true, true, true, true, true, true, true]) 9 (by kernel_rfl) rfl (DoesH.store (k := 3) (g := g1) (off := 3) (v := .slice A2 y2.length c2) (cells' := #[.string a0.Id, .slice A1 y1.length c1, .int .i64 a0.Size, .slice A2 y2.length c2]) (by kernel_rfl) rfl (by kernel_rfl) (by kernel_rfl)) ?_
  rintro _ _ _ _ ⟨rfl, rfl, rfl⟩
  refine ⟨fun w hh => ⟨(fun w hh => hh.pick 4 [2] (by kernel_rfl)) w hh, fun h => by cases h⟩, ?_⟩
  refine DrH.keep [1, 2] (L' := [(1, .pointer (some ⟨g1, 0, none⟩)), (2, .pointer (some ⟨g2, 0, none⟩))]) (by kernel_rfl) ?_
  refine DrH.done (by kernel_rfl) ?_
  refine RunH.adm 1 (es' := [.c [1, 1, 0], .c [1, 1, 1]]) (by kernel_rfl) ?_
  refine RunH.reg (by kernel_rfl) ?_
  refine RgH.runk 1 [2, 11] (vs := [.string a0.Id, .slice A1 y1.length c1, .int .i64 a0.Size, .slice A2 y2.length c2]) (evs := [.load ⟨g1, 0, none⟩ (.string a0.Id), .load ⟨g1, 1, none⟩ (.slice A1 y1.length c1), .load ⟨g1, 2, none⟩ (.int .i64 a0.Size), .load ⟨g1, 3, none⟩ (.slice A2 y2.length c2)]) (L' := [(2, .pointer (some ⟨g2, 0, none⟩)), (11, .agg #[.string a0.Id, .slice A1 y1.length c1, .int .i64 a0.Size, .slice A2 y2.length c2])]) (by kernel_rfl) (by kernel_rfl) (fun w hh => ⟨(hh.box 3 rfl rfl), (hh.box 3 rfl rfl), (hh.box 3 rfl rfl), (hh.box 3 rfl rfl)⟩) ?_
  refine RgH.does (DoesH.store (k := 2) (g := g2) (off := 0) (v := .agg #[.string a0.Id, .slice A1 y1.length c1, .int .i64 a0.Size, .slice A2 y2.length c2]) (cells' := #[.string a0.Id, .slice A1 y1.length c1, .int .i64 a0.Size, .slice A2 y2.length c2]) (by kernel_rfl) rfl (by kernel_rfl) (by kernel_rfl)) ?_
  rintro _ _ _ _ ⟨rfl, rfl, rfl⟩
  refine RgH.done (by kernel_rfl) ?_
  obtain rfl := Option.some.inj heq
  refine RunH.pick 4 [2, 1, 0] (cs' := (some (g2, .cells #[.string a0.Id, .slice A1 y1.length c1, .int .i64 a0.Size, .slice A2 y2.length c2] 49 (0, 0))) :: ch1 :: ch2 :: F) (by kernel_rfl) rfl ?_
  exact RunH.doneM' 1 (vs := [.agg #[.string a0.Id, .slice A1 y1.length c1, .int .i64 a0.Size, .slice A2 y2.length c2]]) (v := .agg #[.string a0.Id, .slice A1 y1.length c1, .int .i64 a0.Size, .slice A2 y2.length c2]) (by kernel_rfl) Tryd.func25 (fun w hh => show ResAll _ _ _ [.cell 2 49] _ from ⟨⟨⟨g2, 0, none⟩, by kernel_rfl, trS_run _ (vs := [.string a0.Id, .slice A1 y1.length c1, .int .i64 a0.Size, .slice A2 y2.length c2]) (r := []) (es := [.load ⟨g2, 0, none⟩ (.string a0.Id), .load ⟨g2, 1, none⟩ (.slice A1 y1.length c1), .load ⟨g2, 2, none⟩ (.int .i64 a0.Size), .load ⟨g2, 3, none⟩ (.slice A2 y2.length c2)]) (by kernel_rfl) ⟨(hh.box 0 rfl rfl), (hh.box 0 rfl rfl), (hh.box 0 rfl rfl), (hh.box 0 rfl rfl)⟩⟩, trivial⟩) rfl (cs' := ch1 :: ch2 :: F) rfl ⟨A1, c1, ch1, A2, c2, ch2, rfl, rfl, rfl, ho1, ho2⟩
noncomputable def C24 : Ctx := { P := Tryd.prog, f := 24, N := 19, c := bodyOf Tryd.f24 }
def S24 (F : List Ch) (H0 : Hp) (r : (List Work)) (v : Value) (H : Hp) (cs : List Ch) : Prop := ∃ (A0 : Option Addr) (c0 : Nat) (ch0 : Ch), v = .slice A0 r.length c0 ∧ ch0 :: F = cs ∧ SlOwn kWork 49 H A0 c0 r ch0
theorem smithyardref9_CopyWorks.e1_c {w0 : World} {H0 : Hp} {F : List Ch} {r : (List Work)} : ∀ (H : Hp) (v_out3 : List Work) (Av_out3 : Option Addr) (nv_out3 : Nat) (cv_out3 : Nat) (chv_out3 : Ch) , SlOwn kWork 49 H Av_out3 cv_out3 v_out3 chv_out3 → nv_out3 = v_out3.length → smithyardref9_CopyWorks.e1 v_out3 = some r → RunH C24 (S24 F H0 r) H0 w0 [.c [1, 1, 1, 0], .c [1, 1, 1, 1]] [(3, .slice Av_out3 nv_out3 cv_out3)] H (chv_out3 :: F) := by
  intro H v_out3 Av_out3 nv_out3 cv_out3 chv_out3 hov_out3 hnv_out3 heq
  subst hnv_out3
  unfold smithyardref9_CopyWorks.e1 at heq
  refine RunH.reg (by kernel_rfl) ?_
  refine RgH.runk 2 [2] (vs := []) (evs := []) (L' := [(2, .slice Av_out3 v_out3.length cv_out3)]) (by kernel_rfl) (by kernel_rfl) (fun _ _ => trivial) ?_
  refine RgH.done (by kernel_rfl) ?_
  obtain rfl := Option.some.inj heq
  exact RunH.done (by kernel_rfl) Tryd.func24 (v := .slice Av_out3 v_out3.length cv_out3) (by kernel_rfl) ⟨Av_out3, cv_out3, chv_out3, rfl, rfl, hov_out3⟩
theorem smithyardref9_CopyWorks.l2_c {w0 : World} {H0 : Hp} {F : List Ch} {r : (List Work)} (e1 : (List Work) → Option (List Work))
    (he1 : ∀ (H : Hp) (v_out3 : List Work) (Av_out3 : Option Addr) (nv_out3 : Nat) (cv_out3 : Nat) (chv_out3 : Ch) , SlOwn kWork 49 H Av_out3 cv_out3 v_out3 chv_out3 → nv_out3 = v_out3.length → e1 v_out3 = some r → RunH C24 (S24 F H0 r) H0 w0 [.c [1, 1, 1, 0], .c [1, 1, 1, 1]] [(3, .slice Av_out3 nv_out3 cv_out3)] H (chv_out3 :: F)) : ∀ (k : Nat), ∀ (H : Hp) (a0 : List Work) (Aa0 : Option Addr) (ca0 : Nat) (v_out3 : List Work) (Av_out3 : Option Addr) (nv_out3 : Nat) (cv_out3 : Nat) (chv_out3 : Ch) (v8 : Int) , Rw kWork H F Aa0 a0 → a0.length ≤ ca0 → SlOwn kWork 49 H Av_out3 cv_out3 v_out3 chv_out3 → nv_out3 = v_out3.length → smithyardref9_CopyWorks.l2 e1 k a0 v_out3 v8 = some r → RunH C24 (S24 F H0 r) H0 w0 [.c [1, 1, 0, 1, 0, 0], .l [1, 1, 0, 1, 0, 0], .b 0, .c [1, 1, 1]] [(3, .slice Av_out3 nv_out3 cv_out3), (6, .slice Aa0 a0.length ca0), (7, .int .i64 (a0.length : Int)), (8, .int .i64 v8)] H (chv_out3 :: F) := by
  intro k
  induction k with
  | zero => intro H a0 Aa0 ca0 v_out3 Av_out3 nv_out3 cv_out3 chv_out3 v8 hra0 hca0 hov_out3 hnv_out3 heq; exact nomatch (show (none : Option (List Work)) = some r from heq)
  | succ k ihk =>
    intro H a0 Aa0 ca0 v_out3 Av_out3 nv_out3 cv_out3 chv_out3 v8 hra0 hca0 hov_out3 hnv_out3 heq
    subst hnv_out3
    rw [smithyardref9_CopyWorks.l2] at heq
    refine RunH.adm 1 (es' := [.c [1, 1, 0, 1, 0, 0, 0], .c [1, 1, 0, 1, 0, 0, 1], .l [1, 1, 0, 1, 0, 0], .b 0, .c [1, 1, 1]]) (by kernel_rfl) ?_
    refine RunH.reg (by kernel_rfl) ?_
    refine RgH.runk 1 [3, 6, 7, 8, 9] (vs := []) (evs := []) (L' := [(3, .slice Av_out3 v_out3.length cv_out3), (6, .slice Aa0 a0.length ca0), (7, .int .i64 (a0.length : Int)), (8, .int .i64 v8), (9, .bool (decide (v8 < (a0.length : Int))))]) (by kernel_rfl) (by kernel_rfl) (fun _ _ => trivial) ?_
    refine RgH.done (by kernel_rfl) ?_
    refine RunH.adm 1 (es' := [.c [1, 1, 0, 1, 0, 0, 1, 0], .c [1, 1, 0, 1, 0, 0, 1, 1], .l [1, 1, 0, 1, 0, 0], .b 0, .c [1, 1, 1]]) (by kernel_rfl) ?_
    rcases bool_cases (decide (v8 < (a0.length : Int))) with hb1 | hb1
    · replace heq := bif_true hb1 heq
      refine RunH.condT (c := decide (v8 < (a0.length : Int))) (by kernel_rfl) hb1 ?_
      refine RunH.adm 4 (es' := [.c [1, 1, 0, 1, 0, 0, 1, 1, 0, 0, 0], .c [1, 1, 0, 1, 0, 0, 1, 1, 0, 0, 1], .b 1, .c [1, 1, 0, 1, 0, 0, 1, 1, 1], .l [1, 1, 0, 1, 0, 0], .b 0, .c [1, 1, 1]]) (by kernel_rfl) ?_
      refine RunH.reg (by kernel_rfl) ?_
      obtain ⟨x1, hx1, heq⟩ := bind_some heq
      obtain ⟨ha1, cs1, hK1, hcc1⟩ := hra0.get hx1
      obtain ⟨A1, c1, A2, c2, rfl, hc1, hr1, hc2, hr2⟩ := kWork_open hK1
      refine RgH.runk 2 [3, 6, 7, 8, 11] (vs := [.string x1.Id, .slice A1 x1.Needs.length c1, .int .i64 x1.Size, .slice A2 x1.After.length c2]) (evs := [.need (Aa0 = some (adr Aa0) ∧ (0 : Int) ≤ v8 ∧ v8 < ((a0.length : Nat) : Int)), .load (((adr Aa0).add (v8.toNat * 4)).add 0) (.string x1.Id), .load (((adr Aa0).add (v8.toNat * 4)).add 1) (.slice A1 x1.Needs.length c1), .load (((adr Aa0).add (v8.toNat * 4)).add 2) (.int .i64 x1.Size), .load (((adr Aa0).add (v8.toNat * 4)).add 3) (.slice A2 x1.After.length c2)]) (L' := [(3, .slice Av_out3 v_out3.length cv_out3), (6, .slice Aa0 a0.length ca0), (7, .int .i64 (a0.length : Int)), (8, .int .i64 v8), (11, .agg #[.string x1.Id, .slice A1 x1.Needs.length c1, .int .i64 x1.Size, .slice A2 x1.After.length c2])]) (by kernel_rfl) (by kernel_rfl) (fun w hh => ⟨⟨ha1, (at?_some hx1).1, (at?_some hx1).2.1⟩, (hcc1 _ _ (hh.drop 1) 0 _ rfl), (hcc1 _ _ (hh.drop 1) 1 _ rfl), (hcc1 _ _ (hh.drop 1) 2 _ rfl), (hcc1 _ _ (hh.drop 1) 3 _ rfl)⟩) ?_
      refine RgH.does (DoesH.new (d := 5) (v := fun g => .pointer (some ⟨g, 0, none⟩)) (o := fun g => .cells #[.string ByteArray.empty, .slice none 0 0, .int .i64 0, .slice none 0 0] 49 (0, 0)) (fun g => by kernel_rfl)) ?_
      rintro _ _ _ _ ⟨g1, rfl, rfl, rfl⟩
      refine RgH.does (DoesH.store (k := 0) (g := g1) (off := 0) (v := .agg #[.string x1.Id, .slice A1 x1.Needs.length c1, .int .i64 x1.Size, .slice A2 x1.After.length c2]) (cells' := #[.string x1.Id, .slice A1 x1.Needs.length c1, .int .i64 x1.Size, .slice A2 x1.After.length c2]) (by kernel_rfl) rfl (by kernel_rfl) (by kernel_rfl)) ?_
      rintro _ _ _ _ ⟨rfl, rfl, rfl⟩
      refine RgH.done (by kernel_rfl) ?_
      refine RunH.reg (by kernel_rfl) ?_
      refine RgH.runk 2 [6, 7, 8, 12, 13] (vs := [.string x1.Id, .slice A1 x1.Needs.length c1, .int .i64 x1.Size, .slice A2 x1.After.length c2]) (evs := [.load ⟨g1, 0, none⟩ (.string x1.Id), .load ⟨g1, 1, none⟩ (.slice A1 x1.Needs.length c1), .load ⟨g1, 2, none⟩ (.int .i64 x1.Size), .load ⟨g1, 3, none⟩ (.slice A2 x1.After.length c2)]) (L' := [(6, .slice Aa0 a0.length ca0), (7, .int .i64 (a0.length : Int)), (8, .int .i64 v8), (12, .slice Av_out3 v_out3.length cv_out3), (13, .agg #[.string x1.Id, .slice A1 x1.Needs.length c1, .int .i64 x1.Size, .slice A2 x1.After.length c2])]) (by kernel_rfl) (by kernel_rfl) (fun w hh => ⟨(hh.box 0 rfl rfl), (hh.box 0 rfl rfl), (hh.box 0 rfl rfl), (hh.box 0 rfl rfl)⟩) ?_
      obtain ⟨y1, hy1, heq⟩ := bind_some heq
      refine RgH.does (DoesH.call (d := 14) (g := 25) (args := #[.agg #[.string x1.Id, .slice A1 x1.Needs.length c1, .int .i64 x1.Size, .slice A2 x1.After.length c2]]) (by kernel_rfl) (smithyardref9_CopyWork_c (a0 := x1) (Rw.of hr1) hc1 rfl (Rw.of hr2) hc2 rfl hy1)) ?_
      rintro _ _ _ _ ⟨_, rfl, A3, c3, ch1, A4, c4, ch2, rfl, rfl, rfl, ho1, ho2⟩
      have hc3 := ho1.cap
      refine Hs.freezeS ho1 (fun H hl hr3 => ?_)
      replace hra0 := hra0.mono hl
      replace hov_out3 := hov_out3.mono hl
      replace hr1 := hr1.mono hl
      replace hr2 := hr2.mono hl
      replace ho2 := ho2.mono hl
      have hc4 := ho2.cap
      refine Hs.freezeS ho2 (fun H hl hr4 => ?_)
      replace hra0 := hra0.mono hl
      replace hov_out3 := hov_out3.mono hl
      replace hr1 := hr1.mono hl
      replace hr2 := hr2.mono hl
      replace hr3 := hr3.mono hl
      refine RgH.does (DoesH.new (d := 15) (v := fun g => .slice (some ⟨g, 0, none⟩) 1 1) (o := fun g => .cells #[.string y1.Id, .slice A3 y1.Needs.length c3, .int .i64 y1.Size, .slice A4 y1.After.length c4] 49 (0, 0)) (fun g => by kernel_rfl)) ?_
      rintro _ _ _ _ ⟨g2, rfl, rfl, rfl⟩
      have ho3 : SlOwn kWork 49 H (some ⟨g2, 0, none⟩) 1 ([y1] : List Work) (some (g2, .cells #[.string y1.Id, .slice A3 y1.Needs.length c3, .int .i64 y1.Size, .slice A4 y1.After.length c4] 49 (0, 0))) := SlOwn.lit (xs := ([y1] : List Work)) (by kernel_rfl) (Nat.le_of_ble_eq_true (by kernel_rfl)) (Kd.Rep.one (kWork_mk hc3 hr3 hc4 hr4))
      obtain ⟨hn1, heq⟩ := guard?_some heq
      refine RgH.does (DoesH.append (d := 16) (k := 2) (t := 46) (e := 49) (bytes := 72) (kd := kWork) (n := v_out3.length) (m := 1) (xs := v_out3) (ys := ([y1] : List Work)) (A := Av_out3) (B := (some ⟨g2, 0, none⟩)) (c := cv_out3) (cB := 1) (by kernel_rfl) rfl rfl (by kernel_rfl) rfl hov_out3 (fun w hh => ho3.rdb (hh.chin 0 rfl)) (room_le hn1) (by have := room_le hn1; omega)) ?_
      rintro _ _ _ _ ⟨A5, c5, ch3, rfl, rfl, rfl, ho4⟩
      refine RgH.runk 6 [3, 6, 7, 8] (vs := []) (evs := []) (L' := [(3, .slice A5 ((v_out3 ++ ([y1] : List Work)).length) c5), (6, .slice Aa0 a0.length ca0), (7, .int .i64 (a0.length : Int)), (8, .int .i64 v8)]) (by kernel_rfl) (by kernel_rfl) (fun _ _ => trivial) ?_
      refine RgH.done (by kernel_rfl) ?_
      refine RunH.adm 1 (es' := [.c [1, 1, 0, 1, 0, 0, 1, 1, 1], .l [1, 1, 0, 1, 0, 0], .b 0, .c [1, 1, 1]]) (by kernel_rfl) ?_
      refine RunH.reg (by kernel_rfl) ?_
      refine RgH.runk 2 [3, 6, 7, 8] (vs := []) (evs := []) (L' := [(3, .slice A5 ((v_out3 ++ ([y1] : List Work)).length) c5), (6, .slice Aa0 a0.length ca0), (7, .int .i64 (a0.length : Int)), (8, .int .i64 (w64 (v8 + 1)))]) (by kernel_rfl) (by kernel_rfl) (fun _ _ => trivial) ?_
      refine RgH.done (by kernel_rfl) ?_
      refine RunH.adm 1 (es' := [.c [1, 1, 0, 1, 0, 0], .l [1, 1, 0, 1, 0, 0], .b 0, .c [1, 1, 1]]) (by kernel_rfl) ?_
      refine RunH.keep [3, 6, 7, 8] (L' := [(3, .slice A5 ((v_out3 ++ ([y1] : List Work)).length) c5), (6, .slice Aa0 a0.length ca0), (7, .int .i64 (a0.length : Int)), (8, .int .i64 (w64 (v8 + 1)))]) (by kernel_rfl) ?_
      refine RunH.pick 3 [2] (cs' := ch3 :: F) (by kernel_rfl) rfl ?_
      exact ihk _ a0 _ _ (v_out3 ++ ([y1] : List Work)) _ _ _ _ (w64 (v8 + 1)) hra0 hca0 ho4 rfl heq
    · replace heq := bif_false hb1 heq
      refine RunH.condF (c := decide (v8 < (a0.length : Int))) (by kernel_rfl) hb1 ?_
      refine RunH.adm 2 (es' := [.c [1, 1, 1, 0], .c [1, 1, 1, 1]]) (by kernel_rfl) ?_
      refine RunH.keep [3] (L' := [(3, .slice Av_out3 v_out3.length cv_out3)]) (by kernel_rfl) ?_
      exact he1 _ v_out3 _ _ _ _ hov_out3 rfl heq
theorem smithyardref9_CopyWorks_c {w0 : World} {H0 : Hp} {F : List Ch} {a0 : List Work} {Aa0 : Option Addr} {na0 : Nat} {ca0 : Nat} {r : (List Work)} (hra0 : Rw kWork H0 F Aa0 a0) (hca0 : na0 ≤ ca0) (hna0 : na0 = a0.length) (heq : smithyardref9_CopyWorks.f a0 = some r) : CallsH Tryd.prog 24 #[.slice Aa0 na0 ca0] H0 w0 (F) (S24 F H0 r) := by
  refine calls_of_runH (F := C24) Tryd.func24 (by kernel_rfl) Tryd.ntmps24 (args := [.slice Aa0 na0 ca0]) (by kernel_rfl) ?_
  subst hna0
  unfold smithyardref9_CopyWorks.f at heq
  suffices key : ∀ (H : Hp), Rw kWork H F Aa0 a0 → RunH C24 (S24 F H0 r) H0 w0 [.c []] (argL 0 [.slice Aa0 (a0.length) ca0]) H (F) from key H0 hra0
  intro H hra0
  refine RunH.adm 1 (es' := [.c [0], .c [1]]) (by kernel_rfl) ?_
  refine RunH.reg (by kernel_rfl) ?_
  refine RgH.runk 1 [0] (vs := []) (evs := []) (L' := [(0, .slice Aa0 a0.length ca0)]) (by kernel_rfl) (by kernel_rfl) (fun _ _ => trivial) ?_
  refine RgH.done (by kernel_rfl) ?_
  refine RunH.adm 1 (es' := [.c [1, 0], .c [1, 1]]) (by kernel_rfl) ?_
  refine RunH.reg (by kernel_rfl) ?_
  refine RgH.runk 1 [0, 3] (vs := []) (evs := []) (L' := [(0, .slice Aa0 a0.length ca0), (3, .slice none 0 0)]) (by kernel_rfl) (by kernel_rfl) (fun _ _ => trivial) ?_
  refine RgH.done (by kernel_rfl) ?_
  refine RunH.adm 2 (es' := [.c [1, 1, 0, 0], .c [1, 1, 0, 1], .c [1, 1, 1]]) (by kernel_rfl) ?_
  refine RunH.reg (by kernel_rfl) ?_
  refine RgH.runk 3 [3, 6, 7, 8] (vs := []) (evs := []) (L' := [(3, .slice none 0 0), (6, .slice Aa0 a0.length ca0), (7, .int .i64 (a0.length : Int)), (8, .int .i64 0)]) (by kernel_rfl) (by kernel_rfl) (fun _ _ => trivial) ?_
  refine RgH.done (by kernel_rfl) ?_
  refine RunH.adm 2 (es' := [.c [1, 1, 0, 1, 0, 0], .l [1, 1, 0, 1, 0, 0], .b 0, .c [1, 1, 1]]) (by kernel_rfl) ?_
  refine RunH.nilc ?_
  have ho5 : SlOwn kWork 49 H none 0 ([] : List Work) none := SlOwn.nil
  refine RunH.keep [3, 6, 7, 8] (L' := [(3, .slice none 0 0), (6, .slice Aa0 a0.length ca0), (7, .int .i64 (a0.length : Int)), (8, .int .i64 0)]) (by kernel_rfl) ?_
  exact ((smithyardref9_CopyWorks.l2_c (e1 := smithyardref9_CopyWorks.e1) (smithyardref9_CopyWorks.e1_c)) big) _ a0 _ _ ([] : List Work) _ _ _ _ 0 hra0 hca0 ho5 rfl heq
noncomputable def C85 : Ctx := { P := Tryd.prog, f := 85, N := 9, c := bodyOf Tryd.f85 }
def S85 (F : List Ch) (H0 : Hp) (r : Int) (v : Value) (H : Hp) (cs : List Ch) : Prop := H0 = H ∧ v = .int .i64 r ∧ F = cs
theorem workers_workAt_1_c {w0 : World} {H : Hp} {F : List Ch} {a0 : Work} {Aa0_1 : Option Addr} {na0_1 : Nat} {ca0_1 : Nat} {Aa0_3 : Option Addr} {na0_3 : Nat} {ca0_3 : Nat} {a1 : ByteArray} {r : Int} (hra0_1 : Rw kPair H F Aa0_1 a0.Needs) (hca0_1 : na0_1 ≤ ca0_1) (hna0_1 : na0_1 = a0.Needs.length) (hra0_3 : Rw Kd.string H F Aa0_3 a0.After) (hca0_3 : na0_3 ≤ ca0_3) (hna0_3 : na0_3 = a0.After.length) (heq : workers_workAt_1.f a0 a1 = some r) : CallsH Tryd.prog 85 #[.agg #[.string a0.Id, .slice Aa0_1 na0_1 ca0_1, .int .i64 a0.Size, .slice Aa0_3 na0_3 ca0_3], .string a1] H w0 (F) (S85 F H r) := by
  refine calls_of_runH (F := C85) Tryd.func85 (by kernel_rfl) Tryd.ntmps85 (args := [.agg #[.string a0.Id, .slice Aa0_1 na0_1 ca0_1, .int .i64 a0.Size, .slice Aa0_3 na0_3 ca0_3], .string a1]) (by kernel_rfl) ?_
  subst hna0_1
  subst hna0_3
  unfold workers_workAt_1.f at heq
  refine RunH.adm 1 (es' := [.c [0], .c [1]]) (by kernel_rfl) ?_
  refine RunH.reg (by kernel_rfl) ?_
  refine RgH.does (DoesH.new (d := 2) (v := fun g => .pointer (some ⟨g, 0, none⟩)) (o := fun g => .cells #[.string a0.Id, .slice Aa0_1 a0.Needs.length ca0_1, .int .i64 a0.Size, .slice Aa0_3 a0.After.length ca0_3] 49 (0, 0)) (fun g => by kernel_rfl)) ?_
  rintro _ _ _ _ ⟨g1, rfl, rfl, rfl⟩
  refine RgH.runk 2 [1, 2] (vs := []) (evs := []) (L' := [(1, .string a1), (2, .pointer (some ⟨g1, 0, none⟩))]) (by kernel_rfl) (by kernel_rfl) (fun _ _ => trivial) ?_
  refine RgH.done (by kernel_rfl) ?_
  refine RunH.adm 1 (es' := [.c [1, 0], .c [1, 1]]) (by kernel_rfl) ?_
  refine RunH.reg (by kernel_rfl) ?_
  refine RgH.runk 3 [6, 7] (vs := [.string a0.Id]) (evs := [.load ⟨g1, 0, none⟩ (.string a0.Id)]) (L' := [(6, .string a0.Id), (7, .string a1)]) (by kernel_rfl) (by kernel_rfl) (fun w hh => (hh.box 0 rfl rfl)) ?_
  obtain ⟨y1, hy1, heq⟩ := bind_some heq
  refine RgH.does (DoesH.call (d := 8) (g := 80) (args := #[.string a0.Id, .string a1]) (by kernel_rfl) (strings_Compare_c (a0 := a0.Id) (a1 := a1)  hy1)) ?_
  rintro _ _ _ _ ⟨_, rfl, rfl, rfl, rfl⟩
  refine RgH.runk 5 [4] (vs := []) (evs := []) (L' := [(4, .int .i64 y1)]) (by kernel_rfl) (by kernel_rfl) (fun _ _ => trivial) ?_
  refine RgH.done (by kernel_rfl) ?_
  obtain rfl := Option.some.inj heq
  refine RunH.pick 1 [] (cs' := F) (by kernel_rfl) rfl ?_
  exact RunH.done (by kernel_rfl) Tryd.func85 (v := .int .i64 y1) (by kernel_rfl) ⟨rfl, rfl, rfl⟩
noncomputable def C84 : Ctx := { P := Tryd.prog, f := 84, N := 49, c := bodyOf Tryd.f84 }
def S84 (F : List Ch) (H0 : Hp) (r : Int × Bool) (v : Value) (H : Hp) (cs : List Ch) : Prop := H0 = H ∧ v = .tuple #[.int .i64 r.1, .bool r.2] ∧ F = cs
theorem slices_BinarySearchFunc_Work_string.e1_c {w0 : World} {H : Hp} {F : List Ch} {r : Int × Bool} : ∀ (a0 : List Work) (Aa0 : Option Addr) (ca0 : Nat) (a1 : ByteArray) (v_i9 : Int) , Rw kWork H F Aa0 a0 → a0.length ≤ ca0 → slices_BinarySearchFunc_Work_string.e1 a0 a1 v_i9 = some r → RunH C84 (S84 F H r) H w0 [.c [1, 1, 1, 1, 0], .c [1, 1, 1, 1, 1]] [(0, .slice Aa0 a0.length ca0), (1, .string a1), (2, .func (.func 85) #[] #[]), (8, .int .i64 (a0.length : Int)), (9, .int .i64 v_i9)] H (F) := by
  intro a0 Aa0 ca0 a1 v_i9 hra0 hca0 heq
  unfold slices_BinarySearchFunc_Work_string.e1 at heq
  obtain ⟨t1, ht1, heq⟩ := bind_some heq
  have K1 : RunH C84 (S84 F H r) H w0 [.c [1, 1, 1, 1, 1]] [(6, .int .i64 v_i9), (7, .bool t1)] H (F) := by
    obtain rfl := Option.some.inj heq
    exact RunH.done (by kernel_rfl) Tryd.func84 (v := .tuple #[.int .i64 v_i9, .bool t1]) (by kernel_rfl) ⟨rfl, rfl, rfl⟩
  replace heq := ht1
  refine RunH.reg (by kernel_rfl) ?_
  refine RgH.runk 5 [39, 0, 1, 2, 9, 35] (vs := []) (evs := []) (L' := [(39, .bool (decide (v_i9 < (a0.length : Int)))), (0, .slice Aa0 a0.length ca0), (1, .string a1), (2, .func (.func 85) #[] #[]), (9, .int .i64 v_i9), (35, .int .i64 v_i9)]) (by kernel_rfl) (by kernel_rfl) (fun _ _ => trivial) ?_
  rcases bool_cases (decide (v_i9 < (a0.length : Int))) with hb1 | hb1
  · replace heq := bif_true hb1 heq
    refine RgH.val1 (v' := .bool true) (congrArg Value.bool hb1) ?_
    obtain ⟨x1, hx1, heq⟩ := bind_some heq
    obtain ⟨ha1, cs1, hK1, hcc1⟩ := hra0.get hx1
    obtain ⟨A1, c1, A2, c2, rfl, hc1, hr1, hc2, hr2⟩ := kWork_open hK1
    refine RgH.runk 11 [35, 39, 40, 44, 45] (vs := [.string x1.Id, .slice A1 x1.Needs.length c1, .int .i64 x1.Size, .slice A2 x1.After.length c2]) (evs := [.need (Aa0 = some (adr Aa0) ∧ (0 : Int) ≤ v_i9 ∧ v_i9 < ((a0.length : Nat) : Int)), .load (((adr Aa0).add (v_i9.toNat * 4)).add 0) (.string x1.Id), .load (((adr Aa0).add (v_i9.toNat * 4)).add 1) (.slice A1 x1.Needs.length c1), .load (((adr Aa0).add (v_i9.toNat * 4)).add 2) (.int .i64 x1.Size), .load (((adr Aa0).add (v_i9.toNat * 4)).add 3) (.slice A2 x1.After.length c2)]) (L' := [(35, .int .i64 v_i9), (39, .bool true), (40, .func (.func 85) #[] #[]), (44, .agg #[.string x1.Id, .slice A1 x1.Needs.length c1, .int .i64 x1.Size, .slice A2 x1.After.length c2]), (45, .string a1)]) (by kernel_rfl) (by kernel_rfl) (fun w hh => ⟨⟨ha1, (at?_some hx1).1, (at?_some hx1).2.1⟩, (hcc1 _ _ (hh.drop 0) 0 _ rfl), (hcc1 _ _ (hh.drop 0) 1 _ rfl), (hcc1 _ _ (hh.drop 0) 2 _ rfl), (hcc1 _ _ (hh.drop 0) 3 _ rfl)⟩) ?_
    obtain ⟨y1, hy1, heq⟩ := bind_some heq
    refine RgH.does (DoesH.call (d := 46) (g := 85) (args := #[.agg #[.string x1.Id, .slice A1 x1.Needs.length c1, .int .i64 x1.Size, .slice A2 x1.After.length c2], .string a1]) (by kernel_rfl) (workers_workAt_1_c (a0 := x1) (a1 := a1) (Rw.of hr1) hc1 rfl (Rw.of hr2) hc2 rfl hy1)) ?_
    rintro _ _ _ _ ⟨_, rfl, rfl, rfl, rfl⟩
    refine RgH.runk 16 [6, 7] (vs := []) (evs := []) (L' := [(6, .int .i64 v_i9), (7, .bool (y1 == 0))]) (by kernel_rfl) (by kernel_rfl) (fun _ _ => trivial) ?_
    obtain rfl := Option.some.inj heq
    refine RgH.keep [6, 7] (L' := [(6, .int .i64 v_i9), (7, .bool (y1 == 0))]) (by kernel_rfl) ?_
    refine RgH.done (by kernel_rfl) ?_
    exact K1
  · replace heq := bif_false hb1 heq
    refine RgH.val1 (v' := .bool false) (congrArg Value.bool hb1) ?_
    refine RgH.runk 16 [6, 7] (vs := []) (evs := []) (L' := [(6, .int .i64 v_i9), (7, .bool false)]) (by kernel_rfl) (by kernel_rfl) (fun _ _ => trivial) ?_
    obtain rfl := Option.some.inj heq
    refine RgH.keep [6, 7] (L' := [(6, .int .i64 v_i9), (7, .bool false)]) (by kernel_rfl) ?_
    refine RgH.done (by kernel_rfl) ?_
    exact K1
theorem slices_BinarySearchFunc_Work_string.l2_c {w0 : World} {H : Hp} {F : List Ch} {r : Int × Bool} (e1 : (List Work) → ByteArray → Int → Option (Int × Bool))
    (he1 : ∀ (a0 : List Work) (Aa0 : Option Addr) (ca0 : Nat) (a1 : ByteArray) (v_i9 : Int) , Rw kWork H F Aa0 a0 → a0.length ≤ ca0 → e1 a0 a1 v_i9 = some r → RunH C84 (S84 F H r) H w0 [.c [1, 1, 1, 1, 0], .c [1, 1, 1, 1, 1]] [(0, .slice Aa0 a0.length ca0), (1, .string a1), (2, .func (.func 85) #[] #[]), (8, .int .i64 (a0.length : Int)), (9, .int .i64 v_i9)] H (F)) : ∀ (k : Nat), ∀ (a0 : List Work) (Aa0 : Option Addr) (ca0 : Nat) (a1 : ByteArray) (v_i9 : Int) (v_j10 : Int) , Rw kWork H F Aa0 a0 → a0.length ≤ ca0 → slices_BinarySearchFunc_Work_string.l2 e1 k a0 a1 v_i9 v_j10 = some r → RunH C84 (S84 F H r) H w0 [.c [1, 1, 1, 0, 0, 0], .l [1, 1, 1, 0, 0, 0], .b 0, .c [1, 1, 1, 1]] [(0, .slice Aa0 a0.length ca0), (1, .string a1), (2, .func (.func 85) #[] #[]), (8, .int .i64 (a0.length : Int)), (9, .int .i64 v_i9), (10, .int .i64 v_j10)] H (F) := by
  intro k
  induction k with
  | zero => intro a0 Aa0 ca0 a1 v_i9 v_j10 hra0 hca0 heq; exact nomatch (show (none : Option (Int × Bool)) = some r from heq)
  | succ k ihk =>
    intro a0 Aa0 ca0 a1 v_i9 v_j10 hra0 hca0 heq
    rw [slices_BinarySearchFunc_Work_string.l2] at heq
    refine RunH.adm 2 (es' := [.c [1, 1, 1, 0, 0, 0, 0, 0], .c [1, 1, 1, 0, 0, 0, 0, 1], .c [1, 1, 1, 0, 0, 0, 1], .l [1, 1, 1, 0, 0, 0], .b 0, .c [1, 1, 1, 1]]) (by kernel_rfl) ?_
    refine RunH.reg (by kernel_rfl) ?_
    refine RgH.runk 3 [0, 1, 2, 8, 9, 10, 17] (vs := []) (evs := []) (L' := [(0, .slice Aa0 a0.length ca0), (1, .string a1), (2, .func (.func 85) #[] #[]), (8, .int .i64 (a0.length : Int)), (9, .int .i64 v_i9), (10, .int .i64 v_j10), (17, .bool (decide (v_i9 < v_j10)))]) (by kernel_rfl) (by kernel_rfl) (fun _ _ => trivial) ?_
    refine RgH.done (by kernel_rfl) ?_
    rcases bool_cases (decide (v_i9 < v_j10)) with hb2 | hb2
    · replace heq := bif_true hb2 heq
      refine RunH.condT (c := decide (v_i9 < v_j10)) (by kernel_rfl) hb2 ?_
      refine RunH.adm 3 (es' := [.c [1, 1, 1, 0, 0, 0, 1, 0, 0], .c [1, 1, 1, 0, 0, 0, 1, 0, 1], .b 1, .l [1, 1, 1, 0, 0, 0], .b 0, .c [1, 1, 1, 1]]) (by kernel_rfl) ?_
      refine RunH.reg (by kernel_rfl) ?_
      refine RgH.runk 7 [0, 1, 2, 8, 9, 10, 11] (vs := []) (evs := [.need ((0 : Int) ≤ 1)]) (L' := [(0, .slice Aa0 a0.length ca0), (1, .string a1), (2, .func (.func 85) #[] #[]), (8, .int .i64 (a0.length : Int)), (9, .int .i64 v_i9), (10, .int .i64 v_j10), (11, .int .i64 (w64 (iShr .u64 (IntKind.wrap .u64 (w64 (v_i9 + v_j10))) 1)))]) (by kernel_rfl) (by kernel_rfl) (fun w hh => (show (0 : Int) ≤ 1 by decide)) ?_
      refine RgH.done (by kernel_rfl) ?_
      refine RunH.adm 1 (es' := [.c [1, 1, 1, 0, 0, 0, 1, 0, 1, 0], .c [1, 1, 1, 0, 0, 0, 1, 0, 1, 1], .b 1, .l [1, 1, 1, 0, 0, 0], .b 0, .c [1, 1, 1, 1]]) (by kernel_rfl) ?_
      refine RunH.reg (by kernel_rfl) ?_
      obtain ⟨x2, hx2, heq⟩ := bind_some heq
      obtain ⟨ha2, cs2, hK2, hcc2⟩ := hra0.get hx2
      obtain ⟨A3, c3, A4, c4, rfl, hc3, hr3, hc4, hr4⟩ := kWork_open hK2
      refine RgH.runk 6 [0, 1, 2, 8, 9, 10, 11, 24, 28, 29] (vs := [.string x2.Id, .slice A3 x2.Needs.length c3, .int .i64 x2.Size, .slice A4 x2.After.length c4]) (evs := [.need (Aa0 = some (adr Aa0) ∧ (0 : Int) ≤ (w64 (iShr .u64 (IntKind.wrap .u64 (w64 (v_i9 + v_j10))) 1)) ∧ (w64 (iShr .u64 (IntKind.wrap .u64 (w64 (v_i9 + v_j10))) 1)) < ((a0.length : Nat) : Int)), .load (((adr Aa0).add ((w64 (iShr .u64 (IntKind.wrap .u64 (w64 (v_i9 + v_j10))) 1)).toNat * 4)).add 0) (.string x2.Id), .load (((adr Aa0).add ((w64 (iShr .u64 (IntKind.wrap .u64 (w64 (v_i9 + v_j10))) 1)).toNat * 4)).add 1) (.slice A3 x2.Needs.length c3), .load (((adr Aa0).add ((w64 (iShr .u64 (IntKind.wrap .u64 (w64 (v_i9 + v_j10))) 1)).toNat * 4)).add 2) (.int .i64 x2.Size), .load (((adr Aa0).add ((w64 (iShr .u64 (IntKind.wrap .u64 (w64 (v_i9 + v_j10))) 1)).toNat * 4)).add 3) (.slice A4 x2.After.length c4)]) (L' := [(0, .slice Aa0 a0.length ca0), (1, .string a1), (2, .func (.func 85) #[] #[]), (8, .int .i64 (a0.length : Int)), (9, .int .i64 v_i9), (10, .int .i64 v_j10), (11, .int .i64 (w64 (iShr .u64 (IntKind.wrap .u64 (w64 (v_i9 + v_j10))) 1))), (24, .func (.func 85) #[] #[]), (28, .agg #[.string x2.Id, .slice A3 x2.Needs.length c3, .int .i64 x2.Size, .slice A4 x2.After.length c4]), (29, .string a1)]) (by kernel_rfl) (by kernel_rfl) (fun w hh => ⟨⟨ha2, (at?_some hx2).1, (at?_some hx2).2.1⟩, (hcc2 _ _ (hh.drop 0) 0 _ rfl), (hcc2 _ _ (hh.drop 0) 1 _ rfl), (hcc2 _ _ (hh.drop 0) 2 _ rfl), (hcc2 _ _ (hh.drop 0) 3 _ rfl)⟩) ?_
      obtain ⟨y2, hy2, heq⟩ := bind_some heq
      refine RgH.does (DoesH.call (d := 30) (g := 85) (args := #[.agg #[.string x2.Id, .slice A3 x2.Needs.length c3, .int .i64 x2.Size, .slice A4 x2.After.length c4], .string a1]) (by kernel_rfl) (workers_workAt_1_c (a0 := x2) (a1 := a1) (Rw.of hr3) hc3 rfl (Rw.of hr4) hc4 rfl hy2)) ?_
      rintro _ _ _ _ ⟨_, rfl, rfl, rfl, rfl⟩
      refine RgH.runk 8 [0, 1, 2, 8, 9, 10, 11, 31] (vs := []) (evs := []) (L' := [(0, .slice Aa0 a0.length ca0), (1, .string a1), (2, .func (.func 85) #[] #[]), (8, .int .i64 (a0.length : Int)), (9, .int .i64 v_i9), (10, .int .i64 v_j10), (11, .int .i64 (w64 (iShr .u64 (IntKind.wrap .u64 (w64 (v_i9 + v_j10))) 1))), (31, .bool (decide (y2 < 0)))]) (by kernel_rfl) (by kernel_rfl) (fun _ _ => trivial) ?_
      refine RgH.done (by kernel_rfl) ?_
      rcases bool_cases (decide (y2 < 0)) with hb3 | hb3
      · replace heq := bif_true hb3 heq
        refine RunH.condT (c := decide (y2 < 0)) (by kernel_rfl) hb3 ?_
        refine RunH.reg (by kernel_rfl) ?_
        refine RgH.runk 3 [0, 1, 2, 8, 9, 10] (vs := []) (evs := []) (L' := [(0, .slice Aa0 a0.length ca0), (1, .string a1), (2, .func (.func 85) #[] #[]), (8, .int .i64 (a0.length : Int)), (9, .int .i64 (w64 ((w64 (iShr .u64 (IntKind.wrap .u64 (w64 (v_i9 + v_j10))) 1)) + 1))), (10, .int .i64 v_j10)]) (by kernel_rfl) (by kernel_rfl) (fun _ _ => trivial) ?_
        refine RgH.done (by kernel_rfl) ?_
        refine RunH.adm 2 (es' := [.c [1, 1, 1, 0, 0, 0], .l [1, 1, 1, 0, 0, 0], .b 0, .c [1, 1, 1, 1]]) (by kernel_rfl) ?_
        refine RunH.keep [0, 1, 2, 8, 9, 10] (L' := [(0, .slice Aa0 a0.length ca0), (1, .string a1), (2, .func (.func 85) #[] #[]), (8, .int .i64 (a0.length : Int)), (9, .int .i64 (w64 ((w64 (iShr .u64 (IntKind.wrap .u64 (w64 (v_i9 + v_j10))) 1)) + 1))), (10, .int .i64 v_j10)]) (by kernel_rfl) ?_
        exact ihk a0 _ _ a1 (w64 ((w64 (iShr .u64 (IntKind.wrap .u64 (w64 (v_i9 + v_j10))) 1)) + 1)) v_j10 hra0 hca0 heq
      · replace heq := bif_false hb3 heq
        refine RunH.condF (c := decide (y2 < 0)) (by kernel_rfl) hb3 ?_
        refine RunH.reg (by kernel_rfl) ?_
        refine RgH.runk 2 [0, 1, 2, 8, 9, 10] (vs := []) (evs := []) (L' := [(0, .slice Aa0 a0.length ca0), (1, .string a1), (2, .func (.func 85) #[] #[]), (8, .int .i64 (a0.length : Int)), (9, .int .i64 v_i9), (10, .int .i64 (w64 (iShr .u64 (IntKind.wrap .u64 (w64 (v_i9 + v_j10))) 1)))]) (by kernel_rfl) (by kernel_rfl) (fun _ _ => trivial) ?_
        refine RgH.done (by kernel_rfl) ?_
        refine RunH.adm 2 (es' := [.c [1, 1, 1, 0, 0, 0], .l [1, 1, 1, 0, 0, 0], .b 0, .c [1, 1, 1, 1]]) (by kernel_rfl) ?_
        refine RunH.keep [0, 1, 2, 8, 9, 10] (L' := [(0, .slice Aa0 a0.length ca0), (1, .string a1), (2, .func (.func 85) #[] #[]), (8, .int .i64 (a0.length : Int)), (9, .int .i64 v_i9), (10, .int .i64 (w64 (iShr .u64 (IntKind.wrap .u64 (w64 (v_i9 + v_j10))) 1)))]) (by kernel_rfl) ?_
        exact ihk a0 _ _ a1 v_i9 (w64 (iShr .u64 (IntKind.wrap .u64 (w64 (v_i9 + v_j10))) 1)) hra0 hca0 heq
    · replace heq := bif_false hb2 heq
      refine RunH.condF (c := decide (v_i9 < v_j10)) (by kernel_rfl) hb2 ?_
      refine RunH.adm 2 (es' := [.c [1, 1, 1, 1, 0], .c [1, 1, 1, 1, 1]]) (by kernel_rfl) ?_
      refine RunH.keep [0, 1, 2, 8, 9] (L' := [(0, .slice Aa0 a0.length ca0), (1, .string a1), (2, .func (.func 85) #[] #[]), (8, .int .i64 (a0.length : Int)), (9, .int .i64 v_i9)]) (by kernel_rfl) ?_
      exact he1 a0 _ _ a1 v_i9 hra0 hca0 heq
theorem slices_BinarySearchFunc_Work_string_c {w0 : World} {H : Hp} {F : List Ch} {a0 : List Work} {Aa0 : Option Addr} {na0 : Nat} {ca0 : Nat} {a1 : ByteArray} {r : Int × Bool} (hra0 : Rw kWork H F Aa0 a0) (hca0 : na0 ≤ ca0) (hna0 : na0 = a0.length) (heq : slices_BinarySearchFunc_Work_string.f a0 a1 = some r) : CallsH Tryd.prog 84 #[.slice Aa0 na0 ca0, .string a1, .func (.func 85) #[] #[]] H w0 (F) (S84 F H r) := by
  refine calls_of_runH (F := C84) Tryd.func84 (by kernel_rfl) Tryd.ntmps84 (args := [.slice Aa0 na0 ca0, .string a1, .func (.func 85) #[] #[]]) (by kernel_rfl) ?_
  subst hna0
  unfold slices_BinarySearchFunc_Work_string.f at heq
  refine RunH.adm 1 (es' := [.c [0], .c [1]]) (by kernel_rfl) ?_
  refine RunH.reg (by kernel_rfl) ?_
  refine RgH.runk 2 [0, 1, 2] (vs := []) (evs := []) (L' := [(0, .slice Aa0 a0.length ca0), (1, .string a1), (2, .func (.func 85) #[] #[])]) (by kernel_rfl) (by kernel_rfl) (fun _ _ => trivial) ?_
  refine RgH.done (by kernel_rfl) ?_
  refine RunH.adm 1 (es' := [.c [1, 0], .c [1, 1]]) (by kernel_rfl) ?_
  refine RunH.reg (by kernel_rfl) ?_
  refine RgH.runk 3 [0, 1, 2, 8] (vs := []) (evs := []) (L' := [(0, .slice Aa0 a0.length ca0), (1, .string a1), (2, .func (.func 85) #[] #[]), (8, .int .i64 (a0.length : Int))]) (by kernel_rfl) (by kernel_rfl) (fun _ _ => trivial) ?_
  refine RgH.done (by kernel_rfl) ?_
  refine RunH.adm 1 (es' := [.c [1, 1, 0], .c [1, 1, 1]]) (by kernel_rfl) ?_
  refine RunH.reg (by kernel_rfl) ?_
  refine RgH.runk 3 [0, 1, 2, 8, 9, 10] (vs := []) (evs := []) (L' := [(0, .slice Aa0 a0.length ca0), (1, .string a1), (2, .func (.func 85) #[] #[]), (8, .int .i64 (a0.length : Int)), (9, .int .i64 0), (10, .int .i64 (a0.length : Int))]) (by kernel_rfl) (by kernel_rfl) (fun _ _ => trivial) ?_
  refine RgH.done (by kernel_rfl) ?_
  refine RunH.adm 3 (es' := [.c [1, 1, 1, 0, 0, 0], .l [1, 1, 1, 0, 0, 0], .b 0, .c [1, 1, 1, 1]]) (by kernel_rfl) ?_
  refine RunH.keep [0, 1, 2, 8, 9, 10] (L' := [(0, .slice Aa0 a0.length ca0), (1, .string a1), (2, .func (.func 85) #[] #[]), (8, .int .i64 (a0.length : Int)), (9, .int .i64 0), (10, .int .i64 (a0.length : Int))]) (by kernel_rfl) ?_
  exact ((slices_BinarySearchFunc_Work_string.l2_c (e1 := slices_BinarySearchFunc_Work_string.e1) (slices_BinarySearchFunc_Work_string.e1_c)) big) a0 _ _ a1 0 (a0.length : Int) hra0 hca0 heq
noncomputable def C64 : Ctx := { P := Tryd.prog, f := 64, N := 11, c := bodyOf Tryd.f64 }
def S64 (F : List Ch) (H0 : Hp) (r : Int × Bool) (v : Value) (H : Hp) (cs : List Ch) : Prop := H0 = H ∧ v = .tuple #[.int .i64 r.1, .bool r.2] ∧ F = cs
theorem workers_workAt_c {w0 : World} {H : Hp} {F : List Ch} {a0 : List Work} {Aa0 : Option Addr} {na0 : Nat} {ca0 : Nat} {a1 : ByteArray} {r : Int × Bool} (hra0 : Rw kWork H F Aa0 a0) (hca0 : na0 ≤ ca0) (hna0 : na0 = a0.length) (heq : workers_workAt.f a0 a1 = some r) : CallsH Tryd.prog 64 #[.slice Aa0 na0 ca0, .string a1] H w0 (F) (S64 F H r) := by
  refine calls_of_runH (F := C64) Tryd.func64 (by kernel_rfl) Tryd.ntmps64 (args := [.slice Aa0 na0 ca0, .string a1]) (by kernel_rfl) ?_
  subst hna0
  unfold workers_workAt.f at heq
  refine RunH.adm 1 (es' := [.c [0], .c [1]]) (by kernel_rfl) ?_
  refine RunH.reg (by kernel_rfl) ?_
  refine RgH.runk 2 [0, 1] (vs := []) (evs := []) (L' := [(0, .slice Aa0 a0.length ca0), (1, .string a1)]) (by kernel_rfl) (by kernel_rfl) (fun _ _ => trivial) ?_
  refine RgH.done (by kernel_rfl) ?_
  refine RunH.adm 1 (es' := [.c [1, 0], .c [1, 1]]) (by kernel_rfl) ?_
  refine RunH.reg (by kernel_rfl) ?_
  refine RgH.runk 2 [6, 7] (vs := []) (evs := []) (L' := [(6, .slice Aa0 a0.length ca0), (7, .string a1)]) (by kernel_rfl) (by kernel_rfl) (fun _ _ => trivial) ?_
  obtain ⟨y1, hy1, heq⟩ := bind_some heq
  refine RgH.does (DoesH.call (d := 8) (g := 84) (args := #[.slice Aa0 a0.length ca0, .string a1, .func (.func 85) #[] #[]]) (by kernel_rfl) (slices_BinarySearchFunc_Work_string_c (a0 := a0) (a1 := a1) hra0 hca0 rfl hy1)) ?_
  rintro _ _ _ _ ⟨_, rfl, rfl, rfl, rfl⟩
  refine RgH.runk 7 [4, 5] (vs := []) (evs := []) (L' := [(4, .int .i64 y1.1), (5, .bool y1.2)]) (by kernel_rfl) (by kernel_rfl) (fun _ _ => trivial) ?_
  refine RgH.done (by kernel_rfl) ?_
  obtain rfl := Option.some.inj heq
  exact RunH.done (by kernel_rfl) Tryd.func64 (v := .tuple #[.int .i64 y1.1, .bool y1.2]) (by kernel_rfl) ⟨rfl, rfl, rfl⟩
noncomputable def C87 : Ctx := { P := Tryd.prog, f := 87, N := 18, c := bodyOf Tryd.f87 }
def S87 (F : List Ch) (H0 : Hp) (r : Bool) (v : Value) (H : Hp) (cs : List Ch) : Prop := H0 = H ∧ v = .bool r ∧ F = cs
theorem workers_ordered_1_c {w0 : World} {H : Hp} {F : List Ch} {a0 : ByteArray} {ga1 : Nat} {a1 : List Work} {Aa1_0 : Option Addr} {na1_0 : Nat} {ca1_0 : Nat} {ga2 : Nat} {a2 : List Bool} {Aa2_0 : Option Addr} {na2_0 : Nat} {ca2_0 : Nat} {r : Bool} (hra1_0 : Rw kWork H F Aa1_0 a1) (hca1_0 : na1_0 ≤ ca1_0) (hna1_0 : na1_0 = a1.length) (hga1 : InG H F ga1 (.cells #[.slice Aa1_0 na1_0 ca1_0] 46 (0, 0))) (hra2_0 : Rw Kd.bool H F Aa2_0 a2) (hca2_0 : na2_0 ≤ ca2_0) (hna2_0 : na2_0 = a2.length) (hga2 : InG H F ga2 (.cells #[.slice Aa2_0 na2_0 ca2_0] 96 (0, 0))) (heq : workers_ordered_1.f a0 a1 a2 = some r) : CallsH Tryd.prog 87 #[.string a0, .pointer (some ⟨ga1, 0, none⟩), .pointer (some ⟨ga2, 0, none⟩)] H w0 (F) (S87 F H r) := by
  refine calls_of_runH (F := C87) Tryd.func87 (by kernel_rfl) Tryd.ntmps87 (args := [.string a0, .pointer (some ⟨ga1, 0, none⟩), .pointer (some ⟨ga2, 0, none⟩)]) (by kernel_rfl) ?_
  subst hna1_0
  subst hna2_0
  unfold workers_ordered_1.f at heq
  refine RunH.adm 1 (es' := [.c [0], .c [1]]) (by kernel_rfl) ?_
  refine RunH.reg (by kernel_rfl) ?_
  refine RgH.runk 1 [0, 1, 2] (vs := []) (evs := []) (L' := [(0, .string a0), (1, .pointer (some ⟨ga1, 0, none⟩)), (2, .pointer (some ⟨ga2, 0, none⟩))]) (by kernel_rfl) (by kernel_rfl) (fun _ _ => trivial) ?_
  refine RgH.done (by kernel_rfl) ?_
  refine RunH.adm 1 (es' := [.c [1, 0], .c [1, 1]]) (by kernel_rfl) ?_
  refine RunH.reg (by kernel_rfl) ?_
  refine RgH.runk 2 [2, 8, 9] (vs := [.slice Aa1_0 a1.length ca1_0]) (evs := [.load ⟨ga1, 0, none⟩ (.slice Aa1_0 a1.length ca1_0)]) (L' := [(2, .pointer (some ⟨ga2, 0, none⟩)), (8, .slice Aa1_0 a1.length ca1_0), (9, .string a0)]) (by kernel_rfl) (by kernel_rfl) (fun w hh => (hga1.cell (hh.drop 0) rfl)) ?_
  obtain ⟨y1, hy1, heq⟩ := bind_some heq
  refine RgH.does (DoesH.call (d := 10) (g := 64) (args := #[.slice Aa1_0 a1.length ca1_0, .string a0]) (by kernel_rfl) (workers_workAt_c (a0 := a1) (a1 := a0) hra1_0 hca1_0 rfl hy1)) ?_
  rintro _ _ _ _ ⟨_, rfl, rfl, rfl, rfl⟩
  refine RgH.runk 8 [2, 5] (vs := []) (evs := []) (L' := [(2, .pointer (some ⟨ga2, 0, none⟩)), (5, .int .i64 y1.1)]) (by kernel_rfl) (by kernel_rfl) (fun _ _ => trivial) ?_
  refine RgH.done (by kernel_rfl) ?_
  refine RunH.adm 1 (es' := [.c [1, 1, 0], .c [1, 1, 1]]) (by kernel_rfl) ?_
  refine RunH.reg (by kernel_rfl) ?_
  obtain ⟨x1, hx1, heq⟩ := bind_some heq
  obtain ⟨ha1, cs1, hK1, hcc1⟩ := hra2_0.get hx1
  obtain rfl : cs1 = [.bool x1] := hK1
  refine RgH.runk 6 [4] (vs := [.slice Aa2_0 a2.length ca2_0, .bool x1]) (evs := [.load ⟨ga2, 0, none⟩ (.slice Aa2_0 a2.length ca2_0), .need (Aa2_0 = some (adr Aa2_0) ∧ (0 : Int) ≤ y1.1 ∧ y1.1 < ((a2.length : Nat) : Int)), .load ((adr Aa2_0).add (y1.1.toNat * 1)) (.bool x1)]) (L' := [(4, .bool (!x1))]) (by kernel_rfl) (by kernel_rfl) (fun w hh => ⟨(hga2.cell (hh.drop 0) rfl), ⟨ha1, (at?_some hx1).1, (at?_some hx1).2.1⟩, (hcc1 _ _ (hh.drop 0) 0 _ rfl)⟩) ?_
  refine RgH.done (by kernel_rfl) ?_
  obtain rfl := Option.some.inj heq
  exact RunH.done (by kernel_rfl) Tryd.func87 (v := .bool (!x1)) (by kernel_rfl) ⟨rfl, rfl, rfl⟩
noncomputable def C104 : Ctx := { P := Tryd.prog, f := 104, N := 19, c := bodyOf Tryd.f104 }
def S104 (F : List Ch) (H0 : Hp) (r : Int) (v : Value) (H : Hp) (cs : List Ch) : Prop := H0 = H ∧ v = .int .i64 r ∧ F = cs
theorem slices_IndexFunc_string.e1_c {w0 : World} {H : Hp} {F : List Ch} {r : Int} : slices_IndexFunc_string.e1 = some r → RunH C104 (S104 F H r) H w0 [.c [1, 1, 0], .c [1, 1, 1]] [] H (F) := by
  intro   heq
  unfold slices_IndexFunc_string.e1 at heq
  refine RunH.reg (by kernel_rfl) ?_
  refine RgH.runk 1 [4] (vs := []) (evs := []) (L' := [(4, .int .i64 (-1))]) (by kernel_rfl) (by kernel_rfl) (fun _ _ => trivial) ?_
  refine RgH.done (by kernel_rfl) ?_
  obtain rfl := Option.some.inj heq
  exact RunH.done (by kernel_rfl) Tryd.func104 (v := .int .i64 (-1)) (by kernel_rfl) ⟨rfl, rfl, rfl⟩
theorem slices_IndexFunc_string.l2_c {w0 : World} {H : Hp} {F : List Ch} {r : Int} (e1 : Option Int)
    (he1 : e1 = some r → RunH C104 (S104 F H r) H w0 [.c [1, 1, 0], .c [1, 1, 1]] [] H (F)) : ∀ (k : Nat), ∀ (a0 : List ByteArray) (Aa0 : Option Addr) (ca0 : Nat) (ga1q0 : Nat) (a1q0 : List Work) (Aa1q0_0 : Option Addr) (ca1q0_0 : Nat) (ga1q1 : Nat) (a1q1 : List Bool) (Aa1q1_0 : Option Addr) (ca1q1_0 : Nat) (v8 : Int) , Rw Kd.string H F Aa0 a0 → a0.length ≤ ca0 → Rw kWork H F Aa1q0_0 a1q0 → a1q0.length ≤ ca1q0_0 → InG H F ga1q0 (.cells #[.slice Aa1q0_0 a1q0.length ca1q0_0] 46 (0, 0)) → Rw Kd.bool H F Aa1q1_0 a1q1 → a1q1.length ≤ ca1q1_0 → InG H F ga1q1 (.cells #[.slice Aa1q1_0 a1q1.length ca1q1_0] 96 (0, 0)) → slices_IndexFunc_string.l2 e1 k a0 a1q0 a1q1 v8 = some r → RunH C104 (S104 F H r) H w0 [.c [1, 0, 1, 0, 0], .l [1, 0, 1, 0, 0], .b 0, .c [1, 1]] [(0, .slice Aa0 a0.length ca0), (1, .func (.func 87) #[] #[.pointer (some ⟨ga1q0, 0, none⟩), .pointer (some ⟨ga1q1, 0, none⟩)]), (7, .int .i64 (a0.length : Int)), (8, .int .i64 v8)] H (F) := by
  intro k
  induction k with
  | zero => intro a0 Aa0 ca0 ga1q0 a1q0 Aa1q0_0 ca1q0_0 ga1q1 a1q1 Aa1q1_0 ca1q1_0 v8 hra0 hca0 hra1q0_0 hca1q0_0 hga1q0 hra1q1_0 hca1q1_0 hga1q1 heq; exact nomatch (show (none : Option Int) = some r from heq)
  | succ k ihk =>
    intro a0 Aa0 ca0 ga1q0 a1q0 Aa1q0_0 ca1q0_0 ga1q1 a1q1 Aa1q1_0 ca1q1_0 v8 hra0 hca0 hra1q0_0 hca1q0_0 hga1q0 hra1q1_0 hca1q1_0 hga1q1 heq
    rw [slices_IndexFunc_string.l2] at heq
    refine RunH.adm 1 (es' := [.c [1, 0, 1, 0, 0, 0], .c [1, 0, 1, 0, 0, 1], .l [1, 0, 1, 0, 0], .b 0, .c [1, 1]]) (by kernel_rfl) ?_
    refine RunH.reg (by kernel_rfl) ?_
    refine RgH.runk 1 [0, 1, 7, 8, 9] (vs := []) (evs := []) (L' := [(0, .slice Aa0 a0.length ca0), (1, .func (.func 87) #[] #[.pointer (some ⟨ga1q0, 0, none⟩), .pointer (some ⟨ga1q1, 0, none⟩)]), (7, .int .i64 (a0.length : Int)), (8, .int .i64 v8), (9, .bool (decide (v8 < (a0.length : Int))))]) (by kernel_rfl) (by kernel_rfl) (fun _ _ => trivial) ?_
    refine RgH.done (by kernel_rfl) ?_
    refine RunH.adm 1 (es' := [.c [1, 0, 1, 0, 0, 1, 0], .c [1, 0, 1, 0, 0, 1, 1], .l [1, 0, 1, 0, 0], .b 0, .c [1, 1]]) (by kernel_rfl) ?_
    rcases bool_cases (decide (v8 < (a0.length : Int))) with hb1 | hb1
    · replace heq := bif_true hb1 heq
      refine RunH.condT (c := decide (v8 < (a0.length : Int))) (by kernel_rfl) hb1 ?_
      refine RunH.adm 4 (es' := [.c [1, 0, 1, 0, 0, 1, 1, 0, 0, 0], .c [1, 0, 1, 0, 0, 1, 1, 0, 0, 1], .b 1, .c [1, 0, 1, 0, 0, 1, 1, 1], .l [1, 0, 1, 0, 0], .b 0, .c [1, 1]]) (by kernel_rfl) ?_
      refine RunH.reg (by kernel_rfl) ?_
      refine RgH.runk 2 [0, 1, 5, 7, 8] (vs := []) (evs := []) (L' := [(0, .slice Aa0 a0.length ca0), (1, .func (.func 87) #[] #[.pointer (some ⟨ga1q0, 0, none⟩), .pointer (some ⟨ga1q1, 0, none⟩)]), (5, .int .i64 v8), (7, .int .i64 (a0.length : Int)), (8, .int .i64 v8)]) (by kernel_rfl) (by kernel_rfl) (fun _ _ => trivial) ?_
      refine RgH.done (by kernel_rfl) ?_
      refine RunH.adm 1 (es' := [.c [1, 0, 1, 0, 0, 1, 1, 0, 0, 1, 0], .c [1, 0, 1, 0, 0, 1, 1, 0, 0, 1, 1], .b 1, .c [1, 0, 1, 0, 0, 1, 1, 1], .l [1, 0, 1, 0, 0], .b 0, .c [1, 1]]) (by kernel_rfl) ?_
      refine RunH.reg (by kernel_rfl) ?_
      obtain ⟨x1, hx1, heq⟩ := bind_some heq
      obtain ⟨ha1, cs1, hK1, hcc1⟩ := hra0.get hx1
      obtain rfl : cs1 = [.string x1] := hK1
      refine RgH.runk 5 [0, 1, 5, 7, 8, 11, 15] (vs := [.string x1]) (evs := [.need (Aa0 = some (adr Aa0) ∧ (0 : Int) ≤ v8 ∧ v8 < ((a0.length : Nat) : Int)), .load ((adr Aa0).add (v8.toNat * 1)) (.string x1)]) (L' := [(0, .slice Aa0 a0.length ca0), (1, .func (.func 87) #[] #[.pointer (some ⟨ga1q0, 0, none⟩), .pointer (some ⟨ga1q1, 0, none⟩)]), (5, .int .i64 v8), (7, .int .i64 (a0.length : Int)), (8, .int .i64 v8), (11, .func (.func 87) #[] #[.pointer (some ⟨ga1q0, 0, none⟩), .pointer (some ⟨ga1q1, 0, none⟩)]), (15, .string x1)]) (by kernel_rfl) (by kernel_rfl) (fun w hh => ⟨⟨ha1, (at?_some hx1).1, (at?_some hx1).2.1⟩, (hcc1 _ _ (hh.drop 0) 0 _ rfl)⟩) ?_
      obtain ⟨y1, hy1, heq⟩ := bind_some heq
      refine RgH.does (DoesH.call (d := 16) (g := 87) (args := #[.string x1, .pointer (some ⟨ga1q0, 0, none⟩), .pointer (some ⟨ga1q1, 0, none⟩)]) (by kernel_rfl) (workers_ordered_1_c (a0 := x1) (a1 := a1q0) (a2 := a1q1) hra1q0_0 hca1q0_0 rfl hga1q0 hra1q1_0 hca1q1_0 rfl hga1q1 hy1)) ?_
      rintro _ _ _ _ ⟨_, rfl, rfl, rfl, rfl⟩
      refine RgH.done (by kernel_rfl) ?_
      rcases bool_cases (y1) with hb2 | hb2
      · replace heq := bif_true hb2 heq
        refine RunH.condT (c := y1) (by kernel_rfl) hb2 ?_
        refine RunH.adm 1 (es' := [.c [1, 0, 1, 0, 0, 1, 1, 0, 0, 1, 1, 0, 0], .c [1, 0, 1, 0, 0, 1, 1, 0, 0, 1, 1, 0, 1], .b 1, .c [1, 0, 1, 0, 0, 1, 1, 1], .l [1, 0, 1, 0, 0], .b 0, .c [1, 1]]) (by kernel_rfl) ?_
        refine RunH.reg (by kernel_rfl) ?_
        refine RgH.runk 2 [4] (vs := []) (evs := []) (L' := [(4, .int .i64 v8)]) (by kernel_rfl) (by kernel_rfl) (fun _ _ => trivial) ?_
        refine RgH.done (by kernel_rfl) ?_
        obtain rfl := Option.some.inj heq
        exact RunH.done (by kernel_rfl) Tryd.func104 (v := .int .i64 v8) (by kernel_rfl) ⟨rfl, rfl, rfl⟩
      · replace heq := bif_false hb2 heq
        refine RunH.condF (c := y1) (by kernel_rfl) hb2 ?_
        refine RunH.adm 2 (es' := [.c [1, 0, 1, 0, 0, 1, 1, 1], .l [1, 0, 1, 0, 0], .b 0, .c [1, 1]]) (by kernel_rfl) ?_
        refine RunH.reg (by kernel_rfl) ?_
        refine RgH.runk 2 [0, 1, 7, 8] (vs := []) (evs := []) (L' := [(0, .slice Aa0 a0.length ca0), (1, .func (.func 87) #[] #[.pointer (some ⟨ga1q0, 0, none⟩), .pointer (some ⟨ga1q1, 0, none⟩)]), (7, .int .i64 (a0.length : Int)), (8, .int .i64 (w64 (v8 + 1)))]) (by kernel_rfl) (by kernel_rfl) (fun _ _ => trivial) ?_
        refine RgH.done (by kernel_rfl) ?_
        refine RunH.adm 1 (es' := [.c [1, 0, 1, 0, 0], .l [1, 0, 1, 0, 0], .b 0, .c [1, 1]]) (by kernel_rfl) ?_
        refine RunH.keep [0, 1, 7, 8] (L' := [(0, .slice Aa0 a0.length ca0), (1, .func (.func 87) #[] #[.pointer (some ⟨ga1q0, 0, none⟩), .pointer (some ⟨ga1q1, 0, none⟩)]), (7, .int .i64 (a0.length : Int)), (8, .int .i64 (w64 (v8 + 1)))]) (by kernel_rfl) ?_
        exact ihk a0 _ _ _ a1q0 _ _ _ a1q1 _ _ (w64 (v8 + 1)) hra0 hca0 hra1q0_0 hca1q0_0 hga1q0 hra1q1_0 hca1q1_0 hga1q1 heq
    · replace heq := bif_false hb1 heq
      refine RunH.condF (c := decide (v8 < (a0.length : Int))) (by kernel_rfl) hb1 ?_
      refine RunH.adm 2 (es' := [.c [1, 1, 0], .c [1, 1, 1]]) (by kernel_rfl) ?_
      refine RunH.keep [] (L' := []) (by kernel_rfl) ?_
      exact he1 heq
theorem slices_IndexFunc_string_c {w0 : World} {H : Hp} {F : List Ch} {a0 : List ByteArray} {Aa0 : Option Addr} {na0 : Nat} {ca0 : Nat} {ga1q0 : Nat} {a1q0 : List Work} {Aa1q0_0 : Option Addr} {na1q0_0 : Nat} {ca1q0_0 : Nat} {ga1q1 : Nat} {a1q1 : List Bool} {Aa1q1_0 : Option Addr} {na1q1_0 : Nat} {ca1q1_0 : Nat} {r : Int} (hra0 : Rw Kd.string H F Aa0 a0) (hca0 : na0 ≤ ca0) (hna0 : na0 = a0.length) (hra1q0_0 : Rw kWork H F Aa1q0_0 a1q0) (hca1q0_0 : na1q0_0 ≤ ca1q0_0) (hna1q0_0 : na1q0_0 = a1q0.length) (hga1q0 : InG H F ga1q0 (.cells #[.slice Aa1q0_0 na1q0_0 ca1q0_0] 46 (0, 0))) (hra1q1_0 : Rw Kd.bool H F Aa1q1_0 a1q1) (hca1q1_0 : na1q1_0 ≤ ca1q1_0) (hna1q1_0 : na1q1_0 = a1q1.length) (hga1q1 : InG H F ga1q1 (.cells #[.slice Aa1q1_0 na1q1_0 ca1q1_0] 96 (0, 0))) (heq : slices_IndexFunc_string.f a0 a1q0 a1q1 = some r) : CallsH Tryd.prog 104 #[.slice Aa0 na0 ca0, .func (.func 87) #[] #[.pointer (some ⟨ga1q0, 0, none⟩), .pointer (some ⟨ga1q1, 0, none⟩)]] H w0 (F) (S104 F H r) := by
  refine calls_of_runH (F := C104) Tryd.func104 (by kernel_rfl) Tryd.ntmps104 (args := [.slice Aa0 na0 ca0, .func (.func 87) #[] #[.pointer (some ⟨ga1q0, 0, none⟩), .pointer (some ⟨ga1q1, 0, none⟩)]]) (by kernel_rfl) ?_
  subst hna0
  subst hna1q0_0
  subst hna1q1_0
  unfold slices_IndexFunc_string.f at heq
  refine RunH.adm 1 (es' := [.c [0], .c [1]]) (by kernel_rfl) ?_
  refine RunH.reg (by kernel_rfl) ?_
  refine RgH.runk 1 [0, 1] (vs := []) (evs := []) (L' := [(0, .slice Aa0 a0.length ca0), (1, .func (.func 87) #[] #[.pointer (some ⟨ga1q0, 0, none⟩), .pointer (some ⟨ga1q1, 0, none⟩)])]) (by kernel_rfl) (by kernel_rfl) (fun _ _ => trivial) ?_
  refine RgH.done (by kernel_rfl) ?_
  refine RunH.adm 2 (es' := [.c [1, 0, 0], .c [1, 0, 1], .c [1, 1]]) (by kernel_rfl) ?_
  refine RunH.reg (by kernel_rfl) ?_
  refine RgH.runk 3 [0, 1, 7, 8] (vs := []) (evs := []) (L' := [(0, .slice Aa0 a0.length ca0), (1, .func (.func 87) #[] #[.pointer (some ⟨ga1q0, 0, none⟩), .pointer (some ⟨ga1q1, 0, none⟩)]), (7, .int .i64 (a0.length : Int)), (8, .int .i64 0)]) (by kernel_rfl) (by kernel_rfl) (fun _ _ => trivial) ?_
  refine RgH.done (by kernel_rfl) ?_
  refine RunH.adm 2 (es' := [.c [1, 0, 1, 0, 0], .l [1, 0, 1, 0, 0], .b 0, .c [1, 1]]) (by kernel_rfl) ?_
  refine RunH.keep [0, 1, 7, 8] (L' := [(0, .slice Aa0 a0.length ca0), (1, .func (.func 87) #[] #[.pointer (some ⟨ga1q0, 0, none⟩), .pointer (some ⟨ga1q1, 0, none⟩)]), (7, .int .i64 (a0.length : Int)), (8, .int .i64 0)]) (by kernel_rfl) ?_
  exact ((slices_IndexFunc_string.l2_c (e1 := slices_IndexFunc_string.e1) (slices_IndexFunc_string.e1_c)) big) a0 _ _ _ a1q0 _ _ _ a1q1 _ _ 0 hra0 hca0 hra1q0_0 hca1q0_0 hga1q0 hra1q1_0 hca1q1_0 hga1q1 heq
noncomputable def C86 : Ctx := { P := Tryd.prog, f := 86, N := 9, c := bodyOf Tryd.f86 }
def S86 (F : List Ch) (H0 : Hp) (r : Bool) (v : Value) (H : Hp) (cs : List Ch) : Prop := H0 = H ∧ v = .bool r ∧ F = cs
theorem slices_ContainsFunc_string_c {w0 : World} {H : Hp} {F : List Ch} {a0 : List ByteArray} {Aa0 : Option Addr} {na0 : Nat} {ca0 : Nat} {ga1q0 : Nat} {a1q0 : List Work} {Aa1q0_0 : Option Addr} {na1q0_0 : Nat} {ca1q0_0 : Nat} {ga1q1 : Nat} {a1q1 : List Bool} {Aa1q1_0 : Option Addr} {na1q1_0 : Nat} {ca1q1_0 : Nat} {r : Bool} (hra0 : Rw Kd.string H F Aa0 a0) (hca0 : na0 ≤ ca0) (hna0 : na0 = a0.length) (hra1q0_0 : Rw kWork H F Aa1q0_0 a1q0) (hca1q0_0 : na1q0_0 ≤ ca1q0_0) (hna1q0_0 : na1q0_0 = a1q0.length) (hga1q0 : InG H F ga1q0 (.cells #[.slice Aa1q0_0 na1q0_0 ca1q0_0] 46 (0, 0))) (hra1q1_0 : Rw Kd.bool H F Aa1q1_0 a1q1) (hca1q1_0 : na1q1_0 ≤ ca1q1_0) (hna1q1_0 : na1q1_0 = a1q1.length) (hga1q1 : InG H F ga1q1 (.cells #[.slice Aa1q1_0 na1q1_0 ca1q1_0] 96 (0, 0))) (heq : slices_ContainsFunc_string.f a0 a1q0 a1q1 = some r) : CallsH Tryd.prog 86 #[.slice Aa0 na0 ca0, .func (.func 87) #[] #[.pointer (some ⟨ga1q0, 0, none⟩), .pointer (some ⟨ga1q1, 0, none⟩)]] H w0 (F) (S86 F H r) := by
  refine calls_of_runH (F := C86) Tryd.func86 (by kernel_rfl) Tryd.ntmps86 (args := [.slice Aa0 na0 ca0, .func (.func 87) #[] #[.pointer (some ⟨ga1q0, 0, none⟩), .pointer (some ⟨ga1q1, 0, none⟩)]]) (by kernel_rfl) ?_
  subst hna0
  subst hna1q0_0
  subst hna1q1_0
  unfold slices_ContainsFunc_string.f at heq
  refine RunH.adm 1 (es' := [.c [0], .c [1]]) (by kernel_rfl) ?_
  refine RunH.reg (by kernel_rfl) ?_
  refine RgH.runk 1 [0, 1] (vs := []) (evs := []) (L' := [(0, .slice Aa0 a0.length ca0), (1, .func (.func 87) #[] #[.pointer (some ⟨ga1q0, 0, none⟩), .pointer (some ⟨ga1q1, 0, none⟩)])]) (by kernel_rfl) (by kernel_rfl) (fun _ _ => trivial) ?_
  refine RgH.done (by kernel_rfl) ?_
  refine RunH.adm 1 (es' := [.c [1, 0], .c [1, 1]]) (by kernel_rfl) ?_
  refine RunH.reg (by kernel_rfl) ?_
  refine RgH.runk 2 [5, 6] (vs := []) (evs := []) (L' := [(5, .slice Aa0 a0.length ca0), (6, .func (.func 87) #[] #[.pointer (some ⟨ga1q0, 0, none⟩), .pointer (some ⟨ga1q1, 0, none⟩)])]) (by kernel_rfl) (by kernel_rfl) (fun _ _ => trivial) ?_
  obtain ⟨y1, hy1, heq⟩ := bind_some heq
  refine RgH.does (DoesH.call (d := 7) (g := 104) (args := #[.slice Aa0 a0.length ca0, .func (.func 87) #[] #[.pointer (some ⟨ga1q0, 0, none⟩), .pointer (some ⟨ga1q1, 0, none⟩)]]) (by kernel_rfl) (slices_IndexFunc_string_c (a0 := a0) (a1q0 := a1q0) (a1q1 := a1q1) hra0 hca0 rfl hra1q0_0 hca1q0_0 rfl hga1q0 hra1q1_0 hca1q1_0 rfl hga1q1 hy1)) ?_
  rintro _ _ _ _ ⟨_, rfl, rfl, rfl, rfl⟩
  refine RgH.runk 5 [4] (vs := []) (evs := []) (L' := [(4, .bool (decide (0 ≤ y1)))]) (by kernel_rfl) (by kernel_rfl) (fun _ _ => trivial) ?_
  refine RgH.done (by kernel_rfl) ?_
  obtain rfl := Option.some.inj heq
  exact RunH.done (by kernel_rfl) Tryd.func86 (v := .bool (decide (0 ≤ y1))) (by kernel_rfl) ⟨rfl, rfl, rfl⟩
noncomputable def C65 : Ctx := { P := Tryd.prog, f := 65, N := 44, c := bodyOf Tryd.f65 }
def S65 (F : List Ch) (H0 : Hp) (r : (List Int) × Bool) (v : Value) (H : Hp) (cs : List Ch) : Prop := ∃ (A0 : Option Addr) (c0 : Nat) (ch0 : Ch), H0 = H ∧ v = .tuple #[.slice A0 r.1.length c0, .bool r.2] ∧ ch0 :: F = cs ∧ SlOwn (Kd.int .i64) 3 H A0 c0 r.1 ch0
theorem workers_ordered.e1_c {w0 : World} {H : Hp} {F : List Ch} {r : (List Int) × Bool} : ∀ (a0 : List Work) (Aa0 : Option Addr) (ca0 : Nat) (g1 : Nat) (v_out5 : List Int) (Av_out5 : Option Addr) (nv_out5 : Nat) (cv_out5 : Nat) (chv_out5 : Ch) , Rw kWork H F Aa0 a0 → a0.length ≤ ca0 → SlOwn (Kd.int .i64) 3 H Av_out5 cv_out5 v_out5 chv_out5 → nv_out5 = v_out5.length → workers_ordered.e1 a0 v_out5 = some r → RunH C65 (S65 F H r) H w0 [.c [1, 1, 1, 1, 0], .c [1, 1, 1, 1, 1]] [(1, .pointer (some ⟨g1, 0, none⟩)), (5, .slice Av_out5 nv_out5 cv_out5)] H (chv_out5 :: (some (g1, .cells #[.slice Aa0 a0.length ca0] 46 (0, 0))) :: F) := by
  intro a0 Aa0 ca0 g1 v_out5 Av_out5 nv_out5 cv_out5 chv_out5 hra0 hca0 hov_out5 hnv_out5 heq
  subst hnv_out5
  unfold workers_ordered.e1 at heq
  refine RunH.keep [1, 5] (L' := [(1, .pointer (some ⟨g1, 0, none⟩)), (5, .slice Av_out5 v_out5.length cv_out5)]) (by kernel_rfl) ?_
  refine RunH.draw (fun w => Heap H w0 w (chv_out5 :: (some (g1, .cells #[.slice Aa0 a0.length ca0] 46 (0, 0))) :: F)) (fun w => Heap H w0 w (chv_out5 :: (some (g1, .cells #[.slice Aa0 a0.length ca0] 46 (0, 0))) :: F)) [false, false, false, false, false, false, false, false] (n := 8) (ls := [false, false, false, false, false, false, false, false]) (by kernel_rfl) (by kernel_rfl) (by kernel_rfl) rfl ?_
  refine DrH.run [0, 1, 2, 3, 4, 5, 6, 7] (m := 0) (ls' := [true, true, true, true, true, true, true, true]) (vs := [.slice Aa0 a0.length ca0]) (evs := [.load ⟨g1, 0, none⟩ (.slice Aa0 a0.length ca0)]) (L' := [(3, .bool ((v_out5.length : Int) == (a0.length : Int))), (2, .slice Av_out5 v_out5.length cv_out5), (43, .bool ((v_out5.length : Int) == (a0.length : Int))), (42, .int .i64 (a0.length : Int)), (41, .slice Aa0 a0.length ca0), (40, .int .i64 (v_out5.length : Int)), (39, .slice Av_out5 v_out5.length cv_out5), (38, .slice Av_out5 v_out5.length cv_out5), (1, .pointer (some ⟨g1, 0, none⟩)), (5, .slice Av_out5 v_out5.length cv_out5)]) (by kernel_rfl) (fun w hh => hh.pick 2 [0, 1] (by kernel_rfl)) (fun w hh => hh.pick 2 [0, 1] (by kernel_rfl)) (by kernel_rfl) (fun w hh => (hh.box 1 rfl rfl)) (by kernel_rfl) ?_
  refine DrH.keep [2, 3] (L' := [(2, .slice Av_out5 v_out5.length cv_out5), (3, .bool ((v_out5.length : Int) == (a0.length : Int)))]) (by kernel_rfl) ?_
  refine DrH.done (by kernel_rfl) ?_
  obtain rfl := Option.some.inj heq
  refine RunH.pick 2 [0] (cs' := chv_out5 :: F) (by kernel_rfl) rfl ?_
  exact RunH.done (by kernel_rfl) Tryd.func65 (v := .tuple #[.slice Av_out5 v_out5.length cv_out5, .bool ((v_out5.length : Int) == (a0.length : Int))]) (by kernel_rfl) ⟨Av_out5, cv_out5, chv_out5, rfl, rfl, rfl, hov_out5⟩
theorem workers_ordered.j4_c {w0 : World} {H : Hp} {F : List Ch} {r : (List Int) × Bool} (backl3 : (List Work) → (List Bool) → (List Int) → Bool → Int → Option ((List Int) × Bool))
    (hbackl3 : ∀ (a0 : List Work) (Aa0 : Option Addr) (ca0 : Nat) (g1 : Nat) (g3 : Nat) (v_done4_0 : List Bool) (Av_done4_0 : Option Addr) (nv_done4_0 : Nat) (cv_done4_0 : Nat) (chv_done4_0 : Ch) (v_out5 : List Int) (Av_out5 : Option Addr) (nv_out5 : Nat) (cv_out5 : Nat) (chv_out5 : Ch) (v_more6 : Bool) (v15 : Int) , Rw kWork H F Aa0 a0 → a0.length ≤ ca0 → SlOwn Kd.bool 4 H Av_done4_0 cv_done4_0 v_done4_0 chv_done4_0 → nv_done4_0 = v_done4_0.length → SlOwn (Kd.int .i64) 3 H Av_out5 cv_out5 v_out5 chv_out5 → nv_out5 = v_out5.length → backl3 a0 v_done4_0 v_out5 v_more6 v15 = some r → RunH C65 (S65 F H r) H w0 [.c [1, 1, 1, 0, 1, 0, 0, 1, 0, 1, 1, 0, 0], .l [1, 1, 1, 0, 1, 0, 0, 1, 0, 1, 1, 0, 0], .b 2, .b 1, .l [1, 1, 1, 0, 1, 0, 0], .b 0, .c [1, 1, 1, 1]] [(1, .pointer (some ⟨g1, 0, none⟩)), (4, .pointer (some ⟨g3, 0, none⟩)), (5, .slice Av_out5 nv_out5 cv_out5), (6, .bool v_more6), (13, .slice Aa0 a0.length ca0), (14, .int .i64 (a0.length : Int)), (15, .int .i64 v15)] H (chv_out5 :: (some (g3, .cells #[.slice Av_done4_0 nv_done4_0 cv_done4_0] 96 (0, 0))) :: chv_done4_0 :: (some (g1, .cells #[.slice Aa0 a0.length ca0] 46 (0, 0))) :: F)) : ∀ (a0 : List Work) (Aa0 : Option Addr) (ca0 : Nat) (g1 : Nat) (g3 : Nat) (v15 : Int) (v_done4_0 : List Bool) (Av_done4_0 : Option Addr) (nv_done4_0 : Nat) (cv_done4_0 : Nat) (chv_done4_0 : Ch) (v_out5 : List Int) (Av_out5 : Option Addr) (nv_out5 : Nat) (cv_out5 : Nat) (chv_out5 : Ch) (v_more6 : Bool) , Rw kWork H F Aa0 a0 → a0.length ≤ ca0 → SlOwn Kd.bool 4 H Av_done4_0 cv_done4_0 v_done4_0 chv_done4_0 → nv_done4_0 = v_done4_0.length → SlOwn (Kd.int .i64) 3 H Av_out5 cv_out5 v_out5 chv_out5 → nv_out5 = v_out5.length → workers_ordered.j4 backl3 a0 v15 v_done4_0 v_out5 v_more6 = some r → RunH C65 (S65 F H r) H w0 [.c [1, 1, 1, 0, 1, 0, 0, 1, 0, 1, 1, 0, 0, 1, 1, 1], .l [1, 1, 1, 0, 1, 0, 0, 1, 0, 1, 1, 0, 0], .b 2, .b 1, .l [1, 1, 1, 0, 1, 0, 0], .b 0, .c [1, 1, 1, 1]] [(1, .pointer (some ⟨g1, 0, none⟩)), (4, .pointer (some ⟨g3, 0, none⟩)), (5, .slice Av_out5 nv_out5 cv_out5), (6, .bool v_more6), (13, .slice Aa0 a0.length ca0), (14, .int .i64 (a0.length : Int)), (15, .int .i64 v15)] H (chv_out5 :: (some (g3, .cells #[.slice Av_done4_0 nv_done4_0 cv_done4_0] 96 (0, 0))) :: chv_done4_0 :: (some (g1, .cells #[.slice Aa0 a0.length ca0] 46 (0, 0))) :: F) := by
  intro a0 Aa0 ca0 g1 g3 v15 v_done4_0 Av_done4_0 nv_done4_0 cv_done4_0 chv_done4_0 v_out5 Av_out5 nv_out5 cv_out5 chv_out5 v_more6 hra0 hca0 hov_done4_0 hnv_done4_0 hov_out5 hnv_out5 heq
  subst hnv_done4_0
  subst hnv_out5
  unfold workers_ordered.j4 at heq
  refine RunH.reg (by kernel_rfl) ?_
  refine RgH.runk 2 [1, 4, 5, 6, 13, 14, 15] (vs := []) (evs := []) (L' := [(1, .pointer (some ⟨g1, 0, none⟩)), (4, .pointer (some ⟨g3, 0, none⟩)), (5, .slice Av_out5 v_out5.length cv_out5), (6, .bool v_more6), (13, .slice Aa0 a0.length ca0), (14, .int .i64 (a0.length : Int)), (15, .int .i64 (w64 (v15 + 1)))]) (by kernel_rfl) (by kernel_rfl) (fun _ _ => trivial) ?_
  refine RgH.done (by kernel_rfl) ?_
  refine RunH.adm 1 (es' := [.c [1, 1, 1, 0, 1, 0, 0, 1, 0, 1, 1, 0, 0], .l [1, 1, 1, 0, 1, 0, 0, 1, 0, 1, 1, 0, 0], .b 2, .b 1, .l [1, 1, 1, 0, 1, 0, 0], .b 0, .c [1, 1, 1, 1]]) (by kernel_rfl) ?_
  refine RunH.keep [1, 4, 5, 6, 13, 14, 15] (L' := [(1, .pointer (some ⟨g1, 0, none⟩)), (4, .pointer (some ⟨g3, 0, none⟩)), (5, .slice Av_out5 v_out5.length cv_out5), (6, .bool v_more6), (13, .slice Aa0 a0.length ca0), (14, .int .i64 (a0.length : Int)), (15, .int .i64 (w64 (v15 + 1)))]) (by kernel_rfl) ?_
  exact hbackl3 a0 _ _ _ _ v_done4_0 _ _ _ _ v_out5 _ _ _ _ v_more6 (w64 (v15 + 1)) hra0 hca0 hov_done4_0 rfl hov_out5 rfl heq
theorem workers_ordered.l3_c {w0 : World} {H : Hp} {F : List Ch} {r : (List Int) × Bool} (backl2 : (List Work) → (List Bool) → (List Int) → Bool → Option ((List Int) × Bool))
    (hbackl2 : ∀ (a0 : List Work) (Aa0 : Option Addr) (ca0 : Nat) (g1 : Nat) (g3 : Nat) (v_done4_0 : List Bool) (Av_done4_0 : Option Addr) (nv_done4_0 : Nat) (cv_done4_0 : Nat) (chv_done4_0 : Ch) (v_out5 : List Int) (Av_out5 : Option Addr) (nv_out5 : Nat) (cv_out5 : Nat) (chv_out5 : Ch) (v_more6 : Bool) , Rw kWork H F Aa0 a0 → a0.length ≤ ca0 → SlOwn Kd.bool 4 H Av_done4_0 cv_done4_0 v_done4_0 chv_done4_0 → nv_done4_0 = v_done4_0.length → SlOwn (Kd.int .i64) 3 H Av_out5 cv_out5 v_out5 chv_out5 → nv_out5 = v_out5.length → backl2 a0 v_done4_0 v_out5 v_more6 = some r → RunH C65 (S65 F H r) H w0 [.c [1, 1, 1, 0, 1, 0, 0], .l [1, 1, 1, 0, 1, 0, 0], .b 0, .c [1, 1, 1, 1]] [(1, .pointer (some ⟨g1, 0, none⟩)), (4, .pointer (some ⟨g3, 0, none⟩)), (5, .slice Av_out5 nv_out5 cv_out5), (6, .bool v_more6)] H (chv_out5 :: (some (g3, .cells #[.slice Av_done4_0 nv_done4_0 cv_done4_0] 96 (0, 0))) :: chv_done4_0 :: (some (g1, .cells #[.slice Aa0 a0.length ca0] 46 (0, 0))) :: F)) : ∀ (k : Nat), ∀ (a0 : List Work) (Aa0 : Option Addr) (ca0 : Nat) (g1 : Nat) (g3 : Nat) (v_done4_0 : List Bool) (Av_done4_0 : Option Addr) (nv_done4_0 : Nat) (cv_done4_0 : Nat) (chv_done4_0 : Ch) (v_out5 : List Int) (Av_out5 : Option Addr) (nv_out5 : Nat) (cv_out5 : Nat) (chv_out5 : Ch) (v_more6 : Bool) (v15 : Int) , Rw kWork H F Aa0 a0 → a0.length ≤ ca0 → SlOwn Kd.bool 4 H Av_done4_0 cv_done4_0 v_done4_0 chv_done4_0 → nv_done4_0 = v_done4_0.length → SlOwn (Kd.int .i64) 3 H Av_out5 cv_out5 v_out5 chv_out5 → nv_out5 = v_out5.length → workers_ordered.l3 backl2 k a0 v_done4_0 v_out5 v_more6 v15 = some r → RunH C65 (S65 F H r) H w0 [.c [1, 1, 1, 0, 1, 0, 0, 1, 0, 1, 1, 0, 0], .l [1, 1, 1, 0, 1, 0, 0, 1, 0, 1, 1, 0, 0], .b 2, .b 1, .l [1, 1, 1, 0, 1, 0, 0], .b 0, .c [1, 1, 1, 1]] [(1, .pointer (some ⟨g1, 0, none⟩)), (4, .pointer (some ⟨g3, 0, none⟩)), (5, .slice Av_out5 nv_out5 cv_out5), (6, .bool v_more6), (13, .slice Aa0 a0.length ca0), (14, .int .i64 (a0.length : Int)), (15, .int .i64 v15)] H (chv_out5 :: (some (g3, .cells #[.slice Av_done4_0 nv_done4_0 cv_done4_0] 96 (0, 0))) :: chv_done4_0 :: (some (g1, .cells #[.slice Aa0 a0.length ca0] 46 (0, 0))) :: F) := by
  intro k
  induction k with
  | zero => intro a0 Aa0 ca0 g1 g3 v_done4_0 Av_done4_0 nv_done4_0 cv_done4_0 chv_done4_0 v_out5 Av_out5 nv_out5 cv_out5 chv_out5 v_more6 v15 hra0 hca0 hov_done4_0 hnv_done4_0 hov_out5 hnv_out5 heq; exact nomatch (show (none : Option ((List Int) × Bool)) = some r from heq)
  | succ k ihk =>
    intro a0 Aa0 ca0 g1 g3 v_done4_0 Av_done4_0 nv_done4_0 cv_done4_0 chv_done4_0 v_out5 Av_out5 nv_out5 cv_out5 chv_out5 v_more6 v15 hra0 hca0 hov_done4_0 hnv_done4_0 hov_out5 hnv_out5 heq
    subst hnv_done4_0
    subst hnv_out5
    rw [workers_ordered.l3] at heq
    refine RunH.adm 1 (es' := [.c [1, 1, 1, 0, 1, 0, 0, 1, 0, 1, 1, 0, 0, 0], .c [1, 1, 1, 0, 1, 0, 0, 1, 0, 1, 1, 0, 0, 1], .l [1, 1, 1, 0, 1, 0, 0, 1, 0, 1, 1, 0, 0], .b 2, .b 1, .l [1, 1, 1, 0, 1, 0, 0], .b 0, .c [1, 1, 1, 1]]) (by kernel_rfl) ?_
    refine RunH.reg (by kernel_rfl) ?_
    refine RgH.runk 1 [1, 4, 5, 6, 13, 14, 15, 16] (vs := []) (evs := []) (L' := [(1, .pointer (some ⟨g1, 0, none⟩)), (4, .pointer (some ⟨g3, 0, none⟩)), (5, .slice Av_out5 v_out5.length cv_out5), (6, .bool v_more6), (13, .slice Aa0 a0.length ca0), (14, .int .i64 (a0.length : Int)), (15, .int .i64 v15), (16, .bool (decide (v15 < (a0.length : Int))))]) (by kernel_rfl) (by kernel_rfl) (fun _ _ => trivial) ?_
    refine RgH.done (by kernel_rfl) ?_
    refine RunH.adm 1 (es' := [.c [1, 1, 1, 0, 1, 0, 0, 1, 0, 1, 1, 0, 0, 1, 0], .c [1, 1, 1, 0, 1, 0, 0, 1, 0, 1, 1, 0, 0, 1, 1], .l [1, 1, 1, 0, 1, 0, 0, 1, 0, 1, 1, 0, 0], .b 2, .b 1, .l [1, 1, 1, 0, 1, 0, 0], .b 0, .c [1, 1, 1, 1]]) (by kernel_rfl) ?_
    rcases bool_cases (decide (v15 < (a0.length : Int))) with hb2 | hb2
    · replace heq := bif_true hb2 heq
      refine RunH.condT (c := decide (v15 < (a0.length : Int))) (by kernel_rfl) hb2 ?_
      refine RunH.adm 4 (es' := [.c [1, 1, 1, 0, 1, 0, 0, 1, 0, 1, 1, 0, 0, 1, 1, 0, 0, 0], .c [1, 1, 1, 0, 1, 0, 0, 1, 0, 1, 1, 0, 0, 1, 1, 0, 0, 1], .b 3, .c [1, 1, 1, 0, 1, 0, 0, 1, 0, 1, 1, 0, 0, 1, 1, 1], .l [1, 1, 1, 0, 1, 0, 0, 1, 0, 1, 1, 0, 0], .b 2, .b 1, .l [1, 1, 1, 0, 1, 0, 0], .b 0, .c [1, 1, 1, 1]]) (by kernel_rfl) ?_
      refine RunH.reg (by kernel_rfl) ?_
      obtain ⟨x1, hx1, heq⟩ := bind_some heq
      obtain ⟨ha1, cs1, hK1, hcc1⟩ := hra0.get hx1
      obtain ⟨A1, c1, A2, c2, rfl, hc1, hr1, hc2, hr2⟩ := kWork_open hK1
      refine RgH.runk 3 [1, 4, 5, 6, 13, 14, 15, 17, 19] (vs := [.string x1.Id, .slice A1 x1.Needs.length c1, .int .i64 x1.Size, .slice A2 x1.After.length c2]) (evs := [.need (Aa0 = some (adr Aa0) ∧ (0 : Int) ≤ v15 ∧ v15 < ((a0.length : Nat) : Int)), .load (((adr Aa0).add (v15.toNat * 4)).add 0) (.string x1.Id), .load (((adr Aa0).add (v15.toNat * 4)).add 1) (.slice A1 x1.Needs.length c1), .load (((adr Aa0).add (v15.toNat * 4)).add 2) (.int .i64 x1.Size), .load (((adr Aa0).add (v15.toNat * 4)).add 3) (.slice A2 x1.After.length c2)]) (L' := [(1, .pointer (some ⟨g1, 0, none⟩)), (4, .pointer (some ⟨g3, 0, none⟩)), (5, .slice Av_out5 v_out5.length cv_out5), (6, .bool v_more6), (13, .slice Aa0 a0.length ca0), (14, .int .i64 (a0.length : Int)), (15, .int .i64 v15), (17, .int .i64 v15), (19, .agg #[.string x1.Id, .slice A1 x1.Needs.length c1, .int .i64 x1.Size, .slice A2 x1.After.length c2])]) (by kernel_rfl) (by kernel_rfl) (fun w hh => ⟨⟨ha1, (at?_some hx1).1, (at?_some hx1).2.1⟩, (hcc1 _ _ (hh.drop 4) 0 _ rfl), (hcc1 _ _ (hh.drop 4) 1 _ rfl), (hcc1 _ _ (hh.drop 4) 2 _ rfl), (hcc1 _ _ (hh.drop 4) 3 _ rfl)⟩) ?_
      refine RgH.does (DoesH.new (d := 8) (v := fun g => .pointer (some ⟨g, 0, none⟩)) (o := fun g => .cells #[.string ByteArray.empty, .slice none 0 0, .int .i64 0, .slice none 0 0] 49 (0, 0)) (fun g => by kernel_rfl)) ?_
      rintro _ _ _ _ ⟨g4, rfl, rfl, rfl⟩
      refine RgH.runk 5 [1, 4, 5, 6, 7, 8, 13, 14, 15, 19] (vs := []) (evs := []) (L' := [(1, .pointer (some ⟨g1, 0, none⟩)), (4, .pointer (some ⟨g3, 0, none⟩)), (5, .slice Av_out5 v_out5.length cv_out5), (6, .bool v_more6), (7, .int .i64 v15), (8, .pointer (some ⟨g4, 0, none⟩)), (13, .slice Aa0 a0.length ca0), (14, .int .i64 (a0.length : Int)), (15, .int .i64 v15), (19, .agg #[.string x1.Id, .slice A1 x1.Needs.length c1, .int .i64 x1.Size, .slice A2 x1.After.length c2])]) (by kernel_rfl) (by kernel_rfl) (fun _ _ => trivial) ?_
      refine RgH.does (DoesH.store (k := 0) (g := g4) (off := 0) (v := .agg #[.string x1.Id, .slice A1 x1.Needs.length c1, .int .i64 x1.Size, .slice A2 x1.After.length c2]) (cells' := #[.string x1.Id, .slice A1 x1.Needs.length c1, .int .i64 x1.Size, .slice A2 x1.After.length c2]) (by kernel_rfl) rfl (by kernel_rfl) (by kernel_rfl)) ?_
      rintro _ _ _ _ ⟨rfl, rfl, rfl⟩
      refine RgH.done (by kernel_rfl) ?_
      refine RunH.adm 2 (es' := [.c [1, 1, 1, 0, 1, 0, 0, 1, 0, 1, 1, 0, 0, 1, 1, 0, 0, 1, 0, 0], .c [1, 1, 1, 0, 1, 0, 0, 1, 0, 1, 1, 0, 0, 1, 1, 0, 0, 1, 0, 1], .c [1, 1, 1, 0, 1, 0, 0, 1, 0, 1, 1, 0, 0, 1, 1, 0, 0, 1, 1], .b 3, .c [1, 1, 1, 0, 1, 0, 0, 1, 0, 1, 1, 0, 0, 1, 1, 1], .l [1, 1, 1, 0, 1, 0, 0, 1, 0, 1, 1, 0, 0], .b 2, .b 1, .l [1, 1, 1, 0, 1, 0, 0], .b 0, .c [1, 1, 1, 1]]) (by kernel_rfl) ?_
      obtain ⟨t1, ht1, heq⟩ := bind_some heq
      have K10 : RunH C65 (S65 F H r) H w0 [.c [1, 1, 1, 0, 1, 0, 0, 1, 0, 1, 1, 0, 0, 1, 1, 0, 0, 1, 0, 1], .c [1, 1, 1, 0, 1, 0, 0, 1, 0, 1, 1, 0, 0, 1, 1, 0, 0, 1, 1], .b 3, .c [1, 1, 1, 0, 1, 0, 0, 1, 0, 1, 1, 0, 0, 1, 1, 1], .l [1, 1, 1, 0, 1, 0, 0, 1, 0, 1, 1, 0, 0], .b 2, .b 1, .l [1, 1, 1, 0, 1, 0, 0], .b 0, .c [1, 1, 1, 1]] [(1, .pointer (some ⟨g1, 0, none⟩)), (4, .pointer (some ⟨g3, 0, none⟩)), (5, .slice Av_out5 v_out5.length cv_out5), (6, .bool v_more6), (7, .int .i64 v15), (13, .slice Aa0 a0.length ca0), (14, .int .i64 (a0.length : Int)), (15, .int .i64 v15), (29, .bool t1)] H (chv_out5 :: (some (g3, .cells #[.slice Av_done4_0 v_done4_0.length cv_done4_0] 96 (0, 0))) :: chv_done4_0 :: (some (g1, .cells #[.slice Aa0 a0.length ca0] 46 (0, 0))) :: F) := by
        rcases bool_cases (t1) with hb4 | hb4
        · replace heq := bif_true hb4 heq
          refine RunH.condT (c := t1) (by kernel_rfl) hb4 ?_
          refine RunH.adm 1 (es' := [.c [1, 1, 1, 0, 1, 0, 0, 1, 0, 1, 1, 0, 0, 1, 1, 1], .l [1, 1, 1, 0, 1, 0, 0, 1, 0, 1, 1, 0, 0], .b 2, .b 1, .l [1, 1, 1, 0, 1, 0, 0], .b 0, .c [1, 1, 1, 1]]) (by kernel_rfl) ?_
          refine RunH.keep [1, 4, 5, 6, 13, 14, 15] (L' := [(1, .pointer (some ⟨g1, 0, none⟩)), (4, .pointer (some ⟨g3, 0, none⟩)), (5, .slice Av_out5 v_out5.length cv_out5), (6, .bool v_more6), (13, .slice Aa0 a0.length ca0), (14, .int .i64 (a0.length : Int)), (15, .int .i64 v15)]) (by kernel_rfl) ?_
          exact (workers_ordered.j4_c (backl3 := (workers_ordered.l3 backl2 k)) ihk) a0 _ _ _ _ v15 v_done4_0 _ _ _ _ v_out5 _ _ _ _ v_more6 hra0 hca0 hov_done4_0 rfl hov_out5 rfl heq
        · replace heq := bif_false hb4 heq
          refine RunH.condF (c := t1) (by kernel_rfl) hb4 ?_
          refine RunH.adm 2 (es' := [.c [1, 1, 1, 0, 1, 0, 0, 1, 0, 1, 1, 0, 0, 1, 1, 0, 0, 1, 1, 0], .c [1, 1, 1, 0, 1, 0, 0, 1, 0, 1, 1, 0, 0, 1, 1, 0, 0, 1, 1, 1], .b 3, .c [1, 1, 1, 0, 1, 0, 0, 1, 0, 1, 1, 0, 0, 1, 1, 1], .l [1, 1, 1, 0, 1, 0, 0, 1, 0, 1, 1, 0, 0], .b 2, .b 1, .l [1, 1, 1, 0, 1, 0, 0], .b 0, .c [1, 1, 1, 1]]) (by kernel_rfl) ?_
          refine RunH.reg (by kernel_rfl) ?_
          obtain ⟨x3, hx3, heq⟩ := bind_some heq
          obtain ⟨ha3, cs3, hK3, hcc3⟩ := hov_done4_0.get hx3
          obtain rfl : cs3 = [.bool x3] := hK3
          refine RgH.runk 3 [1, 4, 5, 7, 13, 14, 15, 32] (vs := [.slice Av_done4_0 v_done4_0.length cv_done4_0]) (evs := [.load ⟨g3, 0, none⟩ (.slice Av_done4_0 v_done4_0.length cv_done4_0), .need (Av_done4_0 = some (adr Av_done4_0) ∧ (0 : Int) ≤ v15 ∧ v15 < ((v_done4_0.length : Nat) : Int))]) (L' := [(1, .pointer (some ⟨g1, 0, none⟩)), (4, .pointer (some ⟨g3, 0, none⟩)), (5, .slice Av_out5 v_out5.length cv_out5), (7, .int .i64 v15), (13, .slice Aa0 a0.length ca0), (14, .int .i64 (a0.length : Int)), (15, .int .i64 v15), (32, .pointer (some ((adr Av_done4_0).add (v15.toNat * 1))))]) (by kernel_rfl) (by kernel_rfl) (fun w hh => ⟨(hh.box 1 rfl rfl), ⟨ha3, (at?_some hx3).1, (at?_some hx3).2.1⟩⟩) ?_
          obtain ⟨ha4, cs4, hK4, hcc4⟩ := hov_done4_0.get hx3
          obtain rfl : cs4 = [.bool x3] := hK4
          refine RgH.does (DoesH.storeEl (a := ((adr Av_done4_0).add (v15.toNat * 1))) (k := 2) (kd := Kd.bool) (c0 := [.bool x3]) (x' := true) (o := 0) (ix := v15) (v := .bool true) (by kernel_rfl) rfl hov_done4_0 hx3 (by kernel_rfl) hcc4 rfl (Nat.le_of_ble_eq_true (by kernel_rfl)) rfl) ?_
          rintro _ _ _ _ ⟨ch2, rfl, rfl, rfl, ho2⟩
          have hn2 : v_done4_0.length = (v_done4_0.set v15.toNat true).length := by rw [List.length_set]
          refine RgH.runk 5 [1, 4, 5, 6, 7, 13, 14, 15] (vs := []) (evs := []) (L' := [(1, .pointer (some ⟨g1, 0, none⟩)), (4, .pointer (some ⟨g3, 0, none⟩)), (5, .slice Av_out5 v_out5.length cv_out5), (6, .bool true), (7, .int .i64 v15), (13, .slice Aa0 a0.length ca0), (14, .int .i64 (a0.length : Int)), (15, .int .i64 v15)]) (by kernel_rfl) (by kernel_rfl) (fun _ _ => trivial) ?_
          refine RgH.done (by kernel_rfl) ?_
          refine RunH.reg (by kernel_rfl) ?_
          refine RgH.runk 2 [1, 4, 6, 13, 14, 15, 33, 34] (vs := []) (evs := []) (L' := [(1, .pointer (some ⟨g1, 0, none⟩)), (4, .pointer (some ⟨g3, 0, none⟩)), (6, .bool true), (13, .slice Aa0 a0.length ca0), (14, .int .i64 (a0.length : Int)), (15, .int .i64 v15), (33, .slice Av_out5 v_out5.length cv_out5), (34, .int .i64 v15)]) (by kernel_rfl) (by kernel_rfl) (fun _ _ => trivial) ?_
          refine RgH.does (DoesH.new (d := 35) (v := fun g => .slice (some ⟨g, 0, none⟩) 1 1) (o := fun g => .cells #[.int .i64 v15] 3 (0, 0)) (fun g => by kernel_rfl)) ?_
          rintro _ _ _ _ ⟨g5, rfl, rfl, rfl⟩
          have ho3 : SlOwn (Kd.int .i64) 3 H (some ⟨g5, 0, none⟩) 1 ([v15] : List Int) (some (g5, .cells #[.int .i64 v15] 3 (0, 0))) := SlOwn.lit (xs := ([v15] : List Int)) (by kernel_rfl) (Nat.le_of_ble_eq_true (by kernel_rfl)) (Kd.Rep.scalars rfl)
          obtain ⟨hn3, heq⟩ := guard?_some heq
          refine RgH.does (DoesH.append (d := 36) (k := 1) (t := 62) (e := 3) (bytes := 8) (kd := (Kd.int .i64)) (n := v_out5.length) (m := 1) (xs := v_out5) (ys := ([v15] : List Int)) (A := Av_out5) (B := (some ⟨g5, 0, none⟩)) (c := cv_out5) (cB := 1) (by kernel_rfl) rfl rfl (by kernel_rfl) rfl hov_out5 (fun w hh => ho3.rdb (hh.chin 0 rfl)) (room_le hn3) (by have := room_le hn3; omega)) ?_
          rintro _ _ _ _ ⟨A3, c3, ch3, rfl, rfl, rfl, ho4⟩
          refine RgH.runk 5 [1, 4, 5, 6, 13, 14, 15] (vs := []) (evs := []) (L' := [(1, .pointer (some ⟨g1, 0, none⟩)), (4, .pointer (some ⟨g3, 0, none⟩)), (5, .slice A3 ((v_out5 ++ ([v15] : List Int)).length) c3), (6, .bool true), (13, .slice Aa0 a0.length ca0), (14, .int .i64 (a0.length : Int)), (15, .int .i64 v15)]) (by kernel_rfl) (by kernel_rfl) (fun _ _ => trivial) ?_
          refine RgH.done (by kernel_rfl) ?_
          refine RunH.adm 1 (es' := [.c [1, 1, 1, 0, 1, 0, 0, 1, 0, 1, 1, 0, 0, 1, 1, 1], .l [1, 1, 1, 0, 1, 0, 0, 1, 0, 1, 1, 0, 0], .b 2, .b 1, .l [1, 1, 1, 0, 1, 0, 0], .b 0, .c [1, 1, 1, 1]]) (by kernel_rfl) ?_
          refine RunH.keep [1, 4, 5, 6, 13, 14, 15] (L' := [(1, .pointer (some ⟨g1, 0, none⟩)), (4, .pointer (some ⟨g3, 0, none⟩)), (5, .slice A3 ((v_out5 ++ ([v15] : List Int)).length) c3), (6, .bool true), (13, .slice Aa0 a0.length ca0), (14, .int .i64 (a0.length : Int)), (15, .int .i64 v15)]) (by kernel_rfl) ?_
          refine RunH.pick 5 [1, 2, 3, 4] (cs' := ch3 :: (some (g3, .cells #[.slice Av_done4_0 v_done4_0.length cv_done4_0] 96 (0, 0))) :: ch2 :: (some (g1, .cells #[.slice Aa0 a0.length ca0] 46 (0, 0))) :: F) (by kernel_rfl) rfl ?_
          exact (workers_ordered.j4_c (backl3 := (workers_ordered.l3 backl2 k)) ihk) a0 _ _ _ _ v15 (v_done4_0.set v15.toNat true) _ _ _ _ (v_out5 ++ ([v15] : List Int)) _ _ _ _ true hra0 hca0 ho2 hn2 ho4 rfl heq
      replace heq := ht1
      refine RunH.reg (by kernel_rfl) ?_
      obtain ⟨x2, hx2, heq⟩ := bind_some heq
      obtain ⟨ha2, cs2, hK2, hcc2⟩ := hov_done4_0.get hx2
      obtain rfl : cs2 = [.bool x2] := hK2
      refine RgH.runk 5 [24, 1, 4, 5, 6, 7, 8, 13, 14, 15] (vs := [.slice Av_done4_0 v_done4_0.length cv_done4_0, .bool x2]) (evs := [.load ⟨g3, 0, none⟩ (.slice Av_done4_0 v_done4_0.length cv_done4_0), .need (Av_done4_0 = some (adr Av_done4_0) ∧ (0 : Int) ≤ v15 ∧ v15 < ((v_done4_0.length : Nat) : Int)), .load ((adr Av_done4_0).add (v15.toNat * 1)) (.bool x2)]) (L' := [(24, .bool x2), (1, .pointer (some ⟨g1, 0, none⟩)), (4, .pointer (some ⟨g3, 0, none⟩)), (5, .slice Av_out5 v_out5.length cv_out5), (6, .bool v_more6), (7, .int .i64 v15), (8, .pointer (some ⟨g4, 0, none⟩)), (13, .slice Aa0 a0.length ca0), (14, .int .i64 (a0.length : Int)), (15, .int .i64 v15)]) (by kernel_rfl) (by kernel_rfl) (fun w hh => ⟨(hh.box 2 rfl rfl), ⟨ha2, (at?_some hx2).1, (at?_some hx2).2.1⟩, (hcc2 _ (hh.chin 3 rfl) 0 _ rfl)⟩) ?_
      rcases bool_cases (x2) with hb3 | hb3
      · replace heq := bif_true hb3 heq
        refine RgH.val1 (v' := .bool true) (congrArg Value.bool hb3) ?_
        refine RgH.runk 10 [1, 4, 5, 6, 7, 13, 14, 15, 29] (vs := []) (evs := []) (L' := [(1, .pointer (some ⟨g1, 0, none⟩)), (4, .pointer (some ⟨g3, 0, none⟩)), (5, .slice Av_out5 v_out5.length cv_out5), (6, .bool v_more6), (7, .int .i64 v15), (13, .slice Aa0 a0.length ca0), (14, .int .i64 (a0.length : Int)), (15, .int .i64 v15), (29, .bool true)]) (by kernel_rfl) (by kernel_rfl) (fun _ _ => trivial) ?_
        obtain rfl := Option.some.inj heq
        refine RgH.keep [1, 4, 5, 6, 7, 13, 14, 15, 29] (L' := [(1, .pointer (some ⟨g1, 0, none⟩)), (4, .pointer (some ⟨g3, 0, none⟩)), (5, .slice Av_out5 v_out5.length cv_out5), (6, .bool v_more6), (7, .int .i64 v15), (13, .slice Aa0 a0.length ca0), (14, .int .i64 (a0.length : Int)), (15, .int .i64 v15), (29, .bool true)]) (by kernel_rfl) ?_
        refine RgH.pick 5 [1, 2, 3, 4] (cs' := chv_out5 :: (some (g3, .cells #[.slice Av_done4_0 v_done4_0.length cv_done4_0] 96 (0, 0))) :: chv_done4_0 :: (some (g1, .cells #[.slice Aa0 a0.length ca0] 46 (0, 0))) :: F) (by kernel_rfl) rfl ?_
        refine RgH.done (by kernel_rfl) ?_
        exact K10
      · replace heq := bif_false hb3 heq
        refine RgH.val1 (v' := .bool false) (congrArg Value.bool hb3) ?_
        refine RgH.runk 8 [1, 4, 5, 6, 7, 13, 14, 15, 24, 26, 27] (vs := [.slice A2 x1.After.length c2]) (evs := [.load ⟨g4, 3, none⟩ (.slice A2 x1.After.length c2)]) (L' := [(1, .pointer (some ⟨g1, 0, none⟩)), (4, .pointer (some ⟨g3, 0, none⟩)), (5, .slice Av_out5 v_out5.length cv_out5), (6, .bool v_more6), (7, .int .i64 v15), (13, .slice Aa0 a0.length ca0), (14, .int .i64 (a0.length : Int)), (15, .int .i64 v15), (24, .bool false), (26, .slice A2 x1.After.length c2), (27, .func (.func 87) #[] #[.pointer (some ⟨g1, 0, none⟩), .pointer (some ⟨g3, 0, none⟩)])]) (by kernel_rfl) (by kernel_rfl) (fun w hh => (hh.box 0 rfl rfl)) ?_
        obtain ⟨y1, hy1, heq⟩ := bind_some heq
        refine RgH.does (DoesH.call (d := 28) (g := 86) (args := #[.slice A2 x1.After.length c2, .func (.func 87) #[] #[.pointer (some ⟨g1, 0, none⟩), .pointer (some ⟨g3, 0, none⟩)]]) (by kernel_rfl) (slices_ContainsFunc_string_c (a0 := x1.After) (a1q0 := a0) (a1q1 := v_done4_0) (Rw.of hr2) hc2 rfl (hra0.wk (fun _ h => (.tail _ (.tail _ (.tail _ (.tail _ (.tail _ h))))))) hca0 rfl (.inr (.tail _ (.tail _ (.tail _ (.tail _ (.head _)))))) (hov_done4_0.rw (.tail _ (.tail _ (.tail _ (.head _))))) hov_done4_0.cap rfl (.inr (.tail _ (.tail _ (.head _)))) hy1)) ?_
        rintro _ _ _ _ ⟨_, rfl, rfl, rfl, rfl⟩
        refine RgH.runk 10 [1, 4, 5, 6, 7, 13, 14, 15, 29] (vs := []) (evs := []) (L' := [(1, .pointer (some ⟨g1, 0, none⟩)), (4, .pointer (some ⟨g3, 0, none⟩)), (5, .slice Av_out5 v_out5.length cv_out5), (6, .bool v_more6), (7, .int .i64 v15), (13, .slice Aa0 a0.length ca0), (14, .int .i64 (a0.length : Int)), (15, .int .i64 v15), (29, .bool y1)]) (by kernel_rfl) (by kernel_rfl) (fun _ _ => trivial) ?_
        obtain rfl := Option.some.inj heq
        refine RgH.keep [1, 4, 5, 6, 7, 13, 14, 15, 29] (L' := [(1, .pointer (some ⟨g1, 0, none⟩)), (4, .pointer (some ⟨g3, 0, none⟩)), (5, .slice Av_out5 v_out5.length cv_out5), (6, .bool v_more6), (7, .int .i64 v15), (13, .slice Aa0 a0.length ca0), (14, .int .i64 (a0.length : Int)), (15, .int .i64 v15), (29, .bool y1)]) (by kernel_rfl) ?_
        refine RgH.pick 5 [1, 2, 3, 4] (cs' := chv_out5 :: (some (g3, .cells #[.slice Av_done4_0 v_done4_0.length cv_done4_0] 96 (0, 0))) :: chv_done4_0 :: (some (g1, .cells #[.slice Aa0 a0.length ca0] 46 (0, 0))) :: F) (by kernel_rfl) rfl ?_
        refine RgH.done (by kernel_rfl) ?_
        exact K10
    · replace heq := bif_false hb2 heq
      refine RunH.condF (c := decide (v15 < (a0.length : Int))) (by kernel_rfl) hb2 ?_
      refine RunH.adm 3 (es' := [.c [1, 1, 1, 0, 1, 0, 0], .l [1, 1, 1, 0, 1, 0, 0], .b 0, .c [1, 1, 1, 1]]) (by kernel_rfl) ?_
      refine RunH.keep [1, 4, 5, 6] (L' := [(1, .pointer (some ⟨g1, 0, none⟩)), (4, .pointer (some ⟨g3, 0, none⟩)), (5, .slice Av_out5 v_out5.length cv_out5), (6, .bool v_more6)]) (by kernel_rfl) ?_
      exact hbackl2 a0 _ _ _ _ v_done4_0 _ _ _ _ v_out5 _ _ _ _ v_more6 hra0 hca0 hov_done4_0 rfl hov_out5 rfl heq
theorem workers_ordered.l2_c {w0 : World} {H : Hp} {F : List Ch} {r : (List Int) × Bool} (e1 : (List Work) → (List Int) → Option ((List Int) × Bool))
    (he1 : ∀ (a0 : List Work) (Aa0 : Option Addr) (ca0 : Nat) (g1 : Nat) (v_out5 : List Int) (Av_out5 : Option Addr) (nv_out5 : Nat) (cv_out5 : Nat) (chv_out5 : Ch) , Rw kWork H F Aa0 a0 → a0.length ≤ ca0 → SlOwn (Kd.int .i64) 3 H Av_out5 cv_out5 v_out5 chv_out5 → nv_out5 = v_out5.length → e1 a0 v_out5 = some r → RunH C65 (S65 F H r) H w0 [.c [1, 1, 1, 1, 0], .c [1, 1, 1, 1, 1]] [(1, .pointer (some ⟨g1, 0, none⟩)), (5, .slice Av_out5 nv_out5 cv_out5)] H (chv_out5 :: (some (g1, .cells #[.slice Aa0 a0.length ca0] 46 (0, 0))) :: F)) : ∀ (k : Nat), ∀ (a0 : List Work) (Aa0 : Option Addr) (ca0 : Nat) (g1 : Nat) (g3 : Nat) (v_done4_0 : List Bool) (Av_done4_0 : Option Addr) (nv_done4_0 : Nat) (cv_done4_0 : Nat) (chv_done4_0 : Ch) (v_out5 : List Int) (Av_out5 : Option Addr) (nv_out5 : Nat) (cv_out5 : Nat) (chv_out5 : Ch) (v_more6 : Bool) , Rw kWork H F Aa0 a0 → a0.length ≤ ca0 → SlOwn Kd.bool 4 H Av_done4_0 cv_done4_0 v_done4_0 chv_done4_0 → nv_done4_0 = v_done4_0.length → SlOwn (Kd.int .i64) 3 H Av_out5 cv_out5 v_out5 chv_out5 → nv_out5 = v_out5.length → workers_ordered.l2 e1 k a0 v_done4_0 v_out5 v_more6 = some r → RunH C65 (S65 F H r) H w0 [.c [1, 1, 1, 0, 1, 0, 0], .l [1, 1, 1, 0, 1, 0, 0], .b 0, .c [1, 1, 1, 1]] [(1, .pointer (some ⟨g1, 0, none⟩)), (4, .pointer (some ⟨g3, 0, none⟩)), (5, .slice Av_out5 nv_out5 cv_out5), (6, .bool v_more6)] H (chv_out5 :: (some (g3, .cells #[.slice Av_done4_0 nv_done4_0 cv_done4_0] 96 (0, 0))) :: chv_done4_0 :: (some (g1, .cells #[.slice Aa0 a0.length ca0] 46 (0, 0))) :: F) := by
  intro k
  induction k with
  | zero => intro a0 Aa0 ca0 g1 g3 v_done4_0 Av_done4_0 nv_done4_0 cv_done4_0 chv_done4_0 v_out5 Av_out5 nv_out5 cv_out5 chv_out5 v_more6 hra0 hca0 hov_done4_0 hnv_done4_0 hov_out5 hnv_out5 heq; exact nomatch (show (none : Option ((List Int) × Bool)) = some r from heq)
  | succ k ihk =>
    intro a0 Aa0 ca0 g1 g3 v_done4_0 Av_done4_0 nv_done4_0 cv_done4_0 chv_done4_0 v_out5 Av_out5 nv_out5 cv_out5 chv_out5 v_more6 hra0 hca0 hov_done4_0 hnv_done4_0 hov_out5 hnv_out5 heq
    subst hnv_done4_0
    subst hnv_out5
    rw [workers_ordered.l2] at heq
    refine RunH.adm 2 (es' := [.c [1, 1, 1, 0, 1, 0, 0, 0, 0], .c [1, 1, 1, 0, 1, 0, 0, 0, 1], .c [1, 1, 1, 0, 1, 0, 0, 1], .l [1, 1, 1, 0, 1, 0, 0], .b 0, .c [1, 1, 1, 1]]) (by kernel_rfl) ?_
    refine RunH.reg (by kernel_rfl) ?_
    refine RgH.runk 1 [1, 4, 5, 12] (vs := []) (evs := []) (L' := [(1, .pointer (some ⟨g1, 0, none⟩)), (4, .pointer (some ⟨g3, 0, none⟩)), (5, .slice Av_out5 v_out5.length cv_out5), (12, .bool v_more6)]) (by kernel_rfl) (by kernel_rfl) (fun _ _ => trivial) ?_
    refine RgH.done (by kernel_rfl) ?_
    rcases bool_cases (v_more6) with hb1 | hb1
    · replace heq := bif_true hb1 heq
      refine RunH.condT (c := v_more6) (by kernel_rfl) hb1 ?_
      refine RunH.adm 3 (es' := [.c [1, 1, 1, 0, 1, 0, 0, 1, 0, 0], .c [1, 1, 1, 0, 1, 0, 0, 1, 0, 1], .b 1, .l [1, 1, 1, 0, 1, 0, 0], .b 0, .c [1, 1, 1, 1]]) (by kernel_rfl) ?_
      refine RunH.reg (by kernel_rfl) ?_
      refine RgH.runk 1 [1, 4, 5, 6] (vs := []) (evs := []) (L' := [(1, .pointer (some ⟨g1, 0, none⟩)), (4, .pointer (some ⟨g3, 0, none⟩)), (5, .slice Av_out5 v_out5.length cv_out5), (6, .bool false)]) (by kernel_rfl) (by kernel_rfl) (fun _ _ => trivial) ?_
      refine RgH.done (by kernel_rfl) ?_
      refine RunH.adm 1 (es' := [.c [1, 1, 1, 0, 1, 0, 0, 1, 0, 1, 0], .c [1, 1, 1, 0, 1, 0, 0, 1, 0, 1, 1], .b 1, .l [1, 1, 1, 0, 1, 0, 0], .b 0, .c [1, 1, 1, 1]]) (by kernel_rfl) ?_
      refine RunH.reg (by kernel_rfl) ?_
      refine RgH.runk 3 [1, 4, 5, 6, 13, 14, 15] (vs := [.slice Aa0 a0.length ca0]) (evs := [.load ⟨g1, 0, none⟩ (.slice Aa0 a0.length ca0)]) (L' := [(1, .pointer (some ⟨g1, 0, none⟩)), (4, .pointer (some ⟨g3, 0, none⟩)), (5, .slice Av_out5 v_out5.length cv_out5), (6, .bool false), (13, .slice Aa0 a0.length ca0), (14, .int .i64 (a0.length : Int)), (15, .int .i64 0)]) (by kernel_rfl) (by kernel_rfl) (fun w hh => (hh.box 3 rfl rfl)) ?_
      refine RgH.done (by kernel_rfl) ?_
      refine RunH.adm 2 (es' := [.c [1, 1, 1, 0, 1, 0, 0, 1, 0, 1, 1, 0, 0], .l [1, 1, 1, 0, 1, 0, 0, 1, 0, 1, 1, 0, 0], .b 2, .b 1, .l [1, 1, 1, 0, 1, 0, 0], .b 0, .c [1, 1, 1, 1]]) (by kernel_rfl) ?_
      refine RunH.keep [1, 4, 5, 6, 13, 14, 15] (L' := [(1, .pointer (some ⟨g1, 0, none⟩)), (4, .pointer (some ⟨g3, 0, none⟩)), (5, .slice Av_out5 v_out5.length cv_out5), (6, .bool false), (13, .slice Aa0 a0.length ca0), (14, .int .i64 (a0.length : Int)), (15, .int .i64 0)]) (by kernel_rfl) ?_
      exact ((workers_ordered.l3_c (backl2 := (workers_ordered.l2 e1 k)) ihk) big) a0 _ _ _ _ v_done4_0 _ _ _ _ v_out5 _ _ _ _ false 0 hra0 hca0 hov_done4_0 rfl hov_out5 rfl heq
    · replace heq := bif_false hb1 heq
      refine RunH.condF (c := v_more6) (by kernel_rfl) hb1 ?_
      refine RunH.adm 2 (es' := [.c [1, 1, 1, 1, 0], .c [1, 1, 1, 1, 1]]) (by kernel_rfl) ?_
      refine RunH.keep [1, 5] (L' := [(1, .pointer (some ⟨g1, 0, none⟩)), (5, .slice Av_out5 v_out5.length cv_out5)]) (by kernel_rfl) ?_
      refine RunH.pick 4 [0, 3] (cs' := chv_out5 :: (some (g1, .cells #[.slice Aa0 a0.length ca0] 46 (0, 0))) :: F) (by kernel_rfl) rfl ?_
      exact he1 a0 _ _ _ v_out5 _ _ _ _ hra0 hca0 hov_out5 rfl heq
theorem workers_ordered_c {w0 : World} {H : Hp} {F : List Ch} {a0 : List Work} {Aa0 : Option Addr} {na0 : Nat} {ca0 : Nat} {r : (List Int) × Bool} (hra0 : Rw kWork H F Aa0 a0) (hca0 : na0 ≤ ca0) (hna0 : na0 = a0.length) (heq : workers_ordered.f a0 = some r) : CallsH Tryd.prog 65 #[.slice Aa0 na0 ca0] H w0 (F) (S65 F H r) := by
  refine calls_of_runH (F := C65) Tryd.func65 (by kernel_rfl) Tryd.ntmps65 (args := [.slice Aa0 na0 ca0]) (by kernel_rfl) ?_
  subst hna0
  unfold workers_ordered.f at heq
  refine RunH.adm 1 (es' := [.c [0], .c [1]]) (by kernel_rfl) ?_
  refine RunH.reg (by kernel_rfl) ?_
  refine RgH.does (DoesH.new (d := 1) (v := fun g => .pointer (some ⟨g, 0, none⟩)) (o := fun g => .cells #[.slice Aa0 a0.length ca0] 46 (0, 0)) (fun g => by kernel_rfl)) ?_
  rintro _ _ _ _ ⟨g1, rfl, rfl, rfl⟩
  refine RgH.runk 3 [1] (vs := []) (evs := []) (L' := [(1, .pointer (some ⟨g1, 0, none⟩))]) (by kernel_rfl) (by kernel_rfl) (fun _ _ => trivial) ?_
  refine RgH.done (by kernel_rfl) ?_
  refine RunH.adm 1 (es' := [.c [1, 0], .c [1, 1]]) (by kernel_rfl) ?_
  refine RunH.reg (by kernel_rfl) ?_
  refine RgH.runk 2 [1, 10] (vs := [.slice Aa0 a0.length ca0]) (evs := [.load ⟨g1, 0, none⟩ (.slice Aa0 a0.length ca0)]) (L' := [(1, .pointer (some ⟨g1, 0, none⟩)), (10, .int .i64 (a0.length : Int))]) (by kernel_rfl) (by kernel_rfl) (fun w hh => (hh.box 0 rfl rfl)) ?_
  obtain ⟨hn1, heq⟩ := guard?_some heq
  simp only [Bool.and_eq_true, decide_eq_true_eq] at hn1
  refine RgH.does (DoesH.makeSlice (d := 11) (e := 4) (bytes := 1) (kd := Kd.bool) (zc := #[.bool false]) (z := false) (n := (a0.length : Int)) (by kernel_rfl) hn1.1 (by have := room_le hn1.2; simpa using this) (by have := room_le hn1.2; simp at this; omega) rfl (by decide)) ?_
  rintro _ _ _ _ ⟨g2, ch1, rfl, rfl, rfl, ho1⟩
  refine RgH.does (DoesH.new (d := 4) (v := fun g => .pointer (some ⟨g, 0, none⟩)) (o := fun g => .cells #[.slice none 0 0] 96 (0, 0)) (fun g => by kernel_rfl)) ?_
  rintro _ _ _ _ ⟨g3, rfl, rfl, rfl⟩
  refine RgH.does (DoesH.store (k := 0) (g := g3) (off := 0) (v := .slice (some ⟨g2, 0, none⟩) ((List.replicate (a0.length : Int).toNat (false)).length) ((a0.length : Int).toNat)) (cells' := #[.slice (some ⟨g2, 0, none⟩) ((List.replicate (a0.length : Int).toNat (false)).length) ((a0.length : Int).toNat)]) (by kernel_rfl) rfl (by kernel_rfl) (by kernel_rfl)) ?_
  rintro _ _ _ _ ⟨rfl, rfl, rfl⟩
  refine RgH.done (by kernel_rfl) ?_
  refine RunH.adm 1 (es' := [.c [1, 1, 0], .c [1, 1, 1]]) (by kernel_rfl) ?_
  refine RunH.reg (by kernel_rfl) ?_
  refine RgH.runk 1 [1, 4, 5] (vs := []) (evs := []) (L' := [(1, .pointer (some ⟨g1, 0, none⟩)), (4, .pointer (some ⟨g3, 0, none⟩)), (5, .slice none 0 0)]) (by kernel_rfl) (by kernel_rfl) (fun _ _ => trivial) ?_
  refine RgH.done (by kernel_rfl) ?_
  refine RunH.adm 2 (es' := [.c [1, 1, 1, 0, 0], .c [1, 1, 1, 0, 1], .c [1, 1, 1, 1]]) (by kernel_rfl) ?_
  refine RunH.reg (by kernel_rfl) ?_
  refine RgH.runk 1 [1, 4, 5, 6] (vs := []) (evs := []) (L' := [(1, .pointer (some ⟨g1, 0, none⟩)), (4, .pointer (some ⟨g3, 0, none⟩)), (5, .slice none 0 0), (6, .bool true)]) (by kernel_rfl) (by kernel_rfl) (fun _ _ => trivial) ?_
  refine RgH.done (by kernel_rfl) ?_
  refine RunH.adm 2 (es' := [.c [1, 1, 1, 0, 1, 0, 0], .l [1, 1, 1, 0, 1, 0, 0], .b 0, .c [1, 1, 1, 1]]) (by kernel_rfl) ?_
  refine RunH.nilc ?_
  have ho5 : SlOwn (Kd.int .i64) 3 H none 0 ([] : List Int) none := SlOwn.nil
  refine RunH.keep [1, 4, 5, 6] (L' := [(1, .pointer (some ⟨g1, 0, none⟩)), (4, .pointer (some ⟨g3, 0, none⟩)), (5, .slice none 0 0), (6, .bool true)]) (by kernel_rfl) ?_
  exact ((workers_ordered.l2_c (e1 := workers_ordered.e1) (workers_ordered.e1_c)) big) a0 _ _ _ _ (List.replicate (a0.length : Int).toNat (false)) _ _ _ _ ([] : List Int) _ _ _ _ true hra0 hca0 ho1 rfl ho5 rfl heq
end Go.Proofs.YtcldjlkgdnjnaaaDoor
