/- What the machine's calls of these functions come to: just what the plain functions say. Written by program. -/
import Derived.Test.YtcldjlkgdnjnaaaDoorProg
import Derived.Test.YtcldjlkgdnjnaaaDoorKitQ
import Derived.Test.YtcldjlkgdnjnaaaDoorXD
import Derived.Test.YtcldjlkgdnjnaaaDoorShelf
import Derived.Test.YtcldjlkgdnjnaaaDoorXM3
set_option linter.unusedVariables false
set_option linter.unusedSimpArgs false
set_option maxRecDepth 100000
set_option maxHeartbeats 1000000
namespace Go.Proofs.YtcldjlkgdnjnaaaDoor
open Go Go.RowKit Go.Proofs.YtcldjlkgdnjnaaaDoor.Kit
noncomputable def C60 : Ctx := { P := Tryd.prog, f := 60, N := 44, c := bodyOf Tryd.f60 }
def S60 (F : List Ch) (H0 : Hp) (r : Int) (v : Value) (H : Hp) (cs : List Ch) : Prop := H0 = H ∧ v = .int .i64 r ∧ F = cs
theorem workers_checkWork.e1_c {w0 : World} {H : Hp} {F : List Ch} {r : Int} : workers_checkWork.e1 = some r → RunH C60 (S60 F H r) H w0 [.c [1, 1, 1, 1, 1, 0], .c [1, 1, 1, 1, 1, 1]] [] H (F) := by
  intro   heq
  unfold workers_checkWork.e1 at heq
  refine RunH.reg (by kernel_rfl) ?_
  refine RgH.runk 1 [2] (vs := []) (evs := []) (L' := [(2, .int .i64 0)]) (by kernel_rfl) (by kernel_rfl) (fun _ _ => trivial) ?_
  refine RgH.done (by kernel_rfl) ?_
  obtain rfl := Option.some.inj heq
  exact RunH.done (by kernel_rfl) Tryd.func60 (v := .int .i64 0) (by kernel_rfl) ⟨rfl, rfl, rfl⟩
theorem workers_checkWork.l2_c {w0 : World} {H : Hp} {F : List Ch} {r : Int} (e1 : Option Int)
    (he1 : e1 = some r → RunH C60 (S60 F H r) H w0 [.c [1, 1, 1, 1, 1, 0], .c [1, 1, 1, 1, 1, 1]] [] H (F)) : ∀ (k : Nat), ∀ (a0 : Work) (Aa0_1 : Option Addr) (ca0_1 : Nat) (Aa0_3 : Option Addr) (ca0_3 : Nat) (g1 : Nat) (v23 : Int) , Rw kPair H F Aa0_1 a0.Needs → a0.Needs.length ≤ ca0_1 → Rw Kd.string H F Aa0_3 a0.After → a0.After.length ≤ ca0_3 → workers_checkWork.l2 e1 k a0 v23 = some r → RunH C60 (S60 F H r) H w0 [.c [1, 1, 1, 1, 0, 1, 0, 0], .l [1, 1, 1, 1, 0, 1, 0, 0], .b 0, .c [1, 1, 1, 1, 1]] [(1, .pointer (some ⟨g1, 0, none⟩)), (21, .slice Aa0_3 a0.After.length ca0_3), (22, .int .i64 (a0.After.length : Int)), (23, .int .i64 v23)] H ((some (g1, .cells #[.string a0.Id, .slice Aa0_1 a0.Needs.length ca0_1, .int .i64 a0.Size, .slice Aa0_3 a0.After.length ca0_3] 49 (0, 0))) :: F) := by
  intro k
  induction k with
  | zero => intro a0 Aa0_1 ca0_1 Aa0_3 ca0_3 g1 v23 hra0_1 hca0_1 hra0_3 hca0_3 heq; exact nomatch (show (none : Option Int) = some r from heq)
  | succ k ihk =>
    intro a0 Aa0_1 ca0_1 Aa0_3 ca0_3 g1 v23 hra0_1 hca0_1 hra0_3 hca0_3 heq
    rw [workers_checkWork.l2] at heq
    refine RunH.adm 1 (es' := [.c [1, 1, 1, 1, 0, 1, 0, 0, 0], .c [1, 1, 1, 1, 0, 1, 0, 0, 1], .l [1, 1, 1, 1, 0, 1, 0, 0], .b 0, .c [1, 1, 1, 1, 1]]) (by kernel_rfl) ?_
    refine RunH.reg (by kernel_rfl) ?_
    refine RgH.runk 1 [1, 21, 22, 23, 24] (vs := []) (evs := []) (L' := [(1, .pointer (some ⟨g1, 0, none⟩)), (21, .slice Aa0_3 a0.After.length ca0_3), (22, .int .i64 (a0.After.length : Int)), (23, .int .i64 v23), (24, .bool (decide (v23 < (a0.After.length : Int))))]) (by kernel_rfl) (by kernel_rfl) (fun _ _ => trivial) ?_
    refine RgH.done (by kernel_rfl) ?_
    refine RunH.adm 1 (es' := [.c [1, 1, 1, 1, 0, 1, 0, 0, 1, 0], .c [1, 1, 1, 1, 0, 1, 0, 0, 1, 1], .l [1, 1, 1, 1, 0, 1, 0, 0], .b 0, .c [1, 1, 1, 1, 1]]) (by kernel_rfl) ?_
    rcases bool_cases (decide (v23 < (a0.After.length : Int))) with hb4 | hb4
    · replace heq := bif_true hb4 heq
      refine RunH.condT (c := decide (v23 < (a0.After.length : Int))) (by kernel_rfl) hb4 ?_
      refine RunH.adm 4 (es' := [.c [1, 1, 1, 1, 0, 1, 0, 0, 1, 1, 0, 0, 0], .c [1, 1, 1, 1, 0, 1, 0, 0, 1, 1, 0, 0, 1], .b 1, .c [1, 1, 1, 1, 0, 1, 0, 0, 1, 1, 1], .l [1, 1, 1, 1, 0, 1, 0, 0], .b 0, .c [1, 1, 1, 1, 1]]) (by kernel_rfl) ?_
      refine RunH.reg (by kernel_rfl) ?_
      obtain ⟨x1, hx1, heq⟩ := bind_some heq
      obtain ⟨ha1, cs1, hK1, hcc1⟩ := hra0_3.get hx1
      obtain rfl : cs1 = [.string x1] := hK1
      refine RgH.runk 5 [1, 4, 5, 21, 22, 23] (vs := [.string x1]) (evs := [.need (Aa0_3 = some (adr Aa0_3) ∧ (0 : Int) ≤ v23 ∧ v23 < ((a0.After.length : Nat) : Int)), .load ((adr Aa0_3).add (v23.toNat * 1)) (.string x1)]) (L' := [(1, .pointer (some ⟨g1, 0, none⟩)), (4, .int .i64 v23), (5, .string x1), (21, .slice Aa0_3 a0.After.length ca0_3), (22, .int .i64 (a0.After.length : Int)), (23, .int .i64 v23)]) (by kernel_rfl) (by kernel_rfl) (fun w hh => ⟨⟨ha1, (at?_some hx1).1, (at?_some hx1).2.1⟩, (hcc1 _ _ (hh.drop 1) 0 _ rfl)⟩) ?_
      refine RgH.done (by kernel_rfl) ?_
      refine RunH.adm 2 (es' := [.c [1, 1, 1, 1, 0, 1, 0, 0, 1, 1, 0, 0, 1, 0, 0], .c [1, 1, 1, 1, 0, 1, 0, 0, 1, 1, 0, 0, 1, 0, 1], .c [1, 1, 1, 1, 0, 1, 0, 0, 1, 1, 0, 0, 1, 1], .b 1, .c [1, 1, 1, 1, 0, 1, 0, 0, 1, 1, 1], .l [1, 1, 1, 1, 0, 1, 0, 0], .b 0, .c [1, 1, 1, 1, 1]]) (by kernel_rfl) ?_
      refine RunH.reg (by kernel_rfl) ?_
      refine RgH.runk 1 [1, 4, 5, 21, 22, 23, 28] (vs := []) (evs := []) (L' := [(1, .pointer (some ⟨g1, 0, none⟩)), (4, .int .i64 v23), (5, .string x1), (21, .slice Aa0_3 a0.After.length ca0_3), (22, .int .i64 (a0.After.length : Int)), (23, .int .i64 v23), (28, .string x1)]) (by kernel_rfl) (by kernel_rfl) (fun _ _ => trivial) ?_
      obtain ⟨y4, hy4, heq⟩ := bind_some heq
      refine RgH.does (DoesH.call (d := 29) (g := 54) (args := #[.string x1]) (by kernel_rfl) (config_IsWord_c (a0 := x1)  hy4)) ?_
      rintro _ _ _ _ ⟨_, rfl, rfl, rfl, rfl⟩
      refine RgH.runk 3 [1, 4, 5, 21, 22, 23, 30] (vs := []) (evs := []) (L' := [(1, .pointer (some ⟨g1, 0, none⟩)), (4, .int .i64 v23), (5, .string x1), (21, .slice Aa0_3 a0.After.length ca0_3), (22, .int .i64 (a0.After.length : Int)), (23, .int .i64 v23), (30, .bool (!y4))]) (by kernel_rfl) (by kernel_rfl) (fun _ _ => trivial) ?_
      refine RgH.done (by kernel_rfl) ?_
      rcases bool_cases (!y4) with hb5 | hb5
      · replace heq := bif_true hb5 heq
        refine RunH.condT (c := !y4) (by kernel_rfl) hb5 ?_
        refine RunH.adm 1 (es' := [.c [1, 1, 1, 1, 0, 1, 0, 0, 1, 1, 0, 0, 1, 0, 1, 0, 0], .c [1, 1, 1, 1, 0, 1, 0, 0, 1, 1, 0, 0, 1, 0, 1, 0, 1], .c [1, 1, 1, 1, 0, 1, 0, 0, 1, 1, 0, 0, 1, 1], .b 1, .c [1, 1, 1, 1, 0, 1, 0, 0, 1, 1, 1], .l [1, 1, 1, 1, 0, 1, 0, 0], .b 0, .c [1, 1, 1, 1, 1]]) (by kernel_rfl) ?_
        refine RunH.reg (by kernel_rfl) ?_
        refine RgH.runk 1 [2] (vs := []) (evs := []) (L' := [(2, .int .i64 5)]) (by kernel_rfl) (by kernel_rfl) (fun _ _ => trivial) ?_
        refine RgH.done (by kernel_rfl) ?_
        obtain rfl := Option.some.inj heq
        refine RunH.pick 1 [] (cs' := F) (by kernel_rfl) rfl ?_
        exact RunH.done (by kernel_rfl) Tryd.func60 (v := .int .i64 5) (by kernel_rfl) ⟨rfl, rfl, rfl⟩
      · replace heq := bif_false hb5 heq
        refine RunH.condF (c := !y4) (by kernel_rfl) hb5 ?_
        refine RunH.adm 2 (es' := [.c [1, 1, 1, 1, 0, 1, 0, 0, 1, 1, 0, 0, 1, 1, 0], .c [1, 1, 1, 1, 0, 1, 0, 0, 1, 1, 0, 0, 1, 1, 1], .b 1, .c [1, 1, 1, 1, 0, 1, 0, 0, 1, 1, 1], .l [1, 1, 1, 1, 0, 1, 0, 0], .b 0, .c [1, 1, 1, 1, 1]]) (by kernel_rfl) ?_
        obtain ⟨t1, ht1, heq⟩ := bind_some heq
        have K2 : RunH C60 (S60 F H r) H w0 [.c [1, 1, 1, 1, 0, 1, 0, 0, 1, 1, 0, 0, 1, 1, 1], .b 1, .c [1, 1, 1, 1, 0, 1, 0, 0, 1, 1, 1], .l [1, 1, 1, 1, 0, 1, 0, 0], .b 0, .c [1, 1, 1, 1, 1]] [(1, .pointer (some ⟨g1, 0, none⟩)), (21, .slice Aa0_3 a0.After.length ca0_3), (22, .int .i64 (a0.After.length : Int)), (23, .int .i64 v23), (42, .bool t1)] H ((some (g1, .cells #[.string a0.Id, .slice Aa0_1 a0.Needs.length ca0_1, .int .i64 a0.Size, .slice Aa0_3 a0.After.length ca0_3] 49 (0, 0))) :: F) := by
          rcases bool_cases (t1) with hb7 | hb7
          · replace heq := bif_true hb7 heq
            refine RunH.condT (c := t1) (by kernel_rfl) hb7 ?_
            refine RunH.adm 1 (es' := [.c [1, 1, 1, 1, 0, 1, 0, 0, 1, 1, 0, 0, 1, 1, 1, 0, 0], .c [1, 1, 1, 1, 0, 1, 0, 0, 1, 1, 0, 0, 1, 1, 1, 0, 1], .b 1, .c [1, 1, 1, 1, 0, 1, 0, 0, 1, 1, 1], .l [1, 1, 1, 1, 0, 1, 0, 0], .b 0, .c [1, 1, 1, 1, 1]]) (by kernel_rfl) ?_
            refine RunH.reg (by kernel_rfl) ?_
            refine RgH.runk 1 [2] (vs := []) (evs := []) (L' := [(2, .int .i64 8)]) (by kernel_rfl) (by kernel_rfl) (fun _ _ => trivial) ?_
            refine RgH.done (by kernel_rfl) ?_
            obtain rfl := Option.some.inj heq
            refine RunH.pick 1 [] (cs' := F) (by kernel_rfl) rfl ?_
            exact RunH.done (by kernel_rfl) Tryd.func60 (v := .int .i64 8) (by kernel_rfl) ⟨rfl, rfl, rfl⟩
          · replace heq := bif_false hb7 heq
            refine RunH.condF (c := t1) (by kernel_rfl) hb7 ?_
            refine RunH.adm 2 (es' := [.c [1, 1, 1, 1, 0, 1, 0, 0, 1, 1, 1], .l [1, 1, 1, 1, 0, 1, 0, 0], .b 0, .c [1, 1, 1, 1, 1]]) (by kernel_rfl) ?_
            refine RunH.reg (by kernel_rfl) ?_
            refine RgH.runk 2 [1, 21, 22, 23] (vs := []) (evs := []) (L' := [(1, .pointer (some ⟨g1, 0, none⟩)), (21, .slice Aa0_3 a0.After.length ca0_3), (22, .int .i64 (a0.After.length : Int)), (23, .int .i64 (w64 (v23 + 1)))]) (by kernel_rfl) (by kernel_rfl) (fun _ _ => trivial) ?_
            refine RgH.done (by kernel_rfl) ?_
            refine RunH.adm 1 (es' := [.c [1, 1, 1, 1, 0, 1, 0, 0], .l [1, 1, 1, 1, 0, 1, 0, 0], .b 0, .c [1, 1, 1, 1, 1]]) (by kernel_rfl) ?_
            refine RunH.keep [1, 21, 22, 23] (L' := [(1, .pointer (some ⟨g1, 0, none⟩)), (21, .slice Aa0_3 a0.After.length ca0_3), (22, .int .i64 (a0.After.length : Int)), (23, .int .i64 (w64 (v23 + 1)))]) (by kernel_rfl) ?_
            exact ihk a0 _ _ _ _ _ (w64 (v23 + 1)) hra0_1 hca0_1 hra0_3 hca0_3 heq
        replace heq := ht1
        refine RunH.reg (by kernel_rfl) ?_
        refine RgH.runk 3 [33, 1, 4, 5, 21, 22, 23] (vs := []) (evs := []) (L' := [(33, .bool (decide (0 < v23))), (1, .pointer (some ⟨g1, 0, none⟩)), (4, .int .i64 v23), (5, .string x1), (21, .slice Aa0_3 a0.After.length ca0_3), (22, .int .i64 (a0.After.length : Int)), (23, .int .i64 v23)]) (by kernel_rfl) (by kernel_rfl) (fun _ _ => trivial) ?_
        rcases bool_cases (decide (0 < v23)) with hb6 | hb6
        · replace heq := bif_true hb6 heq
          refine RgH.val1 (v' := .bool true) (congrArg Value.bool hb6) ?_
          obtain ⟨x2, hx2, heq⟩ := bind_some heq
          obtain ⟨ha2, cs2, hK2, hcc2⟩ := hra0_3.get hx2
          obtain rfl : cs2 = [.string x2] := hK2
          refine RgH.runk 12 [1, 21, 22, 23, 42] (vs := [.slice Aa0_3 a0.After.length ca0_3, .string x2]) (evs := [.load ⟨g1, 3, none⟩ (.slice Aa0_3 a0.After.length ca0_3), .need (Aa0_3 = some (adr Aa0_3) ∧ (0 : Int) ≤ (w64 (v23 - 1)) ∧ (w64 (v23 - 1)) < ((a0.After.length : Nat) : Int)), .load ((adr Aa0_3).add ((w64 (v23 - 1)).toNat * 1)) (.string x2)]) (L' := [(1, .pointer (some ⟨g1, 0, none⟩)), (21, .slice Aa0_3 a0.After.length ca0_3), (22, .int .i64 (a0.After.length : Int)), (23, .int .i64 v23), (42, .bool (sLt x1 x2 || sEq x1 x2))]) (by kernel_rfl) (by kernel_rfl) (fun w hh => ⟨(hh.box 0 rfl rfl), ⟨ha2, (at?_some hx2).1, (at?_some hx2).2.1⟩, (hcc2 _ _ (hh.drop 1) 0 _ rfl)⟩) ?_
          obtain rfl := Option.some.inj heq
          refine RgH.keep [1, 21, 22, 23, 42] (L' := [(1, .pointer (some ⟨g1, 0, none⟩)), (21, .slice Aa0_3 a0.After.length ca0_3), (22, .int .i64 (a0.After.length : Int)), (23, .int .i64 v23), (42, .bool (sLt x1 x2 || sEq x1 x2))]) (by kernel_rfl) ?_
          refine RgH.done (by kernel_rfl) ?_
          exact K2
        · replace heq := bif_false hb6 heq
          refine RgH.val1 (v' := .bool false) (congrArg Value.bool hb6) ?_
          refine RgH.runk 12 [1, 21, 22, 23, 42] (vs := []) (evs := []) (L' := [(1, .pointer (some ⟨g1, 0, none⟩)), (21, .slice Aa0_3 a0.After.length ca0_3), (22, .int .i64 (a0.After.length : Int)), (23, .int .i64 v23), (42, .bool false)]) (by kernel_rfl) (by kernel_rfl) (fun _ _ => trivial) ?_
          obtain rfl := Option.some.inj heq
          refine RgH.keep [1, 21, 22, 23, 42] (L' := [(1, .pointer (some ⟨g1, 0, none⟩)), (21, .slice Aa0_3 a0.After.length ca0_3), (22, .int .i64 (a0.After.length : Int)), (23, .int .i64 v23), (42, .bool false)]) (by kernel_rfl) ?_
          refine RgH.done (by kernel_rfl) ?_
          exact K2
    · replace heq := bif_false hb4 heq
      refine RunH.condF (c := decide (v23 < (a0.After.length : Int))) (by kernel_rfl) hb4 ?_
      refine RunH.adm 2 (es' := [.c [1, 1, 1, 1, 1, 0], .c [1, 1, 1, 1, 1, 1]]) (by kernel_rfl) ?_
      refine RunH.keep [] (L' := []) (by kernel_rfl) ?_
      refine RunH.pick 1 [] (cs' := F) (by kernel_rfl) rfl ?_
      exact he1 heq
theorem workers_checkWork_c {w0 : World} {H : Hp} {F : List Ch} {a0 : Work} {Aa0_1 : Option Addr} {na0_1 : Nat} {ca0_1 : Nat} {Aa0_3 : Option Addr} {na0_3 : Nat} {ca0_3 : Nat} {r : Int} (hra0_1 : Rw kPair H F Aa0_1 a0.Needs) (hca0_1 : na0_1 ≤ ca0_1) (hna0_1 : na0_1 = a0.Needs.length) (hra0_3 : Rw Kd.string H F Aa0_3 a0.After) (hca0_3 : na0_3 ≤ ca0_3) (hna0_3 : na0_3 = a0.After.length) (heq : workers_checkWork.f a0 = some r) : CallsH Tryd.prog 60 #[.agg #[.string a0.Id, .slice Aa0_1 na0_1 ca0_1, .int .i64 a0.Size, .slice Aa0_3 na0_3 ca0_3]] H w0 (F) (S60 F H r) := by
  refine calls_of_runH (F := C60) Tryd.func60 (by kernel_rfl) Tryd.ntmps60 (args := [.agg #[.string a0.Id, .slice Aa0_1 na0_1 ca0_1, .int .i64 a0.Size, .slice Aa0_3 na0_3 ca0_3]]) (by kernel_rfl) ?_
  subst hna0_1
  subst hna0_3
  unfold workers_checkWork.f at heq
  refine RunH.adm 1 (es' := [.c [0], .c [1]]) (by kernel_rfl) ?_
  refine RunH.reg (by kernel_rfl) ?_
  refine RgH.does (DoesH.new (d := 1) (v := fun g => .pointer (some ⟨g, 0, none⟩)) (o := fun g => .cells #[.string a0.Id, .slice Aa0_1 a0.Needs.length ca0_1, .int .i64 a0.Size, .slice Aa0_3 a0.After.length ca0_3] 49 (0, 0)) (fun g => by kernel_rfl)) ?_
  rintro _ _ _ _ ⟨g1, rfl, rfl, rfl⟩
  refine RgH.runk 2 [1] (vs := []) (evs := []) (L' := [(1, .pointer (some ⟨g1, 0, none⟩))]) (by kernel_rfl) (by kernel_rfl) (fun _ _ => trivial) ?_
  refine RgH.done (by kernel_rfl) ?_
  refine RunH.adm 2 (es' := [.c [1, 0, 0], .c [1, 0, 1], .c [1, 1]]) (by kernel_rfl) ?_
  refine RunH.reg (by kernel_rfl) ?_
  refine RgH.runk 2 [1, 7] (vs := [.string a0.Id]) (evs := [.load ⟨g1, 0, none⟩ (.string a0.Id)]) (L' := [(1, .pointer (some ⟨g1, 0, none⟩)), (7, .string a0.Id)]) (by kernel_rfl) (by kernel_rfl) (fun w hh => (hh.box 0 rfl rfl)) ?_
  obtain ⟨y1, hy1, heq⟩ := bind_some heq
  refine RgH.does (DoesH.call (d := 8) (g := 54) (args := #[.string a0.Id]) (by kernel_rfl) (config_IsWord_c (a0 := a0.Id)  hy1)) ?_
  rintro _ _ _ _ ⟨_, rfl, rfl, rfl, rfl⟩
  refine RgH.runk 4 [1, 9] (vs := []) (evs := []) (L' := [(1, .pointer (some ⟨g1, 0, none⟩)), (9, .bool (!y1))]) (by kernel_rfl) (by kernel_rfl) (fun _ _ => trivial) ?_
  refine RgH.done (by kernel_rfl) ?_
  rcases bool_cases (!y1) with hb1 | hb1
  · replace heq := bif_true hb1 heq
    refine RunH.condT (c := !y1) (by kernel_rfl) hb1 ?_
    refine RunH.adm 1 (es' := [.c [1, 0, 1, 0, 0], .c [1, 0, 1, 0, 1], .c [1, 1]]) (by kernel_rfl) ?_
    refine RunH.reg (by kernel_rfl) ?_
    refine RgH.runk 1 [2] (vs := []) (evs := []) (L' := [(2, .int .i64 5)]) (by kernel_rfl) (by kernel_rfl) (fun _ _ => trivial) ?_
    refine RgH.done (by kernel_rfl) ?_
    obtain rfl := Option.some.inj heq
    refine RunH.pick 1 [] (cs' := F) (by kernel_rfl) rfl ?_
    exact RunH.done (by kernel_rfl) Tryd.func60 (v := .int .i64 5) (by kernel_rfl) ⟨rfl, rfl, rfl⟩
  · replace heq := bif_false hb1 heq
    refine RunH.condF (c := !y1) (by kernel_rfl) hb1 ?_
    refine RunH.adm 3 (es' := [.c [1, 1, 0, 0], .c [1, 1, 0, 1], .c [1, 1, 1]]) (by kernel_rfl) ?_
    refine RunH.reg (by kernel_rfl) ?_
    refine RgH.runk 2 [1, 11] (vs := [.slice Aa0_1 a0.Needs.length ca0_1]) (evs := [.load ⟨g1, 1, none⟩ (.slice Aa0_1 a0.Needs.length ca0_1)]) (L' := [(1, .pointer (some ⟨g1, 0, none⟩)), (11, .slice Aa0_1 a0.Needs.length ca0_1)]) (by kernel_rfl) (by kernel_rfl) (fun w hh => (hh.box 0 rfl rfl)) ?_
    obtain ⟨y2, hy2, heq⟩ := bind_some heq
    refine RgH.does (DoesH.call (d := 12) (g := 81) (args := #[.slice Aa0_1 a0.Needs.length ca0_1]) (by kernel_rfl) (config_CheckPairs_c (a0 := a0.Needs) (hra0_1.wk (fun _ h => (.tail _ h))) hca0_1 rfl hy2)) ?_
    rintro _ _ _ _ ⟨_, rfl, rfl, rfl, rfl⟩
    refine RgH.runk 4 [1, 3] (vs := []) (evs := []) (L' := [(1, .pointer (some ⟨g1, 0, none⟩)), (3, .int .i64 y2)]) (by kernel_rfl) (by kernel_rfl) (fun _ _ => trivial) ?_
    refine RgH.done (by kernel_rfl) ?_
    refine RunH.adm 1 (es' := [.c [1, 1, 0, 1, 0], .c [1, 1, 0, 1, 1], .c [1, 1, 1]]) (by kernel_rfl) ?_
    refine RunH.reg (by kernel_rfl) ?_
    refine RgH.runk 2 [1, 3, 14] (vs := []) (evs := []) (L' := [(1, .pointer (some ⟨g1, 0, none⟩)), (3, .int .i64 y2), (14, .bool (y2 != 0))]) (by kernel_rfl) (by kernel_rfl) (fun _ _ => trivial) ?_
    refine RgH.done (by kernel_rfl) ?_
    rcases bool_cases (y2 != 0) with hb2 | hb2
    · replace heq := bif_true hb2 heq
      refine RunH.condT (c := y2 != 0) (by kernel_rfl) hb2 ?_
      refine RunH.adm 1 (es' := [.c [1, 1, 0, 1, 1, 0, 0], .c [1, 1, 0, 1, 1, 0, 1], .c [1, 1, 1]]) (by kernel_rfl) ?_
      refine RunH.reg (by kernel_rfl) ?_
      refine RgH.runk 2 [2] (vs := []) (evs := []) (L' := [(2, .int .i64 y2)]) (by kernel_rfl) (by kernel_rfl) (fun _ _ => trivial) ?_
      refine RgH.done (by kernel_rfl) ?_
      obtain rfl := Option.some.inj heq
      refine RunH.pick 1 [] (cs' := F) (by kernel_rfl) rfl ?_
      exact RunH.done (by kernel_rfl) Tryd.func60 (v := .int .i64 y2) (by kernel_rfl) ⟨rfl, rfl, rfl⟩
    · replace heq := bif_false hb2 heq
      refine RunH.condF (c := y2 != 0) (by kernel_rfl) hb2 ?_
      refine RunH.adm 3 (es' := [.c [1, 1, 1, 0, 0], .c [1, 1, 1, 0, 1], .c [1, 1, 1, 1]]) (by kernel_rfl) ?_
      refine RunH.reg (by kernel_rfl) ?_
      refine RgH.runk 2 [1, 17] (vs := [.int .i64 a0.Size]) (evs := [.load ⟨g1, 2, none⟩ (.int .i64 a0.Size)]) (L' := [(1, .pointer (some ⟨g1, 0, none⟩)), (17, .int .i64 a0.Size)]) (by kernel_rfl) (by kernel_rfl) (fun w hh => (hh.box 0 rfl rfl)) ?_
      obtain ⟨y3, hy3, heq⟩ := bind_some heq
      refine RgH.does (DoesH.call (d := 18) (g := 56) (args := #[.int .i64 a0.Size, .int .i64 1, .int .i64 1000000]) (by kernel_rfl) (workers_within_c (a0 := a0.Size) (a1 := 1) (a2 := 1000000)  hy3)) ?_
      rintro _ _ _ _ ⟨_, rfl, rfl, rfl, rfl⟩
      refine RgH.runk 4 [1, 19] (vs := []) (evs := []) (L' := [(1, .pointer (some ⟨g1, 0, none⟩)), (19, .bool (!y3))]) (by kernel_rfl) (by kernel_rfl) (fun _ _ => trivial) ?_
      refine RgH.done (by kernel_rfl) ?_
      rcases bool_cases (!y3) with hb3 | hb3
      · replace heq := bif_true hb3 heq
        refine RunH.condT (c := !y3) (by kernel_rfl) hb3 ?_
        refine RunH.adm 1 (es' := [.c [1, 1, 1, 0, 1, 0, 0], .c [1, 1, 1, 0, 1, 0, 1], .c [1, 1, 1, 1]]) (by kernel_rfl) ?_
        refine RunH.reg (by kernel_rfl) ?_
        refine RgH.runk 1 [2] (vs := []) (evs := []) (L' := [(2, .int .i64 1)]) (by kernel_rfl) (by kernel_rfl) (fun _ _ => trivial) ?_
        refine RgH.done (by kernel_rfl) ?_
        obtain rfl := Option.some.inj heq
        refine RunH.pick 1 [] (cs' := F) (by kernel_rfl) rfl ?_
        exact RunH.done (by kernel_rfl) Tryd.func60 (v := .int .i64 1) (by kernel_rfl) ⟨rfl, rfl, rfl⟩
      · replace heq := bif_false hb3 heq
        refine RunH.condF (c := !y3) (by kernel_rfl) hb3 ?_
        refine RunH.adm 3 (es' := [.c [1, 1, 1, 1, 0, 0], .c [1, 1, 1, 1, 0, 1], .c [1, 1, 1, 1, 1]]) (by kernel_rfl) ?_
        refine RunH.reg (by kernel_rfl) ?_
        refine RgH.runk 4 [1, 21, 22, 23] (vs := [.slice Aa0_3 a0.After.length ca0_3]) (evs := [.load ⟨g1, 3, none⟩ (.slice Aa0_3 a0.After.length ca0_3)]) (L' := [(1, .pointer (some ⟨g1, 0, none⟩)), (21, .slice Aa0_3 a0.After.length ca0_3), (22, .int .i64 (a0.After.length : Int)), (23, .int .i64 0)]) (by kernel_rfl) (by kernel_rfl) (fun w hh => (hh.box 0 rfl rfl)) ?_
        refine RgH.done (by kernel_rfl) ?_
        refine RunH.adm 2 (es' := [.c [1, 1, 1, 1, 0, 1, 0, 0], .l [1, 1, 1, 1, 0, 1, 0, 0], .b 0, .c [1, 1, 1, 1, 1]]) (by kernel_rfl) ?_
        refine RunH.keep [1, 21, 22, 23] (L' := [(1, .pointer (some ⟨g1, 0, none⟩)), (21, .slice Aa0_3 a0.After.length ca0_3), (22, .int .i64 (a0.After.length : Int)), (23, .int .i64 0)]) (by kernel_rfl) ?_
        exact ((workers_checkWork.l2_c (e1 := workers_checkWork.e1) (workers_checkWork.e1_c)) big) a0 _ _ _ _ _ 0 hra0_1 hca0_1 hra0_3 hca0_3 heq
noncomputable def C30 : Ctx := { P := Tryd.prog, f := 30, N := 73, c := bodyOf Tryd.f30 }
def S30 (F : List Ch) (H0 : Hp) (r : Int) (v : Value) (H : Hp) (cs : List Ch) : Prop := H0 = H ∧ v = .int .i64 r ∧ F = cs
theorem workers_CheckWorks.e2_c {w0 : World} {H : Hp} {F : List Ch} {r : Int} : ∀ (a0 : List Work) (Aa0 : Option Addr) (ca0 : Nat) , Rw kWork H F Aa0 a0 → a0.length ≤ ca0 → workers_CheckWorks.e2 a0 = some r → RunH C30 (S30 F H r) H w0 [.c [1, 1, 1, 1, 0, 0], .c [1, 1, 1, 1, 0, 1], .c [1, 1, 1, 1, 1]] [(0, .slice Aa0 a0.length ca0)] H (F) := by
  intro a0 Aa0 ca0 hra0 hca0 heq
  unfold workers_CheckWorks.e2 at heq
  refine RunH.reg (by kernel_rfl) ?_
  refine RgH.runk 1 [67] (vs := []) (evs := []) (L' := [(67, .slice Aa0 a0.length ca0)]) (by kernel_rfl) (by kernel_rfl) (fun _ _ => trivial) ?_
  obtain ⟨y1, hy1, heq⟩ := bind_some heq
  refine RgH.does (DoesH.call (d := 68) (g := 65) (args := #[.slice Aa0 a0.length ca0]) (by kernel_rfl) (workers_ordered_c (a0 := a0) hra0 hca0 rfl hy1)) ?_
  rintro _ _ _ _ ⟨_, rfl, A1, c1, ch1, rfl, rfl, rfl, ho1⟩
  refine RgH.runk 7 [13] (vs := []) (evs := []) (L' := [(13, .bool y1.2)]) (by kernel_rfl) (by kernel_rfl) (fun _ _ => trivial) ?_
  refine RgH.done (by kernel_rfl) ?_
  refine RunH.adm 1 (es' := [.c [1, 1, 1, 1, 0, 1, 0], .c [1, 1, 1, 1, 0, 1, 1], .c [1, 1, 1, 1, 1]]) (by kernel_rfl) ?_
  refine RunH.reg (by kernel_rfl) ?_
  refine RgH.runk 2 [72] (vs := []) (evs := []) (L' := [(72, .bool (!y1.2))]) (by kernel_rfl) (by kernel_rfl) (fun _ _ => trivial) ?_
  refine RgH.done (by kernel_rfl) ?_
  rcases bool_cases (!y1.2) with hb2 | hb2
  · replace heq := bif_true hb2 heq
    refine RunH.condT (c := !y1.2) (by kernel_rfl) hb2 ?_
    refine RunH.adm 1 (es' := [.c [1, 1, 1, 1, 0, 1, 1, 0, 0], .c [1, 1, 1, 1, 0, 1, 1, 0, 1], .c [1, 1, 1, 1, 1]]) (by kernel_rfl) ?_
    refine RunH.reg (by kernel_rfl) ?_
    refine RgH.runk 1 [2] (vs := []) (evs := []) (L' := [(2, .int .i64 17)]) (by kernel_rfl) (by kernel_rfl) (fun _ _ => trivial) ?_
    refine RgH.done (by kernel_rfl) ?_
    obtain rfl := Option.some.inj heq
    refine RunH.pick 1 [] (cs' := F) (by kernel_rfl) rfl ?_
    exact RunH.done (by kernel_rfl) Tryd.func30 (v := .int .i64 17) (by kernel_rfl) ⟨rfl, rfl, rfl⟩
  · replace heq := bif_false hb2 heq
    refine RunH.condF (c := !y1.2) (by kernel_rfl) hb2 ?_
    refine RunH.adm 2 (es' := [.c [1, 1, 1, 1, 1, 0], .c [1, 1, 1, 1, 1, 1]]) (by kernel_rfl) ?_
    refine RunH.reg (by kernel_rfl) ?_
    refine RgH.runk 1 [2] (vs := []) (evs := []) (L' := [(2, .int .i64 0)]) (by kernel_rfl) (by kernel_rfl) (fun _ _ => trivial) ?_
    refine RgH.done (by kernel_rfl) ?_
    obtain rfl := Option.some.inj heq
    refine RunH.pick 1 [] (cs' := F) (by kernel_rfl) rfl ?_
    exact RunH.done (by kernel_rfl) Tryd.func30 (v := .int .i64 0) (by kernel_rfl) ⟨rfl, rfl, rfl⟩
theorem workers_CheckWorks.e4_c {w0 : World} {H : Hp} {F : List Ch} {r : Int} (backl3 : (List Work) → Int → Option Int)
    (hbackl3 : ∀ (a0 : List Work) (Aa0 : Option Addr) (ca0 : Nat) (v45 : Int) , Rw kWork H F Aa0 a0 → a0.length ≤ ca0 → backl3 a0 v45 = some r → RunH C30 (S30 F H r) H w0 [.c [1, 1, 1, 0, 1, 0, 0], .l [1, 1, 1, 0, 1, 0, 0], .b 2, .c [1, 1, 1, 1]] [(0, .slice Aa0 a0.length ca0), (43, .slice Aa0 a0.length ca0), (44, .int .i64 (a0.length : Int)), (45, .int .i64 v45)] H (F)) : ∀ (a0 : List Work) (Aa0 : Option Addr) (ca0 : Nat) (v45 : Int) , Rw kWork H F Aa0 a0 → a0.length ≤ ca0 → workers_CheckWorks.e4 backl3 a0 v45 = some r → RunH C30 (S30 F H r) H w0 [.c [1, 1, 1, 0, 1, 0, 0, 1, 1, 1], .l [1, 1, 1, 0, 1, 0, 0], .b 2, .c [1, 1, 1, 1]] [(0, .slice Aa0 a0.length ca0), (43, .slice Aa0 a0.length ca0), (44, .int .i64 (a0.length : Int)), (45, .int .i64 v45)] H (F) := by
  intro a0 Aa0 ca0 v45 hra0 hca0 heq
  unfold workers_CheckWorks.e4 at heq
  refine RunH.reg (by kernel_rfl) ?_
  refine RgH.runk 2 [0, 43, 44, 45] (vs := []) (evs := []) (L' := [(0, .slice Aa0 a0.length ca0), (43, .slice Aa0 a0.length ca0), (44, .int .i64 (a0.length : Int)), (45, .int .i64 (w64 (v45 + 1)))]) (by kernel_rfl) (by kernel_rfl) (fun _ _ => trivial) ?_
  refine RgH.done (by kernel_rfl) ?_
  refine RunH.adm 1 (es' := [.c [1, 1, 1, 0, 1, 0, 0], .l [1, 1, 1, 0, 1, 0, 0], .b 2, .c [1, 1, 1, 1]]) (by kernel_rfl) ?_
  refine RunH.keep [0, 43, 44, 45] (L' := [(0, .slice Aa0 a0.length ca0), (43, .slice Aa0 a0.length ca0), (44, .int .i64 (a0.length : Int)), (45, .int .i64 (w64 (v45 + 1)))]) (by kernel_rfl) ?_
  exact hbackl3 a0 _ _ (w64 (v45 + 1)) hra0 hca0 heq
theorem workers_CheckWorks.l5_c {w0 : World} {H : Hp} {F : List Ch} {r : Int} (e4 : (List Work) → Int → Option Int)
    (he4 : ∀ (a0 : List Work) (Aa0 : Option Addr) (ca0 : Nat) (v45 : Int) , Rw kWork H F Aa0 a0 → a0.length ≤ ca0 → e4 a0 v45 = some r → RunH C30 (S30 F H r) H w0 [.c [1, 1, 1, 0, 1, 0, 0, 1, 1, 1], .l [1, 1, 1, 0, 1, 0, 0], .b 2, .c [1, 1, 1, 1]] [(0, .slice Aa0 a0.length ca0), (43, .slice Aa0 a0.length ca0), (44, .int .i64 (a0.length : Int)), (45, .int .i64 v45)] H (F)) : ∀ (k : Nat), ∀ (a0 : List Work) (Aa0 : Option Addr) (ca0 : Nat) (v45 : Int) (x1 : Work) (A3 : Option Addr) (c3 : Nat) (v52 : Int) , Rw kWork H F Aa0 a0 → a0.length ≤ ca0 → Kd.Row Kd.string H A3 x1.After → x1.After.length ≤ c3 → workers_CheckWorks.l5 e4 k a0 v45 x1 v52 = some r → RunH C30 (S30 F H r) H w0 [.c [1, 1, 1, 0, 1, 0, 0, 1, 1, 0, 0, 1, 1, 0, 0], .l [1, 1, 1, 0, 1, 0, 0, 1, 1, 0, 0, 1, 1, 0, 0], .b 4, .b 3, .c [1, 1, 1, 0, 1, 0, 0, 1, 1, 1], .l [1, 1, 1, 0, 1, 0, 0], .b 2, .c [1, 1, 1, 1]] [(0, .slice Aa0 a0.length ca0), (43, .slice Aa0 a0.length ca0), (44, .int .i64 (a0.length : Int)), (45, .int .i64 v45), (50, .slice A3 x1.After.length c3), (51, .int .i64 (x1.After.length : Int)), (52, .int .i64 v52)] H (F) := by
  intro k
  induction k with
  | zero => intro a0 Aa0 ca0 v45 x1 A3 c3 v52 hra0 hca0 hr2 hc2 heq; exact nomatch (show (none : Option Int) = some r from heq)
  | succ k ihk =>
    intro a0 Aa0 ca0 v45 x1 A3 c3 v52 hra0 hca0 hr2 hc2 heq
    rw [workers_CheckWorks.l5] at heq
    refine RunH.adm 1 (es' := [.c [1, 1, 1, 0, 1, 0, 0, 1, 1, 0, 0, 1, 1, 0, 0, 0], .c [1, 1, 1, 0, 1, 0, 0, 1, 1, 0, 0, 1, 1, 0, 0, 1], .l [1, 1, 1, 0, 1, 0, 0, 1, 1, 0, 0, 1, 1, 0, 0], .b 4, .b 3, .c [1, 1, 1, 0, 1, 0, 0, 1, 1, 1], .l [1, 1, 1, 0, 1, 0, 0], .b 2, .c [1, 1, 1, 1]]) (by kernel_rfl) ?_
    refine RunH.reg (by kernel_rfl) ?_
    refine RgH.runk 1 [0, 43, 44, 45, 50, 51, 52, 53] (vs := []) (evs := []) (L' := [(0, .slice Aa0 a0.length ca0), (43, .slice Aa0 a0.length ca0), (44, .int .i64 (a0.length : Int)), (45, .int .i64 v45), (50, .slice A3 x1.After.length c3), (51, .int .i64 (x1.After.length : Int)), (52, .int .i64 v52), (53, .bool (decide (v52 < (x1.After.length : Int))))]) (by kernel_rfl) (by kernel_rfl) (fun _ _ => trivial) ?_
    refine RgH.done (by kernel_rfl) ?_
    refine RunH.adm 1 (es' := [.c [1, 1, 1, 0, 1, 0, 0, 1, 1, 0, 0, 1, 1, 0, 0, 1, 0], .c [1, 1, 1, 0, 1, 0, 0, 1, 1, 0, 0, 1, 1, 0, 0, 1, 1], .l [1, 1, 1, 0, 1, 0, 0, 1, 1, 0, 0, 1, 1, 0, 0], .b 4, .b 3, .c [1, 1, 1, 0, 1, 0, 0, 1, 1, 1], .l [1, 1, 1, 0, 1, 0, 0], .b 2, .c [1, 1, 1, 1]]) (by kernel_rfl) ?_
    rcases bool_cases (decide (v52 < (x1.After.length : Int))) with hb4 | hb4
    · replace heq := bif_true hb4 heq
      refine RunH.condT (c := decide (v52 < (x1.After.length : Int))) (by kernel_rfl) hb4 ?_
      refine RunH.adm 4 (es' := [.c [1, 1, 1, 0, 1, 0, 0, 1, 1, 0, 0, 1, 1, 0, 0, 1, 1, 0, 0, 0], .c [1, 1, 1, 0, 1, 0, 0, 1, 1, 0, 0, 1, 1, 0, 0, 1, 1, 0, 0, 1], .b 5, .c [1, 1, 1, 0, 1, 0, 0, 1, 1, 0, 0, 1, 1, 0, 0, 1, 1, 1], .l [1, 1, 1, 0, 1, 0, 0, 1, 1, 0, 0, 1, 1, 0, 0], .b 4, .b 3, .c [1, 1, 1, 0, 1, 0, 0, 1, 1, 1], .l [1, 1, 1, 0, 1, 0, 0], .b 2, .c [1, 1, 1, 1]]) (by kernel_rfl) ?_
      refine RunH.reg (by kernel_rfl) ?_
      obtain ⟨x2, hx2, heq⟩ := bind_some heq
      obtain ⟨ha2, cs2, hK2, hcc2⟩ := (Rw.of (F := F) hr2).get hx2
      obtain rfl : cs2 = [.string x2] := hK2
      refine RgH.runk 3 [0, 9, 43, 44, 45, 50, 51, 52] (vs := [.string x2]) (evs := [.need (A3 = some (adr A3) ∧ (0 : Int) ≤ v52 ∧ v52 < ((x1.After.length : Nat) : Int)), .load ((adr A3).add (v52.toNat * 1)) (.string x2)]) (L' := [(0, .slice Aa0 a0.length ca0), (9, .string x2), (43, .slice Aa0 a0.length ca0), (44, .int .i64 (a0.length : Int)), (45, .int .i64 v45), (50, .slice A3 x1.After.length c3), (51, .int .i64 (x1.After.length : Int)), (52, .int .i64 v52)]) (by kernel_rfl) (by kernel_rfl) (fun w hh => ⟨⟨ha2, (at?_some hx2).1, (at?_some hx2).2.1⟩, (hcc2 _ _ (hh.drop 0) 0 _ rfl)⟩) ?_
      refine RgH.done (by kernel_rfl) ?_
      refine RunH.adm 1 (es' := [.c [1, 1, 1, 0, 1, 0, 0, 1, 1, 0, 0, 1, 1, 0, 0, 1, 1, 0, 0, 1, 0], .c [1, 1, 1, 0, 1, 0, 0, 1, 1, 0, 0, 1, 1, 0, 0, 1, 1, 0, 0, 1, 1], .b 5, .c [1, 1, 1, 0, 1, 0, 0, 1, 1, 0, 0, 1, 1, 0, 0, 1, 1, 1], .l [1, 1, 1, 0, 1, 0, 0, 1, 1, 0, 0, 1, 1, 0, 0], .b 4, .b 3, .c [1, 1, 1, 0, 1, 0, 0, 1, 1, 1], .l [1, 1, 1, 0, 1, 0, 0], .b 2, .c [1, 1, 1, 1]]) (by kernel_rfl) ?_
      refine RunH.reg (by kernel_rfl) ?_
      refine RgH.runk 2 [0, 43, 44, 45, 50, 51, 52, 57, 58] (vs := []) (evs := []) (L' := [(0, .slice Aa0 a0.length ca0), (43, .slice Aa0 a0.length ca0), (44, .int .i64 (a0.length : Int)), (45, .int .i64 v45), (50, .slice A3 x1.After.length c3), (51, .int .i64 (x1.After.length : Int)), (52, .int .i64 v52), (57, .slice Aa0 a0.length ca0), (58, .string x2)]) (by kernel_rfl) (by kernel_rfl) (fun _ _ => trivial) ?_
      obtain ⟨y2, hy2, heq⟩ := bind_some heq
      refine RgH.does (DoesH.call (d := 59) (g := 64) (args := #[.slice Aa0 a0.length ca0, .string x2]) (by kernel_rfl) (workers_workAt_c (a0 := a0) (a1 := x2) hra0 hca0 rfl hy2)) ?_
      rintro _ _ _ _ ⟨_, rfl, rfl, rfl, rfl⟩
      refine RgH.runk 8 [0, 11, 43, 44, 45, 50, 51, 52] (vs := []) (evs := []) (L' := [(0, .slice Aa0 a0.length ca0), (11, .bool y2.2), (43, .slice Aa0 a0.length ca0), (44, .int .i64 (a0.length : Int)), (45, .int .i64 v45), (50, .slice A3 x1.After.length c3), (51, .int .i64 (x1.After.length : Int)), (52, .int .i64 v52)]) (by kernel_rfl) (by kernel_rfl) (fun _ _ => trivial) ?_
      refine RgH.done (by kernel_rfl) ?_
      refine RunH.adm 1 (es' := [.c [1, 1, 1, 0, 1, 0, 0, 1, 1, 0, 0, 1, 1, 0, 0, 1, 1, 0, 0, 1, 1, 0], .c [1, 1, 1, 0, 1, 0, 0, 1, 1, 0, 0, 1, 1, 0, 0, 1, 1, 0, 0, 1, 1, 1], .b 5, .c [1, 1, 1, 0, 1, 0, 0, 1, 1, 0, 0, 1, 1, 0, 0, 1, 1, 1], .l [1, 1, 1, 0, 1, 0, 0, 1, 1, 0, 0, 1, 1, 0, 0], .b 4, .b 3, .c [1, 1, 1, 0, 1, 0, 0, 1, 1, 1], .l [1, 1, 1, 0, 1, 0, 0], .b 2, .c [1, 1, 1, 1]]) (by kernel_rfl) ?_
      refine RunH.reg (by kernel_rfl) ?_
      refine RgH.runk 2 [0, 43, 44, 45, 50, 51, 52, 63] (vs := []) (evs := []) (L' := [(0, .slice Aa0 a0.length ca0), (43, .slice Aa0 a0.length ca0), (44, .int .i64 (a0.length : Int)), (45, .int .i64 v45), (50, .slice A3 x1.After.length c3), (51, .int .i64 (x1.After.length : Int)), (52, .int .i64 v52), (63, .bool (!y2.2))]) (by kernel_rfl) (by kernel_rfl) (fun _ _ => trivial) ?_
      refine RgH.done (by kernel_rfl) ?_
      rcases bool_cases (!y2.2) with hb5 | hb5
      · replace heq := bif_true hb5 heq
        refine RunH.condT (c := !y2.2) (by kernel_rfl) hb5 ?_
        refine RunH.adm 1 (es' := [.c [1, 1, 1, 0, 1, 0, 0, 1, 1, 0, 0, 1, 1, 0, 0, 1, 1, 0, 0, 1, 1, 1, 0, 0], .c [1, 1, 1, 0, 1, 0, 0, 1, 1, 0, 0, 1, 1, 0, 0, 1, 1, 0, 0, 1, 1, 1, 0, 1], .b 5, .c [1, 1, 1, 0, 1, 0, 0, 1, 1, 0, 0, 1, 1, 0, 0, 1, 1, 1], .l [1, 1, 1, 0, 1, 0, 0, 1, 1, 0, 0, 1, 1, 0, 0], .b 4, .b 3, .c [1, 1, 1, 0, 1, 0, 0, 1, 1, 1], .l [1, 1, 1, 0, 1, 0, 0], .b 2, .c [1, 1, 1, 1]]) (by kernel_rfl) ?_
        refine RunH.reg (by kernel_rfl) ?_
        refine RgH.runk 1 [2] (vs := []) (evs := []) (L' := [(2, .int .i64 9)]) (by kernel_rfl) (by kernel_rfl) (fun _ _ => trivial) ?_
        refine RgH.done (by kernel_rfl) ?_
        obtain rfl := Option.some.inj heq
        exact RunH.done (by kernel_rfl) Tryd.func30 (v := .int .i64 9) (by kernel_rfl) ⟨rfl, rfl, rfl⟩
      · replace heq := bif_false hb5 heq
        refine RunH.condF (c := !y2.2) (by kernel_rfl) hb5 ?_
        refine RunH.adm 2 (es' := [.c [1, 1, 1, 0, 1, 0, 0, 1, 1, 0, 0, 1, 1, 0, 0, 1, 1, 1], .l [1, 1, 1, 0, 1, 0, 0, 1, 1, 0, 0, 1, 1, 0, 0], .b 4, .b 3, .c [1, 1, 1, 0, 1, 0, 0, 1, 1, 1], .l [1, 1, 1, 0, 1, 0, 0], .b 2, .c [1, 1, 1, 1]]) (by kernel_rfl) ?_
        refine RunH.reg (by kernel_rfl) ?_
        refine RgH.runk 2 [0, 43, 44, 45, 50, 51, 52] (vs := []) (evs := []) (L' := [(0, .slice Aa0 a0.length ca0), (43, .slice Aa0 a0.length ca0), (44, .int .i64 (a0.length : Int)), (45, .int .i64 v45), (50, .slice A3 x1.After.length c3), (51, .int .i64 (x1.After.length : Int)), (52, .int .i64 (w64 (v52 + 1)))]) (by kernel_rfl) (by kernel_rfl) (fun _ _ => trivial) ?_
        refine RgH.done (by kernel_rfl) ?_
        refine RunH.adm 1 (es' := [.c [1, 1, 1, 0, 1, 0, 0, 1, 1, 0, 0, 1, 1, 0, 0], .l [1, 1, 1, 0, 1, 0, 0, 1, 1, 0, 0, 1, 1, 0, 0], .b 4, .b 3, .c [1, 1, 1, 0, 1, 0, 0, 1, 1, 1], .l [1, 1, 1, 0, 1, 0, 0], .b 2, .c [1, 1, 1, 1]]) (by kernel_rfl) ?_
        refine RunH.keep [0, 43, 44, 45, 50, 51, 52] (L' := [(0, .slice Aa0 a0.length ca0), (43, .slice Aa0 a0.length ca0), (44, .int .i64 (a0.length : Int)), (45, .int .i64 v45), (50, .slice A3 x1.After.length c3), (51, .int .i64 (x1.After.length : Int)), (52, .int .i64 (w64 (v52 + 1)))]) (by kernel_rfl) ?_
        exact ihk a0 _ _ v45 x1 _ _ (w64 (v52 + 1)) hra0 hca0 hr2 hc2 heq
    · replace heq := bif_false hb4 heq
      refine RunH.condF (c := decide (v52 < (x1.After.length : Int))) (by kernel_rfl) hb4 ?_
      refine RunH.adm 2 (es' := [.c [1, 1, 1, 0, 1, 0, 0, 1, 1, 1], .l [1, 1, 1, 0, 1, 0, 0], .b 2, .c [1, 1, 1, 1]]) (by kernel_rfl) ?_
      refine RunH.keep [0, 43, 44, 45] (L' := [(0, .slice Aa0 a0.length ca0), (43, .slice Aa0 a0.length ca0), (44, .int .i64 (a0.length : Int)), (45, .int .i64 v45)]) (by kernel_rfl) ?_
      exact he4 a0 _ _ v45 hra0 hca0 heq
theorem workers_CheckWorks.l3_c {w0 : World} {H : Hp} {F : List Ch} {r : Int} (e2 : (List Work) → Option Int)
    (he2 : ∀ (a0 : List Work) (Aa0 : Option Addr) (ca0 : Nat) , Rw kWork H F Aa0 a0 → a0.length ≤ ca0 → e2 a0 = some r → RunH C30 (S30 F H r) H w0 [.c [1, 1, 1, 1, 0, 0], .c [1, 1, 1, 1, 0, 1], .c [1, 1, 1, 1, 1]] [(0, .slice Aa0 a0.length ca0)] H (F)) : ∀ (k : Nat), ∀ (a0 : List Work) (Aa0 : Option Addr) (ca0 : Nat) (v45 : Int) , Rw kWork H F Aa0 a0 → a0.length ≤ ca0 → workers_CheckWorks.l3 e2 k a0 v45 = some r → RunH C30 (S30 F H r) H w0 [.c [1, 1, 1, 0, 1, 0, 0], .l [1, 1, 1, 0, 1, 0, 0], .b 2, .c [1, 1, 1, 1]] [(0, .slice Aa0 a0.length ca0), (43, .slice Aa0 a0.length ca0), (44, .int .i64 (a0.length : Int)), (45, .int .i64 v45)] H (F) := by
  intro k
  induction k with
  | zero => intro a0 Aa0 ca0 v45 hra0 hca0 heq; exact nomatch (show (none : Option Int) = some r from heq)
  | succ k ihk =>
    intro a0 Aa0 ca0 v45 hra0 hca0 heq
    rw [workers_CheckWorks.l3] at heq
    refine RunH.adm 1 (es' := [.c [1, 1, 1, 0, 1, 0, 0, 0], .c [1, 1, 1, 0, 1, 0, 0, 1], .l [1, 1, 1, 0, 1, 0, 0], .b 2, .c [1, 1, 1, 1]]) (by kernel_rfl) ?_
    refine RunH.reg (by kernel_rfl) ?_
    refine RgH.runk 1 [0, 43, 44, 45, 46] (vs := []) (evs := []) (L' := [(0, .slice Aa0 a0.length ca0), (43, .slice Aa0 a0.length ca0), (44, .int .i64 (a0.length : Int)), (45, .int .i64 v45), (46, .bool (decide (v45 < (a0.length : Int))))]) (by kernel_rfl) (by kernel_rfl) (fun _ _ => trivial) ?_
    refine RgH.done (by kernel_rfl) ?_
    refine RunH.adm 1 (es' := [.c [1, 1, 1, 0, 1, 0, 0, 1, 0], .c [1, 1, 1, 0, 1, 0, 0, 1, 1], .l [1, 1, 1, 0, 1, 0, 0], .b 2, .c [1, 1, 1, 1]]) (by kernel_rfl) ?_
    rcases bool_cases (decide (v45 < (a0.length : Int))) with hb3 | hb3
    · replace heq := bif_true hb3 heq
      refine RunH.condT (c := decide (v45 < (a0.length : Int))) (by kernel_rfl) hb3 ?_
      refine RunH.adm 4 (es' := [.c [1, 1, 1, 0, 1, 0, 0, 1, 1, 0, 0, 0], .c [1, 1, 1, 0, 1, 0, 0, 1, 1, 0, 0, 1], .b 3, .c [1, 1, 1, 0, 1, 0, 0, 1, 1, 1], .l [1, 1, 1, 0, 1, 0, 0], .b 2, .c [1, 1, 1, 1]]) (by kernel_rfl) ?_
      refine RunH.reg (by kernel_rfl) ?_
      obtain ⟨x1, hx1, heq⟩ := bind_some heq
      obtain ⟨ha1, cs1, hK1, hcc1⟩ := hra0.get hx1
      obtain ⟨A2, c2, A3, c3, rfl, hc1, hr1, hc2, hr2⟩ := kWork_open hK1
      refine RgH.runk 2 [0, 43, 44, 45, 48] (vs := [.string x1.Id, .slice A2 x1.Needs.length c2, .int .i64 x1.Size, .slice A3 x1.After.length c3]) (evs := [.need (Aa0 = some (adr Aa0) ∧ (0 : Int) ≤ v45 ∧ v45 < ((a0.length : Nat) : Int)), .load (((adr Aa0).add (v45.toNat * 4)).add 0) (.string x1.Id), .load (((adr Aa0).add (v45.toNat * 4)).add 1) (.slice A2 x1.Needs.length c2), .load (((adr Aa0).add (v45.toNat * 4)).add 2) (.int .i64 x1.Size), .load (((adr Aa0).add (v45.toNat * 4)).add 3) (.slice A3 x1.After.length c3)]) (L' := [(0, .slice Aa0 a0.length ca0), (43, .slice Aa0 a0.length ca0), (44, .int .i64 (a0.length : Int)), (45, .int .i64 v45), (48, .agg #[.string x1.Id, .slice A2 x1.Needs.length c2, .int .i64 x1.Size, .slice A3 x1.After.length c3])]) (by kernel_rfl) (by kernel_rfl) (fun w hh => ⟨⟨ha1, (at?_some hx1).1, (at?_some hx1).2.1⟩, (hcc1 _ _ (hh.drop 0) 0 _ rfl), (hcc1 _ _ (hh.drop 0) 1 _ rfl), (hcc1 _ _ (hh.drop 0) 2 _ rfl), (hcc1 _ _ (hh.drop 0) 3 _ rfl)⟩) ?_
      refine RgH.does (DoesH.new (d := 7) (v := fun g => .pointer (some ⟨g, 0, none⟩)) (o := fun g => .cells #[.string ByteArray.empty, .slice none 0 0, .int .i64 0, .slice none 0 0] 49 (0, 0)) (fun g => by kernel_rfl)) ?_
      rintro _ _ _ _ ⟨g1, rfl, rfl, rfl⟩
      refine RgH.does (DoesH.store (k := 0) (g := g1) (off := 0) (v := .agg #[.string x1.Id, .slice A2 x1.Needs.length c2, .int .i64 x1.Size, .slice A3 x1.After.length c3]) (cells' := #[.string x1.Id, .slice A2 x1.Needs.length c2, .int .i64 x1.Size, .slice A3 x1.After.length c3]) (by kernel_rfl) rfl (by kernel_rfl) (by kernel_rfl)) ?_
      rintro _ _ _ _ ⟨rfl, rfl, rfl⟩
      refine RgH.done (by kernel_rfl) ?_
      refine RunH.adm 1 (es' := [.c [1, 1, 1, 0, 1, 0, 0, 1, 1, 0, 0, 1, 0], .c [1, 1, 1, 0, 1, 0, 0, 1, 1, 0, 0, 1, 1], .b 3, .c [1, 1, 1, 0, 1, 0, 0, 1, 1, 1], .l [1, 1, 1, 0, 1, 0, 0], .b 2, .c [1, 1, 1, 1]]) (by kernel_rfl) ?_
      refine RunH.reg (by kernel_rfl) ?_
      refine RgH.runk 4 [0, 43, 44, 45, 50, 51, 52] (vs := [.slice A3 x1.After.length c3]) (evs := [.load ⟨g1, 3, none⟩ (.slice A3 x1.After.length c3)]) (L' := [(0, .slice Aa0 a0.length ca0), (43, .slice Aa0 a0.length ca0), (44, .int .i64 (a0.length : Int)), (45, .int .i64 v45), (50, .slice A3 x1.After.length c3), (51, .int .i64 (x1.After.length : Int)), (52, .int .i64 0)]) (by kernel_rfl) (by kernel_rfl) (fun w hh => (hh.box 0 rfl rfl)) ?_
      refine RgH.done (by kernel_rfl) ?_
      refine RunH.adm 2 (es' := [.c [1, 1, 1, 0, 1, 0, 0, 1, 1, 0, 0, 1, 1, 0, 0], .l [1, 1, 1, 0, 1, 0, 0, 1, 1, 0, 0, 1, 1, 0, 0], .b 4, .b 3, .c [1, 1, 1, 0, 1, 0, 0, 1, 1, 1], .l [1, 1, 1, 0, 1, 0, 0], .b 2, .c [1, 1, 1, 1]]) (by kernel_rfl) ?_
      refine RunH.keep [0, 43, 44, 45, 50, 51, 52] (L' := [(0, .slice Aa0 a0.length ca0), (43, .slice Aa0 a0.length ca0), (44, .int .i64 (a0.length : Int)), (45, .int .i64 v45), (50, .slice A3 x1.After.length c3), (51, .int .i64 (x1.After.length : Int)), (52, .int .i64 0)]) (by kernel_rfl) ?_
      refine RunH.pick 1 [] (cs' := F) (by kernel_rfl) rfl ?_
      exact ((workers_CheckWorks.l5_c (e4 := workers_CheckWorks.e4 ((workers_CheckWorks.l3 e2 k))) (workers_CheckWorks.e4_c (backl3 := (workers_CheckWorks.l3 e2 k)) ihk)) big) a0 _ _ v45 x1 _ _ 0 hra0 hca0 hr2 hc2 heq
    · replace heq := bif_false hb3 heq
      refine RunH.condF (c := decide (v45 < (a0.length : Int))) (by kernel_rfl) hb3 ?_
      refine RunH.adm 3 (es' := [.c [1, 1, 1, 1, 0, 0], .c [1, 1, 1, 1, 0, 1], .c [1, 1, 1, 1, 1]]) (by kernel_rfl) ?_
      refine RunH.keep [0] (L' := [(0, .slice Aa0 a0.length ca0)]) (by kernel_rfl) ?_
      exact he2 a0 _ _ hra0 hca0 heq
theorem workers_CheckWorks.e1_c {w0 : World} {H : Hp} {F : List Ch} {r : Int} : ∀ (a0 : List Work) (Aa0 : Option Addr) (ca0 : Nat) , Rw kWork H F Aa0 a0 → a0.length ≤ ca0 → workers_CheckWorks.e1 a0 = some r → RunH C30 (S30 F H r) H w0 [.c [1, 1, 1, 0, 0], .c [1, 1, 1, 0, 1], .c [1, 1, 1, 1]] [(0, .slice Aa0 a0.length ca0)] H (F) := by
  intro a0 Aa0 ca0 hra0 hca0 heq
  unfold workers_CheckWorks.e1 at heq
  refine RunH.reg (by kernel_rfl) ?_
  refine RgH.runk 3 [0, 43, 44, 45] (vs := []) (evs := []) (L' := [(0, .slice Aa0 a0.length ca0), (43, .slice Aa0 a0.length ca0), (44, .int .i64 (a0.length : Int)), (45, .int .i64 0)]) (by kernel_rfl) (by kernel_rfl) (fun _ _ => trivial) ?_
  refine RgH.done (by kernel_rfl) ?_
  refine RunH.adm 2 (es' := [.c [1, 1, 1, 0, 1, 0, 0], .l [1, 1, 1, 0, 1, 0, 0], .b 2, .c [1, 1, 1, 1]]) (by kernel_rfl) ?_
  refine RunH.keep [0, 43, 44, 45] (L' := [(0, .slice Aa0 a0.length ca0), (43, .slice Aa0 a0.length ca0), (44, .int .i64 (a0.length : Int)), (45, .int .i64 0)]) (by kernel_rfl) ?_
  exact ((workers_CheckWorks.l3_c (e2 := workers_CheckWorks.e2) (workers_CheckWorks.e2_c)) big) a0 _ _ 0 hra0 hca0 heq
theorem workers_CheckWorks.l6_c {w0 : World} {H : Hp} {F : List Ch} {r : Int} (e1 : (List Work) → Option Int)
    (he1 : ∀ (a0 : List Work) (Aa0 : Option Addr) (ca0 : Nat) , Rw kWork H F Aa0 a0 → a0.length ≤ ca0 → e1 a0 = some r → RunH C30 (S30 F H r) H w0 [.c [1, 1, 1, 0, 0], .c [1, 1, 1, 0, 1], .c [1, 1, 1, 1]] [(0, .slice Aa0 a0.length ca0)] H (F)) : ∀ (k : Nat), ∀ (a0 : List Work) (Aa0 : Option Addr) (ca0 : Nat) (v19 : Int) , Rw kWork H F Aa0 a0 → a0.length ≤ ca0 → workers_CheckWorks.l6 e1 k a0 v19 = some r → RunH C30 (S30 F H r) H w0 [.c [1, 1, 0, 1, 0, 0], .l [1, 1, 0, 1, 0, 0], .b 0, .c [1, 1, 1]] [(0, .slice Aa0 a0.length ca0), (17, .slice Aa0 a0.length ca0), (18, .int .i64 (a0.length : Int)), (19, .int .i64 v19)] H (F) := by
  intro k
  induction k with
  | zero => intro a0 Aa0 ca0 v19 hra0 hca0 heq; exact nomatch (show (none : Option Int) = some r from heq)
  | succ k ihk =>
    intro a0 Aa0 ca0 v19 hra0 hca0 heq
    rw [workers_CheckWorks.l6] at heq
    refine RunH.adm 1 (es' := [.c [1, 1, 0, 1, 0, 0, 0], .c [1, 1, 0, 1, 0, 0, 1], .l [1, 1, 0, 1, 0, 0], .b 0, .c [1, 1, 1]]) (by kernel_rfl) ?_
    refine RunH.reg (by kernel_rfl) ?_
    refine RgH.runk 1 [0, 17, 18, 19, 20] (vs := []) (evs := []) (L' := [(0, .slice Aa0 a0.length ca0), (17, .slice Aa0 a0.length ca0), (18, .int .i64 (a0.length : Int)), (19, .int .i64 v19), (20, .bool (decide (v19 < (a0.length : Int))))]) (by kernel_rfl) (by kernel_rfl) (fun _ _ => trivial) ?_
    refine RgH.done (by kernel_rfl) ?_
    refine RunH.adm 1 (es' := [.c [1, 1, 0, 1, 0, 0, 1, 0], .c [1, 1, 0, 1, 0, 0, 1, 1], .l [1, 1, 0, 1, 0, 0], .b 0, .c [1, 1, 1]]) (by kernel_rfl) ?_
    rcases bool_cases (decide (v19 < (a0.length : Int))) with hb6 | hb6
    · replace heq := bif_true hb6 heq
      refine RunH.condT (c := decide (v19 < (a0.length : Int))) (by kernel_rfl) hb6 ?_
      refine RunH.adm 4 (es' := [.c [1, 1, 0, 1, 0, 0, 1, 1, 0, 0, 0], .c [1, 1, 0, 1, 0, 0, 1, 1, 0, 0, 1], .b 1, .c [1, 1, 0, 1, 0, 0, 1, 1, 1], .l [1, 1, 0, 1, 0, 0], .b 0, .c [1, 1, 1]]) (by kernel_rfl) ?_
      refine RunH.reg (by kernel_rfl) ?_
      obtain ⟨x3, hx3, heq⟩ := bind_some heq
      obtain ⟨ha3, cs3, hK3, hcc3⟩ := hra0.get hx3
      obtain ⟨A4, c4, A5, c5, rfl, hc3, hr3, hc4, hr4⟩ := kWork_open hK3
      refine RgH.runk 3 [0, 17, 18, 19, 21, 23] (vs := [.string x3.Id, .slice A4 x3.Needs.length c4, .int .i64 x3.Size, .slice A5 x3.After.length c5]) (evs := [.need (Aa0 = some (adr Aa0) ∧ (0 : Int) ≤ v19 ∧ v19 < ((a0.length : Nat) : Int)), .load (((adr Aa0).add (v19.toNat * 4)).add 0) (.string x3.Id), .load (((adr Aa0).add (v19.toNat * 4)).add 1) (.slice A4 x3.Needs.length c4), .load (((adr Aa0).add (v19.toNat * 4)).add 2) (.int .i64 x3.Size), .load (((adr Aa0).add (v19.toNat * 4)).add 3) (.slice A5 x3.After.length c5)]) (L' := [(0, .slice Aa0 a0.length ca0), (17, .slice Aa0 a0.length ca0), (18, .int .i64 (a0.length : Int)), (19, .int .i64 v19), (21, .int .i64 v19), (23, .agg #[.string x3.Id, .slice A4 x3.Needs.length c4, .int .i64 x3.Size, .slice A5 x3.After.length c5])]) (by kernel_rfl) (by kernel_rfl) (fun w hh => ⟨⟨ha3, (at?_some hx3).1, (at?_some hx3).2.1⟩, (hcc3 _ _ (hh.drop 0) 0 _ rfl), (hcc3 _ _ (hh.drop 0) 1 _ rfl), (hcc3 _ _ (hh.drop 0) 2 _ rfl), (hcc3 _ _ (hh.drop 0) 3 _ rfl)⟩) ?_
      refine RgH.does (DoesH.new (d := 4) (v := fun g => .pointer (some ⟨g, 0, none⟩)) (o := fun g => .cells #[.string ByteArray.empty, .slice none 0 0, .int .i64 0, .slice none 0 0] 49 (0, 0)) (fun g => by kernel_rfl)) ?_
      rintro _ _ _ _ ⟨g2, rfl, rfl, rfl⟩
      refine RgH.runk 5 [0, 3, 4, 17, 18, 19, 23] (vs := []) (evs := []) (L' := [(0, .slice Aa0 a0.length ca0), (3, .int .i64 v19), (4, .pointer (some ⟨g2, 0, none⟩)), (17, .slice Aa0 a0.length ca0), (18, .int .i64 (a0.length : Int)), (19, .int .i64 v19), (23, .agg #[.string x3.Id, .slice A4 x3.Needs.length c4, .int .i64 x3.Size, .slice A5 x3.After.length c5])]) (by kernel_rfl) (by kernel_rfl) (fun _ _ => trivial) ?_
      refine RgH.does (DoesH.store (k := 0) (g := g2) (off := 0) (v := .agg #[.string x3.Id, .slice A4 x3.Needs.length c4, .int .i64 x3.Size, .slice A5 x3.After.length c5]) (cells' := #[.string x3.Id, .slice A4 x3.Needs.length c4, .int .i64 x3.Size, .slice A5 x3.After.length c5]) (by kernel_rfl) rfl (by kernel_rfl) (by kernel_rfl)) ?_
      rintro _ _ _ _ ⟨rfl, rfl, rfl⟩
      refine RgH.done (by kernel_rfl) ?_
      refine RunH.adm 2 (es' := [.c [1, 1, 0, 1, 0, 0, 1, 1, 0, 0, 1, 0, 0], .c [1, 1, 0, 1, 0, 0, 1, 1, 0, 0, 1, 0, 1], .c [1, 1, 0, 1, 0, 0, 1, 1, 0, 0, 1, 1], .b 1, .c [1, 1, 0, 1, 0, 0, 1, 1, 1], .l [1, 1, 0, 1, 0, 0], .b 0, .c [1, 1, 1]]) (by kernel_rfl) ?_
      refine RunH.reg (by kernel_rfl) ?_
      refine RgH.runk 1 [0, 3, 4, 17, 18, 19, 24] (vs := [.string x3.Id, .slice A4 x3.Needs.length c4, .int .i64 x3.Size, .slice A5 x3.After.length c5]) (evs := [.load ⟨g2, 0, none⟩ (.string x3.Id), .load ⟨g2, 1, none⟩ (.slice A4 x3.Needs.length c4), .load ⟨g2, 2, none⟩ (.int .i64 x3.Size), .load ⟨g2, 3, none⟩ (.slice A5 x3.After.length c5)]) (L' := [(0, .slice Aa0 a0.length ca0), (3, .int .i64 v19), (4, .pointer (some ⟨g2, 0, none⟩)), (17, .slice Aa0 a0.length ca0), (18, .int .i64 (a0.length : Int)), (19, .int .i64 v19), (24, .agg #[.string x3.Id, .slice A4 x3.Needs.length c4, .int .i64 x3.Size, .slice A5 x3.After.length c5])]) (by kernel_rfl) (by kernel_rfl) (fun w hh => ⟨(hh.box 0 rfl rfl), (hh.box 0 rfl rfl), (hh.box 0 rfl rfl), (hh.box 0 rfl rfl)⟩) ?_
      obtain ⟨y3, hy3, heq⟩ := bind_some heq
      refine RgH.does (DoesH.call (d := 25) (g := 60) (args := #[.agg #[.string x3.Id, .slice A4 x3.Needs.length c4, .int .i64 x3.Size, .slice A5 x3.After.length c5]]) (by kernel_rfl) (workers_checkWork_c (a0 := x3) (Rw.of hr3) hc3 rfl (Rw.of hr4) hc4 rfl hy3)) ?_
      rintro _ _ _ _ ⟨_, rfl, rfl, rfl, rfl⟩
      refine RgH.runk 3 [0, 3, 4, 5, 17, 18, 19] (vs := []) (evs := []) (L' := [(0, .slice Aa0 a0.length ca0), (3, .int .i64 v19), (4, .pointer (some ⟨g2, 0, none⟩)), (5, .int .i64 y3), (17, .slice Aa0 a0.length ca0), (18, .int .i64 (a0.length : Int)), (19, .int .i64 v19)]) (by kernel_rfl) (by kernel_rfl) (fun _ _ => trivial) ?_
      refine RgH.done (by kernel_rfl) ?_
      refine RunH.adm 1 (es' := [.c [1, 1, 0, 1, 0, 0, 1, 1, 0, 0, 1, 0, 1, 0], .c [1, 1, 0, 1, 0, 0, 1, 1, 0, 0, 1, 0, 1, 1], .c [1, 1, 0, 1, 0, 0, 1, 1, 0, 0, 1, 1], .b 1, .c [1, 1, 0, 1, 0, 0, 1, 1, 1], .l [1, 1, 0, 1, 0, 0], .b 0, .c [1, 1, 1]]) (by kernel_rfl) ?_
      refine RunH.reg (by kernel_rfl) ?_
      refine RgH.runk 2 [0, 3, 4, 5, 17, 18, 19, 27] (vs := []) (evs := []) (L' := [(0, .slice Aa0 a0.length ca0), (3, .int .i64 v19), (4, .pointer (some ⟨g2, 0, none⟩)), (5, .int .i64 y3), (17, .slice Aa0 a0.length ca0), (18, .int .i64 (a0.length : Int)), (19, .int .i64 v19), (27, .bool (y3 != 0))]) (by kernel_rfl) (by kernel_rfl) (fun _ _ => trivial) ?_
      refine RgH.done (by kernel_rfl) ?_
      rcases bool_cases (y3 != 0) with hb7 | hb7
      · replace heq := bif_true hb7 heq
        refine RunH.condT (c := y3 != 0) (by kernel_rfl) hb7 ?_
        refine RunH.adm 1 (es' := [.c [1, 1, 0, 1, 0, 0, 1, 1, 0, 0, 1, 0, 1, 1, 0, 0], .c [1, 1, 0, 1, 0, 0, 1, 1, 0, 0, 1, 0, 1, 1, 0, 1], .c [1, 1, 0, 1, 0, 0, 1, 1, 0, 0, 1, 1], .b 1, .c [1, 1, 0, 1, 0, 0, 1, 1, 1], .l [1, 1, 0, 1, 0, 0], .b 0, .c [1, 1, 1]]) (by kernel_rfl) ?_
        refine RunH.reg (by kernel_rfl) ?_
        refine RgH.runk 2 [2] (vs := []) (evs := []) (L' := [(2, .int .i64 y3)]) (by kernel_rfl) (by kernel_rfl) (fun _ _ => trivial) ?_
        refine RgH.done (by kernel_rfl) ?_
        obtain rfl := Option.some.inj heq
        refine RunH.pick 1 [] (cs' := F) (by kernel_rfl) rfl ?_
        exact RunH.done (by kernel_rfl) Tryd.func30 (v := .int .i64 y3) (by kernel_rfl) ⟨rfl, rfl, rfl⟩
      · replace heq := bif_false hb7 heq
        refine RunH.condF (c := y3 != 0) (by kernel_rfl) hb7 ?_
        refine RunH.adm 2 (es' := [.c [1, 1, 0, 1, 0, 0, 1, 1, 0, 0, 1, 1, 0], .c [1, 1, 0, 1, 0, 0, 1, 1, 0, 0, 1, 1, 1], .b 1, .c [1, 1, 0, 1, 0, 0, 1, 1, 1], .l [1, 1, 0, 1, 0, 0], .b 0, .c [1, 1, 1]]) (by kernel_rfl) ?_
        obtain ⟨t1, ht1, heq⟩ := bind_some heq
        have K4 : RunH C30 (S30 F H r) H w0 [.c [1, 1, 0, 1, 0, 0, 1, 1, 0, 0, 1, 1, 1], .b 1, .c [1, 1, 0, 1, 0, 0, 1, 1, 1], .l [1, 1, 0, 1, 0, 0], .b 0, .c [1, 1, 1]] [(0, .slice Aa0 a0.length ca0), (17, .slice Aa0 a0.length ca0), (18, .int .i64 (a0.length : Int)), (19, .int .i64 v19), (41, .bool t1)] H (F) := by
          rcases bool_cases (t1) with hb9 | hb9
          · replace heq := bif_true hb9 heq
            refine RunH.condT (c := t1) (by kernel_rfl) hb9 ?_
            refine RunH.adm 1 (es' := [.c [1, 1, 0, 1, 0, 0, 1, 1, 0, 0, 1, 1, 1, 0, 0], .c [1, 1, 0, 1, 0, 0, 1, 1, 0, 0, 1, 1, 1, 0, 1], .b 1, .c [1, 1, 0, 1, 0, 0, 1, 1, 1], .l [1, 1, 0, 1, 0, 0], .b 0, .c [1, 1, 1]]) (by kernel_rfl) ?_
            refine RunH.reg (by kernel_rfl) ?_
            refine RgH.runk 1 [2] (vs := []) (evs := []) (L' := [(2, .int .i64 8)]) (by kernel_rfl) (by kernel_rfl) (fun _ _ => trivial) ?_
            refine RgH.done (by kernel_rfl) ?_
            obtain rfl := Option.some.inj heq
            exact RunH.done (by kernel_rfl) Tryd.func30 (v := .int .i64 8) (by kernel_rfl) ⟨rfl, rfl, rfl⟩
          · replace heq := bif_false hb9 heq
            refine RunH.condF (c := t1) (by kernel_rfl) hb9 ?_
            refine RunH.adm 2 (es' := [.c [1, 1, 0, 1, 0, 0, 1, 1, 1], .l [1, 1, 0, 1, 0, 0], .b 0, .c [1, 1, 1]]) (by kernel_rfl) ?_
            refine RunH.reg (by kernel_rfl) ?_
            refine RgH.runk 2 [0, 17, 18, 19] (vs := []) (evs := []) (L' := [(0, .slice Aa0 a0.length ca0), (17, .slice Aa0 a0.length ca0), (18, .int .i64 (a0.length : Int)), (19, .int .i64 (w64 (v19 + 1)))]) (by kernel_rfl) (by kernel_rfl) (fun _ _ => trivial) ?_
            refine RgH.done (by kernel_rfl) ?_
            refine RunH.adm 1 (es' := [.c [1, 1, 0, 1, 0, 0], .l [1, 1, 0, 1, 0, 0], .b 0, .c [1, 1, 1]]) (by kernel_rfl) ?_
            refine RunH.keep [0, 17, 18, 19] (L' := [(0, .slice Aa0 a0.length ca0), (17, .slice Aa0 a0.length ca0), (18, .int .i64 (a0.length : Int)), (19, .int .i64 (w64 (v19 + 1)))]) (by kernel_rfl) ?_
            exact ihk a0 _ _ (w64 (v19 + 1)) hra0 hca0 heq
        replace heq := ht1
        refine RunH.keep [0, 3, 4, 17, 18, 19] (L' := [(0, .slice Aa0 a0.length ca0), (3, .int .i64 v19), (4, .pointer (some ⟨g2, 0, none⟩)), (17, .slice Aa0 a0.length ca0), (18, .int .i64 (a0.length : Int)), (19, .int .i64 v19)]) (by kernel_rfl) ?_
        refine RunH.draw (fun w => Heap H w0 w ((some (g2, .cells #[.string x3.Id, .slice A4 x3.Needs.length c4, .int .i64 x3.Size, .slice A5 x3.After.length c5] 49 (0, 0))) :: F)) (fun w => Heap H w0 w ((some (g2, .cells #[.string x3.Id, .slice A4 x3.Needs.length c4, .int .i64 x3.Size, .slice A5 x3.After.length c5] 49 (0, 0))) :: F)) [false, false, false, false, false, false, false, false, false, false, false, false, false] (n := 13) (ls := [false, false, false, false, false, false, false, false, false, false, false, false, false]) (by kernel_rfl) (by kernel_rfl) (by kernel_rfl) rfl ?_
        refine DrH.run [0, 1, 2] (m := 10) (ls' := [true, true, true, false, false, false, false, false, false, false, false, false, false]) (vs := []) (evs := []) (L' := [(31, .bool (decide (0 < v19))), (30, .bool (decide (0 < v19))), (29, .int .i64 v19), (0, .slice Aa0 a0.length ca0), (3, .int .i64 v19), (4, .pointer (some ⟨g2, 0, none⟩)), (17, .slice Aa0 a0.length ca0), (18, .int .i64 (a0.length : Int)), (19, .int .i64 v19)]) (by kernel_rfl) (fun w hh => hh.pick 1 [0] (by kernel_rfl)) (fun w hh => hh.pick 1 [0] (by kernel_rfl)) (by kernel_rfl) (fun _ _ => trivial) (by kernel_rfl) ?_
        refine DrH.keep [31, 0, 3, 4, 17, 18, 19] (L' := [(31, .bool (decide (0 < v19))), (0, .slice Aa0 a0.length ca0), (3, .int .i64 v19), (4, .pointer (some ⟨g2, 0, none⟩)), (17, .slice Aa0 a0.length ca0), (18, .int .i64 (a0.length : Int)), (19, .int .i64 v19)]) (by kernel_rfl) ?_
        rcases bool_cases (decide (0 < v19)) with hb8 | hb8
        · replace heq := bif_true hb8 heq
          refine DrH.val1 (v' := .bool true) (congrArg Value.bool hb8) ?_
          obtain ⟨x4, hx4, heq⟩ := bind_some heq
          obtain ⟨ha4, cs4, hK4, hcc4⟩ := hra0.get hx4
          obtain ⟨A6, c6, A7, c7, rfl, hc5, hr5, hc6, hr6⟩ := kWork_open hK4
          refine DrH.run [3, 4, 5, 6, 7, 8, 9, 10, 11, 12] (m := 0) (ls' := [true, true, true, true, true, true, true, true, true, true, true, true, true]) (vs := [.string x3.Id, .string x4.Id]) (evs := [.load ⟨g2, 0, none⟩ (.string x3.Id), .need (Aa0 = some (adr Aa0) ∧ (0 : Int) ≤ (w64 (v19 - 1)) ∧ (w64 (v19 - 1)) < ((a0.length : Nat) : Int)), .load (((adr Aa0).add ((w64 (v19 - 1)).toNat * 4)).add 0) (.string x4.Id)]) (L' := [(41, .bool (sLt x3.Id x4.Id || sEq x3.Id x4.Id)), (40, .bool (sLt x3.Id x4.Id || sEq x3.Id x4.Id)), (39, .string x4.Id), (38, .pointer (some (((adr Aa0).add ((w64 (v19 - 1)).toNat * 4)).add 0))), (37, .pointer (some ((adr Aa0).add ((w64 (v19 - 1)).toNat * 4)))), (36, .int .i64 (w64 (v19 - 1))), (35, .int .i64 v19), (34, .slice Aa0 a0.length ca0), (33, .string x3.Id), (32, .pointer (some ⟨g2, 0, none⟩)), (31, .bool true), (0, .slice Aa0 a0.length ca0), (3, .int .i64 v19), (4, .pointer (some ⟨g2, 0, none⟩)), (17, .slice Aa0 a0.length ca0), (18, .int .i64 (a0.length : Int)), (19, .int .i64 v19)]) (by kernel_rfl) (fun w hh => hh.pick 1 [0] (by kernel_rfl)) (fun w hh => hh.pick 1 [0] (by kernel_rfl)) (by kernel_rfl) (fun w hh => ⟨(hh.box 0 rfl rfl), ⟨ha4, (at?_some hx4).1, (at?_some hx4).2.1⟩, (hcc4 _ _ (hh.drop 1) 0 _ rfl)⟩) (by kernel_rfl) ?_
          refine DrH.keep [0, 17, 18, 19, 41] (L' := [(0, .slice Aa0 a0.length ca0), (17, .slice Aa0 a0.length ca0), (18, .int .i64 (a0.length : Int)), (19, .int .i64 v19), (41, .bool (sLt x3.Id x4.Id || sEq x3.Id x4.Id))]) (by kernel_rfl) ?_
          obtain rfl := Option.some.inj heq
          refine DrH.keep [0, 17, 18, 19, 41] (L' := [(0, .slice Aa0 a0.length ca0), (17, .slice Aa0 a0.length ca0), (18, .int .i64 (a0.length : Int)), (19, .int .i64 v19), (41, .bool (sLt x3.Id x4.Id || sEq x3.Id x4.Id))]) (by kernel_rfl) ?_
          refine DrH.pick 1 [] (cs' := F) (by kernel_rfl) rfl ?_
          refine DrH.done (by kernel_rfl) ?_
          exact K4
        · replace heq := bif_false hb8 heq
          refine DrH.val1 (v' := .bool false) (congrArg Value.bool hb8) ?_
          refine DrH.run [3, 4, 5, 6, 7, 8, 9, 10, 11, 12] (m := 0) (ls' := [true, true, true, true, true, true, true, true, true, true, true, true, true]) (vs := []) (evs := []) (L' := [(41, .bool false), (40, undef), (39, undef), (38, undef), (37, undef), (36, undef), (35, undef), (34, undef), (33, undef), (32, undef), (31, .bool false), (0, .slice Aa0 a0.length ca0), (3, .int .i64 v19), (4, .pointer (some ⟨g2, 0, none⟩)), (17, .slice Aa0 a0.length ca0), (18, .int .i64 (a0.length : Int)), (19, .int .i64 v19)]) (by kernel_rfl) (fun w hh => hh.pick 1 [0] (by kernel_rfl)) (fun w hh => hh.pick 1 [0] (by kernel_rfl)) (by kernel_rfl) (fun _ _ => trivial) (by kernel_rfl) ?_
          refine DrH.keep [0, 17, 18, 19, 41] (L' := [(0, .slice Aa0 a0.length ca0), (17, .slice Aa0 a0.length ca0), (18, .int .i64 (a0.length : Int)), (19, .int .i64 v19), (41, .bool false)]) (by kernel_rfl) ?_
          obtain rfl := Option.some.inj heq
          refine DrH.keep [0, 17, 18, 19, 41] (L' := [(0, .slice Aa0 a0.length ca0), (17, .slice Aa0 a0.length ca0), (18, .int .i64 (a0.length : Int)), (19, .int .i64 v19), (41, .bool false)]) (by kernel_rfl) ?_
          refine DrH.pick 1 [] (cs' := F) (by kernel_rfl) rfl ?_
          refine DrH.done (by kernel_rfl) ?_
          exact K4
    · replace heq := bif_false hb6 heq
      refine RunH.condF (c := decide (v19 < (a0.length : Int))) (by kernel_rfl) hb6 ?_
      refine RunH.adm 3 (es' := [.c [1, 1, 1, 0, 0], .c [1, 1, 1, 0, 1], .c [1, 1, 1, 1]]) (by kernel_rfl) ?_
      refine RunH.keep [0] (L' := [(0, .slice Aa0 a0.length ca0)]) (by kernel_rfl) ?_
      exact he1 a0 _ _ hra0 hca0 heq
theorem workers_CheckWorks_c {w0 : World} {H : Hp} {F : List Ch} {a0 : List Work} {Aa0 : Option Addr} {na0 : Nat} {ca0 : Nat} {r : Int} (hra0 : Rw kWork H F Aa0 a0) (hca0 : na0 ≤ ca0) (hna0 : na0 = a0.length) (heq : workers_CheckWorks.f a0 = some r) : CallsH Tryd.prog 30 #[.slice Aa0 na0 ca0] H w0 (F) (S30 F H r) := by
  refine calls_of_runH (F := C30) Tryd.func30 (by kernel_rfl) Tryd.ntmps30 (args := [.slice Aa0 na0 ca0]) (by kernel_rfl) ?_
  subst hna0
  unfold workers_CheckWorks.f at heq
  refine RunH.adm 1 (es' := [.c [0], .c [1]]) (by kernel_rfl) ?_
  refine RunH.reg (by kernel_rfl) ?_
  refine RgH.runk 1 [0] (vs := []) (evs := []) (L' := [(0, .slice Aa0 a0.length ca0)]) (by kernel_rfl) (by kernel_rfl) (fun _ _ => trivial) ?_
  refine RgH.done (by kernel_rfl) ?_
  refine RunH.adm 2 (es' := [.c [1, 0, 0], .c [1, 0, 1], .c [1, 1]]) (by kernel_rfl) ?_
  refine RunH.reg (by kernel_rfl) ?_
  refine RgH.runk 3 [0, 16] (vs := []) (evs := []) (L' := [(0, .slice Aa0 a0.length ca0), (16, .bool (decide (200 < (a0.length : Int))))]) (by kernel_rfl) (by kernel_rfl) (fun _ _ => trivial) ?_
  refine RgH.done (by kernel_rfl) ?_
  rcases bool_cases (decide (200 < (a0.length : Int))) with hb1 | hb1
  · replace heq := bif_true hb1 heq
    refine RunH.condT (c := decide (200 < (a0.length : Int))) (by kernel_rfl) hb1 ?_
    refine RunH.adm 1 (es' := [.c [1, 0, 1, 0, 0], .c [1, 0, 1, 0, 1], .c [1, 1]]) (by kernel_rfl) ?_
    refine RunH.reg (by kernel_rfl) ?_
    refine RgH.runk 1 [2] (vs := []) (evs := []) (L' := [(2, .int .i64 2)]) (by kernel_rfl) (by kernel_rfl) (fun _ _ => trivial) ?_
    refine RgH.done (by kernel_rfl) ?_
    obtain rfl := Option.some.inj heq
    exact RunH.done (by kernel_rfl) Tryd.func30 (v := .int .i64 2) (by kernel_rfl) ⟨rfl, rfl, rfl⟩
  · replace heq := bif_false hb1 heq
    refine RunH.condF (c := decide (200 < (a0.length : Int))) (by kernel_rfl) hb1 ?_
    refine RunH.adm 3 (es' := [.c [1, 1, 0, 0], .c [1, 1, 0, 1], .c [1, 1, 1]]) (by kernel_rfl) ?_
    refine RunH.reg (by kernel_rfl) ?_
    refine RgH.runk 3 [0, 17, 18, 19] (vs := []) (evs := []) (L' := [(0, .slice Aa0 a0.length ca0), (17, .slice Aa0 a0.length ca0), (18, .int .i64 (a0.length : Int)), (19, .int .i64 0)]) (by kernel_rfl) (by kernel_rfl) (fun _ _ => trivial) ?_
    refine RgH.done (by kernel_rfl) ?_
    refine RunH.adm 2 (es' := [.c [1, 1, 0, 1, 0, 0], .l [1, 1, 0, 1, 0, 0], .b 0, .c [1, 1, 1]]) (by kernel_rfl) ?_
    refine RunH.keep [0, 17, 18, 19] (L' := [(0, .slice Aa0 a0.length ca0), (17, .slice Aa0 a0.length ca0), (18, .int .i64 (a0.length : Int)), (19, .int .i64 0)]) (by kernel_rfl) ?_
    exact ((workers_CheckWorks.l6_c (e1 := workers_CheckWorks.e1) (workers_CheckWorks.e1_c)) big) a0 _ _ 0 hra0 hca0 heq
end Go.Proofs.YtcldjlkgdnjnaaaDoor
