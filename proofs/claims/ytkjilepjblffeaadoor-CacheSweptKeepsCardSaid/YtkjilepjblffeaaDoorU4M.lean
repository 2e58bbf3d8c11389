/- What the machine's calls of these functions come to: just what the plain functions say. Written by program. -/
import Derived.Test.YtkjilepjblffeaaDoorProg
import Derived.Test.YtkjilepjblffeaaDoorKitV
import Derived.Test.YtkjilepjblffeaaDoorUD
import Derived.Test.YtkjilepjblffeaaDoorShelf
import Derived.Test.YtkjilepjblffeaaDoorU4M2
set_option linter.unusedVariables false
set_option linter.unusedSimpArgs false
set_option maxRecDepth 100000
set_option maxHeartbeats 1000000
namespace Go.Proofs.YtkjilepjblffeaaDoor
open Go Go.RowKit Go.Proofs.YtkjilepjblffeaaDoor.Kit
noncomputable def C113 : Ctx := { P := Tryd.prog, f := 113, N := 9, c := bodyOf Tryd.f113 }
def S113 (F : List Ch) (H0 : Hp) (r : Int) (v : Value) (H : Hp) (cs : List Ch) : Prop := H0 = H ∧ v = .int .i64 r ∧ F = cs
theorem cache_entryAt_1_c {w0 : World} {H : Hp} {F : List Ch} {a0 : Entry} {Aa0_1 : Option Addr} {na0_1 : Nat} {ca0_1 : Nat} {a1 : ByteArray} {r : Int} (hra0_1 : Rw Kd.string H F Aa0_1 a0.Refs) (hca0_1 : na0_1 ≤ ca0_1) (hna0_1 : na0_1 = a0.Refs.length) (heq : cache_entryAt_1.f a0 a1 = some r) : CallsH Tryd.prog 113 #[.agg #[.string a0.Key, .slice Aa0_1 na0_1 ca0_1, .int .i64 a0.Used], .string a1] H w0 (F) (S113 F H r) := by
  refine calls_of_runH (F := C113) Tryd.func113 (by kernel_rfl) Tryd.ntmps113 (args := [.agg #[.string a0.Key, .slice Aa0_1 na0_1 ca0_1, .int .i64 a0.Used], .string a1]) (by kernel_rfl) ?_
  subst hna0_1
  unfold cache_entryAt_1.f at heq
  refine RunH.adm 1 (es' := [.c [0], .c [1]]) (by kernel_rfl) ?_
  refine RunH.reg (by kernel_rfl) ?_
  refine RgH.does (DoesH.new (d := 2) (v := fun g => .pointer (some ⟨g, 0, none⟩)) (o := fun g => .cells #[.string a0.Key, .slice Aa0_1 a0.Refs.length ca0_1, .int .i64 a0.Used] 51 (0, 0)) (fun g => by kernel_rfl)) ?_
  rintro _ _ _ _ ⟨g1, rfl, rfl, rfl⟩
  refine RgH.runk 2 [1, 2] (vs := []) (evs := []) (L' := [(1, .string a1), (2, .pointer (some ⟨g1, 0, none⟩))]) (by kernel_rfl) (by kernel_rfl) (fun _ _ => trivial) ?_
  refine RgH.done (by kernel_rfl) ?_
  refine RunH.adm 1 (es' := [.c [1, 0], .c [1, 1]]) (by kernel_rfl) ?_
  refine RunH.reg (by kernel_rfl) ?_
  refine RgH.runk 3 [6, 7] (vs := [.string a0.Key]) (evs := [.load ⟨g1, 0, none⟩ (.string a0.Key)]) (L' := [(6, .string a0.Key), (7, .string a1)]) (by kernel_rfl) (by kernel_rfl) (fun w hh => (hh.box 0 rfl rfl)) ?_
  obtain ⟨y1, hy1, heq⟩ := bind_some heq
  refine RgH.does (DoesH.call (d := 8) (g := 114) (args := #[.string a0.Key, .string a1]) (by kernel_rfl) (strings_Compare_c (a0 := a0.Key) (a1 := a1)  hy1)) ?_
  rintro _ _ _ _ ⟨_, rfl, rfl, rfl, rfl⟩
  refine RgH.runk 5 [4] (vs := []) (evs := []) (L' := [(4, .int .i64 y1)]) (by kernel_rfl) (by kernel_rfl) (fun _ _ => trivial) ?_
  refine RgH.done (by kernel_rfl) ?_
  obtain rfl := Option.some.inj heq
  refine RunH.pick 1 [] (cs' := F) (by kernel_rfl) rfl ?_
  exact RunH.done (by kernel_rfl) Tryd.func113 (v := .int .i64 y1) (by kernel_rfl) ⟨rfl, rfl, rfl⟩
noncomputable def C112 : Ctx := { P := Tryd.prog, f := 112, N := 49, c := bodyOf Tryd.f112 }
def S112 (F : List Ch) (H0 : Hp) (r : Int × Bool) (v : Value) (H : Hp) (cs : List Ch) : Prop := H0 = H ∧ v = .tuple #[.int .i64 r.1, .bool r.2] ∧ F = cs
theorem slices_BinarySearchFunc_Entry_string.e1_c {w0 : World} {H : Hp} {F : List Ch} {r : Int × Bool} : ∀ (a0 : List Entry) (Aa0 : Option Addr) (ca0 : Nat) (a1 : ByteArray) (v_i9 : Int) , Rw kEntry H F Aa0 a0 → a0.length ≤ ca0 → slices_BinarySearchFunc_Entry_string.e1 a0 a1 v_i9 = some r → RunH C112 (S112 F H r) H w0 [.c [1, 1, 1, 1, 0], .c [1, 1, 1, 1, 1]] [(0, .slice Aa0 a0.length ca0), (1, .string a1), (2, .func (.func 113) #[] #[]), (8, .int .i64 (a0.length : Int)), (9, .int .i64 v_i9)] H (F) := by
  intro a0 Aa0 ca0 a1 v_i9 hra0 hca0 heq
  unfold slices_BinarySearchFunc_Entry_string.e1 at heq
  obtain ⟨t1, ht1, heq⟩ := bind_some heq
  have K1 : RunH C112 (S112 F H r) H w0 [.c [1, 1, 1, 1, 1]] [(6, .int .i64 v_i9), (7, .bool t1)] H (F) := by
    obtain rfl := Option.some.inj heq
    exact RunH.done (by kernel_rfl) Tryd.func112 (v := .tuple #[.int .i64 v_i9, .bool t1]) (by kernel_rfl) ⟨rfl, rfl, rfl⟩
  replace heq := ht1
  refine RunH.reg (by kernel_rfl) ?_
  refine RgH.runk 5 [39, 0, 1, 2, 9, 35] (vs := []) (evs := []) (L' := [(39, .bool (decide (v_i9 < (a0.length : Int)))), (0, .slice Aa0 a0.length ca0), (1, .string a1), (2, .func (.func 113) #[] #[]), (9, .int .i64 v_i9), (35, .int .i64 v_i9)]) (by kernel_rfl) (by kernel_rfl) (fun _ _ => trivial) ?_
  rcases bool_cases (decide (v_i9 < (a0.length : Int))) with hb1 | hb1
  · replace heq := bif_true hb1 heq
    refine RgH.val1 (v' := .bool true) (congrArg Value.bool hb1) ?_
    obtain ⟨x1, hx1, heq⟩ := bind_some heq
    obtain ⟨ha1, cs1, hK1, hcc1⟩ := hra0.get hx1
    obtain ⟨A1, c1, rfl, hc1, hr1⟩ := kEntry_open hK1
    refine RgH.runk 11 [35, 39, 40, 44, 45] (vs := [.string x1.Key, .slice A1 x1.Refs.length c1, .int .i64 x1.Used]) (evs := [.need (Aa0 = some (adr Aa0) ∧ (0 : Int) ≤ v_i9 ∧ v_i9 < ((a0.length : Nat) : Int)), .load (((adr Aa0).add (v_i9.toNat * 3)).add 0) (.string x1.Key), .load (((adr Aa0).add (v_i9.toNat * 3)).add 1) (.slice A1 x1.Refs.length c1), .load (((adr Aa0).add (v_i9.toNat * 3)).add 2) (.int .i64 x1.Used)]) (L' := [(35, .int .i64 v_i9), (39, .bool true), (40, .func (.func 113) #[] #[]), (44, .agg #[.string x1.Key, .slice A1 x1.Refs.length c1, .int .i64 x1.Used]), (45, .string a1)]) (by kernel_rfl) (by kernel_rfl) (fun w hh => ⟨⟨ha1, (at?_some hx1).1, (at?_some hx1).2.1⟩, (hcc1 _ _ (hh.drop 0) 0 _ rfl), (hcc1 _ _ (hh.drop 0) 1 _ rfl), (hcc1 _ _ (hh.drop 0) 2 _ rfl)⟩) ?_
    obtain ⟨y1, hy1, heq⟩ := bind_some heq
    refine RgH.does (DoesH.call (d := 46) (g := 113) (args := #[.agg #[.string x1.Key, .slice A1 x1.Refs.length c1, .int .i64 x1.Used], .string a1]) (by kernel_rfl) (cache_entryAt_1_c (a0 := x1) (a1 := a1) (Rw.of hr1) hc1 rfl hy1)) ?_
    rintro _ _ _ _ ⟨_, rfl, rfl, rfl, rfl⟩
    refine RgH.runk 16 [6, 7] (vs := []) (evs := []) (L' := [(6, .int .i64 v_i9), (7, .bool (y1 == 0))]) (by kernel_rfl) (by kernel_rfl) (fun _ _ => trivial) ?_
    obtain rfl := Option.some.inj heq
    refine RgH.keep [6, 7] (L' := [(6, .int .i64 v_i9), (7, .bool (y1 == 0))]) (by kernel_rfl) ?_
    refine RgH.done (by kernel_rfl) ?_
    exact K1
  · replace heq := bif_false hb1 heq
    refine RgH.val1 (v' := .bool false) (congrArg Value.bool hb1) ?_
    refine RgH.runk 16 [6, 7] (vs := []) (evs := []) (L' := [(6, .int .i64 v_i9), (7, .bool false)]) (by kernel_rfl) (by kernel_rfl) (fun _ _ => trivial) ?_
    obtain rfl := Option.some.inj heq
    refine RgH.keep [6, 7] (L' := [(6, .int .i64 v_i9), (7, .bool false)]) (by kernel_rfl) ?_
    refine RgH.done (by kernel_rfl) ?_
    exact K1
theorem slices_BinarySearchFunc_Entry_string.l2_c {w0 : World} {H : Hp} {F : List Ch} {r : Int × Bool} (e1 : (List Entry) → ByteArray → Int → Option (Int × Bool))
    (he1 : ∀ (a0 : List Entry) (Aa0 : Option Addr) (ca0 : Nat) (a1 : ByteArray) (v_i9 : Int) , Rw kEntry H F Aa0 a0 → a0.length ≤ ca0 → e1 a0 a1 v_i9 = some r → RunH C112 (S112 F H r) H w0 [.c [1, 1, 1, 1, 0], .c [1, 1, 1, 1, 1]] [(0, .slice Aa0 a0.length ca0), (1, .string a1), (2, .func (.func 113) #[] #[]), (8, .int .i64 (a0.length : Int)), (9, .int .i64 v_i9)] H (F)) : ∀ (k : Nat), ∀ (a0 : List Entry) (Aa0 : Option Addr) (ca0 : Nat) (a1 : ByteArray) (v_i9 : Int) (v_j10 : Int) , Rw kEntry H F Aa0 a0 → a0.length ≤ ca0 → slices_BinarySearchFunc_Entry_string.l2 e1 k a0 a1 v_i9 v_j10 = some r → RunH C112 (S112 F H r) H w0 [.c [1, 1, 1, 0, 0, 0], .l [1, 1, 1, 0, 0, 0], .b 0, .c [1, 1, 1, 1]] [(0, .slice Aa0 a0.length ca0), (1, .string a1), (2, .func (.func 113) #[] #[]), (8, .int .i64 (a0.length : Int)), (9, .int .i64 v_i9), (10, .int .i64 v_j10)] H (F) := by
  intro k
  induction k with
  | zero => intro a0 Aa0 ca0 a1 v_i9 v_j10 hra0 hca0 heq; exact nomatch (show (none : Option (Int × Bool)) = some r from heq)
  | succ k ihk =>
    intro a0 Aa0 ca0 a1 v_i9 v_j10 hra0 hca0 heq
    rw [slices_BinarySearchFunc_Entry_string.l2] at heq
    refine RunH.adm 2 (es' := [.c [1, 1, 1, 0, 0, 0, 0, 0], .c [1, 1, 1, 0, 0, 0, 0, 1], .c [1, 1, 1, 0, 0, 0, 1], .l [1, 1, 1, 0, 0, 0], .b 0, .c [1, 1, 1, 1]]) (by kernel_rfl) ?_
    refine RunH.reg (by kernel_rfl) ?_
    refine RgH.runk 3 [0, 1, 2, 8, 9, 10, 17] (vs := []) (evs := []) (L' := [(0, .slice Aa0 a0.length ca0), (1, .string a1), (2, .func (.func 113) #[] #[]), (8, .int .i64 (a0.length : Int)), (9, .int .i64 v_i9), (10, .int .i64 v_j10), (17, .bool (decide (v_i9 < v_j10)))]) (by kernel_rfl) (by kernel_rfl) (fun _ _ => trivial) ?_
    refine RgH.done (by kernel_rfl) ?_
    rcases bool_cases (decide (v_i9 < v_j10)) with hb2 | hb2
    · replace heq := bif_true hb2 heq
      refine RunH.condT (c := decide (v_i9 < v_j10)) (by kernel_rfl) hb2 ?_
      refine RunH.adm 3 (es' := [.c [1, 1, 1, 0, 0, 0, 1, 0, 0], .c [1, 1, 1, 0, 0, 0, 1, 0, 1], .b 1, .l [1, 1, 1, 0, 0, 0], .b 0, .c [1, 1, 1, 1]]) (by kernel_rfl) ?_
      refine RunH.reg (by kernel_rfl) ?_
      refine RgH.runk 7 [0, 1, 2, 8, 9, 10, 11] (vs := []) (evs := [.need ((0 : Int) ≤ 1)]) (L' := [(0, .slice Aa0 a0.length ca0), (1, .string a1), (2, .func (.func 113) #[] #[]), (8, .int .i64 (a0.length : Int)), (9, .int .i64 v_i9), (10, .int .i64 v_j10), (11, .int .i64 (w64 (iShr .u64 (IntKind.wrap .u64 (w64 (v_i9 + v_j10))) 1)))]) (by kernel_rfl) (by kernel_rfl) (fun w hh => (show (0 : Int) ≤ 1 by decide)) ?_
      refine RgH.done (by kernel_rfl) ?_
      refine RunH.adm 1 (es' := [.c [1, 1, 1, 0, 0, 0, 1, 0, 1, 0], .c [1, 1, 1, 0, 0, 0, 1, 0, 1, 1], .b 1, .l [1, 1, 1, 0, 0, 0], .b 0, .c [1, 1, 1, 1]]) (by kernel_rfl) ?_
      refine RunH.reg (by kernel_rfl) ?_
      obtain ⟨x2, hx2, heq⟩ := bind_some heq
      obtain ⟨ha2, cs2, hK2, hcc2⟩ := hra0.get hx2
      obtain ⟨A2, c2, rfl, hc2, hr2⟩ := kEntry_open hK2
      refine RgH.runk 6 [0, 1, 2, 8, 9, 10, 11, 24, 28, 29] (vs := [.string x2.Key, .slice A2 x2.Refs.length c2, .int .i64 x2.Used]) (evs := [.need (Aa0 = some (adr Aa0) ∧ (0 : Int) ≤ (w64 (iShr .u64 (IntKind.wrap .u64 (w64 (v_i9 + v_j10))) 1)) ∧ (w64 (iShr .u64 (IntKind.wrap .u64 (w64 (v_i9 + v_j10))) 1)) < ((a0.length : Nat) : Int)), .load (((adr Aa0).add ((w64 (iShr .u64 (IntKind.wrap .u64 (w64 (v_i9 + v_j10))) 1)).toNat * 3)).add 0) (.string x2.Key), .load (((adr Aa0).add ((w64 (iShr .u64 (IntKind.wrap .u64 (w64 (v_i9 + v_j10))) 1)).toNat * 3)).add 1) (.slice A2 x2.Refs.length c2), .load (((adr Aa0).add ((w64 (iShr .u64 (IntKind.wrap .u64 (w64 (v_i9 + v_j10))) 1)).toNat * 3)).add 2) (.int .i64 x2.Used)]) (L' := [(0, .slice Aa0 a0.length ca0), (1, .string a1), (2, .func (.func 113) #[] #[]), (8, .int .i64 (a0.length : Int)), (9, .int .i64 v_i9), (10, .int .i64 v_j10), (11, .int .i64 (w64 (iShr .u64 (IntKind.wrap .u64 (w64 (v_i9 + v_j10))) 1))), (24, .func (.func 113) #[] #[]), (28, .agg #[.string x2.Key, .slice A2 x2.Refs.length c2, .int .i64 x2.Used]), (29, .string a1)]) (by kernel_rfl) (by kernel_rfl) (fun w hh => ⟨⟨ha2, (at?_some hx2).1, (at?_some hx2).2.1⟩, (hcc2 _ _ (hh.drop 0) 0 _ rfl), (hcc2 _ _ (hh.drop 0) 1 _ rfl), (hcc2 _ _ (hh.drop 0) 2 _ rfl)⟩) ?_
      obtain ⟨y2, hy2, heq⟩ := bind_some heq
      refine RgH.does (DoesH.call (d := 30) (g := 113) (args := #[.agg #[.string x2.Key, .slice A2 x2.Refs.length c2, .int .i64 x2.Used], .string a1]) (by kernel_rfl) (cache_entryAt_1_c (a0 := x2) (a1 := a1) (Rw.of hr2) hc2 rfl hy2)) ?_
      rintro _ _ _ _ ⟨_, rfl, rfl, rfl, rfl⟩
      refine RgH.runk 8 [0, 1, 2, 8, 9, 10, 11, 31] (vs := []) (evs := []) (L' := [(0, .slice Aa0 a0.length ca0), (1, .string a1), (2, .func (.func 113) #[] #[]), (8, .int .i64 (a0.length : Int)), (9, .int .i64 v_i9), (10, .int .i64 v_j10), (11, .int .i64 (w64 (iShr .u64 (IntKind.wrap .u64 (w64 (v_i9 + v_j10))) 1))), (31, .bool (decide (y2 < 0)))]) (by kernel_rfl) (by kernel_rfl) (fun _ _ => trivial) ?_
      refine RgH.done (by kernel_rfl) ?_
      rcases bool_cases (decide (y2 < 0)) with hb3 | hb3
      · replace heq := bif_true hb3 heq
        refine RunH.condT (c := decide (y2 < 0)) (by kernel_rfl) hb3 ?_
        refine RunH.reg (by kernel_rfl) ?_
        refine RgH.runk 3 [0, 1, 2, 8, 9, 10] (vs := []) (evs := []) (L' := [(0, .slice Aa0 a0.length ca0), (1, .string a1), (2, .func (.func 113) #[] #[]), (8, .int .i64 (a0.length : Int)), (9, .int .i64 (w64 ((w64 (iShr .u64 (IntKind.wrap .u64 (w64 (v_i9 + v_j10))) 1)) + 1))), (10, .int .i64 v_j10)]) (by kernel_rfl) (by kernel_rfl) (fun _ _ => trivial) ?_
        refine RgH.done (by kernel_rfl) ?_
        refine RunH.adm 2 (es' := [.c [1, 1, 1, 0, 0, 0], .l [1, 1, 1, 0, 0, 0], .b 0, .c [1, 1, 1, 1]]) (by kernel_rfl) ?_
        refine RunH.keep [0, 1, 2, 8, 9, 10] (L' := [(0, .slice Aa0 a0.length ca0), (1, .string a1), (2, .func (.func 113) #[] #[]), (8, .int .i64 (a0.length : Int)), (9, .int .i64 (w64 ((w64 (iShr .u64 (IntKind.wrap .u64 (w64 (v_i9 + v_j10))) 1)) + 1))), (10, .int .i64 v_j10)]) (by kernel_rfl) ?_
        exact ihk a0 _ _ a1 (w64 ((w64 (iShr .u64 (IntKind.wrap .u64 (w64 (v_i9 + v_j10))) 1)) + 1)) v_j10 hra0 hca0 heq
      · replace heq := bif_false hb3 heq
        refine RunH.condF (c := decide (y2 < 0)) (by kernel_rfl) hb3 ?_
        refine RunH.reg (by kernel_rfl) ?_
        refine RgH.runk 2 [0, 1, 2, 8, 9, 10] (vs := []) (evs := []) (L' := [(0, .slice Aa0 a0.length ca0), (1, .string a1), (2, .func (.func 113) #[] #[]), (8, .int .i64 (a0.length : Int)), (9, .int .i64 v_i9), (10, .int .i64 (w64 (iShr .u64 (IntKind.wrap .u64 (w64 (v_i9 + v_j10))) 1)))]) (by kernel_rfl) (by kernel_rfl) (fun _ _ => trivial) ?_
        refine RgH.done (by kernel_rfl) ?_
        refine RunH.adm 2 (es' := [.c [1, 1, 1, 0, 0, 0], .l [1, 1, 1, 0, 0, 0], .b 0, .c [1, 1, 1, 1]]) (by kernel_rfl) ?_
        refine RunH.keep [0, 1, 2, 8, 9, 10] (L' := [(0, .slice Aa0 a0.length ca0), (1, .string a1), (2, .func (.func 113) #[] #[]), (8, .int .i64 (a0.length : Int)), (9, .int .i64 v_i9), (10, .int .i64 (w64 (iShr .u64 (IntKind.wrap .u64 (w64 (v_i9 + v_j10))) 1)))]) (by kernel_rfl) ?_
        exact ihk a0 _ _ a1 v_i9 (w64 (iShr .u64 (IntKind.wrap .u64 (w64 (v_i9 + v_j10))) 1)) hra0 hca0 heq
    · replace heq := bif_false hb2 heq
      refine RunH.condF (c := decide (v_i9 < v_j10)) (by kernel_rfl) hb2 ?_
      refine RunH.adm 2 (es' := [.c [1, 1, 1, 1, 0], .c [1, 1, 1, 1, 1]]) (by kernel_rfl) ?_
      refine RunH.keep [0, 1, 2, 8, 9] (L' := [(0, .slice Aa0 a0.length ca0), (1, .string a1), (2, .func (.func 113) #[] #[]), (8, .int .i64 (a0.length : Int)), (9, .int .i64 v_i9)]) (by kernel_rfl) ?_
      exact he1 a0 _ _ a1 v_i9 hra0 hca0 heq
theorem slices_BinarySearchFunc_Entry_string_c {w0 : World} {H : Hp} {F : List Ch} {a0 : List Entry} {Aa0 : Option Addr} {na0 : Nat} {ca0 : Nat} {a1 : ByteArray} {r : Int × Bool} (hra0 : Rw kEntry H F Aa0 a0) (hca0 : na0 ≤ ca0) (hna0 : na0 = a0.length) (heq : slices_BinarySearchFunc_Entry_string.f a0 a1 = some r) : CallsH Tryd.prog 112 #[.slice Aa0 na0 ca0, .string a1, .func (.func 113) #[] #[]] H w0 (F) (S112 F H r) := by
  refine calls_of_runH (F := C112) Tryd.func112 (by kernel_rfl) Tryd.ntmps112 (args := [.slice Aa0 na0 ca0, .string a1, .func (.func 113) #[] #[]]) (by kernel_rfl) ?_
  subst hna0
  unfold slices_BinarySearchFunc_Entry_string.f at heq
  refine RunH.adm 1 (es' := [.c [0], .c [1]]) (by kernel_rfl) ?_
  refine RunH.reg (by kernel_rfl) ?_
  refine RgH.runk 2 [0, 1, 2] (vs := []) (evs := []) (L' := [(0, .slice Aa0 a0.length ca0), (1, .string a1), (2, .func (.func 113) #[] #[])]) (by kernel_rfl) (by kernel_rfl) (fun _ _ => trivial) ?_
  refine RgH.done (by kernel_rfl) ?_
  refine RunH.adm 1 (es' := [.c [1, 0], .c [1, 1]]) (by kernel_rfl) ?_
  refine RunH.reg (by kernel_rfl) ?_
  refine RgH.runk 3 [0, 1, 2, 8] (vs := []) (evs := []) (L' := [(0, .slice Aa0 a0.length ca0), (1, .string a1), (2, .func (.func 113) #[] #[]), (8, .int .i64 (a0.length : Int))]) (by kernel_rfl) (by kernel_rfl) (fun _ _ => trivial) ?_
  refine RgH.done (by kernel_rfl) ?_
  refine RunH.adm 1 (es' := [.c [1, 1, 0], .c [1, 1, 1]]) (by kernel_rfl) ?_
  refine RunH.reg (by kernel_rfl) ?_
  refine RgH.runk 3 [0, 1, 2, 8, 9, 10] (vs := []) (evs := []) (L' := [(0, .slice Aa0 a0.length ca0), (1, .string a1), (2, .func (.func 113) #[] #[]), (8, .int .i64 (a0.length : Int)), (9, .int .i64 0), (10, .int .i64 (a0.length : Int))]) (by kernel_rfl) (by kernel_rfl) (fun _ _ => trivial) ?_
  refine RgH.done (by kernel_rfl) ?_
  refine RunH.adm 3 (es' := [.c [1, 1, 1, 0, 0, 0], .l [1, 1, 1, 0, 0, 0], .b 0, .c [1, 1, 1, 1]]) (by kernel_rfl) ?_
  refine RunH.keep [0, 1, 2, 8, 9, 10] (L' := [(0, .slice Aa0 a0.length ca0), (1, .string a1), (2, .func (.func 113) #[] #[]), (8, .int .i64 (a0.length : Int)), (9, .int .i64 0), (10, .int .i64 (a0.length : Int))]) (by kernel_rfl) ?_
  exact ((slices_BinarySearchFunc_Entry_string.l2_c (e1 := slices_BinarySearchFunc_Entry_string.e1) (slices_BinarySearchFunc_Entry_string.e1_c)) big) a0 _ _ a1 0 (a0.length : Int) hra0 hca0 heq
noncomputable def C78 : Ctx := { P := Tryd.prog, f := 78, N := 12, c := bodyOf Tryd.f78 }
def S78 (F : List Ch) (H0 : Hp) (r : Int × Bool) (v : Value) (H : Hp) (cs : List Ch) : Prop := H0 = H ∧ v = .tuple #[.int .i64 r.1, .bool r.2] ∧ F = cs
theorem cache_entryAt_c {w0 : World} {H : Hp} {F : List Ch} {a0 : Cache} {Aa0_2 : Option Addr} {na0_2 : Nat} {ca0_2 : Nat} {Aa0_3 : Option Addr} {na0_3 : Nat} {ca0_3 : Nat} {a1 : ByteArray} {r : Int × Bool} (hra0_2 : Rw kBlob H F Aa0_2 a0.Blobs) (hca0_2 : na0_2 ≤ ca0_2) (hna0_2 : na0_2 = a0.Blobs.length) (hra0_3 : Rw kEntry H F Aa0_3 a0.Entries) (hca0_3 : na0_3 ≤ ca0_3) (hna0_3 : na0_3 = a0.Entries.length) (heq : cache_entryAt.f a0 a1 = some r) : CallsH Tryd.prog 78 #[.agg #[.int .i64 a0.Room, .int .i64 a0.Lease, .slice Aa0_2 na0_2 ca0_2, .slice Aa0_3 na0_3 ca0_3], .string a1] H w0 (F) (S78 F H r) := by
  refine calls_of_runH (F := C78) Tryd.func78 (by kernel_rfl) Tryd.ntmps78 (args := [.agg #[.int .i64 a0.Room, .int .i64 a0.Lease, .slice Aa0_2 na0_2 ca0_2, .slice Aa0_3 na0_3 ca0_3], .string a1]) (by kernel_rfl) ?_
  subst hna0_2
  subst hna0_3
  unfold cache_entryAt.f at heq
  refine RunH.adm 1 (es' := [.c [0], .c [1]]) (by kernel_rfl) ?_
  refine RunH.reg (by kernel_rfl) ?_
  refine RgH.does (DoesH.new (d := 2) (v := fun g => .pointer (some ⟨g, 0, none⟩)) (o := fun g => .cells #[.int .i64 a0.Room, .int .i64 a0.Lease, .slice Aa0_2 a0.Blobs.length ca0_2, .slice Aa0_3 a0.Entries.length ca0_3] 25 (0, 0)) (fun g => by kernel_rfl)) ?_
  rintro _ _ _ _ ⟨g1, rfl, rfl, rfl⟩
  refine RgH.runk 3 [1, 2] (vs := []) (evs := []) (L' := [(1, .string a1), (2, .pointer (some ⟨g1, 0, none⟩))]) (by kernel_rfl) (by kernel_rfl) (fun _ _ => trivial) ?_
  refine RgH.done (by kernel_rfl) ?_
  refine RunH.adm 1 (es' := [.c [1, 0], .c [1, 1]]) (by kernel_rfl) ?_
  refine RunH.reg (by kernel_rfl) ?_
  refine RgH.runk 3 [7, 8] (vs := [.slice Aa0_3 a0.Entries.length ca0_3]) (evs := [.load ⟨g1, 3, none⟩ (.slice Aa0_3 a0.Entries.length ca0_3)]) (L' := [(7, .slice Aa0_3 a0.Entries.length ca0_3), (8, .string a1)]) (by kernel_rfl) (by kernel_rfl) (fun w hh => (hh.box 0 rfl rfl)) ?_
  obtain ⟨y1, hy1, heq⟩ := bind_some heq
  refine RgH.does (DoesH.call (d := 9) (g := 112) (args := #[.slice Aa0_3 a0.Entries.length ca0_3, .string a1, .func (.func 113) #[] #[]]) (by kernel_rfl) (slices_BinarySearchFunc_Entry_string_c (a0 := a0.Entries) (a1 := a1) (hra0_3.wk (fun _ h => (.tail _ h))) hca0_3 rfl hy1)) ?_
  rintro _ _ _ _ ⟨_, rfl, rfl, rfl, rfl⟩
  refine RgH.runk 8 [4, 5] (vs := []) (evs := []) (L' := [(4, .int .i64 y1.1), (5, .bool y1.2)]) (by kernel_rfl) (by kernel_rfl) (fun _ _ => trivial) ?_
  refine RgH.done (by kernel_rfl) ?_
  obtain rfl := Option.some.inj heq
  refine RunH.pick 1 [] (cs' := F) (by kernel_rfl) rfl ?_
  exact RunH.done (by kernel_rfl) Tryd.func78 (v := .tuple #[.int .i64 y1.1, .bool y1.2]) (by kernel_rfl) ⟨rfl, rfl, rfl⟩
noncomputable def C31 : Ctx := { P := Tryd.prog, f := 31, N := 36, c := bodyOf Tryd.f31 }
def S31 (F : List Ch) (H0 : Hp) (r : Bool × Int) (v : Value) (H : Hp) (cs : List Ch) : Prop := H0 = H ∧ v = .tuple #[.bool r.1, .int .i64 r.2] ∧ F = cs
theorem cache_Whole_c {w0 : World} {H : Hp} {F : List Ch} {a0 : Cache} {Aa0_2 : Option Addr} {na0_2 : Nat} {ca0_2 : Nat} {Aa0_3 : Option Addr} {na0_3 : Nat} {ca0_3 : Nat} {a1 : ByteArray} {r : Bool × Int} (hra0_2 : Rw kBlob H F Aa0_2 a0.Blobs) (hca0_2 : na0_2 ≤ ca0_2) (hna0_2 : na0_2 = a0.Blobs.length) (hra0_3 : Rw kEntry H F Aa0_3 a0.Entries) (hca0_3 : na0_3 ≤ ca0_3) (hna0_3 : na0_3 = a0.Entries.length) (heq : cache_Whole.f a0 a1 = some r) : CallsH Tryd.prog 31 #[.agg #[.int .i64 a0.Room, .int .i64 a0.Lease, .slice Aa0_2 na0_2 ca0_2, .slice Aa0_3 na0_3 ca0_3], .string a1] H w0 (F) (S31 F H r) := by
  refine calls_of_runH (F := C31) Tryd.func31 (by kernel_rfl) Tryd.ntmps31 (args := [.agg #[.int .i64 a0.Room, .int .i64 a0.Lease, .slice Aa0_2 na0_2 ca0_2, .slice Aa0_3 na0_3 ca0_3], .string a1]) (by kernel_rfl) ?_
  subst hna0_2
  subst hna0_3
  unfold cache_Whole.f at heq
  refine RunH.adm 1 (es' := [.c [0], .c [1]]) (by kernel_rfl) ?_
  refine RunH.reg (by kernel_rfl) ?_
  refine RgH.does (DoesH.new (d := 2) (v := fun g => .pointer (some ⟨g, 0, none⟩)) (o := fun g => .cells #[.int .i64 a0.Room, .int .i64 a0.Lease, .slice Aa0_2 a0.Blobs.length ca0_2, .slice Aa0_3 a0.Entries.length ca0_3] 25 (0, 0)) (fun g => by kernel_rfl)) ?_
  rintro _ _ _ _ ⟨g1, rfl, rfl, rfl⟩
  refine RgH.runk 3 [1, 2] (vs := []) (evs := []) (L' := [(1, .string a1), (2, .pointer (some ⟨g1, 0, none⟩))]) (by kernel_rfl) (by kernel_rfl) (fun _ _ => trivial) ?_
  refine RgH.done (by kernel_rfl) ?_
  refine RunH.adm 2 (es' := [.c [1, 0, 0], .c [1, 0, 1], .c [1, 1]]) (by kernel_rfl) ?_
  refine RunH.reg (by kernel_rfl) ?_
  refine RgH.runk 1 [1, 2, 9] (vs := [.int .i64 a0.Room, .int .i64 a0.Lease, .slice Aa0_2 a0.Blobs.length ca0_2, .slice Aa0_3 a0.Entries.length ca0_3]) (evs := [.load ⟨g1, 0, none⟩ (.int .i64 a0.Room), .load ⟨g1, 1, none⟩ (.int .i64 a0.Lease), .load ⟨g1, 2, none⟩ (.slice Aa0_2 a0.Blobs.length ca0_2), .load ⟨g1, 3, none⟩ (.slice Aa0_3 a0.Entries.length ca0_3)]) (L' := [(1, .string a1), (2, .pointer (some ⟨g1, 0, none⟩)), (9, .agg #[.int .i64 a0.Room, .int .i64 a0.Lease, .slice Aa0_2 a0.Blobs.length ca0_2, .slice Aa0_3 a0.Entries.length ca0_3])]) (by kernel_rfl) (by kernel_rfl) (fun w hh => ⟨(hh.box 0 rfl rfl), (hh.box 0 rfl rfl), (hh.box 0 rfl rfl), (hh.box 0 rfl rfl)⟩) ?_
  obtain ⟨y1, hy1, heq⟩ := bind_some heq
  refine RgH.does (DoesH.call (d := 10) (g := 22) (args := #[.agg #[.int .i64 a0.Room, .int .i64 a0.Lease, .slice Aa0_2 a0.Blobs.length ca0_2, .slice Aa0_3 a0.Entries.length ca0_3]]) (by kernel_rfl) (cache_CheckCache_c (a0 := a0) (hra0_2.wk (fun _ h => (.tail _ h))) hca0_2 rfl (hra0_3.wk (fun _ h => (.tail _ h))) hca0_3 rfl hy1)) ?_
  rintro _ _ _ _ ⟨_, rfl, rfl, rfl, rfl⟩
  refine RgH.runk 3 [1, 2, 6] (vs := []) (evs := []) (L' := [(1, .string a1), (2, .pointer (some ⟨g1, 0, none⟩)), (6, .int .i64 y1)]) (by kernel_rfl) (by kernel_rfl) (fun _ _ => trivial) ?_
  refine RgH.done (by kernel_rfl) ?_
  refine RunH.adm 1 (es' := [.c [1, 0, 1, 0], .c [1, 0, 1, 1], .c [1, 1]]) (by kernel_rfl) ?_
  refine RunH.reg (by kernel_rfl) ?_
  refine RgH.runk 2 [1, 2, 6, 12] (vs := []) (evs := []) (L' := [(1, .string a1), (2, .pointer (some ⟨g1, 0, none⟩)), (6, .int .i64 y1), (12, .bool (y1 != 0))]) (by kernel_rfl) (by kernel_rfl) (fun _ _ => trivial) ?_
  refine RgH.done (by kernel_rfl) ?_
  rcases bool_cases (y1 != 0) with hb1 | hb1
  · replace heq := bif_true hb1 heq
    refine RunH.condT (c := y1 != 0) (by kernel_rfl) hb1 ?_
    refine RunH.adm 1 (es' := [.c [1, 0, 1, 1, 0, 0], .c [1, 0, 1, 1, 0, 1], .c [1, 1]]) (by kernel_rfl) ?_
    refine RunH.reg (by kernel_rfl) ?_
    refine RgH.runk 3 [4, 5] (vs := []) (evs := []) (L' := [(4, .bool false), (5, .int .i64 y1)]) (by kernel_rfl) (by kernel_rfl) (fun _ _ => trivial) ?_
    refine RgH.done (by kernel_rfl) ?_
    obtain rfl := Option.some.inj heq
    refine RunH.pick 1 [] (cs' := F) (by kernel_rfl) rfl ?_
    exact RunH.done (by kernel_rfl) Tryd.func31 (v := .tuple #[.bool false, .int .i64 y1]) (by kernel_rfl) ⟨rfl, rfl, rfl⟩
  · replace heq := bif_false hb1 heq
    refine RunH.condF (c := y1 != 0) (by kernel_rfl) hb1 ?_
    refine RunH.adm 3 (es' := [.c [1, 1, 0, 0], .c [1, 1, 0, 1], .c [1, 1, 1]]) (by kernel_rfl) ?_
    refine RunH.reg (by kernel_rfl) ?_
    refine RgH.runk 1 [1, 2, 14] (vs := []) (evs := []) (L' := [(1, .string a1), (2, .pointer (some ⟨g1, 0, none⟩)), (14, .string a1)]) (by kernel_rfl) (by kernel_rfl) (fun _ _ => trivial) ?_
    obtain ⟨y2, hy2, heq⟩ := bind_some heq
    refine RgH.does (DoesH.call (d := 15) (g := 59) (args := #[.string a1]) (by kernel_rfl) (blob_IsDigest_c (a0 := a1)  hy2)) ?_
    rintro _ _ _ _ ⟨_, rfl, rfl, rfl, rfl⟩
    refine RgH.runk 3 [1, 2, 16] (vs := []) (evs := []) (L' := [(1, .string a1), (2, .pointer (some ⟨g1, 0, none⟩)), (16, .bool (!y2))]) (by kernel_rfl) (by kernel_rfl) (fun _ _ => trivial) ?_
    refine RgH.done (by kernel_rfl) ?_
    rcases bool_cases (!y2) with hb2 | hb2
    · replace heq := bif_true hb2 heq
      refine RunH.condT (c := !y2) (by kernel_rfl) hb2 ?_
      refine RunH.adm 1 (es' := [.c [1, 1, 0, 1, 0, 0], .c [1, 1, 0, 1, 0, 1], .c [1, 1, 1]]) (by kernel_rfl) ?_
      refine RunH.reg (by kernel_rfl) ?_
      refine RgH.runk 2 [4, 5] (vs := []) (evs := []) (L' := [(4, .bool false), (5, .int .i64 3)]) (by kernel_rfl) (by kernel_rfl) (fun _ _ => trivial) ?_
      refine RgH.done (by kernel_rfl) ?_
      obtain rfl := Option.some.inj heq
      refine RunH.pick 1 [] (cs' := F) (by kernel_rfl) rfl ?_
      exact RunH.done (by kernel_rfl) Tryd.func31 (v := .tuple #[.bool false, .int .i64 3]) (by kernel_rfl) ⟨rfl, rfl, rfl⟩
    · replace heq := bif_false hb2 heq
      refine RunH.condF (c := !y2) (by kernel_rfl) hb2 ?_
      refine RunH.adm 2 (es' := [.c [1, 1, 1, 0], .c [1, 1, 1, 1]]) (by kernel_rfl) ?_
      refine RunH.reg (by kernel_rfl) ?_
      refine RgH.runk 2 [2, 18, 19] (vs := [.int .i64 a0.Room, .int .i64 a0.Lease, .slice Aa0_2 a0.Blobs.length ca0_2, .slice Aa0_3 a0.Entries.length ca0_3]) (evs := [.load ⟨g1, 0, none⟩ (.int .i64 a0.Room), .load ⟨g1, 1, none⟩ (.int .i64 a0.Lease), .load ⟨g1, 2, none⟩ (.slice Aa0_2 a0.Blobs.length ca0_2), .load ⟨g1, 3, none⟩ (.slice Aa0_3 a0.Entries.length ca0_3)]) (L' := [(2, .pointer (some ⟨g1, 0, none⟩)), (18, .agg #[.int .i64 a0.Room, .int .i64 a0.Lease, .slice Aa0_2 a0.Blobs.length ca0_2, .slice Aa0_3 a0.Entries.length ca0_3]), (19, .string a1)]) (by kernel_rfl) (by kernel_rfl) (fun w hh => ⟨(hh.box 0 rfl rfl), (hh.box 0 rfl rfl), (hh.box 0 rfl rfl), (hh.box 0 rfl rfl)⟩) ?_
      obtain ⟨y3, hy3, heq⟩ := bind_some heq
      refine RgH.does (DoesH.call (d := 20) (g := 78) (args := #[.agg #[.int .i64 a0.Room, .int .i64 a0.Lease, .slice Aa0_2 a0.Blobs.length ca0_2, .slice Aa0_3 a0.Entries.length ca0_3], .string a1]) (by kernel_rfl) (cache_entryAt_c (a0 := a0) (a1 := a1) (hra0_2.wk (fun _ h => (.tail _ h))) hca0_2 rfl (hra0_3.wk (fun _ h => (.tail _ h))) hca0_3 rfl hy3)) ?_
      rintro _ _ _ _ ⟨_, rfl, rfl, rfl, rfl⟩
      refine RgH.runk 8 [2, 7, 8] (vs := []) (evs := []) (L' := [(2, .pointer (some ⟨g1, 0, none⟩)), (7, .int .i64 y3.1), (8, .bool y3.2)]) (by kernel_rfl) (by kernel_rfl) (fun _ _ => trivial) ?_
      refine RgH.done (by kernel_rfl) ?_
      refine RunH.adm 1 (es' := [.c [1, 1, 1, 1, 0], .c [1, 1, 1, 1, 1]]) (by kernel_rfl) ?_
      obtain ⟨t1, ht1, heq⟩ := bind_some heq
      have K3 : RunH C31 (S31 F H r) H w0 [.c [1, 1, 1, 1, 1]] [(4, .bool t1), (5, .int .i64 0)] H (F) := by
        obtain rfl := Option.some.inj heq
        exact RunH.done (by kernel_rfl) Tryd.func31 (v := .tuple #[.bool t1, .int .i64 0]) (by kernel_rfl) ⟨rfl, rfl, rfl⟩
      replace heq := ht1
      refine RunH.keep [2, 7, 8] (L' := [(2, .pointer (some ⟨g1, 0, none⟩)), (7, .int .i64 y3.1), (8, .bool y3.2)]) (by kernel_rfl) ?_
      refine RunH.draw (fun w => Heap H w0 w ((some (g1, .cells #[.int .i64 a0.Room, .int .i64 a0.Lease, .slice Aa0_2 a0.Blobs.length ca0_2, .slice Aa0_3 a0.Entries.length ca0_3] 25 (0, 0))) :: F)) (fun w => Heap H w0 w ((some (g1, .cells #[.int .i64 a0.Room, .int .i64 a0.Lease, .slice Aa0_2 a0.Blobs.length ca0_2, .slice Aa0_3 a0.Entries.length ca0_3] 25 (0, 0))) :: F)) [3, 3, 3, 3, 3, 3, 3, 3, 3, 0, 3, 3, 3, 3, 3] (n := 15) (ls := [false, false, false, false, false, false, false, false, false, false, false, false, false, false, false]) (by kernel_rfl) (by kernel_rfl) (by kernel_rfl) rfl ?_
      refine DrH.run [0, 1] (m := 13) (ls' := [true, true, false, false, false, false, false, false, false, false, false, false, false, false, false]) (vs := []) (evs := []) (L' := [(24, .bool y3.2), (23, .bool y3.2), (2, .pointer (some ⟨g1, 0, none⟩)), (7, .int .i64 y3.1), (8, .bool y3.2)]) (by kernel_rfl) (fun w hh => hh.pick 1 [0] (by kernel_rfl)) (fun w hh => hh.pick 1 [0] (by kernel_rfl)) (by kernel_rfl) (fun _ _ => trivial) (by kernel_rfl) ?_
      refine DrH.keep [24, 2, 7] (L' := [(24, .bool y3.2), (2, .pointer (some ⟨g1, 0, none⟩)), (7, .int .i64 y3.1)]) (by kernel_rfl) ?_
      rcases bool_cases (y3.2) with hb3 | hb3
      · replace heq := bif_true hb3 heq
        refine DrH.val1 (v' := .bool true) (congrArg Value.bool hb3) ?_
        obtain ⟨x1, hx1, heq⟩ := bind_some heq
        obtain ⟨ha1, cs1, hK1, hcc1⟩ := hra0_3.get hx1
        obtain ⟨A1, c1, rfl, hc1, hr1⟩ := kEntry_open hK1
        refine DrH.run [2, 3, 4, 5, 6, 7, 8] (m := 6) (ls' := [true, true, true, true, true, true, true, true, true, false, false, false, false, false, false]) (vs := [.int .i64 a0.Room, .int .i64 a0.Lease, .slice Aa0_2 a0.Blobs.length ca0_2, .slice Aa0_3 a0.Entries.length ca0_3, .slice Aa0_3 a0.Entries.length ca0_3, .slice A1 x1.Refs.length c1]) (evs := [.load ⟨g1, 0, none⟩ (.int .i64 a0.Room), .load ⟨g1, 1, none⟩ (.int .i64 a0.Lease), .load ⟨g1, 2, none⟩ (.slice Aa0_2 a0.Blobs.length ca0_2), .load ⟨g1, 3, none⟩ (.slice Aa0_3 a0.Entries.length ca0_3), .load ⟨g1, 3, none⟩ (.slice Aa0_3 a0.Entries.length ca0_3), .need (Aa0_3 = some (adr Aa0_3) ∧ (0 : Int) ≤ y3.1 ∧ y3.1 < ((a0.Entries.length : Nat) : Int)), .load (((adr Aa0_3).add (y3.1.toNat * 3)).add 1) (.slice A1 x1.Refs.length c1)]) (L' := [(31, .slice A1 x1.Refs.length c1), (30, .pointer (some (((adr Aa0_3).add (y3.1.toNat * 3)).add 1))), (29, .pointer (some ((adr Aa0_3).add (y3.1.toNat * 3)))), (28, .int .i64 y3.1), (27, .slice Aa0_3 a0.Entries.length ca0_3), (26, .pointer (some ⟨g1, 3, none⟩)), (25, .agg #[.int .i64 a0.Room, .int .i64 a0.Lease, .slice Aa0_2 a0.Blobs.length ca0_2, .slice Aa0_3 a0.Entries.length ca0_3]), (24, .bool true), (2, .pointer (some ⟨g1, 0, none⟩)), (7, .int .i64 y3.1)]) (by kernel_rfl) (fun w hh => hh.pick 1 [0] (by kernel_rfl)) (fun w hh => hh.pick 1 [0] (by kernel_rfl)) (by kernel_rfl) (fun w hh => ⟨(hh.box 0 rfl rfl), (hh.box 0 rfl rfl), (hh.box 0 rfl rfl), (hh.box 0 rfl rfl), (hh.box 0 rfl rfl), ⟨ha1, (at?_some hx1).1, (at?_some hx1).2.1⟩, (hcc1 _ _ (hh.drop 1) 1 _ rfl)⟩) (by kernel_rfl) ?_
        refine DrH.keep [24, 25, 31] (L' := [(24, .bool true), (25, .agg #[.int .i64 a0.Room, .int .i64 a0.Lease, .slice Aa0_2 a0.Blobs.length ca0_2, .slice Aa0_3 a0.Entries.length ca0_3]), (31, .slice A1 x1.Refs.length c1)]) (by kernel_rfl) ?_
        obtain ⟨y4, hy4, heq⟩ := bind_some heq
        refine DrH.does (n := 5) (ls' := [true, true, true, true, true, true, true, true, true, true, false, false, false, false, false]) 9 (by kernel_rfl) rfl (DoesH.call (d := 32) (g := 67) (args := #[.agg #[.int .i64 a0.Room, .int .i64 a0.Lease, .slice Aa0_2 a0.Blobs.length ca0_2, .slice Aa0_3 a0.Entries.length ca0_3], .slice A1 x1.Refs.length c1]) (by kernel_rfl) (cache_missing_c (a0 := a0) (a1 := x1.Refs) (hra0_2.wk (fun _ h => (.tail _ h))) hca0_2 rfl (hra0_3.wk (fun _ h => (.tail _ h))) hca0_3 rfl (Rw.of hr1) hc1 rfl hy4)) ?_
        rintro _ _ _ _ ⟨_, rfl, A2, c2, ch1, rfl, rfl, rfl, ho1⟩
        refine ⟨fun _ w hh => ⟨fun _ => (fun w hh => hh.pick 2 [1] (by kernel_rfl)) w hh, fun _ => (fun w hh => hh.pick 2 [1] (by kernel_rfl)) w hh, (fun h => by cases h)⟩, ?_⟩
        refine DrH.run [10, 11, 12, 13, 14] (m := 0) (ls' := [true, true, true, true, true, true, true, true, true, true, true, true, true, true, true]) (vs := []) (evs := []) (L' := [(5, .int .i64 0), (4, .bool ((y4.length : Int) == 0)), (35, .bool ((y4.length : Int) == 0)), (34, .bool ((y4.length : Int) == 0)), (33, .int .i64 (y4.length : Int)), (32, .slice A2 y4.length c2), (24, .bool true), (25, .agg #[.int .i64 a0.Room, .int .i64 a0.Lease, .slice Aa0_2 a0.Blobs.length ca0_2, .slice Aa0_3 a0.Entries.length ca0_3]), (31, .slice A1 x1.Refs.length c1)]) (by kernel_rfl) (fun w hh => hh.pick 2 [1] (by kernel_rfl)) (fun w hh => hh.pick 1 [0] (by kernel_rfl)) (by kernel_rfl) (fun _ _ => trivial) (by kernel_rfl) ?_
        refine DrH.keep [4, 5] (L' := [(4, .bool ((y4.length : Int) == 0)), (5, .int .i64 0)]) (by kernel_rfl) ?_
        obtain rfl := Option.some.inj heq
        refine DrH.keep [4, 5] (L' := [(4, .bool ((y4.length : Int) == 0)), (5, .int .i64 0)]) (by kernel_rfl) ?_
        refine DrH.pick 2 [] (cs' := F) (by kernel_rfl) rfl ?_
        refine DrH.done (by kernel_rfl) ?_
        exact K3
      · replace heq := bif_false hb3 heq
        refine DrH.val1 (v' := .bool false) (congrArg Value.bool hb3) ?_
        refine DrH.run [2, 3, 4, 5, 6, 7, 8, 9, 10, 11, 12, 13, 14] (m := 0) (ls' := [true, true, true, true, true, true, true, true, true, true, true, true, true, true, true]) (vs := []) (evs := []) (L' := [(5, .int .i64 0), (4, .bool false), (35, .bool false), (34, undef), (33, undef), (32, undef), (31, undef), (30, undef), (29, undef), (28, undef), (27, undef), (26, undef), (25, undef), (24, .bool false), (2, .pointer (some ⟨g1, 0, none⟩)), (7, .int .i64 y3.1)]) (by kernel_rfl) (fun w hh => hh.pick 1 [0] (by kernel_rfl)) (fun w hh => hh.pick 1 [0] (by kernel_rfl)) (by kernel_rfl) (fun _ _ => trivial) (by kernel_rfl) ?_
        refine DrH.keep [4, 5] (L' := [(4, .bool false), (5, .int .i64 0)]) (by kernel_rfl) ?_
        obtain rfl := Option.some.inj heq
        refine DrH.keep [4, 5] (L' := [(4, .bool false), (5, .int .i64 0)]) (by kernel_rfl) ?_
        refine DrH.pick 1 [] (cs' := F) (by kernel_rfl) rfl ?_
        refine DrH.done (by kernel_rfl) ?_
        exact K3
noncomputable def C4 : Ctx := { P := Tryd.prog, f := 4, N := 108, c := bodyOf Tryd.f4 }
def S4 (F : List Ch) (H0 : Hp) (r : Bool) (v : Value) (H : Hp) (cs : List Ch) : Prop := v = .bool r ∧ F = cs
theorem smithyardlaw7_CacheSweptKeeps.e1_c {w0 : World} {H0 : Hp} {F : List Ch} {r : Bool} : ∀ (H : Hp) , smithyardlaw7_CacheSweptKeeps.e1 = some r → RunH C4 (S4 F H0 r) H0 w0 [.c [1, 1, 1, 1, 1, 1, 0], .c [1, 1, 1, 1, 1, 1, 1]] [] H (F) := by
  intro H  heq
  unfold smithyardlaw7_CacheSweptKeeps.e1 at heq
  refine RunH.reg (by kernel_rfl) ?_
  obtain ⟨y5, hy5, heq⟩ := bind_some heq
  refine RgH.does (DoesH.call (d := 107) (g := 29) (args := (List.toArray [])) (by kernel_rfl) (smithyardlaw7_awake_c  hy5)) ?_
  rintro _ _ _ _ ⟨_, rfl, rfl, rfl, rfl⟩
  refine RgH.runk 2 [6] (vs := []) (evs := []) (L' := [(6, .bool y5)]) (by kernel_rfl) (by kernel_rfl) (fun _ _ => trivial) ?_
  refine RgH.done (by kernel_rfl) ?_
  obtain rfl := Option.some.inj heq
  exact RunH.done (by kernel_rfl) Tryd.func4 (v := .bool y5) (by kernel_rfl) ⟨rfl, rfl⟩
theorem smithyardlaw7_CacheSweptKeeps.l2_c {w0 : World} {H0 : Hp} {F : List Ch} {r : Bool} (e1 : Option Bool)
    (he1 : ∀ (H : Hp) , e1 = some r → RunH C4 (S4 F H0 r) H0 w0 [.c [1, 1, 1, 1, 1, 1, 0], .c [1, 1, 1, 1, 1, 1, 1]] [] H (F)) : ∀ (k : Nat), ∀ (H : Hp) (a0 : Cache) (Aa0_2 : Option Addr) (ca0_2 : Nat) (Aa0_3 : Option Addr) (ca0_3 : Nat) (a1 : List ByteArray) (Aa1 : Option Addr) (ca1 : Nat) (g1 : Nat) (y1 : Cache × (List ByteArray) × Int) (A1 : Option Addr) (c1 : Nat) (ch1 : Ch) (A2 : Option Addr) (c2 : Nat) (ch2 : Ch) (g2 : Nat) (v_i12 : Int) , Rw kBlob H F Aa0_2 a0.Blobs → a0.Blobs.length ≤ ca0_2 → Rw kEntry H F Aa0_3 a0.Entries → a0.Entries.length ≤ ca0_3 → Rw Kd.string H F Aa1 a1 → a1.length ≤ ca1 → SlOwn kBlob 47 H A1 c1 y1.1.Blobs ch1 → SlOwn kEntry 51 H A2 c2 y1.1.Entries ch2 → smithyardlaw7_CacheSweptKeeps.l2 e1 k a0 a1 y1 v_i12 = some r → RunH C4 (S4 F H0 r) H0 w0 [.c [1, 1, 1, 1, 1, 0, 1, 0, 0], .l [1, 1, 1, 1, 1, 0, 1, 0, 0], .b 0, .c [1, 1, 1, 1, 1, 1]] [(1, .slice Aa1 a1.length ca1), (3, .pointer (some ⟨g1, 0, none⟩)), (7, .pointer (some ⟨g2, 0, none⟩)), (12, .int .i64 v_i12)] H ((some (g2, .cells #[.int .i64 y1.1.Room, .int .i64 y1.1.Lease, .slice A1 y1.1.Blobs.length c1, .slice A2 y1.1.Entries.length c2] 25 (0, 0))) :: ch1 :: ch2 :: (some (g1, .cells #[.int .i64 a0.Room, .int .i64 a0.Lease, .slice Aa0_2 a0.Blobs.length ca0_2, .slice Aa0_3 a0.Entries.length ca0_3] 25 (0, 0))) :: F) := by
  intro k
  induction k with
  | zero => intro H a0 Aa0_2 ca0_2 Aa0_3 ca0_3 a1 Aa1 ca1 g1 y1 A1 c1 ch1 A2 c2 ch2 g2 v_i12 hra0_2 hca0_2 hra0_3 hca0_3 hra1 hca1 ho1 ho2 heq; exact nomatch (show (none : Option Bool) = some r from heq)
  | succ k ihk =>
    intro H a0 Aa0_2 ca0_2 Aa0_3 ca0_3 a1 Aa1 ca1 g1 y1 A1 c1 ch1 A2 c2 ch2 g2 v_i12 hra0_2 hca0_2 hra0_3 hca0_3 hra1 hca1 ho1 ho2 heq
    rw [smithyardlaw7_CacheSweptKeeps.l2] at heq
    refine RunH.adm 2 (es' := [.c [1, 1, 1, 1, 1, 0, 1, 0, 0, 0, 0], .c [1, 1, 1, 1, 1, 0, 1, 0, 0, 0, 1], .c [1, 1, 1, 1, 1, 0, 1, 0, 0, 1], .l [1, 1, 1, 1, 1, 0, 1, 0, 0], .b 0, .c [1, 1, 1, 1, 1, 1]]) (by kernel_rfl) ?_
    refine RunH.reg (by kernel_rfl) ?_
    refine RgH.runk 4 [1, 3, 7, 12, 75] (vs := []) (evs := []) (L' := [(1, .slice Aa1 a1.length ca1), (3, .pointer (some ⟨g1, 0, none⟩)), (7, .pointer (some ⟨g2, 0, none⟩)), (12, .int .i64 v_i12), (75, .bool (decide (v_i12 < (a1.length : Int))))]) (by kernel_rfl) (by kernel_rfl) (fun _ _ => trivial) ?_
    refine RgH.done (by kernel_rfl) ?_
    rcases bool_cases (decide (v_i12 < (a1.length : Int))) with hb8 | hb8
    · replace heq := bif_true hb8 heq
      refine RunH.condT (c := decide (v_i12 < (a1.length : Int))) (by kernel_rfl) hb8 ?_
      refine RunH.adm 4 (es' := [.c [1, 1, 1, 1, 1, 0, 1, 0, 0, 1, 0, 0, 0], .c [1, 1, 1, 1, 1, 0, 1, 0, 0, 1, 0, 0, 1], .b 1, .c [1, 1, 1, 1, 1, 0, 1, 0, 0, 1, 1], .l [1, 1, 1, 1, 1, 0, 1, 0, 0], .b 0, .c [1, 1, 1, 1, 1, 1]]) (by kernel_rfl) ?_
      refine RunH.keep [1, 3, 7, 12] (L' := [(1, .slice Aa1 a1.length ca1), (3, .pointer (some ⟨g1, 0, none⟩)), (7, .pointer (some ⟨g2, 0, none⟩)), (12, .int .i64 v_i12)]) (by kernel_rfl) ?_
      refine RunH.draw (fun w => Heap H w0 w ((some (g2, .cells #[.int .i64 y1.1.Room, .int .i64 y1.1.Lease, .slice A1 y1.1.Blobs.length c1, .slice A2 y1.1.Entries.length c2] 25 (0, 0))) :: ch1 :: ch2 :: (some (g1, .cells #[.int .i64 a0.Room, .int .i64 a0.Lease, .slice Aa0_2 a0.Blobs.length ca0_2, .slice Aa0_3 a0.Entries.length ca0_3] 25 (0, 0))) :: F)) (fun w => Heap H w0 w ((some (g2, .cells #[.int .i64 y1.1.Room, .int .i64 y1.1.Lease, .slice A1 y1.1.Blobs.length c1, .slice A2 y1.1.Entries.length c2] 25 (0, 0))) :: ch1 :: ch2 :: (some (g1, .cells #[.int .i64 a0.Room, .int .i64 a0.Lease, .slice Aa0_2 a0.Blobs.length ca0_2, .slice Aa0_3 a0.Entries.length ca0_3] 25 (0, 0))) :: F)) [3, 3, 3, 3, 3, 0, 3, 3, 3, 3, 3] (n := 11) (ls := [false, false, false, false, false, false, false, false, false, false, false]) (by kernel_rfl) (by kernel_rfl) (by kernel_rfl) rfl ?_
      obtain ⟨x1, hx1, heq⟩ := bind_some heq
      obtain ⟨ha1, cs1, hK1, hcc1⟩ := hra1.get hx1
      obtain rfl : cs1 = [.string x1] := hK1
      refine DrH.run [0, 1, 2, 3, 4] (m := 6) (ls' := [true, true, true, true, true, false, false, false, false, false, false]) (vs := [.int .i64 a0.Room, .int .i64 a0.Lease, .slice Aa0_2 a0.Blobs.length ca0_2, .slice Aa0_3 a0.Entries.length ca0_3, .string x1]) (evs := [.load ⟨g1, 0, none⟩ (.int .i64 a0.Room), .load ⟨g1, 1, none⟩ (.int .i64 a0.Lease), .load ⟨g1, 2, none⟩ (.slice Aa0_2 a0.Blobs.length ca0_2), .load ⟨g1, 3, none⟩ (.slice Aa0_3 a0.Entries.length ca0_3), .need (Aa1 = some (adr Aa1) ∧ (0 : Int) ≤ v_i12 ∧ v_i12 < ((a1.length : Nat) : Int)), .load ((adr Aa1).add (v_i12.toNat * 1)) (.string x1)]) (L' := [(83, .string x1), (82, .pointer (some ((adr Aa1).add (v_i12.toNat * 1)))), (81, .int .i64 v_i12), (80, .slice Aa1 a1.length ca1), (79, .agg #[.int .i64 a0.Room, .int .i64 a0.Lease, .slice Aa0_2 a0.Blobs.length ca0_2, .slice Aa0_3 a0.Entries.length ca0_3]), (1, .slice Aa1 a1.length ca1), (3, .pointer (some ⟨g1, 0, none⟩)), (7, .pointer (some ⟨g2, 0, none⟩)), (12, .int .i64 v_i12)]) (by kernel_rfl) (fun w hh => hh.pick 4 [0, 1, 2, 3] (by kernel_rfl)) (fun w hh => hh.pick 4 [0, 1, 2, 3] (by kernel_rfl)) (by kernel_rfl) (fun w hh => ⟨(hh.box 3 rfl rfl), (hh.box 3 rfl rfl), (hh.box 3 rfl rfl), (hh.box 3 rfl rfl), ⟨ha1, (at?_some hx1).1, (at?_some hx1).2.1⟩, (hcc1 _ _ (hh.drop 4) 0 _ rfl)⟩) (by kernel_rfl) ?_
      refine DrH.keep [1, 3, 7, 12, 79, 83] (L' := [(1, .slice Aa1 a1.length ca1), (3, .pointer (some ⟨g1, 0, none⟩)), (7, .pointer (some ⟨g2, 0, none⟩)), (12, .int .i64 v_i12), (79, .agg #[.int .i64 a0.Room, .int .i64 a0.Lease, .slice Aa0_2 a0.Blobs.length ca0_2, .slice Aa0_3 a0.Entries.length ca0_3]), (83, .string x1)]) (by kernel_rfl) ?_
      obtain ⟨y6, hy6, heq⟩ := bind_some heq
      refine DrH.does (n := 5) (ls' := [true, true, true, true, true, true, false, false, false, false, false]) 5 (by kernel_rfl) rfl (DoesH.call (d := 84) (g := 31) (args := #[.agg #[.int .i64 a0.Room, .int .i64 a0.Lease, .slice Aa0_2 a0.Blobs.length ca0_2, .slice Aa0_3 a0.Entries.length ca0_3], .string x1]) (by kernel_rfl) (cache_Whole_c (a0 := a0) (a1 := x1) (hra0_2.wk (fun _ h => (.tail _ (.tail _ (.tail _ (.tail _ h)))))) hca0_2 rfl (hra0_3.wk (fun _ h => (.tail _ (.tail _ (.tail _ (.tail _ h)))))) hca0_3 rfl hy6)) ?_
      rintro _ _ _ _ ⟨_, rfl, rfl, rfl, rfl⟩
      refine ⟨fun _ w hh => ⟨fun _ => (fun w hh => hh.pick 4 [0, 1, 2, 3] (by kernel_rfl)) w hh, fun _ => (fun w hh => hh.pick 4 [0, 1, 2, 3] (by kernel_rfl)) w hh, (fun h => by cases h)⟩, ?_⟩
      refine DrH.run [6, 7, 8, 9, 10] (m := 0) (ls' := [true, true, true, true, true, true, true, true, true, true, true]) (vs := []) (evs := []) (L' := [(14, .int .i64 y6.2), (13, .bool y6.1), (86, .int .i64 y6.2), (85, .bool y6.1), (78, .tuple #[.bool y6.1, .int .i64 y6.2]), (84, .tuple #[.bool y6.1, .int .i64 y6.2]), (1, .slice Aa1 a1.length ca1), (3, .pointer (some ⟨g1, 0, none⟩)), (7, .pointer (some ⟨g2, 0, none⟩)), (12, .int .i64 v_i12), (79, .agg #[.int .i64 a0.Room, .int .i64 a0.Lease, .slice Aa0_2 a0.Blobs.length ca0_2, .slice Aa0_3 a0.Entries.length ca0_3]), (83, .string x1)]) (by kernel_rfl) (fun w hh => hh.pick 4 [0, 1, 2, 3] (by kernel_rfl)) (fun w hh => hh.pick 4 [0, 1, 2, 3] (by kernel_rfl)) (by kernel_rfl) (fun _ _ => trivial) (by kernel_rfl) ?_
      refine DrH.keep [1, 3, 7, 12, 13, 14] (L' := [(1, .slice Aa1 a1.length ca1), (3, .pointer (some ⟨g1, 0, none⟩)), (7, .pointer (some ⟨g2, 0, none⟩)), (12, .int .i64 v_i12), (13, .bool y6.1), (14, .int .i64 y6.2)]) (by kernel_rfl) ?_
      refine DrH.done (by kernel_rfl) ?_
      refine RunH.adm 1 (es' := [.c [1, 1, 1, 1, 1, 0, 1, 0, 0, 1, 0, 0, 1, 0], .c [1, 1, 1, 1, 1, 0, 1, 0, 0, 1, 0, 0, 1, 1], .b 1, .c [1, 1, 1, 1, 1, 0, 1, 0, 0, 1, 1], .l [1, 1, 1, 1, 1, 0, 1, 0, 0], .b 0, .c [1, 1, 1, 1, 1, 1]]) (by kernel_rfl) ?_
      refine RunH.keep [1, 3, 7, 12, 13, 14] (L' := [(1, .slice Aa1 a1.length ca1), (3, .pointer (some ⟨g1, 0, none⟩)), (7, .pointer (some ⟨g2, 0, none⟩)), (12, .int .i64 v_i12), (13, .bool y6.1), (14, .int .i64 y6.2)]) (by kernel_rfl) ?_
      refine RunH.draw (fun w => Heap H w0 w ((some (g2, .cells #[.int .i64 y1.1.Room, .int .i64 y1.1.Lease, .slice A1 y1.1.Blobs.length c1, .slice A2 y1.1.Entries.length c2] 25 (0, 0))) :: ch1 :: ch2 :: (some (g1, .cells #[.int .i64 a0.Room, .int .i64 a0.Lease, .slice Aa0_2 a0.Blobs.length ca0_2, .slice Aa0_3 a0.Entries.length ca0_3] 25 (0, 0))) :: F)) (fun w => Heap H w0 w ((some (g2, .cells #[.int .i64 y1.1.Room, .int .i64 y1.1.Lease, .slice A1 y1.1.Blobs.length c1, .slice A2 y1.1.Entries.length c2] 25 (0, 0))) :: ch1 :: ch2 :: (some (g1, .cells #[.int .i64 a0.Room, .int .i64 a0.Lease, .slice Aa0_2 a0.Blobs.length ca0_2, .slice Aa0_3 a0.Entries.length ca0_3] 25 (0, 0))) :: F)) [3, 3, 3, 3, 3, 0, 3, 3, 3, 3, 3] (n := 11) (ls := [false, false, false, false, false, false, false, false, false, false, false]) (by kernel_rfl) (by kernel_rfl) (by kernel_rfl) rfl ?_
      obtain ⟨x2, hx2, heq⟩ := bind_some heq
      obtain ⟨ha2, cs2, hK2, hcc2⟩ := hra1.get hx2
      obtain rfl : cs2 = [.string x2] := hK2
      refine DrH.run [0, 1, 2, 3, 4] (m := 6) (ls' := [true, true, true, true, true, false, false, false, false, false, false]) (vs := [.int .i64 y1.1.Room, .int .i64 y1.1.Lease, .slice A1 y1.1.Blobs.length c1, .slice A2 y1.1.Entries.length c2, .string x2]) (evs := [.load ⟨g2, 0, none⟩ (.int .i64 y1.1.Room), .load ⟨g2, 1, none⟩ (.int .i64 y1.1.Lease), .load ⟨g2, 2, none⟩ (.slice A1 y1.1.Blobs.length c1), .load ⟨g2, 3, none⟩ (.slice A2 y1.1.Entries.length c2), .need (Aa1 = some (adr Aa1) ∧ (0 : Int) ≤ v_i12 ∧ v_i12 < ((a1.length : Nat) : Int)), .load ((adr Aa1).add (v_i12.toNat * 1)) (.string x2)]) (L' := [(92, .string x2), (91, .pointer (some ((adr Aa1).add (v_i12.toNat * 1)))), (90, .int .i64 v_i12), (89, .slice Aa1 a1.length ca1), (88, .agg #[.int .i64 y1.1.Room, .int .i64 y1.1.Lease, .slice A1 y1.1.Blobs.length c1, .slice A2 y1.1.Entries.length c2]), (1, .slice Aa1 a1.length ca1), (3, .pointer (some ⟨g1, 0, none⟩)), (7, .pointer (some ⟨g2, 0, none⟩)), (12, .int .i64 v_i12), (13, .bool y6.1), (14, .int .i64 y6.2)]) (by kernel_rfl) (fun w hh => hh.pick 4 [0, 1, 2, 3] (by kernel_rfl)) (fun w hh => hh.pick 4 [0, 1, 2, 3] (by kernel_rfl)) (by kernel_rfl) (fun w hh => ⟨(hh.box 0 rfl rfl), (hh.box 0 rfl rfl), (hh.box 0 rfl rfl), (hh.box 0 rfl rfl), ⟨ha2, (at?_some hx2).1, (at?_some hx2).2.1⟩, (hcc2 _ _ (hh.drop 4) 0 _ rfl)⟩) (by kernel_rfl) ?_
      refine DrH.keep [1, 3, 7, 12, 13, 14, 88, 92] (L' := [(1, .slice Aa1 a1.length ca1), (3, .pointer (some ⟨g1, 0, none⟩)), (7, .pointer (some ⟨g2, 0, none⟩)), (12, .int .i64 v_i12), (13, .bool y6.1), (14, .int .i64 y6.2), (88, .agg #[.int .i64 y1.1.Room, .int .i64 y1.1.Lease, .slice A1 y1.1.Blobs.length c1, .slice A2 y1.1.Entries.length c2]), (92, .string x2)]) (by kernel_rfl) ?_
      obtain ⟨y7, hy7, heq⟩ := bind_some heq
      refine DrH.does (n := 5) (ls' := [true, true, true, true, true, true, false, false, false, false, false]) 5 (by kernel_rfl) rfl (DoesH.call (d := 93) (g := 31) (args := #[.agg #[.int .i64 y1.1.Room, .int .i64 y1.1.Lease, .slice A1 y1.1.Blobs.length c1, .slice A2 y1.1.Entries.length c2], .string x2]) (by kernel_rfl) (cache_Whole_c (a0 := (⟨y1.1.Room, y1.1.Lease, y1.1.Blobs, y1.1.Entries⟩ : Cache)) (a1 := x2) (ho1.rw (.tail _ (.head _))) ho1.cap rfl (ho2.rw (.tail _ (.tail _ (.head _)))) ho2.cap rfl hy7)) ?_
      rintro _ _ _ _ ⟨_, rfl, rfl, rfl, rfl⟩
      refine ⟨fun _ w hh => ⟨fun _ => (fun w hh => hh.pick 4 [0, 1, 2, 3] (by kernel_rfl)) w hh, fun _ => (fun w hh => hh.pick 4 [0, 1, 2, 3] (by kernel_rfl)) w hh, (fun h => by cases h)⟩, ?_⟩
      refine DrH.run [6, 7, 8, 9, 10] (m := 0) (ls' := [true, true, true, true, true, true, true, true, true, true, true]) (vs := []) (evs := []) (L' := [(16, .int .i64 y7.2), (15, .bool y7.1), (95, .int .i64 y7.2), (94, .bool y7.1), (87, .tuple #[.bool y7.1, .int .i64 y7.2]), (93, .tuple #[.bool y7.1, .int .i64 y7.2]), (1, .slice Aa1 a1.length ca1), (3, .pointer (some ⟨g1, 0, none⟩)), (7, .pointer (some ⟨g2, 0, none⟩)), (12, .int .i64 v_i12), (13, .bool y6.1), (14, .int .i64 y6.2), (88, .agg #[.int .i64 y1.1.Room, .int .i64 y1.1.Lease, .slice A1 y1.1.Blobs.length c1, .slice A2 y1.1.Entries.length c2]), (92, .string x2)]) (by kernel_rfl) (fun w hh => hh.pick 4 [0, 1, 2, 3] (by kernel_rfl)) (fun w hh => hh.pick 4 [0, 1, 2, 3] (by kernel_rfl)) (by kernel_rfl) (fun _ _ => trivial) (by kernel_rfl) ?_
      refine DrH.keep [1, 3, 7, 12, 13, 14, 15, 16] (L' := [(1, .slice Aa1 a1.length ca1), (3, .pointer (some ⟨g1, 0, none⟩)), (7, .pointer (some ⟨g2, 0, none⟩)), (12, .int .i64 v_i12), (13, .bool y6.1), (14, .int .i64 y6.2), (15, .bool y7.1), (16, .int .i64 y7.2)]) (by kernel_rfl) ?_
      refine DrH.done (by kernel_rfl) ?_
      refine RunH.adm 1 (es' := [.c [1, 1, 1, 1, 1, 0, 1, 0, 0, 1, 0, 0, 1, 1, 0], .c [1, 1, 1, 1, 1, 0, 1, 0, 0, 1, 0, 0, 1, 1, 1], .b 1, .c [1, 1, 1, 1, 1, 0, 1, 0, 0, 1, 1], .l [1, 1, 1, 1, 1, 0, 1, 0, 0], .b 0, .c [1, 1, 1, 1, 1, 1]]) (by kernel_rfl) ?_
      obtain ⟨t3, ht3, heq⟩ := bind_some heq
      have K12 : ∀ (H : Hp), Rw kBlob H F Aa0_2 a0.Blobs → Rw kEntry H F Aa0_3 a0.Entries → Rw Kd.string H F Aa1 a1 → SlOwn kBlob 47 H A1 c1 y1.1.Blobs ch1 → SlOwn kEntry 51 H A2 c2 y1.1.Entries ch2 → RunH C4 (S4 F H0 r) H0 w0 [.c [1, 1, 1, 1, 1, 0, 1, 0, 0, 1, 0, 0, 1, 1, 1], .b 1, .c [1, 1, 1, 1, 1, 0, 1, 0, 0, 1, 1], .l [1, 1, 1, 1, 1, 0, 1, 0, 0], .b 0, .c [1, 1, 1, 1, 1, 1]] [(1, .slice Aa1 a1.length ca1), (3, .pointer (some ⟨g1, 0, none⟩)), (7, .pointer (some ⟨g2, 0, none⟩)), (12, .int .i64 v_i12), (106, .bool t3)] H ((some (g2, .cells #[.int .i64 y1.1.Room, .int .i64 y1.1.Lease, .slice A1 y1.1.Blobs.length c1, .slice A2 y1.1.Entries.length c2] 25 (0, 0))) :: ch1 :: ch2 :: (some (g1, .cells #[.int .i64 a0.Room, .int .i64 a0.Lease, .slice Aa0_2 a0.Blobs.length ca0_2, .slice Aa0_3 a0.Entries.length ca0_3] 25 (0, 0))) :: F) := by
        intro H hra0_2 hra0_3 hra1 ho1 ho2
        rcases bool_cases (t3) with hb11 | hb11
        · replace heq := bif_true hb11 heq
          refine RunH.condT (c := t3) (by kernel_rfl) hb11 ?_
          refine RunH.adm 1 (es' := [.c [1, 1, 1, 1, 1, 0, 1, 0, 0, 1, 0, 0, 1, 1, 1, 0, 0], .c [1, 1, 1, 1, 1, 0, 1, 0, 0, 1, 0, 0, 1, 1, 1, 0, 1], .b 1, .c [1, 1, 1, 1, 1, 0, 1, 0, 0, 1, 1], .l [1, 1, 1, 1, 1, 0, 1, 0, 0], .b 0, .c [1, 1, 1, 1, 1, 1]]) (by kernel_rfl) ?_
          refine RunH.reg (by kernel_rfl) ?_
          refine RgH.runk 1 [6] (vs := []) (evs := []) (L' := [(6, .bool false)]) (by kernel_rfl) (by kernel_rfl) (fun _ _ => trivial) ?_
          refine RgH.done (by kernel_rfl) ?_
          obtain rfl := Option.some.inj heq
          refine RunH.pick 4 [] (cs' := F) (by kernel_rfl) rfl ?_
          exact RunH.done (by kernel_rfl) Tryd.func4 (v := .bool false) (by kernel_rfl) ⟨rfl, rfl⟩
        · replace heq := bif_false hb11 heq
          refine RunH.condF (c := t3) (by kernel_rfl) hb11 ?_
          refine RunH.adm 2 (es' := [.c [1, 1, 1, 1, 1, 0, 1, 0, 0, 1, 1], .l [1, 1, 1, 1, 1, 0, 1, 0, 0], .b 0, .c [1, 1, 1, 1, 1, 1]]) (by kernel_rfl) ?_
          refine RunH.reg (by kernel_rfl) ?_
          refine RgH.runk 3 [1, 3, 7, 12] (vs := []) (evs := []) (L' := [(1, .slice Aa1 a1.length ca1), (3, .pointer (some ⟨g1, 0, none⟩)), (7, .pointer (some ⟨g2, 0, none⟩)), (12, .int .i64 (w64 (v_i12 + 1)))]) (by kernel_rfl) (by kernel_rfl) (fun _ _ => trivial) ?_
          refine RgH.done (by kernel_rfl) ?_
          refine RunH.adm 1 (es' := [.c [1, 1, 1, 1, 1, 0, 1, 0, 0], .l [1, 1, 1, 1, 1, 0, 1, 0, 0], .b 0, .c [1, 1, 1, 1, 1, 1]]) (by kernel_rfl) ?_
          refine RunH.keep [1, 3, 7, 12] (L' := [(1, .slice Aa1 a1.length ca1), (3, .pointer (some ⟨g1, 0, none⟩)), (7, .pointer (some ⟨g2, 0, none⟩)), (12, .int .i64 (w64 (v_i12 + 1)))]) (by kernel_rfl) ?_
          exact ihk _ a0 _ _ _ _ a1 _ _ _ y1 _ _ _ _ _ _ _ (w64 (v_i12 + 1)) hra0_2 hca0_2 hra0_3 hca0_3 hra1 hca1 ho1 ho2 heq
      replace heq := ht3
      refine RunH.reg (by kernel_rfl) ?_
      refine RgH.runk 3 [98, 1, 3, 7, 12, 13, 15, 16] (vs := []) (evs := []) (L' := [(98, .bool (y6.2 != 0)), (1, .slice Aa1 a1.length ca1), (3, .pointer (some ⟨g1, 0, none⟩)), (7, .pointer (some ⟨g2, 0, none⟩)), (12, .int .i64 v_i12), (13, .bool y6.1), (15, .bool y7.1), (16, .int .i64 y7.2)]) (by kernel_rfl) (by kernel_rfl) (fun _ _ => trivial) ?_
      rcases bool_cases (y6.2 != 0) with hb9 | hb9
      · replace heq := bif_true hb9 heq
        refine RgH.val1 (v' := .bool true) (congrArg Value.bool hb9) ?_
        refine RgH.runk 11 [1, 3, 7, 12, 106] (vs := []) (evs := []) (L' := [(1, .slice Aa1 a1.length ca1), (3, .pointer (some ⟨g1, 0, none⟩)), (7, .pointer (some ⟨g2, 0, none⟩)), (12, .int .i64 v_i12), (106, .bool true)]) (by kernel_rfl) (by kernel_rfl) (fun _ _ => trivial) ?_
        obtain rfl := Option.some.inj heq
        refine RgH.keep [1, 3, 7, 12, 106] (L' := [(1, .slice Aa1 a1.length ca1), (3, .pointer (some ⟨g1, 0, none⟩)), (7, .pointer (some ⟨g2, 0, none⟩)), (12, .int .i64 v_i12), (106, .bool true)]) (by kernel_rfl) ?_
        refine RgH.done (by kernel_rfl) ?_
        exact K12 _ hra0_2 hra0_3 hra1 ho1 ho2
      · replace heq := bif_false hb9 heq
        refine RgH.val1 (v' := .bool false) (congrArg Value.bool hb9) ?_
        refine RgH.runk 7 [102, 1, 3, 7, 12, 13, 15] (vs := []) (evs := []) (L' := [(102, .bool (y7.2 != 0)), (1, .slice Aa1 a1.length ca1), (3, .pointer (some ⟨g1, 0, none⟩)), (7, .pointer (some ⟨g2, 0, none⟩)), (12, .int .i64 v_i12), (13, .bool y6.1), (15, .bool y7.1)]) (by kernel_rfl) (by kernel_rfl) (fun _ _ => trivial) ?_
        rcases bool_cases (y7.2 != 0) with hb10 | hb10
        · replace heq := bif_true hb10 heq
          refine RgH.val1 (v' := .bool true) (congrArg Value.bool hb10) ?_
          refine RgH.runk 11 [1, 3, 7, 12, 106] (vs := []) (evs := []) (L' := [(1, .slice Aa1 a1.length ca1), (3, .pointer (some ⟨g1, 0, none⟩)), (7, .pointer (some ⟨g2, 0, none⟩)), (12, .int .i64 v_i12), (106, .bool true)]) (by kernel_rfl) (by kernel_rfl) (fun _ _ => trivial) ?_
          obtain rfl := Option.some.inj heq
          refine RgH.keep [1, 3, 7, 12, 106] (L' := [(1, .slice Aa1 a1.length ca1), (3, .pointer (some ⟨g1, 0, none⟩)), (7, .pointer (some ⟨g2, 0, none⟩)), (12, .int .i64 v_i12), (106, .bool true)]) (by kernel_rfl) ?_
          refine RgH.done (by kernel_rfl) ?_
          exact K12 _ hra0_2 hra0_3 hra1 ho1 ho2
        · replace heq := bif_false hb10 heq
          refine RgH.val1 (v' := .bool false) (congrArg Value.bool hb10) ?_
          refine RgH.runk 11 [1, 3, 7, 12, 106] (vs := []) (evs := []) (L' := [(1, .slice Aa1 a1.length ca1), (3, .pointer (some ⟨g1, 0, none⟩)), (7, .pointer (some ⟨g2, 0, none⟩)), (12, .int .i64 v_i12), (106, .bool (!(y6.1 == y7.1)))]) (by kernel_rfl) (by kernel_rfl) (fun _ _ => trivial) ?_
          obtain rfl := Option.some.inj heq
          refine RgH.keep [1, 3, 7, 12, 106] (L' := [(1, .slice Aa1 a1.length ca1), (3, .pointer (some ⟨g1, 0, none⟩)), (7, .pointer (some ⟨g2, 0, none⟩)), (12, .int .i64 v_i12), (106, .bool (!(y6.1 == y7.1)))]) (by kernel_rfl) ?_
          refine RgH.done (by kernel_rfl) ?_
          exact K12 _ hra0_2 hra0_3 hra1 ho1 ho2
    · replace heq := bif_false hb8 heq
      refine RunH.condF (c := decide (v_i12 < (a1.length : Int))) (by kernel_rfl) hb8 ?_
      refine RunH.adm 2 (es' := [.c [1, 1, 1, 1, 1, 1, 0], .c [1, 1, 1, 1, 1, 1, 1]]) (by kernel_rfl) ?_
      refine RunH.keep [] (L' := []) (by kernel_rfl) ?_
      refine RunH.pick 4 [] (cs' := F) (by kernel_rfl) rfl ?_
      exact he1 _ heq
theorem smithyardlaw7_CacheSweptKeeps_c {w0 : World} {H0 : Hp} {F : List Ch} {a0 : Cache} {Aa0_2 : Option Addr} {na0_2 : Nat} {ca0_2 : Nat} {Aa0_3 : Option Addr} {na0_3 : Nat} {ca0_3 : Nat} {a1 : List ByteArray} {Aa1 : Option Addr} {na1 : Nat} {ca1 : Nat} {a2 : Int} {r : Bool} (hra0_2 : Rw kBlob H0 F Aa0_2 a0.Blobs) (hca0_2 : na0_2 ≤ ca0_2) (hna0_2 : na0_2 = a0.Blobs.length) (hra0_3 : Rw kEntry H0 F Aa0_3 a0.Entries) (hca0_3 : na0_3 ≤ ca0_3) (hna0_3 : na0_3 = a0.Entries.length) (hra1 : Rw Kd.string H0 F Aa1 a1) (hca1 : na1 ≤ ca1) (hna1 : na1 = a1.length) (heq : smithyardlaw7_CacheSweptKeeps.f a0 a1 a2 = some r) : CallsH Tryd.prog 4 #[.agg #[.int .i64 a0.Room, .int .i64 a0.Lease, .slice Aa0_2 na0_2 ca0_2, .slice Aa0_3 na0_3 ca0_3], .slice Aa1 na1 ca1, .int .i64 a2] H0 w0 (F) (S4 F H0 r) := by
  refine calls_of_runH (F := C4) Tryd.func4 (by kernel_rfl) Tryd.ntmps4 (args := [.agg #[.int .i64 a0.Room, .int .i64 a0.Lease, .slice Aa0_2 na0_2 ca0_2, .slice Aa0_3 na0_3 ca0_3], .slice Aa1 na1 ca1, .int .i64 a2]) (by kernel_rfl) ?_
  subst hna0_2
  subst hna0_3
  subst hna1
  unfold smithyardlaw7_CacheSweptKeeps.f at heq
  suffices key : ∀ (H : Hp), Rw kBlob H F Aa0_2 a0.Blobs → Rw kEntry H F Aa0_3 a0.Entries → Rw Kd.string H F Aa1 a1 → RunH C4 (S4 F H0 r) H0 w0 [.c []] (argL 0 [.agg #[.int .i64 a0.Room, .int .i64 a0.Lease, .slice Aa0_2 (a0.Blobs.length) ca0_2, .slice Aa0_3 (a0.Entries.length) ca0_3], .slice Aa1 (a1.length) ca1, .int .i64 a2]) H (F) from key H0 hra0_2 hra0_3 hra1
  intro H hra0_2 hra0_3 hra1
  refine RunH.adm 1 (es' := [.c [0], .c [1]]) (by kernel_rfl) ?_
  refine RunH.reg (by kernel_rfl) ?_
  refine RgH.does (DoesH.new (d := 3) (v := fun g => .pointer (some ⟨g, 0, none⟩)) (o := fun g => .cells #[.int .i64 a0.Room, .int .i64 a0.Lease, .slice Aa0_2 a0.Blobs.length ca0_2, .slice Aa0_3 a0.Entries.length ca0_3] 25 (0, 0)) (fun g => by kernel_rfl)) ?_
  rintro _ _ _ _ ⟨g1, rfl, rfl, rfl⟩
  refine RgH.runk 2 [1, 2, 3] (vs := []) (evs := []) (L' := [(1, .slice Aa1 a1.length ca1), (2, .int .i64 a2), (3, .pointer (some ⟨g1, 0, none⟩))]) (by kernel_rfl) (by kernel_rfl) (fun _ _ => trivial) ?_
  refine RgH.done (by kernel_rfl) ?_
  refine RunH.adm 1 (es' := [.c [1, 0], .c [1, 1]]) (by kernel_rfl) ?_
  refine RunH.reg (by kernel_rfl) ?_
  refine RgH.runk 3 [1, 2, 3, 18, 19, 20] (vs := [.int .i64 a0.Room, .int .i64 a0.Lease, .slice Aa0_2 a0.Blobs.length ca0_2, .slice Aa0_3 a0.Entries.length ca0_3]) (evs := [.load ⟨g1, 0, none⟩ (.int .i64 a0.Room), .load ⟨g1, 1, none⟩ (.int .i64 a0.Lease), .load ⟨g1, 2, none⟩ (.slice Aa0_2 a0.Blobs.length ca0_2), .load ⟨g1, 3, none⟩ (.slice Aa0_3 a0.Entries.length ca0_3)]) (L' := [(1, .slice Aa1 a1.length ca1), (2, .int .i64 a2), (3, .pointer (some ⟨g1, 0, none⟩)), (18, .agg #[.int .i64 a0.Room, .int .i64 a0.Lease, .slice Aa0_2 a0.Blobs.length ca0_2, .slice Aa0_3 a0.Entries.length ca0_3]), (19, .slice Aa1 a1.length ca1), (20, .int .i64 a2)]) (by kernel_rfl) (by kernel_rfl) (fun w hh => ⟨(hh.box 0 rfl rfl), (hh.box 0 rfl rfl), (hh.box 0 rfl rfl), (hh.box 0 rfl rfl)⟩) ?_
  obtain ⟨y1, hy1, heq⟩ := bind_some heq
  refine RgH.does (DoesH.call (d := 21) (g := 30) (args := #[.agg #[.int .i64 a0.Room, .int .i64 a0.Lease, .slice Aa0_2 a0.Blobs.length ca0_2, .slice Aa0_3 a0.Entries.length ca0_3], .slice Aa1 a1.length ca1, .int .i64 a2]) (by kernel_rfl) (cache_Swept_c (a0 := a0) (a1 := a1) (a2 := a2) (hra0_2.wk (fun _ h => (.tail _ h))) hca0_2 rfl (hra0_3.wk (fun _ h => (.tail _ h))) hca0_3 rfl (hra1.wk (fun _ h => (.tail _ h))) hca1 rfl hy1)) ?_
  rintro _ H _ hl ⟨_, rfl, A1, c1, ch1, A2, c2, ch2, A3, c3, ch3, rfl, rfl, ho1, ho2, ho3⟩
  replace hra1 := hra1.mono hl
  replace hra0_2 := hra0_2.mono hl
  replace hra0_3 := hra0_3.mono hl
  refine RgH.runk 8 [1, 2, 3, 22, 23, 24] (vs := []) (evs := []) (L' := [(1, .slice Aa1 a1.length ca1), (2, .int .i64 a2), (3, .pointer (some ⟨g1, 0, none⟩)), (22, .agg #[.int .i64 y1.1.Room, .int .i64 y1.1.Lease, .slice A1 y1.1.Blobs.length c1, .slice A2 y1.1.Entries.length c2]), (23, .slice A3 y1.2.1.length c3), (24, .int .i64 y1.2.2)]) (by kernel_rfl) (by kernel_rfl) (fun _ _ => trivial) ?_
  refine RgH.does (DoesH.new (d := 7) (v := fun g => .pointer (some ⟨g, 0, none⟩)) (o := fun g => .cells #[.int .i64 0, .int .i64 0, .slice none 0 0, .slice none 0 0] 25 (0, 0)) (fun g => by kernel_rfl)) ?_
  rintro _ _ _ _ ⟨g2, rfl, rfl, rfl⟩
  refine RgH.does (DoesH.store (k := 0) (g := g2) (off := 0) (v := .agg #[.int .i64 y1.1.Room, .int .i64 y1.1.Lease, .slice A1 y1.1.Blobs.length c1, .slice A2 y1.1.Entries.length c2]) (cells' := #[.int .i64 y1.1.Room, .int .i64 y1.1.Lease, .slice A1 y1.1.Blobs.length c1, .slice A2 y1.1.Entries.length c2]) (by kernel_rfl) rfl (by kernel_rfl) (by kernel_rfl)) ?_
  rintro _ _ _ _ ⟨rfl, rfl, rfl⟩
  refine RgH.runk 12 [1, 2, 3, 7, 8, 9] (vs := []) (evs := []) (L' := [(1, .slice Aa1 a1.length ca1), (2, .int .i64 a2), (3, .pointer (some ⟨g1, 0, none⟩)), (7, .pointer (some ⟨g2, 0, none⟩)), (8, .slice A3 y1.2.1.length c3), (9, .int .i64 y1.2.2)]) (by kernel_rfl) (by kernel_rfl) (fun _ _ => trivial) ?_
  refine RgH.done (by kernel_rfl) ?_
  refine RunH.adm 2 (es' := [.c [1, 1, 0, 0], .c [1, 1, 0, 1], .c [1, 1, 1]]) (by kernel_rfl) ?_
  refine RunH.reg (by kernel_rfl) ?_
  refine RgH.runk 2 [1, 2, 3, 7, 8, 26] (vs := []) (evs := []) (L' := [(1, .slice Aa1 a1.length ca1), (2, .int .i64 a2), (3, .pointer (some ⟨g1, 0, none⟩)), (7, .pointer (some ⟨g2, 0, none⟩)), (8, .slice A3 y1.2.1.length c3), (26, .bool (y1.2.2 != 0))]) (by kernel_rfl) (by kernel_rfl) (fun _ _ => trivial) ?_
  refine RgH.done (by kernel_rfl) ?_
  rcases bool_cases (y1.2.2 != 0) with hb1 | hb1
  · replace heq := bif_true hb1 heq
    refine RunH.condT (c := y1.2.2 != 0) (by kernel_rfl) hb1 ?_
    refine RunH.adm 1 (es' := [.c [1, 1, 0, 1, 0, 0], .c [1, 1, 0, 1, 0, 1], .c [1, 1, 1]]) (by kernel_rfl) ?_
    obtain ⟨t1, ht1, heq⟩ := bind_some heq
    have K6 : ∀ (H : Hp), RunH C4 (S4 F H0 r) H0 w0 [.c [1, 1, 0, 1, 0, 1], .c [1, 1, 1]] [(6, .bool t1)] H (F) := by
      intro H
      obtain rfl := Option.some.inj heq
      exact RunH.done (by kernel_rfl) Tryd.func4 (v := .bool t1) (by kernel_rfl) ⟨rfl, rfl⟩
    replace heq := ht1
    refine RunH.reg (by kernel_rfl) ?_
    refine RgH.runk 5 [31, 8] (vs := [.slice A1 y1.1.Blobs.length c1]) (evs := [.load ⟨g2, 2, none⟩ (.slice A1 y1.1.Blobs.length c1)]) (L' := [(31, .bool ((y1.1.Blobs.length : Int) == 0)), (8, .slice A3 y1.2.1.length c3)]) (by kernel_rfl) (by kernel_rfl) (fun w hh => (hh.box 0 rfl rfl)) ?_
    rcases bool_cases ((y1.1.Blobs.length : Int) == 0) with hb2 | hb2
    · replace heq := bif_true hb2 heq
      refine RgH.val1 (v' := .bool true) (congrArg Value.bool hb2) ?_
      refine RgH.runk 10 [36] (vs := []) (evs := []) (L' := [(36, .bool ((y1.2.1.length : Int) == 0))]) (by kernel_rfl) (by kernel_rfl) (fun _ _ => trivial) ?_
      rcases bool_cases ((y1.2.1.length : Int) == 0) with hb3 | hb3
      · replace heq := bif_true hb3 heq
        refine RgH.val1 (v' := .bool true) (congrArg Value.bool hb3) ?_
        obtain ⟨y2, hy2, heq⟩ := bind_some heq
        refine RgH.does (DoesH.call (d := 37) (g := 29) (args := (List.toArray [])) (by kernel_rfl) (smithyardlaw7_awake_c  hy2)) ?_
        rintro _ _ _ _ ⟨_, rfl, rfl, rfl, rfl⟩
        refine RgH.runk 13 [6] (vs := []) (evs := []) (L' := [(6, .bool y2)]) (by kernel_rfl) (by kernel_rfl) (fun _ _ => trivial) ?_
        obtain rfl := Option.some.inj heq
        refine RgH.keep [6] (L' := [(6, .bool y2)]) (by kernel_rfl) ?_
        refine RgH.pick 5 [] (cs' := F) (by kernel_rfl) rfl ?_
        refine RgH.done (by kernel_rfl) ?_
        exact K6 _
      · replace heq := bif_false hb3 heq
        refine RgH.val1 (v' := .bool false) (congrArg Value.bool hb3) ?_
        refine RgH.runk 13 [6] (vs := []) (evs := []) (L' := [(6, .bool false)]) (by kernel_rfl) (by kernel_rfl) (fun _ _ => trivial) ?_
        obtain rfl := Option.some.inj heq
        refine RgH.keep [6] (L' := [(6, .bool false)]) (by kernel_rfl) ?_
        refine RgH.pick 5 [] (cs' := F) (by kernel_rfl) rfl ?_
        refine RgH.done (by kernel_rfl) ?_
        exact K6 _
    · replace heq := bif_false hb2 heq
      refine RgH.val1 (v' := .bool false) (congrArg Value.bool hb2) ?_
      refine RgH.runk 13 [6] (vs := []) (evs := []) (L' := [(6, .bool false)]) (by kernel_rfl) (by kernel_rfl) (fun _ _ => trivial) ?_
      obtain rfl := Option.some.inj heq
      refine RgH.keep [6] (L' := [(6, .bool false)]) (by kernel_rfl) ?_
      refine RgH.pick 5 [] (cs' := F) (by kernel_rfl) rfl ?_
      refine RgH.done (by kernel_rfl) ?_
      exact K6 _
  · replace heq := bif_false hb1 heq
    refine RunH.condF (c := y1.2.2 != 0) (by kernel_rfl) hb1 ?_
    refine RunH.adm 2 (es' := [.c [1, 1, 1, 0], .c [1, 1, 1, 1]]) (by kernel_rfl) ?_
    refine RunH.reg (by kernel_rfl) ?_
    refine RgH.runk 3 [1, 3, 7, 8, 40, 41, 42] (vs := [.int .i64 y1.1.Room, .int .i64 y1.1.Lease, .slice A1 y1.1.Blobs.length c1, .slice A2 y1.1.Entries.length c2]) (evs := [.load ⟨g2, 0, none⟩ (.int .i64 y1.1.Room), .load ⟨g2, 1, none⟩ (.int .i64 y1.1.Lease), .load ⟨g2, 2, none⟩ (.slice A1 y1.1.Blobs.length c1), .load ⟨g2, 3, none⟩ (.slice A2 y1.1.Entries.length c2)]) (L' := [(1, .slice Aa1 a1.length ca1), (3, .pointer (some ⟨g1, 0, none⟩)), (7, .pointer (some ⟨g2, 0, none⟩)), (8, .slice A3 y1.2.1.length c3), (40, .agg #[.int .i64 y1.1.Room, .int .i64 y1.1.Lease, .slice A1 y1.1.Blobs.length c1, .slice A2 y1.1.Entries.length c2]), (41, .slice Aa1 a1.length ca1), (42, .int .i64 a2)]) (by kernel_rfl) (by kernel_rfl) (fun w hh => ⟨(hh.box 0 rfl rfl), (hh.box 0 rfl rfl), (hh.box 0 rfl rfl), (hh.box 0 rfl rfl)⟩) ?_
    obtain ⟨y3, hy3, heq⟩ := bind_some heq
    refine RgH.does (DoesH.call (d := 43) (g := 30) (args := #[.agg #[.int .i64 y1.1.Room, .int .i64 y1.1.Lease, .slice A1 y1.1.Blobs.length c1, .slice A2 y1.1.Entries.length c2], .slice Aa1 a1.length ca1, .int .i64 a2]) (by kernel_rfl) (cache_Swept_c (a0 := (⟨y1.1.Room, y1.1.Lease, y1.1.Blobs, y1.1.Entries⟩ : Cache)) (a1 := a1) (a2 := a2) (ho1.rw (.tail _ (.head _))) ho1.cap rfl (ho2.rw (.tail _ (.tail _ (.head _)))) ho2.cap rfl (hra1.wk (fun _ h => (.tail _ (.tail _ (.tail _ (.tail _ (.tail _ h))))))) hca1 rfl hy3)) ?_
    rintro _ H _ hl ⟨_, rfl, A4, c4, ch4, A5, c5, ch5, A6, c6, ch6, rfl, rfl, ho4, ho5, ho6⟩
    replace hra1 := hra1.mono hl
    replace hra0_2 := hra0_2.mono hl
    replace hra0_3 := hra0_3.mono hl
    replace ho1 := ho1.mono hl
    replace ho2 := ho2.mono hl
    replace ho3 := ho3.mono hl
    refine RgH.runk 8 [1, 3, 7, 8, 44, 45, 46] (vs := []) (evs := []) (L' := [(1, .slice Aa1 a1.length ca1), (3, .pointer (some ⟨g1, 0, none⟩)), (7, .pointer (some ⟨g2, 0, none⟩)), (8, .slice A3 y1.2.1.length c3), (44, .agg #[.int .i64 y3.1.Room, .int .i64 y3.1.Lease, .slice A4 y3.1.Blobs.length c4, .slice A5 y3.1.Entries.length c5]), (45, .slice A6 y3.2.1.length c6), (46, .int .i64 y3.2.2)]) (by kernel_rfl) (by kernel_rfl) (fun _ _ => trivial) ?_
    refine RgH.does (DoesH.new (d := 10) (v := fun g => .pointer (some ⟨g, 0, none⟩)) (o := fun g => .cells #[.int .i64 0, .int .i64 0, .slice none 0 0, .slice none 0 0] 25 (0, 0)) (fun g => by kernel_rfl)) ?_
    rintro _ _ _ _ ⟨g3, rfl, rfl, rfl⟩
    refine RgH.does (DoesH.store (k := 0) (g := g3) (off := 0) (v := .agg #[.int .i64 y3.1.Room, .int .i64 y3.1.Lease, .slice A4 y3.1.Blobs.length c4, .slice A5 y3.1.Entries.length c5]) (cells' := #[.int .i64 y3.1.Room, .int .i64 y3.1.Lease, .slice A4 y3.1.Blobs.length c4, .slice A5 y3.1.Entries.length c5]) (by kernel_rfl) rfl (by kernel_rfl) (by kernel_rfl)) ?_
    rintro _ _ _ _ ⟨rfl, rfl, rfl⟩
    refine RgH.runk 12 [1, 3, 7, 8, 9, 10, 11] (vs := []) (evs := []) (L' := [(1, .slice Aa1 a1.length ca1), (3, .pointer (some ⟨g1, 0, none⟩)), (7, .pointer (some ⟨g2, 0, none⟩)), (8, .slice A3 y1.2.1.length c3), (9, .int .i64 y3.2.2), (10, .pointer (some ⟨g3, 0, none⟩)), (11, .slice A6 y3.2.1.length c6)]) (by kernel_rfl) (by kernel_rfl) (fun _ _ => trivial) ?_
    refine RgH.done (by kernel_rfl) ?_
    refine RunH.adm 2 (es' := [.c [1, 1, 1, 1, 0, 0], .c [1, 1, 1, 1, 0, 1], .c [1, 1, 1, 1, 1]]) (by kernel_rfl) ?_
    obtain ⟨t2, ht2, heq⟩ := bind_some heq
    have K11 : ∀ (H : Hp), Rw kBlob H F Aa0_2 a0.Blobs → Rw kEntry H F Aa0_3 a0.Entries → Rw Kd.string H F Aa1 a1 → SlOwn kBlob 47 H A1 c1 y1.1.Blobs ch1 → SlOwn kEntry 51 H A2 c2 y1.1.Entries ch2 → RunH C4 (S4 F H0 r) H0 w0 [.c [1, 1, 1, 1, 0, 1], .c [1, 1, 1, 1, 1]] [(1, .slice Aa1 a1.length ca1), (3, .pointer (some ⟨g1, 0, none⟩)), (7, .pointer (some ⟨g2, 0, none⟩)), (71, .bool t2)] H ((some (g2, .cells #[.int .i64 y1.1.Room, .int .i64 y1.1.Lease, .slice A1 y1.1.Blobs.length c1, .slice A2 y1.1.Entries.length c2] 25 (0, 0))) :: ch1 :: ch2 :: (some (g1, .cells #[.int .i64 a0.Room, .int .i64 a0.Lease, .slice Aa0_2 a0.Blobs.length ca0_2, .slice Aa0_3 a0.Entries.length ca0_3] 25 (0, 0))) :: F) := by
      intro H hra0_2 hra0_3 hra1 ho1 ho2
      rcases bool_cases (t2) with hb7 | hb7
      · replace heq := bif_true hb7 heq
        refine RunH.condT (c := t2) (by kernel_rfl) hb7 ?_
        refine RunH.adm 1 (es' := [.c [1, 1, 1, 1, 0, 1, 0, 0], .c [1, 1, 1, 1, 0, 1, 0, 1], .c [1, 1, 1, 1, 1]]) (by kernel_rfl) ?_
        refine RunH.reg (by kernel_rfl) ?_
        refine RgH.runk 1 [6] (vs := []) (evs := []) (L' := [(6, .bool false)]) (by kernel_rfl) (by kernel_rfl) (fun _ _ => trivial) ?_
        refine RgH.done (by kernel_rfl) ?_
        obtain rfl := Option.some.inj heq
        refine RunH.pick 4 [] (cs' := F) (by kernel_rfl) rfl ?_
        exact RunH.done (by kernel_rfl) Tryd.func4 (v := .bool false) (by kernel_rfl) ⟨rfl, rfl⟩
      · replace heq := bif_false hb7 heq
        refine RunH.condF (c := t2) (by kernel_rfl) hb7 ?_
        refine RunH.adm 3 (es' := [.c [1, 1, 1, 1, 1, 0, 0], .c [1, 1, 1, 1, 1, 0, 1], .c [1, 1, 1, 1, 1, 1]]) (by kernel_rfl) ?_
        refine RunH.reg (by kernel_rfl) ?_
        refine RgH.runk 1 [1, 3, 7, 12] (vs := []) (evs := []) (L' := [(1, .slice Aa1 a1.length ca1), (3, .pointer (some ⟨g1, 0, none⟩)), (7, .pointer (some ⟨g2, 0, none⟩)), (12, .int .i64 0)]) (by kernel_rfl) (by kernel_rfl) (fun _ _ => trivial) ?_
        refine RgH.done (by kernel_rfl) ?_
        refine RunH.adm 2 (es' := [.c [1, 1, 1, 1, 1, 0, 1, 0, 0], .l [1, 1, 1, 1, 1, 0, 1, 0, 0], .b 0, .c [1, 1, 1, 1, 1, 1]]) (by kernel_rfl) ?_
        refine RunH.keep [1, 3, 7, 12] (L' := [(1, .slice Aa1 a1.length ca1), (3, .pointer (some ⟨g1, 0, none⟩)), (7, .pointer (some ⟨g2, 0, none⟩)), (12, .int .i64 0)]) (by kernel_rfl) ?_
        exact ((smithyardlaw7_CacheSweptKeeps.l2_c (e1 := smithyardlaw7_CacheSweptKeeps.e1) (smithyardlaw7_CacheSweptKeeps.e1_c)) big) _ a0 _ _ _ _ a1 _ _ _ y1 _ _ _ _ _ _ _ 0 hra0_2 hca0_2 hra0_3 hca0_3 hra1 hca1 ho1 ho2 heq
    replace heq := ht2
    refine RunH.reg (by kernel_rfl) ?_
    refine RgH.runk 3 [49, 1, 3, 7, 8, 10, 11] (vs := []) (evs := []) (L' := [(49, .bool (y3.2.2 != 0)), (1, .slice Aa1 a1.length ca1), (3, .pointer (some ⟨g1, 0, none⟩)), (7, .pointer (some ⟨g2, 0, none⟩)), (8, .slice A3 y1.2.1.length c3), (10, .pointer (some ⟨g3, 0, none⟩)), (11, .slice A6 y3.2.1.length c6)]) (by kernel_rfl) (by kernel_rfl) (fun _ _ => trivial) ?_
    rcases bool_cases (y3.2.2 != 0) with hb4 | hb4
    · replace heq := bif_true hb4 heq
      refine RgH.val1 (v' := .bool true) (congrArg Value.bool hb4) ?_
      refine RgH.runk 25 [1, 3, 7, 71] (vs := []) (evs := []) (L' := [(1, .slice Aa1 a1.length ca1), (3, .pointer (some ⟨g1, 0, none⟩)), (7, .pointer (some ⟨g2, 0, none⟩)), (71, .bool true)]) (by kernel_rfl) (by kernel_rfl) (fun _ _ => trivial) ?_
      obtain rfl := Option.some.inj heq
      refine RgH.keep [1, 3, 7, 71] (L' := [(1, .slice Aa1 a1.length ca1), (3, .pointer (some ⟨g1, 0, none⟩)), (7, .pointer (some ⟨g2, 0, none⟩)), (71, .bool true)]) (by kernel_rfl) ?_
      refine RgH.pick 9 [4, 5, 6, 8] (cs' := (some (g2, .cells #[.int .i64 y1.1.Room, .int .i64 y1.1.Lease, .slice A1 y1.1.Blobs.length c1, .slice A2 y1.1.Entries.length c2] 25 (0, 0))) :: ch1 :: ch2 :: (some (g1, .cells #[.int .i64 a0.Room, .int .i64 a0.Lease, .slice Aa0_2 a0.Blobs.length ca0_2, .slice Aa0_3 a0.Entries.length ca0_3] 25 (0, 0))) :: F) (by kernel_rfl) rfl ?_
      refine RgH.done (by kernel_rfl) ?_
      exact K11 _ hra0_2 hra0_3 hra1 ho1 ho2
    · replace heq := bif_false hb4 heq
      refine RgH.val1 (v' := .bool false) (congrArg Value.bool hb4) ?_
      refine RgH.runk 5 [1, 3, 7, 8, 11, 49, 50, 51] (vs := [.int .i64 y1.1.Room, .int .i64 y1.1.Lease, .slice A1 y1.1.Blobs.length c1, .slice A2 y1.1.Entries.length c2, .int .i64 y3.1.Room, .int .i64 y3.1.Lease, .slice A4 y3.1.Blobs.length c4, .slice A5 y3.1.Entries.length c5]) (evs := [.load ⟨g2, 0, none⟩ (.int .i64 y1.1.Room), .load ⟨g2, 1, none⟩ (.int .i64 y1.1.Lease), .load ⟨g2, 2, none⟩ (.slice A1 y1.1.Blobs.length c1), .load ⟨g2, 3, none⟩ (.slice A2 y1.1.Entries.length c2), .load ⟨g3, 0, none⟩ (.int .i64 y3.1.Room), .load ⟨g3, 1, none⟩ (.int .i64 y3.1.Lease), .load ⟨g3, 2, none⟩ (.slice A4 y3.1.Blobs.length c4), .load ⟨g3, 3, none⟩ (.slice A5 y3.1.Entries.length c5)]) (L' := [(1, .slice Aa1 a1.length ca1), (3, .pointer (some ⟨g1, 0, none⟩)), (7, .pointer (some ⟨g2, 0, none⟩)), (8, .slice A3 y1.2.1.length c3), (11, .slice A6 y3.2.1.length c6), (49, .bool false), (50, .agg #[.int .i64 y1.1.Room, .int .i64 y1.1.Lease, .slice A1 y1.1.Blobs.length c1, .slice A2 y1.1.Entries.length c2]), (51, .agg #[.int .i64 y3.1.Room, .int .i64 y3.1.Lease, .slice A4 y3.1.Blobs.length c4, .slice A5 y3.1.Entries.length c5])]) (by kernel_rfl) (by kernel_rfl) (fun w hh => ⟨(hh.box 4 rfl rfl), (hh.box 4 rfl rfl), (hh.box 4 rfl rfl), (hh.box 4 rfl rfl), (hh.box 0 rfl rfl), (hh.box 0 rfl rfl), (hh.box 0 rfl rfl), (hh.box 0 rfl rfl)⟩) ?_
      obtain ⟨y4, hy4, heq⟩ := bind_some heq
      refine RgH.does (DoesH.call (d := 52) (g := 21) (args := #[.agg #[.int .i64 y1.1.Room, .int .i64 y1.1.Lease, .slice A1 y1.1.Blobs.length c1, .slice A2 y1.1.Entries.length c2], .agg #[.int .i64 y3.1.Room, .int .i64 y3.1.Lease, .slice A4 y3.1.Blobs.length c4, .slice A5 y3.1.Entries.length c5]]) (by kernel_rfl) (smithyardref7_Same_c (a0 := (⟨y1.1.Room, y1.1.Lease, y1.1.Blobs, y1.1.Entries⟩ : Cache)) (a1 := (⟨y3.1.Room, y3.1.Lease, y3.1.Blobs, y3.1.Entries⟩ : Cache)) (ho1.rw (.tail _ (.tail _ (.tail _ (.tail _ (.tail _ (.head _))))))) ho1.cap rfl (ho2.rw (.tail _ (.tail _ (.tail _ (.tail _ (.tail _ (.tail _ (.head _)))))))) ho2.cap rfl (ho4.rw (.tail _ (.head _))) ho4.cap rfl (ho5.rw (.tail _ (.tail _ (.head _)))) ho5.cap rfl hy4)) ?_
      rintro _ _ _ _ ⟨_, rfl, rfl, rfl, rfl⟩
      refine RgH.runk 9 [55, 1, 3, 7, 8, 11] (vs := []) (evs := []) (L' := [(55, .bool (!y4)), (1, .slice Aa1 a1.length ca1), (3, .pointer (some ⟨g1, 0, none⟩)), (7, .pointer (some ⟨g2, 0, none⟩)), (8, .slice A3 y1.2.1.length c3), (11, .slice A6 y3.2.1.length c6)]) (by kernel_rfl) (by kernel_rfl) (fun _ _ => trivial) ?_
      rcases bool_cases (!y4) with hb5 | hb5
      · replace heq := bif_true hb5 heq
        refine RgH.val1 (v' := .bool true) (congrArg Value.bool hb5) ?_
        refine RgH.runk 25 [1, 3, 7, 71] (vs := []) (evs := []) (L' := [(1, .slice Aa1 a1.length ca1), (3, .pointer (some ⟨g1, 0, none⟩)), (7, .pointer (some ⟨g2, 0, none⟩)), (71, .bool true)]) (by kernel_rfl) (by kernel_rfl) (fun _ _ => trivial) ?_
        obtain rfl := Option.some.inj heq
        refine RgH.keep [1, 3, 7, 71] (L' := [(1, .slice Aa1 a1.length ca1), (3, .pointer (some ⟨g1, 0, none⟩)), (7, .pointer (some ⟨g2, 0, none⟩)), (71, .bool true)]) (by kernel_rfl) ?_
        refine RgH.pick 9 [4, 5, 6, 8] (cs' := (some (g2, .cells #[.int .i64 y1.1.Room, .int .i64 y1.1.Lease, .slice A1 y1.1.Blobs.length c1, .slice A2 y1.1.Entries.length c2] 25 (0, 0))) :: ch1 :: ch2 :: (some (g1, .cells #[.int .i64 a0.Room, .int .i64 a0.Lease, .slice Aa0_2 a0.Blobs.length ca0_2, .slice Aa0_3 a0.Entries.length ca0_3] 25 (0, 0))) :: F) (by kernel_rfl) rfl ?_
        refine RgH.done (by kernel_rfl) ?_
        exact K11 _ hra0_2 hra0_3 hra1 ho1 ho2
      · replace heq := bif_false hb5 heq
        refine RgH.val1 (v' := .bool false) (congrArg Value.bool hb5) ?_
        refine RgH.runk 14 [60, 1, 3, 7, 8] (vs := []) (evs := []) (L' := [(60, .bool (decide (0 < (y3.2.1.length : Int)))), (1, .slice Aa1 a1.length ca1), (3, .pointer (some ⟨g1, 0, none⟩)), (7, .pointer (some ⟨g2, 0, none⟩)), (8, .slice A3 y1.2.1.length c3)]) (by kernel_rfl) (by kernel_rfl) (fun _ _ => trivial) ?_
        rcases bool_cases (decide (0 < (y3.2.1.length : Int))) with hb6 | hb6
        · replace heq := bif_true hb6 heq
          refine RgH.val1 (v' := .bool true) (congrArg Value.bool hb6) ?_
          refine RgH.runk 25 [1, 3, 7, 71] (vs := []) (evs := []) (L' := [(1, .slice Aa1 a1.length ca1), (3, .pointer (some ⟨g1, 0, none⟩)), (7, .pointer (some ⟨g2, 0, none⟩)), (71, .bool true)]) (by kernel_rfl) (by kernel_rfl) (fun _ _ => trivial) ?_
          obtain rfl := Option.some.inj heq
          refine RgH.keep [1, 3, 7, 71] (L' := [(1, .slice Aa1 a1.length ca1), (3, .pointer (some ⟨g1, 0, none⟩)), (7, .pointer (some ⟨g2, 0, none⟩)), (71, .bool true)]) (by kernel_rfl) ?_
          refine RgH.pick 9 [4, 5, 6, 8] (cs' := (some (g2, .cells #[.int .i64 y1.1.Room, .int .i64 y1.1.Lease, .slice A1 y1.1.Blobs.length c1, .slice A2 y1.1.Entries.length c2] 25 (0, 0))) :: ch1 :: ch2 :: (some (g1, .cells #[.int .i64 a0.Room, .int .i64 a0.Lease, .slice Aa0_2 a0.Blobs.length ca0_2, .slice Aa0_3 a0.Entries.length ca0_3] 25 (0, 0))) :: F) (by kernel_rfl) rfl ?_
          refine RgH.done (by kernel_rfl) ?_
          exact K11 _ hra0_2 hra0_3 hra1 ho1 ho2
        · replace heq := bif_false hb6 heq
          refine RgH.val1 (v' := .bool false) (congrArg Value.bool hb6) ?_
          refine RgH.runk 25 [1, 3, 7, 71] (vs := [.slice A1 y1.1.Blobs.length c1, .slice Aa0_2 a0.Blobs.length ca0_2]) (evs := [.load ⟨g2, 2, none⟩ (.slice A1 y1.1.Blobs.length c1), .load ⟨g1, 2, none⟩ (.slice Aa0_2 a0.Blobs.length ca0_2)]) (L' := [(1, .slice Aa1 a1.length ca1), (3, .pointer (some ⟨g1, 0, none⟩)), (7, .pointer (some ⟨g2, 0, none⟩)), (71, .bool ((w64 ((y1.1.Blobs.length : Int) + (y1.2.1.length : Int))) != (a0.Blobs.length : Int)))]) (by kernel_rfl) (by kernel_rfl) (fun w hh => ⟨(hh.box 4 rfl rfl), (hh.box 8 rfl rfl)⟩) ?_
          obtain rfl := Option.some.inj heq
          refine RgH.keep [1, 3, 7, 71] (L' := [(1, .slice Aa1 a1.length ca1), (3, .pointer (some ⟨g1, 0, none⟩)), (7, .pointer (some ⟨g2, 0, none⟩)), (71, .bool ((w64 ((y1.1.Blobs.length : Int) + (y1.2.1.length : Int))) != (a0.Blobs.length : Int)))]) (by kernel_rfl) ?_
          refine RgH.pick 9 [4, 5, 6, 8] (cs' := (some (g2, .cells #[.int .i64 y1.1.Room, .int .i64 y1.1.Lease, .slice A1 y1.1.Blobs.length c1, .slice A2 y1.1.Entries.length c2] 25 (0, 0))) :: ch1 :: ch2 :: (some (g1, .cells #[.int .i64 a0.Room, .int .i64 a0.Lease, .slice Aa0_2 a0.Blobs.length ca0_2, .slice Aa0_3 a0.Entries.length ca0_3] 25 (0, 0))) :: F) (by kernel_rfl) rfl ?_
          refine RgH.done (by kernel_rfl) ?_
          exact K11 _ hra0_2 hra0_3 hra1 ho1 ho2
end Go.Proofs.YtkjilepjblffeaaDoor
