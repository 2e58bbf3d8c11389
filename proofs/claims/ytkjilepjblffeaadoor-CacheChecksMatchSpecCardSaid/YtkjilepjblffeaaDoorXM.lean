/- What the machine's calls of these functions come to: just what the plain functions say. Written by program. -/
import Derived.Test.YtkjilepjblffeaaDoorProg
import Derived.Test.YtkjilepjblffeaaDoorKitQ
import Derived.Test.YtkjilepjblffeaaDoorXD
import Derived.Test.YtkjilepjblffeaaDoorShelf
import Derived.Test.YtkjilepjblffeaaDoorXM1
set_option linter.unusedVariables false
set_option linter.unusedSimpArgs false
set_option maxRecDepth 100000
set_option maxHeartbeats 1000000
namespace Go.Proofs.YtkjilepjblffeaaDoor
open Go Go.RowKit Go.Proofs.YtkjilepjblffeaaDoor.Kit
noncomputable def C56 : Ctx := { P := Tryd.prog, f := 56, N := 26, c := bodyOf Tryd.f56 }
def S56 (F : List Ch) (H0 : Hp) (r : Bool) (v : Value) (H : Hp) (cs : List Ch) : Prop := H0 = H ∧ v = .bool r ∧ F = cs
theorem smithyardref7_sameList.e1_c {w0 : World} {H : Hp} {F : List Ch} {r : Bool} : smithyardref7_sameList.e1 = some r → RunH C56 (S56 F H r) H w0 [.c [1, 1, 1, 0], .c [1, 1, 1, 1]] [] H (F) := by
  intro   heq
  unfold smithyardref7_sameList.e1 at heq
  refine RunH.reg (by kernel_rfl) ?_
  refine RgH.runk 1 [4] (vs := []) (evs := []) (L' := [(4, .bool true)]) (by kernel_rfl) (by kernel_rfl) (fun _ _ => trivial) ?_
  refine RgH.done (by kernel_rfl) ?_
  obtain rfl := Option.some.inj heq
  exact RunH.done (by kernel_rfl) Tryd.func56 (v := .bool true) (by kernel_rfl) ⟨rfl, rfl, rfl⟩
theorem smithyardref7_sameList.l2_c {w0 : World} {H : Hp} {F : List Ch} {r : Bool} (e1 : Option Bool)
    (he1 : e1 = some r → RunH C56 (S56 F H r) H w0 [.c [1, 1, 1, 0], .c [1, 1, 1, 1]] [] H (F)) : ∀ (k : Nat), ∀ (a0 : List ByteArray) (Aa0 : Option Addr) (ca0 : Nat) (a1 : List ByteArray) (Aa1 : Option Addr) (ca1 : Nat) (v_i5 : Int) , Rw Kd.string H F Aa0 a0 → a0.length ≤ ca0 → Rw Kd.string H F Aa1 a1 → a1.length ≤ ca1 → smithyardref7_sameList.l2 e1 k a0 a1 v_i5 = some r → RunH C56 (S56 F H r) H w0 [.c [1, 1, 0, 1, 0, 0], .l [1, 1, 0, 1, 0, 0], .b 0, .c [1, 1, 1]] [(0, .slice Aa0 a0.length ca0), (1, .slice Aa1 a1.length ca1), (5, .int .i64 v_i5)] H (F) := by
  intro k
  induction k with
  | zero => intro a0 Aa0 ca0 a1 Aa1 ca1 v_i5 hra0 hca0 hra1 hca1 heq; exact nomatch (show (none : Option Bool) = some r from heq)
  | succ k ihk =>
    intro a0 Aa0 ca0 a1 Aa1 ca1 v_i5 hra0 hca0 hra1 hca1 heq
    rw [smithyardref7_sameList.l2] at heq
    refine RunH.adm 2 (es' := [.c [1, 1, 0, 1, 0, 0, 0, 0], .c [1, 1, 0, 1, 0, 0, 0, 1], .c [1, 1, 0, 1, 0, 0, 1], .l [1, 1, 0, 1, 0, 0], .b 0, .c [1, 1, 1]]) (by kernel_rfl) ?_
    refine RunH.reg (by kernel_rfl) ?_
    refine RgH.runk 4 [0, 1, 5, 14] (vs := []) (evs := []) (L' := [(0, .slice Aa0 a0.length ca0), (1, .slice Aa1 a1.length ca1), (5, .int .i64 v_i5), (14, .bool (decide (v_i5 < (a0.length : Int))))]) (by kernel_rfl) (by kernel_rfl) (fun _ _ => trivial) ?_
    refine RgH.done (by kernel_rfl) ?_
    rcases bool_cases (decide (v_i5 < (a0.length : Int))) with hb2 | hb2
    · replace heq := bif_true hb2 heq
      refine RunH.condT (c := decide (v_i5 < (a0.length : Int))) (by kernel_rfl) hb2 ?_
      refine RunH.adm 4 (es' := [.c [1, 1, 0, 1, 0, 0, 1, 0, 0, 0], .c [1, 1, 0, 1, 0, 0, 1, 0, 0, 1], .b 1, .c [1, 1, 0, 1, 0, 0, 1, 1], .l [1, 1, 0, 1, 0, 0], .b 0, .c [1, 1, 1]]) (by kernel_rfl) ?_
      refine RunH.keep [0, 1, 5] (L' := [(0, .slice Aa0 a0.length ca0), (1, .slice Aa1 a1.length ca1), (5, .int .i64 v_i5)]) (by kernel_rfl) ?_
      refine RunH.draw (fun w => Heap H w0 w (F)) (fun w => Heap H w0 w (F)) [false, false, false, false, false, false, false, false, false] (n := 9) (ls := [false, false, false, false, false, false, false, false, false]) (by kernel_rfl) (by kernel_rfl) (by kernel_rfl) rfl ?_
      obtain ⟨x1, hx1, heq⟩ := bind_some heq
      obtain ⟨ha1, cs1, hK1, hcc1⟩ := hra0.get hx1
      obtain rfl : cs1 = [.string x1] := hK1
      obtain ⟨x2, hx2, heq⟩ := bind_some heq
      obtain ⟨ha2, cs2, hK2, hcc2⟩ := hra1.get hx2
      obtain rfl : cs2 = [.string x2] := hK2
      refine DrH.run [0, 1, 2, 3, 4, 5, 6, 7, 8] (m := 0) (ls' := [true, true, true, true, true, true, true, true, true]) (vs := [.string x1, .string x2]) (evs := [.need (Aa0 = some (adr Aa0) ∧ (0 : Int) ≤ v_i5 ∧ v_i5 < ((a0.length : Nat) : Int)), .load ((adr Aa0).add (v_i5.toNat * 1)) (.string x1), .need (Aa1 = some (adr Aa1) ∧ (0 : Int) ≤ v_i5 ∧ v_i5 < ((a1.length : Nat) : Int)), .load ((adr Aa1).add (v_i5.toNat * 1)) (.string x2)]) (L' := [(25, .bool (!sEq x1 x2)), (24, .string x2), (23, .pointer (some ((adr Aa1).add (v_i5.toNat * 1)))), (22, .int .i64 v_i5), (21, .slice Aa1 a1.length ca1), (20, .string x1), (19, .pointer (some ((adr Aa0).add (v_i5.toNat * 1)))), (18, .int .i64 v_i5), (17, .slice Aa0 a0.length ca0), (0, .slice Aa0 a0.length ca0), (1, .slice Aa1 a1.length ca1), (5, .int .i64 v_i5)]) (by kernel_rfl) (fun w hh => hh.pick 0 [] (by kernel_rfl)) (fun w hh => hh.pick 0 [] (by kernel_rfl)) (by kernel_rfl) (fun w hh => ⟨⟨ha1, (at?_some hx1).1, (at?_some hx1).2.1⟩, (hcc1 _ _ (hh.drop 0) 0 _ rfl), ⟨ha2, (at?_some hx2).1, (at?_some hx2).2.1⟩, (hcc2 _ _ (hh.drop 0) 0 _ rfl)⟩) (by kernel_rfl) ?_
      refine DrH.keep [0, 1, 5, 25] (L' := [(0, .slice Aa0 a0.length ca0), (1, .slice Aa1 a1.length ca1), (5, .int .i64 v_i5), (25, .bool (!sEq x1 x2))]) (by kernel_rfl) ?_
      refine DrH.done (by kernel_rfl) ?_
      rcases bool_cases (!sEq x1 x2) with hb3 | hb3
      · replace heq := bif_true hb3 heq
        refine RunH.condT (c := !sEq x1 x2) (by kernel_rfl) hb3 ?_
        refine RunH.adm 1 (es' := [.c [1, 1, 0, 1, 0, 0, 1, 0, 0, 1, 0, 0], .c [1, 1, 0, 1, 0, 0, 1, 0, 0, 1, 0, 1], .b 1, .c [1, 1, 0, 1, 0, 0, 1, 1], .l [1, 1, 0, 1, 0, 0], .b 0, .c [1, 1, 1]]) (by kernel_rfl) ?_
        refine RunH.reg (by kernel_rfl) ?_
        refine RgH.runk 1 [4] (vs := []) (evs := []) (L' := [(4, .bool false)]) (by kernel_rfl) (by kernel_rfl) (fun _ _ => trivial) ?_
        refine RgH.done (by kernel_rfl) ?_
        obtain rfl := Option.some.inj heq
        exact RunH.done (by kernel_rfl) Tryd.func56 (v := .bool false) (by kernel_rfl) ⟨rfl, rfl, rfl⟩
      · replace heq := bif_false hb3 heq
        refine RunH.condF (c := !sEq x1 x2) (by kernel_rfl) hb3 ?_
        refine RunH.adm 2 (es' := [.c [1, 1, 0, 1, 0, 0, 1, 1], .l [1, 1, 0, 1, 0, 0], .b 0, .c [1, 1, 1]]) (by kernel_rfl) ?_
        refine RunH.reg (by kernel_rfl) ?_
        refine RgH.runk 3 [0, 1, 5] (vs := []) (evs := []) (L' := [(0, .slice Aa0 a0.length ca0), (1, .slice Aa1 a1.length ca1), (5, .int .i64 (w64 (v_i5 + 1)))]) (by kernel_rfl) (by kernel_rfl) (fun _ _ => trivial) ?_
        refine RgH.done (by kernel_rfl) ?_
        refine RunH.adm 1 (es' := [.c [1, 1, 0, 1, 0, 0], .l [1, 1, 0, 1, 0, 0], .b 0, .c [1, 1, 1]]) (by kernel_rfl) ?_
        refine RunH.keep [0, 1, 5] (L' := [(0, .slice Aa0 a0.length ca0), (1, .slice Aa1 a1.length ca1), (5, .int .i64 (w64 (v_i5 + 1)))]) (by kernel_rfl) ?_
        exact ihk a0 _ _ a1 _ _ (w64 (v_i5 + 1)) hra0 hca0 hra1 hca1 heq
    · replace heq := bif_false hb2 heq
      refine RunH.condF (c := decide (v_i5 < (a0.length : Int))) (by kernel_rfl) hb2 ?_
      refine RunH.adm 2 (es' := [.c [1, 1, 1, 0], .c [1, 1, 1, 1]]) (by kernel_rfl) ?_
      refine RunH.keep [] (L' := []) (by kernel_rfl) ?_
      exact he1 heq
theorem smithyardref7_sameList_c {w0 : World} {H : Hp} {F : List Ch} {a0 : List ByteArray} {Aa0 : Option Addr} {na0 : Nat} {ca0 : Nat} {a1 : List ByteArray} {Aa1 : Option Addr} {na1 : Nat} {ca1 : Nat} {r : Bool} (hra0 : Rw Kd.string H F Aa0 a0) (hca0 : na0 ≤ ca0) (hna0 : na0 = a0.length) (hra1 : Rw Kd.string H F Aa1 a1) (hca1 : na1 ≤ ca1) (hna1 : na1 = a1.length) (heq : smithyardref7_sameList.f a0 a1 = some r) : CallsH Tryd.prog 56 #[.slice Aa0 na0 ca0, .slice Aa1 na1 ca1] H w0 (F) (S56 F H r) := by
  refine calls_of_runH (F := C56) Tryd.func56 (by kernel_rfl) Tryd.ntmps56 (args := [.slice Aa0 na0 ca0, .slice Aa1 na1 ca1]) (by kernel_rfl) ?_
  subst hna0
  subst hna1
  unfold smithyardref7_sameList.f at heq
  refine RunH.adm 1 (es' := [.c [0], .c [1]]) (by kernel_rfl) ?_
  refine RunH.reg (by kernel_rfl) ?_
  refine RgH.runk 1 [0, 1] (vs := []) (evs := []) (L' := [(0, .slice Aa0 a0.length ca0), (1, .slice Aa1 a1.length ca1)]) (by kernel_rfl) (by kernel_rfl) (fun _ _ => trivial) ?_
  refine RgH.done (by kernel_rfl) ?_
  refine RunH.adm 2 (es' := [.c [1, 0, 0], .c [1, 0, 1], .c [1, 1]]) (by kernel_rfl) ?_
  refine RunH.reg (by kernel_rfl) ?_
  refine RgH.runk 5 [0, 1, 10] (vs := []) (evs := []) (L' := [(0, .slice Aa0 a0.length ca0), (1, .slice Aa1 a1.length ca1), (10, .bool ((a0.length : Int) != (a1.length : Int)))]) (by kernel_rfl) (by kernel_rfl) (fun _ _ => trivial) ?_
  refine RgH.done (by kernel_rfl) ?_
  rcases bool_cases ((a0.length : Int) != (a1.length : Int)) with hb1 | hb1
  · replace heq := bif_true hb1 heq
    refine RunH.condT (c := (a0.length : Int) != (a1.length : Int)) (by kernel_rfl) hb1 ?_
    refine RunH.adm 1 (es' := [.c [1, 0, 1, 0, 0], .c [1, 0, 1, 0, 1], .c [1, 1]]) (by kernel_rfl) ?_
    refine RunH.reg (by kernel_rfl) ?_
    refine RgH.runk 1 [4] (vs := []) (evs := []) (L' := [(4, .bool false)]) (by kernel_rfl) (by kernel_rfl) (fun _ _ => trivial) ?_
    refine RgH.done (by kernel_rfl) ?_
    obtain rfl := Option.some.inj heq
    exact RunH.done (by kernel_rfl) Tryd.func56 (v := .bool false) (by kernel_rfl) ⟨rfl, rfl, rfl⟩
  · replace heq := bif_false hb1 heq
    refine RunH.condF (c := (a0.length : Int) != (a1.length : Int)) (by kernel_rfl) hb1 ?_
    refine RunH.adm 3 (es' := [.c [1, 1, 0, 0], .c [1, 1, 0, 1], .c [1, 1, 1]]) (by kernel_rfl) ?_
    refine RunH.reg (by kernel_rfl) ?_
    refine RgH.runk 1 [0, 1, 5] (vs := []) (evs := []) (L' := [(0, .slice Aa0 a0.length ca0), (1, .slice Aa1 a1.length ca1), (5, .int .i64 0)]) (by kernel_rfl) (by kernel_rfl) (fun _ _ => trivial) ?_
    refine RgH.done (by kernel_rfl) ?_
    refine RunH.adm 2 (es' := [.c [1, 1, 0, 1, 0, 0], .l [1, 1, 0, 1, 0, 0], .b 0, .c [1, 1, 1]]) (by kernel_rfl) ?_
    refine RunH.keep [0, 1, 5] (L' := [(0, .slice Aa0 a0.length ca0), (1, .slice Aa1 a1.length ca1), (5, .int .i64 0)]) (by kernel_rfl) ?_
    exact ((smithyardref7_sameList.l2_c (e1 := smithyardref7_sameList.e1) (smithyardref7_sameList.e1_c)) big) a0 _ _ a1 _ _ 0 hra0 hca0 hra1 hca1 heq
noncomputable def C21 : Ctx := { P := Tryd.prog, f := 21, N := 106, c := bodyOf Tryd.f21 }
def S21 (F : List Ch) (H0 : Hp) (r : Bool) (v : Value) (H : Hp) (cs : List Ch) : Prop := H0 = H ∧ v = .bool r ∧ F = cs
theorem smithyardref7_Same.e2_c {w0 : World} {H : Hp} {F : List Ch} {r : Bool} : smithyardref7_Same.e2 = some r → RunH C21 (S21 F H r) H w0 [.c [1, 1, 1, 1, 0], .c [1, 1, 1, 1, 1]] [] H (F) := by
  intro   heq
  unfold smithyardref7_Same.e2 at heq
  refine RunH.reg (by kernel_rfl) ?_
  refine RgH.runk 1 [4] (vs := []) (evs := []) (L' := [(4, .bool true)]) (by kernel_rfl) (by kernel_rfl) (fun _ _ => trivial) ?_
  refine RgH.done (by kernel_rfl) ?_
  obtain rfl := Option.some.inj heq
  exact RunH.done (by kernel_rfl) Tryd.func21 (v := .bool true) (by kernel_rfl) ⟨rfl, rfl, rfl⟩
theorem smithyardref7_Same.l3_c {w0 : World} {H : Hp} {F : List Ch} {r : Bool} (e2 : Option Bool)
    (he2 : e2 = some r → RunH C21 (S21 F H r) H w0 [.c [1, 1, 1, 1, 0], .c [1, 1, 1, 1, 1]] [] H (F)) : ∀ (k : Nat), ∀ (a0 : Cache) (Aa0_2 : Option Addr) (ca0_2 : Nat) (Aa0_3 : Option Addr) (ca0_3 : Nat) (a1 : Cache) (Aa1_2 : Option Addr) (ca1_2 : Nat) (Aa1_3 : Option Addr) (ca1_3 : Nat) (g1 : Nat) (g2 : Nat) (v_i6 : Int) , Rw kBlob H F Aa0_2 a0.Blobs → a0.Blobs.length ≤ ca0_2 → Rw kEntry H F Aa0_3 a0.Entries → a0.Entries.length ≤ ca0_3 → Rw kBlob H F Aa1_2 a1.Blobs → a1.Blobs.length ≤ ca1_2 → Rw kEntry H F Aa1_3 a1.Entries → a1.Entries.length ≤ ca1_3 → smithyardref7_Same.l3 e2 k a0 a1 v_i6 = some r → RunH C21 (S21 F H r) H w0 [.c [1, 1, 1, 0, 1, 0, 0], .l [1, 1, 1, 0, 1, 0, 0], .b 2, .c [1, 1, 1, 1]] [(2, .pointer (some ⟨g1, 0, none⟩)), (3, .pointer (some ⟨g2, 0, none⟩)), (6, .int .i64 v_i6)] H ((some (g2, .cells #[.int .i64 a1.Room, .int .i64 a1.Lease, .slice Aa1_2 a1.Blobs.length ca1_2, .slice Aa1_3 a1.Entries.length ca1_3] 25 (0, 0))) :: (some (g1, .cells #[.int .i64 a0.Room, .int .i64 a0.Lease, .slice Aa0_2 a0.Blobs.length ca0_2, .slice Aa0_3 a0.Entries.length ca0_3] 25 (0, 0))) :: F) := by
  intro k
  induction k with
  | zero => intro a0 Aa0_2 ca0_2 Aa0_3 ca0_3 a1 Aa1_2 ca1_2 Aa1_3 ca1_3 g1 g2 v_i6 hra0_2 hca0_2 hra0_3 hca0_3 hra1_2 hca1_2 hra1_3 hca1_3 heq; exact nomatch (show (none : Option Bool) = some r from heq)
  | succ k ihk =>
    intro a0 Aa0_2 ca0_2 Aa0_3 ca0_3 a1 Aa1_2 ca1_2 Aa1_3 ca1_3 g1 g2 v_i6 hra0_2 hca0_2 hra0_3 hca0_3 hra1_2 hca1_2 hra1_3 hca1_3 heq
    rw [smithyardref7_Same.l3] at heq
    refine RunH.adm 2 (es' := [.c [1, 1, 1, 0, 1, 0, 0, 0, 0], .c [1, 1, 1, 0, 1, 0, 0, 0, 1], .c [1, 1, 1, 0, 1, 0, 0, 1], .l [1, 1, 1, 0, 1, 0, 0], .b 2, .c [1, 1, 1, 1]]) (by kernel_rfl) ?_
    refine RunH.reg (by kernel_rfl) ?_
    refine RgH.runk 5 [2, 3, 6, 59] (vs := [.slice Aa0_3 a0.Entries.length ca0_3]) (evs := [.load ⟨g1, 3, none⟩ (.slice Aa0_3 a0.Entries.length ca0_3)]) (L' := [(2, .pointer (some ⟨g1, 0, none⟩)), (3, .pointer (some ⟨g2, 0, none⟩)), (6, .int .i64 v_i6), (59, .bool (decide (v_i6 < (a0.Entries.length : Int))))]) (by kernel_rfl) (by kernel_rfl) (fun w hh => (hh.box 1 rfl rfl)) ?_
    refine RgH.done (by kernel_rfl) ?_
    rcases bool_cases (decide (v_i6 < (a0.Entries.length : Int))) with hb5 | hb5
    · replace heq := bif_true hb5 heq
      refine RunH.condT (c := decide (v_i6 < (a0.Entries.length : Int))) (by kernel_rfl) hb5 ?_
      refine RunH.adm 4 (es' := [.c [1, 1, 1, 0, 1, 0, 0, 1, 0, 0, 0], .c [1, 1, 1, 0, 1, 0, 0, 1, 0, 0, 1], .b 3, .c [1, 1, 1, 0, 1, 0, 0, 1, 1], .l [1, 1, 1, 0, 1, 0, 0], .b 2, .c [1, 1, 1, 1]]) (by kernel_rfl) ?_
      obtain ⟨t2, ht2, heq⟩ := bind_some heq
      have K4 : RunH C21 (S21 F H r) H w0 [.c [1, 1, 1, 0, 1, 0, 0, 1, 0, 0, 1], .b 3, .c [1, 1, 1, 0, 1, 0, 0, 1, 1], .l [1, 1, 1, 0, 1, 0, 0], .b 2, .c [1, 1, 1, 1]] [(2, .pointer (some ⟨g1, 0, none⟩)), (3, .pointer (some ⟨g2, 0, none⟩)), (6, .int .i64 v_i6), (105, .bool t2)] H ((some (g2, .cells #[.int .i64 a1.Room, .int .i64 a1.Lease, .slice Aa1_2 a1.Blobs.length ca1_2, .slice Aa1_3 a1.Entries.length ca1_3] 25 (0, 0))) :: (some (g1, .cells #[.int .i64 a0.Room, .int .i64 a0.Lease, .slice Aa0_2 a0.Blobs.length ca0_2, .slice Aa0_3 a0.Entries.length ca0_3] 25 (0, 0))) :: F) := by
        rcases bool_cases (t2) with hb8 | hb8
        · replace heq := bif_true hb8 heq
          refine RunH.condT (c := t2) (by kernel_rfl) hb8 ?_
          refine RunH.adm 1 (es' := [.c [1, 1, 1, 0, 1, 0, 0, 1, 0, 0, 1, 0, 0], .c [1, 1, 1, 0, 1, 0, 0, 1, 0, 0, 1, 0, 1], .b 3, .c [1, 1, 1, 0, 1, 0, 0, 1, 1], .l [1, 1, 1, 0, 1, 0, 0], .b 2, .c [1, 1, 1, 1]]) (by kernel_rfl) ?_
          refine RunH.reg (by kernel_rfl) ?_
          refine RgH.runk 1 [4] (vs := []) (evs := []) (L' := [(4, .bool false)]) (by kernel_rfl) (by kernel_rfl) (fun _ _ => trivial) ?_
          refine RgH.done (by kernel_rfl) ?_
          obtain rfl := Option.some.inj heq
          refine RunH.pick 2 [] (cs' := F) (by kernel_rfl) rfl ?_
          exact RunH.done (by kernel_rfl) Tryd.func21 (v := .bool false) (by kernel_rfl) ⟨rfl, rfl, rfl⟩
        · replace heq := bif_false hb8 heq
          refine RunH.condF (c := t2) (by kernel_rfl) hb8 ?_
          refine RunH.adm 2 (es' := [.c [1, 1, 1, 0, 1, 0, 0, 1, 1], .l [1, 1, 1, 0, 1, 0, 0], .b 2, .c [1, 1, 1, 1]]) (by kernel_rfl) ?_
          refine RunH.reg (by kernel_rfl) ?_
          refine RgH.runk 3 [2, 3, 6] (vs := []) (evs := []) (L' := [(2, .pointer (some ⟨g1, 0, none⟩)), (3, .pointer (some ⟨g2, 0, none⟩)), (6, .int .i64 (w64 (v_i6 + 1)))]) (by kernel_rfl) (by kernel_rfl) (fun _ _ => trivial) ?_
          refine RgH.done (by kernel_rfl) ?_
          refine RunH.adm 1 (es' := [.c [1, 1, 1, 0, 1, 0, 0], .l [1, 1, 1, 0, 1, 0, 0], .b 2, .c [1, 1, 1, 1]]) (by kernel_rfl) ?_
          refine RunH.keep [2, 3, 6] (L' := [(2, .pointer (some ⟨g1, 0, none⟩)), (3, .pointer (some ⟨g2, 0, none⟩)), (6, .int .i64 (w64 (v_i6 + 1)))]) (by kernel_rfl) ?_
          exact ihk a0 _ _ _ _ a1 _ _ _ _ _ _ (w64 (v_i6 + 1)) hra0_2 hca0_2 hra0_3 hca0_3 hra1_2 hca1_2 hra1_3 hca1_3 heq
      replace heq := ht2
      refine RunH.keep [2, 3, 6] (L' := [(2, .pointer (some ⟨g1, 0, none⟩)), (3, .pointer (some ⟨g2, 0, none⟩)), (6, .int .i64 v_i6)]) (by kernel_rfl) ?_
      refine RunH.draw (fun w => Heap H w0 w ((some (g2, .cells #[.int .i64 a1.Room, .int .i64 a1.Lease, .slice Aa1_2 a1.Blobs.length ca1_2, .slice Aa1_3 a1.Entries.length ca1_3] 25 (0, 0))) :: (some (g1, .cells #[.int .i64 a0.Room, .int .i64 a0.Lease, .slice Aa0_2 a0.Blobs.length ca0_2, .slice Aa0_3 a0.Entries.length ca0_3] 25 (0, 0))) :: F)) (fun w => Heap H w0 w ((some (g2, .cells #[.int .i64 a1.Room, .int .i64 a1.Lease, .slice Aa1_2 a1.Blobs.length ca1_2, .slice Aa1_3 a1.Entries.length ca1_3] 25 (0, 0))) :: (some (g1, .cells #[.int .i64 a0.Room, .int .i64 a0.Lease, .slice Aa0_2 a0.Blobs.length ca0_2, .slice Aa0_3 a0.Entries.length ca0_3] 25 (0, 0))) :: F)) [false, false, false, false, false, false, false, false, false, false, false, false, false, false, false, false, false, false, false, false, false, false, false, false, false, false, false, false, false, false, false, false, false, false, false, false, false, false, false, false, false, false, false, false] (n := 44) (ls := [false, false, false, false, false, false, false, false, false, false, false, false, false, false, false, false, false, false, false, false, false, false, false, false, false, false, false, false, false, false, false, false, false, false, false, false, false, false, false, false, false, false, false, false]) (by kernel_rfl) (by kernel_rfl) (by kernel_rfl) rfl ?_
      obtain ⟨x1, hx1, heq⟩ := bind_some heq
      obtain ⟨ha1, cs1, hK1, hcc1⟩ := hra0_3.get hx1
      obtain ⟨A1, c1, rfl, hc1, hr1⟩ := kEntry_open hK1
      obtain ⟨x2, hx2, heq⟩ := bind_some heq
      obtain ⟨ha2, cs2, hK2, hcc2⟩ := hra1_3.get hx2
      obtain ⟨A2, c2, rfl, hc2, hr2⟩ := kEntry_open hK2
      refine DrH.run [0, 1, 2, 3, 4, 5, 6, 7, 8, 9, 10, 11, 12, 13] (m := 30) (ls' := [true, true, true, true, true, true, true, true, true, true, true, true, true, true, false, false, false, false, false, false, false, false, false, false, false, false, false, false, false, false, false, false, false, false, false, false, false, false, false, false, false, false, false, false]) (vs := [.slice Aa0_3 a0.Entries.length ca0_3, .string x1.Key, .slice Aa1_3 a1.Entries.length ca1_3, .string x2.Key]) (evs := [.load ⟨g1, 3, none⟩ (.slice Aa0_3 a0.Entries.length ca0_3), .need (Aa0_3 = some (adr Aa0_3) ∧ (0 : Int) ≤ v_i6 ∧ v_i6 < ((a0.Entries.length : Nat) : Int)), .load (((adr Aa0_3).add (v_i6.toNat * 3)).add 0) (.string x1.Key), .load ⟨g2, 3, none⟩ (.slice Aa1_3 a1.Entries.length ca1_3), .need (Aa1_3 = some (adr Aa1_3) ∧ (0 : Int) ≤ v_i6 ∧ v_i6 < ((a1.Entries.length : Nat) : Int)), .load (((adr Aa1_3).add (v_i6.toNat * 3)).add 0) (.string x2.Key)]) (L' := [(75, .bool (!sEq x1.Key x2.Key)), (74, .bool (!sEq x1.Key x2.Key)), (73, .string x2.Key), (72, .pointer (some (((adr Aa1_3).add (v_i6.toNat * 3)).add 0))), (71, .pointer (some ((adr Aa1_3).add (v_i6.toNat * 3)))), (70, .int .i64 v_i6), (69, .slice Aa1_3 a1.Entries.length ca1_3), (68, .pointer (some ⟨g2, 3, none⟩)), (67, .string x1.Key), (66, .pointer (some (((adr Aa0_3).add (v_i6.toNat * 3)).add 0))), (65, .pointer (some ((adr Aa0_3).add (v_i6.toNat * 3)))), (64, .int .i64 v_i6), (63, .slice Aa0_3 a0.Entries.length ca0_3), (62, .pointer (some ⟨g1, 3, none⟩)), (2, .pointer (some ⟨g1, 0, none⟩)), (3, .pointer (some ⟨g2, 0, none⟩)), (6, .int .i64 v_i6)]) (by kernel_rfl) (fun w hh => hh.pick 2 [0, 1] (by kernel_rfl)) (fun w hh => hh.pick 2 [0, 1] (by kernel_rfl)) (by kernel_rfl) (fun w hh => ⟨(hh.box 1 rfl rfl), ⟨ha1, (at?_some hx1).1, (at?_some hx1).2.1⟩, (hcc1 _ _ (hh.drop 2) 0 _ rfl), (hh.box 0 rfl rfl), ⟨ha2, (at?_some hx2).1, (at?_some hx2).2.1⟩, (hcc2 _ _ (hh.drop 2) 0 _ rfl)⟩) (by kernel_rfl) ?_
      refine DrH.keep [75, 2, 3, 6] (L' := [(75, .bool (!sEq x1.Key x2.Key)), (2, .pointer (some ⟨g1, 0, none⟩)), (3, .pointer (some ⟨g2, 0, none⟩)), (6, .int .i64 v_i6)]) (by kernel_rfl) ?_
      rcases bool_cases (!sEq x1.Key x2.Key) with hb6 | hb6
      · replace heq := bif_true hb6 heq
        refine DrH.val1 (v' := .bool true) (congrArg Value.bool hb6) ?_
        refine DrH.run [14, 15, 16, 17, 18, 19, 20, 21, 22, 23, 24, 25, 26, 27, 28, 29, 30, 31, 32, 33, 34, 35, 36, 37, 38, 39, 40, 41, 42, 43] (m := 0) (ls' := [true, true, true, true, true, true, true, true, true, true, true, true, true, true, true, true, true, true, true, true, true, true, true, true, true, true, true, true, true, true, true, true, true, true, true, true, true, true, true, true, true, true, true, true]) (vs := []) (evs := []) (L' := [(105, .bool true), (104, undef), (103, undef), (102, undef), (101, undef), (100, undef), (99, undef), (98, undef), (97, undef), (96, undef), (95, undef), (94, undef), (93, undef), (92, undef), (91, undef), (90, .bool true), (89, .bool true), (88, undef), (87, undef), (86, undef), (85, undef), (84, undef), (83, undef), (82, undef), (81, undef), (80, undef), (79, undef), (78, undef), (77, undef), (76, undef), (75, .bool true), (2, .pointer (some ⟨g1, 0, none⟩)), (3, .pointer (some ⟨g2, 0, none⟩)), (6, .int .i64 v_i6)]) (by kernel_rfl) (fun w hh => hh.pick 2 [0, 1] (by kernel_rfl)) (fun w hh => hh.pick 2 [0, 1] (by kernel_rfl)) (by kernel_rfl) (fun _ _ => trivial) (by kernel_rfl) ?_
        refine DrH.keep [2, 3, 6, 105] (L' := [(2, .pointer (some ⟨g1, 0, none⟩)), (3, .pointer (some ⟨g2, 0, none⟩)), (6, .int .i64 v_i6), (105, .bool true)]) (by kernel_rfl) ?_
        obtain rfl := Option.some.inj heq
        refine DrH.keep [2, 3, 6, 105] (L' := [(2, .pointer (some ⟨g1, 0, none⟩)), (3, .pointer (some ⟨g2, 0, none⟩)), (6, .int .i64 v_i6), (105, .bool true)]) (by kernel_rfl) ?_
        refine DrH.done (by kernel_rfl) ?_
        exact K4
      · replace heq := bif_false hb6 heq
        refine DrH.val1 (v' := .bool false) (congrArg Value.bool hb6) ?_
        obtain ⟨ha3, cs3, hK3, hcc3⟩ := hra0_3.get hx1
        obtain ⟨A3, c3, rfl, hc3, hr3⟩ := kEntry_open hK3
        obtain ⟨ha4, cs4, hK4, hcc4⟩ := hra1_3.get hx2
        obtain ⟨A4, c4, rfl, hc4, hr4⟩ := kEntry_open hK4
        refine DrH.run [14, 15, 16, 17, 18, 19, 20, 21, 22, 23, 24, 25, 26, 27, 28] (m := 15) (ls' := [true, true, true, true, true, true, true, true, true, true, true, true, true, true, true, true, true, true, true, true, true, true, true, true, true, true, true, true, true, false, false, false, false, false, false, false, false, false, false, false, false, false, false, false]) (vs := [.slice Aa0_3 a0.Entries.length ca0_3, .int .i64 x1.Used, .slice Aa1_3 a1.Entries.length ca1_3, .int .i64 x2.Used]) (evs := [.load ⟨g1, 3, none⟩ (.slice Aa0_3 a0.Entries.length ca0_3), .need (Aa0_3 = some (adr Aa0_3) ∧ (0 : Int) ≤ v_i6 ∧ v_i6 < ((a0.Entries.length : Nat) : Int)), .load (((adr Aa0_3).add (v_i6.toNat * 3)).add 2) (.int .i64 x1.Used), .load ⟨g2, 3, none⟩ (.slice Aa1_3 a1.Entries.length ca1_3), .need (Aa1_3 = some (adr Aa1_3) ∧ (0 : Int) ≤ v_i6 ∧ v_i6 < ((a1.Entries.length : Nat) : Int)), .load (((adr Aa1_3).add (v_i6.toNat * 3)).add 2) (.int .i64 x2.Used)]) (L' := [(90, .bool (x1.Used != x2.Used)), (89, .bool (x1.Used != x2.Used)), (88, .bool (x1.Used != x2.Used)), (87, .int .i64 x2.Used), (86, .pointer (some (((adr Aa1_3).add (v_i6.toNat * 3)).add 2))), (85, .pointer (some ((adr Aa1_3).add (v_i6.toNat * 3)))), (84, .int .i64 v_i6), (83, .slice Aa1_3 a1.Entries.length ca1_3), (82, .pointer (some ⟨g2, 3, none⟩)), (81, .int .i64 x1.Used), (80, .pointer (some (((adr Aa0_3).add (v_i6.toNat * 3)).add 2))), (79, .pointer (some ((adr Aa0_3).add (v_i6.toNat * 3)))), (78, .int .i64 v_i6), (77, .slice Aa0_3 a0.Entries.length ca0_3), (76, .pointer (some ⟨g1, 3, none⟩)), (75, .bool false), (2, .pointer (some ⟨g1, 0, none⟩)), (3, .pointer (some ⟨g2, 0, none⟩)), (6, .int .i64 v_i6)]) (by kernel_rfl) (fun w hh => hh.pick 2 [0, 1] (by kernel_rfl)) (fun w hh => hh.pick 2 [0, 1] (by kernel_rfl)) (by kernel_rfl) (fun w hh => ⟨(hh.box 1 rfl rfl), ⟨ha3, (at?_some hx1).1, (at?_some hx1).2.1⟩, (hcc3 _ _ (hh.drop 2) 2 _ rfl), (hh.box 0 rfl rfl), ⟨ha4, (at?_some hx2).1, (at?_some hx2).2.1⟩, (hcc4 _ _ (hh.drop 2) 2 _ rfl)⟩) (by kernel_rfl) ?_
        refine DrH.keep [90, 2, 3, 6] (L' := [(90, .bool (x1.Used != x2.Used)), (2, .pointer (some ⟨g1, 0, none⟩)), (3, .pointer (some ⟨g2, 0, none⟩)), (6, .int .i64 v_i6)]) (by kernel_rfl) ?_
        rcases bool_cases (x1.Used != x2.Used) with hb7 | hb7
        · replace heq := bif_true hb7 heq
          refine DrH.val1 (v' := .bool true) (congrArg Value.bool hb7) ?_
          refine DrH.run [29, 30, 31, 32, 33, 34, 35, 36, 37, 38, 39, 40, 41, 42, 43] (m := 0) (ls' := [true, true, true, true, true, true, true, true, true, true, true, true, true, true, true, true, true, true, true, true, true, true, true, true, true, true, true, true, true, true, true, true, true, true, true, true, true, true, true, true, true, true, true, true]) (vs := []) (evs := []) (L' := [(105, .bool true), (104, undef), (103, undef), (102, undef), (101, undef), (100, undef), (99, undef), (98, undef), (97, undef), (96, undef), (95, undef), (94, undef), (93, undef), (92, undef), (91, undef), (90, .bool true), (2, .pointer (some ⟨g1, 0, none⟩)), (3, .pointer (some ⟨g2, 0, none⟩)), (6, .int .i64 v_i6)]) (by kernel_rfl) (fun w hh => hh.pick 2 [0, 1] (by kernel_rfl)) (fun w hh => hh.pick 2 [0, 1] (by kernel_rfl)) (by kernel_rfl) (fun _ _ => trivial) (by kernel_rfl) ?_
          refine DrH.keep [2, 3, 6, 105] (L' := [(2, .pointer (some ⟨g1, 0, none⟩)), (3, .pointer (some ⟨g2, 0, none⟩)), (6, .int .i64 v_i6), (105, .bool true)]) (by kernel_rfl) ?_
          obtain rfl := Option.some.inj heq
          refine DrH.keep [2, 3, 6, 105] (L' := [(2, .pointer (some ⟨g1, 0, none⟩)), (3, .pointer (some ⟨g2, 0, none⟩)), (6, .int .i64 v_i6), (105, .bool true)]) (by kernel_rfl) ?_
          refine DrH.done (by kernel_rfl) ?_
          exact K4
        · replace heq := bif_false hb7 heq
          refine DrH.val1 (v' := .bool false) (congrArg Value.bool hb7) ?_
          obtain ⟨ha5, cs5, hK5, hcc5⟩ := hra0_3.get hx1
          obtain ⟨A5, c5, rfl, hc5, hr5⟩ := kEntry_open hK5
          obtain ⟨ha6, cs6, hK6, hcc6⟩ := hra1_3.get hx2
          obtain ⟨A6, c6, rfl, hc6, hr6⟩ := kEntry_open hK6
          refine DrH.run [29, 30, 31, 32, 33, 34, 35, 36, 37, 38, 39, 40] (m := 3) (ls' := [true, true, true, true, true, true, true, true, true, true, true, true, true, true, true, true, true, true, true, true, true, true, true, true, true, true, true, true, true, true, true, true, true, true, true, true, true, true, true, true, true, false, false, false]) (vs := [.slice Aa0_3 a0.Entries.length ca0_3, .slice A5 x1.Refs.length c5, .slice Aa1_3 a1.Entries.length ca1_3, .slice A6 x2.Refs.length c6]) (evs := [.load ⟨g1, 3, none⟩ (.slice Aa0_3 a0.Entries.length ca0_3), .need (Aa0_3 = some (adr Aa0_3) ∧ (0 : Int) ≤ v_i6 ∧ v_i6 < ((a0.Entries.length : Nat) : Int)), .load (((adr Aa0_3).add (v_i6.toNat * 3)).add 1) (.slice A5 x1.Refs.length c5), .load ⟨g2, 3, none⟩ (.slice Aa1_3 a1.Entries.length ca1_3), .need (Aa1_3 = some (adr Aa1_3) ∧ (0 : Int) ≤ v_i6 ∧ v_i6 < ((a1.Entries.length : Nat) : Int)), .load (((adr Aa1_3).add (v_i6.toNat * 3)).add 1) (.slice A6 x2.Refs.length c6)]) (L' := [(102, .slice A6 x2.Refs.length c6), (101, .pointer (some (((adr Aa1_3).add (v_i6.toNat * 3)).add 1))), (100, .pointer (some ((adr Aa1_3).add (v_i6.toNat * 3)))), (99, .int .i64 v_i6), (98, .slice Aa1_3 a1.Entries.length ca1_3), (97, .pointer (some ⟨g2, 3, none⟩)), (96, .slice A5 x1.Refs.length c5), (95, .pointer (some (((adr Aa0_3).add (v_i6.toNat * 3)).add 1))), (94, .pointer (some ((adr Aa0_3).add (v_i6.toNat * 3)))), (93, .int .i64 v_i6), (92, .slice Aa0_3 a0.Entries.length ca0_3), (91, .pointer (some ⟨g1, 3, none⟩)), (90, .bool false), (2, .pointer (some ⟨g1, 0, none⟩)), (3, .pointer (some ⟨g2, 0, none⟩)), (6, .int .i64 v_i6)]) (by kernel_rfl) (fun w hh => hh.pick 2 [0, 1] (by kernel_rfl)) (fun w hh => hh.pick 2 [0, 1] (by kernel_rfl)) (by kernel_rfl) (fun w hh => ⟨(hh.box 1 rfl rfl), ⟨ha5, (at?_some hx1).1, (at?_some hx1).2.1⟩, (hcc5 _ _ (hh.drop 2) 1 _ rfl), (hh.box 0 rfl rfl), ⟨ha6, (at?_some hx2).1, (at?_some hx2).2.1⟩, (hcc6 _ _ (hh.drop 2) 1 _ rfl)⟩) (by kernel_rfl) ?_
          refine DrH.keep [2, 3, 6, 90, 96, 102] (L' := [(2, .pointer (some ⟨g1, 0, none⟩)), (3, .pointer (some ⟨g2, 0, none⟩)), (6, .int .i64 v_i6), (90, .bool false), (96, .slice A5 x1.Refs.length c5), (102, .slice A6 x2.Refs.length c6)]) (by kernel_rfl) ?_
          obtain ⟨y1, hy1, heq⟩ := bind_some heq
          refine DrH.does (n := 2) (ls' := [true, true, true, true, true, true, true, true, true, true, true, true, true, true, true, true, true, true, true, true, true, true, true, true, true, true, true, true, true, true, true, true, true, true, true, true, true, true, true, true, true, true, false, false]) 41 (by kernel_rfl) rfl (DoesH.call (d := 103) (g := 56) (args := #[.slice A5 x1.Refs.length c5, .slice A6 x2.Refs.length c6]) (by kernel_rfl) (smithyardref7_sameList_c (a0 := x1.Refs) (a1 := x2.Refs) (Rw.of hr5) hc5 rfl (Rw.of hr6) hc6 rfl hy1)) ?_
          rintro _ _ _ _ ⟨_, rfl, rfl, rfl, rfl⟩
          refine ⟨fun w hh => ⟨(fun w hh => hh.pick 2 [0, 1] (by kernel_rfl)) w hh, fun _ => (fun w hh => hh.pick 2 [0, 1] (by kernel_rfl)) w hh⟩, ?_⟩
          refine DrH.run [42, 43] (m := 0) (ls' := [true, true, true, true, true, true, true, true, true, true, true, true, true, true, true, true, true, true, true, true, true, true, true, true, true, true, true, true, true, true, true, true, true, true, true, true, true, true, true, true, true, true, true, true]) (vs := []) (evs := []) (L' := [(105, .bool (!y1)), (104, .bool (!y1)), (103, .bool y1), (2, .pointer (some ⟨g1, 0, none⟩)), (3, .pointer (some ⟨g2, 0, none⟩)), (6, .int .i64 v_i6), (90, .bool false), (96, .slice A5 x1.Refs.length c5), (102, .slice A6 x2.Refs.length c6)]) (by kernel_rfl) (fun w hh => hh.pick 2 [0, 1] (by kernel_rfl)) (fun w hh => hh.pick 2 [0, 1] (by kernel_rfl)) (by kernel_rfl) (fun _ _ => trivial) (by kernel_rfl) ?_
          refine DrH.keep [2, 3, 6, 105] (L' := [(2, .pointer (some ⟨g1, 0, none⟩)), (3, .pointer (some ⟨g2, 0, none⟩)), (6, .int .i64 v_i6), (105, .bool (!y1))]) (by kernel_rfl) ?_
          obtain rfl := Option.some.inj heq
          refine DrH.keep [2, 3, 6, 105] (L' := [(2, .pointer (some ⟨g1, 0, none⟩)), (3, .pointer (some ⟨g2, 0, none⟩)), (6, .int .i64 v_i6), (105, .bool (!y1))]) (by kernel_rfl) ?_
          refine DrH.done (by kernel_rfl) ?_
          exact K4
    · replace heq := bif_false hb5 heq
      refine RunH.condF (c := decide (v_i6 < (a0.Entries.length : Int))) (by kernel_rfl) hb5 ?_
      refine RunH.adm 2 (es' := [.c [1, 1, 1, 1, 0], .c [1, 1, 1, 1, 1]]) (by kernel_rfl) ?_
      refine RunH.keep [] (L' := []) (by kernel_rfl) ?_
      refine RunH.pick 2 [] (cs' := F) (by kernel_rfl) rfl ?_
      exact he2 heq
theorem smithyardref7_Same.e1_c {w0 : World} {H : Hp} {F : List Ch} {r : Bool} : ∀ (a0 : Cache) (Aa0_2 : Option Addr) (ca0_2 : Nat) (Aa0_3 : Option Addr) (ca0_3 : Nat) (a1 : Cache) (Aa1_2 : Option Addr) (ca1_2 : Nat) (Aa1_3 : Option Addr) (ca1_3 : Nat) (g1 : Nat) (g2 : Nat) , Rw kBlob H F Aa0_2 a0.Blobs → a0.Blobs.length ≤ ca0_2 → Rw kEntry H F Aa0_3 a0.Entries → a0.Entries.length ≤ ca0_3 → Rw kBlob H F Aa1_2 a1.Blobs → a1.Blobs.length ≤ ca1_2 → Rw kEntry H F Aa1_3 a1.Entries → a1.Entries.length ≤ ca1_3 → smithyardref7_Same.e1 a0 a1 = some r → RunH C21 (S21 F H r) H w0 [.c [1, 1, 1, 0, 0], .c [1, 1, 1, 0, 1], .c [1, 1, 1, 1]] [(2, .pointer (some ⟨g1, 0, none⟩)), (3, .pointer (some ⟨g2, 0, none⟩))] H ((some (g2, .cells #[.int .i64 a1.Room, .int .i64 a1.Lease, .slice Aa1_2 a1.Blobs.length ca1_2, .slice Aa1_3 a1.Entries.length ca1_3] 25 (0, 0))) :: (some (g1, .cells #[.int .i64 a0.Room, .int .i64 a0.Lease, .slice Aa0_2 a0.Blobs.length ca0_2, .slice Aa0_3 a0.Entries.length ca0_3] 25 (0, 0))) :: F) := by
  intro a0 Aa0_2 ca0_2 Aa0_3 ca0_3 a1 Aa1_2 ca1_2 Aa1_3 ca1_3 g1 g2 hra0_2 hca0_2 hra0_3 hca0_3 hra1_2 hca1_2 hra1_3 hca1_3 heq
  unfold smithyardref7_Same.e1 at heq
  refine RunH.reg (by kernel_rfl) ?_
  refine RgH.runk 1 [2, 3, 6] (vs := []) (evs := []) (L' := [(2, .pointer (some ⟨g1, 0, none⟩)), (3, .pointer (some ⟨g2, 0, none⟩)), (6, .int .i64 0)]) (by kernel_rfl) (by kernel_rfl) (fun _ _ => trivial) ?_
  refine RgH.done (by kernel_rfl) ?_
  refine RunH.adm 2 (es' := [.c [1, 1, 1, 0, 1, 0, 0], .l [1, 1, 1, 0, 1, 0, 0], .b 2, .c [1, 1, 1, 1]]) (by kernel_rfl) ?_
  refine RunH.keep [2, 3, 6] (L' := [(2, .pointer (some ⟨g1, 0, none⟩)), (3, .pointer (some ⟨g2, 0, none⟩)), (6, .int .i64 0)]) (by kernel_rfl) ?_
  exact ((smithyardref7_Same.l3_c (e2 := smithyardref7_Same.e2) (smithyardref7_Same.e2_c)) big) a0 _ _ _ _ a1 _ _ _ _ _ _ 0 hra0_2 hca0_2 hra0_3 hca0_3 hra1_2 hca1_2 hra1_3 hca1_3 heq
theorem smithyardref7_Same.l4_c {w0 : World} {H : Hp} {F : List Ch} {r : Bool} (e1 : Cache → Cache → Option Bool)
    (he1 : ∀ (a0 : Cache) (Aa0_2 : Option Addr) (ca0_2 : Nat) (Aa0_3 : Option Addr) (ca0_3 : Nat) (a1 : Cache) (Aa1_2 : Option Addr) (ca1_2 : Nat) (Aa1_3 : Option Addr) (ca1_3 : Nat) (g1 : Nat) (g2 : Nat) , Rw kBlob H F Aa0_2 a0.Blobs → a0.Blobs.length ≤ ca0_2 → Rw kEntry H F Aa0_3 a0.Entries → a0.Entries.length ≤ ca0_3 → Rw kBlob H F Aa1_2 a1.Blobs → a1.Blobs.length ≤ ca1_2 → Rw kEntry H F Aa1_3 a1.Entries → a1.Entries.length ≤ ca1_3 → e1 a0 a1 = some r → RunH C21 (S21 F H r) H w0 [.c [1, 1, 1, 0, 0], .c [1, 1, 1, 0, 1], .c [1, 1, 1, 1]] [(2, .pointer (some ⟨g1, 0, none⟩)), (3, .pointer (some ⟨g2, 0, none⟩))] H ((some (g2, .cells #[.int .i64 a1.Room, .int .i64 a1.Lease, .slice Aa1_2 a1.Blobs.length ca1_2, .slice Aa1_3 a1.Entries.length ca1_3] 25 (0, 0))) :: (some (g1, .cells #[.int .i64 a0.Room, .int .i64 a0.Lease, .slice Aa0_2 a0.Blobs.length ca0_2, .slice Aa0_3 a0.Entries.length ca0_3] 25 (0, 0))) :: F)) : ∀ (k : Nat), ∀ (a0 : Cache) (Aa0_2 : Option Addr) (ca0_2 : Nat) (Aa0_3 : Option Addr) (ca0_3 : Nat) (a1 : Cache) (Aa1_2 : Option Addr) (ca1_2 : Nat) (Aa1_3 : Option Addr) (ca1_3 : Nat) (g1 : Nat) (g2 : Nat) (v_i5 : Int) , Rw kBlob H F Aa0_2 a0.Blobs → a0.Blobs.length ≤ ca0_2 → Rw kEntry H F Aa0_3 a0.Entries → a0.Entries.length ≤ ca0_3 → Rw kBlob H F Aa1_2 a1.Blobs → a1.Blobs.length ≤ ca1_2 → Rw kEntry H F Aa1_3 a1.Entries → a1.Entries.length ≤ ca1_3 → smithyardref7_Same.l4 e1 k a0 a1 v_i5 = some r → RunH C21 (S21 F H r) H w0 [.c [1, 1, 0, 1, 0, 0], .l [1, 1, 0, 1, 0, 0], .b 0, .c [1, 1, 1]] [(2, .pointer (some ⟨g1, 0, none⟩)), (3, .pointer (some ⟨g2, 0, none⟩)), (5, .int .i64 v_i5)] H ((some (g2, .cells #[.int .i64 a1.Room, .int .i64 a1.Lease, .slice Aa1_2 a1.Blobs.length ca1_2, .slice Aa1_3 a1.Entries.length ca1_3] 25 (0, 0))) :: (some (g1, .cells #[.int .i64 a0.Room, .int .i64 a0.Lease, .slice Aa0_2 a0.Blobs.length ca0_2, .slice Aa0_3 a0.Entries.length ca0_3] 25 (0, 0))) :: F) := by
  intro k
  induction k with
  | zero => intro a0 Aa0_2 ca0_2 Aa0_3 ca0_3 a1 Aa1_2 ca1_2 Aa1_3 ca1_3 g1 g2 v_i5 hra0_2 hca0_2 hra0_3 hca0_3 hra1_2 hca1_2 hra1_3 hca1_3 heq; exact nomatch (show (none : Option Bool) = some r from heq)
  | succ k ihk =>
    intro a0 Aa0_2 ca0_2 Aa0_3 ca0_3 a1 Aa1_2 ca1_2 Aa1_3 ca1_3 g1 g2 v_i5 hra0_2 hca0_2 hra0_3 hca0_3 hra1_2 hca1_2 hra1_3 hca1_3 heq
    rw [smithyardref7_Same.l4] at heq
    refine RunH.adm 2 (es' := [.c [1, 1, 0, 1, 0, 0, 0, 0], .c [1, 1, 0, 1, 0, 0, 0, 1], .c [1, 1, 0, 1, 0, 0, 1], .l [1, 1, 0, 1, 0, 0], .b 0, .c [1, 1, 1]]) (by kernel_rfl) ?_
    refine RunH.reg (by kernel_rfl) ?_
    refine RgH.runk 5 [2, 3, 5, 41] (vs := [.slice Aa0_2 a0.Blobs.length ca0_2]) (evs := [.load ⟨g1, 2, none⟩ (.slice Aa0_2 a0.Blobs.length ca0_2)]) (L' := [(2, .pointer (some ⟨g1, 0, none⟩)), (3, .pointer (some ⟨g2, 0, none⟩)), (5, .int .i64 v_i5), (41, .bool (decide (v_i5 < (a0.Blobs.length : Int))))]) (by kernel_rfl) (by kernel_rfl) (fun w hh => (hh.box 1 rfl rfl)) ?_
    refine RgH.done (by kernel_rfl) ?_
    rcases bool_cases (decide (v_i5 < (a0.Blobs.length : Int))) with hb9 | hb9
    · replace heq := bif_true hb9 heq
      refine RunH.condT (c := decide (v_i5 < (a0.Blobs.length : Int))) (by kernel_rfl) hb9 ?_
      refine RunH.adm 4 (es' := [.c [1, 1, 0, 1, 0, 0, 1, 0, 0, 0], .c [1, 1, 0, 1, 0, 0, 1, 0, 0, 1], .b 1, .c [1, 1, 0, 1, 0, 0, 1, 1], .l [1, 1, 0, 1, 0, 0], .b 0, .c [1, 1, 1]]) (by kernel_rfl) ?_
      refine RunH.keep [2, 3, 5] (L' := [(2, .pointer (some ⟨g1, 0, none⟩)), (3, .pointer (some ⟨g2, 0, none⟩)), (5, .int .i64 v_i5)]) (by kernel_rfl) ?_
      refine RunH.draw (fun w => Heap H w0 w ((some (g2, .cells #[.int .i64 a1.Room, .int .i64 a1.Lease, .slice Aa1_2 a1.Blobs.length ca1_2, .slice Aa1_3 a1.Entries.length ca1_3] 25 (0, 0))) :: (some (g1, .cells #[.int .i64 a0.Room, .int .i64 a0.Lease, .slice Aa0_2 a0.Blobs.length ca0_2, .slice Aa0_3 a0.Entries.length ca0_3] 25 (0, 0))) :: F)) (fun w => Heap H w0 w ((some (g2, .cells #[.int .i64 a1.Room, .int .i64 a1.Lease, .slice Aa1_2 a1.Blobs.length ca1_2, .slice Aa1_3 a1.Entries.length ca1_3] 25 (0, 0))) :: (some (g1, .cells #[.int .i64 a0.Room, .int .i64 a0.Lease, .slice Aa0_2 a0.Blobs.length ca0_2, .slice Aa0_3 a0.Entries.length ca0_3] 25 (0, 0))) :: F)) [false, false, false, false, false, false, false, false, false, false, false] (n := 11) (ls := [false, false, false, false, false, false, false, false, false, false, false]) (by kernel_rfl) (by kernel_rfl) (by kernel_rfl) rfl ?_
      obtain ⟨x3, hx3, heq⟩ := bind_some heq
      obtain ⟨ha7, cs7, hK7, hcc7⟩ := hra0_2.get hx3
      obtain ⟨rfl⟩ := kBlob_open hK7
      obtain ⟨x4, hx4, heq⟩ := bind_some heq
      obtain ⟨ha8, cs8, hK8, hcc8⟩ := hra1_2.get hx4
      obtain ⟨rfl⟩ := kBlob_open hK8
      refine DrH.run [0, 1, 2, 3, 4, 5, 6, 7, 8, 9, 10] (m := 0) (ls' := [true, true, true, true, true, true, true, true, true, true, true]) (vs := [.slice Aa0_2 a0.Blobs.length ca0_2, .string x3.Digest, .int .i64 x3.Size, .int .i64 x3.Used, .int .i64 x3.Until, .int .i64 x3.Pins, .slice Aa1_2 a1.Blobs.length ca1_2, .string x4.Digest, .int .i64 x4.Size, .int .i64 x4.Used, .int .i64 x4.Until, .int .i64 x4.Pins]) (evs := [.load ⟨g1, 2, none⟩ (.slice Aa0_2 a0.Blobs.length ca0_2), .need (Aa0_2 = some (adr Aa0_2) ∧ (0 : Int) ≤ v_i5 ∧ v_i5 < ((a0.Blobs.length : Nat) : Int)), .load (((adr Aa0_2).add (v_i5.toNat * 5)).add 0) (.string x3.Digest), .load (((adr Aa0_2).add (v_i5.toNat * 5)).add 1) (.int .i64 x3.Size), .load (((adr Aa0_2).add (v_i5.toNat * 5)).add 2) (.int .i64 x3.Used), .load (((adr Aa0_2).add (v_i5.toNat * 5)).add 3) (.int .i64 x3.Until), .load (((adr Aa0_2).add (v_i5.toNat * 5)).add 4) (.int .i64 x3.Pins), .load ⟨g2, 2, none⟩ (.slice Aa1_2 a1.Blobs.length ca1_2), .need (Aa1_2 = some (adr Aa1_2) ∧ (0 : Int) ≤ v_i5 ∧ v_i5 < ((a1.Blobs.length : Nat) : Int)), .load (((adr Aa1_2).add (v_i5.toNat * 5)).add 0) (.string x4.Digest), .load (((adr Aa1_2).add (v_i5.toNat * 5)).add 1) (.int .i64 x4.Size), .load (((adr Aa1_2).add (v_i5.toNat * 5)).add 2) (.int .i64 x4.Used), .load (((adr Aa1_2).add (v_i5.toNat * 5)).add 3) (.int .i64 x4.Until), .load (((adr Aa1_2).add (v_i5.toNat * 5)).add 4) (.int .i64 x4.Pins)]) (L' := [(54, .bool (!(sEq x3.Digest x4.Digest && (x3.Size == x4.Size && (x3.Used == x4.Used && (x3.Until == x4.Until && (x3.Pins == x4.Pins && true))))))), (53, .agg #[.string x4.Digest, .int .i64 x4.Size, .int .i64 x4.Used, .int .i64 x4.Until, .int .i64 x4.Pins]), (52, .pointer (some ((adr Aa1_2).add (v_i5.toNat * 5)))), (51, .int .i64 v_i5), (50, .slice Aa1_2 a1.Blobs.length ca1_2), (49, .pointer (some ⟨g2, 2, none⟩)), (48, .agg #[.string x3.Digest, .int .i64 x3.Size, .int .i64 x3.Used, .int .i64 x3.Until, .int .i64 x3.Pins]), (47, .pointer (some ((adr Aa0_2).add (v_i5.toNat * 5)))), (46, .int .i64 v_i5), (45, .slice Aa0_2 a0.Blobs.length ca0_2), (44, .pointer (some ⟨g1, 2, none⟩)), (2, .pointer (some ⟨g1, 0, none⟩)), (3, .pointer (some ⟨g2, 0, none⟩)), (5, .int .i64 v_i5)]) (by kernel_rfl) (fun w hh => hh.pick 2 [0, 1] (by kernel_rfl)) (fun w hh => hh.pick 2 [0, 1] (by kernel_rfl)) (by kernel_rfl) (fun w hh => ⟨(hh.box 1 rfl rfl), ⟨ha7, (at?_some hx3).1, (at?_some hx3).2.1⟩, (hcc7 _ _ (hh.drop 2) 0 _ rfl), (hcc7 _ _ (hh.drop 2) 1 _ rfl), (hcc7 _ _ (hh.drop 2) 2 _ rfl), (hcc7 _ _ (hh.drop 2) 3 _ rfl), (hcc7 _ _ (hh.drop 2) 4 _ rfl), (hh.box 0 rfl rfl), ⟨ha8, (at?_some hx4).1, (at?_some hx4).2.1⟩, (hcc8 _ _ (hh.drop 2) 0 _ rfl), (hcc8 _ _ (hh.drop 2) 1 _ rfl), (hcc8 _ _ (hh.drop 2) 2 _ rfl), (hcc8 _ _ (hh.drop 2) 3 _ rfl), (hcc8 _ _ (hh.drop 2) 4 _ rfl)⟩) (by kernel_rfl) ?_
      refine DrH.keep [2, 3, 5, 54] (L' := [(2, .pointer (some ⟨g1, 0, none⟩)), (3, .pointer (some ⟨g2, 0, none⟩)), (5, .int .i64 v_i5), (54, .bool (!(sEq x3.Digest x4.Digest && (x3.Size == x4.Size && (x3.Used == x4.Used && (x3.Until == x4.Until && (x3.Pins == x4.Pins && true)))))))]) (by kernel_rfl) ?_
      refine DrH.done (by kernel_rfl) ?_
      rcases bool_cases (!(sEq x3.Digest x4.Digest && (x3.Size == x4.Size && (x3.Used == x4.Used && (x3.Until == x4.Until && (x3.Pins == x4.Pins && true)))))) with hb10 | hb10
      · replace heq := bif_true hb10 heq
        refine RunH.condT (c := !(sEq x3.Digest x4.Digest && (x3.Size == x4.Size && (x3.Used == x4.Used && (x3.Until == x4.Until && (x3.Pins == x4.Pins && true)))))) (by kernel_rfl) hb10 ?_
        refine RunH.adm 1 (es' := [.c [1, 1, 0, 1, 0, 0, 1, 0, 0, 1, 0, 0], .c [1, 1, 0, 1, 0, 0, 1, 0, 0, 1, 0, 1], .b 1, .c [1, 1, 0, 1, 0, 0, 1, 1], .l [1, 1, 0, 1, 0, 0], .b 0, .c [1, 1, 1]]) (by kernel_rfl) ?_
        refine RunH.reg (by kernel_rfl) ?_
        refine RgH.runk 1 [4] (vs := []) (evs := []) (L' := [(4, .bool false)]) (by kernel_rfl) (by kernel_rfl) (fun _ _ => trivial) ?_
        refine RgH.done (by kernel_rfl) ?_
        obtain rfl := Option.some.inj heq
        refine RunH.pick 2 [] (cs' := F) (by kernel_rfl) rfl ?_
        exact RunH.done (by kernel_rfl) Tryd.func21 (v := .bool false) (by kernel_rfl) ⟨rfl, rfl, rfl⟩
      · replace heq := bif_false hb10 heq
        refine RunH.condF (c := !(sEq x3.Digest x4.Digest && (x3.Size == x4.Size && (x3.Used == x4.Used && (x3.Until == x4.Until && (x3.Pins == x4.Pins && true)))))) (by kernel_rfl) hb10 ?_
        refine RunH.adm 2 (es' := [.c [1, 1, 0, 1, 0, 0, 1, 1], .l [1, 1, 0, 1, 0, 0], .b 0, .c [1, 1, 1]]) (by kernel_rfl) ?_
        refine RunH.reg (by kernel_rfl) ?_
        refine RgH.runk 3 [2, 3, 5] (vs := []) (evs := []) (L' := [(2, .pointer (some ⟨g1, 0, none⟩)), (3, .pointer (some ⟨g2, 0, none⟩)), (5, .int .i64 (w64 (v_i5 + 1)))]) (by kernel_rfl) (by kernel_rfl) (fun _ _ => trivial) ?_
        refine RgH.done (by kernel_rfl) ?_
        refine RunH.adm 1 (es' := [.c [1, 1, 0, 1, 0, 0], .l [1, 1, 0, 1, 0, 0], .b 0, .c [1, 1, 1]]) (by kernel_rfl) ?_
        refine RunH.keep [2, 3, 5] (L' := [(2, .pointer (some ⟨g1, 0, none⟩)), (3, .pointer (some ⟨g2, 0, none⟩)), (5, .int .i64 (w64 (v_i5 + 1)))]) (by kernel_rfl) ?_
        exact ihk a0 _ _ _ _ a1 _ _ _ _ _ _ (w64 (v_i5 + 1)) hra0_2 hca0_2 hra0_3 hca0_3 hra1_2 hca1_2 hra1_3 hca1_3 heq
    · replace heq := bif_false hb9 heq
      refine RunH.condF (c := decide (v_i5 < (a0.Blobs.length : Int))) (by kernel_rfl) hb9 ?_
      refine RunH.adm 3 (es' := [.c [1, 1, 1, 0, 0], .c [1, 1, 1, 0, 1], .c [1, 1, 1, 1]]) (by kernel_rfl) ?_
      refine RunH.keep [2, 3] (L' := [(2, .pointer (some ⟨g1, 0, none⟩)), (3, .pointer (some ⟨g2, 0, none⟩))]) (by kernel_rfl) ?_
      exact he1 a0 _ _ _ _ a1 _ _ _ _ _ _ hra0_2 hca0_2 hra0_3 hca0_3 hra1_2 hca1_2 hra1_3 hca1_3 heq
theorem smithyardref7_Same_c {w0 : World} {H : Hp} {F : List Ch} {a0 : Cache} {Aa0_2 : Option Addr} {na0_2 : Nat} {ca0_2 : Nat} {Aa0_3 : Option Addr} {na0_3 : Nat} {ca0_3 : Nat} {a1 : Cache} {Aa1_2 : Option Addr} {na1_2 : Nat} {ca1_2 : Nat} {Aa1_3 : Option Addr} {na1_3 : Nat} {ca1_3 : Nat} {r : Bool} (hra0_2 : Rw kBlob H F Aa0_2 a0.Blobs) (hca0_2 : na0_2 ≤ ca0_2) (hna0_2 : na0_2 = a0.Blobs.length) (hra0_3 : Rw kEntry H F Aa0_3 a0.Entries) (hca0_3 : na0_3 ≤ ca0_3) (hna0_3 : na0_3 = a0.Entries.length) (hra1_2 : Rw kBlob H F Aa1_2 a1.Blobs) (hca1_2 : na1_2 ≤ ca1_2) (hna1_2 : na1_2 = a1.Blobs.length) (hra1_3 : Rw kEntry H F Aa1_3 a1.Entries) (hca1_3 : na1_3 ≤ ca1_3) (hna1_3 : na1_3 = a1.Entries.length) (heq : smithyardref7_Same.f a0 a1 = some r) : CallsH Tryd.prog 21 #[.agg #[.int .i64 a0.Room, .int .i64 a0.Lease, .slice Aa0_2 na0_2 ca0_2, .slice Aa0_3 na0_3 ca0_3], .agg #[.int .i64 a1.Room, .int .i64 a1.Lease, .slice Aa1_2 na1_2 ca1_2, .slice Aa1_3 na1_3 ca1_3]] H w0 (F) (S21 F H r) := by
  refine calls_of_runH (F := C21) Tryd.func21 (by kernel_rfl) Tryd.ntmps21 (args := [.agg #[.int .i64 a0.Room, .int .i64 a0.Lease, .slice Aa0_2 na0_2 ca0_2, .slice Aa0_3 na0_3 ca0_3], .agg #[.int .i64 a1.Room, .int .i64 a1.Lease, .slice Aa1_2 na1_2 ca1_2, .slice Aa1_3 na1_3 ca1_3]]) (by kernel_rfl) ?_
  subst hna0_2
  subst hna0_3
  subst hna1_2
  subst hna1_3
  unfold smithyardref7_Same.f at heq
  refine RunH.adm 1 (es' := [.c [0], .c [1]]) (by kernel_rfl) ?_
  refine RunH.reg (by kernel_rfl) ?_
  refine RgH.does (DoesH.new (d := 2) (v := fun g => .pointer (some ⟨g, 0, none⟩)) (o := fun g => .cells #[.int .i64 a0.Room, .int .i64 a0.Lease, .slice Aa0_2 a0.Blobs.length ca0_2, .slice Aa0_3 a0.Entries.length ca0_3] 25 (0, 0)) (fun g => by kernel_rfl)) ?_
  rintro _ _ _ _ ⟨g1, rfl, rfl, rfl⟩
  refine RgH.does (DoesH.new (d := 3) (v := fun g => .pointer (some ⟨g, 0, none⟩)) (o := fun g => .cells #[.int .i64 a1.Room, .int .i64 a1.Lease, .slice Aa1_2 a1.Blobs.length ca1_2, .slice Aa1_3 a1.Entries.length ca1_3] 25 (0, 0)) (fun g => by kernel_rfl)) ?_
  rintro _ _ _ _ ⟨g2, rfl, rfl, rfl⟩
  refine RgH.runk 3 [2, 3] (vs := []) (evs := []) (L' := [(2, .pointer (some ⟨g1, 0, none⟩)), (3, .pointer (some ⟨g2, 0, none⟩))]) (by kernel_rfl) (by kernel_rfl) (fun _ _ => trivial) ?_
  refine RgH.done (by kernel_rfl) ?_
  refine RunH.adm 2 (es' := [.c [1, 0, 0], .c [1, 0, 1], .c [1, 1]]) (by kernel_rfl) ?_
  obtain ⟨t1, ht1, heq⟩ := bind_some heq
  have K3 : RunH C21 (S21 F H r) H w0 [.c [1, 0, 1], .c [1, 1]] [(2, .pointer (some ⟨g1, 0, none⟩)), (3, .pointer (some ⟨g2, 0, none⟩)), (36, .bool t1)] H ((some (g2, .cells #[.int .i64 a1.Room, .int .i64 a1.Lease, .slice Aa1_2 a1.Blobs.length ca1_2, .slice Aa1_3 a1.Entries.length ca1_3] 25 (0, 0))) :: (some (g1, .cells #[.int .i64 a0.Room, .int .i64 a0.Lease, .slice Aa0_2 a0.Blobs.length ca0_2, .slice Aa0_3 a0.Entries.length ca0_3] 25 (0, 0))) :: F) := by
    rcases bool_cases (t1) with hb4 | hb4
    · replace heq := bif_true hb4 heq
      refine RunH.condT (c := t1) (by kernel_rfl) hb4 ?_
      refine RunH.adm 1 (es' := [.c [1, 0, 1, 0, 0], .c [1, 0, 1, 0, 1], .c [1, 1]]) (by kernel_rfl) ?_
      refine RunH.reg (by kernel_rfl) ?_
      refine RgH.runk 1 [4] (vs := []) (evs := []) (L' := [(4, .bool false)]) (by kernel_rfl) (by kernel_rfl) (fun _ _ => trivial) ?_
      refine RgH.done (by kernel_rfl) ?_
      obtain rfl := Option.some.inj heq
      refine RunH.pick 2 [] (cs' := F) (by kernel_rfl) rfl ?_
      exact RunH.done (by kernel_rfl) Tryd.func21 (v := .bool false) (by kernel_rfl) ⟨rfl, rfl, rfl⟩
    · replace heq := bif_false hb4 heq
      refine RunH.condF (c := t1) (by kernel_rfl) hb4 ?_
      refine RunH.adm 3 (es' := [.c [1, 1, 0, 0], .c [1, 1, 0, 1], .c [1, 1, 1]]) (by kernel_rfl) ?_
      refine RunH.reg (by kernel_rfl) ?_
      refine RgH.runk 1 [2, 3, 5] (vs := []) (evs := []) (L' := [(2, .pointer (some ⟨g1, 0, none⟩)), (3, .pointer (some ⟨g2, 0, none⟩)), (5, .int .i64 0)]) (by kernel_rfl) (by kernel_rfl) (fun _ _ => trivial) ?_
      refine RgH.done (by kernel_rfl) ?_
      refine RunH.adm 2 (es' := [.c [1, 1, 0, 1, 0, 0], .l [1, 1, 0, 1, 0, 0], .b 0, .c [1, 1, 1]]) (by kernel_rfl) ?_
      refine RunH.keep [2, 3, 5] (L' := [(2, .pointer (some ⟨g1, 0, none⟩)), (3, .pointer (some ⟨g2, 0, none⟩)), (5, .int .i64 0)]) (by kernel_rfl) ?_
      exact ((smithyardref7_Same.l4_c (e1 := smithyardref7_Same.e1) (smithyardref7_Same.e1_c)) big) a0 _ _ _ _ a1 _ _ _ _ _ _ 0 hra0_2 hca0_2 hra0_3 hca0_3 hra1_2 hca1_2 hra1_3 hca1_3 heq
  replace heq := ht1
  refine RunH.reg (by kernel_rfl) ?_
  refine RgH.runk 6 [12, 2, 3] (vs := [.int .i64 a0.Room, .int .i64 a1.Room]) (evs := [.load ⟨g1, 0, none⟩ (.int .i64 a0.Room), .load ⟨g2, 0, none⟩ (.int .i64 a1.Room)]) (L' := [(12, .bool (a0.Room != a1.Room)), (2, .pointer (some ⟨g1, 0, none⟩)), (3, .pointer (some ⟨g2, 0, none⟩))]) (by kernel_rfl) (by kernel_rfl) (fun w hh => ⟨(hh.box 1 rfl rfl), (hh.box 0 rfl rfl)⟩) ?_
  rcases bool_cases (a0.Room != a1.Room) with hb1 | hb1
  · replace heq := bif_true hb1 heq
    refine RgH.val1 (v' := .bool true) (congrArg Value.bool hb1) ?_
    refine RgH.runk 30 [2, 3, 36] (vs := []) (evs := []) (L' := [(2, .pointer (some ⟨g1, 0, none⟩)), (3, .pointer (some ⟨g2, 0, none⟩)), (36, .bool true)]) (by kernel_rfl) (by kernel_rfl) (fun _ _ => trivial) ?_
    obtain rfl := Option.some.inj heq
    refine RgH.keep [2, 3, 36] (L' := [(2, .pointer (some ⟨g1, 0, none⟩)), (3, .pointer (some ⟨g2, 0, none⟩)), (36, .bool true)]) (by kernel_rfl) ?_
    refine RgH.done (by kernel_rfl) ?_
    exact K3
  · replace heq := bif_false hb1 heq
    refine RgH.val1 (v' := .bool false) (congrArg Value.bool hb1) ?_
    refine RgH.runk 13 [19, 2, 3] (vs := [.int .i64 a0.Lease, .int .i64 a1.Lease]) (evs := [.load ⟨g1, 1, none⟩ (.int .i64 a0.Lease), .load ⟨g2, 1, none⟩ (.int .i64 a1.Lease)]) (L' := [(19, .bool (a0.Lease != a1.Lease)), (2, .pointer (some ⟨g1, 0, none⟩)), (3, .pointer (some ⟨g2, 0, none⟩))]) (by kernel_rfl) (by kernel_rfl) (fun w hh => ⟨(hh.box 1 rfl rfl), (hh.box 0 rfl rfl)⟩) ?_
    rcases bool_cases (a0.Lease != a1.Lease) with hb2 | hb2
    · replace heq := bif_true hb2 heq
      refine RgH.val1 (v' := .bool true) (congrArg Value.bool hb2) ?_
      refine RgH.runk 30 [2, 3, 36] (vs := []) (evs := []) (L' := [(2, .pointer (some ⟨g1, 0, none⟩)), (3, .pointer (some ⟨g2, 0, none⟩)), (36, .bool true)]) (by kernel_rfl) (by kernel_rfl) (fun _ _ => trivial) ?_
      obtain rfl := Option.some.inj heq
      refine RgH.keep [2, 3, 36] (L' := [(2, .pointer (some ⟨g1, 0, none⟩)), (3, .pointer (some ⟨g2, 0, none⟩)), (36, .bool true)]) (by kernel_rfl) ?_
      refine RgH.done (by kernel_rfl) ?_
      exact K3
    · replace heq := bif_false hb2 heq
      refine RgH.val1 (v' := .bool false) (congrArg Value.bool hb2) ?_
      refine RgH.runk 22 [28, 2, 3] (vs := [.slice Aa0_2 a0.Blobs.length ca0_2, .slice Aa1_2 a1.Blobs.length ca1_2]) (evs := [.load ⟨g1, 2, none⟩ (.slice Aa0_2 a0.Blobs.length ca0_2), .load ⟨g2, 2, none⟩ (.slice Aa1_2 a1.Blobs.length ca1_2)]) (L' := [(28, .bool ((a0.Blobs.length : Int) != (a1.Blobs.length : Int))), (2, .pointer (some ⟨g1, 0, none⟩)), (3, .pointer (some ⟨g2, 0, none⟩))]) (by kernel_rfl) (by kernel_rfl) (fun w hh => ⟨(hh.box 1 rfl rfl), (hh.box 0 rfl rfl)⟩) ?_
      rcases bool_cases ((a0.Blobs.length : Int) != (a1.Blobs.length : Int)) with hb3 | hb3
      · replace heq := bif_true hb3 heq
        refine RgH.val1 (v' := .bool true) (congrArg Value.bool hb3) ?_
        refine RgH.runk 30 [2, 3, 36] (vs := []) (evs := []) (L' := [(2, .pointer (some ⟨g1, 0, none⟩)), (3, .pointer (some ⟨g2, 0, none⟩)), (36, .bool true)]) (by kernel_rfl) (by kernel_rfl) (fun _ _ => trivial) ?_
        obtain rfl := Option.some.inj heq
        refine RgH.keep [2, 3, 36] (L' := [(2, .pointer (some ⟨g1, 0, none⟩)), (3, .pointer (some ⟨g2, 0, none⟩)), (36, .bool true)]) (by kernel_rfl) ?_
        refine RgH.done (by kernel_rfl) ?_
        exact K3
      · replace heq := bif_false hb3 heq
        refine RgH.val1 (v' := .bool false) (congrArg Value.bool hb3) ?_
        refine RgH.runk 30 [2, 3, 36] (vs := [.slice Aa0_3 a0.Entries.length ca0_3, .slice Aa1_3 a1.Entries.length ca1_3]) (evs := [.load ⟨g1, 3, none⟩ (.slice Aa0_3 a0.Entries.length ca0_3), .load ⟨g2, 3, none⟩ (.slice Aa1_3 a1.Entries.length ca1_3)]) (L' := [(2, .pointer (some ⟨g1, 0, none⟩)), (3, .pointer (some ⟨g2, 0, none⟩)), (36, .bool ((a0.Entries.length : Int) != (a1.Entries.length : Int)))]) (by kernel_rfl) (by kernel_rfl) (fun w hh => ⟨(hh.box 1 rfl rfl), (hh.box 0 rfl rfl)⟩) ?_
        obtain rfl := Option.some.inj heq
        refine RgH.keep [2, 3, 36] (L' := [(2, .pointer (some ⟨g1, 0, none⟩)), (3, .pointer (some ⟨g2, 0, none⟩)), (36, .bool ((a0.Entries.length : Int) != (a1.Entries.length : Int)))]) (by kernel_rfl) ?_
        refine RgH.done (by kernel_rfl) ?_
        exact K3
noncomputable def C66 : Ctx := { P := Tryd.prog, f := 66, N := 19, c := bodyOf Tryd.f66 }
def S66 (F : List Ch) (H0 : Hp) (r : Int) (v : Value) (H : Hp) (cs : List Ch) : Prop := H0 = H ∧ v = .int .i64 r ∧ F = cs
theorem cache_used.e1_c {w0 : World} {H : Hp} {F : List Ch} {r : Int} : ∀ (v_sum3 : Int) , cache_used.e1 v_sum3 = some r → RunH C66 (S66 F H r) H w0 [.c [1, 1, 1, 0], .c [1, 1, 1, 1]] [(3, .int .i64 v_sum3)] H (F) := by
  intro v_sum3  heq
  unfold cache_used.e1 at heq
  refine RunH.reg (by kernel_rfl) ?_
  refine RgH.runk 2 [2] (vs := []) (evs := []) (L' := [(2, .int .i64 v_sum3)]) (by kernel_rfl) (by kernel_rfl) (fun _ _ => trivial) ?_
  refine RgH.done (by kernel_rfl) ?_
  obtain rfl := Option.some.inj heq
  exact RunH.done (by kernel_rfl) Tryd.func66 (v := .int .i64 v_sum3) (by kernel_rfl) ⟨rfl, rfl, rfl⟩
theorem cache_used.l2_c {w0 : World} {H : Hp} {F : List Ch} {r : Int} (e1 : Int → Option Int)
    (he1 : ∀ (v_sum3 : Int) , e1 v_sum3 = some r → RunH C66 (S66 F H r) H w0 [.c [1, 1, 1, 0], .c [1, 1, 1, 1]] [(3, .int .i64 v_sum3)] H (F)) : ∀ (k : Nat), ∀ (a0 : Cache) (Aa0_2 : Option Addr) (ca0_2 : Nat) (v_sum3 : Int) (v9 : Int) , Rw kBlob H F Aa0_2 a0.Blobs → a0.Blobs.length ≤ ca0_2 → cache_used.l2 e1 k a0 v_sum3 v9 = some r → RunH C66 (S66 F H r) H w0 [.c [1, 1, 0, 1, 0, 0], .l [1, 1, 0, 1, 0, 0], .b 0, .c [1, 1, 1]] [(3, .int .i64 v_sum3), (7, .slice Aa0_2 a0.Blobs.length ca0_2), (8, .int .i64 (a0.Blobs.length : Int)), (9, .int .i64 v9)] H (F) := by
  intro k
  induction k with
  | zero => intro a0 Aa0_2 ca0_2 v_sum3 v9 hra0_2 hca0_2 heq; exact nomatch (show (none : Option Int) = some r from heq)
  | succ k ihk =>
    intro a0 Aa0_2 ca0_2 v_sum3 v9 hra0_2 hca0_2 heq
    rw [cache_used.l2] at heq
    refine RunH.adm 1 (es' := [.c [1, 1, 0, 1, 0, 0, 0], .c [1, 1, 0, 1, 0, 0, 1], .l [1, 1, 0, 1, 0, 0], .b 0, .c [1, 1, 1]]) (by kernel_rfl) ?_
    refine RunH.reg (by kernel_rfl) ?_
    refine RgH.runk 1 [3, 7, 8, 9, 10] (vs := []) (evs := []) (L' := [(3, .int .i64 v_sum3), (7, .slice Aa0_2 a0.Blobs.length ca0_2), (8, .int .i64 (a0.Blobs.length : Int)), (9, .int .i64 v9), (10, .bool (decide (v9 < (a0.Blobs.length : Int))))]) (by kernel_rfl) (by kernel_rfl) (fun _ _ => trivial) ?_
    refine RgH.done (by kernel_rfl) ?_
    refine RunH.adm 1 (es' := [.c [1, 1, 0, 1, 0, 0, 1, 0], .c [1, 1, 0, 1, 0, 0, 1, 1], .l [1, 1, 0, 1, 0, 0], .b 0, .c [1, 1, 1]]) (by kernel_rfl) ?_
    rcases bool_cases (decide (v9 < (a0.Blobs.length : Int))) with hb1 | hb1
    · replace heq := bif_true hb1 heq
      refine RunH.condT (c := decide (v9 < (a0.Blobs.length : Int))) (by kernel_rfl) hb1 ?_
      refine RunH.adm 4 (es' := [.c [1, 1, 0, 1, 0, 0, 1, 1, 0, 0, 0], .c [1, 1, 0, 1, 0, 0, 1, 1, 0, 0, 1], .b 1, .c [1, 1, 0, 1, 0, 0, 1, 1, 1], .l [1, 1, 0, 1, 0, 0], .b 0, .c [1, 1, 1]]) (by kernel_rfl) ?_
      refine RunH.reg (by kernel_rfl) ?_
      obtain ⟨x1, hx1, heq⟩ := bind_some heq
      obtain ⟨ha1, cs1, hK1, hcc1⟩ := hra0_2.get hx1
      obtain ⟨rfl⟩ := kBlob_open hK1
      refine RgH.runk 2 [3, 7, 8, 9, 12] (vs := [.string x1.Digest, .int .i64 x1.Size, .int .i64 x1.Used, .int .i64 x1.Until, .int .i64 x1.Pins]) (evs := [.need (Aa0_2 = some (adr Aa0_2) ∧ (0 : Int) ≤ v9 ∧ v9 < ((a0.Blobs.length : Nat) : Int)), .load (((adr Aa0_2).add (v9.toNat * 5)).add 0) (.string x1.Digest), .load (((adr Aa0_2).add (v9.toNat * 5)).add 1) (.int .i64 x1.Size), .load (((adr Aa0_2).add (v9.toNat * 5)).add 2) (.int .i64 x1.Used), .load (((adr Aa0_2).add (v9.toNat * 5)).add 3) (.int .i64 x1.Until), .load (((adr Aa0_2).add (v9.toNat * 5)).add 4) (.int .i64 x1.Pins)]) (L' := [(3, .int .i64 v_sum3), (7, .slice Aa0_2 a0.Blobs.length ca0_2), (8, .int .i64 (a0.Blobs.length : Int)), (9, .int .i64 v9), (12, .agg #[.string x1.Digest, .int .i64 x1.Size, .int .i64 x1.Used, .int .i64 x1.Until, .int .i64 x1.Pins])]) (by kernel_rfl) (by kernel_rfl) (fun w hh => ⟨⟨ha1, (at?_some hx1).1, (at?_some hx1).2.1⟩, (hcc1 _ _ (hh.drop 0) 0 _ rfl), (hcc1 _ _ (hh.drop 0) 1 _ rfl), (hcc1 _ _ (hh.drop 0) 2 _ rfl), (hcc1 _ _ (hh.drop 0) 3 _ rfl), (hcc1 _ _ (hh.drop 0) 4 _ rfl)⟩) ?_
      refine RgH.does (DoesH.new (d := 5) (v := fun g => .pointer (some ⟨g, 0, none⟩)) (o := fun g => .cells #[.string ByteArray.empty, .int .i64 0, .int .i64 0, .int .i64 0, .int .i64 0] 47 (0, 0)) (fun g => by kernel_rfl)) ?_
      rintro _ _ _ _ ⟨g2, rfl, rfl, rfl⟩
      refine RgH.does (DoesH.store (k := 0) (g := g2) (off := 0) (v := .agg #[.string x1.Digest, .int .i64 x1.Size, .int .i64 x1.Used, .int .i64 x1.Until, .int .i64 x1.Pins]) (cells' := #[.string x1.Digest, .int .i64 x1.Size, .int .i64 x1.Used, .int .i64 x1.Until, .int .i64 x1.Pins]) (by kernel_rfl) rfl (by kernel_rfl) (by kernel_rfl)) ?_
      rintro _ _ _ _ ⟨rfl, rfl, rfl⟩
      refine RgH.done (by kernel_rfl) ?_
      refine RunH.reg (by kernel_rfl) ?_
      refine RgH.runk 5 [3, 7, 8, 9] (vs := [.int .i64 x1.Size]) (evs := [.load ⟨g2, 1, none⟩ (.int .i64 x1.Size)]) (L' := [(3, .int .i64 (w64 (v_sum3 + x1.Size))), (7, .slice Aa0_2 a0.Blobs.length ca0_2), (8, .int .i64 (a0.Blobs.length : Int)), (9, .int .i64 v9)]) (by kernel_rfl) (by kernel_rfl) (fun w hh => (hh.box 0 rfl rfl)) ?_
      refine RgH.done (by kernel_rfl) ?_
      refine RunH.adm 1 (es' := [.c [1, 1, 0, 1, 0, 0, 1, 1, 1], .l [1, 1, 0, 1, 0, 0], .b 0, .c [1, 1, 1]]) (by kernel_rfl) ?_
      refine RunH.reg (by kernel_rfl) ?_
      refine RgH.runk 2 [3, 7, 8, 9] (vs := []) (evs := []) (L' := [(3, .int .i64 (w64 (v_sum3 + x1.Size))), (7, .slice Aa0_2 a0.Blobs.length ca0_2), (8, .int .i64 (a0.Blobs.length : Int)), (9, .int .i64 (w64 (v9 + 1)))]) (by kernel_rfl) (by kernel_rfl) (fun _ _ => trivial) ?_
      refine RgH.done (by kernel_rfl) ?_
      refine RunH.adm 1 (es' := [.c [1, 1, 0, 1, 0, 0], .l [1, 1, 0, 1, 0, 0], .b 0, .c [1, 1, 1]]) (by kernel_rfl) ?_
      refine RunH.keep [3, 7, 8, 9] (L' := [(3, .int .i64 (w64 (v_sum3 + x1.Size))), (7, .slice Aa0_2 a0.Blobs.length ca0_2), (8, .int .i64 (a0.Blobs.length : Int)), (9, .int .i64 (w64 (v9 + 1)))]) (by kernel_rfl) ?_
      refine RunH.pick 1 [] (cs' := F) (by kernel_rfl) rfl ?_
      exact ihk a0 _ _ (w64 (v_sum3 + x1.Size)) (w64 (v9 + 1)) hra0_2 hca0_2 heq
    · replace heq := bif_false hb1 heq
      refine RunH.condF (c := decide (v9 < (a0.Blobs.length : Int))) (by kernel_rfl) hb1 ?_
      refine RunH.adm 2 (es' := [.c [1, 1, 1, 0], .c [1, 1, 1, 1]]) (by kernel_rfl) ?_
      refine RunH.keep [3] (L' := [(3, .int .i64 v_sum3)]) (by kernel_rfl) ?_
      exact he1 v_sum3 heq
theorem cache_used_c {w0 : World} {H : Hp} {F : List Ch} {a0 : Cache} {Aa0_2 : Option Addr} {na0_2 : Nat} {ca0_2 : Nat} {Aa0_3 : Option Addr} {na0_3 : Nat} {ca0_3 : Nat} {r : Int} (hra0_2 : Rw kBlob H F Aa0_2 a0.Blobs) (hca0_2 : na0_2 ≤ ca0_2) (hna0_2 : na0_2 = a0.Blobs.length) (hra0_3 : Rw kEntry H F Aa0_3 a0.Entries) (hca0_3 : na0_3 ≤ ca0_3) (hna0_3 : na0_3 = a0.Entries.length) (heq : cache_used.f a0 = some r) : CallsH Tryd.prog 66 #[.agg #[.int .i64 a0.Room, .int .i64 a0.Lease, .slice Aa0_2 na0_2 ca0_2, .slice Aa0_3 na0_3 ca0_3]] H w0 (F) (S66 F H r) := by
  refine calls_of_runH (F := C66) Tryd.func66 (by kernel_rfl) Tryd.ntmps66 (args := [.agg #[.int .i64 a0.Room, .int .i64 a0.Lease, .slice Aa0_2 na0_2 ca0_2, .slice Aa0_3 na0_3 ca0_3]]) (by kernel_rfl) ?_
  subst hna0_2
  subst hna0_3
  unfold cache_used.f at heq
  refine RunH.adm 1 (es' := [.c [0], .c [1]]) (by kernel_rfl) ?_
  refine RunH.reg (by kernel_rfl) ?_
  refine RgH.does (DoesH.new (d := 1) (v := fun g => .pointer (some ⟨g, 0, none⟩)) (o := fun g => .cells #[.int .i64 a0.Room, .int .i64 a0.Lease, .slice Aa0_2 a0.Blobs.length ca0_2, .slice Aa0_3 a0.Entries.length ca0_3] 25 (0, 0)) (fun g => by kernel_rfl)) ?_
  rintro _ _ _ _ ⟨g1, rfl, rfl, rfl⟩
  refine RgH.runk 2 [1] (vs := []) (evs := []) (L' := [(1, .pointer (some ⟨g1, 0, none⟩))]) (by kernel_rfl) (by kernel_rfl) (fun _ _ => trivial) ?_
  refine RgH.done (by kernel_rfl) ?_
  refine RunH.adm 1 (es' := [.c [1, 0], .c [1, 1]]) (by kernel_rfl) ?_
  refine RunH.reg (by kernel_rfl) ?_
  refine RgH.runk 1 [1, 3] (vs := []) (evs := []) (L' := [(1, .pointer (some ⟨g1, 0, none⟩)), (3, .int .i64 0)]) (by kernel_rfl) (by kernel_rfl) (fun _ _ => trivial) ?_
  refine RgH.done (by kernel_rfl) ?_
  refine RunH.adm 2 (es' := [.c [1, 1, 0, 0], .c [1, 1, 0, 1], .c [1, 1, 1]]) (by kernel_rfl) ?_
  refine RunH.reg (by kernel_rfl) ?_
  refine RgH.runk 4 [3, 7, 8, 9] (vs := [.slice Aa0_2 a0.Blobs.length ca0_2]) (evs := [.load ⟨g1, 2, none⟩ (.slice Aa0_2 a0.Blobs.length ca0_2)]) (L' := [(3, .int .i64 0), (7, .slice Aa0_2 a0.Blobs.length ca0_2), (8, .int .i64 (a0.Blobs.length : Int)), (9, .int .i64 0)]) (by kernel_rfl) (by kernel_rfl) (fun w hh => (hh.box 0 rfl rfl)) ?_
  refine RgH.done (by kernel_rfl) ?_
  refine RunH.adm 2 (es' := [.c [1, 1, 0, 1, 0, 0], .l [1, 1, 0, 1, 0, 0], .b 0, .c [1, 1, 1]]) (by kernel_rfl) ?_
  refine RunH.keep [3, 7, 8, 9] (L' := [(3, .int .i64 0), (7, .slice Aa0_2 a0.Blobs.length ca0_2), (8, .int .i64 (a0.Blobs.length : Int)), (9, .int .i64 0)]) (by kernel_rfl) ?_
  refine RunH.pick 1 [] (cs' := F) (by kernel_rfl) rfl ?_
  exact ((cache_used.l2_c (e1 := cache_used.e1) (cache_used.e1_c)) big) a0 _ _ 0 0 hra0_2 hca0_2 heq
noncomputable def C24 : Ctx := { P := Tryd.prog, f := 24, N := 12, c := bodyOf Tryd.f24 }
def S24 (F : List Ch) (H0 : Hp) (r : Int × Int) (v : Value) (H : Hp) (cs : List Ch) : Prop := H0 = H ∧ v = .tuple #[.int .i64 r.1, .int .i64 r.2] ∧ F = cs
theorem cache_Used_c {w0 : World} {H : Hp} {F : List Ch} {a0 : Cache} {Aa0_2 : Option Addr} {na0_2 : Nat} {ca0_2 : Nat} {Aa0_3 : Option Addr} {na0_3 : Nat} {ca0_3 : Nat} {r : Int × Int} (hra0_2 : Rw kBlob H F Aa0_2 a0.Blobs) (hca0_2 : na0_2 ≤ ca0_2) (hna0_2 : na0_2 = a0.Blobs.length) (hra0_3 : Rw kEntry H F Aa0_3 a0.Entries) (hca0_3 : na0_3 ≤ ca0_3) (hna0_3 : na0_3 = a0.Entries.length) (heq : cache_Used.f a0 = some r) : CallsH Tryd.prog 24 #[.agg #[.int .i64 a0.Room, .int .i64 a0.Lease, .slice Aa0_2 na0_2 ca0_2, .slice Aa0_3 na0_3 ca0_3]] H w0 (F) (S24 F H r) := by
  refine calls_of_runH (F := C24) Tryd.func24 (by kernel_rfl) Tryd.ntmps24 (args := [.agg #[.int .i64 a0.Room, .int .i64 a0.Lease, .slice Aa0_2 na0_2 ca0_2, .slice Aa0_3 na0_3 ca0_3]]) (by kernel_rfl) ?_
  subst hna0_2
  subst hna0_3
  unfold cache_Used.f at heq
  refine RunH.adm 1 (es' := [.c [0], .c [1]]) (by kernel_rfl) ?_
  refine RunH.reg (by kernel_rfl) ?_
  refine RgH.does (DoesH.new (d := 1) (v := fun g => .pointer (some ⟨g, 0, none⟩)) (o := fun g => .cells #[.int .i64 a0.Room, .int .i64 a0.Lease, .slice Aa0_2 a0.Blobs.length ca0_2, .slice Aa0_3 a0.Entries.length ca0_3] 25 (0, 0)) (fun g => by kernel_rfl)) ?_
  rintro _ _ _ _ ⟨g1, rfl, rfl, rfl⟩
  refine RgH.runk 3 [1] (vs := []) (evs := []) (L' := [(1, .pointer (some ⟨g1, 0, none⟩))]) (by kernel_rfl) (by kernel_rfl) (fun _ _ => trivial) ?_
  refine RgH.done (by kernel_rfl) ?_
  refine RunH.adm 2 (es' := [.c [1, 0, 0], .c [1, 0, 1], .c [1, 1]]) (by kernel_rfl) ?_
  refine RunH.reg (by kernel_rfl) ?_
  refine RgH.runk 1 [1, 5] (vs := [.int .i64 a0.Room, .int .i64 a0.Lease, .slice Aa0_2 a0.Blobs.length ca0_2, .slice Aa0_3 a0.Entries.length ca0_3]) (evs := [.load ⟨g1, 0, none⟩ (.int .i64 a0.Room), .load ⟨g1, 1, none⟩ (.int .i64 a0.Lease), .load ⟨g1, 2, none⟩ (.slice Aa0_2 a0.Blobs.length ca0_2), .load ⟨g1, 3, none⟩ (.slice Aa0_3 a0.Entries.length ca0_3)]) (L' := [(1, .pointer (some ⟨g1, 0, none⟩)), (5, .agg #[.int .i64 a0.Room, .int .i64 a0.Lease, .slice Aa0_2 a0.Blobs.length ca0_2, .slice Aa0_3 a0.Entries.length ca0_3])]) (by kernel_rfl) (by kernel_rfl) (fun w hh => ⟨(hh.box 0 rfl rfl), (hh.box 0 rfl rfl), (hh.box 0 rfl rfl), (hh.box 0 rfl rfl)⟩) ?_
  obtain ⟨y1, hy1, heq⟩ := bind_some heq
  refine RgH.does (DoesH.call (d := 6) (g := 22) (args := #[.agg #[.int .i64 a0.Room, .int .i64 a0.Lease, .slice Aa0_2 a0.Blobs.length ca0_2, .slice Aa0_3 a0.Entries.length ca0_3]]) (by kernel_rfl) (cache_CheckCache_c (a0 := a0) (hra0_2.wk (fun _ h => (.tail _ h))) hca0_2 rfl (hra0_3.wk (fun _ h => (.tail _ h))) hca0_3 rfl hy1)) ?_
  rintro _ _ _ _ ⟨_, rfl, rfl, rfl, rfl⟩
  refine RgH.runk 3 [1, 4] (vs := []) (evs := []) (L' := [(1, .pointer (some ⟨g1, 0, none⟩)), (4, .int .i64 y1)]) (by kernel_rfl) (by kernel_rfl) (fun _ _ => trivial) ?_
  refine RgH.done (by kernel_rfl) ?_
  refine RunH.adm 1 (es' := [.c [1, 0, 1, 0], .c [1, 0, 1, 1], .c [1, 1]]) (by kernel_rfl) ?_
  refine RunH.reg (by kernel_rfl) ?_
  refine RgH.runk 2 [1, 4, 8] (vs := []) (evs := []) (L' := [(1, .pointer (some ⟨g1, 0, none⟩)), (4, .int .i64 y1), (8, .bool (y1 != 0))]) (by kernel_rfl) (by kernel_rfl) (fun _ _ => trivial) ?_
  refine RgH.done (by kernel_rfl) ?_
  rcases bool_cases (y1 != 0) with hb1 | hb1
  · replace heq := bif_true hb1 heq
    refine RunH.condT (c := y1 != 0) (by kernel_rfl) hb1 ?_
    refine RunH.adm 1 (es' := [.c [1, 0, 1, 1, 0, 0], .c [1, 0, 1, 1, 0, 1], .c [1, 1]]) (by kernel_rfl) ?_
    refine RunH.reg (by kernel_rfl) ?_
    refine RgH.runk 3 [2, 3] (vs := []) (evs := []) (L' := [(2, .int .i64 0), (3, .int .i64 y1)]) (by kernel_rfl) (by kernel_rfl) (fun _ _ => trivial) ?_
    refine RgH.done (by kernel_rfl) ?_
    obtain rfl := Option.some.inj heq
    refine RunH.pick 1 [] (cs' := F) (by kernel_rfl) rfl ?_
    exact RunH.done (by kernel_rfl) Tryd.func24 (v := .tuple #[.int .i64 0, .int .i64 y1]) (by kernel_rfl) ⟨rfl, rfl, rfl⟩
  · replace heq := bif_false hb1 heq
    refine RunH.condF (c := y1 != 0) (by kernel_rfl) hb1 ?_
    refine RunH.adm 2 (es' := [.c [1, 1, 0], .c [1, 1, 1]]) (by kernel_rfl) ?_
    refine RunH.reg (by kernel_rfl) ?_
    refine RgH.runk 1 [10] (vs := [.int .i64 a0.Room, .int .i64 a0.Lease, .slice Aa0_2 a0.Blobs.length ca0_2, .slice Aa0_3 a0.Entries.length ca0_3]) (evs := [.load ⟨g1, 0, none⟩ (.int .i64 a0.Room), .load ⟨g1, 1, none⟩ (.int .i64 a0.Lease), .load ⟨g1, 2, none⟩ (.slice Aa0_2 a0.Blobs.length ca0_2), .load ⟨g1, 3, none⟩ (.slice Aa0_3 a0.Entries.length ca0_3)]) (L' := [(10, .agg #[.int .i64 a0.Room, .int .i64 a0.Lease, .slice Aa0_2 a0.Blobs.length ca0_2, .slice Aa0_3 a0.Entries.length ca0_3])]) (by kernel_rfl) (by kernel_rfl) (fun w hh => ⟨(hh.box 0 rfl rfl), (hh.box 0 rfl rfl), (hh.box 0 rfl rfl), (hh.box 0 rfl rfl)⟩) ?_
    obtain ⟨y2, hy2, heq⟩ := bind_some heq
    refine RgH.does (DoesH.call (d := 11) (g := 66) (args := #[.agg #[.int .i64 a0.Room, .int .i64 a0.Lease, .slice Aa0_2 a0.Blobs.length ca0_2, .slice Aa0_3 a0.Entries.length ca0_3]]) (by kernel_rfl) (cache_used_c (a0 := a0) (hra0_2.wk (fun _ h => (.tail _ h))) hca0_2 rfl (hra0_3.wk (fun _ h => (.tail _ h))) hca0_3 rfl hy2)) ?_
    rintro _ _ _ _ ⟨_, rfl, rfl, rfl, rfl⟩
    refine RgH.runk 4 [2, 3] (vs := []) (evs := []) (L' := [(2, .int .i64 y2), (3, .int .i64 0)]) (by kernel_rfl) (by kernel_rfl) (fun _ _ => trivial) ?_
    refine RgH.done (by kernel_rfl) ?_
    obtain rfl := Option.some.inj heq
    refine RunH.pick 1 [] (cs' := F) (by kernel_rfl) rfl ?_
    exact RunH.done (by kernel_rfl) Tryd.func24 (v := .tuple #[.int .i64 y2, .int .i64 0]) (by kernel_rfl) ⟨rfl, rfl, rfl⟩
noncomputable def C25 : Ctx := { P := Tryd.prog, f := 25, N := 13, c := bodyOf Tryd.f25 }
def S25 (F : List Ch) (H0 : Hp) (r : Int × Int) (v : Value) (H : Hp) (cs : List Ch) : Prop := H0 = H ∧ v = .tuple #[.int .i64 r.1, .int .i64 r.2] ∧ F = cs
theorem smithyardref7_Used_c {w0 : World} {H : Hp} {F : List Ch} {a0 : Cache} {Aa0_2 : Option Addr} {na0_2 : Nat} {ca0_2 : Nat} {Aa0_3 : Option Addr} {na0_3 : Nat} {ca0_3 : Nat} {r : Int × Int} (hra0_2 : Rw kBlob H F Aa0_2 a0.Blobs) (hca0_2 : na0_2 ≤ ca0_2) (hna0_2 : na0_2 = a0.Blobs.length) (hra0_3 : Rw kEntry H F Aa0_3 a0.Entries) (hca0_3 : na0_3 ≤ ca0_3) (hna0_3 : na0_3 = a0.Entries.length) (heq : smithyardref7_Used.f a0 = some r) : CallsH Tryd.prog 25 #[.agg #[.int .i64 a0.Room, .int .i64 a0.Lease, .slice Aa0_2 na0_2 ca0_2, .slice Aa0_3 na0_3 ca0_3]] H w0 (F) (S25 F H r) := by
  refine calls_of_runH (F := C25) Tryd.func25 (by kernel_rfl) Tryd.ntmps25 (args := [.agg #[.int .i64 a0.Room, .int .i64 a0.Lease, .slice Aa0_2 na0_2 ca0_2, .slice Aa0_3 na0_3 ca0_3]]) (by kernel_rfl) ?_
  subst hna0_2
  subst hna0_3
  unfold smithyardref7_Used.f at heq
  refine RunH.adm 1 (es' := [.c [0], .c [1]]) (by kernel_rfl) ?_
  refine RunH.reg (by kernel_rfl) ?_
  refine RgH.does (DoesH.new (d := 1) (v := fun g => .pointer (some ⟨g, 0, none⟩)) (o := fun g => .cells #[.int .i64 a0.Room, .int .i64 a0.Lease, .slice Aa0_2 a0.Blobs.length ca0_2, .slice Aa0_3 a0.Entries.length ca0_3] 25 (0, 0)) (fun g => by kernel_rfl)) ?_
  rintro _ _ _ _ ⟨g1, rfl, rfl, rfl⟩
  refine RgH.runk 3 [1] (vs := []) (evs := []) (L' := [(1, .pointer (some ⟨g1, 0, none⟩))]) (by kernel_rfl) (by kernel_rfl) (fun _ _ => trivial) ?_
  refine RgH.done (by kernel_rfl) ?_
  refine RunH.adm 2 (es' := [.c [1, 0, 0], .c [1, 0, 1], .c [1, 1]]) (by kernel_rfl) ?_
  refine RunH.reg (by kernel_rfl) ?_
  refine RgH.runk 1 [1, 5] (vs := [.int .i64 a0.Room, .int .i64 a0.Lease, .slice Aa0_2 a0.Blobs.length ca0_2, .slice Aa0_3 a0.Entries.length ca0_3]) (evs := [.load ⟨g1, 0, none⟩ (.int .i64 a0.Room), .load ⟨g1, 1, none⟩ (.int .i64 a0.Lease), .load ⟨g1, 2, none⟩ (.slice Aa0_2 a0.Blobs.length ca0_2), .load ⟨g1, 3, none⟩ (.slice Aa0_3 a0.Entries.length ca0_3)]) (L' := [(1, .pointer (some ⟨g1, 0, none⟩)), (5, .agg #[.int .i64 a0.Room, .int .i64 a0.Lease, .slice Aa0_2 a0.Blobs.length ca0_2, .slice Aa0_3 a0.Entries.length ca0_3])]) (by kernel_rfl) (by kernel_rfl) (fun w hh => ⟨(hh.box 0 rfl rfl), (hh.box 0 rfl rfl), (hh.box 0 rfl rfl), (hh.box 0 rfl rfl)⟩) ?_
  obtain ⟨y1, hy1, heq⟩ := bind_some heq
  refine RgH.does (DoesH.call (d := 6) (g := 23) (args := #[.agg #[.int .i64 a0.Room, .int .i64 a0.Lease, .slice Aa0_2 a0.Blobs.length ca0_2, .slice Aa0_3 a0.Entries.length ca0_3]]) (by kernel_rfl) (smithyardref7_CheckCache_c (a0 := a0) (hra0_2.wk (fun _ h => (.tail _ h))) hca0_2 rfl (hra0_3.wk (fun _ h => (.tail _ h))) hca0_3 rfl hy1)) ?_
  rintro _ _ _ _ ⟨_, rfl, rfl, rfl, rfl⟩
  refine RgH.runk 3 [1, 4] (vs := []) (evs := []) (L' := [(1, .pointer (some ⟨g1, 0, none⟩)), (4, .int .i64 y1)]) (by kernel_rfl) (by kernel_rfl) (fun _ _ => trivial) ?_
  refine RgH.done (by kernel_rfl) ?_
  refine RunH.adm 1 (es' := [.c [1, 0, 1, 0], .c [1, 0, 1, 1], .c [1, 1]]) (by kernel_rfl) ?_
  refine RunH.reg (by kernel_rfl) ?_
  refine RgH.runk 2 [1, 4, 8] (vs := []) (evs := []) (L' := [(1, .pointer (some ⟨g1, 0, none⟩)), (4, .int .i64 y1), (8, .bool (y1 != 0))]) (by kernel_rfl) (by kernel_rfl) (fun _ _ => trivial) ?_
  refine RgH.done (by kernel_rfl) ?_
  rcases bool_cases (y1 != 0) with hb1 | hb1
  · replace heq := bif_true hb1 heq
    refine RunH.condT (c := y1 != 0) (by kernel_rfl) hb1 ?_
    refine RunH.adm 1 (es' := [.c [1, 0, 1, 1, 0, 0], .c [1, 0, 1, 1, 0, 1], .c [1, 1]]) (by kernel_rfl) ?_
    refine RunH.reg (by kernel_rfl) ?_
    refine RgH.runk 3 [2, 3] (vs := []) (evs := []) (L' := [(2, .int .i64 0), (3, .int .i64 y1)]) (by kernel_rfl) (by kernel_rfl) (fun _ _ => trivial) ?_
    refine RgH.done (by kernel_rfl) ?_
    obtain rfl := Option.some.inj heq
    refine RunH.pick 1 [] (cs' := F) (by kernel_rfl) rfl ?_
    exact RunH.done (by kernel_rfl) Tryd.func25 (v := .tuple #[.int .i64 0, .int .i64 y1]) (by kernel_rfl) ⟨rfl, rfl, rfl⟩
  · replace heq := bif_false hb1 heq
    refine RunH.condF (c := y1 != 0) (by kernel_rfl) hb1 ?_
    refine RunH.adm 2 (es' := [.c [1, 1, 0], .c [1, 1, 1]]) (by kernel_rfl) ?_
    refine RunH.reg (by kernel_rfl) ?_
    refine RgH.runk 2 [11] (vs := [.slice Aa0_2 a0.Blobs.length ca0_2]) (evs := [.load ⟨g1, 2, none⟩ (.slice Aa0_2 a0.Blobs.length ca0_2)]) (L' := [(11, .slice Aa0_2 a0.Blobs.length ca0_2)]) (by kernel_rfl) (by kernel_rfl) (fun w hh => (hh.box 0 rfl rfl)) ?_
    obtain ⟨y2, hy2, heq⟩ := bind_some heq
    refine RgH.does (DoesH.call (d := 12) (g := 64) (args := #[.slice Aa0_2 a0.Blobs.length ca0_2]) (by kernel_rfl) (smithyardref7_bytesOf_c (a0 := a0.Blobs) (hra0_2.wk (fun _ h => (.tail _ h))) hca0_2 rfl hy2)) ?_
    rintro _ _ _ _ ⟨_, rfl, rfl, rfl, rfl⟩
    refine RgH.runk 5 [2, 3] (vs := []) (evs := []) (L' := [(2, .int .i64 y2), (3, .int .i64 0)]) (by kernel_rfl) (by kernel_rfl) (fun _ _ => trivial) ?_
    refine RgH.done (by kernel_rfl) ?_
    obtain rfl := Option.some.inj heq
    refine RunH.pick 1 [] (cs' := F) (by kernel_rfl) rfl ?_
    exact RunH.done (by kernel_rfl) Tryd.func25 (v := .tuple #[.int .i64 y2, .int .i64 0]) (by kernel_rfl) ⟨rfl, rfl, rfl⟩
def S114 (F : List Ch) (H0 : Hp) (r : Int) (v : Value) (H : Hp) (cs : List Ch) : Prop := H0 = H ∧ v = .int .i64 r ∧ F = cs
theorem strings_Compare_c {w0 : World} {H : Hp} {F : List Ch} {a0 : ByteArray} {a1 : ByteArray} {r : Int} (heq : strings_Compare.f a0 a1 = some r) : CallsH Tryd.prog 114 #[.string a0, .string a1] H w0 F (S114 F H r) := by
  intro w hh
  unfold strings_Compare.f at heq
  obtain rfl := Option.some.inj heq
  refine (Shelf.Tryd.strings_Compare a0 a1 w).mono ?_
  rintro e w' ⟨rfl, rfl⟩
  exact ⟨_, rfl, H, F, Le.refl H, hh, rfl, rfl, rfl⟩
noncomputable def C116 : Ctx := { P := Tryd.prog, f := 116, N := 9, c := bodyOf Tryd.f116 }
def S116 (F : List Ch) (H0 : Hp) (r : Int) (v : Value) (H : Hp) (cs : List Ch) : Prop := H0 = H ∧ v = .int .i64 r ∧ F = cs
theorem cache_find_1_c {w0 : World} {H : Hp} {F : List Ch} {a0 : Blob} {a1 : ByteArray} {r : Int} (heq : cache_find_1.f a0 a1 = some r) : CallsH Tryd.prog 116 #[.agg #[.string a0.Digest, .int .i64 a0.Size, .int .i64 a0.Used, .int .i64 a0.Until, .int .i64 a0.Pins], .string a1] H w0 (F) (S116 F H r) := by
  refine calls_of_runH (F := C116) Tryd.func116 (by kernel_rfl) Tryd.ntmps116 (args := [.agg #[.string a0.Digest, .int .i64 a0.Size, .int .i64 a0.Used, .int .i64 a0.Until, .int .i64 a0.Pins], .string a1]) (by kernel_rfl) ?_
  unfold cache_find_1.f at heq
  refine RunH.adm 1 (es' := [.c [0], .c [1]]) (by kernel_rfl) ?_
  refine RunH.reg (by kernel_rfl) ?_
  refine RgH.does (DoesH.new (d := 2) (v := fun g => .pointer (some ⟨g, 0, none⟩)) (o := fun g => .cells #[.string a0.Digest, .int .i64 a0.Size, .int .i64 a0.Used, .int .i64 a0.Until, .int .i64 a0.Pins] 47 (0, 0)) (fun g => by kernel_rfl)) ?_
  rintro _ _ _ _ ⟨g1, rfl, rfl, rfl⟩
  refine RgH.runk 2 [1, 2] (vs := []) (evs := []) (L' := [(1, .string a1), (2, .pointer (some ⟨g1, 0, none⟩))]) (by kernel_rfl) (by kernel_rfl) (fun _ _ => trivial) ?_
  refine RgH.done (by kernel_rfl) ?_
  refine RunH.adm 1 (es' := [.c [1, 0], .c [1, 1]]) (by kernel_rfl) ?_
  refine RunH.reg (by kernel_rfl) ?_
  refine RgH.runk 3 [6, 7] (vs := [.string a0.Digest]) (evs := [.load ⟨g1, 0, none⟩ (.string a0.Digest)]) (L' := [(6, .string a0.Digest), (7, .string a1)]) (by kernel_rfl) (by kernel_rfl) (fun w hh => (hh.box 0 rfl rfl)) ?_
  obtain ⟨y1, hy1, heq⟩ := bind_some heq
  refine RgH.does (DoesH.call (d := 8) (g := 114) (args := #[.string a0.Digest, .string a1]) (by kernel_rfl) (strings_Compare_c (a0 := a0.Digest) (a1 := a1)  hy1)) ?_
  rintro _ _ _ _ ⟨_, rfl, rfl, rfl, rfl⟩
  refine RgH.runk 5 [4] (vs := []) (evs := []) (L' := [(4, .int .i64 y1)]) (by kernel_rfl) (by kernel_rfl) (fun _ _ => trivial) ?_
  refine RgH.done (by kernel_rfl) ?_
  obtain rfl := Option.some.inj heq
  refine RunH.pick 1 [] (cs' := F) (by kernel_rfl) rfl ?_
  exact RunH.done (by kernel_rfl) Tryd.func116 (v := .int .i64 y1) (by kernel_rfl) ⟨rfl, rfl, rfl⟩
noncomputable def C115 : Ctx := { P := Tryd.prog, f := 115, N := 49, c := bodyOf Tryd.f115 }
def S115 (F : List Ch) (H0 : Hp) (r : Int × Bool) (v : Value) (H : Hp) (cs : List Ch) : Prop := H0 = H ∧ v = .tuple #[.int .i64 r.1, .bool r.2] ∧ F = cs
theorem slices_BinarySearchFunc_Blob_string.e1_c {w0 : World} {H : Hp} {F : List Ch} {r : Int × Bool} : ∀ (a0 : List Blob) (Aa0 : Option Addr) (ca0 : Nat) (a1 : ByteArray) (v_i9 : Int) , Rw kBlob H F Aa0 a0 → a0.length ≤ ca0 → slices_BinarySearchFunc_Blob_string.e1 a0 a1 v_i9 = some r → RunH C115 (S115 F H r) H w0 [.c [1, 1, 1, 1, 0], .c [1, 1, 1, 1, 1]] [(0, .slice Aa0 a0.length ca0), (1, .string a1), (2, .func (.func 116) #[] #[]), (8, .int .i64 (a0.length : Int)), (9, .int .i64 v_i9)] H (F) := by
  intro a0 Aa0 ca0 a1 v_i9 hra0 hca0 heq
  unfold slices_BinarySearchFunc_Blob_string.e1 at heq
  obtain ⟨t1, ht1, heq⟩ := bind_some heq
  have K1 : RunH C115 (S115 F H r) H w0 [.c [1, 1, 1, 1, 1]] [(6, .int .i64 v_i9), (7, .bool t1)] H (F) := by
    obtain rfl := Option.some.inj heq
    exact RunH.done (by kernel_rfl) Tryd.func115 (v := .tuple #[.int .i64 v_i9, .bool t1]) (by kernel_rfl) ⟨rfl, rfl, rfl⟩
  replace heq := ht1
  refine RunH.reg (by kernel_rfl) ?_
  refine RgH.runk 5 [39, 0, 1, 2, 9, 35] (vs := []) (evs := []) (L' := [(39, .bool (decide (v_i9 < (a0.length : Int)))), (0, .slice Aa0 a0.length ca0), (1, .string a1), (2, .func (.func 116) #[] #[]), (9, .int .i64 v_i9), (35, .int .i64 v_i9)]) (by kernel_rfl) (by kernel_rfl) (fun _ _ => trivial) ?_
  rcases bool_cases (decide (v_i9 < (a0.length : Int))) with hb1 | hb1
  · replace heq := bif_true hb1 heq
    refine RgH.val1 (v' := .bool true) (congrArg Value.bool hb1) ?_
    obtain ⟨x1, hx1, heq⟩ := bind_some heq
    obtain ⟨ha1, cs1, hK1, hcc1⟩ := hra0.get hx1
    obtain ⟨rfl⟩ := kBlob_open hK1
    refine RgH.runk 11 [35, 39, 40, 44, 45] (vs := [.string x1.Digest, .int .i64 x1.Size, .int .i64 x1.Used, .int .i64 x1.Until, .int .i64 x1.Pins]) (evs := [.need (Aa0 = some (adr Aa0) ∧ (0 : Int) ≤ v_i9 ∧ v_i9 < ((a0.length : Nat) : Int)), .load (((adr Aa0).add (v_i9.toNat * 5)).add 0) (.string x1.Digest), .load (((adr Aa0).add (v_i9.toNat * 5)).add 1) (.int .i64 x1.Size), .load (((adr Aa0).add (v_i9.toNat * 5)).add 2) (.int .i64 x1.Used), .load (((adr Aa0).add (v_i9.toNat * 5)).add 3) (.int .i64 x1.Until), .load (((adr Aa0).add (v_i9.toNat * 5)).add 4) (.int .i64 x1.Pins)]) (L' := [(35, .int .i64 v_i9), (39, .bool true), (40, .func (.func 116) #[] #[]), (44, .agg #[.string x1.Digest, .int .i64 x1.Size, .int .i64 x1.Used, .int .i64 x1.Until, .int .i64 x1.Pins]), (45, .string a1)]) (by kernel_rfl) (by kernel_rfl) (fun w hh => ⟨⟨ha1, (at?_some hx1).1, (at?_some hx1).2.1⟩, (hcc1 _ _ (hh.drop 0) 0 _ rfl), (hcc1 _ _ (hh.drop 0) 1 _ rfl), (hcc1 _ _ (hh.drop 0) 2 _ rfl), (hcc1 _ _ (hh.drop 0) 3 _ rfl), (hcc1 _ _ (hh.drop 0) 4 _ rfl)⟩) ?_
    obtain ⟨y1, hy1, heq⟩ := bind_some heq
    refine RgH.does (DoesH.call (d := 46) (g := 116) (args := #[.agg #[.string x1.Digest, .int .i64 x1.Size, .int .i64 x1.Used, .int .i64 x1.Until, .int .i64 x1.Pins], .string a1]) (by kernel_rfl) (cache_find_1_c (a0 := x1) (a1 := a1)  hy1)) ?_
    rintro _ _ _ _ ⟨_, rfl, rfl, rfl, rfl⟩
    refine RgH.runk 16 [6, 7] (vs := []) (evs := []) (L' := [(6, .int .i64 v_i9), (7, .bool (y1 == 0))]) (by kernel_rfl) (by kernel_rfl) (fun _ _ => trivial) ?_
    obtain rfl := Option.some.inj heq
    refine RgH.keep [6, 7] (L' := [(6, .int .i64 v_i9), (7, .bool (y1 == 0))]) (by kernel_rfl) ?_
    refine RgH.done (by kernel_rfl) ?_
    exact K1
  · replace heq := bif_false hb1 heq
    refine RgH.val1 (v' := .bool false) (congrArg Value.bool hb1) ?_
    refine RgH.runk 16 [6, 7] (vs := []) (evs := []) (L' := [(6, .int .i64 v_i9), (7, .bool false)]) (by kernel_rfl) (by kernel_rfl) (fun _ _ => trivial) ?_
    obtain rfl := Option.some.inj heq
    refine RgH.keep [6, 7] (L' := [(6, .int .i64 v_i9), (7, .bool false)]) (by kernel_rfl) ?_
    refine RgH.done (by kernel_rfl) ?_
    exact K1
theorem slices_BinarySearchFunc_Blob_string.l2_c {w0 : World} {H : Hp} {F : List Ch} {r : Int × Bool} (e1 : (List Blob) → ByteArray → Int → Option (Int × Bool))
    (he1 : ∀ (a0 : List Blob) (Aa0 : Option Addr) (ca0 : Nat) (a1 : ByteArray) (v_i9 : Int) , Rw kBlob H F Aa0 a0 → a0.length ≤ ca0 → e1 a0 a1 v_i9 = some r → RunH C115 (S115 F H r) H w0 [.c [1, 1, 1, 1, 0], .c [1, 1, 1, 1, 1]] [(0, .slice Aa0 a0.length ca0), (1, .string a1), (2, .func (.func 116) #[] #[]), (8, .int .i64 (a0.length : Int)), (9, .int .i64 v_i9)] H (F)) : ∀ (k : Nat), ∀ (a0 : List Blob) (Aa0 : Option Addr) (ca0 : Nat) (a1 : ByteArray) (v_i9 : Int) (v_j10 : Int) , Rw kBlob H F Aa0 a0 → a0.length ≤ ca0 → slices_BinarySearchFunc_Blob_string.l2 e1 k a0 a1 v_i9 v_j10 = some r → RunH C115 (S115 F H r) H w0 [.c [1, 1, 1, 0, 0, 0], .l [1, 1, 1, 0, 0, 0], .b 0, .c [1, 1, 1, 1]] [(0, .slice Aa0 a0.length ca0), (1, .string a1), (2, .func (.func 116) #[] #[]), (8, .int .i64 (a0.length : Int)), (9, .int .i64 v_i9), (10, .int .i64 v_j10)] H (F) := by
  intro k
  induction k with
  | zero => intro a0 Aa0 ca0 a1 v_i9 v_j10 hra0 hca0 heq; exact nomatch (show (none : Option (Int × Bool)) = some r from heq)
  | succ k ihk =>
    intro a0 Aa0 ca0 a1 v_i9 v_j10 hra0 hca0 heq
    rw [slices_BinarySearchFunc_Blob_string.l2] at heq
    refine RunH.adm 2 (es' := [.c [1, 1, 1, 0, 0, 0, 0, 0], .c [1, 1, 1, 0, 0, 0, 0, 1], .c [1, 1, 1, 0, 0, 0, 1], .l [1, 1, 1, 0, 0, 0], .b 0, .c [1, 1, 1, 1]]) (by kernel_rfl) ?_
    refine RunH.reg (by kernel_rfl) ?_
    refine RgH.runk 3 [0, 1, 2, 8, 9, 10, 17] (vs := []) (evs := []) (L' := [(0, .slice Aa0 a0.length ca0), (1, .string a1), (2, .func (.func 116) #[] #[]), (8, .int .i64 (a0.length : Int)), (9, .int .i64 v_i9), (10, .int .i64 v_j10), (17, .bool (decide (v_i9 < v_j10)))]) (by kernel_rfl) (by kernel_rfl) (fun _ _ => trivial) ?_
    refine RgH.done (by kernel_rfl) ?_
    rcases bool_cases (decide (v_i9 < v_j10)) with hb2 | hb2
    · replace heq := bif_true hb2 heq
      refine RunH.condT (c := decide (v_i9 < v_j10)) (by kernel_rfl) hb2 ?_
      refine RunH.adm 3 (es' := [.c [1, 1, 1, 0, 0, 0, 1, 0, 0], .c [1, 1, 1, 0, 0, 0, 1, 0, 1], .b 1, .l [1, 1, 1, 0, 0, 0], .b 0, .c [1, 1, 1, 1]]) (by kernel_rfl) ?_
      refine RunH.reg (by kernel_rfl) ?_
      refine RgH.runk 7 [0, 1, 2, 8, 9, 10, 11] (vs := []) (evs := [.need ((0 : Int) ≤ 1)]) (L' := [(0, .slice Aa0 a0.length ca0), (1, .string a1), (2, .func (.func 116) #[] #[]), (8, .int .i64 (a0.length : Int)), (9, .int .i64 v_i9), (10, .int .i64 v_j10), (11, .int .i64 (w64 (iShr .u64 (IntKind.wrap .u64 (w64 (v_i9 + v_j10))) 1)))]) (by kernel_rfl) (by kernel_rfl) (fun w hh => (show (0 : Int) ≤ 1 by decide)) ?_
      refine RgH.done (by kernel_rfl) ?_
      refine RunH.adm 1 (es' := [.c [1, 1, 1, 0, 0, 0, 1, 0, 1, 0], .c [1, 1, 1, 0, 0, 0, 1, 0, 1, 1], .b 1, .l [1, 1, 1, 0, 0, 0], .b 0, .c [1, 1, 1, 1]]) (by kernel_rfl) ?_
      refine RunH.reg (by kernel_rfl) ?_
      obtain ⟨x2, hx2, heq⟩ := bind_some heq
      obtain ⟨ha2, cs2, hK2, hcc2⟩ := hra0.get hx2
      obtain ⟨rfl⟩ := kBlob_open hK2
      refine RgH.runk 6 [0, 1, 2, 8, 9, 10, 11, 24, 28, 29] (vs := [.string x2.Digest, .int .i64 x2.Size, .int .i64 x2.Used, .int .i64 x2.Until, .int .i64 x2.Pins]) (evs := [.need (Aa0 = some (adr Aa0) ∧ (0 : Int) ≤ (w64 (iShr .u64 (IntKind.wrap .u64 (w64 (v_i9 + v_j10))) 1)) ∧ (w64 (iShr .u64 (IntKind.wrap .u64 (w64 (v_i9 + v_j10))) 1)) < ((a0.length : Nat) : Int)), .load (((adr Aa0).add ((w64 (iShr .u64 (IntKind.wrap .u64 (w64 (v_i9 + v_j10))) 1)).toNat * 5)).add 0) (.string x2.Digest), .load (((adr Aa0).add ((w64 (iShr .u64 (IntKind.wrap .u64 (w64 (v_i9 + v_j10))) 1)).toNat * 5)).add 1) (.int .i64 x2.Size), .load (((adr Aa0).add ((w64 (iShr .u64 (IntKind.wrap .u64 (w64 (v_i9 + v_j10))) 1)).toNat * 5)).add 2) (.int .i64 x2.Used), .load (((adr Aa0).add ((w64 (iShr .u64 (IntKind.wrap .u64 (w64 (v_i9 + v_j10))) 1)).toNat * 5)).add 3) (.int .i64 x2.Until), .load (((adr Aa0).add ((w64 (iShr .u64 (IntKind.wrap .u64 (w64 (v_i9 + v_j10))) 1)).toNat * 5)).add 4) (.int .i64 x2.Pins)]) (L' := [(0, .slice Aa0 a0.length ca0), (1, .string a1), (2, .func (.func 116) #[] #[]), (8, .int .i64 (a0.length : Int)), (9, .int .i64 v_i9), (10, .int .i64 v_j10), (11, .int .i64 (w64 (iShr .u64 (IntKind.wrap .u64 (w64 (v_i9 + v_j10))) 1))), (24, .func (.func 116) #[] #[]), (28, .agg #[.string x2.Digest, .int .i64 x2.Size, .int .i64 x2.Used, .int .i64 x2.Until, .int .i64 x2.Pins]), (29, .string a1)]) (by kernel_rfl) (by kernel_rfl) (fun w hh => ⟨⟨ha2, (at?_some hx2).1, (at?_some hx2).2.1⟩, (hcc2 _ _ (hh.drop 0) 0 _ rfl), (hcc2 _ _ (hh.drop 0) 1 _ rfl), (hcc2 _ _ (hh.drop 0) 2 _ rfl), (hcc2 _ _ (hh.drop 0) 3 _ rfl), (hcc2 _ _ (hh.drop 0) 4 _ rfl)⟩) ?_
      obtain ⟨y2, hy2, heq⟩ := bind_some heq
      refine RgH.does (DoesH.call (d := 30) (g := 116) (args := #[.agg #[.string x2.Digest, .int .i64 x2.Size, .int .i64 x2.Used, .int .i64 x2.Until, .int .i64 x2.Pins], .string a1]) (by kernel_rfl) (cache_find_1_c (a0 := x2) (a1 := a1)  hy2)) ?_
      rintro _ _ _ _ ⟨_, rfl, rfl, rfl, rfl⟩
      refine RgH.runk 8 [0, 1, 2, 8, 9, 10, 11, 31] (vs := []) (evs := []) (L' := [(0, .slice Aa0 a0.length ca0), (1, .string a1), (2, .func (.func 116) #[] #[]), (8, .int .i64 (a0.length : Int)), (9, .int .i64 v_i9), (10, .int .i64 v_j10), (11, .int .i64 (w64 (iShr .u64 (IntKind.wrap .u64 (w64 (v_i9 + v_j10))) 1))), (31, .bool (decide (y2 < 0)))]) (by kernel_rfl) (by kernel_rfl) (fun _ _ => trivial) ?_
      refine RgH.done (by kernel_rfl) ?_
      rcases bool_cases (decide (y2 < 0)) with hb3 | hb3
      · replace heq := bif_true hb3 heq
        refine RunH.condT (c := decide (y2 < 0)) (by kernel_rfl) hb3 ?_
        refine RunH.reg (by kernel_rfl) ?_
        refine RgH.runk 3 [0, 1, 2, 8, 9, 10] (vs := []) (evs := []) (L' := [(0, .slice Aa0 a0.length ca0), (1, .string a1), (2, .func (.func 116) #[] #[]), (8, .int .i64 (a0.length : Int)), (9, .int .i64 (w64 ((w64 (iShr .u64 (IntKind.wrap .u64 (w64 (v_i9 + v_j10))) 1)) + 1))), (10, .int .i64 v_j10)]) (by kernel_rfl) (by kernel_rfl) (fun _ _ => trivial) ?_
        refine RgH.done (by kernel_rfl) ?_
        refine RunH.adm 2 (es' := [.c [1, 1, 1, 0, 0, 0], .l [1, 1, 1, 0, 0, 0], .b 0, .c [1, 1, 1, 1]]) (by kernel_rfl) ?_
        refine RunH.keep [0, 1, 2, 8, 9, 10] (L' := [(0, .slice Aa0 a0.length ca0), (1, .string a1), (2, .func (.func 116) #[] #[]), (8, .int .i64 (a0.length : Int)), (9, .int .i64 (w64 ((w64 (iShr .u64 (IntKind.wrap .u64 (w64 (v_i9 + v_j10))) 1)) + 1))), (10, .int .i64 v_j10)]) (by kernel_rfl) ?_
        exact ihk a0 _ _ a1 (w64 ((w64 (iShr .u64 (IntKind.wrap .u64 (w64 (v_i9 + v_j10))) 1)) + 1)) v_j10 hra0 hca0 heq
      · replace heq := bif_false hb3 heq
        refine RunH.condF (c := decide (y2 < 0)) (by kernel_rfl) hb3 ?_
        refine RunH.reg (by kernel_rfl) ?_
        refine RgH.runk 2 [0, 1, 2, 8, 9, 10] (vs := []) (evs := []) (L' := [(0, .slice Aa0 a0.length ca0), (1, .string a1), (2, .func (.func 116) #[] #[]), (8, .int .i64 (a0.length : Int)), (9, .int .i64 v_i9), (10, .int .i64 (w64 (iShr .u64 (IntKind.wrap .u64 (w64 (v_i9 + v_j10))) 1)))]) (by kernel_rfl) (by kernel_rfl) (fun _ _ => trivial) ?_
        refine RgH.done (by kernel_rfl) ?_
        refine RunH.adm 2 (es' := [.c [1, 1, 1, 0, 0, 0], .l [1, 1, 1, 0, 0, 0], .b 0, .c [1, 1, 1, 1]]) (by kernel_rfl) ?_
        refine RunH.keep [0, 1, 2, 8, 9, 10] (L' := [(0, .slice Aa0 a0.length ca0), (1, .string a1), (2, .func (.func 116) #[] #[]), (8, .int .i64 (a0.length : Int)), (9, .int .i64 v_i9), (10, .int .i64 (w64 (iShr .u64 (IntKind.wrap .u64 (w64 (v_i9 + v_j10))) 1)))]) (by kernel_rfl) ?_
        exact ihk a0 _ _ a1 v_i9 (w64 (iShr .u64 (IntKind.wrap .u64 (w64 (v_i9 + v_j10))) 1)) hra0 hca0 heq
    · replace heq := bif_false hb2 heq
      refine RunH.condF (c := decide (v_i9 < v_j10)) (by kernel_rfl) hb2 ?_
      refine RunH.adm 2 (es' := [.c [1, 1, 1, 1, 0], .c [1, 1, 1, 1, 1]]) (by kernel_rfl) ?_
      refine RunH.keep [0, 1, 2, 8, 9] (L' := [(0, .slice Aa0 a0.length ca0), (1, .string a1), (2, .func (.func 116) #[] #[]), (8, .int .i64 (a0.length : Int)), (9, .int .i64 v_i9)]) (by kernel_rfl) ?_
      exact he1 a0 _ _ a1 v_i9 hra0 hca0 heq
theorem slices_BinarySearchFunc_Blob_string_c {w0 : World} {H : Hp} {F : List Ch} {a0 : List Blob} {Aa0 : Option Addr} {na0 : Nat} {ca0 : Nat} {a1 : ByteArray} {r : Int × Bool} (hra0 : Rw kBlob H F Aa0 a0) (hca0 : na0 ≤ ca0) (hna0 : na0 = a0.length) (heq : slices_BinarySearchFunc_Blob_string.f a0 a1 = some r) : CallsH Tryd.prog 115 #[.slice Aa0 na0 ca0, .string a1, .func (.func 116) #[] #[]] H w0 (F) (S115 F H r) := by
  refine calls_of_runH (F := C115) Tryd.func115 (by kernel_rfl) Tryd.ntmps115 (args := [.slice Aa0 na0 ca0, .string a1, .func (.func 116) #[] #[]]) (by kernel_rfl) ?_
  subst hna0
  unfold slices_BinarySearchFunc_Blob_string.f at heq
  refine RunH.adm 1 (es' := [.c [0], .c [1]]) (by kernel_rfl) ?_
  refine RunH.reg (by kernel_rfl) ?_
  refine RgH.runk 2 [0, 1, 2] (vs := []) (evs := []) (L' := [(0, .slice Aa0 a0.length ca0), (1, .string a1), (2, .func (.func 116) #[] #[])]) (by kernel_rfl) (by kernel_rfl) (fun _ _ => trivial) ?_
  refine RgH.done (by kernel_rfl) ?_
  refine RunH.adm 1 (es' := [.c [1, 0], .c [1, 1]]) (by kernel_rfl) ?_
  refine RunH.reg (by kernel_rfl) ?_
  refine RgH.runk 3 [0, 1, 2, 8] (vs := []) (evs := []) (L' := [(0, .slice Aa0 a0.length ca0), (1, .string a1), (2, .func (.func 116) #[] #[]), (8, .int .i64 (a0.length : Int))]) (by kernel_rfl) (by kernel_rfl) (fun _ _ => trivial) ?_
  refine RgH.done (by kernel_rfl) ?_
  refine RunH.adm 1 (es' := [.c [1, 1, 0], .c [1, 1, 1]]) (by kernel_rfl) ?_
  refine RunH.reg (by kernel_rfl) ?_
  refine RgH.runk 3 [0, 1, 2, 8, 9, 10] (vs := []) (evs := []) (L' := [(0, .slice Aa0 a0.length ca0), (1, .string a1), (2, .func (.func 116) #[] #[]), (8, .int .i64 (a0.length : Int)), (9, .int .i64 0), (10, .int .i64 (a0.length : Int))]) (by kernel_rfl) (by kernel_rfl) (fun _ _ => trivial) ?_
  refine RgH.done (by kernel_rfl) ?_
  refine RunH.adm 3 (es' := [.c [1, 1, 1, 0, 0, 0], .l [1, 1, 1, 0, 0, 0], .b 0, .c [1, 1, 1, 1]]) (by kernel_rfl) ?_
  refine RunH.keep [0, 1, 2, 8, 9, 10] (L' := [(0, .slice Aa0 a0.length ca0), (1, .string a1), (2, .func (.func 116) #[] #[]), (8, .int .i64 (a0.length : Int)), (9, .int .i64 0), (10, .int .i64 (a0.length : Int))]) (by kernel_rfl) ?_
  exact ((slices_BinarySearchFunc_Blob_string.l2_c (e1 := slices_BinarySearchFunc_Blob_string.e1) (slices_BinarySearchFunc_Blob_string.e1_c)) big) a0 _ _ a1 0 (a0.length : Int) hra0 hca0 heq
noncomputable def C79 : Ctx := { P := Tryd.prog, f := 79, N := 12, c := bodyOf Tryd.f79 }
def S79 (F : List Ch) (H0 : Hp) (r : Int × Bool) (v : Value) (H : Hp) (cs : List Ch) : Prop := H0 = H ∧ v = .tuple #[.int .i64 r.1, .bool r.2] ∧ F = cs
theorem cache_find_c {w0 : World} {H : Hp} {F : List Ch} {a0 : Cache} {Aa0_2 : Option Addr} {na0_2 : Nat} {ca0_2 : Nat} {Aa0_3 : Option Addr} {na0_3 : Nat} {ca0_3 : Nat} {a1 : ByteArray} {r : Int × Bool} (hra0_2 : Rw kBlob H F Aa0_2 a0.Blobs) (hca0_2 : na0_2 ≤ ca0_2) (hna0_2 : na0_2 = a0.Blobs.length) (hra0_3 : Rw kEntry H F Aa0_3 a0.Entries) (hca0_3 : na0_3 ≤ ca0_3) (hna0_3 : na0_3 = a0.Entries.length) (heq : cache_find.f a0 a1 = some r) : CallsH Tryd.prog 79 #[.agg #[.int .i64 a0.Room, .int .i64 a0.Lease, .slice Aa0_2 na0_2 ca0_2, .slice Aa0_3 na0_3 ca0_3], .string a1] H w0 (F) (S79 F H r) := by
  refine calls_of_runH (F := C79) Tryd.func79 (by kernel_rfl) Tryd.ntmps79 (args := [.agg #[.int .i64 a0.Room, .int .i64 a0.Lease, .slice Aa0_2 na0_2 ca0_2, .slice Aa0_3 na0_3 ca0_3], .string a1]) (by kernel_rfl) ?_
  subst hna0_2
  subst hna0_3
  unfold cache_find.f at heq
  refine RunH.adm 1 (es' := [.c [0], .c [1]]) (by kernel_rfl) ?_
  refine RunH.reg (by kernel_rfl) ?_
  refine RgH.does (DoesH.new (d := 2) (v := fun g => .pointer (some ⟨g, 0, none⟩)) (o := fun g => .cells #[.int .i64 a0.Room, .int .i64 a0.Lease, .slice Aa0_2 a0.Blobs.length ca0_2, .slice Aa0_3 a0.Entries.length ca0_3] 25 (0, 0)) (fun g => by kernel_rfl)) ?_
  rintro _ _ _ _ ⟨g1, rfl, rfl, rfl⟩
  refine RgH.runk 3 [1, 2] (vs := []) (evs := []) (L' := [(1, .string a1), (2, .pointer (some ⟨g1, 0, none⟩))]) (by kernel_rfl) (by kernel_rfl) (fun _ _ => trivial) ?_
  refine RgH.done (by kernel_rfl) ?_
  refine RunH.adm 1 (es' := [.c [1, 0], .c [1, 1]]) (by kernel_rfl) ?_
  refine RunH.reg (by kernel_rfl) ?_
  refine RgH.runk 3 [7, 8] (vs := [.slice Aa0_2 a0.Blobs.length ca0_2]) (evs := [.load ⟨g1, 2, none⟩ (.slice Aa0_2 a0.Blobs.length ca0_2)]) (L' := [(7, .slice Aa0_2 a0.Blobs.length ca0_2), (8, .string a1)]) (by kernel_rfl) (by kernel_rfl) (fun w hh => (hh.box 0 rfl rfl)) ?_
  obtain ⟨y1, hy1, heq⟩ := bind_some heq
  refine RgH.does (DoesH.call (d := 9) (g := 115) (args := #[.slice Aa0_2 a0.Blobs.length ca0_2, .string a1, .func (.func 116) #[] #[]]) (by kernel_rfl) (slices_BinarySearchFunc_Blob_string_c (a0 := a0.Blobs) (a1 := a1) (hra0_2.wk (fun _ h => (.tail _ h))) hca0_2 rfl hy1)) ?_
  rintro _ _ _ _ ⟨_, rfl, rfl, rfl, rfl⟩
  refine RgH.runk 8 [4, 5] (vs := []) (evs := []) (L' := [(4, .int .i64 y1.1), (5, .bool y1.2)]) (by kernel_rfl) (by kernel_rfl) (fun _ _ => trivial) ?_
  refine RgH.done (by kernel_rfl) ?_
  obtain rfl := Option.some.inj heq
  refine RunH.pick 1 [] (cs' := F) (by kernel_rfl) rfl ?_
  exact RunH.done (by kernel_rfl) Tryd.func79 (v := .tuple #[.int .i64 y1.1, .bool y1.2]) (by kernel_rfl) ⟨rfl, rfl, rfl⟩
noncomputable def C67 : Ctx := { P := Tryd.prog, f := 67, N := 30, c := bodyOf Tryd.f67 }
def S67 (F : List Ch) (H0 : Hp) (r : (List ByteArray)) (v : Value) (H : Hp) (cs : List Ch) : Prop := ∃ (A0 : Option Addr) (c0 : Nat) (ch0 : Ch), H0 = H ∧ v = .slice A0 r.length c0 ∧ ch0 :: F = cs ∧ SlOwn Kd.string 9 H A0 c0 r ch0
theorem cache_missing.e1_c {w0 : World} {H : Hp} {F : List Ch} {r : (List ByteArray)} : ∀ (v_out5 : List ByteArray) (Av_out5 : Option Addr) (nv_out5 : Nat) (cv_out5 : Nat) (chv_out5 : Ch) , SlOwn Kd.string 9 H Av_out5 cv_out5 v_out5 chv_out5 → nv_out5 = v_out5.length → cache_missing.e1 v_out5 = some r → RunH C67 (S67 F H r) H w0 [.c [1, 1, 1, 0], .c [1, 1, 1, 1]] [(5, .slice Av_out5 nv_out5 cv_out5)] H (chv_out5 :: F) := by
  intro v_out5 Av_out5 nv_out5 cv_out5 chv_out5 hov_out5 hnv_out5 heq
  subst hnv_out5
  unfold cache_missing.e1 at heq
  refine RunH.reg (by kernel_rfl) ?_
  refine RgH.runk 2 [4] (vs := []) (evs := []) (L' := [(4, .slice Av_out5 v_out5.length cv_out5)]) (by kernel_rfl) (by kernel_rfl) (fun _ _ => trivial) ?_
  refine RgH.done (by kernel_rfl) ?_
  obtain rfl := Option.some.inj heq
  exact RunH.done (by kernel_rfl) Tryd.func67 (v := .slice Av_out5 v_out5.length cv_out5) (by kernel_rfl) ⟨Av_out5, cv_out5, chv_out5, rfl, rfl, rfl, hov_out5⟩
theorem cache_missing.j3_c {w0 : World} {H : Hp} {F : List Ch} {r : (List ByteArray)} (backl2 : Cache → (List ByteArray) → (List ByteArray) → Int → Option (List ByteArray))
    (hbackl2 : ∀ (a0 : Cache) (Aa0_2 : Option Addr) (ca0_2 : Nat) (Aa0_3 : Option Addr) (ca0_3 : Nat) (a1 : List ByteArray) (Aa1 : Option Addr) (ca1 : Nat) (g1 : Nat) (v_out5 : List ByteArray) (Av_out5 : Option Addr) (nv_out5 : Nat) (cv_out5 : Nat) (chv_out5 : Ch) (v12 : Int) , Rw kBlob H F Aa0_2 a0.Blobs → a0.Blobs.length ≤ ca0_2 → Rw kEntry H F Aa0_3 a0.Entries → a0.Entries.length ≤ ca0_3 → Rw Kd.string H F Aa1 a1 → a1.length ≤ ca1 → SlOwn Kd.string 9 H Av_out5 cv_out5 v_out5 chv_out5 → nv_out5 = v_out5.length → backl2 a0 a1 v_out5 v12 = some r → RunH C67 (S67 F H r) H w0 [.c [1, 1, 0, 1, 0, 0], .l [1, 1, 0, 1, 0, 0], .b 0, .c [1, 1, 1]] [(2, .pointer (some ⟨g1, 0, none⟩)), (5, .slice Av_out5 nv_out5 cv_out5), (10, .slice Aa1 a1.length ca1), (11, .int .i64 (a1.length : Int)), (12, .int .i64 v12)] H (chv_out5 :: (some (g1, .cells #[.int .i64 a0.Room, .int .i64 a0.Lease, .slice Aa0_2 a0.Blobs.length ca0_2, .slice Aa0_3 a0.Entries.length ca0_3] 25 (0, 0))) :: F)) : ∀ (a0 : Cache) (Aa0_2 : Option Addr) (ca0_2 : Nat) (Aa0_3 : Option Addr) (ca0_3 : Nat) (a1 : List ByteArray) (Aa1 : Option Addr) (ca1 : Nat) (g1 : Nat) (v12 : Int) (v_out5 : List ByteArray) (Av_out5 : Option Addr) (nv_out5 : Nat) (cv_out5 : Nat) (chv_out5 : Ch) , Rw kBlob H F Aa0_2 a0.Blobs → a0.Blobs.length ≤ ca0_2 → Rw kEntry H F Aa0_3 a0.Entries → a0.Entries.length ≤ ca0_3 → Rw Kd.string H F Aa1 a1 → a1.length ≤ ca1 → SlOwn Kd.string 9 H Av_out5 cv_out5 v_out5 chv_out5 → nv_out5 = v_out5.length → cache_missing.j3 backl2 a0 a1 v12 v_out5 = some r → RunH C67 (S67 F H r) H w0 [.c [1, 1, 0, 1, 0, 0, 1, 1, 1], .l [1, 1, 0, 1, 0, 0], .b 0, .c [1, 1, 1]] [(2, .pointer (some ⟨g1, 0, none⟩)), (5, .slice Av_out5 nv_out5 cv_out5), (10, .slice Aa1 a1.length ca1), (11, .int .i64 (a1.length : Int)), (12, .int .i64 v12)] H (chv_out5 :: (some (g1, .cells #[.int .i64 a0.Room, .int .i64 a0.Lease, .slice Aa0_2 a0.Blobs.length ca0_2, .slice Aa0_3 a0.Entries.length ca0_3] 25 (0, 0))) :: F) := by
  intro a0 Aa0_2 ca0_2 Aa0_3 ca0_3 a1 Aa1 ca1 g1 v12 v_out5 Av_out5 nv_out5 cv_out5 chv_out5 hra0_2 hca0_2 hra0_3 hca0_3 hra1 hca1 hov_out5 hnv_out5 heq
  subst hnv_out5
  unfold cache_missing.j3 at heq
  refine RunH.reg (by kernel_rfl) ?_
  refine RgH.runk 2 [2, 5, 10, 11, 12] (vs := []) (evs := []) (L' := [(2, .pointer (some ⟨g1, 0, none⟩)), (5, .slice Av_out5 v_out5.length cv_out5), (10, .slice Aa1 a1.length ca1), (11, .int .i64 (a1.length : Int)), (12, .int .i64 (w64 (v12 + 1)))]) (by kernel_rfl) (by kernel_rfl) (fun _ _ => trivial) ?_
  refine RgH.done (by kernel_rfl) ?_
  refine RunH.adm 1 (es' := [.c [1, 1, 0, 1, 0, 0], .l [1, 1, 0, 1, 0, 0], .b 0, .c [1, 1, 1]]) (by kernel_rfl) ?_
  refine RunH.keep [2, 5, 10, 11, 12] (L' := [(2, .pointer (some ⟨g1, 0, none⟩)), (5, .slice Av_out5 v_out5.length cv_out5), (10, .slice Aa1 a1.length ca1), (11, .int .i64 (a1.length : Int)), (12, .int .i64 (w64 (v12 + 1)))]) (by kernel_rfl) ?_
  exact hbackl2 a0 _ _ _ _ a1 _ _ _ v_out5 _ _ _ _ (w64 (v12 + 1)) hra0_2 hca0_2 hra0_3 hca0_3 hra1 hca1 hov_out5 rfl heq
theorem cache_missing.l2_c {w0 : World} {H : Hp} {F : List Ch} {r : (List ByteArray)} (e1 : (List ByteArray) → Option (List ByteArray))
    (he1 : ∀ (v_out5 : List ByteArray) (Av_out5 : Option Addr) (nv_out5 : Nat) (cv_out5 : Nat) (chv_out5 : Ch) , SlOwn Kd.string 9 H Av_out5 cv_out5 v_out5 chv_out5 → nv_out5 = v_out5.length → e1 v_out5 = some r → RunH C67 (S67 F H r) H w0 [.c [1, 1, 1, 0], .c [1, 1, 1, 1]] [(5, .slice Av_out5 nv_out5 cv_out5)] H (chv_out5 :: F)) : ∀ (k : Nat), ∀ (a0 : Cache) (Aa0_2 : Option Addr) (ca0_2 : Nat) (Aa0_3 : Option Addr) (ca0_3 : Nat) (a1 : List ByteArray) (Aa1 : Option Addr) (ca1 : Nat) (g1 : Nat) (v_out5 : List ByteArray) (Av_out5 : Option Addr) (nv_out5 : Nat) (cv_out5 : Nat) (chv_out5 : Ch) (v12 : Int) , Rw kBlob H F Aa0_2 a0.Blobs → a0.Blobs.length ≤ ca0_2 → Rw kEntry H F Aa0_3 a0.Entries → a0.Entries.length ≤ ca0_3 → Rw Kd.string H F Aa1 a1 → a1.length ≤ ca1 → SlOwn Kd.string 9 H Av_out5 cv_out5 v_out5 chv_out5 → nv_out5 = v_out5.length → cache_missing.l2 e1 k a0 a1 v_out5 v12 = some r → RunH C67 (S67 F H r) H w0 [.c [1, 1, 0, 1, 0, 0], .l [1, 1, 0, 1, 0, 0], .b 0, .c [1, 1, 1]] [(2, .pointer (some ⟨g1, 0, none⟩)), (5, .slice Av_out5 nv_out5 cv_out5), (10, .slice Aa1 a1.length ca1), (11, .int .i64 (a1.length : Int)), (12, .int .i64 v12)] H (chv_out5 :: (some (g1, .cells #[.int .i64 a0.Room, .int .i64 a0.Lease, .slice Aa0_2 a0.Blobs.length ca0_2, .slice Aa0_3 a0.Entries.length ca0_3] 25 (0, 0))) :: F) := by
  intro k
  induction k with
  | zero => intro a0 Aa0_2 ca0_2 Aa0_3 ca0_3 a1 Aa1 ca1 g1 v_out5 Av_out5 nv_out5 cv_out5 chv_out5 v12 hra0_2 hca0_2 hra0_3 hca0_3 hra1 hca1 hov_out5 hnv_out5 heq; exact nomatch (show (none : Option (List ByteArray)) = some r from heq)
  | succ k ihk =>
    intro a0 Aa0_2 ca0_2 Aa0_3 ca0_3 a1 Aa1 ca1 g1 v_out5 Av_out5 nv_out5 cv_out5 chv_out5 v12 hra0_2 hca0_2 hra0_3 hca0_3 hra1 hca1 hov_out5 hnv_out5 heq
    subst hnv_out5
    rw [cache_missing.l2] at heq
    refine RunH.adm 1 (es' := [.c [1, 1, 0, 1, 0, 0, 0], .c [1, 1, 0, 1, 0, 0, 1], .l [1, 1, 0, 1, 0, 0], .b 0, .c [1, 1, 1]]) (by kernel_rfl) ?_
    refine RunH.reg (by kernel_rfl) ?_
    refine RgH.runk 1 [2, 5, 10, 11, 12, 13] (vs := []) (evs := []) (L' := [(2, .pointer (some ⟨g1, 0, none⟩)), (5, .slice Av_out5 v_out5.length cv_out5), (10, .slice Aa1 a1.length ca1), (11, .int .i64 (a1.length : Int)), (12, .int .i64 v12), (13, .bool (decide (v12 < (a1.length : Int))))]) (by kernel_rfl) (by kernel_rfl) (fun _ _ => trivial) ?_
    refine RgH.done (by kernel_rfl) ?_
    refine RunH.adm 1 (es' := [.c [1, 1, 0, 1, 0, 0, 1, 0], .c [1, 1, 0, 1, 0, 0, 1, 1], .l [1, 1, 0, 1, 0, 0], .b 0, .c [1, 1, 1]]) (by kernel_rfl) ?_
    rcases bool_cases (decide (v12 < (a1.length : Int))) with hb1 | hb1
    · replace heq := bif_true hb1 heq
      refine RunH.condT (c := decide (v12 < (a1.length : Int))) (by kernel_rfl) hb1 ?_
      refine RunH.adm 4 (es' := [.c [1, 1, 0, 1, 0, 0, 1, 1, 0, 0, 0], .c [1, 1, 0, 1, 0, 0, 1, 1, 0, 0, 1], .b 1, .c [1, 1, 0, 1, 0, 0, 1, 1, 1], .l [1, 1, 0, 1, 0, 0], .b 0, .c [1, 1, 1]]) (by kernel_rfl) ?_
      refine RunH.reg (by kernel_rfl) ?_
      obtain ⟨x1, hx1, heq⟩ := bind_some heq
      obtain ⟨ha1, cs1, hK1, hcc1⟩ := hra1.get hx1
      obtain rfl : cs1 = [.string x1] := hK1
      refine RgH.runk 3 [2, 5, 7, 10, 11, 12] (vs := [.string x1]) (evs := [.need (Aa1 = some (adr Aa1) ∧ (0 : Int) ≤ v12 ∧ v12 < ((a1.length : Nat) : Int)), .load ((adr Aa1).add (v12.toNat * 1)) (.string x1)]) (L' := [(2, .pointer (some ⟨g1, 0, none⟩)), (5, .slice Av_out5 v_out5.length cv_out5), (7, .string x1), (10, .slice Aa1 a1.length ca1), (11, .int .i64 (a1.length : Int)), (12, .int .i64 v12)]) (by kernel_rfl) (by kernel_rfl) (fun w hh => ⟨⟨ha1, (at?_some hx1).1, (at?_some hx1).2.1⟩, (hcc1 _ _ (hh.drop 2) 0 _ rfl)⟩) ?_
      refine RgH.done (by kernel_rfl) ?_
      refine RunH.adm 1 (es' := [.c [1, 1, 0, 1, 0, 0, 1, 1, 0, 0, 1, 0], .c [1, 1, 0, 1, 0, 0, 1, 1, 0, 0, 1, 1], .b 1, .c [1, 1, 0, 1, 0, 0, 1, 1, 1], .l [1, 1, 0, 1, 0, 0], .b 0, .c [1, 1, 1]]) (by kernel_rfl) ?_
      refine RunH.reg (by kernel_rfl) ?_
      refine RgH.runk 2 [2, 5, 7, 10, 11, 12, 17, 18] (vs := [.int .i64 a0.Room, .int .i64 a0.Lease, .slice Aa0_2 a0.Blobs.length ca0_2, .slice Aa0_3 a0.Entries.length ca0_3]) (evs := [.load ⟨g1, 0, none⟩ (.int .i64 a0.Room), .load ⟨g1, 1, none⟩ (.int .i64 a0.Lease), .load ⟨g1, 2, none⟩ (.slice Aa0_2 a0.Blobs.length ca0_2), .load ⟨g1, 3, none⟩ (.slice Aa0_3 a0.Entries.length ca0_3)]) (L' := [(2, .pointer (some ⟨g1, 0, none⟩)), (5, .slice Av_out5 v_out5.length cv_out5), (7, .string x1), (10, .slice Aa1 a1.length ca1), (11, .int .i64 (a1.length : Int)), (12, .int .i64 v12), (17, .agg #[.int .i64 a0.Room, .int .i64 a0.Lease, .slice Aa0_2 a0.Blobs.length ca0_2, .slice Aa0_3 a0.Entries.length ca0_3]), (18, .string x1)]) (by kernel_rfl) (by kernel_rfl) (fun w hh => ⟨(hh.box 1 rfl rfl), (hh.box 1 rfl rfl), (hh.box 1 rfl rfl), (hh.box 1 rfl rfl)⟩) ?_
      obtain ⟨y1, hy1, heq⟩ := bind_some heq
      refine RgH.does (DoesH.call (d := 19) (g := 79) (args := #[.agg #[.int .i64 a0.Room, .int .i64 a0.Lease, .slice Aa0_2 a0.Blobs.length ca0_2, .slice Aa0_3 a0.Entries.length ca0_3], .string x1]) (by kernel_rfl) (cache_find_c (a0 := a0) (a1 := x1) (hra0_2.wk (fun _ h => (.tail _ (.tail _ h)))) hca0_2 rfl (hra0_3.wk (fun _ h => (.tail _ (.tail _ h)))) hca0_3 rfl hy1)) ?_
      rintro _ _ _ _ ⟨_, rfl, rfl, rfl, rfl⟩
      refine RgH.runk 8 [2, 5, 7, 9, 10, 11, 12] (vs := []) (evs := []) (L' := [(2, .pointer (some ⟨g1, 0, none⟩)), (5, .slice Av_out5 v_out5.length cv_out5), (7, .string x1), (9, .bool y1.2), (10, .slice Aa1 a1.length ca1), (11, .int .i64 (a1.length : Int)), (12, .int .i64 v12)]) (by kernel_rfl) (by kernel_rfl) (fun _ _ => trivial) ?_
      refine RgH.done (by kernel_rfl) ?_
      refine RunH.adm 1 (es' := [.c [1, 1, 0, 1, 0, 0, 1, 1, 0, 0, 1, 1, 0], .c [1, 1, 0, 1, 0, 0, 1, 1, 0, 0, 1, 1, 1], .b 1, .c [1, 1, 0, 1, 0, 0, 1, 1, 1], .l [1, 1, 0, 1, 0, 0], .b 0, .c [1, 1, 1]]) (by kernel_rfl) ?_
      refine RunH.reg (by kernel_rfl) ?_
      refine RgH.runk 2 [2, 5, 7, 10, 11, 12, 23] (vs := []) (evs := []) (L' := [(2, .pointer (some ⟨g1, 0, none⟩)), (5, .slice Av_out5 v_out5.length cv_out5), (7, .string x1), (10, .slice Aa1 a1.length ca1), (11, .int .i64 (a1.length : Int)), (12, .int .i64 v12), (23, .bool (!y1.2))]) (by kernel_rfl) (by kernel_rfl) (fun _ _ => trivial) ?_
      refine RgH.done (by kernel_rfl) ?_
      rcases bool_cases (!y1.2) with hb2 | hb2
      · replace heq := bif_true hb2 heq
        refine RunH.condT (c := !y1.2) (by kernel_rfl) hb2 ?_
        refine RunH.reg (by kernel_rfl) ?_
        refine RgH.runk 2 [2, 10, 11, 12, 24, 25] (vs := []) (evs := []) (L' := [(2, .pointer (some ⟨g1, 0, none⟩)), (10, .slice Aa1 a1.length ca1), (11, .int .i64 (a1.length : Int)), (12, .int .i64 v12), (24, .slice Av_out5 v_out5.length cv_out5), (25, .string x1)]) (by kernel_rfl) (by kernel_rfl) (fun _ _ => trivial) ?_
        refine RgH.does (DoesH.new (d := 26) (v := fun g => .slice (some ⟨g, 0, none⟩) 1 1) (o := fun g => .cells #[.string x1] 9 (0, 0)) (fun g => by kernel_rfl)) ?_
        rintro _ _ _ _ ⟨g2, rfl, rfl, rfl⟩
        have ho1 : SlOwn Kd.string 9 H (some ⟨g2, 0, none⟩) 1 ([x1] : List ByteArray) (some (g2, .cells #[.string x1] 9 (0, 0))) := SlOwn.lit (xs := ([x1] : List ByteArray)) (by kernel_rfl) (Nat.le_of_ble_eq_true (by kernel_rfl)) (Kd.Rep.scalars rfl)
        obtain ⟨hn1, heq⟩ := guard?_some heq
        refine RgH.does (DoesH.append (d := 27) (k := 1) (t := 34) (e := 9) (bytes := 16) (kd := Kd.string) (n := v_out5.length) (m := 1) (xs := v_out5) (ys := ([x1] : List ByteArray)) (A := Av_out5) (B := (some ⟨g2, 0, none⟩)) (c := cv_out5) (cB := 1) (by kernel_rfl) rfl rfl (by kernel_rfl) rfl hov_out5 (fun w hh => ho1.rdb (hh.chin 0 rfl)) (room_le hn1) (by have := room_le hn1; omega)) ?_
        rintro _ _ _ _ ⟨A1, c1, ch1, rfl, rfl, rfl, ho2⟩
        refine RgH.runk 5 [2, 5, 10, 11, 12] (vs := []) (evs := []) (L' := [(2, .pointer (some ⟨g1, 0, none⟩)), (5, .slice A1 ((v_out5 ++ ([x1] : List ByteArray)).length) c1), (10, .slice Aa1 a1.length ca1), (11, .int .i64 (a1.length : Int)), (12, .int .i64 v12)]) (by kernel_rfl) (by kernel_rfl) (fun _ _ => trivial) ?_
        refine RgH.done (by kernel_rfl) ?_
        refine RunH.adm 1 (es' := [.c [1, 1, 0, 1, 0, 0, 1, 1, 1], .l [1, 1, 0, 1, 0, 0], .b 0, .c [1, 1, 1]]) (by kernel_rfl) ?_
        refine RunH.keep [2, 5, 10, 11, 12] (L' := [(2, .pointer (some ⟨g1, 0, none⟩)), (5, .slice A1 ((v_out5 ++ ([x1] : List ByteArray)).length) c1), (10, .slice Aa1 a1.length ca1), (11, .int .i64 (a1.length : Int)), (12, .int .i64 v12)]) (by kernel_rfl) ?_
        refine RunH.pick 3 [1, 2] (cs' := ch1 :: (some (g1, .cells #[.int .i64 a0.Room, .int .i64 a0.Lease, .slice Aa0_2 a0.Blobs.length ca0_2, .slice Aa0_3 a0.Entries.length ca0_3] 25 (0, 0))) :: F) (by kernel_rfl) rfl ?_
        exact (cache_missing.j3_c (backl2 := (cache_missing.l2 e1 k)) ihk) a0 _ _ _ _ a1 _ _ _ v12 (v_out5 ++ ([x1] : List ByteArray)) _ _ _ _ hra0_2 hca0_2 hra0_3 hca0_3 hra1 hca1 ho2 rfl heq
      · replace heq := bif_false hb2 heq
        refine RunH.condF (c := !y1.2) (by kernel_rfl) hb2 ?_
        refine RunH.adm 2 (es' := [.c [1, 1, 0, 1, 0, 0, 1, 1, 1], .l [1, 1, 0, 1, 0, 0], .b 0, .c [1, 1, 1]]) (by kernel_rfl) ?_
        refine RunH.keep [2, 5, 10, 11, 12] (L' := [(2, .pointer (some ⟨g1, 0, none⟩)), (5, .slice Av_out5 v_out5.length cv_out5), (10, .slice Aa1 a1.length ca1), (11, .int .i64 (a1.length : Int)), (12, .int .i64 v12)]) (by kernel_rfl) ?_
        exact (cache_missing.j3_c (backl2 := (cache_missing.l2 e1 k)) ihk) a0 _ _ _ _ a1 _ _ _ v12 v_out5 _ _ _ _ hra0_2 hca0_2 hra0_3 hca0_3 hra1 hca1 hov_out5 rfl heq
    · replace heq := bif_false hb1 heq
      refine RunH.condF (c := decide (v12 < (a1.length : Int))) (by kernel_rfl) hb1 ?_
      refine RunH.adm 2 (es' := [.c [1, 1, 1, 0], .c [1, 1, 1, 1]]) (by kernel_rfl) ?_
      refine RunH.keep [5] (L' := [(5, .slice Av_out5 v_out5.length cv_out5)]) (by kernel_rfl) ?_
      refine RunH.pick 2 [0] (cs' := chv_out5 :: F) (by kernel_rfl) rfl ?_
      exact he1 v_out5 _ _ _ _ hov_out5 rfl heq
theorem cache_missing_c {w0 : World} {H : Hp} {F : List Ch} {a0 : Cache} {Aa0_2 : Option Addr} {na0_2 : Nat} {ca0_2 : Nat} {Aa0_3 : Option Addr} {na0_3 : Nat} {ca0_3 : Nat} {a1 : List ByteArray} {Aa1 : Option Addr} {na1 : Nat} {ca1 : Nat} {r : (List ByteArray)} (hra0_2 : Rw kBlob H F Aa0_2 a0.Blobs) (hca0_2 : na0_2 ≤ ca0_2) (hna0_2 : na0_2 = a0.Blobs.length) (hra0_3 : Rw kEntry H F Aa0_3 a0.Entries) (hca0_3 : na0_3 ≤ ca0_3) (hna0_3 : na0_3 = a0.Entries.length) (hra1 : Rw Kd.string H F Aa1 a1) (hca1 : na1 ≤ ca1) (hna1 : na1 = a1.length) (heq : cache_missing.f a0 a1 = some r) : CallsH Tryd.prog 67 #[.agg #[.int .i64 a0.Room, .int .i64 a0.Lease, .slice Aa0_2 na0_2 ca0_2, .slice Aa0_3 na0_3 ca0_3], .slice Aa1 na1 ca1] H w0 (F) (S67 F H r) := by
  refine calls_of_runH (F := C67) Tryd.func67 (by kernel_rfl) Tryd.ntmps67 (args := [.agg #[.int .i64 a0.Room, .int .i64 a0.Lease, .slice Aa0_2 na0_2 ca0_2, .slice Aa0_3 na0_3 ca0_3], .slice Aa1 na1 ca1]) (by kernel_rfl) ?_
  subst hna0_2
  subst hna0_3
  subst hna1
  unfold cache_missing.f at heq
  refine RunH.adm 1 (es' := [.c [0], .c [1]]) (by kernel_rfl) ?_
  refine RunH.reg (by kernel_rfl) ?_
  refine RgH.does (DoesH.new (d := 2) (v := fun g => .pointer (some ⟨g, 0, none⟩)) (o := fun g => .cells #[.int .i64 a0.Room, .int .i64 a0.Lease, .slice Aa0_2 a0.Blobs.length ca0_2, .slice Aa0_3 a0.Entries.length ca0_3] 25 (0, 0)) (fun g => by kernel_rfl)) ?_
  rintro _ _ _ _ ⟨g1, rfl, rfl, rfl⟩
  refine RgH.runk 2 [1, 2] (vs := []) (evs := []) (L' := [(1, .slice Aa1 a1.length ca1), (2, .pointer (some ⟨g1, 0, none⟩))]) (by kernel_rfl) (by kernel_rfl) (fun _ _ => trivial) ?_
  refine RgH.done (by kernel_rfl) ?_
  refine RunH.adm 1 (es' := [.c [1, 0], .c [1, 1]]) (by kernel_rfl) ?_
  refine RunH.reg (by kernel_rfl) ?_
  refine RgH.runk 1 [1, 2, 5] (vs := []) (evs := []) (L' := [(1, .slice Aa1 a1.length ca1), (2, .pointer (some ⟨g1, 0, none⟩)), (5, .slice none 0 0)]) (by kernel_rfl) (by kernel_rfl) (fun _ _ => trivial) ?_
  refine RgH.done (by kernel_rfl) ?_
  refine RunH.adm 2 (es' := [.c [1, 1, 0, 0], .c [1, 1, 0, 1], .c [1, 1, 1]]) (by kernel_rfl) ?_
  refine RunH.reg (by kernel_rfl) ?_
  refine RgH.runk 3 [2, 5, 10, 11, 12] (vs := []) (evs := []) (L' := [(2, .pointer (some ⟨g1, 0, none⟩)), (5, .slice none 0 0), (10, .slice Aa1 a1.length ca1), (11, .int .i64 (a1.length : Int)), (12, .int .i64 0)]) (by kernel_rfl) (by kernel_rfl) (fun _ _ => trivial) ?_
  refine RgH.done (by kernel_rfl) ?_
  refine RunH.adm 2 (es' := [.c [1, 1, 0, 1, 0, 0], .l [1, 1, 0, 1, 0, 0], .b 0, .c [1, 1, 1]]) (by kernel_rfl) ?_
  refine RunH.nilc ?_
  have ho3 : SlOwn Kd.string 9 H none 0 ([] : List ByteArray) none := SlOwn.nil
  refine RunH.keep [2, 5, 10, 11, 12] (L' := [(2, .pointer (some ⟨g1, 0, none⟩)), (5, .slice none 0 0), (10, .slice Aa1 a1.length ca1), (11, .int .i64 (a1.length : Int)), (12, .int .i64 0)]) (by kernel_rfl) ?_
  exact ((cache_missing.l2_c (e1 := cache_missing.e1) (cache_missing.e1_c)) big) a0 _ _ _ _ a1 _ _ _ ([] : List ByteArray) _ _ _ _ 0 hra0_2 hca0_2 hra0_3 hca0_3 hra1 hca1 ho3 rfl heq
noncomputable def C26 : Ctx := { P := Tryd.prog, f := 26, N := 33, c := bodyOf Tryd.f26 }
def S26 (F : List Ch) (H0 : Hp) (r : (List ByteArray) × Int) (v : Value) (H : Hp) (cs : List Ch) : Prop := ∃ (A0 : Option Addr) (c0 : Nat) (ch0 : Ch), H0 = H ∧ v = .tuple #[.slice A0 r.1.length c0, .int .i64 r.2] ∧ ch0 :: F = cs ∧ SlOwn Kd.string 9 H A0 c0 r.1 ch0
theorem cache_Broken.e1_c {w0 : World} {H : Hp} {F : List Ch} {r : (List ByteArray) × Int} : ∀ (v_out5 : List ByteArray) (Av_out5 : Option Addr) (nv_out5 : Nat) (cv_out5 : Nat) (chv_out5 : Ch) , SlOwn Kd.string 9 H Av_out5 cv_out5 v_out5 chv_out5 → nv_out5 = v_out5.length → cache_Broken.e1 v_out5 = some r → RunH C26 (S26 F H r) H w0 [.c [1, 1, 1, 1, 0], .c [1, 1, 1, 1, 1]] [(5, .slice Av_out5 nv_out5 cv_out5)] H (chv_out5 :: F) := by
  intro v_out5 Av_out5 nv_out5 cv_out5 chv_out5 hov_out5 hnv_out5 heq
  subst hnv_out5
  unfold cache_Broken.e1 at heq
  refine RunH.reg (by kernel_rfl) ?_
  refine RgH.runk 3 [2, 3] (vs := []) (evs := []) (L' := [(2, .slice Av_out5 v_out5.length cv_out5), (3, .int .i64 0)]) (by kernel_rfl) (by kernel_rfl) (fun _ _ => trivial) ?_
  refine RgH.done (by kernel_rfl) ?_
  obtain rfl := Option.some.inj heq
  exact RunH.done (by kernel_rfl) Tryd.func26 (v := .tuple #[.slice Av_out5 v_out5.length cv_out5, .int .i64 0]) (by kernel_rfl) ⟨Av_out5, cv_out5, chv_out5, rfl, rfl, rfl, hov_out5⟩
theorem cache_Broken.j3_c {w0 : World} {H : Hp} {F : List Ch} {r : (List ByteArray) × Int} (backl2 : Cache → (List ByteArray) → Int → Option ((List ByteArray) × Int))
    (hbackl2 : ∀ (a0 : Cache) (Aa0_2 : Option Addr) (ca0_2 : Nat) (Aa0_3 : Option Addr) (ca0_3 : Nat) (g1 : Nat) (v_out5 : List ByteArray) (Av_out5 : Option Addr) (nv_out5 : Nat) (cv_out5 : Nat) (chv_out5 : Ch) (v16 : Int) , Rw kBlob H F Aa0_2 a0.Blobs → a0.Blobs.length ≤ ca0_2 → Rw kEntry H F Aa0_3 a0.Entries → a0.Entries.length ≤ ca0_3 → SlOwn Kd.string 9 H Av_out5 cv_out5 v_out5 chv_out5 → nv_out5 = v_out5.length → backl2 a0 v_out5 v16 = some r → RunH C26 (S26 F H r) H w0 [.c [1, 1, 1, 0, 1, 0, 0], .l [1, 1, 1, 0, 1, 0, 0], .b 0, .c [1, 1, 1, 1]] [(1, .pointer (some ⟨g1, 0, none⟩)), (5, .slice Av_out5 nv_out5 cv_out5), (14, .slice Aa0_3 a0.Entries.length ca0_3), (15, .int .i64 (a0.Entries.length : Int)), (16, .int .i64 v16)] H (chv_out5 :: (some (g1, .cells #[.int .i64 a0.Room, .int .i64 a0.Lease, .slice Aa0_2 a0.Blobs.length ca0_2, .slice Aa0_3 a0.Entries.length ca0_3] 25 (0, 0))) :: F)) : ∀ (a0 : Cache) (Aa0_2 : Option Addr) (ca0_2 : Nat) (Aa0_3 : Option Addr) (ca0_3 : Nat) (g1 : Nat) (v16 : Int) (v_out5 : List ByteArray) (Av_out5 : Option Addr) (nv_out5 : Nat) (cv_out5 : Nat) (chv_out5 : Ch) , Rw kBlob H F Aa0_2 a0.Blobs → a0.Blobs.length ≤ ca0_2 → Rw kEntry H F Aa0_3 a0.Entries → a0.Entries.length ≤ ca0_3 → SlOwn Kd.string 9 H Av_out5 cv_out5 v_out5 chv_out5 → nv_out5 = v_out5.length → cache_Broken.j3 backl2 a0 v16 v_out5 = some r → RunH C26 (S26 F H r) H w0 [.c [1, 1, 1, 0, 1, 0, 0, 1, 1, 1], .l [1, 1, 1, 0, 1, 0, 0], .b 0, .c [1, 1, 1, 1]] [(1, .pointer (some ⟨g1, 0, none⟩)), (5, .slice Av_out5 nv_out5 cv_out5), (14, .slice Aa0_3 a0.Entries.length ca0_3), (15, .int .i64 (a0.Entries.length : Int)), (16, .int .i64 v16)] H (chv_out5 :: (some (g1, .cells #[.int .i64 a0.Room, .int .i64 a0.Lease, .slice Aa0_2 a0.Blobs.length ca0_2, .slice Aa0_3 a0.Entries.length ca0_3] 25 (0, 0))) :: F) := by
  intro a0 Aa0_2 ca0_2 Aa0_3 ca0_3 g1 v16 v_out5 Av_out5 nv_out5 cv_out5 chv_out5 hra0_2 hca0_2 hra0_3 hca0_3 hov_out5 hnv_out5 heq
  subst hnv_out5
  unfold cache_Broken.j3 at heq
  refine RunH.reg (by kernel_rfl) ?_
  refine RgH.runk 2 [1, 5, 14, 15, 16] (vs := []) (evs := []) (L' := [(1, .pointer (some ⟨g1, 0, none⟩)), (5, .slice Av_out5 v_out5.length cv_out5), (14, .slice Aa0_3 a0.Entries.length ca0_3), (15, .int .i64 (a0.Entries.length : Int)), (16, .int .i64 (w64 (v16 + 1)))]) (by kernel_rfl) (by kernel_rfl) (fun _ _ => trivial) ?_
  refine RgH.done (by kernel_rfl) ?_
  refine RunH.adm 1 (es' := [.c [1, 1, 1, 0, 1, 0, 0], .l [1, 1, 1, 0, 1, 0, 0], .b 0, .c [1, 1, 1, 1]]) (by kernel_rfl) ?_
  refine RunH.keep [1, 5, 14, 15, 16] (L' := [(1, .pointer (some ⟨g1, 0, none⟩)), (5, .slice Av_out5 v_out5.length cv_out5), (14, .slice Aa0_3 a0.Entries.length ca0_3), (15, .int .i64 (a0.Entries.length : Int)), (16, .int .i64 (w64 (v16 + 1)))]) (by kernel_rfl) ?_
  exact hbackl2 a0 _ _ _ _ _ v_out5 _ _ _ _ (w64 (v16 + 1)) hra0_2 hca0_2 hra0_3 hca0_3 hov_out5 rfl heq
theorem cache_Broken.l2_c {w0 : World} {H : Hp} {F : List Ch} {r : (List ByteArray) × Int} (e1 : (List ByteArray) → Option ((List ByteArray) × Int))
    (he1 : ∀ (v_out5 : List ByteArray) (Av_out5 : Option Addr) (nv_out5 : Nat) (cv_out5 : Nat) (chv_out5 : Ch) , SlOwn Kd.string 9 H Av_out5 cv_out5 v_out5 chv_out5 → nv_out5 = v_out5.length → e1 v_out5 = some r → RunH C26 (S26 F H r) H w0 [.c [1, 1, 1, 1, 0], .c [1, 1, 1, 1, 1]] [(5, .slice Av_out5 nv_out5 cv_out5)] H (chv_out5 :: F)) : ∀ (k : Nat), ∀ (a0 : Cache) (Aa0_2 : Option Addr) (ca0_2 : Nat) (Aa0_3 : Option Addr) (ca0_3 : Nat) (g1 : Nat) (v_out5 : List ByteArray) (Av_out5 : Option Addr) (nv_out5 : Nat) (cv_out5 : Nat) (chv_out5 : Ch) (v16 : Int) , Rw kBlob H F Aa0_2 a0.Blobs → a0.Blobs.length ≤ ca0_2 → Rw kEntry H F Aa0_3 a0.Entries → a0.Entries.length ≤ ca0_3 → SlOwn Kd.string 9 H Av_out5 cv_out5 v_out5 chv_out5 → nv_out5 = v_out5.length → cache_Broken.l2 e1 k a0 v_out5 v16 = some r → RunH C26 (S26 F H r) H w0 [.c [1, 1, 1, 0, 1, 0, 0], .l [1, 1, 1, 0, 1, 0, 0], .b 0, .c [1, 1, 1, 1]] [(1, .pointer (some ⟨g1, 0, none⟩)), (5, .slice Av_out5 nv_out5 cv_out5), (14, .slice Aa0_3 a0.Entries.length ca0_3), (15, .int .i64 (a0.Entries.length : Int)), (16, .int .i64 v16)] H (chv_out5 :: (some (g1, .cells #[.int .i64 a0.Room, .int .i64 a0.Lease, .slice Aa0_2 a0.Blobs.length ca0_2, .slice Aa0_3 a0.Entries.length ca0_3] 25 (0, 0))) :: F) := by
  intro k
  induction k with
  | zero => intro a0 Aa0_2 ca0_2 Aa0_3 ca0_3 g1 v_out5 Av_out5 nv_out5 cv_out5 chv_out5 v16 hra0_2 hca0_2 hra0_3 hca0_3 hov_out5 hnv_out5 heq; exact nomatch (show (none : Option ((List ByteArray) × Int)) = some r from heq)
  | succ k ihk =>
    intro a0 Aa0_2 ca0_2 Aa0_3 ca0_3 g1 v_out5 Av_out5 nv_out5 cv_out5 chv_out5 v16 hra0_2 hca0_2 hra0_3 hca0_3 hov_out5 hnv_out5 heq
    subst hnv_out5
    rw [cache_Broken.l2] at heq
    refine RunH.adm 1 (es' := [.c [1, 1, 1, 0, 1, 0, 0, 0], .c [1, 1, 1, 0, 1, 0, 0, 1], .l [1, 1, 1, 0, 1, 0, 0], .b 0, .c [1, 1, 1, 1]]) (by kernel_rfl) ?_
    refine RunH.reg (by kernel_rfl) ?_
    refine RgH.runk 1 [1, 5, 14, 15, 16, 17] (vs := []) (evs := []) (L' := [(1, .pointer (some ⟨g1, 0, none⟩)), (5, .slice Av_out5 v_out5.length cv_out5), (14, .slice Aa0_3 a0.Entries.length ca0_3), (15, .int .i64 (a0.Entries.length : Int)), (16, .int .i64 v16), (17, .bool (decide (v16 < (a0.Entries.length : Int))))]) (by kernel_rfl) (by kernel_rfl) (fun _ _ => trivial) ?_
    refine RgH.done (by kernel_rfl) ?_
    refine RunH.adm 1 (es' := [.c [1, 1, 1, 0, 1, 0, 0, 1, 0], .c [1, 1, 1, 0, 1, 0, 0, 1, 1], .l [1, 1, 1, 0, 1, 0, 0], .b 0, .c [1, 1, 1, 1]]) (by kernel_rfl) ?_
    rcases bool_cases (decide (v16 < (a0.Entries.length : Int))) with hb2 | hb2
    · replace heq := bif_true hb2 heq
      refine RunH.condT (c := decide (v16 < (a0.Entries.length : Int))) (by kernel_rfl) hb2 ?_
      refine RunH.adm 4 (es' := [.c [1, 1, 1, 0, 1, 0, 0, 1, 1, 0, 0, 0], .c [1, 1, 1, 0, 1, 0, 0, 1, 1, 0, 0, 1], .b 1, .c [1, 1, 1, 0, 1, 0, 0, 1, 1, 1], .l [1, 1, 1, 0, 1, 0, 0], .b 0, .c [1, 1, 1, 1]]) (by kernel_rfl) ?_
      refine RunH.reg (by kernel_rfl) ?_
      obtain ⟨x1, hx1, heq⟩ := bind_some heq
      obtain ⟨ha1, cs1, hK1, hcc1⟩ := hra0_3.get hx1
      obtain ⟨A1, c1, rfl, hc1, hr1⟩ := kEntry_open hK1
      refine RgH.runk 2 [1, 5, 14, 15, 16, 19] (vs := [.string x1.Key, .slice A1 x1.Refs.length c1, .int .i64 x1.Used]) (evs := [.need (Aa0_3 = some (adr Aa0_3) ∧ (0 : Int) ≤ v16 ∧ v16 < ((a0.Entries.length : Nat) : Int)), .load (((adr Aa0_3).add (v16.toNat * 3)).add 0) (.string x1.Key), .load (((adr Aa0_3).add (v16.toNat * 3)).add 1) (.slice A1 x1.Refs.length c1), .load (((adr Aa0_3).add (v16.toNat * 3)).add 2) (.int .i64 x1.Used)]) (L' := [(1, .pointer (some ⟨g1, 0, none⟩)), (5, .slice Av_out5 v_out5.length cv_out5), (14, .slice Aa0_3 a0.Entries.length ca0_3), (15, .int .i64 (a0.Entries.length : Int)), (16, .int .i64 v16), (19, .agg #[.string x1.Key, .slice A1 x1.Refs.length c1, .int .i64 x1.Used])]) (by kernel_rfl) (by kernel_rfl) (fun w hh => ⟨⟨ha1, (at?_some hx1).1, (at?_some hx1).2.1⟩, (hcc1 _ _ (hh.drop 2) 0 _ rfl), (hcc1 _ _ (hh.drop 2) 1 _ rfl), (hcc1 _ _ (hh.drop 2) 2 _ rfl)⟩) ?_
      refine RgH.does (DoesH.new (d := 7) (v := fun g => .pointer (some ⟨g, 0, none⟩)) (o := fun g => .cells #[.string ByteArray.empty, .slice none 0 0, .int .i64 0] 51 (0, 0)) (fun g => by kernel_rfl)) ?_
      rintro _ _ _ _ ⟨g2, rfl, rfl, rfl⟩
      refine RgH.does (DoesH.store (k := 0) (g := g2) (off := 0) (v := .agg #[.string x1.Key, .slice A1 x1.Refs.length c1, .int .i64 x1.Used]) (cells' := #[.string x1.Key, .slice A1 x1.Refs.length c1, .int .i64 x1.Used]) (by kernel_rfl) rfl (by kernel_rfl) (by kernel_rfl)) ?_
      rintro _ _ _ _ ⟨rfl, rfl, rfl⟩
      refine RgH.done (by kernel_rfl) ?_
      refine RunH.adm 1 (es' := [.c [1, 1, 1, 0, 1, 0, 0, 1, 1, 0, 0, 1, 0], .c [1, 1, 1, 0, 1, 0, 0, 1, 1, 0, 0, 1, 1], .b 1, .c [1, 1, 1, 0, 1, 0, 0, 1, 1, 1], .l [1, 1, 1, 0, 1, 0, 0], .b 0, .c [1, 1, 1, 1]]) (by kernel_rfl) ?_
      refine RunH.reg (by kernel_rfl) ?_
      refine RgH.runk 3 [1, 5, 7, 14, 15, 16, 20, 22] (vs := [.int .i64 a0.Room, .int .i64 a0.Lease, .slice Aa0_2 a0.Blobs.length ca0_2, .slice Aa0_3 a0.Entries.length ca0_3, .slice A1 x1.Refs.length c1]) (evs := [.load ⟨g1, 0, none⟩ (.int .i64 a0.Room), .load ⟨g1, 1, none⟩ (.int .i64 a0.Lease), .load ⟨g1, 2, none⟩ (.slice Aa0_2 a0.Blobs.length ca0_2), .load ⟨g1, 3, none⟩ (.slice Aa0_3 a0.Entries.length ca0_3), .load ⟨g2, 1, none⟩ (.slice A1 x1.Refs.length c1)]) (L' := [(1, .pointer (some ⟨g1, 0, none⟩)), (5, .slice Av_out5 v_out5.length cv_out5), (7, .pointer (some ⟨g2, 0, none⟩)), (14, .slice Aa0_3 a0.Entries.length ca0_3), (15, .int .i64 (a0.Entries.length : Int)), (16, .int .i64 v16), (20, .agg #[.int .i64 a0.Room, .int .i64 a0.Lease, .slice Aa0_2 a0.Blobs.length ca0_2, .slice Aa0_3 a0.Entries.length ca0_3]), (22, .slice A1 x1.Refs.length c1)]) (by kernel_rfl) (by kernel_rfl) (fun w hh => ⟨(hh.box 2 rfl rfl), (hh.box 2 rfl rfl), (hh.box 2 rfl rfl), (hh.box 2 rfl rfl), (hh.box 0 rfl rfl)⟩) ?_
      obtain ⟨y2, hy2, heq⟩ := bind_some heq
      refine RgH.does (DoesH.call (d := 23) (g := 67) (args := #[.agg #[.int .i64 a0.Room, .int .i64 a0.Lease, .slice Aa0_2 a0.Blobs.length ca0_2, .slice Aa0_3 a0.Entries.length ca0_3], .slice A1 x1.Refs.length c1]) (by kernel_rfl) (cache_missing_c (a0 := a0) (a1 := x1.Refs) (hra0_2.wk (fun _ h => (.tail _ (.tail _ (.tail _ h))))) hca0_2 rfl (hra0_3.wk (fun _ h => (.tail _ (.tail _ (.tail _ h))))) hca0_3 rfl (Rw.of hr1) hc1 rfl hy2)) ?_
      rintro _ _ _ _ ⟨_, rfl, A2, c2, ch1, rfl, rfl, rfl, ho2⟩
      refine RgH.runk 6 [1, 5, 7, 14, 15, 16, 25] (vs := []) (evs := []) (L' := [(1, .pointer (some ⟨g1, 0, none⟩)), (5, .slice Av_out5 v_out5.length cv_out5), (7, .pointer (some ⟨g2, 0, none⟩)), (14, .slice Aa0_3 a0.Entries.length ca0_3), (15, .int .i64 (a0.Entries.length : Int)), (16, .int .i64 v16), (25, .bool (decide (0 < (y2.length : Int))))]) (by kernel_rfl) (by kernel_rfl) (fun _ _ => trivial) ?_
      refine RgH.done (by kernel_rfl) ?_
      rcases bool_cases (decide (0 < (y2.length : Int))) with hb3 | hb3
      · replace heq := bif_true hb3 heq
        refine RunH.condT (c := decide (0 < (y2.length : Int))) (by kernel_rfl) hb3 ?_
        refine RunH.reg (by kernel_rfl) ?_
        refine RgH.runk 3 [1, 14, 15, 16, 26, 28] (vs := [.string x1.Key]) (evs := [.load ⟨g2, 0, none⟩ (.string x1.Key)]) (L' := [(1, .pointer (some ⟨g1, 0, none⟩)), (14, .slice Aa0_3 a0.Entries.length ca0_3), (15, .int .i64 (a0.Entries.length : Int)), (16, .int .i64 v16), (26, .slice Av_out5 v_out5.length cv_out5), (28, .string x1.Key)]) (by kernel_rfl) (by kernel_rfl) (fun w hh => (hh.box 1 rfl rfl)) ?_
        refine RgH.does (DoesH.new (d := 29) (v := fun g => .slice (some ⟨g, 0, none⟩) 1 1) (o := fun g => .cells #[.string x1.Key] 9 (0, 0)) (fun g => by kernel_rfl)) ?_
        rintro _ _ _ _ ⟨g3, rfl, rfl, rfl⟩
        have ho3 : SlOwn Kd.string 9 H (some ⟨g3, 0, none⟩) 1 ([x1.Key] : List ByteArray) (some (g3, .cells #[.string x1.Key] 9 (0, 0))) := SlOwn.lit (xs := ([x1.Key] : List ByteArray)) (by kernel_rfl) (Nat.le_of_ble_eq_true (by kernel_rfl)) (Kd.Rep.scalars rfl)
        obtain ⟨hn1, heq⟩ := guard?_some heq
        refine RgH.does (DoesH.append (d := 30) (k := 3) (t := 34) (e := 9) (bytes := 16) (kd := Kd.string) (n := v_out5.length) (m := 1) (xs := v_out5) (ys := ([x1.Key] : List ByteArray)) (A := Av_out5) (B := (some ⟨g3, 0, none⟩)) (c := cv_out5) (cB := 1) (by kernel_rfl) rfl rfl (by kernel_rfl) rfl hov_out5 (fun w hh => ho3.rdb (hh.chin 0 rfl)) (room_le hn1) (by have := room_le hn1; omega)) ?_
        rintro _ _ _ _ ⟨A3, c3, ch2, rfl, rfl, rfl, ho4⟩
        refine RgH.runk 6 [1, 5, 14, 15, 16] (vs := []) (evs := []) (L' := [(1, .pointer (some ⟨g1, 0, none⟩)), (5, .slice A3 ((v_out5 ++ ([x1.Key] : List ByteArray)).length) c3), (14, .slice Aa0_3 a0.Entries.length ca0_3), (15, .int .i64 (a0.Entries.length : Int)), (16, .int .i64 v16)]) (by kernel_rfl) (by kernel_rfl) (fun _ _ => trivial) ?_
        refine RgH.done (by kernel_rfl) ?_
        refine RunH.adm 1 (es' := [.c [1, 1, 1, 0, 1, 0, 0, 1, 1, 1], .l [1, 1, 1, 0, 1, 0, 0], .b 0, .c [1, 1, 1, 1]]) (by kernel_rfl) ?_
        refine RunH.keep [1, 5, 14, 15, 16] (L' := [(1, .pointer (some ⟨g1, 0, none⟩)), (5, .slice A3 ((v_out5 ++ ([x1.Key] : List ByteArray)).length) c3), (14, .slice Aa0_3 a0.Entries.length ca0_3), (15, .int .i64 (a0.Entries.length : Int)), (16, .int .i64 v16)]) (by kernel_rfl) ?_
        refine RunH.pick 5 [3, 4] (cs' := ch2 :: (some (g1, .cells #[.int .i64 a0.Room, .int .i64 a0.Lease, .slice Aa0_2 a0.Blobs.length ca0_2, .slice Aa0_3 a0.Entries.length ca0_3] 25 (0, 0))) :: F) (by kernel_rfl) rfl ?_
        exact (cache_Broken.j3_c (backl2 := (cache_Broken.l2 e1 k)) ihk) a0 _ _ _ _ _ v16 (v_out5 ++ ([x1.Key] : List ByteArray)) _ _ _ _ hra0_2 hca0_2 hra0_3 hca0_3 ho4 rfl heq
      · replace heq := bif_false hb3 heq
        refine RunH.condF (c := decide (0 < (y2.length : Int))) (by kernel_rfl) hb3 ?_
        refine RunH.adm 2 (es' := [.c [1, 1, 1, 0, 1, 0, 0, 1, 1, 1], .l [1, 1, 1, 0, 1, 0, 0], .b 0, .c [1, 1, 1, 1]]) (by kernel_rfl) ?_
        refine RunH.keep [1, 5, 14, 15, 16] (L' := [(1, .pointer (some ⟨g1, 0, none⟩)), (5, .slice Av_out5 v_out5.length cv_out5), (14, .slice Aa0_3 a0.Entries.length ca0_3), (15, .int .i64 (a0.Entries.length : Int)), (16, .int .i64 v16)]) (by kernel_rfl) ?_
        refine RunH.pick 4 [2, 3] (cs' := chv_out5 :: (some (g1, .cells #[.int .i64 a0.Room, .int .i64 a0.Lease, .slice Aa0_2 a0.Blobs.length ca0_2, .slice Aa0_3 a0.Entries.length ca0_3] 25 (0, 0))) :: F) (by kernel_rfl) rfl ?_
        exact (cache_Broken.j3_c (backl2 := (cache_Broken.l2 e1 k)) ihk) a0 _ _ _ _ _ v16 v_out5 _ _ _ _ hra0_2 hca0_2 hra0_3 hca0_3 hov_out5 rfl heq
    · replace heq := bif_false hb2 heq
      refine RunH.condF (c := decide (v16 < (a0.Entries.length : Int))) (by kernel_rfl) hb2 ?_
      refine RunH.adm 2 (es' := [.c [1, 1, 1, 1, 0], .c [1, 1, 1, 1, 1]]) (by kernel_rfl) ?_
      refine RunH.keep [5] (L' := [(5, .slice Av_out5 v_out5.length cv_out5)]) (by kernel_rfl) ?_
      refine RunH.pick 2 [0] (cs' := chv_out5 :: F) (by kernel_rfl) rfl ?_
      exact he1 v_out5 _ _ _ _ hov_out5 rfl heq
theorem cache_Broken_c {w0 : World} {H : Hp} {F : List Ch} {a0 : Cache} {Aa0_2 : Option Addr} {na0_2 : Nat} {ca0_2 : Nat} {Aa0_3 : Option Addr} {na0_3 : Nat} {ca0_3 : Nat} {r : (List ByteArray) × Int} (hra0_2 : Rw kBlob H F Aa0_2 a0.Blobs) (hca0_2 : na0_2 ≤ ca0_2) (hna0_2 : na0_2 = a0.Blobs.length) (hra0_3 : Rw kEntry H F Aa0_3 a0.Entries) (hca0_3 : na0_3 ≤ ca0_3) (hna0_3 : na0_3 = a0.Entries.length) (heq : cache_Broken.f a0 = some r) : CallsH Tryd.prog 26 #[.agg #[.int .i64 a0.Room, .int .i64 a0.Lease, .slice Aa0_2 na0_2 ca0_2, .slice Aa0_3 na0_3 ca0_3]] H w0 (F) (S26 F H r) := by
  refine calls_of_runH (F := C26) Tryd.func26 (by kernel_rfl) Tryd.ntmps26 (args := [.agg #[.int .i64 a0.Room, .int .i64 a0.Lease, .slice Aa0_2 na0_2 ca0_2, .slice Aa0_3 na0_3 ca0_3]]) (by kernel_rfl) ?_
  subst hna0_2
  subst hna0_3
  unfold cache_Broken.f at heq
  refine RunH.adm 1 (es' := [.c [0], .c [1]]) (by kernel_rfl) ?_
  refine RunH.reg (by kernel_rfl) ?_
  refine RgH.does (DoesH.new (d := 1) (v := fun g => .pointer (some ⟨g, 0, none⟩)) (o := fun g => .cells #[.int .i64 a0.Room, .int .i64 a0.Lease, .slice Aa0_2 a0.Blobs.length ca0_2, .slice Aa0_3 a0.Entries.length ca0_3] 25 (0, 0)) (fun g => by kernel_rfl)) ?_
  rintro _ _ _ _ ⟨g1, rfl, rfl, rfl⟩
  refine RgH.runk 3 [1] (vs := []) (evs := []) (L' := [(1, .pointer (some ⟨g1, 0, none⟩))]) (by kernel_rfl) (by kernel_rfl) (fun _ _ => trivial) ?_
  refine RgH.done (by kernel_rfl) ?_
  refine RunH.adm 2 (es' := [.c [1, 0, 0], .c [1, 0, 1], .c [1, 1]]) (by kernel_rfl) ?_
  refine RunH.reg (by kernel_rfl) ?_
  refine RgH.runk 1 [1, 8] (vs := [.int .i64 a0.Room, .int .i64 a0.Lease, .slice Aa0_2 a0.Blobs.length ca0_2, .slice Aa0_3 a0.Entries.length ca0_3]) (evs := [.load ⟨g1, 0, none⟩ (.int .i64 a0.Room), .load ⟨g1, 1, none⟩ (.int .i64 a0.Lease), .load ⟨g1, 2, none⟩ (.slice Aa0_2 a0.Blobs.length ca0_2), .load ⟨g1, 3, none⟩ (.slice Aa0_3 a0.Entries.length ca0_3)]) (L' := [(1, .pointer (some ⟨g1, 0, none⟩)), (8, .agg #[.int .i64 a0.Room, .int .i64 a0.Lease, .slice Aa0_2 a0.Blobs.length ca0_2, .slice Aa0_3 a0.Entries.length ca0_3])]) (by kernel_rfl) (by kernel_rfl) (fun w hh => ⟨(hh.box 0 rfl rfl), (hh.box 0 rfl rfl), (hh.box 0 rfl rfl), (hh.box 0 rfl rfl)⟩) ?_
  obtain ⟨y1, hy1, heq⟩ := bind_some heq
  refine RgH.does (DoesH.call (d := 9) (g := 22) (args := #[.agg #[.int .i64 a0.Room, .int .i64 a0.Lease, .slice Aa0_2 a0.Blobs.length ca0_2, .slice Aa0_3 a0.Entries.length ca0_3]]) (by kernel_rfl) (cache_CheckCache_c (a0 := a0) (hra0_2.wk (fun _ h => (.tail _ h))) hca0_2 rfl (hra0_3.wk (fun _ h => (.tail _ h))) hca0_3 rfl hy1)) ?_
  rintro _ _ _ _ ⟨_, rfl, rfl, rfl, rfl⟩
  refine RgH.runk 3 [1, 4] (vs := []) (evs := []) (L' := [(1, .pointer (some ⟨g1, 0, none⟩)), (4, .int .i64 y1)]) (by kernel_rfl) (by kernel_rfl) (fun _ _ => trivial) ?_
  refine RgH.done (by kernel_rfl) ?_
  refine RunH.adm 1 (es' := [.c [1, 0, 1, 0], .c [1, 0, 1, 1], .c [1, 1]]) (by kernel_rfl) ?_
  refine RunH.reg (by kernel_rfl) ?_
  refine RgH.runk 2 [1, 4, 11] (vs := []) (evs := []) (L' := [(1, .pointer (some ⟨g1, 0, none⟩)), (4, .int .i64 y1), (11, .bool (y1 != 0))]) (by kernel_rfl) (by kernel_rfl) (fun _ _ => trivial) ?_
  refine RgH.done (by kernel_rfl) ?_
  rcases bool_cases (y1 != 0) with hb1 | hb1
  · replace heq := bif_true hb1 heq
    refine RunH.condT (c := y1 != 0) (by kernel_rfl) hb1 ?_
    refine RunH.adm 1 (es' := [.c [1, 0, 1, 1, 0, 0], .c [1, 0, 1, 1, 0, 1], .c [1, 1]]) (by kernel_rfl) ?_
    refine RunH.reg (by kernel_rfl) ?_
    refine RgH.runk 3 [2, 3] (vs := []) (evs := []) (L' := [(2, .slice none 0 0), (3, .int .i64 y1)]) (by kernel_rfl) (by kernel_rfl) (fun _ _ => trivial) ?_
    refine RgH.done (by kernel_rfl) ?_
    refine RunH.nilc ?_
    have ho1 : SlOwn Kd.string 9 H none 0 ([] : List ByteArray) none := SlOwn.nil
    obtain rfl := Option.some.inj heq
    refine RunH.pick 2 [0] (cs' := none :: F) (by kernel_rfl) rfl ?_
    exact RunH.done (by kernel_rfl) Tryd.func26 (v := .tuple #[.slice none 0 0, .int .i64 y1]) (by kernel_rfl) ⟨none, 0, none, rfl, rfl, rfl, ho1⟩
  · replace heq := bif_false hb1 heq
    refine RunH.condF (c := y1 != 0) (by kernel_rfl) hb1 ?_
    refine RunH.adm 2 (es' := [.c [1, 1, 0], .c [1, 1, 1]]) (by kernel_rfl) ?_
    refine RunH.reg (by kernel_rfl) ?_
    refine RgH.runk 1 [1, 5] (vs := []) (evs := []) (L' := [(1, .pointer (some ⟨g1, 0, none⟩)), (5, .slice none 0 0)]) (by kernel_rfl) (by kernel_rfl) (fun _ _ => trivial) ?_
    refine RgH.done (by kernel_rfl) ?_
    refine RunH.adm 2 (es' := [.c [1, 1, 1, 0, 0], .c [1, 1, 1, 0, 1], .c [1, 1, 1, 1]]) (by kernel_rfl) ?_
    refine RunH.reg (by kernel_rfl) ?_
    refine RgH.runk 4 [1, 5, 14, 15, 16] (vs := [.slice Aa0_3 a0.Entries.length ca0_3]) (evs := [.load ⟨g1, 3, none⟩ (.slice Aa0_3 a0.Entries.length ca0_3)]) (L' := [(1, .pointer (some ⟨g1, 0, none⟩)), (5, .slice none 0 0), (14, .slice Aa0_3 a0.Entries.length ca0_3), (15, .int .i64 (a0.Entries.length : Int)), (16, .int .i64 0)]) (by kernel_rfl) (by kernel_rfl) (fun w hh => (hh.box 0 rfl rfl)) ?_
    refine RgH.done (by kernel_rfl) ?_
    refine RunH.adm 2 (es' := [.c [1, 1, 1, 0, 1, 0, 0], .l [1, 1, 1, 0, 1, 0, 0], .b 0, .c [1, 1, 1, 1]]) (by kernel_rfl) ?_
    refine RunH.nilc ?_
    have ho5 : SlOwn Kd.string 9 H none 0 ([] : List ByteArray) none := SlOwn.nil
    refine RunH.keep [1, 5, 14, 15, 16] (L' := [(1, .pointer (some ⟨g1, 0, none⟩)), (5, .slice none 0 0), (14, .slice Aa0_3 a0.Entries.length ca0_3), (15, .int .i64 (a0.Entries.length : Int)), (16, .int .i64 0)]) (by kernel_rfl) ?_
    exact ((cache_Broken.l2_c (e1 := cache_Broken.e1) (cache_Broken.e1_c)) big) a0 _ _ _ _ _ ([] : List ByteArray) _ _ _ _ 0 hra0_2 hca0_2 hra0_3 hca0_3 ho5 rfl heq
noncomputable def C107 : Ctx := { P := Tryd.prog, f := 107, N := 26, c := bodyOf Tryd.f107 }
def S107 (F : List Ch) (H0 : Hp) (r : Int) (v : Value) (H : Hp) (cs : List Ch) : Prop := H0 = H ∧ v = .int .i64 r ∧ F = cs
theorem smithyardref7_blob.e1_c {w0 : World} {H : Hp} {F : List Ch} {r : Int} : smithyardref7_blob.e1 = some r → RunH C107 (S107 F H r) H w0 [.c [1, 1, 0], .c [1, 1, 1]] [] H (F) := by
  intro   heq
  unfold smithyardref7_blob.e1 at heq
  refine RunH.reg (by kernel_rfl) ?_
  refine RgH.runk 1 [4] (vs := []) (evs := []) (L' := [(4, .int .i64 (-1))]) (by kernel_rfl) (by kernel_rfl) (fun _ _ => trivial) ?_
  refine RgH.done (by kernel_rfl) ?_
  obtain rfl := Option.some.inj heq
  exact RunH.done (by kernel_rfl) Tryd.func107 (v := .int .i64 (-1)) (by kernel_rfl) ⟨rfl, rfl, rfl⟩
theorem smithyardref7_blob.l2_c {w0 : World} {H : Hp} {F : List Ch} {r : Int} (e1 : Option Int)
    (he1 : e1 = some r → RunH C107 (S107 F H r) H w0 [.c [1, 1, 0], .c [1, 1, 1]] [] H (F)) : ∀ (k : Nat), ∀ (ga0 : Nat) (a0 : Cache) (Aa0_2 : Option Addr) (ca0_2 : Nat) (Aa0_3 : Option Addr) (ca0_3 : Nat) (a1 : ByteArray) (v_i5 : Int) , Rw kBlob H F Aa0_2 a0.Blobs → a0.Blobs.length ≤ ca0_2 → Rw kEntry H F Aa0_3 a0.Entries → a0.Entries.length ≤ ca0_3 → InG H F ga0 (.cells #[.int .i64 a0.Room, .int .i64 a0.Lease, .slice Aa0_2 a0.Blobs.length ca0_2, .slice Aa0_3 a0.Entries.length ca0_3] 25 (0, 0)) → smithyardref7_blob.l2 e1 k a0 a1 v_i5 = some r → RunH C107 (S107 F H r) H w0 [.c [1, 0, 1, 0, 0], .l [1, 0, 1, 0, 0], .b 0, .c [1, 1]] [(0, .pointer (some ⟨ga0, 0, none⟩)), (1, .string a1), (5, .int .i64 v_i5)] H (F) := by
  intro k
  induction k with
  | zero => intro ga0 a0 Aa0_2 ca0_2 Aa0_3 ca0_3 a1 v_i5 hra0_2 hca0_2 hra0_3 hca0_3 hga0 heq; exact nomatch (show (none : Option Int) = some r from heq)
  | succ k ihk =>
    intro ga0 a0 Aa0_2 ca0_2 Aa0_3 ca0_3 a1 v_i5 hra0_2 hca0_2 hra0_3 hca0_3 hga0 heq
    rw [smithyardref7_blob.l2] at heq
    refine RunH.adm 2 (es' := [.c [1, 0, 1, 0, 0, 0, 0], .c [1, 0, 1, 0, 0, 0, 1], .c [1, 0, 1, 0, 0, 1], .l [1, 0, 1, 0, 0], .b 0, .c [1, 1]]) (by kernel_rfl) ?_
    refine RunH.reg (by kernel_rfl) ?_
    refine RgH.runk 7 [0, 1, 5, 12] (vs := [.slice Aa0_2 a0.Blobs.length ca0_2]) (evs := [.load ⟨ga0, 2, none⟩ (.slice Aa0_2 a0.Blobs.length ca0_2)]) (L' := [(0, .pointer (some ⟨ga0, 0, none⟩)), (1, .string a1), (5, .int .i64 v_i5), (12, .bool (decide (v_i5 < (a0.Blobs.length : Int))))]) (by kernel_rfl) (by kernel_rfl) (fun w hh => (hga0.cell (hh.drop 0) rfl)) ?_
    refine RgH.done (by kernel_rfl) ?_
    rcases bool_cases (decide (v_i5 < (a0.Blobs.length : Int))) with hb1 | hb1
    · replace heq := bif_true hb1 heq
      refine RunH.condT (c := decide (v_i5 < (a0.Blobs.length : Int))) (by kernel_rfl) hb1 ?_
      refine RunH.adm 4 (es' := [.c [1, 0, 1, 0, 0, 1, 0, 0, 0], .c [1, 0, 1, 0, 0, 1, 0, 0, 1], .b 1, .c [1, 0, 1, 0, 0, 1, 1], .l [1, 0, 1, 0, 0], .b 0, .c [1, 1]]) (by kernel_rfl) ?_
      refine RunH.reg (by kernel_rfl) ?_
      obtain ⟨x1, hx1, heq⟩ := bind_some heq
      obtain ⟨ha1, cs1, hK1, hcc1⟩ := hra0_2.get hx1
      obtain ⟨rfl⟩ := kBlob_open hK1
      refine RgH.runk 10 [0, 1, 5, 24] (vs := [.slice Aa0_2 a0.Blobs.length ca0_2, .string x1.Digest]) (evs := [.load ⟨ga0, 2, none⟩ (.slice Aa0_2 a0.Blobs.length ca0_2), .need (Aa0_2 = some (adr Aa0_2) ∧ (0 : Int) ≤ v_i5 ∧ v_i5 < ((a0.Blobs.length : Nat) : Int)), .load (((adr Aa0_2).add (v_i5.toNat * 5)).add 0) (.string x1.Digest)]) (L' := [(0, .pointer (some ⟨ga0, 0, none⟩)), (1, .string a1), (5, .int .i64 v_i5), (24, .bool (sEq x1.Digest a1))]) (by kernel_rfl) (by kernel_rfl) (fun w hh => ⟨(hga0.cell (hh.drop 0) rfl), ⟨ha1, (at?_some hx1).1, (at?_some hx1).2.1⟩, (hcc1 _ _ (hh.drop 0) 0 _ rfl)⟩) ?_
      refine RgH.done (by kernel_rfl) ?_
      rcases bool_cases (sEq x1.Digest a1) with hb2 | hb2
      · replace heq := bif_true hb2 heq
        refine RunH.condT (c := sEq x1.Digest a1) (by kernel_rfl) hb2 ?_
        refine RunH.adm 1 (es' := [.c [1, 0, 1, 0, 0, 1, 0, 0, 1, 0, 0], .c [1, 0, 1, 0, 0, 1, 0, 0, 1, 0, 1], .b 1, .c [1, 0, 1, 0, 0, 1, 1], .l [1, 0, 1, 0, 0], .b 0, .c [1, 1]]) (by kernel_rfl) ?_
        refine RunH.reg (by kernel_rfl) ?_
        refine RgH.runk 2 [4] (vs := []) (evs := []) (L' := [(4, .int .i64 v_i5)]) (by kernel_rfl) (by kernel_rfl) (fun _ _ => trivial) ?_
        refine RgH.done (by kernel_rfl) ?_
        obtain rfl := Option.some.inj heq
        exact RunH.done (by kernel_rfl) Tryd.func107 (v := .int .i64 v_i5) (by kernel_rfl) ⟨rfl, rfl, rfl⟩
      · replace heq := bif_false hb2 heq
        refine RunH.condF (c := sEq x1.Digest a1) (by kernel_rfl) hb2 ?_
        refine RunH.adm 2 (es' := [.c [1, 0, 1, 0, 0, 1, 1], .l [1, 0, 1, 0, 0], .b 0, .c [1, 1]]) (by kernel_rfl) ?_
        refine RunH.reg (by kernel_rfl) ?_
        refine RgH.runk 3 [0, 1, 5] (vs := []) (evs := []) (L' := [(0, .pointer (some ⟨ga0, 0, none⟩)), (1, .string a1), (5, .int .i64 (w64 (v_i5 + 1)))]) (by kernel_rfl) (by kernel_rfl) (fun _ _ => trivial) ?_
        refine RgH.done (by kernel_rfl) ?_
        refine RunH.adm 1 (es' := [.c [1, 0, 1, 0, 0], .l [1, 0, 1, 0, 0], .b 0, .c [1, 1]]) (by kernel_rfl) ?_
        refine RunH.keep [0, 1, 5] (L' := [(0, .pointer (some ⟨ga0, 0, none⟩)), (1, .string a1), (5, .int .i64 (w64 (v_i5 + 1)))]) (by kernel_rfl) ?_
        exact ihk _ a0 _ _ _ _ a1 (w64 (v_i5 + 1)) hra0_2 hca0_2 hra0_3 hca0_3 hga0 heq
    · replace heq := bif_false hb1 heq
      refine RunH.condF (c := decide (v_i5 < (a0.Blobs.length : Int))) (by kernel_rfl) hb1 ?_
      refine RunH.adm 2 (es' := [.c [1, 1, 0], .c [1, 1, 1]]) (by kernel_rfl) ?_
      refine RunH.keep [] (L' := []) (by kernel_rfl) ?_
      exact he1 heq
theorem smithyardref7_blob_c {w0 : World} {H : Hp} {F : List Ch} {ga0 : Nat} {a0 : Cache} {Aa0_2 : Option Addr} {na0_2 : Nat} {ca0_2 : Nat} {Aa0_3 : Option Addr} {na0_3 : Nat} {ca0_3 : Nat} {a1 : ByteArray} {r : Int} (hra0_2 : Rw kBlob H F Aa0_2 a0.Blobs) (hca0_2 : na0_2 ≤ ca0_2) (hna0_2 : na0_2 = a0.Blobs.length) (hra0_3 : Rw kEntry H F Aa0_3 a0.Entries) (hca0_3 : na0_3 ≤ ca0_3) (hna0_3 : na0_3 = a0.Entries.length) (hga0 : InG H F ga0 (.cells #[.int .i64 a0.Room, .int .i64 a0.Lease, .slice Aa0_2 na0_2 ca0_2, .slice Aa0_3 na0_3 ca0_3] 25 (0, 0))) (heq : smithyardref7_blob.f a0 a1 = some r) : CallsH Tryd.prog 107 #[.pointer (some ⟨ga0, 0, none⟩), .string a1] H w0 (F) (S107 F H r) := by
  refine calls_of_runH (F := C107) Tryd.func107 (by kernel_rfl) Tryd.ntmps107 (args := [.pointer (some ⟨ga0, 0, none⟩), .string a1]) (by kernel_rfl) ?_
  subst hna0_2
  subst hna0_3
  unfold smithyardref7_blob.f at heq
  refine RunH.adm 1 (es' := [.c [0], .c [1]]) (by kernel_rfl) ?_
  refine RunH.reg (by kernel_rfl) ?_
  refine RgH.runk 1 [0, 1] (vs := []) (evs := []) (L' := [(0, .pointer (some ⟨ga0, 0, none⟩)), (1, .string a1)]) (by kernel_rfl) (by kernel_rfl) (fun _ _ => trivial) ?_
  refine RgH.done (by kernel_rfl) ?_
  refine RunH.adm 2 (es' := [.c [1, 0, 0], .c [1, 0, 1], .c [1, 1]]) (by kernel_rfl) ?_
  refine RunH.reg (by kernel_rfl) ?_
  refine RgH.runk 1 [0, 1, 5] (vs := []) (evs := []) (L' := [(0, .pointer (some ⟨ga0, 0, none⟩)), (1, .string a1), (5, .int .i64 0)]) (by kernel_rfl) (by kernel_rfl) (fun _ _ => trivial) ?_
  refine RgH.done (by kernel_rfl) ?_
  refine RunH.adm 2 (es' := [.c [1, 0, 1, 0, 0], .l [1, 0, 1, 0, 0], .b 0, .c [1, 1]]) (by kernel_rfl) ?_
  refine RunH.keep [0, 1, 5] (L' := [(0, .pointer (some ⟨ga0, 0, none⟩)), (1, .string a1), (5, .int .i64 0)]) (by kernel_rfl) ?_
  exact ((smithyardref7_blob.l2_c (e1 := smithyardref7_blob.e1) (smithyardref7_blob.e1_c)) big) _ a0 _ _ _ _ a1 0 hra0_2 hca0_2 hra0_3 hca0_3 hga0 heq
noncomputable def C68 : Ctx := { P := Tryd.prog, f := 68, N := 28, c := bodyOf Tryd.f68 }
def S68 (F : List Ch) (H0 : Hp) (r : (List ByteArray)) (v : Value) (H : Hp) (cs : List Ch) : Prop := ∃ (A0 : Option Addr) (c0 : Nat) (ch0 : Ch), H0 = H ∧ v = .slice A0 r.length c0 ∧ ch0 :: F = cs ∧ SlOwn Kd.string 9 H A0 c0 r ch0
theorem smithyardref7_missing.e1_c {w0 : World} {H : Hp} {F : List Ch} {r : (List ByteArray)} : ∀ (v_out5 : List ByteArray) (Av_out5 : Option Addr) (nv_out5 : Nat) (cv_out5 : Nat) (chv_out5 : Ch) , SlOwn Kd.string 9 H Av_out5 cv_out5 v_out5 chv_out5 → nv_out5 = v_out5.length → smithyardref7_missing.e1 v_out5 = some r → RunH C68 (S68 F H r) H w0 [.c [1, 1, 1, 0], .c [1, 1, 1, 1]] [(5, .slice Av_out5 nv_out5 cv_out5)] H (chv_out5 :: F) := by
  intro v_out5 Av_out5 nv_out5 cv_out5 chv_out5 hov_out5 hnv_out5 heq
  subst hnv_out5
  unfold smithyardref7_missing.e1 at heq
  refine RunH.reg (by kernel_rfl) ?_
  refine RgH.runk 2 [4] (vs := []) (evs := []) (L' := [(4, .slice Av_out5 v_out5.length cv_out5)]) (by kernel_rfl) (by kernel_rfl) (fun _ _ => trivial) ?_
  refine RgH.done (by kernel_rfl) ?_
  obtain rfl := Option.some.inj heq
  exact RunH.done (by kernel_rfl) Tryd.func68 (v := .slice Av_out5 v_out5.length cv_out5) (by kernel_rfl) ⟨Av_out5, cv_out5, chv_out5, rfl, rfl, rfl, hov_out5⟩
theorem smithyardref7_missing.j3_c {w0 : World} {H : Hp} {F : List Ch} {r : (List ByteArray)} (backl2 : Cache → (List ByteArray) → (List ByteArray) → Int → Option (List ByteArray))
    (hbackl2 : ∀ (ga0 : Nat) (a0 : Cache) (Aa0_2 : Option Addr) (ca0_2 : Nat) (Aa0_3 : Option Addr) (ca0_3 : Nat) (a1 : List ByteArray) (Aa1 : Option Addr) (ca1 : Nat) (v_out5 : List ByteArray) (Av_out5 : Option Addr) (nv_out5 : Nat) (cv_out5 : Nat) (chv_out5 : Ch) (v_i6 : Int) , Rw kBlob H F Aa0_2 a0.Blobs → a0.Blobs.length ≤ ca0_2 → Rw kEntry H F Aa0_3 a0.Entries → a0.Entries.length ≤ ca0_3 → InG H F ga0 (.cells #[.int .i64 a0.Room, .int .i64 a0.Lease, .slice Aa0_2 a0.Blobs.length ca0_2, .slice Aa0_3 a0.Entries.length ca0_3] 25 (0, 0)) → Rw Kd.string H F Aa1 a1 → a1.length ≤ ca1 → SlOwn Kd.string 9 H Av_out5 cv_out5 v_out5 chv_out5 → nv_out5 = v_out5.length → backl2 a0 a1 v_out5 v_i6 = some r → RunH C68 (S68 F H r) H w0 [.c [1, 1, 0, 1, 0, 0], .l [1, 1, 0, 1, 0, 0], .b 0, .c [1, 1, 1]] [(0, .pointer (some ⟨ga0, 0, none⟩)), (1, .slice Aa1 a1.length ca1), (5, .slice Av_out5 nv_out5 cv_out5), (6, .int .i64 v_i6)] H (chv_out5 :: F)) : ∀ (ga0 : Nat) (a0 : Cache) (Aa0_2 : Option Addr) (ca0_2 : Nat) (Aa0_3 : Option Addr) (ca0_3 : Nat) (a1 : List ByteArray) (Aa1 : Option Addr) (ca1 : Nat) (v_i6 : Int) (v_out5 : List ByteArray) (Av_out5 : Option Addr) (nv_out5 : Nat) (cv_out5 : Nat) (chv_out5 : Ch) , Rw kBlob H F Aa0_2 a0.Blobs → a0.Blobs.length ≤ ca0_2 → Rw kEntry H F Aa0_3 a0.Entries → a0.Entries.length ≤ ca0_3 → InG H F ga0 (.cells #[.int .i64 a0.Room, .int .i64 a0.Lease, .slice Aa0_2 a0.Blobs.length ca0_2, .slice Aa0_3 a0.Entries.length ca0_3] 25 (0, 0)) → Rw Kd.string H F Aa1 a1 → a1.length ≤ ca1 → SlOwn Kd.string 9 H Av_out5 cv_out5 v_out5 chv_out5 → nv_out5 = v_out5.length → smithyardref7_missing.j3 backl2 a0 a1 v_i6 v_out5 = some r → RunH C68 (S68 F H r) H w0 [.c [1, 1, 0, 1, 0, 0, 1, 1], .l [1, 1, 0, 1, 0, 0], .b 0, .c [1, 1, 1]] [(0, .pointer (some ⟨ga0, 0, none⟩)), (1, .slice Aa1 a1.length ca1), (5, .slice Av_out5 nv_out5 cv_out5), (6, .int .i64 v_i6)] H (chv_out5 :: F) := by
  intro ga0 a0 Aa0_2 ca0_2 Aa0_3 ca0_3 a1 Aa1 ca1 v_i6 v_out5 Av_out5 nv_out5 cv_out5 chv_out5 hra0_2 hca0_2 hra0_3 hca0_3 hga0 hra1 hca1 hov_out5 hnv_out5 heq
  subst hnv_out5
  unfold smithyardref7_missing.j3 at heq
  refine RunH.reg (by kernel_rfl) ?_
  refine RgH.runk 3 [0, 1, 5, 6] (vs := []) (evs := []) (L' := [(0, .pointer (some ⟨ga0, 0, none⟩)), (1, .slice Aa1 a1.length ca1), (5, .slice Av_out5 v_out5.length cv_out5), (6, .int .i64 (w64 (v_i6 + 1)))]) (by kernel_rfl) (by kernel_rfl) (fun _ _ => trivial) ?_
  refine RgH.done (by kernel_rfl) ?_
  refine RunH.adm 1 (es' := [.c [1, 1, 0, 1, 0, 0], .l [1, 1, 0, 1, 0, 0], .b 0, .c [1, 1, 1]]) (by kernel_rfl) ?_
  refine RunH.keep [0, 1, 5, 6] (L' := [(0, .pointer (some ⟨ga0, 0, none⟩)), (1, .slice Aa1 a1.length ca1), (5, .slice Av_out5 v_out5.length cv_out5), (6, .int .i64 (w64 (v_i6 + 1)))]) (by kernel_rfl) ?_
  exact hbackl2 _ a0 _ _ _ _ a1 _ _ v_out5 _ _ _ _ (w64 (v_i6 + 1)) hra0_2 hca0_2 hra0_3 hca0_3 hga0 hra1 hca1 hov_out5 rfl heq
theorem smithyardref7_missing.l2_c {w0 : World} {H : Hp} {F : List Ch} {r : (List ByteArray)} (e1 : (List ByteArray) → Option (List ByteArray))
    (he1 : ∀ (v_out5 : List ByteArray) (Av_out5 : Option Addr) (nv_out5 : Nat) (cv_out5 : Nat) (chv_out5 : Ch) , SlOwn Kd.string 9 H Av_out5 cv_out5 v_out5 chv_out5 → nv_out5 = v_out5.length → e1 v_out5 = some r → RunH C68 (S68 F H r) H w0 [.c [1, 1, 1, 0], .c [1, 1, 1, 1]] [(5, .slice Av_out5 nv_out5 cv_out5)] H (chv_out5 :: F)) : ∀ (k : Nat), ∀ (ga0 : Nat) (a0 : Cache) (Aa0_2 : Option Addr) (ca0_2 : Nat) (Aa0_3 : Option Addr) (ca0_3 : Nat) (a1 : List ByteArray) (Aa1 : Option Addr) (ca1 : Nat) (v_out5 : List ByteArray) (Av_out5 : Option Addr) (nv_out5 : Nat) (cv_out5 : Nat) (chv_out5 : Ch) (v_i6 : Int) , Rw kBlob H F Aa0_2 a0.Blobs → a0.Blobs.length ≤ ca0_2 → Rw kEntry H F Aa0_3 a0.Entries → a0.Entries.length ≤ ca0_3 → InG H F ga0 (.cells #[.int .i64 a0.Room, .int .i64 a0.Lease, .slice Aa0_2 a0.Blobs.length ca0_2, .slice Aa0_3 a0.Entries.length ca0_3] 25 (0, 0)) → Rw Kd.string H F Aa1 a1 → a1.length ≤ ca1 → SlOwn Kd.string 9 H Av_out5 cv_out5 v_out5 chv_out5 → nv_out5 = v_out5.length → smithyardref7_missing.l2 e1 k a0 a1 v_out5 v_i6 = some r → RunH C68 (S68 F H r) H w0 [.c [1, 1, 0, 1, 0, 0], .l [1, 1, 0, 1, 0, 0], .b 0, .c [1, 1, 1]] [(0, .pointer (some ⟨ga0, 0, none⟩)), (1, .slice Aa1 a1.length ca1), (5, .slice Av_out5 nv_out5 cv_out5), (6, .int .i64 v_i6)] H (chv_out5 :: F) := by
  intro k
  induction k with
  | zero => intro ga0 a0 Aa0_2 ca0_2 Aa0_3 ca0_3 a1 Aa1 ca1 v_out5 Av_out5 nv_out5 cv_out5 chv_out5 v_i6 hra0_2 hca0_2 hra0_3 hca0_3 hga0 hra1 hca1 hov_out5 hnv_out5 heq; exact nomatch (show (none : Option (List ByteArray)) = some r from heq)
  | succ k ihk =>
    intro ga0 a0 Aa0_2 ca0_2 Aa0_3 ca0_3 a1 Aa1 ca1 v_out5 Av_out5 nv_out5 cv_out5 chv_out5 v_i6 hra0_2 hca0_2 hra0_3 hca0_3 hga0 hra1 hca1 hov_out5 hnv_out5 heq
    subst hnv_out5
    rw [smithyardref7_missing.l2] at heq
    refine RunH.adm 2 (es' := [.c [1, 1, 0, 1, 0, 0, 0, 0], .c [1, 1, 0, 1, 0, 0, 0, 1], .c [1, 1, 0, 1, 0, 0, 1], .l [1, 1, 0, 1, 0, 0], .b 0, .c [1, 1, 1]]) (by kernel_rfl) ?_
    refine RunH.reg (by kernel_rfl) ?_
    refine RgH.runk 4 [0, 1, 5, 6, 10] (vs := []) (evs := []) (L' := [(0, .pointer (some ⟨ga0, 0, none⟩)), (1, .slice Aa1 a1.length ca1), (5, .slice Av_out5 v_out5.length cv_out5), (6, .int .i64 v_i6), (10, .bool (decide (v_i6 < (a1.length : Int))))]) (by kernel_rfl) (by kernel_rfl) (fun _ _ => trivial) ?_
    refine RgH.done (by kernel_rfl) ?_
    rcases bool_cases (decide (v_i6 < (a1.length : Int))) with hb1 | hb1
    · replace heq := bif_true hb1 heq
      refine RunH.condT (c := decide (v_i6 < (a1.length : Int))) (by kernel_rfl) hb1 ?_
      refine RunH.adm 4 (es' := [.c [1, 1, 0, 1, 0, 0, 1, 0, 0, 0], .c [1, 1, 0, 1, 0, 0, 1, 0, 0, 1], .b 1, .c [1, 1, 0, 1, 0, 0, 1, 1], .l [1, 1, 0, 1, 0, 0], .b 0, .c [1, 1, 1]]) (by kernel_rfl) ?_
      refine RunH.reg (by kernel_rfl) ?_
      obtain ⟨x1, hx1, heq⟩ := bind_some heq
      obtain ⟨ha1, cs1, hK1, hcc1⟩ := hra1.get hx1
      obtain rfl : cs1 = [.string x1] := hK1
      refine RgH.runk 5 [0, 1, 5, 6, 13, 17] (vs := [.string x1]) (evs := [.need (Aa1 = some (adr Aa1) ∧ (0 : Int) ≤ v_i6 ∧ v_i6 < ((a1.length : Nat) : Int)), .load ((adr Aa1).add (v_i6.toNat * 1)) (.string x1)]) (L' := [(0, .pointer (some ⟨ga0, 0, none⟩)), (1, .slice Aa1 a1.length ca1), (5, .slice Av_out5 v_out5.length cv_out5), (6, .int .i64 v_i6), (13, .pointer (some ⟨ga0, 0, none⟩)), (17, .string x1)]) (by kernel_rfl) (by kernel_rfl) (fun w hh => ⟨⟨ha1, (at?_some hx1).1, (at?_some hx1).2.1⟩, (hcc1 _ _ (hh.drop 1) 0 _ rfl)⟩) ?_
      obtain ⟨y1, hy1, heq⟩ := bind_some heq
      refine RgH.does (DoesH.call (d := 18) (g := 107) (args := #[.pointer (some ⟨ga0, 0, none⟩), .string x1]) (by kernel_rfl) (smithyardref7_blob_c (a0 := a0) (a1 := x1) (hra0_2.wk (fun _ h => (.tail _ h))) hca0_2 rfl (hra0_3.wk (fun _ h => (.tail _ h))) hca0_3 rfl (hga0.wk (fun _ h => (.tail _ h))) hy1)) ?_
      rintro _ _ _ _ ⟨_, rfl, rfl, rfl, rfl⟩
      refine RgH.runk 7 [0, 1, 5, 6, 19] (vs := []) (evs := []) (L' := [(0, .pointer (some ⟨ga0, 0, none⟩)), (1, .slice Aa1 a1.length ca1), (5, .slice Av_out5 v_out5.length cv_out5), (6, .int .i64 v_i6), (19, .bool (decide (y1 < 0)))]) (by kernel_rfl) (by kernel_rfl) (fun _ _ => trivial) ?_
      refine RgH.done (by kernel_rfl) ?_
      rcases bool_cases (decide (y1 < 0)) with hb2 | hb2
      · replace heq := bif_true hb2 heq
        refine RunH.condT (c := decide (y1 < 0)) (by kernel_rfl) hb2 ?_
        refine RunH.reg (by kernel_rfl) ?_
        obtain ⟨x2, hx2, heq⟩ := bind_some heq
        obtain ⟨ha2, cs2, hK2, hcc2⟩ := hra1.get hx2
        obtain rfl : cs2 = [.string x2] := hK2
        refine RgH.runk 5 [0, 1, 6, 20, 24] (vs := [.string x2]) (evs := [.need (Aa1 = some (adr Aa1) ∧ (0 : Int) ≤ v_i6 ∧ v_i6 < ((a1.length : Nat) : Int)), .load ((adr Aa1).add (v_i6.toNat * 1)) (.string x2)]) (L' := [(0, .pointer (some ⟨ga0, 0, none⟩)), (1, .slice Aa1 a1.length ca1), (6, .int .i64 v_i6), (20, .slice Av_out5 v_out5.length cv_out5), (24, .string x2)]) (by kernel_rfl) (by kernel_rfl) (fun w hh => ⟨⟨ha2, (at?_some hx2).1, (at?_some hx2).2.1⟩, (hcc2 _ _ (hh.drop 1) 0 _ rfl)⟩) ?_
        refine RgH.does (DoesH.new (d := 25) (v := fun g => .slice (some ⟨g, 0, none⟩) 1 1) (o := fun g => .cells #[.string x2] 9 (0, 0)) (fun g => by kernel_rfl)) ?_
        rintro _ _ _ _ ⟨g1, rfl, rfl, rfl⟩
        have ho1 : SlOwn Kd.string 9 H (some ⟨g1, 0, none⟩) 1 ([x2] : List ByteArray) (some (g1, .cells #[.string x2] 9 (0, 0))) := SlOwn.lit (xs := ([x2] : List ByteArray)) (by kernel_rfl) (Nat.le_of_ble_eq_true (by kernel_rfl)) (Kd.Rep.scalars rfl)
        obtain ⟨hn1, heq⟩ := guard?_some heq
        refine RgH.does (DoesH.append (d := 26) (k := 1) (t := 34) (e := 9) (bytes := 16) (kd := Kd.string) (n := v_out5.length) (m := 1) (xs := v_out5) (ys := ([x2] : List ByteArray)) (A := Av_out5) (B := (some ⟨g1, 0, none⟩)) (c := cv_out5) (cB := 1) (by kernel_rfl) rfl rfl (by kernel_rfl) rfl hov_out5 (fun w hh => ho1.rdb (hh.chin 0 rfl)) (room_le hn1) (by have := room_le hn1; omega)) ?_
        rintro _ _ _ _ ⟨A1, c1, ch1, rfl, rfl, rfl, ho2⟩
        refine RgH.runk 8 [0, 1, 5, 6] (vs := []) (evs := []) (L' := [(0, .pointer (some ⟨ga0, 0, none⟩)), (1, .slice Aa1 a1.length ca1), (5, .slice A1 ((v_out5 ++ ([x2] : List ByteArray)).length) c1), (6, .int .i64 v_i6)]) (by kernel_rfl) (by kernel_rfl) (fun _ _ => trivial) ?_
        refine RgH.done (by kernel_rfl) ?_
        refine RunH.adm 1 (es' := [.c [1, 1, 0, 1, 0, 0, 1, 1], .l [1, 1, 0, 1, 0, 0], .b 0, .c [1, 1, 1]]) (by kernel_rfl) ?_
        refine RunH.keep [0, 1, 5, 6] (L' := [(0, .pointer (some ⟨ga0, 0, none⟩)), (1, .slice Aa1 a1.length ca1), (5, .slice A1 ((v_out5 ++ ([x2] : List ByteArray)).length) c1), (6, .int .i64 v_i6)]) (by kernel_rfl) ?_
        refine RunH.pick 2 [1] (cs' := ch1 :: F) (by kernel_rfl) rfl ?_
        exact (smithyardref7_missing.j3_c (backl2 := (smithyardref7_missing.l2 e1 k)) ihk) _ a0 _ _ _ _ a1 _ _ v_i6 (v_out5 ++ ([x2] : List ByteArray)) _ _ _ _ hra0_2 hca0_2 hra0_3 hca0_3 hga0 hra1 hca1 ho2 rfl heq
      · replace heq := bif_false hb2 heq
        refine RunH.condF (c := decide (y1 < 0)) (by kernel_rfl) hb2 ?_
        refine RunH.adm 2 (es' := [.c [1, 1, 0, 1, 0, 0, 1, 1], .l [1, 1, 0, 1, 0, 0], .b 0, .c [1, 1, 1]]) (by kernel_rfl) ?_
        refine RunH.keep [0, 1, 5, 6] (L' := [(0, .pointer (some ⟨ga0, 0, none⟩)), (1, .slice Aa1 a1.length ca1), (5, .slice Av_out5 v_out5.length cv_out5), (6, .int .i64 v_i6)]) (by kernel_rfl) ?_
        exact (smithyardref7_missing.j3_c (backl2 := (smithyardref7_missing.l2 e1 k)) ihk) _ a0 _ _ _ _ a1 _ _ v_i6 v_out5 _ _ _ _ hra0_2 hca0_2 hra0_3 hca0_3 hga0 hra1 hca1 hov_out5 rfl heq
    · replace heq := bif_false hb1 heq
      refine RunH.condF (c := decide (v_i6 < (a1.length : Int))) (by kernel_rfl) hb1 ?_
      refine RunH.adm 2 (es' := [.c [1, 1, 1, 0], .c [1, 1, 1, 1]]) (by kernel_rfl) ?_
      refine RunH.keep [5] (L' := [(5, .slice Av_out5 v_out5.length cv_out5)]) (by kernel_rfl) ?_
      exact he1 v_out5 _ _ _ _ hov_out5 rfl heq
theorem smithyardref7_missing_c {w0 : World} {H : Hp} {F : List Ch} {ga0 : Nat} {a0 : Cache} {Aa0_2 : Option Addr} {na0_2 : Nat} {ca0_2 : Nat} {Aa0_3 : Option Addr} {na0_3 : Nat} {ca0_3 : Nat} {a1 : List ByteArray} {Aa1 : Option Addr} {na1 : Nat} {ca1 : Nat} {r : (List ByteArray)} (hra0_2 : Rw kBlob H F Aa0_2 a0.Blobs) (hca0_2 : na0_2 ≤ ca0_2) (hna0_2 : na0_2 = a0.Blobs.length) (hra0_3 : Rw kEntry H F Aa0_3 a0.Entries) (hca0_3 : na0_3 ≤ ca0_3) (hna0_3 : na0_3 = a0.Entries.length) (hga0 : InG H F ga0 (.cells #[.int .i64 a0.Room, .int .i64 a0.Lease, .slice Aa0_2 na0_2 ca0_2, .slice Aa0_3 na0_3 ca0_3] 25 (0, 0))) (hra1 : Rw Kd.string H F Aa1 a1) (hca1 : na1 ≤ ca1) (hna1 : na1 = a1.length) (heq : smithyardref7_missing.f a0 a1 = some r) : CallsH Tryd.prog 68 #[.pointer (some ⟨ga0, 0, none⟩), .slice Aa1 na1 ca1] H w0 (F) (S68 F H r) := by
  refine calls_of_runH (F := C68) Tryd.func68 (by kernel_rfl) Tryd.ntmps68 (args := [.pointer (some ⟨ga0, 0, none⟩), .slice Aa1 na1 ca1]) (by kernel_rfl) ?_
  subst hna0_2
  subst hna0_3
  subst hna1
  unfold smithyardref7_missing.f at heq
  refine RunH.adm 1 (es' := [.c [0], .c [1]]) (by kernel_rfl) ?_
  refine RunH.reg (by kernel_rfl) ?_
  refine RgH.runk 1 [0, 1] (vs := []) (evs := []) (L' := [(0, .pointer (some ⟨ga0, 0, none⟩)), (1, .slice Aa1 a1.length ca1)]) (by kernel_rfl) (by kernel_rfl) (fun _ _ => trivial) ?_
  refine RgH.done (by kernel_rfl) ?_
  refine RunH.adm 1 (es' := [.c [1, 0], .c [1, 1]]) (by kernel_rfl) ?_
  refine RunH.reg (by kernel_rfl) ?_
  refine RgH.runk 1 [0, 1, 5] (vs := []) (evs := []) (L' := [(0, .pointer (some ⟨ga0, 0, none⟩)), (1, .slice Aa1 a1.length ca1), (5, .slice none 0 0)]) (by kernel_rfl) (by kernel_rfl) (fun _ _ => trivial) ?_
  refine RgH.done (by kernel_rfl) ?_
  refine RunH.adm 2 (es' := [.c [1, 1, 0, 0], .c [1, 1, 0, 1], .c [1, 1, 1]]) (by kernel_rfl) ?_
  refine RunH.reg (by kernel_rfl) ?_
  refine RgH.runk 1 [0, 1, 5, 6] (vs := []) (evs := []) (L' := [(0, .pointer (some ⟨ga0, 0, none⟩)), (1, .slice Aa1 a1.length ca1), (5, .slice none 0 0), (6, .int .i64 0)]) (by kernel_rfl) (by kernel_rfl) (fun _ _ => trivial) ?_
  refine RgH.done (by kernel_rfl) ?_
  refine RunH.adm 2 (es' := [.c [1, 1, 0, 1, 0, 0], .l [1, 1, 0, 1, 0, 0], .b 0, .c [1, 1, 1]]) (by kernel_rfl) ?_
  refine RunH.nilc ?_
  have ho3 : SlOwn Kd.string 9 H none 0 ([] : List ByteArray) none := SlOwn.nil
  refine RunH.keep [0, 1, 5, 6] (L' := [(0, .pointer (some ⟨ga0, 0, none⟩)), (1, .slice Aa1 a1.length ca1), (5, .slice none 0 0), (6, .int .i64 0)]) (by kernel_rfl) ?_
  exact ((smithyardref7_missing.l2_c (e1 := smithyardref7_missing.e1) (smithyardref7_missing.e1_c)) big) _ a0 _ _ _ _ a1 _ _ ([] : List ByteArray) _ _ _ _ 0 hra0_2 hca0_2 hra0_3 hca0_3 hga0 hra1 hca1 ho3 rfl heq
noncomputable def C27 : Ctx := { P := Tryd.prog, f := 27, N := 38, c := bodyOf Tryd.f27 }
def S27 (F : List Ch) (H0 : Hp) (r : (List ByteArray) × Int) (v : Value) (H : Hp) (cs : List Ch) : Prop := ∃ (A0 : Option Addr) (c0 : Nat) (ch0 : Ch), H0 = H ∧ v = .tuple #[.slice A0 r.1.length c0, .int .i64 r.2] ∧ ch0 :: F = cs ∧ SlOwn Kd.string 9 H A0 c0 r.1 ch0
theorem smithyardref7_Broken.e1_c {w0 : World} {H : Hp} {F : List Ch} {r : (List ByteArray) × Int} : ∀ (v_out5 : List ByteArray) (Av_out5 : Option Addr) (nv_out5 : Nat) (cv_out5 : Nat) (chv_out5 : Ch) , SlOwn Kd.string 9 H Av_out5 cv_out5 v_out5 chv_out5 → nv_out5 = v_out5.length → smithyardref7_Broken.e1 v_out5 = some r → RunH C27 (S27 F H r) H w0 [.c [1, 1, 1, 1, 0], .c [1, 1, 1, 1, 1]] [(5, .slice Av_out5 nv_out5 cv_out5)] H (chv_out5 :: F) := by
  intro v_out5 Av_out5 nv_out5 cv_out5 chv_out5 hov_out5 hnv_out5 heq
  subst hnv_out5
  unfold smithyardref7_Broken.e1 at heq
  refine RunH.reg (by kernel_rfl) ?_
  refine RgH.runk 3 [2, 3] (vs := []) (evs := []) (L' := [(2, .slice Av_out5 v_out5.length cv_out5), (3, .int .i64 0)]) (by kernel_rfl) (by kernel_rfl) (fun _ _ => trivial) ?_
  refine RgH.done (by kernel_rfl) ?_
  obtain rfl := Option.some.inj heq
  exact RunH.done (by kernel_rfl) Tryd.func27 (v := .tuple #[.slice Av_out5 v_out5.length cv_out5, .int .i64 0]) (by kernel_rfl) ⟨Av_out5, cv_out5, chv_out5, rfl, rfl, rfl, hov_out5⟩
theorem smithyardref7_Broken.j3_c {w0 : World} {H : Hp} {F : List Ch} {r : (List ByteArray) × Int} (backl2 : Cache → (List ByteArray) → Int → Option ((List ByteArray) × Int))
    (hbackl2 : ∀ (a0 : Cache) (Aa0_2 : Option Addr) (ca0_2 : Nat) (Aa0_3 : Option Addr) (ca0_3 : Nat) (g1 : Nat) (v_out5 : List ByteArray) (Av_out5 : Option Addr) (nv_out5 : Nat) (cv_out5 : Nat) (chv_out5 : Ch) (v_i6 : Int) , Rw kBlob H F Aa0_2 a0.Blobs → a0.Blobs.length ≤ ca0_2 → Rw kEntry H F Aa0_3 a0.Entries → a0.Entries.length ≤ ca0_3 → SlOwn Kd.string 9 H Av_out5 cv_out5 v_out5 chv_out5 → nv_out5 = v_out5.length → backl2 a0 v_out5 v_i6 = some r → RunH C27 (S27 F H r) H w0 [.c [1, 1, 1, 0, 1, 0, 0], .l [1, 1, 1, 0, 1, 0, 0], .b 0, .c [1, 1, 1, 1]] [(1, .pointer (some ⟨g1, 0, none⟩)), (5, .slice Av_out5 nv_out5 cv_out5), (6, .int .i64 v_i6)] H (chv_out5 :: (some (g1, .cells #[.int .i64 a0.Room, .int .i64 a0.Lease, .slice Aa0_2 a0.Blobs.length ca0_2, .slice Aa0_3 a0.Entries.length ca0_3] 25 (0, 0))) :: F)) : ∀ (a0 : Cache) (Aa0_2 : Option Addr) (ca0_2 : Nat) (Aa0_3 : Option Addr) (ca0_3 : Nat) (g1 : Nat) (v_i6 : Int) (v_out5 : List ByteArray) (Av_out5 : Option Addr) (nv_out5 : Nat) (cv_out5 : Nat) (chv_out5 : Ch) , Rw kBlob H F Aa0_2 a0.Blobs → a0.Blobs.length ≤ ca0_2 → Rw kEntry H F Aa0_3 a0.Entries → a0.Entries.length ≤ ca0_3 → SlOwn Kd.string 9 H Av_out5 cv_out5 v_out5 chv_out5 → nv_out5 = v_out5.length → smithyardref7_Broken.j3 backl2 a0 v_i6 v_out5 = some r → RunH C27 (S27 F H r) H w0 [.c [1, 1, 1, 0, 1, 0, 0, 1, 1], .l [1, 1, 1, 0, 1, 0, 0], .b 0, .c [1, 1, 1, 1]] [(1, .pointer (some ⟨g1, 0, none⟩)), (5, .slice Av_out5 nv_out5 cv_out5), (6, .int .i64 v_i6)] H (chv_out5 :: (some (g1, .cells #[.int .i64 a0.Room, .int .i64 a0.Lease, .slice Aa0_2 a0.Blobs.length ca0_2, .slice Aa0_3 a0.Entries.length ca0_3] 25 (0, 0))) :: F) := by
  intro a0 Aa0_2 ca0_2 Aa0_3 ca0_3 g1 v_i6 v_out5 Av_out5 nv_out5 cv_out5 chv_out5 hra0_2 hca0_2 hra0_3 hca0_3 hov_out5 hnv_out5 heq
  subst hnv_out5
  unfold smithyardref7_Broken.j3 at heq
  refine RunH.reg (by kernel_rfl) ?_
  refine RgH.runk 3 [1, 5, 6] (vs := []) (evs := []) (L' := [(1, .pointer (some ⟨g1, 0, none⟩)), (5, .slice Av_out5 v_out5.length cv_out5), (6, .int .i64 (w64 (v_i6 + 1)))]) (by kernel_rfl) (by kernel_rfl) (fun _ _ => trivial) ?_
  refine RgH.done (by kernel_rfl) ?_
  refine RunH.adm 1 (es' := [.c [1, 1, 1, 0, 1, 0, 0], .l [1, 1, 1, 0, 1, 0, 0], .b 0, .c [1, 1, 1, 1]]) (by kernel_rfl) ?_
  refine RunH.keep [1, 5, 6] (L' := [(1, .pointer (some ⟨g1, 0, none⟩)), (5, .slice Av_out5 v_out5.length cv_out5), (6, .int .i64 (w64 (v_i6 + 1)))]) (by kernel_rfl) ?_
  exact hbackl2 a0 _ _ _ _ _ v_out5 _ _ _ _ (w64 (v_i6 + 1)) hra0_2 hca0_2 hra0_3 hca0_3 hov_out5 rfl heq
theorem smithyardref7_Broken.l2_c {w0 : World} {H : Hp} {F : List Ch} {r : (List ByteArray) × Int} (e1 : (List ByteArray) → Option ((List ByteArray) × Int))
    (he1 : ∀ (v_out5 : List ByteArray) (Av_out5 : Option Addr) (nv_out5 : Nat) (cv_out5 : Nat) (chv_out5 : Ch) , SlOwn Kd.string 9 H Av_out5 cv_out5 v_out5 chv_out5 → nv_out5 = v_out5.length → e1 v_out5 = some r → RunH C27 (S27 F H r) H w0 [.c [1, 1, 1, 1, 0], .c [1, 1, 1, 1, 1]] [(5, .slice Av_out5 nv_out5 cv_out5)] H (chv_out5 :: F)) : ∀ (k : Nat), ∀ (a0 : Cache) (Aa0_2 : Option Addr) (ca0_2 : Nat) (Aa0_3 : Option Addr) (ca0_3 : Nat) (g1 : Nat) (v_out5 : List ByteArray) (Av_out5 : Option Addr) (nv_out5 : Nat) (cv_out5 : Nat) (chv_out5 : Ch) (v_i6 : Int) , Rw kBlob H F Aa0_2 a0.Blobs → a0.Blobs.length ≤ ca0_2 → Rw kEntry H F Aa0_3 a0.Entries → a0.Entries.length ≤ ca0_3 → SlOwn Kd.string 9 H Av_out5 cv_out5 v_out5 chv_out5 → nv_out5 = v_out5.length → smithyardref7_Broken.l2 e1 k a0 v_out5 v_i6 = some r → RunH C27 (S27 F H r) H w0 [.c [1, 1, 1, 0, 1, 0, 0], .l [1, 1, 1, 0, 1, 0, 0], .b 0, .c [1, 1, 1, 1]] [(1, .pointer (some ⟨g1, 0, none⟩)), (5, .slice Av_out5 nv_out5 cv_out5), (6, .int .i64 v_i6)] H (chv_out5 :: (some (g1, .cells #[.int .i64 a0.Room, .int .i64 a0.Lease, .slice Aa0_2 a0.Blobs.length ca0_2, .slice Aa0_3 a0.Entries.length ca0_3] 25 (0, 0))) :: F) := by
  intro k
  induction k with
  | zero => intro a0 Aa0_2 ca0_2 Aa0_3 ca0_3 g1 v_out5 Av_out5 nv_out5 cv_out5 chv_out5 v_i6 hra0_2 hca0_2 hra0_3 hca0_3 hov_out5 hnv_out5 heq; exact nomatch (show (none : Option ((List ByteArray) × Int)) = some r from heq)
  | succ k ihk =>
    intro a0 Aa0_2 ca0_2 Aa0_3 ca0_3 g1 v_out5 Av_out5 nv_out5 cv_out5 chv_out5 v_i6 hra0_2 hca0_2 hra0_3 hca0_3 hov_out5 hnv_out5 heq
    subst hnv_out5
    rw [smithyardref7_Broken.l2] at heq
    refine RunH.adm 2 (es' := [.c [1, 1, 1, 0, 1, 0, 0, 0, 0], .c [1, 1, 1, 0, 1, 0, 0, 0, 1], .c [1, 1, 1, 0, 1, 0, 0, 1], .l [1, 1, 1, 0, 1, 0, 0], .b 0, .c [1, 1, 1, 1]]) (by kernel_rfl) ?_
    refine RunH.reg (by kernel_rfl) ?_
    refine RgH.runk 5 [1, 5, 6, 16] (vs := [.slice Aa0_3 a0.Entries.length ca0_3]) (evs := [.load ⟨g1, 3, none⟩ (.slice Aa0_3 a0.Entries.length ca0_3)]) (L' := [(1, .pointer (some ⟨g1, 0, none⟩)), (5, .slice Av_out5 v_out5.length cv_out5), (6, .int .i64 v_i6), (16, .bool (decide (v_i6 < (a0.Entries.length : Int))))]) (by kernel_rfl) (by kernel_rfl) (fun w hh => (hh.box 1 rfl rfl)) ?_
    refine RgH.done (by kernel_rfl) ?_
    rcases bool_cases (decide (v_i6 < (a0.Entries.length : Int))) with hb2 | hb2
    · replace heq := bif_true hb2 heq
      refine RunH.condT (c := decide (v_i6 < (a0.Entries.length : Int))) (by kernel_rfl) hb2 ?_
      refine RunH.adm 4 (es' := [.c [1, 1, 1, 0, 1, 0, 0, 1, 0, 0, 0], .c [1, 1, 1, 0, 1, 0, 0, 1, 0, 0, 1], .b 1, .c [1, 1, 1, 0, 1, 0, 0, 1, 1], .l [1, 1, 1, 0, 1, 0, 0], .b 0, .c [1, 1, 1, 1]]) (by kernel_rfl) ?_
      refine RunH.reg (by kernel_rfl) ?_
      obtain ⟨x1, hx1, heq⟩ := bind_some heq
      obtain ⟨ha1, cs1, hK1, hcc1⟩ := hra0_3.get hx1
      obtain ⟨A1, c1, rfl, hc1, hr1⟩ := kEntry_open hK1
      refine RgH.runk 6 [1, 5, 6, 24] (vs := [.slice Aa0_3 a0.Entries.length ca0_3, .slice A1 x1.Refs.length c1]) (evs := [.load ⟨g1, 3, none⟩ (.slice Aa0_3 a0.Entries.length ca0_3), .need (Aa0_3 = some (adr Aa0_3) ∧ (0 : Int) ≤ v_i6 ∧ v_i6 < ((a0.Entries.length : Nat) : Int)), .load (((adr Aa0_3).add (v_i6.toNat * 3)).add 1) (.slice A1 x1.Refs.length c1)]) (L' := [(1, .pointer (some ⟨g1, 0, none⟩)), (5, .slice Av_out5 v_out5.length cv_out5), (6, .int .i64 v_i6), (24, .slice A1 x1.Refs.length c1)]) (by kernel_rfl) (by kernel_rfl) (fun w hh => ⟨(hh.box 1 rfl rfl), ⟨ha1, (at?_some hx1).1, (at?_some hx1).2.1⟩, (hcc1 _ _ (hh.drop 2) 1 _ rfl)⟩) ?_
      obtain ⟨y2, hy2, heq⟩ := bind_some heq
      refine RgH.does (DoesH.call (d := 25) (g := 68) (args := #[.pointer (some ⟨g1, 0, none⟩), .slice A1 x1.Refs.length c1]) (by kernel_rfl) (smithyardref7_missing_c (a0 := a0) (a1 := x1.Refs) (hra0_2.wk (fun _ h => (.tail _ (.tail _ h)))) hca0_2 rfl (hra0_3.wk (fun _ h => (.tail _ (.tail _ h)))) hca0_3 rfl (.inr (.tail _ (.head _))) (Rw.of hr1) hc1 rfl hy2)) ?_
      rintro _ _ _ _ ⟨_, rfl, A2, c2, ch1, rfl, rfl, rfl, ho2⟩
      refine RgH.runk 9 [1, 5, 6, 27] (vs := []) (evs := []) (L' := [(1, .pointer (some ⟨g1, 0, none⟩)), (5, .slice Av_out5 v_out5.length cv_out5), (6, .int .i64 v_i6), (27, .bool (decide (0 < (y2.length : Int))))]) (by kernel_rfl) (by kernel_rfl) (fun _ _ => trivial) ?_
      refine RgH.done (by kernel_rfl) ?_
      rcases bool_cases (decide (0 < (y2.length : Int))) with hb3 | hb3
      · replace heq := bif_true hb3 heq
        refine RunH.condT (c := decide (0 < (y2.length : Int))) (by kernel_rfl) hb3 ?_
        refine RunH.reg (by kernel_rfl) ?_
        obtain ⟨x2, hx2, heq⟩ := bind_some heq
        obtain ⟨ha2, cs2, hK2, hcc2⟩ := hra0_3.get hx2
        obtain ⟨A3, c3, rfl, hc2, hr2⟩ := kEntry_open hK2
        refine RgH.runk 7 [1, 6, 28, 34] (vs := [.slice Aa0_3 a0.Entries.length ca0_3, .string x2.Key]) (evs := [.load ⟨g1, 3, none⟩ (.slice Aa0_3 a0.Entries.length ca0_3), .need (Aa0_3 = some (adr Aa0_3) ∧ (0 : Int) ≤ v_i6 ∧ v_i6 < ((a0.Entries.length : Nat) : Int)), .load (((adr Aa0_3).add (v_i6.toNat * 3)).add 0) (.string x2.Key)]) (L' := [(1, .pointer (some ⟨g1, 0, none⟩)), (6, .int .i64 v_i6), (28, .slice Av_out5 v_out5.length cv_out5), (34, .string x2.Key)]) (by kernel_rfl) (by kernel_rfl) (fun w hh => ⟨(hh.box 2 rfl rfl), ⟨ha2, (at?_some hx2).1, (at?_some hx2).2.1⟩, (hcc2 _ _ (hh.drop 3) 0 _ rfl)⟩) ?_
        refine RgH.does (DoesH.new (d := 35) (v := fun g => .slice (some ⟨g, 0, none⟩) 1 1) (o := fun g => .cells #[.string x2.Key] 9 (0, 0)) (fun g => by kernel_rfl)) ?_
        rintro _ _ _ _ ⟨g2, rfl, rfl, rfl⟩
        have ho3 : SlOwn Kd.string 9 H (some ⟨g2, 0, none⟩) 1 ([x2.Key] : List ByteArray) (some (g2, .cells #[.string x2.Key] 9 (0, 0))) := SlOwn.lit (xs := ([x2.Key] : List ByteArray)) (by kernel_rfl) (Nat.le_of_ble_eq_true (by kernel_rfl)) (Kd.Rep.scalars rfl)
        obtain ⟨hn1, heq⟩ := guard?_some heq
        refine RgH.does (DoesH.append (d := 36) (k := 2) (t := 34) (e := 9) (bytes := 16) (kd := Kd.string) (n := v_out5.length) (m := 1) (xs := v_out5) (ys := ([x2.Key] : List ByteArray)) (A := Av_out5) (B := (some ⟨g2, 0, none⟩)) (c := cv_out5) (cB := 1) (by kernel_rfl) rfl rfl (by kernel_rfl) rfl hov_out5 (fun w hh => ho3.rdb (hh.chin 0 rfl)) (room_le hn1) (by have := room_le hn1; omega)) ?_
        rintro _ _ _ _ ⟨A4, c4, ch2, rfl, rfl, rfl, ho4⟩
        refine RgH.runk 10 [1, 5, 6] (vs := []) (evs := []) (L' := [(1, .pointer (some ⟨g1, 0, none⟩)), (5, .slice A4 ((v_out5 ++ ([x2.Key] : List ByteArray)).length) c4), (6, .int .i64 v_i6)]) (by kernel_rfl) (by kernel_rfl) (fun _ _ => trivial) ?_
        refine RgH.done (by kernel_rfl) ?_
        refine RunH.adm 1 (es' := [.c [1, 1, 1, 0, 1, 0, 0, 1, 1], .l [1, 1, 1, 0, 1, 0, 0], .b 0, .c [1, 1, 1, 1]]) (by kernel_rfl) ?_
        refine RunH.keep [1, 5, 6] (L' := [(1, .pointer (some ⟨g1, 0, none⟩)), (5, .slice A4 ((v_out5 ++ ([x2.Key] : List ByteArray)).length) c4), (6, .int .i64 v_i6)]) (by kernel_rfl) ?_
        refine RunH.pick 4 [2, 3] (cs' := ch2 :: (some (g1, .cells #[.int .i64 a0.Room, .int .i64 a0.Lease, .slice Aa0_2 a0.Blobs.length ca0_2, .slice Aa0_3 a0.Entries.length ca0_3] 25 (0, 0))) :: F) (by kernel_rfl) rfl ?_
        exact (smithyardref7_Broken.j3_c (backl2 := (smithyardref7_Broken.l2 e1 k)) ihk) a0 _ _ _ _ _ v_i6 (v_out5 ++ ([x2.Key] : List ByteArray)) _ _ _ _ hra0_2 hca0_2 hra0_3 hca0_3 ho4 rfl heq
      · replace heq := bif_false hb3 heq
        refine RunH.condF (c := decide (0 < (y2.length : Int))) (by kernel_rfl) hb3 ?_
        refine RunH.adm 2 (es' := [.c [1, 1, 1, 0, 1, 0, 0, 1, 1], .l [1, 1, 1, 0, 1, 0, 0], .b 0, .c [1, 1, 1, 1]]) (by kernel_rfl) ?_
        refine RunH.keep [1, 5, 6] (L' := [(1, .pointer (some ⟨g1, 0, none⟩)), (5, .slice Av_out5 v_out5.length cv_out5), (6, .int .i64 v_i6)]) (by kernel_rfl) ?_
        refine RunH.pick 3 [1, 2] (cs' := chv_out5 :: (some (g1, .cells #[.int .i64 a0.Room, .int .i64 a0.Lease, .slice Aa0_2 a0.Blobs.length ca0_2, .slice Aa0_3 a0.Entries.length ca0_3] 25 (0, 0))) :: F) (by kernel_rfl) rfl ?_
        exact (smithyardref7_Broken.j3_c (backl2 := (smithyardref7_Broken.l2 e1 k)) ihk) a0 _ _ _ _ _ v_i6 v_out5 _ _ _ _ hra0_2 hca0_2 hra0_3 hca0_3 hov_out5 rfl heq
    · replace heq := bif_false hb2 heq
      refine RunH.condF (c := decide (v_i6 < (a0.Entries.length : Int))) (by kernel_rfl) hb2 ?_
      refine RunH.adm 2 (es' := [.c [1, 1, 1, 1, 0], .c [1, 1, 1, 1, 1]]) (by kernel_rfl) ?_
      refine RunH.keep [5] (L' := [(5, .slice Av_out5 v_out5.length cv_out5)]) (by kernel_rfl) ?_
      refine RunH.pick 2 [0] (cs' := chv_out5 :: F) (by kernel_rfl) rfl ?_
      exact he1 v_out5 _ _ _ _ hov_out5 rfl heq
theorem smithyardref7_Broken_c {w0 : World} {H : Hp} {F : List Ch} {a0 : Cache} {Aa0_2 : Option Addr} {na0_2 : Nat} {ca0_2 : Nat} {Aa0_3 : Option Addr} {na0_3 : Nat} {ca0_3 : Nat} {r : (List ByteArray) × Int} (hra0_2 : Rw kBlob H F Aa0_2 a0.Blobs) (hca0_2 : na0_2 ≤ ca0_2) (hna0_2 : na0_2 = a0.Blobs.length) (hra0_3 : Rw kEntry H F Aa0_3 a0.Entries) (hca0_3 : na0_3 ≤ ca0_3) (hna0_3 : na0_3 = a0.Entries.length) (heq : smithyardref7_Broken.f a0 = some r) : CallsH Tryd.prog 27 #[.agg #[.int .i64 a0.Room, .int .i64 a0.Lease, .slice Aa0_2 na0_2 ca0_2, .slice Aa0_3 na0_3 ca0_3]] H w0 (F) (S27 F H r) := by
  refine calls_of_runH (F := C27) Tryd.func27 (by kernel_rfl) Tryd.ntmps27 (args := [.agg #[.int .i64 a0.Room, .int .i64 a0.Lease, .slice Aa0_2 na0_2 ca0_2, .slice Aa0_3 na0_3 ca0_3]]) (by kernel_rfl) ?_
  subst hna0_2
  subst hna0_3
  unfold smithyardref7_Broken.f at heq
  refine RunH.adm 1 (es' := [.c [0], .c [1]]) (by kernel_rfl) ?_
  refine RunH.reg (by kernel_rfl) ?_
  refine RgH.does (DoesH.new (d := 1) (v := fun g => .pointer (some ⟨g, 0, none⟩)) (o := fun g => .cells #[.int .i64 a0.Room, .int .i64 a0.Lease, .slice Aa0_2 a0.Blobs.length ca0_2, .slice Aa0_3 a0.Entries.length ca0_3] 25 (0, 0)) (fun g => by kernel_rfl)) ?_
  rintro _ _ _ _ ⟨g1, rfl, rfl, rfl⟩
  refine RgH.runk 3 [1] (vs := []) (evs := []) (L' := [(1, .pointer (some ⟨g1, 0, none⟩))]) (by kernel_rfl) (by kernel_rfl) (fun _ _ => trivial) ?_
  refine RgH.done (by kernel_rfl) ?_
  refine RunH.adm 2 (es' := [.c [1, 0, 0], .c [1, 0, 1], .c [1, 1]]) (by kernel_rfl) ?_
  refine RunH.reg (by kernel_rfl) ?_
  refine RgH.runk 1 [1, 7] (vs := [.int .i64 a0.Room, .int .i64 a0.Lease, .slice Aa0_2 a0.Blobs.length ca0_2, .slice Aa0_3 a0.Entries.length ca0_3]) (evs := [.load ⟨g1, 0, none⟩ (.int .i64 a0.Room), .load ⟨g1, 1, none⟩ (.int .i64 a0.Lease), .load ⟨g1, 2, none⟩ (.slice Aa0_2 a0.Blobs.length ca0_2), .load ⟨g1, 3, none⟩ (.slice Aa0_3 a0.Entries.length ca0_3)]) (L' := [(1, .pointer (some ⟨g1, 0, none⟩)), (7, .agg #[.int .i64 a0.Room, .int .i64 a0.Lease, .slice Aa0_2 a0.Blobs.length ca0_2, .slice Aa0_3 a0.Entries.length ca0_3])]) (by kernel_rfl) (by kernel_rfl) (fun w hh => ⟨(hh.box 0 rfl rfl), (hh.box 0 rfl rfl), (hh.box 0 rfl rfl), (hh.box 0 rfl rfl)⟩) ?_
  obtain ⟨y1, hy1, heq⟩ := bind_some heq
  refine RgH.does (DoesH.call (d := 8) (g := 23) (args := #[.agg #[.int .i64 a0.Room, .int .i64 a0.Lease, .slice Aa0_2 a0.Blobs.length ca0_2, .slice Aa0_3 a0.Entries.length ca0_3]]) (by kernel_rfl) (smithyardref7_CheckCache_c (a0 := a0) (hra0_2.wk (fun _ h => (.tail _ h))) hca0_2 rfl (hra0_3.wk (fun _ h => (.tail _ h))) hca0_3 rfl hy1)) ?_
  rintro _ _ _ _ ⟨_, rfl, rfl, rfl, rfl⟩
  refine RgH.runk 3 [1, 4] (vs := []) (evs := []) (L' := [(1, .pointer (some ⟨g1, 0, none⟩)), (4, .int .i64 y1)]) (by kernel_rfl) (by kernel_rfl) (fun _ _ => trivial) ?_
  refine RgH.done (by kernel_rfl) ?_
  refine RunH.adm 1 (es' := [.c [1, 0, 1, 0], .c [1, 0, 1, 1], .c [1, 1]]) (by kernel_rfl) ?_
  refine RunH.reg (by kernel_rfl) ?_
  refine RgH.runk 2 [1, 4, 10] (vs := []) (evs := []) (L' := [(1, .pointer (some ⟨g1, 0, none⟩)), (4, .int .i64 y1), (10, .bool (y1 != 0))]) (by kernel_rfl) (by kernel_rfl) (fun _ _ => trivial) ?_
  refine RgH.done (by kernel_rfl) ?_
  rcases bool_cases (y1 != 0) with hb1 | hb1
  · replace heq := bif_true hb1 heq
    refine RunH.condT (c := y1 != 0) (by kernel_rfl) hb1 ?_
    refine RunH.adm 1 (es' := [.c [1, 0, 1, 1, 0, 0], .c [1, 0, 1, 1, 0, 1], .c [1, 1]]) (by kernel_rfl) ?_
    refine RunH.reg (by kernel_rfl) ?_
    refine RgH.runk 3 [2, 3] (vs := []) (evs := []) (L' := [(2, .slice none 0 0), (3, .int .i64 y1)]) (by kernel_rfl) (by kernel_rfl) (fun _ _ => trivial) ?_
    refine RgH.done (by kernel_rfl) ?_
    refine RunH.nilc ?_
    have ho1 : SlOwn Kd.string 9 H none 0 ([] : List ByteArray) none := SlOwn.nil
    obtain rfl := Option.some.inj heq
    refine RunH.pick 2 [0] (cs' := none :: F) (by kernel_rfl) rfl ?_
    exact RunH.done (by kernel_rfl) Tryd.func27 (v := .tuple #[.slice none 0 0, .int .i64 y1]) (by kernel_rfl) ⟨none, 0, none, rfl, rfl, rfl, ho1⟩
  · replace heq := bif_false hb1 heq
    refine RunH.condF (c := y1 != 0) (by kernel_rfl) hb1 ?_
    refine RunH.adm 2 (es' := [.c [1, 1, 0], .c [1, 1, 1]]) (by kernel_rfl) ?_
    refine RunH.reg (by kernel_rfl) ?_
    refine RgH.runk 1 [1, 5] (vs := []) (evs := []) (L' := [(1, .pointer (some ⟨g1, 0, none⟩)), (5, .slice none 0 0)]) (by kernel_rfl) (by kernel_rfl) (fun _ _ => trivial) ?_
    refine RgH.done (by kernel_rfl) ?_
    refine RunH.adm 2 (es' := [.c [1, 1, 1, 0, 0], .c [1, 1, 1, 0, 1], .c [1, 1, 1, 1]]) (by kernel_rfl) ?_
    refine RunH.reg (by kernel_rfl) ?_
    refine RgH.runk 1 [1, 5, 6] (vs := []) (evs := []) (L' := [(1, .pointer (some ⟨g1, 0, none⟩)), (5, .slice none 0 0), (6, .int .i64 0)]) (by kernel_rfl) (by kernel_rfl) (fun _ _ => trivial) ?_
    refine RgH.done (by kernel_rfl) ?_
    refine RunH.adm 2 (es' := [.c [1, 1, 1, 0, 1, 0, 0], .l [1, 1, 1, 0, 1, 0, 0], .b 0, .c [1, 1, 1, 1]]) (by kernel_rfl) ?_
    refine RunH.nilc ?_
    have ho5 : SlOwn Kd.string 9 H none 0 ([] : List ByteArray) none := SlOwn.nil
    refine RunH.keep [1, 5, 6] (L' := [(1, .pointer (some ⟨g1, 0, none⟩)), (5, .slice none 0 0), (6, .int .i64 0)]) (by kernel_rfl) ?_
    exact ((smithyardref7_Broken.l2_c (e1 := smithyardref7_Broken.e1) (smithyardref7_Broken.e1_c)) big) a0 _ _ _ _ _ ([] : List ByteArray) _ _ _ _ 0 hra0_2 hca0_2 hra0_3 hca0_3 ho5 rfl heq
noncomputable def C28 : Ctx := { P := Tryd.prog, f := 28, N := 26, c := bodyOf Tryd.f28 }
def S28 (F : List Ch) (H0 : Hp) (r : Bool) (v : Value) (H : Hp) (cs : List Ch) : Prop := H0 = H ∧ v = .bool r ∧ F = cs
theorem slices_Equal_string.e1_c {w0 : World} {H : Hp} {F : List Ch} {r : Bool} : slices_Equal_string.e1 = some r → RunH C28 (S28 F H r) H w0 [.c [1, 1, 1, 0], .c [1, 1, 1, 1]] [] H (F) := by
  intro   heq
  unfold slices_Equal_string.e1 at heq
  refine RunH.reg (by kernel_rfl) ?_
  refine RgH.runk 1 [4] (vs := []) (evs := []) (L' := [(4, .bool true)]) (by kernel_rfl) (by kernel_rfl) (fun _ _ => trivial) ?_
  refine RgH.done (by kernel_rfl) ?_
  obtain rfl := Option.some.inj heq
  exact RunH.done (by kernel_rfl) Tryd.func28 (v := .bool true) (by kernel_rfl) ⟨rfl, rfl, rfl⟩
theorem slices_Equal_string.l2_c {w0 : World} {H : Hp} {F : List Ch} {r : Bool} (e1 : Option Bool)
    (he1 : e1 = some r → RunH C28 (S28 F H r) H w0 [.c [1, 1, 1, 0], .c [1, 1, 1, 1]] [] H (F)) : ∀ (k : Nat), ∀ (a0 : List ByteArray) (Aa0 : Option Addr) (ca0 : Nat) (a1 : List ByteArray) (Aa1 : Option Addr) (ca1 : Nat) (v13 : Int) , Rw Kd.string H F Aa0 a0 → a0.length ≤ ca0 → Rw Kd.string H F Aa1 a1 → a1.length ≤ ca1 → slices_Equal_string.l2 e1 k a0 a1 v13 = some r → RunH C28 (S28 F H r) H w0 [.c [1, 1, 0, 1, 0, 0], .l [1, 1, 0, 1, 0, 0], .b 0, .c [1, 1, 1]] [(0, .slice Aa0 a0.length ca0), (1, .slice Aa1 a1.length ca1), (12, .int .i64 (a0.length : Int)), (13, .int .i64 v13)] H (F) := by
  intro k
  induction k with
  | zero => intro a0 Aa0 ca0 a1 Aa1 ca1 v13 hra0 hca0 hra1 hca1 heq; exact nomatch (show (none : Option Bool) = some r from heq)
  | succ k ihk =>
    intro a0 Aa0 ca0 a1 Aa1 ca1 v13 hra0 hca0 hra1 hca1 heq
    rw [slices_Equal_string.l2] at heq
    refine RunH.adm 1 (es' := [.c [1, 1, 0, 1, 0, 0, 0], .c [1, 1, 0, 1, 0, 0, 1], .l [1, 1, 0, 1, 0, 0], .b 0, .c [1, 1, 1]]) (by kernel_rfl) ?_
    refine RunH.reg (by kernel_rfl) ?_
    refine RgH.runk 1 [0, 1, 12, 13, 14] (vs := []) (evs := []) (L' := [(0, .slice Aa0 a0.length ca0), (1, .slice Aa1 a1.length ca1), (12, .int .i64 (a0.length : Int)), (13, .int .i64 v13), (14, .bool (decide (v13 < (a0.length : Int))))]) (by kernel_rfl) (by kernel_rfl) (fun _ _ => trivial) ?_
    refine RgH.done (by kernel_rfl) ?_
    refine RunH.adm 1 (es' := [.c [1, 1, 0, 1, 0, 0, 1, 0], .c [1, 1, 0, 1, 0, 0, 1, 1], .l [1, 1, 0, 1, 0, 0], .b 0, .c [1, 1, 1]]) (by kernel_rfl) ?_
    rcases bool_cases (decide (v13 < (a0.length : Int))) with hb2 | hb2
    · replace heq := bif_true hb2 heq
      refine RunH.condT (c := decide (v13 < (a0.length : Int))) (by kernel_rfl) hb2 ?_
      refine RunH.adm 4 (es' := [.c [1, 1, 0, 1, 0, 0, 1, 1, 0, 0, 0], .c [1, 1, 0, 1, 0, 0, 1, 1, 0, 0, 1], .b 1, .c [1, 1, 0, 1, 0, 0, 1, 1, 1], .l [1, 1, 0, 1, 0, 0], .b 0, .c [1, 1, 1]]) (by kernel_rfl) ?_
      refine RunH.reg (by kernel_rfl) ?_
      refine RgH.runk 2 [0, 1, 5, 12, 13] (vs := []) (evs := []) (L' := [(0, .slice Aa0 a0.length ca0), (1, .slice Aa1 a1.length ca1), (5, .int .i64 v13), (12, .int .i64 (a0.length : Int)), (13, .int .i64 v13)]) (by kernel_rfl) (by kernel_rfl) (fun _ _ => trivial) ?_
      refine RgH.done (by kernel_rfl) ?_
      refine RunH.adm 1 (es' := [.c [1, 1, 0, 1, 0, 0, 1, 1, 0, 0, 1, 0], .c [1, 1, 0, 1, 0, 0, 1, 1, 0, 0, 1, 1], .b 1, .c [1, 1, 0, 1, 0, 0, 1, 1, 1], .l [1, 1, 0, 1, 0, 0], .b 0, .c [1, 1, 1]]) (by kernel_rfl) ?_
      refine RunH.keep [0, 1, 5, 12, 13] (L' := [(0, .slice Aa0 a0.length ca0), (1, .slice Aa1 a1.length ca1), (5, .int .i64 v13), (12, .int .i64 (a0.length : Int)), (13, .int .i64 v13)]) (by kernel_rfl) ?_
      refine RunH.draw (fun w => Heap H w0 w (F)) (fun w => Heap H w0 w (F)) [false, false, false, false, false, false, false, false, false] (n := 9) (ls := [false, false, false, false, false, false, false, false, false]) (by kernel_rfl) (by kernel_rfl) (by kernel_rfl) rfl ?_
      obtain ⟨x1, hx1, heq⟩ := bind_some heq
      obtain ⟨ha1, cs1, hK1, hcc1⟩ := hra0.get hx1
      obtain rfl : cs1 = [.string x1] := hK1
      obtain ⟨x2, hx2, heq⟩ := bind_some heq
      obtain ⟨ha2, cs2, hK2, hcc2⟩ := hra1.get hx2
      obtain rfl : cs2 = [.string x2] := hK2
      refine DrH.run [0, 1, 2, 3, 4, 5, 6, 7, 8] (m := 0) (ls' := [true, true, true, true, true, true, true, true, true]) (vs := [.string x1, .string x2]) (evs := [.need (Aa0 = some (adr Aa0) ∧ (0 : Int) ≤ v13 ∧ v13 < ((a0.length : Nat) : Int)), .load ((adr Aa0).add (v13.toNat * 1)) (.string x1), .need (Aa1 = some (adr Aa1) ∧ (0 : Int) ≤ v13 ∧ v13 < ((a1.length : Nat) : Int)), .load ((adr Aa1).add (v13.toNat * 1)) (.string x2)]) (L' := [(24, .bool (!sEq x1 x2)), (23, .string x2), (22, .pointer (some ((adr Aa1).add (v13.toNat * 1)))), (21, .int .i64 v13), (20, .slice Aa1 a1.length ca1), (19, .string x1), (18, .pointer (some ((adr Aa0).add (v13.toNat * 1)))), (17, .int .i64 v13), (16, .slice Aa0 a0.length ca0), (0, .slice Aa0 a0.length ca0), (1, .slice Aa1 a1.length ca1), (5, .int .i64 v13), (12, .int .i64 (a0.length : Int)), (13, .int .i64 v13)]) (by kernel_rfl) (fun w hh => hh.pick 0 [] (by kernel_rfl)) (fun w hh => hh.pick 0 [] (by kernel_rfl)) (by kernel_rfl) (fun w hh => ⟨⟨ha1, (at?_some hx1).1, (at?_some hx1).2.1⟩, (hcc1 _ _ (hh.drop 0) 0 _ rfl), ⟨ha2, (at?_some hx2).1, (at?_some hx2).2.1⟩, (hcc2 _ _ (hh.drop 0) 0 _ rfl)⟩) (by kernel_rfl) ?_
      refine DrH.keep [0, 1, 12, 13, 24] (L' := [(0, .slice Aa0 a0.length ca0), (1, .slice Aa1 a1.length ca1), (12, .int .i64 (a0.length : Int)), (13, .int .i64 v13), (24, .bool (!sEq x1 x2))]) (by kernel_rfl) ?_
      refine DrH.done (by kernel_rfl) ?_
      rcases bool_cases (!sEq x1 x2) with hb3 | hb3
      · replace heq := bif_true hb3 heq
        refine RunH.condT (c := !sEq x1 x2) (by kernel_rfl) hb3 ?_
        refine RunH.adm 1 (es' := [.c [1, 1, 0, 1, 0, 0, 1, 1, 0, 0, 1, 1, 0, 0], .c [1, 1, 0, 1, 0, 0, 1, 1, 0, 0, 1, 1, 0, 1], .b 1, .c [1, 1, 0, 1, 0, 0, 1, 1, 1], .l [1, 1, 0, 1, 0, 0], .b 0, .c [1, 1, 1]]) (by kernel_rfl) ?_
        refine RunH.reg (by kernel_rfl) ?_
        refine RgH.runk 1 [4] (vs := []) (evs := []) (L' := [(4, .bool false)]) (by kernel_rfl) (by kernel_rfl) (fun _ _ => trivial) ?_
        refine RgH.done (by kernel_rfl) ?_
        obtain rfl := Option.some.inj heq
        exact RunH.done (by kernel_rfl) Tryd.func28 (v := .bool false) (by kernel_rfl) ⟨rfl, rfl, rfl⟩
      · replace heq := bif_false hb3 heq
        refine RunH.condF (c := !sEq x1 x2) (by kernel_rfl) hb3 ?_
        refine RunH.adm 2 (es' := [.c [1, 1, 0, 1, 0, 0, 1, 1, 1], .l [1, 1, 0, 1, 0, 0], .b 0, .c [1, 1, 1]]) (by kernel_rfl) ?_
        refine RunH.reg (by kernel_rfl) ?_
        refine RgH.runk 2 [0, 1, 12, 13] (vs := []) (evs := []) (L' := [(0, .slice Aa0 a0.length ca0), (1, .slice Aa1 a1.length ca1), (12, .int .i64 (a0.length : Int)), (13, .int .i64 (w64 (v13 + 1)))]) (by kernel_rfl) (by kernel_rfl) (fun _ _ => trivial) ?_
        refine RgH.done (by kernel_rfl) ?_
        refine RunH.adm 1 (es' := [.c [1, 1, 0, 1, 0, 0], .l [1, 1, 0, 1, 0, 0], .b 0, .c [1, 1, 1]]) (by kernel_rfl) ?_
        refine RunH.keep [0, 1, 12, 13] (L' := [(0, .slice Aa0 a0.length ca0), (1, .slice Aa1 a1.length ca1), (12, .int .i64 (a0.length : Int)), (13, .int .i64 (w64 (v13 + 1)))]) (by kernel_rfl) ?_
        exact ihk a0 _ _ a1 _ _ (w64 (v13 + 1)) hra0 hca0 hra1 hca1 heq
    · replace heq := bif_false hb2 heq
      refine RunH.condF (c := decide (v13 < (a0.length : Int))) (by kernel_rfl) hb2 ?_
      refine RunH.adm 2 (es' := [.c [1, 1, 1, 0], .c [1, 1, 1, 1]]) (by kernel_rfl) ?_
      refine RunH.keep [] (L' := []) (by kernel_rfl) ?_
      exact he1 heq
theorem slices_Equal_string_c {w0 : World} {H : Hp} {F : List Ch} {a0 : List ByteArray} {Aa0 : Option Addr} {na0 : Nat} {ca0 : Nat} {a1 : List ByteArray} {Aa1 : Option Addr} {na1 : Nat} {ca1 : Nat} {r : Bool} (hra0 : Rw Kd.string H F Aa0 a0) (hca0 : na0 ≤ ca0) (hna0 : na0 = a0.length) (hra1 : Rw Kd.string H F Aa1 a1) (hca1 : na1 ≤ ca1) (hna1 : na1 = a1.length) (heq : slices_Equal_string.f a0 a1 = some r) : CallsH Tryd.prog 28 #[.slice Aa0 na0 ca0, .slice Aa1 na1 ca1] H w0 (F) (S28 F H r) := by
  refine calls_of_runH (F := C28) Tryd.func28 (by kernel_rfl) Tryd.ntmps28 (args := [.slice Aa0 na0 ca0, .slice Aa1 na1 ca1]) (by kernel_rfl) ?_
  subst hna0
  subst hna1
  unfold slices_Equal_string.f at heq
  refine RunH.adm 1 (es' := [.c [0], .c [1]]) (by kernel_rfl) ?_
  refine RunH.reg (by kernel_rfl) ?_
  refine RgH.runk 1 [0, 1] (vs := []) (evs := []) (L' := [(0, .slice Aa0 a0.length ca0), (1, .slice Aa1 a1.length ca1)]) (by kernel_rfl) (by kernel_rfl) (fun _ _ => trivial) ?_
  refine RgH.done (by kernel_rfl) ?_
  refine RunH.adm 2 (es' := [.c [1, 0, 0], .c [1, 0, 1], .c [1, 1]]) (by kernel_rfl) ?_
  refine RunH.reg (by kernel_rfl) ?_
  refine RgH.runk 5 [0, 1, 10] (vs := []) (evs := []) (L' := [(0, .slice Aa0 a0.length ca0), (1, .slice Aa1 a1.length ca1), (10, .bool ((a0.length : Int) != (a1.length : Int)))]) (by kernel_rfl) (by kernel_rfl) (fun _ _ => trivial) ?_
  refine RgH.done (by kernel_rfl) ?_
  rcases bool_cases ((a0.length : Int) != (a1.length : Int)) with hb1 | hb1
  · replace heq := bif_true hb1 heq
    refine RunH.condT (c := (a0.length : Int) != (a1.length : Int)) (by kernel_rfl) hb1 ?_
    refine RunH.adm 1 (es' := [.c [1, 0, 1, 0, 0], .c [1, 0, 1, 0, 1], .c [1, 1]]) (by kernel_rfl) ?_
    refine RunH.reg (by kernel_rfl) ?_
    refine RgH.runk 1 [4] (vs := []) (evs := []) (L' := [(4, .bool false)]) (by kernel_rfl) (by kernel_rfl) (fun _ _ => trivial) ?_
    refine RgH.done (by kernel_rfl) ?_
    obtain rfl := Option.some.inj heq
    exact RunH.done (by kernel_rfl) Tryd.func28 (v := .bool false) (by kernel_rfl) ⟨rfl, rfl, rfl⟩
  · replace heq := bif_false hb1 heq
    refine RunH.condF (c := (a0.length : Int) != (a1.length : Int)) (by kernel_rfl) hb1 ?_
    refine RunH.adm 3 (es' := [.c [1, 1, 0, 0], .c [1, 1, 0, 1], .c [1, 1, 1]]) (by kernel_rfl) ?_
    refine RunH.reg (by kernel_rfl) ?_
    refine RgH.runk 3 [0, 1, 12, 13] (vs := []) (evs := []) (L' := [(0, .slice Aa0 a0.length ca0), (1, .slice Aa1 a1.length ca1), (12, .int .i64 (a0.length : Int)), (13, .int .i64 0)]) (by kernel_rfl) (by kernel_rfl) (fun _ _ => trivial) ?_
    refine RgH.done (by kernel_rfl) ?_
    refine RunH.adm 2 (es' := [.c [1, 1, 0, 1, 0, 0], .l [1, 1, 0, 1, 0, 0], .b 0, .c [1, 1, 1]]) (by kernel_rfl) ?_
    refine RunH.keep [0, 1, 12, 13] (L' := [(0, .slice Aa0 a0.length ca0), (1, .slice Aa1 a1.length ca1), (12, .int .i64 (a0.length : Int)), (13, .int .i64 0)]) (by kernel_rfl) ?_
    exact ((slices_Equal_string.l2_c (e1 := slices_Equal_string.e1) (slices_Equal_string.e1_c)) big) a0 _ _ a1 _ _ 0 hra0 hca0 hra1 hca1 heq
noncomputable def C29 : Ctx := { P := Tryd.prog, f := 29, N := 19, c := bodyOf Tryd.f29 }
def S29 (F : List Ch) (H0 : Hp) (r : Bool) (v : Value) (H : Hp) (cs : List Ch) : Prop := H0 = H ∧ v = .bool r ∧ F = cs
theorem smithyardlaw7_awake_c {w0 : World} {H : Hp} {F : List Ch} {r : Bool} (heq : smithyardlaw7_awake.f = some r) : CallsH Tryd.prog 29 (List.toArray []) H w0 (F) (S29 F H r) := by
  refine calls_of_runH (F := C29) Tryd.func29 (by kernel_rfl) Tryd.ntmps29 (args := []) (by kernel_rfl) ?_
  unfold smithyardlaw7_awake.f at heq
  refine RunH.adm 1 (es' := [.c [0], .c [1]]) (by kernel_rfl) ?_
  refine RunH.reg (by kernel_rfl) ?_
  refine RgH.runk 1 [] (vs := []) (evs := []) (L' := []) (by kernel_rfl) (by kernel_rfl) (fun _ _ => trivial) ?_
  refine RgH.done (by kernel_rfl) ?_
  refine RunH.adm 1 (es' := [.c [1, 0], .c [1, 1]]) (by kernel_rfl) ?_
  refine RunH.reg (by kernel_rfl) ?_
  obtain ⟨y1, hy1, heq⟩ := bind_some heq
  refine RgH.does (DoesH.call (d := 4) (g := 19) (args := #[.int .i64 5, .int .i64 7]) (by kernel_rfl) (cache_New_c (a0 := 5) (a1 := 7)  hy1)) ?_
  rintro _ _ _ _ ⟨_, rfl, A1, c1, ch1, A2, c2, ch2, rfl, rfl, rfl, ho1, ho2⟩
  refine RgH.runk 4 [5, 6] (vs := []) (evs := []) (L' := [(5, .agg #[.int .i64 y1.1.Room, .int .i64 y1.1.Lease, .slice A1 y1.1.Blobs.length c1, .slice A2 y1.1.Entries.length c2]), (6, .int .i64 y1.2)]) (by kernel_rfl) (by kernel_rfl) (fun _ _ => trivial) ?_
  refine RgH.does (DoesH.new (d := 1) (v := fun g => .pointer (some ⟨g, 0, none⟩)) (o := fun g => .cells #[.int .i64 0, .int .i64 0, .slice none 0 0, .slice none 0 0] 25 (0, 0)) (fun g => by kernel_rfl)) ?_
  rintro _ _ _ _ ⟨g1, rfl, rfl, rfl⟩
  refine RgH.does (DoesH.store (k := 0) (g := g1) (off := 0) (v := .agg #[.int .i64 y1.1.Room, .int .i64 y1.1.Lease, .slice A1 y1.1.Blobs.length c1, .slice A2 y1.1.Entries.length c2]) (cells' := #[.int .i64 y1.1.Room, .int .i64 y1.1.Lease, .slice A1 y1.1.Blobs.length c1, .slice A2 y1.1.Entries.length c2]) (by kernel_rfl) rfl (by kernel_rfl) (by kernel_rfl)) ?_
  rintro _ _ _ _ ⟨rfl, rfl, rfl⟩
  refine RgH.runk 7 [1, 2] (vs := []) (evs := []) (L' := [(1, .pointer (some ⟨g1, 0, none⟩)), (2, .int .i64 y1.2)]) (by kernel_rfl) (by kernel_rfl) (fun _ _ => trivial) ?_
  refine RgH.done (by kernel_rfl) ?_
  refine RunH.adm 1 (es' := [.c [1, 1, 0], .c [1, 1, 1]]) (by kernel_rfl) ?_
  obtain ⟨t1, ht1, heq⟩ := bind_some heq
  have K4 : RunH C29 (S29 F H r) H w0 [.c [1, 1, 1]] [(0, .bool t1)] H (F) := by
    obtain rfl := Option.some.inj heq
    exact RunH.done (by kernel_rfl) Tryd.func29 (v := .bool t1) (by kernel_rfl) ⟨rfl, rfl, rfl⟩
  replace heq := ht1
  refine RunH.reg (by kernel_rfl) ?_
  refine RgH.runk 3 [9, 1] (vs := []) (evs := []) (L' := [(9, .bool (y1.2 == 0)), (1, .pointer (some ⟨g1, 0, none⟩))]) (by kernel_rfl) (by kernel_rfl) (fun _ _ => trivial) ?_
  rcases bool_cases (y1.2 == 0) with hb1 | hb1
  · replace heq := bif_true hb1 heq
    refine RgH.val1 (v' := .bool true) (congrArg Value.bool hb1) ?_
    refine RgH.runk 8 [14, 1] (vs := [.int .i64 y1.1.Room]) (evs := [.load ⟨g1, 0, none⟩ (.int .i64 y1.1.Room)]) (L' := [(14, .bool (y1.1.Room == 5)), (1, .pointer (some ⟨g1, 0, none⟩))]) (by kernel_rfl) (by kernel_rfl) (fun w hh => (hh.box 0 rfl rfl)) ?_
    rcases bool_cases (y1.1.Room == 5) with hb2 | hb2
    · replace heq := bif_true hb2 heq
      refine RgH.val1 (v' := .bool true) (congrArg Value.bool hb2) ?_
      refine RgH.runk 13 [0] (vs := [.int .i64 y1.1.Lease]) (evs := [.load ⟨g1, 1, none⟩ (.int .i64 y1.1.Lease)]) (L' := [(0, .bool (y1.1.Lease == 7))]) (by kernel_rfl) (by kernel_rfl) (fun w hh => (hh.box 0 rfl rfl)) ?_
      obtain rfl := Option.some.inj heq
      refine RgH.keep [0] (L' := [(0, .bool (y1.1.Lease == 7))]) (by kernel_rfl) ?_
      refine RgH.pick 3 [] (cs' := F) (by kernel_rfl) rfl ?_
      refine RgH.done (by kernel_rfl) ?_
      exact K4
    · replace heq := bif_false hb2 heq
      refine RgH.val1 (v' := .bool false) (congrArg Value.bool hb2) ?_
      refine RgH.runk 13 [0] (vs := []) (evs := []) (L' := [(0, .bool false)]) (by kernel_rfl) (by kernel_rfl) (fun _ _ => trivial) ?_
      obtain rfl := Option.some.inj heq
      refine RgH.keep [0] (L' := [(0, .bool false)]) (by kernel_rfl) ?_
      refine RgH.pick 3 [] (cs' := F) (by kernel_rfl) rfl ?_
      refine RgH.done (by kernel_rfl) ?_
      exact K4
  · replace heq := bif_false hb1 heq
    refine RgH.val1 (v' := .bool false) (congrArg Value.bool hb1) ?_
    refine RgH.runk 13 [0] (vs := []) (evs := []) (L' := [(0, .bool false)]) (by kernel_rfl) (by kernel_rfl) (fun _ _ => trivial) ?_
    obtain rfl := Option.some.inj heq
    refine RgH.keep [0] (L' := [(0, .bool false)]) (by kernel_rfl) ?_
    refine RgH.pick 3 [] (cs' := F) (by kernel_rfl) rfl ?_
    refine RgH.done (by kernel_rfl) ?_
    exact K4
noncomputable def C3 : Ctx := { P := Tryd.prog, f := 3, N := 94, c := bodyOf Tryd.f3 }
def S3 (F : List Ch) (H0 : Hp) (r : Bool) (v : Value) (H : Hp) (cs : List Ch) : Prop := v = .bool r ∧ F = cs
theorem smithyardlaw7_CacheChecksMatchSpec_c {w0 : World} {H0 : Hp} {F : List Ch} {a0 : Cache} {Aa0_2 : Option Addr} {na0_2 : Nat} {ca0_2 : Nat} {Aa0_3 : Option Addr} {na0_3 : Nat} {ca0_3 : Nat} {r : Bool} (hra0_2 : Rw kBlob H0 F Aa0_2 a0.Blobs) (hca0_2 : na0_2 ≤ ca0_2) (hna0_2 : na0_2 = a0.Blobs.length) (hra0_3 : Rw kEntry H0 F Aa0_3 a0.Entries) (hca0_3 : na0_3 ≤ ca0_3) (hna0_3 : na0_3 = a0.Entries.length) (heq : smithyardlaw7_CacheChecksMatchSpec.f a0 = some r) : CallsH Tryd.prog 3 #[.agg #[.int .i64 a0.Room, .int .i64 a0.Lease, .slice Aa0_2 na0_2 ca0_2, .slice Aa0_3 na0_3 ca0_3]] H0 w0 (F) (S3 F H0 r) := by
  refine calls_of_runH (F := C3) Tryd.func3 (by kernel_rfl) Tryd.ntmps3 (args := [.agg #[.int .i64 a0.Room, .int .i64 a0.Lease, .slice Aa0_2 na0_2 ca0_2, .slice Aa0_3 na0_3 ca0_3]]) (by kernel_rfl) ?_
  subst hna0_2
  subst hna0_3
  unfold smithyardlaw7_CacheChecksMatchSpec.f at heq
  suffices key : ∀ (H : Hp), Rw kBlob H F Aa0_2 a0.Blobs → Rw kEntry H F Aa0_3 a0.Entries → RunH C3 (S3 F H0 r) H0 w0 [.c []] (argL 0 [.agg #[.int .i64 a0.Room, .int .i64 a0.Lease, .slice Aa0_2 (a0.Blobs.length) ca0_2, .slice Aa0_3 (a0.Entries.length) ca0_3]]) H (F) from key H0 hra0_2 hra0_3
  intro H hra0_2 hra0_3
  refine RunH.adm 1 (es' := [.c [0], .c [1]]) (by kernel_rfl) ?_
  refine RunH.reg (by kernel_rfl) ?_
  refine RgH.does (DoesH.new (d := 1) (v := fun g => .pointer (some ⟨g, 0, none⟩)) (o := fun g => .cells #[.int .i64 a0.Room, .int .i64 a0.Lease, .slice Aa0_2 a0.Blobs.length ca0_2, .slice Aa0_3 a0.Entries.length ca0_3] 25 (0, 0)) (fun g => by kernel_rfl)) ?_
  rintro _ _ _ _ ⟨g1, rfl, rfl, rfl⟩
  refine RgH.runk 2 [1] (vs := []) (evs := []) (L' := [(1, .pointer (some ⟨g1, 0, none⟩))]) (by kernel_rfl) (by kernel_rfl) (fun _ _ => trivial) ?_
  refine RgH.done (by kernel_rfl) ?_
  refine RunH.adm 1 (es' := [.c [1, 0], .c [1, 1]]) (by kernel_rfl) ?_
  refine RunH.reg (by kernel_rfl) ?_
  refine RgH.runk 1 [1, 14] (vs := [.int .i64 a0.Room, .int .i64 a0.Lease, .slice Aa0_2 a0.Blobs.length ca0_2, .slice Aa0_3 a0.Entries.length ca0_3]) (evs := [.load ⟨g1, 0, none⟩ (.int .i64 a0.Room), .load ⟨g1, 1, none⟩ (.int .i64 a0.Lease), .load ⟨g1, 2, none⟩ (.slice Aa0_2 a0.Blobs.length ca0_2), .load ⟨g1, 3, none⟩ (.slice Aa0_3 a0.Entries.length ca0_3)]) (L' := [(1, .pointer (some ⟨g1, 0, none⟩)), (14, .agg #[.int .i64 a0.Room, .int .i64 a0.Lease, .slice Aa0_2 a0.Blobs.length ca0_2, .slice Aa0_3 a0.Entries.length ca0_3])]) (by kernel_rfl) (by kernel_rfl) (fun w hh => ⟨(hh.box 0 rfl rfl), (hh.box 0 rfl rfl), (hh.box 0 rfl rfl), (hh.box 0 rfl rfl)⟩) ?_
  obtain ⟨y1, hy1, heq⟩ := bind_some heq
  refine RgH.does (DoesH.call (d := 15) (g := 18) (args := #[.agg #[.int .i64 a0.Room, .int .i64 a0.Lease, .slice Aa0_2 a0.Blobs.length ca0_2, .slice Aa0_3 a0.Entries.length ca0_3]]) (by kernel_rfl) (smithyardref7_Copy_c (a0 := a0) (hra0_2.wk (fun _ h => (.tail _ h))) hca0_2 rfl (hra0_3.wk (fun _ h => (.tail _ h))) hca0_3 rfl hy1)) ?_
  rintro _ H _ hl ⟨_, rfl, A1, c1, ch1, A2, c2, ch2, rfl, rfl, ho1, ho2⟩
  replace hra0_2 := hra0_2.mono hl
  replace hra0_3 := hra0_3.mono hl
  refine RgH.does (DoesH.new (d := 3) (v := fun g => .pointer (some ⟨g, 0, none⟩)) (o := fun g => .cells #[.int .i64 0, .int .i64 0, .slice none 0 0, .slice none 0 0] 25 (0, 0)) (fun g => by kernel_rfl)) ?_
  rintro _ _ _ _ ⟨g2, rfl, rfl, rfl⟩
  refine RgH.does (DoesH.store (k := 0) (g := g2) (off := 0) (v := .agg #[.int .i64 y1.Room, .int .i64 y1.Lease, .slice A1 y1.Blobs.length c1, .slice A2 y1.Entries.length c2]) (cells' := #[.int .i64 y1.Room, .int .i64 y1.Lease, .slice A1 y1.Blobs.length c1, .slice A2 y1.Entries.length c2]) (by kernel_rfl) rfl (by kernel_rfl) (by kernel_rfl)) ?_
  rintro _ _ _ _ ⟨rfl, rfl, rfl⟩
  refine RgH.done (by kernel_rfl) ?_
  refine RunH.adm 1 (es' := [.c [1, 1, 0], .c [1, 1, 1]]) (by kernel_rfl) ?_
  refine RunH.reg (by kernel_rfl) ?_
  refine RgH.runk 4 [1, 3, 18, 20] (vs := [.int .i64 a0.Room, .int .i64 a0.Lease]) (evs := [.load ⟨g1, 0, none⟩ (.int .i64 a0.Room), .load ⟨g1, 1, none⟩ (.int .i64 a0.Lease)]) (L' := [(1, .pointer (some ⟨g1, 0, none⟩)), (3, .pointer (some ⟨g2, 0, none⟩)), (18, .int .i64 a0.Room), (20, .int .i64 a0.Lease)]) (by kernel_rfl) (by kernel_rfl) (fun w hh => ⟨(hh.box 3 rfl rfl), (hh.box 3 rfl rfl)⟩) ?_
  obtain ⟨y2, hy2, heq⟩ := bind_some heq
  refine RgH.does (DoesH.call (d := 21) (g := 19) (args := #[.int .i64 a0.Room, .int .i64 a0.Lease]) (by kernel_rfl) (cache_New_c (a0 := a0.Room) (a1 := a0.Lease)  hy2)) ?_
  rintro _ _ _ _ ⟨_, rfl, A3, c3, ch3, A4, c4, ch4, rfl, rfl, rfl, ho3, ho4⟩
  refine RgH.runk 8 [1, 3, 22, 23] (vs := []) (evs := []) (L' := [(1, .pointer (some ⟨g1, 0, none⟩)), (3, .pointer (some ⟨g2, 0, none⟩)), (22, .agg #[.int .i64 y2.1.Room, .int .i64 y2.1.Lease, .slice A3 y2.1.Blobs.length c3, .slice A4 y2.1.Entries.length c4]), (23, .int .i64 y2.2)]) (by kernel_rfl) (by kernel_rfl) (fun _ _ => trivial) ?_
  refine RgH.does (DoesH.new (d := 4) (v := fun g => .pointer (some ⟨g, 0, none⟩)) (o := fun g => .cells #[.int .i64 0, .int .i64 0, .slice none 0 0, .slice none 0 0] 25 (0, 0)) (fun g => by kernel_rfl)) ?_
  rintro _ _ _ _ ⟨g3, rfl, rfl, rfl⟩
  refine RgH.does (DoesH.store (k := 0) (g := g3) (off := 0) (v := .agg #[.int .i64 y2.1.Room, .int .i64 y2.1.Lease, .slice A3 y2.1.Blobs.length c3, .slice A4 y2.1.Entries.length c4]) (cells' := #[.int .i64 y2.1.Room, .int .i64 y2.1.Lease, .slice A3 y2.1.Blobs.length c3, .slice A4 y2.1.Entries.length c4]) (by kernel_rfl) rfl (by kernel_rfl) (by kernel_rfl)) ?_
  rintro _ _ _ _ ⟨rfl, rfl, rfl⟩
  refine RgH.runk 11 [1, 3, 4, 5] (vs := []) (evs := []) (L' := [(1, .pointer (some ⟨g1, 0, none⟩)), (3, .pointer (some ⟨g2, 0, none⟩)), (4, .pointer (some ⟨g3, 0, none⟩)), (5, .int .i64 y2.2)]) (by kernel_rfl) (by kernel_rfl) (fun _ _ => trivial) ?_
  refine RgH.done (by kernel_rfl) ?_
  refine RunH.adm 1 (es' := [.c [1, 1, 1, 0], .c [1, 1, 1, 1]]) (by kernel_rfl) ?_
  refine RunH.reg (by kernel_rfl) ?_
  refine RgH.runk 4 [1, 3, 4, 5, 26, 28] (vs := [.int .i64 y1.Room, .int .i64 y1.Lease]) (evs := [.load ⟨g2, 0, none⟩ (.int .i64 y1.Room), .load ⟨g2, 1, none⟩ (.int .i64 y1.Lease)]) (L' := [(1, .pointer (some ⟨g1, 0, none⟩)), (3, .pointer (some ⟨g2, 0, none⟩)), (4, .pointer (some ⟨g3, 0, none⟩)), (5, .int .i64 y2.2), (26, .int .i64 y1.Room), (28, .int .i64 y1.Lease)]) (by kernel_rfl) (by kernel_rfl) (fun w hh => ⟨(hh.box 3 rfl rfl), (hh.box 3 rfl rfl)⟩) ?_
  obtain ⟨y3, hy3, heq⟩ := bind_some heq
  refine RgH.does (DoesH.call (d := 29) (g := 20) (args := #[.int .i64 y1.Room, .int .i64 y1.Lease]) (by kernel_rfl) (smithyardref7_New_c (a0 := y1.Room) (a1 := y1.Lease)  hy3)) ?_
  rintro _ _ _ _ ⟨_, rfl, A5, c5, ch5, A6, c6, ch6, rfl, rfl, rfl, ho5, ho6⟩
  refine RgH.runk 8 [1, 3, 4, 5, 30, 31] (vs := []) (evs := []) (L' := [(1, .pointer (some ⟨g1, 0, none⟩)), (3, .pointer (some ⟨g2, 0, none⟩)), (4, .pointer (some ⟨g3, 0, none⟩)), (5, .int .i64 y2.2), (30, .agg #[.int .i64 y3.1.Room, .int .i64 y3.1.Lease, .slice A5 y3.1.Blobs.length c5, .slice A6 y3.1.Entries.length c6]), (31, .int .i64 y3.2)]) (by kernel_rfl) (by kernel_rfl) (fun _ _ => trivial) ?_
  refine RgH.does (DoesH.new (d := 6) (v := fun g => .pointer (some ⟨g, 0, none⟩)) (o := fun g => .cells #[.int .i64 0, .int .i64 0, .slice none 0 0, .slice none 0 0] 25 (0, 0)) (fun g => by kernel_rfl)) ?_
  rintro _ _ _ _ ⟨g4, rfl, rfl, rfl⟩
  refine RgH.does (DoesH.store (k := 0) (g := g4) (off := 0) (v := .agg #[.int .i64 y3.1.Room, .int .i64 y3.1.Lease, .slice A5 y3.1.Blobs.length c5, .slice A6 y3.1.Entries.length c6]) (cells' := #[.int .i64 y3.1.Room, .int .i64 y3.1.Lease, .slice A5 y3.1.Blobs.length c5, .slice A6 y3.1.Entries.length c6]) (by kernel_rfl) rfl (by kernel_rfl) (by kernel_rfl)) ?_
  rintro _ _ _ _ ⟨rfl, rfl, rfl⟩
  refine RgH.runk 11 [1, 3, 4, 5, 6, 7] (vs := []) (evs := []) (L' := [(1, .pointer (some ⟨g1, 0, none⟩)), (3, .pointer (some ⟨g2, 0, none⟩)), (4, .pointer (some ⟨g3, 0, none⟩)), (5, .int .i64 y2.2), (6, .pointer (some ⟨g4, 0, none⟩)), (7, .int .i64 y3.2)]) (by kernel_rfl) (by kernel_rfl) (fun _ _ => trivial) ?_
  refine RgH.done (by kernel_rfl) ?_
  refine RunH.adm 2 (es' := [.c [1, 1, 1, 1, 0, 0], .c [1, 1, 1, 1, 0, 1], .c [1, 1, 1, 1, 1]]) (by kernel_rfl) ?_
  obtain ⟨t1, ht1, heq⟩ := bind_some heq
  have K11 : ∀ (H : Hp), Rw kBlob H F Aa0_2 a0.Blobs → Rw kEntry H F Aa0_3 a0.Entries → SlOwn kBlob 47 H A1 c1 y1.Blobs ch1 → SlOwn kEntry 51 H A2 c2 y1.Entries ch2 → RunH C3 (S3 F H0 r) H0 w0 [.c [1, 1, 1, 1, 0, 1], .c [1, 1, 1, 1, 1]] [(1, .pointer (some ⟨g1, 0, none⟩)), (3, .pointer (some ⟨g2, 0, none⟩)), (47, .bool t1)] H ((some (g2, .cells #[.int .i64 y1.Room, .int .i64 y1.Lease, .slice A1 y1.Blobs.length c1, .slice A2 y1.Entries.length c2] 25 (0, 0))) :: ch1 :: ch2 :: (some (g1, .cells #[.int .i64 a0.Room, .int .i64 a0.Lease, .slice Aa0_2 a0.Blobs.length ca0_2, .slice Aa0_3 a0.Entries.length ca0_3] 25 (0, 0))) :: F) := by
    intro H hra0_2 hra0_3 ho1 ho2
    rcases bool_cases (t1) with hb3 | hb3
    · replace heq := bif_true hb3 heq
      refine RunH.condT (c := t1) (by kernel_rfl) hb3 ?_
      refine RunH.adm 1 (es' := [.c [1, 1, 1, 1, 0, 1, 0, 0], .c [1, 1, 1, 1, 0, 1, 0, 1], .c [1, 1, 1, 1, 1]]) (by kernel_rfl) ?_
      refine RunH.reg (by kernel_rfl) ?_
      refine RgH.runk 1 [2] (vs := []) (evs := []) (L' := [(2, .bool false)]) (by kernel_rfl) (by kernel_rfl) (fun _ _ => trivial) ?_
      refine RgH.done (by kernel_rfl) ?_
      obtain rfl := Option.some.inj heq
      refine RunH.pick 4 [] (cs' := F) (by kernel_rfl) rfl ?_
      exact RunH.done (by kernel_rfl) Tryd.func3 (v := .bool false) (by kernel_rfl) ⟨rfl, rfl⟩
    · replace heq := bif_false hb3 heq
      refine RunH.condF (c := t1) (by kernel_rfl) hb3 ?_
      refine RunH.adm 2 (es' := [.c [1, 1, 1, 1, 1, 0], .c [1, 1, 1, 1, 1, 1]]) (by kernel_rfl) ?_
      refine RunH.reg (by kernel_rfl) ?_
      refine RgH.runk 1 [1, 3, 49] (vs := [.int .i64 a0.Room, .int .i64 a0.Lease, .slice Aa0_2 a0.Blobs.length ca0_2, .slice Aa0_3 a0.Entries.length ca0_3]) (evs := [.load ⟨g1, 0, none⟩ (.int .i64 a0.Room), .load ⟨g1, 1, none⟩ (.int .i64 a0.Lease), .load ⟨g1, 2, none⟩ (.slice Aa0_2 a0.Blobs.length ca0_2), .load ⟨g1, 3, none⟩ (.slice Aa0_3 a0.Entries.length ca0_3)]) (L' := [(1, .pointer (some ⟨g1, 0, none⟩)), (3, .pointer (some ⟨g2, 0, none⟩)), (49, .agg #[.int .i64 a0.Room, .int .i64 a0.Lease, .slice Aa0_2 a0.Blobs.length ca0_2, .slice Aa0_3 a0.Entries.length ca0_3])]) (by kernel_rfl) (by kernel_rfl) (fun w hh => ⟨(hh.box 3 rfl rfl), (hh.box 3 rfl rfl), (hh.box 3 rfl rfl), (hh.box 3 rfl rfl)⟩) ?_
      obtain ⟨y7, hy7, heq⟩ := bind_some heq
      refine RgH.does (DoesH.call (d := 50) (g := 24) (args := #[.agg #[.int .i64 a0.Room, .int .i64 a0.Lease, .slice Aa0_2 a0.Blobs.length ca0_2, .slice Aa0_3 a0.Entries.length ca0_3]]) (by kernel_rfl) (cache_Used_c (a0 := a0) (hra0_2.wk (fun _ h => (.tail _ (.tail _ (.tail _ (.tail _ h)))))) hca0_2 rfl (hra0_3.wk (fun _ h => (.tail _ (.tail _ (.tail _ (.tail _ h)))))) hca0_3 rfl hy7)) ?_
      rintro _ _ _ _ ⟨_, rfl, rfl, rfl, rfl⟩
      refine RgH.runk 7 [1, 3, 5, 8] (vs := []) (evs := []) (L' := [(1, .pointer (some ⟨g1, 0, none⟩)), (3, .pointer (some ⟨g2, 0, none⟩)), (5, .int .i64 y7.2), (8, .int .i64 y7.1)]) (by kernel_rfl) (by kernel_rfl) (fun _ _ => trivial) ?_
      refine RgH.done (by kernel_rfl) ?_
      refine RunH.adm 1 (es' := [.c [1, 1, 1, 1, 1, 1, 0], .c [1, 1, 1, 1, 1, 1, 1]]) (by kernel_rfl) ?_
      refine RunH.reg (by kernel_rfl) ?_
      refine RgH.runk 1 [1, 3, 5, 8, 54] (vs := [.int .i64 y1.Room, .int .i64 y1.Lease, .slice A1 y1.Blobs.length c1, .slice A2 y1.Entries.length c2]) (evs := [.load ⟨g2, 0, none⟩ (.int .i64 y1.Room), .load ⟨g2, 1, none⟩ (.int .i64 y1.Lease), .load ⟨g2, 2, none⟩ (.slice A1 y1.Blobs.length c1), .load ⟨g2, 3, none⟩ (.slice A2 y1.Entries.length c2)]) (L' := [(1, .pointer (some ⟨g1, 0, none⟩)), (3, .pointer (some ⟨g2, 0, none⟩)), (5, .int .i64 y7.2), (8, .int .i64 y7.1), (54, .agg #[.int .i64 y1.Room, .int .i64 y1.Lease, .slice A1 y1.Blobs.length c1, .slice A2 y1.Entries.length c2])]) (by kernel_rfl) (by kernel_rfl) (fun w hh => ⟨(hh.box 0 rfl rfl), (hh.box 0 rfl rfl), (hh.box 0 rfl rfl), (hh.box 0 rfl rfl)⟩) ?_
      obtain ⟨y8, hy8, heq⟩ := bind_some heq
      refine RgH.does (DoesH.call (d := 55) (g := 25) (args := #[.agg #[.int .i64 y1.Room, .int .i64 y1.Lease, .slice A1 y1.Blobs.length c1, .slice A2 y1.Entries.length c2]]) (by kernel_rfl) (smithyardref7_Used_c (a0 := (⟨y1.Room, y1.Lease, y1.Blobs, y1.Entries⟩ : Cache)) (ho1.rw (.tail _ (.head _))) ho1.cap rfl (ho2.rw (.tail _ (.tail _ (.head _)))) ho2.cap rfl hy8)) ?_
      rintro _ _ _ _ ⟨_, rfl, rfl, rfl, rfl⟩
      refine RgH.runk 7 [1, 3, 5, 7, 8, 9] (vs := []) (evs := []) (L' := [(1, .pointer (some ⟨g1, 0, none⟩)), (3, .pointer (some ⟨g2, 0, none⟩)), (5, .int .i64 y7.2), (7, .int .i64 y8.2), (8, .int .i64 y7.1), (9, .int .i64 y8.1)]) (by kernel_rfl) (by kernel_rfl) (fun _ _ => trivial) ?_
      refine RgH.done (by kernel_rfl) ?_
      refine RunH.adm 1 (es' := [.c [1, 1, 1, 1, 1, 1, 1, 0], .c [1, 1, 1, 1, 1, 1, 1, 1]]) (by kernel_rfl) ?_
      refine RunH.reg (by kernel_rfl) ?_
      refine RgH.runk 1 [1, 3, 5, 7, 8, 9, 59] (vs := [.int .i64 a0.Room, .int .i64 a0.Lease, .slice Aa0_2 a0.Blobs.length ca0_2, .slice Aa0_3 a0.Entries.length ca0_3]) (evs := [.load ⟨g1, 0, none⟩ (.int .i64 a0.Room), .load ⟨g1, 1, none⟩ (.int .i64 a0.Lease), .load ⟨g1, 2, none⟩ (.slice Aa0_2 a0.Blobs.length ca0_2), .load ⟨g1, 3, none⟩ (.slice Aa0_3 a0.Entries.length ca0_3)]) (L' := [(1, .pointer (some ⟨g1, 0, none⟩)), (3, .pointer (some ⟨g2, 0, none⟩)), (5, .int .i64 y7.2), (7, .int .i64 y8.2), (8, .int .i64 y7.1), (9, .int .i64 y8.1), (59, .agg #[.int .i64 a0.Room, .int .i64 a0.Lease, .slice Aa0_2 a0.Blobs.length ca0_2, .slice Aa0_3 a0.Entries.length ca0_3])]) (by kernel_rfl) (by kernel_rfl) (fun w hh => ⟨(hh.box 3 rfl rfl), (hh.box 3 rfl rfl), (hh.box 3 rfl rfl), (hh.box 3 rfl rfl)⟩) ?_
      obtain ⟨y9, hy9, heq⟩ := bind_some heq
      refine RgH.does (DoesH.call (d := 60) (g := 26) (args := #[.agg #[.int .i64 a0.Room, .int .i64 a0.Lease, .slice Aa0_2 a0.Blobs.length ca0_2, .slice Aa0_3 a0.Entries.length ca0_3]]) (by kernel_rfl) (cache_Broken_c (a0 := a0) (hra0_2.wk (fun _ h => (.tail _ (.tail _ (.tail _ (.tail _ h)))))) hca0_2 rfl (hra0_3.wk (fun _ h => (.tail _ (.tail _ (.tail _ (.tail _ h)))))) hca0_3 rfl hy9)) ?_
      rintro _ _ _ _ ⟨_, rfl, A7, c7, ch7, rfl, rfl, rfl, ho7⟩
      refine RgH.runk 7 [1, 3, 5, 7, 8, 9, 10, 11] (vs := []) (evs := []) (L' := [(1, .pointer (some ⟨g1, 0, none⟩)), (3, .pointer (some ⟨g2, 0, none⟩)), (5, .int .i64 y7.2), (7, .int .i64 y8.2), (8, .int .i64 y7.1), (9, .int .i64 y8.1), (10, .slice A7 y9.1.length c7), (11, .int .i64 y9.2)]) (by kernel_rfl) (by kernel_rfl) (fun _ _ => trivial) ?_
      refine RgH.done (by kernel_rfl) ?_
      refine RunH.adm 1 (es' := [.c [1, 1, 1, 1, 1, 1, 1, 1, 0], .c [1, 1, 1, 1, 1, 1, 1, 1, 1]]) (by kernel_rfl) ?_
      refine RunH.reg (by kernel_rfl) ?_
      refine RgH.runk 1 [1, 3, 5, 7, 8, 9, 10, 11, 64] (vs := [.int .i64 y1.Room, .int .i64 y1.Lease, .slice A1 y1.Blobs.length c1, .slice A2 y1.Entries.length c2]) (evs := [.load ⟨g2, 0, none⟩ (.int .i64 y1.Room), .load ⟨g2, 1, none⟩ (.int .i64 y1.Lease), .load ⟨g2, 2, none⟩ (.slice A1 y1.Blobs.length c1), .load ⟨g2, 3, none⟩ (.slice A2 y1.Entries.length c2)]) (L' := [(1, .pointer (some ⟨g1, 0, none⟩)), (3, .pointer (some ⟨g2, 0, none⟩)), (5, .int .i64 y7.2), (7, .int .i64 y8.2), (8, .int .i64 y7.1), (9, .int .i64 y8.1), (10, .slice A7 y9.1.length c7), (11, .int .i64 y9.2), (64, .agg #[.int .i64 y1.Room, .int .i64 y1.Lease, .slice A1 y1.Blobs.length c1, .slice A2 y1.Entries.length c2])]) (by kernel_rfl) (by kernel_rfl) (fun w hh => ⟨(hh.box 1 rfl rfl), (hh.box 1 rfl rfl), (hh.box 1 rfl rfl), (hh.box 1 rfl rfl)⟩) ?_
      obtain ⟨y10, hy10, heq⟩ := bind_some heq
      refine RgH.does (DoesH.call (d := 65) (g := 27) (args := #[.agg #[.int .i64 y1.Room, .int .i64 y1.Lease, .slice A1 y1.Blobs.length c1, .slice A2 y1.Entries.length c2]]) (by kernel_rfl) (smithyardref7_Broken_c (a0 := (⟨y1.Room, y1.Lease, y1.Blobs, y1.Entries⟩ : Cache)) (ho1.rw (.tail _ (.tail _ (.head _)))) ho1.cap rfl (ho2.rw (.tail _ (.tail _ (.tail _ (.head _))))) ho2.cap rfl hy10)) ?_
      rintro _ _ _ _ ⟨_, rfl, A8, c8, ch8, rfl, rfl, rfl, ho8⟩
      refine RgH.runk 7 [1, 3, 5, 7, 8, 9, 10, 11, 12, 13] (vs := []) (evs := []) (L' := [(1, .pointer (some ⟨g1, 0, none⟩)), (3, .pointer (some ⟨g2, 0, none⟩)), (5, .int .i64 y7.2), (7, .int .i64 y8.2), (8, .int .i64 y7.1), (9, .int .i64 y8.1), (10, .slice A7 y9.1.length c7), (11, .int .i64 y9.2), (12, .slice A8 y10.1.length c8), (13, .int .i64 y10.2)]) (by kernel_rfl) (by kernel_rfl) (fun _ _ => trivial) ?_
      refine RgH.done (by kernel_rfl) ?_
      refine RunH.adm 1 (es' := [.c [1, 1, 1, 1, 1, 1, 1, 1, 1, 0], .c [1, 1, 1, 1, 1, 1, 1, 1, 1, 1]]) (by kernel_rfl) ?_
      obtain ⟨t2, ht2, heq⟩ := bind_some heq
      have K14 : ∀ (H : Hp), RunH C3 (S3 F H0 r) H0 w0 [.c [1, 1, 1, 1, 1, 1, 1, 1, 1, 1]] [(2, .bool t2)] H (F) := by
        intro H
        obtain rfl := Option.some.inj heq
        exact RunH.done (by kernel_rfl) Tryd.func3 (v := .bool t2) (by kernel_rfl) ⟨rfl, rfl⟩
      replace heq := ht2
      refine RunH.reg (by kernel_rfl) ?_
      refine RgH.runk 4 [71, 1, 3, 5, 7, 10, 11, 12, 13] (vs := []) (evs := []) (L' := [(71, .bool (y7.1 == y8.1)), (1, .pointer (some ⟨g1, 0, none⟩)), (3, .pointer (some ⟨g2, 0, none⟩)), (5, .int .i64 y7.2), (7, .int .i64 y8.2), (10, .slice A7 y9.1.length c7), (11, .int .i64 y9.2), (12, .slice A8 y10.1.length c8), (13, .int .i64 y10.2)]) (by kernel_rfl) (by kernel_rfl) (fun _ _ => trivial) ?_
      rcases bool_cases (y7.1 == y8.1) with hb4 | hb4
      · replace heq := bif_true hb4 heq
        refine RgH.val1 (v' := .bool true) (congrArg Value.bool hb4) ?_
        refine RgH.runk 9 [76, 1, 3, 10, 11, 12, 13] (vs := []) (evs := []) (L' := [(76, .bool (y7.2 == y8.2)), (1, .pointer (some ⟨g1, 0, none⟩)), (3, .pointer (some ⟨g2, 0, none⟩)), (10, .slice A7 y9.1.length c7), (11, .int .i64 y9.2), (12, .slice A8 y10.1.length c8), (13, .int .i64 y10.2)]) (by kernel_rfl) (by kernel_rfl) (fun _ _ => trivial) ?_
        rcases bool_cases (y7.2 == y8.2) with hb5 | hb5
        · replace heq := bif_true hb5 heq
          refine RgH.val1 (v' := .bool true) (congrArg Value.bool hb5) ?_
          refine RgH.runk 11 [1, 3, 11, 13, 76, 77, 78] (vs := []) (evs := []) (L' := [(1, .pointer (some ⟨g1, 0, none⟩)), (3, .pointer (some ⟨g2, 0, none⟩)), (11, .int .i64 y9.2), (13, .int .i64 y10.2), (76, .bool true), (77, .slice A7 y9.1.length c7), (78, .slice A8 y10.1.length c8)]) (by kernel_rfl) (by kernel_rfl) (fun _ _ => trivial) ?_
          obtain ⟨y11, hy11, heq⟩ := bind_some heq
          refine RgH.does (DoesH.call (d := 79) (g := 28) (args := #[.slice A7 y9.1.length c7, .slice A8 y10.1.length c8]) (by kernel_rfl) (slices_Equal_string_c (a0 := y9.1) (a1 := y10.1) (ho7.rw (.tail _ (.head _))) ho7.cap rfl (ho8.rw (.head _)) ho8.cap rfl hy11)) ?_
          rintro _ _ _ _ ⟨_, rfl, rfl, rfl, rfl⟩
          refine RgH.runk 14 [81, 1, 3, 11, 13] (vs := []) (evs := []) (L' := [(81, .bool y11), (1, .pointer (some ⟨g1, 0, none⟩)), (3, .pointer (some ⟨g2, 0, none⟩)), (11, .int .i64 y9.2), (13, .int .i64 y10.2)]) (by kernel_rfl) (by kernel_rfl) (fun _ _ => trivial) ?_
          rcases bool_cases (y11) with hb6 | hb6
          · replace heq := bif_true hb6 heq
            refine RgH.val1 (v' := .bool true) (congrArg Value.bool hb6) ?_
            refine RgH.runk 19 [86, 1, 3] (vs := []) (evs := []) (L' := [(86, .bool (y9.2 == y10.2)), (1, .pointer (some ⟨g1, 0, none⟩)), (3, .pointer (some ⟨g2, 0, none⟩))]) (by kernel_rfl) (by kernel_rfl) (fun _ _ => trivial) ?_
            rcases bool_cases (y9.2 == y10.2) with hb7 | hb7
            · replace heq := bif_true hb7 heq
              refine RgH.val1 (v' := .bool true) (congrArg Value.bool hb7) ?_
              refine RgH.runk 21 [86, 87, 88] (vs := [.int .i64 a0.Room, .int .i64 a0.Lease, .slice Aa0_2 a0.Blobs.length ca0_2, .slice Aa0_3 a0.Entries.length ca0_3, .int .i64 y1.Room, .int .i64 y1.Lease, .slice A1 y1.Blobs.length c1, .slice A2 y1.Entries.length c2]) (evs := [.load ⟨g1, 0, none⟩ (.int .i64 a0.Room), .load ⟨g1, 1, none⟩ (.int .i64 a0.Lease), .load ⟨g1, 2, none⟩ (.slice Aa0_2 a0.Blobs.length ca0_2), .load ⟨g1, 3, none⟩ (.slice Aa0_3 a0.Entries.length ca0_3), .load ⟨g2, 0, none⟩ (.int .i64 y1.Room), .load ⟨g2, 1, none⟩ (.int .i64 y1.Lease), .load ⟨g2, 2, none⟩ (.slice A1 y1.Blobs.length c1), .load ⟨g2, 3, none⟩ (.slice A2 y1.Entries.length c2)]) (L' := [(86, .bool true), (87, .agg #[.int .i64 a0.Room, .int .i64 a0.Lease, .slice Aa0_2 a0.Blobs.length ca0_2, .slice Aa0_3 a0.Entries.length ca0_3]), (88, .agg #[.int .i64 y1.Room, .int .i64 y1.Lease, .slice A1 y1.Blobs.length c1, .slice A2 y1.Entries.length c2])]) (by kernel_rfl) (by kernel_rfl) (fun w hh => ⟨(hh.box 5 rfl rfl), (hh.box 5 rfl rfl), (hh.box 5 rfl rfl), (hh.box 5 rfl rfl), (hh.box 2 rfl rfl), (hh.box 2 rfl rfl), (hh.box 2 rfl rfl), (hh.box 2 rfl rfl)⟩) ?_
              obtain ⟨y12, hy12, heq⟩ := bind_some heq
              refine RgH.does (DoesH.call (d := 89) (g := 21) (args := #[.agg #[.int .i64 a0.Room, .int .i64 a0.Lease, .slice Aa0_2 a0.Blobs.length ca0_2, .slice Aa0_3 a0.Entries.length ca0_3], .agg #[.int .i64 y1.Room, .int .i64 y1.Lease, .slice A1 y1.Blobs.length c1, .slice A2 y1.Entries.length c2]]) (by kernel_rfl) (smithyardref7_Same_c (a0 := a0) (a1 := (⟨y1.Room, y1.Lease, y1.Blobs, y1.Entries⟩ : Cache)) (hra0_2.wk (fun _ h => (.tail _ (.tail _ (.tail _ (.tail _ (.tail _ (.tail _ h)))))))) hca0_2 rfl (hra0_3.wk (fun _ h => (.tail _ (.tail _ (.tail _ (.tail _ (.tail _ (.tail _ h)))))))) hca0_3 rfl (ho1.rw (.tail _ (.tail _ (.tail _ (.head _))))) ho1.cap rfl (ho2.rw (.tail _ (.tail _ (.tail _ (.tail _ (.head _)))))) ho2.cap rfl hy12)) ?_
              rintro _ _ _ _ ⟨_, rfl, rfl, rfl, rfl⟩
              refine RgH.runk 24 [91] (vs := []) (evs := []) (L' := [(91, .bool y12)]) (by kernel_rfl) (by kernel_rfl) (fun _ _ => trivial) ?_
              rcases bool_cases (y12) with hb8 | hb8
              · replace heq := bif_true hb8 heq
                refine RgH.val1 (v' := .bool true) (congrArg Value.bool hb8) ?_
                obtain ⟨y13, hy13, heq⟩ := bind_some heq
                refine RgH.does (DoesH.call (d := 92) (g := 29) (args := (List.toArray [])) (by kernel_rfl) (smithyardlaw7_awake_c  hy13)) ?_
                rintro _ _ _ _ ⟨_, rfl, rfl, rfl, rfl⟩
                refine RgH.runk 27 [2] (vs := []) (evs := []) (L' := [(2, .bool y13)]) (by kernel_rfl) (by kernel_rfl) (fun _ _ => trivial) ?_
                obtain rfl := Option.some.inj heq
                refine RgH.keep [2] (L' := [(2, .bool y13)]) (by kernel_rfl) ?_
                refine RgH.pick 6 [] (cs' := F) (by kernel_rfl) rfl ?_
                refine RgH.done (by kernel_rfl) ?_
                exact K14 _
              · replace heq := bif_false hb8 heq
                refine RgH.val1 (v' := .bool false) (congrArg Value.bool hb8) ?_
                refine RgH.runk 27 [2] (vs := []) (evs := []) (L' := [(2, .bool false)]) (by kernel_rfl) (by kernel_rfl) (fun _ _ => trivial) ?_
                obtain rfl := Option.some.inj heq
                refine RgH.keep [2] (L' := [(2, .bool false)]) (by kernel_rfl) ?_
                refine RgH.pick 6 [] (cs' := F) (by kernel_rfl) rfl ?_
                refine RgH.done (by kernel_rfl) ?_
                exact K14 _
            · replace heq := bif_false hb7 heq
              refine RgH.val1 (v' := .bool false) (congrArg Value.bool hb7) ?_
              refine RgH.runk 27 [2] (vs := []) (evs := []) (L' := [(2, .bool false)]) (by kernel_rfl) (by kernel_rfl) (fun _ _ => trivial) ?_
              obtain rfl := Option.some.inj heq
              refine RgH.keep [2] (L' := [(2, .bool false)]) (by kernel_rfl) ?_
              refine RgH.pick 6 [] (cs' := F) (by kernel_rfl) rfl ?_
              refine RgH.done (by kernel_rfl) ?_
              exact K14 _
          · replace heq := bif_false hb6 heq
            refine RgH.val1 (v' := .bool false) (congrArg Value.bool hb6) ?_
            refine RgH.runk 27 [2] (vs := []) (evs := []) (L' := [(2, .bool false)]) (by kernel_rfl) (by kernel_rfl) (fun _ _ => trivial) ?_
            obtain rfl := Option.some.inj heq
            refine RgH.keep [2] (L' := [(2, .bool false)]) (by kernel_rfl) ?_
            refine RgH.pick 6 [] (cs' := F) (by kernel_rfl) rfl ?_
            refine RgH.done (by kernel_rfl) ?_
            exact K14 _
        · replace heq := bif_false hb5 heq
          refine RgH.val1 (v' := .bool false) (congrArg Value.bool hb5) ?_
          refine RgH.runk 27 [2] (vs := []) (evs := []) (L' := [(2, .bool false)]) (by kernel_rfl) (by kernel_rfl) (fun _ _ => trivial) ?_
          obtain rfl := Option.some.inj heq
          refine RgH.keep [2] (L' := [(2, .bool false)]) (by kernel_rfl) ?_
          refine RgH.pick 6 [] (cs' := F) (by kernel_rfl) rfl ?_
          refine RgH.done (by kernel_rfl) ?_
          exact K14 _
      · replace heq := bif_false hb4 heq
        refine RgH.val1 (v' := .bool false) (congrArg Value.bool hb4) ?_
        refine RgH.runk 27 [2] (vs := []) (evs := []) (L' := [(2, .bool false)]) (by kernel_rfl) (by kernel_rfl) (fun _ _ => trivial) ?_
        obtain rfl := Option.some.inj heq
        refine RgH.keep [2] (L' := [(2, .bool false)]) (by kernel_rfl) ?_
        refine RgH.pick 6 [] (cs' := F) (by kernel_rfl) rfl ?_
        refine RgH.done (by kernel_rfl) ?_
        exact K14 _
  replace heq := ht1
  refine RunH.keep [1, 3, 4, 5, 6, 7] (L' := [(1, .pointer (some ⟨g1, 0, none⟩)), (3, .pointer (some ⟨g2, 0, none⟩)), (4, .pointer (some ⟨g3, 0, none⟩)), (5, .int .i64 y2.2), (6, .pointer (some ⟨g4, 0, none⟩)), (7, .int .i64 y3.2)]) (by kernel_rfl) ?_
  refine RunH.draw (fun w => Heap H w0 w ((some (g4, .cells #[.int .i64 y3.1.Room, .int .i64 y3.1.Lease, .slice A5 y3.1.Blobs.length c5, .slice A6 y3.1.Entries.length c6] 25 (0, 0))) :: ch5 :: ch6 :: (some (g3, .cells #[.int .i64 y2.1.Room, .int .i64 y2.1.Lease, .slice A3 y2.1.Blobs.length c3, .slice A4 y2.1.Entries.length c4] 25 (0, 0))) :: ch3 :: ch4 :: (some (g2, .cells #[.int .i64 y1.Room, .int .i64 y1.Lease, .slice A1 y1.Blobs.length c1, .slice A2 y1.Entries.length c2] 25 (0, 0))) :: ch1 :: ch2 :: (some (g1, .cells #[.int .i64 a0.Room, .int .i64 a0.Lease, .slice Aa0_2 a0.Blobs.length ca0_2, .slice Aa0_3 a0.Entries.length ca0_3] 25 (0, 0))) :: F)) (fun w => Heap H w0 w ((some (g4, .cells #[.int .i64 y3.1.Room, .int .i64 y3.1.Lease, .slice A5 y3.1.Blobs.length c5, .slice A6 y3.1.Entries.length c6] 25 (0, 0))) :: ch5 :: ch6 :: (some (g3, .cells #[.int .i64 y2.1.Room, .int .i64 y2.1.Lease, .slice A3 y2.1.Blobs.length c3, .slice A4 y2.1.Entries.length c4] 25 (0, 0))) :: ch3 :: ch4 :: (some (g2, .cells #[.int .i64 y1.Room, .int .i64 y1.Lease, .slice A1 y1.Blobs.length c1, .slice A2 y1.Entries.length c2] 25 (0, 0))) :: ch1 :: ch2 :: (some (g1, .cells #[.int .i64 a0.Room, .int .i64 a0.Lease, .slice Aa0_2 a0.Blobs.length ca0_2, .slice Aa0_3 a0.Entries.length ca0_3] 25 (0, 0))) :: F)) [false, false, false, false, false, false, false, false, false, false, false, false, false, false, false, false] (n := 16) (ls := [false, false, false, false, false, false, false, false, false, false, false, false, false, false, false, false]) (by kernel_rfl) (by kernel_rfl) (by kernel_rfl) rfl ?_
  refine DrH.run [0, 1] (m := 14) (ls' := [true, true, false, false, false, false, false, false, false, false, false, false, false, false, false, false]) (vs := [.int .i64 y2.1.Room, .int .i64 y2.1.Lease, .slice A3 y2.1.Blobs.length c3, .slice A4 y2.1.Entries.length c4, .int .i64 y3.1.Room, .int .i64 y3.1.Lease, .slice A5 y3.1.Blobs.length c5, .slice A6 y3.1.Entries.length c6]) (evs := [.load ⟨g3, 0, none⟩ (.int .i64 y2.1.Room), .load ⟨g3, 1, none⟩ (.int .i64 y2.1.Lease), .load ⟨g3, 2, none⟩ (.slice A3 y2.1.Blobs.length c3), .load ⟨g3, 3, none⟩ (.slice A4 y2.1.Entries.length c4), .load ⟨g4, 0, none⟩ (.int .i64 y3.1.Room), .load ⟨g4, 1, none⟩ (.int .i64 y3.1.Lease), .load ⟨g4, 2, none⟩ (.slice A5 y3.1.Blobs.length c5), .load ⟨g4, 3, none⟩ (.slice A6 y3.1.Entries.length c6)]) (L' := [(33, .agg #[.int .i64 y3.1.Room, .int .i64 y3.1.Lease, .slice A5 y3.1.Blobs.length c5, .slice A6 y3.1.Entries.length c6]), (32, .agg #[.int .i64 y2.1.Room, .int .i64 y2.1.Lease, .slice A3 y2.1.Blobs.length c3, .slice A4 y2.1.Entries.length c4]), (1, .pointer (some ⟨g1, 0, none⟩)), (3, .pointer (some ⟨g2, 0, none⟩)), (4, .pointer (some ⟨g3, 0, none⟩)), (5, .int .i64 y2.2), (6, .pointer (some ⟨g4, 0, none⟩)), (7, .int .i64 y3.2)]) (by kernel_rfl) (fun w hh => hh.pick 10 [0, 1, 2, 3, 4, 5, 6, 7, 8, 9] (by kernel_rfl)) (fun w hh => hh.pick 10 [0, 1, 2, 3, 4, 5, 6, 7, 8, 9] (by kernel_rfl)) (by kernel_rfl) (fun w hh => ⟨(hh.box 3 rfl rfl), (hh.box 3 rfl rfl), (hh.box 3 rfl rfl), (hh.box 3 rfl rfl), (hh.box 0 rfl rfl), (hh.box 0 rfl rfl), (hh.box 0 rfl rfl), (hh.box 0 rfl rfl)⟩) (by kernel_rfl) ?_
  refine DrH.keep [1, 3, 5, 7, 32, 33] (L' := [(1, .pointer (some ⟨g1, 0, none⟩)), (3, .pointer (some ⟨g2, 0, none⟩)), (5, .int .i64 y2.2), (7, .int .i64 y3.2), (32, .agg #[.int .i64 y2.1.Room, .int .i64 y2.1.Lease, .slice A3 y2.1.Blobs.length c3, .slice A4 y2.1.Entries.length c4]), (33, .agg #[.int .i64 y3.1.Room, .int .i64 y3.1.Lease, .slice A5 y3.1.Blobs.length c5, .slice A6 y3.1.Entries.length c6])]) (by kernel_rfl) ?_
  obtain ⟨y4, hy4, heq⟩ := bind_some heq
  refine DrH.does (n := 13) (ls' := [true, true, true, false, false, false, false, false, false, false, false, false, false, false, false, false]) 2 (by kernel_rfl) rfl (DoesH.call (d := 34) (g := 21) (args := #[.agg #[.int .i64 y2.1.Room, .int .i64 y2.1.Lease, .slice A3 y2.1.Blobs.length c3, .slice A4 y2.1.Entries.length c4], .agg #[.int .i64 y3.1.Room, .int .i64 y3.1.Lease, .slice A5 y3.1.Blobs.length c5, .slice A6 y3.1.Entries.length c6]]) (by kernel_rfl) (smithyardref7_Same_c (a0 := (⟨y2.1.Room, y2.1.Lease, y2.1.Blobs, y2.1.Entries⟩ : Cache)) (a1 := (⟨y3.1.Room, y3.1.Lease, y3.1.Blobs, y3.1.Entries⟩ : Cache)) (ho3.rw (.tail _ (.tail _ (.tail _ (.tail _ (.head _)))))) ho3.cap rfl (ho4.rw (.tail _ (.tail _ (.tail _ (.tail _ (.tail _ (.head _))))))) ho4.cap rfl (ho5.rw (.tail _ (.head _))) ho5.cap rfl (ho6.rw (.tail _ (.tail _ (.head _)))) ho6.cap rfl hy4)) ?_
  rintro _ _ _ _ ⟨_, rfl, rfl, rfl, rfl⟩
  refine ⟨fun w hh => ⟨(fun w hh => hh.pick 10 [0, 1, 2, 3, 4, 5, 6, 7, 8, 9] (by kernel_rfl)) w hh, fun _ => (fun w hh => hh.pick 10 [0, 1, 2, 3, 4, 5, 6, 7, 8, 9] (by kernel_rfl)) w hh⟩, ?_⟩
  refine DrH.run [3, 4] (m := 11) (ls' := [true, true, true, true, true, false, false, false, false, false, false, false, false, false, false, false]) (vs := []) (evs := []) (L' := [(36, .bool (!y4)), (35, .bool (!y4)), (34, .bool y4), (1, .pointer (some ⟨g1, 0, none⟩)), (3, .pointer (some ⟨g2, 0, none⟩)), (5, .int .i64 y2.2), (7, .int .i64 y3.2), (32, .agg #[.int .i64 y2.1.Room, .int .i64 y2.1.Lease, .slice A3 y2.1.Blobs.length c3, .slice A4 y2.1.Entries.length c4]), (33, .agg #[.int .i64 y3.1.Room, .int .i64 y3.1.Lease, .slice A5 y3.1.Blobs.length c5, .slice A6 y3.1.Entries.length c6])]) (by kernel_rfl) (fun w hh => hh.pick 10 [0, 1, 2, 3, 4, 5, 6, 7, 8, 9] (by kernel_rfl)) (fun w hh => hh.pick 10 [0, 1, 2, 3, 4, 5, 6, 7, 8, 9] (by kernel_rfl)) (by kernel_rfl) (fun _ _ => trivial) (by kernel_rfl) ?_
  refine DrH.keep [36, 1, 3, 5, 7] (L' := [(36, .bool (!y4)), (1, .pointer (some ⟨g1, 0, none⟩)), (3, .pointer (some ⟨g2, 0, none⟩)), (5, .int .i64 y2.2), (7, .int .i64 y3.2)]) (by kernel_rfl) ?_
  rcases bool_cases (!y4) with hb1 | hb1
  · replace heq := bif_true hb1 heq
    refine DrH.val1 (v' := .bool true) (congrArg Value.bool hb1) ?_
    refine DrH.run [5, 6, 7, 8, 9, 10, 11, 12, 13, 14, 15] (m := 0) (ls' := [true, true, true, true, true, true, true, true, true, true, true, true, true, true, true, true]) (vs := []) (evs := []) (L' := [(47, .bool true), (46, undef), (45, undef), (44, undef), (43, undef), (42, undef), (41, .bool true), (40, .bool true), (39, undef), (38, undef), (37, undef), (36, .bool true), (1, .pointer (some ⟨g1, 0, none⟩)), (3, .pointer (some ⟨g2, 0, none⟩)), (5, .int .i64 y2.2), (7, .int .i64 y3.2)]) (by kernel_rfl) (fun w hh => hh.pick 10 [0, 1, 2, 3, 4, 5, 6, 7, 8, 9] (by kernel_rfl)) (fun w hh => hh.pick 10 [0, 1, 2, 3, 4, 5, 6, 7, 8, 9] (by kernel_rfl)) (by kernel_rfl) (fun _ _ => trivial) (by kernel_rfl) ?_
    refine DrH.keep [1, 3, 47] (L' := [(1, .pointer (some ⟨g1, 0, none⟩)), (3, .pointer (some ⟨g2, 0, none⟩)), (47, .bool true)]) (by kernel_rfl) ?_
    obtain rfl := Option.some.inj heq
    refine DrH.keep [1, 3, 47] (L' := [(1, .pointer (some ⟨g1, 0, none⟩)), (3, .pointer (some ⟨g2, 0, none⟩)), (47, .bool true)]) (by kernel_rfl) ?_
    refine DrH.pick 10 [6, 7, 8, 9] (cs' := (some (g2, .cells #[.int .i64 y1.Room, .int .i64 y1.Lease, .slice A1 y1.Blobs.length c1, .slice A2 y1.Entries.length c2] 25 (0, 0))) :: ch1 :: ch2 :: (some (g1, .cells #[.int .i64 a0.Room, .int .i64 a0.Lease, .slice Aa0_2 a0.Blobs.length ca0_2, .slice Aa0_3 a0.Entries.length ca0_3] 25 (0, 0))) :: F) (by kernel_rfl) rfl ?_
    refine DrH.done (by kernel_rfl) ?_
    exact K11 _ hra0_2 hra0_3 ho1 ho2
  · replace heq := bif_false hb1 heq
    refine DrH.val1 (v' := .bool false) (congrArg Value.bool hb1) ?_
    refine DrH.run [5, 6, 7, 8, 9] (m := 6) (ls' := [true, true, true, true, true, true, true, true, true, true, false, false, false, false, false, false]) (vs := []) (evs := []) (L' := [(41, .bool (y2.2 != y3.2)), (40, .bool (y2.2 != y3.2)), (39, .bool (y2.2 != y3.2)), (38, .int .i64 y3.2), (37, .int .i64 y2.2), (36, .bool false), (1, .pointer (some ⟨g1, 0, none⟩)), (3, .pointer (some ⟨g2, 0, none⟩)), (5, .int .i64 y2.2), (7, .int .i64 y3.2)]) (by kernel_rfl) (fun w hh => hh.pick 10 [0, 1, 2, 3, 4, 5, 6, 7, 8, 9] (by kernel_rfl)) (fun w hh => hh.pick 10 [0, 1, 2, 3, 4, 5, 6, 7, 8, 9] (by kernel_rfl)) (by kernel_rfl) (fun _ _ => trivial) (by kernel_rfl) ?_
    refine DrH.keep [41, 1, 3] (L' := [(41, .bool (y2.2 != y3.2)), (1, .pointer (some ⟨g1, 0, none⟩)), (3, .pointer (some ⟨g2, 0, none⟩))]) (by kernel_rfl) ?_
    rcases bool_cases (y2.2 != y3.2) with hb2 | hb2
    · replace heq := bif_true hb2 heq
      refine DrH.val1 (v' := .bool true) (congrArg Value.bool hb2) ?_
      refine DrH.run [10, 11, 12, 13, 14, 15] (m := 0) (ls' := [true, true, true, true, true, true, true, true, true, true, true, true, true, true, true, true]) (vs := []) (evs := []) (L' := [(47, .bool true), (46, undef), (45, undef), (44, undef), (43, undef), (42, undef), (41, .bool true), (1, .pointer (some ⟨g1, 0, none⟩)), (3, .pointer (some ⟨g2, 0, none⟩))]) (by kernel_rfl) (fun w hh => hh.pick 10 [0, 1, 2, 3, 4, 5, 6, 7, 8, 9] (by kernel_rfl)) (fun w hh => hh.pick 10 [0, 1, 2, 3, 4, 5, 6, 7, 8, 9] (by kernel_rfl)) (by kernel_rfl) (fun _ _ => trivial) (by kernel_rfl) ?_
      refine DrH.keep [1, 3, 47] (L' := [(1, .pointer (some ⟨g1, 0, none⟩)), (3, .pointer (some ⟨g2, 0, none⟩)), (47, .bool true)]) (by kernel_rfl) ?_
      obtain rfl := Option.some.inj heq
      refine DrH.keep [1, 3, 47] (L' := [(1, .pointer (some ⟨g1, 0, none⟩)), (3, .pointer (some ⟨g2, 0, none⟩)), (47, .bool true)]) (by kernel_rfl) ?_
      refine DrH.pick 10 [6, 7, 8, 9] (cs' := (some (g2, .cells #[.int .i64 y1.Room, .int .i64 y1.Lease, .slice A1 y1.Blobs.length c1, .slice A2 y1.Entries.length c2] 25 (0, 0))) :: ch1 :: ch2 :: (some (g1, .cells #[.int .i64 a0.Room, .int .i64 a0.Lease, .slice Aa0_2 a0.Blobs.length ca0_2, .slice Aa0_3 a0.Entries.length ca0_3] 25 (0, 0))) :: F) (by kernel_rfl) rfl ?_
      refine DrH.done (by kernel_rfl) ?_
      exact K11 _ hra0_2 hra0_3 ho1 ho2
    · replace heq := bif_false hb2 heq
      refine DrH.val1 (v' := .bool false) (congrArg Value.bool hb2) ?_
      refine DrH.run [10, 12] (m := 4) (ls' := [true, true, true, true, true, true, true, true, true, true, true, false, true, false, false, false]) (vs := [.int .i64 a0.Room, .int .i64 a0.Lease, .slice Aa0_2 a0.Blobs.length ca0_2, .slice Aa0_3 a0.Entries.length ca0_3, .int .i64 y1.Room, .int .i64 y1.Lease, .slice A1 y1.Blobs.length c1, .slice A2 y1.Entries.length c2]) (evs := [.load ⟨g1, 0, none⟩ (.int .i64 a0.Room), .load ⟨g1, 1, none⟩ (.int .i64 a0.Lease), .load ⟨g1, 2, none⟩ (.slice Aa0_2 a0.Blobs.length ca0_2), .load ⟨g1, 3, none⟩ (.slice Aa0_3 a0.Entries.length ca0_3), .load ⟨g2, 0, none⟩ (.int .i64 y1.Room), .load ⟨g2, 1, none⟩ (.int .i64 y1.Lease), .load ⟨g2, 2, none⟩ (.slice A1 y1.Blobs.length c1), .load ⟨g2, 3, none⟩ (.slice A2 y1.Entries.length c2)]) (L' := [(44, .agg #[.int .i64 y1.Room, .int .i64 y1.Lease, .slice A1 y1.Blobs.length c1, .slice A2 y1.Entries.length c2]), (42, .agg #[.int .i64 a0.Room, .int .i64 a0.Lease, .slice Aa0_2 a0.Blobs.length ca0_2, .slice Aa0_3 a0.Entries.length ca0_3]), (41, .bool false), (1, .pointer (some ⟨g1, 0, none⟩)), (3, .pointer (some ⟨g2, 0, none⟩))]) (by kernel_rfl) (fun w hh => hh.pick 10 [0, 1, 2, 3, 4, 5, 6, 7, 8, 9] (by kernel_rfl)) (fun w hh => hh.pick 10 [0, 1, 2, 3, 4, 5, 6, 7, 8, 9] (by kernel_rfl)) (by kernel_rfl) (fun w hh => ⟨(hh.box 9 rfl rfl), (hh.box 9 rfl rfl), (hh.box 9 rfl rfl), (hh.box 9 rfl rfl), (hh.box 6 rfl rfl), (hh.box 6 rfl rfl), (hh.box 6 rfl rfl), (hh.box 6 rfl rfl)⟩) (by kernel_rfl) ?_
      refine DrH.keep [1, 3, 41, 42, 44] (L' := [(1, .pointer (some ⟨g1, 0, none⟩)), (3, .pointer (some ⟨g2, 0, none⟩)), (41, .bool false), (42, .agg #[.int .i64 a0.Room, .int .i64 a0.Lease, .slice Aa0_2 a0.Blobs.length ca0_2, .slice Aa0_3 a0.Entries.length ca0_3]), (44, .agg #[.int .i64 y1.Room, .int .i64 y1.Lease, .slice A1 y1.Blobs.length c1, .slice A2 y1.Entries.length c2])]) (by kernel_rfl) ?_
      obtain ⟨y5, hy5, heq⟩ := bind_some heq
      refine DrH.does (n := 3) (ls' := [true, true, true, true, true, true, true, true, true, true, true, true, true, false, false, false]) 11 (by kernel_rfl) rfl (DoesH.call (d := 43) (g := 22) (args := #[.agg #[.int .i64 a0.Room, .int .i64 a0.Lease, .slice Aa0_2 a0.Blobs.length ca0_2, .slice Aa0_3 a0.Entries.length ca0_3]]) (by kernel_rfl) (cache_CheckCache_c (a0 := a0) (hra0_2.wk (fun _ h => (.tail _ (.tail _ (.tail _ (.tail _ (.tail _ (.tail _ (.tail _ (.tail _ (.tail _ (.tail _ h)))))))))))) hca0_2 rfl (hra0_3.wk (fun _ h => (.tail _ (.tail _ (.tail _ (.tail _ (.tail _ (.tail _ (.tail _ (.tail _ (.tail _ (.tail _ h)))))))))))) hca0_3 rfl hy5)) ?_
      rintro _ _ _ _ ⟨_, rfl, rfl, rfl, rfl⟩
      refine ⟨fun w hh => ⟨(fun w hh => hh.pick 10 [0, 1, 2, 3, 4, 5, 6, 7, 8, 9] (by kernel_rfl)) w hh, fun _ => (fun w hh => hh.pick 10 [0, 1, 2, 3, 4, 5, 6, 7, 8, 9] (by kernel_rfl)) w hh⟩, ?_⟩
      refine DrH.keep [1, 3, 41, 43, 44] (L' := [(1, .pointer (some ⟨g1, 0, none⟩)), (3, .pointer (some ⟨g2, 0, none⟩)), (41, .bool false), (43, .int .i64 y5), (44, .agg #[.int .i64 y1.Room, .int .i64 y1.Lease, .slice A1 y1.Blobs.length c1, .slice A2 y1.Entries.length c2])]) (by kernel_rfl) ?_
      obtain ⟨y6, hy6, heq⟩ := bind_some heq
      refine DrH.does (n := 2) (ls' := [true, true, true, true, true, true, true, true, true, true, true, true, true, true, false, false]) 13 (by kernel_rfl) rfl (DoesH.call (d := 45) (g := 23) (args := #[.agg #[.int .i64 y1.Room, .int .i64 y1.Lease, .slice A1 y1.Blobs.length c1, .slice A2 y1.Entries.length c2]]) (by kernel_rfl) (smithyardref7_CheckCache_c (a0 := (⟨y1.Room, y1.Lease, y1.Blobs, y1.Entries⟩ : Cache)) (ho1.rw (.tail _ (.tail _ (.tail _ (.tail _ (.tail _ (.tail _ (.tail _ (.head _))))))))) ho1.cap rfl (ho2.rw (.tail _ (.tail _ (.tail _ (.tail _ (.tail _ (.tail _ (.tail _ (.tail _ (.head _)))))))))) ho2.cap rfl hy6)) ?_
      rintro _ _ _ _ ⟨_, rfl, rfl, rfl, rfl⟩
      refine ⟨fun w hh => ⟨(fun w hh => hh.pick 10 [0, 1, 2, 3, 4, 5, 6, 7, 8, 9] (by kernel_rfl)) w hh, fun _ => (fun w hh => hh.pick 10 [0, 1, 2, 3, 4, 5, 6, 7, 8, 9] (by kernel_rfl)) w hh⟩, ?_⟩
      refine DrH.run [14, 15] (m := 0) (ls' := [true, true, true, true, true, true, true, true, true, true, true, true, true, true, true, true]) (vs := []) (evs := []) (L' := [(47, .bool (y5 != y6)), (46, .bool (y5 != y6)), (45, .int .i64 y6), (1, .pointer (some ⟨g1, 0, none⟩)), (3, .pointer (some ⟨g2, 0, none⟩)), (41, .bool false), (43, .int .i64 y5), (44, .agg #[.int .i64 y1.Room, .int .i64 y1.Lease, .slice A1 y1.Blobs.length c1, .slice A2 y1.Entries.length c2])]) (by kernel_rfl) (fun w hh => hh.pick 10 [0, 1, 2, 3, 4, 5, 6, 7, 8, 9] (by kernel_rfl)) (fun w hh => hh.pick 10 [0, 1, 2, 3, 4, 5, 6, 7, 8, 9] (by kernel_rfl)) (by kernel_rfl) (fun _ _ => trivial) (by kernel_rfl) ?_
      refine DrH.keep [1, 3, 47] (L' := [(1, .pointer (some ⟨g1, 0, none⟩)), (3, .pointer (some ⟨g2, 0, none⟩)), (47, .bool (y5 != y6))]) (by kernel_rfl) ?_
      obtain rfl := Option.some.inj heq
      refine DrH.keep [1, 3, 47] (L' := [(1, .pointer (some ⟨g1, 0, none⟩)), (3, .pointer (some ⟨g2, 0, none⟩)), (47, .bool (y5 != y6))]) (by kernel_rfl) ?_
      refine DrH.pick 10 [6, 7, 8, 9] (cs' := (some (g2, .cells #[.int .i64 y1.Room, .int .i64 y1.Lease, .slice A1 y1.Blobs.length c1, .slice A2 y1.Entries.length c2] 25 (0, 0))) :: ch1 :: ch2 :: (some (g1, .cells #[.int .i64 a0.Room, .int .i64 a0.Lease, .slice Aa0_2 a0.Blobs.length ca0_2, .slice Aa0_3 a0.Entries.length ca0_3] 25 (0, 0))) :: F) (by kernel_rfl) rfl ?_
      refine DrH.done (by kernel_rfl) ?_
      exact K11 _ hra0_2 hra0_3 ho1 ho2
end Go.Proofs.YtkjilepjblffeaaDoor
