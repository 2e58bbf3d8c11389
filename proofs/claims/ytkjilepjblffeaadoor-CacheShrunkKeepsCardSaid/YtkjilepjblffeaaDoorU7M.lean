/- What the machine's calls of these functions come to: just what the plain functions say. Written by program. -/
import Derived.Test.YtkjilepjblffeaaDoorProg
import Derived.Test.YtkjilepjblffeaaDoorKitV
import Derived.Test.YtkjilepjblffeaaDoorUD
import Derived.Test.YtkjilepjblffeaaDoorShelf
import Derived.Test.YtkjilepjblffeaaDoorU7M2
set_option linter.unusedVariables false
set_option linter.unusedSimpArgs false
set_option maxRecDepth 100000
set_option maxHeartbeats 1000000
namespace Go.Proofs.YtkjilepjblffeaaDoor
open Go Go.RowKit Go.Proofs.YtkjilepjblffeaaDoor.Kit
noncomputable def C149 : Ctx := { P := Tryd.prog, f := 149, N := 63, c := bodyOf Tryd.f149 }
def S149 (F : List Ch) (H0 : Hp) (Aa0 : Option Addr) (ca0 : Nat) (la0 : Nat) (r : (List Blob)) (v : Value) (H : Hp) (cs : List Ch) : Prop := ∃ (ch0 : Ch), H0 = H ∧ v = .tuple #[] ∧ ch0 :: F = cs ∧ SlOwn kBlob 47 H Aa0 ca0 r ch0 ∧ la0 = r.length
theorem slices_stableCmpFunc_Blob.j4_c {w0 : World} {H : Hp} {F : List Ch} {r : (List Blob)} (backl2 : Int → (List Blob) → Int → Option (List Blob))
    (hbackl2 : ∀ (Aa0 : Option Addr) (ca0 : Nat) (la0 : Nat) (a1 : Int) (v_data0 : List Blob) (chv_data0 : Ch) (nv_data0 : Nat) (v_blockSize6 : Int) , nv_data0 = v_data0.length → la0 = nv_data0 → SlOwn kBlob 47 H Aa0 ca0 v_data0 chv_data0 → backl2 a1 v_data0 v_blockSize6 = some r → RunH C149 (S149 F H Aa0 ca0 la0 r) H w0 [.c [1, 1, 1, 1, 0, 0], .l [1, 1, 1, 1, 0, 0], .b 2] [(0, .slice Aa0 nv_data0 ca0), (1, .int .i64 a1), (2, .func (.func 123) #[] #[]), (6, .int .i64 v_blockSize6)] H (chv_data0 :: F)) : ∀ (Aa0 : Option Addr) (ca0 : Nat) (la0 : Nat) (a1 : Int) (v_blockSize6 : Int) (v_data0 : List Blob) (chv_data0 : Ch) (nv_data0 : Nat) , nv_data0 = v_data0.length → la0 = nv_data0 → SlOwn kBlob 47 H Aa0 ca0 v_data0 chv_data0 → slices_stableCmpFunc_Blob.j4 backl2 a1 v_blockSize6 v_data0 = some r → RunH C149 (S149 F H Aa0 ca0 la0 r) H w0 [.c [1, 1, 1, 1, 0, 0, 1, 0, 1, 1, 1], .b 3, .l [1, 1, 1, 1, 0, 0], .b 2] [(0, .slice Aa0 nv_data0 ca0), (1, .int .i64 a1), (2, .func (.func 123) #[] #[]), (6, .int .i64 v_blockSize6)] H (chv_data0 :: F) := by
  intro Aa0 ca0 la0 a1 v_blockSize6 v_data0 chv_data0 nv_data0 hnv_data0 hlv_data0 hov_data0 heq
  subst hnv_data0
  unfold slices_stableCmpFunc_Blob.j4 at heq
  refine RunH.reg (by kernel_rfl) ?_
  refine RgH.runk 3 [0, 1, 2, 6] (vs := []) (evs := []) (L' := [(0, .slice Aa0 v_data0.length ca0), (1, .int .i64 a1), (2, .func (.func 123) #[] #[]), (6, .int .i64 (w64 (v_blockSize6 * 2)))]) (by kernel_rfl) (by kernel_rfl) (fun _ _ => trivial) ?_
  refine RgH.done (by kernel_rfl) ?_
  refine RunH.adm 2 (es' := [.c [1, 1, 1, 1, 0, 0], .l [1, 1, 1, 1, 0, 0], .b 2]) (by kernel_rfl) ?_
  refine RunH.keep [0, 1, 2, 6] (L' := [(0, .slice Aa0 v_data0.length ca0), (1, .int .i64 a1), (2, .func (.func 123) #[] #[]), (6, .int .i64 (w64 (v_blockSize6 * 2)))]) (by kernel_rfl) ?_
  exact hbackl2 _ _ _ a1 v_data0 _ _ (w64 (v_blockSize6 * 2)) rfl hlv_data0 hov_data0 heq
theorem slices_stableCmpFunc_Blob.e3_c {w0 : World} {H : Hp} {F : List Ch} {r : (List Blob)} (backl2 : Int → (List Blob) → Int → Option (List Blob))
    (hbackl2 : ∀ (Aa0 : Option Addr) (ca0 : Nat) (la0 : Nat) (a1 : Int) (v_data0 : List Blob) (chv_data0 : Ch) (nv_data0 : Nat) (v_blockSize6 : Int) , nv_data0 = v_data0.length → la0 = nv_data0 → SlOwn kBlob 47 H Aa0 ca0 v_data0 chv_data0 → backl2 a1 v_data0 v_blockSize6 = some r → RunH C149 (S149 F H Aa0 ca0 la0 r) H w0 [.c [1, 1, 1, 1, 0, 0], .l [1, 1, 1, 1, 0, 0], .b 2] [(0, .slice Aa0 nv_data0 ca0), (1, .int .i64 a1), (2, .func (.func 123) #[] #[]), (6, .int .i64 v_blockSize6)] H (chv_data0 :: F)) : ∀ (Aa0 : Option Addr) (ca0 : Nat) (la0 : Nat) (a1 : Int) (v_data0 : List Blob) (chv_data0 : Ch) (v_blockSize6 : Int) (v_a7 : Int) , la0 = v_data0.length → SlOwn kBlob 47 H Aa0 ca0 v_data0 chv_data0 → slices_stableCmpFunc_Blob.e3 backl2 a1 v_data0 v_blockSize6 v_a7 = some r → RunH C149 (S149 F H Aa0 ca0 la0 r) H w0 [.c [1, 1, 1, 1, 0, 0, 1, 0, 1, 1, 0, 0], .c [1, 1, 1, 1, 0, 0, 1, 0, 1, 1, 0, 1], .c [1, 1, 1, 1, 0, 0, 1, 0, 1, 1, 1], .b 3, .l [1, 1, 1, 1, 0, 0], .b 2] [(0, .slice Aa0 v_data0.length ca0), (1, .int .i64 a1), (2, .func (.func 123) #[] #[]), (6, .int .i64 v_blockSize6), (7, .int .i64 v_a7)] H (chv_data0 :: F) := by
  intro Aa0 ca0 la0 a1 v_data0 chv_data0 v_blockSize6 v_a7 hlv_data0 hov_data0 heq
  unfold slices_stableCmpFunc_Blob.e3 at heq
  refine RunH.reg (by kernel_rfl) ?_
  refine RgH.runk 4 [0, 1, 2, 6, 7, 9] (vs := []) (evs := []) (L' := [(0, .slice Aa0 v_data0.length ca0), (1, .int .i64 a1), (2, .func (.func 123) #[] #[]), (6, .int .i64 v_blockSize6), (7, .int .i64 v_a7), (9, .int .i64 (w64 (v_a7 + v_blockSize6)))]) (by kernel_rfl) (by kernel_rfl) (fun _ _ => trivial) ?_
  refine RgH.done (by kernel_rfl) ?_
  refine RunH.adm 1 (es' := [.c [1, 1, 1, 1, 0, 0, 1, 0, 1, 1, 0, 1, 0], .c [1, 1, 1, 1, 0, 0, 1, 0, 1, 1, 0, 1, 1], .c [1, 1, 1, 1, 0, 0, 1, 0, 1, 1, 1], .b 3, .l [1, 1, 1, 1, 0, 0], .b 2]) (by kernel_rfl) ?_
  refine RunH.reg (by kernel_rfl) ?_
  refine RgH.runk 3 [0, 1, 2, 6, 7, 9, 54] (vs := []) (evs := []) (L' := [(0, .slice Aa0 v_data0.length ca0), (1, .int .i64 a1), (2, .func (.func 123) #[] #[]), (6, .int .i64 v_blockSize6), (7, .int .i64 v_a7), (9, .int .i64 (w64 (v_a7 + v_blockSize6))), (54, .bool (decide ((w64 (v_a7 + v_blockSize6)) < a1)))]) (by kernel_rfl) (by kernel_rfl) (fun _ _ => trivial) ?_
  refine RgH.done (by kernel_rfl) ?_
  rcases bool_cases (decide ((w64 (v_a7 + v_blockSize6)) < a1)) with hb2 | hb2
  · replace heq := bif_true hb2 heq
    refine RunH.condT (c := decide ((w64 (v_a7 + v_blockSize6)) < a1)) (by kernel_rfl) hb2 ?_
    refine RunH.reg (by kernel_rfl) ?_
    refine RgH.runk 5 [0, 1, 2, 6, 55, 56, 57, 58, 59] (vs := []) (evs := []) (L' := [(0, .slice Aa0 v_data0.length ca0), (1, .int .i64 a1), (2, .func (.func 123) #[] #[]), (6, .int .i64 v_blockSize6), (55, .slice Aa0 v_data0.length ca0), (56, .int .i64 v_a7), (57, .int .i64 (w64 (v_a7 + v_blockSize6))), (58, .int .i64 a1), (59, .func (.func 123) #[] #[])]) (by kernel_rfl) (by kernel_rfl) (fun _ _ => trivial) ?_
    obtain ⟨y2, hy2, heq⟩ := bind_some heq
    refine RgH.does (DoesH.call (d := 60) (g := 167) (args := #[.slice Aa0 v_data0.length ca0, .int .i64 v_a7, .int .i64 (w64 (v_a7 + v_blockSize6)), .int .i64 a1, .func (.func 123) #[] #[]]) (by kernel_rfl) (slices_symMergeCmpFunc_Blob_c (a0 := v_data0) (a1 := v_a7) (a2 := w64 (v_a7 + v_blockSize6)) (a3 := a1) hov_data0 rfl hy2)) ?_
    rintro _ _ _ _ ⟨_, rfl, ch2, rfl, rfl, rfl, ho2, hn2⟩
    refine RgH.done (by kernel_rfl) ?_
    refine RunH.keep [0, 1, 2, 6] (L' := [(0, .slice Aa0 v_data0.length ca0), (1, .int .i64 a1), (2, .func (.func 123) #[] #[]), (6, .int .i64 v_blockSize6)]) (by kernel_rfl) ?_
    exact (slices_stableCmpFunc_Blob.j4_c (backl2 := backl2) hbackl2) _ _ _ a1 v_blockSize6 y2 _ _ hn2 hlv_data0 ho2 heq
  · replace heq := bif_false hb2 heq
    refine RunH.condF (c := decide ((w64 (v_a7 + v_blockSize6)) < a1)) (by kernel_rfl) hb2 ?_
    refine RunH.adm 1 (es' := [.c [1, 1, 1, 1, 0, 0, 1, 0, 1, 1, 1], .b 3, .l [1, 1, 1, 1, 0, 0], .b 2]) (by kernel_rfl) ?_
    refine RunH.keep [0, 1, 2, 6] (L' := [(0, .slice Aa0 v_data0.length ca0), (1, .int .i64 a1), (2, .func (.func 123) #[] #[]), (6, .int .i64 v_blockSize6)]) (by kernel_rfl) ?_
    exact (slices_stableCmpFunc_Blob.j4_c (backl2 := backl2) hbackl2) _ _ _ a1 v_blockSize6 v_data0 _ _ rfl hlv_data0 hov_data0 heq
theorem slices_stableCmpFunc_Blob.l5_c {w0 : World} {H : Hp} {F : List Ch} {r : (List Blob)} (e3 : Int → (List Blob) → Int → Int → Option (List Blob))
    (he3 : ∀ (Aa0 : Option Addr) (ca0 : Nat) (la0 : Nat) (a1 : Int) (v_data0 : List Blob) (chv_data0 : Ch) (v_blockSize6 : Int) (v_a7 : Int) , la0 = v_data0.length → SlOwn kBlob 47 H Aa0 ca0 v_data0 chv_data0 → e3 a1 v_data0 v_blockSize6 v_a7 = some r → RunH C149 (S149 F H Aa0 ca0 la0 r) H w0 [.c [1, 1, 1, 1, 0, 0, 1, 0, 1, 1, 0, 0], .c [1, 1, 1, 1, 0, 0, 1, 0, 1, 1, 0, 1], .c [1, 1, 1, 1, 0, 0, 1, 0, 1, 1, 1], .b 3, .l [1, 1, 1, 1, 0, 0], .b 2] [(0, .slice Aa0 v_data0.length ca0), (1, .int .i64 a1), (2, .func (.func 123) #[] #[]), (6, .int .i64 v_blockSize6), (7, .int .i64 v_a7)] H (chv_data0 :: F)) : ∀ (k : Nat), ∀ (Aa0 : Option Addr) (ca0 : Nat) (la0 : Nat) (a1 : Int) (v_blockSize6 : Int) (v_data0 : List Blob) (chv_data0 : Ch) (nv_data0 : Nat) (v_a7 : Int) (v_b8 : Int) , nv_data0 = v_data0.length → la0 = nv_data0 → SlOwn kBlob 47 H Aa0 ca0 v_data0 chv_data0 → slices_stableCmpFunc_Blob.l5 e3 k a1 v_blockSize6 v_data0 v_a7 v_b8 = some r → RunH C149 (S149 F H Aa0 ca0 la0 r) H w0 [.c [1, 1, 1, 1, 0, 0, 1, 0, 1, 0, 0, 0], .l [1, 1, 1, 1, 0, 0, 1, 0, 1, 0, 0, 0], .b 4, .c [1, 1, 1, 1, 0, 0, 1, 0, 1, 1], .b 3, .l [1, 1, 1, 1, 0, 0], .b 2] [(0, .slice Aa0 nv_data0 ca0), (1, .int .i64 a1), (2, .func (.func 123) #[] #[]), (6, .int .i64 v_blockSize6), (7, .int .i64 v_a7), (8, .int .i64 v_b8)] H (chv_data0 :: F) := by
  intro k
  induction k with
  | zero => intro Aa0 ca0 la0 a1 v_blockSize6 v_data0 chv_data0 nv_data0 v_a7 v_b8 hnv_data0 hlv_data0 hov_data0 heq; exact nomatch (show (none : Option (List Blob)) = some r from heq)
  | succ k ihk =>
    intro Aa0 ca0 la0 a1 v_blockSize6 v_data0 chv_data0 nv_data0 v_a7 v_b8 hnv_data0 hlv_data0 hov_data0 heq
    subst hnv_data0
    rw [slices_stableCmpFunc_Blob.l5] at heq
    refine RunH.adm 2 (es' := [.c [1, 1, 1, 1, 0, 0, 1, 0, 1, 0, 0, 0, 0, 0], .c [1, 1, 1, 1, 0, 0, 1, 0, 1, 0, 0, 0, 0, 1], .c [1, 1, 1, 1, 0, 0, 1, 0, 1, 0, 0, 0, 1], .l [1, 1, 1, 1, 0, 0, 1, 0, 1, 0, 0, 0], .b 4, .c [1, 1, 1, 1, 0, 0, 1, 0, 1, 1], .b 3, .l [1, 1, 1, 1, 0, 0], .b 2]) (by kernel_rfl) ?_
    refine RunH.reg (by kernel_rfl) ?_
    refine RgH.runk 3 [0, 1, 2, 6, 7, 8, 35] (vs := []) (evs := []) (L' := [(0, .slice Aa0 v_data0.length ca0), (1, .int .i64 a1), (2, .func (.func 123) #[] #[]), (6, .int .i64 v_blockSize6), (7, .int .i64 v_a7), (8, .int .i64 v_b8), (35, .bool (decide (v_b8 ≤ a1)))]) (by kernel_rfl) (by kernel_rfl) (fun _ _ => trivial) ?_
    refine RgH.done (by kernel_rfl) ?_
    rcases bool_cases (decide (v_b8 ≤ a1)) with hb3 | hb3
    · replace heq := bif_true hb3 heq
      refine RunH.condT (c := decide (v_b8 ≤ a1)) (by kernel_rfl) hb3 ?_
      refine RunH.adm 3 (es' := [.c [1, 1, 1, 1, 0, 0, 1, 0, 1, 0, 0, 0, 1, 0, 0], .c [1, 1, 1, 1, 0, 0, 1, 0, 1, 0, 0, 0, 1, 0, 1], .b 5, .l [1, 1, 1, 1, 0, 0, 1, 0, 1, 0, 0, 0], .b 4, .c [1, 1, 1, 1, 0, 0, 1, 0, 1, 1], .b 3, .l [1, 1, 1, 1, 0, 0], .b 2]) (by kernel_rfl) ?_
      refine RunH.reg (by kernel_rfl) ?_
      refine RgH.runk 7 [0, 1, 2, 6, 8, 36, 37, 40, 41, 42] (vs := []) (evs := []) (L' := [(0, .slice Aa0 v_data0.length ca0), (1, .int .i64 a1), (2, .func (.func 123) #[] #[]), (6, .int .i64 v_blockSize6), (8, .int .i64 v_b8), (36, .slice Aa0 v_data0.length ca0), (37, .int .i64 v_a7), (40, .int .i64 (w64 (v_a7 + v_blockSize6))), (41, .int .i64 v_b8), (42, .func (.func 123) #[] #[])]) (by kernel_rfl) (by kernel_rfl) (fun _ _ => trivial) ?_
      obtain ⟨y3, hy3, heq⟩ := bind_some heq
      refine RgH.does (DoesH.call (d := 43) (g := 167) (args := #[.slice Aa0 v_data0.length ca0, .int .i64 v_a7, .int .i64 (w64 (v_a7 + v_blockSize6)), .int .i64 v_b8, .func (.func 123) #[] #[]]) (by kernel_rfl) (slices_symMergeCmpFunc_Blob_c (a0 := v_data0) (a1 := v_a7) (a2 := w64 (v_a7 + v_blockSize6)) (a3 := v_b8) hov_data0 rfl hy3)) ?_
      rintro _ _ _ _ ⟨_, rfl, ch3, rfl, rfl, rfl, ho3, hn3⟩
      refine RgH.done (by kernel_rfl) ?_
      refine RunH.adm 1 (es' := [.c [1, 1, 1, 1, 0, 0, 1, 0, 1, 0, 0, 0, 1, 0, 1, 0], .c [1, 1, 1, 1, 0, 0, 1, 0, 1, 0, 0, 0, 1, 0, 1, 1], .b 5, .l [1, 1, 1, 1, 0, 0, 1, 0, 1, 0, 0, 0], .b 4, .c [1, 1, 1, 1, 0, 0, 1, 0, 1, 1], .b 3, .l [1, 1, 1, 1, 0, 0], .b 2]) (by kernel_rfl) ?_
      refine RunH.reg (by kernel_rfl) ?_
      refine RgH.runk 2 [0, 1, 2, 6, 7, 8] (vs := []) (evs := []) (L' := [(0, .slice Aa0 v_data0.length ca0), (1, .int .i64 a1), (2, .func (.func 123) #[] #[]), (6, .int .i64 v_blockSize6), (7, .int .i64 v_b8), (8, .int .i64 v_b8)]) (by kernel_rfl) (by kernel_rfl) (fun _ _ => trivial) ?_
      refine RgH.done (by kernel_rfl) ?_
      refine RunH.reg (by kernel_rfl) ?_
      refine RgH.runk 5 [0, 1, 2, 6, 7, 8] (vs := []) (evs := []) (L' := [(0, .slice Aa0 v_data0.length ca0), (1, .int .i64 a1), (2, .func (.func 123) #[] #[]), (6, .int .i64 v_blockSize6), (7, .int .i64 v_b8), (8, .int .i64 (w64 (v_b8 + (w64 (2 * v_blockSize6)))))]) (by kernel_rfl) (by kernel_rfl) (fun _ _ => trivial) ?_
      refine RgH.done (by kernel_rfl) ?_
      refine RunH.adm 2 (es' := [.c [1, 1, 1, 1, 0, 0, 1, 0, 1, 0, 0, 0], .l [1, 1, 1, 1, 0, 0, 1, 0, 1, 0, 0, 0], .b 4, .c [1, 1, 1, 1, 0, 0, 1, 0, 1, 1], .b 3, .l [1, 1, 1, 1, 0, 0], .b 2]) (by kernel_rfl) ?_
      refine RunH.keep [0, 1, 2, 6, 7, 8] (L' := [(0, .slice Aa0 v_data0.length ca0), (1, .int .i64 a1), (2, .func (.func 123) #[] #[]), (6, .int .i64 v_blockSize6), (7, .int .i64 v_b8), (8, .int .i64 (w64 (v_b8 + (w64 (2 * v_blockSize6)))))]) (by kernel_rfl) ?_
      exact ihk _ _ _ a1 v_blockSize6 y3 _ _ v_b8 (w64 (v_b8 + (w64 (2 * v_blockSize6)))) hn3 hlv_data0 ho3 heq
    · replace heq := bif_false hb3 heq
      refine RunH.condF (c := decide (v_b8 ≤ a1)) (by kernel_rfl) hb3 ?_
      refine RunH.adm 3 (es' := [.c [1, 1, 1, 1, 0, 0, 1, 0, 1, 1, 0, 0], .c [1, 1, 1, 1, 0, 0, 1, 0, 1, 1, 0, 1], .c [1, 1, 1, 1, 0, 0, 1, 0, 1, 1, 1], .b 3, .l [1, 1, 1, 1, 0, 0], .b 2]) (by kernel_rfl) ?_
      refine RunH.keep [0, 1, 2, 6, 7] (L' := [(0, .slice Aa0 v_data0.length ca0), (1, .int .i64 a1), (2, .func (.func 123) #[] #[]), (6, .int .i64 v_blockSize6), (7, .int .i64 v_a7)]) (by kernel_rfl) ?_
      exact he3 _ _ _ a1 v_data0 _ v_blockSize6 v_a7 hlv_data0 hov_data0 heq
theorem slices_stableCmpFunc_Blob.l2_c {w0 : World} {H : Hp} {F : List Ch} {r : (List Blob)} : ∀ (k : Nat), ∀ (Aa0 : Option Addr) (ca0 : Nat) (la0 : Nat) (a1 : Int) (v_data0 : List Blob) (chv_data0 : Ch) (nv_data0 : Nat) (v_blockSize6 : Int) , nv_data0 = v_data0.length → la0 = nv_data0 → SlOwn kBlob 47 H Aa0 ca0 v_data0 chv_data0 → slices_stableCmpFunc_Blob.l2 k a1 v_data0 v_blockSize6 = some r → RunH C149 (S149 F H Aa0 ca0 la0 r) H w0 [.c [1, 1, 1, 1, 0, 0], .l [1, 1, 1, 1, 0, 0], .b 2] [(0, .slice Aa0 nv_data0 ca0), (1, .int .i64 a1), (2, .func (.func 123) #[] #[]), (6, .int .i64 v_blockSize6)] H (chv_data0 :: F) := by
  intro k
  induction k with
  | zero => intro Aa0 ca0 la0 a1 v_data0 chv_data0 nv_data0 v_blockSize6 hnv_data0 hlv_data0 hov_data0 heq; exact nomatch (show (none : Option (List Blob)) = some r from heq)
  | succ k ihk =>
    intro Aa0 ca0 la0 a1 v_data0 chv_data0 nv_data0 v_blockSize6 hnv_data0 hlv_data0 hov_data0 heq
    subst hnv_data0
    rw [slices_stableCmpFunc_Blob.l2] at heq
    refine RunH.adm 2 (es' := [.c [1, 1, 1, 1, 0, 0, 0, 0], .c [1, 1, 1, 1, 0, 0, 0, 1], .c [1, 1, 1, 1, 0, 0, 1], .l [1, 1, 1, 1, 0, 0], .b 2]) (by kernel_rfl) ?_
    refine RunH.reg (by kernel_rfl) ?_
    refine RgH.runk 3 [0, 1, 2, 6, 30] (vs := []) (evs := []) (L' := [(0, .slice Aa0 v_data0.length ca0), (1, .int .i64 a1), (2, .func (.func 123) #[] #[]), (6, .int .i64 v_blockSize6), (30, .bool (decide (v_blockSize6 < a1)))]) (by kernel_rfl) (by kernel_rfl) (fun _ _ => trivial) ?_
    refine RgH.done (by kernel_rfl) ?_
    rcases bool_cases (decide (v_blockSize6 < a1)) with hb1 | hb1
    · replace heq := bif_true hb1 heq
      refine RunH.condT (c := decide (v_blockSize6 < a1)) (by kernel_rfl) hb1 ?_
      refine RunH.adm 3 (es' := [.c [1, 1, 1, 1, 0, 0, 1, 0, 0], .c [1, 1, 1, 1, 0, 0, 1, 0, 1], .b 3, .l [1, 1, 1, 1, 0, 0], .b 2]) (by kernel_rfl) ?_
      refine RunH.reg (by kernel_rfl) ?_
      refine RgH.runk 4 [0, 1, 2, 6, 7, 8] (vs := []) (evs := []) (L' := [(0, .slice Aa0 v_data0.length ca0), (1, .int .i64 a1), (2, .func (.func 123) #[] #[]), (6, .int .i64 v_blockSize6), (7, .int .i64 0), (8, .int .i64 (w64 (2 * v_blockSize6)))]) (by kernel_rfl) (by kernel_rfl) (fun _ _ => trivial) ?_
      refine RgH.done (by kernel_rfl) ?_
      refine RunH.adm 3 (es' := [.c [1, 1, 1, 1, 0, 0, 1, 0, 1, 0, 0, 0], .l [1, 1, 1, 1, 0, 0, 1, 0, 1, 0, 0, 0], .b 4, .c [1, 1, 1, 1, 0, 0, 1, 0, 1, 1], .b 3, .l [1, 1, 1, 1, 0, 0], .b 2]) (by kernel_rfl) ?_
      refine RunH.keep [0, 1, 2, 6, 7, 8] (L' := [(0, .slice Aa0 v_data0.length ca0), (1, .int .i64 a1), (2, .func (.func 123) #[] #[]), (6, .int .i64 v_blockSize6), (7, .int .i64 0), (8, .int .i64 (w64 (2 * v_blockSize6)))]) (by kernel_rfl) ?_
      exact ((slices_stableCmpFunc_Blob.l5_c (e3 := slices_stableCmpFunc_Blob.e3 ((slices_stableCmpFunc_Blob.l2 k))) (slices_stableCmpFunc_Blob.e3_c (backl2 := (slices_stableCmpFunc_Blob.l2 k)) ihk)) big) _ _ _ a1 v_blockSize6 v_data0 _ _ 0 (w64 (2 * v_blockSize6)) rfl hlv_data0 hov_data0 heq
    · replace heq := bif_false hb1 heq
      refine RunH.condF (c := decide (v_blockSize6 < a1)) (by kernel_rfl) hb1 ?_
      refine RunH.adm 1 (es' := []) (by kernel_rfl) ?_
      obtain rfl := Option.some.inj heq
      exact RunH.done (by kernel_rfl) Tryd.func149 (v := .tuple #[]) (by kernel_rfl) ⟨chv_data0, rfl, rfl, rfl, hov_data0, (hlv_data0.trans rfl)⟩
theorem slices_stableCmpFunc_Blob.e1_c {w0 : World} {H : Hp} {F : List Ch} {r : (List Blob)} : ∀ (Aa0 : Option Addr) (ca0 : Nat) (la0 : Nat) (a1 : Int) (v_data0 : List Blob) (chv_data0 : Ch) (nv_data0 : Nat) (v_a7 : Int) , nv_data0 = v_data0.length → la0 = nv_data0 → SlOwn kBlob 47 H Aa0 ca0 v_data0 chv_data0 → slices_stableCmpFunc_Blob.e1 a1 v_data0 v_a7 = some r → RunH C149 (S149 F H Aa0 ca0 la0 r) H w0 [.c [1, 1, 1, 0], .c [1, 1, 1, 1]] [(0, .slice Aa0 nv_data0 ca0), (1, .int .i64 a1), (2, .func (.func 123) #[] #[]), (6, .int .i64 20), (7, .int .i64 v_a7)] H (chv_data0 :: F) := by
  intro Aa0 ca0 la0 a1 v_data0 chv_data0 nv_data0 v_a7 hnv_data0 hlv_data0 hov_data0 heq
  subst hnv_data0
  unfold slices_stableCmpFunc_Blob.e1 at heq
  refine RunH.reg (by kernel_rfl) ?_
  refine RgH.runk 4 [0, 1, 2, 6, 23, 24, 25, 26] (vs := []) (evs := []) (L' := [(0, .slice Aa0 v_data0.length ca0), (1, .int .i64 a1), (2, .func (.func 123) #[] #[]), (6, .int .i64 20), (23, .slice Aa0 v_data0.length ca0), (24, .int .i64 v_a7), (25, .int .i64 a1), (26, .func (.func 123) #[] #[])]) (by kernel_rfl) (by kernel_rfl) (fun _ _ => trivial) ?_
  obtain ⟨y1, hy1, heq⟩ := bind_some heq
  refine RgH.does (DoesH.call (d := 27) (g := 166) (args := #[.slice Aa0 v_data0.length ca0, .int .i64 v_a7, .int .i64 a1, .func (.func 123) #[] #[]]) (by kernel_rfl) (slices_insertionSortCmpFunc_Blob_c (a0 := v_data0) (a1 := v_a7) (a2 := a1) hov_data0 rfl hy1)) ?_
  rintro _ _ _ _ ⟨_, rfl, ch1, rfl, rfl, rfl, ho1, hn1⟩
  refine RgH.done (by kernel_rfl) ?_
  refine RunH.adm 2 (es' := [.c [1, 1, 1, 1, 0, 0], .l [1, 1, 1, 1, 0, 0], .b 2]) (by kernel_rfl) ?_
  refine RunH.keep [0, 1, 2, 6] (L' := [(0, .slice Aa0 v_data0.length ca0), (1, .int .i64 a1), (2, .func (.func 123) #[] #[]), (6, .int .i64 20)]) (by kernel_rfl) ?_
  exact ((slices_stableCmpFunc_Blob.l2_c) big) _ _ _ a1 y1 _ _ 20 hn1 hlv_data0 ho1 heq
theorem slices_stableCmpFunc_Blob.l6_c {w0 : World} {H : Hp} {F : List Ch} {r : (List Blob)} (e1 : Int → (List Blob) → Int → Option (List Blob))
    (he1 : ∀ (Aa0 : Option Addr) (ca0 : Nat) (la0 : Nat) (a1 : Int) (v_data0 : List Blob) (chv_data0 : Ch) (nv_data0 : Nat) (v_a7 : Int) , nv_data0 = v_data0.length → la0 = nv_data0 → SlOwn kBlob 47 H Aa0 ca0 v_data0 chv_data0 → e1 a1 v_data0 v_a7 = some r → RunH C149 (S149 F H Aa0 ca0 la0 r) H w0 [.c [1, 1, 1, 0], .c [1, 1, 1, 1]] [(0, .slice Aa0 nv_data0 ca0), (1, .int .i64 a1), (2, .func (.func 123) #[] #[]), (6, .int .i64 20), (7, .int .i64 v_a7)] H (chv_data0 :: F)) : ∀ (k : Nat), ∀ (Aa0 : Option Addr) (ca0 : Nat) (la0 : Nat) (a1 : Int) (v_data0 : List Blob) (chv_data0 : Ch) (nv_data0 : Nat) (v_a7 : Int) (v_b8 : Int) , nv_data0 = v_data0.length → la0 = nv_data0 → SlOwn kBlob 47 H Aa0 ca0 v_data0 chv_data0 → slices_stableCmpFunc_Blob.l6 e1 k a1 v_data0 v_a7 v_b8 = some r → RunH C149 (S149 F H Aa0 ca0 la0 r) H w0 [.c [1, 1, 0, 0, 0], .l [1, 1, 0, 0, 0], .b 0, .c [1, 1, 1]] [(0, .slice Aa0 nv_data0 ca0), (1, .int .i64 a1), (2, .func (.func 123) #[] #[]), (6, .int .i64 20), (7, .int .i64 v_a7), (8, .int .i64 v_b8)] H (chv_data0 :: F) := by
  intro k
  induction k with
  | zero => intro Aa0 ca0 la0 a1 v_data0 chv_data0 nv_data0 v_a7 v_b8 hnv_data0 hlv_data0 hov_data0 heq; exact nomatch (show (none : Option (List Blob)) = some r from heq)
  | succ k ihk =>
    intro Aa0 ca0 la0 a1 v_data0 chv_data0 nv_data0 v_a7 v_b8 hnv_data0 hlv_data0 hov_data0 heq
    subst hnv_data0
    rw [slices_stableCmpFunc_Blob.l6] at heq
    refine RunH.adm 2 (es' := [.c [1, 1, 0, 0, 0, 0, 0], .c [1, 1, 0, 0, 0, 0, 1], .c [1, 1, 0, 0, 0, 1], .l [1, 1, 0, 0, 0], .b 0, .c [1, 1, 1]]) (by kernel_rfl) ?_
    refine RunH.reg (by kernel_rfl) ?_
    refine RgH.runk 3 [0, 1, 2, 6, 7, 8, 13] (vs := []) (evs := []) (L' := [(0, .slice Aa0 v_data0.length ca0), (1, .int .i64 a1), (2, .func (.func 123) #[] #[]), (6, .int .i64 20), (7, .int .i64 v_a7), (8, .int .i64 v_b8), (13, .bool (decide (v_b8 ≤ a1)))]) (by kernel_rfl) (by kernel_rfl) (fun _ _ => trivial) ?_
    refine RgH.done (by kernel_rfl) ?_
    rcases bool_cases (decide (v_b8 ≤ a1)) with hb4 | hb4
    · replace heq := bif_true hb4 heq
      refine RunH.condT (c := decide (v_b8 ≤ a1)) (by kernel_rfl) hb4 ?_
      refine RunH.adm 3 (es' := [.c [1, 1, 0, 0, 0, 1, 0, 0], .c [1, 1, 0, 0, 0, 1, 0, 1], .b 1, .l [1, 1, 0, 0, 0], .b 0, .c [1, 1, 1]]) (by kernel_rfl) ?_
      refine RunH.reg (by kernel_rfl) ?_
      refine RgH.runk 4 [0, 1, 2, 6, 8, 14, 15, 16, 17] (vs := []) (evs := []) (L' := [(0, .slice Aa0 v_data0.length ca0), (1, .int .i64 a1), (2, .func (.func 123) #[] #[]), (6, .int .i64 20), (8, .int .i64 v_b8), (14, .slice Aa0 v_data0.length ca0), (15, .int .i64 v_a7), (16, .int .i64 v_b8), (17, .func (.func 123) #[] #[])]) (by kernel_rfl) (by kernel_rfl) (fun _ _ => trivial) ?_
      obtain ⟨y4, hy4, heq⟩ := bind_some heq
      refine RgH.does (DoesH.call (d := 18) (g := 166) (args := #[.slice Aa0 v_data0.length ca0, .int .i64 v_a7, .int .i64 v_b8, .func (.func 123) #[] #[]]) (by kernel_rfl) (slices_insertionSortCmpFunc_Blob_c (a0 := v_data0) (a1 := v_a7) (a2 := v_b8) hov_data0 rfl hy4)) ?_
      rintro _ _ _ _ ⟨_, rfl, ch4, rfl, rfl, rfl, ho4, hn4⟩
      refine RgH.done (by kernel_rfl) ?_
      refine RunH.adm 1 (es' := [.c [1, 1, 0, 0, 0, 1, 0, 1, 0], .c [1, 1, 0, 0, 0, 1, 0, 1, 1], .b 1, .l [1, 1, 0, 0, 0], .b 0, .c [1, 1, 1]]) (by kernel_rfl) ?_
      refine RunH.reg (by kernel_rfl) ?_
      refine RgH.runk 2 [0, 1, 2, 6, 7, 8] (vs := []) (evs := []) (L' := [(0, .slice Aa0 v_data0.length ca0), (1, .int .i64 a1), (2, .func (.func 123) #[] #[]), (6, .int .i64 20), (7, .int .i64 v_b8), (8, .int .i64 v_b8)]) (by kernel_rfl) (by kernel_rfl) (fun _ _ => trivial) ?_
      refine RgH.done (by kernel_rfl) ?_
      refine RunH.reg (by kernel_rfl) ?_
      refine RgH.runk 4 [0, 1, 2, 6, 7, 8] (vs := []) (evs := []) (L' := [(0, .slice Aa0 v_data0.length ca0), (1, .int .i64 a1), (2, .func (.func 123) #[] #[]), (6, .int .i64 20), (7, .int .i64 v_b8), (8, .int .i64 (w64 (v_b8 + 20)))]) (by kernel_rfl) (by kernel_rfl) (fun _ _ => trivial) ?_
      refine RgH.done (by kernel_rfl) ?_
      refine RunH.adm 2 (es' := [.c [1, 1, 0, 0, 0], .l [1, 1, 0, 0, 0], .b 0, .c [1, 1, 1]]) (by kernel_rfl) ?_
      refine RunH.keep [0, 1, 2, 6, 7, 8] (L' := [(0, .slice Aa0 v_data0.length ca0), (1, .int .i64 a1), (2, .func (.func 123) #[] #[]), (6, .int .i64 20), (7, .int .i64 v_b8), (8, .int .i64 (w64 (v_b8 + 20)))]) (by kernel_rfl) ?_
      exact ihk _ _ _ a1 y4 _ _ v_b8 (w64 (v_b8 + 20)) hn4 hlv_data0 ho4 heq
    · replace heq := bif_false hb4 heq
      refine RunH.condF (c := decide (v_b8 ≤ a1)) (by kernel_rfl) hb4 ?_
      refine RunH.adm 2 (es' := [.c [1, 1, 1, 0], .c [1, 1, 1, 1]]) (by kernel_rfl) ?_
      refine RunH.keep [0, 1, 2, 6, 7] (L' := [(0, .slice Aa0 v_data0.length ca0), (1, .int .i64 a1), (2, .func (.func 123) #[] #[]), (6, .int .i64 20), (7, .int .i64 v_a7)]) (by kernel_rfl) ?_
      exact he1 _ _ _ a1 v_data0 _ _ v_a7 rfl hlv_data0 hov_data0 heq
theorem slices_stableCmpFunc_Blob_c {w0 : World} {H : Hp} {F : List Ch} {a0 : List Blob} {Aa0 : Option Addr} {na0 : Nat} {ca0 : Nat} {cha0 : Ch} {a1 : Int} {r : (List Blob)} (hoa0 : SlOwn kBlob 47 H Aa0 ca0 a0 cha0) (hna0 : na0 = a0.length) (heq : slices_stableCmpFunc_Blob.f a0 a1 = some r) : CallsH Tryd.prog 149 #[.slice Aa0 na0 ca0, .int .i64 a1, .func (.func 123) #[] #[]] H w0 (cha0 :: F) (S149 F H Aa0 ca0 na0 r) := by
  refine calls_of_runH (F := C149) Tryd.func149 (by kernel_rfl) Tryd.ntmps149 (args := [.slice Aa0 na0 ca0, .int .i64 a1, .func (.func 123) #[] #[]]) (by kernel_rfl) ?_
  suffices key0 : ∀ (la0 : Nat), la0 = na0 → RunH C149 (S149 F H Aa0 ca0 la0 r) H w0 [.c []] (argL 0 [.slice Aa0 na0 ca0, .int .i64 a1, .func (.func 123) #[] #[]]) H (cha0 :: F) from key0 na0 rfl
  intro la0 hla0
  subst hna0
  unfold slices_stableCmpFunc_Blob.f at heq
  refine RunH.adm 1 (es' := [.c [0], .c [1]]) (by kernel_rfl) ?_
  refine RunH.reg (by kernel_rfl) ?_
  refine RgH.runk 1 [0, 1, 2, 6] (vs := []) (evs := []) (L' := [(0, .slice Aa0 a0.length ca0), (1, .int .i64 a1), (2, .func (.func 123) #[] #[]), (6, .int .i64 20)]) (by kernel_rfl) (by kernel_rfl) (fun _ _ => trivial) ?_
  refine RgH.done (by kernel_rfl) ?_
  refine RunH.adm 1 (es' := [.c [1, 0], .c [1, 1]]) (by kernel_rfl) ?_
  refine RunH.reg (by kernel_rfl) ?_
  refine RgH.runk 3 [0, 1, 2, 6, 7, 8] (vs := []) (evs := []) (L' := [(0, .slice Aa0 a0.length ca0), (1, .int .i64 a1), (2, .func (.func 123) #[] #[]), (6, .int .i64 20), (7, .int .i64 0), (8, .int .i64 20)]) (by kernel_rfl) (by kernel_rfl) (fun _ _ => trivial) ?_
  refine RgH.done (by kernel_rfl) ?_
  refine RunH.adm 3 (es' := [.c [1, 1, 0, 0, 0], .l [1, 1, 0, 0, 0], .b 0, .c [1, 1, 1]]) (by kernel_rfl) ?_
  refine RunH.keep [0, 1, 2, 6, 7, 8] (L' := [(0, .slice Aa0 a0.length ca0), (1, .int .i64 a1), (2, .func (.func 123) #[] #[]), (6, .int .i64 20), (7, .int .i64 0), (8, .int .i64 20)]) (by kernel_rfl) ?_
  exact ((slices_stableCmpFunc_Blob.l6_c (e1 := slices_stableCmpFunc_Blob.e1) (slices_stableCmpFunc_Blob.e1_c)) big) _ _ _ a1 a0 _ _ 0 20 rfl hla0 hoa0 heq
noncomputable def C122 : Ctx := { P := Tryd.prog, f := 122, N := 9, c := bodyOf Tryd.f122 }
def S122 (F : List Ch) (H0 : Hp) (Aa0 : Option Addr) (ca0 : Nat) (la0 : Nat) (r : (List Blob)) (v : Value) (H : Hp) (cs : List Ch) : Prop := ∃ (ch0 : Ch), H0 = H ∧ v = .tuple #[] ∧ ch0 :: F = cs ∧ SlOwn kBlob 47 H Aa0 ca0 r ch0 ∧ la0 = r.length
theorem slices_SortStableFunc_Blob_c {w0 : World} {H : Hp} {F : List Ch} {a0 : List Blob} {Aa0 : Option Addr} {na0 : Nat} {ca0 : Nat} {cha0 : Ch} {r : (List Blob)} (hoa0 : SlOwn kBlob 47 H Aa0 ca0 a0 cha0) (hna0 : na0 = a0.length) (heq : slices_SortStableFunc_Blob.f a0 = some r) : CallsH Tryd.prog 122 #[.slice Aa0 na0 ca0, .func (.func 123) #[] #[]] H w0 (cha0 :: F) (S122 F H Aa0 ca0 na0 r) := by
  refine calls_of_runH (F := C122) Tryd.func122 (by kernel_rfl) Tryd.ntmps122 (args := [.slice Aa0 na0 ca0, .func (.func 123) #[] #[]]) (by kernel_rfl) ?_
  suffices key0 : ∀ (la0 : Nat), la0 = na0 → RunH C122 (S122 F H Aa0 ca0 la0 r) H w0 [.c []] (argL 0 [.slice Aa0 na0 ca0, .func (.func 123) #[] #[]]) H (cha0 :: F) from key0 na0 rfl
  intro la0 hla0
  subst hna0
  unfold slices_SortStableFunc_Blob.f at heq
  refine RunH.reg (by kernel_rfl) ?_
  refine RgH.runk 4 [0, 4, 6, 7] (vs := []) (evs := []) (L' := [(0, .slice Aa0 a0.length ca0), (4, .slice Aa0 a0.length ca0), (6, .int .i64 (a0.length : Int)), (7, .func (.func 123) #[] #[])]) (by kernel_rfl) (by kernel_rfl) (fun _ _ => trivial) ?_
  obtain ⟨y1, hy1, heq⟩ := bind_some heq
  refine RgH.does (DoesH.call (d := 8) (g := 149) (args := #[.slice Aa0 a0.length ca0, .int .i64 (a0.length : Int), .func (.func 123) #[] #[]]) (by kernel_rfl) (slices_stableCmpFunc_Blob_c (a0 := a0) (a1 := (a0.length : Int)) hoa0 rfl hy1)) ?_
  rintro _ _ _ _ ⟨_, rfl, ch1, rfl, rfl, rfl, ho1, hn1⟩
  refine RgH.done (by kernel_rfl) ?_
  obtain rfl := Option.some.inj heq
  exact RunH.done (by kernel_rfl) Tryd.func122 (v := .tuple #[]) (by kernel_rfl) ⟨ch1, rfl, rfl, rfl, ho1, (hla0.trans hn1)⟩
noncomputable def C84 : Ctx := { P := Tryd.prog, f := 84, N := 14, c := bodyOf Tryd.f84 }
def S84 (F : List Ch) (H0 : Hp) (r : (List Blob)) (v : Value) (H : Hp) (cs : List Ch) : Prop := ∃ (A0 : Option Addr) (c0 : Nat) (ch0 : Ch), H0 = H ∧ v = .slice A0 r.length c0 ∧ ch0 :: F = cs ∧ SlOwn kBlob 47 H A0 c0 r ch0
theorem cache_leaving_c {w0 : World} {H : Hp} {F : List Ch} {a0 : Cache} {Aa0_2 : Option Addr} {na0_2 : Nat} {ca0_2 : Nat} {Aa0_3 : Option Addr} {na0_3 : Nat} {ca0_3 : Nat} {a1 : Int} {r : (List Blob)} (hra0_2 : Rw kBlob H F Aa0_2 a0.Blobs) (hca0_2 : na0_2 ≤ ca0_2) (hna0_2 : na0_2 = a0.Blobs.length) (hra0_3 : Rw kEntry H F Aa0_3 a0.Entries) (hca0_3 : na0_3 ≤ ca0_3) (hna0_3 : na0_3 = a0.Entries.length) (heq : cache_leaving.f a0 a1 = some r) : CallsH Tryd.prog 84 #[.agg #[.int .i64 a0.Room, .int .i64 a0.Lease, .slice Aa0_2 na0_2 ca0_2, .slice Aa0_3 na0_3 ca0_3], .int .i64 a1] H w0 (F) (S84 F H r) := by
  refine calls_of_runH (F := C84) Tryd.func84 (by kernel_rfl) Tryd.ntmps84 (args := [.agg #[.int .i64 a0.Room, .int .i64 a0.Lease, .slice Aa0_2 na0_2 ca0_2, .slice Aa0_3 na0_3 ca0_3], .int .i64 a1]) (by kernel_rfl) ?_
  subst hna0_2
  subst hna0_3
  unfold cache_leaving.f at heq
  refine RunH.adm 1 (es' := [.c [0], .c [1]]) (by kernel_rfl) ?_
  refine RunH.reg (by kernel_rfl) ?_
  refine RgH.does (DoesH.new (d := 2) (v := fun g => .pointer (some ⟨g, 0, none⟩)) (o := fun g => .cells #[.int .i64 a0.Room, .int .i64 a0.Lease, .slice Aa0_2 a0.Blobs.length ca0_2, .slice Aa0_3 a0.Entries.length ca0_3] 25 (0, 0)) (fun g => by kernel_rfl)) ?_
  rintro _ _ _ _ ⟨g1, rfl, rfl, rfl⟩
  refine RgH.does (DoesH.new (d := 3) (v := fun g => .pointer (some ⟨g, 0, none⟩)) (o := fun g => .cells #[.int .i64 a1] 3 (0, 0)) (fun g => by kernel_rfl)) ?_
  rintro _ _ _ _ ⟨g2, rfl, rfl, rfl⟩
  refine RgH.runk 3 [2, 3] (vs := []) (evs := []) (L' := [(2, .pointer (some ⟨g1, 0, none⟩)), (3, .pointer (some ⟨g2, 0, none⟩))]) (by kernel_rfl) (by kernel_rfl) (fun _ _ => trivial) ?_
  refine RgH.done (by kernel_rfl) ?_
  refine RunH.adm 1 (es' := [.c [1, 0], .c [1, 1]]) (by kernel_rfl) ?_
  refine RunH.reg (by kernel_rfl) ?_
  refine RgH.runk 2 [3, 7] (vs := [.slice Aa0_2 a0.Blobs.length ca0_2]) (evs := [.load ⟨g1, 2, none⟩ (.slice Aa0_2 a0.Blobs.length ca0_2)]) (L' := [(3, .pointer (some ⟨g2, 0, none⟩)), (7, .slice Aa0_2 a0.Blobs.length ca0_2)]) (by kernel_rfl) (by kernel_rfl) (fun w hh => (hh.box 1 rfl rfl)) ?_
  obtain ⟨y1, hy1, heq⟩ := bind_some heq
  refine RgH.does (DoesH.call (d := 8) (g := 55) (args := #[.slice Aa0_2 a0.Blobs.length ca0_2]) (by kernel_rfl) (slices_Clone_Blob_c (a0 := a0.Blobs) (hra0_2.wk (fun _ h => (.tail _ (.tail _ h)))) hca0_2 rfl hy1)) ?_
  rintro _ _ _ _ ⟨_, rfl, A1, c1, ch1, rfl, rfl, rfl, ho1⟩
  refine RgH.runk 4 [8, 9] (vs := []) (evs := []) (L' := [(8, .slice A1 y1.length c1), (9, .func (.func 121) #[] #[.pointer (some ⟨g2, 0, none⟩)])]) (by kernel_rfl) (by kernel_rfl) (fun _ _ => trivial) ?_
  obtain ⟨y2, hy2, heq⟩ := bind_some heq
  refine RgH.does (DoesH.call (d := 10) (g := 72) (args := #[.slice A1 y1.length c1, .func (.func 121) #[] #[.pointer (some ⟨g2, 0, none⟩)]]) (by kernel_rfl) (slices_DeleteFunc_Blob_3_c (a0 := y1) (a1q0 := a1) ho1 rfl (.inr (.head _)) hy2)) ?_
  rintro _ _ _ _ ⟨_, rfl, A2, c2, ch2, rfl, rfl, rfl, ho2⟩
  refine RgH.runk 6 [5] (vs := []) (evs := []) (L' := [(5, .slice A2 y2.length c2)]) (by kernel_rfl) (by kernel_rfl) (fun _ _ => trivial) ?_
  refine RgH.done (by kernel_rfl) ?_
  refine RunH.adm 1 (es' := [.c [1, 1, 0], .c [1, 1, 1]]) (by kernel_rfl) ?_
  refine RunH.reg (by kernel_rfl) ?_
  refine RgH.runk 1 [5, 11] (vs := []) (evs := []) (L' := [(5, .slice A2 y2.length c2), (11, .slice A2 y2.length c2)]) (by kernel_rfl) (by kernel_rfl) (fun _ _ => trivial) ?_
  obtain ⟨y3, hy3, heq⟩ := bind_some heq
  refine RgH.does (DoesH.call (d := 12) (g := 122) (args := #[.slice A2 y2.length c2, .func (.func 123) #[] #[]]) (by kernel_rfl) (slices_SortStableFunc_Blob_c (a0 := y2) ho2 rfl hy3)) ?_
  rintro _ _ _ _ ⟨_, rfl, ch3, rfl, rfl, rfl, ho3, hn1⟩
  refine RgH.done (by kernel_rfl) ?_
  refine RunH.adm 1 (es' := [.c [1, 1, 1, 0], .c [1, 1, 1, 1]]) (by kernel_rfl) ?_
  refine RunH.reg (by kernel_rfl) ?_
  refine RgH.runk 2 [4] (vs := []) (evs := []) (L' := [(4, .slice A2 y2.length c2)]) (by kernel_rfl) (by kernel_rfl) (fun _ _ => trivial) ?_
  refine RgH.done (by kernel_rfl) ?_
  obtain rfl := Option.some.inj heq
  refine RunH.pick 3 [0] (cs' := ch3 :: F) (by kernel_rfl) rfl ?_
  exact RunH.done (by kernel_rfl) Tryd.func84 (v := .slice A2 y2.length c2) (by kernel_rfl) ⟨A2, c2, ch3, rfl, (by first | rfl | exact congrArg (fun q => Value.slice _ q _) hn1 | (rw [hn1]) | (simp only [← hn1])), rfl, ho3⟩
noncomputable def C87 : Ctx := { P := Tryd.prog, f := 87, N := 6, c := bodyOf Tryd.f87 }
def S87 (F : List Ch) (H0 : Hp) (r : Int) (v : Value) (H : Hp) (cs : List Ch) : Prop := H0 = H ∧ v = .int .i64 r ∧ F = cs
theorem cache_sumOf_c {w0 : World} {H : Hp} {F : List Ch} {a0 : List Blob} {Aa0 : Option Addr} {na0 : Nat} {ca0 : Nat} {r : Int} (hra0 : Rw kBlob H F Aa0 a0) (hca0 : na0 ≤ ca0) (hna0 : na0 = a0.length) (heq : cache_sumOf.f a0 = some r) : CallsH Tryd.prog 87 #[.slice Aa0 na0 ca0] H w0 (F) (S87 F H r) := by
  refine calls_of_runH (F := C87) Tryd.func87 (by kernel_rfl) Tryd.ntmps87 (args := [.slice Aa0 na0 ca0]) (by kernel_rfl) ?_
  subst hna0
  unfold cache_sumOf.f at heq
  refine RunH.adm 1 (es' := [.c [0], .c [1]]) (by kernel_rfl) ?_
  refine RunH.reg (by kernel_rfl) ?_
  refine RgH.runk 1 [0] (vs := []) (evs := []) (L' := [(0, .slice Aa0 a0.length ca0)]) (by kernel_rfl) (by kernel_rfl) (fun _ _ => trivial) ?_
  refine RgH.done (by kernel_rfl) ?_
  refine RunH.adm 1 (es' := [.c [1, 0], .c [1, 1]]) (by kernel_rfl) ?_
  refine RunH.reg (by kernel_rfl) ?_
  refine RgH.runk 2 [4] (vs := []) (evs := []) (L' := [(4, .agg #[.int .i64 0, .int .i64 0, .slice Aa0 a0.length ca0, .slice none 0 0])]) (by kernel_rfl) (by kernel_rfl) (fun _ _ => trivial) ?_
  obtain ⟨y1, hy1, heq⟩ := bind_some heq
  refine RgH.does (DoesH.call (d := 5) (g := 66) (args := #[.agg #[.int .i64 0, .int .i64 0, .slice Aa0 a0.length ca0, .slice none 0 0]]) (by kernel_rfl) (cache_used_c (a0 := (⟨0, 0, a0, ([] : List Entry)⟩ : Cache)) hra0 hca0 rfl Rw.nil (Nat.le_refl _) rfl hy1)) ?_
  rintro _ _ _ _ ⟨_, rfl, rfl, rfl, rfl⟩
  refine RgH.runk 4 [2] (vs := []) (evs := []) (L' := [(2, .int .i64 y1)]) (by kernel_rfl) (by kernel_rfl) (fun _ _ => trivial) ?_
  refine RgH.done (by kernel_rfl) ?_
  obtain rfl := Option.some.inj heq
  exact RunH.done (by kernel_rfl) Tryd.func87 (v := .int .i64 y1) (by kernel_rfl) ⟨rfl, rfl, rfl⟩
noncomputable def C83 : Ctx := { P := Tryd.prog, f := 83, N := 50, c := bodyOf Tryd.f83 }
def S83 (F : List Ch) (H0 : Hp) (ga0 : Nat) (r : (List ByteArray) × Bool × Cache) (v : Value) (H : Hp) (cs : List Ch) : Prop := ∃ (A0 : Option Addr) (c0 : Nat) (ch0 : Ch) (A2_2 : Option Addr) (c2_2 : Nat) (ch2_2 : Ch) (A2_3 : Option Addr) (c2_3 : Nat) (ch2_3 : Ch), H0 = H ∧ v = .tuple #[.slice A0 r.1.length c0, .bool r.2.1] ∧ ch0 :: some (ga0, .cells #[.int .i64 r.2.2.Room, .int .i64 r.2.2.Lease, .slice A2_2 r.2.2.Blobs.length c2_2, .slice A2_3 r.2.2.Entries.length c2_3] 25 (0, 0)) :: ch2_2 :: ch2_3 :: F = cs ∧ SlOwn Kd.string 9 H A0 c0 r.1 ch0 ∧ SlOwn kBlob 47 H A2_2 c2_2 r.2.2.Blobs ch2_2 ∧ SlOwn kEntry 51 H A2_3 c2_3 r.2.2.Entries ch2_3
theorem cache_clear.e1_c {w0 : World} {H : Hp} {F : List Ch} {r : (List ByteArray) × Bool × Cache} : ∀ (ga0 : Nat) (a0 : Cache) (Aa0_2 : Option Addr) (ca0_2 : Nat) (cha0_2 : Ch) (Aa0_3 : Option Addr) (ca0_3 : Nat) (cha0_3 : Ch) (v_gone10 : List ByteArray) (Av_gone10 : Option Addr) (nv_gone10 : Nat) (cv_gone10 : Nat) (chv_gone10 : Ch) , SlOwn kBlob 47 H Aa0_2 ca0_2 a0.Blobs cha0_2 → SlOwn kEntry 51 H Aa0_3 ca0_3 a0.Entries cha0_3 → SlOwn Kd.string 9 H Av_gone10 cv_gone10 v_gone10 chv_gone10 → nv_gone10 = v_gone10.length → cache_clear.e1 a0 v_gone10 = some r → RunH C83 (S83 F H ga0 r) H w0 [.c [1, 1, 1, 1, 1, 1, 0], .c [1, 1, 1, 1, 1, 1, 1]] [(0, .pointer (some ⟨ga0, 0, none⟩)), (10, .slice Av_gone10 nv_gone10 cv_gone10)] H (chv_gone10 :: (some (ga0, .cells #[.int .i64 a0.Room, .int .i64 a0.Lease, .slice Aa0_2 a0.Blobs.length ca0_2, .slice Aa0_3 a0.Entries.length ca0_3] 25 (0, 0))) :: cha0_2 :: cha0_3 :: F) := by
  intro ga0 a0 Aa0_2 ca0_2 cha0_2 Aa0_3 ca0_3 cha0_3 v_gone10 Av_gone10 nv_gone10 cv_gone10 chv_gone10 hoa0_2 hoa0_3 hov_gone10 hnv_gone10 heq
  subst hnv_gone10
  unfold cache_clear.e1 at heq
  refine RunH.reg (by kernel_rfl) ?_
  refine RgH.runk 2 [0, 10, 46, 47] (vs := []) (evs := []) (L' := [(0, .pointer (some ⟨ga0, 0, none⟩)), (10, .slice Av_gone10 v_gone10.length cv_gone10), (46, .pointer (some ⟨ga0, 0, none⟩)), (47, .slice Av_gone10 v_gone10.length cv_gone10)]) (by kernel_rfl) (by kernel_rfl) (fun _ _ => trivial) ?_
  refine RgH.pick 4 [1, 2, 3, 0] (cs' := (some (ga0, .cells #[.int .i64 a0.Room, .int .i64 a0.Lease, .slice Aa0_2 a0.Blobs.length ca0_2, .slice Aa0_3 a0.Entries.length ca0_3] 25 (0, 0))) :: cha0_2 :: cha0_3 :: chv_gone10 :: F) (by kernel_rfl) rfl ?_
  obtain ⟨y4, hy4, heq⟩ := bind_some heq
  refine RgH.does (DoesH.call (d := 48) (g := 75) (args := #[.pointer (some ⟨ga0, 0, none⟩), .slice Av_gone10 v_gone10.length cv_gone10]) (by kernel_rfl) (cache_drop_c (a0 := (⟨a0.Room, a0.Lease, a0.Blobs, a0.Entries⟩ : Cache)) (a1 := v_gone10) hoa0_2 rfl hoa0_3 rfl (hov_gone10.rw (.head _)) hov_gone10.cap rfl hy4)) ?_
  rintro _ _ _ _ ⟨_, rfl, A2, c2, ch2, A3, c3, ch3, rfl, rfl, rfl, ho3, ho4⟩
  refine RgH.done (by kernel_rfl) ?_
  refine RunH.adm 1 (es' := [.c [1, 1, 1, 1, 1, 1, 1, 0], .c [1, 1, 1, 1, 1, 1, 1, 1]]) (by kernel_rfl) ?_
  refine RunH.reg (by kernel_rfl) ?_
  refine RgH.runk 3 [0, 6, 7] (vs := []) (evs := []) (L' := [(0, .pointer (some ⟨ga0, 0, none⟩)), (6, .slice Av_gone10 v_gone10.length cv_gone10), (7, .bool true)]) (by kernel_rfl) (by kernel_rfl) (fun _ _ => trivial) ?_
  refine RgH.done (by kernel_rfl) ?_
  obtain rfl := Option.some.inj heq
  refine RunH.pick 4 [3, 0, 1, 2] (cs' := chv_gone10 :: (some (ga0, .cells #[.int .i64 y4.Room, .int .i64 y4.Lease, .slice A2 y4.Blobs.length c2, .slice A3 y4.Entries.length c3] 25 (0, 0))) :: ch2 :: ch3 :: F) (by kernel_rfl) rfl ?_
  exact RunH.done (by kernel_rfl) Tryd.func83 (v := .tuple #[.slice Av_gone10 v_gone10.length cv_gone10, .bool true]) (by kernel_rfl) ⟨Av_gone10, cv_gone10, chv_gone10, A2, c2, ch2, A3, c3, ch3, rfl, rfl, rfl, hov_gone10, ho3, ho4⟩
theorem cache_clear.l2_c {w0 : World} {H : Hp} {F : List Ch} {r : (List ByteArray) × Bool × Cache} (e1 : Cache → (List ByteArray) → Option ((List ByteArray) × Bool × Cache))
    (he1 : ∀ (ga0 : Nat) (a0 : Cache) (Aa0_2 : Option Addr) (ca0_2 : Nat) (cha0_2 : Ch) (Aa0_3 : Option Addr) (ca0_3 : Nat) (cha0_3 : Ch) (v_gone10 : List ByteArray) (Av_gone10 : Option Addr) (nv_gone10 : Nat) (cv_gone10 : Nat) (chv_gone10 : Ch) , SlOwn kBlob 47 H Aa0_2 ca0_2 a0.Blobs cha0_2 → SlOwn kEntry 51 H Aa0_3 ca0_3 a0.Entries cha0_3 → SlOwn Kd.string 9 H Av_gone10 cv_gone10 v_gone10 chv_gone10 → nv_gone10 = v_gone10.length → e1 a0 v_gone10 = some r → RunH C83 (S83 F H ga0 r) H w0 [.c [1, 1, 1, 1, 1, 1, 0], .c [1, 1, 1, 1, 1, 1, 1]] [(0, .pointer (some ⟨ga0, 0, none⟩)), (10, .slice Av_gone10 nv_gone10 cv_gone10)] H (chv_gone10 :: (some (ga0, .cells #[.int .i64 a0.Room, .int .i64 a0.Lease, .slice Aa0_2 a0.Blobs.length ca0_2, .slice Aa0_3 a0.Entries.length ca0_3] 25 (0, 0))) :: cha0_2 :: cha0_3 :: F)) : ∀ (k : Nat), ∀ (ga0 : Nat) (a0 : Cache) (Aa0_2 : Option Addr) (ca0_2 : Nat) (cha0_2 : Ch) (Aa0_3 : Option Addr) (ca0_3 : Nat) (cha0_3 : Ch) (y1 : (List Blob)) (A1 : Option Addr) (c1 : Nat) (ch1 : Ch) (v_over9 : Int) (v_gone10 : List ByteArray) (Av_gone10 : Option Addr) (nv_gone10 : Nat) (cv_gone10 : Nat) (chv_gone10 : Ch) (v30 : Int) , SlOwn kBlob 47 H Aa0_2 ca0_2 a0.Blobs cha0_2 → SlOwn kEntry 51 H Aa0_3 ca0_3 a0.Entries cha0_3 → SlOwn kBlob 47 H A1 c1 y1 ch1 → SlOwn Kd.string 9 H Av_gone10 cv_gone10 v_gone10 chv_gone10 → nv_gone10 = v_gone10.length → cache_clear.l2 e1 k a0 y1 v_over9 v_gone10 v30 = some r → RunH C83 (S83 F H ga0 r) H w0 [.c [1, 1, 1, 1, 1, 0, 1, 0, 0], .l [1, 1, 1, 1, 1, 0, 1, 0, 0], .b 0, .c [1, 1, 1, 1, 1, 1]] [(0, .pointer (some ⟨ga0, 0, none⟩)), (9, .int .i64 v_over9), (10, .slice Av_gone10 nv_gone10 cv_gone10), (28, .slice A1 y1.length c1), (29, .int .i64 (y1.length : Int)), (30, .int .i64 v30)] H (chv_gone10 :: ch1 :: (some (ga0, .cells #[.int .i64 a0.Room, .int .i64 a0.Lease, .slice Aa0_2 a0.Blobs.length ca0_2, .slice Aa0_3 a0.Entries.length ca0_3] 25 (0, 0))) :: cha0_2 :: cha0_3 :: F) := by
  intro k
  induction k with
  | zero => intro ga0 a0 Aa0_2 ca0_2 cha0_2 Aa0_3 ca0_3 cha0_3 y1 A1 c1 ch1 v_over9 v_gone10 Av_gone10 nv_gone10 cv_gone10 chv_gone10 v30 hoa0_2 hoa0_3 ho1 hov_gone10 hnv_gone10 heq; exact nomatch (show (none : Option ((List ByteArray) × Bool × Cache)) = some r from heq)
  | succ k ihk =>
    intro ga0 a0 Aa0_2 ca0_2 cha0_2 Aa0_3 ca0_3 cha0_3 y1 A1 c1 ch1 v_over9 v_gone10 Av_gone10 nv_gone10 cv_gone10 chv_gone10 v30 hoa0_2 hoa0_3 ho1 hov_gone10 hnv_gone10 heq
    subst hnv_gone10
    rw [cache_clear.l2] at heq
    refine RunH.adm 1 (es' := [.c [1, 1, 1, 1, 1, 0, 1, 0, 0, 0], .c [1, 1, 1, 1, 1, 0, 1, 0, 0, 1], .l [1, 1, 1, 1, 1, 0, 1, 0, 0], .b 0, .c [1, 1, 1, 1, 1, 1]]) (by kernel_rfl) ?_
    refine RunH.reg (by kernel_rfl) ?_
    refine RgH.runk 1 [0, 9, 10, 28, 29, 30, 31] (vs := []) (evs := []) (L' := [(0, .pointer (some ⟨ga0, 0, none⟩)), (9, .int .i64 v_over9), (10, .slice Av_gone10 v_gone10.length cv_gone10), (28, .slice A1 y1.length c1), (29, .int .i64 (y1.length : Int)), (30, .int .i64 v30), (31, .bool (decide (v30 < (y1.length : Int))))]) (by kernel_rfl) (by kernel_rfl) (fun _ _ => trivial) ?_
    refine RgH.done (by kernel_rfl) ?_
    refine RunH.adm 1 (es' := [.c [1, 1, 1, 1, 1, 0, 1, 0, 0, 1, 0], .c [1, 1, 1, 1, 1, 0, 1, 0, 0, 1, 1], .l [1, 1, 1, 1, 1, 0, 1, 0, 0], .b 0, .c [1, 1, 1, 1, 1, 1]]) (by kernel_rfl) ?_
    rcases bool_cases (decide (v30 < (y1.length : Int))) with hb2 | hb2
    · replace heq := bif_true hb2 heq
      refine RunH.condT (c := decide (v30 < (y1.length : Int))) (by kernel_rfl) hb2 ?_
      refine RunH.adm 4 (es' := [.c [1, 1, 1, 1, 1, 0, 1, 0, 0, 1, 1, 0, 0, 0], .c [1, 1, 1, 1, 1, 0, 1, 0, 0, 1, 1, 0, 0, 1], .b 1, .c [1, 1, 1, 1, 1, 0, 1, 0, 0, 1, 1, 1], .l [1, 1, 1, 1, 1, 0, 1, 0, 0], .b 0, .c [1, 1, 1, 1, 1, 1]]) (by kernel_rfl) ?_
      refine RunH.reg (by kernel_rfl) ?_
      obtain ⟨x1, hx1, heq⟩ := bind_some heq
      obtain ⟨ha1, cs1, hK1, hcc1⟩ := ho1.get hx1
      obtain ⟨rfl⟩ := kBlob_open hK1
      refine RgH.runk 2 [0, 9, 10, 28, 29, 30, 33] (vs := [.string x1.Digest, .int .i64 x1.Size, .int .i64 x1.Used, .int .i64 x1.Until, .int .i64 x1.Pins]) (evs := [.need (A1 = some (adr A1) ∧ (0 : Int) ≤ v30 ∧ v30 < ((y1.length : Nat) : Int)), .load (((adr A1).add (v30.toNat * 5)).add 0) (.string x1.Digest), .load (((adr A1).add (v30.toNat * 5)).add 1) (.int .i64 x1.Size), .load (((adr A1).add (v30.toNat * 5)).add 2) (.int .i64 x1.Used), .load (((adr A1).add (v30.toNat * 5)).add 3) (.int .i64 x1.Until), .load (((adr A1).add (v30.toNat * 5)).add 4) (.int .i64 x1.Pins)]) (L' := [(0, .pointer (some ⟨ga0, 0, none⟩)), (9, .int .i64 v_over9), (10, .slice Av_gone10 v_gone10.length cv_gone10), (28, .slice A1 y1.length c1), (29, .int .i64 (y1.length : Int)), (30, .int .i64 v30), (33, .agg #[.string x1.Digest, .int .i64 x1.Size, .int .i64 x1.Used, .int .i64 x1.Until, .int .i64 x1.Pins])]) (by kernel_rfl) (by kernel_rfl) (fun w hh => ⟨⟨ha1, (at?_some hx1).1, (at?_some hx1).2.1⟩, (hcc1 _ (hh.chin 1 rfl) 0 _ rfl), (hcc1 _ (hh.chin 1 rfl) 1 _ rfl), (hcc1 _ (hh.chin 1 rfl) 2 _ rfl), (hcc1 _ (hh.chin 1 rfl) 3 _ rfl), (hcc1 _ (hh.chin 1 rfl) 4 _ rfl)⟩) ?_
      refine RgH.does (DoesH.new (d := 12) (v := fun g => .pointer (some ⟨g, 0, none⟩)) (o := fun g => .cells #[.string ByteArray.empty, .int .i64 0, .int .i64 0, .int .i64 0, .int .i64 0] 47 (0, 0)) (fun g => by kernel_rfl)) ?_
      rintro _ _ _ _ ⟨g1, rfl, rfl, rfl⟩
      refine RgH.does (DoesH.store (k := 0) (g := g1) (off := 0) (v := .agg #[.string x1.Digest, .int .i64 x1.Size, .int .i64 x1.Used, .int .i64 x1.Until, .int .i64 x1.Pins]) (cells' := #[.string x1.Digest, .int .i64 x1.Size, .int .i64 x1.Used, .int .i64 x1.Until, .int .i64 x1.Pins]) (by kernel_rfl) rfl (by kernel_rfl) (by kernel_rfl)) ?_
      rintro _ _ _ _ ⟨rfl, rfl, rfl⟩
      refine RgH.done (by kernel_rfl) ?_
      refine RunH.adm 2 (es' := [.c [1, 1, 1, 1, 1, 0, 1, 0, 0, 1, 1, 0, 0, 1, 0, 0], .c [1, 1, 1, 1, 1, 0, 1, 0, 0, 1, 1, 0, 0, 1, 0, 1], .c [1, 1, 1, 1, 1, 0, 1, 0, 0, 1, 1, 0, 0, 1, 1], .b 1, .c [1, 1, 1, 1, 1, 0, 1, 0, 0, 1, 1, 1], .l [1, 1, 1, 1, 1, 0, 1, 0, 0], .b 0, .c [1, 1, 1, 1, 1, 1]]) (by kernel_rfl) ?_
      refine RunH.reg (by kernel_rfl) ?_
      refine RgH.runk 2 [0, 9, 10, 12, 28, 29, 30, 35] (vs := []) (evs := []) (L' := [(0, .pointer (some ⟨ga0, 0, none⟩)), (9, .int .i64 v_over9), (10, .slice Av_gone10 v_gone10.length cv_gone10), (12, .pointer (some ⟨g1, 0, none⟩)), (28, .slice A1 y1.length c1), (29, .int .i64 (y1.length : Int)), (30, .int .i64 v30), (35, .bool (decide (v_over9 ≤ 0)))]) (by kernel_rfl) (by kernel_rfl) (fun _ _ => trivial) ?_
      refine RgH.done (by kernel_rfl) ?_
      rcases bool_cases (decide (v_over9 ≤ 0)) with hb3 | hb3
      · replace heq := bif_true hb3 heq
        refine RunH.condT (c := decide (v_over9 ≤ 0)) (by kernel_rfl) hb3 ?_
        refine RunH.adm 2 (es' := [.c [1, 1, 1, 1, 1, 1, 0], .c [1, 1, 1, 1, 1, 1, 1]]) (by kernel_rfl) ?_
        refine RunH.keep [0, 10] (L' := [(0, .pointer (some ⟨ga0, 0, none⟩)), (10, .slice Av_gone10 v_gone10.length cv_gone10)]) (by kernel_rfl) ?_
        refine RunH.pick 6 [1, 3, 4, 5] (cs' := chv_gone10 :: (some (ga0, .cells #[.int .i64 a0.Room, .int .i64 a0.Lease, .slice Aa0_2 a0.Blobs.length ca0_2, .slice Aa0_3 a0.Entries.length ca0_3] 25 (0, 0))) :: cha0_2 :: cha0_3 :: F) (by kernel_rfl) rfl ?_
        exact he1 _ a0 _ _ _ _ _ _ v_gone10 _ _ _ _ hoa0_2 hoa0_3 hov_gone10 rfl heq
      · replace heq := bif_false hb3 heq
        refine RunH.condF (c := decide (v_over9 ≤ 0)) (by kernel_rfl) hb3 ?_
        refine RunH.adm 2 (es' := [.c [1, 1, 1, 1, 1, 0, 1, 0, 0, 1, 1, 0, 0, 1, 1, 0], .c [1, 1, 1, 1, 1, 0, 1, 0, 0, 1, 1, 0, 0, 1, 1, 1], .b 1, .c [1, 1, 1, 1, 1, 0, 1, 0, 0, 1, 1, 1], .l [1, 1, 1, 1, 1, 0, 1, 0, 0], .b 0, .c [1, 1, 1, 1, 1, 1]]) (by kernel_rfl) ?_
        refine RunH.reg (by kernel_rfl) ?_
        refine RgH.runk 5 [0, 9, 10, 12, 28, 29, 30] (vs := [.int .i64 x1.Size]) (evs := [.load ⟨g1, 1, none⟩ (.int .i64 x1.Size)]) (L' := [(0, .pointer (some ⟨ga0, 0, none⟩)), (9, .int .i64 (w64 (v_over9 - x1.Size))), (10, .slice Av_gone10 v_gone10.length cv_gone10), (12, .pointer (some ⟨g1, 0, none⟩)), (28, .slice A1 y1.length c1), (29, .int .i64 (y1.length : Int)), (30, .int .i64 v30)]) (by kernel_rfl) (by kernel_rfl) (fun w hh => (hh.box 0 rfl rfl)) ?_
        refine RgH.done (by kernel_rfl) ?_
        refine RunH.reg (by kernel_rfl) ?_
        refine RgH.runk 3 [0, 9, 28, 29, 30, 40, 42] (vs := [.string x1.Digest]) (evs := [.load ⟨g1, 0, none⟩ (.string x1.Digest)]) (L' := [(0, .pointer (some ⟨ga0, 0, none⟩)), (9, .int .i64 (w64 (v_over9 - x1.Size))), (28, .slice A1 y1.length c1), (29, .int .i64 (y1.length : Int)), (30, .int .i64 v30), (40, .slice Av_gone10 v_gone10.length cv_gone10), (42, .string x1.Digest)]) (by kernel_rfl) (by kernel_rfl) (fun w hh => (hh.box 0 rfl rfl)) ?_
        refine RgH.does (DoesH.new (d := 43) (v := fun g => .slice (some ⟨g, 0, none⟩) 1 1) (o := fun g => .cells #[.string x1.Digest] 9 (0, 0)) (fun g => by kernel_rfl)) ?_
        rintro _ _ _ _ ⟨g2, rfl, rfl, rfl⟩
        have ho5 : SlOwn Kd.string 9 H (some ⟨g2, 0, none⟩) 1 ([x1.Digest] : List ByteArray) (some (g2, .cells #[.string x1.Digest] 9 (0, 0))) := SlOwn.lit (xs := ([x1.Digest] : List ByteArray)) (by kernel_rfl) (Nat.le_of_ble_eq_true (by kernel_rfl)) (Kd.Rep.scalars rfl)
        obtain ⟨hn1, heq⟩ := guard?_some heq
        refine RgH.does (DoesH.append (d := 44) (k := 2) (t := 34) (e := 9) (bytes := 16) (kd := Kd.string) (n := v_gone10.length) (m := 1) (xs := v_gone10) (ys := ([x1.Digest] : List ByteArray)) (A := Av_gone10) (B := (some ⟨g2, 0, none⟩)) (c := cv_gone10) (cB := 1) (by kernel_rfl) rfl rfl (by kernel_rfl) rfl hov_gone10 (fun w hh => ho5.rdb (hh.chin 0 rfl)) (room_le hn1) (by have := room_le hn1; omega)) ?_
        rintro _ _ _ _ ⟨A4, c4, ch4, rfl, rfl, rfl, ho6⟩
        refine RgH.runk 6 [0, 9, 10, 28, 29, 30] (vs := []) (evs := []) (L' := [(0, .pointer (some ⟨ga0, 0, none⟩)), (9, .int .i64 (w64 (v_over9 - x1.Size))), (10, .slice A4 ((v_gone10 ++ ([x1.Digest] : List ByteArray)).length) c4), (28, .slice A1 y1.length c1), (29, .int .i64 (y1.length : Int)), (30, .int .i64 v30)]) (by kernel_rfl) (by kernel_rfl) (fun _ _ => trivial) ?_
        refine RgH.done (by kernel_rfl) ?_
        refine RunH.adm 1 (es' := [.c [1, 1, 1, 1, 1, 0, 1, 0, 0, 1, 1, 1], .l [1, 1, 1, 1, 1, 0, 1, 0, 0], .b 0, .c [1, 1, 1, 1, 1, 1]]) (by kernel_rfl) ?_
        refine RunH.reg (by kernel_rfl) ?_
        refine RgH.runk 2 [0, 9, 10, 28, 29, 30] (vs := []) (evs := []) (L' := [(0, .pointer (some ⟨ga0, 0, none⟩)), (9, .int .i64 (w64 (v_over9 - x1.Size))), (10, .slice A4 ((v_gone10 ++ ([x1.Digest] : List ByteArray)).length) c4), (28, .slice A1 y1.length c1), (29, .int .i64 (y1.length : Int)), (30, .int .i64 (w64 (v30 + 1)))]) (by kernel_rfl) (by kernel_rfl) (fun _ _ => trivial) ?_
        refine RgH.done (by kernel_rfl) ?_
        refine RunH.adm 1 (es' := [.c [1, 1, 1, 1, 1, 0, 1, 0, 0], .l [1, 1, 1, 1, 1, 0, 1, 0, 0], .b 0, .c [1, 1, 1, 1, 1, 1]]) (by kernel_rfl) ?_
        refine RunH.keep [0, 9, 10, 28, 29, 30] (L' := [(0, .pointer (some ⟨ga0, 0, none⟩)), (9, .int .i64 (w64 (v_over9 - x1.Size))), (10, .slice A4 ((v_gone10 ++ ([x1.Digest] : List ByteArray)).length) c4), (28, .slice A1 y1.length c1), (29, .int .i64 (y1.length : Int)), (30, .int .i64 (w64 (v30 + 1)))]) (by kernel_rfl) ?_
        refine RunH.pick 7 [2, 3, 4, 5, 6] (cs' := ch4 :: ch1 :: (some (ga0, .cells #[.int .i64 a0.Room, .int .i64 a0.Lease, .slice Aa0_2 a0.Blobs.length ca0_2, .slice Aa0_3 a0.Entries.length ca0_3] 25 (0, 0))) :: cha0_2 :: cha0_3 :: F) (by kernel_rfl) rfl ?_
        exact ihk _ a0 _ _ _ _ _ _ y1 _ _ _ (w64 (v_over9 - x1.Size)) (v_gone10 ++ ([x1.Digest] : List ByteArray)) _ _ _ _ (w64 (v30 + 1)) hoa0_2 hoa0_3 ho1 ho6 rfl heq
    · replace heq := bif_false hb2 heq
      refine RunH.condF (c := decide (v30 < (y1.length : Int))) (by kernel_rfl) hb2 ?_
      refine RunH.adm 2 (es' := [.c [1, 1, 1, 1, 1, 1, 0], .c [1, 1, 1, 1, 1, 1, 1]]) (by kernel_rfl) ?_
      refine RunH.keep [0, 10] (L' := [(0, .pointer (some ⟨ga0, 0, none⟩)), (10, .slice Av_gone10 v_gone10.length cv_gone10)]) (by kernel_rfl) ?_
      refine RunH.pick 5 [0, 2, 3, 4] (cs' := chv_gone10 :: (some (ga0, .cells #[.int .i64 a0.Room, .int .i64 a0.Lease, .slice Aa0_2 a0.Blobs.length ca0_2, .slice Aa0_3 a0.Entries.length ca0_3] 25 (0, 0))) :: cha0_2 :: cha0_3 :: F) (by kernel_rfl) rfl ?_
      exact he1 _ a0 _ _ _ _ _ _ v_gone10 _ _ _ _ hoa0_2 hoa0_3 hov_gone10 rfl heq
theorem cache_clear_c {w0 : World} {H : Hp} {F : List Ch} {ga0 : Nat} {a0 : Cache} {Aa0_2 : Option Addr} {na0_2 : Nat} {ca0_2 : Nat} {cha0_2 : Ch} {Aa0_3 : Option Addr} {na0_3 : Nat} {ca0_3 : Nat} {cha0_3 : Ch} {a1 : Int} {a2 : Int} {r : (List ByteArray) × Bool × Cache} (hoa0_2 : SlOwn kBlob 47 H Aa0_2 ca0_2 a0.Blobs cha0_2) (hna0_2 : na0_2 = a0.Blobs.length) (hoa0_3 : SlOwn kEntry 51 H Aa0_3 ca0_3 a0.Entries cha0_3) (hna0_3 : na0_3 = a0.Entries.length) (heq : cache_clear.f a0 a1 a2 = some r) : CallsH Tryd.prog 83 #[.pointer (some ⟨ga0, 0, none⟩), .int .i64 a1, .int .i64 a2] H w0 ((some (ga0, .cells #[.int .i64 a0.Room, .int .i64 a0.Lease, .slice Aa0_2 na0_2 ca0_2, .slice Aa0_3 na0_3 ca0_3] 25 (0, 0))) :: cha0_2 :: cha0_3 :: F) (S83 F H ga0 r) := by
  refine calls_of_runH (F := C83) Tryd.func83 (by kernel_rfl) Tryd.ntmps83 (args := [.pointer (some ⟨ga0, 0, none⟩), .int .i64 a1, .int .i64 a2]) (by kernel_rfl) ?_
  subst hna0_2
  subst hna0_3
  unfold cache_clear.f at heq
  refine RunH.adm 1 (es' := [.c [0], .c [1]]) (by kernel_rfl) ?_
  refine RunH.reg (by kernel_rfl) ?_
  refine RgH.runk 2 [0, 1, 2] (vs := []) (evs := []) (L' := [(0, .pointer (some ⟨ga0, 0, none⟩)), (1, .int .i64 a1), (2, .int .i64 a2)]) (by kernel_rfl) (by kernel_rfl) (fun _ _ => trivial) ?_
  refine RgH.done (by kernel_rfl) ?_
  refine RunH.adm 1 (es' := [.c [1, 0], .c [1, 1]]) (by kernel_rfl) ?_
  refine RunH.reg (by kernel_rfl) ?_
  refine RgH.runk 4 [0, 1, 15, 16] (vs := [.int .i64 a0.Room, .int .i64 a0.Lease, .slice Aa0_2 a0.Blobs.length ca0_2, .slice Aa0_3 a0.Entries.length ca0_3]) (evs := [.load ⟨ga0, 0, none⟩ (.int .i64 a0.Room), .load ⟨ga0, 1, none⟩ (.int .i64 a0.Lease), .load ⟨ga0, 2, none⟩ (.slice Aa0_2 a0.Blobs.length ca0_2), .load ⟨ga0, 3, none⟩ (.slice Aa0_3 a0.Entries.length ca0_3)]) (L' := [(0, .pointer (some ⟨ga0, 0, none⟩)), (1, .int .i64 a1), (15, .agg #[.int .i64 a0.Room, .int .i64 a0.Lease, .slice Aa0_2 a0.Blobs.length ca0_2, .slice Aa0_3 a0.Entries.length ca0_3]), (16, .int .i64 a2)]) (by kernel_rfl) (by kernel_rfl) (fun w hh => ⟨(hh.box 0 rfl rfl), (hh.box 0 rfl rfl), (hh.box 0 rfl rfl), (hh.box 0 rfl rfl)⟩) ?_
  obtain ⟨y1, hy1, heq⟩ := bind_some heq
  refine RgH.does (DoesH.call (d := 17) (g := 84) (args := #[.agg #[.int .i64 a0.Room, .int .i64 a0.Lease, .slice Aa0_2 a0.Blobs.length ca0_2, .slice Aa0_3 a0.Entries.length ca0_3], .int .i64 a2]) (by kernel_rfl) (cache_leaving_c (a0 := (⟨a0.Room, a0.Lease, a0.Blobs, a0.Entries⟩ : Cache)) (a1 := a2) (hoa0_2.rw (.tail _ (.head _))) hoa0_2.cap rfl (hoa0_3.rw (.tail _ (.tail _ (.head _)))) hoa0_3.cap rfl hy1)) ?_
  rintro _ _ _ _ ⟨_, rfl, A1, c1, ch1, rfl, rfl, rfl, ho1⟩
  refine RgH.runk 6 [0, 1, 8] (vs := []) (evs := []) (L' := [(0, .pointer (some ⟨ga0, 0, none⟩)), (1, .int .i64 a1), (8, .slice A1 y1.length c1)]) (by kernel_rfl) (by kernel_rfl) (fun _ _ => trivial) ?_
  refine RgH.done (by kernel_rfl) ?_
  refine RunH.adm 1 (es' := [.c [1, 1, 0], .c [1, 1, 1]]) (by kernel_rfl) ?_
  refine RunH.reg (by kernel_rfl) ?_
  refine RgH.runk 3 [0, 1, 8, 20] (vs := [.int .i64 a0.Room, .int .i64 a0.Lease, .slice Aa0_2 a0.Blobs.length ca0_2, .slice Aa0_3 a0.Entries.length ca0_3]) (evs := [.load ⟨ga0, 0, none⟩ (.int .i64 a0.Room), .load ⟨ga0, 1, none⟩ (.int .i64 a0.Lease), .load ⟨ga0, 2, none⟩ (.slice Aa0_2 a0.Blobs.length ca0_2), .load ⟨ga0, 3, none⟩ (.slice Aa0_3 a0.Entries.length ca0_3)]) (L' := [(0, .pointer (some ⟨ga0, 0, none⟩)), (1, .int .i64 a1), (8, .slice A1 y1.length c1), (20, .agg #[.int .i64 a0.Room, .int .i64 a0.Lease, .slice Aa0_2 a0.Blobs.length ca0_2, .slice Aa0_3 a0.Entries.length ca0_3])]) (by kernel_rfl) (by kernel_rfl) (fun w hh => ⟨(hh.box 1 rfl rfl), (hh.box 1 rfl rfl), (hh.box 1 rfl rfl), (hh.box 1 rfl rfl)⟩) ?_
  obtain ⟨y2, hy2, heq⟩ := bind_some heq
  refine RgH.does (DoesH.call (d := 21) (g := 66) (args := #[.agg #[.int .i64 a0.Room, .int .i64 a0.Lease, .slice Aa0_2 a0.Blobs.length ca0_2, .slice Aa0_3 a0.Entries.length ca0_3]]) (by kernel_rfl) (cache_used_c (a0 := (⟨a0.Room, a0.Lease, a0.Blobs, a0.Entries⟩ : Cache)) (hoa0_2.rw (.tail _ (.tail _ (.head _)))) hoa0_2.cap rfl (hoa0_3.rw (.tail _ (.tail _ (.tail _ (.head _))))) hoa0_3.cap rfl hy2)) ?_
  rintro _ _ _ _ ⟨_, rfl, rfl, rfl, rfl⟩
  refine RgH.runk 7 [0, 8, 9] (vs := []) (evs := []) (L' := [(0, .pointer (some ⟨ga0, 0, none⟩)), (8, .slice A1 y1.length c1), (9, .int .i64 (w64 (y2 - a1)))]) (by kernel_rfl) (by kernel_rfl) (fun _ _ => trivial) ?_
  refine RgH.done (by kernel_rfl) ?_
  refine RunH.adm 2 (es' := [.c [1, 1, 1, 0, 0], .c [1, 1, 1, 0, 1], .c [1, 1, 1, 1]]) (by kernel_rfl) ?_
  refine RunH.reg (by kernel_rfl) ?_
  refine RgH.runk 2 [0, 8, 9, 24, 25] (vs := []) (evs := []) (L' := [(0, .pointer (some ⟨ga0, 0, none⟩)), (8, .slice A1 y1.length c1), (9, .int .i64 (w64 (y2 - a1))), (24, .int .i64 (w64 (y2 - a1))), (25, .slice A1 y1.length c1)]) (by kernel_rfl) (by kernel_rfl) (fun _ _ => trivial) ?_
  obtain ⟨y3, hy3, heq⟩ := bind_some heq
  refine RgH.does (DoesH.call (d := 26) (g := 87) (args := #[.slice A1 y1.length c1]) (by kernel_rfl) (cache_sumOf_c (a0 := y1) (ho1.rw (.head _)) ho1.cap rfl hy3)) ?_
  rintro _ _ _ _ ⟨_, rfl, rfl, rfl, rfl⟩
  refine RgH.runk 4 [0, 8, 9, 27] (vs := []) (evs := []) (L' := [(0, .pointer (some ⟨ga0, 0, none⟩)), (8, .slice A1 y1.length c1), (9, .int .i64 (w64 (y2 - a1))), (27, .bool (decide (y3 < (w64 (y2 - a1)))))]) (by kernel_rfl) (by kernel_rfl) (fun _ _ => trivial) ?_
  refine RgH.done (by kernel_rfl) ?_
  rcases bool_cases (decide (y3 < (w64 (y2 - a1)))) with hb1 | hb1
  · replace heq := bif_true hb1 heq
    refine RunH.condT (c := decide (y3 < (w64 (y2 - a1)))) (by kernel_rfl) hb1 ?_
    refine RunH.adm 1 (es' := [.c [1, 1, 1, 0, 1, 0, 0], .c [1, 1, 1, 0, 1, 0, 1], .c [1, 1, 1, 1]]) (by kernel_rfl) ?_
    refine RunH.reg (by kernel_rfl) ?_
    refine RgH.runk 2 [0, 6, 7] (vs := []) (evs := []) (L' := [(0, .pointer (some ⟨ga0, 0, none⟩)), (6, .slice none 0 0), (7, .bool false)]) (by kernel_rfl) (by kernel_rfl) (fun _ _ => trivial) ?_
    refine RgH.done (by kernel_rfl) ?_
    refine RunH.nilc ?_
    have ho2 : SlOwn Kd.string 9 H none 0 ([] : List ByteArray) none := SlOwn.nil
    obtain rfl := Option.some.inj heq
    refine RunH.pick 5 [0, 2, 3, 4] (cs' := none :: (some (ga0, .cells #[.int .i64 a0.Room, .int .i64 a0.Lease, .slice Aa0_2 a0.Blobs.length ca0_2, .slice Aa0_3 a0.Entries.length ca0_3] 25 (0, 0))) :: cha0_2 :: cha0_3 :: F) (by kernel_rfl) rfl ?_
    exact RunH.done (by kernel_rfl) Tryd.func83 (v := .tuple #[.slice none 0 0, .bool false]) (by kernel_rfl) ⟨none, 0, none, Aa0_2, ca0_2, cha0_2, Aa0_3, ca0_3, cha0_3, rfl, rfl, rfl, ho2, hoa0_2, hoa0_3⟩
  · replace heq := bif_false hb1 heq
    refine RunH.condF (c := decide (y3 < (w64 (y2 - a1)))) (by kernel_rfl) hb1 ?_
    refine RunH.adm 2 (es' := [.c [1, 1, 1, 1, 0], .c [1, 1, 1, 1, 1]]) (by kernel_rfl) ?_
    refine RunH.reg (by kernel_rfl) ?_
    refine RgH.runk 1 [0, 8, 9, 10] (vs := []) (evs := []) (L' := [(0, .pointer (some ⟨ga0, 0, none⟩)), (8, .slice A1 y1.length c1), (9, .int .i64 (w64 (y2 - a1))), (10, .slice none 0 0)]) (by kernel_rfl) (by kernel_rfl) (fun _ _ => trivial) ?_
    refine RgH.done (by kernel_rfl) ?_
    refine RunH.adm 2 (es' := [.c [1, 1, 1, 1, 1, 0, 0], .c [1, 1, 1, 1, 1, 0, 1], .c [1, 1, 1, 1, 1, 1]]) (by kernel_rfl) ?_
    refine RunH.reg (by kernel_rfl) ?_
    refine RgH.runk 3 [0, 9, 10, 28, 29, 30] (vs := []) (evs := []) (L' := [(0, .pointer (some ⟨ga0, 0, none⟩)), (9, .int .i64 (w64 (y2 - a1))), (10, .slice none 0 0), (28, .slice A1 y1.length c1), (29, .int .i64 (y1.length : Int)), (30, .int .i64 0)]) (by kernel_rfl) (by kernel_rfl) (fun _ _ => trivial) ?_
    refine RgH.done (by kernel_rfl) ?_
    refine RunH.adm 2 (es' := [.c [1, 1, 1, 1, 1, 0, 1, 0, 0], .l [1, 1, 1, 1, 1, 0, 1, 0, 0], .b 0, .c [1, 1, 1, 1, 1, 1]]) (by kernel_rfl) ?_
    refine RunH.nilc ?_
    have ho7 : SlOwn Kd.string 9 H none 0 ([] : List ByteArray) none := SlOwn.nil
    refine RunH.keep [0, 9, 10, 28, 29, 30] (L' := [(0, .pointer (some ⟨ga0, 0, none⟩)), (9, .int .i64 (w64 (y2 - a1))), (10, .slice none 0 0), (28, .slice A1 y1.length c1), (29, .int .i64 (y1.length : Int)), (30, .int .i64 0)]) (by kernel_rfl) ?_
    exact ((cache_clear.l2_c (e1 := cache_clear.e1) (cache_clear.e1_c)) big) _ a0 _ _ _ _ _ _ y1 _ _ _ (w64 (y2 - a1)) ([] : List ByteArray) _ _ _ _ 0 hoa0_2 hoa0_3 ho1 ho7 rfl heq
noncomputable def C36 : Ctx := { P := Tryd.prog, f := 36, N := 38, c := bodyOf Tryd.f36 }
def S36 (F : List Ch) (H0 : Hp) (r : Cache × (List ByteArray) × Int) (v : Value) (H : Hp) (cs : List Ch) : Prop := ∃ (A0_2 : Option Addr) (c0_2 : Nat) (ch0_2 : Ch) (A0_3 : Option Addr) (c0_3 : Nat) (ch0_3 : Ch) (A1 : Option Addr) (c1 : Nat) (ch1 : Ch), v = .tuple #[.agg #[.int .i64 r.1.Room, .int .i64 r.1.Lease, .slice A0_2 r.1.Blobs.length c0_2, .slice A0_3 r.1.Entries.length c0_3], .slice A1 r.2.1.length c1, .int .i64 r.2.2] ∧ ch0_2 :: ch0_3 :: ch1 :: F = cs ∧ SlOwn kBlob 47 H A0_2 c0_2 r.1.Blobs ch0_2 ∧ SlOwn kEntry 51 H A0_3 c0_3 r.1.Entries ch0_3 ∧ SlOwn Kd.string 9 H A1 c1 r.2.1 ch1
theorem cache_Shrunk_c {w0 : World} {H0 : Hp} {F : List Ch} {a0 : Cache} {Aa0_2 : Option Addr} {na0_2 : Nat} {ca0_2 : Nat} {Aa0_3 : Option Addr} {na0_3 : Nat} {ca0_3 : Nat} {a1 : Int} {a2 : Int} {r : Cache × (List ByteArray) × Int} (hra0_2 : Rw kBlob H0 F Aa0_2 a0.Blobs) (hca0_2 : na0_2 ≤ ca0_2) (hna0_2 : na0_2 = a0.Blobs.length) (hra0_3 : Rw kEntry H0 F Aa0_3 a0.Entries) (hca0_3 : na0_3 ≤ ca0_3) (hna0_3 : na0_3 = a0.Entries.length) (heq : cache_Shrunk.f a0 a1 a2 = some r) : CallsH Tryd.prog 36 #[.agg #[.int .i64 a0.Room, .int .i64 a0.Lease, .slice Aa0_2 na0_2 ca0_2, .slice Aa0_3 na0_3 ca0_3], .int .i64 a1, .int .i64 a2] H0 w0 (F) (S36 F H0 r) := by
  refine calls_of_runH (F := C36) Tryd.func36 (by kernel_rfl) Tryd.ntmps36 (args := [.agg #[.int .i64 a0.Room, .int .i64 a0.Lease, .slice Aa0_2 na0_2 ca0_2, .slice Aa0_3 na0_3 ca0_3], .int .i64 a1, .int .i64 a2]) (by kernel_rfl) ?_
  subst hna0_2
  subst hna0_3
  unfold cache_Shrunk.f at heq
  suffices key : ∀ (H : Hp), Rw kBlob H F Aa0_2 a0.Blobs → Rw kEntry H F Aa0_3 a0.Entries → RunH C36 (S36 F H0 r) H0 w0 [.c []] (argL 0 [.agg #[.int .i64 a0.Room, .int .i64 a0.Lease, .slice Aa0_2 (a0.Blobs.length) ca0_2, .slice Aa0_3 (a0.Entries.length) ca0_3], .int .i64 a1, .int .i64 a2]) H (F) from key H0 hra0_2 hra0_3
  intro H hra0_2 hra0_3
  refine RunH.adm 1 (es' := [.c [0], .c [1]]) (by kernel_rfl) ?_
  refine RunH.reg (by kernel_rfl) ?_
  refine RgH.does (DoesH.new (d := 3) (v := fun g => .pointer (some ⟨g, 0, none⟩)) (o := fun g => .cells #[.int .i64 a0.Room, .int .i64 a0.Lease, .slice Aa0_2 a0.Blobs.length ca0_2, .slice Aa0_3 a0.Entries.length ca0_3] 25 (0, 0)) (fun g => by kernel_rfl)) ?_
  rintro _ _ _ _ ⟨g1, rfl, rfl, rfl⟩
  refine RgH.does (DoesH.new (d := 6) (v := fun g => .pointer (some ⟨g, 0, none⟩)) (o := fun g => .cells #[.int .i64 0, .int .i64 0, .slice none 0 0, .slice none 0 0] 25 (0, 0)) (fun g => by kernel_rfl)) ?_
  rintro _ _ _ _ ⟨g2, rfl, rfl, rfl⟩
  refine RgH.runk 4 [1, 2, 3, 6] (vs := []) (evs := []) (L' := [(1, .int .i64 a1), (2, .int .i64 a2), (3, .pointer (some ⟨g1, 0, none⟩)), (6, .pointer (some ⟨g2, 0, none⟩))]) (by kernel_rfl) (by kernel_rfl) (fun _ _ => trivial) ?_
  refine RgH.done (by kernel_rfl) ?_
  refine RunH.adm 2 (es' := [.c [1, 0, 0], .c [1, 0, 1], .c [1, 1]]) (by kernel_rfl) ?_
  refine RunH.reg (by kernel_rfl) ?_
  refine RgH.runk 2 [1, 2, 3, 6, 12, 13] (vs := [.int .i64 a0.Room, .int .i64 a0.Lease, .slice Aa0_2 a0.Blobs.length ca0_2, .slice Aa0_3 a0.Entries.length ca0_3]) (evs := [.load ⟨g1, 0, none⟩ (.int .i64 a0.Room), .load ⟨g1, 1, none⟩ (.int .i64 a0.Lease), .load ⟨g1, 2, none⟩ (.slice Aa0_2 a0.Blobs.length ca0_2), .load ⟨g1, 3, none⟩ (.slice Aa0_3 a0.Entries.length ca0_3)]) (L' := [(1, .int .i64 a1), (2, .int .i64 a2), (3, .pointer (some ⟨g1, 0, none⟩)), (6, .pointer (some ⟨g2, 0, none⟩)), (12, .agg #[.int .i64 a0.Room, .int .i64 a0.Lease, .slice Aa0_2 a0.Blobs.length ca0_2, .slice Aa0_3 a0.Entries.length ca0_3]), (13, .int .i64 a2)]) (by kernel_rfl) (by kernel_rfl) (fun w hh => ⟨(hh.box 1 rfl rfl), (hh.box 1 rfl rfl), (hh.box 1 rfl rfl), (hh.box 1 rfl rfl)⟩) ?_
  obtain ⟨y1, hy1, heq⟩ := bind_some heq
  refine RgH.does (DoesH.call (d := 14) (g := 69) (args := #[.agg #[.int .i64 a0.Room, .int .i64 a0.Lease, .slice Aa0_2 a0.Blobs.length ca0_2, .slice Aa0_3 a0.Entries.length ca0_3], .int .i64 a2]) (by kernel_rfl) (cache_checkAt_c (a0 := a0) (a1 := a2) (hra0_2.wk (fun _ h => (.tail _ (.tail _ h)))) hca0_2 rfl (hra0_3.wk (fun _ h => (.tail _ (.tail _ h)))) hca0_3 rfl hy1)) ?_
  rintro _ _ _ _ ⟨_, rfl, rfl, rfl, rfl⟩
  refine RgH.runk 4 [1, 2, 3, 6, 9] (vs := []) (evs := []) (L' := [(1, .int .i64 a1), (2, .int .i64 a2), (3, .pointer (some ⟨g1, 0, none⟩)), (6, .pointer (some ⟨g2, 0, none⟩)), (9, .int .i64 y1)]) (by kernel_rfl) (by kernel_rfl) (fun _ _ => trivial) ?_
  refine RgH.done (by kernel_rfl) ?_
  refine RunH.adm 1 (es' := [.c [1, 0, 1, 0], .c [1, 0, 1, 1], .c [1, 1]]) (by kernel_rfl) ?_
  refine RunH.reg (by kernel_rfl) ?_
  refine RgH.runk 2 [1, 2, 3, 6, 9, 16] (vs := []) (evs := []) (L' := [(1, .int .i64 a1), (2, .int .i64 a2), (3, .pointer (some ⟨g1, 0, none⟩)), (6, .pointer (some ⟨g2, 0, none⟩)), (9, .int .i64 y1), (16, .bool (y1 != 0))]) (by kernel_rfl) (by kernel_rfl) (fun _ _ => trivial) ?_
  refine RgH.done (by kernel_rfl) ?_
  rcases bool_cases (y1 != 0) with hb1 | hb1
  · replace heq := bif_true hb1 heq
    refine RunH.condT (c := y1 != 0) (by kernel_rfl) hb1 ?_
    refine RunH.adm 1 (es' := [.c [1, 0, 1, 1, 0, 0], .c [1, 0, 1, 1, 0, 1], .c [1, 1]]) (by kernel_rfl) ?_
    refine RunH.reg (by kernel_rfl) ?_
    refine RgH.runk 2 [6, 17, 18] (vs := []) (evs := []) (L' := [(6, .pointer (some ⟨g2, 0, none⟩)), (17, .agg #[.int .i64 0, .int .i64 0, .slice none 0 0, .slice none 0 0]), (18, .int .i64 y1)]) (by kernel_rfl) (by kernel_rfl) (fun _ _ => trivial) ?_
    refine RgH.does (DoesH.store (k := 0) (g := g2) (off := 0) (v := .agg #[.int .i64 0, .int .i64 0, .slice none 0 0, .slice none 0 0]) (cells' := #[.int .i64 0, .int .i64 0, .slice none 0 0, .slice none 0 0]) (by kernel_rfl) rfl (by kernel_rfl) (by kernel_rfl)) ?_
    rintro _ _ _ _ ⟨rfl, rfl, rfl⟩
    refine RgH.runk 5 [6, 7, 8] (vs := []) (evs := []) (L' := [(6, .pointer (some ⟨g2, 0, none⟩)), (7, .slice none 0 0), (8, .int .i64 y1)]) (by kernel_rfl) (by kernel_rfl) (fun _ _ => trivial) ?_
    refine RgH.done (by kernel_rfl) ?_
    refine RunH.nilc ?_
    have ho1 : SlOwn kBlob 47 H none 0 ([] : List Blob) none := SlOwn.nil
    refine RunH.nilc ?_
    have ho2 : SlOwn kEntry 51 H none 0 ([] : List Entry) none := SlOwn.nil
    refine RunH.nilc ?_
    have ho3 : SlOwn Kd.string 9 H none 0 ([] : List ByteArray) none := SlOwn.nil
    obtain rfl := Option.some.inj heq
    refine RunH.pick 5 [3, 2, 1, 0] (cs' := (some (g2, .cells #[.int .i64 0, .int .i64 0, .slice none 0 0, .slice none 0 0] 25 (0, 0))) :: none :: none :: none :: F) (by kernel_rfl) rfl ?_
    exact RunH.doneM' 1 (vs := [.agg #[.int .i64 0, .int .i64 0, .slice none 0 0, .slice none 0 0], .slice none 0 0, .int .i64 y1]) (v := .tuple #[.agg #[.int .i64 0, .int .i64 0, .slice none 0 0, .slice none 0 0], .slice none 0 0, .int .i64 y1]) (by kernel_rfl) Tryd.func36 (fun w hh => show ResAll _ _ _ [.cell 6 25, .tmp 7, .tmp 8] _ from ⟨⟨⟨g2, 0, none⟩, by kernel_rfl, trS_run _ (vs := [.int .i64 0, .int .i64 0, .slice none 0 0, .slice none 0 0]) (r := []) (es := [.load ⟨g2, 0, none⟩ (.int .i64 0), .load ⟨g2, 1, none⟩ (.int .i64 0), .load ⟨g2, 2, none⟩ (.slice none 0 0), .load ⟨g2, 3, none⟩ (.slice none 0 0)]) (by kernel_rfl) ⟨(hh.box 0 rfl rfl), (hh.box 0 rfl rfl), (hh.box 0 rfl rfl), (hh.box 0 rfl rfl)⟩⟩, (show lk _ _ = some _ by kernel_rfl), (show lk _ _ = some _ by kernel_rfl), trivial⟩) rfl (cs' := none :: none :: none :: F) rfl ⟨none, 0, none, none, 0, none, none, 0, none, rfl, rfl, ho1, ho2, ho3⟩
  · replace heq := bif_false hb1 heq
    refine RunH.condF (c := y1 != 0) (by kernel_rfl) hb1 ?_
    refine RunH.adm 3 (es' := [.c [1, 1, 0, 0], .c [1, 1, 0, 1], .c [1, 1, 1]]) (by kernel_rfl) ?_
    refine RunH.reg (by kernel_rfl) ?_
    refine RgH.runk 1 [1, 2, 3, 6, 19] (vs := []) (evs := []) (L' := [(1, .int .i64 a1), (2, .int .i64 a2), (3, .pointer (some ⟨g1, 0, none⟩)), (6, .pointer (some ⟨g2, 0, none⟩)), (19, .int .i64 a1)]) (by kernel_rfl) (by kernel_rfl) (fun _ _ => trivial) ?_
    obtain ⟨y2, hy2, heq⟩ := bind_some heq
    refine RgH.does (DoesH.call (d := 20) (g := 57) (args := #[.int .i64 a1, .int .i64 0, .int .i64 1000000000]) (by kernel_rfl) (cache_within_c (a0 := a1) (a1 := 0) (a2 := 1000000000)  hy2)) ?_
    rintro _ _ _ _ ⟨_, rfl, rfl, rfl, rfl⟩
    refine RgH.runk 3 [1, 2, 3, 6, 21] (vs := []) (evs := []) (L' := [(1, .int .i64 a1), (2, .int .i64 a2), (3, .pointer (some ⟨g1, 0, none⟩)), (6, .pointer (some ⟨g2, 0, none⟩)), (21, .bool (!y2))]) (by kernel_rfl) (by kernel_rfl) (fun _ _ => trivial) ?_
    refine RgH.done (by kernel_rfl) ?_
    rcases bool_cases (!y2) with hb2 | hb2
    · replace heq := bif_true hb2 heq
      refine RunH.condT (c := !y2) (by kernel_rfl) hb2 ?_
      refine RunH.adm 1 (es' := [.c [1, 1, 0, 1, 0, 0], .c [1, 1, 0, 1, 0, 1], .c [1, 1, 1]]) (by kernel_rfl) ?_
      refine RunH.reg (by kernel_rfl) ?_
      refine RgH.runk 1 [6, 22] (vs := []) (evs := []) (L' := [(6, .pointer (some ⟨g2, 0, none⟩)), (22, .agg #[.int .i64 0, .int .i64 0, .slice none 0 0, .slice none 0 0])]) (by kernel_rfl) (by kernel_rfl) (fun _ _ => trivial) ?_
      refine RgH.does (DoesH.store (k := 0) (g := g2) (off := 0) (v := .agg #[.int .i64 0, .int .i64 0, .slice none 0 0, .slice none 0 0]) (cells' := #[.int .i64 0, .int .i64 0, .slice none 0 0, .slice none 0 0]) (by kernel_rfl) rfl (by kernel_rfl) (by kernel_rfl)) ?_
      rintro _ _ _ _ ⟨rfl, rfl, rfl⟩
      refine RgH.runk 4 [6, 7, 8] (vs := []) (evs := []) (L' := [(6, .pointer (some ⟨g2, 0, none⟩)), (7, .slice none 0 0), (8, .int .i64 1)]) (by kernel_rfl) (by kernel_rfl) (fun _ _ => trivial) ?_
      refine RgH.done (by kernel_rfl) ?_
      refine RunH.nilc ?_
      have ho4 : SlOwn kBlob 47 H none 0 ([] : List Blob) none := SlOwn.nil
      refine RunH.nilc ?_
      have ho5 : SlOwn kEntry 51 H none 0 ([] : List Entry) none := SlOwn.nil
      refine RunH.nilc ?_
      have ho6 : SlOwn Kd.string 9 H none 0 ([] : List ByteArray) none := SlOwn.nil
      obtain rfl := Option.some.inj heq
      refine RunH.pick 5 [3, 2, 1, 0] (cs' := (some (g2, .cells #[.int .i64 0, .int .i64 0, .slice none 0 0, .slice none 0 0] 25 (0, 0))) :: none :: none :: none :: F) (by kernel_rfl) rfl ?_
      exact RunH.doneM' 1 (vs := [.agg #[.int .i64 0, .int .i64 0, .slice none 0 0, .slice none 0 0], .slice none 0 0, .int .i64 1]) (v := .tuple #[.agg #[.int .i64 0, .int .i64 0, .slice none 0 0, .slice none 0 0], .slice none 0 0, .int .i64 1]) (by kernel_rfl) Tryd.func36 (fun w hh => show ResAll _ _ _ [.cell 6 25, .tmp 7, .tmp 8] _ from ⟨⟨⟨g2, 0, none⟩, by kernel_rfl, trS_run _ (vs := [.int .i64 0, .int .i64 0, .slice none 0 0, .slice none 0 0]) (r := []) (es := [.load ⟨g2, 0, none⟩ (.int .i64 0), .load ⟨g2, 1, none⟩ (.int .i64 0), .load ⟨g2, 2, none⟩ (.slice none 0 0), .load ⟨g2, 3, none⟩ (.slice none 0 0)]) (by kernel_rfl) ⟨(hh.box 0 rfl rfl), (hh.box 0 rfl rfl), (hh.box 0 rfl rfl), (hh.box 0 rfl rfl)⟩⟩, (show lk _ _ = some _ by kernel_rfl), (show lk _ _ = some _ by kernel_rfl), trivial⟩) rfl (cs' := none :: none :: none :: F) rfl ⟨none, 0, none, none, 0, none, none, 0, none, rfl, rfl, ho4, ho5, ho6⟩
    · replace heq := bif_false hb2 heq
      refine RunH.condF (c := !y2) (by kernel_rfl) hb2 ?_
      refine RunH.adm 2 (es' := [.c [1, 1, 1, 0], .c [1, 1, 1, 1]]) (by kernel_rfl) ?_
      refine RunH.reg (by kernel_rfl) ?_
      refine RgH.runk 1 [1, 2, 3, 6, 23] (vs := [.int .i64 a0.Room, .int .i64 a0.Lease, .slice Aa0_2 a0.Blobs.length ca0_2, .slice Aa0_3 a0.Entries.length ca0_3]) (evs := [.load ⟨g1, 0, none⟩ (.int .i64 a0.Room), .load ⟨g1, 1, none⟩ (.int .i64 a0.Lease), .load ⟨g1, 2, none⟩ (.slice Aa0_2 a0.Blobs.length ca0_2), .load ⟨g1, 3, none⟩ (.slice Aa0_3 a0.Entries.length ca0_3)]) (L' := [(1, .int .i64 a1), (2, .int .i64 a2), (3, .pointer (some ⟨g1, 0, none⟩)), (6, .pointer (some ⟨g2, 0, none⟩)), (23, .agg #[.int .i64 a0.Room, .int .i64 a0.Lease, .slice Aa0_2 a0.Blobs.length ca0_2, .slice Aa0_3 a0.Entries.length ca0_3])]) (by kernel_rfl) (by kernel_rfl) (fun w hh => ⟨(hh.box 1 rfl rfl), (hh.box 1 rfl rfl), (hh.box 1 rfl rfl), (hh.box 1 rfl rfl)⟩) ?_
      obtain ⟨y3, hy3, heq⟩ := bind_some heq
      refine RgH.does (DoesH.call (d := 24) (g := 70) (args := #[.agg #[.int .i64 a0.Room, .int .i64 a0.Lease, .slice Aa0_2 a0.Blobs.length ca0_2, .slice Aa0_3 a0.Entries.length ca0_3]]) (by kernel_rfl) (cache_own_c (a0 := a0) (hra0_2.wk (fun _ h => (.tail _ (.tail _ h)))) hca0_2 rfl (hra0_3.wk (fun _ h => (.tail _ (.tail _ h)))) hca0_3 rfl hy3)) ?_
      rintro _ H _ hl ⟨_, rfl, A1, c1, ch1, A2, c2, ch2, rfl, rfl, ho7, ho8⟩
      replace hra0_2 := hra0_2.mono hl
      replace hra0_3 := hra0_3.mono hl
      refine RgH.does (DoesH.store (k := 3) (g := g1) (off := 0) (v := .agg #[.int .i64 y3.Room, .int .i64 y3.Lease, .slice A1 y3.Blobs.length c1, .slice A2 y3.Entries.length c2]) (cells' := #[.int .i64 y3.Room, .int .i64 y3.Lease, .slice A1 y3.Blobs.length c1, .slice A2 y3.Entries.length c2]) (by kernel_rfl) rfl (by kernel_rfl) (by kernel_rfl)) ?_
      rintro _ _ _ _ ⟨rfl, rfl, rfl⟩
      refine RgH.done (by kernel_rfl) ?_
      refine RunH.adm 1 (es' := [.c [1, 1, 1, 1, 0], .c [1, 1, 1, 1, 1]]) (by kernel_rfl) ?_
      refine RunH.reg (by kernel_rfl) ?_
      refine RgH.runk 2 [1, 3, 6, 26, 27] (vs := []) (evs := []) (L' := [(1, .int .i64 a1), (3, .pointer (some ⟨g1, 0, none⟩)), (6, .pointer (some ⟨g2, 0, none⟩)), (26, .int .i64 a1), (27, .int .i64 a2)]) (by kernel_rfl) (by kernel_rfl) (fun _ _ => trivial) ?_
      refine RgH.pick 4 [3, 0, 1, 2] (cs' := (some (g1, .cells #[.int .i64 y3.Room, .int .i64 y3.Lease, .slice A1 y3.Blobs.length c1, .slice A2 y3.Entries.length c2] 25 (0, 0))) :: ch1 :: ch2 :: (some (g2, .cells #[.int .i64 0, .int .i64 0, .slice none 0 0, .slice none 0 0] 25 (0, 0))) :: F) (by kernel_rfl) rfl ?_
      obtain ⟨y4, hy4, heq⟩ := bind_some heq
      refine RgH.does (DoesH.call (d := 28) (g := 83) (args := #[.pointer (some ⟨g1, 0, none⟩), .int .i64 a1, .int .i64 a2]) (by kernel_rfl) (cache_clear_c (a0 := (⟨y3.Room, y3.Lease, y3.Blobs, y3.Entries⟩ : Cache)) (a1 := a1) (a2 := a2) ho7 rfl ho8 rfl hy4)) ?_
      rintro _ _ _ _ ⟨_, rfl, A3, c3, ch3, A4, c4, ch4, A5, c5, ch5, rfl, rfl, rfl, ho9, ho10, ho11⟩
      refine RgH.runk 8 [1, 3, 6, 10, 11] (vs := []) (evs := []) (L' := [(1, .int .i64 a1), (3, .pointer (some ⟨g1, 0, none⟩)), (6, .pointer (some ⟨g2, 0, none⟩)), (10, .slice A3 y4.1.length c3), (11, .bool y4.2.1)]) (by kernel_rfl) (by kernel_rfl) (fun _ _ => trivial) ?_
      refine RgH.done (by kernel_rfl) ?_
      refine RunH.adm 2 (es' := [.c [1, 1, 1, 1, 1, 0, 0], .c [1, 1, 1, 1, 1, 0, 1], .c [1, 1, 1, 1, 1, 1]]) (by kernel_rfl) ?_
      refine RunH.reg (by kernel_rfl) ?_
      refine RgH.runk 2 [1, 3, 6, 10, 32] (vs := []) (evs := []) (L' := [(1, .int .i64 a1), (3, .pointer (some ⟨g1, 0, none⟩)), (6, .pointer (some ⟨g2, 0, none⟩)), (10, .slice A3 y4.1.length c3), (32, .bool (!y4.2.1))]) (by kernel_rfl) (by kernel_rfl) (fun _ _ => trivial) ?_
      refine RgH.done (by kernel_rfl) ?_
      rcases bool_cases (!y4.2.1) with hb3 | hb3
      · replace heq := bif_true hb3 heq
        refine RunH.condT (c := !y4.2.1) (by kernel_rfl) hb3 ?_
        refine RunH.adm 1 (es' := [.c [1, 1, 1, 1, 1, 0, 1, 0, 0], .c [1, 1, 1, 1, 1, 0, 1, 0, 1], .c [1, 1, 1, 1, 1, 1]]) (by kernel_rfl) ?_
        refine RunH.reg (by kernel_rfl) ?_
        refine RgH.runk 1 [6, 33] (vs := []) (evs := []) (L' := [(6, .pointer (some ⟨g2, 0, none⟩)), (33, .agg #[.int .i64 0, .int .i64 0, .slice none 0 0, .slice none 0 0])]) (by kernel_rfl) (by kernel_rfl) (fun _ _ => trivial) ?_
        refine RgH.does (DoesH.store (k := 4) (g := g2) (off := 0) (v := .agg #[.int .i64 0, .int .i64 0, .slice none 0 0, .slice none 0 0]) (cells' := #[.int .i64 0, .int .i64 0, .slice none 0 0, .slice none 0 0]) (by kernel_rfl) rfl (by kernel_rfl) (by kernel_rfl)) ?_
        rintro _ _ _ _ ⟨rfl, rfl, rfl⟩
        refine RgH.runk 4 [6, 7, 8] (vs := []) (evs := []) (L' := [(6, .pointer (some ⟨g2, 0, none⟩)), (7, .slice none 0 0), (8, .int .i64 16)]) (by kernel_rfl) (by kernel_rfl) (fun _ _ => trivial) ?_
        refine RgH.done (by kernel_rfl) ?_
        refine RunH.nilc ?_
        have ho12 : SlOwn kBlob 47 H none 0 ([] : List Blob) none := SlOwn.nil
        refine RunH.nilc ?_
        have ho13 : SlOwn kEntry 51 H none 0 ([] : List Entry) none := SlOwn.nil
        refine RunH.nilc ?_
        have ho14 : SlOwn Kd.string 9 H none 0 ([] : List ByteArray) none := SlOwn.nil
        obtain rfl := Option.some.inj heq
        refine RunH.pick 8 [7, 2, 1, 0] (cs' := (some (g2, .cells #[.int .i64 0, .int .i64 0, .slice none 0 0, .slice none 0 0] 25 (0, 0))) :: none :: none :: none :: F) (by kernel_rfl) rfl ?_
        exact RunH.doneM' 1 (vs := [.agg #[.int .i64 0, .int .i64 0, .slice none 0 0, .slice none 0 0], .slice none 0 0, .int .i64 16]) (v := .tuple #[.agg #[.int .i64 0, .int .i64 0, .slice none 0 0, .slice none 0 0], .slice none 0 0, .int .i64 16]) (by kernel_rfl) Tryd.func36 (fun w hh => show ResAll _ _ _ [.cell 6 25, .tmp 7, .tmp 8] _ from ⟨⟨⟨g2, 0, none⟩, by kernel_rfl, trS_run _ (vs := [.int .i64 0, .int .i64 0, .slice none 0 0, .slice none 0 0]) (r := []) (es := [.load ⟨g2, 0, none⟩ (.int .i64 0), .load ⟨g2, 1, none⟩ (.int .i64 0), .load ⟨g2, 2, none⟩ (.slice none 0 0), .load ⟨g2, 3, none⟩ (.slice none 0 0)]) (by kernel_rfl) ⟨(hh.box 0 rfl rfl), (hh.box 0 rfl rfl), (hh.box 0 rfl rfl), (hh.box 0 rfl rfl)⟩⟩, (show lk _ _ = some _ by kernel_rfl), (show lk _ _ = some _ by kernel_rfl), trivial⟩) rfl (cs' := none :: none :: none :: F) rfl ⟨none, 0, none, none, 0, none, none, 0, none, rfl, rfl, ho12, ho13, ho14⟩
      · replace heq := bif_false hb3 heq
        refine RunH.condF (c := !y4.2.1) (by kernel_rfl) hb3 ?_
        refine RunH.adm 2 (es' := [.c [1, 1, 1, 1, 1, 1, 0], .c [1, 1, 1, 1, 1, 1, 1]]) (by kernel_rfl) ?_
        refine RunH.reg (by kernel_rfl) ?_
        refine RgH.runk 2 [3, 6, 10, 34, 35] (vs := []) (evs := []) (L' := [(3, .pointer (some ⟨g1, 0, none⟩)), (6, .pointer (some ⟨g2, 0, none⟩)), (10, .slice A3 y4.1.length c3), (34, .int .i64 a1), (35, .pointer (some ⟨g1, 0, none⟩))]) (by kernel_rfl) (by kernel_rfl) (fun _ _ => trivial) ?_
        refine RgH.does (DoesH.store (k := 1) (g := g1) (off := 0) (v := .int .i64 a1) (cells' := #[.int .i64 a1, .int .i64 y4.2.2.Lease, .slice A4 y4.2.2.Blobs.length c4, .slice A5 y4.2.2.Entries.length c5]) (by kernel_rfl) rfl (by kernel_rfl) (by kernel_rfl)) ?_
        rintro _ _ _ _ ⟨rfl, rfl, rfl⟩
        refine RgH.done (by kernel_rfl) ?_
        refine RunH.adm 1 (es' := [.c [1, 1, 1, 1, 1, 1, 1, 0], .c [1, 1, 1, 1, 1, 1, 1, 1]]) (by kernel_rfl) ?_
        refine RunH.reg (by kernel_rfl) ?_
        refine RgH.runk 2 [6, 36, 37] (vs := [.int .i64 a1, .int .i64 y4.2.2.Lease, .slice A4 y4.2.2.Blobs.length c4, .slice A5 y4.2.2.Entries.length c5]) (evs := [.load ⟨g1, 0, none⟩ (.int .i64 a1), .load ⟨g1, 1, none⟩ (.int .i64 y4.2.2.Lease), .load ⟨g1, 2, none⟩ (.slice A4 y4.2.2.Blobs.length c4), .load ⟨g1, 3, none⟩ (.slice A5 y4.2.2.Entries.length c5)]) (L' := [(6, .pointer (some ⟨g2, 0, none⟩)), (36, .agg #[.int .i64 a1, .int .i64 y4.2.2.Lease, .slice A4 y4.2.2.Blobs.length c4, .slice A5 y4.2.2.Entries.length c5]), (37, .slice A3 y4.1.length c3)]) (by kernel_rfl) (by kernel_rfl) (fun w hh => ⟨(hh.box 1 rfl rfl), (hh.box 1 rfl rfl), (hh.box 1 rfl rfl), (hh.box 1 rfl rfl)⟩) ?_
        refine RgH.does (DoesH.store (k := 4) (g := g2) (off := 0) (v := .agg #[.int .i64 a1, .int .i64 y4.2.2.Lease, .slice A4 y4.2.2.Blobs.length c4, .slice A5 y4.2.2.Entries.length c5]) (cells' := #[.int .i64 a1, .int .i64 y4.2.2.Lease, .slice A4 y4.2.2.Blobs.length c4, .slice A5 y4.2.2.Entries.length c5]) (by kernel_rfl) rfl (by kernel_rfl) (by kernel_rfl)) ?_
        rintro _ _ _ _ ⟨rfl, rfl, rfl⟩
        refine RgH.runk 5 [6, 7, 8] (vs := []) (evs := []) (L' := [(6, .pointer (some ⟨g2, 0, none⟩)), (7, .slice A3 y4.1.length c3), (8, .int .i64 0)]) (by kernel_rfl) (by kernel_rfl) (fun _ _ => trivial) ?_
        refine RgH.done (by kernel_rfl) ?_
        obtain rfl := Option.some.inj heq
        refine RunH.pick 5 [4, 2, 3, 0] (cs' := (some (g2, .cells #[.int .i64 a1, .int .i64 y4.2.2.Lease, .slice A4 y4.2.2.Blobs.length c4, .slice A5 y4.2.2.Entries.length c5] 25 (0, 0))) :: ch4 :: ch5 :: ch3 :: F) (by kernel_rfl) rfl ?_
        exact RunH.doneM' 1 (vs := [.agg #[.int .i64 a1, .int .i64 y4.2.2.Lease, .slice A4 y4.2.2.Blobs.length c4, .slice A5 y4.2.2.Entries.length c5], .slice A3 y4.1.length c3, .int .i64 0]) (v := .tuple #[.agg #[.int .i64 a1, .int .i64 y4.2.2.Lease, .slice A4 y4.2.2.Blobs.length c4, .slice A5 y4.2.2.Entries.length c5], .slice A3 y4.1.length c3, .int .i64 0]) (by kernel_rfl) Tryd.func36 (fun w hh => show ResAll _ _ _ [.cell 6 25, .tmp 7, .tmp 8] _ from ⟨⟨⟨g2, 0, none⟩, by kernel_rfl, trS_run _ (vs := [.int .i64 a1, .int .i64 y4.2.2.Lease, .slice A4 y4.2.2.Blobs.length c4, .slice A5 y4.2.2.Entries.length c5]) (r := []) (es := [.load ⟨g2, 0, none⟩ (.int .i64 a1), .load ⟨g2, 1, none⟩ (.int .i64 y4.2.2.Lease), .load ⟨g2, 2, none⟩ (.slice A4 y4.2.2.Blobs.length c4), .load ⟨g2, 3, none⟩ (.slice A5 y4.2.2.Entries.length c5)]) (by kernel_rfl) ⟨(hh.box 0 rfl rfl), (hh.box 0 rfl rfl), (hh.box 0 rfl rfl), (hh.box 0 rfl rfl)⟩⟩, (show lk _ _ = some _ by kernel_rfl), (show lk _ _ = some _ by kernel_rfl), trivial⟩) rfl (cs' := ch4 :: ch5 :: ch3 :: F) rfl ⟨A4, c4, ch4, A5, c5, ch5, A3, c3, ch3, rfl, rfl, ho10, ho11, ho9⟩
noncomputable def C37 : Ctx := { P := Tryd.prog, f := 37, N := 17, c := bodyOf Tryd.f37 }
def S37 (F : List Ch) (H0 : Hp) (r : (List ByteArray) × Int) (v : Value) (H : Hp) (cs : List Ch) : Prop := ∃ (A0 : Option Addr) (c0 : Nat) (ch0 : Ch), H0 = H ∧ v = .tuple #[.slice A0 r.1.length c0, .int .i64 r.2] ∧ ch0 :: F = cs ∧ SlOwn Kd.string 9 H A0 c0 r.1 ch0
theorem cache_Next_c {w0 : World} {H : Hp} {F : List Ch} {a0 : Cache} {Aa0_2 : Option Addr} {na0_2 : Nat} {ca0_2 : Nat} {Aa0_3 : Option Addr} {na0_3 : Nat} {ca0_3 : Nat} {a1 : Int} {r : (List ByteArray) × Int} (hra0_2 : Rw kBlob H F Aa0_2 a0.Blobs) (hca0_2 : na0_2 ≤ ca0_2) (hna0_2 : na0_2 = a0.Blobs.length) (hra0_3 : Rw kEntry H F Aa0_3 a0.Entries) (hca0_3 : na0_3 ≤ ca0_3) (hna0_3 : na0_3 = a0.Entries.length) (heq : cache_Next.f a0 a1 = some r) : CallsH Tryd.prog 37 #[.agg #[.int .i64 a0.Room, .int .i64 a0.Lease, .slice Aa0_2 na0_2 ca0_2, .slice Aa0_3 na0_3 ca0_3], .int .i64 a1] H w0 (F) (S37 F H r) := by
  refine calls_of_runH (F := C37) Tryd.func37 (by kernel_rfl) Tryd.ntmps37 (args := [.agg #[.int .i64 a0.Room, .int .i64 a0.Lease, .slice Aa0_2 na0_2 ca0_2, .slice Aa0_3 na0_3 ca0_3], .int .i64 a1]) (by kernel_rfl) ?_
  subst hna0_2
  subst hna0_3
  unfold cache_Next.f at heq
  refine RunH.adm 1 (es' := [.c [0], .c [1]]) (by kernel_rfl) ?_
  refine RunH.reg (by kernel_rfl) ?_
  refine RgH.does (DoesH.new (d := 2) (v := fun g => .pointer (some ⟨g, 0, none⟩)) (o := fun g => .cells #[.int .i64 a0.Room, .int .i64 a0.Lease, .slice Aa0_2 a0.Blobs.length ca0_2, .slice Aa0_3 a0.Entries.length ca0_3] 25 (0, 0)) (fun g => by kernel_rfl)) ?_
  rintro _ _ _ _ ⟨g1, rfl, rfl, rfl⟩
  refine RgH.runk 3 [1, 2] (vs := []) (evs := []) (L' := [(1, .int .i64 a1), (2, .pointer (some ⟨g1, 0, none⟩))]) (by kernel_rfl) (by kernel_rfl) (fun _ _ => trivial) ?_
  refine RgH.done (by kernel_rfl) ?_
  refine RunH.adm 2 (es' := [.c [1, 0, 0], .c [1, 0, 1], .c [1, 1]]) (by kernel_rfl) ?_
  refine RunH.reg (by kernel_rfl) ?_
  refine RgH.runk 2 [1, 2, 7, 8] (vs := [.int .i64 a0.Room, .int .i64 a0.Lease, .slice Aa0_2 a0.Blobs.length ca0_2, .slice Aa0_3 a0.Entries.length ca0_3]) (evs := [.load ⟨g1, 0, none⟩ (.int .i64 a0.Room), .load ⟨g1, 1, none⟩ (.int .i64 a0.Lease), .load ⟨g1, 2, none⟩ (.slice Aa0_2 a0.Blobs.length ca0_2), .load ⟨g1, 3, none⟩ (.slice Aa0_3 a0.Entries.length ca0_3)]) (L' := [(1, .int .i64 a1), (2, .pointer (some ⟨g1, 0, none⟩)), (7, .agg #[.int .i64 a0.Room, .int .i64 a0.Lease, .slice Aa0_2 a0.Blobs.length ca0_2, .slice Aa0_3 a0.Entries.length ca0_3]), (8, .int .i64 a1)]) (by kernel_rfl) (by kernel_rfl) (fun w hh => ⟨(hh.box 0 rfl rfl), (hh.box 0 rfl rfl), (hh.box 0 rfl rfl), (hh.box 0 rfl rfl)⟩) ?_
  obtain ⟨y1, hy1, heq⟩ := bind_some heq
  refine RgH.does (DoesH.call (d := 9) (g := 69) (args := #[.agg #[.int .i64 a0.Room, .int .i64 a0.Lease, .slice Aa0_2 a0.Blobs.length ca0_2, .slice Aa0_3 a0.Entries.length ca0_3], .int .i64 a1]) (by kernel_rfl) (cache_checkAt_c (a0 := a0) (a1 := a1) (hra0_2.wk (fun _ h => (.tail _ h))) hca0_2 rfl (hra0_3.wk (fun _ h => (.tail _ h))) hca0_3 rfl hy1)) ?_
  rintro _ _ _ _ ⟨_, rfl, rfl, rfl, rfl⟩
  refine RgH.runk 4 [1, 2, 6] (vs := []) (evs := []) (L' := [(1, .int .i64 a1), (2, .pointer (some ⟨g1, 0, none⟩)), (6, .int .i64 y1)]) (by kernel_rfl) (by kernel_rfl) (fun _ _ => trivial) ?_
  refine RgH.done (by kernel_rfl) ?_
  refine RunH.adm 1 (es' := [.c [1, 0, 1, 0], .c [1, 0, 1, 1], .c [1, 1]]) (by kernel_rfl) ?_
  refine RunH.reg (by kernel_rfl) ?_
  refine RgH.runk 2 [1, 2, 6, 11] (vs := []) (evs := []) (L' := [(1, .int .i64 a1), (2, .pointer (some ⟨g1, 0, none⟩)), (6, .int .i64 y1), (11, .bool (y1 != 0))]) (by kernel_rfl) (by kernel_rfl) (fun _ _ => trivial) ?_
  refine RgH.done (by kernel_rfl) ?_
  rcases bool_cases (y1 != 0) with hb1 | hb1
  · replace heq := bif_true hb1 heq
    refine RunH.condT (c := y1 != 0) (by kernel_rfl) hb1 ?_
    refine RunH.adm 1 (es' := [.c [1, 0, 1, 1, 0, 0], .c [1, 0, 1, 1, 0, 1], .c [1, 1]]) (by kernel_rfl) ?_
    refine RunH.reg (by kernel_rfl) ?_
    refine RgH.runk 3 [4, 5] (vs := []) (evs := []) (L' := [(4, .slice none 0 0), (5, .int .i64 y1)]) (by kernel_rfl) (by kernel_rfl) (fun _ _ => trivial) ?_
    refine RgH.done (by kernel_rfl) ?_
    refine RunH.nilc ?_
    have ho1 : SlOwn Kd.string 9 H none 0 ([] : List ByteArray) none := SlOwn.nil
    obtain rfl := Option.some.inj heq
    refine RunH.pick 2 [0] (cs' := none :: F) (by kernel_rfl) rfl ?_
    exact RunH.done (by kernel_rfl) Tryd.func37 (v := .tuple #[.slice none 0 0, .int .i64 y1]) (by kernel_rfl) ⟨none, 0, none, rfl, rfl, rfl, ho1⟩
  · replace heq := bif_false hb1 heq
    refine RunH.condF (c := y1 != 0) (by kernel_rfl) hb1 ?_
    refine RunH.adm 2 (es' := [.c [1, 1, 0], .c [1, 1, 1]]) (by kernel_rfl) ?_
    refine RunH.reg (by kernel_rfl) ?_
    refine RgH.runk 2 [13, 14] (vs := [.int .i64 a0.Room, .int .i64 a0.Lease, .slice Aa0_2 a0.Blobs.length ca0_2, .slice Aa0_3 a0.Entries.length ca0_3]) (evs := [.load ⟨g1, 0, none⟩ (.int .i64 a0.Room), .load ⟨g1, 1, none⟩ (.int .i64 a0.Lease), .load ⟨g1, 2, none⟩ (.slice Aa0_2 a0.Blobs.length ca0_2), .load ⟨g1, 3, none⟩ (.slice Aa0_3 a0.Entries.length ca0_3)]) (L' := [(13, .agg #[.int .i64 a0.Room, .int .i64 a0.Lease, .slice Aa0_2 a0.Blobs.length ca0_2, .slice Aa0_3 a0.Entries.length ca0_3]), (14, .int .i64 a1)]) (by kernel_rfl) (by kernel_rfl) (fun w hh => ⟨(hh.box 0 rfl rfl), (hh.box 0 rfl rfl), (hh.box 0 rfl rfl), (hh.box 0 rfl rfl)⟩) ?_
    obtain ⟨y2, hy2, heq⟩ := bind_some heq
    refine RgH.does (DoesH.call (d := 15) (g := 84) (args := #[.agg #[.int .i64 a0.Room, .int .i64 a0.Lease, .slice Aa0_2 a0.Blobs.length ca0_2, .slice Aa0_3 a0.Entries.length ca0_3], .int .i64 a1]) (by kernel_rfl) (cache_leaving_c (a0 := a0) (a1 := a1) (hra0_2.wk (fun _ h => (.tail _ h))) hca0_2 rfl (hra0_3.wk (fun _ h => (.tail _ h))) hca0_3 rfl hy2)) ?_
    rintro _ _ _ _ ⟨_, rfl, A1, c1, ch1, rfl, rfl, rfl, ho2⟩
    obtain ⟨y3, hy3, heq⟩ := bind_some heq
    refine RgH.does (DoesH.call (d := 16) (g := 71) (args := #[.slice A1 y2.length c1]) (by kernel_rfl) (cache_digestsOf_c (a0 := y2) (ho2.rw (.head _)) ho2.cap rfl hy3)) ?_
    rintro _ _ _ _ ⟨_, rfl, A2, c2, ch2, rfl, rfl, rfl, ho3⟩
    refine RgH.runk 6 [4, 5] (vs := []) (evs := []) (L' := [(4, .slice A2 y3.length c2), (5, .int .i64 0)]) (by kernel_rfl) (by kernel_rfl) (fun _ _ => trivial) ?_
    refine RgH.done (by kernel_rfl) ?_
    obtain rfl := Option.some.inj heq
    refine RunH.pick 3 [0] (cs' := ch2 :: F) (by kernel_rfl) rfl ?_
    exact RunH.done (by kernel_rfl) Tryd.func37 (v := .tuple #[.slice A2 y3.length c2, .int .i64 0]) (by kernel_rfl) ⟨A2, c2, ch2, rfl, rfl, rfl, ho3⟩
noncomputable def C7 : Ctx := { P := Tryd.prog, f := 7, N := 106, c := bodyOf Tryd.f7 }
def S7 (F : List Ch) (H0 : Hp) (r : Bool) (v : Value) (H : Hp) (cs : List Ch) : Prop := v = .bool r ∧ F = cs
theorem smithyardlaw7_CacheShrunkKeeps_c {w0 : World} {H0 : Hp} {F : List Ch} {a0 : Cache} {Aa0_2 : Option Addr} {na0_2 : Nat} {ca0_2 : Nat} {Aa0_3 : Option Addr} {na0_3 : Nat} {ca0_3 : Nat} {a1 : Int} {a2 : Int} {r : Bool} (hra0_2 : Rw kBlob H0 F Aa0_2 a0.Blobs) (hca0_2 : na0_2 ≤ ca0_2) (hna0_2 : na0_2 = a0.Blobs.length) (hra0_3 : Rw kEntry H0 F Aa0_3 a0.Entries) (hca0_3 : na0_3 ≤ ca0_3) (hna0_3 : na0_3 = a0.Entries.length) (heq : smithyardlaw7_CacheShrunkKeeps.f a0 a1 a2 = some r) : CallsH Tryd.prog 7 #[.agg #[.int .i64 a0.Room, .int .i64 a0.Lease, .slice Aa0_2 na0_2 ca0_2, .slice Aa0_3 na0_3 ca0_3], .int .i64 a1, .int .i64 a2] H0 w0 (F) (S7 F H0 r) := by
  refine calls_of_runH (F := C7) Tryd.func7 (by kernel_rfl) Tryd.ntmps7 (args := [.agg #[.int .i64 a0.Room, .int .i64 a0.Lease, .slice Aa0_2 na0_2 ca0_2, .slice Aa0_3 na0_3 ca0_3], .int .i64 a1, .int .i64 a2]) (by kernel_rfl) ?_
  subst hna0_2
  subst hna0_3
  unfold smithyardlaw7_CacheShrunkKeeps.f at heq
  suffices key : ∀ (H : Hp), Rw kBlob H F Aa0_2 a0.Blobs → Rw kEntry H F Aa0_3 a0.Entries → RunH C7 (S7 F H0 r) H0 w0 [.c []] (argL 0 [.agg #[.int .i64 a0.Room, .int .i64 a0.Lease, .slice Aa0_2 (a0.Blobs.length) ca0_2, .slice Aa0_3 (a0.Entries.length) ca0_3], .int .i64 a1, .int .i64 a2]) H (F) from key H0 hra0_2 hra0_3
  intro H hra0_2 hra0_3
  refine RunH.adm 1 (es' := [.c [0], .c [1]]) (by kernel_rfl) ?_
  refine RunH.reg (by kernel_rfl) ?_
  refine RgH.does (DoesH.new (d := 3) (v := fun g => .pointer (some ⟨g, 0, none⟩)) (o := fun g => .cells #[.int .i64 a0.Room, .int .i64 a0.Lease, .slice Aa0_2 a0.Blobs.length ca0_2, .slice Aa0_3 a0.Entries.length ca0_3] 25 (0, 0)) (fun g => by kernel_rfl)) ?_
  rintro _ _ _ _ ⟨g1, rfl, rfl, rfl⟩
  refine RgH.runk 2 [1, 2, 3] (vs := []) (evs := []) (L' := [(1, .int .i64 a1), (2, .int .i64 a2), (3, .pointer (some ⟨g1, 0, none⟩))]) (by kernel_rfl) (by kernel_rfl) (fun _ _ => trivial) ?_
  refine RgH.done (by kernel_rfl) ?_
  refine RunH.adm 1 (es' := [.c [1, 0], .c [1, 1]]) (by kernel_rfl) ?_
  refine RunH.reg (by kernel_rfl) ?_
  refine RgH.runk 1 [1, 2, 3, 17] (vs := [.int .i64 a0.Room, .int .i64 a0.Lease, .slice Aa0_2 a0.Blobs.length ca0_2, .slice Aa0_3 a0.Entries.length ca0_3]) (evs := [.load ⟨g1, 0, none⟩ (.int .i64 a0.Room), .load ⟨g1, 1, none⟩ (.int .i64 a0.Lease), .load ⟨g1, 2, none⟩ (.slice Aa0_2 a0.Blobs.length ca0_2), .load ⟨g1, 3, none⟩ (.slice Aa0_3 a0.Entries.length ca0_3)]) (L' := [(1, .int .i64 a1), (2, .int .i64 a2), (3, .pointer (some ⟨g1, 0, none⟩)), (17, .agg #[.int .i64 a0.Room, .int .i64 a0.Lease, .slice Aa0_2 a0.Blobs.length ca0_2, .slice Aa0_3 a0.Entries.length ca0_3])]) (by kernel_rfl) (by kernel_rfl) (fun w hh => ⟨(hh.box 0 rfl rfl), (hh.box 0 rfl rfl), (hh.box 0 rfl rfl), (hh.box 0 rfl rfl)⟩) ?_
  obtain ⟨y1, hy1, heq⟩ := bind_some heq
  refine RgH.does (DoesH.call (d := 18) (g := 24) (args := #[.agg #[.int .i64 a0.Room, .int .i64 a0.Lease, .slice Aa0_2 a0.Blobs.length ca0_2, .slice Aa0_3 a0.Entries.length ca0_3]]) (by kernel_rfl) (cache_Used_c (a0 := a0) (hra0_2.wk (fun _ h => (.tail _ h))) hca0_2 rfl (hra0_3.wk (fun _ h => (.tail _ h))) hca0_3 rfl hy1)) ?_
  rintro _ _ _ _ ⟨_, rfl, rfl, rfl, rfl⟩
  refine RgH.runk 7 [1, 2, 3, 7, 8] (vs := []) (evs := []) (L' := [(1, .int .i64 a1), (2, .int .i64 a2), (3, .pointer (some ⟨g1, 0, none⟩)), (7, .int .i64 y1.1), (8, .int .i64 y1.2)]) (by kernel_rfl) (by kernel_rfl) (fun _ _ => trivial) ?_
  refine RgH.done (by kernel_rfl) ?_
  refine RunH.adm 2 (es' := [.c [1, 1, 0, 0], .c [1, 1, 0, 1], .c [1, 1, 1]]) (by kernel_rfl) ?_
  refine RunH.reg (by kernel_rfl) ?_
  refine RgH.runk 2 [1, 2, 3, 7, 22] (vs := []) (evs := []) (L' := [(1, .int .i64 a1), (2, .int .i64 a2), (3, .pointer (some ⟨g1, 0, none⟩)), (7, .int .i64 y1.1), (22, .bool (y1.2 != 0))]) (by kernel_rfl) (by kernel_rfl) (fun _ _ => trivial) ?_
  refine RgH.done (by kernel_rfl) ?_
  rcases bool_cases (y1.2 != 0) with hb1 | hb1
  · replace heq := bif_true hb1 heq
    refine RunH.condT (c := y1.2 != 0) (by kernel_rfl) hb1 ?_
    refine RunH.adm 1 (es' := [.c [1, 1, 0, 1, 0, 0], .c [1, 1, 0, 1, 0, 1], .c [1, 1, 1]]) (by kernel_rfl) ?_
    obtain ⟨t1, ht1, heq⟩ := bind_some heq
    have K2 : ∀ (H : Hp), RunH C7 (S7 F H0 r) H0 w0 [.c [1, 1, 0, 1, 0, 1], .c [1, 1, 1]] [(6, .bool t1)] H (F) := by
      intro H
      obtain rfl := Option.some.inj heq
      exact RunH.done (by kernel_rfl) Tryd.func7 (v := .bool t1) (by kernel_rfl) ⟨rfl, rfl⟩
    replace heq := ht1
    refine RunH.reg (by kernel_rfl) ?_
    refine RgH.runk 3 [25] (vs := []) (evs := []) (L' := [(25, .bool (y1.1 == 0))]) (by kernel_rfl) (by kernel_rfl) (fun _ _ => trivial) ?_
    rcases bool_cases (y1.1 == 0) with hb2 | hb2
    · replace heq := bif_true hb2 heq
      refine RgH.val1 (v' := .bool true) (congrArg Value.bool hb2) ?_
      obtain ⟨y2, hy2, heq⟩ := bind_some heq
      refine RgH.does (DoesH.call (d := 26) (g := 29) (args := (List.toArray [])) (by kernel_rfl) (smithyardlaw7_awake_c  hy2)) ?_
      rintro _ _ _ _ ⟨_, rfl, rfl, rfl, rfl⟩
      refine RgH.runk 6 [6] (vs := []) (evs := []) (L' := [(6, .bool y2)]) (by kernel_rfl) (by kernel_rfl) (fun _ _ => trivial) ?_
      obtain rfl := Option.some.inj heq
      refine RgH.keep [6] (L' := [(6, .bool y2)]) (by kernel_rfl) ?_
      refine RgH.pick 1 [] (cs' := F) (by kernel_rfl) rfl ?_
      refine RgH.done (by kernel_rfl) ?_
      exact K2 _
    · replace heq := bif_false hb2 heq
      refine RgH.val1 (v' := .bool false) (congrArg Value.bool hb2) ?_
      refine RgH.runk 6 [6] (vs := []) (evs := []) (L' := [(6, .bool false)]) (by kernel_rfl) (by kernel_rfl) (fun _ _ => trivial) ?_
      obtain rfl := Option.some.inj heq
      refine RgH.keep [6] (L' := [(6, .bool false)]) (by kernel_rfl) ?_
      refine RgH.pick 1 [] (cs' := F) (by kernel_rfl) rfl ?_
      refine RgH.done (by kernel_rfl) ?_
      exact K2 _
  · replace heq := bif_false hb1 heq
    refine RunH.condF (c := y1.2 != 0) (by kernel_rfl) hb1 ?_
    refine RunH.adm 2 (es' := [.c [1, 1, 1, 0], .c [1, 1, 1, 1]]) (by kernel_rfl) ?_
    refine RunH.reg (by kernel_rfl) ?_
    refine RgH.runk 3 [1, 2, 3, 29, 30, 31] (vs := [.int .i64 a0.Room, .int .i64 a0.Lease, .slice Aa0_2 a0.Blobs.length ca0_2, .slice Aa0_3 a0.Entries.length ca0_3]) (evs := [.load ⟨g1, 0, none⟩ (.int .i64 a0.Room), .load ⟨g1, 1, none⟩ (.int .i64 a0.Lease), .load ⟨g1, 2, none⟩ (.slice Aa0_2 a0.Blobs.length ca0_2), .load ⟨g1, 3, none⟩ (.slice Aa0_3 a0.Entries.length ca0_3)]) (L' := [(1, .int .i64 a1), (2, .int .i64 a2), (3, .pointer (some ⟨g1, 0, none⟩)), (29, .agg #[.int .i64 a0.Room, .int .i64 a0.Lease, .slice Aa0_2 a0.Blobs.length ca0_2, .slice Aa0_3 a0.Entries.length ca0_3]), (30, .int .i64 y1.1), (31, .int .i64 a2)]) (by kernel_rfl) (by kernel_rfl) (fun w hh => ⟨(hh.box 0 rfl rfl), (hh.box 0 rfl rfl), (hh.box 0 rfl rfl), (hh.box 0 rfl rfl)⟩) ?_
    obtain ⟨y3, hy3, heq⟩ := bind_some heq
    refine RgH.does (DoesH.call (d := 32) (g := 36) (args := #[.agg #[.int .i64 a0.Room, .int .i64 a0.Lease, .slice Aa0_2 a0.Blobs.length ca0_2, .slice Aa0_3 a0.Entries.length ca0_3], .int .i64 y1.1, .int .i64 a2]) (by kernel_rfl) (cache_Shrunk_c (a0 := a0) (a1 := y1.1) (a2 := a2) (hra0_2.wk (fun _ h => (.tail _ h))) hca0_2 rfl (hra0_3.wk (fun _ h => (.tail _ h))) hca0_3 rfl hy3)) ?_
    rintro _ H _ hl ⟨_, rfl, A1, c1, ch1, A2, c2, ch2, A3, c3, ch3, rfl, rfl, ho1, ho2, ho3⟩
    replace hra0_2 := hra0_2.mono hl
    replace hra0_3 := hra0_3.mono hl
    refine RgH.runk 8 [1, 2, 3, 33, 34, 35] (vs := []) (evs := []) (L' := [(1, .int .i64 a1), (2, .int .i64 a2), (3, .pointer (some ⟨g1, 0, none⟩)), (33, .agg #[.int .i64 y3.1.Room, .int .i64 y3.1.Lease, .slice A1 y3.1.Blobs.length c1, .slice A2 y3.1.Entries.length c2]), (34, .slice A3 y3.2.1.length c3), (35, .int .i64 y3.2.2)]) (by kernel_rfl) (by kernel_rfl) (fun _ _ => trivial) ?_
    refine RgH.does (DoesH.new (d := 9) (v := fun g => .pointer (some ⟨g, 0, none⟩)) (o := fun g => .cells #[.int .i64 0, .int .i64 0, .slice none 0 0, .slice none 0 0] 25 (0, 0)) (fun g => by kernel_rfl)) ?_
    rintro _ _ _ _ ⟨g2, rfl, rfl, rfl⟩
    refine RgH.does (DoesH.store (k := 0) (g := g2) (off := 0) (v := .agg #[.int .i64 y3.1.Room, .int .i64 y3.1.Lease, .slice A1 y3.1.Blobs.length c1, .slice A2 y3.1.Entries.length c2]) (cells' := #[.int .i64 y3.1.Room, .int .i64 y3.1.Lease, .slice A1 y3.1.Blobs.length c1, .slice A2 y3.1.Entries.length c2]) (by kernel_rfl) rfl (by kernel_rfl) (by kernel_rfl)) ?_
    rintro _ _ _ _ ⟨rfl, rfl, rfl⟩
    refine RgH.runk 12 [1, 2, 3, 10, 11] (vs := []) (evs := []) (L' := [(1, .int .i64 a1), (2, .int .i64 a2), (3, .pointer (some ⟨g1, 0, none⟩)), (10, .slice A3 y3.2.1.length c3), (11, .int .i64 y3.2.2)]) (by kernel_rfl) (by kernel_rfl) (fun _ _ => trivial) ?_
    refine RgH.done (by kernel_rfl) ?_
    refine RunH.adm 2 (es' := [.c [1, 1, 1, 1, 0, 0], .c [1, 1, 1, 1, 0, 1], .c [1, 1, 1, 1, 1]]) (by kernel_rfl) ?_
    obtain ⟨t2, ht2, heq⟩ := bind_some heq
    have K7 : ∀ (H : Hp), Rw kBlob H F Aa0_2 a0.Blobs → Rw kEntry H F Aa0_3 a0.Entries → RunH C7 (S7 F H0 r) H0 w0 [.c [1, 1, 1, 1, 0, 1], .c [1, 1, 1, 1, 1]] [(1, .int .i64 a1), (2, .int .i64 a2), (3, .pointer (some ⟨g1, 0, none⟩)), (42, .bool t2)] H ((some (g1, .cells #[.int .i64 a0.Room, .int .i64 a0.Lease, .slice Aa0_2 a0.Blobs.length ca0_2, .slice Aa0_3 a0.Entries.length ca0_3] 25 (0, 0))) :: F) := by
      intro H hra0_2 hra0_3
      rcases bool_cases (t2) with hb4 | hb4
      · replace heq := bif_true hb4 heq
        refine RunH.condT (c := t2) (by kernel_rfl) hb4 ?_
        refine RunH.adm 1 (es' := [.c [1, 1, 1, 1, 0, 1, 0, 0], .c [1, 1, 1, 1, 0, 1, 0, 1], .c [1, 1, 1, 1, 1]]) (by kernel_rfl) ?_
        refine RunH.reg (by kernel_rfl) ?_
        refine RgH.runk 1 [6] (vs := []) (evs := []) (L' := [(6, .bool false)]) (by kernel_rfl) (by kernel_rfl) (fun _ _ => trivial) ?_
        refine RgH.done (by kernel_rfl) ?_
        obtain rfl := Option.some.inj heq
        refine RunH.pick 1 [] (cs' := F) (by kernel_rfl) rfl ?_
        exact RunH.done (by kernel_rfl) Tryd.func7 (v := .bool false) (by kernel_rfl) ⟨rfl, rfl⟩
      · replace heq := bif_false hb4 heq
        refine RunH.condF (c := t2) (by kernel_rfl) hb4 ?_
        refine RunH.adm 2 (es' := [.c [1, 1, 1, 1, 1, 0], .c [1, 1, 1, 1, 1, 1]]) (by kernel_rfl) ?_
        refine RunH.reg (by kernel_rfl) ?_
        refine RgH.runk 3 [1, 2, 3, 44, 45, 46] (vs := [.int .i64 a0.Room, .int .i64 a0.Lease, .slice Aa0_2 a0.Blobs.length ca0_2, .slice Aa0_3 a0.Entries.length ca0_3]) (evs := [.load ⟨g1, 0, none⟩ (.int .i64 a0.Room), .load ⟨g1, 1, none⟩ (.int .i64 a0.Lease), .load ⟨g1, 2, none⟩ (.slice Aa0_2 a0.Blobs.length ca0_2), .load ⟨g1, 3, none⟩ (.slice Aa0_3 a0.Entries.length ca0_3)]) (L' := [(1, .int .i64 a1), (2, .int .i64 a2), (3, .pointer (some ⟨g1, 0, none⟩)), (44, .agg #[.int .i64 a0.Room, .int .i64 a0.Lease, .slice Aa0_2 a0.Blobs.length ca0_2, .slice Aa0_3 a0.Entries.length ca0_3]), (45, .int .i64 a1), (46, .int .i64 a2)]) (by kernel_rfl) (by kernel_rfl) (fun w hh => ⟨(hh.box 0 rfl rfl), (hh.box 0 rfl rfl), (hh.box 0 rfl rfl), (hh.box 0 rfl rfl)⟩) ?_
        obtain ⟨y4, hy4, heq⟩ := bind_some heq
        refine RgH.does (DoesH.call (d := 47) (g := 36) (args := #[.agg #[.int .i64 a0.Room, .int .i64 a0.Lease, .slice Aa0_2 a0.Blobs.length ca0_2, .slice Aa0_3 a0.Entries.length ca0_3], .int .i64 a1, .int .i64 a2]) (by kernel_rfl) (cache_Shrunk_c (a0 := a0) (a1 := a1) (a2 := a2) (hra0_2.wk (fun _ h => (.tail _ h))) hca0_2 rfl (hra0_3.wk (fun _ h => (.tail _ h))) hca0_3 rfl hy4)) ?_
        rintro _ H _ hl ⟨_, rfl, A4, c4, ch4, A5, c5, ch5, A6, c6, ch6, rfl, rfl, ho4, ho5, ho6⟩
        replace hra0_2 := hra0_2.mono hl
        replace hra0_3 := hra0_3.mono hl
        refine RgH.runk 8 [1, 2, 3, 48, 49, 50] (vs := []) (evs := []) (L' := [(1, .int .i64 a1), (2, .int .i64 a2), (3, .pointer (some ⟨g1, 0, none⟩)), (48, .agg #[.int .i64 y4.1.Room, .int .i64 y4.1.Lease, .slice A4 y4.1.Blobs.length c4, .slice A5 y4.1.Entries.length c5]), (49, .slice A6 y4.2.1.length c6), (50, .int .i64 y4.2.2)]) (by kernel_rfl) (by kernel_rfl) (fun _ _ => trivial) ?_
        refine RgH.does (DoesH.new (d := 12) (v := fun g => .pointer (some ⟨g, 0, none⟩)) (o := fun g => .cells #[.int .i64 0, .int .i64 0, .slice none 0 0, .slice none 0 0] 25 (0, 0)) (fun g => by kernel_rfl)) ?_
        rintro _ _ _ _ ⟨g3, rfl, rfl, rfl⟩
        refine RgH.does (DoesH.store (k := 0) (g := g3) (off := 0) (v := .agg #[.int .i64 y4.1.Room, .int .i64 y4.1.Lease, .slice A4 y4.1.Blobs.length c4, .slice A5 y4.1.Entries.length c5]) (cells' := #[.int .i64 y4.1.Room, .int .i64 y4.1.Lease, .slice A4 y4.1.Blobs.length c4, .slice A5 y4.1.Entries.length c5]) (by kernel_rfl) rfl (by kernel_rfl) (by kernel_rfl)) ?_
        rintro _ _ _ _ ⟨rfl, rfl, rfl⟩
        refine RgH.runk 12 [1, 2, 3, 10, 11, 12] (vs := []) (evs := []) (L' := [(1, .int .i64 a1), (2, .int .i64 a2), (3, .pointer (some ⟨g1, 0, none⟩)), (10, .slice A6 y4.2.1.length c6), (11, .int .i64 y4.2.2), (12, .pointer (some ⟨g3, 0, none⟩))]) (by kernel_rfl) (by kernel_rfl) (fun _ _ => trivial) ?_
        refine RgH.done (by kernel_rfl) ?_
        refine RunH.adm 2 (es' := [.c [1, 1, 1, 1, 1, 1, 0, 0], .c [1, 1, 1, 1, 1, 1, 0, 1], .c [1, 1, 1, 1, 1, 1, 1]]) (by kernel_rfl) ?_
        refine RunH.reg (by kernel_rfl) ?_
        refine RgH.runk 2 [1, 2, 3, 10, 12, 52] (vs := []) (evs := []) (L' := [(1, .int .i64 a1), (2, .int .i64 a2), (3, .pointer (some ⟨g1, 0, none⟩)), (10, .slice A6 y4.2.1.length c6), (12, .pointer (some ⟨g3, 0, none⟩)), (52, .bool (y4.2.2 != 0))]) (by kernel_rfl) (by kernel_rfl) (fun _ _ => trivial) ?_
        refine RgH.done (by kernel_rfl) ?_
        rcases bool_cases (y4.2.2 != 0) with hb5 | hb5
        · replace heq := bif_true hb5 heq
          refine RunH.condT (c := y4.2.2 != 0) (by kernel_rfl) hb5 ?_
          refine RunH.adm 1 (es' := [.c [1, 1, 1, 1, 1, 1, 0, 1, 0, 0], .c [1, 1, 1, 1, 1, 1, 0, 1, 0, 1], .c [1, 1, 1, 1, 1, 1, 1]]) (by kernel_rfl) ?_
          obtain ⟨t3, ht3, heq⟩ := bind_some heq
          have K12 : ∀ (H : Hp), RunH C7 (S7 F H0 r) H0 w0 [.c [1, 1, 1, 1, 1, 1, 0, 1, 0, 1], .c [1, 1, 1, 1, 1, 1, 1]] [(6, .bool t3)] H (F) := by
            intro H
            obtain rfl := Option.some.inj heq
            exact RunH.done (by kernel_rfl) Tryd.func7 (v := .bool t3) (by kernel_rfl) ⟨rfl, rfl⟩
          replace heq := ht3
          refine RunH.reg (by kernel_rfl) ?_
          refine RgH.runk 5 [57] (vs := [.slice A4 y4.1.Blobs.length c4]) (evs := [.load ⟨g3, 2, none⟩ (.slice A4 y4.1.Blobs.length c4)]) (L' := [(57, .bool ((y4.1.Blobs.length : Int) == 0))]) (by kernel_rfl) (by kernel_rfl) (fun w hh => (hh.box 0 rfl rfl)) ?_
          rcases bool_cases ((y4.1.Blobs.length : Int) == 0) with hb6 | hb6
          · replace heq := bif_true hb6 heq
            refine RgH.val1 (v' := .bool true) (congrArg Value.bool hb6) ?_
            obtain ⟨y5, hy5, heq⟩ := bind_some heq
            refine RgH.does (DoesH.call (d := 58) (g := 29) (args := (List.toArray [])) (by kernel_rfl) (smithyardlaw7_awake_c  hy5)) ?_
            rintro _ _ _ _ ⟨_, rfl, rfl, rfl, rfl⟩
            refine RgH.runk 8 [6] (vs := []) (evs := []) (L' := [(6, .bool y5)]) (by kernel_rfl) (by kernel_rfl) (fun _ _ => trivial) ?_
            obtain rfl := Option.some.inj heq
            refine RgH.keep [6] (L' := [(6, .bool y5)]) (by kernel_rfl) ?_
            refine RgH.pick 5 [] (cs' := F) (by kernel_rfl) rfl ?_
            refine RgH.done (by kernel_rfl) ?_
            exact K12 _
          · replace heq := bif_false hb6 heq
            refine RgH.val1 (v' := .bool false) (congrArg Value.bool hb6) ?_
            refine RgH.runk 8 [6] (vs := []) (evs := []) (L' := [(6, .bool false)]) (by kernel_rfl) (by kernel_rfl) (fun _ _ => trivial) ?_
            obtain rfl := Option.some.inj heq
            refine RgH.keep [6] (L' := [(6, .bool false)]) (by kernel_rfl) ?_
            refine RgH.pick 5 [] (cs' := F) (by kernel_rfl) rfl ?_
            refine RgH.done (by kernel_rfl) ?_
            exact K12 _
        · replace heq := bif_false hb5 heq
          refine RunH.condF (c := y4.2.2 != 0) (by kernel_rfl) hb5 ?_
          refine RunH.adm 2 (es' := [.c [1, 1, 1, 1, 1, 1, 1, 0], .c [1, 1, 1, 1, 1, 1, 1, 1]]) (by kernel_rfl) ?_
          refine RunH.reg (by kernel_rfl) ?_
          refine RgH.runk 1 [1, 2, 3, 10, 12, 61] (vs := [.int .i64 y4.1.Room, .int .i64 y4.1.Lease, .slice A4 y4.1.Blobs.length c4, .slice A5 y4.1.Entries.length c5]) (evs := [.load ⟨g3, 0, none⟩ (.int .i64 y4.1.Room), .load ⟨g3, 1, none⟩ (.int .i64 y4.1.Lease), .load ⟨g3, 2, none⟩ (.slice A4 y4.1.Blobs.length c4), .load ⟨g3, 3, none⟩ (.slice A5 y4.1.Entries.length c5)]) (L' := [(1, .int .i64 a1), (2, .int .i64 a2), (3, .pointer (some ⟨g1, 0, none⟩)), (10, .slice A6 y4.2.1.length c6), (12, .pointer (some ⟨g3, 0, none⟩)), (61, .agg #[.int .i64 y4.1.Room, .int .i64 y4.1.Lease, .slice A4 y4.1.Blobs.length c4, .slice A5 y4.1.Entries.length c5])]) (by kernel_rfl) (by kernel_rfl) (fun w hh => ⟨(hh.box 0 rfl rfl), (hh.box 0 rfl rfl), (hh.box 0 rfl rfl), (hh.box 0 rfl rfl)⟩) ?_
          obtain ⟨y6, hy6, heq⟩ := bind_some heq
          refine RgH.does (DoesH.call (d := 62) (g := 24) (args := #[.agg #[.int .i64 y4.1.Room, .int .i64 y4.1.Lease, .slice A4 y4.1.Blobs.length c4, .slice A5 y4.1.Entries.length c5]]) (by kernel_rfl) (cache_Used_c (a0 := (⟨y4.1.Room, y4.1.Lease, y4.1.Blobs, y4.1.Entries⟩ : Cache)) (ho4.rw (.tail _ (.head _))) ho4.cap rfl (ho5.rw (.tail _ (.tail _ (.head _)))) ho5.cap rfl hy6)) ?_
          rintro _ _ _ _ ⟨_, rfl, rfl, rfl, rfl⟩
          refine RgH.runk 7 [1, 2, 3, 8, 10, 12, 13] (vs := []) (evs := []) (L' := [(1, .int .i64 a1), (2, .int .i64 a2), (3, .pointer (some ⟨g1, 0, none⟩)), (8, .int .i64 y6.2), (10, .slice A6 y4.2.1.length c6), (12, .pointer (some ⟨g3, 0, none⟩)), (13, .int .i64 y6.1)]) (by kernel_rfl) (by kernel_rfl) (fun _ _ => trivial) ?_
          refine RgH.done (by kernel_rfl) ?_
          refine RunH.adm 1 (es' := [.c [1, 1, 1, 1, 1, 1, 1, 1, 0], .c [1, 1, 1, 1, 1, 1, 1, 1, 1]]) (by kernel_rfl) ?_
          refine RunH.reg (by kernel_rfl) ?_
          refine RgH.runk 2 [1, 8, 10, 12, 13, 66, 67] (vs := [.int .i64 a0.Room, .int .i64 a0.Lease, .slice Aa0_2 a0.Blobs.length ca0_2, .slice Aa0_3 a0.Entries.length ca0_3]) (evs := [.load ⟨g1, 0, none⟩ (.int .i64 a0.Room), .load ⟨g1, 1, none⟩ (.int .i64 a0.Lease), .load ⟨g1, 2, none⟩ (.slice Aa0_2 a0.Blobs.length ca0_2), .load ⟨g1, 3, none⟩ (.slice Aa0_3 a0.Entries.length ca0_3)]) (L' := [(1, .int .i64 a1), (8, .int .i64 y6.2), (10, .slice A6 y4.2.1.length c6), (12, .pointer (some ⟨g3, 0, none⟩)), (13, .int .i64 y6.1), (66, .agg #[.int .i64 a0.Room, .int .i64 a0.Lease, .slice Aa0_2 a0.Blobs.length ca0_2, .slice Aa0_3 a0.Entries.length ca0_3]), (67, .int .i64 a2)]) (by kernel_rfl) (by kernel_rfl) (fun w hh => ⟨(hh.box 4 rfl rfl), (hh.box 4 rfl rfl), (hh.box 4 rfl rfl), (hh.box 4 rfl rfl)⟩) ?_
          obtain ⟨y7, hy7, heq⟩ := bind_some heq
          refine RgH.does (DoesH.call (d := 68) (g := 37) (args := #[.agg #[.int .i64 a0.Room, .int .i64 a0.Lease, .slice Aa0_2 a0.Blobs.length ca0_2, .slice Aa0_3 a0.Entries.length ca0_3], .int .i64 a2]) (by kernel_rfl) (cache_Next_c (a0 := a0) (a1 := a2) (hra0_2.wk (fun _ h => (.tail _ (.tail _ (.tail _ (.tail _ (.tail _ h))))))) hca0_2 rfl (hra0_3.wk (fun _ h => (.tail _ (.tail _ (.tail _ (.tail _ (.tail _ h))))))) hca0_3 rfl hy7)) ?_
          rintro _ _ _ _ ⟨_, rfl, A7, c7, ch7, rfl, rfl, rfl, ho7⟩
          refine RgH.runk 8 [1, 8, 10, 12, 13, 14, 15] (vs := []) (evs := []) (L' := [(1, .int .i64 a1), (8, .int .i64 y6.2), (10, .slice A6 y4.2.1.length c6), (12, .pointer (some ⟨g3, 0, none⟩)), (13, .int .i64 y6.1), (14, .slice A7 y7.1.length c7), (15, .int .i64 y7.2)]) (by kernel_rfl) (by kernel_rfl) (fun _ _ => trivial) ?_
          refine RgH.done (by kernel_rfl) ?_
          refine RunH.adm 1 (es' := [.c [1, 1, 1, 1, 1, 1, 1, 1, 1, 0], .c [1, 1, 1, 1, 1, 1, 1, 1, 1, 1]]) (by kernel_rfl) ?_
          obtain ⟨t4, ht4, heq⟩ := bind_some heq
          have K14 : ∀ (H : Hp), RunH C7 (S7 F H0 r) H0 w0 [.c [1, 1, 1, 1, 1, 1, 1, 1, 1, 1]] [(6, .bool t4)] H (F) := by
            intro H
            obtain rfl := Option.some.inj heq
            exact RunH.done (by kernel_rfl) Tryd.func7 (v := .bool t4) (by kernel_rfl) ⟨rfl, rfl⟩
          replace heq := ht4
          refine RunH.reg (by kernel_rfl) ?_
          refine RgH.runk 3 [73, 1, 10, 12, 13, 14, 15] (vs := []) (evs := []) (L' := [(73, .bool (y6.2 == 0)), (1, .int .i64 a1), (10, .slice A6 y4.2.1.length c6), (12, .pointer (some ⟨g3, 0, none⟩)), (13, .int .i64 y6.1), (14, .slice A7 y7.1.length c7), (15, .int .i64 y7.2)]) (by kernel_rfl) (by kernel_rfl) (fun _ _ => trivial) ?_
          rcases bool_cases (y6.2 == 0) with hb7 | hb7
          · replace heq := bif_true hb7 heq
            refine RgH.val1 (v' := .bool true) (congrArg Value.bool hb7) ?_
            refine RgH.runk 8 [78, 1, 10, 12, 14, 15] (vs := []) (evs := []) (L' := [(78, .bool (decide (y6.1 ≤ a1))), (1, .int .i64 a1), (10, .slice A6 y4.2.1.length c6), (12, .pointer (some ⟨g3, 0, none⟩)), (14, .slice A7 y7.1.length c7), (15, .int .i64 y7.2)]) (by kernel_rfl) (by kernel_rfl) (fun _ _ => trivial) ?_
            rcases bool_cases (decide (y6.1 ≤ a1)) with hb8 | hb8
            · replace heq := bif_true hb8 heq
              refine RgH.val1 (v' := .bool true) (congrArg Value.bool hb8) ?_
              refine RgH.runk 14 [84, 10, 14, 15] (vs := [.int .i64 y4.1.Room]) (evs := [.load ⟨g3, 0, none⟩ (.int .i64 y4.1.Room)]) (L' := [(84, .bool (y4.1.Room == a1)), (10, .slice A6 y4.2.1.length c6), (14, .slice A7 y7.1.length c7), (15, .int .i64 y7.2)]) (by kernel_rfl) (by kernel_rfl) (fun w hh => (hh.box 1 rfl rfl)) ?_
              rcases bool_cases (y4.1.Room == a1) with hb9 | hb9
              · replace heq := bif_true hb9 heq
                refine RgH.val1 (v' := .bool true) (congrArg Value.bool hb9) ?_
                refine RgH.runk 18 [88, 10, 14] (vs := []) (evs := []) (L' := [(88, .bool (y7.2 == 0)), (10, .slice A6 y4.2.1.length c6), (14, .slice A7 y7.1.length c7)]) (by kernel_rfl) (by kernel_rfl) (fun _ _ => trivial) ?_
                rcases bool_cases (y7.2 == 0) with hb10 | hb10
                · replace heq := bif_true hb10 heq
                  refine RgH.val1 (v' := .bool true) (congrArg Value.bool hb10) ?_
                  refine RgH.runk 25 [95, 10, 14] (vs := []) (evs := []) (L' := [(95, .bool (decide ((y4.2.1.length : Int) ≤ (y7.1.length : Int)))), (10, .slice A6 y4.2.1.length c6), (14, .slice A7 y7.1.length c7)]) (by kernel_rfl) (by kernel_rfl) (fun _ _ => trivial) ?_
                  rcases bool_cases (decide ((y4.2.1.length : Int) ≤ (y7.1.length : Int))) with hb11 | hb11
                  · replace heq := bif_true hb11 heq
                    refine RgH.val1 (v' := .bool true) (congrArg Value.bool hb11) ?_
                    obtain ⟨hn2, heq⟩ := guard?_some heq
                    have hn1 : (y4.2.1.length : Int).toNat = (y7.1.take (y4.2.1.length : Int).toNat).length := by have h1 := both_of hn2; have h3 := trivial; (try simp); (try omega)
                    have ho8 := ho7.take (y4.2.1.length : Int).toNat
                    refine RgH.runk 30 [95, 96, 100] (vs := []) (evs := [.need ((0 : Int) ≤ (y4.2.1.length : Int) ∧ (y4.2.1.length : Int) ≤ ((c7 : Nat) : Int))]) (L' := [(95, .bool true), (96, .slice A6 y4.2.1.length c6), (100, .slice A7 ((y4.2.1.length : Int).toNat) c7)]) (by kernel_rfl) (by kernel_rfl) (fun w hh => ⟨(both_of hn2).1, (by have h1 := (both_of hn2).2; have h2 := ho7.cap; have h3 := trivial; omega)⟩) ?_
                    obtain ⟨y8, hy8, heq⟩ := bind_some heq
                    refine RgH.does (DoesH.call (d := 101) (g := 28) (args := #[.slice A6 y4.2.1.length c6, .slice A7 ((y4.2.1.length : Int).toNat) c7]) (by kernel_rfl) (slices_Equal_string_c (a0 := y4.2.1) (a1 := (y7.1.take (y4.2.1.length : Int).toNat)) (ho6.rw (.tail _ (.tail _ (.tail _ (.tail _ (.head _)))))) ho6.cap rfl (ho8.rw (.head _)) (by have h1 := ho8.cap; have h2 := hn1; omega) hn1 hy8)) ?_
                    rintro _ _ _ _ ⟨_, rfl, rfl, rfl, rfl⟩
                    refine RgH.runk 33 [103] (vs := []) (evs := []) (L' := [(103, .bool y8)]) (by kernel_rfl) (by kernel_rfl) (fun _ _ => trivial) ?_
                    rcases bool_cases (y8) with hb12 | hb12
                    · replace heq := bif_true hb12 heq
                      refine RgH.val1 (v' := .bool true) (congrArg Value.bool hb12) ?_
                      obtain ⟨y9, hy9, heq⟩ := bind_some heq
                      refine RgH.does (DoesH.call (d := 104) (g := 29) (args := (List.toArray [])) (by kernel_rfl) (smithyardlaw7_awake_c  hy9)) ?_
                      rintro _ _ _ _ ⟨_, rfl, rfl, rfl, rfl⟩
                      refine RgH.runk 36 [6] (vs := []) (evs := []) (L' := [(6, .bool y9)]) (by kernel_rfl) (by kernel_rfl) (fun _ _ => trivial) ?_
                      obtain rfl := Option.some.inj heq
                      refine RgH.keep [6] (L' := [(6, .bool y9)]) (by kernel_rfl) ?_
                      refine RgH.pick 6 [] (cs' := F) (by kernel_rfl) rfl ?_
                      refine RgH.done (by kernel_rfl) ?_
                      exact K14 _
                    · replace heq := bif_false hb12 heq
                      refine RgH.val1 (v' := .bool false) (congrArg Value.bool hb12) ?_
                      refine RgH.runk 36 [6] (vs := []) (evs := []) (L' := [(6, .bool false)]) (by kernel_rfl) (by kernel_rfl) (fun _ _ => trivial) ?_
                      obtain rfl := Option.some.inj heq
                      refine RgH.keep [6] (L' := [(6, .bool false)]) (by kernel_rfl) ?_
                      refine RgH.pick 6 [] (cs' := F) (by kernel_rfl) rfl ?_
                      refine RgH.done (by kernel_rfl) ?_
                      exact K14 _
                  · replace heq := bif_false hb11 heq
                    refine RgH.val1 (v' := .bool false) (congrArg Value.bool hb11) ?_
                    refine RgH.runk 36 [6] (vs := []) (evs := []) (L' := [(6, .bool false)]) (by kernel_rfl) (by kernel_rfl) (fun _ _ => trivial) ?_
                    obtain rfl := Option.some.inj heq
                    refine RgH.keep [6] (L' := [(6, .bool false)]) (by kernel_rfl) ?_
                    refine RgH.pick 6 [] (cs' := F) (by kernel_rfl) rfl ?_
                    refine RgH.done (by kernel_rfl) ?_
                    exact K14 _
                · replace heq := bif_false hb10 heq
                  refine RgH.val1 (v' := .bool false) (congrArg Value.bool hb10) ?_
                  refine RgH.runk 36 [6] (vs := []) (evs := []) (L' := [(6, .bool false)]) (by kernel_rfl) (by kernel_rfl) (fun _ _ => trivial) ?_
                  obtain rfl := Option.some.inj heq
                  refine RgH.keep [6] (L' := [(6, .bool false)]) (by kernel_rfl) ?_
                  refine RgH.pick 6 [] (cs' := F) (by kernel_rfl) rfl ?_
                  refine RgH.done (by kernel_rfl) ?_
                  exact K14 _
              · replace heq := bif_false hb9 heq
                refine RgH.val1 (v' := .bool false) (congrArg Value.bool hb9) ?_
                refine RgH.runk 36 [6] (vs := []) (evs := []) (L' := [(6, .bool false)]) (by kernel_rfl) (by kernel_rfl) (fun _ _ => trivial) ?_
                obtain rfl := Option.some.inj heq
                refine RgH.keep [6] (L' := [(6, .bool false)]) (by kernel_rfl) ?_
                refine RgH.pick 6 [] (cs' := F) (by kernel_rfl) rfl ?_
                refine RgH.done (by kernel_rfl) ?_
                exact K14 _
            · replace heq := bif_false hb8 heq
              refine RgH.val1 (v' := .bool false) (congrArg Value.bool hb8) ?_
              refine RgH.runk 36 [6] (vs := []) (evs := []) (L' := [(6, .bool false)]) (by kernel_rfl) (by kernel_rfl) (fun _ _ => trivial) ?_
              obtain rfl := Option.some.inj heq
              refine RgH.keep [6] (L' := [(6, .bool false)]) (by kernel_rfl) ?_
              refine RgH.pick 6 [] (cs' := F) (by kernel_rfl) rfl ?_
              refine RgH.done (by kernel_rfl) ?_
              exact K14 _
          · replace heq := bif_false hb7 heq
            refine RgH.val1 (v' := .bool false) (congrArg Value.bool hb7) ?_
            refine RgH.runk 36 [6] (vs := []) (evs := []) (L' := [(6, .bool false)]) (by kernel_rfl) (by kernel_rfl) (fun _ _ => trivial) ?_
            obtain rfl := Option.some.inj heq
            refine RgH.keep [6] (L' := [(6, .bool false)]) (by kernel_rfl) ?_
            refine RgH.pick 6 [] (cs' := F) (by kernel_rfl) rfl ?_
            refine RgH.done (by kernel_rfl) ?_
            exact K14 _
    replace heq := ht2
    refine RunH.reg (by kernel_rfl) ?_
    refine RgH.runk 3 [38, 1, 2, 3, 10] (vs := []) (evs := []) (L' := [(38, .bool (y3.2.2 == 0)), (1, .int .i64 a1), (2, .int .i64 a2), (3, .pointer (some ⟨g1, 0, none⟩)), (10, .slice A3 y3.2.1.length c3)]) (by kernel_rfl) (by kernel_rfl) (fun _ _ => trivial) ?_
    rcases bool_cases (y3.2.2 == 0) with hb3 | hb3
    · replace heq := bif_true hb3 heq
      refine RgH.val1 (v' := .bool true) (congrArg Value.bool hb3) ?_
      refine RgH.runk 7 [1, 2, 3, 42] (vs := []) (evs := []) (L' := [(1, .int .i64 a1), (2, .int .i64 a2), (3, .pointer (some ⟨g1, 0, none⟩)), (42, .bool (decide (0 < (y3.2.1.length : Int))))]) (by kernel_rfl) (by kernel_rfl) (fun _ _ => trivial) ?_
      obtain rfl := Option.some.inj heq
      refine RgH.keep [1, 2, 3, 42] (L' := [(1, .int .i64 a1), (2, .int .i64 a2), (3, .pointer (some ⟨g1, 0, none⟩)), (42, .bool (decide (0 < (y3.2.1.length : Int))))]) (by kernel_rfl) ?_
      refine RgH.pick 5 [4] (cs' := (some (g1, .cells #[.int .i64 a0.Room, .int .i64 a0.Lease, .slice Aa0_2 a0.Blobs.length ca0_2, .slice Aa0_3 a0.Entries.length ca0_3] 25 (0, 0))) :: F) (by kernel_rfl) rfl ?_
      refine RgH.done (by kernel_rfl) ?_
      exact K7 _ hra0_2 hra0_3
    · replace heq := bif_false hb3 heq
      refine RgH.val1 (v' := .bool false) (congrArg Value.bool hb3) ?_
      refine RgH.runk 7 [1, 2, 3, 42] (vs := []) (evs := []) (L' := [(1, .int .i64 a1), (2, .int .i64 a2), (3, .pointer (some ⟨g1, 0, none⟩)), (42, .bool false)]) (by kernel_rfl) (by kernel_rfl) (fun _ _ => trivial) ?_
      obtain rfl := Option.some.inj heq
      refine RgH.keep [1, 2, 3, 42] (L' := [(1, .int .i64 a1), (2, .int .i64 a2), (3, .pointer (some ⟨g1, 0, none⟩)), (42, .bool false)]) (by kernel_rfl) ?_
      refine RgH.pick 5 [4] (cs' := (some (g1, .cells #[.int .i64 a0.Room, .int .i64 a0.Lease, .slice Aa0_2 a0.Blobs.length ca0_2, .slice Aa0_3 a0.Entries.length ca0_3] 25 (0, 0))) :: F) (by kernel_rfl) rfl ?_
      refine RgH.done (by kernel_rfl) ?_
      exact K7 _ hra0_2 hra0_3
end Go.Proofs.YtkjilepjblffeaaDoor
