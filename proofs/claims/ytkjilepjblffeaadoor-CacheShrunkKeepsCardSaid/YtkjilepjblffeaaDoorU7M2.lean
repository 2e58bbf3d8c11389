/- What the machine's calls of these functions come to: just what the plain functions say. Written by program. -/
import Derived.Test.YtkjilepjblffeaaDoorProg
import Derived.Test.YtkjilepjblffeaaDoorKitV
import Derived.Test.YtkjilepjblffeaaDoorUD
import Derived.Test.YtkjilepjblffeaaDoorShelf
import Derived.Test.YtkjilepjblffeaaDoorU7M1
set_option linter.unusedVariables false
set_option linter.unusedSimpArgs false
set_option maxRecDepth 100000
set_option maxHeartbeats 1000000
namespace Go.Proofs.YtkjilepjblffeaaDoor
open Go Go.RowKit Go.Proofs.YtkjilepjblffeaaDoor.Kit
noncomputable def C121 : Ctx := { P := Tryd.prog, f := 121, N := 7, c := bodyOf Tryd.f121 }
def S121 (F : List Ch) (H0 : Hp) (r : Bool) (v : Value) (H : Hp) (cs : List Ch) : Prop := H0 = H ∧ v = .bool r ∧ F = cs
theorem cache_leaving_1_c {w0 : World} {H : Hp} {F : List Ch} {a0 : Blob} {ga1 : Nat} {a1 : Int} {r : Bool} (hga1 : InG H F ga1 (.cells #[.int .i64 a1] 3 (0, 0))) (heq : cache_leaving_1.f a0 a1 = some r) : CallsH Tryd.prog 121 #[.agg #[.string a0.Digest, .int .i64 a0.Size, .int .i64 a0.Used, .int .i64 a0.Until, .int .i64 a0.Pins], .pointer (some ⟨ga1, 0, none⟩)] H w0 (F) (S121 F H r) := by
  refine calls_of_runH (F := C121) Tryd.func121 (by kernel_rfl) Tryd.ntmps121 (args := [.agg #[.string a0.Digest, .int .i64 a0.Size, .int .i64 a0.Used, .int .i64 a0.Until, .int .i64 a0.Pins], .pointer (some ⟨ga1, 0, none⟩)]) (by kernel_rfl) ?_
  unfold cache_leaving_1.f at heq
  refine RunH.adm 1 (es' := [.c [0], .c [1]]) (by kernel_rfl) ?_
  refine RunH.reg (by kernel_rfl) ?_
  refine RgH.does (DoesH.new (d := 2) (v := fun g => .pointer (some ⟨g, 0, none⟩)) (o := fun g => .cells #[.string a0.Digest, .int .i64 a0.Size, .int .i64 a0.Used, .int .i64 a0.Until, .int .i64 a0.Pins] 47 (0, 0)) (fun g => by kernel_rfl)) ?_
  rintro _ _ _ _ ⟨g1, rfl, rfl, rfl⟩
  refine RgH.runk 2 [1, 2] (vs := []) (evs := []) (L' := [(1, .pointer (some ⟨ga1, 0, none⟩)), (2, .pointer (some ⟨g1, 0, none⟩))]) (by kernel_rfl) (by kernel_rfl) (fun _ _ => trivial) ?_
  refine RgH.done (by kernel_rfl) ?_
  refine RunH.adm 1 (es' := [.c [1, 0], .c [1, 1]]) (by kernel_rfl) ?_
  refine RunH.reg (by kernel_rfl) ?_
  refine RgH.runk 2 [4, 5] (vs := [.string a0.Digest, .int .i64 a0.Size, .int .i64 a0.Used, .int .i64 a0.Until, .int .i64 a0.Pins, .int .i64 a1]) (evs := [.load ⟨g1, 0, none⟩ (.string a0.Digest), .load ⟨g1, 1, none⟩ (.int .i64 a0.Size), .load ⟨g1, 2, none⟩ (.int .i64 a0.Used), .load ⟨g1, 3, none⟩ (.int .i64 a0.Until), .load ⟨g1, 4, none⟩ (.int .i64 a0.Pins), .load ⟨ga1, 0, none⟩ (.int .i64 a1)]) (L' := [(4, .agg #[.string a0.Digest, .int .i64 a0.Size, .int .i64 a0.Used, .int .i64 a0.Until, .int .i64 a0.Pins]), (5, .int .i64 a1)]) (by kernel_rfl) (by kernel_rfl) (fun w hh => ⟨(hh.box 0 rfl rfl), (hh.box 0 rfl rfl), (hh.box 0 rfl rfl), (hh.box 0 rfl rfl), (hh.box 0 rfl rfl), (hga1.cell (hh.drop 1) rfl)⟩) ?_
  obtain ⟨y1, hy1, heq⟩ := bind_some heq
  refine RgH.does (DoesH.call (d := 6) (g := 74) (args := #[.agg #[.string a0.Digest, .int .i64 a0.Size, .int .i64 a0.Used, .int .i64 a0.Until, .int .i64 a0.Pins], .int .i64 a1]) (by kernel_rfl) (cache_held_c (a0 := a0) (a1 := a1)  hy1)) ?_
  rintro _ _ _ _ ⟨_, rfl, rfl, rfl, rfl⟩
  refine RgH.runk 4 [3] (vs := []) (evs := []) (L' := [(3, .bool y1)]) (by kernel_rfl) (by kernel_rfl) (fun _ _ => trivial) ?_
  refine RgH.done (by kernel_rfl) ?_
  obtain rfl := Option.some.inj heq
  refine RunH.pick 1 [] (cs' := F) (by kernel_rfl) rfl ?_
  exact RunH.done (by kernel_rfl) Tryd.func121 (v := .bool y1) (by kernel_rfl) ⟨rfl, rfl, rfl⟩
noncomputable def C109v3 : Ctx := { P := Tryd.prog, f := 109, N := 19, c := bodyOf Tryd.f109 }
def S109v3 (F : List Ch) (H0 : Hp) (r : Int) (v : Value) (H : Hp) (cs : List Ch) : Prop := H0 = H ∧ v = .int .i64 r ∧ F = cs
theorem slices_IndexFunc_Blob_3.e1_c {w0 : World} {H : Hp} {F : List Ch} {r : Int} : slices_IndexFunc_Blob_3.e1 = some r → RunH C109v3 (S109v3 F H r) H w0 [.c [1, 1, 0], .c [1, 1, 1]] [] H (F) := by
  intro   heq
  unfold slices_IndexFunc_Blob_3.e1 at heq
  refine RunH.reg (by kernel_rfl) ?_
  refine RgH.runk 1 [4] (vs := []) (evs := []) (L' := [(4, .int .i64 (-1))]) (by kernel_rfl) (by kernel_rfl) (fun _ _ => trivial) ?_
  refine RgH.done (by kernel_rfl) ?_
  obtain rfl := Option.some.inj heq
  exact RunH.done (by kernel_rfl) Tryd.func109 (v := .int .i64 (-1)) (by kernel_rfl) ⟨rfl, rfl, rfl⟩
theorem slices_IndexFunc_Blob_3.l2_c {w0 : World} {H : Hp} {F : List Ch} {r : Int} (e1 : Option Int)
    (he1 : e1 = some r → RunH C109v3 (S109v3 F H r) H w0 [.c [1, 1, 0], .c [1, 1, 1]] [] H (F)) : ∀ (k : Nat), ∀ (a0 : List Blob) (Aa0 : Option Addr) (ca0 : Nat) (ga1q0 : Nat) (a1q0 : Int) (v8 : Int) , Rw kBlob H F Aa0 a0 → a0.length ≤ ca0 → InG H F ga1q0 (.cells #[.int .i64 a1q0] 3 (0, 0)) → slices_IndexFunc_Blob_3.l2 e1 k a0 a1q0 v8 = some r → RunH C109v3 (S109v3 F H r) H w0 [.c [1, 0, 1, 0, 0], .l [1, 0, 1, 0, 0], .b 0, .c [1, 1]] [(0, .slice Aa0 a0.length ca0), (1, .func (.func 121) #[] #[.pointer (some ⟨ga1q0, 0, none⟩)]), (7, .int .i64 (a0.length : Int)), (8, .int .i64 v8)] H (F) := by
  intro k
  induction k with
  | zero => intro a0 Aa0 ca0 ga1q0 a1q0 v8 hra0 hca0 hga1q0 heq; exact nomatch (show (none : Option Int) = some r from heq)
  | succ k ihk =>
    intro a0 Aa0 ca0 ga1q0 a1q0 v8 hra0 hca0 hga1q0 heq
    rw [slices_IndexFunc_Blob_3.l2] at heq
    refine RunH.adm 1 (es' := [.c [1, 0, 1, 0, 0, 0], .c [1, 0, 1, 0, 0, 1], .l [1, 0, 1, 0, 0], .b 0, .c [1, 1]]) (by kernel_rfl) ?_
    refine RunH.reg (by kernel_rfl) ?_
    refine RgH.runk 1 [0, 1, 7, 8, 9] (vs := []) (evs := []) (L' := [(0, .slice Aa0 a0.length ca0), (1, .func (.func 121) #[] #[.pointer (some ⟨ga1q0, 0, none⟩)]), (7, .int .i64 (a0.length : Int)), (8, .int .i64 v8), (9, .bool (decide (v8 < (a0.length : Int))))]) (by kernel_rfl) (by kernel_rfl) (fun _ _ => trivial) ?_
    refine RgH.done (by kernel_rfl) ?_
    refine RunH.adm 1 (es' := [.c [1, 0, 1, 0, 0, 1, 0], .c [1, 0, 1, 0, 0, 1, 1], .l [1, 0, 1, 0, 0], .b 0, .c [1, 1]]) (by kernel_rfl) ?_
    rcases bool_cases (decide (v8 < (a0.length : Int))) with hb1 | hb1
    · replace heq := bif_true hb1 heq
      refine RunH.condT (c := decide (v8 < (a0.length : Int))) (by kernel_rfl) hb1 ?_
      refine RunH.adm 4 (es' := [.c [1, 0, 1, 0, 0, 1, 1, 0, 0, 0], .c [1, 0, 1, 0, 0, 1, 1, 0, 0, 1], .b 1, .c [1, 0, 1, 0, 0, 1, 1, 1], .l [1, 0, 1, 0, 0], .b 0, .c [1, 1]]) (by kernel_rfl) ?_
      refine RunH.reg (by kernel_rfl) ?_
      refine RgH.runk 2 [0, 1, 5, 7, 8] (vs := []) (evs := []) (L' := [(0, .slice Aa0 a0.length ca0), (1, .func (.func 121) #[] #[.pointer (some ⟨ga1q0, 0, none⟩)]), (5, .int .i64 v8), (7, .int .i64 (a0.length : Int)), (8, .int .i64 v8)]) (by kernel_rfl) (by kernel_rfl) (fun _ _ => trivial) ?_
      refine RgH.done (by kernel_rfl) ?_
      refine RunH.adm 1 (es' := [.c [1, 0, 1, 0, 0, 1, 1, 0, 0, 1, 0], .c [1, 0, 1, 0, 0, 1, 1, 0, 0, 1, 1], .b 1, .c [1, 0, 1, 0, 0, 1, 1, 1], .l [1, 0, 1, 0, 0], .b 0, .c [1, 1]]) (by kernel_rfl) ?_
      refine RunH.reg (by kernel_rfl) ?_
      obtain ⟨x1, hx1, heq⟩ := bind_some heq
      obtain ⟨ha1, cs1, hK1, hcc1⟩ := hra0.get hx1
      obtain ⟨rfl⟩ := kBlob_open hK1
      refine RgH.runk 5 [0, 1, 5, 7, 8, 11, 15] (vs := [.string x1.Digest, .int .i64 x1.Size, .int .i64 x1.Used, .int .i64 x1.Until, .int .i64 x1.Pins]) (evs := [.need (Aa0 = some (adr Aa0) ∧ (0 : Int) ≤ v8 ∧ v8 < ((a0.length : Nat) : Int)), .load (((adr Aa0).add (v8.toNat * 5)).add 0) (.string x1.Digest), .load (((adr Aa0).add (v8.toNat * 5)).add 1) (.int .i64 x1.Size), .load (((adr Aa0).add (v8.toNat * 5)).add 2) (.int .i64 x1.Used), .load (((adr Aa0).add (v8.toNat * 5)).add 3) (.int .i64 x1.Until), .load (((adr Aa0).add (v8.toNat * 5)).add 4) (.int .i64 x1.Pins)]) (L' := [(0, .slice Aa0 a0.length ca0), (1, .func (.func 121) #[] #[.pointer (some ⟨ga1q0, 0, none⟩)]), (5, .int .i64 v8), (7, .int .i64 (a0.length : Int)), (8, .int .i64 v8), (11, .func (.func 121) #[] #[.pointer (some ⟨ga1q0, 0, none⟩)]), (15, .agg #[.string x1.Digest, .int .i64 x1.Size, .int .i64 x1.Used, .int .i64 x1.Until, .int .i64 x1.Pins])]) (by kernel_rfl) (by kernel_rfl) (fun w hh => ⟨⟨ha1, (at?_some hx1).1, (at?_some hx1).2.1⟩, (hcc1 _ _ (hh.drop 0) 0 _ rfl), (hcc1 _ _ (hh.drop 0) 1 _ rfl), (hcc1 _ _ (hh.drop 0) 2 _ rfl), (hcc1 _ _ (hh.drop 0) 3 _ rfl), (hcc1 _ _ (hh.drop 0) 4 _ rfl)⟩) ?_
      obtain ⟨y1, hy1, heq⟩ := bind_some heq
      refine RgH.does (DoesH.call (d := 16) (g := 121) (args := #[.agg #[.string x1.Digest, .int .i64 x1.Size, .int .i64 x1.Used, .int .i64 x1.Until, .int .i64 x1.Pins], .pointer (some ⟨ga1q0, 0, none⟩)]) (by kernel_rfl) (cache_leaving_1_c (a0 := x1) (a1 := a1q0) hga1q0 hy1)) ?_
      rintro _ _ _ _ ⟨_, rfl, rfl, rfl, rfl⟩
      refine RgH.done (by kernel_rfl) ?_
      rcases bool_cases (y1) with hb2 | hb2
      · replace heq := bif_true hb2 heq
        refine RunH.condT (c := y1) (by kernel_rfl) hb2 ?_
        refine RunH.adm 1 (es' := [.c [1, 0, 1, 0, 0, 1, 1, 0, 0, 1, 1, 0, 0], .c [1, 0, 1, 0, 0, 1, 1, 0, 0, 1, 1, 0, 1], .b 1, .c [1, 0, 1, 0, 0, 1, 1, 1], .l [1, 0, 1, 0, 0], .b 0, .c [1, 1]]) (by kernel_rfl) ?_
        refine RunH.reg (by kernel_rfl) ?_
        refine RgH.runk 2 [4] (vs := []) (evs := []) (L' := [(4, .int .i64 v8)]) (by kernel_rfl) (by kernel_rfl) (fun _ _ => trivial) ?_
        refine RgH.done (by kernel_rfl) ?_
        obtain rfl := Option.some.inj heq
        exact RunH.done (by kernel_rfl) Tryd.func109 (v := .int .i64 v8) (by kernel_rfl) ⟨rfl, rfl, rfl⟩
      · replace heq := bif_false hb2 heq
        refine RunH.condF (c := y1) (by kernel_rfl) hb2 ?_
        refine RunH.adm 2 (es' := [.c [1, 0, 1, 0, 0, 1, 1, 1], .l [1, 0, 1, 0, 0], .b 0, .c [1, 1]]) (by kernel_rfl) ?_
        refine RunH.reg (by kernel_rfl) ?_
        refine RgH.runk 2 [0, 1, 7, 8] (vs := []) (evs := []) (L' := [(0, .slice Aa0 a0.length ca0), (1, .func (.func 121) #[] #[.pointer (some ⟨ga1q0, 0, none⟩)]), (7, .int .i64 (a0.length : Int)), (8, .int .i64 (w64 (v8 + 1)))]) (by kernel_rfl) (by kernel_rfl) (fun _ _ => trivial) ?_
        refine RgH.done (by kernel_rfl) ?_
        refine RunH.adm 1 (es' := [.c [1, 0, 1, 0, 0], .l [1, 0, 1, 0, 0], .b 0, .c [1, 1]]) (by kernel_rfl) ?_
        refine RunH.keep [0, 1, 7, 8] (L' := [(0, .slice Aa0 a0.length ca0), (1, .func (.func 121) #[] #[.pointer (some ⟨ga1q0, 0, none⟩)]), (7, .int .i64 (a0.length : Int)), (8, .int .i64 (w64 (v8 + 1)))]) (by kernel_rfl) ?_
        exact ihk a0 _ _ _ a1q0 (w64 (v8 + 1)) hra0 hca0 hga1q0 heq
    · replace heq := bif_false hb1 heq
      refine RunH.condF (c := decide (v8 < (a0.length : Int))) (by kernel_rfl) hb1 ?_
      refine RunH.adm 2 (es' := [.c [1, 1, 0], .c [1, 1, 1]]) (by kernel_rfl) ?_
      refine RunH.keep [] (L' := []) (by kernel_rfl) ?_
      exact he1 heq
theorem slices_IndexFunc_Blob_3_c {w0 : World} {H : Hp} {F : List Ch} {a0 : List Blob} {Aa0 : Option Addr} {na0 : Nat} {ca0 : Nat} {ga1q0 : Nat} {a1q0 : Int} {r : Int} (hra0 : Rw kBlob H F Aa0 a0) (hca0 : na0 ≤ ca0) (hna0 : na0 = a0.length) (hga1q0 : InG H F ga1q0 (.cells #[.int .i64 a1q0] 3 (0, 0))) (heq : slices_IndexFunc_Blob_3.f a0 a1q0 = some r) : CallsH Tryd.prog 109 #[.slice Aa0 na0 ca0, .func (.func 121) #[] #[.pointer (some ⟨ga1q0, 0, none⟩)]] H w0 (F) (S109v3 F H r) := by
  refine calls_of_runH (F := C109v3) Tryd.func109 (by kernel_rfl) Tryd.ntmps109 (args := [.slice Aa0 na0 ca0, .func (.func 121) #[] #[.pointer (some ⟨ga1q0, 0, none⟩)]]) (by kernel_rfl) ?_
  subst hna0
  unfold slices_IndexFunc_Blob_3.f at heq
  refine RunH.adm 1 (es' := [.c [0], .c [1]]) (by kernel_rfl) ?_
  refine RunH.reg (by kernel_rfl) ?_
  refine RgH.runk 1 [0, 1] (vs := []) (evs := []) (L' := [(0, .slice Aa0 a0.length ca0), (1, .func (.func 121) #[] #[.pointer (some ⟨ga1q0, 0, none⟩)])]) (by kernel_rfl) (by kernel_rfl) (fun _ _ => trivial) ?_
  refine RgH.done (by kernel_rfl) ?_
  refine RunH.adm 2 (es' := [.c [1, 0, 0], .c [1, 0, 1], .c [1, 1]]) (by kernel_rfl) ?_
  refine RunH.reg (by kernel_rfl) ?_
  refine RgH.runk 3 [0, 1, 7, 8] (vs := []) (evs := []) (L' := [(0, .slice Aa0 a0.length ca0), (1, .func (.func 121) #[] #[.pointer (some ⟨ga1q0, 0, none⟩)]), (7, .int .i64 (a0.length : Int)), (8, .int .i64 0)]) (by kernel_rfl) (by kernel_rfl) (fun _ _ => trivial) ?_
  refine RgH.done (by kernel_rfl) ?_
  refine RunH.adm 2 (es' := [.c [1, 0, 1, 0, 0], .l [1, 0, 1, 0, 0], .b 0, .c [1, 1]]) (by kernel_rfl) ?_
  refine RunH.keep [0, 1, 7, 8] (L' := [(0, .slice Aa0 a0.length ca0), (1, .func (.func 121) #[] #[.pointer (some ⟨ga1q0, 0, none⟩)]), (7, .int .i64 (a0.length : Int)), (8, .int .i64 0)]) (by kernel_rfl) ?_
  exact ((slices_IndexFunc_Blob_3.l2_c (e1 := slices_IndexFunc_Blob_3.e1) (slices_IndexFunc_Blob_3.e1_c)) big) a0 _ _ _ a1q0 0 hra0 hca0 hga1q0 heq
noncomputable def C72v3 : Ctx := { P := Tryd.prog, f := 72, N := 42, c := bodyOf Tryd.f72 }
def S72v3 (F : List Ch) (H0 : Hp) (r : (List Blob)) (v : Value) (H : Hp) (cs : List Ch) : Prop := ∃ (A0 : Option Addr) (c0 : Nat) (ch0 : Ch), H0 = H ∧ v = .slice A0 r.length c0 ∧ ch0 :: F = cs ∧ SlOwn kBlob 47 H A0 c0 r ch0
theorem slices_DeleteFunc_Blob_3.e1_c {w0 : World} {H : Hp} {F : List Ch} {r : (List Blob)} : ∀ (v_s0 : List Blob) (Av_s0 : Option Addr) (nv_s0 : Nat) (cv_s0 : Nat) (chv_s0 : Ch) (v_i5 : Int) , SlOwn kBlob 47 H Av_s0 cv_s0 v_s0 chv_s0 → nv_s0 = v_s0.length → slices_DeleteFunc_Blob_3.e1 v_s0 v_i5 = some r → RunH C72v3 (S72v3 F H r) H w0 [.c [1, 1, 1, 1, 0], .c [1, 1, 1, 1, 1]] [(0, .slice Av_s0 nv_s0 cv_s0), (5, .int .i64 v_i5)] H (chv_s0 :: F) := by
  intro v_s0 Av_s0 nv_s0 cv_s0 chv_s0 v_i5 hov_s0 hnv_s0 heq
  subst hnv_s0
  unfold slices_DeleteFunc_Blob_3.e1 at heq
  refine RunH.reg (by kernel_rfl) ?_
  obtain ⟨hn2, heq⟩ := guard?_some heq
  have hn1 : v_s0.length - v_i5.toNat = (v_s0.drop v_i5.toNat).length := by have h1 := both_of hn2; have h3 := trivial; (try simp); (try omega)
  have ho1 := hov_s0.drop v_i5.toNat (by have h2 := hov_s0.cap; have h3 := trivial; have h1 := both_of hn2; omega)
  refine RgH.runk 3 [0, 5, 38] (vs := []) (evs := [.need ((0 : Int) ≤ v_i5 ∧ v_i5 ≤ ((v_s0.length : Nat) : Int))]) (L' := [(0, .slice Av_s0 v_s0.length cv_s0), (5, .int .i64 v_i5), (38, .slice (shiftA cv_s0 v_i5.toNat 5 Av_s0) (v_s0.length - v_i5.toNat) (cv_s0 - v_i5.toNat))]) (by kernel_rfl) (by kernel_rfl) (fun w hh => (both_of hn2)) ?_
  refine RgH.does (DoesH.clear (k := 0) (j := v_i5.toNat) (n := v_s0.length - v_i5.toNat) (t := 22) (e := 47) (bytes := 48) (kd := kBlob) (A := Av_s0) (A2 := (shiftA cv_s0 v_i5.toNat 5 Av_s0)) (c := cv_s0) (c2 := (cv_s0 - v_i5.toNat)) (xs := v_s0) (z := (⟨ByteArray.empty, 0, 0, 0, 0⟩ : Blob)) (zc := #[.string ByteArray.empty, .int .i64 0, .int .i64 0, .int .i64 0, .int .i64 0]) (by kernel_rfl) (by have h3 := trivial; omega) (by kernel_rfl) (by kernel_rfl) kBlob_mk (by kernel_rfl) rfl hov_s0 (by have h1 := both_of hn2; have h3 := trivial; omega) (fun h b off hA => shiftA_at h hov_s0.cap hA)) ?_
  rintro _ _ _ _ ⟨ch1, rfl, rfl, rfl, ho2⟩
  have hn3 : v_s0.length = (v_s0.take v_i5.toNat ++ List.replicate (v_s0.length - v_i5.toNat) (⟨ByteArray.empty, 0, 0, 0, 0⟩ : Blob)).length := by have h1 := both_of hn2; have h3 := trivial; simp; omega
  refine RgH.done (by kernel_rfl) ?_
  refine RunH.adm 1 (es' := [.c [1, 1, 1, 1, 1, 0], .c [1, 1, 1, 1, 1, 1]]) (by kernel_rfl) ?_
  refine RunH.reg (by kernel_rfl) ?_
  obtain ⟨hn5, heq⟩ := guard?_some heq
  have hn4 : v_i5.toNat = ((v_s0.take v_i5.toNat ++ List.replicate (v_s0.length - v_i5.toNat) (⟨ByteArray.empty, 0, 0, 0, 0⟩ : Blob)).take v_i5.toNat).length := by have h1 := both_of hn5; have h3 := hn3; (try simp); (try omega)
  have ho3 := ho2.take v_i5.toNat
  refine RgH.runk 4 [4] (vs := []) (evs := [.need ((0 : Int) ≤ v_i5 ∧ v_i5 ≤ ((cv_s0 : Nat) : Int))]) (L' := [(4, .slice Av_s0 v_i5.toNat cv_s0)]) (by kernel_rfl) (by kernel_rfl) (fun w hh => ⟨(both_of hn5).1, (by have h1 := (both_of hn5).2; have h2 := (show v_s0.length ≤ cv_s0 from by have := ho2.cap; have := hn3; omega); have h3 := hn3; omega)⟩) ?_
  refine RgH.done (by kernel_rfl) ?_
  obtain rfl := Option.some.inj heq
  exact RunH.done (by kernel_rfl) Tryd.func72 (v := .slice Av_s0 v_i5.toNat cv_s0) (by kernel_rfl) ⟨Av_s0, cv_s0, ch1, rfl, (by first | rfl | exact congrArg (fun q => Value.slice _ q _) hn4 | (rw [hn4]) | (simp only [← hn4])), rfl, ho3⟩
theorem slices_DeleteFunc_Blob_3.j3_c {w0 : World} {H : Hp} {F : List Ch} {r : (List Blob)} (backl2 : Int → (List Blob) → Int → Int → Option (List Blob))
    (hbackl2 : ∀ (ga1q0 : Nat) (a1q0 : Int) (v_s0 : List Blob) (Av_s0 : Option Addr) (nv_s0 : Nat) (cv_s0 : Nat) (chv_s0 : Ch) (v_i5 : Int) (v_j6 : Int) , InG H F ga1q0 (.cells #[.int .i64 a1q0] 3 (0, 0)) → SlOwn kBlob 47 H Av_s0 cv_s0 v_s0 chv_s0 → nv_s0 = v_s0.length → backl2 a1q0 v_s0 v_i5 v_j6 = some r → RunH C72v3 (S72v3 F H r) H w0 [.c [1, 1, 1, 0, 1, 0, 0], .l [1, 1, 1, 0, 1, 0, 0], .b 0, .c [1, 1, 1, 1]] [(0, .slice Av_s0 nv_s0 cv_s0), (1, .func (.func 121) #[] #[.pointer (some ⟨ga1q0, 0, none⟩)]), (5, .int .i64 v_i5), (6, .int .i64 v_j6)] H (chv_s0 :: F)) : ∀ (ga1q0 : Nat) (a1q0 : Int) (v_j6 : Int) (v_s0 : List Blob) (Av_s0 : Option Addr) (nv_s0 : Nat) (cv_s0 : Nat) (chv_s0 : Ch) (v_i5 : Int) , InG H F ga1q0 (.cells #[.int .i64 a1q0] 3 (0, 0)) → SlOwn kBlob 47 H Av_s0 cv_s0 v_s0 chv_s0 → nv_s0 = v_s0.length → slices_DeleteFunc_Blob_3.j3 backl2 a1q0 v_j6 v_s0 v_i5 = some r → RunH C72v3 (S72v3 F H r) H w0 [.c [1, 1, 1, 0, 1, 0, 0, 1, 1], .l [1, 1, 1, 0, 1, 0, 0], .b 0, .c [1, 1, 1, 1]] [(0, .slice Av_s0 nv_s0 cv_s0), (1, .func (.func 121) #[] #[.pointer (some ⟨ga1q0, 0, none⟩)]), (5, .int .i64 v_i5), (6, .int .i64 v_j6)] H (chv_s0 :: F) := by
  intro ga1q0 a1q0 v_j6 v_s0 Av_s0 nv_s0 cv_s0 chv_s0 v_i5 hga1q0 hov_s0 hnv_s0 heq
  subst hnv_s0
  unfold slices_DeleteFunc_Blob_3.j3 at heq
  refine RunH.reg (by kernel_rfl) ?_
  refine RgH.runk 3 [0, 1, 5, 6] (vs := []) (evs := []) (L' := [(0, .slice Av_s0 v_s0.length cv_s0), (1, .func (.func 121) #[] #[.pointer (some ⟨ga1q0, 0, none⟩)]), (5, .int .i64 v_i5), (6, .int .i64 (w64 (v_j6 + 1)))]) (by kernel_rfl) (by kernel_rfl) (fun _ _ => trivial) ?_
  refine RgH.done (by kernel_rfl) ?_
  refine RunH.adm 1 (es' := [.c [1, 1, 1, 0, 1, 0, 0], .l [1, 1, 1, 0, 1, 0, 0], .b 0, .c [1, 1, 1, 1]]) (by kernel_rfl) ?_
  refine RunH.keep [0, 1, 5, 6] (L' := [(0, .slice Av_s0 v_s0.length cv_s0), (1, .func (.func 121) #[] #[.pointer (some ⟨ga1q0, 0, none⟩)]), (5, .int .i64 v_i5), (6, .int .i64 (w64 (v_j6 + 1)))]) (by kernel_rfl) ?_
  exact hbackl2 _ a1q0 v_s0 _ _ _ _ v_i5 (w64 (v_j6 + 1)) hga1q0 hov_s0 rfl heq
theorem slices_DeleteFunc_Blob_3.l2_c {w0 : World} {H : Hp} {F : List Ch} {r : (List Blob)} (e1 : (List Blob) → Int → Option (List Blob))
    (he1 : ∀ (v_s0 : List Blob) (Av_s0 : Option Addr) (nv_s0 : Nat) (cv_s0 : Nat) (chv_s0 : Ch) (v_i5 : Int) , SlOwn kBlob 47 H Av_s0 cv_s0 v_s0 chv_s0 → nv_s0 = v_s0.length → e1 v_s0 v_i5 = some r → RunH C72v3 (S72v3 F H r) H w0 [.c [1, 1, 1, 1, 0], .c [1, 1, 1, 1, 1]] [(0, .slice Av_s0 nv_s0 cv_s0), (5, .int .i64 v_i5)] H (chv_s0 :: F)) : ∀ (k : Nat), ∀ (ga1q0 : Nat) (a1q0 : Int) (v_s0 : List Blob) (Av_s0 : Option Addr) (nv_s0 : Nat) (cv_s0 : Nat) (chv_s0 : Ch) (v_i5 : Int) (v_j6 : Int) , InG H F ga1q0 (.cells #[.int .i64 a1q0] 3 (0, 0)) → SlOwn kBlob 47 H Av_s0 cv_s0 v_s0 chv_s0 → nv_s0 = v_s0.length → slices_DeleteFunc_Blob_3.l2 e1 k a1q0 v_s0 v_i5 v_j6 = some r → RunH C72v3 (S72v3 F H r) H w0 [.c [1, 1, 1, 0, 1, 0, 0], .l [1, 1, 1, 0, 1, 0, 0], .b 0, .c [1, 1, 1, 1]] [(0, .slice Av_s0 nv_s0 cv_s0), (1, .func (.func 121) #[] #[.pointer (some ⟨ga1q0, 0, none⟩)]), (5, .int .i64 v_i5), (6, .int .i64 v_j6)] H (chv_s0 :: F) := by
  intro k
  induction k with
  | zero => intro ga1q0 a1q0 v_s0 Av_s0 nv_s0 cv_s0 chv_s0 v_i5 v_j6 hga1q0 hov_s0 hnv_s0 heq; exact nomatch (show (none : Option (List Blob)) = some r from heq)
  | succ k ihk =>
    intro ga1q0 a1q0 v_s0 Av_s0 nv_s0 cv_s0 chv_s0 v_i5 v_j6 hga1q0 hov_s0 hnv_s0 heq
    subst hnv_s0
    rw [slices_DeleteFunc_Blob_3.l2] at heq
    refine RunH.adm 2 (es' := [.c [1, 1, 1, 0, 1, 0, 0, 0, 0], .c [1, 1, 1, 0, 1, 0, 0, 0, 1], .c [1, 1, 1, 0, 1, 0, 0, 1], .l [1, 1, 1, 0, 1, 0, 0], .b 0, .c [1, 1, 1, 1]]) (by kernel_rfl) ?_
    refine RunH.reg (by kernel_rfl) ?_
    refine RgH.runk 4 [0, 1, 5, 6, 19] (vs := []) (evs := []) (L' := [(0, .slice Av_s0 v_s0.length cv_s0), (1, .func (.func 121) #[] #[.pointer (some ⟨ga1q0, 0, none⟩)]), (5, .int .i64 v_i5), (6, .int .i64 v_j6), (19, .bool (decide (v_j6 < (v_s0.length : Int))))]) (by kernel_rfl) (by kernel_rfl) (fun _ _ => trivial) ?_
    refine RgH.done (by kernel_rfl) ?_
    rcases bool_cases (decide (v_j6 < (v_s0.length : Int))) with hb2 | hb2
    · replace heq := bif_true hb2 heq
      refine RunH.condT (c := decide (v_j6 < (v_s0.length : Int))) (by kernel_rfl) hb2 ?_
      refine RunH.adm 4 (es' := [.c [1, 1, 1, 0, 1, 0, 0, 1, 0, 0, 0], .c [1, 1, 1, 0, 1, 0, 0, 1, 0, 0, 1], .b 1, .c [1, 1, 1, 0, 1, 0, 0, 1, 1], .l [1, 1, 1, 0, 1, 0, 0], .b 0, .c [1, 1, 1, 1]]) (by kernel_rfl) ?_
      refine RunH.reg (by kernel_rfl) ?_
      obtain ⟨x1, hx1, heq⟩ := bind_some heq
      obtain ⟨ha1, cs1, hK1, hcc1⟩ := hov_s0.get hx1
      obtain ⟨rfl⟩ := kBlob_open hK1
      refine RgH.runk 4 [0, 1, 5, 6, 25] (vs := [.string x1.Digest, .int .i64 x1.Size, .int .i64 x1.Used, .int .i64 x1.Until, .int .i64 x1.Pins]) (evs := [.need (Av_s0 = some (adr Av_s0) ∧ (0 : Int) ≤ v_j6 ∧ v_j6 < ((v_s0.length : Nat) : Int)), .load (((adr Av_s0).add (v_j6.toNat * 5)).add 0) (.string x1.Digest), .load (((adr Av_s0).add (v_j6.toNat * 5)).add 1) (.int .i64 x1.Size), .load (((adr Av_s0).add (v_j6.toNat * 5)).add 2) (.int .i64 x1.Used), .load (((adr Av_s0).add (v_j6.toNat * 5)).add 3) (.int .i64 x1.Until), .load (((adr Av_s0).add (v_j6.toNat * 5)).add 4) (.int .i64 x1.Pins)]) (L' := [(0, .slice Av_s0 v_s0.length cv_s0), (1, .func (.func 121) #[] #[.pointer (some ⟨ga1q0, 0, none⟩)]), (5, .int .i64 v_i5), (6, .int .i64 v_j6), (25, .agg #[.string x1.Digest, .int .i64 x1.Size, .int .i64 x1.Used, .int .i64 x1.Until, .int .i64 x1.Pins])]) (by kernel_rfl) (by kernel_rfl) (fun w hh => ⟨⟨ha1, (at?_some hx1).1, (at?_some hx1).2.1⟩, (hcc1 _ (hh.chin 0 rfl) 0 _ rfl), (hcc1 _ (hh.chin 0 rfl) 1 _ rfl), (hcc1 _ (hh.chin 0 rfl) 2 _ rfl), (hcc1 _ (hh.chin 0 rfl) 3 _ rfl), (hcc1 _ (hh.chin 0 rfl) 4 _ rfl)⟩) ?_
      refine RgH.does (DoesH.new (d := 7) (v := fun g => .pointer (some ⟨g, 0, none⟩)) (o := fun g => .cells #[.string ByteArray.empty, .int .i64 0, .int .i64 0, .int .i64 0, .int .i64 0] 47 (0, 0)) (fun g => by kernel_rfl)) ?_
      rintro _ _ _ _ ⟨g1, rfl, rfl, rfl⟩
      refine RgH.does (DoesH.store (k := 0) (g := g1) (off := 0) (v := .agg #[.string x1.Digest, .int .i64 x1.Size, .int .i64 x1.Used, .int .i64 x1.Until, .int .i64 x1.Pins]) (cells' := #[.string x1.Digest, .int .i64 x1.Size, .int .i64 x1.Used, .int .i64 x1.Until, .int .i64 x1.Pins]) (by kernel_rfl) rfl (by kernel_rfl) (by kernel_rfl)) ?_
      rintro _ _ _ _ ⟨rfl, rfl, rfl⟩
      refine RgH.done (by kernel_rfl) ?_
      refine RunH.adm 1 (es' := [.c [1, 1, 1, 0, 1, 0, 0, 1, 0, 0, 1, 0], .c [1, 1, 1, 0, 1, 0, 0, 1, 0, 0, 1, 1], .b 1, .c [1, 1, 1, 0, 1, 0, 0, 1, 1], .l [1, 1, 1, 0, 1, 0, 0], .b 0, .c [1, 1, 1, 1]]) (by kernel_rfl) ?_
      refine RunH.reg (by kernel_rfl) ?_
      refine RgH.runk 2 [0, 1, 5, 6, 7, 26, 27] (vs := [.string x1.Digest, .int .i64 x1.Size, .int .i64 x1.Used, .int .i64 x1.Until, .int .i64 x1.Pins]) (evs := [.load ⟨g1, 0, none⟩ (.string x1.Digest), .load ⟨g1, 1, none⟩ (.int .i64 x1.Size), .load ⟨g1, 2, none⟩ (.int .i64 x1.Used), .load ⟨g1, 3, none⟩ (.int .i64 x1.Until), .load ⟨g1, 4, none⟩ (.int .i64 x1.Pins)]) (L' := [(0, .slice Av_s0 v_s0.length cv_s0), (1, .func (.func 121) #[] #[.pointer (some ⟨ga1q0, 0, none⟩)]), (5, .int .i64 v_i5), (6, .int .i64 v_j6), (7, .pointer (some ⟨g1, 0, none⟩)), (26, .func (.func 121) #[] #[.pointer (some ⟨ga1q0, 0, none⟩)]), (27, .agg #[.string x1.Digest, .int .i64 x1.Size, .int .i64 x1.Used, .int .i64 x1.Until, .int .i64 x1.Pins])]) (by kernel_rfl) (by kernel_rfl) (fun w hh => ⟨(hh.box 0 rfl rfl), (hh.box 0 rfl rfl), (hh.box 0 rfl rfl), (hh.box 0 rfl rfl), (hh.box 0 rfl rfl)⟩) ?_
      obtain ⟨y2, hy2, heq⟩ := bind_some heq
      refine RgH.does (DoesH.call (d := 28) (g := 121) (args := #[.agg #[.string x1.Digest, .int .i64 x1.Size, .int .i64 x1.Used, .int .i64 x1.Until, .int .i64 x1.Pins], .pointer (some ⟨ga1q0, 0, none⟩)]) (by kernel_rfl) (cache_leaving_1_c (a0 := x1) (a1 := a1q0) (hga1q0.wk (fun _ h => (.tail _ (.tail _ h)))) hy2)) ?_
      rintro _ _ _ _ ⟨_, rfl, rfl, rfl, rfl⟩
      refine RgH.runk 4 [0, 1, 5, 6, 7, 29] (vs := []) (evs := []) (L' := [(0, .slice Av_s0 v_s0.length cv_s0), (1, .func (.func 121) #[] #[.pointer (some ⟨ga1q0, 0, none⟩)]), (5, .int .i64 v_i5), (6, .int .i64 v_j6), (7, .pointer (some ⟨g1, 0, none⟩)), (29, .bool (!y2))]) (by kernel_rfl) (by kernel_rfl) (fun _ _ => trivial) ?_
      refine RgH.done (by kernel_rfl) ?_
      rcases bool_cases (!y2) with hb3 | hb3
      · replace heq := bif_true hb3 heq
        refine RunH.condT (c := !y2) (by kernel_rfl) hb3 ?_
        refine RunH.adm 1 (es' := [.c [1, 1, 1, 0, 1, 0, 0, 1, 0, 0, 1, 1, 0, 0], .c [1, 1, 1, 0, 1, 0, 0, 1, 0, 0, 1, 1, 0, 1], .b 1, .c [1, 1, 1, 0, 1, 0, 0, 1, 1], .l [1, 1, 1, 0, 1, 0, 0], .b 0, .c [1, 1, 1, 1]]) (by kernel_rfl) ?_
        refine RunH.reg (by kernel_rfl) ?_
        obtain ⟨x2, hx2, heq⟩ := bind_some heq
        obtain ⟨ha2, cs2, hK2, hcc2⟩ := hov_s0.get hx2
        obtain ⟨rfl⟩ := kBlob_open hK2
        refine RgH.runk 4 [0, 1, 5, 6, 32, 33] (vs := [.string x1.Digest, .int .i64 x1.Size, .int .i64 x1.Used, .int .i64 x1.Until, .int .i64 x1.Pins]) (evs := [.load ⟨g1, 0, none⟩ (.string x1.Digest), .load ⟨g1, 1, none⟩ (.int .i64 x1.Size), .load ⟨g1, 2, none⟩ (.int .i64 x1.Used), .load ⟨g1, 3, none⟩ (.int .i64 x1.Until), .load ⟨g1, 4, none⟩ (.int .i64 x1.Pins), .need (Av_s0 = some (adr Av_s0) ∧ (0 : Int) ≤ v_i5 ∧ v_i5 < ((v_s0.length : Nat) : Int))]) (L' := [(0, .slice Av_s0 v_s0.length cv_s0), (1, .func (.func 121) #[] #[.pointer (some ⟨ga1q0, 0, none⟩)]), (5, .int .i64 v_i5), (6, .int .i64 v_j6), (32, .agg #[.string x1.Digest, .int .i64 x1.Size, .int .i64 x1.Used, .int .i64 x1.Until, .int .i64 x1.Pins]), (33, .pointer (some ((adr Av_s0).add (v_i5.toNat * 5))))]) (by kernel_rfl) (by kernel_rfl) (fun w hh => ⟨(hh.box 0 rfl rfl), (hh.box 0 rfl rfl), (hh.box 0 rfl rfl), (hh.box 0 rfl rfl), (hh.box 0 rfl rfl), ⟨ha2, (at?_some hx2).1, (at?_some hx2).2.1⟩⟩) ?_
        obtain ⟨ha3, cs3, hK3, hcc3⟩ := hov_s0.get hx2
        obtain ⟨rfl⟩ := kBlob_open hK3
        refine RgH.does (DoesH.storeEl (a := ((adr Av_s0).add (v_i5.toNat * 5))) (k := 1) (kd := kBlob) (c0 := [.string x2.Digest, .int .i64 x2.Size, .int .i64 x2.Used, .int .i64 x2.Until, .int .i64 x2.Pins]) (x' := x1) (o := 0) (ix := v_i5) (v := .agg #[.string x1.Digest, .int .i64 x1.Size, .int .i64 x1.Used, .int .i64 x1.Until, .int .i64 x1.Pins]) (by kernel_rfl) rfl hov_s0 hx2 (by kernel_rfl) hcc3 rfl (Nat.le_of_ble_eq_true (by kernel_rfl)) kBlob_mk) ?_
        rintro _ _ _ _ ⟨ch2, rfl, rfl, rfl, ho4⟩
        have hn6 : v_s0.length = (v_s0.set v_i5.toNat x1).length := by rw [List.length_set]
        refine RgH.done (by kernel_rfl) ?_
        refine RunH.reg (by kernel_rfl) ?_
        refine RgH.runk 3 [0, 1, 5, 6] (vs := []) (evs := []) (L' := [(0, .slice Av_s0 v_s0.length cv_s0), (1, .func (.func 121) #[] #[.pointer (some ⟨ga1q0, 0, none⟩)]), (5, .int .i64 (w64 (v_i5 + 1))), (6, .int .i64 v_j6)]) (by kernel_rfl) (by kernel_rfl) (fun _ _ => trivial) ?_
        refine RgH.done (by kernel_rfl) ?_
        refine RunH.adm 1 (es' := [.c [1, 1, 1, 0, 1, 0, 0, 1, 1], .l [1, 1, 1, 0, 1, 0, 0], .b 0, .c [1, 1, 1, 1]]) (by kernel_rfl) ?_
        refine RunH.keep [0, 1, 5, 6] (L' := [(0, .slice Av_s0 v_s0.length cv_s0), (1, .func (.func 121) #[] #[.pointer (some ⟨ga1q0, 0, none⟩)]), (5, .int .i64 (w64 (v_i5 + 1))), (6, .int .i64 v_j6)]) (by kernel_rfl) ?_
        refine RunH.pick 2 [1] (cs' := ch2 :: F) (by kernel_rfl) rfl ?_
        exact (slices_DeleteFunc_Blob_3.j3_c (backl2 := (slices_DeleteFunc_Blob_3.l2 e1 k)) ihk) _ a1q0 v_j6 (v_s0.set v_i5.toNat x1) _ _ _ _ (w64 (v_i5 + 1)) hga1q0 ho4 hn6 heq
      · replace heq := bif_false hb3 heq
        refine RunH.condF (c := !y2) (by kernel_rfl) hb3 ?_
        refine RunH.adm 2 (es' := [.c [1, 1, 1, 0, 1, 0, 0, 1, 1], .l [1, 1, 1, 0, 1, 0, 0], .b 0, .c [1, 1, 1, 1]]) (by kernel_rfl) ?_
        refine RunH.keep [0, 1, 5, 6] (L' := [(0, .slice Av_s0 v_s0.length cv_s0), (1, .func (.func 121) #[] #[.pointer (some ⟨ga1q0, 0, none⟩)]), (5, .int .i64 v_i5), (6, .int .i64 v_j6)]) (by kernel_rfl) ?_
        refine RunH.pick 2 [1] (cs' := chv_s0 :: F) (by kernel_rfl) rfl ?_
        exact (slices_DeleteFunc_Blob_3.j3_c (backl2 := (slices_DeleteFunc_Blob_3.l2 e1 k)) ihk) _ a1q0 v_j6 v_s0 _ _ _ _ v_i5 hga1q0 hov_s0 rfl heq
    · replace heq := bif_false hb2 heq
      refine RunH.condF (c := decide (v_j6 < (v_s0.length : Int))) (by kernel_rfl) hb2 ?_
      refine RunH.adm 2 (es' := [.c [1, 1, 1, 1, 0], .c [1, 1, 1, 1, 1]]) (by kernel_rfl) ?_
      refine RunH.keep [0, 5] (L' := [(0, .slice Av_s0 v_s0.length cv_s0), (5, .int .i64 v_i5)]) (by kernel_rfl) ?_
      exact he1 v_s0 _ _ _ _ v_i5 hov_s0 rfl heq
theorem slices_DeleteFunc_Blob_3_c {w0 : World} {H : Hp} {F : List Ch} {a0 : List Blob} {Aa0 : Option Addr} {na0 : Nat} {ca0 : Nat} {cha0 : Ch} {ga1q0 : Nat} {a1q0 : Int} {r : (List Blob)} (hoa0 : SlOwn kBlob 47 H Aa0 ca0 a0 cha0) (hna0 : na0 = a0.length) (hga1q0 : InG H F ga1q0 (.cells #[.int .i64 a1q0] 3 (0, 0))) (heq : slices_DeleteFunc_Blob_3.f a0 a1q0 = some r) : CallsH Tryd.prog 72 #[.slice Aa0 na0 ca0, .func (.func 121) #[] #[.pointer (some ⟨ga1q0, 0, none⟩)]] H w0 (cha0 :: F) (S72v3 F H r) := by
  refine calls_of_runH (F := C72v3) Tryd.func72 (by kernel_rfl) Tryd.ntmps72 (args := [.slice Aa0 na0 ca0, .func (.func 121) #[] #[.pointer (some ⟨ga1q0, 0, none⟩)]]) (by kernel_rfl) ?_
  subst hna0
  unfold slices_DeleteFunc_Blob_3.f at heq
  refine RunH.adm 1 (es' := [.c [0], .c [1]]) (by kernel_rfl) ?_
  refine RunH.reg (by kernel_rfl) ?_
  refine RgH.runk 1 [0, 1] (vs := []) (evs := []) (L' := [(0, .slice Aa0 a0.length ca0), (1, .func (.func 121) #[] #[.pointer (some ⟨ga1q0, 0, none⟩)])]) (by kernel_rfl) (by kernel_rfl) (fun _ _ => trivial) ?_
  refine RgH.done (by kernel_rfl) ?_
  refine RunH.adm 1 (es' := [.c [1, 0], .c [1, 1]]) (by kernel_rfl) ?_
  refine RunH.reg (by kernel_rfl) ?_
  refine RgH.runk 2 [0, 1, 8, 9] (vs := []) (evs := []) (L' := [(0, .slice Aa0 a0.length ca0), (1, .func (.func 121) #[] #[.pointer (some ⟨ga1q0, 0, none⟩)]), (8, .slice Aa0 a0.length ca0), (9, .func (.func 121) #[] #[.pointer (some ⟨ga1q0, 0, none⟩)])]) (by kernel_rfl) (by kernel_rfl) (fun _ _ => trivial) ?_
  obtain ⟨y1, hy1, heq⟩ := bind_some heq
  refine RgH.does (DoesH.call (d := 10) (g := 109) (args := #[.slice Aa0 a0.length ca0, .func (.func 121) #[] #[.pointer (some ⟨ga1q0, 0, none⟩)]]) (by kernel_rfl) (slices_IndexFunc_Blob_3_c (a0 := a0) (a1q0 := a1q0) (hoa0.rw (.head _)) hoa0.cap rfl (hga1q0.wk (fun _ h => (.tail _ h))) hy1)) ?_
  rintro _ _ _ _ ⟨_, rfl, rfl, rfl, rfl⟩
  refine RgH.runk 4 [0, 1, 5] (vs := []) (evs := []) (L' := [(0, .slice Aa0 a0.length ca0), (1, .func (.func 121) #[] #[.pointer (some ⟨ga1q0, 0, none⟩)]), (5, .int .i64 y1)]) (by kernel_rfl) (by kernel_rfl) (fun _ _ => trivial) ?_
  refine RgH.done (by kernel_rfl) ?_
  refine RunH.adm 2 (es' := [.c [1, 1, 0, 0], .c [1, 1, 0, 1], .c [1, 1, 1]]) (by kernel_rfl) ?_
  refine RunH.reg (by kernel_rfl) ?_
  refine RgH.runk 2 [0, 1, 5, 12] (vs := []) (evs := []) (L' := [(0, .slice Aa0 a0.length ca0), (1, .func (.func 121) #[] #[.pointer (some ⟨ga1q0, 0, none⟩)]), (5, .int .i64 y1), (12, .bool (y1 == (-1)))]) (by kernel_rfl) (by kernel_rfl) (fun _ _ => trivial) ?_
  refine RgH.done (by kernel_rfl) ?_
  rcases bool_cases (y1 == (-1)) with hb1 | hb1
  · replace heq := bif_true hb1 heq
    refine RunH.condT (c := y1 == (-1)) (by kernel_rfl) hb1 ?_
    refine RunH.adm 1 (es' := [.c [1, 1, 0, 1, 0, 0], .c [1, 1, 0, 1, 0, 1], .c [1, 1, 1]]) (by kernel_rfl) ?_
    refine RunH.reg (by kernel_rfl) ?_
    refine RgH.runk 2 [4] (vs := []) (evs := []) (L' := [(4, .slice Aa0 a0.length ca0)]) (by kernel_rfl) (by kernel_rfl) (fun _ _ => trivial) ?_
    refine RgH.done (by kernel_rfl) ?_
    obtain rfl := Option.some.inj heq
    exact RunH.done (by kernel_rfl) Tryd.func72 (v := .slice Aa0 a0.length ca0) (by kernel_rfl) ⟨Aa0, ca0, cha0, rfl, rfl, rfl, hoa0⟩
  · replace heq := bif_false hb1 heq
    refine RunH.condF (c := y1 == (-1)) (by kernel_rfl) hb1 ?_
    refine RunH.adm 3 (es' := [.c [1, 1, 1, 0, 0], .c [1, 1, 1, 0, 1], .c [1, 1, 1, 1]]) (by kernel_rfl) ?_
    refine RunH.reg (by kernel_rfl) ?_
    refine RgH.runk 3 [0, 1, 5, 6] (vs := []) (evs := []) (L' := [(0, .slice Aa0 a0.length ca0), (1, .func (.func 121) #[] #[.pointer (some ⟨ga1q0, 0, none⟩)]), (5, .int .i64 y1), (6, .int .i64 (w64 (y1 + 1)))]) (by kernel_rfl) (by kernel_rfl) (fun _ _ => trivial) ?_
    refine RgH.done (by kernel_rfl) ?_
    refine RunH.adm 2 (es' := [.c [1, 1, 1, 0, 1, 0, 0], .l [1, 1, 1, 0, 1, 0, 0], .b 0, .c [1, 1, 1, 1]]) (by kernel_rfl) ?_
    refine RunH.keep [0, 1, 5, 6] (L' := [(0, .slice Aa0 a0.length ca0), (1, .func (.func 121) #[] #[.pointer (some ⟨ga1q0, 0, none⟩)]), (5, .int .i64 y1), (6, .int .i64 (w64 (y1 + 1)))]) (by kernel_rfl) ?_
    exact ((slices_DeleteFunc_Blob_3.l2_c (e1 := slices_DeleteFunc_Blob_3.e1) (slices_DeleteFunc_Blob_3.e1_c)) big) _ a1q0 a0 _ _ _ _ y1 (w64 (y1 + 1)) hga1q0 hoa0 rfl heq
noncomputable def C150 : Ctx := { P := Tryd.prog, f := 150, N := 6, c := bodyOf Tryd.f150 }
def S150 (F : List Ch) (H0 : Hp) (r : Bool) (v : Value) (H : Hp) (cs : List Ch) : Prop := H0 = H ∧ v = .bool r ∧ F = cs
theorem cmp_isNaN_int_c {w0 : World} {H : Hp} {F : List Ch} {a0 : Int} {r : Bool} (heq : cmp_isNaN_int.f a0 = some r) : CallsH Tryd.prog 150 #[.int .i64 a0] H w0 (F) (S150 F H r) := by
  refine calls_of_runH (F := C150) Tryd.func150 (by kernel_rfl) Tryd.ntmps150 (args := [.int .i64 a0]) (by kernel_rfl) ?_
  unfold cmp_isNaN_int.f at heq
  refine RunH.adm 1 (es' := [.c [0], .c [1]]) (by kernel_rfl) ?_
  refine RunH.reg (by kernel_rfl) ?_
  refine RgH.runk 1 [0] (vs := []) (evs := []) (L' := [(0, .int .i64 a0)]) (by kernel_rfl) (by kernel_rfl) (fun _ _ => trivial) ?_
  refine RgH.done (by kernel_rfl) ?_
  refine RunH.adm 1 (es' := [.c [1, 0], .c [1, 1]]) (by kernel_rfl) ?_
  refine RunH.reg (by kernel_rfl) ?_
  refine RgH.runk 4 [2] (vs := []) (evs := []) (L' := [(2, .bool (a0 != a0))]) (by kernel_rfl) (by kernel_rfl) (fun _ _ => trivial) ?_
  refine RgH.done (by kernel_rfl) ?_
  obtain rfl := Option.some.inj heq
  exact RunH.done (by kernel_rfl) Tryd.func150 (v := .bool (a0 != a0)) (by kernel_rfl) ⟨rfl, rfl, rfl⟩
noncomputable def C124 : Ctx := { P := Tryd.prog, f := 124, N := 20, c := bodyOf Tryd.f124 }
def S124 (F : List Ch) (H0 : Hp) (r : Int) (v : Value) (H : Hp) (cs : List Ch) : Prop := H0 = H ∧ v = .int .i64 r ∧ F = cs
theorem cmp_Compare_int_c {w0 : World} {H : Hp} {F : List Ch} {a0 : Int} {a1 : Int} {r : Int} (heq : cmp_Compare_int.f a0 a1 = some r) : CallsH Tryd.prog 124 #[.int .i64 a0, .int .i64 a1] H w0 (F) (S124 F H r) := by
  refine calls_of_runH (F := C124) Tryd.func124 (by kernel_rfl) Tryd.ntmps124 (args := [.int .i64 a0, .int .i64 a1]) (by kernel_rfl) ?_
  unfold cmp_Compare_int.f at heq
  refine RunH.adm 1 (es' := [.c [0], .c [1]]) (by kernel_rfl) ?_
  refine RunH.reg (by kernel_rfl) ?_
  refine RgH.runk 1 [0, 1] (vs := []) (evs := []) (L' := [(0, .int .i64 a0), (1, .int .i64 a1)]) (by kernel_rfl) (by kernel_rfl) (fun _ _ => trivial) ?_
  refine RgH.done (by kernel_rfl) ?_
  refine RunH.adm 1 (es' := [.c [1, 0], .c [1, 1]]) (by kernel_rfl) ?_
  refine RunH.reg (by kernel_rfl) ?_
  refine RgH.runk 1 [0, 1, 7] (vs := []) (evs := []) (L' := [(0, .int .i64 a0), (1, .int .i64 a1), (7, .int .i64 a0)]) (by kernel_rfl) (by kernel_rfl) (fun _ _ => trivial) ?_
  obtain ⟨y1, hy1, heq⟩ := bind_some heq
  refine RgH.does (DoesH.call (d := 8) (g := 150) (args := #[.int .i64 a0]) (by kernel_rfl) (cmp_isNaN_int_c (a0 := a0)  hy1)) ?_
  rintro _ _ _ _ ⟨_, rfl, rfl, rfl, rfl⟩
  refine RgH.runk 3 [0, 1, 5] (vs := []) (evs := []) (L' := [(0, .int .i64 a0), (1, .int .i64 a1), (5, .bool y1)]) (by kernel_rfl) (by kernel_rfl) (fun _ _ => trivial) ?_
  refine RgH.done (by kernel_rfl) ?_
  refine RunH.adm 1 (es' := [.c [1, 1, 0], .c [1, 1, 1]]) (by kernel_rfl) ?_
  refine RunH.reg (by kernel_rfl) ?_
  refine RgH.runk 1 [0, 1, 5, 9] (vs := []) (evs := []) (L' := [(0, .int .i64 a0), (1, .int .i64 a1), (5, .bool y1), (9, .int .i64 a1)]) (by kernel_rfl) (by kernel_rfl) (fun _ _ => trivial) ?_
  obtain ⟨y2, hy2, heq⟩ := bind_some heq
  refine RgH.does (DoesH.call (d := 10) (g := 150) (args := #[.int .i64 a1]) (by kernel_rfl) (cmp_isNaN_int_c (a0 := a1)  hy2)) ?_
  rintro _ _ _ _ ⟨_, rfl, rfl, rfl, rfl⟩
  refine RgH.runk 3 [0, 1, 5, 6] (vs := []) (evs := []) (L' := [(0, .int .i64 a0), (1, .int .i64 a1), (5, .bool y1), (6, .bool y2)]) (by kernel_rfl) (by kernel_rfl) (fun _ _ => trivial) ?_
  refine RgH.done (by kernel_rfl) ?_
  refine RunH.adm 2 (es' := [.c [1, 1, 1, 0, 0], .c [1, 1, 1, 0, 1], .c [1, 1, 1, 1]]) (by kernel_rfl) ?_
  refine RunH.reg (by kernel_rfl) ?_
  refine RgH.runk 1 [0, 1, 6, 11] (vs := []) (evs := []) (L' := [(0, .int .i64 a0), (1, .int .i64 a1), (6, .bool y2), (11, .bool y1)]) (by kernel_rfl) (by kernel_rfl) (fun _ _ => trivial) ?_
  refine RgH.done (by kernel_rfl) ?_
  rcases bool_cases (y1) with hb1 | hb1
  · replace heq := bif_true hb1 heq
    refine RunH.condT (c := y1) (by kernel_rfl) hb1 ?_
    refine RunH.adm 2 (es' := [.c [1, 1, 1, 0, 1, 0, 0, 0], .c [1, 1, 1, 0, 1, 0, 0, 1], .c [1, 1, 1, 0, 1, 0, 1], .c [1, 1, 1, 1]]) (by kernel_rfl) ?_
    refine RunH.reg (by kernel_rfl) ?_
    refine RgH.runk 1 [12] (vs := []) (evs := []) (L' := [(12, .bool y2)]) (by kernel_rfl) (by kernel_rfl) (fun _ _ => trivial) ?_
    refine RgH.done (by kernel_rfl) ?_
    rcases bool_cases (y2) with hb2 | hb2
    · replace heq := bif_true hb2 heq
      refine RunH.condT (c := y2) (by kernel_rfl) hb2 ?_
      refine RunH.adm 1 (es' := [.c [1, 1, 1, 0, 1, 0, 0, 1, 0, 0], .c [1, 1, 1, 0, 1, 0, 0, 1, 0, 1], .c [1, 1, 1, 0, 1, 0, 1], .c [1, 1, 1, 1]]) (by kernel_rfl) ?_
      refine RunH.reg (by kernel_rfl) ?_
      refine RgH.runk 1 [4] (vs := []) (evs := []) (L' := [(4, .int .i64 0)]) (by kernel_rfl) (by kernel_rfl) (fun _ _ => trivial) ?_
      refine RgH.done (by kernel_rfl) ?_
      obtain rfl := Option.some.inj heq
      exact RunH.done (by kernel_rfl) Tryd.func124 (v := .int .i64 0) (by kernel_rfl) ⟨rfl, rfl, rfl⟩
    · replace heq := bif_false hb2 heq
      refine RunH.condF (c := y2) (by kernel_rfl) hb2 ?_
      refine RunH.adm 2 (es' := [.c [1, 1, 1, 0, 1, 0, 1, 0], .c [1, 1, 1, 0, 1, 0, 1, 1], .c [1, 1, 1, 1]]) (by kernel_rfl) ?_
      refine RunH.reg (by kernel_rfl) ?_
      refine RgH.runk 1 [4] (vs := []) (evs := []) (L' := [(4, .int .i64 (-1))]) (by kernel_rfl) (by kernel_rfl) (fun _ _ => trivial) ?_
      refine RgH.done (by kernel_rfl) ?_
      obtain rfl := Option.some.inj heq
      exact RunH.done (by kernel_rfl) Tryd.func124 (v := .int .i64 (-1)) (by kernel_rfl) ⟨rfl, rfl, rfl⟩
  · replace heq := bif_false hb1 heq
    refine RunH.condF (c := y1) (by kernel_rfl) hb1 ?_
    refine RunH.adm 3 (es' := [.c [1, 1, 1, 1, 0, 0], .c [1, 1, 1, 1, 0, 1], .c [1, 1, 1, 1, 1]]) (by kernel_rfl) ?_
    refine RunH.reg (by kernel_rfl) ?_
    refine RgH.runk 1 [0, 1, 13] (vs := []) (evs := []) (L' := [(0, .int .i64 a0), (1, .int .i64 a1), (13, .bool y2)]) (by kernel_rfl) (by kernel_rfl) (fun _ _ => trivial) ?_
    refine RgH.done (by kernel_rfl) ?_
    rcases bool_cases (y2) with hb3 | hb3
    · replace heq := bif_true hb3 heq
      refine RunH.condT (c := y2) (by kernel_rfl) hb3 ?_
      refine RunH.adm 1 (es' := [.c [1, 1, 1, 1, 0, 1, 0, 0], .c [1, 1, 1, 1, 0, 1, 0, 1], .c [1, 1, 1, 1, 1]]) (by kernel_rfl) ?_
      refine RunH.reg (by kernel_rfl) ?_
      refine RgH.runk 1 [4] (vs := []) (evs := []) (L' := [(4, .int .i64 1)]) (by kernel_rfl) (by kernel_rfl) (fun _ _ => trivial) ?_
      refine RgH.done (by kernel_rfl) ?_
      obtain rfl := Option.some.inj heq
      exact RunH.done (by kernel_rfl) Tryd.func124 (v := .int .i64 1) (by kernel_rfl) ⟨rfl, rfl, rfl⟩
    · replace heq := bif_false hb3 heq
      refine RunH.condF (c := y2) (by kernel_rfl) hb3 ?_
      refine RunH.adm 3 (es' := [.c [1, 1, 1, 1, 1, 0, 0], .c [1, 1, 1, 1, 1, 0, 1], .c [1, 1, 1, 1, 1, 1]]) (by kernel_rfl) ?_
      refine RunH.reg (by kernel_rfl) ?_
      refine RgH.runk 3 [0, 1, 16] (vs := []) (evs := []) (L' := [(0, .int .i64 a0), (1, .int .i64 a1), (16, .bool (decide (a0 < a1)))]) (by kernel_rfl) (by kernel_rfl) (fun _ _ => trivial) ?_
      refine RgH.done (by kernel_rfl) ?_
      rcases bool_cases (decide (a0 < a1)) with hb4 | hb4
      · replace heq := bif_true hb4 heq
        refine RunH.condT (c := decide (a0 < a1)) (by kernel_rfl) hb4 ?_
        refine RunH.adm 1 (es' := [.c [1, 1, 1, 1, 1, 0, 1, 0, 0], .c [1, 1, 1, 1, 1, 0, 1, 0, 1], .c [1, 1, 1, 1, 1, 1]]) (by kernel_rfl) ?_
        refine RunH.reg (by kernel_rfl) ?_
        refine RgH.runk 1 [4] (vs := []) (evs := []) (L' := [(4, .int .i64 (-1))]) (by kernel_rfl) (by kernel_rfl) (fun _ _ => trivial) ?_
        refine RgH.done (by kernel_rfl) ?_
        obtain rfl := Option.some.inj heq
        exact RunH.done (by kernel_rfl) Tryd.func124 (v := .int .i64 (-1)) (by kernel_rfl) ⟨rfl, rfl, rfl⟩
      · replace heq := bif_false hb4 heq
        refine RunH.condF (c := decide (a0 < a1)) (by kernel_rfl) hb4 ?_
        refine RunH.adm 3 (es' := [.c [1, 1, 1, 1, 1, 1, 0, 0], .c [1, 1, 1, 1, 1, 1, 0, 1], .c [1, 1, 1, 1, 1, 1, 1]]) (by kernel_rfl) ?_
        refine RunH.reg (by kernel_rfl) ?_
        refine RgH.runk 3 [19] (vs := []) (evs := []) (L' := [(19, .bool (decide (a1 < a0)))]) (by kernel_rfl) (by kernel_rfl) (fun _ _ => trivial) ?_
        refine RgH.done (by kernel_rfl) ?_
        rcases bool_cases (decide (a1 < a0)) with hb5 | hb5
        · replace heq := bif_true hb5 heq
          refine RunH.condT (c := decide (a1 < a0)) (by kernel_rfl) hb5 ?_
          refine RunH.adm 1 (es' := [.c [1, 1, 1, 1, 1, 1, 0, 1, 0, 0], .c [1, 1, 1, 1, 1, 1, 0, 1, 0, 1], .c [1, 1, 1, 1, 1, 1, 1]]) (by kernel_rfl) ?_
          refine RunH.reg (by kernel_rfl) ?_
          refine RgH.runk 1 [4] (vs := []) (evs := []) (L' := [(4, .int .i64 1)]) (by kernel_rfl) (by kernel_rfl) (fun _ _ => trivial) ?_
          refine RgH.done (by kernel_rfl) ?_
          obtain rfl := Option.some.inj heq
          exact RunH.done (by kernel_rfl) Tryd.func124 (v := .int .i64 1) (by kernel_rfl) ⟨rfl, rfl, rfl⟩
        · replace heq := bif_false hb5 heq
          refine RunH.condF (c := decide (a1 < a0)) (by kernel_rfl) hb5 ?_
          refine RunH.adm 2 (es' := [.c [1, 1, 1, 1, 1, 1, 1, 0], .c [1, 1, 1, 1, 1, 1, 1, 1]]) (by kernel_rfl) ?_
          refine RunH.reg (by kernel_rfl) ?_
          refine RgH.runk 1 [4] (vs := []) (evs := []) (L' := [(4, .int .i64 0)]) (by kernel_rfl) (by kernel_rfl) (fun _ _ => trivial) ?_
          refine RgH.done (by kernel_rfl) ?_
          obtain rfl := Option.some.inj heq
          exact RunH.done (by kernel_rfl) Tryd.func124 (v := .int .i64 0) (by kernel_rfl) ⟨rfl, rfl, rfl⟩
noncomputable def C123 : Ctx := { P := Tryd.prog, f := 123, N := 10, c := bodyOf Tryd.f123 }
def S123 (F : List Ch) (H0 : Hp) (r : Int) (v : Value) (H : Hp) (cs : List Ch) : Prop := H0 = H ∧ v = .int .i64 r ∧ F = cs
theorem cache_leaving_2_c {w0 : World} {H : Hp} {F : List Ch} {a0 : Blob} {a1 : Blob} {r : Int} (heq : cache_leaving_2.f a0 a1 = some r) : CallsH Tryd.prog 123 #[.agg #[.string a0.Digest, .int .i64 a0.Size, .int .i64 a0.Used, .int .i64 a0.Until, .int .i64 a0.Pins], .agg #[.string a1.Digest, .int .i64 a1.Size, .int .i64 a1.Used, .int .i64 a1.Until, .int .i64 a1.Pins]] H w0 (F) (S123 F H r) := by
  refine calls_of_runH (F := C123) Tryd.func123 (by kernel_rfl) Tryd.ntmps123 (args := [.agg #[.string a0.Digest, .int .i64 a0.Size, .int .i64 a0.Used, .int .i64 a0.Until, .int .i64 a0.Pins], .agg #[.string a1.Digest, .int .i64 a1.Size, .int .i64 a1.Used, .int .i64 a1.Until, .int .i64 a1.Pins]]) (by kernel_rfl) ?_
  unfold cache_leaving_2.f at heq
  refine RunH.adm 1 (es' := [.c [0], .c [1]]) (by kernel_rfl) ?_
  refine RunH.reg (by kernel_rfl) ?_
  refine RgH.does (DoesH.new (d := 2) (v := fun g => .pointer (some ⟨g, 0, none⟩)) (o := fun g => .cells #[.string a0.Digest, .int .i64 a0.Size, .int .i64 a0.Used, .int .i64 a0.Until, .int .i64 a0.Pins] 47 (0, 0)) (fun g => by kernel_rfl)) ?_
  rintro _ _ _ _ ⟨g1, rfl, rfl, rfl⟩
  refine RgH.does (DoesH.new (d := 3) (v := fun g => .pointer (some ⟨g, 0, none⟩)) (o := fun g => .cells #[.string a1.Digest, .int .i64 a1.Size, .int .i64 a1.Used, .int .i64 a1.Until, .int .i64 a1.Pins] 47 (0, 0)) (fun g => by kernel_rfl)) ?_
  rintro _ _ _ _ ⟨g2, rfl, rfl, rfl⟩
  refine RgH.runk 3 [2, 3] (vs := []) (evs := []) (L' := [(2, .pointer (some ⟨g1, 0, none⟩)), (3, .pointer (some ⟨g2, 0, none⟩))]) (by kernel_rfl) (by kernel_rfl) (fun _ _ => trivial) ?_
  refine RgH.done (by kernel_rfl) ?_
  refine RunH.adm 1 (es' := [.c [1, 0], .c [1, 1]]) (by kernel_rfl) ?_
  refine RunH.reg (by kernel_rfl) ?_
  refine RgH.runk 4 [6, 8] (vs := [.int .i64 a0.Used, .int .i64 a1.Used]) (evs := [.load ⟨g1, 2, none⟩ (.int .i64 a0.Used), .load ⟨g2, 2, none⟩ (.int .i64 a1.Used)]) (L' := [(6, .int .i64 a0.Used), (8, .int .i64 a1.Used)]) (by kernel_rfl) (by kernel_rfl) (fun w hh => ⟨(hh.box 1 rfl rfl), (hh.box 0 rfl rfl)⟩) ?_
  obtain ⟨y1, hy1, heq⟩ := bind_some heq
  refine RgH.does (DoesH.call (d := 9) (g := 124) (args := #[.int .i64 a0.Used, .int .i64 a1.Used]) (by kernel_rfl) (cmp_Compare_int_c (a0 := a0.Used) (a1 := a1.Used)  hy1)) ?_
  rintro _ _ _ _ ⟨_, rfl, rfl, rfl, rfl⟩
  refine RgH.runk 6 [4] (vs := []) (evs := []) (L' := [(4, .int .i64 y1)]) (by kernel_rfl) (by kernel_rfl) (fun _ _ => trivial) ?_
  refine RgH.done (by kernel_rfl) ?_
  obtain rfl := Option.some.inj heq
  refine RunH.pick 2 [] (cs' := F) (by kernel_rfl) rfl ?_
  exact RunH.done (by kernel_rfl) Tryd.func123 (v := .int .i64 y1) (by kernel_rfl) ⟨rfl, rfl, rfl⟩
noncomputable def C166 : Ctx := { P := Tryd.prog, f := 166, N := 53, c := bodyOf Tryd.f166 }
def S166 (F : List Ch) (H0 : Hp) (Aa0 : Option Addr) (ca0 : Nat) (la0 : Nat) (r : (List Blob)) (v : Value) (H : Hp) (cs : List Ch) : Prop := ∃ (ch0 : Ch), H0 = H ∧ v = .tuple #[] ∧ ch0 :: F = cs ∧ SlOwn kBlob 47 H Aa0 ca0 r ch0 ∧ la0 = r.length
theorem slices_insertionSortCmpFunc_Blob.e2_c {w0 : World} {H : Hp} {F : List Ch} {r : (List Blob)} (backl1 : Int → Int → (List Blob) → Int → Option (List Blob))
    (hbackl1 : ∀ (Aa0 : Option Addr) (ca0 : Nat) (la0 : Nat) (a1 : Int) (a2 : Int) (v_data0 : List Blob) (chv_data0 : Ch) (nv_data0 : Nat) (v_i8 : Int) , nv_data0 = v_data0.length → la0 = nv_data0 → SlOwn kBlob 47 H Aa0 ca0 v_data0 chv_data0 → backl1 a1 a2 v_data0 v_i8 = some r → RunH C166 (S166 F H Aa0 ca0 la0 r) H w0 [.c [1, 0, 0], .l [1, 0, 0], .b 0] [(0, .slice Aa0 nv_data0 ca0), (1, .int .i64 a1), (2, .int .i64 a2), (3, .func (.func 123) #[] #[]), (8, .int .i64 v_i8)] H (chv_data0 :: F)) : ∀ (Aa0 : Option Addr) (ca0 : Nat) (la0 : Nat) (a1 : Int) (a2 : Int) (v_i8 : Int) (v_data0 : List Blob) (chv_data0 : Ch) (nv_data0 : Nat) , nv_data0 = v_data0.length → la0 = nv_data0 → SlOwn kBlob 47 H Aa0 ca0 v_data0 chv_data0 → slices_insertionSortCmpFunc_Blob.e2 backl1 a1 a2 v_i8 v_data0 = some r → RunH C166 (S166 F H Aa0 ca0 la0 r) H w0 [.c [1, 0, 0, 1, 1], .l [1, 0, 0], .b 0] [(0, .slice Aa0 nv_data0 ca0), (1, .int .i64 a1), (2, .int .i64 a2), (3, .func (.func 123) #[] #[]), (8, .int .i64 v_i8)] H (chv_data0 :: F) := by
  intro Aa0 ca0 la0 a1 a2 v_i8 v_data0 chv_data0 nv_data0 hnv_data0 hlv_data0 hov_data0 heq
  subst hnv_data0
  unfold slices_insertionSortCmpFunc_Blob.e2 at heq
  refine RunH.reg (by kernel_rfl) ?_
  refine RgH.runk 3 [0, 1, 2, 3, 8] (vs := []) (evs := []) (L' := [(0, .slice Aa0 v_data0.length ca0), (1, .int .i64 a1), (2, .int .i64 a2), (3, .func (.func 123) #[] #[]), (8, .int .i64 (w64 (v_i8 + 1)))]) (by kernel_rfl) (by kernel_rfl) (fun _ _ => trivial) ?_
  refine RgH.done (by kernel_rfl) ?_
  refine RunH.adm 1 (es' := [.c [1, 0, 0], .l [1, 0, 0], .b 0]) (by kernel_rfl) ?_
  refine RunH.keep [0, 1, 2, 3, 8] (L' := [(0, .slice Aa0 v_data0.length ca0), (1, .int .i64 a1), (2, .int .i64 a2), (3, .func (.func 123) #[] #[]), (8, .int .i64 (w64 (v_i8 + 1)))]) (by kernel_rfl) ?_
  exact hbackl1 _ _ _ a1 a2 v_data0 _ _ (w64 (v_i8 + 1)) rfl hlv_data0 hov_data0 heq
theorem slices_insertionSortCmpFunc_Blob.l3_c {w0 : World} {H : Hp} {F : List Ch} {r : (List Blob)} (e2 : Int → Int → Int → (List Blob) → Option (List Blob))
    (he2 : ∀ (Aa0 : Option Addr) (ca0 : Nat) (la0 : Nat) (a1 : Int) (a2 : Int) (v_i8 : Int) (v_data0 : List Blob) (chv_data0 : Ch) (nv_data0 : Nat) , nv_data0 = v_data0.length → la0 = nv_data0 → SlOwn kBlob 47 H Aa0 ca0 v_data0 chv_data0 → e2 a1 a2 v_i8 v_data0 = some r → RunH C166 (S166 F H Aa0 ca0 la0 r) H w0 [.c [1, 0, 0, 1, 1], .l [1, 0, 0], .b 0] [(0, .slice Aa0 nv_data0 ca0), (1, .int .i64 a1), (2, .int .i64 a2), (3, .func (.func 123) #[] #[]), (8, .int .i64 v_i8)] H (chv_data0 :: F)) : ∀ (k : Nat), ∀ (Aa0 : Option Addr) (ca0 : Nat) (la0 : Nat) (a1 : Int) (a2 : Int) (v_i8 : Int) (v_data0 : List Blob) (chv_data0 : Ch) (nv_data0 : Nat) (v_j9 : Int) , nv_data0 = v_data0.length → la0 = nv_data0 → SlOwn kBlob 47 H Aa0 ca0 v_data0 chv_data0 → slices_insertionSortCmpFunc_Blob.l3 e2 k a1 a2 v_i8 v_data0 v_j9 = some r → RunH C166 (S166 F H Aa0 ca0 la0 r) H w0 [.c [1, 0, 0, 1, 0, 0, 1, 0, 0], .l [1, 0, 0, 1, 0, 0, 1, 0, 0], .b 2, .b 1, .c [1, 0, 0, 1, 1], .l [1, 0, 0], .b 0] [(0, .slice Aa0 nv_data0 ca0), (1, .int .i64 a1), (2, .int .i64 a2), (3, .func (.func 123) #[] #[]), (8, .int .i64 v_i8), (9, .int .i64 v_j9)] H (chv_data0 :: F) := by
  intro k
  induction k with
  | zero => intro Aa0 ca0 la0 a1 a2 v_i8 v_data0 chv_data0 nv_data0 v_j9 hnv_data0 hlv_data0 hov_data0 heq; exact nomatch (show (none : Option (List Blob)) = some r from heq)
  | succ k ihk =>
    intro Aa0 ca0 la0 a1 a2 v_i8 v_data0 chv_data0 nv_data0 v_j9 hnv_data0 hlv_data0 hov_data0 heq
    subst hnv_data0
    rw [slices_insertionSortCmpFunc_Blob.l3] at heq
    refine RunH.adm 2 (es' := [.c [1, 0, 0, 1, 0, 0, 1, 0, 0, 0, 0], .c [1, 0, 0, 1, 0, 0, 1, 0, 0, 0, 1], .c [1, 0, 0, 1, 0, 0, 1, 0, 0, 1], .l [1, 0, 0, 1, 0, 0, 1, 0, 0], .b 2, .b 1, .c [1, 0, 0, 1, 1], .l [1, 0, 0], .b 0]) (by kernel_rfl) ?_
    obtain ⟨t1, ht1, heq⟩ := bind_some heq
    have K5 : RunH C166 (S166 F H Aa0 ca0 la0 r) H w0 [.c [1, 0, 0, 1, 0, 0, 1, 0, 0, 0, 1], .c [1, 0, 0, 1, 0, 0, 1, 0, 0, 1], .l [1, 0, 0, 1, 0, 0, 1, 0, 0], .b 2, .b 1, .c [1, 0, 0, 1, 1], .l [1, 0, 0], .b 0] [(0, .slice Aa0 v_data0.length ca0), (1, .int .i64 a1), (2, .int .i64 a2), (3, .func (.func 123) #[] #[]), (8, .int .i64 v_i8), (9, .int .i64 v_j9), (34, .bool t1)] H (chv_data0 :: F) := by
      rcases bool_cases (t1) with hb3 | hb3
      · replace heq := bif_true hb3 heq
        refine RunH.condT (c := t1) (by kernel_rfl) hb3 ?_
        refine RunH.adm 3 (es' := [.c [1, 0, 0, 1, 0, 0, 1, 0, 0, 1, 0, 0], .b 3, .c [1, 0, 0, 1, 0, 0, 1, 0, 0, 1, 1], .l [1, 0, 0, 1, 0, 0, 1, 0, 0], .b 2, .b 1, .c [1, 0, 0, 1, 1], .l [1, 0, 0], .b 0]) (by kernel_rfl) ?_
        refine RunH.keep [0, 1, 2, 3, 8, 9] (L' := [(0, .slice Aa0 v_data0.length ca0), (1, .int .i64 a1), (2, .int .i64 a2), (3, .func (.func 123) #[] #[]), (8, .int .i64 v_i8), (9, .int .i64 v_j9)]) (by kernel_rfl) ?_
        refine RunH.draw (fun w => Heap H w0 w (chv_data0 :: F)) (fun w => Heap H w0 w (F)) [3, 3, 3, 3, 3, 3, 3, 3, 3, 3, 3, 3, 3, 3, 3, 1, 3, 2] (n := 18) (ls := [false, false, false, false, false, false, false, false, false, false, false, false, false, false, false, false, false, false]) (by kernel_rfl) (by kernel_rfl) (by kernel_rfl) rfl ?_
        refine DrH.run [0, 1] (m := 16) (ls' := [true, true, false, false, false, false, false, false, false, false, false, false, false, false, false, false, false, false]) (vs := []) (evs := []) (L' := [(38, .int .i64 v_j9), (37, .slice Aa0 v_data0.length ca0), (0, .slice Aa0 v_data0.length ca0), (1, .int .i64 a1), (2, .int .i64 a2), (3, .func (.func 123) #[] #[]), (8, .int .i64 v_i8), (9, .int .i64 v_j9)]) (by kernel_rfl) (fun w hh => hh.pick 1 [0] (by kernel_rfl)) (fun w hh => hh.pick 1 [] (by kernel_rfl)) (by kernel_rfl) (fun _ _ => trivial) (by kernel_rfl) ?_
        refine DrH.keep [0, 1, 2, 3, 8, 9, 37, 38] (L' := [(0, .slice Aa0 v_data0.length ca0), (1, .int .i64 a1), (2, .int .i64 a2), (3, .func (.func 123) #[] #[]), (8, .int .i64 v_i8), (9, .int .i64 v_j9), (37, .slice Aa0 v_data0.length ca0), (38, .int .i64 v_j9)]) (by kernel_rfl) ?_
        refine DrH.run2 [2, 3, 4] (m := 13) (ls' := [true, true, true, true, true, false, false, false, false, false, false, false, false, false, false, false, false, false]) (vs := []) (evs := []) (L' := [(41, .int .i64 (w64 (v_j9 - 1))), (40, .int .i64 v_j9), (39, .slice Aa0 v_data0.length ca0), (0, .slice Aa0 v_data0.length ca0), (1, .int .i64 a1), (2, .int .i64 a2), (3, .func (.func 123) #[] #[]), (8, .int .i64 v_i8), (9, .int .i64 v_j9), (37, .slice Aa0 v_data0.length ca0), (38, .int .i64 v_j9)]) (by kernel_rfl) (fun w hh => hh.pick 1 [] (by kernel_rfl)) (by kernel_rfl) (fun _ _ => trivial) (by kernel_rfl) ?_
        refine DrH.keep [0, 1, 2, 3, 8, 9, 37, 38, 39, 41] (L' := [(0, .slice Aa0 v_data0.length ca0), (1, .int .i64 a1), (2, .int .i64 a2), (3, .func (.func 123) #[] #[]), (8, .int .i64 v_i8), (9, .int .i64 v_j9), (37, .slice Aa0 v_data0.length ca0), (38, .int .i64 v_j9), (39, .slice Aa0 v_data0.length ca0), (41, .int .i64 (w64 (v_j9 - 1)))]) (by kernel_rfl) ?_
        obtain ⟨x3, hx3, heq⟩ := bind_some heq
        obtain ⟨ha3, cs3, hK3, hcc3⟩ := hov_data0.get hx3
        obtain ⟨rfl⟩ := kBlob_open hK3
        refine DrH.run [5, 6, 7, 8, 9] (m := 8) (ls' := [true, true, true, true, true, true, true, true, true, true, false, false, false, false, false, false, false, false]) (vs := [.string x3.Digest, .int .i64 x3.Size, .int .i64 x3.Used, .int .i64 x3.Until, .int .i64 x3.Pins]) (evs := [.need (Aa0 = some (adr Aa0) ∧ (0 : Int) ≤ (w64 (v_j9 - 1)) ∧ (w64 (v_j9 - 1)) < ((v_data0.length : Nat) : Int)), .load (((adr Aa0).add ((w64 (v_j9 - 1)).toNat * 5)).add 0) (.string x3.Digest), .load (((adr Aa0).add ((w64 (v_j9 - 1)).toNat * 5)).add 1) (.int .i64 x3.Size), .load (((adr Aa0).add ((w64 (v_j9 - 1)).toNat * 5)).add 2) (.int .i64 x3.Used), .load (((adr Aa0).add ((w64 (v_j9 - 1)).toNat * 5)).add 3) (.int .i64 x3.Until), .load (((adr Aa0).add ((w64 (v_j9 - 1)).toNat * 5)).add 4) (.int .i64 x3.Pins)]) (L' := [(46, .agg #[.string x3.Digest, .int .i64 x3.Size, .int .i64 x3.Used, .int .i64 x3.Until, .int .i64 x3.Pins]), (45, .pointer (some ((adr Aa0).add ((w64 (v_j9 - 1)).toNat * 5)))), (44, .int .i64 (w64 (v_j9 - 1))), (43, .int .i64 v_j9), (42, .slice Aa0 v_data0.length ca0), (0, .slice Aa0 v_data0.length ca0), (1, .int .i64 a1), (2, .int .i64 a2), (3, .func (.func 123) #[] #[]), (8, .int .i64 v_i8), (9, .int .i64 v_j9), (37, .slice Aa0 v_data0.length ca0), (38, .int .i64 v_j9), (39, .slice Aa0 v_data0.length ca0), (41, .int .i64 (w64 (v_j9 - 1)))]) (by kernel_rfl) (fun w hh => hh.pick 1 [0] (by kernel_rfl)) (fun w hh => hh.pick 1 [] (by kernel_rfl)) (by kernel_rfl) (fun w hh => ⟨⟨ha3, (at?_some hx3).1, (at?_some hx3).2.1⟩, (hcc3 _ (hh.chin 0 rfl) 0 _ rfl), (hcc3 _ (hh.chin 0 rfl) 1 _ rfl), (hcc3 _ (hh.chin 0 rfl) 2 _ rfl), (hcc3 _ (hh.chin 0 rfl) 3 _ rfl), (hcc3 _ (hh.chin 0 rfl) 4 _ rfl)⟩) (by kernel_rfl) ?_
        refine DrH.keep [0, 1, 2, 3, 8, 9, 37, 38, 39, 41, 46] (L' := [(0, .slice Aa0 v_data0.length ca0), (1, .int .i64 a1), (2, .int .i64 a2), (3, .func (.func 123) #[] #[]), (8, .int .i64 v_i8), (9, .int .i64 v_j9), (37, .slice Aa0 v_data0.length ca0), (38, .int .i64 v_j9), (39, .slice Aa0 v_data0.length ca0), (41, .int .i64 (w64 (v_j9 - 1))), (46, .agg #[.string x3.Digest, .int .i64 x3.Size, .int .i64 x3.Used, .int .i64 x3.Until, .int .i64 x3.Pins])]) (by kernel_rfl) ?_
        obtain ⟨x4, hx4, heq⟩ := bind_some heq
        obtain ⟨ha4, cs4, hK4, hcc4⟩ := hov_data0.get hx4
        obtain ⟨rfl⟩ := kBlob_open hK4
        refine DrH.run2 [10, 11, 12] (m := 5) (ls' := [true, true, true, true, true, true, true, true, true, true, true, true, true, false, false, false, false, false]) (vs := []) (evs := [.need (Aa0 = some (adr Aa0) ∧ (0 : Int) ≤ v_j9 ∧ v_j9 < ((v_data0.length : Nat) : Int))]) (L' := [(49, .pointer (some ((adr Aa0).add (v_j9.toNat * 5)))), (48, .int .i64 v_j9), (47, .slice Aa0 v_data0.length ca0), (0, .slice Aa0 v_data0.length ca0), (1, .int .i64 a1), (2, .int .i64 a2), (3, .func (.func 123) #[] #[]), (8, .int .i64 v_i8), (9, .int .i64 v_j9), (37, .slice Aa0 v_data0.length ca0), (38, .int .i64 v_j9), (39, .slice Aa0 v_data0.length ca0), (41, .int .i64 (w64 (v_j9 - 1))), (46, .agg #[.string x3.Digest, .int .i64 x3.Size, .int .i64 x3.Used, .int .i64 x3.Until, .int .i64 x3.Pins])]) (by kernel_rfl) (fun w hh => hh.pick 1 [] (by kernel_rfl)) (by kernel_rfl) (fun w hh => ⟨ha4, (at?_some hx4).1, (at?_some hx4).2.1⟩) (by kernel_rfl) ?_
        refine DrH.keep [0, 1, 2, 3, 8, 9, 37, 38, 39, 41, 46, 49] (L' := [(0, .slice Aa0 v_data0.length ca0), (1, .int .i64 a1), (2, .int .i64 a2), (3, .func (.func 123) #[] #[]), (8, .int .i64 v_i8), (9, .int .i64 v_j9), (37, .slice Aa0 v_data0.length ca0), (38, .int .i64 v_j9), (39, .slice Aa0 v_data0.length ca0), (41, .int .i64 (w64 (v_j9 - 1))), (46, .agg #[.string x3.Digest, .int .i64 x3.Size, .int .i64 x3.Used, .int .i64 x3.Until, .int .i64 x3.Pins]), (49, .pointer (some ((adr Aa0).add (v_j9.toNat * 5))))]) (by kernel_rfl) ?_
        obtain ⟨ha5, cs5, hK5, hcc5⟩ := hov_data0.get hx4
        obtain ⟨rfl⟩ := kBlob_open hK5
        refine DrH.run [13, 14] (m := 3) (ls' := [true, true, true, true, true, true, true, true, true, true, true, true, true, true, true, false, false, false]) (vs := [.string x4.Digest, .int .i64 x4.Size, .int .i64 x4.Used, .int .i64 x4.Until, .int .i64 x4.Pins]) (evs := [.load (((adr Aa0).add (v_j9.toNat * 5)).add 0) (.string x4.Digest), .load (((adr Aa0).add (v_j9.toNat * 5)).add 1) (.int .i64 x4.Size), .load (((adr Aa0).add (v_j9.toNat * 5)).add 2) (.int .i64 x4.Used), .load (((adr Aa0).add (v_j9.toNat * 5)).add 3) (.int .i64 x4.Until), .load (((adr Aa0).add (v_j9.toNat * 5)).add 4) (.int .i64 x4.Pins), .need (Aa0 = some (adr Aa0) ∧ (0 : Int) ≤ v_j9 ∧ v_j9 < ((v_data0.length : Nat) : Int))]) (L' := [(51, .pointer (some ((adr Aa0).add (v_j9.toNat * 5)))), (50, .agg #[.string x4.Digest, .int .i64 x4.Size, .int .i64 x4.Used, .int .i64 x4.Until, .int .i64 x4.Pins]), (0, .slice Aa0 v_data0.length ca0), (1, .int .i64 a1), (2, .int .i64 a2), (3, .func (.func 123) #[] #[]), (8, .int .i64 v_i8), (9, .int .i64 v_j9), (37, .slice Aa0 v_data0.length ca0), (38, .int .i64 v_j9), (39, .slice Aa0 v_data0.length ca0), (41, .int .i64 (w64 (v_j9 - 1))), (46, .agg #[.string x3.Digest, .int .i64 x3.Size, .int .i64 x3.Used, .int .i64 x3.Until, .int .i64 x3.Pins]), (49, .pointer (some ((adr Aa0).add (v_j9.toNat * 5))))]) (by kernel_rfl) (fun w hh => hh.pick 1 [0] (by kernel_rfl)) (fun w hh => hh.pick 1 [] (by kernel_rfl)) (by kernel_rfl) (fun w hh => ⟨(hcc5 _ (hh.chin 0 rfl) 0 _ rfl), (hcc5 _ (hh.chin 0 rfl) 1 _ rfl), (hcc5 _ (hh.chin 0 rfl) 2 _ rfl), (hcc5 _ (hh.chin 0 rfl) 3 _ rfl), (hcc5 _ (hh.chin 0 rfl) 4 _ rfl), ⟨ha5, (at?_some hx4).1, (at?_some hx4).2.1⟩⟩) (by kernel_rfl) ?_
        refine DrH.keep [0, 1, 2, 3, 8, 9, 39, 41, 46, 50, 51] (L' := [(0, .slice Aa0 v_data0.length ca0), (1, .int .i64 a1), (2, .int .i64 a2), (3, .func (.func 123) #[] #[]), (8, .int .i64 v_i8), (9, .int .i64 v_j9), (39, .slice Aa0 v_data0.length ca0), (41, .int .i64 (w64 (v_j9 - 1))), (46, .agg #[.string x3.Digest, .int .i64 x3.Size, .int .i64 x3.Used, .int .i64 x3.Until, .int .i64 x3.Pins]), (50, .agg #[.string x4.Digest, .int .i64 x4.Size, .int .i64 x4.Used, .int .i64 x4.Until, .int .i64 x4.Pins]), (51, .pointer (some ((adr Aa0).add (v_j9.toNat * 5))))]) (by kernel_rfl) ?_
        obtain ⟨ha6, cs6, hK6, hcc6⟩ := hov_data0.get hx4
        obtain ⟨rfl⟩ := kBlob_open hK6
        refine DrH.does (n := 2) (ls' := [true, true, true, true, true, true, true, true, true, true, true, true, true, true, true, true, false, false]) 15 (by kernel_rfl) rfl (DoesH.storeEl (a := ((adr Aa0).add (v_j9.toNat * 5))) (k := 0) (kd := kBlob) (c0 := [.string x4.Digest, .int .i64 x4.Size, .int .i64 x4.Used, .int .i64 x4.Until, .int .i64 x4.Pins]) (x' := x3) (o := 0) (ix := v_j9) (v := .agg #[.string x3.Digest, .int .i64 x3.Size, .int .i64 x3.Used, .int .i64 x3.Until, .int .i64 x3.Pins]) (by kernel_rfl) rfl hov_data0 hx4 (by kernel_rfl) hcc6 rfl (Nat.le_of_ble_eq_true (by kernel_rfl)) kBlob_mk) ?_
        rintro _ _ _ _ ⟨ch1, rfl, rfl, rfl, ho1⟩
        have hn1 : v_data0.length = (v_data0.set v_j9.toNat x3).length := by rw [List.length_set]
        refine ⟨fun _ w hh => ⟨(fun h => by cases h), fun _ => (fun w hh => hh.pick 1 [] (by kernel_rfl)) w hh, (fun h => by cases h)⟩, ?_⟩
        obtain ⟨x5, hx5, heq⟩ := bind_some heq
        obtain ⟨ha7, cs7, hK7, hcc7⟩ := ho1.get hx5
        obtain ⟨rfl⟩ := kBlob_open hK7
        refine DrH.run2 [16] (m := 1) (ls' := [true, true, true, true, true, true, true, true, true, true, true, true, true, true, true, true, true, false]) (vs := []) (evs := [.need (Aa0 = some (adr Aa0) ∧ (0 : Int) ≤ (w64 (v_j9 - 1)) ∧ (w64 (v_j9 - 1)) < ((v_data0.length : Nat) : Int))]) (L' := [(52, .pointer (some ((adr Aa0).add ((w64 (v_j9 - 1)).toNat * 5)))), (0, .slice Aa0 v_data0.length ca0), (1, .int .i64 a1), (2, .int .i64 a2), (3, .func (.func 123) #[] #[]), (8, .int .i64 v_i8), (9, .int .i64 v_j9), (39, .slice Aa0 v_data0.length ca0), (41, .int .i64 (w64 (v_j9 - 1))), (46, .agg #[.string x3.Digest, .int .i64 x3.Size, .int .i64 x3.Used, .int .i64 x3.Until, .int .i64 x3.Pins]), (50, .agg #[.string x4.Digest, .int .i64 x4.Size, .int .i64 x4.Used, .int .i64 x4.Until, .int .i64 x4.Pins]), (51, .pointer (some ((adr Aa0).add (v_j9.toNat * 5))))]) (by kernel_rfl) (fun w hh => hh.pick 1 [] (by kernel_rfl)) (by kernel_rfl) (fun w hh => ⟨ha7, (at?_some hx5).1, (by have := (at?_some hx5).2.1; have := hn1; omega)⟩) (by kernel_rfl) ?_
        refine DrH.keep [0, 1, 2, 3, 8, 9, 50, 52] (L' := [(0, .slice Aa0 v_data0.length ca0), (1, .int .i64 a1), (2, .int .i64 a2), (3, .func (.func 123) #[] #[]), (8, .int .i64 v_i8), (9, .int .i64 v_j9), (50, .agg #[.string x4.Digest, .int .i64 x4.Size, .int .i64 x4.Used, .int .i64 x4.Until, .int .i64 x4.Pins]), (52, .pointer (some ((adr Aa0).add ((w64 (v_j9 - 1)).toNat * 5))))]) (by kernel_rfl) ?_
        obtain ⟨ha8, cs8, hK8, hcc8⟩ := ho1.get hx5
        obtain ⟨rfl⟩ := kBlob_open hK8
        refine DrH.does (n := 0) (ls' := [true, true, true, true, true, true, true, true, true, true, true, true, true, true, true, true, true, true]) 17 (by kernel_rfl) rfl (DoesH.storeEl (a := ((adr Aa0).add ((w64 (v_j9 - 1)).toNat * 5))) (k := 0) (kd := kBlob) (c0 := [.string x5.Digest, .int .i64 x5.Size, .int .i64 x5.Used, .int .i64 x5.Until, .int .i64 x5.Pins]) (x' := x4) (o := 0) (ix := (w64 (v_j9 - 1))) (v := .agg #[.string x4.Digest, .int .i64 x4.Size, .int .i64 x4.Used, .int .i64 x4.Until, .int .i64 x4.Pins]) (by kernel_rfl) rfl ho1 hx5 (by kernel_rfl) hcc8 rfl (Nat.le_of_ble_eq_true (by kernel_rfl)) kBlob_mk) ?_
        rintro _ _ _ _ ⟨ch2, rfl, rfl, rfl, ho2⟩
        have hn2 : v_data0.length = ((v_data0.set v_j9.toNat x3).set (w64 (v_j9 - 1)).toNat x4).length := by rw [List.length_set]; exact hn1
        refine ⟨fun _ w hh => ⟨(fun h => by cases h), (fun h => absurd h (by decide)), (fun h => by cases h)⟩, ?_⟩
        refine DrH.keep [0, 1, 2, 3, 8, 9] (L' := [(0, .slice Aa0 v_data0.length ca0), (1, .int .i64 a1), (2, .int .i64 a2), (3, .func (.func 123) #[] #[]), (8, .int .i64 v_i8), (9, .int .i64 v_j9)]) (by kernel_rfl) ?_
        refine DrH.done (by kernel_rfl) ?_
        refine RunH.adm 1 (es' := [.c [1, 0, 0, 1, 0, 0, 1, 0, 0, 1, 1], .l [1, 0, 0, 1, 0, 0, 1, 0, 0], .b 2, .b 1, .c [1, 0, 0, 1, 1], .l [1, 0, 0], .b 0]) (by kernel_rfl) ?_
        refine RunH.reg (by kernel_rfl) ?_
        refine RgH.runk 3 [0, 1, 2, 3, 8, 9] (vs := []) (evs := []) (L' := [(0, .slice Aa0 v_data0.length ca0), (1, .int .i64 a1), (2, .int .i64 a2), (3, .func (.func 123) #[] #[]), (8, .int .i64 v_i8), (9, .int .i64 (w64 (v_j9 - 1)))]) (by kernel_rfl) (by kernel_rfl) (fun _ _ => trivial) ?_
        refine RgH.done (by kernel_rfl) ?_
        refine RunH.adm 1 (es' := [.c [1, 0, 0, 1, 0, 0, 1, 0, 0], .l [1, 0, 0, 1, 0, 0, 1, 0, 0], .b 2, .b 1, .c [1, 0, 0, 1, 1], .l [1, 0, 0], .b 0]) (by kernel_rfl) ?_
        refine RunH.keep [0, 1, 2, 3, 8, 9] (L' := [(0, .slice Aa0 v_data0.length ca0), (1, .int .i64 a1), (2, .int .i64 a2), (3, .func (.func 123) #[] #[]), (8, .int .i64 v_i8), (9, .int .i64 (w64 (v_j9 - 1)))]) (by kernel_rfl) ?_
        exact ihk _ _ _ a1 a2 v_i8 ((v_data0.set v_j9.toNat x3).set (w64 (v_j9 - 1)).toNat x4) _ _ (w64 (v_j9 - 1)) hn2 hlv_data0 ho2 heq
      · replace heq := bif_false hb3 heq
        refine RunH.condF (c := t1) (by kernel_rfl) hb3 ?_
        refine RunH.adm 2 (es' := [.c [1, 0, 0, 1, 1], .l [1, 0, 0], .b 0]) (by kernel_rfl) ?_
        refine RunH.keep [0, 1, 2, 3, 8] (L' := [(0, .slice Aa0 v_data0.length ca0), (1, .int .i64 a1), (2, .int .i64 a2), (3, .func (.func 123) #[] #[]), (8, .int .i64 v_i8)]) (by kernel_rfl) ?_
        exact he2 _ _ _ a1 a2 v_i8 v_data0 _ _ rfl hlv_data0 hov_data0 heq
    replace heq := ht1
    refine RunH.keep [0, 1, 2, 3, 8, 9] (L' := [(0, .slice Aa0 v_data0.length ca0), (1, .int .i64 a1), (2, .int .i64 a2), (3, .func (.func 123) #[] #[]), (8, .int .i64 v_i8), (9, .int .i64 v_j9)]) (by kernel_rfl) ?_
    refine RunH.draw (fun w => Heap H w0 w (chv_data0 :: F)) (fun w => Heap H w0 w (chv_data0 :: F)) [3, 3, 3, 3, 3, 3, 3, 3, 3, 3, 3, 3, 3, 3, 0, 3, 3] (n := 17) (ls := [false, false, false, false, false, false, false, false, false, false, false, false, false, false, false, false, false]) (by kernel_rfl) (by kernel_rfl) (by kernel_rfl) rfl ?_
    refine DrH.run [0, 1, 2, 3] (m := 13) (ls' := [true, true, true, true, false, false, false, false, false, false, false, false, false, false, false, false, false]) (vs := []) (evs := []) (L' := [(21, .bool (decide (a1 < v_j9))), (20, .bool (decide (a1 < v_j9))), (19, .int .i64 a1), (18, .int .i64 v_j9), (0, .slice Aa0 v_data0.length ca0), (1, .int .i64 a1), (2, .int .i64 a2), (3, .func (.func 123) #[] #[]), (8, .int .i64 v_i8), (9, .int .i64 v_j9)]) (by kernel_rfl) (fun w hh => hh.pick 1 [0] (by kernel_rfl)) (fun w hh => hh.pick 1 [0] (by kernel_rfl)) (by kernel_rfl) (fun _ _ => trivial) (by kernel_rfl) ?_
    refine DrH.keep [21, 0, 1, 2, 3, 8, 9] (L' := [(21, .bool (decide (a1 < v_j9))), (0, .slice Aa0 v_data0.length ca0), (1, .int .i64 a1), (2, .int .i64 a2), (3, .func (.func 123) #[] #[]), (8, .int .i64 v_i8), (9, .int .i64 v_j9)]) (by kernel_rfl) ?_
    rcases bool_cases (decide (a1 < v_j9)) with hb2 | hb2
    · replace heq := bif_true hb2 heq
      refine DrH.val1 (v' := .bool true) (congrArg Value.bool hb2) ?_
      obtain ⟨x1, hx1, heq⟩ := bind_some heq
      obtain ⟨ha1, cs1, hK1, hcc1⟩ := hov_data0.get hx1
      obtain ⟨rfl⟩ := kBlob_open hK1
      obtain ⟨x2, hx2, heq⟩ := bind_some heq
      obtain ⟨ha2, cs2, hK2, hcc2⟩ := hov_data0.get hx2
      obtain ⟨rfl⟩ := kBlob_open hK2
      refine DrH.run [4, 5, 6, 7, 8, 9, 10, 11, 12, 13] (m := 3) (ls' := [true, true, true, true, true, true, true, true, true, true, true, true, true, true, false, false, false]) (vs := [.string x1.Digest, .int .i64 x1.Size, .int .i64 x1.Used, .int .i64 x1.Until, .int .i64 x1.Pins, .string x2.Digest, .int .i64 x2.Size, .int .i64 x2.Used, .int .i64 x2.Until, .int .i64 x2.Pins]) (evs := [.need (Aa0 = some (adr Aa0) ∧ (0 : Int) ≤ v_j9 ∧ v_j9 < ((v_data0.length : Nat) : Int)), .load (((adr Aa0).add (v_j9.toNat * 5)).add 0) (.string x1.Digest), .load (((adr Aa0).add (v_j9.toNat * 5)).add 1) (.int .i64 x1.Size), .load (((adr Aa0).add (v_j9.toNat * 5)).add 2) (.int .i64 x1.Used), .load (((adr Aa0).add (v_j9.toNat * 5)).add 3) (.int .i64 x1.Until), .load (((adr Aa0).add (v_j9.toNat * 5)).add 4) (.int .i64 x1.Pins), .need (Aa0 = some (adr Aa0) ∧ (0 : Int) ≤ (w64 (v_j9 - 1)) ∧ (w64 (v_j9 - 1)) < ((v_data0.length : Nat) : Int)), .load (((adr Aa0).add ((w64 (v_j9 - 1)).toNat * 5)).add 0) (.string x2.Digest), .load (((adr Aa0).add ((w64 (v_j9 - 1)).toNat * 5)).add 1) (.int .i64 x2.Size), .load (((adr Aa0).add ((w64 (v_j9 - 1)).toNat * 5)).add 2) (.int .i64 x2.Used), .load (((adr Aa0).add ((w64 (v_j9 - 1)).toNat * 5)).add 3) (.int .i64 x2.Until), .load (((adr Aa0).add ((w64 (v_j9 - 1)).toNat * 5)).add 4) (.int .i64 x2.Pins)]) (L' := [(31, .agg #[.string x2.Digest, .int .i64 x2.Size, .int .i64 x2.Used, .int .i64 x2.Until, .int .i64 x2.Pins]), (30, .pointer (some ((adr Aa0).add ((w64 (v_j9 - 1)).toNat * 5)))), (29, .int .i64 (w64 (v_j9 - 1))), (28, .int .i64 v_j9), (27, .slice Aa0 v_data0.length ca0), (26, .agg #[.string x1.Digest, .int .i64 x1.Size, .int .i64 x1.Used, .int .i64 x1.Until, .int .i64 x1.Pins]), (25, .pointer (some ((adr Aa0).add (v_j9.toNat * 5)))), (24, .int .i64 v_j9), (23, .slice Aa0 v_data0.length ca0), (22, .func (.func 123) #[] #[]), (21, .bool true), (0, .slice Aa0 v_data0.length ca0), (1, .int .i64 a1), (2, .int .i64 a2), (3, .func (.func 123) #[] #[]), (8, .int .i64 v_i8), (9, .int .i64 v_j9)]) (by kernel_rfl) (fun w hh => hh.pick 1 [0] (by kernel_rfl)) (fun w hh => hh.pick 1 [0] (by kernel_rfl)) (by kernel_rfl) (fun w hh => ⟨⟨ha1, (at?_some hx1).1, (at?_some hx1).2.1⟩, (hcc1 _ (hh.chin 0 rfl) 0 _ rfl), (hcc1 _ (hh.chin 0 rfl) 1 _ rfl), (hcc1 _ (hh.chin 0 rfl) 2 _ rfl), (hcc1 _ (hh.chin 0 rfl) 3 _ rfl), (hcc1 _ (hh.chin 0 rfl) 4 _ rfl), ⟨ha2, (at?_some hx2).1, (at?_some hx2).2.1⟩, (hcc2 _ (hh.chin 0 rfl) 0 _ rfl), (hcc2 _ (hh.chin 0 rfl) 1 _ rfl), (hcc2 _ (hh.chin 0 rfl) 2 _ rfl), (hcc2 _ (hh.chin 0 rfl) 3 _ rfl), (hcc2 _ (hh.chin 0 rfl) 4 _ rfl)⟩) (by kernel_rfl) ?_
      refine DrH.keep [0, 1, 2, 3, 8, 9, 21, 22, 26, 31] (L' := [(0, .slice Aa0 v_data0.length ca0), (1, .int .i64 a1), (2, .int .i64 a2), (3, .func (.func 123) #[] #[]), (8, .int .i64 v_i8), (9, .int .i64 v_j9), (21, .bool true), (22, .func (.func 123) #[] #[]), (26, .agg #[.string x1.Digest, .int .i64 x1.Size, .int .i64 x1.Used, .int .i64 x1.Until, .int .i64 x1.Pins]), (31, .agg #[.string x2.Digest, .int .i64 x2.Size, .int .i64 x2.Used, .int .i64 x2.Until, .int .i64 x2.Pins])]) (by kernel_rfl) ?_
      obtain ⟨y1, hy1, heq⟩ := bind_some heq
      refine DrH.does (n := 2) (ls' := [true, true, true, true, true, true, true, true, true, true, true, true, true, true, true, false, false]) 14 (by kernel_rfl) rfl (DoesH.call (d := 32) (g := 123) (args := #[.agg #[.string x1.Digest, .int .i64 x1.Size, .int .i64 x1.Used, .int .i64 x1.Until, .int .i64 x1.Pins], .agg #[.string x2.Digest, .int .i64 x2.Size, .int .i64 x2.Used, .int .i64 x2.Until, .int .i64 x2.Pins]]) (by kernel_rfl) (cache_leaving_2_c (a0 := x1) (a1 := x2)  hy1)) ?_
      rintro _ _ _ _ ⟨_, rfl, rfl, rfl, rfl⟩
      refine ⟨fun _ w hh => ⟨fun _ => (fun w hh => hh.pick 1 [0] (by kernel_rfl)) w hh, fun _ => (fun w hh => hh.pick 1 [0] (by kernel_rfl)) w hh, (fun h => by cases h)⟩, ?_⟩
      refine DrH.run [15, 16] (m := 0) (ls' := [true, true, true, true, true, true, true, true, true, true, true, true, true, true, true, true, true]) (vs := []) (evs := []) (L' := [(34, .bool (decide (y1 < 0))), (33, .bool (decide (y1 < 0))), (32, .int .i64 y1), (0, .slice Aa0 v_data0.length ca0), (1, .int .i64 a1), (2, .int .i64 a2), (3, .func (.func 123) #[] #[]), (8, .int .i64 v_i8), (9, .int .i64 v_j9), (21, .bool true), (22, .func (.func 123) #[] #[]), (26, .agg #[.string x1.Digest, .int .i64 x1.Size, .int .i64 x1.Used, .int .i64 x1.Until, .int .i64 x1.Pins]), (31, .agg #[.string x2.Digest, .int .i64 x2.Size, .int .i64 x2.Used, .int .i64 x2.Until, .int .i64 x2.Pins])]) (by kernel_rfl) (fun w hh => hh.pick 1 [0] (by kernel_rfl)) (fun w hh => hh.pick 1 [0] (by kernel_rfl)) (by kernel_rfl) (fun _ _ => trivial) (by kernel_rfl) ?_
      refine DrH.keep [0, 1, 2, 3, 8, 9, 34] (L' := [(0, .slice Aa0 v_data0.length ca0), (1, .int .i64 a1), (2, .int .i64 a2), (3, .func (.func 123) #[] #[]), (8, .int .i64 v_i8), (9, .int .i64 v_j9), (34, .bool (decide (y1 < 0)))]) (by kernel_rfl) ?_
      obtain rfl := Option.some.inj heq
      refine DrH.keep [0, 1, 2, 3, 8, 9, 34] (L' := [(0, .slice Aa0 v_data0.length ca0), (1, .int .i64 a1), (2, .int .i64 a2), (3, .func (.func 123) #[] #[]), (8, .int .i64 v_i8), (9, .int .i64 v_j9), (34, .bool (decide (y1 < 0)))]) (by kernel_rfl) ?_
      refine DrH.done (by kernel_rfl) ?_
      exact K5
    · replace heq := bif_false hb2 heq
      refine DrH.val1 (v' := .bool false) (congrArg Value.bool hb2) ?_
      refine DrH.run [4, 5, 6, 7, 8, 9, 10, 11, 12, 13, 14, 15, 16] (m := 0) (ls' := [true, true, true, true, true, true, true, true, true, true, true, true, true, true, true, true, true]) (vs := []) (evs := []) (L' := [(34, .bool false), (33, undef), (32, undef), (31, undef), (30, undef), (29, undef), (28, undef), (27, undef), (26, undef), (25, undef), (24, undef), (23, undef), (22, undef), (21, .bool false), (0, .slice Aa0 v_data0.length ca0), (1, .int .i64 a1), (2, .int .i64 a2), (3, .func (.func 123) #[] #[]), (8, .int .i64 v_i8), (9, .int .i64 v_j9)]) (by kernel_rfl) (fun w hh => hh.pick 1 [0] (by kernel_rfl)) (fun w hh => hh.pick 1 [0] (by kernel_rfl)) (by kernel_rfl) (fun _ _ => trivial) (by kernel_rfl) ?_
      refine DrH.keep [0, 1, 2, 3, 8, 9, 34] (L' := [(0, .slice Aa0 v_data0.length ca0), (1, .int .i64 a1), (2, .int .i64 a2), (3, .func (.func 123) #[] #[]), (8, .int .i64 v_i8), (9, .int .i64 v_j9), (34, .bool false)]) (by kernel_rfl) ?_
      obtain rfl := Option.some.inj heq
      refine DrH.keep [0, 1, 2, 3, 8, 9, 34] (L' := [(0, .slice Aa0 v_data0.length ca0), (1, .int .i64 a1), (2, .int .i64 a2), (3, .func (.func 123) #[] #[]), (8, .int .i64 v_i8), (9, .int .i64 v_j9), (34, .bool false)]) (by kernel_rfl) ?_
      refine DrH.done (by kernel_rfl) ?_
      exact K5
theorem slices_insertionSortCmpFunc_Blob.l1_c {w0 : World} {H : Hp} {F : List Ch} {r : (List Blob)} : ∀ (k : Nat), ∀ (Aa0 : Option Addr) (ca0 : Nat) (la0 : Nat) (a1 : Int) (a2 : Int) (v_data0 : List Blob) (chv_data0 : Ch) (nv_data0 : Nat) (v_i8 : Int) , nv_data0 = v_data0.length → la0 = nv_data0 → SlOwn kBlob 47 H Aa0 ca0 v_data0 chv_data0 → slices_insertionSortCmpFunc_Blob.l1 k a1 a2 v_data0 v_i8 = some r → RunH C166 (S166 F H Aa0 ca0 la0 r) H w0 [.c [1, 0, 0], .l [1, 0, 0], .b 0] [(0, .slice Aa0 nv_data0 ca0), (1, .int .i64 a1), (2, .int .i64 a2), (3, .func (.func 123) #[] #[]), (8, .int .i64 v_i8)] H (chv_data0 :: F) := by
  intro k
  induction k with
  | zero => intro Aa0 ca0 la0 a1 a2 v_data0 chv_data0 nv_data0 v_i8 hnv_data0 hlv_data0 hov_data0 heq; exact nomatch (show (none : Option (List Blob)) = some r from heq)
  | succ k ihk =>
    intro Aa0 ca0 la0 a1 a2 v_data0 chv_data0 nv_data0 v_i8 hnv_data0 hlv_data0 hov_data0 heq
    subst hnv_data0
    rw [slices_insertionSortCmpFunc_Blob.l1] at heq
    refine RunH.adm 2 (es' := [.c [1, 0, 0, 0, 0], .c [1, 0, 0, 0, 1], .c [1, 0, 0, 1], .l [1, 0, 0], .b 0]) (by kernel_rfl) ?_
    refine RunH.reg (by kernel_rfl) ?_
    refine RgH.runk 3 [0, 1, 2, 3, 8, 14] (vs := []) (evs := []) (L' := [(0, .slice Aa0 v_data0.length ca0), (1, .int .i64 a1), (2, .int .i64 a2), (3, .func (.func 123) #[] #[]), (8, .int .i64 v_i8), (14, .bool (decide (v_i8 < a2)))]) (by kernel_rfl) (by kernel_rfl) (fun _ _ => trivial) ?_
    refine RgH.done (by kernel_rfl) ?_
    rcases bool_cases (decide (v_i8 < a2)) with hb1 | hb1
    · replace heq := bif_true hb1 heq
      refine RunH.condT (c := decide (v_i8 < a2)) (by kernel_rfl) hb1 ?_
      refine RunH.adm 4 (es' := [.c [1, 0, 0, 1, 0, 0, 0], .c [1, 0, 0, 1, 0, 0, 1], .b 1, .c [1, 0, 0, 1, 1], .l [1, 0, 0], .b 0]) (by kernel_rfl) ?_
      refine RunH.reg (by kernel_rfl) ?_
      refine RgH.runk 2 [0, 1, 2, 3, 8, 9] (vs := []) (evs := []) (L' := [(0, .slice Aa0 v_data0.length ca0), (1, .int .i64 a1), (2, .int .i64 a2), (3, .func (.func 123) #[] #[]), (8, .int .i64 v_i8), (9, .int .i64 v_i8)]) (by kernel_rfl) (by kernel_rfl) (fun _ _ => trivial) ?_
      refine RgH.done (by kernel_rfl) ?_
      refine RunH.adm 2 (es' := [.c [1, 0, 0, 1, 0, 0, 1, 0, 0], .l [1, 0, 0, 1, 0, 0, 1, 0, 0], .b 2, .b 1, .c [1, 0, 0, 1, 1], .l [1, 0, 0], .b 0]) (by kernel_rfl) ?_
      refine RunH.keep [0, 1, 2, 3, 8, 9] (L' := [(0, .slice Aa0 v_data0.length ca0), (1, .int .i64 a1), (2, .int .i64 a2), (3, .func (.func 123) #[] #[]), (8, .int .i64 v_i8), (9, .int .i64 v_i8)]) (by kernel_rfl) ?_
      exact ((slices_insertionSortCmpFunc_Blob.l3_c (e2 := slices_insertionSortCmpFunc_Blob.e2 ((slices_insertionSortCmpFunc_Blob.l1 k))) (slices_insertionSortCmpFunc_Blob.e2_c (backl1 := (slices_insertionSortCmpFunc_Blob.l1 k)) ihk)) big) _ _ _ a1 a2 v_i8 v_data0 _ _ v_i8 rfl hlv_data0 hov_data0 heq
    · replace heq := bif_false hb1 heq
      refine RunH.condF (c := decide (v_i8 < a2)) (by kernel_rfl) hb1 ?_
      refine RunH.adm 1 (es' := []) (by kernel_rfl) ?_
      obtain rfl := Option.some.inj heq
      exact RunH.done (by kernel_rfl) Tryd.func166 (v := .tuple #[]) (by kernel_rfl) ⟨chv_data0, rfl, rfl, rfl, hov_data0, (hlv_data0.trans rfl)⟩
theorem slices_insertionSortCmpFunc_Blob_c {w0 : World} {H : Hp} {F : List Ch} {a0 : List Blob} {Aa0 : Option Addr} {na0 : Nat} {ca0 : Nat} {cha0 : Ch} {a1 : Int} {a2 : Int} {r : (List Blob)} (hoa0 : SlOwn kBlob 47 H Aa0 ca0 a0 cha0) (hna0 : na0 = a0.length) (heq : slices_insertionSortCmpFunc_Blob.f a0 a1 a2 = some r) : CallsH Tryd.prog 166 #[.slice Aa0 na0 ca0, .int .i64 a1, .int .i64 a2, .func (.func 123) #[] #[]] H w0 (cha0 :: F) (S166 F H Aa0 ca0 na0 r) := by
  refine calls_of_runH (F := C166) Tryd.func166 (by kernel_rfl) Tryd.ntmps166 (args := [.slice Aa0 na0 ca0, .int .i64 a1, .int .i64 a2, .func (.func 123) #[] #[]]) (by kernel_rfl) ?_
  suffices key0 : ∀ (la0 : Nat), la0 = na0 → RunH C166 (S166 F H Aa0 ca0 la0 r) H w0 [.c []] (argL 0 [.slice Aa0 na0 ca0, .int .i64 a1, .int .i64 a2, .func (.func 123) #[] #[]]) H (cha0 :: F) from key0 na0 rfl
  intro la0 hla0
  subst hna0
  unfold slices_insertionSortCmpFunc_Blob.f at heq
  refine RunH.adm 1 (es' := [.c [0], .c [1]]) (by kernel_rfl) ?_
  refine RunH.reg (by kernel_rfl) ?_
  refine RgH.runk 3 [0, 1, 2, 3, 8] (vs := []) (evs := []) (L' := [(0, .slice Aa0 a0.length ca0), (1, .int .i64 a1), (2, .int .i64 a2), (3, .func (.func 123) #[] #[]), (8, .int .i64 (w64 (a1 + 1)))]) (by kernel_rfl) (by kernel_rfl) (fun _ _ => trivial) ?_
  refine RgH.done (by kernel_rfl) ?_
  refine RunH.adm 2 (es' := [.c [1, 0, 0], .l [1, 0, 0], .b 0]) (by kernel_rfl) ?_
  refine RunH.keep [0, 1, 2, 3, 8] (L' := [(0, .slice Aa0 a0.length ca0), (1, .int .i64 a1), (2, .int .i64 a2), (3, .func (.func 123) #[] #[]), (8, .int .i64 (w64 (a1 + 1)))]) (by kernel_rfl) ?_
  exact ((slices_insertionSortCmpFunc_Blob.l1_c) big) _ _ _ a1 a2 a0 _ _ (w64 (a1 + 1)) rfl hla0 hoa0 heq
noncomputable def C202 : Ctx := { P := Tryd.prog, f := 202, N := 38, c := bodyOf Tryd.f202 }
def S202 (F : List Ch) (H0 : Hp) (Aa0 : Option Addr) (ca0 : Nat) (la0 : Nat) (r : (List Blob)) (v : Value) (H : Hp) (cs : List Ch) : Prop := ∃ (ch0 : Ch), H0 = H ∧ v = .tuple #[] ∧ ch0 :: F = cs ∧ SlOwn kBlob 47 H Aa0 ca0 r ch0 ∧ la0 = r.length
theorem slices_swapRangeCmpFunc_Blob.l1_c {w0 : World} {H : Hp} {F : List Ch} {r : (List Blob)} : ∀ (k : Nat), ∀ (Aa0 : Option Addr) (ca0 : Nat) (la0 : Nat) (a1 : Int) (a2 : Int) (a3 : Int) (v_data0 : List Blob) (chv_data0 : Ch) (nv_data0 : Nat) (v_i10 : Int) , nv_data0 = v_data0.length → la0 = nv_data0 → SlOwn kBlob 47 H Aa0 ca0 v_data0 chv_data0 → slices_swapRangeCmpFunc_Blob.l1 k a1 a2 a3 v_data0 v_i10 = some r → RunH C202 (S202 F H Aa0 ca0 la0 r) H w0 [.c [1, 0, 0], .l [1, 0, 0], .b 0] [(0, .slice Aa0 nv_data0 ca0), (1, .int .i64 a1), (2, .int .i64 a2), (3, .int .i64 a3), (10, .int .i64 v_i10)] H (chv_data0 :: F) := by
  intro k
  induction k with
  | zero => intro Aa0 ca0 la0 a1 a2 a3 v_data0 chv_data0 nv_data0 v_i10 hnv_data0 hlv_data0 hov_data0 heq; exact nomatch (show (none : Option (List Blob)) = some r from heq)
  | succ k ihk =>
    intro Aa0 ca0 la0 a1 a2 a3 v_data0 chv_data0 nv_data0 v_i10 hnv_data0 hlv_data0 hov_data0 heq
    subst hnv_data0
    rw [slices_swapRangeCmpFunc_Blob.l1] at heq
    refine RunH.adm 2 (es' := [.c [1, 0, 0, 0, 0], .c [1, 0, 0, 0, 1], .c [1, 0, 0, 1], .l [1, 0, 0], .b 0]) (by kernel_rfl) ?_
    refine RunH.reg (by kernel_rfl) ?_
    refine RgH.runk 3 [0, 1, 2, 3, 10, 13] (vs := []) (evs := []) (L' := [(0, .slice Aa0 v_data0.length ca0), (1, .int .i64 a1), (2, .int .i64 a2), (3, .int .i64 a3), (10, .int .i64 v_i10), (13, .bool (decide (v_i10 < a3)))]) (by kernel_rfl) (by kernel_rfl) (fun _ _ => trivial) ?_
    refine RgH.done (by kernel_rfl) ?_
    rcases bool_cases (decide (v_i10 < a3)) with hb1 | hb1
    · replace heq := bif_true hb1 heq
      refine RunH.condT (c := decide (v_i10 < a3)) (by kernel_rfl) hb1 ?_
      refine RunH.adm 3 (es' := [.c [1, 0, 0, 1, 0, 0], .b 1, .c [1, 0, 0, 1, 1], .l [1, 0, 0], .b 0]) (by kernel_rfl) ?_
      refine RunH.keep [0, 1, 2, 3, 10] (L' := [(0, .slice Aa0 v_data0.length ca0), (1, .int .i64 a1), (2, .int .i64 a2), (3, .int .i64 a3), (10, .int .i64 v_i10)]) (by kernel_rfl) ?_
      refine RunH.draw (fun w => Heap H w0 w (chv_data0 :: F)) (fun w => Heap H w0 w (F)) [3, 3, 3, 3, 3, 3, 3, 3, 3, 3, 3, 3, 3, 3, 3, 3, 3, 3, 3, 3, 3, 1, 3, 2] (n := 24) (ls := [false, false, false, false, false, false, false, false, false, false, false, false, false, false, false, false, false, false, false, false, false, false, false, false]) (by kernel_rfl) (by kernel_rfl) (by kernel_rfl) rfl ?_
      refine DrH.run [0, 1, 2, 3] (m := 20) (ls' := [true, true, true, true, false, false, false, false, false, false, false, false, false, false, false, false, false, false, false, false, false, false, false, false]) (vs := []) (evs := []) (L' := [(19, .int .i64 (w64 (a1 + v_i10))), (18, .int .i64 v_i10), (17, .int .i64 a1), (16, .slice Aa0 v_data0.length ca0), (0, .slice Aa0 v_data0.length ca0), (1, .int .i64 a1), (2, .int .i64 a2), (3, .int .i64 a3), (10, .int .i64 v_i10)]) (by kernel_rfl) (fun w hh => hh.pick 1 [0] (by kernel_rfl)) (fun w hh => hh.pick 1 [] (by kernel_rfl)) (by kernel_rfl) (fun _ _ => trivial) (by kernel_rfl) ?_
      refine DrH.keep [0, 1, 2, 3, 10, 16, 19] (L' := [(0, .slice Aa0 v_data0.length ca0), (1, .int .i64 a1), (2, .int .i64 a2), (3, .int .i64 a3), (10, .int .i64 v_i10), (16, .slice Aa0 v_data0.length ca0), (19, .int .i64 (w64 (a1 + v_i10)))]) (by kernel_rfl) ?_
      refine DrH.run2 [4, 5, 6, 7] (m := 16) (ls' := [true, true, true, true, true, true, true, true, false, false, false, false, false, false, false, false, false, false, false, false, false, false, false, false]) (vs := []) (evs := []) (L' := [(23, .int .i64 (w64 (a2 + v_i10))), (22, .int .i64 v_i10), (21, .int .i64 a2), (20, .slice Aa0 v_data0.length ca0), (0, .slice Aa0 v_data0.length ca0), (1, .int .i64 a1), (2, .int .i64 a2), (3, .int .i64 a3), (10, .int .i64 v_i10), (16, .slice Aa0 v_data0.length ca0), (19, .int .i64 (w64 (a1 + v_i10)))]) (by kernel_rfl) (fun w hh => hh.pick 1 [] (by kernel_rfl)) (by kernel_rfl) (fun _ _ => trivial) (by kernel_rfl) ?_
      refine DrH.keep [0, 1, 2, 3, 10, 16, 19, 20, 23] (L' := [(0, .slice Aa0 v_data0.length ca0), (1, .int .i64 a1), (2, .int .i64 a2), (3, .int .i64 a3), (10, .int .i64 v_i10), (16, .slice Aa0 v_data0.length ca0), (19, .int .i64 (w64 (a1 + v_i10))), (20, .slice Aa0 v_data0.length ca0), (23, .int .i64 (w64 (a2 + v_i10)))]) (by kernel_rfl) ?_
      obtain ⟨x1, hx1, heq⟩ := bind_some heq
      obtain ⟨ha1, cs1, hK1, hcc1⟩ := hov_data0.get hx1
      obtain ⟨rfl⟩ := kBlob_open hK1
      refine DrH.run [8, 9, 10, 11, 12, 13] (m := 10) (ls' := [true, true, true, true, true, true, true, true, true, true, true, true, true, true, false, false, false, false, false, false, false, false, false, false]) (vs := [.string x1.Digest, .int .i64 x1.Size, .int .i64 x1.Used, .int .i64 x1.Until, .int .i64 x1.Pins]) (evs := [.need (Aa0 = some (adr Aa0) ∧ (0 : Int) ≤ (w64 (a2 + v_i10)) ∧ (w64 (a2 + v_i10)) < ((v_data0.length : Nat) : Int)), .load (((adr Aa0).add ((w64 (a2 + v_i10)).toNat * 5)).add 0) (.string x1.Digest), .load (((adr Aa0).add ((w64 (a2 + v_i10)).toNat * 5)).add 1) (.int .i64 x1.Size), .load (((adr Aa0).add ((w64 (a2 + v_i10)).toNat * 5)).add 2) (.int .i64 x1.Used), .load (((adr Aa0).add ((w64 (a2 + v_i10)).toNat * 5)).add 3) (.int .i64 x1.Until), .load (((adr Aa0).add ((w64 (a2 + v_i10)).toNat * 5)).add 4) (.int .i64 x1.Pins)]) (L' := [(29, .agg #[.string x1.Digest, .int .i64 x1.Size, .int .i64 x1.Used, .int .i64 x1.Until, .int .i64 x1.Pins]), (28, .pointer (some ((adr Aa0).add ((w64 (a2 + v_i10)).toNat * 5)))), (27, .int .i64 (w64 (a2 + v_i10))), (26, .int .i64 v_i10), (25, .int .i64 a2), (24, .slice Aa0 v_data0.length ca0), (0, .slice Aa0 v_data0.length ca0), (1, .int .i64 a1), (2, .int .i64 a2), (3, .int .i64 a3), (10, .int .i64 v_i10), (16, .slice Aa0 v_data0.length ca0), (19, .int .i64 (w64 (a1 + v_i10))), (20, .slice Aa0 v_data0.length ca0), (23, .int .i64 (w64 (a2 + v_i10)))]) (by kernel_rfl) (fun w hh => hh.pick 1 [0] (by kernel_rfl)) (fun w hh => hh.pick 1 [] (by kernel_rfl)) (by kernel_rfl) (fun w hh => ⟨⟨ha1, (at?_some hx1).1, (at?_some hx1).2.1⟩, (hcc1 _ (hh.chin 0 rfl) 0 _ rfl), (hcc1 _ (hh.chin 0 rfl) 1 _ rfl), (hcc1 _ (hh.chin 0 rfl) 2 _ rfl), (hcc1 _ (hh.chin 0 rfl) 3 _ rfl), (hcc1 _ (hh.chin 0 rfl) 4 _ rfl)⟩) (by kernel_rfl) ?_
      refine DrH.keep [0, 1, 2, 3, 10, 16, 19, 20, 23, 29] (L' := [(0, .slice Aa0 v_data0.length ca0), (1, .int .i64 a1), (2, .int .i64 a2), (3, .int .i64 a3), (10, .int .i64 v_i10), (16, .slice Aa0 v_data0.length ca0), (19, .int .i64 (w64 (a1 + v_i10))), (20, .slice Aa0 v_data0.length ca0), (23, .int .i64 (w64 (a2 + v_i10))), (29, .agg #[.string x1.Digest, .int .i64 x1.Size, .int .i64 x1.Used, .int .i64 x1.Until, .int .i64 x1.Pins])]) (by kernel_rfl) ?_
      obtain ⟨x2, hx2, heq⟩ := bind_some heq
      obtain ⟨ha2, cs2, hK2, hcc2⟩ := hov_data0.get hx2
      obtain ⟨rfl⟩ := kBlob_open hK2
      refine DrH.run2 [14, 15, 16, 17, 18] (m := 5) (ls' := [true, true, true, true, true, true, true, true, true, true, true, true, true, true, true, true, true, true, true, false, false, false, false, false]) (vs := []) (evs := [.need (Aa0 = some (adr Aa0) ∧ (0 : Int) ≤ (w64 (a1 + v_i10)) ∧ (w64 (a1 + v_i10)) < ((v_data0.length : Nat) : Int))]) (L' := [(34, .pointer (some ((adr Aa0).add ((w64 (a1 + v_i10)).toNat * 5)))), (33, .int .i64 (w64 (a1 + v_i10))), (32, .int .i64 v_i10), (31, .int .i64 a1), (30, .slice Aa0 v_data0.length ca0), (0, .slice Aa0 v_data0.length ca0), (1, .int .i64 a1), (2, .int .i64 a2), (3, .int .i64 a3), (10, .int .i64 v_i10), (16, .slice Aa0 v_data0.length ca0), (19, .int .i64 (w64 (a1 + v_i10))), (20, .slice Aa0 v_data0.length ca0), (23, .int .i64 (w64 (a2 + v_i10))), (29, .agg #[.string x1.Digest, .int .i64 x1.Size, .int .i64 x1.Used, .int .i64 x1.Until, .int .i64 x1.Pins])]) (by kernel_rfl) (fun w hh => hh.pick 1 [] (by kernel_rfl)) (by kernel_rfl) (fun w hh => ⟨ha2, (at?_some hx2).1, (at?_some hx2).2.1⟩) (by kernel_rfl) ?_
      refine DrH.keep [0, 1, 2, 3, 10, 16, 19, 20, 23, 29, 34] (L' := [(0, .slice Aa0 v_data0.length ca0), (1, .int .i64 a1), (2, .int .i64 a2), (3, .int .i64 a3), (10, .int .i64 v_i10), (16, .slice Aa0 v_data0.length ca0), (19, .int .i64 (w64 (a1 + v_i10))), (20, .slice Aa0 v_data0.length ca0), (23, .int .i64 (w64 (a2 + v_i10))), (29, .agg #[.string x1.Digest, .int .i64 x1.Size, .int .i64 x1.Used, .int .i64 x1.Until, .int .i64 x1.Pins]), (34, .pointer (some ((adr Aa0).add ((w64 (a1 + v_i10)).toNat * 5))))]) (by kernel_rfl) ?_
      obtain ⟨ha3, cs3, hK3, hcc3⟩ := hov_data0.get hx2
      obtain ⟨rfl⟩ := kBlob_open hK3
      refine DrH.run [19, 20] (m := 3) (ls' := [true, true, true, true, true, true, true, true, true, true, true, true, true, true, true, true, true, true, true, true, true, false, false, false]) (vs := [.string x2.Digest, .int .i64 x2.Size, .int .i64 x2.Used, .int .i64 x2.Until, .int .i64 x2.Pins]) (evs := [.load (((adr Aa0).add ((w64 (a1 + v_i10)).toNat * 5)).add 0) (.string x2.Digest), .load (((adr Aa0).add ((w64 (a1 + v_i10)).toNat * 5)).add 1) (.int .i64 x2.Size), .load (((adr Aa0).add ((w64 (a1 + v_i10)).toNat * 5)).add 2) (.int .i64 x2.Used), .load (((adr Aa0).add ((w64 (a1 + v_i10)).toNat * 5)).add 3) (.int .i64 x2.Until), .load (((adr Aa0).add ((w64 (a1 + v_i10)).toNat * 5)).add 4) (.int .i64 x2.Pins), .need (Aa0 = some (adr Aa0) ∧ (0 : Int) ≤ (w64 (a1 + v_i10)) ∧ (w64 (a1 + v_i10)) < ((v_data0.length : Nat) : Int))]) (L' := [(36, .pointer (some ((adr Aa0).add ((w64 (a1 + v_i10)).toNat * 5)))), (35, .agg #[.string x2.Digest, .int .i64 x2.Size, .int .i64 x2.Used, .int .i64 x2.Until, .int .i64 x2.Pins]), (0, .slice Aa0 v_data0.length ca0), (1, .int .i64 a1), (2, .int .i64 a2), (3, .int .i64 a3), (10, .int .i64 v_i10), (16, .slice Aa0 v_data0.length ca0), (19, .int .i64 (w64 (a1 + v_i10))), (20, .slice Aa0 v_data0.length ca0), (23, .int .i64 (w64 (a2 + v_i10))), (29, .agg #[.string x1.Digest, .int .i64 x1.Size, .int .i64 x1.Used, .int .i64 x1.Until, .int .i64 x1.Pins]), (34, .pointer (some ((adr Aa0).add ((w64 (a1 + v_i10)).toNat * 5))))]) (by kernel_rfl) (fun w hh => hh.pick 1 [0] (by kernel_rfl)) (fun w hh => hh.pick 1 [] (by kernel_rfl)) (by kernel_rfl) (fun w hh => ⟨(hcc3 _ (hh.chin 0 rfl) 0 _ rfl), (hcc3 _ (hh.chin 0 rfl) 1 _ rfl), (hcc3 _ (hh.chin 0 rfl) 2 _ rfl), (hcc3 _ (hh.chin 0 rfl) 3 _ rfl), (hcc3 _ (hh.chin 0 rfl) 4 _ rfl), ⟨ha3, (at?_some hx2).1, (at?_some hx2).2.1⟩⟩) (by kernel_rfl) ?_
      refine DrH.keep [0, 1, 2, 3, 10, 20, 23, 29, 35, 36] (L' := [(0, .slice Aa0 v_data0.length ca0), (1, .int .i64 a1), (2, .int .i64 a2), (3, .int .i64 a3), (10, .int .i64 v_i10), (20, .slice Aa0 v_data0.length ca0), (23, .int .i64 (w64 (a2 + v_i10))), (29, .agg #[.string x1.Digest, .int .i64 x1.Size, .int .i64 x1.Used, .int .i64 x1.Until, .int .i64 x1.Pins]), (35, .agg #[.string x2.Digest, .int .i64 x2.Size, .int .i64 x2.Used, .int .i64 x2.Until, .int .i64 x2.Pins]), (36, .pointer (some ((adr Aa0).add ((w64 (a1 + v_i10)).toNat * 5))))]) (by kernel_rfl) ?_
      obtain ⟨ha4, cs4, hK4, hcc4⟩ := hov_data0.get hx2
      obtain ⟨rfl⟩ := kBlob_open hK4
      refine DrH.does (n := 2) (ls' := [true, true, true, true, true, true, true, true, true, true, true, true, true, true, true, true, true, true, true, true, true, true, false, false]) 21 (by kernel_rfl) rfl (DoesH.storeEl (a := ((adr Aa0).add ((w64 (a1 + v_i10)).toNat * 5))) (k := 0) (kd := kBlob) (c0 := [.string x2.Digest, .int .i64 x2.Size, .int .i64 x2.Used, .int .i64 x2.Until, .int .i64 x2.Pins]) (x' := x1) (o := 0) (ix := (w64 (a1 + v_i10))) (v := .agg #[.string x1.Digest, .int .i64 x1.Size, .int .i64 x1.Used, .int .i64 x1.Until, .int .i64 x1.Pins]) (by kernel_rfl) rfl hov_data0 hx2 (by kernel_rfl) hcc4 rfl (Nat.le_of_ble_eq_true (by kernel_rfl)) kBlob_mk) ?_
      rintro _ _ _ _ ⟨ch1, rfl, rfl, rfl, ho1⟩
      have hn1 : v_data0.length = (v_data0.set (w64 (a1 + v_i10)).toNat x1).length := by rw [List.length_set]
      refine ⟨fun _ w hh => ⟨(fun h => by cases h), fun _ => (fun w hh => hh.pick 1 [] (by kernel_rfl)) w hh, (fun h => by cases h)⟩, ?_⟩
      obtain ⟨x3, hx3, heq⟩ := bind_some heq
      obtain ⟨ha5, cs5, hK5, hcc5⟩ := ho1.get hx3
      obtain ⟨rfl⟩ := kBlob_open hK5
      refine DrH.run2 [22] (m := 1) (ls' := [true, true, true, true, true, true, true, true, true, true, true, true, true, true, true, true, true, true, true, true, true, true, true, false]) (vs := []) (evs := [.need (Aa0 = some (adr Aa0) ∧ (0 : Int) ≤ (w64 (a2 + v_i10)) ∧ (w64 (a2 + v_i10)) < ((v_data0.length : Nat) : Int))]) (L' := [(37, .pointer (some ((adr Aa0).add ((w64 (a2 + v_i10)).toNat * 5)))), (0, .slice Aa0 v_data0.length ca0), (1, .int .i64 a1), (2, .int .i64 a2), (3, .int .i64 a3), (10, .int .i64 v_i10), (20, .slice Aa0 v_data0.length ca0), (23, .int .i64 (w64 (a2 + v_i10))), (29, .agg #[.string x1.Digest, .int .i64 x1.Size, .int .i64 x1.Used, .int .i64 x1.Until, .int .i64 x1.Pins]), (35, .agg #[.string x2.Digest, .int .i64 x2.Size, .int .i64 x2.Used, .int .i64 x2.Until, .int .i64 x2.Pins]), (36, .pointer (some ((adr Aa0).add ((w64 (a1 + v_i10)).toNat * 5))))]) (by kernel_rfl) (fun w hh => hh.pick 1 [] (by kernel_rfl)) (by kernel_rfl) (fun w hh => ⟨ha5, (at?_some hx3).1, (by have := (at?_some hx3).2.1; have := hn1; omega)⟩) (by kernel_rfl) ?_
      refine DrH.keep [0, 1, 2, 3, 10, 35, 37] (L' := [(0, .slice Aa0 v_data0.length ca0), (1, .int .i64 a1), (2, .int .i64 a2), (3, .int .i64 a3), (10, .int .i64 v_i10), (35, .agg #[.string x2.Digest, .int .i64 x2.Size, .int .i64 x2.Used, .int .i64 x2.Until, .int .i64 x2.Pins]), (37, .pointer (some ((adr Aa0).add ((w64 (a2 + v_i10)).toNat * 5))))]) (by kernel_rfl) ?_
      obtain ⟨ha6, cs6, hK6, hcc6⟩ := ho1.get hx3
      obtain ⟨rfl⟩ := kBlob_open hK6
      refine DrH.does (n := 0) (ls' := [true, true, true, true, true, true, true, true, true, true, true, true, true, true, true, true, true, true, true, true, true, true, true, true]) 23 (by kernel_rfl) rfl (DoesH.storeEl (a := ((adr Aa0).add ((w64 (a2 + v_i10)).toNat * 5))) (k := 0) (kd := kBlob) (c0 := [.string x3.Digest, .int .i64 x3.Size, .int .i64 x3.Used, .int .i64 x3.Until, .int .i64 x3.Pins]) (x' := x2) (o := 0) (ix := (w64 (a2 + v_i10))) (v := .agg #[.string x2.Digest, .int .i64 x2.Size, .int .i64 x2.Used, .int .i64 x2.Until, .int .i64 x2.Pins]) (by kernel_rfl) rfl ho1 hx3 (by kernel_rfl) hcc6 rfl (Nat.le_of_ble_eq_true (by kernel_rfl)) kBlob_mk) ?_
      rintro _ _ _ _ ⟨ch2, rfl, rfl, rfl, ho2⟩
      have hn2 : v_data0.length = ((v_data0.set (w64 (a1 + v_i10)).toNat x1).set (w64 (a2 + v_i10)).toNat x2).length := by rw [List.length_set]; exact hn1
      refine ⟨fun _ w hh => ⟨(fun h => by cases h), (fun h => absurd h (by decide)), (fun h => by cases h)⟩, ?_⟩
      refine DrH.keep [0, 1, 2, 3, 10] (L' := [(0, .slice Aa0 v_data0.length ca0), (1, .int .i64 a1), (2, .int .i64 a2), (3, .int .i64 a3), (10, .int .i64 v_i10)]) (by kernel_rfl) ?_
      refine DrH.done (by kernel_rfl) ?_
      refine RunH.adm 1 (es' := [.c [1, 0, 0, 1, 1], .l [1, 0, 0], .b 0]) (by kernel_rfl) ?_
      refine RunH.reg (by kernel_rfl) ?_
      refine RgH.runk 3 [0, 1, 2, 3, 10] (vs := []) (evs := []) (L' := [(0, .slice Aa0 v_data0.length ca0), (1, .int .i64 a1), (2, .int .i64 a2), (3, .int .i64 a3), (10, .int .i64 (w64 (v_i10 + 1)))]) (by kernel_rfl) (by kernel_rfl) (fun _ _ => trivial) ?_
      refine RgH.done (by kernel_rfl) ?_
      refine RunH.adm 1 (es' := [.c [1, 0, 0], .l [1, 0, 0], .b 0]) (by kernel_rfl) ?_
      refine RunH.keep [0, 1, 2, 3, 10] (L' := [(0, .slice Aa0 v_data0.length ca0), (1, .int .i64 a1), (2, .int .i64 a2), (3, .int .i64 a3), (10, .int .i64 (w64 (v_i10 + 1)))]) (by kernel_rfl) ?_
      exact ihk _ _ _ a1 a2 a3 ((v_data0.set (w64 (a1 + v_i10)).toNat x1).set (w64 (a2 + v_i10)).toNat x2) _ _ (w64 (v_i10 + 1)) hn2 hlv_data0 ho2 heq
    · replace heq := bif_false hb1 heq
      refine RunH.condF (c := decide (v_i10 < a3)) (by kernel_rfl) hb1 ?_
      refine RunH.adm 1 (es' := []) (by kernel_rfl) ?_
      obtain rfl := Option.some.inj heq
      exact RunH.done (by kernel_rfl) Tryd.func202 (v := .tuple #[]) (by kernel_rfl) ⟨chv_data0, rfl, rfl, rfl, hov_data0, (hlv_data0.trans rfl)⟩
theorem slices_swapRangeCmpFunc_Blob_c {w0 : World} {H : Hp} {F : List Ch} {a0 : List Blob} {Aa0 : Option Addr} {na0 : Nat} {ca0 : Nat} {cha0 : Ch} {a1 : Int} {a2 : Int} {a3 : Int} {r : (List Blob)} (hoa0 : SlOwn kBlob 47 H Aa0 ca0 a0 cha0) (hna0 : na0 = a0.length) (heq : slices_swapRangeCmpFunc_Blob.f a0 a1 a2 a3 = some r) : CallsH Tryd.prog 202 #[.slice Aa0 na0 ca0, .int .i64 a1, .int .i64 a2, .int .i64 a3, .func (.func 123) #[] #[]] H w0 (cha0 :: F) (S202 F H Aa0 ca0 na0 r) := by
  refine calls_of_runH (F := C202) Tryd.func202 (by kernel_rfl) Tryd.ntmps202 (args := [.slice Aa0 na0 ca0, .int .i64 a1, .int .i64 a2, .int .i64 a3, .func (.func 123) #[] #[]]) (by kernel_rfl) ?_
  suffices key0 : ∀ (la0 : Nat), la0 = na0 → RunH C202 (S202 F H Aa0 ca0 la0 r) H w0 [.c []] (argL 0 [.slice Aa0 na0 ca0, .int .i64 a1, .int .i64 a2, .int .i64 a3, .func (.func 123) #[] #[]]) H (cha0 :: F) from key0 na0 rfl
  intro la0 hla0
  subst hna0
  unfold slices_swapRangeCmpFunc_Blob.f at heq
  refine RunH.adm 1 (es' := [.c [0], .c [1]]) (by kernel_rfl) ?_
  refine RunH.reg (by kernel_rfl) ?_
  refine RgH.runk 1 [0, 1, 2, 3, 10] (vs := []) (evs := []) (L' := [(0, .slice Aa0 a0.length ca0), (1, .int .i64 a1), (2, .int .i64 a2), (3, .int .i64 a3), (10, .int .i64 0)]) (by kernel_rfl) (by kernel_rfl) (fun _ _ => trivial) ?_
  refine RgH.done (by kernel_rfl) ?_
  refine RunH.adm 2 (es' := [.c [1, 0, 0], .l [1, 0, 0], .b 0]) (by kernel_rfl) ?_
  refine RunH.keep [0, 1, 2, 3, 10] (L' := [(0, .slice Aa0 a0.length ca0), (1, .int .i64 a1), (2, .int .i64 a2), (3, .int .i64 a3), (10, .int .i64 0)]) (by kernel_rfl) ?_
  exact ((slices_swapRangeCmpFunc_Blob.l1_c) big) _ _ _ a1 a2 a3 a0 _ _ 0 rfl hla0 hoa0 heq
noncomputable def C185 : Ctx := { P := Tryd.prog, f := 185, N := 58, c := bodyOf Tryd.f185 }
def S185 (F : List Ch) (H0 : Hp) (Aa0 : Option Addr) (ca0 : Nat) (la0 : Nat) (r : (List Blob)) (v : Value) (H : Hp) (cs : List Ch) : Prop := ∃ (ch0 : Ch), H0 = H ∧ v = .tuple #[] ∧ ch0 :: F = cs ∧ SlOwn kBlob 47 H Aa0 ca0 r ch0 ∧ la0 = r.length
theorem slices_rotateCmpFunc_Blob.e1_c {w0 : World} {H : Hp} {F : List Ch} {r : (List Blob)} : ∀ (Aa0 : Option Addr) (ca0 : Nat) (la0 : Nat) (a2 : Int) (v_data0 : List Blob) (chv_data0 : Ch) (nv_data0 : Nat) (v_i10 : Int) , nv_data0 = v_data0.length → la0 = nv_data0 → SlOwn kBlob 47 H Aa0 ca0 v_data0 chv_data0 → slices_rotateCmpFunc_Blob.e1 a2 v_data0 v_i10 = some r → RunH C185 (S185 F H Aa0 ca0 la0 r) H w0 [.c [1, 1, 1]] [(0, .slice Aa0 nv_data0 ca0), (2, .int .i64 a2), (4, .func (.func 123) #[] #[]), (10, .int .i64 v_i10)] H (chv_data0 :: F) := by
  intro Aa0 ca0 la0 a2 v_data0 chv_data0 nv_data0 v_i10 hnv_data0 hlv_data0 hov_data0 heq
  subst hnv_data0
  unfold slices_rotateCmpFunc_Blob.e1 at heq
  refine RunH.reg (by kernel_rfl) ?_
  refine RgH.runk 7 [0, 50, 53, 54, 55, 56] (vs := []) (evs := []) (L' := [(0, .slice Aa0 v_data0.length ca0), (50, .slice Aa0 v_data0.length ca0), (53, .int .i64 (w64 (a2 - v_i10))), (54, .int .i64 a2), (55, .int .i64 v_i10), (56, .func (.func 123) #[] #[])]) (by kernel_rfl) (by kernel_rfl) (fun _ _ => trivial) ?_
  obtain ⟨y1, hy1, heq⟩ := bind_some heq
  refine RgH.does (DoesH.call (d := 57) (g := 202) (args := #[.slice Aa0 v_data0.length ca0, .int .i64 (w64 (a2 - v_i10)), .int .i64 a2, .int .i64 v_i10, .func (.func 123) #[] #[]]) (by kernel_rfl) (slices_swapRangeCmpFunc_Blob_c (a0 := v_data0) (a1 := w64 (a2 - v_i10)) (a2 := a2) (a3 := v_i10) hov_data0 rfl hy1)) ?_
  rintro _ _ _ _ ⟨_, rfl, ch1, rfl, rfl, rfl, ho1, hn1⟩
  refine RgH.done (by kernel_rfl) ?_
  obtain rfl := Option.some.inj heq
  exact RunH.done (by kernel_rfl) Tryd.func185 (v := .tuple #[]) (by kernel_rfl) ⟨ch1, rfl, rfl, rfl, ho1, (hlv_data0.trans hn1)⟩
theorem slices_rotateCmpFunc_Blob.l2_c {w0 : World} {H : Hp} {F : List Ch} {r : (List Blob)} (e1 : Int → (List Blob) → Int → Option (List Blob))
    (he1 : ∀ (Aa0 : Option Addr) (ca0 : Nat) (la0 : Nat) (a2 : Int) (v_data0 : List Blob) (chv_data0 : Ch) (nv_data0 : Nat) (v_i10 : Int) , nv_data0 = v_data0.length → la0 = nv_data0 → SlOwn kBlob 47 H Aa0 ca0 v_data0 chv_data0 → e1 a2 v_data0 v_i10 = some r → RunH C185 (S185 F H Aa0 ca0 la0 r) H w0 [.c [1, 1, 1]] [(0, .slice Aa0 nv_data0 ca0), (2, .int .i64 a2), (4, .func (.func 123) #[] #[]), (10, .int .i64 v_i10)] H (chv_data0 :: F)) : ∀ (k : Nat), ∀ (Aa0 : Option Addr) (ca0 : Nat) (la0 : Nat) (a2 : Int) (v_data0 : List Blob) (chv_data0 : Ch) (nv_data0 : Nat) (v_i10 : Int) (v_j11 : Int) , nv_data0 = v_data0.length → la0 = nv_data0 → SlOwn kBlob 47 H Aa0 ca0 v_data0 chv_data0 → slices_rotateCmpFunc_Blob.l2 e1 k a2 v_data0 v_i10 v_j11 = some r → RunH C185 (S185 F H Aa0 ca0 la0 r) H w0 [.c [1, 1, 0, 0, 0], .l [1, 1, 0, 0, 0], .b 0, .c [1, 1, 1]] [(0, .slice Aa0 nv_data0 ca0), (2, .int .i64 a2), (4, .func (.func 123) #[] #[]), (10, .int .i64 v_i10), (11, .int .i64 v_j11)] H (chv_data0 :: F) := by
  intro k
  induction k with
  | zero => intro Aa0 ca0 la0 a2 v_data0 chv_data0 nv_data0 v_i10 v_j11 hnv_data0 hlv_data0 hov_data0 heq; exact nomatch (show (none : Option (List Blob)) = some r from heq)
  | succ k ihk =>
    intro Aa0 ca0 la0 a2 v_data0 chv_data0 nv_data0 v_i10 v_j11 hnv_data0 hlv_data0 hov_data0 heq
    subst hnv_data0
    rw [slices_rotateCmpFunc_Blob.l2] at heq
    refine RunH.adm 2 (es' := [.c [1, 1, 0, 0, 0, 0, 0], .c [1, 1, 0, 0, 0, 0, 1], .c [1, 1, 0, 0, 0, 1], .l [1, 1, 0, 0, 0], .b 0, .c [1, 1, 1]]) (by kernel_rfl) ?_
    refine RunH.reg (by kernel_rfl) ?_
    refine RgH.runk 3 [0, 2, 4, 10, 11, 20] (vs := []) (evs := []) (L' := [(0, .slice Aa0 v_data0.length ca0), (2, .int .i64 a2), (4, .func (.func 123) #[] #[]), (10, .int .i64 v_i10), (11, .int .i64 v_j11), (20, .bool (v_i10 != v_j11))]) (by kernel_rfl) (by kernel_rfl) (fun _ _ => trivial) ?_
    refine RgH.done (by kernel_rfl) ?_
    rcases bool_cases (v_i10 != v_j11) with hb1 | hb1
    · replace heq := bif_true hb1 heq
      refine RunH.condT (c := v_i10 != v_j11) (by kernel_rfl) hb1 ?_
      refine RunH.adm 3 (es' := [.c [1, 1, 0, 0, 0, 1, 0, 0], .c [1, 1, 0, 0, 0, 1, 0, 1], .b 1, .l [1, 1, 0, 0, 0], .b 0, .c [1, 1, 1]]) (by kernel_rfl) ?_
      refine RunH.reg (by kernel_rfl) ?_
      refine RgH.runk 3 [0, 2, 4, 10, 11, 23] (vs := []) (evs := []) (L' := [(0, .slice Aa0 v_data0.length ca0), (2, .int .i64 a2), (4, .func (.func 123) #[] #[]), (10, .int .i64 v_i10), (11, .int .i64 v_j11), (23, .bool (decide (v_j11 < v_i10)))]) (by kernel_rfl) (by kernel_rfl) (fun _ _ => trivial) ?_
      refine RgH.done (by kernel_rfl) ?_
      rcases bool_cases (decide (v_j11 < v_i10)) with hb2 | hb2
      · replace heq := bif_true hb2 heq
        refine RunH.condT (c := decide (v_j11 < v_i10)) (by kernel_rfl) hb2 ?_
        refine RunH.adm 1 (es' := [.c [1, 1, 0, 0, 0, 1, 0, 1, 0, 0], .c [1, 1, 0, 0, 0, 1, 0, 1, 0, 1], .b 1, .l [1, 1, 0, 0, 0], .b 0, .c [1, 1, 1]]) (by kernel_rfl) ?_
        refine RunH.reg (by kernel_rfl) ?_
        refine RgH.runk 7 [0, 2, 4, 10, 11, 24, 27, 28, 29, 30] (vs := []) (evs := []) (L' := [(0, .slice Aa0 v_data0.length ca0), (2, .int .i64 a2), (4, .func (.func 123) #[] #[]), (10, .int .i64 v_i10), (11, .int .i64 v_j11), (24, .slice Aa0 v_data0.length ca0), (27, .int .i64 (w64 (a2 - v_i10))), (28, .int .i64 a2), (29, .int .i64 v_j11), (30, .func (.func 123) #[] #[])]) (by kernel_rfl) (by kernel_rfl) (fun _ _ => trivial) ?_
        obtain ⟨y2, hy2, heq⟩ := bind_some heq
        refine RgH.does (DoesH.call (d := 31) (g := 202) (args := #[.slice Aa0 v_data0.length ca0, .int .i64 (w64 (a2 - v_i10)), .int .i64 a2, .int .i64 v_j11, .func (.func 123) #[] #[]]) (by kernel_rfl) (slices_swapRangeCmpFunc_Blob_c (a0 := v_data0) (a1 := w64 (a2 - v_i10)) (a2 := a2) (a3 := v_j11) hov_data0 rfl hy2)) ?_
        rintro _ _ _ _ ⟨_, rfl, ch2, rfl, rfl, rfl, ho2, hn2⟩
        refine RgH.done (by kernel_rfl) ?_
        refine RunH.reg (by kernel_rfl) ?_
        refine RgH.runk 4 [0, 2, 4, 10, 11] (vs := []) (evs := []) (L' := [(0, .slice Aa0 v_data0.length ca0), (2, .int .i64 a2), (4, .func (.func 123) #[] #[]), (10, .int .i64 (w64 (v_i10 - v_j11))), (11, .int .i64 v_j11)]) (by kernel_rfl) (by kernel_rfl) (fun _ _ => trivial) ?_
        refine RgH.done (by kernel_rfl) ?_
        refine RunH.adm 2 (es' := [.c [1, 1, 0, 0, 0], .l [1, 1, 0, 0, 0], .b 0, .c [1, 1, 1]]) (by kernel_rfl) ?_
        refine RunH.keep [0, 2, 4, 10, 11] (L' := [(0, .slice Aa0 v_data0.length ca0), (2, .int .i64 a2), (4, .func (.func 123) #[] #[]), (10, .int .i64 (w64 (v_i10 - v_j11))), (11, .int .i64 v_j11)]) (by kernel_rfl) ?_
        exact ihk _ _ _ a2 y2 _ _ (w64 (v_i10 - v_j11)) v_j11 hn2 hlv_data0 ho2 heq
      · replace heq := bif_false hb2 heq
        refine RunH.condF (c := decide (v_j11 < v_i10)) (by kernel_rfl) hb2 ?_
        refine RunH.adm 1 (es' := [.c [1, 1, 0, 0, 0, 1, 0, 1, 1, 0], .c [1, 1, 0, 0, 0, 1, 0, 1, 1, 1], .b 1, .l [1, 1, 0, 0, 0], .b 0, .c [1, 1, 1]]) (by kernel_rfl) ?_
        refine RunH.reg (by kernel_rfl) ?_
        refine RgH.runk 11 [0, 2, 4, 10, 11, 35, 38, 43, 44, 45] (vs := []) (evs := []) (L' := [(0, .slice Aa0 v_data0.length ca0), (2, .int .i64 a2), (4, .func (.func 123) #[] #[]), (10, .int .i64 v_i10), (11, .int .i64 v_j11), (35, .slice Aa0 v_data0.length ca0), (38, .int .i64 (w64 (a2 - v_i10))), (43, .int .i64 (w64 ((w64 (a2 + v_j11)) - v_i10))), (44, .int .i64 v_i10), (45, .func (.func 123) #[] #[])]) (by kernel_rfl) (by kernel_rfl) (fun _ _ => trivial) ?_
        obtain ⟨y3, hy3, heq⟩ := bind_some heq
        refine RgH.does (DoesH.call (d := 46) (g := 202) (args := #[.slice Aa0 v_data0.length ca0, .int .i64 (w64 (a2 - v_i10)), .int .i64 (w64 ((w64 (a2 + v_j11)) - v_i10)), .int .i64 v_i10, .func (.func 123) #[] #[]]) (by kernel_rfl) (slices_swapRangeCmpFunc_Blob_c (a0 := v_data0) (a1 := w64 (a2 - v_i10)) (a2 := w64 ((w64 (a2 + v_j11)) - v_i10)) (a3 := v_i10) hov_data0 rfl hy3)) ?_
        rintro _ _ _ _ ⟨_, rfl, ch3, rfl, rfl, rfl, ho3, hn3⟩
        refine RgH.done (by kernel_rfl) ?_
        refine RunH.reg (by kernel_rfl) ?_
        refine RgH.runk 4 [0, 2, 4, 10, 11] (vs := []) (evs := []) (L' := [(0, .slice Aa0 v_data0.length ca0), (2, .int .i64 a2), (4, .func (.func 123) #[] #[]), (10, .int .i64 v_i10), (11, .int .i64 (w64 (v_j11 - v_i10)))]) (by kernel_rfl) (by kernel_rfl) (fun _ _ => trivial) ?_
        refine RgH.done (by kernel_rfl) ?_
        refine RunH.adm 2 (es' := [.c [1, 1, 0, 0, 0], .l [1, 1, 0, 0, 0], .b 0, .c [1, 1, 1]]) (by kernel_rfl) ?_
        refine RunH.keep [0, 2, 4, 10, 11] (L' := [(0, .slice Aa0 v_data0.length ca0), (2, .int .i64 a2), (4, .func (.func 123) #[] #[]), (10, .int .i64 v_i10), (11, .int .i64 (w64 (v_j11 - v_i10)))]) (by kernel_rfl) ?_
        exact ihk _ _ _ a2 y3 _ _ v_i10 (w64 (v_j11 - v_i10)) hn3 hlv_data0 ho3 heq
    · replace heq := bif_false hb1 heq
      refine RunH.condF (c := v_i10 != v_j11) (by kernel_rfl) hb1 ?_
      refine RunH.adm 1 (es' := [.c [1, 1, 1]]) (by kernel_rfl) ?_
      refine RunH.keep [0, 2, 4, 10] (L' := [(0, .slice Aa0 v_data0.length ca0), (2, .int .i64 a2), (4, .func (.func 123) #[] #[]), (10, .int .i64 v_i10)]) (by kernel_rfl) ?_
      exact he1 _ _ _ a2 v_data0 _ _ v_i10 rfl hlv_data0 hov_data0 heq
theorem slices_rotateCmpFunc_Blob_c {w0 : World} {H : Hp} {F : List Ch} {a0 : List Blob} {Aa0 : Option Addr} {na0 : Nat} {ca0 : Nat} {cha0 : Ch} {a1 : Int} {a2 : Int} {a3 : Int} {r : (List Blob)} (hoa0 : SlOwn kBlob 47 H Aa0 ca0 a0 cha0) (hna0 : na0 = a0.length) (heq : slices_rotateCmpFunc_Blob.f a0 a1 a2 a3 = some r) : CallsH Tryd.prog 185 #[.slice Aa0 na0 ca0, .int .i64 a1, .int .i64 a2, .int .i64 a3, .func (.func 123) #[] #[]] H w0 (cha0 :: F) (S185 F H Aa0 ca0 na0 r) := by
  refine calls_of_runH (F := C185) Tryd.func185 (by kernel_rfl) Tryd.ntmps185 (args := [.slice Aa0 na0 ca0, .int .i64 a1, .int .i64 a2, .int .i64 a3, .func (.func 123) #[] #[]]) (by kernel_rfl) ?_
  suffices key0 : ∀ (la0 : Nat), la0 = na0 → RunH C185 (S185 F H Aa0 ca0 la0 r) H w0 [.c []] (argL 0 [.slice Aa0 na0 ca0, .int .i64 a1, .int .i64 a2, .int .i64 a3, .func (.func 123) #[] #[]]) H (cha0 :: F) from key0 na0 rfl
  intro la0 hla0
  subst hna0
  unfold slices_rotateCmpFunc_Blob.f at heq
  refine RunH.adm 1 (es' := [.c [0], .c [1]]) (by kernel_rfl) ?_
  refine RunH.reg (by kernel_rfl) ?_
  refine RgH.runk 4 [0, 2, 3, 4, 10] (vs := []) (evs := []) (L' := [(0, .slice Aa0 a0.length ca0), (2, .int .i64 a2), (3, .int .i64 a3), (4, .func (.func 123) #[] #[]), (10, .int .i64 (w64 (a2 - a1)))]) (by kernel_rfl) (by kernel_rfl) (fun _ _ => trivial) ?_
  refine RgH.done (by kernel_rfl) ?_
  refine RunH.adm 1 (es' := [.c [1, 0], .c [1, 1]]) (by kernel_rfl) ?_
  refine RunH.reg (by kernel_rfl) ?_
  refine RgH.runk 4 [0, 2, 4, 10, 11] (vs := []) (evs := []) (L' := [(0, .slice Aa0 a0.length ca0), (2, .int .i64 a2), (4, .func (.func 123) #[] #[]), (10, .int .i64 (w64 (a2 - a1))), (11, .int .i64 (w64 (a3 - a2)))]) (by kernel_rfl) (by kernel_rfl) (fun _ _ => trivial) ?_
  refine RgH.done (by kernel_rfl) ?_
  refine RunH.adm 3 (es' := [.c [1, 1, 0, 0, 0], .l [1, 1, 0, 0, 0], .b 0, .c [1, 1, 1]]) (by kernel_rfl) ?_
  refine RunH.keep [0, 2, 4, 10, 11] (L' := [(0, .slice Aa0 a0.length ca0), (2, .int .i64 a2), (4, .func (.func 123) #[] #[]), (10, .int .i64 (w64 (a2 - a1))), (11, .int .i64 (w64 (a3 - a2)))]) (by kernel_rfl) ?_
  exact ((slices_rotateCmpFunc_Blob.l2_c (e1 := slices_rotateCmpFunc_Blob.e1) (slices_rotateCmpFunc_Blob.e1_c)) big) _ _ _ a2 a0 _ _ (w64 (a2 - a1)) (w64 (a3 - a2)) rfl hla0 hoa0 heq
noncomputable def C167 : Ctx := { P := Tryd.prog, f := 167, N := 220, c := bodyOf Tryd.f167 }
def S167 (F : List Ch) (H0 : Hp) (Aa0 : Option Addr) (ca0 : Nat) (la0 : Nat) (r : (List Blob)) (v : Value) (H : Hp) (cs : List Ch) : Prop := ∃ (ch0 : Ch), H0 = H ∧ v = .tuple #[] ∧ ch0 :: F = cs ∧ SlOwn kBlob 47 H Aa0 ca0 r ch0 ∧ la0 = r.length
theorem slices_symMergeCmpFunc_Blob.l2_c {w0 : World} {H : Hp} {F : List Ch} {r : (List Blob)} : ∀ (k : Nat), ∀ (Aa0 : Option Addr) (ca0 : Nat) (la0 : Nat) (v_i10 : Int) (v_data0 : List Blob) (chv_data0 : Ch) (nv_data0 : Nat) (v_k13 : Int) , nv_data0 = v_data0.length → la0 = nv_data0 → SlOwn kBlob 47 H Aa0 ca0 v_data0 chv_data0 → slices_symMergeCmpFunc_Blob.l2 k v_i10 v_data0 v_k13 = some r → RunH C167 (S167 F H Aa0 ca0 la0 r) H w0 [.c [0, 1, 0, 1, 1, 1, 0, 1, 0, 0], .l [0, 1, 0, 1, 1, 1, 0, 1, 0, 0], .b 2, .c [0, 1, 0, 1, 1, 1, 1], .c [1]] [(0, .slice Aa0 nv_data0 ca0), (10, .int .i64 v_i10), (13, .int .i64 v_k13)] H (chv_data0 :: F) := by
  intro k
  induction k with
  | zero => intro Aa0 ca0 la0 v_i10 v_data0 chv_data0 nv_data0 v_k13 hnv_data0 hlv_data0 hov_data0 heq; exact nomatch (show (none : Option (List Blob)) = some r from heq)
  | succ k ihk =>
    intro Aa0 ca0 la0 v_i10 v_data0 chv_data0 nv_data0 v_k13 hnv_data0 hlv_data0 hov_data0 heq
    subst hnv_data0
    rw [slices_symMergeCmpFunc_Blob.l2] at heq
    refine RunH.adm 2 (es' := [.c [0, 1, 0, 1, 1, 1, 0, 1, 0, 0, 0, 0], .c [0, 1, 0, 1, 1, 1, 0, 1, 0, 0, 0, 1], .c [0, 1, 0, 1, 1, 1, 0, 1, 0, 0, 1], .l [0, 1, 0, 1, 1, 1, 0, 1, 0, 0], .b 2, .c [0, 1, 0, 1, 1, 1, 1], .c [1]]) (by kernel_rfl) ?_
    refine RunH.reg (by kernel_rfl) ?_
    refine RgH.runk 4 [0, 10, 13, 58] (vs := []) (evs := []) (L' := [(0, .slice Aa0 v_data0.length ca0), (10, .int .i64 v_i10), (13, .int .i64 v_k13), (58, .bool (decide (v_k13 < (w64 (v_i10 - 1)))))]) (by kernel_rfl) (by kernel_rfl) (fun _ _ => trivial) ?_
    refine RgH.done (by kernel_rfl) ?_
    rcases bool_cases (decide (v_k13 < (w64 (v_i10 - 1)))) with hb2 | hb2
    · replace heq := bif_true hb2 heq
      refine RunH.condT (c := decide (v_k13 < (w64 (v_i10 - 1)))) (by kernel_rfl) hb2 ?_
      refine RunH.adm 3 (es' := [.c [0, 1, 0, 1, 1, 1, 0, 1, 0, 0, 1, 0, 0], .b 3, .c [0, 1, 0, 1, 1, 1, 0, 1, 0, 0, 1, 1], .l [0, 1, 0, 1, 1, 1, 0, 1, 0, 0], .b 2, .c [0, 1, 0, 1, 1, 1, 1], .c [1]]) (by kernel_rfl) ?_
      refine RunH.keep [0, 10, 13] (L' := [(0, .slice Aa0 v_data0.length ca0), (10, .int .i64 v_i10), (13, .int .i64 v_k13)]) (by kernel_rfl) ?_
      refine RunH.draw (fun w => Heap H w0 w (chv_data0 :: F)) (fun w => Heap H w0 w (F)) [3, 3, 3, 3, 3, 3, 3, 3, 3, 3, 3, 3, 3, 3, 3, 1, 3, 2] (n := 18) (ls := [false, false, false, false, false, false, false, false, false, false, false, false, false, false, false, false, false, false]) (by kernel_rfl) (by kernel_rfl) (by kernel_rfl) rfl ?_
      refine DrH.run [0, 1] (m := 16) (ls' := [true, true, false, false, false, false, false, false, false, false, false, false, false, false, false, false, false, false]) (vs := []) (evs := []) (L' := [(62, .int .i64 v_k13), (61, .slice Aa0 v_data0.length ca0), (0, .slice Aa0 v_data0.length ca0), (10, .int .i64 v_i10), (13, .int .i64 v_k13)]) (by kernel_rfl) (fun w hh => hh.pick 1 [0] (by kernel_rfl)) (fun w hh => hh.pick 1 [] (by kernel_rfl)) (by kernel_rfl) (fun _ _ => trivial) (by kernel_rfl) ?_
      refine DrH.keep [0, 10, 13, 61, 62] (L' := [(0, .slice Aa0 v_data0.length ca0), (10, .int .i64 v_i10), (13, .int .i64 v_k13), (61, .slice Aa0 v_data0.length ca0), (62, .int .i64 v_k13)]) (by kernel_rfl) ?_
      refine DrH.run2 [2, 3, 4] (m := 13) (ls' := [true, true, true, true, true, false, false, false, false, false, false, false, false, false, false, false, false, false]) (vs := []) (evs := []) (L' := [(65, .int .i64 (w64 (v_k13 + 1))), (64, .int .i64 v_k13), (63, .slice Aa0 v_data0.length ca0), (0, .slice Aa0 v_data0.length ca0), (10, .int .i64 v_i10), (13, .int .i64 v_k13), (61, .slice Aa0 v_data0.length ca0), (62, .int .i64 v_k13)]) (by kernel_rfl) (fun w hh => hh.pick 1 [] (by kernel_rfl)) (by kernel_rfl) (fun _ _ => trivial) (by kernel_rfl) ?_
      refine DrH.keep [0, 10, 13, 61, 62, 63, 65] (L' := [(0, .slice Aa0 v_data0.length ca0), (10, .int .i64 v_i10), (13, .int .i64 v_k13), (61, .slice Aa0 v_data0.length ca0), (62, .int .i64 v_k13), (63, .slice Aa0 v_data0.length ca0), (65, .int .i64 (w64 (v_k13 + 1)))]) (by kernel_rfl) ?_
      obtain ⟨x1, hx1, heq⟩ := bind_some heq
      obtain ⟨ha1, cs1, hK1, hcc1⟩ := hov_data0.get hx1
      obtain ⟨rfl⟩ := kBlob_open hK1
      refine DrH.run [5, 6, 7, 8, 9] (m := 8) (ls' := [true, true, true, true, true, true, true, true, true, true, false, false, false, false, false, false, false, false]) (vs := [.string x1.Digest, .int .i64 x1.Size, .int .i64 x1.Used, .int .i64 x1.Until, .int .i64 x1.Pins]) (evs := [.need (Aa0 = some (adr Aa0) ∧ (0 : Int) ≤ (w64 (v_k13 + 1)) ∧ (w64 (v_k13 + 1)) < ((v_data0.length : Nat) : Int)), .load (((adr Aa0).add ((w64 (v_k13 + 1)).toNat * 5)).add 0) (.string x1.Digest), .load (((adr Aa0).add ((w64 (v_k13 + 1)).toNat * 5)).add 1) (.int .i64 x1.Size), .load (((adr Aa0).add ((w64 (v_k13 + 1)).toNat * 5)).add 2) (.int .i64 x1.Used), .load (((adr Aa0).add ((w64 (v_k13 + 1)).toNat * 5)).add 3) (.int .i64 x1.Until), .load (((adr Aa0).add ((w64 (v_k13 + 1)).toNat * 5)).add 4) (.int .i64 x1.Pins)]) (L' := [(70, .agg #[.string x1.Digest, .int .i64 x1.Size, .int .i64 x1.Used, .int .i64 x1.Until, .int .i64 x1.Pins]), (69, .pointer (some ((adr Aa0).add ((w64 (v_k13 + 1)).toNat * 5)))), (68, .int .i64 (w64 (v_k13 + 1))), (67, .int .i64 v_k13), (66, .slice Aa0 v_data0.length ca0), (0, .slice Aa0 v_data0.length ca0), (10, .int .i64 v_i10), (13, .int .i64 v_k13), (61, .slice Aa0 v_data0.length ca0), (62, .int .i64 v_k13), (63, .slice Aa0 v_data0.length ca0), (65, .int .i64 (w64 (v_k13 + 1)))]) (by kernel_rfl) (fun w hh => hh.pick 1 [0] (by kernel_rfl)) (fun w hh => hh.pick 1 [] (by kernel_rfl)) (by kernel_rfl) (fun w hh => ⟨⟨ha1, (at?_some hx1).1, (at?_some hx1).2.1⟩, (hcc1 _ (hh.chin 0 rfl) 0 _ rfl), (hcc1 _ (hh.chin 0 rfl) 1 _ rfl), (hcc1 _ (hh.chin 0 rfl) 2 _ rfl), (hcc1 _ (hh.chin 0 rfl) 3 _ rfl), (hcc1 _ (hh.chin 0 rfl) 4 _ rfl)⟩) (by kernel_rfl) ?_
      refine DrH.keep [0, 10, 13, 61, 62, 63, 65, 70] (L' := [(0, .slice Aa0 v_data0.length ca0), (10, .int .i64 v_i10), (13, .int .i64 v_k13), (61, .slice Aa0 v_data0.length ca0), (62, .int .i64 v_k13), (63, .slice Aa0 v_data0.length ca0), (65, .int .i64 (w64 (v_k13 + 1))), (70, .agg #[.string x1.Digest, .int .i64 x1.Size, .int .i64 x1.Used, .int .i64 x1.Until, .int .i64 x1.Pins])]) (by kernel_rfl) ?_
      obtain ⟨x2, hx2, heq⟩ := bind_some heq
      obtain ⟨ha2, cs2, hK2, hcc2⟩ := hov_data0.get hx2
      obtain ⟨rfl⟩ := kBlob_open hK2
      refine DrH.run2 [10, 11, 12] (m := 5) (ls' := [true, true, true, true, true, true, true, true, true, true, true, true, true, false, false, false, false, false]) (vs := []) (evs := [.need (Aa0 = some (adr Aa0) ∧ (0 : Int) ≤ v_k13 ∧ v_k13 < ((v_data0.length : Nat) : Int))]) (L' := [(73, .pointer (some ((adr Aa0).add (v_k13.toNat * 5)))), (72, .int .i64 v_k13), (71, .slice Aa0 v_data0.length ca0), (0, .slice Aa0 v_data0.length ca0), (10, .int .i64 v_i10), (13, .int .i64 v_k13), (61, .slice Aa0 v_data0.length ca0), (62, .int .i64 v_k13), (63, .slice Aa0 v_data0.length ca0), (65, .int .i64 (w64 (v_k13 + 1))), (70, .agg #[.string x1.Digest, .int .i64 x1.Size, .int .i64 x1.Used, .int .i64 x1.Until, .int .i64 x1.Pins])]) (by kernel_rfl) (fun w hh => hh.pick 1 [] (by kernel_rfl)) (by kernel_rfl) (fun w hh => ⟨ha2, (at?_some hx2).1, (at?_some hx2).2.1⟩) (by kernel_rfl) ?_
      refine DrH.keep [0, 10, 13, 61, 62, 63, 65, 70, 73] (L' := [(0, .slice Aa0 v_data0.length ca0), (10, .int .i64 v_i10), (13, .int .i64 v_k13), (61, .slice Aa0 v_data0.length ca0), (62, .int .i64 v_k13), (63, .slice Aa0 v_data0.length ca0), (65, .int .i64 (w64 (v_k13 + 1))), (70, .agg #[.string x1.Digest, .int .i64 x1.Size, .int .i64 x1.Used, .int .i64 x1.Until, .int .i64 x1.Pins]), (73, .pointer (some ((adr Aa0).add (v_k13.toNat * 5))))]) (by kernel_rfl) ?_
      obtain ⟨ha3, cs3, hK3, hcc3⟩ := hov_data0.get hx2
      obtain ⟨rfl⟩ := kBlob_open hK3
      refine DrH.run [13, 14] (m := 3) (ls' := [true, true, true, true, true, true, true, true, true, true, true, true, true, true, true, false, false, false]) (vs := [.string x2.Digest, .int .i64 x2.Size, .int .i64 x2.Used, .int .i64 x2.Until, .int .i64 x2.Pins]) (evs := [.load (((adr Aa0).add (v_k13.toNat * 5)).add 0) (.string x2.Digest), .load (((adr Aa0).add (v_k13.toNat * 5)).add 1) (.int .i64 x2.Size), .load (((adr Aa0).add (v_k13.toNat * 5)).add 2) (.int .i64 x2.Used), .load (((adr Aa0).add (v_k13.toNat * 5)).add 3) (.int .i64 x2.Until), .load (((adr Aa0).add (v_k13.toNat * 5)).add 4) (.int .i64 x2.Pins), .need (Aa0 = some (adr Aa0) ∧ (0 : Int) ≤ v_k13 ∧ v_k13 < ((v_data0.length : Nat) : Int))]) (L' := [(75, .pointer (some ((adr Aa0).add (v_k13.toNat * 5)))), (74, .agg #[.string x2.Digest, .int .i64 x2.Size, .int .i64 x2.Used, .int .i64 x2.Until, .int .i64 x2.Pins]), (0, .slice Aa0 v_data0.length ca0), (10, .int .i64 v_i10), (13, .int .i64 v_k13), (61, .slice Aa0 v_data0.length ca0), (62, .int .i64 v_k13), (63, .slice Aa0 v_data0.length ca0), (65, .int .i64 (w64 (v_k13 + 1))), (70, .agg #[.string x1.Digest, .int .i64 x1.Size, .int .i64 x1.Used, .int .i64 x1.Until, .int .i64 x1.Pins]), (73, .pointer (some ((adr Aa0).add (v_k13.toNat * 5))))]) (by kernel_rfl) (fun w hh => hh.pick 1 [0] (by kernel_rfl)) (fun w hh => hh.pick 1 [] (by kernel_rfl)) (by kernel_rfl) (fun w hh => ⟨(hcc3 _ (hh.chin 0 rfl) 0 _ rfl), (hcc3 _ (hh.chin 0 rfl) 1 _ rfl), (hcc3 _ (hh.chin 0 rfl) 2 _ rfl), (hcc3 _ (hh.chin 0 rfl) 3 _ rfl), (hcc3 _ (hh.chin 0 rfl) 4 _ rfl), ⟨ha3, (at?_some hx2).1, (at?_some hx2).2.1⟩⟩) (by kernel_rfl) ?_
      refine DrH.keep [0, 10, 13, 63, 65, 70, 74, 75] (L' := [(0, .slice Aa0 v_data0.length ca0), (10, .int .i64 v_i10), (13, .int .i64 v_k13), (63, .slice Aa0 v_data0.length ca0), (65, .int .i64 (w64 (v_k13 + 1))), (70, .agg #[.string x1.Digest, .int .i64 x1.Size, .int .i64 x1.Used, .int .i64 x1.Until, .int .i64 x1.Pins]), (74, .agg #[.string x2.Digest, .int .i64 x2.Size, .int .i64 x2.Used, .int .i64 x2.Until, .int .i64 x2.Pins]), (75, .pointer (some ((adr Aa0).add (v_k13.toNat * 5))))]) (by kernel_rfl) ?_
      obtain ⟨ha4, cs4, hK4, hcc4⟩ := hov_data0.get hx2
      obtain ⟨rfl⟩ := kBlob_open hK4
      refine DrH.does (n := 2) (ls' := [true, true, true, true, true, true, true, true, true, true, true, true, true, true, true, true, false, false]) 15 (by kernel_rfl) rfl (DoesH.storeEl (a := ((adr Aa0).add (v_k13.toNat * 5))) (k := 0) (kd := kBlob) (c0 := [.string x2.Digest, .int .i64 x2.Size, .int .i64 x2.Used, .int .i64 x2.Until, .int .i64 x2.Pins]) (x' := x1) (o := 0) (ix := v_k13) (v := .agg #[.string x1.Digest, .int .i64 x1.Size, .int .i64 x1.Used, .int .i64 x1.Until, .int .i64 x1.Pins]) (by kernel_rfl) rfl hov_data0 hx2 (by kernel_rfl) hcc4 rfl (Nat.le_of_ble_eq_true (by kernel_rfl)) kBlob_mk) ?_
      rintro _ _ _ _ ⟨ch1, rfl, rfl, rfl, ho1⟩
      have hn1 : v_data0.length = (v_data0.set v_k13.toNat x1).length := by rw [List.length_set]
      refine ⟨fun _ w hh => ⟨(fun h => by cases h), fun _ => (fun w hh => hh.pick 1 [] (by kernel_rfl)) w hh, (fun h => by cases h)⟩, ?_⟩
      obtain ⟨x3, hx3, heq⟩ := bind_some heq
      obtain ⟨ha5, cs5, hK5, hcc5⟩ := ho1.get hx3
      obtain ⟨rfl⟩ := kBlob_open hK5
      refine DrH.run2 [16] (m := 1) (ls' := [true, true, true, true, true, true, true, true, true, true, true, true, true, true, true, true, true, false]) (vs := []) (evs := [.need (Aa0 = some (adr Aa0) ∧ (0 : Int) ≤ (w64 (v_k13 + 1)) ∧ (w64 (v_k13 + 1)) < ((v_data0.length : Nat) : Int))]) (L' := [(76, .pointer (some ((adr Aa0).add ((w64 (v_k13 + 1)).toNat * 5)))), (0, .slice Aa0 v_data0.length ca0), (10, .int .i64 v_i10), (13, .int .i64 v_k13), (63, .slice Aa0 v_data0.length ca0), (65, .int .i64 (w64 (v_k13 + 1))), (70, .agg #[.string x1.Digest, .int .i64 x1.Size, .int .i64 x1.Used, .int .i64 x1.Until, .int .i64 x1.Pins]), (74, .agg #[.string x2.Digest, .int .i64 x2.Size, .int .i64 x2.Used, .int .i64 x2.Until, .int .i64 x2.Pins]), (75, .pointer (some ((adr Aa0).add (v_k13.toNat * 5))))]) (by kernel_rfl) (fun w hh => hh.pick 1 [] (by kernel_rfl)) (by kernel_rfl) (fun w hh => ⟨ha5, (at?_some hx3).1, (by have := (at?_some hx3).2.1; have := hn1; omega)⟩) (by kernel_rfl) ?_
      refine DrH.keep [0, 10, 13, 74, 76] (L' := [(0, .slice Aa0 v_data0.length ca0), (10, .int .i64 v_i10), (13, .int .i64 v_k13), (74, .agg #[.string x2.Digest, .int .i64 x2.Size, .int .i64 x2.Used, .int .i64 x2.Until, .int .i64 x2.Pins]), (76, .pointer (some ((adr Aa0).add ((w64 (v_k13 + 1)).toNat * 5))))]) (by kernel_rfl) ?_
      obtain ⟨ha6, cs6, hK6, hcc6⟩ := ho1.get hx3
      obtain ⟨rfl⟩ := kBlob_open hK6
      refine DrH.does (n := 0) (ls' := [true, true, true, true, true, true, true, true, true, true, true, true, true, true, true, true, true, true]) 17 (by kernel_rfl) rfl (DoesH.storeEl (a := ((adr Aa0).add ((w64 (v_k13 + 1)).toNat * 5))) (k := 0) (kd := kBlob) (c0 := [.string x3.Digest, .int .i64 x3.Size, .int .i64 x3.Used, .int .i64 x3.Until, .int .i64 x3.Pins]) (x' := x2) (o := 0) (ix := (w64 (v_k13 + 1))) (v := .agg #[.string x2.Digest, .int .i64 x2.Size, .int .i64 x2.Used, .int .i64 x2.Until, .int .i64 x2.Pins]) (by kernel_rfl) rfl ho1 hx3 (by kernel_rfl) hcc6 rfl (Nat.le_of_ble_eq_true (by kernel_rfl)) kBlob_mk) ?_
      rintro _ _ _ _ ⟨ch2, rfl, rfl, rfl, ho2⟩
      have hn2 : v_data0.length = ((v_data0.set v_k13.toNat x1).set (w64 (v_k13 + 1)).toNat x2).length := by rw [List.length_set]; exact hn1
      refine ⟨fun _ w hh => ⟨(fun h => by cases h), (fun h => absurd h (by decide)), (fun h => by cases h)⟩, ?_⟩
      refine DrH.keep [0, 10, 13] (L' := [(0, .slice Aa0 v_data0.length ca0), (10, .int .i64 v_i10), (13, .int .i64 v_k13)]) (by kernel_rfl) ?_
      refine DrH.done (by kernel_rfl) ?_
      refine RunH.adm 1 (es' := [.c [0, 1, 0, 1, 1, 1, 0, 1, 0, 0, 1, 1], .l [0, 1, 0, 1, 1, 1, 0, 1, 0, 0], .b 2, .c [0, 1, 0, 1, 1, 1, 1], .c [1]]) (by kernel_rfl) ?_
      refine RunH.reg (by kernel_rfl) ?_
      refine RgH.runk 3 [0, 10, 13] (vs := []) (evs := []) (L' := [(0, .slice Aa0 v_data0.length ca0), (10, .int .i64 v_i10), (13, .int .i64 (w64 (v_k13 + 1)))]) (by kernel_rfl) (by kernel_rfl) (fun _ _ => trivial) ?_
      refine RgH.done (by kernel_rfl) ?_
      refine RunH.adm 1 (es' := [.c [0, 1, 0, 1, 1, 1, 0, 1, 0, 0], .l [0, 1, 0, 1, 1, 1, 0, 1, 0, 0], .b 2, .c [0, 1, 0, 1, 1, 1, 1], .c [1]]) (by kernel_rfl) ?_
      refine RunH.keep [0, 10, 13] (L' := [(0, .slice Aa0 v_data0.length ca0), (10, .int .i64 v_i10), (13, .int .i64 (w64 (v_k13 + 1)))]) (by kernel_rfl) ?_
      exact ihk _ _ _ v_i10 ((v_data0.set v_k13.toNat x1).set (w64 (v_k13 + 1)).toNat x2) _ _ (w64 (v_k13 + 1)) hn2 hlv_data0 ho2 heq
    · replace heq := bif_false hb2 heq
      refine RunH.condF (c := decide (v_k13 < (w64 (v_i10 - 1)))) (by kernel_rfl) hb2 ?_
      refine RunH.adm 1 (es' := [.c [0, 1, 0, 1, 1, 1, 1], .c [1]]) (by kernel_rfl) ?_
      obtain rfl := Option.some.inj heq
      exact RunH.done (by kernel_rfl) Tryd.func167 (v := .tuple #[]) (by kernel_rfl) ⟨chv_data0, rfl, rfl, rfl, hov_data0, (hlv_data0.trans rfl)⟩
theorem slices_symMergeCmpFunc_Blob.e1_c {w0 : World} {H : Hp} {F : List Ch} {r : (List Blob)} : ∀ (a0 : List Blob) (Aa0 : Option Addr) (ca0 : Nat) (cha0 : Ch) (la0 : Nat) (a1 : Int) (v_i10 : Int) , SlOwn kBlob 47 H Aa0 ca0 a0 cha0 → la0 = a0.length → slices_symMergeCmpFunc_Blob.e1 a0 a1 v_i10 = some r → RunH C167 (S167 F H Aa0 ca0 la0 r) H w0 [.c [0, 1, 0, 1, 1, 1, 0, 0], .c [0, 1, 0, 1, 1, 1, 0, 1], .c [0, 1, 0, 1, 1, 1, 1], .c [1]] [(0, .slice Aa0 a0.length ca0), (1, .int .i64 a1), (10, .int .i64 v_i10)] H (cha0 :: F) := by
  intro a0 Aa0 ca0 cha0 la0 a1 v_i10 hoa0 hla0 heq
  unfold slices_symMergeCmpFunc_Blob.e1 at heq
  refine RunH.reg (by kernel_rfl) ?_
  refine RgH.runk 2 [0, 10, 13] (vs := []) (evs := []) (L' := [(0, .slice Aa0 a0.length ca0), (10, .int .i64 v_i10), (13, .int .i64 a1)]) (by kernel_rfl) (by kernel_rfl) (fun _ _ => trivial) ?_
  refine RgH.done (by kernel_rfl) ?_
  refine RunH.adm 2 (es' := [.c [0, 1, 0, 1, 1, 1, 0, 1, 0, 0], .l [0, 1, 0, 1, 1, 1, 0, 1, 0, 0], .b 2, .c [0, 1, 0, 1, 1, 1, 1], .c [1]]) (by kernel_rfl) ?_
  refine RunH.keep [0, 10, 13] (L' := [(0, .slice Aa0 a0.length ca0), (10, .int .i64 v_i10), (13, .int .i64 a1)]) (by kernel_rfl) ?_
  exact ((slices_symMergeCmpFunc_Blob.l2_c) big) _ _ _ v_i10 a0 _ _ a1 rfl hla0 hoa0 heq
theorem slices_symMergeCmpFunc_Blob.l3_c {w0 : World} {H : Hp} {F : List Ch} {r : (List Blob)} (e1 : (List Blob) → Int → Int → Option (List Blob))
    (he1 : ∀ (a0 : List Blob) (Aa0 : Option Addr) (ca0 : Nat) (cha0 : Ch) (la0 : Nat) (a1 : Int) (v_i10 : Int) , SlOwn kBlob 47 H Aa0 ca0 a0 cha0 → la0 = a0.length → e1 a0 a1 v_i10 = some r → RunH C167 (S167 F H Aa0 ca0 la0 r) H w0 [.c [0, 1, 0, 1, 1, 1, 0, 0], .c [0, 1, 0, 1, 1, 1, 0, 1], .c [0, 1, 0, 1, 1, 1, 1], .c [1]] [(0, .slice Aa0 a0.length ca0), (1, .int .i64 a1), (10, .int .i64 v_i10)] H (cha0 :: F)) : ∀ (k : Nat), ∀ (a0 : List Blob) (Aa0 : Option Addr) (ca0 : Nat) (cha0 : Ch) (la0 : Nat) (a1 : Int) (v_i10 : Int) (v_j11 : Int) , SlOwn kBlob 47 H Aa0 ca0 a0 cha0 → la0 = a0.length → slices_symMergeCmpFunc_Blob.l3 e1 k a0 a1 v_i10 v_j11 = some r → RunH C167 (S167 F H Aa0 ca0 la0 r) H w0 [.c [0, 1, 0, 1, 1, 0, 0, 0], .l [0, 1, 0, 1, 1, 0, 0, 0], .b 0, .c [0, 1, 0, 1, 1, 1], .c [1]] [(0, .slice Aa0 a0.length ca0), (1, .int .i64 a1), (4, .func (.func 123) #[] #[]), (10, .int .i64 v_i10), (11, .int .i64 v_j11)] H (cha0 :: F) := by
  intro k
  induction k with
  | zero => intro a0 Aa0 ca0 cha0 la0 a1 v_i10 v_j11 hoa0 hla0 heq; exact nomatch (show (none : Option (List Blob)) = some r from heq)
  | succ k ihk =>
    intro a0 Aa0 ca0 cha0 la0 a1 v_i10 v_j11 hoa0 hla0 heq
    rw [slices_symMergeCmpFunc_Blob.l3] at heq
    refine RunH.adm 2 (es' := [.c [0, 1, 0, 1, 1, 0, 0, 0, 0, 0], .c [0, 1, 0, 1, 1, 0, 0, 0, 0, 1], .c [0, 1, 0, 1, 1, 0, 0, 0, 1], .l [0, 1, 0, 1, 1, 0, 0, 0], .b 0, .c [0, 1, 0, 1, 1, 1], .c [1]]) (by kernel_rfl) ?_
    refine RunH.reg (by kernel_rfl) ?_
    refine RgH.runk 3 [0, 1, 4, 10, 11, 33] (vs := []) (evs := []) (L' := [(0, .slice Aa0 a0.length ca0), (1, .int .i64 a1), (4, .func (.func 123) #[] #[]), (10, .int .i64 v_i10), (11, .int .i64 v_j11), (33, .bool (decide (v_i10 < v_j11)))]) (by kernel_rfl) (by kernel_rfl) (fun _ _ => trivial) ?_
    refine RgH.done (by kernel_rfl) ?_
    rcases bool_cases (decide (v_i10 < v_j11)) with hb3 | hb3
    · replace heq := bif_true hb3 heq
      refine RunH.condT (c := decide (v_i10 < v_j11)) (by kernel_rfl) hb3 ?_
      refine RunH.adm 3 (es' := [.c [0, 1, 0, 1, 1, 0, 0, 0, 1, 0, 0], .c [0, 1, 0, 1, 1, 0, 0, 0, 1, 0, 1], .b 1, .l [0, 1, 0, 1, 1, 0, 0, 0], .b 0, .c [0, 1, 0, 1, 1, 1], .c [1]]) (by kernel_rfl) ?_
      refine RunH.reg (by kernel_rfl) ?_
      refine RgH.runk 7 [0, 1, 4, 10, 11, 12] (vs := []) (evs := [.need ((0 : Int) ≤ 1)]) (L' := [(0, .slice Aa0 a0.length ca0), (1, .int .i64 a1), (4, .func (.func 123) #[] #[]), (10, .int .i64 v_i10), (11, .int .i64 v_j11), (12, .int .i64 (w64 (iShr .u64 (IntKind.wrap .u64 (w64 (v_i10 + v_j11))) 1)))]) (by kernel_rfl) (by kernel_rfl) (fun w hh => (show (0 : Int) ≤ 1 by decide)) ?_
      refine RgH.done (by kernel_rfl) ?_
      refine RunH.adm 1 (es' := [.c [0, 1, 0, 1, 1, 0, 0, 0, 1, 0, 1, 0], .c [0, 1, 0, 1, 1, 0, 0, 0, 1, 0, 1, 1], .b 1, .l [0, 1, 0, 1, 1, 0, 0, 0], .b 0, .c [0, 1, 0, 1, 1, 1], .c [1]]) (by kernel_rfl) ?_
      refine RunH.keep [0, 1, 4, 10, 11, 12] (L' := [(0, .slice Aa0 a0.length ca0), (1, .int .i64 a1), (4, .func (.func 123) #[] #[]), (10, .int .i64 v_i10), (11, .int .i64 v_j11), (12, .int .i64 (w64 (iShr .u64 (IntKind.wrap .u64 (w64 (v_i10 + v_j11))) 1)))]) (by kernel_rfl) ?_
      refine RunH.draw (fun w => Heap H w0 w (cha0 :: F)) (fun w => Heap H w0 w (cha0 :: F)) [3, 3, 3, 3, 3, 3, 3, 3, 3, 0, 3] (n := 11) (ls := [false, false, false, false, false, false, false, false, false, false, false]) (by kernel_rfl) (by kernel_rfl) (by kernel_rfl) rfl ?_
      obtain ⟨x4, hx4, heq⟩ := bind_some heq
      obtain ⟨ha7, cs7, hK7, hcc7⟩ := hoa0.get hx4
      obtain ⟨rfl⟩ := kBlob_open hK7
      obtain ⟨x5, hx5, heq⟩ := bind_some heq
      obtain ⟨ha8, cs8, hK8, hcc8⟩ := hoa0.get hx5
      obtain ⟨rfl⟩ := kBlob_open hK8
      refine DrH.run [0, 1, 2, 3, 4, 5, 6, 7, 8] (m := 2) (ls' := [true, true, true, true, true, true, true, true, true, false, false]) (vs := [.string x4.Digest, .int .i64 x4.Size, .int .i64 x4.Used, .int .i64 x4.Until, .int .i64 x4.Pins, .string x5.Digest, .int .i64 x5.Size, .int .i64 x5.Used, .int .i64 x5.Until, .int .i64 x5.Pins]) (evs := [.need (Aa0 = some (adr Aa0) ∧ (0 : Int) ≤ (w64 (iShr .u64 (IntKind.wrap .u64 (w64 (v_i10 + v_j11))) 1)) ∧ (w64 (iShr .u64 (IntKind.wrap .u64 (w64 (v_i10 + v_j11))) 1)) < ((a0.length : Nat) : Int)), .load (((adr Aa0).add ((w64 (iShr .u64 (IntKind.wrap .u64 (w64 (v_i10 + v_j11))) 1)).toNat * 5)).add 0) (.string x4.Digest), .load (((adr Aa0).add ((w64 (iShr .u64 (IntKind.wrap .u64 (w64 (v_i10 + v_j11))) 1)).toNat * 5)).add 1) (.int .i64 x4.Size), .load (((adr Aa0).add ((w64 (iShr .u64 (IntKind.wrap .u64 (w64 (v_i10 + v_j11))) 1)).toNat * 5)).add 2) (.int .i64 x4.Used), .load (((adr Aa0).add ((w64 (iShr .u64 (IntKind.wrap .u64 (w64 (v_i10 + v_j11))) 1)).toNat * 5)).add 3) (.int .i64 x4.Until), .load (((adr Aa0).add ((w64 (iShr .u64 (IntKind.wrap .u64 (w64 (v_i10 + v_j11))) 1)).toNat * 5)).add 4) (.int .i64 x4.Pins), .need (Aa0 = some (adr Aa0) ∧ (0 : Int) ≤ a1 ∧ a1 < ((a0.length : Nat) : Int)), .load (((adr Aa0).add (a1.toNat * 5)).add 0) (.string x5.Digest), .load (((adr Aa0).add (a1.toNat * 5)).add 1) (.int .i64 x5.Size), .load (((adr Aa0).add (a1.toNat * 5)).add 2) (.int .i64 x5.Used), .load (((adr Aa0).add (a1.toNat * 5)).add 3) (.int .i64 x5.Until), .load (((adr Aa0).add (a1.toNat * 5)).add 4) (.int .i64 x5.Pins)]) (L' := [(48, .agg #[.string x5.Digest, .int .i64 x5.Size, .int .i64 x5.Used, .int .i64 x5.Until, .int .i64 x5.Pins]), (47, .pointer (some ((adr Aa0).add (a1.toNat * 5)))), (46, .int .i64 a1), (45, .slice Aa0 a0.length ca0), (44, .agg #[.string x4.Digest, .int .i64 x4.Size, .int .i64 x4.Used, .int .i64 x4.Until, .int .i64 x4.Pins]), (43, .pointer (some ((adr Aa0).add ((w64 (iShr .u64 (IntKind.wrap .u64 (w64 (v_i10 + v_j11))) 1)).toNat * 5)))), (42, .int .i64 (w64 (iShr .u64 (IntKind.wrap .u64 (w64 (v_i10 + v_j11))) 1))), (41, .slice Aa0 a0.length ca0), (40, .func (.func 123) #[] #[]), (0, .slice Aa0 a0.length ca0), (1, .int .i64 a1), (4, .func (.func 123) #[] #[]), (10, .int .i64 v_i10), (11, .int .i64 v_j11), (12, .int .i64 (w64 (iShr .u64 (IntKind.wrap .u64 (w64 (v_i10 + v_j11))) 1)))]) (by kernel_rfl) (fun w hh => hh.pick 1 [0] (by kernel_rfl)) (fun w hh => hh.pick 1 [0] (by kernel_rfl)) (by kernel_rfl) (fun w hh => ⟨⟨ha7, (at?_some hx4).1, (at?_some hx4).2.1⟩, (hcc7 _ (hh.chin 0 rfl) 0 _ rfl), (hcc7 _ (hh.chin 0 rfl) 1 _ rfl), (hcc7 _ (hh.chin 0 rfl) 2 _ rfl), (hcc7 _ (hh.chin 0 rfl) 3 _ rfl), (hcc7 _ (hh.chin 0 rfl) 4 _ rfl), ⟨ha8, (at?_some hx5).1, (at?_some hx5).2.1⟩, (hcc8 _ (hh.chin 0 rfl) 0 _ rfl), (hcc8 _ (hh.chin 0 rfl) 1 _ rfl), (hcc8 _ (hh.chin 0 rfl) 2 _ rfl), (hcc8 _ (hh.chin 0 rfl) 3 _ rfl), (hcc8 _ (hh.chin 0 rfl) 4 _ rfl)⟩) (by kernel_rfl) ?_
      refine DrH.keep [0, 1, 4, 10, 11, 12, 40, 44, 48] (L' := [(0, .slice Aa0 a0.length ca0), (1, .int .i64 a1), (4, .func (.func 123) #[] #[]), (10, .int .i64 v_i10), (11, .int .i64 v_j11), (12, .int .i64 (w64 (iShr .u64 (IntKind.wrap .u64 (w64 (v_i10 + v_j11))) 1))), (40, .func (.func 123) #[] #[]), (44, .agg #[.string x4.Digest, .int .i64 x4.Size, .int .i64 x4.Used, .int .i64 x4.Until, .int .i64 x4.Pins]), (48, .agg #[.string x5.Digest, .int .i64 x5.Size, .int .i64 x5.Used, .int .i64 x5.Until, .int .i64 x5.Pins])]) (by kernel_rfl) ?_
      obtain ⟨y1, hy1, heq⟩ := bind_some heq
      refine DrH.does (n := 1) (ls' := [true, true, true, true, true, true, true, true, true, true, false]) 9 (by kernel_rfl) rfl (DoesH.call (d := 49) (g := 123) (args := #[.agg #[.string x4.Digest, .int .i64 x4.Size, .int .i64 x4.Used, .int .i64 x4.Until, .int .i64 x4.Pins], .agg #[.string x5.Digest, .int .i64 x5.Size, .int .i64 x5.Used, .int .i64 x5.Until, .int .i64 x5.Pins]]) (by kernel_rfl) (cache_leaving_2_c (a0 := x4) (a1 := x5)  hy1)) ?_
      rintro _ _ _ _ ⟨_, rfl, rfl, rfl, rfl⟩
      refine ⟨fun _ w hh => ⟨fun _ => (fun w hh => hh.pick 1 [0] (by kernel_rfl)) w hh, fun _ => (fun w hh => hh.pick 1 [0] (by kernel_rfl)) w hh, (fun h => by cases h)⟩, ?_⟩
      refine DrH.run [10] (m := 0) (ls' := [true, true, true, true, true, true, true, true, true, true, true]) (vs := []) (evs := []) (L' := [(50, .bool (decide (y1 < 0))), (49, .int .i64 y1), (0, .slice Aa0 a0.length ca0), (1, .int .i64 a1), (4, .func (.func 123) #[] #[]), (10, .int .i64 v_i10), (11, .int .i64 v_j11), (12, .int .i64 (w64 (iShr .u64 (IntKind.wrap .u64 (w64 (v_i10 + v_j11))) 1))), (40, .func (.func 123) #[] #[]), (44, .agg #[.string x4.Digest, .int .i64 x4.Size, .int .i64 x4.Used, .int .i64 x4.Until, .int .i64 x4.Pins]), (48, .agg #[.string x5.Digest, .int .i64 x5.Size, .int .i64 x5.Used, .int .i64 x5.Until, .int .i64 x5.Pins])]) (by kernel_rfl) (fun w hh => hh.pick 1 [0] (by kernel_rfl)) (fun w hh => hh.pick 1 [0] (by kernel_rfl)) (by kernel_rfl) (fun _ _ => trivial) (by kernel_rfl) ?_
      refine DrH.keep [0, 1, 4, 10, 11, 12, 50] (L' := [(0, .slice Aa0 a0.length ca0), (1, .int .i64 a1), (4, .func (.func 123) #[] #[]), (10, .int .i64 v_i10), (11, .int .i64 v_j11), (12, .int .i64 (w64 (iShr .u64 (IntKind.wrap .u64 (w64 (v_i10 + v_j11))) 1))), (50, .bool (decide (y1 < 0)))]) (by kernel_rfl) ?_
      refine DrH.done (by kernel_rfl) ?_
      rcases bool_cases (decide (y1 < 0)) with hb4 | hb4
      · replace heq := bif_true hb4 heq
        refine RunH.condT (c := decide (y1 < 0)) (by kernel_rfl) hb4 ?_
        refine RunH.reg (by kernel_rfl) ?_
        refine RgH.runk 3 [0, 1, 4, 10, 11] (vs := []) (evs := []) (L' := [(0, .slice Aa0 a0.length ca0), (1, .int .i64 a1), (4, .func (.func 123) #[] #[]), (10, .int .i64 (w64 ((w64 (iShr .u64 (IntKind.wrap .u64 (w64 (v_i10 + v_j11))) 1)) + 1))), (11, .int .i64 v_j11)]) (by kernel_rfl) (by kernel_rfl) (fun _ _ => trivial) ?_
        refine RgH.done (by kernel_rfl) ?_
        refine RunH.adm 2 (es' := [.c [0, 1, 0, 1, 1, 0, 0, 0], .l [0, 1, 0, 1, 1, 0, 0, 0], .b 0, .c [0, 1, 0, 1, 1, 1], .c [1]]) (by kernel_rfl) ?_
        refine RunH.keep [0, 1, 4, 10, 11] (L' := [(0, .slice Aa0 a0.length ca0), (1, .int .i64 a1), (4, .func (.func 123) #[] #[]), (10, .int .i64 (w64 ((w64 (iShr .u64 (IntKind.wrap .u64 (w64 (v_i10 + v_j11))) 1)) + 1))), (11, .int .i64 v_j11)]) (by kernel_rfl) ?_
        exact ihk a0 _ _ _ _ a1 (w64 ((w64 (iShr .u64 (IntKind.wrap .u64 (w64 (v_i10 + v_j11))) 1)) + 1)) v_j11 hoa0 hla0 heq
      · replace heq := bif_false hb4 heq
        refine RunH.condF (c := decide (y1 < 0)) (by kernel_rfl) hb4 ?_
        refine RunH.reg (by kernel_rfl) ?_
        refine RgH.runk 2 [0, 1, 4, 10, 11] (vs := []) (evs := []) (L' := [(0, .slice Aa0 a0.length ca0), (1, .int .i64 a1), (4, .func (.func 123) #[] #[]), (10, .int .i64 v_i10), (11, .int .i64 (w64 (iShr .u64 (IntKind.wrap .u64 (w64 (v_i10 + v_j11))) 1)))]) (by kernel_rfl) (by kernel_rfl) (fun _ _ => trivial) ?_
        refine RgH.done (by kernel_rfl) ?_
        refine RunH.adm 2 (es' := [.c [0, 1, 0, 1, 1, 0, 0, 0], .l [0, 1, 0, 1, 1, 0, 0, 0], .b 0, .c [0, 1, 0, 1, 1, 1], .c [1]]) (by kernel_rfl) ?_
        refine RunH.keep [0, 1, 4, 10, 11] (L' := [(0, .slice Aa0 a0.length ca0), (1, .int .i64 a1), (4, .func (.func 123) #[] #[]), (10, .int .i64 v_i10), (11, .int .i64 (w64 (iShr .u64 (IntKind.wrap .u64 (w64 (v_i10 + v_j11))) 1)))]) (by kernel_rfl) ?_
        exact ihk a0 _ _ _ _ a1 v_i10 (w64 (iShr .u64 (IntKind.wrap .u64 (w64 (v_i10 + v_j11))) 1)) hoa0 hla0 heq
    · replace heq := bif_false hb3 heq
      refine RunH.condF (c := decide (v_i10 < v_j11)) (by kernel_rfl) hb3 ?_
      refine RunH.adm 3 (es' := [.c [0, 1, 0, 1, 1, 1, 0, 0], .c [0, 1, 0, 1, 1, 1, 0, 1], .c [0, 1, 0, 1, 1, 1, 1], .c [1]]) (by kernel_rfl) ?_
      refine RunH.keep [0, 1, 10] (L' := [(0, .slice Aa0 a0.length ca0), (1, .int .i64 a1), (10, .int .i64 v_i10)]) (by kernel_rfl) ?_
      exact he1 a0 _ _ _ _ a1 v_i10 hoa0 hla0 heq
theorem slices_symMergeCmpFunc_Blob.l5_c {w0 : World} {H : Hp} {F : List Ch} {r : (List Blob)} : ∀ (k : Nat), ∀ (Aa0 : Option Addr) (ca0 : Nat) (la0 : Nat) (v_i14 : Int) (v_data0 : List Blob) (chv_data0 : Ch) (nv_data0 : Nat) (v_k17 : Int) , nv_data0 = v_data0.length → la0 = nv_data0 → SlOwn kBlob 47 H Aa0 ca0 v_data0 chv_data0 → slices_symMergeCmpFunc_Blob.l5 k v_i14 v_data0 v_k17 = some r → RunH C167 (S167 F H Aa0 ca0 la0 r) H w0 [.c [1, 0, 1, 0, 1, 1, 1, 0, 1, 0, 0], .l [1, 0, 1, 0, 1, 1, 1, 0, 1, 0, 0], .b 6, .c [1, 0, 1, 0, 1, 1, 1, 1], .c [1, 1]] [(0, .slice Aa0 nv_data0 ca0), (14, .int .i64 v_i14), (17, .int .i64 v_k17)] H (chv_data0 :: F) := by
  intro k
  induction k with
  | zero => intro Aa0 ca0 la0 v_i14 v_data0 chv_data0 nv_data0 v_k17 hnv_data0 hlv_data0 hov_data0 heq; exact nomatch (show (none : Option (List Blob)) = some r from heq)
  | succ k ihk =>
    intro Aa0 ca0 la0 v_i14 v_data0 chv_data0 nv_data0 v_k17 hnv_data0 hlv_data0 hov_data0 heq
    subst hnv_data0
    rw [slices_symMergeCmpFunc_Blob.l5] at heq
    refine RunH.adm 2 (es' := [.c [1, 0, 1, 0, 1, 1, 1, 0, 1, 0, 0, 0, 0], .c [1, 0, 1, 0, 1, 1, 1, 0, 1, 0, 0, 0, 1], .c [1, 0, 1, 0, 1, 1, 1, 0, 1, 0, 0, 1], .l [1, 0, 1, 0, 1, 1, 1, 0, 1, 0, 0], .b 6, .c [1, 0, 1, 0, 1, 1, 1, 1], .c [1, 1]]) (by kernel_rfl) ?_
    refine RunH.reg (by kernel_rfl) ?_
    refine RgH.runk 3 [0, 14, 17, 110] (vs := []) (evs := []) (L' := [(0, .slice Aa0 v_data0.length ca0), (14, .int .i64 v_i14), (17, .int .i64 v_k17), (110, .bool (decide (v_i14 < v_k17)))]) (by kernel_rfl) (by kernel_rfl) (fun _ _ => trivial) ?_
    refine RgH.done (by kernel_rfl) ?_
    rcases bool_cases (decide (v_i14 < v_k17)) with hb6 | hb6
    · replace heq := bif_true hb6 heq
      refine RunH.condT (c := decide (v_i14 < v_k17)) (by kernel_rfl) hb6 ?_
      refine RunH.adm 3 (es' := [.c [1, 0, 1, 0, 1, 1, 1, 0, 1, 0, 0, 1, 0, 0], .b 7, .c [1, 0, 1, 0, 1, 1, 1, 0, 1, 0, 0, 1, 1], .l [1, 0, 1, 0, 1, 1, 1, 0, 1, 0, 0], .b 6, .c [1, 0, 1, 0, 1, 1, 1, 1], .c [1, 1]]) (by kernel_rfl) ?_
      refine RunH.keep [0, 14, 17] (L' := [(0, .slice Aa0 v_data0.length ca0), (14, .int .i64 v_i14), (17, .int .i64 v_k17)]) (by kernel_rfl) ?_
      refine RunH.draw (fun w => Heap H w0 w (chv_data0 :: F)) (fun w => Heap H w0 w (F)) [3, 3, 3, 3, 3, 3, 3, 3, 3, 3, 3, 3, 3, 3, 3, 1, 3, 2] (n := 18) (ls := [false, false, false, false, false, false, false, false, false, false, false, false, false, false, false, false, false, false]) (by kernel_rfl) (by kernel_rfl) (by kernel_rfl) rfl ?_
      refine DrH.run [0, 1] (m := 16) (ls' := [true, true, false, false, false, false, false, false, false, false, false, false, false, false, false, false, false, false]) (vs := []) (evs := []) (L' := [(114, .int .i64 v_k17), (113, .slice Aa0 v_data0.length ca0), (0, .slice Aa0 v_data0.length ca0), (14, .int .i64 v_i14), (17, .int .i64 v_k17)]) (by kernel_rfl) (fun w hh => hh.pick 1 [0] (by kernel_rfl)) (fun w hh => hh.pick 1 [] (by kernel_rfl)) (by kernel_rfl) (fun _ _ => trivial) (by kernel_rfl) ?_
      refine DrH.keep [0, 14, 17, 113, 114] (L' := [(0, .slice Aa0 v_data0.length ca0), (14, .int .i64 v_i14), (17, .int .i64 v_k17), (113, .slice Aa0 v_data0.length ca0), (114, .int .i64 v_k17)]) (by kernel_rfl) ?_
      refine DrH.run2 [2, 3, 4] (m := 13) (ls' := [true, true, true, true, true, false, false, false, false, false, false, false, false, false, false, false, false, false]) (vs := []) (evs := []) (L' := [(117, .int .i64 (w64 (v_k17 - 1))), (116, .int .i64 v_k17), (115, .slice Aa0 v_data0.length ca0), (0, .slice Aa0 v_data0.length ca0), (14, .int .i64 v_i14), (17, .int .i64 v_k17), (113, .slice Aa0 v_data0.length ca0), (114, .int .i64 v_k17)]) (by kernel_rfl) (fun w hh => hh.pick 1 [] (by kernel_rfl)) (by kernel_rfl) (fun _ _ => trivial) (by kernel_rfl) ?_
      refine DrH.keep [0, 14, 17, 113, 114, 115, 117] (L' := [(0, .slice Aa0 v_data0.length ca0), (14, .int .i64 v_i14), (17, .int .i64 v_k17), (113, .slice Aa0 v_data0.length ca0), (114, .int .i64 v_k17), (115, .slice Aa0 v_data0.length ca0), (117, .int .i64 (w64 (v_k17 - 1)))]) (by kernel_rfl) ?_
      obtain ⟨x6, hx6, heq⟩ := bind_some heq
      obtain ⟨ha9, cs9, hK9, hcc9⟩ := hov_data0.get hx6
      obtain ⟨rfl⟩ := kBlob_open hK9
      refine DrH.run [5, 6, 7, 8, 9] (m := 8) (ls' := [true, true, true, true, true, true, true, true, true, true, false, false, false, false, false, false, false, false]) (vs := [.string x6.Digest, .int .i64 x6.Size, .int .i64 x6.Used, .int .i64 x6.Until, .int .i64 x6.Pins]) (evs := [.need (Aa0 = some (adr Aa0) ∧ (0 : Int) ≤ (w64 (v_k17 - 1)) ∧ (w64 (v_k17 - 1)) < ((v_data0.length : Nat) : Int)), .load (((adr Aa0).add ((w64 (v_k17 - 1)).toNat * 5)).add 0) (.string x6.Digest), .load (((adr Aa0).add ((w64 (v_k17 - 1)).toNat * 5)).add 1) (.int .i64 x6.Size), .load (((adr Aa0).add ((w64 (v_k17 - 1)).toNat * 5)).add 2) (.int .i64 x6.Used), .load (((adr Aa0).add ((w64 (v_k17 - 1)).toNat * 5)).add 3) (.int .i64 x6.Until), .load (((adr Aa0).add ((w64 (v_k17 - 1)).toNat * 5)).add 4) (.int .i64 x6.Pins)]) (L' := [(122, .agg #[.string x6.Digest, .int .i64 x6.Size, .int .i64 x6.Used, .int .i64 x6.Until, .int .i64 x6.Pins]), (121, .pointer (some ((adr Aa0).add ((w64 (v_k17 - 1)).toNat * 5)))), (120, .int .i64 (w64 (v_k17 - 1))), (119, .int .i64 v_k17), (118, .slice Aa0 v_data0.length ca0), (0, .slice Aa0 v_data0.length ca0), (14, .int .i64 v_i14), (17, .int .i64 v_k17), (113, .slice Aa0 v_data0.length ca0), (114, .int .i64 v_k17), (115, .slice Aa0 v_data0.length ca0), (117, .int .i64 (w64 (v_k17 - 1)))]) (by kernel_rfl) (fun w hh => hh.pick 1 [0] (by kernel_rfl)) (fun w hh => hh.pick 1 [] (by kernel_rfl)) (by kernel_rfl) (fun w hh => ⟨⟨ha9, (at?_some hx6).1, (at?_some hx6).2.1⟩, (hcc9 _ (hh.chin 0 rfl) 0 _ rfl), (hcc9 _ (hh.chin 0 rfl) 1 _ rfl), (hcc9 _ (hh.chin 0 rfl) 2 _ rfl), (hcc9 _ (hh.chin 0 rfl) 3 _ rfl), (hcc9 _ (hh.chin 0 rfl) 4 _ rfl)⟩) (by kernel_rfl) ?_
      refine DrH.keep [0, 14, 17, 113, 114, 115, 117, 122] (L' := [(0, .slice Aa0 v_data0.length ca0), (14, .int .i64 v_i14), (17, .int .i64 v_k17), (113, .slice Aa0 v_data0.length ca0), (114, .int .i64 v_k17), (115, .slice Aa0 v_data0.length ca0), (117, .int .i64 (w64 (v_k17 - 1))), (122, .agg #[.string x6.Digest, .int .i64 x6.Size, .int .i64 x6.Used, .int .i64 x6.Until, .int .i64 x6.Pins])]) (by kernel_rfl) ?_
      obtain ⟨x7, hx7, heq⟩ := bind_some heq
      obtain ⟨ha10, cs10, hK10, hcc10⟩ := hov_data0.get hx7
      obtain ⟨rfl⟩ := kBlob_open hK10
      refine DrH.run2 [10, 11, 12] (m := 5) (ls' := [true, true, true, true, true, true, true, true, true, true, true, true, true, false, false, false, false, false]) (vs := []) (evs := [.need (Aa0 = some (adr Aa0) ∧ (0 : Int) ≤ v_k17 ∧ v_k17 < ((v_data0.length : Nat) : Int))]) (L' := [(125, .pointer (some ((adr Aa0).add (v_k17.toNat * 5)))), (124, .int .i64 v_k17), (123, .slice Aa0 v_data0.length ca0), (0, .slice Aa0 v_data0.length ca0), (14, .int .i64 v_i14), (17, .int .i64 v_k17), (113, .slice Aa0 v_data0.length ca0), (114, .int .i64 v_k17), (115, .slice Aa0 v_data0.length ca0), (117, .int .i64 (w64 (v_k17 - 1))), (122, .agg #[.string x6.Digest, .int .i64 x6.Size, .int .i64 x6.Used, .int .i64 x6.Until, .int .i64 x6.Pins])]) (by kernel_rfl) (fun w hh => hh.pick 1 [] (by kernel_rfl)) (by kernel_rfl) (fun w hh => ⟨ha10, (at?_some hx7).1, (at?_some hx7).2.1⟩) (by kernel_rfl) ?_
      refine DrH.keep [0, 14, 17, 113, 114, 115, 117, 122, 125] (L' := [(0, .slice Aa0 v_data0.length ca0), (14, .int .i64 v_i14), (17, .int .i64 v_k17), (113, .slice Aa0 v_data0.length ca0), (114, .int .i64 v_k17), (115, .slice Aa0 v_data0.length ca0), (117, .int .i64 (w64 (v_k17 - 1))), (122, .agg #[.string x6.Digest, .int .i64 x6.Size, .int .i64 x6.Used, .int .i64 x6.Until, .int .i64 x6.Pins]), (125, .pointer (some ((adr Aa0).add (v_k17.toNat * 5))))]) (by kernel_rfl) ?_
      obtain ⟨ha11, cs11, hK11, hcc11⟩ := hov_data0.get hx7
      obtain ⟨rfl⟩ := kBlob_open hK11
      refine DrH.run [13, 14] (m := 3) (ls' := [true, true, true, true, true, true, true, true, true, true, true, true, true, true, true, false, false, false]) (vs := [.string x7.Digest, .int .i64 x7.Size, .int .i64 x7.Used, .int .i64 x7.Until, .int .i64 x7.Pins]) (evs := [.load (((adr Aa0).add (v_k17.toNat * 5)).add 0) (.string x7.Digest), .load (((adr Aa0).add (v_k17.toNat * 5)).add 1) (.int .i64 x7.Size), .load (((adr Aa0).add (v_k17.toNat * 5)).add 2) (.int .i64 x7.Used), .load (((adr Aa0).add (v_k17.toNat * 5)).add 3) (.int .i64 x7.Until), .load (((adr Aa0).add (v_k17.toNat * 5)).add 4) (.int .i64 x7.Pins), .need (Aa0 = some (adr Aa0) ∧ (0 : Int) ≤ v_k17 ∧ v_k17 < ((v_data0.length : Nat) : Int))]) (L' := [(127, .pointer (some ((adr Aa0).add (v_k17.toNat * 5)))), (126, .agg #[.string x7.Digest, .int .i64 x7.Size, .int .i64 x7.Used, .int .i64 x7.Until, .int .i64 x7.Pins]), (0, .slice Aa0 v_data0.length ca0), (14, .int .i64 v_i14), (17, .int .i64 v_k17), (113, .slice Aa0 v_data0.length ca0), (114, .int .i64 v_k17), (115, .slice Aa0 v_data0.length ca0), (117, .int .i64 (w64 (v_k17 - 1))), (122, .agg #[.string x6.Digest, .int .i64 x6.Size, .int .i64 x6.Used, .int .i64 x6.Until, .int .i64 x6.Pins]), (125, .pointer (some ((adr Aa0).add (v_k17.toNat * 5))))]) (by kernel_rfl) (fun w hh => hh.pick 1 [0] (by kernel_rfl)) (fun w hh => hh.pick 1 [] (by kernel_rfl)) (by kernel_rfl) (fun w hh => ⟨(hcc11 _ (hh.chin 0 rfl) 0 _ rfl), (hcc11 _ (hh.chin 0 rfl) 1 _ rfl), (hcc11 _ (hh.chin 0 rfl) 2 _ rfl), (hcc11 _ (hh.chin 0 rfl) 3 _ rfl), (hcc11 _ (hh.chin 0 rfl) 4 _ rfl), ⟨ha11, (at?_some hx7).1, (at?_some hx7).2.1⟩⟩) (by kernel_rfl) ?_
      refine DrH.keep [0, 14, 17, 115, 117, 122, 126, 127] (L' := [(0, .slice Aa0 v_data0.length ca0), (14, .int .i64 v_i14), (17, .int .i64 v_k17), (115, .slice Aa0 v_data0.length ca0), (117, .int .i64 (w64 (v_k17 - 1))), (122, .agg #[.string x6.Digest, .int .i64 x6.Size, .int .i64 x6.Used, .int .i64 x6.Until, .int .i64 x6.Pins]), (126, .agg #[.string x7.Digest, .int .i64 x7.Size, .int .i64 x7.Used, .int .i64 x7.Until, .int .i64 x7.Pins]), (127, .pointer (some ((adr Aa0).add (v_k17.toNat * 5))))]) (by kernel_rfl) ?_
      obtain ⟨ha12, cs12, hK12, hcc12⟩ := hov_data0.get hx7
      obtain ⟨rfl⟩ := kBlob_open hK12
      refine DrH.does (n := 2) (ls' := [true, true, true, true, true, true, true, true, true, true, true, true, true, true, true, true, false, false]) 15 (by kernel_rfl) rfl (DoesH.storeEl (a := ((adr Aa0).add (v_k17.toNat * 5))) (k := 0) (kd := kBlob) (c0 := [.string x7.Digest, .int .i64 x7.Size, .int .i64 x7.Used, .int .i64 x7.Until, .int .i64 x7.Pins]) (x' := x6) (o := 0) (ix := v_k17) (v := .agg #[.string x6.Digest, .int .i64 x6.Size, .int .i64 x6.Used, .int .i64 x6.Until, .int .i64 x6.Pins]) (by kernel_rfl) rfl hov_data0 hx7 (by kernel_rfl) hcc12 rfl (Nat.le_of_ble_eq_true (by kernel_rfl)) kBlob_mk) ?_
      rintro _ _ _ _ ⟨ch3, rfl, rfl, rfl, ho3⟩
      have hn3 : v_data0.length = (v_data0.set v_k17.toNat x6).length := by rw [List.length_set]
      refine ⟨fun _ w hh => ⟨(fun h => by cases h), fun _ => (fun w hh => hh.pick 1 [] (by kernel_rfl)) w hh, (fun h => by cases h)⟩, ?_⟩
      obtain ⟨x8, hx8, heq⟩ := bind_some heq
      obtain ⟨ha13, cs13, hK13, hcc13⟩ := ho3.get hx8
      obtain ⟨rfl⟩ := kBlob_open hK13
      refine DrH.run2 [16] (m := 1) (ls' := [true, true, true, true, true, true, true, true, true, true, true, true, true, true, true, true, true, false]) (vs := []) (evs := [.need (Aa0 = some (adr Aa0) ∧ (0 : Int) ≤ (w64 (v_k17 - 1)) ∧ (w64 (v_k17 - 1)) < ((v_data0.length : Nat) : Int))]) (L' := [(128, .pointer (some ((adr Aa0).add ((w64 (v_k17 - 1)).toNat * 5)))), (0, .slice Aa0 v_data0.length ca0), (14, .int .i64 v_i14), (17, .int .i64 v_k17), (115, .slice Aa0 v_data0.length ca0), (117, .int .i64 (w64 (v_k17 - 1))), (122, .agg #[.string x6.Digest, .int .i64 x6.Size, .int .i64 x6.Used, .int .i64 x6.Until, .int .i64 x6.Pins]), (126, .agg #[.string x7.Digest, .int .i64 x7.Size, .int .i64 x7.Used, .int .i64 x7.Until, .int .i64 x7.Pins]), (127, .pointer (some ((adr Aa0).add (v_k17.toNat * 5))))]) (by kernel_rfl) (fun w hh => hh.pick 1 [] (by kernel_rfl)) (by kernel_rfl) (fun w hh => ⟨ha13, (at?_some hx8).1, (by have := (at?_some hx8).2.1; have := hn3; omega)⟩) (by kernel_rfl) ?_
      refine DrH.keep [0, 14, 17, 126, 128] (L' := [(0, .slice Aa0 v_data0.length ca0), (14, .int .i64 v_i14), (17, .int .i64 v_k17), (126, .agg #[.string x7.Digest, .int .i64 x7.Size, .int .i64 x7.Used, .int .i64 x7.Until, .int .i64 x7.Pins]), (128, .pointer (some ((adr Aa0).add ((w64 (v_k17 - 1)).toNat * 5))))]) (by kernel_rfl) ?_
      obtain ⟨ha14, cs14, hK14, hcc14⟩ := ho3.get hx8
      obtain ⟨rfl⟩ := kBlob_open hK14
      refine DrH.does (n := 0) (ls' := [true, true, true, true, true, true, true, true, true, true, true, true, true, true, true, true, true, true]) 17 (by kernel_rfl) rfl (DoesH.storeEl (a := ((adr Aa0).add ((w64 (v_k17 - 1)).toNat * 5))) (k := 0) (kd := kBlob) (c0 := [.string x8.Digest, .int .i64 x8.Size, .int .i64 x8.Used, .int .i64 x8.Until, .int .i64 x8.Pins]) (x' := x7) (o := 0) (ix := (w64 (v_k17 - 1))) (v := .agg #[.string x7.Digest, .int .i64 x7.Size, .int .i64 x7.Used, .int .i64 x7.Until, .int .i64 x7.Pins]) (by kernel_rfl) rfl ho3 hx8 (by kernel_rfl) hcc14 rfl (Nat.le_of_ble_eq_true (by kernel_rfl)) kBlob_mk) ?_
      rintro _ _ _ _ ⟨ch4, rfl, rfl, rfl, ho4⟩
      have hn4 : v_data0.length = ((v_data0.set v_k17.toNat x6).set (w64 (v_k17 - 1)).toNat x7).length := by rw [List.length_set]; exact hn3
      refine ⟨fun _ w hh => ⟨(fun h => by cases h), (fun h => absurd h (by decide)), (fun h => by cases h)⟩, ?_⟩
      refine DrH.keep [0, 14, 17] (L' := [(0, .slice Aa0 v_data0.length ca0), (14, .int .i64 v_i14), (17, .int .i64 v_k17)]) (by kernel_rfl) ?_
      refine DrH.done (by kernel_rfl) ?_
      refine RunH.adm 1 (es' := [.c [1, 0, 1, 0, 1, 1, 1, 0, 1, 0, 0, 1, 1], .l [1, 0, 1, 0, 1, 1, 1, 0, 1, 0, 0], .b 6, .c [1, 0, 1, 0, 1, 1, 1, 1], .c [1, 1]]) (by kernel_rfl) ?_
      refine RunH.reg (by kernel_rfl) ?_
      refine RgH.runk 3 [0, 14, 17] (vs := []) (evs := []) (L' := [(0, .slice Aa0 v_data0.length ca0), (14, .int .i64 v_i14), (17, .int .i64 (w64 (v_k17 - 1)))]) (by kernel_rfl) (by kernel_rfl) (fun _ _ => trivial) ?_
      refine RgH.done (by kernel_rfl) ?_
      refine RunH.adm 1 (es' := [.c [1, 0, 1, 0, 1, 1, 1, 0, 1, 0, 0], .l [1, 0, 1, 0, 1, 1, 1, 0, 1, 0, 0], .b 6, .c [1, 0, 1, 0, 1, 1, 1, 1], .c [1, 1]]) (by kernel_rfl) ?_
      refine RunH.keep [0, 14, 17] (L' := [(0, .slice Aa0 v_data0.length ca0), (14, .int .i64 v_i14), (17, .int .i64 (w64 (v_k17 - 1)))]) (by kernel_rfl) ?_
      exact ihk _ _ _ v_i14 ((v_data0.set v_k17.toNat x6).set (w64 (v_k17 - 1)).toNat x7) _ _ (w64 (v_k17 - 1)) hn4 hlv_data0 ho4 heq
    · replace heq := bif_false hb6 heq
      refine RunH.condF (c := decide (v_i14 < v_k17)) (by kernel_rfl) hb6 ?_
      refine RunH.adm 1 (es' := [.c [1, 0, 1, 0, 1, 1, 1, 1], .c [1, 1]]) (by kernel_rfl) ?_
      obtain rfl := Option.some.inj heq
      exact RunH.done (by kernel_rfl) Tryd.func167 (v := .tuple #[]) (by kernel_rfl) ⟨chv_data0, rfl, rfl, rfl, hov_data0, (hlv_data0.trans rfl)⟩
theorem slices_symMergeCmpFunc_Blob.e4_c {w0 : World} {H : Hp} {F : List Ch} {r : (List Blob)} : ∀ (a0 : List Blob) (Aa0 : Option Addr) (ca0 : Nat) (cha0 : Ch) (la0 : Nat) (a2 : Int) (v_i14 : Int) , SlOwn kBlob 47 H Aa0 ca0 a0 cha0 → la0 = a0.length → slices_symMergeCmpFunc_Blob.e4 a0 a2 v_i14 = some r → RunH C167 (S167 F H Aa0 ca0 la0 r) H w0 [.c [1, 0, 1, 0, 1, 1, 1, 0, 0], .c [1, 0, 1, 0, 1, 1, 1, 0, 1], .c [1, 0, 1, 0, 1, 1, 1, 1], .c [1, 1]] [(0, .slice Aa0 a0.length ca0), (2, .int .i64 a2), (14, .int .i64 v_i14)] H (cha0 :: F) := by
  intro a0 Aa0 ca0 cha0 la0 a2 v_i14 hoa0 hla0 heq
  unfold slices_symMergeCmpFunc_Blob.e4 at heq
  refine RunH.reg (by kernel_rfl) ?_
  refine RgH.runk 2 [0, 14, 17] (vs := []) (evs := []) (L' := [(0, .slice Aa0 a0.length ca0), (14, .int .i64 v_i14), (17, .int .i64 a2)]) (by kernel_rfl) (by kernel_rfl) (fun _ _ => trivial) ?_
  refine RgH.done (by kernel_rfl) ?_
  refine RunH.adm 2 (es' := [.c [1, 0, 1, 0, 1, 1, 1, 0, 1, 0, 0], .l [1, 0, 1, 0, 1, 1, 1, 0, 1, 0, 0], .b 6, .c [1, 0, 1, 0, 1, 1, 1, 1], .c [1, 1]]) (by kernel_rfl) ?_
  refine RunH.keep [0, 14, 17] (L' := [(0, .slice Aa0 a0.length ca0), (14, .int .i64 v_i14), (17, .int .i64 a2)]) (by kernel_rfl) ?_
  exact ((slices_symMergeCmpFunc_Blob.l5_c) big) _ _ _ v_i14 a0 _ _ a2 rfl hla0 hoa0 heq
theorem slices_symMergeCmpFunc_Blob.l6_c {w0 : World} {H : Hp} {F : List Ch} {r : (List Blob)} (e4 : (List Blob) → Int → Int → Option (List Blob))
    (he4 : ∀ (a0 : List Blob) (Aa0 : Option Addr) (ca0 : Nat) (cha0 : Ch) (la0 : Nat) (a2 : Int) (v_i14 : Int) , SlOwn kBlob 47 H Aa0 ca0 a0 cha0 → la0 = a0.length → e4 a0 a2 v_i14 = some r → RunH C167 (S167 F H Aa0 ca0 la0 r) H w0 [.c [1, 0, 1, 0, 1, 1, 1, 0, 0], .c [1, 0, 1, 0, 1, 1, 1, 0, 1], .c [1, 0, 1, 0, 1, 1, 1, 1], .c [1, 1]] [(0, .slice Aa0 a0.length ca0), (2, .int .i64 a2), (14, .int .i64 v_i14)] H (cha0 :: F)) : ∀ (k : Nat), ∀ (a0 : List Blob) (Aa0 : Option Addr) (ca0 : Nat) (cha0 : Ch) (la0 : Nat) (a2 : Int) (v_i14 : Int) (v_j15 : Int) , SlOwn kBlob 47 H Aa0 ca0 a0 cha0 → la0 = a0.length → slices_symMergeCmpFunc_Blob.l6 e4 k a0 a2 v_i14 v_j15 = some r → RunH C167 (S167 F H Aa0 ca0 la0 r) H w0 [.c [1, 0, 1, 0, 1, 1, 0, 0, 0], .l [1, 0, 1, 0, 1, 1, 0, 0, 0], .b 4, .c [1, 0, 1, 0, 1, 1, 1], .c [1, 1]] [(0, .slice Aa0 a0.length ca0), (2, .int .i64 a2), (4, .func (.func 123) #[] #[]), (14, .int .i64 v_i14), (15, .int .i64 v_j15)] H (cha0 :: F) := by
  intro k
  induction k with
  | zero => intro a0 Aa0 ca0 cha0 la0 a2 v_i14 v_j15 hoa0 hla0 heq; exact nomatch (show (none : Option (List Blob)) = some r from heq)
  | succ k ihk =>
    intro a0 Aa0 ca0 cha0 la0 a2 v_i14 v_j15 hoa0 hla0 heq
    rw [slices_symMergeCmpFunc_Blob.l6] at heq
    refine RunH.adm 2 (es' := [.c [1, 0, 1, 0, 1, 1, 0, 0, 0, 0, 0], .c [1, 0, 1, 0, 1, 1, 0, 0, 0, 0, 1], .c [1, 0, 1, 0, 1, 1, 0, 0, 0, 1], .l [1, 0, 1, 0, 1, 1, 0, 0, 0], .b 4, .c [1, 0, 1, 0, 1, 1, 1], .c [1, 1]]) (by kernel_rfl) ?_
    refine RunH.reg (by kernel_rfl) ?_
    refine RgH.runk 3 [0, 2, 4, 14, 15, 85] (vs := []) (evs := []) (L' := [(0, .slice Aa0 a0.length ca0), (2, .int .i64 a2), (4, .func (.func 123) #[] #[]), (14, .int .i64 v_i14), (15, .int .i64 v_j15), (85, .bool (decide (v_i14 < v_j15)))]) (by kernel_rfl) (by kernel_rfl) (fun _ _ => trivial) ?_
    refine RgH.done (by kernel_rfl) ?_
    rcases bool_cases (decide (v_i14 < v_j15)) with hb7 | hb7
    · replace heq := bif_true hb7 heq
      refine RunH.condT (c := decide (v_i14 < v_j15)) (by kernel_rfl) hb7 ?_
      refine RunH.adm 3 (es' := [.c [1, 0, 1, 0, 1, 1, 0, 0, 0, 1, 0, 0], .c [1, 0, 1, 0, 1, 1, 0, 0, 0, 1, 0, 1], .b 5, .l [1, 0, 1, 0, 1, 1, 0, 0, 0], .b 4, .c [1, 0, 1, 0, 1, 1, 1], .c [1, 1]]) (by kernel_rfl) ?_
      refine RunH.reg (by kernel_rfl) ?_
      refine RgH.runk 7 [0, 2, 4, 14, 15, 16] (vs := []) (evs := [.need ((0 : Int) ≤ 1)]) (L' := [(0, .slice Aa0 a0.length ca0), (2, .int .i64 a2), (4, .func (.func 123) #[] #[]), (14, .int .i64 v_i14), (15, .int .i64 v_j15), (16, .int .i64 (w64 (iShr .u64 (IntKind.wrap .u64 (w64 (v_i14 + v_j15))) 1)))]) (by kernel_rfl) (by kernel_rfl) (fun w hh => (show (0 : Int) ≤ 1 by decide)) ?_
      refine RgH.done (by kernel_rfl) ?_
      refine RunH.adm 1 (es' := [.c [1, 0, 1, 0, 1, 1, 0, 0, 0, 1, 0, 1, 0], .c [1, 0, 1, 0, 1, 1, 0, 0, 0, 1, 0, 1, 1], .b 5, .l [1, 0, 1, 0, 1, 1, 0, 0, 0], .b 4, .c [1, 0, 1, 0, 1, 1, 1], .c [1, 1]]) (by kernel_rfl) ?_
      refine RunH.keep [0, 2, 4, 14, 15, 16] (L' := [(0, .slice Aa0 a0.length ca0), (2, .int .i64 a2), (4, .func (.func 123) #[] #[]), (14, .int .i64 v_i14), (15, .int .i64 v_j15), (16, .int .i64 (w64 (iShr .u64 (IntKind.wrap .u64 (w64 (v_i14 + v_j15))) 1)))]) (by kernel_rfl) ?_
      refine RunH.draw (fun w => Heap H w0 w (cha0 :: F)) (fun w => Heap H w0 w (cha0 :: F)) [3, 3, 3, 3, 3, 3, 3, 3, 3, 0, 3, 3] (n := 12) (ls := [false, false, false, false, false, false, false, false, false, false, false, false]) (by kernel_rfl) (by kernel_rfl) (by kernel_rfl) rfl ?_
      obtain ⟨x9, hx9, heq⟩ := bind_some heq
      obtain ⟨ha15, cs15, hK15, hcc15⟩ := hoa0.get hx9
      obtain ⟨rfl⟩ := kBlob_open hK15
      obtain ⟨x10, hx10, heq⟩ := bind_some heq
      obtain ⟨ha16, cs16, hK16, hcc16⟩ := hoa0.get hx10
      obtain ⟨rfl⟩ := kBlob_open hK16
      refine DrH.run [0, 1, 2, 3, 4, 5, 6, 7, 8] (m := 3) (ls' := [true, true, true, true, true, true, true, true, true, false, false, false]) (vs := [.string x9.Digest, .int .i64 x9.Size, .int .i64 x9.Used, .int .i64 x9.Until, .int .i64 x9.Pins, .string x10.Digest, .int .i64 x10.Size, .int .i64 x10.Used, .int .i64 x10.Until, .int .i64 x10.Pins]) (evs := [.need (Aa0 = some (adr Aa0) ∧ (0 : Int) ≤ a2 ∧ a2 < ((a0.length : Nat) : Int)), .load (((adr Aa0).add (a2.toNat * 5)).add 0) (.string x9.Digest), .load (((adr Aa0).add (a2.toNat * 5)).add 1) (.int .i64 x9.Size), .load (((adr Aa0).add (a2.toNat * 5)).add 2) (.int .i64 x9.Used), .load (((adr Aa0).add (a2.toNat * 5)).add 3) (.int .i64 x9.Until), .load (((adr Aa0).add (a2.toNat * 5)).add 4) (.int .i64 x9.Pins), .need (Aa0 = some (adr Aa0) ∧ (0 : Int) ≤ (w64 (iShr .u64 (IntKind.wrap .u64 (w64 (v_i14 + v_j15))) 1)) ∧ (w64 (iShr .u64 (IntKind.wrap .u64 (w64 (v_i14 + v_j15))) 1)) < ((a0.length : Nat) : Int)), .load (((adr Aa0).add ((w64 (iShr .u64 (IntKind.wrap .u64 (w64 (v_i14 + v_j15))) 1)).toNat * 5)).add 0) (.string x10.Digest), .load (((adr Aa0).add ((w64 (iShr .u64 (IntKind.wrap .u64 (w64 (v_i14 + v_j15))) 1)).toNat * 5)).add 1) (.int .i64 x10.Size), .load (((adr Aa0).add ((w64 (iShr .u64 (IntKind.wrap .u64 (w64 (v_i14 + v_j15))) 1)).toNat * 5)).add 2) (.int .i64 x10.Used), .load (((adr Aa0).add ((w64 (iShr .u64 (IntKind.wrap .u64 (w64 (v_i14 + v_j15))) 1)).toNat * 5)).add 3) (.int .i64 x10.Until), .load (((adr Aa0).add ((w64 (iShr .u64 (IntKind.wrap .u64 (w64 (v_i14 + v_j15))) 1)).toNat * 5)).add 4) (.int .i64 x10.Pins)]) (L' := [(100, .agg #[.string x10.Digest, .int .i64 x10.Size, .int .i64 x10.Used, .int .i64 x10.Until, .int .i64 x10.Pins]), (99, .pointer (some ((adr Aa0).add ((w64 (iShr .u64 (IntKind.wrap .u64 (w64 (v_i14 + v_j15))) 1)).toNat * 5)))), (98, .int .i64 (w64 (iShr .u64 (IntKind.wrap .u64 (w64 (v_i14 + v_j15))) 1))), (97, .slice Aa0 a0.length ca0), (96, .agg #[.string x9.Digest, .int .i64 x9.Size, .int .i64 x9.Used, .int .i64 x9.Until, .int .i64 x9.Pins]), (95, .pointer (some ((adr Aa0).add (a2.toNat * 5)))), (94, .int .i64 a2), (93, .slice Aa0 a0.length ca0), (92, .func (.func 123) #[] #[]), (0, .slice Aa0 a0.length ca0), (2, .int .i64 a2), (4, .func (.func 123) #[] #[]), (14, .int .i64 v_i14), (15, .int .i64 v_j15), (16, .int .i64 (w64 (iShr .u64 (IntKind.wrap .u64 (w64 (v_i14 + v_j15))) 1)))]) (by kernel_rfl) (fun w hh => hh.pick 1 [0] (by kernel_rfl)) (fun w hh => hh.pick 1 [0] (by kernel_rfl)) (by kernel_rfl) (fun w hh => ⟨⟨ha15, (at?_some hx9).1, (at?_some hx9).2.1⟩, (hcc15 _ (hh.chin 0 rfl) 0 _ rfl), (hcc15 _ (hh.chin 0 rfl) 1 _ rfl), (hcc15 _ (hh.chin 0 rfl) 2 _ rfl), (hcc15 _ (hh.chin 0 rfl) 3 _ rfl), (hcc15 _ (hh.chin 0 rfl) 4 _ rfl), ⟨ha16, (at?_some hx10).1, (at?_some hx10).2.1⟩, (hcc16 _ (hh.chin 0 rfl) 0 _ rfl), (hcc16 _ (hh.chin 0 rfl) 1 _ rfl), (hcc16 _ (hh.chin 0 rfl) 2 _ rfl), (hcc16 _ (hh.chin 0 rfl) 3 _ rfl), (hcc16 _ (hh.chin 0 rfl) 4 _ rfl)⟩) (by kernel_rfl) ?_
      refine DrH.keep [0, 2, 4, 14, 15, 16, 92, 96, 100] (L' := [(0, .slice Aa0 a0.length ca0), (2, .int .i64 a2), (4, .func (.func 123) #[] #[]), (14, .int .i64 v_i14), (15, .int .i64 v_j15), (16, .int .i64 (w64 (iShr .u64 (IntKind.wrap .u64 (w64 (v_i14 + v_j15))) 1))), (92, .func (.func 123) #[] #[]), (96, .agg #[.string x9.Digest, .int .i64 x9.Size, .int .i64 x9.Used, .int .i64 x9.Until, .int .i64 x9.Pins]), (100, .agg #[.string x10.Digest, .int .i64 x10.Size, .int .i64 x10.Used, .int .i64 x10.Until, .int .i64 x10.Pins])]) (by kernel_rfl) ?_
      obtain ⟨y2, hy2, heq⟩ := bind_some heq
      refine DrH.does (n := 2) (ls' := [true, true, true, true, true, true, true, true, true, true, false, false]) 9 (by kernel_rfl) rfl (DoesH.call (d := 101) (g := 123) (args := #[.agg #[.string x9.Digest, .int .i64 x9.Size, .int .i64 x9.Used, .int .i64 x9.Until, .int .i64 x9.Pins], .agg #[.string x10.Digest, .int .i64 x10.Size, .int .i64 x10.Used, .int .i64 x10.Until, .int .i64 x10.Pins]]) (by kernel_rfl) (cache_leaving_2_c (a0 := x9) (a1 := x10)  hy2)) ?_
      rintro _ _ _ _ ⟨_, rfl, rfl, rfl, rfl⟩
      refine ⟨fun _ w hh => ⟨fun _ => (fun w hh => hh.pick 1 [0] (by kernel_rfl)) w hh, fun _ => (fun w hh => hh.pick 1 [0] (by kernel_rfl)) w hh, (fun h => by cases h)⟩, ?_⟩
      refine DrH.run [10, 11] (m := 0) (ls' := [true, true, true, true, true, true, true, true, true, true, true, true]) (vs := []) (evs := []) (L' := [(103, .bool (!(decide (y2 < 0)))), (102, .bool (decide (y2 < 0))), (101, .int .i64 y2), (0, .slice Aa0 a0.length ca0), (2, .int .i64 a2), (4, .func (.func 123) #[] #[]), (14, .int .i64 v_i14), (15, .int .i64 v_j15), (16, .int .i64 (w64 (iShr .u64 (IntKind.wrap .u64 (w64 (v_i14 + v_j15))) 1))), (92, .func (.func 123) #[] #[]), (96, .agg #[.string x9.Digest, .int .i64 x9.Size, .int .i64 x9.Used, .int .i64 x9.Until, .int .i64 x9.Pins]), (100, .agg #[.string x10.Digest, .int .i64 x10.Size, .int .i64 x10.Used, .int .i64 x10.Until, .int .i64 x10.Pins])]) (by kernel_rfl) (fun w hh => hh.pick 1 [0] (by kernel_rfl)) (fun w hh => hh.pick 1 [0] (by kernel_rfl)) (by kernel_rfl) (fun _ _ => trivial) (by kernel_rfl) ?_
      refine DrH.keep [0, 2, 4, 14, 15, 16, 103] (L' := [(0, .slice Aa0 a0.length ca0), (2, .int .i64 a2), (4, .func (.func 123) #[] #[]), (14, .int .i64 v_i14), (15, .int .i64 v_j15), (16, .int .i64 (w64 (iShr .u64 (IntKind.wrap .u64 (w64 (v_i14 + v_j15))) 1))), (103, .bool (!(decide (y2 < 0))))]) (by kernel_rfl) ?_
      refine DrH.done (by kernel_rfl) ?_
      rcases bool_cases (!(decide (y2 < 0))) with hb8 | hb8
      · replace heq := bif_true hb8 heq
        refine RunH.condT (c := !(decide (y2 < 0))) (by kernel_rfl) hb8 ?_
        refine RunH.reg (by kernel_rfl) ?_
        refine RgH.runk 3 [0, 2, 4, 14, 15] (vs := []) (evs := []) (L' := [(0, .slice Aa0 a0.length ca0), (2, .int .i64 a2), (4, .func (.func 123) #[] #[]), (14, .int .i64 (w64 ((w64 (iShr .u64 (IntKind.wrap .u64 (w64 (v_i14 + v_j15))) 1)) + 1))), (15, .int .i64 v_j15)]) (by kernel_rfl) (by kernel_rfl) (fun _ _ => trivial) ?_
        refine RgH.done (by kernel_rfl) ?_
        refine RunH.adm 2 (es' := [.c [1, 0, 1, 0, 1, 1, 0, 0, 0], .l [1, 0, 1, 0, 1, 1, 0, 0, 0], .b 4, .c [1, 0, 1, 0, 1, 1, 1], .c [1, 1]]) (by kernel_rfl) ?_
        refine RunH.keep [0, 2, 4, 14, 15] (L' := [(0, .slice Aa0 a0.length ca0), (2, .int .i64 a2), (4, .func (.func 123) #[] #[]), (14, .int .i64 (w64 ((w64 (iShr .u64 (IntKind.wrap .u64 (w64 (v_i14 + v_j15))) 1)) + 1))), (15, .int .i64 v_j15)]) (by kernel_rfl) ?_
        exact ihk a0 _ _ _ _ a2 (w64 ((w64 (iShr .u64 (IntKind.wrap .u64 (w64 (v_i14 + v_j15))) 1)) + 1)) v_j15 hoa0 hla0 heq
      · replace heq := bif_false hb8 heq
        refine RunH.condF (c := !(decide (y2 < 0))) (by kernel_rfl) hb8 ?_
        refine RunH.reg (by kernel_rfl) ?_
        refine RgH.runk 2 [0, 2, 4, 14, 15] (vs := []) (evs := []) (L' := [(0, .slice Aa0 a0.length ca0), (2, .int .i64 a2), (4, .func (.func 123) #[] #[]), (14, .int .i64 v_i14), (15, .int .i64 (w64 (iShr .u64 (IntKind.wrap .u64 (w64 (v_i14 + v_j15))) 1)))]) (by kernel_rfl) (by kernel_rfl) (fun _ _ => trivial) ?_
        refine RgH.done (by kernel_rfl) ?_
        refine RunH.adm 2 (es' := [.c [1, 0, 1, 0, 1, 1, 0, 0, 0], .l [1, 0, 1, 0, 1, 1, 0, 0, 0], .b 4, .c [1, 0, 1, 0, 1, 1, 1], .c [1, 1]]) (by kernel_rfl) ?_
        refine RunH.keep [0, 2, 4, 14, 15] (L' := [(0, .slice Aa0 a0.length ca0), (2, .int .i64 a2), (4, .func (.func 123) #[] #[]), (14, .int .i64 v_i14), (15, .int .i64 (w64 (iShr .u64 (IntKind.wrap .u64 (w64 (v_i14 + v_j15))) 1)))]) (by kernel_rfl) ?_
        exact ihk a0 _ _ _ _ a2 v_i14 (w64 (iShr .u64 (IntKind.wrap .u64 (w64 (v_i14 + v_j15))) 1)) hoa0 hla0 heq
    · replace heq := bif_false hb7 heq
      refine RunH.condF (c := decide (v_i14 < v_j15)) (by kernel_rfl) hb7 ?_
      refine RunH.adm 3 (es' := [.c [1, 0, 1, 0, 1, 1, 1, 0, 0], .c [1, 0, 1, 0, 1, 1, 1, 0, 1], .c [1, 0, 1, 0, 1, 1, 1, 1], .c [1, 1]]) (by kernel_rfl) ?_
      refine RunH.keep [0, 2, 14] (L' := [(0, .slice Aa0 a0.length ca0), (2, .int .i64 a2), (14, .int .i64 v_i14)]) (by kernel_rfl) ?_
      exact he4 a0 _ _ _ _ a2 v_i14 hoa0 hla0 heq
theorem slices_symMergeCmpFunc_Blob.j11_c {w0 : World} {H : Hp} {F : List Ch} {r : (List Blob)} : ∀ (Aa0 : Option Addr) (ca0 : Nat) (la0 : Nat) (v_data0 : List Blob) (chv_data0 : Ch) (nv_data0 : Nat) , nv_data0 = v_data0.length → la0 = nv_data0 → SlOwn kBlob 47 H Aa0 ca0 v_data0 chv_data0 → slices_symMergeCmpFunc_Blob.j11 v_data0 = some r → RunH C167 (S167 F H Aa0 ca0 la0 r) H w0 [] [(0, .slice Aa0 nv_data0 ca0)] H (chv_data0 :: F) := by
  intro Aa0 ca0 la0 v_data0 chv_data0 nv_data0 hnv_data0 hlv_data0 hov_data0 heq
  subst hnv_data0
  unfold slices_symMergeCmpFunc_Blob.j11 at heq
  obtain rfl := Option.some.inj heq
  exact RunH.done (by kernel_rfl) Tryd.func167 (v := .tuple #[]) (by kernel_rfl) ⟨chv_data0, rfl, rfl, rfl, hov_data0, (hlv_data0.trans rfl)⟩
theorem slices_symMergeCmpFunc_Blob.j10_c {w0 : World} {H : Hp} {F : List Ch} {r : (List Blob)} (rec_ : (List Blob) → Int → Int → Int → Option (List Blob))
    (hrec_ : ∀ {H : Hp} {F : List Ch} {a0 : List Blob} {Aa0 : Option Addr} {na0 : Nat} {ca0 : Nat} {cha0 : Ch} {a1 : Int} {a2 : Int} {a3 : Int} {r : (List Blob)}, SlOwn kBlob 47 H Aa0 ca0 a0 cha0 → na0 = a0.length → rec_ a0 a1 a2 a3 = some r → CallsH Tryd.prog 167 #[.slice Aa0 na0 ca0, .int .i64 a1, .int .i64 a2, .int .i64 a3, .func (.func 123) #[] #[]] H w0 (cha0 :: F) (S167 F H Aa0 ca0 na0 r)) : ∀ (Aa0 : Option Addr) (ca0 : Nat) (la0 : Nat) (a1 : Int) (a2 : Int) (a3 : Int) (v_start20 : Int) (v_data0 : List Blob) (chv_data0 : Ch) (nv_data0 : Nat) , nv_data0 = v_data0.length → la0 = nv_data0 → SlOwn kBlob 47 H Aa0 ca0 v_data0 chv_data0 → slices_symMergeCmpFunc_Blob.j10 rec_ a1 a2 a3 v_start20 v_data0 = some r → RunH C167 (S167 F H Aa0 ca0 la0 r) H w0 [.c [1, 1, 1, 1, 1, 1, 1, 1, 1, 1, 1, 0], .c [1, 1, 1, 1, 1, 1, 1, 1, 1, 1, 1, 1]] [(0, .slice Aa0 nv_data0 ca0), (3, .int .i64 a3), (4, .func (.func 123) #[] #[]), (18, .int .i64 (w64 (iShr .u64 (IntKind.wrap .u64 (w64 (a1 + a3))) 1))), (24, .int .i64 (w64 ((w64 ((w64 (iShr .u64 (IntKind.wrap .u64 (w64 (a1 + a3))) 1)) + a2)) - v_start20)))] H (chv_data0 :: F) := by
  intro Aa0 ca0 la0 a1 a2 a3 v_start20 v_data0 chv_data0 nv_data0 hnv_data0 hlv_data0 hov_data0 heq
  subst hnv_data0
  unfold slices_symMergeCmpFunc_Blob.j10 at heq
  obtain ⟨t3, ht3, heq⟩ := bind_some heq
  have K8 : RunH C167 (S167 F H Aa0 ca0 la0 r) H w0 [.c [1, 1, 1, 1, 1, 1, 1, 1, 1, 1, 1, 1]] [(0, .slice Aa0 v_data0.length ca0), (3, .int .i64 a3), (4, .func (.func 123) #[] #[]), (18, .int .i64 (w64 (iShr .u64 (IntKind.wrap .u64 (w64 (a1 + a3))) 1))), (24, .int .i64 (w64 ((w64 ((w64 (iShr .u64 (IntKind.wrap .u64 (w64 (a1 + a3))) 1)) + a2)) - v_start20))), (213, .bool t3)] H (chv_data0 :: F) := by
    rcases bool_cases (t3) with hb12 | hb12
    · replace heq := bif_true hb12 heq
      refine RunH.condT (c := t3) (by kernel_rfl) hb12 ?_
      refine RunH.reg (by kernel_rfl) ?_
      refine RgH.runk 5 [0, 214, 215, 216, 217, 218] (vs := []) (evs := []) (L' := [(0, .slice Aa0 v_data0.length ca0), (214, .slice Aa0 v_data0.length ca0), (215, .int .i64 (w64 (iShr .u64 (IntKind.wrap .u64 (w64 (a1 + a3))) 1))), (216, .int .i64 (w64 ((w64 ((w64 (iShr .u64 (IntKind.wrap .u64 (w64 (a1 + a3))) 1)) + a2)) - v_start20))), (217, .int .i64 a3), (218, .func (.func 123) #[] #[])]) (by kernel_rfl) (by kernel_rfl) (fun _ _ => trivial) ?_
      obtain ⟨y3, hy3, heq⟩ := bind_some heq
      refine RgH.does (DoesH.call (d := 219) (g := 167) (args := #[.slice Aa0 v_data0.length ca0, .int .i64 (w64 (iShr .u64 (IntKind.wrap .u64 (w64 (a1 + a3))) 1)), .int .i64 (w64 ((w64 ((w64 (iShr .u64 (IntKind.wrap .u64 (w64 (a1 + a3))) 1)) + a2)) - v_start20)), .int .i64 a3, .func (.func 123) #[] #[]]) (by kernel_rfl) (hrec_ (a0 := v_data0) (a1 := w64 (iShr .u64 (IntKind.wrap .u64 (w64 (a1 + a3))) 1)) (a2 := w64 ((w64 ((w64 (iShr .u64 (IntKind.wrap .u64 (w64 (a1 + a3))) 1)) + a2)) - v_start20)) (a3 := a3) hov_data0 rfl hy3)) ?_
      rintro _ _ _ _ ⟨_, rfl, ch5, rfl, rfl, rfl, ho5, hn5⟩
      refine RgH.done (by kernel_rfl) ?_
      refine RunH.keep [0] (L' := [(0, .slice Aa0 v_data0.length ca0)]) (by kernel_rfl) ?_
      exact (slices_symMergeCmpFunc_Blob.j11_c) _ _ _ y3 _ _ hn5 hlv_data0 ho5 heq
    · replace heq := bif_false hb12 heq
      refine RunH.condF (c := t3) (by kernel_rfl) hb12 ?_
      refine RunH.adm 1 (es' := []) (by kernel_rfl) ?_
      refine RunH.keep [0] (L' := [(0, .slice Aa0 v_data0.length ca0)]) (by kernel_rfl) ?_
      exact (slices_symMergeCmpFunc_Blob.j11_c) _ _ _ v_data0 _ _ rfl hlv_data0 hov_data0 heq
  replace heq := ht3
  refine RunH.reg (by kernel_rfl) ?_
  refine RgH.runk 4 [209, 0, 3, 4, 18, 24] (vs := []) (evs := []) (L' := [(209, .bool (decide ((w64 (iShr .u64 (IntKind.wrap .u64 (w64 (a1 + a3))) 1)) < (w64 ((w64 ((w64 (iShr .u64 (IntKind.wrap .u64 (w64 (a1 + a3))) 1)) + a2)) - v_start20))))), (0, .slice Aa0 v_data0.length ca0), (3, .int .i64 a3), (4, .func (.func 123) #[] #[]), (18, .int .i64 (w64 (iShr .u64 (IntKind.wrap .u64 (w64 (a1 + a3))) 1))), (24, .int .i64 (w64 ((w64 ((w64 (iShr .u64 (IntKind.wrap .u64 (w64 (a1 + a3))) 1)) + a2)) - v_start20)))]) (by kernel_rfl) (by kernel_rfl) (fun _ _ => trivial) ?_
  rcases bool_cases (decide ((w64 (iShr .u64 (IntKind.wrap .u64 (w64 (a1 + a3))) 1)) < (w64 ((w64 ((w64 (iShr .u64 (IntKind.wrap .u64 (w64 (a1 + a3))) 1)) + a2)) - v_start20)))) with hb11 | hb11
  · replace heq := bif_true hb11 heq
    refine RgH.val1 (v' := .bool true) (congrArg Value.bool hb11) ?_
    refine RgH.runk 8 [0, 3, 4, 18, 24, 213] (vs := []) (evs := []) (L' := [(0, .slice Aa0 v_data0.length ca0), (3, .int .i64 a3), (4, .func (.func 123) #[] #[]), (18, .int .i64 (w64 (iShr .u64 (IntKind.wrap .u64 (w64 (a1 + a3))) 1))), (24, .int .i64 (w64 ((w64 ((w64 (iShr .u64 (IntKind.wrap .u64 (w64 (a1 + a3))) 1)) + a2)) - v_start20))), (213, .bool (decide ((w64 ((w64 ((w64 (iShr .u64 (IntKind.wrap .u64 (w64 (a1 + a3))) 1)) + a2)) - v_start20)) < a3)))]) (by kernel_rfl) (by kernel_rfl) (fun _ _ => trivial) ?_
    obtain rfl := Option.some.inj heq
    refine RgH.keep [0, 3, 4, 18, 24, 213] (L' := [(0, .slice Aa0 v_data0.length ca0), (3, .int .i64 a3), (4, .func (.func 123) #[] #[]), (18, .int .i64 (w64 (iShr .u64 (IntKind.wrap .u64 (w64 (a1 + a3))) 1))), (24, .int .i64 (w64 ((w64 ((w64 (iShr .u64 (IntKind.wrap .u64 (w64 (a1 + a3))) 1)) + a2)) - v_start20))), (213, .bool (decide ((w64 ((w64 ((w64 (iShr .u64 (IntKind.wrap .u64 (w64 (a1 + a3))) 1)) + a2)) - v_start20)) < a3)))]) (by kernel_rfl) ?_
    refine RgH.done (by kernel_rfl) ?_
    exact K8
  · replace heq := bif_false hb11 heq
    refine RgH.val1 (v' := .bool false) (congrArg Value.bool hb11) ?_
    refine RgH.runk 8 [0, 3, 4, 18, 24, 213] (vs := []) (evs := []) (L' := [(0, .slice Aa0 v_data0.length ca0), (3, .int .i64 a3), (4, .func (.func 123) #[] #[]), (18, .int .i64 (w64 (iShr .u64 (IntKind.wrap .u64 (w64 (a1 + a3))) 1))), (24, .int .i64 (w64 ((w64 ((w64 (iShr .u64 (IntKind.wrap .u64 (w64 (a1 + a3))) 1)) + a2)) - v_start20))), (213, .bool false)]) (by kernel_rfl) (by kernel_rfl) (fun _ _ => trivial) ?_
    obtain rfl := Option.some.inj heq
    refine RgH.keep [0, 3, 4, 18, 24, 213] (L' := [(0, .slice Aa0 v_data0.length ca0), (3, .int .i64 a3), (4, .func (.func 123) #[] #[]), (18, .int .i64 (w64 (iShr .u64 (IntKind.wrap .u64 (w64 (a1 + a3))) 1))), (24, .int .i64 (w64 ((w64 ((w64 (iShr .u64 (IntKind.wrap .u64 (w64 (a1 + a3))) 1)) + a2)) - v_start20))), (213, .bool false)]) (by kernel_rfl) ?_
    refine RgH.done (by kernel_rfl) ?_
    exact K8
theorem slices_symMergeCmpFunc_Blob.j9_c {w0 : World} {H : Hp} {F : List Ch} {r : (List Blob)} (rec_ : (List Blob) → Int → Int → Int → Option (List Blob))
    (hrec_ : ∀ {H : Hp} {F : List Ch} {a0 : List Blob} {Aa0 : Option Addr} {na0 : Nat} {ca0 : Nat} {cha0 : Ch} {a1 : Int} {a2 : Int} {a3 : Int} {r : (List Blob)}, SlOwn kBlob 47 H Aa0 ca0 a0 cha0 → na0 = a0.length → rec_ a0 a1 a2 a3 = some r → CallsH Tryd.prog 167 #[.slice Aa0 na0 ca0, .int .i64 a1, .int .i64 a2, .int .i64 a3, .func (.func 123) #[] #[]] H w0 (cha0 :: F) (S167 F H Aa0 ca0 na0 r)) : ∀ (Aa0 : Option Addr) (ca0 : Nat) (la0 : Nat) (a1 : Int) (a2 : Int) (a3 : Int) (v_start20 : Int) (v_data0 : List Blob) (chv_data0 : Ch) (nv_data0 : Nat) , nv_data0 = v_data0.length → la0 = nv_data0 → SlOwn kBlob 47 H Aa0 ca0 v_data0 chv_data0 → slices_symMergeCmpFunc_Blob.j9 rec_ a1 a2 a3 v_start20 v_data0 = some r → RunH C167 (S167 F H Aa0 ca0 la0 r) H w0 [.c [1, 1, 1, 1, 1, 1, 1, 1, 1, 1, 0, 0], .c [1, 1, 1, 1, 1, 1, 1, 1, 1, 1, 0, 1], .c [1, 1, 1, 1, 1, 1, 1, 1, 1, 1, 1]] [(0, .slice Aa0 nv_data0 ca0), (1, .int .i64 a1), (3, .int .i64 a3), (4, .func (.func 123) #[] #[]), (18, .int .i64 (w64 (iShr .u64 (IntKind.wrap .u64 (w64 (a1 + a3))) 1))), (20, .int .i64 v_start20), (24, .int .i64 (w64 ((w64 ((w64 (iShr .u64 (IntKind.wrap .u64 (w64 (a1 + a3))) 1)) + a2)) - v_start20)))] H (chv_data0 :: F) := by
  intro Aa0 ca0 la0 a1 a2 a3 v_start20 v_data0 chv_data0 nv_data0 hnv_data0 hlv_data0 hov_data0 heq
  subst hnv_data0
  unfold slices_symMergeCmpFunc_Blob.j9 at heq
  obtain ⟨t2, ht2, heq⟩ := bind_some heq
  have K6 : RunH C167 (S167 F H Aa0 ca0 la0 r) H w0 [.c [1, 1, 1, 1, 1, 1, 1, 1, 1, 1, 0, 1], .c [1, 1, 1, 1, 1, 1, 1, 1, 1, 1, 1]] [(0, .slice Aa0 v_data0.length ca0), (1, .int .i64 a1), (3, .int .i64 a3), (4, .func (.func 123) #[] #[]), (18, .int .i64 (w64 (iShr .u64 (IntKind.wrap .u64 (w64 (a1 + a3))) 1))), (20, .int .i64 v_start20), (24, .int .i64 (w64 ((w64 ((w64 (iShr .u64 (IntKind.wrap .u64 (w64 (a1 + a3))) 1)) + a2)) - v_start20))), (199, .bool t2)] H (chv_data0 :: F) := by
    rcases bool_cases (t2) with hb13 | hb13
    · replace heq := bif_true hb13 heq
      refine RunH.condT (c := t2) (by kernel_rfl) hb13 ?_
      refine RunH.reg (by kernel_rfl) ?_
      refine RgH.runk 5 [0, 3, 4, 18, 24, 200, 201, 202, 203, 204] (vs := []) (evs := []) (L' := [(0, .slice Aa0 v_data0.length ca0), (3, .int .i64 a3), (4, .func (.func 123) #[] #[]), (18, .int .i64 (w64 (iShr .u64 (IntKind.wrap .u64 (w64 (a1 + a3))) 1))), (24, .int .i64 (w64 ((w64 ((w64 (iShr .u64 (IntKind.wrap .u64 (w64 (a1 + a3))) 1)) + a2)) - v_start20))), (200, .slice Aa0 v_data0.length ca0), (201, .int .i64 a1), (202, .int .i64 v_start20), (203, .int .i64 (w64 (iShr .u64 (IntKind.wrap .u64 (w64 (a1 + a3))) 1))), (204, .func (.func 123) #[] #[])]) (by kernel_rfl) (by kernel_rfl) (fun _ _ => trivial) ?_
      obtain ⟨y4, hy4, heq⟩ := bind_some heq
      refine RgH.does (DoesH.call (d := 205) (g := 167) (args := #[.slice Aa0 v_data0.length ca0, .int .i64 a1, .int .i64 v_start20, .int .i64 (w64 (iShr .u64 (IntKind.wrap .u64 (w64 (a1 + a3))) 1)), .func (.func 123) #[] #[]]) (by kernel_rfl) (hrec_ (a0 := v_data0) (a1 := a1) (a2 := v_start20) (a3 := w64 (iShr .u64 (IntKind.wrap .u64 (w64 (a1 + a3))) 1)) hov_data0 rfl hy4)) ?_
      rintro _ _ _ _ ⟨_, rfl, ch6, rfl, rfl, rfl, ho6, hn6⟩
      refine RgH.done (by kernel_rfl) ?_
      refine RunH.adm 1 (es' := [.c [1, 1, 1, 1, 1, 1, 1, 1, 1, 1, 1, 0], .c [1, 1, 1, 1, 1, 1, 1, 1, 1, 1, 1, 1]]) (by kernel_rfl) ?_
      refine RunH.keep [0, 3, 4, 18, 24] (L' := [(0, .slice Aa0 v_data0.length ca0), (3, .int .i64 a3), (4, .func (.func 123) #[] #[]), (18, .int .i64 (w64 (iShr .u64 (IntKind.wrap .u64 (w64 (a1 + a3))) 1))), (24, .int .i64 (w64 ((w64 ((w64 (iShr .u64 (IntKind.wrap .u64 (w64 (a1 + a3))) 1)) + a2)) - v_start20)))]) (by kernel_rfl) ?_
      exact (slices_symMergeCmpFunc_Blob.j10_c (rec_ := rec_) hrec_) _ _ _ a1 a2 a3 v_start20 y4 _ _ hn6 hlv_data0 ho6 heq
    · replace heq := bif_false hb13 heq
      refine RunH.condF (c := t2) (by kernel_rfl) hb13 ?_
      refine RunH.adm 2 (es' := [.c [1, 1, 1, 1, 1, 1, 1, 1, 1, 1, 1, 0], .c [1, 1, 1, 1, 1, 1, 1, 1, 1, 1, 1, 1]]) (by kernel_rfl) ?_
      refine RunH.keep [0, 3, 4, 18, 24] (L' := [(0, .slice Aa0 v_data0.length ca0), (3, .int .i64 a3), (4, .func (.func 123) #[] #[]), (18, .int .i64 (w64 (iShr .u64 (IntKind.wrap .u64 (w64 (a1 + a3))) 1))), (24, .int .i64 (w64 ((w64 ((w64 (iShr .u64 (IntKind.wrap .u64 (w64 (a1 + a3))) 1)) + a2)) - v_start20)))]) (by kernel_rfl) ?_
      exact (slices_symMergeCmpFunc_Blob.j10_c (rec_ := rec_) hrec_) _ _ _ a1 a2 a3 v_start20 v_data0 _ _ rfl hlv_data0 hov_data0 heq
  replace heq := ht2
  refine RunH.reg (by kernel_rfl) ?_
  refine RgH.runk 4 [195, 0, 1, 3, 4, 18, 20, 24] (vs := []) (evs := []) (L' := [(195, .bool (decide (a1 < v_start20))), (0, .slice Aa0 v_data0.length ca0), (1, .int .i64 a1), (3, .int .i64 a3), (4, .func (.func 123) #[] #[]), (18, .int .i64 (w64 (iShr .u64 (IntKind.wrap .u64 (w64 (a1 + a3))) 1))), (20, .int .i64 v_start20), (24, .int .i64 (w64 ((w64 ((w64 (iShr .u64 (IntKind.wrap .u64 (w64 (a1 + a3))) 1)) + a2)) - v_start20)))]) (by kernel_rfl) (by kernel_rfl) (fun _ _ => trivial) ?_
  rcases bool_cases (decide (a1 < v_start20)) with hb10 | hb10
  · replace heq := bif_true hb10 heq
    refine RgH.val1 (v' := .bool true) (congrArg Value.bool hb10) ?_
    refine RgH.runk 8 [0, 1, 3, 4, 18, 20, 24, 199] (vs := []) (evs := []) (L' := [(0, .slice Aa0 v_data0.length ca0), (1, .int .i64 a1), (3, .int .i64 a3), (4, .func (.func 123) #[] #[]), (18, .int .i64 (w64 (iShr .u64 (IntKind.wrap .u64 (w64 (a1 + a3))) 1))), (20, .int .i64 v_start20), (24, .int .i64 (w64 ((w64 ((w64 (iShr .u64 (IntKind.wrap .u64 (w64 (a1 + a3))) 1)) + a2)) - v_start20))), (199, .bool (decide (v_start20 < (w64 (iShr .u64 (IntKind.wrap .u64 (w64 (a1 + a3))) 1)))))]) (by kernel_rfl) (by kernel_rfl) (fun _ _ => trivial) ?_
    obtain rfl := Option.some.inj heq
    refine RgH.keep [0, 1, 3, 4, 18, 20, 24, 199] (L' := [(0, .slice Aa0 v_data0.length ca0), (1, .int .i64 a1), (3, .int .i64 a3), (4, .func (.func 123) #[] #[]), (18, .int .i64 (w64 (iShr .u64 (IntKind.wrap .u64 (w64 (a1 + a3))) 1))), (20, .int .i64 v_start20), (24, .int .i64 (w64 ((w64 ((w64 (iShr .u64 (IntKind.wrap .u64 (w64 (a1 + a3))) 1)) + a2)) - v_start20))), (199, .bool (decide (v_start20 < (w64 (iShr .u64 (IntKind.wrap .u64 (w64 (a1 + a3))) 1)))))]) (by kernel_rfl) ?_
    refine RgH.done (by kernel_rfl) ?_
    exact K6
  · replace heq := bif_false hb10 heq
    refine RgH.val1 (v' := .bool false) (congrArg Value.bool hb10) ?_
    refine RgH.runk 8 [0, 1, 3, 4, 18, 20, 24, 199] (vs := []) (evs := []) (L' := [(0, .slice Aa0 v_data0.length ca0), (1, .int .i64 a1), (3, .int .i64 a3), (4, .func (.func 123) #[] #[]), (18, .int .i64 (w64 (iShr .u64 (IntKind.wrap .u64 (w64 (a1 + a3))) 1))), (20, .int .i64 v_start20), (24, .int .i64 (w64 ((w64 ((w64 (iShr .u64 (IntKind.wrap .u64 (w64 (a1 + a3))) 1)) + a2)) - v_start20))), (199, .bool false)]) (by kernel_rfl) (by kernel_rfl) (fun _ _ => trivial) ?_
    obtain rfl := Option.some.inj heq
    refine RgH.keep [0, 1, 3, 4, 18, 20, 24, 199] (L' := [(0, .slice Aa0 v_data0.length ca0), (1, .int .i64 a1), (3, .int .i64 a3), (4, .func (.func 123) #[] #[]), (18, .int .i64 (w64 (iShr .u64 (IntKind.wrap .u64 (w64 (a1 + a3))) 1))), (20, .int .i64 v_start20), (24, .int .i64 (w64 ((w64 ((w64 (iShr .u64 (IntKind.wrap .u64 (w64 (a1 + a3))) 1)) + a2)) - v_start20))), (199, .bool false)]) (by kernel_rfl) ?_
    refine RgH.done (by kernel_rfl) ?_
    exact K6
theorem slices_symMergeCmpFunc_Blob.e8_c {w0 : World} {H : Hp} {F : List Ch} {r : (List Blob)} (rec_ : (List Blob) → Int → Int → Int → Option (List Blob))
    (hrec_ : ∀ {H : Hp} {F : List Ch} {a0 : List Blob} {Aa0 : Option Addr} {na0 : Nat} {ca0 : Nat} {cha0 : Ch} {a1 : Int} {a2 : Int} {a3 : Int} {r : (List Blob)}, SlOwn kBlob 47 H Aa0 ca0 a0 cha0 → na0 = a0.length → rec_ a0 a1 a2 a3 = some r → CallsH Tryd.prog 167 #[.slice Aa0 na0 ca0, .int .i64 a1, .int .i64 a2, .int .i64 a3, .func (.func 123) #[] #[]] H w0 (cha0 :: F) (S167 F H Aa0 ca0 na0 r)) : ∀ (a0 : List Blob) (Aa0 : Option Addr) (ca0 : Nat) (cha0 : Ch) (la0 : Nat) (a1 : Int) (a2 : Int) (a3 : Int) (v_start20 : Int) , SlOwn kBlob 47 H Aa0 ca0 a0 cha0 → la0 = a0.length → slices_symMergeCmpFunc_Blob.e8 rec_ a0 a1 a2 a3 v_start20 = some r → RunH C167 (S167 F H Aa0 ca0 la0 r) H w0 [.c [1, 1, 1, 1, 1, 1, 1, 1, 0], .c [1, 1, 1, 1, 1, 1, 1, 1, 1]] [(0, .slice Aa0 a0.length ca0), (1, .int .i64 a1), (2, .int .i64 a2), (3, .int .i64 a3), (4, .func (.func 123) #[] #[]), (18, .int .i64 (w64 (iShr .u64 (IntKind.wrap .u64 (w64 (a1 + a3))) 1))), (19, .int .i64 (w64 ((w64 (iShr .u64 (IntKind.wrap .u64 (w64 (a1 + a3))) 1)) + a2))), (20, .int .i64 v_start20)] H (cha0 :: F) := by
  intro a0 Aa0 ca0 cha0 la0 a1 a2 a3 v_start20 hoa0 hla0 heq
  unfold slices_symMergeCmpFunc_Blob.e8 at heq
  refine RunH.reg (by kernel_rfl) ?_
  refine RgH.runk 4 [0, 1, 2, 3, 4, 18, 20, 24] (vs := []) (evs := []) (L' := [(0, .slice Aa0 a0.length ca0), (1, .int .i64 a1), (2, .int .i64 a2), (3, .int .i64 a3), (4, .func (.func 123) #[] #[]), (18, .int .i64 (w64 (iShr .u64 (IntKind.wrap .u64 (w64 (a1 + a3))) 1))), (20, .int .i64 v_start20), (24, .int .i64 (w64 ((w64 ((w64 (iShr .u64 (IntKind.wrap .u64 (w64 (a1 + a3))) 1)) + a2)) - v_start20)))]) (by kernel_rfl) (by kernel_rfl) (fun _ _ => trivial) ?_
  refine RgH.done (by kernel_rfl) ?_
  refine RunH.adm 2 (es' := [.c [1, 1, 1, 1, 1, 1, 1, 1, 1, 0, 0], .c [1, 1, 1, 1, 1, 1, 1, 1, 1, 0, 1], .c [1, 1, 1, 1, 1, 1, 1, 1, 1, 1]]) (by kernel_rfl) ?_
  obtain ⟨t1, ht1, heq⟩ := bind_some heq
  have K4 : RunH C167 (S167 F H Aa0 ca0 la0 r) H w0 [.c [1, 1, 1, 1, 1, 1, 1, 1, 1, 0, 1], .c [1, 1, 1, 1, 1, 1, 1, 1, 1, 1]] [(0, .slice Aa0 a0.length ca0), (1, .int .i64 a1), (2, .int .i64 a2), (3, .int .i64 a3), (4, .func (.func 123) #[] #[]), (18, .int .i64 (w64 (iShr .u64 (IntKind.wrap .u64 (w64 (a1 + a3))) 1))), (20, .int .i64 v_start20), (24, .int .i64 (w64 ((w64 ((w64 (iShr .u64 (IntKind.wrap .u64 (w64 (a1 + a3))) 1)) + a2)) - v_start20))), (185, .bool t1)] H (cha0 :: F) := by
    rcases bool_cases (t1) with hb14 | hb14
    · replace heq := bif_true hb14 heq
      refine RunH.condT (c := t1) (by kernel_rfl) hb14 ?_
      refine RunH.reg (by kernel_rfl) ?_
      refine RgH.runk 5 [0, 1, 3, 4, 18, 20, 24, 186, 187, 188, 189, 190] (vs := []) (evs := []) (L' := [(0, .slice Aa0 a0.length ca0), (1, .int .i64 a1), (3, .int .i64 a3), (4, .func (.func 123) #[] #[]), (18, .int .i64 (w64 (iShr .u64 (IntKind.wrap .u64 (w64 (a1 + a3))) 1))), (20, .int .i64 v_start20), (24, .int .i64 (w64 ((w64 ((w64 (iShr .u64 (IntKind.wrap .u64 (w64 (a1 + a3))) 1)) + a2)) - v_start20))), (186, .slice Aa0 a0.length ca0), (187, .int .i64 v_start20), (188, .int .i64 a2), (189, .int .i64 (w64 ((w64 ((w64 (iShr .u64 (IntKind.wrap .u64 (w64 (a1 + a3))) 1)) + a2)) - v_start20))), (190, .func (.func 123) #[] #[])]) (by kernel_rfl) (by kernel_rfl) (fun _ _ => trivial) ?_
      obtain ⟨y5, hy5, heq⟩ := bind_some heq
      refine RgH.does (DoesH.call (d := 191) (g := 185) (args := #[.slice Aa0 a0.length ca0, .int .i64 v_start20, .int .i64 a2, .int .i64 (w64 ((w64 ((w64 (iShr .u64 (IntKind.wrap .u64 (w64 (a1 + a3))) 1)) + a2)) - v_start20)), .func (.func 123) #[] #[]]) (by kernel_rfl) (slices_rotateCmpFunc_Blob_c (a0 := a0) (a1 := v_start20) (a2 := a2) (a3 := w64 ((w64 ((w64 (iShr .u64 (IntKind.wrap .u64 (w64 (a1 + a3))) 1)) + a2)) - v_start20)) hoa0 rfl hy5)) ?_
      rintro _ _ _ _ ⟨_, rfl, ch7, rfl, rfl, rfl, ho7, hn7⟩
      refine RgH.done (by kernel_rfl) ?_
      refine RunH.adm 2 (es' := [.c [1, 1, 1, 1, 1, 1, 1, 1, 1, 1, 0, 0], .c [1, 1, 1, 1, 1, 1, 1, 1, 1, 1, 0, 1], .c [1, 1, 1, 1, 1, 1, 1, 1, 1, 1, 1]]) (by kernel_rfl) ?_
      refine RunH.keep [0, 1, 3, 4, 18, 20, 24] (L' := [(0, .slice Aa0 a0.length ca0), (1, .int .i64 a1), (3, .int .i64 a3), (4, .func (.func 123) #[] #[]), (18, .int .i64 (w64 (iShr .u64 (IntKind.wrap .u64 (w64 (a1 + a3))) 1))), (20, .int .i64 v_start20), (24, .int .i64 (w64 ((w64 ((w64 (iShr .u64 (IntKind.wrap .u64 (w64 (a1 + a3))) 1)) + a2)) - v_start20)))]) (by kernel_rfl) ?_
      exact (slices_symMergeCmpFunc_Blob.j9_c (rec_ := rec_) hrec_) _ _ _ a1 a2 a3 v_start20 y5 _ _ hn7 hla0 ho7 heq
    · replace heq := bif_false hb14 heq
      refine RunH.condF (c := t1) (by kernel_rfl) hb14 ?_
      refine RunH.adm 3 (es' := [.c [1, 1, 1, 1, 1, 1, 1, 1, 1, 1, 0, 0], .c [1, 1, 1, 1, 1, 1, 1, 1, 1, 1, 0, 1], .c [1, 1, 1, 1, 1, 1, 1, 1, 1, 1, 1]]) (by kernel_rfl) ?_
      refine RunH.keep [0, 1, 3, 4, 18, 20, 24] (L' := [(0, .slice Aa0 a0.length ca0), (1, .int .i64 a1), (3, .int .i64 a3), (4, .func (.func 123) #[] #[]), (18, .int .i64 (w64 (iShr .u64 (IntKind.wrap .u64 (w64 (a1 + a3))) 1))), (20, .int .i64 v_start20), (24, .int .i64 (w64 ((w64 ((w64 (iShr .u64 (IntKind.wrap .u64 (w64 (a1 + a3))) 1)) + a2)) - v_start20)))]) (by kernel_rfl) ?_
      exact (slices_symMergeCmpFunc_Blob.j9_c (rec_ := rec_) hrec_) _ _ _ a1 a2 a3 v_start20 a0 _ _ rfl hla0 hoa0 heq
  replace heq := ht1
  refine RunH.reg (by kernel_rfl) ?_
  refine RgH.runk 4 [181, 0, 1, 2, 3, 4, 18, 20, 24] (vs := []) (evs := []) (L' := [(181, .bool (decide (v_start20 < a2))), (0, .slice Aa0 a0.length ca0), (1, .int .i64 a1), (2, .int .i64 a2), (3, .int .i64 a3), (4, .func (.func 123) #[] #[]), (18, .int .i64 (w64 (iShr .u64 (IntKind.wrap .u64 (w64 (a1 + a3))) 1))), (20, .int .i64 v_start20), (24, .int .i64 (w64 ((w64 ((w64 (iShr .u64 (IntKind.wrap .u64 (w64 (a1 + a3))) 1)) + a2)) - v_start20)))]) (by kernel_rfl) (by kernel_rfl) (fun _ _ => trivial) ?_
  rcases bool_cases (decide (v_start20 < a2)) with hb9 | hb9
  · replace heq := bif_true hb9 heq
    refine RgH.val1 (v' := .bool true) (congrArg Value.bool hb9) ?_
    refine RgH.runk 8 [0, 1, 2, 3, 4, 18, 20, 24, 185] (vs := []) (evs := []) (L' := [(0, .slice Aa0 a0.length ca0), (1, .int .i64 a1), (2, .int .i64 a2), (3, .int .i64 a3), (4, .func (.func 123) #[] #[]), (18, .int .i64 (w64 (iShr .u64 (IntKind.wrap .u64 (w64 (a1 + a3))) 1))), (20, .int .i64 v_start20), (24, .int .i64 (w64 ((w64 ((w64 (iShr .u64 (IntKind.wrap .u64 (w64 (a1 + a3))) 1)) + a2)) - v_start20))), (185, .bool (decide (a2 < (w64 ((w64 ((w64 (iShr .u64 (IntKind.wrap .u64 (w64 (a1 + a3))) 1)) + a2)) - v_start20)))))]) (by kernel_rfl) (by kernel_rfl) (fun _ _ => trivial) ?_
    obtain rfl := Option.some.inj heq
    refine RgH.keep [0, 1, 2, 3, 4, 18, 20, 24, 185] (L' := [(0, .slice Aa0 a0.length ca0), (1, .int .i64 a1), (2, .int .i64 a2), (3, .int .i64 a3), (4, .func (.func 123) #[] #[]), (18, .int .i64 (w64 (iShr .u64 (IntKind.wrap .u64 (w64 (a1 + a3))) 1))), (20, .int .i64 v_start20), (24, .int .i64 (w64 ((w64 ((w64 (iShr .u64 (IntKind.wrap .u64 (w64 (a1 + a3))) 1)) + a2)) - v_start20))), (185, .bool (decide (a2 < (w64 ((w64 ((w64 (iShr .u64 (IntKind.wrap .u64 (w64 (a1 + a3))) 1)) + a2)) - v_start20)))))]) (by kernel_rfl) ?_
    refine RgH.done (by kernel_rfl) ?_
    exact K4
  · replace heq := bif_false hb9 heq
    refine RgH.val1 (v' := .bool false) (congrArg Value.bool hb9) ?_
    refine RgH.runk 8 [0, 1, 2, 3, 4, 18, 20, 24, 185] (vs := []) (evs := []) (L' := [(0, .slice Aa0 a0.length ca0), (1, .int .i64 a1), (2, .int .i64 a2), (3, .int .i64 a3), (4, .func (.func 123) #[] #[]), (18, .int .i64 (w64 (iShr .u64 (IntKind.wrap .u64 (w64 (a1 + a3))) 1))), (20, .int .i64 v_start20), (24, .int .i64 (w64 ((w64 ((w64 (iShr .u64 (IntKind.wrap .u64 (w64 (a1 + a3))) 1)) + a2)) - v_start20))), (185, .bool false)]) (by kernel_rfl) (by kernel_rfl) (fun _ _ => trivial) ?_
    obtain rfl := Option.some.inj heq
    refine RgH.keep [0, 1, 2, 3, 4, 18, 20, 24, 185] (L' := [(0, .slice Aa0 a0.length ca0), (1, .int .i64 a1), (2, .int .i64 a2), (3, .int .i64 a3), (4, .func (.func 123) #[] #[]), (18, .int .i64 (w64 (iShr .u64 (IntKind.wrap .u64 (w64 (a1 + a3))) 1))), (20, .int .i64 v_start20), (24, .int .i64 (w64 ((w64 ((w64 (iShr .u64 (IntKind.wrap .u64 (w64 (a1 + a3))) 1)) + a2)) - v_start20))), (185, .bool false)]) (by kernel_rfl) ?_
    refine RgH.done (by kernel_rfl) ?_
    exact K4
theorem slices_symMergeCmpFunc_Blob.l12_c {w0 : World} {H : Hp} {F : List Ch} {r : (List Blob)} (e8 : (List Blob) → Int → Int → Int → Int → Option (List Blob))
    (he8 : ∀ (a0 : List Blob) (Aa0 : Option Addr) (ca0 : Nat) (cha0 : Ch) (la0 : Nat) (a1 : Int) (a2 : Int) (a3 : Int) (v_start20 : Int) , SlOwn kBlob 47 H Aa0 ca0 a0 cha0 → la0 = a0.length → e8 a0 a1 a2 a3 v_start20 = some r → RunH C167 (S167 F H Aa0 ca0 la0 r) H w0 [.c [1, 1, 1, 1, 1, 1, 1, 1, 0], .c [1, 1, 1, 1, 1, 1, 1, 1, 1]] [(0, .slice Aa0 a0.length ca0), (1, .int .i64 a1), (2, .int .i64 a2), (3, .int .i64 a3), (4, .func (.func 123) #[] #[]), (18, .int .i64 (w64 (iShr .u64 (IntKind.wrap .u64 (w64 (a1 + a3))) 1))), (19, .int .i64 (w64 ((w64 (iShr .u64 (IntKind.wrap .u64 (w64 (a1 + a3))) 1)) + a2))), (20, .int .i64 v_start20)] H (cha0 :: F)) : ∀ (k : Nat), ∀ (a0 : List Blob) (Aa0 : Option Addr) (ca0 : Nat) (cha0 : Ch) (la0 : Nat) (a1 : Int) (a2 : Int) (a3 : Int) (v_start20 : Int) (v_r21 : Int) , SlOwn kBlob 47 H Aa0 ca0 a0 cha0 → la0 = a0.length → slices_symMergeCmpFunc_Blob.l12 e8 k a0 a1 a2 a3 v_start20 v_r21 = some r → RunH C167 (S167 F H Aa0 ca0 la0 r) H w0 [.c [1, 1, 1, 1, 1, 1, 1, 0, 0, 0], .l [1, 1, 1, 1, 1, 1, 1, 0, 0, 0], .b 8, .c [1, 1, 1, 1, 1, 1, 1, 1]] [(0, .slice Aa0 a0.length ca0), (1, .int .i64 a1), (2, .int .i64 a2), (3, .int .i64 a3), (4, .func (.func 123) #[] #[]), (18, .int .i64 (w64 (iShr .u64 (IntKind.wrap .u64 (w64 (a1 + a3))) 1))), (19, .int .i64 (w64 ((w64 (iShr .u64 (IntKind.wrap .u64 (w64 (a1 + a3))) 1)) + a2))), (20, .int .i64 v_start20), (21, .int .i64 v_r21), (22, .int .i64 (w64 ((w64 ((w64 (iShr .u64 (IntKind.wrap .u64 (w64 (a1 + a3))) 1)) + a2)) - 1)))] H (cha0 :: F) := by
  intro k
  induction k with
  | zero => intro a0 Aa0 ca0 cha0 la0 a1 a2 a3 v_start20 v_r21 hoa0 hla0 heq; exact nomatch (show (none : Option (List Blob)) = some r from heq)
  | succ k ihk =>
    intro a0 Aa0 ca0 cha0 la0 a1 a2 a3 v_start20 v_r21 hoa0 hla0 heq
    rw [slices_symMergeCmpFunc_Blob.l12] at heq
    refine RunH.adm 2 (es' := [.c [1, 1, 1, 1, 1, 1, 1, 0, 0, 0, 0, 0], .c [1, 1, 1, 1, 1, 1, 1, 0, 0, 0, 0, 1], .c [1, 1, 1, 1, 1, 1, 1, 0, 0, 0, 1], .l [1, 1, 1, 1, 1, 1, 1, 0, 0, 0], .b 8, .c [1, 1, 1, 1, 1, 1, 1, 1]]) (by kernel_rfl) ?_
    refine RunH.reg (by kernel_rfl) ?_
    refine RgH.runk 3 [0, 1, 2, 3, 4, 18, 19, 20, 21, 22, 151] (vs := []) (evs := []) (L' := [(0, .slice Aa0 a0.length ca0), (1, .int .i64 a1), (2, .int .i64 a2), (3, .int .i64 a3), (4, .func (.func 123) #[] #[]), (18, .int .i64 (w64 (iShr .u64 (IntKind.wrap .u64 (w64 (a1 + a3))) 1))), (19, .int .i64 (w64 ((w64 (iShr .u64 (IntKind.wrap .u64 (w64 (a1 + a3))) 1)) + a2))), (20, .int .i64 v_start20), (21, .int .i64 v_r21), (22, .int .i64 (w64 ((w64 ((w64 (iShr .u64 (IntKind.wrap .u64 (w64 (a1 + a3))) 1)) + a2)) - 1))), (151, .bool (decide (v_start20 < v_r21)))]) (by kernel_rfl) (by kernel_rfl) (fun _ _ => trivial) ?_
    refine RgH.done (by kernel_rfl) ?_
    rcases bool_cases (decide (v_start20 < v_r21)) with hb15 | hb15
    · replace heq := bif_true hb15 heq
      refine RunH.condT (c := decide (v_start20 < v_r21)) (by kernel_rfl) hb15 ?_
      refine RunH.adm 3 (es' := [.c [1, 1, 1, 1, 1, 1, 1, 0, 0, 0, 1, 0, 0], .c [1, 1, 1, 1, 1, 1, 1, 0, 0, 0, 1, 0, 1], .b 9, .l [1, 1, 1, 1, 1, 1, 1, 0, 0, 0], .b 8, .c [1, 1, 1, 1, 1, 1, 1, 1]]) (by kernel_rfl) ?_
      refine RunH.reg (by kernel_rfl) ?_
      refine RgH.runk 7 [0, 1, 2, 3, 4, 18, 19, 20, 21, 22, 23] (vs := []) (evs := [.need ((0 : Int) ≤ 1)]) (L' := [(0, .slice Aa0 a0.length ca0), (1, .int .i64 a1), (2, .int .i64 a2), (3, .int .i64 a3), (4, .func (.func 123) #[] #[]), (18, .int .i64 (w64 (iShr .u64 (IntKind.wrap .u64 (w64 (a1 + a3))) 1))), (19, .int .i64 (w64 ((w64 (iShr .u64 (IntKind.wrap .u64 (w64 (a1 + a3))) 1)) + a2))), (20, .int .i64 v_start20), (21, .int .i64 v_r21), (22, .int .i64 (w64 ((w64 ((w64 (iShr .u64 (IntKind.wrap .u64 (w64 (a1 + a3))) 1)) + a2)) - 1))), (23, .int .i64 (w64 (iShr .u64 (IntKind.wrap .u64 (w64 (v_start20 + v_r21))) 1)))]) (by kernel_rfl) (by kernel_rfl) (fun w hh => (show (0 : Int) ≤ 1 by decide)) ?_
      refine RgH.done (by kernel_rfl) ?_
      refine RunH.adm 1 (es' := [.c [1, 1, 1, 1, 1, 1, 1, 0, 0, 0, 1, 0, 1, 0], .c [1, 1, 1, 1, 1, 1, 1, 0, 0, 0, 1, 0, 1, 1], .b 9, .l [1, 1, 1, 1, 1, 1, 1, 0, 0, 0], .b 8, .c [1, 1, 1, 1, 1, 1, 1, 1]]) (by kernel_rfl) ?_
      refine RunH.keep [0, 1, 2, 3, 4, 18, 19, 20, 21, 22, 23] (L' := [(0, .slice Aa0 a0.length ca0), (1, .int .i64 a1), (2, .int .i64 a2), (3, .int .i64 a3), (4, .func (.func 123) #[] #[]), (18, .int .i64 (w64 (iShr .u64 (IntKind.wrap .u64 (w64 (a1 + a3))) 1))), (19, .int .i64 (w64 ((w64 (iShr .u64 (IntKind.wrap .u64 (w64 (a1 + a3))) 1)) + a2))), (20, .int .i64 v_start20), (21, .int .i64 v_r21), (22, .int .i64 (w64 ((w64 ((w64 (iShr .u64 (IntKind.wrap .u64 (w64 (a1 + a3))) 1)) + a2)) - 1))), (23, .int .i64 (w64 (iShr .u64 (IntKind.wrap .u64 (w64 (v_start20 + v_r21))) 1)))]) (by kernel_rfl) ?_
      refine RunH.draw (fun w => Heap H w0 w (cha0 :: F)) (fun w => Heap H w0 w (cha0 :: F)) [3, 3, 3, 3, 3, 3, 3, 3, 3, 3, 3, 0, 3, 3] (n := 14) (ls := [false, false, false, false, false, false, false, false, false, false, false, false, false, false]) (by kernel_rfl) (by kernel_rfl) (by kernel_rfl) rfl ?_
      obtain ⟨x11, hx11, heq⟩ := bind_some heq
      obtain ⟨ha17, cs17, hK17, hcc17⟩ := hoa0.get hx11
      obtain ⟨rfl⟩ := kBlob_open hK17
      obtain ⟨x12, hx12, heq⟩ := bind_some heq
      obtain ⟨ha18, cs18, hK18, hcc18⟩ := hoa0.get hx12
      obtain ⟨rfl⟩ := kBlob_open hK18
      refine DrH.run [0, 1, 2, 3, 4, 5, 6, 7, 8, 9, 10] (m := 3) (ls' := [true, true, true, true, true, true, true, true, true, true, true, false, false, false]) (vs := [.string x11.Digest, .int .i64 x11.Size, .int .i64 x11.Used, .int .i64 x11.Until, .int .i64 x11.Pins, .string x12.Digest, .int .i64 x12.Size, .int .i64 x12.Used, .int .i64 x12.Until, .int .i64 x12.Pins]) (evs := [.need (Aa0 = some (adr Aa0) ∧ (0 : Int) ≤ (w64 ((w64 ((w64 ((w64 (iShr .u64 (IntKind.wrap .u64 (w64 (a1 + a3))) 1)) + a2)) - 1)) - (w64 (iShr .u64 (IntKind.wrap .u64 (w64 (v_start20 + v_r21))) 1)))) ∧ (w64 ((w64 ((w64 ((w64 (iShr .u64 (IntKind.wrap .u64 (w64 (a1 + a3))) 1)) + a2)) - 1)) - (w64 (iShr .u64 (IntKind.wrap .u64 (w64 (v_start20 + v_r21))) 1)))) < ((a0.length : Nat) : Int)), .load (((adr Aa0).add ((w64 ((w64 ((w64 ((w64 (iShr .u64 (IntKind.wrap .u64 (w64 (a1 + a3))) 1)) + a2)) - 1)) - (w64 (iShr .u64 (IntKind.wrap .u64 (w64 (v_start20 + v_r21))) 1)))).toNat * 5)).add 0) (.string x11.Digest), .load (((adr Aa0).add ((w64 ((w64 ((w64 ((w64 (iShr .u64 (IntKind.wrap .u64 (w64 (a1 + a3))) 1)) + a2)) - 1)) - (w64 (iShr .u64 (IntKind.wrap .u64 (w64 (v_start20 + v_r21))) 1)))).toNat * 5)).add 1) (.int .i64 x11.Size), .load (((adr Aa0).add ((w64 ((w64 ((w64 ((w64 (iShr .u64 (IntKind.wrap .u64 (w64 (a1 + a3))) 1)) + a2)) - 1)) - (w64 (iShr .u64 (IntKind.wrap .u64 (w64 (v_start20 + v_r21))) 1)))).toNat * 5)).add 2) (.int .i64 x11.Used), .load (((adr Aa0).add ((w64 ((w64 ((w64 ((w64 (iShr .u64 (IntKind.wrap .u64 (w64 (a1 + a3))) 1)) + a2)) - 1)) - (w64 (iShr .u64 (IntKind.wrap .u64 (w64 (v_start20 + v_r21))) 1)))).toNat * 5)).add 3) (.int .i64 x11.Until), .load (((adr Aa0).add ((w64 ((w64 ((w64 ((w64 (iShr .u64 (IntKind.wrap .u64 (w64 (a1 + a3))) 1)) + a2)) - 1)) - (w64 (iShr .u64 (IntKind.wrap .u64 (w64 (v_start20 + v_r21))) 1)))).toNat * 5)).add 4) (.int .i64 x11.Pins), .need (Aa0 = some (adr Aa0) ∧ (0 : Int) ≤ (w64 (iShr .u64 (IntKind.wrap .u64 (w64 (v_start20 + v_r21))) 1)) ∧ (w64 (iShr .u64 (IntKind.wrap .u64 (w64 (v_start20 + v_r21))) 1)) < ((a0.length : Nat) : Int)), .load (((adr Aa0).add ((w64 (iShr .u64 (IntKind.wrap .u64 (w64 (v_start20 + v_r21))) 1)).toNat * 5)).add 0) (.string x12.Digest), .load (((adr Aa0).add ((w64 (iShr .u64 (IntKind.wrap .u64 (w64 (v_start20 + v_r21))) 1)).toNat * 5)).add 1) (.int .i64 x12.Size), .load (((adr Aa0).add ((w64 (iShr .u64 (IntKind.wrap .u64 (w64 (v_start20 + v_r21))) 1)).toNat * 5)).add 2) (.int .i64 x12.Used), .load (((adr Aa0).add ((w64 (iShr .u64 (IntKind.wrap .u64 (w64 (v_start20 + v_r21))) 1)).toNat * 5)).add 3) (.int .i64 x12.Until), .load (((adr Aa0).add ((w64 (iShr .u64 (IntKind.wrap .u64 (w64 (v_start20 + v_r21))) 1)).toNat * 5)).add 4) (.int .i64 x12.Pins)]) (L' := [(168, .agg #[.string x12.Digest, .int .i64 x12.Size, .int .i64 x12.Used, .int .i64 x12.Until, .int .i64 x12.Pins]), (167, .pointer (some ((adr Aa0).add ((w64 (iShr .u64 (IntKind.wrap .u64 (w64 (v_start20 + v_r21))) 1)).toNat * 5)))), (166, .int .i64 (w64 (iShr .u64 (IntKind.wrap .u64 (w64 (v_start20 + v_r21))) 1))), (165, .slice Aa0 a0.length ca0), (164, .agg #[.string x11.Digest, .int .i64 x11.Size, .int .i64 x11.Used, .int .i64 x11.Until, .int .i64 x11.Pins]), (163, .pointer (some ((adr Aa0).add ((w64 ((w64 ((w64 ((w64 (iShr .u64 (IntKind.wrap .u64 (w64 (a1 + a3))) 1)) + a2)) - 1)) - (w64 (iShr .u64 (IntKind.wrap .u64 (w64 (v_start20 + v_r21))) 1)))).toNat * 5)))), (162, .int .i64 (w64 ((w64 ((w64 ((w64 (iShr .u64 (IntKind.wrap .u64 (w64 (a1 + a3))) 1)) + a2)) - 1)) - (w64 (iShr .u64 (IntKind.wrap .u64 (w64 (v_start20 + v_r21))) 1))))), (161, .int .i64 (w64 (iShr .u64 (IntKind.wrap .u64 (w64 (v_start20 + v_r21))) 1))), (160, .int .i64 (w64 ((w64 ((w64 (iShr .u64 (IntKind.wrap .u64 (w64 (a1 + a3))) 1)) + a2)) - 1))), (159, .slice Aa0 a0.length ca0), (158, .func (.func 123) #[] #[]), (0, .slice Aa0 a0.length ca0), (1, .int .i64 a1), (2, .int .i64 a2), (3, .int .i64 a3), (4, .func (.func 123) #[] #[]), (18, .int .i64 (w64 (iShr .u64 (IntKind.wrap .u64 (w64 (a1 + a3))) 1))), (19, .int .i64 (w64 ((w64 (iShr .u64 (IntKind.wrap .u64 (w64 (a1 + a3))) 1)) + a2))), (20, .int .i64 v_start20), (21, .int .i64 v_r21), (22, .int .i64 (w64 ((w64 ((w64 (iShr .u64 (IntKind.wrap .u64 (w64 (a1 + a3))) 1)) + a2)) - 1))), (23, .int .i64 (w64 (iShr .u64 (IntKind.wrap .u64 (w64 (v_start20 + v_r21))) 1)))]) (by kernel_rfl) (fun w hh => hh.pick 1 [0] (by kernel_rfl)) (fun w hh => hh.pick 1 [0] (by kernel_rfl)) (by kernel_rfl) (fun w hh => ⟨⟨ha17, (at?_some hx11).1, (at?_some hx11).2.1⟩, (hcc17 _ (hh.chin 0 rfl) 0 _ rfl), (hcc17 _ (hh.chin 0 rfl) 1 _ rfl), (hcc17 _ (hh.chin 0 rfl) 2 _ rfl), (hcc17 _ (hh.chin 0 rfl) 3 _ rfl), (hcc17 _ (hh.chin 0 rfl) 4 _ rfl), ⟨ha18, (at?_some hx12).1, (at?_some hx12).2.1⟩, (hcc18 _ (hh.chin 0 rfl) 0 _ rfl), (hcc18 _ (hh.chin 0 rfl) 1 _ rfl), (hcc18 _ (hh.chin 0 rfl) 2 _ rfl), (hcc18 _ (hh.chin 0 rfl) 3 _ rfl), (hcc18 _ (hh.chin 0 rfl) 4 _ rfl)⟩) (by kernel_rfl) ?_
      refine DrH.keep [0, 1, 2, 3, 4, 18, 19, 20, 21, 22, 23, 158, 164, 168] (L' := [(0, .slice Aa0 a0.length ca0), (1, .int .i64 a1), (2, .int .i64 a2), (3, .int .i64 a3), (4, .func (.func 123) #[] #[]), (18, .int .i64 (w64 (iShr .u64 (IntKind.wrap .u64 (w64 (a1 + a3))) 1))), (19, .int .i64 (w64 ((w64 (iShr .u64 (IntKind.wrap .u64 (w64 (a1 + a3))) 1)) + a2))), (20, .int .i64 v_start20), (21, .int .i64 v_r21), (22, .int .i64 (w64 ((w64 ((w64 (iShr .u64 (IntKind.wrap .u64 (w64 (a1 + a3))) 1)) + a2)) - 1))), (23, .int .i64 (w64 (iShr .u64 (IntKind.wrap .u64 (w64 (v_start20 + v_r21))) 1))), (158, .func (.func 123) #[] #[]), (164, .agg #[.string x11.Digest, .int .i64 x11.Size, .int .i64 x11.Used, .int .i64 x11.Until, .int .i64 x11.Pins]), (168, .agg #[.string x12.Digest, .int .i64 x12.Size, .int .i64 x12.Used, .int .i64 x12.Until, .int .i64 x12.Pins])]) (by kernel_rfl) ?_
      obtain ⟨y6, hy6, heq⟩ := bind_some heq
      refine DrH.does (n := 2) (ls' := [true, true, true, true, true, true, true, true, true, true, true, true, false, false]) 11 (by kernel_rfl) rfl (DoesH.call (d := 169) (g := 123) (args := #[.agg #[.string x11.Digest, .int .i64 x11.Size, .int .i64 x11.Used, .int .i64 x11.Until, .int .i64 x11.Pins], .agg #[.string x12.Digest, .int .i64 x12.Size, .int .i64 x12.Used, .int .i64 x12.Until, .int .i64 x12.Pins]]) (by kernel_rfl) (cache_leaving_2_c (a0 := x11) (a1 := x12)  hy6)) ?_
      rintro _ _ _ _ ⟨_, rfl, rfl, rfl, rfl⟩
      refine ⟨fun _ w hh => ⟨fun _ => (fun w hh => hh.pick 1 [0] (by kernel_rfl)) w hh, fun _ => (fun w hh => hh.pick 1 [0] (by kernel_rfl)) w hh, (fun h => by cases h)⟩, ?_⟩
      refine DrH.run [12, 13] (m := 0) (ls' := [true, true, true, true, true, true, true, true, true, true, true, true, true, true]) (vs := []) (evs := []) (L' := [(171, .bool (!(decide (y6 < 0)))), (170, .bool (decide (y6 < 0))), (169, .int .i64 y6), (0, .slice Aa0 a0.length ca0), (1, .int .i64 a1), (2, .int .i64 a2), (3, .int .i64 a3), (4, .func (.func 123) #[] #[]), (18, .int .i64 (w64 (iShr .u64 (IntKind.wrap .u64 (w64 (a1 + a3))) 1))), (19, .int .i64 (w64 ((w64 (iShr .u64 (IntKind.wrap .u64 (w64 (a1 + a3))) 1)) + a2))), (20, .int .i64 v_start20), (21, .int .i64 v_r21), (22, .int .i64 (w64 ((w64 ((w64 (iShr .u64 (IntKind.wrap .u64 (w64 (a1 + a3))) 1)) + a2)) - 1))), (23, .int .i64 (w64 (iShr .u64 (IntKind.wrap .u64 (w64 (v_start20 + v_r21))) 1))), (158, .func (.func 123) #[] #[]), (164, .agg #[.string x11.Digest, .int .i64 x11.Size, .int .i64 x11.Used, .int .i64 x11.Until, .int .i64 x11.Pins]), (168, .agg #[.string x12.Digest, .int .i64 x12.Size, .int .i64 x12.Used, .int .i64 x12.Until, .int .i64 x12.Pins])]) (by kernel_rfl) (fun w hh => hh.pick 1 [0] (by kernel_rfl)) (fun w hh => hh.pick 1 [0] (by kernel_rfl)) (by kernel_rfl) (fun _ _ => trivial) (by kernel_rfl) ?_
      refine DrH.keep [0, 1, 2, 3, 4, 18, 19, 20, 21, 22, 23, 171] (L' := [(0, .slice Aa0 a0.length ca0), (1, .int .i64 a1), (2, .int .i64 a2), (3, .int .i64 a3), (4, .func (.func 123) #[] #[]), (18, .int .i64 (w64 (iShr .u64 (IntKind.wrap .u64 (w64 (a1 + a3))) 1))), (19, .int .i64 (w64 ((w64 (iShr .u64 (IntKind.wrap .u64 (w64 (a1 + a3))) 1)) + a2))), (20, .int .i64 v_start20), (21, .int .i64 v_r21), (22, .int .i64 (w64 ((w64 ((w64 (iShr .u64 (IntKind.wrap .u64 (w64 (a1 + a3))) 1)) + a2)) - 1))), (23, .int .i64 (w64 (iShr .u64 (IntKind.wrap .u64 (w64 (v_start20 + v_r21))) 1))), (171, .bool (!(decide (y6 < 0))))]) (by kernel_rfl) ?_
      refine DrH.done (by kernel_rfl) ?_
      rcases bool_cases (!(decide (y6 < 0))) with hb16 | hb16
      · replace heq := bif_true hb16 heq
        refine RunH.condT (c := !(decide (y6 < 0))) (by kernel_rfl) hb16 ?_
        refine RunH.reg (by kernel_rfl) ?_
        refine RgH.runk 3 [0, 1, 2, 3, 4, 18, 19, 20, 21, 22] (vs := []) (evs := []) (L' := [(0, .slice Aa0 a0.length ca0), (1, .int .i64 a1), (2, .int .i64 a2), (3, .int .i64 a3), (4, .func (.func 123) #[] #[]), (18, .int .i64 (w64 (iShr .u64 (IntKind.wrap .u64 (w64 (a1 + a3))) 1))), (19, .int .i64 (w64 ((w64 (iShr .u64 (IntKind.wrap .u64 (w64 (a1 + a3))) 1)) + a2))), (20, .int .i64 (w64 ((w64 (iShr .u64 (IntKind.wrap .u64 (w64 (v_start20 + v_r21))) 1)) + 1))), (21, .int .i64 v_r21), (22, .int .i64 (w64 ((w64 ((w64 (iShr .u64 (IntKind.wrap .u64 (w64 (a1 + a3))) 1)) + a2)) - 1)))]) (by kernel_rfl) (by kernel_rfl) (fun _ _ => trivial) ?_
        refine RgH.done (by kernel_rfl) ?_
        refine RunH.adm 2 (es' := [.c [1, 1, 1, 1, 1, 1, 1, 0, 0, 0], .l [1, 1, 1, 1, 1, 1, 1, 0, 0, 0], .b 8, .c [1, 1, 1, 1, 1, 1, 1, 1]]) (by kernel_rfl) ?_
        refine RunH.keep [0, 1, 2, 3, 4, 18, 19, 20, 21, 22] (L' := [(0, .slice Aa0 a0.length ca0), (1, .int .i64 a1), (2, .int .i64 a2), (3, .int .i64 a3), (4, .func (.func 123) #[] #[]), (18, .int .i64 (w64 (iShr .u64 (IntKind.wrap .u64 (w64 (a1 + a3))) 1))), (19, .int .i64 (w64 ((w64 (iShr .u64 (IntKind.wrap .u64 (w64 (a1 + a3))) 1)) + a2))), (20, .int .i64 (w64 ((w64 (iShr .u64 (IntKind.wrap .u64 (w64 (v_start20 + v_r21))) 1)) + 1))), (21, .int .i64 v_r21), (22, .int .i64 (w64 ((w64 ((w64 (iShr .u64 (IntKind.wrap .u64 (w64 (a1 + a3))) 1)) + a2)) - 1)))]) (by kernel_rfl) ?_
        exact ihk a0 _ _ _ _ a1 a2 a3 (w64 ((w64 (iShr .u64 (IntKind.wrap .u64 (w64 (v_start20 + v_r21))) 1)) + 1)) v_r21 hoa0 hla0 heq
      · replace heq := bif_false hb16 heq
        refine RunH.condF (c := !(decide (y6 < 0))) (by kernel_rfl) hb16 ?_
        refine RunH.reg (by kernel_rfl) ?_
        refine RgH.runk 2 [0, 1, 2, 3, 4, 18, 19, 20, 21, 22] (vs := []) (evs := []) (L' := [(0, .slice Aa0 a0.length ca0), (1, .int .i64 a1), (2, .int .i64 a2), (3, .int .i64 a3), (4, .func (.func 123) #[] #[]), (18, .int .i64 (w64 (iShr .u64 (IntKind.wrap .u64 (w64 (a1 + a3))) 1))), (19, .int .i64 (w64 ((w64 (iShr .u64 (IntKind.wrap .u64 (w64 (a1 + a3))) 1)) + a2))), (20, .int .i64 v_start20), (21, .int .i64 (w64 (iShr .u64 (IntKind.wrap .u64 (w64 (v_start20 + v_r21))) 1))), (22, .int .i64 (w64 ((w64 ((w64 (iShr .u64 (IntKind.wrap .u64 (w64 (a1 + a3))) 1)) + a2)) - 1)))]) (by kernel_rfl) (by kernel_rfl) (fun _ _ => trivial) ?_
        refine RgH.done (by kernel_rfl) ?_
        refine RunH.adm 2 (es' := [.c [1, 1, 1, 1, 1, 1, 1, 0, 0, 0], .l [1, 1, 1, 1, 1, 1, 1, 0, 0, 0], .b 8, .c [1, 1, 1, 1, 1, 1, 1, 1]]) (by kernel_rfl) ?_
        refine RunH.keep [0, 1, 2, 3, 4, 18, 19, 20, 21, 22] (L' := [(0, .slice Aa0 a0.length ca0), (1, .int .i64 a1), (2, .int .i64 a2), (3, .int .i64 a3), (4, .func (.func 123) #[] #[]), (18, .int .i64 (w64 (iShr .u64 (IntKind.wrap .u64 (w64 (a1 + a3))) 1))), (19, .int .i64 (w64 ((w64 (iShr .u64 (IntKind.wrap .u64 (w64 (a1 + a3))) 1)) + a2))), (20, .int .i64 v_start20), (21, .int .i64 (w64 (iShr .u64 (IntKind.wrap .u64 (w64 (v_start20 + v_r21))) 1))), (22, .int .i64 (w64 ((w64 ((w64 (iShr .u64 (IntKind.wrap .u64 (w64 (a1 + a3))) 1)) + a2)) - 1)))]) (by kernel_rfl) ?_
        exact ihk a0 _ _ _ _ a1 a2 a3 v_start20 (w64 (iShr .u64 (IntKind.wrap .u64 (w64 (v_start20 + v_r21))) 1)) hoa0 hla0 heq
    · replace heq := bif_false hb15 heq
      refine RunH.condF (c := decide (v_start20 < v_r21)) (by kernel_rfl) hb15 ?_
      refine RunH.adm 2 (es' := [.c [1, 1, 1, 1, 1, 1, 1, 1, 0], .c [1, 1, 1, 1, 1, 1, 1, 1, 1]]) (by kernel_rfl) ?_
      refine RunH.keep [0, 1, 2, 3, 4, 18, 19, 20] (L' := [(0, .slice Aa0 a0.length ca0), (1, .int .i64 a1), (2, .int .i64 a2), (3, .int .i64 a3), (4, .func (.func 123) #[] #[]), (18, .int .i64 (w64 (iShr .u64 (IntKind.wrap .u64 (w64 (a1 + a3))) 1))), (19, .int .i64 (w64 ((w64 (iShr .u64 (IntKind.wrap .u64 (w64 (a1 + a3))) 1)) + a2))), (20, .int .i64 v_start20)]) (by kernel_rfl) ?_
      exact he8 a0 _ _ _ _ a1 a2 a3 v_start20 hoa0 hla0 heq
theorem slices_symMergeCmpFunc_Blob.j7_c {w0 : World} {H : Hp} {F : List Ch} {r : (List Blob)} (rec_ : (List Blob) → Int → Int → Int → Option (List Blob))
    (hrec_ : ∀ {H : Hp} {F : List Ch} {a0 : List Blob} {Aa0 : Option Addr} {na0 : Nat} {ca0 : Nat} {cha0 : Ch} {a1 : Int} {a2 : Int} {a3 : Int} {r : (List Blob)}, SlOwn kBlob 47 H Aa0 ca0 a0 cha0 → na0 = a0.length → rec_ a0 a1 a2 a3 = some r → CallsH Tryd.prog 167 #[.slice Aa0 na0 ca0, .int .i64 a1, .int .i64 a2, .int .i64 a3, .func (.func 123) #[] #[]] H w0 (cha0 :: F) (S167 F H Aa0 ca0 na0 r)) : ∀ (a0 : List Blob) (Aa0 : Option Addr) (ca0 : Nat) (cha0 : Ch) (la0 : Nat) (a1 : Int) (a2 : Int) (a3 : Int) (v_start20 : Int) (v_r21 : Int) , SlOwn kBlob 47 H Aa0 ca0 a0 cha0 → la0 = a0.length → slices_symMergeCmpFunc_Blob.j7 rec_ a0 a1 a2 a3 v_start20 v_r21 = some r → RunH C167 (S167 F H Aa0 ca0 la0 r) H w0 [.c [1, 1, 1, 1, 1, 1, 0], .c [1, 1, 1, 1, 1, 1, 1]] [(0, .slice Aa0 a0.length ca0), (1, .int .i64 a1), (2, .int .i64 a2), (3, .int .i64 a3), (4, .func (.func 123) #[] #[]), (18, .int .i64 (w64 (iShr .u64 (IntKind.wrap .u64 (w64 (a1 + a3))) 1))), (19, .int .i64 (w64 ((w64 (iShr .u64 (IntKind.wrap .u64 (w64 (a1 + a3))) 1)) + a2))), (20, .int .i64 v_start20), (21, .int .i64 v_r21)] H (cha0 :: F) := by
  intro a0 Aa0 ca0 cha0 la0 a1 a2 a3 v_start20 v_r21 hoa0 hla0 heq
  unfold slices_symMergeCmpFunc_Blob.j7 at heq
  refine RunH.reg (by kernel_rfl) ?_
  refine RgH.runk 3 [0, 1, 2, 3, 4, 18, 19, 20, 21, 22] (vs := []) (evs := []) (L' := [(0, .slice Aa0 a0.length ca0), (1, .int .i64 a1), (2, .int .i64 a2), (3, .int .i64 a3), (4, .func (.func 123) #[] #[]), (18, .int .i64 (w64 (iShr .u64 (IntKind.wrap .u64 (w64 (a1 + a3))) 1))), (19, .int .i64 (w64 ((w64 (iShr .u64 (IntKind.wrap .u64 (w64 (a1 + a3))) 1)) + a2))), (20, .int .i64 v_start20), (21, .int .i64 v_r21), (22, .int .i64 (w64 ((w64 ((w64 (iShr .u64 (IntKind.wrap .u64 (w64 (a1 + a3))) 1)) + a2)) - 1)))]) (by kernel_rfl) (by kernel_rfl) (fun _ _ => trivial) ?_
  refine RgH.done (by kernel_rfl) ?_
  refine RunH.adm 3 (es' := [.c [1, 1, 1, 1, 1, 1, 1, 0, 0, 0], .l [1, 1, 1, 1, 1, 1, 1, 0, 0, 0], .b 8, .c [1, 1, 1, 1, 1, 1, 1, 1]]) (by kernel_rfl) ?_
  refine RunH.keep [0, 1, 2, 3, 4, 18, 19, 20, 21, 22] (L' := [(0, .slice Aa0 a0.length ca0), (1, .int .i64 a1), (2, .int .i64 a2), (3, .int .i64 a3), (4, .func (.func 123) #[] #[]), (18, .int .i64 (w64 (iShr .u64 (IntKind.wrap .u64 (w64 (a1 + a3))) 1))), (19, .int .i64 (w64 ((w64 (iShr .u64 (IntKind.wrap .u64 (w64 (a1 + a3))) 1)) + a2))), (20, .int .i64 v_start20), (21, .int .i64 v_r21), (22, .int .i64 (w64 ((w64 ((w64 (iShr .u64 (IntKind.wrap .u64 (w64 (a1 + a3))) 1)) + a2)) - 1)))]) (by kernel_rfl) ?_
  exact ((slices_symMergeCmpFunc_Blob.l12_c (e8 := slices_symMergeCmpFunc_Blob.e8 rec_) (slices_symMergeCmpFunc_Blob.e8_c (rec_ := rec_) hrec_)) big) a0 _ _ _ _ a1 a2 a3 v_start20 v_r21 hoa0 hla0 heq
theorem slices_symMergeCmpFunc_Blob_g {w0 : World} {rec_ : (List Blob) → Int → Int → Int → Option (List Blob)} (hrec_ : ∀ {H : Hp} {F : List Ch} {a0 : List Blob} {Aa0 : Option Addr} {na0 : Nat} {ca0 : Nat} {cha0 : Ch} {a1 : Int} {a2 : Int} {a3 : Int} {r : (List Blob)}, SlOwn kBlob 47 H Aa0 ca0 a0 cha0 → na0 = a0.length → rec_ a0 a1 a2 a3 = some r → CallsH Tryd.prog 167 #[.slice Aa0 na0 ca0, .int .i64 a1, .int .i64 a2, .int .i64 a3, .func (.func 123) #[] #[]] H w0 (cha0 :: F) (S167 F H Aa0 ca0 na0 r)) {H : Hp} {F : List Ch} {a0 : List Blob} {Aa0 : Option Addr} {na0 : Nat} {ca0 : Nat} {cha0 : Ch} {a1 : Int} {a2 : Int} {a3 : Int} {r : (List Blob)} (hoa0 : SlOwn kBlob 47 H Aa0 ca0 a0 cha0) (hna0 : na0 = a0.length) (heq : slices_symMergeCmpFunc_Blob.g rec_ a0 a1 a2 a3 = some r) : CallsH Tryd.prog 167 #[.slice Aa0 na0 ca0, .int .i64 a1, .int .i64 a2, .int .i64 a3, .func (.func 123) #[] #[]] H w0 (cha0 :: F) (S167 F H Aa0 ca0 na0 r) := by
  refine calls_of_runH (F := C167) Tryd.func167 (by kernel_rfl) Tryd.ntmps167 (args := [.slice Aa0 na0 ca0, .int .i64 a1, .int .i64 a2, .int .i64 a3, .func (.func 123) #[] #[]]) (by kernel_rfl) ?_
  suffices key0 : ∀ (la0 : Nat), la0 = na0 → RunH C167 (S167 F H Aa0 ca0 la0 r) H w0 [.c []] (argL 0 [.slice Aa0 na0 ca0, .int .i64 a1, .int .i64 a2, .int .i64 a3, .func (.func 123) #[] #[]]) H (cha0 :: F) from key0 na0 rfl
  intro la0 hla0
  subst hna0
  unfold slices_symMergeCmpFunc_Blob.g at heq
  refine RunH.adm 2 (es' := [.c [0, 0], .c [0, 1], .c [1]]) (by kernel_rfl) ?_
  refine RunH.reg (by kernel_rfl) ?_
  refine RgH.runk 4 [0, 1, 2, 3, 4, 28] (vs := []) (evs := []) (L' := [(0, .slice Aa0 a0.length ca0), (1, .int .i64 a1), (2, .int .i64 a2), (3, .int .i64 a3), (4, .func (.func 123) #[] #[]), (28, .bool ((w64 (a2 - a1)) == 1))]) (by kernel_rfl) (by kernel_rfl) (fun _ _ => trivial) ?_
  refine RgH.done (by kernel_rfl) ?_
  rcases bool_cases ((w64 (a2 - a1)) == 1) with hb1 | hb1
  · replace heq := bif_true hb1 heq
    refine RunH.condT (c := (w64 (a2 - a1)) == 1) (by kernel_rfl) hb1 ?_
    refine RunH.adm 1 (es' := [.c [0, 1, 0, 0], .c [0, 1, 0, 1], .c [1]]) (by kernel_rfl) ?_
    refine RunH.reg (by kernel_rfl) ?_
    refine RgH.runk 2 [0, 1, 3, 4, 10] (vs := []) (evs := []) (L' := [(0, .slice Aa0 a0.length ca0), (1, .int .i64 a1), (3, .int .i64 a3), (4, .func (.func 123) #[] #[]), (10, .int .i64 a2)]) (by kernel_rfl) (by kernel_rfl) (fun _ _ => trivial) ?_
    refine RgH.done (by kernel_rfl) ?_
    refine RunH.adm 1 (es' := [.c [0, 1, 0, 1, 0], .c [0, 1, 0, 1, 1], .c [1]]) (by kernel_rfl) ?_
    refine RunH.reg (by kernel_rfl) ?_
    refine RgH.runk 2 [0, 1, 4, 10, 11] (vs := []) (evs := []) (L' := [(0, .slice Aa0 a0.length ca0), (1, .int .i64 a1), (4, .func (.func 123) #[] #[]), (10, .int .i64 a2), (11, .int .i64 a3)]) (by kernel_rfl) (by kernel_rfl) (fun _ _ => trivial) ?_
    refine RgH.done (by kernel_rfl) ?_
    refine RunH.adm 3 (es' := [.c [0, 1, 0, 1, 1, 0, 0, 0], .l [0, 1, 0, 1, 1, 0, 0, 0], .b 0, .c [0, 1, 0, 1, 1, 1], .c [1]]) (by kernel_rfl) ?_
    refine RunH.keep [0, 1, 4, 10, 11] (L' := [(0, .slice Aa0 a0.length ca0), (1, .int .i64 a1), (4, .func (.func 123) #[] #[]), (10, .int .i64 a2), (11, .int .i64 a3)]) (by kernel_rfl) ?_
    exact ((slices_symMergeCmpFunc_Blob.l3_c (e1 := slices_symMergeCmpFunc_Blob.e1) (slices_symMergeCmpFunc_Blob.e1_c)) big) a0 _ _ _ _ a1 a2 a3 hoa0 hla0 heq
  · replace heq := bif_false hb1 heq
    refine RunH.condF (c := (w64 (a2 - a1)) == 1) (by kernel_rfl) hb1 ?_
    refine RunH.adm 3 (es' := [.c [1, 0, 0], .c [1, 0, 1], .c [1, 1]]) (by kernel_rfl) ?_
    refine RunH.reg (by kernel_rfl) ?_
    refine RgH.runk 4 [0, 1, 2, 3, 4, 80] (vs := []) (evs := []) (L' := [(0, .slice Aa0 a0.length ca0), (1, .int .i64 a1), (2, .int .i64 a2), (3, .int .i64 a3), (4, .func (.func 123) #[] #[]), (80, .bool ((w64 (a3 - a2)) == 1))]) (by kernel_rfl) (by kernel_rfl) (fun _ _ => trivial) ?_
    refine RgH.done (by kernel_rfl) ?_
    rcases bool_cases ((w64 (a3 - a2)) == 1) with hb5 | hb5
    · replace heq := bif_true hb5 heq
      refine RunH.condT (c := (w64 (a3 - a2)) == 1) (by kernel_rfl) hb5 ?_
      refine RunH.adm 1 (es' := [.c [1, 0, 1, 0, 0], .c [1, 0, 1, 0, 1], .c [1, 1]]) (by kernel_rfl) ?_
      refine RunH.reg (by kernel_rfl) ?_
      refine RgH.runk 2 [0, 2, 4, 14] (vs := []) (evs := []) (L' := [(0, .slice Aa0 a0.length ca0), (2, .int .i64 a2), (4, .func (.func 123) #[] #[]), (14, .int .i64 a1)]) (by kernel_rfl) (by kernel_rfl) (fun _ _ => trivial) ?_
      refine RgH.done (by kernel_rfl) ?_
      refine RunH.adm 1 (es' := [.c [1, 0, 1, 0, 1, 0], .c [1, 0, 1, 0, 1, 1], .c [1, 1]]) (by kernel_rfl) ?_
      refine RunH.reg (by kernel_rfl) ?_
      refine RgH.runk 2 [0, 2, 4, 14, 15] (vs := []) (evs := []) (L' := [(0, .slice Aa0 a0.length ca0), (2, .int .i64 a2), (4, .func (.func 123) #[] #[]), (14, .int .i64 a1), (15, .int .i64 a2)]) (by kernel_rfl) (by kernel_rfl) (fun _ _ => trivial) ?_
      refine RgH.done (by kernel_rfl) ?_
      refine RunH.adm 3 (es' := [.c [1, 0, 1, 0, 1, 1, 0, 0, 0], .l [1, 0, 1, 0, 1, 1, 0, 0, 0], .b 4, .c [1, 0, 1, 0, 1, 1, 1], .c [1, 1]]) (by kernel_rfl) ?_
      refine RunH.keep [0, 2, 4, 14, 15] (L' := [(0, .slice Aa0 a0.length ca0), (2, .int .i64 a2), (4, .func (.func 123) #[] #[]), (14, .int .i64 a1), (15, .int .i64 a2)]) (by kernel_rfl) ?_
      exact ((slices_symMergeCmpFunc_Blob.l6_c (e4 := slices_symMergeCmpFunc_Blob.e4) (slices_symMergeCmpFunc_Blob.e4_c)) big) a0 _ _ _ _ a2 a1 a2 hoa0 hla0 heq
    · replace heq := bif_false hb5 heq
      refine RunH.condF (c := (w64 (a3 - a2)) == 1) (by kernel_rfl) hb5 ?_
      refine RunH.adm 2 (es' := [.c [1, 1, 0], .c [1, 1, 1]]) (by kernel_rfl) ?_
      refine RunH.reg (by kernel_rfl) ?_
      refine RgH.runk 7 [0, 1, 2, 3, 4, 18] (vs := []) (evs := [.need ((0 : Int) ≤ 1)]) (L' := [(0, .slice Aa0 a0.length ca0), (1, .int .i64 a1), (2, .int .i64 a2), (3, .int .i64 a3), (4, .func (.func 123) #[] #[]), (18, .int .i64 (w64 (iShr .u64 (IntKind.wrap .u64 (w64 (a1 + a3))) 1)))]) (by kernel_rfl) (by kernel_rfl) (fun w hh => (show (0 : Int) ≤ 1 by decide)) ?_
      refine RgH.done (by kernel_rfl) ?_
      refine RunH.adm 1 (es' := [.c [1, 1, 1, 0], .c [1, 1, 1, 1]]) (by kernel_rfl) ?_
      refine RunH.reg (by kernel_rfl) ?_
      refine RgH.runk 4 [0, 1, 2, 3, 4, 18, 19] (vs := []) (evs := []) (L' := [(0, .slice Aa0 a0.length ca0), (1, .int .i64 a1), (2, .int .i64 a2), (3, .int .i64 a3), (4, .func (.func 123) #[] #[]), (18, .int .i64 (w64 (iShr .u64 (IntKind.wrap .u64 (w64 (a1 + a3))) 1))), (19, .int .i64 (w64 ((w64 (iShr .u64 (IntKind.wrap .u64 (w64 (a1 + a3))) 1)) + a2)))]) (by kernel_rfl) (by kernel_rfl) (fun _ _ => trivial) ?_
      refine RgH.done (by kernel_rfl) ?_
      refine RunH.adm 1 (es' := [.c [1, 1, 1, 1, 0], .c [1, 1, 1, 1, 1]]) (by kernel_rfl) ?_
      refine RunH.reg (by kernel_rfl) ?_
      refine RgH.runk 2 [0, 1, 2, 3, 4, 18, 19] (vs := []) (evs := []) (L' := [(0, .slice Aa0 a0.length ca0), (1, .int .i64 a1), (2, .int .i64 a2), (3, .int .i64 a3), (4, .func (.func 123) #[] #[]), (18, .int .i64 (w64 (iShr .u64 (IntKind.wrap .u64 (w64 (a1 + a3))) 1))), (19, .int .i64 (w64 ((w64 (iShr .u64 (IntKind.wrap .u64 (w64 (a1 + a3))) 1)) + a2)))]) (by kernel_rfl) (by kernel_rfl) (fun _ _ => trivial) ?_
      refine RgH.done (by kernel_rfl) ?_
      refine RunH.adm 2 (es' := [.c [1, 1, 1, 1, 1, 0, 0], .c [1, 1, 1, 1, 1, 0, 1], .c [1, 1, 1, 1, 1, 1]]) (by kernel_rfl) ?_
      refine RunH.reg (by kernel_rfl) ?_
      refine RgH.runk 3 [0, 1, 2, 3, 4, 18, 19, 140] (vs := []) (evs := []) (L' := [(0, .slice Aa0 a0.length ca0), (1, .int .i64 a1), (2, .int .i64 a2), (3, .int .i64 a3), (4, .func (.func 123) #[] #[]), (18, .int .i64 (w64 (iShr .u64 (IntKind.wrap .u64 (w64 (a1 + a3))) 1))), (19, .int .i64 (w64 ((w64 (iShr .u64 (IntKind.wrap .u64 (w64 (a1 + a3))) 1)) + a2))), (140, .bool (decide ((w64 (iShr .u64 (IntKind.wrap .u64 (w64 (a1 + a3))) 1)) < a2)))]) (by kernel_rfl) (by kernel_rfl) (fun _ _ => trivial) ?_
      refine RgH.done (by kernel_rfl) ?_
      rcases bool_cases (decide ((w64 (iShr .u64 (IntKind.wrap .u64 (w64 (a1 + a3))) 1)) < a2)) with hb17 | hb17
      · replace heq := bif_true hb17 heq
        refine RunH.condT (c := decide ((w64 (iShr .u64 (IntKind.wrap .u64 (w64 (a1 + a3))) 1)) < a2)) (by kernel_rfl) hb17 ?_
        refine RunH.adm 1 (es' := [.c [1, 1, 1, 1, 1, 0, 1, 0, 0], .c [1, 1, 1, 1, 1, 0, 1, 0, 1], .c [1, 1, 1, 1, 1, 1]]) (by kernel_rfl) ?_
        refine RunH.reg (by kernel_rfl) ?_
        refine RgH.runk 4 [0, 1, 2, 3, 4, 18, 19, 20] (vs := []) (evs := []) (L' := [(0, .slice Aa0 a0.length ca0), (1, .int .i64 a1), (2, .int .i64 a2), (3, .int .i64 a3), (4, .func (.func 123) #[] #[]), (18, .int .i64 (w64 (iShr .u64 (IntKind.wrap .u64 (w64 (a1 + a3))) 1))), (19, .int .i64 (w64 ((w64 (iShr .u64 (IntKind.wrap .u64 (w64 (a1 + a3))) 1)) + a2))), (20, .int .i64 (w64 ((w64 ((w64 (iShr .u64 (IntKind.wrap .u64 (w64 (a1 + a3))) 1)) + a2)) - a3)))]) (by kernel_rfl) (by kernel_rfl) (fun _ _ => trivial) ?_
        refine RgH.done (by kernel_rfl) ?_
        refine RunH.reg (by kernel_rfl) ?_
        refine RgH.runk 2 [0, 1, 2, 3, 4, 18, 19, 20, 21] (vs := []) (evs := []) (L' := [(0, .slice Aa0 a0.length ca0), (1, .int .i64 a1), (2, .int .i64 a2), (3, .int .i64 a3), (4, .func (.func 123) #[] #[]), (18, .int .i64 (w64 (iShr .u64 (IntKind.wrap .u64 (w64 (a1 + a3))) 1))), (19, .int .i64 (w64 ((w64 (iShr .u64 (IntKind.wrap .u64 (w64 (a1 + a3))) 1)) + a2))), (20, .int .i64 (w64 ((w64 ((w64 (iShr .u64 (IntKind.wrap .u64 (w64 (a1 + a3))) 1)) + a2)) - a3))), (21, .int .i64 (w64 (iShr .u64 (IntKind.wrap .u64 (w64 (a1 + a3))) 1)))]) (by kernel_rfl) (by kernel_rfl) (fun _ _ => trivial) ?_
        refine RgH.done (by kernel_rfl) ?_
        refine RunH.adm 1 (es' := [.c [1, 1, 1, 1, 1, 1, 0], .c [1, 1, 1, 1, 1, 1, 1]]) (by kernel_rfl) ?_
        refine RunH.keep [0, 1, 2, 3, 4, 18, 19, 20, 21] (L' := [(0, .slice Aa0 a0.length ca0), (1, .int .i64 a1), (2, .int .i64 a2), (3, .int .i64 a3), (4, .func (.func 123) #[] #[]), (18, .int .i64 (w64 (iShr .u64 (IntKind.wrap .u64 (w64 (a1 + a3))) 1))), (19, .int .i64 (w64 ((w64 (iShr .u64 (IntKind.wrap .u64 (w64 (a1 + a3))) 1)) + a2))), (20, .int .i64 (w64 ((w64 ((w64 (iShr .u64 (IntKind.wrap .u64 (w64 (a1 + a3))) 1)) + a2)) - a3))), (21, .int .i64 (w64 (iShr .u64 (IntKind.wrap .u64 (w64 (a1 + a3))) 1)))]) (by kernel_rfl) ?_
        exact (slices_symMergeCmpFunc_Blob.j7_c (rec_ := rec_) hrec_) a0 _ _ _ _ a1 a2 a3 (w64 ((w64 ((w64 (iShr .u64 (IntKind.wrap .u64 (w64 (a1 + a3))) 1)) + a2)) - a3)) (w64 (iShr .u64 (IntKind.wrap .u64 (w64 (a1 + a3))) 1)) hoa0 hla0 heq
      · replace heq := bif_false hb17 heq
        refine RunH.condF (c := decide ((w64 (iShr .u64 (IntKind.wrap .u64 (w64 (a1 + a3))) 1)) < a2)) (by kernel_rfl) hb17 ?_
        refine RunH.adm 1 (es' := [.c [1, 1, 1, 1, 1, 0, 1, 1, 0], .c [1, 1, 1, 1, 1, 0, 1, 1, 1], .c [1, 1, 1, 1, 1, 1]]) (by kernel_rfl) ?_
        refine RunH.reg (by kernel_rfl) ?_
        refine RgH.runk 2 [0, 1, 2, 3, 4, 18, 19, 20] (vs := []) (evs := []) (L' := [(0, .slice Aa0 a0.length ca0), (1, .int .i64 a1), (2, .int .i64 a2), (3, .int .i64 a3), (4, .func (.func 123) #[] #[]), (18, .int .i64 (w64 (iShr .u64 (IntKind.wrap .u64 (w64 (a1 + a3))) 1))), (19, .int .i64 (w64 ((w64 (iShr .u64 (IntKind.wrap .u64 (w64 (a1 + a3))) 1)) + a2))), (20, .int .i64 a1)]) (by kernel_rfl) (by kernel_rfl) (fun _ _ => trivial) ?_
        refine RgH.done (by kernel_rfl) ?_
        refine RunH.reg (by kernel_rfl) ?_
        refine RgH.runk 2 [0, 1, 2, 3, 4, 18, 19, 20, 21] (vs := []) (evs := []) (L' := [(0, .slice Aa0 a0.length ca0), (1, .int .i64 a1), (2, .int .i64 a2), (3, .int .i64 a3), (4, .func (.func 123) #[] #[]), (18, .int .i64 (w64 (iShr .u64 (IntKind.wrap .u64 (w64 (a1 + a3))) 1))), (19, .int .i64 (w64 ((w64 (iShr .u64 (IntKind.wrap .u64 (w64 (a1 + a3))) 1)) + a2))), (20, .int .i64 a1), (21, .int .i64 a2)]) (by kernel_rfl) (by kernel_rfl) (fun _ _ => trivial) ?_
        refine RgH.done (by kernel_rfl) ?_
        refine RunH.adm 1 (es' := [.c [1, 1, 1, 1, 1, 1, 0], .c [1, 1, 1, 1, 1, 1, 1]]) (by kernel_rfl) ?_
        refine RunH.keep [0, 1, 2, 3, 4, 18, 19, 20, 21] (L' := [(0, .slice Aa0 a0.length ca0), (1, .int .i64 a1), (2, .int .i64 a2), (3, .int .i64 a3), (4, .func (.func 123) #[] #[]), (18, .int .i64 (w64 (iShr .u64 (IntKind.wrap .u64 (w64 (a1 + a3))) 1))), (19, .int .i64 (w64 ((w64 (iShr .u64 (IntKind.wrap .u64 (w64 (a1 + a3))) 1)) + a2))), (20, .int .i64 a1), (21, .int .i64 a2)]) (by kernel_rfl) ?_
        exact (slices_symMergeCmpFunc_Blob.j7_c (rec_ := rec_) hrec_) a0 _ _ _ _ a1 a2 a3 a1 a2 hoa0 hla0 heq
theorem slices_symMergeCmpFunc_Blob_k {w0 : World} : ∀ (k : Nat), ∀ {H : Hp} {F : List Ch} {a0 : List Blob} {Aa0 : Option Addr} {na0 : Nat} {ca0 : Nat} {cha0 : Ch} {a1 : Int} {a2 : Int} {a3 : Int} {r : (List Blob)}, SlOwn kBlob 47 H Aa0 ca0 a0 cha0 → na0 = a0.length → slices_symMergeCmpFunc_Blob.fk k a0 a1 a2 a3 = some r → CallsH Tryd.prog 167 #[.slice Aa0 na0 ca0, .int .i64 a1, .int .i64 a2, .int .i64 a3, .func (.func 123) #[] #[]] H w0 (cha0 :: F) (S167 F H Aa0 ca0 na0 r) := by
  intro k
  induction k with
  | zero => intro H F a0 Aa0 na0 ca0 cha0 a1 a2 a3 r h0_ h1_ heq; cases heq
  | succ k ih =>
    intro H F a0 Aa0 na0 ca0 cha0 a1 a2 a3 r h0_ h1_ heq
    exact slices_symMergeCmpFunc_Blob_g (rec_ := slices_symMergeCmpFunc_Blob.fk k) ih h0_ h1_ heq
theorem slices_symMergeCmpFunc_Blob_c {w0 : World} {H : Hp} {F : List Ch} {a0 : List Blob} {Aa0 : Option Addr} {na0 : Nat} {ca0 : Nat} {cha0 : Ch} {a1 : Int} {a2 : Int} {a3 : Int} {r : (List Blob)} (hoa0 : SlOwn kBlob 47 H Aa0 ca0 a0 cha0) (hna0 : na0 = a0.length) (heq : slices_symMergeCmpFunc_Blob.f a0 a1 a2 a3 = some r) : CallsH Tryd.prog 167 #[.slice Aa0 na0 ca0, .int .i64 a1, .int .i64 a2, .int .i64 a3, .func (.func 123) #[] #[]] H w0 (cha0 :: F) (S167 F H Aa0 ca0 na0 r) := by
  exact slices_symMergeCmpFunc_Blob_k big hoa0 hna0 heq
end Go.Proofs.YtkjilepjblffeaaDoor
