/- What the machine's calls of these functions come to: just what the plain functions say. Written by program. -/
import Derived.Test.YtkjilepjblffeaaDoorProg
import Derived.Test.YtkjilepjblffeaaDoorKitV
import Derived.Test.YtkjilepjblffeaaDoorUD
import Derived.Test.YtkjilepjblffeaaDoorShelf
import Derived.Test.YtkjilepjblffeaaDoorU4M1
set_option linter.unusedVariables false
set_option linter.unusedSimpArgs false
set_option maxRecDepth 100000
set_option maxHeartbeats 1000000
namespace Go.Proofs.YtkjilepjblffeaaDoor
open Go Go.RowKit Go.Proofs.YtkjilepjblffeaaDoor.Kit
noncomputable def C70 : Ctx := { P := Tryd.prog, f := 70, N := 32, c := bodyOf Tryd.f70 }
def S70 (F : List Ch) (H0 : Hp) (r : Cache) (v : Value) (H : Hp) (cs : List Ch) : Prop := ∃ (A0_2 : Option Addr) (c0_2 : Nat) (ch0_2 : Ch) (A0_3 : Option Addr) (c0_3 : Nat) (ch0_3 : Ch), v = .agg #[.int .i64 r.Room, .int .i64 r.Lease, .slice A0_2 r.Blobs.length c0_2, .slice A0_3 r.Entries.length c0_3] ∧ ch0_2 :: ch0_3 :: F = cs ∧ SlOwn kBlob 47 H A0_2 c0_2 r.Blobs ch0_2 ∧ SlOwn kEntry 51 H A0_3 c0_3 r.Entries ch0_3
theorem cache_own.e1_c {w0 : World} {H0 : Hp} {F : List Ch} {r : Cache} : ∀ (H : Hp) (a0 : Cache) (g1 : Nat) (g2 : Nat) (y1 : List Blob) (A1 : Option Addr) (c1 : Nat) (ch1 : Ch) (v_c1_3 : List Entry) (Av_c1_3 : Option Addr) (nv_c1_3 : Nat) (cv_c1_3 : Nat) (chv_c1_3 : Ch) , SlOwn kBlob 47 H A1 c1 y1 ch1 → SlOwn kEntry 51 H Av_c1_3 cv_c1_3 v_c1_3 chv_c1_3 → nv_c1_3 = v_c1_3.length → cache_own.e1 a0 y1 v_c1_3 = some r → RunH C70 (S70 F H0 r) H0 w0 [.c [1, 1, 1, 0], .c [1, 1, 1, 1]] [(1, .pointer (some ⟨g1, 0, none⟩)), (2, .pointer (some ⟨g2, 0, none⟩))] H (chv_c1_3 :: ch1 :: (some (g2, .cells #[.int .i64 0, .int .i64 0, .slice none 0 0, .slice none 0 0] 25 (0, 0))) :: (some (g1, .cells #[.int .i64 a0.Room, .int .i64 a0.Lease, .slice A1 y1.length c1, .slice Av_c1_3 nv_c1_3 cv_c1_3] 25 (0, 0))) :: F) := by
  intro H a0 g1 g2 y1 A1 c1 ch1 v_c1_3 Av_c1_3 nv_c1_3 cv_c1_3 chv_c1_3 ho1 hov_c1_3 hnv_c1_3 heq
  subst hnv_c1_3
  unfold cache_own.e1 at heq
  refine RunH.reg (by kernel_rfl) ?_
  refine RgH.runk 1 [2, 31] (vs := [.int .i64 a0.Room, .int .i64 a0.Lease, .slice A1 y1.length c1, .slice Av_c1_3 v_c1_3.length cv_c1_3]) (evs := [.load ⟨g1, 0, none⟩ (.int .i64 a0.Room), .load ⟨g1, 1, none⟩ (.int .i64 a0.Lease), .load ⟨g1, 2, none⟩ (.slice A1 y1.length c1), .load ⟨g1, 3, none⟩ (.slice Av_c1_3 v_c1_3.length cv_c1_3)]) (L' := [(2, .pointer (some ⟨g2, 0, none⟩)), (31, .agg #[.int .i64 a0.Room, .int .i64 a0.Lease, .slice A1 y1.length c1, .slice Av_c1_3 v_c1_3.length cv_c1_3])]) (by kernel_rfl) (by kernel_rfl) (fun w hh => ⟨(hh.box 3 rfl rfl), (hh.box 3 rfl rfl), (hh.box 3 rfl rfl), (hh.box 3 rfl rfl)⟩) ?_
  refine RgH.does (DoesH.store (k := 2) (g := g2) (off := 0) (v := .agg #[.int .i64 a0.Room, .int .i64 a0.Lease, .slice A1 y1.length c1, .slice Av_c1_3 v_c1_3.length cv_c1_3]) (cells' := #[.int .i64 a0.Room, .int .i64 a0.Lease, .slice A1 y1.length c1, .slice Av_c1_3 v_c1_3.length cv_c1_3]) (by kernel_rfl) rfl (by kernel_rfl) (by kernel_rfl)) ?_
  rintro _ _ _ _ ⟨rfl, rfl, rfl⟩
  refine RgH.done (by kernel_rfl) ?_
  obtain rfl := Option.some.inj heq
  refine RunH.pick 4 [2, 1, 0] (cs' := (some (g2, .cells #[.int .i64 a0.Room, .int .i64 a0.Lease, .slice A1 y1.length c1, .slice Av_c1_3 v_c1_3.length cv_c1_3] 25 (0, 0))) :: ch1 :: chv_c1_3 :: F) (by kernel_rfl) rfl ?_
  exact RunH.doneM' 1 (vs := [.agg #[.int .i64 a0.Room, .int .i64 a0.Lease, .slice A1 y1.length c1, .slice Av_c1_3 v_c1_3.length cv_c1_3]]) (v := .agg #[.int .i64 a0.Room, .int .i64 a0.Lease, .slice A1 y1.length c1, .slice Av_c1_3 v_c1_3.length cv_c1_3]) (by kernel_rfl) Tryd.func70 (fun w hh => show ResAll _ _ _ [.cell 2 25] _ from ⟨⟨⟨g2, 0, none⟩, by kernel_rfl, trS_run _ (vs := [.int .i64 a0.Room, .int .i64 a0.Lease, .slice A1 y1.length c1, .slice Av_c1_3 v_c1_3.length cv_c1_3]) (r := []) (es := [.load ⟨g2, 0, none⟩ (.int .i64 a0.Room), .load ⟨g2, 1, none⟩ (.int .i64 a0.Lease), .load ⟨g2, 2, none⟩ (.slice A1 y1.length c1), .load ⟨g2, 3, none⟩ (.slice Av_c1_3 v_c1_3.length cv_c1_3)]) (by kernel_rfl) ⟨(hh.box 0 rfl rfl), (hh.box 0 rfl rfl), (hh.box 0 rfl rfl), (hh.box 0 rfl rfl)⟩⟩, trivial⟩) rfl (cs' := ch1 :: chv_c1_3 :: F) rfl ⟨A1, c1, ch1, Av_c1_3, cv_c1_3, chv_c1_3, rfl, rfl, ho1, hov_c1_3⟩
theorem cache_own.l2_c {w0 : World} {H0 : Hp} {F : List Ch} {r : Cache} (e1 : Cache → (List Blob) → (List Entry) → Option Cache)
    (he1 : ∀ (H : Hp) (a0 : Cache) (g1 : Nat) (g2 : Nat) (y1 : List Blob) (A1 : Option Addr) (c1 : Nat) (ch1 : Ch) (v_c1_3 : List Entry) (Av_c1_3 : Option Addr) (nv_c1_3 : Nat) (cv_c1_3 : Nat) (chv_c1_3 : Ch) , SlOwn kBlob 47 H A1 c1 y1 ch1 → SlOwn kEntry 51 H Av_c1_3 cv_c1_3 v_c1_3 chv_c1_3 → nv_c1_3 = v_c1_3.length → e1 a0 y1 v_c1_3 = some r → RunH C70 (S70 F H0 r) H0 w0 [.c [1, 1, 1, 0], .c [1, 1, 1, 1]] [(1, .pointer (some ⟨g1, 0, none⟩)), (2, .pointer (some ⟨g2, 0, none⟩))] H (chv_c1_3 :: ch1 :: (some (g2, .cells #[.int .i64 0, .int .i64 0, .slice none 0 0, .slice none 0 0] 25 (0, 0))) :: (some (g1, .cells #[.int .i64 a0.Room, .int .i64 a0.Lease, .slice A1 y1.length c1, .slice Av_c1_3 nv_c1_3 cv_c1_3] 25 (0, 0))) :: F)) : ∀ (k : Nat), ∀ (H : Hp) (a0 : Cache) (g1 : Nat) (g2 : Nat) (y1 : List Blob) (A1 : Option Addr) (c1 : Nat) (ch1 : Ch) (y2 : List Entry) (v_c1_3 : List Entry) (Av_c1_3 : Option Addr) (nv_c1_3 : Nat) (cv_c1_3 : Nat) (chv_c1_3 : Ch) (v15 : Int) , SlOwn kBlob 47 H A1 c1 y1 ch1 → SlOwn kEntry 51 H Av_c1_3 cv_c1_3 v_c1_3 chv_c1_3 → nv_c1_3 = v_c1_3.length → cache_own.l2 e1 k a0 y1 y2 v_c1_3 v15 = some r → RunH C70 (S70 F H0 r) H0 w0 [.c [1, 1, 0, 1, 0, 0], .l [1, 1, 0, 1, 0, 0], .b 0, .c [1, 1, 1]] [(1, .pointer (some ⟨g1, 0, none⟩)), (2, .pointer (some ⟨g2, 0, none⟩)), (14, .int .i64 (y2.length : Int)), (15, .int .i64 v15)] H (chv_c1_3 :: ch1 :: (some (g2, .cells #[.int .i64 0, .int .i64 0, .slice none 0 0, .slice none 0 0] 25 (0, 0))) :: (some (g1, .cells #[.int .i64 a0.Room, .int .i64 a0.Lease, .slice A1 y1.length c1, .slice Av_c1_3 nv_c1_3 cv_c1_3] 25 (0, 0))) :: F) := by
  intro k
  induction k with
  | zero => intro H a0 g1 g2 y1 A1 c1 ch1 y2 v_c1_3 Av_c1_3 nv_c1_3 cv_c1_3 chv_c1_3 v15 ho1 hov_c1_3 hnv_c1_3 heq; exact nomatch (show (none : Option Cache) = some r from heq)
  | succ k ihk =>
    intro H a0 g1 g2 y1 A1 c1 ch1 y2 v_c1_3 Av_c1_3 nv_c1_3 cv_c1_3 chv_c1_3 v15 ho1 hov_c1_3 hnv_c1_3 heq
    subst hnv_c1_3
    rw [cache_own.l2] at heq
    refine RunH.adm 1 (es' := [.c [1, 1, 0, 1, 0, 0, 0], .c [1, 1, 0, 1, 0, 0, 1], .l [1, 1, 0, 1, 0, 0], .b 0, .c [1, 1, 1]]) (by kernel_rfl) ?_
    refine RunH.reg (by kernel_rfl) ?_
    refine RgH.runk 1 [1, 2, 14, 15, 16] (vs := []) (evs := []) (L' := [(1, .pointer (some ⟨g1, 0, none⟩)), (2, .pointer (some ⟨g2, 0, none⟩)), (14, .int .i64 (y2.length : Int)), (15, .int .i64 v15), (16, .bool (decide (v15 < (y2.length : Int))))]) (by kernel_rfl) (by kernel_rfl) (fun _ _ => trivial) ?_
    refine RgH.done (by kernel_rfl) ?_
    refine RunH.adm 1 (es' := [.c [1, 1, 0, 1, 0, 0, 1, 0], .c [1, 1, 0, 1, 0, 0, 1, 1], .l [1, 1, 0, 1, 0, 0], .b 0, .c [1, 1, 1]]) (by kernel_rfl) ?_
    rcases bool_cases (decide (v15 < (y2.length : Int))) with hb1 | hb1
    · replace heq := bif_true hb1 heq
      refine RunH.condT (c := decide (v15 < (y2.length : Int))) (by kernel_rfl) hb1 ?_
      refine RunH.adm 4 (es' := [.c [1, 1, 0, 1, 0, 0, 1, 1, 0, 0, 0], .c [1, 1, 0, 1, 0, 0, 1, 1, 0, 0, 1], .b 1, .c [1, 1, 0, 1, 0, 0, 1, 1, 1], .l [1, 1, 0, 1, 0, 0], .b 0, .c [1, 1, 1]]) (by kernel_rfl) ?_
      refine RunH.reg (by kernel_rfl) ?_
      refine RgH.runk 2 [1, 2, 3, 14, 15] (vs := []) (evs := []) (L' := [(1, .pointer (some ⟨g1, 0, none⟩)), (2, .pointer (some ⟨g2, 0, none⟩)), (3, .int .i64 v15), (14, .int .i64 (y2.length : Int)), (15, .int .i64 v15)]) (by kernel_rfl) (by kernel_rfl) (fun _ _ => trivial) ?_
      refine RgH.done (by kernel_rfl) ?_
      refine RunH.keep [1, 2, 3, 14, 15] (L' := [(1, .pointer (some ⟨g1, 0, none⟩)), (2, .pointer (some ⟨g2, 0, none⟩)), (3, .int .i64 v15), (14, .int .i64 (y2.length : Int)), (15, .int .i64 v15)]) (by kernel_rfl) ?_
      refine RunH.draw (fun w => Heap H w0 w (chv_c1_3 :: ch1 :: (some (g2, .cells #[.int .i64 0, .int .i64 0, .slice none 0 0, .slice none 0 0] 25 (0, 0))) :: (some (g1, .cells #[.int .i64 a0.Room, .int .i64 a0.Lease, .slice A1 y1.length c1, .slice Av_c1_3 v_c1_3.length cv_c1_3] 25 (0, 0))) :: F)) (fun w => Heap H w0 w (chv_c1_3 :: ch1 :: (some (g2, .cells #[.int .i64 0, .int .i64 0, .slice none 0 0, .slice none 0 0] 25 (0, 0))) :: (some (g1, .cells #[.int .i64 a0.Room, .int .i64 a0.Lease, .slice A1 y1.length c1, .slice Av_c1_3 v_c1_3.length cv_c1_3] 25 (0, 0))) :: F)) [3, 3, 3, 3, 3, 3, 3, 3, 3, 0, 0, 3, 2] (n := 13) (ls := [false, false, false, false, false, false, false, false, false, false, false, false, false]) (by kernel_rfl) (by kernel_rfl) (by kernel_rfl) rfl ?_
      obtain ⟨x1, hx1, heq⟩ := bind_some heq
      obtain ⟨ha1, cs1, hK1, hcc1⟩ := hov_c1_3.get hx1
      obtain ⟨A3, c3, rfl, hc1, hr1⟩ := kEntry_open hK1
      refine DrH.run [0, 1, 2, 3, 4, 5, 6, 7, 8] (m := 4) (ls' := [true, true, true, true, true, true, true, true, true, false, false, false, false]) (vs := [.slice Av_c1_3 v_c1_3.length cv_c1_3, .slice Av_c1_3 v_c1_3.length cv_c1_3, .slice A3 x1.Refs.length c3]) (evs := [.load ⟨g1, 3, none⟩ (.slice Av_c1_3 v_c1_3.length cv_c1_3), .load ⟨g1, 3, none⟩ (.slice Av_c1_3 v_c1_3.length cv_c1_3), .need (Av_c1_3 = some (adr Av_c1_3) ∧ (0 : Int) ≤ v15 ∧ v15 < ((v_c1_3.length : Nat) : Int)), .load (((adr Av_c1_3).add (v15.toNat * 3)).add 1) (.slice A3 x1.Refs.length c3)]) (L' := [(26, .slice A3 x1.Refs.length c3), (25, .pointer (some (((adr Av_c1_3).add (v15.toNat * 3)).add 1))), (24, .pointer (some ((adr Av_c1_3).add (v15.toNat * 3)))), (23, .int .i64 v15), (22, .slice Av_c1_3 v_c1_3.length cv_c1_3), (21, .pointer (some ⟨g1, 3, none⟩)), (20, .int .i64 v15), (19, .slice Av_c1_3 v_c1_3.length cv_c1_3), (18, .pointer (some ⟨g1, 3, none⟩)), (1, .pointer (some ⟨g1, 0, none⟩)), (2, .pointer (some ⟨g2, 0, none⟩)), (3, .int .i64 v15), (14, .int .i64 (y2.length : Int)), (15, .int .i64 v15)]) (by kernel_rfl) (fun w hh => hh.pick 4 [0, 1, 2, 3] (by kernel_rfl)) (fun w hh => hh.pick 4 [0, 1, 2, 3] (by kernel_rfl)) (by kernel_rfl) (fun w hh => ⟨(hh.box 3 rfl rfl), (hh.box 3 rfl rfl), ⟨ha1, (at?_some hx1).1, (at?_some hx1).2.1⟩, (hcc1 _ (hh.chin 0 rfl) 1 _ rfl)⟩) (by kernel_rfl) ?_
      refine DrH.keep [1, 2, 14, 15, 19, 20, 26] (L' := [(1, .pointer (some ⟨g1, 0, none⟩)), (2, .pointer (some ⟨g2, 0, none⟩)), (14, .int .i64 (y2.length : Int)), (15, .int .i64 v15), (19, .slice Av_c1_3 v_c1_3.length cv_c1_3), (20, .int .i64 v15), (26, .slice A3 x1.Refs.length c3)]) (by kernel_rfl) ?_
      obtain ⟨y3, hy3, heq⟩ := bind_some heq
      refine DrH.does (n := 3) (ls' := [true, true, true, true, true, true, true, true, true, true, false, false, false]) 9 (by kernel_rfl) rfl (DoesH.call (d := 27) (g := 42) (args := #[.slice A3 x1.Refs.length c3]) (by kernel_rfl) (slices_Clone_string_c (a0 := x1.Refs) (Rw.of hr1) hc1 rfl hy3)) ?_
      rintro _ _ _ _ ⟨_, rfl, A4, c4, ch3, rfl, rfl, rfl, ho3⟩
      refine ⟨fun _ w hh => ⟨fun _ => (fun w hh => hh.pick 5 [1, 2, 3, 4] (by kernel_rfl)) w hh, fun _ => (fun w hh => hh.pick 5 [1, 2, 3, 4] (by kernel_rfl)) w hh, (fun h => by cases h)⟩, ?_⟩
      refine DrH.keep [1, 2, 14, 15, 19, 20, 27] (L' := [(1, .pointer (some ⟨g1, 0, none⟩)), (2, .pointer (some ⟨g2, 0, none⟩)), (14, .int .i64 (y2.length : Int)), (15, .int .i64 v15), (19, .slice Av_c1_3 v_c1_3.length cv_c1_3), (20, .int .i64 v15), (27, .slice A4 y3.length c4)]) (by kernel_rfl) ?_
      obtain ⟨ha2, cs2, hK2, hcc2⟩ := hov_c1_3.get hx1
      obtain ⟨A5, c5, rfl, hc2, hr2⟩ := kEntry_open hK2
      refine DrH.does (n := 2) (ls' := [true, true, true, true, true, true, true, true, true, true, true, false, false]) 10 (by kernel_rfl) rfl (DoesH.pureop (d := 28) (v := .pointer (some ((adr Av_c1_3).add (v15.toNat * 3)))) (vs := []) (evs := [.need (Av_c1_3 = some (adr Av_c1_3) ∧ (0 : Int) ≤ v15 ∧ v15 < ((v_c1_3.length : Nat) : Int))]) (by kernel_rfl) (fun w hh => ⟨ha2, (at?_some hx1).1, (at?_some hx1).2.1⟩)) ?_
      rintro _ _ _ _ ⟨rfl, rfl, rfl⟩
      refine ⟨fun _ w hh => ⟨fun _ => (fun w hh => hh.pick 5 [1, 2, 3, 4] (by kernel_rfl)) w hh, fun _ => (fun w hh => hh.pick 5 [1, 2, 3, 4] (by kernel_rfl)) w hh, (fun h => by cases h)⟩, ?_⟩
      refine DrH.run [11] (m := 1) (ls' := [true, true, true, true, true, true, true, true, true, true, true, true, false]) (vs := []) (evs := []) (L' := [(29, .pointer (some (((adr Av_c1_3).add (v15.toNat * 3)).add 1))), (28, .pointer (some ((adr Av_c1_3).add (v15.toNat * 3)))), (1, .pointer (some ⟨g1, 0, none⟩)), (2, .pointer (some ⟨g2, 0, none⟩)), (14, .int .i64 (y2.length : Int)), (15, .int .i64 v15), (19, .slice Av_c1_3 v_c1_3.length cv_c1_3), (20, .int .i64 v15), (27, .slice A4 y3.length c4)]) (by kernel_rfl) (fun w hh => hh.pick 5 [1, 2, 3, 4] (by kernel_rfl)) (fun w hh => hh.pick 4 [0, 1, 2, 3] (by kernel_rfl)) (by kernel_rfl) (fun _ _ => trivial) (by kernel_rfl) ?_
      refine DrH.keep [1, 2, 14, 15, 27, 29] (L' := [(1, .pointer (some ⟨g1, 0, none⟩)), (2, .pointer (some ⟨g2, 0, none⟩)), (14, .int .i64 (y2.length : Int)), (15, .int .i64 v15), (27, .slice A4 y3.length c4), (29, .pointer (some (((adr Av_c1_3).add (v15.toNat * 3)).add 1)))]) (by kernel_rfl) ?_
      have hc3 := ho3.cap
      refine DrH.freezeS ho3 (fun H hl hr3 => ?_)
      have hle := hl
      replace ho1 := ho1.mono hl
      replace hov_c1_3 := hov_c1_3.mono hl
      obtain ⟨ha3, cs3, hK3, hcc3⟩ := hov_c1_3.get hx1
      obtain ⟨A6, c6, rfl, hc4, hr4⟩ := kEntry_open hK3
      refine DrH.does (n := 0) (ls' := [true, true, true, true, true, true, true, true, true, true, true, true, true]) 12 (by kernel_rfl) rfl (DoesH.storeEl (a := (((adr Av_c1_3).add (v15.toNat * 3)).add 1)) (k := 0) (kd := kEntry) (c0 := [.string x1.Key, .slice A6 x1.Refs.length c6, .int .i64 x1.Used]) (x' := (⟨x1.Key, y3, x1.Used⟩ : Entry)) (o := 1) (ix := v15) (v := .slice A4 y3.length c4) (by kernel_rfl) rfl hov_c1_3 hx1 (by kernel_rfl) hcc3 rfl (Nat.le_of_ble_eq_true (by kernel_rfl)) (kEntry_mk hc3 hr3)) ?_
      rintro _ _ _ _ ⟨ch4, rfl, rfl, rfl, ho4⟩
      have hn1 : v_c1_3.length = (v_c1_3.set v15.toNat (⟨x1.Key, y3, x1.Used⟩ : Entry)).length := by rw [List.length_set]
      refine ⟨fun _ w hh => ⟨(fun h => by cases h), (fun h => absurd h (by decide)), (fun h => by cases h)⟩, ?_⟩
      refine DrH.keep [1, 2, 14, 15] (L' := [(1, .pointer (some ⟨g1, 0, none⟩)), (2, .pointer (some ⟨g2, 0, none⟩)), (14, .int .i64 (y2.length : Int)), (15, .int .i64 v15)]) (by kernel_rfl) ?_
      refine DrH.done (by kernel_rfl) ?_
      refine RunH.adm 1 (es' := [.c [1, 1, 0, 1, 0, 0, 1, 1, 1], .l [1, 1, 0, 1, 0, 0], .b 0, .c [1, 1, 1]]) (by kernel_rfl) ?_
      refine RunH.reg (by kernel_rfl) ?_
      refine RgH.runk 2 [1, 2, 14, 15] (vs := []) (evs := []) (L' := [(1, .pointer (some ⟨g1, 0, none⟩)), (2, .pointer (some ⟨g2, 0, none⟩)), (14, .int .i64 (y2.length : Int)), (15, .int .i64 (w64 (v15 + 1)))]) (by kernel_rfl) (by kernel_rfl) (fun _ _ => trivial) ?_
      refine RgH.done (by kernel_rfl) ?_
      refine RunH.adm 1 (es' := [.c [1, 1, 0, 1, 0, 0], .l [1, 1, 0, 1, 0, 0], .b 0, .c [1, 1, 1]]) (by kernel_rfl) ?_
      refine RunH.keep [1, 2, 14, 15] (L' := [(1, .pointer (some ⟨g1, 0, none⟩)), (2, .pointer (some ⟨g2, 0, none⟩)), (14, .int .i64 (y2.length : Int)), (15, .int .i64 (w64 (v15 + 1)))]) (by kernel_rfl) ?_
      exact ihk _ a0 _ _ y1 _ _ _ y2 (v_c1_3.set v15.toNat (⟨x1.Key, y3, x1.Used⟩ : Entry)) _ _ _ _ (w64 (v15 + 1)) ho1 ho4 hn1 heq
    · replace heq := bif_false hb1 heq
      refine RunH.condF (c := decide (v15 < (y2.length : Int))) (by kernel_rfl) hb1 ?_
      refine RunH.adm 2 (es' := [.c [1, 1, 1, 0], .c [1, 1, 1, 1]]) (by kernel_rfl) ?_
      refine RunH.keep [1, 2] (L' := [(1, .pointer (some ⟨g1, 0, none⟩)), (2, .pointer (some ⟨g2, 0, none⟩))]) (by kernel_rfl) ?_
      exact he1 _ a0 _ _ y1 _ _ _ v_c1_3 _ _ _ _ ho1 hov_c1_3 rfl heq
theorem cache_own_c {w0 : World} {H0 : Hp} {F : List Ch} {a0 : Cache} {Aa0_2 : Option Addr} {na0_2 : Nat} {ca0_2 : Nat} {Aa0_3 : Option Addr} {na0_3 : Nat} {ca0_3 : Nat} {r : Cache} (hra0_2 : Rw kBlob H0 F Aa0_2 a0.Blobs) (hca0_2 : na0_2 ≤ ca0_2) (hna0_2 : na0_2 = a0.Blobs.length) (hra0_3 : Rw kEntry H0 F Aa0_3 a0.Entries) (hca0_3 : na0_3 ≤ ca0_3) (hna0_3 : na0_3 = a0.Entries.length) (heq : cache_own.f a0 = some r) : CallsH Tryd.prog 70 #[.agg #[.int .i64 a0.Room, .int .i64 a0.Lease, .slice Aa0_2 na0_2 ca0_2, .slice Aa0_3 na0_3 ca0_3]] H0 w0 (F) (S70 F H0 r) := by
  refine calls_of_runH (F := C70) Tryd.func70 (by kernel_rfl) Tryd.ntmps70 (args := [.agg #[.int .i64 a0.Room, .int .i64 a0.Lease, .slice Aa0_2 na0_2 ca0_2, .slice Aa0_3 na0_3 ca0_3]]) (by kernel_rfl) ?_
  subst hna0_2
  subst hna0_3
  unfold cache_own.f at heq
  suffices key : ∀ (H : Hp), Rw kBlob H F Aa0_2 a0.Blobs → Rw kEntry H F Aa0_3 a0.Entries → RunH C70 (S70 F H0 r) H0 w0 [.c []] (argL 0 [.agg #[.int .i64 a0.Room, .int .i64 a0.Lease, .slice Aa0_2 (a0.Blobs.length) ca0_2, .slice Aa0_3 (a0.Entries.length) ca0_3]]) H (F) from key H0 hra0_2 hra0_3
  intro H hra0_2 hra0_3
  refine RunH.adm 1 (es' := [.c [0], .c [1]]) (by kernel_rfl) ?_
  refine RunH.reg (by kernel_rfl) ?_
  refine RgH.does (DoesH.new (d := 1) (v := fun g => .pointer (some ⟨g, 0, none⟩)) (o := fun g => .cells #[.int .i64 a0.Room, .int .i64 a0.Lease, .slice Aa0_2 a0.Blobs.length ca0_2, .slice Aa0_3 a0.Entries.length ca0_3] 25 (0, 0)) (fun g => by kernel_rfl)) ?_
  rintro _ _ _ _ ⟨g1, rfl, rfl, rfl⟩
  refine RgH.does (DoesH.new (d := 2) (v := fun g => .pointer (some ⟨g, 0, none⟩)) (o := fun g => .cells #[.int .i64 0, .int .i64 0, .slice none 0 0, .slice none 0 0] 25 (0, 0)) (fun g => by kernel_rfl)) ?_
  rintro _ _ _ _ ⟨g2, rfl, rfl, rfl⟩
  refine RgH.done (by kernel_rfl) ?_
  refine RunH.adm 1 (es' := [.c [1, 0], .c [1, 1]]) (by kernel_rfl) ?_
  refine RunH.keep [1, 2] (L' := [(1, .pointer (some ⟨g1, 0, none⟩)), (2, .pointer (some ⟨g2, 0, none⟩))]) (by kernel_rfl) ?_
  refine RunH.draw (fun w => Heap H w0 w ((some (g2, .cells #[.int .i64 0, .int .i64 0, .slice none 0 0, .slice none 0 0] 25 (0, 0))) :: (some (g1, .cells #[.int .i64 a0.Room, .int .i64 a0.Lease, .slice Aa0_2 a0.Blobs.length ca0_2, .slice Aa0_3 a0.Entries.length ca0_3] 25 (0, 0))) :: F)) (fun w => Heap H w0 w ((some (g2, .cells #[.int .i64 0, .int .i64 0, .slice none 0 0, .slice none 0 0] 25 (0, 0))) :: F)) [3, 3, 0, 3, 3, 0, 3, 1, 3, 2] (n := 10) (ls := [false, false, false, false, false, false, false, false, false, false]) (by kernel_rfl) (by kernel_rfl) (by kernel_rfl) rfl ?_
  refine DrH.run [0, 1, 3, 4] (m := 6) (ls' := [true, true, false, true, true, false, false, false, false, false]) (vs := [.slice Aa0_2 a0.Blobs.length ca0_2, .slice Aa0_3 a0.Entries.length ca0_3]) (evs := [.load ⟨g1, 2, none⟩ (.slice Aa0_2 a0.Blobs.length ca0_2), .load ⟨g1, 3, none⟩ (.slice Aa0_3 a0.Entries.length ca0_3)]) (L' := [(8, .slice Aa0_3 a0.Entries.length ca0_3), (7, .pointer (some ⟨g1, 3, none⟩)), (5, .slice Aa0_2 a0.Blobs.length ca0_2), (4, .pointer (some ⟨g1, 2, none⟩)), (1, .pointer (some ⟨g1, 0, none⟩)), (2, .pointer (some ⟨g2, 0, none⟩))]) (by kernel_rfl) (fun w hh => hh.pick 2 [0, 1] (by kernel_rfl)) (fun w hh => hh.pick 2 [0] (by kernel_rfl)) (by kernel_rfl) (fun w hh => ⟨(hh.box 1 rfl rfl), (hh.box 1 rfl rfl)⟩) (by kernel_rfl) ?_
  refine DrH.keep [1, 2, 5, 8] (L' := [(1, .pointer (some ⟨g1, 0, none⟩)), (2, .pointer (some ⟨g2, 0, none⟩)), (5, .slice Aa0_2 a0.Blobs.length ca0_2), (8, .slice Aa0_3 a0.Entries.length ca0_3)]) (by kernel_rfl) ?_
  obtain ⟨y1, hy1, heq⟩ := bind_some heq
  refine DrH.does (n := 5) (ls' := [true, true, true, true, true, false, false, false, false, false]) 2 (by kernel_rfl) rfl (DoesH.call (d := 6) (g := 55) (args := #[.slice Aa0_2 a0.Blobs.length ca0_2]) (by kernel_rfl) (slices_Clone_Blob_c (a0 := a0.Blobs) (hra0_2.wk (fun _ h => (.tail _ (.tail _ h)))) hca0_2 rfl hy1)) ?_
  rintro _ _ _ _ ⟨_, rfl, A1, c1, ch1, rfl, rfl, rfl, ho1⟩
  refine ⟨fun _ w hh => ⟨fun _ => (fun w hh => hh.pick 3 [1, 2] (by kernel_rfl)) w hh, fun _ => (fun w hh => hh.pick 3 [1] (by kernel_rfl)) w hh, (fun h => by cases h)⟩, ?_⟩
  refine DrH.run [6] (m := 4) (ls' := [true, true, true, true, true, false, true, false, false, false]) (vs := []) (evs := []) (L' := [(10, .pointer (some ⟨g1, 2, none⟩)), (6, .slice A1 y1.length c1), (1, .pointer (some ⟨g1, 0, none⟩)), (2, .pointer (some ⟨g2, 0, none⟩)), (5, .slice Aa0_2 a0.Blobs.length ca0_2), (8, .slice Aa0_3 a0.Entries.length ca0_3)]) (by kernel_rfl) (fun w hh => hh.pick 3 [1, 2] (by kernel_rfl)) (fun w hh => hh.pick 2 [0] (by kernel_rfl)) (by kernel_rfl) (fun _ _ => trivial) (by kernel_rfl) ?_
  refine DrH.keep [1, 2, 6, 8, 10] (L' := [(1, .pointer (some ⟨g1, 0, none⟩)), (2, .pointer (some ⟨g2, 0, none⟩)), (6, .slice A1 y1.length c1), (8, .slice Aa0_3 a0.Entries.length ca0_3), (10, .pointer (some ⟨g1, 2, none⟩))]) (by kernel_rfl) ?_
  obtain ⟨y2, hy2, heq⟩ := bind_some heq
  refine DrH.does (n := 3) (ls' := [true, true, true, true, true, true, true, false, false, false]) 5 (by kernel_rfl) rfl (DoesH.call (d := 9) (g := 108) (args := #[.slice Aa0_3 a0.Entries.length ca0_3]) (by kernel_rfl) (slices_Clone_Entry_c (a0 := a0.Entries) (hra0_3.wk (fun _ h => (.tail _ (.tail _ (.tail _ h))))) hca0_3 rfl hy2)) ?_
  rintro _ _ _ _ ⟨_, rfl, A2, c2, ch2, rfl, rfl, rfl, ho2⟩
  refine ⟨fun _ w hh => ⟨fun _ => (fun w hh => hh.pick 4 [2, 3] (by kernel_rfl)) w hh, fun _ => (fun w hh => hh.pick 4 [2] (by kernel_rfl)) w hh, (fun h => by cases h)⟩, ?_⟩
  refine DrH.keep [1, 2, 6, 9, 10] (L' := [(1, .pointer (some ⟨g1, 0, none⟩)), (2, .pointer (some ⟨g2, 0, none⟩)), (6, .slice A1 y1.length c1), (9, .slice A2 y2.length c2), (10, .pointer (some ⟨g1, 2, none⟩))]) (by kernel_rfl) ?_
  refine DrH.does (n := 2) (ls' := [true, true, true, true, true, true, true, true, false, false]) 7 (by kernel_rfl) rfl (DoesH.store (k := 3) (g := g1) (off := 2) (v := .slice A1 y1.length c1) (cells' := #[.int .i64 a0.Room, .int .i64 a0.Lease, .slice A1 y1.length c1, .slice Aa0_3 a0.Entries.length ca0_3]) (by kernel_rfl) rfl (by kernel_rfl) (by kernel_rfl)) ?_
  rintro _ _ _ _ ⟨rfl, rfl, rfl⟩
  refine ⟨fun _ w hh => ⟨(fun h => by cases h), fun _ => (fun w hh => hh.pick 4 [2] (by kernel_rfl)) w hh, (fun h => by cases h)⟩, ?_⟩
  refine DrH.run2 [8] (m := 1) (ls' := [true, true, true, true, true, true, true, true, true, false]) (vs := []) (evs := []) (L' := [(11, .pointer (some ⟨g1, 3, none⟩)), (1, .pointer (some ⟨g1, 0, none⟩)), (2, .pointer (some ⟨g2, 0, none⟩)), (6, .slice A1 y1.length c1), (9, .slice A2 y2.length c2), (10, .pointer (some ⟨g1, 2, none⟩))]) (by kernel_rfl) (fun w hh => hh.pick 4 [2] (by kernel_rfl)) (by kernel_rfl) (fun _ _ => trivial) (by kernel_rfl) ?_
  refine DrH.keep [1, 2, 9, 11] (L' := [(1, .pointer (some ⟨g1, 0, none⟩)), (2, .pointer (some ⟨g2, 0, none⟩)), (9, .slice A2 y2.length c2), (11, .pointer (some ⟨g1, 3, none⟩))]) (by kernel_rfl) ?_
  refine DrH.does (n := 0) (ls' := [true, true, true, true, true, true, true, true, true, true]) 9 (by kernel_rfl) rfl (DoesH.store (k := 3) (g := g1) (off := 3) (v := .slice A2 y2.length c2) (cells' := #[.int .i64 a0.Room, .int .i64 a0.Lease, .slice A1 y1.length c1, .slice A2 y2.length c2]) (by kernel_rfl) rfl (by kernel_rfl) (by kernel_rfl)) ?_
  rintro _ _ _ _ ⟨rfl, rfl, rfl⟩
  refine ⟨fun _ w hh => ⟨(fun h => by cases h), (fun h => absurd h (by decide)), (fun h => by cases h)⟩, ?_⟩
  refine DrH.keep [1, 2] (L' := [(1, .pointer (some ⟨g1, 0, none⟩)), (2, .pointer (some ⟨g2, 0, none⟩))]) (by kernel_rfl) ?_
  refine DrH.done (by kernel_rfl) ?_
  refine RunH.adm 2 (es' := [.c [1, 1, 0, 0], .c [1, 1, 0, 1], .c [1, 1, 1]]) (by kernel_rfl) ?_
  refine RunH.reg (by kernel_rfl) ?_
  refine RgH.runk 4 [1, 2, 14, 15] (vs := [.slice A2 y2.length c2]) (evs := [.load ⟨g1, 3, none⟩ (.slice A2 y2.length c2)]) (L' := [(1, .pointer (some ⟨g1, 0, none⟩)), (2, .pointer (some ⟨g2, 0, none⟩)), (14, .int .i64 (y2.length : Int)), (15, .int .i64 0)]) (by kernel_rfl) (by kernel_rfl) (fun w hh => (hh.box 3 rfl rfl)) ?_
  refine RgH.done (by kernel_rfl) ?_
  refine RunH.adm 2 (es' := [.c [1, 1, 0, 1, 0, 0], .l [1, 1, 0, 1, 0, 0], .b 0, .c [1, 1, 1]]) (by kernel_rfl) ?_
  refine RunH.keep [1, 2, 14, 15] (L' := [(1, .pointer (some ⟨g1, 0, none⟩)), (2, .pointer (some ⟨g2, 0, none⟩)), (14, .int .i64 (y2.length : Int)), (15, .int .i64 0)]) (by kernel_rfl) ?_
  exact ((cache_own.l2_c (e1 := cache_own.e1) (cache_own.e1_c)) big) _ a0 _ _ y1 _ _ _ y2 y2 _ _ _ _ 0 ho1 ho2 rfl heq
noncomputable def C74 : Ctx := { P := Tryd.prog, f := 74, N := 14, c := bodyOf Tryd.f74 }
def S74 (F : List Ch) (H0 : Hp) (r : Bool) (v : Value) (H : Hp) (cs : List Ch) : Prop := H0 = H ∧ v = .bool r ∧ F = cs
theorem cache_held_c {w0 : World} {H : Hp} {F : List Ch} {a0 : Blob} {a1 : Int} {r : Bool} (heq : cache_held.f a0 a1 = some r) : CallsH Tryd.prog 74 #[.agg #[.string a0.Digest, .int .i64 a0.Size, .int .i64 a0.Used, .int .i64 a0.Until, .int .i64 a0.Pins], .int .i64 a1] H w0 (F) (S74 F H r) := by
  refine calls_of_runH (F := C74) Tryd.func74 (by kernel_rfl) Tryd.ntmps74 (args := [.agg #[.string a0.Digest, .int .i64 a0.Size, .int .i64 a0.Used, .int .i64 a0.Until, .int .i64 a0.Pins], .int .i64 a1]) (by kernel_rfl) ?_
  unfold cache_held.f at heq
  refine RunH.adm 1 (es' := [.c [0], .c [1]]) (by kernel_rfl) ?_
  refine RunH.reg (by kernel_rfl) ?_
  refine RgH.does (DoesH.new (d := 2) (v := fun g => .pointer (some ⟨g, 0, none⟩)) (o := fun g => .cells #[.string a0.Digest, .int .i64 a0.Size, .int .i64 a0.Used, .int .i64 a0.Until, .int .i64 a0.Pins] 47 (0, 0)) (fun g => by kernel_rfl)) ?_
  rintro _ _ _ _ ⟨g1, rfl, rfl, rfl⟩
  refine RgH.runk 2 [1, 2] (vs := []) (evs := []) (L' := [(1, .int .i64 a1), (2, .pointer (some ⟨g1, 0, none⟩))]) (by kernel_rfl) (by kernel_rfl) (fun _ _ => trivial) ?_
  refine RgH.done (by kernel_rfl) ?_
  refine RunH.adm 1 (es' := [.c [1, 0], .c [1, 1]]) (by kernel_rfl) ?_
  obtain ⟨t1, ht1, heq⟩ := bind_some heq
  have K2 : RunH C74 (S74 F H r) H w0 [.c [1, 1]] [(4, .bool t1)] H (F) := by
    obtain rfl := Option.some.inj heq
    exact RunH.done (by kernel_rfl) Tryd.func74 (v := .bool t1) (by kernel_rfl) ⟨rfl, rfl, rfl⟩
  replace heq := ht1
  refine RunH.reg (by kernel_rfl) ?_
  refine RgH.runk 4 [8, 1, 2] (vs := [.int .i64 a0.Pins]) (evs := [.load ⟨g1, 4, none⟩ (.int .i64 a0.Pins)]) (L' := [(8, .bool (decide (0 < a0.Pins))), (1, .int .i64 a1), (2, .pointer (some ⟨g1, 0, none⟩))]) (by kernel_rfl) (by kernel_rfl) (fun w hh => (hh.box 0 rfl rfl)) ?_
  rcases bool_cases (decide (0 < a0.Pins)) with hb1 | hb1
  · replace heq := bif_true hb1 heq
    refine RgH.val1 (v' := .bool true) (congrArg Value.bool hb1) ?_
    refine RgH.runk 10 [4] (vs := []) (evs := []) (L' := [(4, .bool true)]) (by kernel_rfl) (by kernel_rfl) (fun _ _ => trivial) ?_
    obtain rfl := Option.some.inj heq
    refine RgH.keep [4] (L' := [(4, .bool true)]) (by kernel_rfl) ?_
    refine RgH.pick 1 [] (cs' := F) (by kernel_rfl) rfl ?_
    refine RgH.done (by kernel_rfl) ?_
    exact K2
  · replace heq := bif_false hb1 heq
    refine RgH.val1 (v' := .bool false) (congrArg Value.bool hb1) ?_
    refine RgH.runk 10 [4] (vs := [.int .i64 a0.Until]) (evs := [.load ⟨g1, 3, none⟩ (.int .i64 a0.Until)]) (L' := [(4, .bool (decide (a1 < a0.Until)))]) (by kernel_rfl) (by kernel_rfl) (fun w hh => (hh.box 0 rfl rfl)) ?_
    obtain rfl := Option.some.inj heq
    refine RgH.keep [4] (L' := [(4, .bool (decide (a1 < a0.Until)))]) (by kernel_rfl) ?_
    refine RgH.pick 1 [] (cs' := F) (by kernel_rfl) rfl ?_
    refine RgH.done (by kernel_rfl) ?_
    exact K2
noncomputable def C73 : Ctx := { P := Tryd.prog, f := 73, N := 14, c := bodyOf Tryd.f73 }
def S73 (F : List Ch) (H0 : Hp) (r : Bool) (v : Value) (H : Hp) (cs : List Ch) : Prop := H0 = H ∧ v = .bool r ∧ F = cs
theorem cache_Swept_1_c {w0 : World} {H : Hp} {F : List Ch} {a0 : Blob} {ga1 : Nat} {a1 : Int} {ga2 : Nat} {a2 : List (ByteArray × Bool)} {Aa2_0 : Option Nat} {r : Bool} (hga1 : InG H F ga1 (.cells #[.int .i64 a1] 3 (0, 0))) (hra2_0 : Mw Value.string Kd.bool false H F Aa2_0 a2) (hga2 : InG H F ga2 (.cells #[.map Aa2_0] 101 (0, 0))) (heq : cache_Swept_1.f a0 a1 a2 = some r) : CallsH Tryd.prog 73 #[.agg #[.string a0.Digest, .int .i64 a0.Size, .int .i64 a0.Used, .int .i64 a0.Until, .int .i64 a0.Pins], .pointer (some ⟨ga1, 0, none⟩), .pointer (some ⟨ga2, 0, none⟩)] H w0 (F) (S73 F H r) := by
  refine calls_of_runH (F := C73) Tryd.func73 (by kernel_rfl) Tryd.ntmps73 (args := [.agg #[.string a0.Digest, .int .i64 a0.Size, .int .i64 a0.Used, .int .i64 a0.Until, .int .i64 a0.Pins], .pointer (some ⟨ga1, 0, none⟩), .pointer (some ⟨ga2, 0, none⟩)]) (by kernel_rfl) ?_
  unfold cache_Swept_1.f at heq
  refine RunH.adm 1 (es' := [.c [0], .c [1]]) (by kernel_rfl) ?_
  refine RunH.reg (by kernel_rfl) ?_
  refine RgH.does (DoesH.new (d := 3) (v := fun g => .pointer (some ⟨g, 0, none⟩)) (o := fun g => .cells #[.string a0.Digest, .int .i64 a0.Size, .int .i64 a0.Used, .int .i64 a0.Until, .int .i64 a0.Pins] 47 (0, 0)) (fun g => by kernel_rfl)) ?_
  rintro _ _ _ _ ⟨g1, rfl, rfl, rfl⟩
  refine RgH.runk 2 [1, 2, 3] (vs := []) (evs := []) (L' := [(1, .pointer (some ⟨ga1, 0, none⟩)), (2, .pointer (some ⟨ga2, 0, none⟩)), (3, .pointer (some ⟨g1, 0, none⟩))]) (by kernel_rfl) (by kernel_rfl) (fun _ _ => trivial) ?_
  refine RgH.done (by kernel_rfl) ?_
  refine RunH.adm 1 (es' := [.c [1, 0], .c [1, 1]]) (by kernel_rfl) ?_
  obtain ⟨t1, ht1, heq⟩ := bind_some heq
  have K2 : RunH C73 (S73 F H r) H w0 [.c [1, 1]] [(4, .bool t1)] H (F) := by
    obtain rfl := Option.some.inj heq
    exact RunH.done (by kernel_rfl) Tryd.func73 (v := .bool t1) (by kernel_rfl) ⟨rfl, rfl, rfl⟩
  replace heq := ht1
  refine RunH.reg (by kernel_rfl) ?_
  refine RgH.runk 2 [2, 3, 5, 6] (vs := [.string a0.Digest, .int .i64 a0.Size, .int .i64 a0.Used, .int .i64 a0.Until, .int .i64 a0.Pins, .int .i64 a1]) (evs := [.load ⟨g1, 0, none⟩ (.string a0.Digest), .load ⟨g1, 1, none⟩ (.int .i64 a0.Size), .load ⟨g1, 2, none⟩ (.int .i64 a0.Used), .load ⟨g1, 3, none⟩ (.int .i64 a0.Until), .load ⟨g1, 4, none⟩ (.int .i64 a0.Pins), .load ⟨ga1, 0, none⟩ (.int .i64 a1)]) (L' := [(2, .pointer (some ⟨ga2, 0, none⟩)), (3, .pointer (some ⟨g1, 0, none⟩)), (5, .agg #[.string a0.Digest, .int .i64 a0.Size, .int .i64 a0.Used, .int .i64 a0.Until, .int .i64 a0.Pins]), (6, .int .i64 a1)]) (by kernel_rfl) (by kernel_rfl) (fun w hh => ⟨(hh.box 0 rfl rfl), (hh.box 0 rfl rfl), (hh.box 0 rfl rfl), (hh.box 0 rfl rfl), (hh.box 0 rfl rfl), (hga1.cell (hh.drop 1) rfl)⟩) ?_
  obtain ⟨y1, hy1, heq⟩ := bind_some heq
  refine RgH.does (DoesH.call (d := 7) (g := 74) (args := #[.agg #[.string a0.Digest, .int .i64 a0.Size, .int .i64 a0.Used, .int .i64 a0.Until, .int .i64 a0.Pins], .int .i64 a1]) (by kernel_rfl) (cache_held_c (a0 := a0) (a1 := a1)  hy1)) ?_
  rintro _ _ _ _ ⟨_, rfl, rfl, rfl, rfl⟩
  refine RgH.runk 4 [8, 2, 3] (vs := []) (evs := []) (L' := [(8, .bool y1), (2, .pointer (some ⟨ga2, 0, none⟩)), (3, .pointer (some ⟨g1, 0, none⟩))]) (by kernel_rfl) (by kernel_rfl) (fun _ _ => trivial) ?_
  rcases bool_cases (y1) with hb1 | hb1
  · replace heq := bif_true hb1 heq
    refine RgH.val1 (v' := .bool true) (congrArg Value.bool hb1) ?_
    refine RgH.runk 10 [4] (vs := []) (evs := []) (L' := [(4, .bool true)]) (by kernel_rfl) (by kernel_rfl) (fun _ _ => trivial) ?_
    obtain rfl := Option.some.inj heq
    refine RgH.keep [4] (L' := [(4, .bool true)]) (by kernel_rfl) ?_
    refine RgH.pick 1 [] (cs' := F) (by kernel_rfl) rfl ?_
    refine RgH.done (by kernel_rfl) ?_
    exact K2
  · replace heq := bif_false hb1 heq
    refine RgH.val1 (v' := .bool false) (congrArg Value.bool hb1) ?_
    refine RgH.runk 7 [8, 9, 11] (vs := [.map Aa2_0, .string a0.Digest]) (evs := [.load ⟨ga2, 0, none⟩ (.map Aa2_0), .load ⟨g1, 0, none⟩ (.string a0.Digest)]) (L' := [(8, .bool false), (9, .map Aa2_0), (11, .string a0.Digest)]) (by kernel_rfl) (by kernel_rfl) (fun w hh => ⟨(hga2.cell (hh.drop 1) rfl), (hh.box 0 rfl rfl)⟩) ?_
    refine RgH.does (DoesH.lookup (d := 12) (t := 101) (m := a2) (k := a0.Digest) (z := .bool false) (zc := [.bool false]) (z0 := false) (ok := false) (kd := Kd.bool) (ag := false) (by kernel_rfl) (KyAt.string Tryd.underlying9) rfl rfl (fun w hh => hra2_0.on (hh.drop 1))) ?_
    rintro _ _ _ _ ⟨cc1, rfl, rfl, rfl, hcc1⟩
    obtain rfl : cc1 = [.bool (mgetD a2 a0.Digest false)] := hcc1
    refine RgH.val1 (v' := .bool (mgetD a2 a0.Digest false)) rfl ?_
    refine RgH.runk 10 [4] (vs := []) (evs := []) (L' := [(4, .bool (mgetD a2 a0.Digest false))]) (by kernel_rfl) (by kernel_rfl) (fun _ _ => trivial) ?_
    obtain rfl := Option.some.inj heq
    refine RgH.keep [4] (L' := [(4, .bool (mgetD a2 a0.Digest false))]) (by kernel_rfl) ?_
    refine RgH.pick 1 [] (cs' := F) (by kernel_rfl) rfl ?_
    refine RgH.done (by kernel_rfl) ?_
    exact K2
noncomputable def C109 : Ctx := { P := Tryd.prog, f := 109, N := 19, c := bodyOf Tryd.f109 }
def S109 (F : List Ch) (H0 : Hp) (r : Int) (v : Value) (H : Hp) (cs : List Ch) : Prop := H0 = H ∧ v = .int .i64 r ∧ F = cs
theorem slices_IndexFunc_Blob.e1_c {w0 : World} {H : Hp} {F : List Ch} {r : Int} : slices_IndexFunc_Blob.e1 = some r → RunH C109 (S109 F H r) H w0 [.c [1, 1, 0], .c [1, 1, 1]] [] H (F) := by
  intro   heq
  unfold slices_IndexFunc_Blob.e1 at heq
  refine RunH.reg (by kernel_rfl) ?_
  refine RgH.runk 1 [4] (vs := []) (evs := []) (L' := [(4, .int .i64 (-1))]) (by kernel_rfl) (by kernel_rfl) (fun _ _ => trivial) ?_
  refine RgH.done (by kernel_rfl) ?_
  obtain rfl := Option.some.inj heq
  exact RunH.done (by kernel_rfl) Tryd.func109 (v := .int .i64 (-1)) (by kernel_rfl) ⟨rfl, rfl, rfl⟩
theorem slices_IndexFunc_Blob.l2_c {w0 : World} {H : Hp} {F : List Ch} {r : Int} (e1 : Option Int)
    (he1 : e1 = some r → RunH C109 (S109 F H r) H w0 [.c [1, 1, 0], .c [1, 1, 1]] [] H (F)) : ∀ (k : Nat), ∀ (a0 : List Blob) (Aa0 : Option Addr) (ca0 : Nat) (ga1q0 : Nat) (a1q0 : Int) (ga1q1 : Nat) (a1q1 : List (ByteArray × Bool)) (Aa1q1_0 : Option Nat) (v8 : Int) , Rw kBlob H F Aa0 a0 → a0.length ≤ ca0 → InG H F ga1q0 (.cells #[.int .i64 a1q0] 3 (0, 0)) → Mw Value.string Kd.bool false H F Aa1q1_0 a1q1 → InG H F ga1q1 (.cells #[.map Aa1q1_0] 101 (0, 0)) → slices_IndexFunc_Blob.l2 e1 k a0 a1q0 a1q1 v8 = some r → RunH C109 (S109 F H r) H w0 [.c [1, 0, 1, 0, 0], .l [1, 0, 1, 0, 0], .b 0, .c [1, 1]] [(0, .slice Aa0 a0.length ca0), (1, .func (.func 73) #[] #[.pointer (some ⟨ga1q0, 0, none⟩), .pointer (some ⟨ga1q1, 0, none⟩)]), (7, .int .i64 (a0.length : Int)), (8, .int .i64 v8)] H (F) := by
  intro k
  induction k with
  | zero => intro a0 Aa0 ca0 ga1q0 a1q0 ga1q1 a1q1 Aa1q1_0 v8 hra0 hca0 hga1q0 hra1q1_0 hga1q1 heq; exact nomatch (show (none : Option Int) = some r from heq)
  | succ k ihk =>
    intro a0 Aa0 ca0 ga1q0 a1q0 ga1q1 a1q1 Aa1q1_0 v8 hra0 hca0 hga1q0 hra1q1_0 hga1q1 heq
    rw [slices_IndexFunc_Blob.l2] at heq
    refine RunH.adm 1 (es' := [.c [1, 0, 1, 0, 0, 0], .c [1, 0, 1, 0, 0, 1], .l [1, 0, 1, 0, 0], .b 0, .c [1, 1]]) (by kernel_rfl) ?_
    refine RunH.reg (by kernel_rfl) ?_
    refine RgH.runk 1 [0, 1, 7, 8, 9] (vs := []) (evs := []) (L' := [(0, .slice Aa0 a0.length ca0), (1, .func (.func 73) #[] #[.pointer (some ⟨ga1q0, 0, none⟩), .pointer (some ⟨ga1q1, 0, none⟩)]), (7, .int .i64 (a0.length : Int)), (8, .int .i64 v8), (9, .bool (decide (v8 < (a0.length : Int))))]) (by kernel_rfl) (by kernel_rfl) (fun _ _ => trivial) ?_
    refine RgH.done (by kernel_rfl) ?_
    refine RunH.adm 1 (es' := [.c [1, 0, 1, 0, 0, 1, 0], .c [1, 0, 1, 0, 0, 1, 1], .l [1, 0, 1, 0, 0], .b 0, .c [1, 1]]) (by kernel_rfl) ?_
    rcases bool_cases (decide (v8 < (a0.length : Int))) with hb1 | hb1
    · replace heq := bif_true hb1 heq
      refine RunH.condT (c := decide (v8 < (a0.length : Int))) (by kernel_rfl) hb1 ?_
      refine RunH.adm 4 (es' := [.c [1, 0, 1, 0, 0, 1, 1, 0, 0, 0], .c [1, 0, 1, 0, 0, 1, 1, 0, 0, 1], .b 1, .c [1, 0, 1, 0, 0, 1, 1, 1], .l [1, 0, 1, 0, 0], .b 0, .c [1, 1]]) (by kernel_rfl) ?_
      refine RunH.reg (by kernel_rfl) ?_
      refine RgH.runk 2 [0, 1, 5, 7, 8] (vs := []) (evs := []) (L' := [(0, .slice Aa0 a0.length ca0), (1, .func (.func 73) #[] #[.pointer (some ⟨ga1q0, 0, none⟩), .pointer (some ⟨ga1q1, 0, none⟩)]), (5, .int .i64 v8), (7, .int .i64 (a0.length : Int)), (8, .int .i64 v8)]) (by kernel_rfl) (by kernel_rfl) (fun _ _ => trivial) ?_
      refine RgH.done (by kernel_rfl) ?_
      refine RunH.adm 1 (es' := [.c [1, 0, 1, 0, 0, 1, 1, 0, 0, 1, 0], .c [1, 0, 1, 0, 0, 1, 1, 0, 0, 1, 1], .b 1, .c [1, 0, 1, 0, 0, 1, 1, 1], .l [1, 0, 1, 0, 0], .b 0, .c [1, 1]]) (by kernel_rfl) ?_
      refine RunH.reg (by kernel_rfl) ?_
      obtain ⟨x1, hx1, heq⟩ := bind_some heq
      obtain ⟨ha1, cs1, hK1, hcc1⟩ := hra0.get hx1
      obtain ⟨rfl⟩ := kBlob_open hK1
      refine RgH.runk 5 [0, 1, 5, 7, 8, 11, 15] (vs := [.string x1.Digest, .int .i64 x1.Size, .int .i64 x1.Used, .int .i64 x1.Until, .int .i64 x1.Pins]) (evs := [.need (Aa0 = some (adr Aa0) ∧ (0 : Int) ≤ v8 ∧ v8 < ((a0.length : Nat) : Int)), .load (((adr Aa0).add (v8.toNat * 5)).add 0) (.string x1.Digest), .load (((adr Aa0).add (v8.toNat * 5)).add 1) (.int .i64 x1.Size), .load (((adr Aa0).add (v8.toNat * 5)).add 2) (.int .i64 x1.Used), .load (((adr Aa0).add (v8.toNat * 5)).add 3) (.int .i64 x1.Until), .load (((adr Aa0).add (v8.toNat * 5)).add 4) (.int .i64 x1.Pins)]) (L' := [(0, .slice Aa0 a0.length ca0), (1, .func (.func 73) #[] #[.pointer (some ⟨ga1q0, 0, none⟩), .pointer (some ⟨ga1q1, 0, none⟩)]), (5, .int .i64 v8), (7, .int .i64 (a0.length : Int)), (8, .int .i64 v8), (11, .func (.func 73) #[] #[.pointer (some ⟨ga1q0, 0, none⟩), .pointer (some ⟨ga1q1, 0, none⟩)]), (15, .agg #[.string x1.Digest, .int .i64 x1.Size, .int .i64 x1.Used, .int .i64 x1.Until, .int .i64 x1.Pins])]) (by kernel_rfl) (by kernel_rfl) (fun w hh => ⟨⟨ha1, (at?_some hx1).1, (at?_some hx1).2.1⟩, (hcc1 _ _ (hh.drop 0) 0 _ rfl), (hcc1 _ _ (hh.drop 0) 1 _ rfl), (hcc1 _ _ (hh.drop 0) 2 _ rfl), (hcc1 _ _ (hh.drop 0) 3 _ rfl), (hcc1 _ _ (hh.drop 0) 4 _ rfl)⟩) ?_
      obtain ⟨y1, hy1, heq⟩ := bind_some heq
      refine RgH.does (DoesH.call (d := 16) (g := 73) (args := #[.agg #[.string x1.Digest, .int .i64 x1.Size, .int .i64 x1.Used, .int .i64 x1.Until, .int .i64 x1.Pins], .pointer (some ⟨ga1q0, 0, none⟩), .pointer (some ⟨ga1q1, 0, none⟩)]) (by kernel_rfl) (cache_Swept_1_c (a0 := x1) (a1 := a1q0) (a2 := a1q1) hga1q0 hra1q1_0 hga1q1 hy1)) ?_
      rintro _ _ _ _ ⟨_, rfl, rfl, rfl, rfl⟩
      refine RgH.done (by kernel_rfl) ?_
      rcases bool_cases (y1) with hb2 | hb2
      · replace heq := bif_true hb2 heq
        refine RunH.condT (c := y1) (by kernel_rfl) hb2 ?_
        refine RunH.adm 1 (es' := [.c [1, 0, 1, 0, 0, 1, 1, 0, 0, 1, 1, 0, 0], .c [1, 0, 1, 0, 0, 1, 1, 0, 0, 1, 1, 0, 1], .b 1, .c [1, 0, 1, 0, 0, 1, 1, 1], .l [1, 0, 1, 0, 0], .b 0, .c [1, 1]]) (by kernel_rfl) ?_
        refine RunH.reg (by kernel_rfl) ?_
        refine RgH.runk 2 [4] (vs := []) (evs := []) (L' := [(4, .int .i64 v8)]) (by kernel_rfl) (by kernel_rfl) (fun _ _ => trivial) ?_
        refine RgH.done (by kernel_rfl) ?_
        obtain rfl := Option.some.inj heq
        exact RunH.done (by kernel_rfl) Tryd.func109 (v := .int .i64 v8) (by kernel_rfl) ⟨rfl, rfl, rfl⟩
      · replace heq := bif_false hb2 heq
        refine RunH.condF (c := y1) (by kernel_rfl) hb2 ?_
        refine RunH.adm 2 (es' := [.c [1, 0, 1, 0, 0, 1, 1, 1], .l [1, 0, 1, 0, 0], .b 0, .c [1, 1]]) (by kernel_rfl) ?_
        refine RunH.reg (by kernel_rfl) ?_
        refine RgH.runk 2 [0, 1, 7, 8] (vs := []) (evs := []) (L' := [(0, .slice Aa0 a0.length ca0), (1, .func (.func 73) #[] #[.pointer (some ⟨ga1q0, 0, none⟩), .pointer (some ⟨ga1q1, 0, none⟩)]), (7, .int .i64 (a0.length : Int)), (8, .int .i64 (w64 (v8 + 1)))]) (by kernel_rfl) (by kernel_rfl) (fun _ _ => trivial) ?_
        refine RgH.done (by kernel_rfl) ?_
        refine RunH.adm 1 (es' := [.c [1, 0, 1, 0, 0], .l [1, 0, 1, 0, 0], .b 0, .c [1, 1]]) (by kernel_rfl) ?_
        refine RunH.keep [0, 1, 7, 8] (L' := [(0, .slice Aa0 a0.length ca0), (1, .func (.func 73) #[] #[.pointer (some ⟨ga1q0, 0, none⟩), .pointer (some ⟨ga1q1, 0, none⟩)]), (7, .int .i64 (a0.length : Int)), (8, .int .i64 (w64 (v8 + 1)))]) (by kernel_rfl) ?_
        exact ihk a0 _ _ _ a1q0 _ a1q1 _ (w64 (v8 + 1)) hra0 hca0 hga1q0 hra1q1_0 hga1q1 heq
    · replace heq := bif_false hb1 heq
      refine RunH.condF (c := decide (v8 < (a0.length : Int))) (by kernel_rfl) hb1 ?_
      refine RunH.adm 2 (es' := [.c [1, 1, 0], .c [1, 1, 1]]) (by kernel_rfl) ?_
      refine RunH.keep [] (L' := []) (by kernel_rfl) ?_
      exact he1 heq
theorem slices_IndexFunc_Blob_c {w0 : World} {H : Hp} {F : List Ch} {a0 : List Blob} {Aa0 : Option Addr} {na0 : Nat} {ca0 : Nat} {ga1q0 : Nat} {a1q0 : Int} {ga1q1 : Nat} {a1q1 : List (ByteArray × Bool)} {Aa1q1_0 : Option Nat} {r : Int} (hra0 : Rw kBlob H F Aa0 a0) (hca0 : na0 ≤ ca0) (hna0 : na0 = a0.length) (hga1q0 : InG H F ga1q0 (.cells #[.int .i64 a1q0] 3 (0, 0))) (hra1q1_0 : Mw Value.string Kd.bool false H F Aa1q1_0 a1q1) (hga1q1 : InG H F ga1q1 (.cells #[.map Aa1q1_0] 101 (0, 0))) (heq : slices_IndexFunc_Blob.f a0 a1q0 a1q1 = some r) : CallsH Tryd.prog 109 #[.slice Aa0 na0 ca0, .func (.func 73) #[] #[.pointer (some ⟨ga1q0, 0, none⟩), .pointer (some ⟨ga1q1, 0, none⟩)]] H w0 (F) (S109 F H r) := by
  refine calls_of_runH (F := C109) Tryd.func109 (by kernel_rfl) Tryd.ntmps109 (args := [.slice Aa0 na0 ca0, .func (.func 73) #[] #[.pointer (some ⟨ga1q0, 0, none⟩), .pointer (some ⟨ga1q1, 0, none⟩)]]) (by kernel_rfl) ?_
  subst hna0
  unfold slices_IndexFunc_Blob.f at heq
  refine RunH.adm 1 (es' := [.c [0], .c [1]]) (by kernel_rfl) ?_
  refine RunH.reg (by kernel_rfl) ?_
  refine RgH.runk 1 [0, 1] (vs := []) (evs := []) (L' := [(0, .slice Aa0 a0.length ca0), (1, .func (.func 73) #[] #[.pointer (some ⟨ga1q0, 0, none⟩), .pointer (some ⟨ga1q1, 0, none⟩)])]) (by kernel_rfl) (by kernel_rfl) (fun _ _ => trivial) ?_
  refine RgH.done (by kernel_rfl) ?_
  refine RunH.adm 2 (es' := [.c [1, 0, 0], .c [1, 0, 1], .c [1, 1]]) (by kernel_rfl) ?_
  refine RunH.reg (by kernel_rfl) ?_
  refine RgH.runk 3 [0, 1, 7, 8] (vs := []) (evs := []) (L' := [(0, .slice Aa0 a0.length ca0), (1, .func (.func 73) #[] #[.pointer (some ⟨ga1q0, 0, none⟩), .pointer (some ⟨ga1q1, 0, none⟩)]), (7, .int .i64 (a0.length : Int)), (8, .int .i64 0)]) (by kernel_rfl) (by kernel_rfl) (fun _ _ => trivial) ?_
  refine RgH.done (by kernel_rfl) ?_
  refine RunH.adm 2 (es' := [.c [1, 0, 1, 0, 0], .l [1, 0, 1, 0, 0], .b 0, .c [1, 1]]) (by kernel_rfl) ?_
  refine RunH.keep [0, 1, 7, 8] (L' := [(0, .slice Aa0 a0.length ca0), (1, .func (.func 73) #[] #[.pointer (some ⟨ga1q0, 0, none⟩), .pointer (some ⟨ga1q1, 0, none⟩)]), (7, .int .i64 (a0.length : Int)), (8, .int .i64 0)]) (by kernel_rfl) ?_
  exact ((slices_IndexFunc_Blob.l2_c (e1 := slices_IndexFunc_Blob.e1) (slices_IndexFunc_Blob.e1_c)) big) a0 _ _ _ a1q0 _ a1q1 _ 0 hra0 hca0 hga1q0 hra1q1_0 hga1q1 heq
noncomputable def C72 : Ctx := { P := Tryd.prog, f := 72, N := 42, c := bodyOf Tryd.f72 }
def S72 (F : List Ch) (H0 : Hp) (r : (List Blob)) (v : Value) (H : Hp) (cs : List Ch) : Prop := ∃ (A0 : Option Addr) (c0 : Nat) (ch0 : Ch), H0 = H ∧ v = .slice A0 r.length c0 ∧ ch0 :: F = cs ∧ SlOwn kBlob 47 H A0 c0 r ch0
theorem slices_DeleteFunc_Blob.e1_c {w0 : World} {H : Hp} {F : List Ch} {r : (List Blob)} : ∀ (v_s0 : List Blob) (Av_s0 : Option Addr) (nv_s0 : Nat) (cv_s0 : Nat) (chv_s0 : Ch) (v_i5 : Int) , SlOwn kBlob 47 H Av_s0 cv_s0 v_s0 chv_s0 → nv_s0 = v_s0.length → slices_DeleteFunc_Blob.e1 v_s0 v_i5 = some r → RunH C72 (S72 F H r) H w0 [.c [1, 1, 1, 1, 0], .c [1, 1, 1, 1, 1]] [(0, .slice Av_s0 nv_s0 cv_s0), (5, .int .i64 v_i5)] H (chv_s0 :: F) := by
  intro v_s0 Av_s0 nv_s0 cv_s0 chv_s0 v_i5 hov_s0 hnv_s0 heq
  subst hnv_s0
  unfold slices_DeleteFunc_Blob.e1 at heq
  refine RunH.reg (by kernel_rfl) ?_
  obtain ⟨hn2, heq⟩ := guard?_some heq
  have hn1 : v_s0.length - v_i5.toNat = (v_s0.drop v_i5.toNat).length := by have h1 := both_of hn2; have h3 := trivial; (try simp); (try omega)
  have ho1 := hov_s0.drop v_i5.toNat (by have h2 := hov_s0.cap; have h3 := trivial; have h1 := both_of hn2; omega)
  refine RgH.runk 3 [0, 5, 38] (vs := []) (evs := [.need ((0 : Int) ≤ v_i5 ∧ v_i5 ≤ ((v_s0.length : Nat) : Int))]) (L' := [(0, .slice Av_s0 v_s0.length cv_s0), (5, .int .i64 v_i5), (38, .slice (shiftA cv_s0 v_i5.toNat 5 Av_s0) (v_s0.length - v_i5.toNat) (cv_s0 - v_i5.toNat))]) (by kernel_rfl) (by kernel_rfl) (fun w hh => (both_of hn2)) ?_
  refine RgH.does (DoesH.clear (k := 0) (j := v_i5.toNat) (n := v_s0.length - v_i5.toNat) (t := 22) (e := 47) (bytes := 48) (kd := kBlob) (A := Av_s0) (A2 := (shiftA cv_s0 v_i5.toNat 5 Av_s0)) (c := cv_s0) (c2 := (cv_s0 - v_i5.toNat)) (xs := v_s0) (z := (⟨ByteArray.empty, 0, 0, 0, 0⟩ : Blob)) (zc := #[.string ByteArray.empty, .int .i64 0, .int .i64 0, .int .i64 0, .int .i64 0]) (by kernel_rfl) (by have h3 := trivial; omega) (by kernel_rfl) (by kernel_rfl) kBlob_mk (by kernel_rfl) rfl hov_s0 (by have h1 := both_of hn2; have h3 := trivial; omega) (fun h b off hA => shiftA_at h hov_s0.cap hA)) ?_
  rintro _ _ _ _ ⟨ch1, rfl, rfl, rfl, ho2⟩
  have hn3 : v_s0.length = (v_s0.take v_i5.toNat ++ List.replicate (v_s0.length - v_i5.toNat) (⟨ByteArray.empty, 0, 0, 0, 0⟩ : Blob)).length := by have h1 := both_of hn2; have h3 := trivial; simp; omega
  refine RgH.done (by kernel_rfl) ?_
  refine RunH.adm 1 (es' := [.c [1, 1, 1, 1, 1, 0], .c [1, 1, 1, 1, 1, 1]]) (by kernel_rfl) ?_
  refine RunH.reg (by kernel_rfl) ?_
  obtain ⟨hn5, heq⟩ := guard?_some heq
  have hn4 : v_i5.toNat = ((v_s0.take v_i5.toNat ++ List.replicate (v_s0.length - v_i5.toNat) (⟨ByteArray.empty, 0, 0, 0, 0⟩ : Blob)).take v_i5.toNat).length := by have h1 := both_of hn5; have h3 := hn3; (try simp); (try omega)
  have ho3 := ho2.take v_i5.toNat
  refine RgH.runk 4 [4] (vs := []) (evs := [.need ((0 : Int) ≤ v_i5 ∧ v_i5 ≤ ((cv_s0 : Nat) : Int))]) (L' := [(4, .slice Av_s0 v_i5.toNat cv_s0)]) (by kernel_rfl) (by kernel_rfl) (fun w hh => ⟨(both_of hn5).1, (by have h1 := (both_of hn5).2; have h2 := (show v_s0.length ≤ cv_s0 from by have := ho2.cap; have := hn3; omega); have h3 := hn3; omega)⟩) ?_
  refine RgH.done (by kernel_rfl) ?_
  obtain rfl := Option.some.inj heq
  exact RunH.done (by kernel_rfl) Tryd.func72 (v := .slice Av_s0 v_i5.toNat cv_s0) (by kernel_rfl) ⟨Av_s0, cv_s0, ch1, rfl, (by first | rfl | exact congrArg (fun q => Value.slice _ q _) hn4 | (rw [hn4]) | (simp only [← hn4])), rfl, ho3⟩
theorem slices_DeleteFunc_Blob.j3_c {w0 : World} {H : Hp} {F : List Ch} {r : (List Blob)} (backl2 : Int → (List (ByteArray × Bool)) → (List Blob) → Int → Int → Option (List Blob))
    (hbackl2 : ∀ (ga1q0 : Nat) (a1q0 : Int) (ga1q1 : Nat) (a1q1 : List (ByteArray × Bool)) (Aa1q1_0 : Option Nat) (v_s0 : List Blob) (Av_s0 : Option Addr) (nv_s0 : Nat) (cv_s0 : Nat) (chv_s0 : Ch) (v_i5 : Int) (v_j6 : Int) , InG H F ga1q0 (.cells #[.int .i64 a1q0] 3 (0, 0)) → Mw Value.string Kd.bool false H F Aa1q1_0 a1q1 → InG H F ga1q1 (.cells #[.map Aa1q1_0] 101 (0, 0)) → SlOwn kBlob 47 H Av_s0 cv_s0 v_s0 chv_s0 → nv_s0 = v_s0.length → backl2 a1q0 a1q1 v_s0 v_i5 v_j6 = some r → RunH C72 (S72 F H r) H w0 [.c [1, 1, 1, 0, 1, 0, 0], .l [1, 1, 1, 0, 1, 0, 0], .b 0, .c [1, 1, 1, 1]] [(0, .slice Av_s0 nv_s0 cv_s0), (1, .func (.func 73) #[] #[.pointer (some ⟨ga1q0, 0, none⟩), .pointer (some ⟨ga1q1, 0, none⟩)]), (5, .int .i64 v_i5), (6, .int .i64 v_j6)] H (chv_s0 :: F)) : ∀ (ga1q0 : Nat) (a1q0 : Int) (ga1q1 : Nat) (a1q1 : List (ByteArray × Bool)) (Aa1q1_0 : Option Nat) (v_j6 : Int) (v_s0 : List Blob) (Av_s0 : Option Addr) (nv_s0 : Nat) (cv_s0 : Nat) (chv_s0 : Ch) (v_i5 : Int) , InG H F ga1q0 (.cells #[.int .i64 a1q0] 3 (0, 0)) → Mw Value.string Kd.bool false H F Aa1q1_0 a1q1 → InG H F ga1q1 (.cells #[.map Aa1q1_0] 101 (0, 0)) → SlOwn kBlob 47 H Av_s0 cv_s0 v_s0 chv_s0 → nv_s0 = v_s0.length → slices_DeleteFunc_Blob.j3 backl2 a1q0 a1q1 v_j6 v_s0 v_i5 = some r → RunH C72 (S72 F H r) H w0 [.c [1, 1, 1, 0, 1, 0, 0, 1, 1], .l [1, 1, 1, 0, 1, 0, 0], .b 0, .c [1, 1, 1, 1]] [(0, .slice Av_s0 nv_s0 cv_s0), (1, .func (.func 73) #[] #[.pointer (some ⟨ga1q0, 0, none⟩), .pointer (some ⟨ga1q1, 0, none⟩)]), (5, .int .i64 v_i5), (6, .int .i64 v_j6)] H (chv_s0 :: F) := by
  intro ga1q0 a1q0 ga1q1 a1q1 Aa1q1_0 v_j6 v_s0 Av_s0 nv_s0 cv_s0 chv_s0 v_i5 hga1q0 hra1q1_0 hga1q1 hov_s0 hnv_s0 heq
  subst hnv_s0
  unfold slices_DeleteFunc_Blob.j3 at heq
  refine RunH.reg (by kernel_rfl) ?_
  refine RgH.runk 3 [0, 1, 5, 6] (vs := []) (evs := []) (L' := [(0, .slice Av_s0 v_s0.length cv_s0), (1, .func (.func 73) #[] #[.pointer (some ⟨ga1q0, 0, none⟩), .pointer (some ⟨ga1q1, 0, none⟩)]), (5, .int .i64 v_i5), (6, .int .i64 (w64 (v_j6 + 1)))]) (by kernel_rfl) (by kernel_rfl) (fun _ _ => trivial) ?_
  refine RgH.done (by kernel_rfl) ?_
  refine RunH.adm 1 (es' := [.c [1, 1, 1, 0, 1, 0, 0], .l [1, 1, 1, 0, 1, 0, 0], .b 0, .c [1, 1, 1, 1]]) (by kernel_rfl) ?_
  refine RunH.keep [0, 1, 5, 6] (L' := [(0, .slice Av_s0 v_s0.length cv_s0), (1, .func (.func 73) #[] #[.pointer (some ⟨ga1q0, 0, none⟩), .pointer (some ⟨ga1q1, 0, none⟩)]), (5, .int .i64 v_i5), (6, .int .i64 (w64 (v_j6 + 1)))]) (by kernel_rfl) ?_
  exact hbackl2 _ a1q0 _ a1q1 _ v_s0 _ _ _ _ v_i5 (w64 (v_j6 + 1)) hga1q0 hra1q1_0 hga1q1 hov_s0 rfl heq
theorem slices_DeleteFunc_Blob.l2_c {w0 : World} {H : Hp} {F : List Ch} {r : (List Blob)} (e1 : (List Blob) → Int → Option (List Blob))
    (he1 : ∀ (v_s0 : List Blob) (Av_s0 : Option Addr) (nv_s0 : Nat) (cv_s0 : Nat) (chv_s0 : Ch) (v_i5 : Int) , SlOwn kBlob 47 H Av_s0 cv_s0 v_s0 chv_s0 → nv_s0 = v_s0.length → e1 v_s0 v_i5 = some r → RunH C72 (S72 F H r) H w0 [.c [1, 1, 1, 1, 0], .c [1, 1, 1, 1, 1]] [(0, .slice Av_s0 nv_s0 cv_s0), (5, .int .i64 v_i5)] H (chv_s0 :: F)) : ∀ (k : Nat), ∀ (ga1q0 : Nat) (a1q0 : Int) (ga1q1 : Nat) (a1q1 : List (ByteArray × Bool)) (Aa1q1_0 : Option Nat) (v_s0 : List Blob) (Av_s0 : Option Addr) (nv_s0 : Nat) (cv_s0 : Nat) (chv_s0 : Ch) (v_i5 : Int) (v_j6 : Int) , InG H F ga1q0 (.cells #[.int .i64 a1q0] 3 (0, 0)) → Mw Value.string Kd.bool false H F Aa1q1_0 a1q1 → InG H F ga1q1 (.cells #[.map Aa1q1_0] 101 (0, 0)) → SlOwn kBlob 47 H Av_s0 cv_s0 v_s0 chv_s0 → nv_s0 = v_s0.length → slices_DeleteFunc_Blob.l2 e1 k a1q0 a1q1 v_s0 v_i5 v_j6 = some r → RunH C72 (S72 F H r) H w0 [.c [1, 1, 1, 0, 1, 0, 0], .l [1, 1, 1, 0, 1, 0, 0], .b 0, .c [1, 1, 1, 1]] [(0, .slice Av_s0 nv_s0 cv_s0), (1, .func (.func 73) #[] #[.pointer (some ⟨ga1q0, 0, none⟩), .pointer (some ⟨ga1q1, 0, none⟩)]), (5, .int .i64 v_i5), (6, .int .i64 v_j6)] H (chv_s0 :: F) := by
  intro k
  induction k with
  | zero => intro ga1q0 a1q0 ga1q1 a1q1 Aa1q1_0 v_s0 Av_s0 nv_s0 cv_s0 chv_s0 v_i5 v_j6 hga1q0 hra1q1_0 hga1q1 hov_s0 hnv_s0 heq; exact nomatch (show (none : Option (List Blob)) = some r from heq)
  | succ k ihk =>
    intro ga1q0 a1q0 ga1q1 a1q1 Aa1q1_0 v_s0 Av_s0 nv_s0 cv_s0 chv_s0 v_i5 v_j6 hga1q0 hra1q1_0 hga1q1 hov_s0 hnv_s0 heq
    subst hnv_s0
    rw [slices_DeleteFunc_Blob.l2] at heq
    refine RunH.adm 2 (es' := [.c [1, 1, 1, 0, 1, 0, 0, 0, 0], .c [1, 1, 1, 0, 1, 0, 0, 0, 1], .c [1, 1, 1, 0, 1, 0, 0, 1], .l [1, 1, 1, 0, 1, 0, 0], .b 0, .c [1, 1, 1, 1]]) (by kernel_rfl) ?_
    refine RunH.reg (by kernel_rfl) ?_
    refine RgH.runk 4 [0, 1, 5, 6, 19] (vs := []) (evs := []) (L' := [(0, .slice Av_s0 v_s0.length cv_s0), (1, .func (.func 73) #[] #[.pointer (some ⟨ga1q0, 0, none⟩), .pointer (some ⟨ga1q1, 0, none⟩)]), (5, .int .i64 v_i5), (6, .int .i64 v_j6), (19, .bool (decide (v_j6 < (v_s0.length : Int))))]) (by kernel_rfl) (by kernel_rfl) (fun _ _ => trivial) ?_
    refine RgH.done (by kernel_rfl) ?_
    rcases bool_cases (decide (v_j6 < (v_s0.length : Int))) with hb2 | hb2
    · replace heq := bif_true hb2 heq
      refine RunH.condT (c := decide (v_j6 < (v_s0.length : Int))) (by kernel_rfl) hb2 ?_
      refine RunH.adm 4 (es' := [.c [1, 1, 1, 0, 1, 0, 0, 1, 0, 0, 0], .c [1, 1, 1, 0, 1, 0, 0, 1, 0, 0, 1], .b 1, .c [1, 1, 1, 0, 1, 0, 0, 1, 1], .l [1, 1, 1, 0, 1, 0, 0], .b 0, .c [1, 1, 1, 1]]) (by kernel_rfl) ?_
      refine RunH.reg (by kernel_rfl) ?_
      obtain ⟨x1, hx1, heq⟩ := bind_some heq
      obtain ⟨ha1, cs1, hK1, hcc1⟩ := hov_s0.get hx1
      obtain ⟨rfl⟩ := kBlob_open hK1
      refine RgH.runk 4 [0, 1, 5, 6, 25] (vs := [.string x1.Digest, .int .i64 x1.Size, .int .i64 x1.Used, .int .i64 x1.Until, .int .i64 x1.Pins]) (evs := [.need (Av_s0 = some (adr Av_s0) ∧ (0 : Int) ≤ v_j6 ∧ v_j6 < ((v_s0.length : Nat) : Int)), .load (((adr Av_s0).add (v_j6.toNat * 5)).add 0) (.string x1.Digest), .load (((adr Av_s0).add (v_j6.toNat * 5)).add 1) (.int .i64 x1.Size), .load (((adr Av_s0).add (v_j6.toNat * 5)).add 2) (.int .i64 x1.Used), .load (((adr Av_s0).add (v_j6.toNat * 5)).add 3) (.int .i64 x1.Until), .load (((adr Av_s0).add (v_j6.toNat * 5)).add 4) (.int .i64 x1.Pins)]) (L' := [(0, .slice Av_s0 v_s0.length cv_s0), (1, .func (.func 73) #[] #[.pointer (some ⟨ga1q0, 0, none⟩), .pointer (some ⟨ga1q1, 0, none⟩)]), (5, .int .i64 v_i5), (6, .int .i64 v_j6), (25, .agg #[.string x1.Digest, .int .i64 x1.Size, .int .i64 x1.Used, .int .i64 x1.Until, .int .i64 x1.Pins])]) (by kernel_rfl) (by kernel_rfl) (fun w hh => ⟨⟨ha1, (at?_some hx1).1, (at?_some hx1).2.1⟩, (hcc1 _ (hh.chin 0 rfl) 0 _ rfl), (hcc1 _ (hh.chin 0 rfl) 1 _ rfl), (hcc1 _ (hh.chin 0 rfl) 2 _ rfl), (hcc1 _ (hh.chin 0 rfl) 3 _ rfl), (hcc1 _ (hh.chin 0 rfl) 4 _ rfl)⟩) ?_
      refine RgH.does (DoesH.new (d := 7) (v := fun g => .pointer (some ⟨g, 0, none⟩)) (o := fun g => .cells #[.string ByteArray.empty, .int .i64 0, .int .i64 0, .int .i64 0, .int .i64 0] 47 (0, 0)) (fun g => by kernel_rfl)) ?_
      rintro _ _ _ _ ⟨g1, rfl, rfl, rfl⟩
      refine RgH.does (DoesH.store (k := 0) (g := g1) (off := 0) (v := .agg #[.string x1.Digest, .int .i64 x1.Size, .int .i64 x1.Used, .int .i64 x1.Until, .int .i64 x1.Pins]) (cells' := #[.string x1.Digest, .int .i64 x1.Size, .int .i64 x1.Used, .int .i64 x1.Until, .int .i64 x1.Pins]) (by kernel_rfl) rfl (by kernel_rfl) (by kernel_rfl)) ?_
      rintro _ _ _ _ ⟨rfl, rfl, rfl⟩
      refine RgH.done (by kernel_rfl) ?_
      refine RunH.adm 1 (es' := [.c [1, 1, 1, 0, 1, 0, 0, 1, 0, 0, 1, 0], .c [1, 1, 1, 0, 1, 0, 0, 1, 0, 0, 1, 1], .b 1, .c [1, 1, 1, 0, 1, 0, 0, 1, 1], .l [1, 1, 1, 0, 1, 0, 0], .b 0, .c [1, 1, 1, 1]]) (by kernel_rfl) ?_
      refine RunH.reg (by kernel_rfl) ?_
      refine RgH.runk 2 [0, 1, 5, 6, 7, 26, 27] (vs := [.string x1.Digest, .int .i64 x1.Size, .int .i64 x1.Used, .int .i64 x1.Until, .int .i64 x1.Pins]) (evs := [.load ⟨g1, 0, none⟩ (.string x1.Digest), .load ⟨g1, 1, none⟩ (.int .i64 x1.Size), .load ⟨g1, 2, none⟩ (.int .i64 x1.Used), .load ⟨g1, 3, none⟩ (.int .i64 x1.Until), .load ⟨g1, 4, none⟩ (.int .i64 x1.Pins)]) (L' := [(0, .slice Av_s0 v_s0.length cv_s0), (1, .func (.func 73) #[] #[.pointer (some ⟨ga1q0, 0, none⟩), .pointer (some ⟨ga1q1, 0, none⟩)]), (5, .int .i64 v_i5), (6, .int .i64 v_j6), (7, .pointer (some ⟨g1, 0, none⟩)), (26, .func (.func 73) #[] #[.pointer (some ⟨ga1q0, 0, none⟩), .pointer (some ⟨ga1q1, 0, none⟩)]), (27, .agg #[.string x1.Digest, .int .i64 x1.Size, .int .i64 x1.Used, .int .i64 x1.Until, .int .i64 x1.Pins])]) (by kernel_rfl) (by kernel_rfl) (fun w hh => ⟨(hh.box 0 rfl rfl), (hh.box 0 rfl rfl), (hh.box 0 rfl rfl), (hh.box 0 rfl rfl), (hh.box 0 rfl rfl)⟩) ?_
      obtain ⟨y2, hy2, heq⟩ := bind_some heq
      refine RgH.does (DoesH.call (d := 28) (g := 73) (args := #[.agg #[.string x1.Digest, .int .i64 x1.Size, .int .i64 x1.Used, .int .i64 x1.Until, .int .i64 x1.Pins], .pointer (some ⟨ga1q0, 0, none⟩), .pointer (some ⟨ga1q1, 0, none⟩)]) (by kernel_rfl) (cache_Swept_1_c (a0 := x1) (a1 := a1q0) (a2 := a1q1) (hga1q0.wk (fun _ h => (.tail _ (.tail _ h)))) (hra1q1_0.wk (fun _ h => (.tail _ (.tail _ h)))) (hga1q1.wk (fun _ h => (.tail _ (.tail _ h)))) hy2)) ?_
      rintro _ _ _ _ ⟨_, rfl, rfl, rfl, rfl⟩
      refine RgH.runk 4 [0, 1, 5, 6, 7, 29] (vs := []) (evs := []) (L' := [(0, .slice Av_s0 v_s0.length cv_s0), (1, .func (.func 73) #[] #[.pointer (some ⟨ga1q0, 0, none⟩), .pointer (some ⟨ga1q1, 0, none⟩)]), (5, .int .i64 v_i5), (6, .int .i64 v_j6), (7, .pointer (some ⟨g1, 0, none⟩)), (29, .bool (!y2))]) (by kernel_rfl) (by kernel_rfl) (fun _ _ => trivial) ?_
      refine RgH.done (by kernel_rfl) ?_
      rcases bool_cases (!y2) with hb3 | hb3
      · replace heq := bif_true hb3 heq
        refine RunH.condT (c := !y2) (by kernel_rfl) hb3 ?_
        refine RunH.adm 1 (es' := [.c [1, 1, 1, 0, 1, 0, 0, 1, 0, 0, 1, 1, 0, 0], .c [1, 1, 1, 0, 1, 0, 0, 1, 0, 0, 1, 1, 0, 1], .b 1, .c [1, 1, 1, 0, 1, 0, 0, 1, 1], .l [1, 1, 1, 0, 1, 0, 0], .b 0, .c [1, 1, 1, 1]]) (by kernel_rfl) ?_
        refine RunH.reg (by kernel_rfl) ?_
        obtain ⟨x2, hx2, heq⟩ := bind_some heq
        obtain ⟨ha2, cs2, hK2, hcc2⟩ := hov_s0.get hx2
        obtain ⟨rfl⟩ := kBlob_open hK2
        refine RgH.runk 4 [0, 1, 5, 6, 32, 33] (vs := [.string x1.Digest, .int .i64 x1.Size, .int .i64 x1.Used, .int .i64 x1.Until, .int .i64 x1.Pins]) (evs := [.load ⟨g1, 0, none⟩ (.string x1.Digest), .load ⟨g1, 1, none⟩ (.int .i64 x1.Size), .load ⟨g1, 2, none⟩ (.int .i64 x1.Used), .load ⟨g1, 3, none⟩ (.int .i64 x1.Until), .load ⟨g1, 4, none⟩ (.int .i64 x1.Pins), .need (Av_s0 = some (adr Av_s0) ∧ (0 : Int) ≤ v_i5 ∧ v_i5 < ((v_s0.length : Nat) : Int))]) (L' := [(0, .slice Av_s0 v_s0.length cv_s0), (1, .func (.func 73) #[] #[.pointer (some ⟨ga1q0, 0, none⟩), .pointer (some ⟨ga1q1, 0, none⟩)]), (5, .int .i64 v_i5), (6, .int .i64 v_j6), (32, .agg #[.string x1.Digest, .int .i64 x1.Size, .int .i64 x1.Used, .int .i64 x1.Until, .int .i64 x1.Pins]), (33, .pointer (some ((adr Av_s0).add (v_i5.toNat * 5))))]) (by kernel_rfl) (by kernel_rfl) (fun w hh => ⟨(hh.box 0 rfl rfl), (hh.box 0 rfl rfl), (hh.box 0 rfl rfl), (hh.box 0 rfl rfl), (hh.box 0 rfl rfl), ⟨ha2, (at?_some hx2).1, (at?_some hx2).2.1⟩⟩) ?_
        obtain ⟨ha3, cs3, hK3, hcc3⟩ := hov_s0.get hx2
        obtain ⟨rfl⟩ := kBlob_open hK3
        refine RgH.does (DoesH.storeEl (a := ((adr Av_s0).add (v_i5.toNat * 5))) (k := 1) (kd := kBlob) (c0 := [.string x2.Digest, .int .i64 x2.Size, .int .i64 x2.Used, .int .i64 x2.Until, .int .i64 x2.Pins]) (x' := x1) (o := 0) (ix := v_i5) (v := .agg #[.string x1.Digest, .int .i64 x1.Size, .int .i64 x1.Used, .int .i64 x1.Until, .int .i64 x1.Pins]) (by kernel_rfl) rfl hov_s0 hx2 (by kernel_rfl) hcc3 rfl (Nat.le_of_ble_eq_true (by kernel_rfl)) kBlob_mk) ?_
        rintro _ _ _ _ ⟨ch2, rfl, rfl, rfl, ho4⟩
        have hn6 : v_s0.length = (v_s0.set v_i5.toNat x1).length := by rw [List.length_set]
        refine RgH.done (by kernel_rfl) ?_
        refine RunH.reg (by kernel_rfl) ?_
        refine RgH.runk 3 [0, 1, 5, 6] (vs := []) (evs := []) (L' := [(0, .slice Av_s0 v_s0.length cv_s0), (1, .func (.func 73) #[] #[.pointer (some ⟨ga1q0, 0, none⟩), .pointer (some ⟨ga1q1, 0, none⟩)]), (5, .int .i64 (w64 (v_i5 + 1))), (6, .int .i64 v_j6)]) (by kernel_rfl) (by kernel_rfl) (fun _ _ => trivial) ?_
        refine RgH.done (by kernel_rfl) ?_
        refine RunH.adm 1 (es' := [.c [1, 1, 1, 0, 1, 0, 0, 1, 1], .l [1, 1, 1, 0, 1, 0, 0], .b 0, .c [1, 1, 1, 1]]) (by kernel_rfl) ?_
        refine RunH.keep [0, 1, 5, 6] (L' := [(0, .slice Av_s0 v_s0.length cv_s0), (1, .func (.func 73) #[] #[.pointer (some ⟨ga1q0, 0, none⟩), .pointer (some ⟨ga1q1, 0, none⟩)]), (5, .int .i64 (w64 (v_i5 + 1))), (6, .int .i64 v_j6)]) (by kernel_rfl) ?_
        refine RunH.pick 2 [1] (cs' := ch2 :: F) (by kernel_rfl) rfl ?_
        exact (slices_DeleteFunc_Blob.j3_c (backl2 := (slices_DeleteFunc_Blob.l2 e1 k)) ihk) _ a1q0 _ a1q1 _ v_j6 (v_s0.set v_i5.toNat x1) _ _ _ _ (w64 (v_i5 + 1)) hga1q0 hra1q1_0 hga1q1 ho4 hn6 heq
      · replace heq := bif_false hb3 heq
        refine RunH.condF (c := !y2) (by kernel_rfl) hb3 ?_
        refine RunH.adm 2 (es' := [.c [1, 1, 1, 0, 1, 0, 0, 1, 1], .l [1, 1, 1, 0, 1, 0, 0], .b 0, .c [1, 1, 1, 1]]) (by kernel_rfl) ?_
        refine RunH.keep [0, 1, 5, 6] (L' := [(0, .slice Av_s0 v_s0.length cv_s0), (1, .func (.func 73) #[] #[.pointer (some ⟨ga1q0, 0, none⟩), .pointer (some ⟨ga1q1, 0, none⟩)]), (5, .int .i64 v_i5), (6, .int .i64 v_j6)]) (by kernel_rfl) ?_
        refine RunH.pick 2 [1] (cs' := chv_s0 :: F) (by kernel_rfl) rfl ?_
        exact (slices_DeleteFunc_Blob.j3_c (backl2 := (slices_DeleteFunc_Blob.l2 e1 k)) ihk) _ a1q0 _ a1q1 _ v_j6 v_s0 _ _ _ _ v_i5 hga1q0 hra1q1_0 hga1q1 hov_s0 rfl heq
    · replace heq := bif_false hb2 heq
      refine RunH.condF (c := decide (v_j6 < (v_s0.length : Int))) (by kernel_rfl) hb2 ?_
      refine RunH.adm 2 (es' := [.c [1, 1, 1, 1, 0], .c [1, 1, 1, 1, 1]]) (by kernel_rfl) ?_
      refine RunH.keep [0, 5] (L' := [(0, .slice Av_s0 v_s0.length cv_s0), (5, .int .i64 v_i5)]) (by kernel_rfl) ?_
      exact he1 v_s0 _ _ _ _ v_i5 hov_s0 rfl heq
theorem slices_DeleteFunc_Blob_c {w0 : World} {H : Hp} {F : List Ch} {a0 : List Blob} {Aa0 : Option Addr} {na0 : Nat} {ca0 : Nat} {cha0 : Ch} {ga1q0 : Nat} {a1q0 : Int} {ga1q1 : Nat} {a1q1 : List (ByteArray × Bool)} {Aa1q1_0 : Option Nat} {r : (List Blob)} (hoa0 : SlOwn kBlob 47 H Aa0 ca0 a0 cha0) (hna0 : na0 = a0.length) (hga1q0 : InG H F ga1q0 (.cells #[.int .i64 a1q0] 3 (0, 0))) (hra1q1_0 : Mw Value.string Kd.bool false H F Aa1q1_0 a1q1) (hga1q1 : InG H F ga1q1 (.cells #[.map Aa1q1_0] 101 (0, 0))) (heq : slices_DeleteFunc_Blob.f a0 a1q0 a1q1 = some r) : CallsH Tryd.prog 72 #[.slice Aa0 na0 ca0, .func (.func 73) #[] #[.pointer (some ⟨ga1q0, 0, none⟩), .pointer (some ⟨ga1q1, 0, none⟩)]] H w0 (cha0 :: F) (S72 F H r) := by
  refine calls_of_runH (F := C72) Tryd.func72 (by kernel_rfl) Tryd.ntmps72 (args := [.slice Aa0 na0 ca0, .func (.func 73) #[] #[.pointer (some ⟨ga1q0, 0, none⟩), .pointer (some ⟨ga1q1, 0, none⟩)]]) (by kernel_rfl) ?_
  subst hna0
  unfold slices_DeleteFunc_Blob.f at heq
  refine RunH.adm 1 (es' := [.c [0], .c [1]]) (by kernel_rfl) ?_
  refine RunH.reg (by kernel_rfl) ?_
  refine RgH.runk 1 [0, 1] (vs := []) (evs := []) (L' := [(0, .slice Aa0 a0.length ca0), (1, .func (.func 73) #[] #[.pointer (some ⟨ga1q0, 0, none⟩), .pointer (some ⟨ga1q1, 0, none⟩)])]) (by kernel_rfl) (by kernel_rfl) (fun _ _ => trivial) ?_
  refine RgH.done (by kernel_rfl) ?_
  refine RunH.adm 1 (es' := [.c [1, 0], .c [1, 1]]) (by kernel_rfl) ?_
  refine RunH.reg (by kernel_rfl) ?_
  refine RgH.runk 2 [0, 1, 8, 9] (vs := []) (evs := []) (L' := [(0, .slice Aa0 a0.length ca0), (1, .func (.func 73) #[] #[.pointer (some ⟨ga1q0, 0, none⟩), .pointer (some ⟨ga1q1, 0, none⟩)]), (8, .slice Aa0 a0.length ca0), (9, .func (.func 73) #[] #[.pointer (some ⟨ga1q0, 0, none⟩), .pointer (some ⟨ga1q1, 0, none⟩)])]) (by kernel_rfl) (by kernel_rfl) (fun _ _ => trivial) ?_
  obtain ⟨y1, hy1, heq⟩ := bind_some heq
  refine RgH.does (DoesH.call (d := 10) (g := 109) (args := #[.slice Aa0 a0.length ca0, .func (.func 73) #[] #[.pointer (some ⟨ga1q0, 0, none⟩), .pointer (some ⟨ga1q1, 0, none⟩)]]) (by kernel_rfl) (slices_IndexFunc_Blob_c (a0 := a0) (a1q0 := a1q0) (a1q1 := a1q1) (hoa0.rw (.head _)) hoa0.cap rfl (hga1q0.wk (fun _ h => (.tail _ h))) (hra1q1_0.wk (fun _ h => (.tail _ h))) (hga1q1.wk (fun _ h => (.tail _ h))) hy1)) ?_
  rintro _ _ _ _ ⟨_, rfl, rfl, rfl, rfl⟩
  refine RgH.runk 4 [0, 1, 5] (vs := []) (evs := []) (L' := [(0, .slice Aa0 a0.length ca0), (1, .func (.func 73) #[] #[.pointer (some ⟨ga1q0, 0, none⟩), .pointer (some ⟨ga1q1, 0, none⟩)]), (5, .int .i64 y1)]) (by kernel_rfl) (by kernel_rfl) (fun _ _ => trivial) ?_
  refine RgH.done (by kernel_rfl) ?_
  refine RunH.adm 2 (es' := [.c [1, 1, 0, 0], .c [1, 1, 0, 1], .c [1, 1, 1]]) (by kernel_rfl) ?_
  refine RunH.reg (by kernel_rfl) ?_
  refine RgH.runk 2 [0, 1, 5, 12] (vs := []) (evs := []) (L' := [(0, .slice Aa0 a0.length ca0), (1, .func (.func 73) #[] #[.pointer (some ⟨ga1q0, 0, none⟩), .pointer (some ⟨ga1q1, 0, none⟩)]), (5, .int .i64 y1), (12, .bool (y1 == (-1)))]) (by kernel_rfl) (by kernel_rfl) (fun _ _ => trivial) ?_
  refine RgH.done (by kernel_rfl) ?_
  rcases bool_cases (y1 == (-1)) with hb1 | hb1
  · replace heq := bif_true hb1 heq
    refine RunH.condT (c := y1 == (-1)) (by kernel_rfl) hb1 ?_
    refine RunH.adm 1 (es' := [.c [1, 1, 0, 1, 0, 0], .c [1, 1, 0, 1, 0, 1], .c [1, 1, 1]]) (by kernel_rfl) ?_
    refine RunH.reg (by kernel_rfl) ?_
    refine RgH.runk 2 [4] (vs := []) (evs := []) (L' := [(4, .slice Aa0 a0.length ca0)]) (by kernel_rfl) (by kernel_rfl) (fun _ _ => trivial) ?_
    refine RgH.done (by kernel_rfl) ?_
    obtain rfl := Option.some.inj heq
    exact RunH.done (by kernel_rfl) Tryd.func72 (v := .slice Aa0 a0.length ca0) (by kernel_rfl) ⟨Aa0, ca0, cha0, rfl, rfl, rfl, hoa0⟩
  · replace heq := bif_false hb1 heq
    refine RunH.condF (c := y1 == (-1)) (by kernel_rfl) hb1 ?_
    refine RunH.adm 3 (es' := [.c [1, 1, 1, 0, 0], .c [1, 1, 1, 0, 1], .c [1, 1, 1, 1]]) (by kernel_rfl) ?_
    refine RunH.reg (by kernel_rfl) ?_
    refine RgH.runk 3 [0, 1, 5, 6] (vs := []) (evs := []) (L' := [(0, .slice Aa0 a0.length ca0), (1, .func (.func 73) #[] #[.pointer (some ⟨ga1q0, 0, none⟩), .pointer (some ⟨ga1q1, 0, none⟩)]), (5, .int .i64 y1), (6, .int .i64 (w64 (y1 + 1)))]) (by kernel_rfl) (by kernel_rfl) (fun _ _ => trivial) ?_
    refine RgH.done (by kernel_rfl) ?_
    refine RunH.adm 2 (es' := [.c [1, 1, 1, 0, 1, 0, 0], .l [1, 1, 1, 0, 1, 0, 0], .b 0, .c [1, 1, 1, 1]]) (by kernel_rfl) ?_
    refine RunH.keep [0, 1, 5, 6] (L' := [(0, .slice Aa0 a0.length ca0), (1, .func (.func 73) #[] #[.pointer (some ⟨ga1q0, 0, none⟩), .pointer (some ⟨ga1q1, 0, none⟩)]), (5, .int .i64 y1), (6, .int .i64 (w64 (y1 + 1)))]) (by kernel_rfl) ?_
    exact ((slices_DeleteFunc_Blob.l2_c (e1 := slices_DeleteFunc_Blob.e1) (slices_DeleteFunc_Blob.e1_c)) big) _ a1q0 _ a1q1 _ a0 _ _ _ _ y1 (w64 (y1 + 1)) hga1q0 hra1q1_0 hga1q1 hoa0 rfl heq
noncomputable def C71 : Ctx := { P := Tryd.prog, f := 71, N := 19, c := bodyOf Tryd.f71 }
def S71 (F : List Ch) (H0 : Hp) (r : (List ByteArray)) (v : Value) (H : Hp) (cs : List Ch) : Prop := ∃ (A0 : Option Addr) (c0 : Nat) (ch0 : Ch), H0 = H ∧ v = .slice A0 r.length c0 ∧ ch0 :: F = cs ∧ SlOwn Kd.string 9 H A0 c0 r ch0
theorem cache_digestsOf.e1_c {w0 : World} {H : Hp} {F : List Ch} {r : (List ByteArray)} : ∀ (v_out3 : List ByteArray) (Av_out3 : Option Addr) (nv_out3 : Nat) (cv_out3 : Nat) (chv_out3 : Ch) , SlOwn Kd.string 9 H Av_out3 cv_out3 v_out3 chv_out3 → nv_out3 = v_out3.length → cache_digestsOf.e1 v_out3 = some r → RunH C71 (S71 F H r) H w0 [.c [1, 1, 1, 0], .c [1, 1, 1, 1]] [(3, .slice Av_out3 nv_out3 cv_out3)] H (chv_out3 :: F) := by
  intro v_out3 Av_out3 nv_out3 cv_out3 chv_out3 hov_out3 hnv_out3 heq
  subst hnv_out3
  unfold cache_digestsOf.e1 at heq
  refine RunH.reg (by kernel_rfl) ?_
  refine RgH.runk 2 [2] (vs := []) (evs := []) (L' := [(2, .slice Av_out3 v_out3.length cv_out3)]) (by kernel_rfl) (by kernel_rfl) (fun _ _ => trivial) ?_
  refine RgH.done (by kernel_rfl) ?_
  obtain rfl := Option.some.inj heq
  exact RunH.done (by kernel_rfl) Tryd.func71 (v := .slice Av_out3 v_out3.length cv_out3) (by kernel_rfl) ⟨Av_out3, cv_out3, chv_out3, rfl, rfl, rfl, hov_out3⟩
theorem cache_digestsOf.l2_c {w0 : World} {H : Hp} {F : List Ch} {r : (List ByteArray)} (e1 : (List ByteArray) → Option (List ByteArray))
    (he1 : ∀ (v_out3 : List ByteArray) (Av_out3 : Option Addr) (nv_out3 : Nat) (cv_out3 : Nat) (chv_out3 : Ch) , SlOwn Kd.string 9 H Av_out3 cv_out3 v_out3 chv_out3 → nv_out3 = v_out3.length → e1 v_out3 = some r → RunH C71 (S71 F H r) H w0 [.c [1, 1, 1, 0], .c [1, 1, 1, 1]] [(3, .slice Av_out3 nv_out3 cv_out3)] H (chv_out3 :: F)) : ∀ (k : Nat), ∀ (a0 : List Blob) (Aa0 : Option Addr) (ca0 : Nat) (v_out3 : List ByteArray) (Av_out3 : Option Addr) (nv_out3 : Nat) (cv_out3 : Nat) (chv_out3 : Ch) (v8 : Int) , Rw kBlob H F Aa0 a0 → a0.length ≤ ca0 → SlOwn Kd.string 9 H Av_out3 cv_out3 v_out3 chv_out3 → nv_out3 = v_out3.length → cache_digestsOf.l2 e1 k a0 v_out3 v8 = some r → RunH C71 (S71 F H r) H w0 [.c [1, 1, 0, 1, 0, 0], .l [1, 1, 0, 1, 0, 0], .b 0, .c [1, 1, 1]] [(3, .slice Av_out3 nv_out3 cv_out3), (6, .slice Aa0 a0.length ca0), (7, .int .i64 (a0.length : Int)), (8, .int .i64 v8)] H (chv_out3 :: F) := by
  intro k
  induction k with
  | zero => intro a0 Aa0 ca0 v_out3 Av_out3 nv_out3 cv_out3 chv_out3 v8 hra0 hca0 hov_out3 hnv_out3 heq; exact nomatch (show (none : Option (List ByteArray)) = some r from heq)
  | succ k ihk =>
    intro a0 Aa0 ca0 v_out3 Av_out3 nv_out3 cv_out3 chv_out3 v8 hra0 hca0 hov_out3 hnv_out3 heq
    subst hnv_out3
    rw [cache_digestsOf.l2] at heq
    refine RunH.adm 1 (es' := [.c [1, 1, 0, 1, 0, 0, 0], .c [1, 1, 0, 1, 0, 0, 1], .l [1, 1, 0, 1, 0, 0], .b 0, .c [1, 1, 1]]) (by kernel_rfl) ?_
    refine RunH.reg (by kernel_rfl) ?_
    refine RgH.runk 1 [3, 6, 7, 8, 9] (vs := []) (evs := []) (L' := [(3, .slice Av_out3 v_out3.length cv_out3), (6, .slice Aa0 a0.length ca0), (7, .int .i64 (a0.length : Int)), (8, .int .i64 v8), (9, .bool (decide (v8 < (a0.length : Int))))]) (by kernel_rfl) (by kernel_rfl) (fun _ _ => trivial) ?_
    refine RgH.done (by kernel_rfl) ?_
    refine RunH.adm 1 (es' := [.c [1, 1, 0, 1, 0, 0, 1, 0], .c [1, 1, 0, 1, 0, 0, 1, 1], .l [1, 1, 0, 1, 0, 0], .b 0, .c [1, 1, 1]]) (by kernel_rfl) ?_
    rcases bool_cases (decide (v8 < (a0.length : Int))) with hb1 | hb1
    · replace heq := bif_true hb1 heq
      refine RunH.condT (c := decide (v8 < (a0.length : Int))) (by kernel_rfl) hb1 ?_
      refine RunH.adm 4 (es' := [.c [1, 1, 0, 1, 0, 0, 1, 1, 0, 0, 0], .c [1, 1, 0, 1, 0, 0, 1, 1, 0, 0, 1], .b 1, .c [1, 1, 0, 1, 0, 0, 1, 1, 1], .l [1, 1, 0, 1, 0, 0], .b 0, .c [1, 1, 1]]) (by kernel_rfl) ?_
      refine RunH.reg (by kernel_rfl) ?_
      obtain ⟨x1, hx1, heq⟩ := bind_some heq
      obtain ⟨ha1, cs1, hK1, hcc1⟩ := hra0.get hx1
      obtain ⟨rfl⟩ := kBlob_open hK1
      refine RgH.runk 2 [3, 6, 7, 8, 11] (vs := [.string x1.Digest, .int .i64 x1.Size, .int .i64 x1.Used, .int .i64 x1.Until, .int .i64 x1.Pins]) (evs := [.need (Aa0 = some (adr Aa0) ∧ (0 : Int) ≤ v8 ∧ v8 < ((a0.length : Nat) : Int)), .load (((adr Aa0).add (v8.toNat * 5)).add 0) (.string x1.Digest), .load (((adr Aa0).add (v8.toNat * 5)).add 1) (.int .i64 x1.Size), .load (((adr Aa0).add (v8.toNat * 5)).add 2) (.int .i64 x1.Used), .load (((adr Aa0).add (v8.toNat * 5)).add 3) (.int .i64 x1.Until), .load (((adr Aa0).add (v8.toNat * 5)).add 4) (.int .i64 x1.Pins)]) (L' := [(3, .slice Av_out3 v_out3.length cv_out3), (6, .slice Aa0 a0.length ca0), (7, .int .i64 (a0.length : Int)), (8, .int .i64 v8), (11, .agg #[.string x1.Digest, .int .i64 x1.Size, .int .i64 x1.Used, .int .i64 x1.Until, .int .i64 x1.Pins])]) (by kernel_rfl) (by kernel_rfl) (fun w hh => ⟨⟨ha1, (at?_some hx1).1, (at?_some hx1).2.1⟩, (hcc1 _ _ (hh.drop 1) 0 _ rfl), (hcc1 _ _ (hh.drop 1) 1 _ rfl), (hcc1 _ _ (hh.drop 1) 2 _ rfl), (hcc1 _ _ (hh.drop 1) 3 _ rfl), (hcc1 _ _ (hh.drop 1) 4 _ rfl)⟩) ?_
      refine RgH.does (DoesH.new (d := 5) (v := fun g => .pointer (some ⟨g, 0, none⟩)) (o := fun g => .cells #[.string ByteArray.empty, .int .i64 0, .int .i64 0, .int .i64 0, .int .i64 0] 47 (0, 0)) (fun g => by kernel_rfl)) ?_
      rintro _ _ _ _ ⟨g1, rfl, rfl, rfl⟩
      refine RgH.does (DoesH.store (k := 0) (g := g1) (off := 0) (v := .agg #[.string x1.Digest, .int .i64 x1.Size, .int .i64 x1.Used, .int .i64 x1.Until, .int .i64 x1.Pins]) (cells' := #[.string x1.Digest, .int .i64 x1.Size, .int .i64 x1.Used, .int .i64 x1.Until, .int .i64 x1.Pins]) (by kernel_rfl) rfl (by kernel_rfl) (by kernel_rfl)) ?_
      rintro _ _ _ _ ⟨rfl, rfl, rfl⟩
      refine RgH.done (by kernel_rfl) ?_
      refine RunH.reg (by kernel_rfl) ?_
      refine RgH.runk 3 [6, 7, 8, 12, 14] (vs := [.string x1.Digest]) (evs := [.load ⟨g1, 0, none⟩ (.string x1.Digest)]) (L' := [(6, .slice Aa0 a0.length ca0), (7, .int .i64 (a0.length : Int)), (8, .int .i64 v8), (12, .slice Av_out3 v_out3.length cv_out3), (14, .string x1.Digest)]) (by kernel_rfl) (by kernel_rfl) (fun w hh => (hh.box 0 rfl rfl)) ?_
      refine RgH.does (DoesH.new (d := 15) (v := fun g => .slice (some ⟨g, 0, none⟩) 1 1) (o := fun g => .cells #[.string x1.Digest] 9 (0, 0)) (fun g => by kernel_rfl)) ?_
      rintro _ _ _ _ ⟨g2, rfl, rfl, rfl⟩
      have ho1 : SlOwn Kd.string 9 H (some ⟨g2, 0, none⟩) 1 ([x1.Digest] : List ByteArray) (some (g2, .cells #[.string x1.Digest] 9 (0, 0))) := SlOwn.lit (xs := ([x1.Digest] : List ByteArray)) (by kernel_rfl) (Nat.le_of_ble_eq_true (by kernel_rfl)) (Kd.Rep.scalars rfl)
      obtain ⟨hn1, heq⟩ := guard?_some heq
      refine RgH.does (DoesH.append (d := 16) (k := 2) (t := 34) (e := 9) (bytes := 16) (kd := Kd.string) (n := v_out3.length) (m := 1) (xs := v_out3) (ys := ([x1.Digest] : List ByteArray)) (A := Av_out3) (B := (some ⟨g2, 0, none⟩)) (c := cv_out3) (cB := 1) (by kernel_rfl) rfl rfl (by kernel_rfl) rfl hov_out3 (fun w hh => ho1.rdb (hh.chin 0 rfl)) (room_le hn1) (by have := room_le hn1; omega)) ?_
      rintro _ _ _ _ ⟨A1, c1, ch1, rfl, rfl, rfl, ho2⟩
      refine RgH.runk 6 [3, 6, 7, 8] (vs := []) (evs := []) (L' := [(3, .slice A1 ((v_out3 ++ ([x1.Digest] : List ByteArray)).length) c1), (6, .slice Aa0 a0.length ca0), (7, .int .i64 (a0.length : Int)), (8, .int .i64 v8)]) (by kernel_rfl) (by kernel_rfl) (fun _ _ => trivial) ?_
      refine RgH.done (by kernel_rfl) ?_
      refine RunH.adm 1 (es' := [.c [1, 1, 0, 1, 0, 0, 1, 1, 1], .l [1, 1, 0, 1, 0, 0], .b 0, .c [1, 1, 1]]) (by kernel_rfl) ?_
      refine RunH.reg (by kernel_rfl) ?_
      refine RgH.runk 2 [3, 6, 7, 8] (vs := []) (evs := []) (L' := [(3, .slice A1 ((v_out3 ++ ([x1.Digest] : List ByteArray)).length) c1), (6, .slice Aa0 a0.length ca0), (7, .int .i64 (a0.length : Int)), (8, .int .i64 (w64 (v8 + 1)))]) (by kernel_rfl) (by kernel_rfl) (fun _ _ => trivial) ?_
      refine RgH.done (by kernel_rfl) ?_
      refine RunH.adm 1 (es' := [.c [1, 1, 0, 1, 0, 0], .l [1, 1, 0, 1, 0, 0], .b 0, .c [1, 1, 1]]) (by kernel_rfl) ?_
      refine RunH.keep [3, 6, 7, 8] (L' := [(3, .slice A1 ((v_out3 ++ ([x1.Digest] : List ByteArray)).length) c1), (6, .slice Aa0 a0.length ca0), (7, .int .i64 (a0.length : Int)), (8, .int .i64 (w64 (v8 + 1)))]) (by kernel_rfl) ?_
      refine RunH.pick 3 [2] (cs' := ch1 :: F) (by kernel_rfl) rfl ?_
      exact ihk a0 _ _ (v_out3 ++ ([x1.Digest] : List ByteArray)) _ _ _ _ (w64 (v8 + 1)) hra0 hca0 ho2 rfl heq
    · replace heq := bif_false hb1 heq
      refine RunH.condF (c := decide (v8 < (a0.length : Int))) (by kernel_rfl) hb1 ?_
      refine RunH.adm 2 (es' := [.c [1, 1, 1, 0], .c [1, 1, 1, 1]]) (by kernel_rfl) ?_
      refine RunH.keep [3] (L' := [(3, .slice Av_out3 v_out3.length cv_out3)]) (by kernel_rfl) ?_
      exact he1 v_out3 _ _ _ _ hov_out3 rfl heq
theorem cache_digestsOf_c {w0 : World} {H : Hp} {F : List Ch} {a0 : List Blob} {Aa0 : Option Addr} {na0 : Nat} {ca0 : Nat} {r : (List ByteArray)} (hra0 : Rw kBlob H F Aa0 a0) (hca0 : na0 ≤ ca0) (hna0 : na0 = a0.length) (heq : cache_digestsOf.f a0 = some r) : CallsH Tryd.prog 71 #[.slice Aa0 na0 ca0] H w0 (F) (S71 F H r) := by
  refine calls_of_runH (F := C71) Tryd.func71 (by kernel_rfl) Tryd.ntmps71 (args := [.slice Aa0 na0 ca0]) (by kernel_rfl) ?_
  subst hna0
  unfold cache_digestsOf.f at heq
  refine RunH.adm 1 (es' := [.c [0], .c [1]]) (by kernel_rfl) ?_
  refine RunH.reg (by kernel_rfl) ?_
  refine RgH.runk 1 [0] (vs := []) (evs := []) (L' := [(0, .slice Aa0 a0.length ca0)]) (by kernel_rfl) (by kernel_rfl) (fun _ _ => trivial) ?_
  refine RgH.done (by kernel_rfl) ?_
  refine RunH.adm 1 (es' := [.c [1, 0], .c [1, 1]]) (by kernel_rfl) ?_
  refine RunH.reg (by kernel_rfl) ?_
  refine RgH.runk 1 [0, 3] (vs := []) (evs := []) (L' := [(0, .slice Aa0 a0.length ca0), (3, .slice none 0 0)]) (by kernel_rfl) (by kernel_rfl) (fun _ _ => trivial) ?_
  refine RgH.done (by kernel_rfl) ?_
  refine RunH.adm 2 (es' := [.c [1, 1, 0, 0], .c [1, 1, 0, 1], .c [1, 1, 1]]) (by kernel_rfl) ?_
  refine RunH.reg (by kernel_rfl) ?_
  refine RgH.runk 3 [3, 6, 7, 8] (vs := []) (evs := []) (L' := [(3, .slice none 0 0), (6, .slice Aa0 a0.length ca0), (7, .int .i64 (a0.length : Int)), (8, .int .i64 0)]) (by kernel_rfl) (by kernel_rfl) (fun _ _ => trivial) ?_
  refine RgH.done (by kernel_rfl) ?_
  refine RunH.adm 2 (es' := [.c [1, 1, 0, 1, 0, 0], .l [1, 1, 0, 1, 0, 0], .b 0, .c [1, 1, 1]]) (by kernel_rfl) ?_
  refine RunH.nilc ?_
  have ho3 : SlOwn Kd.string 9 H none 0 ([] : List ByteArray) none := SlOwn.nil
  refine RunH.keep [3, 6, 7, 8] (L' := [(3, .slice none 0 0), (6, .slice Aa0 a0.length ca0), (7, .int .i64 (a0.length : Int)), (8, .int .i64 0)]) (by kernel_rfl) ?_
  exact ((cache_digestsOf.l2_c (e1 := cache_digestsOf.e1) (cache_digestsOf.e1_c)) big) a0 _ _ ([] : List ByteArray) _ _ _ _ 0 hra0 hca0 ho3 rfl heq
noncomputable def C110 : Ctx := { P := Tryd.prog, f := 110, N := 8, c := bodyOf Tryd.f110 }
def S110 (F : List Ch) (H0 : Hp) (r : Bool) (v : Value) (H : Hp) (cs : List Ch) : Prop := H0 = H ∧ v = .bool r ∧ F = cs
theorem cache_drop_1_c {w0 : World} {H : Hp} {F : List Ch} {a0 : Blob} {ga1 : Nat} {a1 : List (ByteArray × Bool)} {Aa1_0 : Option Nat} {r : Bool} (hra1_0 : Mw Value.string Kd.bool false H F Aa1_0 a1) (hga1 : InG H F ga1 (.cells #[.map Aa1_0] 101 (0, 0))) (heq : cache_drop_1.f a0 a1 = some r) : CallsH Tryd.prog 110 #[.agg #[.string a0.Digest, .int .i64 a0.Size, .int .i64 a0.Used, .int .i64 a0.Until, .int .i64 a0.Pins], .pointer (some ⟨ga1, 0, none⟩)] H w0 (F) (S110 F H r) := by
  refine calls_of_runH (F := C110) Tryd.func110 (by kernel_rfl) Tryd.ntmps110 (args := [.agg #[.string a0.Digest, .int .i64 a0.Size, .int .i64 a0.Used, .int .i64 a0.Until, .int .i64 a0.Pins], .pointer (some ⟨ga1, 0, none⟩)]) (by kernel_rfl) ?_
  unfold cache_drop_1.f at heq
  refine RunH.adm 1 (es' := [.c [0], .c [1]]) (by kernel_rfl) ?_
  refine RunH.reg (by kernel_rfl) ?_
  refine RgH.does (DoesH.new (d := 2) (v := fun g => .pointer (some ⟨g, 0, none⟩)) (o := fun g => .cells #[.string a0.Digest, .int .i64 a0.Size, .int .i64 a0.Used, .int .i64 a0.Until, .int .i64 a0.Pins] 47 (0, 0)) (fun g => by kernel_rfl)) ?_
  rintro _ _ _ _ ⟨g1, rfl, rfl, rfl⟩
  refine RgH.runk 2 [1, 2] (vs := []) (evs := []) (L' := [(1, .pointer (some ⟨ga1, 0, none⟩)), (2, .pointer (some ⟨g1, 0, none⟩))]) (by kernel_rfl) (by kernel_rfl) (fun _ _ => trivial) ?_
  refine RgH.done (by kernel_rfl) ?_
  refine RunH.adm 1 (es' := [.c [1, 0], .c [1, 1]]) (by kernel_rfl) ?_
  refine RunH.reg (by kernel_rfl) ?_
  refine RgH.runk 3 [4, 6] (vs := [.map Aa1_0, .string a0.Digest]) (evs := [.load ⟨ga1, 0, none⟩ (.map Aa1_0), .load ⟨g1, 0, none⟩ (.string a0.Digest)]) (L' := [(4, .map Aa1_0), (6, .string a0.Digest)]) (by kernel_rfl) (by kernel_rfl) (fun w hh => ⟨(hga1.cell (hh.drop 1) rfl), (hh.box 0 rfl rfl)⟩) ?_
  refine RgH.does (DoesH.lookup (d := 7) (t := 101) (m := a1) (k := a0.Digest) (z := .bool false) (zc := [.bool false]) (z0 := false) (ok := false) (kd := Kd.bool) (ag := false) (by kernel_rfl) (KyAt.string Tryd.underlying9) rfl rfl (fun w hh => hra1_0.on (hh.drop 1))) ?_
  rintro _ _ _ _ ⟨cc1, rfl, rfl, rfl, hcc1⟩
  obtain rfl : cc1 = [.bool (mgetD a1 a0.Digest false)] := hcc1
  refine RgH.val1 (v' := .bool (mgetD a1 a0.Digest false)) rfl ?_
  refine RgH.runk 5 [3] (vs := []) (evs := []) (L' := [(3, .bool (mgetD a1 a0.Digest false))]) (by kernel_rfl) (by kernel_rfl) (fun _ _ => trivial) ?_
  refine RgH.done (by kernel_rfl) ?_
  obtain rfl := Option.some.inj heq
  refine RunH.pick 1 [] (cs' := F) (by kernel_rfl) rfl ?_
  exact RunH.done (by kernel_rfl) Tryd.func110 (v := .bool (mgetD a1 a0.Digest false)) (by kernel_rfl) ⟨rfl, rfl, rfl⟩
noncomputable def C109v2 : Ctx := { P := Tryd.prog, f := 109, N := 19, c := bodyOf Tryd.f109 }
def S109v2 (F : List Ch) (H0 : Hp) (r : Int) (v : Value) (H : Hp) (cs : List Ch) : Prop := H0 = H ∧ v = .int .i64 r ∧ F = cs
theorem slices_IndexFunc_Blob_2.e1_c {w0 : World} {H : Hp} {F : List Ch} {r : Int} : slices_IndexFunc_Blob_2.e1 = some r → RunH C109v2 (S109v2 F H r) H w0 [.c [1, 1, 0], .c [1, 1, 1]] [] H (F) := by
  intro   heq
  unfold slices_IndexFunc_Blob_2.e1 at heq
  refine RunH.reg (by kernel_rfl) ?_
  refine RgH.runk 1 [4] (vs := []) (evs := []) (L' := [(4, .int .i64 (-1))]) (by kernel_rfl) (by kernel_rfl) (fun _ _ => trivial) ?_
  refine RgH.done (by kernel_rfl) ?_
  obtain rfl := Option.some.inj heq
  exact RunH.done (by kernel_rfl) Tryd.func109 (v := .int .i64 (-1)) (by kernel_rfl) ⟨rfl, rfl, rfl⟩
theorem slices_IndexFunc_Blob_2.l2_c {w0 : World} {H : Hp} {F : List Ch} {r : Int} (e1 : Option Int)
    (he1 : e1 = some r → RunH C109v2 (S109v2 F H r) H w0 [.c [1, 1, 0], .c [1, 1, 1]] [] H (F)) : ∀ (k : Nat), ∀ (a0 : List Blob) (Aa0 : Option Addr) (ca0 : Nat) (ga1q0 : Nat) (a1q0 : List (ByteArray × Bool)) (Aa1q0_0 : Option Nat) (v8 : Int) , Rw kBlob H F Aa0 a0 → a0.length ≤ ca0 → Mw Value.string Kd.bool false H F Aa1q0_0 a1q0 → InG H F ga1q0 (.cells #[.map Aa1q0_0] 101 (0, 0)) → slices_IndexFunc_Blob_2.l2 e1 k a0 a1q0 v8 = some r → RunH C109v2 (S109v2 F H r) H w0 [.c [1, 0, 1, 0, 0], .l [1, 0, 1, 0, 0], .b 0, .c [1, 1]] [(0, .slice Aa0 a0.length ca0), (1, .func (.func 110) #[] #[.pointer (some ⟨ga1q0, 0, none⟩)]), (7, .int .i64 (a0.length : Int)), (8, .int .i64 v8)] H (F) := by
  intro k
  induction k with
  | zero => intro a0 Aa0 ca0 ga1q0 a1q0 Aa1q0_0 v8 hra0 hca0 hra1q0_0 hga1q0 heq; exact nomatch (show (none : Option Int) = some r from heq)
  | succ k ihk =>
    intro a0 Aa0 ca0 ga1q0 a1q0 Aa1q0_0 v8 hra0 hca0 hra1q0_0 hga1q0 heq
    rw [slices_IndexFunc_Blob_2.l2] at heq
    refine RunH.adm 1 (es' := [.c [1, 0, 1, 0, 0, 0], .c [1, 0, 1, 0, 0, 1], .l [1, 0, 1, 0, 0], .b 0, .c [1, 1]]) (by kernel_rfl) ?_
    refine RunH.reg (by kernel_rfl) ?_
    refine RgH.runk 1 [0, 1, 7, 8, 9] (vs := []) (evs := []) (L' := [(0, .slice Aa0 a0.length ca0), (1, .func (.func 110) #[] #[.pointer (some ⟨ga1q0, 0, none⟩)]), (7, .int .i64 (a0.length : Int)), (8, .int .i64 v8), (9, .bool (decide (v8 < (a0.length : Int))))]) (by kernel_rfl) (by kernel_rfl) (fun _ _ => trivial) ?_
    refine RgH.done (by kernel_rfl) ?_
    refine RunH.adm 1 (es' := [.c [1, 0, 1, 0, 0, 1, 0], .c [1, 0, 1, 0, 0, 1, 1], .l [1, 0, 1, 0, 0], .b 0, .c [1, 1]]) (by kernel_rfl) ?_
    rcases bool_cases (decide (v8 < (a0.length : Int))) with hb1 | hb1
    · replace heq := bif_true hb1 heq
      refine RunH.condT (c := decide (v8 < (a0.length : Int))) (by kernel_rfl) hb1 ?_
      refine RunH.adm 4 (es' := [.c [1, 0, 1, 0, 0, 1, 1, 0, 0, 0], .c [1, 0, 1, 0, 0, 1, 1, 0, 0, 1], .b 1, .c [1, 0, 1, 0, 0, 1, 1, 1], .l [1, 0, 1, 0, 0], .b 0, .c [1, 1]]) (by kernel_rfl) ?_
      refine RunH.reg (by kernel_rfl) ?_
      refine RgH.runk 2 [0, 1, 5, 7, 8] (vs := []) (evs := []) (L' := [(0, .slice Aa0 a0.length ca0), (1, .func (.func 110) #[] #[.pointer (some ⟨ga1q0, 0, none⟩)]), (5, .int .i64 v8), (7, .int .i64 (a0.length : Int)), (8, .int .i64 v8)]) (by kernel_rfl) (by kernel_rfl) (fun _ _ => trivial) ?_
      refine RgH.done (by kernel_rfl) ?_
      refine RunH.adm 1 (es' := [.c [1, 0, 1, 0, 0, 1, 1, 0, 0, 1, 0], .c [1, 0, 1, 0, 0, 1, 1, 0, 0, 1, 1], .b 1, .c [1, 0, 1, 0, 0, 1, 1, 1], .l [1, 0, 1, 0, 0], .b 0, .c [1, 1]]) (by kernel_rfl) ?_
      refine RunH.reg (by kernel_rfl) ?_
      obtain ⟨x1, hx1, heq⟩ := bind_some heq
      obtain ⟨ha1, cs1, hK1, hcc1⟩ := hra0.get hx1
      obtain ⟨rfl⟩ := kBlob_open hK1
      refine RgH.runk 5 [0, 1, 5, 7, 8, 11, 15] (vs := [.string x1.Digest, .int .i64 x1.Size, .int .i64 x1.Used, .int .i64 x1.Until, .int .i64 x1.Pins]) (evs := [.need (Aa0 = some (adr Aa0) ∧ (0 : Int) ≤ v8 ∧ v8 < ((a0.length : Nat) : Int)), .load (((adr Aa0).add (v8.toNat * 5)).add 0) (.string x1.Digest), .load (((adr Aa0).add (v8.toNat * 5)).add 1) (.int .i64 x1.Size), .load (((adr Aa0).add (v8.toNat * 5)).add 2) (.int .i64 x1.Used), .load (((adr Aa0).add (v8.toNat * 5)).add 3) (.int .i64 x1.Until), .load (((adr Aa0).add (v8.toNat * 5)).add 4) (.int .i64 x1.Pins)]) (L' := [(0, .slice Aa0 a0.length ca0), (1, .func (.func 110) #[] #[.pointer (some ⟨ga1q0, 0, none⟩)]), (5, .int .i64 v8), (7, .int .i64 (a0.length : Int)), (8, .int .i64 v8), (11, .func (.func 110) #[] #[.pointer (some ⟨ga1q0, 0, none⟩)]), (15, .agg #[.string x1.Digest, .int .i64 x1.Size, .int .i64 x1.Used, .int .i64 x1.Until, .int .i64 x1.Pins])]) (by kernel_rfl) (by kernel_rfl) (fun w hh => ⟨⟨ha1, (at?_some hx1).1, (at?_some hx1).2.1⟩, (hcc1 _ _ (hh.drop 0) 0 _ rfl), (hcc1 _ _ (hh.drop 0) 1 _ rfl), (hcc1 _ _ (hh.drop 0) 2 _ rfl), (hcc1 _ _ (hh.drop 0) 3 _ rfl), (hcc1 _ _ (hh.drop 0) 4 _ rfl)⟩) ?_
      obtain ⟨y1, hy1, heq⟩ := bind_some heq
      refine RgH.does (DoesH.call (d := 16) (g := 110) (args := #[.agg #[.string x1.Digest, .int .i64 x1.Size, .int .i64 x1.Used, .int .i64 x1.Until, .int .i64 x1.Pins], .pointer (some ⟨ga1q0, 0, none⟩)]) (by kernel_rfl) (cache_drop_1_c (a0 := x1) (a1 := a1q0) hra1q0_0 hga1q0 hy1)) ?_
      rintro _ _ _ _ ⟨_, rfl, rfl, rfl, rfl⟩
      refine RgH.done (by kernel_rfl) ?_
      rcases bool_cases (y1) with hb2 | hb2
      · replace heq := bif_true hb2 heq
        refine RunH.condT (c := y1) (by kernel_rfl) hb2 ?_
        refine RunH.adm 1 (es' := [.c [1, 0, 1, 0, 0, 1, 1, 0, 0, 1, 1, 0, 0], .c [1, 0, 1, 0, 0, 1, 1, 0, 0, 1, 1, 0, 1], .b 1, .c [1, 0, 1, 0, 0, 1, 1, 1], .l [1, 0, 1, 0, 0], .b 0, .c [1, 1]]) (by kernel_rfl) ?_
        refine RunH.reg (by kernel_rfl) ?_
        refine RgH.runk 2 [4] (vs := []) (evs := []) (L' := [(4, .int .i64 v8)]) (by kernel_rfl) (by kernel_rfl) (fun _ _ => trivial) ?_
        refine RgH.done (by kernel_rfl) ?_
        obtain rfl := Option.some.inj heq
        exact RunH.done (by kernel_rfl) Tryd.func109 (v := .int .i64 v8) (by kernel_rfl) ⟨rfl, rfl, rfl⟩
      · replace heq := bif_false hb2 heq
        refine RunH.condF (c := y1) (by kernel_rfl) hb2 ?_
        refine RunH.adm 2 (es' := [.c [1, 0, 1, 0, 0, 1, 1, 1], .l [1, 0, 1, 0, 0], .b 0, .c [1, 1]]) (by kernel_rfl) ?_
        refine RunH.reg (by kernel_rfl) ?_
        refine RgH.runk 2 [0, 1, 7, 8] (vs := []) (evs := []) (L' := [(0, .slice Aa0 a0.length ca0), (1, .func (.func 110) #[] #[.pointer (some ⟨ga1q0, 0, none⟩)]), (7, .int .i64 (a0.length : Int)), (8, .int .i64 (w64 (v8 + 1)))]) (by kernel_rfl) (by kernel_rfl) (fun _ _ => trivial) ?_
        refine RgH.done (by kernel_rfl) ?_
        refine RunH.adm 1 (es' := [.c [1, 0, 1, 0, 0], .l [1, 0, 1, 0, 0], .b 0, .c [1, 1]]) (by kernel_rfl) ?_
        refine RunH.keep [0, 1, 7, 8] (L' := [(0, .slice Aa0 a0.length ca0), (1, .func (.func 110) #[] #[.pointer (some ⟨ga1q0, 0, none⟩)]), (7, .int .i64 (a0.length : Int)), (8, .int .i64 (w64 (v8 + 1)))]) (by kernel_rfl) ?_
        exact ihk a0 _ _ _ a1q0 _ (w64 (v8 + 1)) hra0 hca0 hra1q0_0 hga1q0 heq
    · replace heq := bif_false hb1 heq
      refine RunH.condF (c := decide (v8 < (a0.length : Int))) (by kernel_rfl) hb1 ?_
      refine RunH.adm 2 (es' := [.c [1, 1, 0], .c [1, 1, 1]]) (by kernel_rfl) ?_
      refine RunH.keep [] (L' := []) (by kernel_rfl) ?_
      exact he1 heq
theorem slices_IndexFunc_Blob_2_c {w0 : World} {H : Hp} {F : List Ch} {a0 : List Blob} {Aa0 : Option Addr} {na0 : Nat} {ca0 : Nat} {ga1q0 : Nat} {a1q0 : List (ByteArray × Bool)} {Aa1q0_0 : Option Nat} {r : Int} (hra0 : Rw kBlob H F Aa0 a0) (hca0 : na0 ≤ ca0) (hna0 : na0 = a0.length) (hra1q0_0 : Mw Value.string Kd.bool false H F Aa1q0_0 a1q0) (hga1q0 : InG H F ga1q0 (.cells #[.map Aa1q0_0] 101 (0, 0))) (heq : slices_IndexFunc_Blob_2.f a0 a1q0 = some r) : CallsH Tryd.prog 109 #[.slice Aa0 na0 ca0, .func (.func 110) #[] #[.pointer (some ⟨ga1q0, 0, none⟩)]] H w0 (F) (S109v2 F H r) := by
  refine calls_of_runH (F := C109v2) Tryd.func109 (by kernel_rfl) Tryd.ntmps109 (args := [.slice Aa0 na0 ca0, .func (.func 110) #[] #[.pointer (some ⟨ga1q0, 0, none⟩)]]) (by kernel_rfl) ?_
  subst hna0
  unfold slices_IndexFunc_Blob_2.f at heq
  refine RunH.adm 1 (es' := [.c [0], .c [1]]) (by kernel_rfl) ?_
  refine RunH.reg (by kernel_rfl) ?_
  refine RgH.runk 1 [0, 1] (vs := []) (evs := []) (L' := [(0, .slice Aa0 a0.length ca0), (1, .func (.func 110) #[] #[.pointer (some ⟨ga1q0, 0, none⟩)])]) (by kernel_rfl) (by kernel_rfl) (fun _ _ => trivial) ?_
  refine RgH.done (by kernel_rfl) ?_
  refine RunH.adm 2 (es' := [.c [1, 0, 0], .c [1, 0, 1], .c [1, 1]]) (by kernel_rfl) ?_
  refine RunH.reg (by kernel_rfl) ?_
  refine RgH.runk 3 [0, 1, 7, 8] (vs := []) (evs := []) (L' := [(0, .slice Aa0 a0.length ca0), (1, .func (.func 110) #[] #[.pointer (some ⟨ga1q0, 0, none⟩)]), (7, .int .i64 (a0.length : Int)), (8, .int .i64 0)]) (by kernel_rfl) (by kernel_rfl) (fun _ _ => trivial) ?_
  refine RgH.done (by kernel_rfl) ?_
  refine RunH.adm 2 (es' := [.c [1, 0, 1, 0, 0], .l [1, 0, 1, 0, 0], .b 0, .c [1, 1]]) (by kernel_rfl) ?_
  refine RunH.keep [0, 1, 7, 8] (L' := [(0, .slice Aa0 a0.length ca0), (1, .func (.func 110) #[] #[.pointer (some ⟨ga1q0, 0, none⟩)]), (7, .int .i64 (a0.length : Int)), (8, .int .i64 0)]) (by kernel_rfl) ?_
  exact ((slices_IndexFunc_Blob_2.l2_c (e1 := slices_IndexFunc_Blob_2.e1) (slices_IndexFunc_Blob_2.e1_c)) big) a0 _ _ _ a1q0 _ 0 hra0 hca0 hra1q0_0 hga1q0 heq
noncomputable def C72v2 : Ctx := { P := Tryd.prog, f := 72, N := 42, c := bodyOf Tryd.f72 }
def S72v2 (F : List Ch) (H0 : Hp) (r : (List Blob)) (v : Value) (H : Hp) (cs : List Ch) : Prop := ∃ (A0 : Option Addr) (c0 : Nat) (ch0 : Ch), H0 = H ∧ v = .slice A0 r.length c0 ∧ ch0 :: F = cs ∧ SlOwn kBlob 47 H A0 c0 r ch0
theorem slices_DeleteFunc_Blob_2.e1_c {w0 : World} {H : Hp} {F : List Ch} {r : (List Blob)} : ∀ (v_s0 : List Blob) (Av_s0 : Option Addr) (nv_s0 : Nat) (cv_s0 : Nat) (chv_s0 : Ch) (v_i5 : Int) , SlOwn kBlob 47 H Av_s0 cv_s0 v_s0 chv_s0 → nv_s0 = v_s0.length → slices_DeleteFunc_Blob_2.e1 v_s0 v_i5 = some r → RunH C72v2 (S72v2 F H r) H w0 [.c [1, 1, 1, 1, 0], .c [1, 1, 1, 1, 1]] [(0, .slice Av_s0 nv_s0 cv_s0), (5, .int .i64 v_i5)] H (chv_s0 :: F) := by
  intro v_s0 Av_s0 nv_s0 cv_s0 chv_s0 v_i5 hov_s0 hnv_s0 heq
  subst hnv_s0
  unfold slices_DeleteFunc_Blob_2.e1 at heq
  refine RunH.reg (by kernel_rfl) ?_
  obtain ⟨hn2, heq⟩ := guard?_some heq
  have hn1 : v_s0.length - v_i5.toNat = (v_s0.drop v_i5.toNat).length := by have h1 := both_of hn2; have h3 := trivial; (try simp); (try omega)
  have ho1 := hov_s0.drop v_i5.toNat (by have h2 := hov_s0.cap; have h3 := trivial; have h1 := both_of hn2; omega)
  refine RgH.runk 3 [0, 5, 38] (vs := []) (evs := [.need ((0 : Int) ≤ v_i5 ∧ v_i5 ≤ ((v_s0.length : Nat) : Int))]) (L' := [(0, .slice Av_s0 v_s0.length cv_s0), (5, .int .i64 v_i5), (38, .slice (shiftA cv_s0 v_i5.toNat 5 Av_s0) (v_s0.length - v_i5.toNat) (cv_s0 - v_i5.toNat))]) (by kernel_rfl) (by kernel_rfl) (fun w hh => (both_of hn2)) ?_
  refine RgH.does (DoesH.clear (k := 0) (j := v_i5.toNat) (n := v_s0.length - v_i5.toNat) (t := 22) (e := 47) (bytes := 48) (kd := kBlob) (A := Av_s0) (A2 := (shiftA cv_s0 v_i5.toNat 5 Av_s0)) (c := cv_s0) (c2 := (cv_s0 - v_i5.toNat)) (xs := v_s0) (z := (⟨ByteArray.empty, 0, 0, 0, 0⟩ : Blob)) (zc := #[.string ByteArray.empty, .int .i64 0, .int .i64 0, .int .i64 0, .int .i64 0]) (by kernel_rfl) (by have h3 := trivial; omega) (by kernel_rfl) (by kernel_rfl) kBlob_mk (by kernel_rfl) rfl hov_s0 (by have h1 := both_of hn2; have h3 := trivial; omega) (fun h b off hA => shiftA_at h hov_s0.cap hA)) ?_
  rintro _ _ _ _ ⟨ch1, rfl, rfl, rfl, ho2⟩
  have hn3 : v_s0.length = (v_s0.take v_i5.toNat ++ List.replicate (v_s0.length - v_i5.toNat) (⟨ByteArray.empty, 0, 0, 0, 0⟩ : Blob)).length := by have h1 := both_of hn2; have h3 := trivial; simp; omega
  refine RgH.done (by kernel_rfl) ?_
  refine RunH.adm 1 (es' := [.c [1, 1, 1, 1, 1, 0], .c [1, 1, 1, 1, 1, 1]]) (by kernel_rfl) ?_
  refine RunH.reg (by kernel_rfl) ?_
  obtain ⟨hn5, heq⟩ := guard?_some heq
  have hn4 : v_i5.toNat = ((v_s0.take v_i5.toNat ++ List.replicate (v_s0.length - v_i5.toNat) (⟨ByteArray.empty, 0, 0, 0, 0⟩ : Blob)).take v_i5.toNat).length := by have h1 := both_of hn5; have h3 := hn3; (try simp); (try omega)
  have ho3 := ho2.take v_i5.toNat
  refine RgH.runk 4 [4] (vs := []) (evs := [.need ((0 : Int) ≤ v_i5 ∧ v_i5 ≤ ((cv_s0 : Nat) : Int))]) (L' := [(4, .slice Av_s0 v_i5.toNat cv_s0)]) (by kernel_rfl) (by kernel_rfl) (fun w hh => ⟨(both_of hn5).1, (by have h1 := (both_of hn5).2; have h2 := (show v_s0.length ≤ cv_s0 from by have := ho2.cap; have := hn3; omega); have h3 := hn3; omega)⟩) ?_
  refine RgH.done (by kernel_rfl) ?_
  obtain rfl := Option.some.inj heq
  exact RunH.done (by kernel_rfl) Tryd.func72 (v := .slice Av_s0 v_i5.toNat cv_s0) (by kernel_rfl) ⟨Av_s0, cv_s0, ch1, rfl, (by first | rfl | exact congrArg (fun q => Value.slice _ q _) hn4 | (rw [hn4]) | (simp only [← hn4])), rfl, ho3⟩
theorem slices_DeleteFunc_Blob_2.j3_c {w0 : World} {H : Hp} {F : List Ch} {r : (List Blob)} (backl2 : (List (ByteArray × Bool)) → (List Blob) → Int → Int → Option (List Blob))
    (hbackl2 : ∀ (ga1q0 : Nat) (a1q0 : List (ByteArray × Bool)) (Aa1q0_0 : Option Nat) (v_s0 : List Blob) (Av_s0 : Option Addr) (nv_s0 : Nat) (cv_s0 : Nat) (chv_s0 : Ch) (v_i5 : Int) (v_j6 : Int) , Mw Value.string Kd.bool false H F Aa1q0_0 a1q0 → InG H F ga1q0 (.cells #[.map Aa1q0_0] 101 (0, 0)) → SlOwn kBlob 47 H Av_s0 cv_s0 v_s0 chv_s0 → nv_s0 = v_s0.length → backl2 a1q0 v_s0 v_i5 v_j6 = some r → RunH C72v2 (S72v2 F H r) H w0 [.c [1, 1, 1, 0, 1, 0, 0], .l [1, 1, 1, 0, 1, 0, 0], .b 0, .c [1, 1, 1, 1]] [(0, .slice Av_s0 nv_s0 cv_s0), (1, .func (.func 110) #[] #[.pointer (some ⟨ga1q0, 0, none⟩)]), (5, .int .i64 v_i5), (6, .int .i64 v_j6)] H (chv_s0 :: F)) : ∀ (ga1q0 : Nat) (a1q0 : List (ByteArray × Bool)) (Aa1q0_0 : Option Nat) (v_j6 : Int) (v_s0 : List Blob) (Av_s0 : Option Addr) (nv_s0 : Nat) (cv_s0 : Nat) (chv_s0 : Ch) (v_i5 : Int) , Mw Value.string Kd.bool false H F Aa1q0_0 a1q0 → InG H F ga1q0 (.cells #[.map Aa1q0_0] 101 (0, 0)) → SlOwn kBlob 47 H Av_s0 cv_s0 v_s0 chv_s0 → nv_s0 = v_s0.length → slices_DeleteFunc_Blob_2.j3 backl2 a1q0 v_j6 v_s0 v_i5 = some r → RunH C72v2 (S72v2 F H r) H w0 [.c [1, 1, 1, 0, 1, 0, 0, 1, 1], .l [1, 1, 1, 0, 1, 0, 0], .b 0, .c [1, 1, 1, 1]] [(0, .slice Av_s0 nv_s0 cv_s0), (1, .func (.func 110) #[] #[.pointer (some ⟨ga1q0, 0, none⟩)]), (5, .int .i64 v_i5), (6, .int .i64 v_j6)] H (chv_s0 :: F) := by
  intro ga1q0 a1q0 Aa1q0_0 v_j6 v_s0 Av_s0 nv_s0 cv_s0 chv_s0 v_i5 hra1q0_0 hga1q0 hov_s0 hnv_s0 heq
  subst hnv_s0
  unfold slices_DeleteFunc_Blob_2.j3 at heq
  refine RunH.reg (by kernel_rfl) ?_
  refine RgH.runk 3 [0, 1, 5, 6] (vs := []) (evs := []) (L' := [(0, .slice Av_s0 v_s0.length cv_s0), (1, .func (.func 110) #[] #[.pointer (some ⟨ga1q0, 0, none⟩)]), (5, .int .i64 v_i5), (6, .int .i64 (w64 (v_j6 + 1)))]) (by kernel_rfl) (by kernel_rfl) (fun _ _ => trivial) ?_
  refine RgH.done (by kernel_rfl) ?_
  refine RunH.adm 1 (es' := [.c [1, 1, 1, 0, 1, 0, 0], .l [1, 1, 1, 0, 1, 0, 0], .b 0, .c [1, 1, 1, 1]]) (by kernel_rfl) ?_
  refine RunH.keep [0, 1, 5, 6] (L' := [(0, .slice Av_s0 v_s0.length cv_s0), (1, .func (.func 110) #[] #[.pointer (some ⟨ga1q0, 0, none⟩)]), (5, .int .i64 v_i5), (6, .int .i64 (w64 (v_j6 + 1)))]) (by kernel_rfl) ?_
  exact hbackl2 _ a1q0 _ v_s0 _ _ _ _ v_i5 (w64 (v_j6 + 1)) hra1q0_0 hga1q0 hov_s0 rfl heq
theorem slices_DeleteFunc_Blob_2.l2_c {w0 : World} {H : Hp} {F : List Ch} {r : (List Blob)} (e1 : (List Blob) → Int → Option (List Blob))
    (he1 : ∀ (v_s0 : List Blob) (Av_s0 : Option Addr) (nv_s0 : Nat) (cv_s0 : Nat) (chv_s0 : Ch) (v_i5 : Int) , SlOwn kBlob 47 H Av_s0 cv_s0 v_s0 chv_s0 → nv_s0 = v_s0.length → e1 v_s0 v_i5 = some r → RunH C72v2 (S72v2 F H r) H w0 [.c [1, 1, 1, 1, 0], .c [1, 1, 1, 1, 1]] [(0, .slice Av_s0 nv_s0 cv_s0), (5, .int .i64 v_i5)] H (chv_s0 :: F)) : ∀ (k : Nat), ∀ (ga1q0 : Nat) (a1q0 : List (ByteArray × Bool)) (Aa1q0_0 : Option Nat) (v_s0 : List Blob) (Av_s0 : Option Addr) (nv_s0 : Nat) (cv_s0 : Nat) (chv_s0 : Ch) (v_i5 : Int) (v_j6 : Int) , Mw Value.string Kd.bool false H F Aa1q0_0 a1q0 → InG H F ga1q0 (.cells #[.map Aa1q0_0] 101 (0, 0)) → SlOwn kBlob 47 H Av_s0 cv_s0 v_s0 chv_s0 → nv_s0 = v_s0.length → slices_DeleteFunc_Blob_2.l2 e1 k a1q0 v_s0 v_i5 v_j6 = some r → RunH C72v2 (S72v2 F H r) H w0 [.c [1, 1, 1, 0, 1, 0, 0], .l [1, 1, 1, 0, 1, 0, 0], .b 0, .c [1, 1, 1, 1]] [(0, .slice Av_s0 nv_s0 cv_s0), (1, .func (.func 110) #[] #[.pointer (some ⟨ga1q0, 0, none⟩)]), (5, .int .i64 v_i5), (6, .int .i64 v_j6)] H (chv_s0 :: F) := by
  intro k
  induction k with
  | zero => intro ga1q0 a1q0 Aa1q0_0 v_s0 Av_s0 nv_s0 cv_s0 chv_s0 v_i5 v_j6 hra1q0_0 hga1q0 hov_s0 hnv_s0 heq; exact nomatch (show (none : Option (List Blob)) = some r from heq)
  | succ k ihk =>
    intro ga1q0 a1q0 Aa1q0_0 v_s0 Av_s0 nv_s0 cv_s0 chv_s0 v_i5 v_j6 hra1q0_0 hga1q0 hov_s0 hnv_s0 heq
    subst hnv_s0
    rw [slices_DeleteFunc_Blob_2.l2] at heq
    refine RunH.adm 2 (es' := [.c [1, 1, 1, 0, 1, 0, 0, 0, 0], .c [1, 1, 1, 0, 1, 0, 0, 0, 1], .c [1, 1, 1, 0, 1, 0, 0, 1], .l [1, 1, 1, 0, 1, 0, 0], .b 0, .c [1, 1, 1, 1]]) (by kernel_rfl) ?_
    refine RunH.reg (by kernel_rfl) ?_
    refine RgH.runk 4 [0, 1, 5, 6, 19] (vs := []) (evs := []) (L' := [(0, .slice Av_s0 v_s0.length cv_s0), (1, .func (.func 110) #[] #[.pointer (some ⟨ga1q0, 0, none⟩)]), (5, .int .i64 v_i5), (6, .int .i64 v_j6), (19, .bool (decide (v_j6 < (v_s0.length : Int))))]) (by kernel_rfl) (by kernel_rfl) (fun _ _ => trivial) ?_
    refine RgH.done (by kernel_rfl) ?_
    rcases bool_cases (decide (v_j6 < (v_s0.length : Int))) with hb2 | hb2
    · replace heq := bif_true hb2 heq
      refine RunH.condT (c := decide (v_j6 < (v_s0.length : Int))) (by kernel_rfl) hb2 ?_
      refine RunH.adm 4 (es' := [.c [1, 1, 1, 0, 1, 0, 0, 1, 0, 0, 0], .c [1, 1, 1, 0, 1, 0, 0, 1, 0, 0, 1], .b 1, .c [1, 1, 1, 0, 1, 0, 0, 1, 1], .l [1, 1, 1, 0, 1, 0, 0], .b 0, .c [1, 1, 1, 1]]) (by kernel_rfl) ?_
      refine RunH.reg (by kernel_rfl) ?_
      obtain ⟨x1, hx1, heq⟩ := bind_some heq
      obtain ⟨ha1, cs1, hK1, hcc1⟩ := hov_s0.get hx1
      obtain ⟨rfl⟩ := kBlob_open hK1
      refine RgH.runk 4 [0, 1, 5, 6, 25] (vs := [.string x1.Digest, .int .i64 x1.Size, .int .i64 x1.Used, .int .i64 x1.Until, .int .i64 x1.Pins]) (evs := [.need (Av_s0 = some (adr Av_s0) ∧ (0 : Int) ≤ v_j6 ∧ v_j6 < ((v_s0.length : Nat) : Int)), .load (((adr Av_s0).add (v_j6.toNat * 5)).add 0) (.string x1.Digest), .load (((adr Av_s0).add (v_j6.toNat * 5)).add 1) (.int .i64 x1.Size), .load (((adr Av_s0).add (v_j6.toNat * 5)).add 2) (.int .i64 x1.Used), .load (((adr Av_s0).add (v_j6.toNat * 5)).add 3) (.int .i64 x1.Until), .load (((adr Av_s0).add (v_j6.toNat * 5)).add 4) (.int .i64 x1.Pins)]) (L' := [(0, .slice Av_s0 v_s0.length cv_s0), (1, .func (.func 110) #[] #[.pointer (some ⟨ga1q0, 0, none⟩)]), (5, .int .i64 v_i5), (6, .int .i64 v_j6), (25, .agg #[.string x1.Digest, .int .i64 x1.Size, .int .i64 x1.Used, .int .i64 x1.Until, .int .i64 x1.Pins])]) (by kernel_rfl) (by kernel_rfl) (fun w hh => ⟨⟨ha1, (at?_some hx1).1, (at?_some hx1).2.1⟩, (hcc1 _ (hh.chin 0 rfl) 0 _ rfl), (hcc1 _ (hh.chin 0 rfl) 1 _ rfl), (hcc1 _ (hh.chin 0 rfl) 2 _ rfl), (hcc1 _ (hh.chin 0 rfl) 3 _ rfl), (hcc1 _ (hh.chin 0 rfl) 4 _ rfl)⟩) ?_
      refine RgH.does (DoesH.new (d := 7) (v := fun g => .pointer (some ⟨g, 0, none⟩)) (o := fun g => .cells #[.string ByteArray.empty, .int .i64 0, .int .i64 0, .int .i64 0, .int .i64 0] 47 (0, 0)) (fun g => by kernel_rfl)) ?_
      rintro _ _ _ _ ⟨g1, rfl, rfl, rfl⟩
      refine RgH.does (DoesH.store (k := 0) (g := g1) (off := 0) (v := .agg #[.string x1.Digest, .int .i64 x1.Size, .int .i64 x1.Used, .int .i64 x1.Until, .int .i64 x1.Pins]) (cells' := #[.string x1.Digest, .int .i64 x1.Size, .int .i64 x1.Used, .int .i64 x1.Until, .int .i64 x1.Pins]) (by kernel_rfl) rfl (by kernel_rfl) (by kernel_rfl)) ?_
      rintro _ _ _ _ ⟨rfl, rfl, rfl⟩
      refine RgH.done (by kernel_rfl) ?_
      refine RunH.adm 1 (es' := [.c [1, 1, 1, 0, 1, 0, 0, 1, 0, 0, 1, 0], .c [1, 1, 1, 0, 1, 0, 0, 1, 0, 0, 1, 1], .b 1, .c [1, 1, 1, 0, 1, 0, 0, 1, 1], .l [1, 1, 1, 0, 1, 0, 0], .b 0, .c [1, 1, 1, 1]]) (by kernel_rfl) ?_
      refine RunH.reg (by kernel_rfl) ?_
      refine RgH.runk 2 [0, 1, 5, 6, 7, 26, 27] (vs := [.string x1.Digest, .int .i64 x1.Size, .int .i64 x1.Used, .int .i64 x1.Until, .int .i64 x1.Pins]) (evs := [.load ⟨g1, 0, none⟩ (.string x1.Digest), .load ⟨g1, 1, none⟩ (.int .i64 x1.Size), .load ⟨g1, 2, none⟩ (.int .i64 x1.Used), .load ⟨g1, 3, none⟩ (.int .i64 x1.Until), .load ⟨g1, 4, none⟩ (.int .i64 x1.Pins)]) (L' := [(0, .slice Av_s0 v_s0.length cv_s0), (1, .func (.func 110) #[] #[.pointer (some ⟨ga1q0, 0, none⟩)]), (5, .int .i64 v_i5), (6, .int .i64 v_j6), (7, .pointer (some ⟨g1, 0, none⟩)), (26, .func (.func 110) #[] #[.pointer (some ⟨ga1q0, 0, none⟩)]), (27, .agg #[.string x1.Digest, .int .i64 x1.Size, .int .i64 x1.Used, .int .i64 x1.Until, .int .i64 x1.Pins])]) (by kernel_rfl) (by kernel_rfl) (fun w hh => ⟨(hh.box 0 rfl rfl), (hh.box 0 rfl rfl), (hh.box 0 rfl rfl), (hh.box 0 rfl rfl), (hh.box 0 rfl rfl)⟩) ?_
      obtain ⟨y2, hy2, heq⟩ := bind_some heq
      refine RgH.does (DoesH.call (d := 28) (g := 110) (args := #[.agg #[.string x1.Digest, .int .i64 x1.Size, .int .i64 x1.Used, .int .i64 x1.Until, .int .i64 x1.Pins], .pointer (some ⟨ga1q0, 0, none⟩)]) (by kernel_rfl) (cache_drop_1_c (a0 := x1) (a1 := a1q0) (hra1q0_0.wk (fun _ h => (.tail _ (.tail _ h)))) (hga1q0.wk (fun _ h => (.tail _ (.tail _ h)))) hy2)) ?_
      rintro _ _ _ _ ⟨_, rfl, rfl, rfl, rfl⟩
      refine RgH.runk 4 [0, 1, 5, 6, 7, 29] (vs := []) (evs := []) (L' := [(0, .slice Av_s0 v_s0.length cv_s0), (1, .func (.func 110) #[] #[.pointer (some ⟨ga1q0, 0, none⟩)]), (5, .int .i64 v_i5), (6, .int .i64 v_j6), (7, .pointer (some ⟨g1, 0, none⟩)), (29, .bool (!y2))]) (by kernel_rfl) (by kernel_rfl) (fun _ _ => trivial) ?_
      refine RgH.done (by kernel_rfl) ?_
      rcases bool_cases (!y2) with hb3 | hb3
      · replace heq := bif_true hb3 heq
        refine RunH.condT (c := !y2) (by kernel_rfl) hb3 ?_
        refine RunH.adm 1 (es' := [.c [1, 1, 1, 0, 1, 0, 0, 1, 0, 0, 1, 1, 0, 0], .c [1, 1, 1, 0, 1, 0, 0, 1, 0, 0, 1, 1, 0, 1], .b 1, .c [1, 1, 1, 0, 1, 0, 0, 1, 1], .l [1, 1, 1, 0, 1, 0, 0], .b 0, .c [1, 1, 1, 1]]) (by kernel_rfl) ?_
        refine RunH.reg (by kernel_rfl) ?_
        obtain ⟨x2, hx2, heq⟩ := bind_some heq
        obtain ⟨ha2, cs2, hK2, hcc2⟩ := hov_s0.get hx2
        obtain ⟨rfl⟩ := kBlob_open hK2
        refine RgH.runk 4 [0, 1, 5, 6, 32, 33] (vs := [.string x1.Digest, .int .i64 x1.Size, .int .i64 x1.Used, .int .i64 x1.Until, .int .i64 x1.Pins]) (evs := [.load ⟨g1, 0, none⟩ (.string x1.Digest), .load ⟨g1, 1, none⟩ (.int .i64 x1.Size), .load ⟨g1, 2, none⟩ (.int .i64 x1.Used), .load ⟨g1, 3, none⟩ (.int .i64 x1.Until), .load ⟨g1, 4, none⟩ (.int .i64 x1.Pins), .need (Av_s0 = some (adr Av_s0) ∧ (0 : Int) ≤ v_i5 ∧ v_i5 < ((v_s0.length : Nat) : Int))]) (L' := [(0, .slice Av_s0 v_s0.length cv_s0), (1, .func (.func 110) #[] #[.pointer (some ⟨ga1q0, 0, none⟩)]), (5, .int .i64 v_i5), (6, .int .i64 v_j6), (32, .agg #[.string x1.Digest, .int .i64 x1.Size, .int .i64 x1.Used, .int .i64 x1.Until, .int .i64 x1.Pins]), (33, .pointer (some ((adr Av_s0).add (v_i5.toNat * 5))))]) (by kernel_rfl) (by kernel_rfl) (fun w hh => ⟨(hh.box 0 rfl rfl), (hh.box 0 rfl rfl), (hh.box 0 rfl rfl), (hh.box 0 rfl rfl), (hh.box 0 rfl rfl), ⟨ha2, (at?_some hx2).1, (at?_some hx2).2.1⟩⟩) ?_
        obtain ⟨ha3, cs3, hK3, hcc3⟩ := hov_s0.get hx2
        obtain ⟨rfl⟩ := kBlob_open hK3
        refine RgH.does (DoesH.storeEl (a := ((adr Av_s0).add (v_i5.toNat * 5))) (k := 1) (kd := kBlob) (c0 := [.string x2.Digest, .int .i64 x2.Size, .int .i64 x2.Used, .int .i64 x2.Until, .int .i64 x2.Pins]) (x' := x1) (o := 0) (ix := v_i5) (v := .agg #[.string x1.Digest, .int .i64 x1.Size, .int .i64 x1.Used, .int .i64 x1.Until, .int .i64 x1.Pins]) (by kernel_rfl) rfl hov_s0 hx2 (by kernel_rfl) hcc3 rfl (Nat.le_of_ble_eq_true (by kernel_rfl)) kBlob_mk) ?_
        rintro _ _ _ _ ⟨ch2, rfl, rfl, rfl, ho4⟩
        have hn6 : v_s0.length = (v_s0.set v_i5.toNat x1).length := by rw [List.length_set]
        refine RgH.done (by kernel_rfl) ?_
        refine RunH.reg (by kernel_rfl) ?_
        refine RgH.runk 3 [0, 1, 5, 6] (vs := []) (evs := []) (L' := [(0, .slice Av_s0 v_s0.length cv_s0), (1, .func (.func 110) #[] #[.pointer (some ⟨ga1q0, 0, none⟩)]), (5, .int .i64 (w64 (v_i5 + 1))), (6, .int .i64 v_j6)]) (by kernel_rfl) (by kernel_rfl) (fun _ _ => trivial) ?_
        refine RgH.done (by kernel_rfl) ?_
        refine RunH.adm 1 (es' := [.c [1, 1, 1, 0, 1, 0, 0, 1, 1], .l [1, 1, 1, 0, 1, 0, 0], .b 0, .c [1, 1, 1, 1]]) (by kernel_rfl) ?_
        refine RunH.keep [0, 1, 5, 6] (L' := [(0, .slice Av_s0 v_s0.length cv_s0), (1, .func (.func 110) #[] #[.pointer (some ⟨ga1q0, 0, none⟩)]), (5, .int .i64 (w64 (v_i5 + 1))), (6, .int .i64 v_j6)]) (by kernel_rfl) ?_
        refine RunH.pick 2 [1] (cs' := ch2 :: F) (by kernel_rfl) rfl ?_
        exact (slices_DeleteFunc_Blob_2.j3_c (backl2 := (slices_DeleteFunc_Blob_2.l2 e1 k)) ihk) _ a1q0 _ v_j6 (v_s0.set v_i5.toNat x1) _ _ _ _ (w64 (v_i5 + 1)) hra1q0_0 hga1q0 ho4 hn6 heq
      · replace heq := bif_false hb3 heq
        refine RunH.condF (c := !y2) (by kernel_rfl) hb3 ?_
        refine RunH.adm 2 (es' := [.c [1, 1, 1, 0, 1, 0, 0, 1, 1], .l [1, 1, 1, 0, 1, 0, 0], .b 0, .c [1, 1, 1, 1]]) (by kernel_rfl) ?_
        refine RunH.keep [0, 1, 5, 6] (L' := [(0, .slice Av_s0 v_s0.length cv_s0), (1, .func (.func 110) #[] #[.pointer (some ⟨ga1q0, 0, none⟩)]), (5, .int .i64 v_i5), (6, .int .i64 v_j6)]) (by kernel_rfl) ?_
        refine RunH.pick 2 [1] (cs' := chv_s0 :: F) (by kernel_rfl) rfl ?_
        exact (slices_DeleteFunc_Blob_2.j3_c (backl2 := (slices_DeleteFunc_Blob_2.l2 e1 k)) ihk) _ a1q0 _ v_j6 v_s0 _ _ _ _ v_i5 hra1q0_0 hga1q0 hov_s0 rfl heq
    · replace heq := bif_false hb2 heq
      refine RunH.condF (c := decide (v_j6 < (v_s0.length : Int))) (by kernel_rfl) hb2 ?_
      refine RunH.adm 2 (es' := [.c [1, 1, 1, 1, 0], .c [1, 1, 1, 1, 1]]) (by kernel_rfl) ?_
      refine RunH.keep [0, 5] (L' := [(0, .slice Av_s0 v_s0.length cv_s0), (5, .int .i64 v_i5)]) (by kernel_rfl) ?_
      exact he1 v_s0 _ _ _ _ v_i5 hov_s0 rfl heq
theorem slices_DeleteFunc_Blob_2_c {w0 : World} {H : Hp} {F : List Ch} {a0 : List Blob} {Aa0 : Option Addr} {na0 : Nat} {ca0 : Nat} {cha0 : Ch} {ga1q0 : Nat} {a1q0 : List (ByteArray × Bool)} {Aa1q0_0 : Option Nat} {r : (List Blob)} (hoa0 : SlOwn kBlob 47 H Aa0 ca0 a0 cha0) (hna0 : na0 = a0.length) (hra1q0_0 : Mw Value.string Kd.bool false H F Aa1q0_0 a1q0) (hga1q0 : InG H F ga1q0 (.cells #[.map Aa1q0_0] 101 (0, 0))) (heq : slices_DeleteFunc_Blob_2.f a0 a1q0 = some r) : CallsH Tryd.prog 72 #[.slice Aa0 na0 ca0, .func (.func 110) #[] #[.pointer (some ⟨ga1q0, 0, none⟩)]] H w0 (cha0 :: F) (S72v2 F H r) := by
  refine calls_of_runH (F := C72v2) Tryd.func72 (by kernel_rfl) Tryd.ntmps72 (args := [.slice Aa0 na0 ca0, .func (.func 110) #[] #[.pointer (some ⟨ga1q0, 0, none⟩)]]) (by kernel_rfl) ?_
  subst hna0
  unfold slices_DeleteFunc_Blob_2.f at heq
  refine RunH.adm 1 (es' := [.c [0], .c [1]]) (by kernel_rfl) ?_
  refine RunH.reg (by kernel_rfl) ?_
  refine RgH.runk 1 [0, 1] (vs := []) (evs := []) (L' := [(0, .slice Aa0 a0.length ca0), (1, .func (.func 110) #[] #[.pointer (some ⟨ga1q0, 0, none⟩)])]) (by kernel_rfl) (by kernel_rfl) (fun _ _ => trivial) ?_
  refine RgH.done (by kernel_rfl) ?_
  refine RunH.adm 1 (es' := [.c [1, 0], .c [1, 1]]) (by kernel_rfl) ?_
  refine RunH.reg (by kernel_rfl) ?_
  refine RgH.runk 2 [0, 1, 8, 9] (vs := []) (evs := []) (L' := [(0, .slice Aa0 a0.length ca0), (1, .func (.func 110) #[] #[.pointer (some ⟨ga1q0, 0, none⟩)]), (8, .slice Aa0 a0.length ca0), (9, .func (.func 110) #[] #[.pointer (some ⟨ga1q0, 0, none⟩)])]) (by kernel_rfl) (by kernel_rfl) (fun _ _ => trivial) ?_
  obtain ⟨y1, hy1, heq⟩ := bind_some heq
  refine RgH.does (DoesH.call (d := 10) (g := 109) (args := #[.slice Aa0 a0.length ca0, .func (.func 110) #[] #[.pointer (some ⟨ga1q0, 0, none⟩)]]) (by kernel_rfl) (slices_IndexFunc_Blob_2_c (a0 := a0) (a1q0 := a1q0) (hoa0.rw (.head _)) hoa0.cap rfl (hra1q0_0.wk (fun _ h => (.tail _ h))) (hga1q0.wk (fun _ h => (.tail _ h))) hy1)) ?_
  rintro _ _ _ _ ⟨_, rfl, rfl, rfl, rfl⟩
  refine RgH.runk 4 [0, 1, 5] (vs := []) (evs := []) (L' := [(0, .slice Aa0 a0.length ca0), (1, .func (.func 110) #[] #[.pointer (some ⟨ga1q0, 0, none⟩)]), (5, .int .i64 y1)]) (by kernel_rfl) (by kernel_rfl) (fun _ _ => trivial) ?_
  refine RgH.done (by kernel_rfl) ?_
  refine RunH.adm 2 (es' := [.c [1, 1, 0, 0], .c [1, 1, 0, 1], .c [1, 1, 1]]) (by kernel_rfl) ?_
  refine RunH.reg (by kernel_rfl) ?_
  refine RgH.runk 2 [0, 1, 5, 12] (vs := []) (evs := []) (L' := [(0, .slice Aa0 a0.length ca0), (1, .func (.func 110) #[] #[.pointer (some ⟨ga1q0, 0, none⟩)]), (5, .int .i64 y1), (12, .bool (y1 == (-1)))]) (by kernel_rfl) (by kernel_rfl) (fun _ _ => trivial) ?_
  refine RgH.done (by kernel_rfl) ?_
  rcases bool_cases (y1 == (-1)) with hb1 | hb1
  · replace heq := bif_true hb1 heq
    refine RunH.condT (c := y1 == (-1)) (by kernel_rfl) hb1 ?_
    refine RunH.adm 1 (es' := [.c [1, 1, 0, 1, 0, 0], .c [1, 1, 0, 1, 0, 1], .c [1, 1, 1]]) (by kernel_rfl) ?_
    refine RunH.reg (by kernel_rfl) ?_
    refine RgH.runk 2 [4] (vs := []) (evs := []) (L' := [(4, .slice Aa0 a0.length ca0)]) (by kernel_rfl) (by kernel_rfl) (fun _ _ => trivial) ?_
    refine RgH.done (by kernel_rfl) ?_
    obtain rfl := Option.some.inj heq
    exact RunH.done (by kernel_rfl) Tryd.func72 (v := .slice Aa0 a0.length ca0) (by kernel_rfl) ⟨Aa0, ca0, cha0, rfl, rfl, rfl, hoa0⟩
  · replace heq := bif_false hb1 heq
    refine RunH.condF (c := y1 == (-1)) (by kernel_rfl) hb1 ?_
    refine RunH.adm 3 (es' := [.c [1, 1, 1, 0, 0], .c [1, 1, 1, 0, 1], .c [1, 1, 1, 1]]) (by kernel_rfl) ?_
    refine RunH.reg (by kernel_rfl) ?_
    refine RgH.runk 3 [0, 1, 5, 6] (vs := []) (evs := []) (L' := [(0, .slice Aa0 a0.length ca0), (1, .func (.func 110) #[] #[.pointer (some ⟨ga1q0, 0, none⟩)]), (5, .int .i64 y1), (6, .int .i64 (w64 (y1 + 1)))]) (by kernel_rfl) (by kernel_rfl) (fun _ _ => trivial) ?_
    refine RgH.done (by kernel_rfl) ?_
    refine RunH.adm 2 (es' := [.c [1, 1, 1, 0, 1, 0, 0], .l [1, 1, 1, 0, 1, 0, 0], .b 0, .c [1, 1, 1, 1]]) (by kernel_rfl) ?_
    refine RunH.keep [0, 1, 5, 6] (L' := [(0, .slice Aa0 a0.length ca0), (1, .func (.func 110) #[] #[.pointer (some ⟨ga1q0, 0, none⟩)]), (5, .int .i64 y1), (6, .int .i64 (w64 (y1 + 1)))]) (by kernel_rfl) ?_
    exact ((slices_DeleteFunc_Blob_2.l2_c (e1 := slices_DeleteFunc_Blob_2.e1) (slices_DeleteFunc_Blob_2.e1_c)) big) _ a1q0 _ a0 _ _ _ _ y1 (w64 (y1 + 1)) hra1q0_0 hga1q0 hoa0 rfl heq
noncomputable def C75 : Ctx := { P := Tryd.prog, f := 75, N := 26, c := bodyOf Tryd.f75 }
def S75 (F : List Ch) (H0 : Hp) (ga0 : Nat) (r : Cache) (v : Value) (H : Hp) (cs : List Ch) : Prop := ∃ (A0_2 : Option Addr) (c0_2 : Nat) (ch0_2 : Ch) (A0_3 : Option Addr) (c0_3 : Nat) (ch0_3 : Ch), H0 = H ∧ v = .tuple #[] ∧ some (ga0, .cells #[.int .i64 r.Room, .int .i64 r.Lease, .slice A0_2 r.Blobs.length c0_2, .slice A0_3 r.Entries.length c0_3] 25 (0, 0)) :: ch0_2 :: ch0_3 :: F = cs ∧ SlOwn kBlob 47 H A0_2 c0_2 r.Blobs ch0_2 ∧ SlOwn kEntry 51 H A0_3 c0_3 r.Entries ch0_3
theorem cache_drop.e1_c {w0 : World} {H : Hp} {F : List Ch} {r : Cache} : ∀ (ga0 : Nat) (a0 : Cache) (Aa0_2 : Option Addr) (ca0_2 : Nat) (cha0_2 : Ch) (Aa0_3 : Option Addr) (ca0_3 : Nat) (cha0_3 : Ch) (g2 : Nat) (v_has4_0 : List (ByteArray × Bool)) (gv_has4_0 : Nat) (chv_has4_0 : Ch) , SlOwn kBlob 47 H Aa0_2 ca0_2 a0.Blobs cha0_2 → SlOwn kEntry 51 H Aa0_3 ca0_3 a0.Entries cha0_3 → MpOwn Value.string Kd.bool false H gv_has4_0 v_has4_0 chv_has4_0 → cache_drop.e1 a0 v_has4_0 = some r → RunH C75 (S75 F H ga0 r) H w0 [.c [1, 1]] [(0, .pointer (some ⟨ga0, 0, none⟩)), (4, .pointer (some ⟨g2, 0, none⟩))] H ((some (g2, .cells #[.map (some gv_has4_0)] 101 (0, 0))) :: chv_has4_0 :: (some (ga0, .cells #[.int .i64 a0.Room, .int .i64 a0.Lease, .slice Aa0_2 a0.Blobs.length ca0_2, .slice Aa0_3 a0.Entries.length ca0_3] 25 (0, 0))) :: cha0_2 :: cha0_3 :: F) := by
  intro ga0 a0 Aa0_2 ca0_2 cha0_2 Aa0_3 ca0_3 cha0_3 g2 v_has4_0 gv_has4_0 chv_has4_0 hoa0_2 hoa0_3 hov_has4_0 heq
  unfold cache_drop.e1 at heq
  refine RunH.reg (by kernel_rfl) ?_
  refine RgH.runk 6 [0, 17, 21, 22] (vs := [.slice Aa0_2 a0.Blobs.length ca0_2]) (evs := [.load ⟨ga0, 2, none⟩ (.slice Aa0_2 a0.Blobs.length ca0_2)]) (L' := [(0, .pointer (some ⟨ga0, 0, none⟩)), (17, .pointer (some ⟨ga0, 0, none⟩)), (21, .slice Aa0_2 a0.Blobs.length ca0_2), (22, .func (.func 110) #[] #[.pointer (some ⟨g2, 0, none⟩)])]) (by kernel_rfl) (by kernel_rfl) (fun w hh => (hh.box 2 rfl rfl)) ?_
  refine RgH.pick 5 [3, 0, 1, 2, 4] (cs' := cha0_2 :: (some (g2, .cells #[.map (some gv_has4_0)] 101 (0, 0))) :: chv_has4_0 :: (some (ga0, .cells #[.int .i64 a0.Room, .int .i64 a0.Lease, .slice Aa0_2 a0.Blobs.length ca0_2, .slice Aa0_3 a0.Entries.length ca0_3] 25 (0, 0))) :: cha0_3 :: F) (by kernel_rfl) rfl ?_
  obtain ⟨y1, hy1, heq⟩ := bind_some heq
  refine RgH.does (DoesH.call (d := 23) (g := 72) (args := #[.slice Aa0_2 a0.Blobs.length ca0_2, .func (.func 110) #[] #[.pointer (some ⟨g2, 0, none⟩)]]) (by kernel_rfl) (slices_DeleteFunc_Blob_2_c (a0 := a0.Blobs) (a1q0 := v_has4_0) hoa0_2 rfl (hov_has4_0.mw (.tail _ (.head _))) (.inr (.head _)) hy1)) ?_
  rintro _ _ _ _ ⟨_, rfl, A1, c1, ch1, rfl, rfl, rfl, ho2⟩
  refine RgH.runk 9 [0, 23, 25] (vs := []) (evs := []) (L' := [(0, .pointer (some ⟨ga0, 0, none⟩)), (23, .slice A1 y1.length c1), (25, .pointer (some ⟨ga0, 2, none⟩))]) (by kernel_rfl) (by kernel_rfl) (fun _ _ => trivial) ?_
  refine RgH.does (DoesH.store (k := 3) (g := ga0) (off := 2) (v := .slice A1 y1.length c1) (cells' := #[.int .i64 a0.Room, .int .i64 a0.Lease, .slice A1 y1.length c1, .slice Aa0_3 a0.Entries.length ca0_3]) (by kernel_rfl) rfl (by kernel_rfl) (by kernel_rfl)) ?_
  rintro _ _ _ _ ⟨rfl, rfl, rfl⟩
  refine RgH.done (by kernel_rfl) ?_
  obtain rfl := Option.some.inj heq
  refine RunH.pick 5 [3, 0, 4] (cs' := (some (ga0, .cells #[.int .i64 a0.Room, .int .i64 a0.Lease, .slice A1 y1.length c1, .slice Aa0_3 a0.Entries.length ca0_3] 25 (0, 0))) :: ch1 :: cha0_3 :: F) (by kernel_rfl) rfl ?_
  exact RunH.done (by kernel_rfl) Tryd.func75 (v := .tuple #[]) (by kernel_rfl) ⟨A1, c1, ch1, Aa0_3, ca0_3, cha0_3, rfl, rfl, rfl, ho2, hoa0_3⟩
theorem cache_drop.l2_c {w0 : World} {H : Hp} {F : List Ch} {r : Cache} (e1 : Cache → (List (ByteArray × Bool)) → Option Cache)
    (he1 : ∀ (ga0 : Nat) (a0 : Cache) (Aa0_2 : Option Addr) (ca0_2 : Nat) (cha0_2 : Ch) (Aa0_3 : Option Addr) (ca0_3 : Nat) (cha0_3 : Ch) (g2 : Nat) (v_has4_0 : List (ByteArray × Bool)) (gv_has4_0 : Nat) (chv_has4_0 : Ch) , SlOwn kBlob 47 H Aa0_2 ca0_2 a0.Blobs cha0_2 → SlOwn kEntry 51 H Aa0_3 ca0_3 a0.Entries cha0_3 → MpOwn Value.string Kd.bool false H gv_has4_0 v_has4_0 chv_has4_0 → e1 a0 v_has4_0 = some r → RunH C75 (S75 F H ga0 r) H w0 [.c [1, 1]] [(0, .pointer (some ⟨ga0, 0, none⟩)), (4, .pointer (some ⟨g2, 0, none⟩))] H ((some (g2, .cells #[.map (some gv_has4_0)] 101 (0, 0))) :: chv_has4_0 :: (some (ga0, .cells #[.int .i64 a0.Room, .int .i64 a0.Lease, .slice Aa0_2 a0.Blobs.length ca0_2, .slice Aa0_3 a0.Entries.length ca0_3] 25 (0, 0))) :: cha0_2 :: cha0_3 :: F)) : ∀ (k : Nat), ∀ (ga0 : Nat) (a0 : Cache) (Aa0_2 : Option Addr) (ca0_2 : Nat) (cha0_2 : Ch) (Aa0_3 : Option Addr) (ca0_3 : Nat) (cha0_3 : Ch) (a1 : List ByteArray) (Aa1 : Option Addr) (ca1 : Nat) (g2 : Nat) (v_has4_0 : List (ByteArray × Bool)) (gv_has4_0 : Nat) (chv_has4_0 : Ch) (v10 : Int) , SlOwn kBlob 47 H Aa0_2 ca0_2 a0.Blobs cha0_2 → SlOwn kEntry 51 H Aa0_3 ca0_3 a0.Entries cha0_3 → Rw Kd.string H F Aa1 a1 → a1.length ≤ ca1 → MpOwn Value.string Kd.bool false H gv_has4_0 v_has4_0 chv_has4_0 → cache_drop.l2 e1 k a0 a1 v_has4_0 v10 = some r → RunH C75 (S75 F H ga0 r) H w0 [.c [1, 0, 1, 0, 0], .l [1, 0, 1, 0, 0], .b 0, .c [1, 1]] [(0, .pointer (some ⟨ga0, 0, none⟩)), (4, .pointer (some ⟨g2, 0, none⟩)), (8, .slice Aa1 a1.length ca1), (9, .int .i64 (a1.length : Int)), (10, .int .i64 v10)] H ((some (g2, .cells #[.map (some gv_has4_0)] 101 (0, 0))) :: chv_has4_0 :: (some (ga0, .cells #[.int .i64 a0.Room, .int .i64 a0.Lease, .slice Aa0_2 a0.Blobs.length ca0_2, .slice Aa0_3 a0.Entries.length ca0_3] 25 (0, 0))) :: cha0_2 :: cha0_3 :: F) := by
  intro k
  induction k with
  | zero => intro ga0 a0 Aa0_2 ca0_2 cha0_2 Aa0_3 ca0_3 cha0_3 a1 Aa1 ca1 g2 v_has4_0 gv_has4_0 chv_has4_0 v10 hoa0_2 hoa0_3 hra1 hca1 hov_has4_0 heq; exact nomatch (show (none : Option Cache) = some r from heq)
  | succ k ihk =>
    intro ga0 a0 Aa0_2 ca0_2 cha0_2 Aa0_3 ca0_3 cha0_3 a1 Aa1 ca1 g2 v_has4_0 gv_has4_0 chv_has4_0 v10 hoa0_2 hoa0_3 hra1 hca1 hov_has4_0 heq
    rw [cache_drop.l2] at heq
    refine RunH.adm 1 (es' := [.c [1, 0, 1, 0, 0, 0], .c [1, 0, 1, 0, 0, 1], .l [1, 0, 1, 0, 0], .b 0, .c [1, 1]]) (by kernel_rfl) ?_
    refine RunH.reg (by kernel_rfl) ?_
    refine RgH.runk 1 [0, 4, 8, 9, 10, 11] (vs := []) (evs := []) (L' := [(0, .pointer (some ⟨ga0, 0, none⟩)), (4, .pointer (some ⟨g2, 0, none⟩)), (8, .slice Aa1 a1.length ca1), (9, .int .i64 (a1.length : Int)), (10, .int .i64 v10), (11, .bool (decide (v10 < (a1.length : Int))))]) (by kernel_rfl) (by kernel_rfl) (fun _ _ => trivial) ?_
    refine RgH.done (by kernel_rfl) ?_
    refine RunH.adm 1 (es' := [.c [1, 0, 1, 0, 0, 1, 0], .c [1, 0, 1, 0, 0, 1, 1], .l [1, 0, 1, 0, 0], .b 0, .c [1, 1]]) (by kernel_rfl) ?_
    rcases bool_cases (decide (v10 < (a1.length : Int))) with hb1 | hb1
    · replace heq := bif_true hb1 heq
      refine RunH.condT (c := decide (v10 < (a1.length : Int))) (by kernel_rfl) hb1 ?_
      refine RunH.adm 4 (es' := [.c [1, 0, 1, 0, 0, 1, 1, 0, 0, 0], .c [1, 0, 1, 0, 0, 1, 1, 0, 0, 1], .b 1, .c [1, 0, 1, 0, 0, 1, 1, 1], .l [1, 0, 1, 0, 0], .b 0, .c [1, 1]]) (by kernel_rfl) ?_
      refine RunH.reg (by kernel_rfl) ?_
      obtain ⟨x1, hx1, heq⟩ := bind_some heq
      obtain ⟨ha1, cs1, hK1, hcc1⟩ := hra1.get hx1
      obtain rfl : cs1 = [.string x1] := hK1
      refine RgH.runk 3 [0, 4, 6, 8, 9, 10] (vs := [.string x1]) (evs := [.need (Aa1 = some (adr Aa1) ∧ (0 : Int) ≤ v10 ∧ v10 < ((a1.length : Nat) : Int)), .load ((adr Aa1).add (v10.toNat * 1)) (.string x1)]) (L' := [(0, .pointer (some ⟨ga0, 0, none⟩)), (4, .pointer (some ⟨g2, 0, none⟩)), (6, .string x1), (8, .slice Aa1 a1.length ca1), (9, .int .i64 (a1.length : Int)), (10, .int .i64 v10)]) (by kernel_rfl) (by kernel_rfl) (fun w hh => ⟨⟨ha1, (at?_some hx1).1, (at?_some hx1).2.1⟩, (hcc1 _ _ (hh.drop 5) 0 _ rfl)⟩) ?_
      refine RgH.done (by kernel_rfl) ?_
      refine RunH.reg (by kernel_rfl) ?_
      refine RgH.runk 2 [0, 4, 8, 9, 10, 14, 15] (vs := [.map (some gv_has4_0)]) (evs := [.load ⟨g2, 0, none⟩ (.map (some gv_has4_0))]) (L' := [(0, .pointer (some ⟨ga0, 0, none⟩)), (4, .pointer (some ⟨g2, 0, none⟩)), (8, .slice Aa1 a1.length ca1), (9, .int .i64 (a1.length : Int)), (10, .int .i64 v10), (14, .map (some gv_has4_0)), (15, .string x1)]) (by kernel_rfl) (by kernel_rfl) (fun w hh => (hh.box 0 rfl rfl)) ?_
      refine RgH.does (DoesH.mapUpdate (kk := 1) (cv := [.bool true]) (k := x1) (v := true) (by kernel_rfl) (KyAt.string Tryd.underlying9) rfl rfl rfl hov_has4_0) ?_
      rintro _ _ _ _ ⟨ch2, rfl, rfl, rfl, ho3⟩
      refine RgH.done (by kernel_rfl) ?_
      refine RunH.adm 1 (es' := [.c [1, 0, 1, 0, 0, 1, 1, 1], .l [1, 0, 1, 0, 0], .b 0, .c [1, 1]]) (by kernel_rfl) ?_
      refine RunH.reg (by kernel_rfl) ?_
      refine RgH.runk 2 [0, 4, 8, 9, 10] (vs := []) (evs := []) (L' := [(0, .pointer (some ⟨ga0, 0, none⟩)), (4, .pointer (some ⟨g2, 0, none⟩)), (8, .slice Aa1 a1.length ca1), (9, .int .i64 (a1.length : Int)), (10, .int .i64 (w64 (v10 + 1)))]) (by kernel_rfl) (by kernel_rfl) (fun _ _ => trivial) ?_
      refine RgH.done (by kernel_rfl) ?_
      refine RunH.adm 1 (es' := [.c [1, 0, 1, 0, 0], .l [1, 0, 1, 0, 0], .b 0, .c [1, 1]]) (by kernel_rfl) ?_
      refine RunH.keep [0, 4, 8, 9, 10] (L' := [(0, .pointer (some ⟨ga0, 0, none⟩)), (4, .pointer (some ⟨g2, 0, none⟩)), (8, .slice Aa1 a1.length ca1), (9, .int .i64 (a1.length : Int)), (10, .int .i64 (w64 (v10 + 1)))]) (by kernel_rfl) ?_
      exact ihk _ a0 _ _ _ _ _ _ a1 _ _ _ (mput v_has4_0 x1 true) _ _ (w64 (v10 + 1)) hoa0_2 hoa0_3 hra1 hca1 ho3 heq
    · replace heq := bif_false hb1 heq
      refine RunH.condF (c := decide (v10 < (a1.length : Int))) (by kernel_rfl) hb1 ?_
      refine RunH.adm 1 (es' := [.c [1, 1]]) (by kernel_rfl) ?_
      refine RunH.keep [0, 4] (L' := [(0, .pointer (some ⟨ga0, 0, none⟩)), (4, .pointer (some ⟨g2, 0, none⟩))]) (by kernel_rfl) ?_
      exact he1 _ a0 _ _ _ _ _ _ _ v_has4_0 _ _ hoa0_2 hoa0_3 hov_has4_0 heq
theorem cache_drop_c {w0 : World} {H : Hp} {F : List Ch} {ga0 : Nat} {a0 : Cache} {Aa0_2 : Option Addr} {na0_2 : Nat} {ca0_2 : Nat} {cha0_2 : Ch} {Aa0_3 : Option Addr} {na0_3 : Nat} {ca0_3 : Nat} {cha0_3 : Ch} {a1 : List ByteArray} {Aa1 : Option Addr} {na1 : Nat} {ca1 : Nat} {r : Cache} (hoa0_2 : SlOwn kBlob 47 H Aa0_2 ca0_2 a0.Blobs cha0_2) (hna0_2 : na0_2 = a0.Blobs.length) (hoa0_3 : SlOwn kEntry 51 H Aa0_3 ca0_3 a0.Entries cha0_3) (hna0_3 : na0_3 = a0.Entries.length) (hra1 : Rw Kd.string H F Aa1 a1) (hca1 : na1 ≤ ca1) (hna1 : na1 = a1.length) (heq : cache_drop.f a0 a1 = some r) : CallsH Tryd.prog 75 #[.pointer (some ⟨ga0, 0, none⟩), .slice Aa1 na1 ca1] H w0 ((some (ga0, .cells #[.int .i64 a0.Room, .int .i64 a0.Lease, .slice Aa0_2 na0_2 ca0_2, .slice Aa0_3 na0_3 ca0_3] 25 (0, 0))) :: cha0_2 :: cha0_3 :: F) (S75 F H ga0 r) := by
  refine calls_of_runH (F := C75) Tryd.func75 (by kernel_rfl) Tryd.ntmps75 (args := [.pointer (some ⟨ga0, 0, none⟩), .slice Aa1 na1 ca1]) (by kernel_rfl) ?_
  subst hna0_2
  subst hna0_3
  subst hna1
  unfold cache_drop.f at heq
  refine RunH.adm 1 (es' := [.c [0], .c [1]]) (by kernel_rfl) ?_
  refine RunH.reg (by kernel_rfl) ?_
  refine RgH.does (DoesH.new (d := 7) (v := fun g => .map (some g)) (o := fun g => .map #[] 0) (fun g => by kernel_rfl)) ?_
  rintro _ _ _ _ ⟨g1, rfl, rfl, rfl⟩
  have ho1 : MpOwn Value.string Kd.bool false H g1 ([] : List (ByteArray × Bool)) (some (g1, .map #[] 0)) := MpOwn.made
  refine RgH.does (DoesH.new (d := 4) (v := fun g => .pointer (some ⟨g, 0, none⟩)) (o := fun g => .cells #[.map none] 101 (0, 0)) (fun g => by kernel_rfl)) ?_
  rintro _ _ _ _ ⟨g2, rfl, rfl, rfl⟩
  refine RgH.does (DoesH.store (k := 0) (g := g2) (off := 0) (v := .map (some g1)) (cells' := #[.map (some g1)]) (by kernel_rfl) rfl (by kernel_rfl) (by kernel_rfl)) ?_
  rintro _ _ _ _ ⟨rfl, rfl, rfl⟩
  refine RgH.done (by kernel_rfl) ?_
  refine RunH.adm 2 (es' := [.c [1, 0, 0], .c [1, 0, 1], .c [1, 1]]) (by kernel_rfl) ?_
  refine RunH.reg (by kernel_rfl) ?_
  refine RgH.runk 3 [0, 4, 8, 9, 10] (vs := []) (evs := []) (L' := [(0, .pointer (some ⟨ga0, 0, none⟩)), (4, .pointer (some ⟨g2, 0, none⟩)), (8, .slice Aa1 a1.length ca1), (9, .int .i64 (a1.length : Int)), (10, .int .i64 0)]) (by kernel_rfl) (by kernel_rfl) (fun _ _ => trivial) ?_
  refine RgH.done (by kernel_rfl) ?_
  refine RunH.adm 2 (es' := [.c [1, 0, 1, 0, 0], .l [1, 0, 1, 0, 0], .b 0, .c [1, 1]]) (by kernel_rfl) ?_
  refine RunH.keep [0, 4, 8, 9, 10] (L' := [(0, .pointer (some ⟨ga0, 0, none⟩)), (4, .pointer (some ⟨g2, 0, none⟩)), (8, .slice Aa1 a1.length ca1), (9, .int .i64 (a1.length : Int)), (10, .int .i64 0)]) (by kernel_rfl) ?_
  exact ((cache_drop.l2_c (e1 := cache_drop.e1) (cache_drop.e1_c)) big) _ a0 _ _ _ _ _ _ a1 _ _ _ ([] : List (ByteArray × Bool)) _ _ 0 hoa0_2 hoa0_3 hra1 hca1 ho1 heq
noncomputable def C77 : Ctx := { P := Tryd.prog, f := 77, N := 9, c := bodyOf Tryd.f77 }
def S77 (F : List Ch) (H0 : Hp) (r : Bool) (v : Value) (H : Hp) (cs : List Ch) : Prop := H0 = H ∧ v = .bool r ∧ F = cs
theorem cache_Swept_2_c {w0 : World} {H : Hp} {F : List Ch} {a0 : Entry} {Aa0_1 : Option Addr} {na0_1 : Nat} {ca0_1 : Nat} {ga1 : Nat} {a1 : List (ByteArray × Bool)} {Aa1_0 : Option Nat} {r : Bool} (hra0_1 : Rw Kd.string H F Aa0_1 a0.Refs) (hca0_1 : na0_1 ≤ ca0_1) (hna0_1 : na0_1 = a0.Refs.length) (hra1_0 : Mw Value.string Kd.bool false H F Aa1_0 a1) (hga1 : InG H F ga1 (.cells #[.map Aa1_0] 101 (0, 0))) (heq : cache_Swept_2.f a0 a1 = some r) : CallsH Tryd.prog 77 #[.agg #[.string a0.Key, .slice Aa0_1 na0_1 ca0_1, .int .i64 a0.Used], .pointer (some ⟨ga1, 0, none⟩)] H w0 (F) (S77 F H r) := by
  refine calls_of_runH (F := C77) Tryd.func77 (by kernel_rfl) Tryd.ntmps77 (args := [.agg #[.string a0.Key, .slice Aa0_1 na0_1 ca0_1, .int .i64 a0.Used], .pointer (some ⟨ga1, 0, none⟩)]) (by kernel_rfl) ?_
  subst hna0_1
  unfold cache_Swept_2.f at heq
  refine RunH.adm 1 (es' := [.c [0], .c [1]]) (by kernel_rfl) ?_
  refine RunH.reg (by kernel_rfl) ?_
  refine RgH.does (DoesH.new (d := 2) (v := fun g => .pointer (some ⟨g, 0, none⟩)) (o := fun g => .cells #[.string a0.Key, .slice Aa0_1 a0.Refs.length ca0_1, .int .i64 a0.Used] 51 (0, 0)) (fun g => by kernel_rfl)) ?_
  rintro _ _ _ _ ⟨g1, rfl, rfl, rfl⟩
  refine RgH.runk 2 [1, 2] (vs := []) (evs := []) (L' := [(1, .pointer (some ⟨ga1, 0, none⟩)), (2, .pointer (some ⟨g1, 0, none⟩))]) (by kernel_rfl) (by kernel_rfl) (fun _ _ => trivial) ?_
  refine RgH.done (by kernel_rfl) ?_
  refine RunH.adm 1 (es' := [.c [1, 0], .c [1, 1]]) (by kernel_rfl) ?_
  refine RunH.reg (by kernel_rfl) ?_
  refine RgH.runk 3 [4, 6] (vs := [.map Aa1_0, .string a0.Key]) (evs := [.load ⟨ga1, 0, none⟩ (.map Aa1_0), .load ⟨g1, 0, none⟩ (.string a0.Key)]) (L' := [(4, .map Aa1_0), (6, .string a0.Key)]) (by kernel_rfl) (by kernel_rfl) (fun w hh => ⟨(hga1.cell (hh.drop 1) rfl), (hh.box 0 rfl rfl)⟩) ?_
  refine RgH.does (DoesH.lookup (d := 7) (t := 101) (m := a1) (k := a0.Key) (z := .bool false) (zc := [.bool false]) (z0 := false) (ok := false) (kd := Kd.bool) (ag := false) (by kernel_rfl) (KyAt.string Tryd.underlying9) rfl rfl (fun w hh => hra1_0.on (hh.drop 1))) ?_
  rintro _ _ _ _ ⟨cc1, rfl, rfl, rfl, hcc1⟩
  obtain rfl : cc1 = [.bool (mgetD a1 a0.Key false)] := hcc1
  refine RgH.val1 (v' := .bool (mgetD a1 a0.Key false)) rfl ?_
  refine RgH.runk 6 [3] (vs := []) (evs := []) (L' := [(3, .bool (!(mgetD a1 a0.Key false)))]) (by kernel_rfl) (by kernel_rfl) (fun _ _ => trivial) ?_
  refine RgH.done (by kernel_rfl) ?_
  obtain rfl := Option.some.inj heq
  refine RunH.pick 1 [] (cs' := F) (by kernel_rfl) rfl ?_
  exact RunH.done (by kernel_rfl) Tryd.func77 (v := .bool (!(mgetD a1 a0.Key false))) (by kernel_rfl) ⟨rfl, rfl, rfl⟩
noncomputable def C111 : Ctx := { P := Tryd.prog, f := 111, N := 19, c := bodyOf Tryd.f111 }
def S111 (F : List Ch) (H0 : Hp) (r : Int) (v : Value) (H : Hp) (cs : List Ch) : Prop := H0 = H ∧ v = .int .i64 r ∧ F = cs
theorem slices_IndexFunc_Entry.e1_c {w0 : World} {H : Hp} {F : List Ch} {r : Int} : slices_IndexFunc_Entry.e1 = some r → RunH C111 (S111 F H r) H w0 [.c [1, 1, 0], .c [1, 1, 1]] [] H (F) := by
  intro   heq
  unfold slices_IndexFunc_Entry.e1 at heq
  refine RunH.reg (by kernel_rfl) ?_
  refine RgH.runk 1 [4] (vs := []) (evs := []) (L' := [(4, .int .i64 (-1))]) (by kernel_rfl) (by kernel_rfl) (fun _ _ => trivial) ?_
  refine RgH.done (by kernel_rfl) ?_
  obtain rfl := Option.some.inj heq
  exact RunH.done (by kernel_rfl) Tryd.func111 (v := .int .i64 (-1)) (by kernel_rfl) ⟨rfl, rfl, rfl⟩
theorem slices_IndexFunc_Entry.l2_c {w0 : World} {H : Hp} {F : List Ch} {r : Int} (e1 : Option Int)
    (he1 : e1 = some r → RunH C111 (S111 F H r) H w0 [.c [1, 1, 0], .c [1, 1, 1]] [] H (F)) : ∀ (k : Nat), ∀ (a0 : List Entry) (Aa0 : Option Addr) (ca0 : Nat) (ga1q0 : Nat) (a1q0 : List (ByteArray × Bool)) (Aa1q0_0 : Option Nat) (v8 : Int) , Rw kEntry H F Aa0 a0 → a0.length ≤ ca0 → Mw Value.string Kd.bool false H F Aa1q0_0 a1q0 → InG H F ga1q0 (.cells #[.map Aa1q0_0] 101 (0, 0)) → slices_IndexFunc_Entry.l2 e1 k a0 a1q0 v8 = some r → RunH C111 (S111 F H r) H w0 [.c [1, 0, 1, 0, 0], .l [1, 0, 1, 0, 0], .b 0, .c [1, 1]] [(0, .slice Aa0 a0.length ca0), (1, .func (.func 77) #[] #[.pointer (some ⟨ga1q0, 0, none⟩)]), (7, .int .i64 (a0.length : Int)), (8, .int .i64 v8)] H (F) := by
  intro k
  induction k with
  | zero => intro a0 Aa0 ca0 ga1q0 a1q0 Aa1q0_0 v8 hra0 hca0 hra1q0_0 hga1q0 heq; exact nomatch (show (none : Option Int) = some r from heq)
  | succ k ihk =>
    intro a0 Aa0 ca0 ga1q0 a1q0 Aa1q0_0 v8 hra0 hca0 hra1q0_0 hga1q0 heq
    rw [slices_IndexFunc_Entry.l2] at heq
    refine RunH.adm 1 (es' := [.c [1, 0, 1, 0, 0, 0], .c [1, 0, 1, 0, 0, 1], .l [1, 0, 1, 0, 0], .b 0, .c [1, 1]]) (by kernel_rfl) ?_
    refine RunH.reg (by kernel_rfl) ?_
    refine RgH.runk 1 [0, 1, 7, 8, 9] (vs := []) (evs := []) (L' := [(0, .slice Aa0 a0.length ca0), (1, .func (.func 77) #[] #[.pointer (some ⟨ga1q0, 0, none⟩)]), (7, .int .i64 (a0.length : Int)), (8, .int .i64 v8), (9, .bool (decide (v8 < (a0.length : Int))))]) (by kernel_rfl) (by kernel_rfl) (fun _ _ => trivial) ?_
    refine RgH.done (by kernel_rfl) ?_
    refine RunH.adm 1 (es' := [.c [1, 0, 1, 0, 0, 1, 0], .c [1, 0, 1, 0, 0, 1, 1], .l [1, 0, 1, 0, 0], .b 0, .c [1, 1]]) (by kernel_rfl) ?_
    rcases bool_cases (decide (v8 < (a0.length : Int))) with hb1 | hb1
    · replace heq := bif_true hb1 heq
      refine RunH.condT (c := decide (v8 < (a0.length : Int))) (by kernel_rfl) hb1 ?_
      refine RunH.adm 4 (es' := [.c [1, 0, 1, 0, 0, 1, 1, 0, 0, 0], .c [1, 0, 1, 0, 0, 1, 1, 0, 0, 1], .b 1, .c [1, 0, 1, 0, 0, 1, 1, 1], .l [1, 0, 1, 0, 0], .b 0, .c [1, 1]]) (by kernel_rfl) ?_
      refine RunH.reg (by kernel_rfl) ?_
      refine RgH.runk 2 [0, 1, 5, 7, 8] (vs := []) (evs := []) (L' := [(0, .slice Aa0 a0.length ca0), (1, .func (.func 77) #[] #[.pointer (some ⟨ga1q0, 0, none⟩)]), (5, .int .i64 v8), (7, .int .i64 (a0.length : Int)), (8, .int .i64 v8)]) (by kernel_rfl) (by kernel_rfl) (fun _ _ => trivial) ?_
      refine RgH.done (by kernel_rfl) ?_
      refine RunH.adm 1 (es' := [.c [1, 0, 1, 0, 0, 1, 1, 0, 0, 1, 0], .c [1, 0, 1, 0, 0, 1, 1, 0, 0, 1, 1], .b 1, .c [1, 0, 1, 0, 0, 1, 1, 1], .l [1, 0, 1, 0, 0], .b 0, .c [1, 1]]) (by kernel_rfl) ?_
      refine RunH.reg (by kernel_rfl) ?_
      obtain ⟨x1, hx1, heq⟩ := bind_some heq
      obtain ⟨ha1, cs1, hK1, hcc1⟩ := hra0.get hx1
      obtain ⟨A1, c1, rfl, hc1, hr1⟩ := kEntry_open hK1
      refine RgH.runk 5 [0, 1, 5, 7, 8, 11, 15] (vs := [.string x1.Key, .slice A1 x1.Refs.length c1, .int .i64 x1.Used]) (evs := [.need (Aa0 = some (adr Aa0) ∧ (0 : Int) ≤ v8 ∧ v8 < ((a0.length : Nat) : Int)), .load (((adr Aa0).add (v8.toNat * 3)).add 0) (.string x1.Key), .load (((adr Aa0).add (v8.toNat * 3)).add 1) (.slice A1 x1.Refs.length c1), .load (((adr Aa0).add (v8.toNat * 3)).add 2) (.int .i64 x1.Used)]) (L' := [(0, .slice Aa0 a0.length ca0), (1, .func (.func 77) #[] #[.pointer (some ⟨ga1q0, 0, none⟩)]), (5, .int .i64 v8), (7, .int .i64 (a0.length : Int)), (8, .int .i64 v8), (11, .func (.func 77) #[] #[.pointer (some ⟨ga1q0, 0, none⟩)]), (15, .agg #[.string x1.Key, .slice A1 x1.Refs.length c1, .int .i64 x1.Used])]) (by kernel_rfl) (by kernel_rfl) (fun w hh => ⟨⟨ha1, (at?_some hx1).1, (at?_some hx1).2.1⟩, (hcc1 _ _ (hh.drop 0) 0 _ rfl), (hcc1 _ _ (hh.drop 0) 1 _ rfl), (hcc1 _ _ (hh.drop 0) 2 _ rfl)⟩) ?_
      obtain ⟨y1, hy1, heq⟩ := bind_some heq
      refine RgH.does (DoesH.call (d := 16) (g := 77) (args := #[.agg #[.string x1.Key, .slice A1 x1.Refs.length c1, .int .i64 x1.Used], .pointer (some ⟨ga1q0, 0, none⟩)]) (by kernel_rfl) (cache_Swept_2_c (a0 := x1) (a1 := a1q0) (Rw.of hr1) hc1 rfl hra1q0_0 hga1q0 hy1)) ?_
      rintro _ _ _ _ ⟨_, rfl, rfl, rfl, rfl⟩
      refine RgH.done (by kernel_rfl) ?_
      rcases bool_cases (y1) with hb2 | hb2
      · replace heq := bif_true hb2 heq
        refine RunH.condT (c := y1) (by kernel_rfl) hb2 ?_
        refine RunH.adm 1 (es' := [.c [1, 0, 1, 0, 0, 1, 1, 0, 0, 1, 1, 0, 0], .c [1, 0, 1, 0, 0, 1, 1, 0, 0, 1, 1, 0, 1], .b 1, .c [1, 0, 1, 0, 0, 1, 1, 1], .l [1, 0, 1, 0, 0], .b 0, .c [1, 1]]) (by kernel_rfl) ?_
        refine RunH.reg (by kernel_rfl) ?_
        refine RgH.runk 2 [4] (vs := []) (evs := []) (L' := [(4, .int .i64 v8)]) (by kernel_rfl) (by kernel_rfl) (fun _ _ => trivial) ?_
        refine RgH.done (by kernel_rfl) ?_
        obtain rfl := Option.some.inj heq
        exact RunH.done (by kernel_rfl) Tryd.func111 (v := .int .i64 v8) (by kernel_rfl) ⟨rfl, rfl, rfl⟩
      · replace heq := bif_false hb2 heq
        refine RunH.condF (c := y1) (by kernel_rfl) hb2 ?_
        refine RunH.adm 2 (es' := [.c [1, 0, 1, 0, 0, 1, 1, 1], .l [1, 0, 1, 0, 0], .b 0, .c [1, 1]]) (by kernel_rfl) ?_
        refine RunH.reg (by kernel_rfl) ?_
        refine RgH.runk 2 [0, 1, 7, 8] (vs := []) (evs := []) (L' := [(0, .slice Aa0 a0.length ca0), (1, .func (.func 77) #[] #[.pointer (some ⟨ga1q0, 0, none⟩)]), (7, .int .i64 (a0.length : Int)), (8, .int .i64 (w64 (v8 + 1)))]) (by kernel_rfl) (by kernel_rfl) (fun _ _ => trivial) ?_
        refine RgH.done (by kernel_rfl) ?_
        refine RunH.adm 1 (es' := [.c [1, 0, 1, 0, 0], .l [1, 0, 1, 0, 0], .b 0, .c [1, 1]]) (by kernel_rfl) ?_
        refine RunH.keep [0, 1, 7, 8] (L' := [(0, .slice Aa0 a0.length ca0), (1, .func (.func 77) #[] #[.pointer (some ⟨ga1q0, 0, none⟩)]), (7, .int .i64 (a0.length : Int)), (8, .int .i64 (w64 (v8 + 1)))]) (by kernel_rfl) ?_
        exact ihk a0 _ _ _ a1q0 _ (w64 (v8 + 1)) hra0 hca0 hra1q0_0 hga1q0 heq
    · replace heq := bif_false hb1 heq
      refine RunH.condF (c := decide (v8 < (a0.length : Int))) (by kernel_rfl) hb1 ?_
      refine RunH.adm 2 (es' := [.c [1, 1, 0], .c [1, 1, 1]]) (by kernel_rfl) ?_
      refine RunH.keep [] (L' := []) (by kernel_rfl) ?_
      exact he1 heq
theorem slices_IndexFunc_Entry_c {w0 : World} {H : Hp} {F : List Ch} {a0 : List Entry} {Aa0 : Option Addr} {na0 : Nat} {ca0 : Nat} {ga1q0 : Nat} {a1q0 : List (ByteArray × Bool)} {Aa1q0_0 : Option Nat} {r : Int} (hra0 : Rw kEntry H F Aa0 a0) (hca0 : na0 ≤ ca0) (hna0 : na0 = a0.length) (hra1q0_0 : Mw Value.string Kd.bool false H F Aa1q0_0 a1q0) (hga1q0 : InG H F ga1q0 (.cells #[.map Aa1q0_0] 101 (0, 0))) (heq : slices_IndexFunc_Entry.f a0 a1q0 = some r) : CallsH Tryd.prog 111 #[.slice Aa0 na0 ca0, .func (.func 77) #[] #[.pointer (some ⟨ga1q0, 0, none⟩)]] H w0 (F) (S111 F H r) := by
  refine calls_of_runH (F := C111) Tryd.func111 (by kernel_rfl) Tryd.ntmps111 (args := [.slice Aa0 na0 ca0, .func (.func 77) #[] #[.pointer (some ⟨ga1q0, 0, none⟩)]]) (by kernel_rfl) ?_
  subst hna0
  unfold slices_IndexFunc_Entry.f at heq
  refine RunH.adm 1 (es' := [.c [0], .c [1]]) (by kernel_rfl) ?_
  refine RunH.reg (by kernel_rfl) ?_
  refine RgH.runk 1 [0, 1] (vs := []) (evs := []) (L' := [(0, .slice Aa0 a0.length ca0), (1, .func (.func 77) #[] #[.pointer (some ⟨ga1q0, 0, none⟩)])]) (by kernel_rfl) (by kernel_rfl) (fun _ _ => trivial) ?_
  refine RgH.done (by kernel_rfl) ?_
  refine RunH.adm 2 (es' := [.c [1, 0, 0], .c [1, 0, 1], .c [1, 1]]) (by kernel_rfl) ?_
  refine RunH.reg (by kernel_rfl) ?_
  refine RgH.runk 3 [0, 1, 7, 8] (vs := []) (evs := []) (L' := [(0, .slice Aa0 a0.length ca0), (1, .func (.func 77) #[] #[.pointer (some ⟨ga1q0, 0, none⟩)]), (7, .int .i64 (a0.length : Int)), (8, .int .i64 0)]) (by kernel_rfl) (by kernel_rfl) (fun _ _ => trivial) ?_
  refine RgH.done (by kernel_rfl) ?_
  refine RunH.adm 2 (es' := [.c [1, 0, 1, 0, 0], .l [1, 0, 1, 0, 0], .b 0, .c [1, 1]]) (by kernel_rfl) ?_
  refine RunH.keep [0, 1, 7, 8] (L' := [(0, .slice Aa0 a0.length ca0), (1, .func (.func 77) #[] #[.pointer (some ⟨ga1q0, 0, none⟩)]), (7, .int .i64 (a0.length : Int)), (8, .int .i64 0)]) (by kernel_rfl) ?_
  exact ((slices_IndexFunc_Entry.l2_c (e1 := slices_IndexFunc_Entry.e1) (slices_IndexFunc_Entry.e1_c)) big) a0 _ _ _ a1q0 _ 0 hra0 hca0 hra1q0_0 hga1q0 heq
noncomputable def C76 : Ctx := { P := Tryd.prog, f := 76, N := 42, c := bodyOf Tryd.f76 }
def S76 (F : List Ch) (H0 : Hp) (r : (List Entry)) (v : Value) (H : Hp) (cs : List Ch) : Prop := ∃ (A0 : Option Addr) (c0 : Nat) (ch0 : Ch), H0 = H ∧ v = .slice A0 r.length c0 ∧ ch0 :: F = cs ∧ SlOwn kEntry 51 H A0 c0 r ch0
theorem slices_DeleteFunc_Entry.e1_c {w0 : World} {H : Hp} {F : List Ch} {r : (List Entry)} : ∀ (v_s0 : List Entry) (Av_s0 : Option Addr) (nv_s0 : Nat) (cv_s0 : Nat) (chv_s0 : Ch) (v_i5 : Int) , SlOwn kEntry 51 H Av_s0 cv_s0 v_s0 chv_s0 → nv_s0 = v_s0.length → slices_DeleteFunc_Entry.e1 v_s0 v_i5 = some r → RunH C76 (S76 F H r) H w0 [.c [1, 1, 1, 1, 0], .c [1, 1, 1, 1, 1]] [(0, .slice Av_s0 nv_s0 cv_s0), (5, .int .i64 v_i5)] H (chv_s0 :: F) := by
  intro v_s0 Av_s0 nv_s0 cv_s0 chv_s0 v_i5 hov_s0 hnv_s0 heq
  subst hnv_s0
  unfold slices_DeleteFunc_Entry.e1 at heq
  refine RunH.reg (by kernel_rfl) ?_
  obtain ⟨hn2, heq⟩ := guard?_some heq
  have hn1 : v_s0.length - v_i5.toNat = (v_s0.drop v_i5.toNat).length := by have h1 := both_of hn2; have h3 := trivial; (try simp); (try omega)
  have ho1 := hov_s0.drop v_i5.toNat (by have h2 := hov_s0.cap; have h3 := trivial; have h1 := both_of hn2; omega)
  refine RgH.runk 3 [0, 5, 38] (vs := []) (evs := [.need ((0 : Int) ≤ v_i5 ∧ v_i5 ≤ ((v_s0.length : Nat) : Int))]) (L' := [(0, .slice Av_s0 v_s0.length cv_s0), (5, .int .i64 v_i5), (38, .slice (shiftA cv_s0 v_i5.toNat 3 Av_s0) (v_s0.length - v_i5.toNat) (cv_s0 - v_i5.toNat))]) (by kernel_rfl) (by kernel_rfl) (fun w hh => (both_of hn2)) ?_
  refine RgH.does (DoesH.clear (k := 0) (j := v_i5.toNat) (n := v_s0.length - v_i5.toNat) (t := 23) (e := 51) (bytes := 48) (kd := kEntry) (A := Av_s0) (A2 := (shiftA cv_s0 v_i5.toNat 3 Av_s0)) (c := cv_s0) (c2 := (cv_s0 - v_i5.toNat)) (xs := v_s0) (z := (⟨ByteArray.empty, ([] : List ByteArray), 0⟩ : Entry)) (zc := #[.string ByteArray.empty, .slice none 0 0, .int .i64 0]) (by kernel_rfl) (by have h3 := trivial; omega) (by kernel_rfl) (by kernel_rfl) (kEntry_mk (Nat.le_refl _) Kd.Row.none) (by kernel_rfl) rfl hov_s0 (by have h1 := both_of hn2; have h3 := trivial; omega) (fun h b off hA => shiftA_at h hov_s0.cap hA)) ?_
  rintro _ _ _ _ ⟨ch1, rfl, rfl, rfl, ho2⟩
  have hn3 : v_s0.length = (v_s0.take v_i5.toNat ++ List.replicate (v_s0.length - v_i5.toNat) (⟨ByteArray.empty, ([] : List ByteArray), 0⟩ : Entry)).length := by have h1 := both_of hn2; have h3 := trivial; simp; omega
  refine RgH.done (by kernel_rfl) ?_
  refine RunH.adm 1 (es' := [.c [1, 1, 1, 1, 1, 0], .c [1, 1, 1, 1, 1, 1]]) (by kernel_rfl) ?_
  refine RunH.reg (by kernel_rfl) ?_
  obtain ⟨hn5, heq⟩ := guard?_some heq
  have hn4 : v_i5.toNat = ((v_s0.take v_i5.toNat ++ List.replicate (v_s0.length - v_i5.toNat) (⟨ByteArray.empty, ([] : List ByteArray), 0⟩ : Entry)).take v_i5.toNat).length := by have h1 := both_of hn5; have h3 := hn3; (try simp); (try omega)
  have ho3 := ho2.take v_i5.toNat
  refine RgH.runk 4 [4] (vs := []) (evs := [.need ((0 : Int) ≤ v_i5 ∧ v_i5 ≤ ((cv_s0 : Nat) : Int))]) (L' := [(4, .slice Av_s0 v_i5.toNat cv_s0)]) (by kernel_rfl) (by kernel_rfl) (fun w hh => ⟨(both_of hn5).1, (by have h1 := (both_of hn5).2; have h2 := (show v_s0.length ≤ cv_s0 from by have := ho2.cap; have := hn3; omega); have h3 := hn3; omega)⟩) ?_
  refine RgH.done (by kernel_rfl) ?_
  obtain rfl := Option.some.inj heq
  exact RunH.done (by kernel_rfl) Tryd.func76 (v := .slice Av_s0 v_i5.toNat cv_s0) (by kernel_rfl) ⟨Av_s0, cv_s0, ch1, rfl, (by first | rfl | exact congrArg (fun q => Value.slice _ q _) hn4 | (rw [hn4]) | (simp only [← hn4])), rfl, ho3⟩
theorem slices_DeleteFunc_Entry.j3_c {w0 : World} {H : Hp} {F : List Ch} {r : (List Entry)} (backl2 : (List (ByteArray × Bool)) → (List Entry) → Int → Int → Option (List Entry))
    (hbackl2 : ∀ (ga1q0 : Nat) (a1q0 : List (ByteArray × Bool)) (Aa1q0_0 : Option Nat) (v_s0 : List Entry) (Av_s0 : Option Addr) (nv_s0 : Nat) (cv_s0 : Nat) (chv_s0 : Ch) (v_i5 : Int) (v_j6 : Int) , Mw Value.string Kd.bool false H F Aa1q0_0 a1q0 → InG H F ga1q0 (.cells #[.map Aa1q0_0] 101 (0, 0)) → SlOwn kEntry 51 H Av_s0 cv_s0 v_s0 chv_s0 → nv_s0 = v_s0.length → backl2 a1q0 v_s0 v_i5 v_j6 = some r → RunH C76 (S76 F H r) H w0 [.c [1, 1, 1, 0, 1, 0, 0], .l [1, 1, 1, 0, 1, 0, 0], .b 0, .c [1, 1, 1, 1]] [(0, .slice Av_s0 nv_s0 cv_s0), (1, .func (.func 77) #[] #[.pointer (some ⟨ga1q0, 0, none⟩)]), (5, .int .i64 v_i5), (6, .int .i64 v_j6)] H (chv_s0 :: F)) : ∀ (ga1q0 : Nat) (a1q0 : List (ByteArray × Bool)) (Aa1q0_0 : Option Nat) (v_j6 : Int) (v_s0 : List Entry) (Av_s0 : Option Addr) (nv_s0 : Nat) (cv_s0 : Nat) (chv_s0 : Ch) (v_i5 : Int) , Mw Value.string Kd.bool false H F Aa1q0_0 a1q0 → InG H F ga1q0 (.cells #[.map Aa1q0_0] 101 (0, 0)) → SlOwn kEntry 51 H Av_s0 cv_s0 v_s0 chv_s0 → nv_s0 = v_s0.length → slices_DeleteFunc_Entry.j3 backl2 a1q0 v_j6 v_s0 v_i5 = some r → RunH C76 (S76 F H r) H w0 [.c [1, 1, 1, 0, 1, 0, 0, 1, 1], .l [1, 1, 1, 0, 1, 0, 0], .b 0, .c [1, 1, 1, 1]] [(0, .slice Av_s0 nv_s0 cv_s0), (1, .func (.func 77) #[] #[.pointer (some ⟨ga1q0, 0, none⟩)]), (5, .int .i64 v_i5), (6, .int .i64 v_j6)] H (chv_s0 :: F) := by
  intro ga1q0 a1q0 Aa1q0_0 v_j6 v_s0 Av_s0 nv_s0 cv_s0 chv_s0 v_i5 hra1q0_0 hga1q0 hov_s0 hnv_s0 heq
  subst hnv_s0
  unfold slices_DeleteFunc_Entry.j3 at heq
  refine RunH.reg (by kernel_rfl) ?_
  refine RgH.runk 3 [0, 1, 5, 6] (vs := []) (evs := []) (L' := [(0, .slice Av_s0 v_s0.length cv_s0), (1, .func (.func 77) #[] #[.pointer (some ⟨ga1q0, 0, none⟩)]), (5, .int .i64 v_i5), (6, .int .i64 (w64 (v_j6 + 1)))]) (by kernel_rfl) (by kernel_rfl) (fun _ _ => trivial) ?_
  refine RgH.done (by kernel_rfl) ?_
  refine RunH.adm 1 (es' := [.c [1, 1, 1, 0, 1, 0, 0], .l [1, 1, 1, 0, 1, 0, 0], .b 0, .c [1, 1, 1, 1]]) (by kernel_rfl) ?_
  refine RunH.keep [0, 1, 5, 6] (L' := [(0, .slice Av_s0 v_s0.length cv_s0), (1, .func (.func 77) #[] #[.pointer (some ⟨ga1q0, 0, none⟩)]), (5, .int .i64 v_i5), (6, .int .i64 (w64 (v_j6 + 1)))]) (by kernel_rfl) ?_
  exact hbackl2 _ a1q0 _ v_s0 _ _ _ _ v_i5 (w64 (v_j6 + 1)) hra1q0_0 hga1q0 hov_s0 rfl heq
theorem slices_DeleteFunc_Entry.l2_c {w0 : World} {H : Hp} {F : List Ch} {r : (List Entry)} (e1 : (List Entry) → Int → Option (List Entry))
    (he1 : ∀ (v_s0 : List Entry) (Av_s0 : Option Addr) (nv_s0 : Nat) (cv_s0 : Nat) (chv_s0 : Ch) (v_i5 : Int) , SlOwn kEntry 51 H Av_s0 cv_s0 v_s0 chv_s0 → nv_s0 = v_s0.length → e1 v_s0 v_i5 = some r → RunH C76 (S76 F H r) H w0 [.c [1, 1, 1, 1, 0], .c [1, 1, 1, 1, 1]] [(0, .slice Av_s0 nv_s0 cv_s0), (5, .int .i64 v_i5)] H (chv_s0 :: F)) : ∀ (k : Nat), ∀ (ga1q0 : Nat) (a1q0 : List (ByteArray × Bool)) (Aa1q0_0 : Option Nat) (v_s0 : List Entry) (Av_s0 : Option Addr) (nv_s0 : Nat) (cv_s0 : Nat) (chv_s0 : Ch) (v_i5 : Int) (v_j6 : Int) , Mw Value.string Kd.bool false H F Aa1q0_0 a1q0 → InG H F ga1q0 (.cells #[.map Aa1q0_0] 101 (0, 0)) → SlOwn kEntry 51 H Av_s0 cv_s0 v_s0 chv_s0 → nv_s0 = v_s0.length → slices_DeleteFunc_Entry.l2 e1 k a1q0 v_s0 v_i5 v_j6 = some r → RunH C76 (S76 F H r) H w0 [.c [1, 1, 1, 0, 1, 0, 0], .l [1, 1, 1, 0, 1, 0, 0], .b 0, .c [1, 1, 1, 1]] [(0, .slice Av_s0 nv_s0 cv_s0), (1, .func (.func 77) #[] #[.pointer (some ⟨ga1q0, 0, none⟩)]), (5, .int .i64 v_i5), (6, .int .i64 v_j6)] H (chv_s0 :: F) := by
  intro k
  induction k with
  | zero => intro ga1q0 a1q0 Aa1q0_0 v_s0 Av_s0 nv_s0 cv_s0 chv_s0 v_i5 v_j6 hra1q0_0 hga1q0 hov_s0 hnv_s0 heq; exact nomatch (show (none : Option (List Entry)) = some r from heq)
  | succ k ihk =>
    intro ga1q0 a1q0 Aa1q0_0 v_s0 Av_s0 nv_s0 cv_s0 chv_s0 v_i5 v_j6 hra1q0_0 hga1q0 hov_s0 hnv_s0 heq
    subst hnv_s0
    rw [slices_DeleteFunc_Entry.l2] at heq
    refine RunH.adm 2 (es' := [.c [1, 1, 1, 0, 1, 0, 0, 0, 0], .c [1, 1, 1, 0, 1, 0, 0, 0, 1], .c [1, 1, 1, 0, 1, 0, 0, 1], .l [1, 1, 1, 0, 1, 0, 0], .b 0, .c [1, 1, 1, 1]]) (by kernel_rfl) ?_
    refine RunH.reg (by kernel_rfl) ?_
    refine RgH.runk 4 [0, 1, 5, 6, 19] (vs := []) (evs := []) (L' := [(0, .slice Av_s0 v_s0.length cv_s0), (1, .func (.func 77) #[] #[.pointer (some ⟨ga1q0, 0, none⟩)]), (5, .int .i64 v_i5), (6, .int .i64 v_j6), (19, .bool (decide (v_j6 < (v_s0.length : Int))))]) (by kernel_rfl) (by kernel_rfl) (fun _ _ => trivial) ?_
    refine RgH.done (by kernel_rfl) ?_
    rcases bool_cases (decide (v_j6 < (v_s0.length : Int))) with hb2 | hb2
    · replace heq := bif_true hb2 heq
      refine RunH.condT (c := decide (v_j6 < (v_s0.length : Int))) (by kernel_rfl) hb2 ?_
      refine RunH.adm 4 (es' := [.c [1, 1, 1, 0, 1, 0, 0, 1, 0, 0, 0], .c [1, 1, 1, 0, 1, 0, 0, 1, 0, 0, 1], .b 1, .c [1, 1, 1, 0, 1, 0, 0, 1, 1], .l [1, 1, 1, 0, 1, 0, 0], .b 0, .c [1, 1, 1, 1]]) (by kernel_rfl) ?_
      refine RunH.reg (by kernel_rfl) ?_
      obtain ⟨x1, hx1, heq⟩ := bind_some heq
      obtain ⟨ha1, cs1, hK1, hcc1⟩ := hov_s0.get hx1
      obtain ⟨A1, c1, rfl, hc1, hr1⟩ := kEntry_open hK1
      refine RgH.runk 4 [0, 1, 5, 6, 25] (vs := [.string x1.Key, .slice A1 x1.Refs.length c1, .int .i64 x1.Used]) (evs := [.need (Av_s0 = some (adr Av_s0) ∧ (0 : Int) ≤ v_j6 ∧ v_j6 < ((v_s0.length : Nat) : Int)), .load (((adr Av_s0).add (v_j6.toNat * 3)).add 0) (.string x1.Key), .load (((adr Av_s0).add (v_j6.toNat * 3)).add 1) (.slice A1 x1.Refs.length c1), .load (((adr Av_s0).add (v_j6.toNat * 3)).add 2) (.int .i64 x1.Used)]) (L' := [(0, .slice Av_s0 v_s0.length cv_s0), (1, .func (.func 77) #[] #[.pointer (some ⟨ga1q0, 0, none⟩)]), (5, .int .i64 v_i5), (6, .int .i64 v_j6), (25, .agg #[.string x1.Key, .slice A1 x1.Refs.length c1, .int .i64 x1.Used])]) (by kernel_rfl) (by kernel_rfl) (fun w hh => ⟨⟨ha1, (at?_some hx1).1, (at?_some hx1).2.1⟩, (hcc1 _ (hh.chin 0 rfl) 0 _ rfl), (hcc1 _ (hh.chin 0 rfl) 1 _ rfl), (hcc1 _ (hh.chin 0 rfl) 2 _ rfl)⟩) ?_
      refine RgH.does (DoesH.new (d := 7) (v := fun g => .pointer (some ⟨g, 0, none⟩)) (o := fun g => .cells #[.string ByteArray.empty, .slice none 0 0, .int .i64 0] 51 (0, 0)) (fun g => by kernel_rfl)) ?_
      rintro _ _ _ _ ⟨g1, rfl, rfl, rfl⟩
      refine RgH.does (DoesH.store (k := 0) (g := g1) (off := 0) (v := .agg #[.string x1.Key, .slice A1 x1.Refs.length c1, .int .i64 x1.Used]) (cells' := #[.string x1.Key, .slice A1 x1.Refs.length c1, .int .i64 x1.Used]) (by kernel_rfl) rfl (by kernel_rfl) (by kernel_rfl)) ?_
      rintro _ _ _ _ ⟨rfl, rfl, rfl⟩
      refine RgH.done (by kernel_rfl) ?_
      refine RunH.adm 1 (es' := [.c [1, 1, 1, 0, 1, 0, 0, 1, 0, 0, 1, 0], .c [1, 1, 1, 0, 1, 0, 0, 1, 0, 0, 1, 1], .b 1, .c [1, 1, 1, 0, 1, 0, 0, 1, 1], .l [1, 1, 1, 0, 1, 0, 0], .b 0, .c [1, 1, 1, 1]]) (by kernel_rfl) ?_
      refine RunH.reg (by kernel_rfl) ?_
      refine RgH.runk 2 [0, 1, 5, 6, 7, 26, 27] (vs := [.string x1.Key, .slice A1 x1.Refs.length c1, .int .i64 x1.Used]) (evs := [.load ⟨g1, 0, none⟩ (.string x1.Key), .load ⟨g1, 1, none⟩ (.slice A1 x1.Refs.length c1), .load ⟨g1, 2, none⟩ (.int .i64 x1.Used)]) (L' := [(0, .slice Av_s0 v_s0.length cv_s0), (1, .func (.func 77) #[] #[.pointer (some ⟨ga1q0, 0, none⟩)]), (5, .int .i64 v_i5), (6, .int .i64 v_j6), (7, .pointer (some ⟨g1, 0, none⟩)), (26, .func (.func 77) #[] #[.pointer (some ⟨ga1q0, 0, none⟩)]), (27, .agg #[.string x1.Key, .slice A1 x1.Refs.length c1, .int .i64 x1.Used])]) (by kernel_rfl) (by kernel_rfl) (fun w hh => ⟨(hh.box 0 rfl rfl), (hh.box 0 rfl rfl), (hh.box 0 rfl rfl)⟩) ?_
      obtain ⟨y2, hy2, heq⟩ := bind_some heq
      refine RgH.does (DoesH.call (d := 28) (g := 77) (args := #[.agg #[.string x1.Key, .slice A1 x1.Refs.length c1, .int .i64 x1.Used], .pointer (some ⟨ga1q0, 0, none⟩)]) (by kernel_rfl) (cache_Swept_2_c (a0 := x1) (a1 := a1q0) (Rw.of hr1) hc1 rfl (hra1q0_0.wk (fun _ h => (.tail _ (.tail _ h)))) (hga1q0.wk (fun _ h => (.tail _ (.tail _ h)))) hy2)) ?_
      rintro _ _ _ _ ⟨_, rfl, rfl, rfl, rfl⟩
      refine RgH.runk 4 [0, 1, 5, 6, 7, 29] (vs := []) (evs := []) (L' := [(0, .slice Av_s0 v_s0.length cv_s0), (1, .func (.func 77) #[] #[.pointer (some ⟨ga1q0, 0, none⟩)]), (5, .int .i64 v_i5), (6, .int .i64 v_j6), (7, .pointer (some ⟨g1, 0, none⟩)), (29, .bool (!y2))]) (by kernel_rfl) (by kernel_rfl) (fun _ _ => trivial) ?_
      refine RgH.done (by kernel_rfl) ?_
      rcases bool_cases (!y2) with hb3 | hb3
      · replace heq := bif_true hb3 heq
        refine RunH.condT (c := !y2) (by kernel_rfl) hb3 ?_
        refine RunH.adm 1 (es' := [.c [1, 1, 1, 0, 1, 0, 0, 1, 0, 0, 1, 1, 0, 0], .c [1, 1, 1, 0, 1, 0, 0, 1, 0, 0, 1, 1, 0, 1], .b 1, .c [1, 1, 1, 0, 1, 0, 0, 1, 1], .l [1, 1, 1, 0, 1, 0, 0], .b 0, .c [1, 1, 1, 1]]) (by kernel_rfl) ?_
        refine RunH.reg (by kernel_rfl) ?_
        obtain ⟨x2, hx2, heq⟩ := bind_some heq
        obtain ⟨ha2, cs2, hK2, hcc2⟩ := hov_s0.get hx2
        obtain ⟨A2, c2, rfl, hc2, hr2⟩ := kEntry_open hK2
        refine RgH.runk 4 [0, 1, 5, 6, 32, 33] (vs := [.string x1.Key, .slice A1 x1.Refs.length c1, .int .i64 x1.Used]) (evs := [.load ⟨g1, 0, none⟩ (.string x1.Key), .load ⟨g1, 1, none⟩ (.slice A1 x1.Refs.length c1), .load ⟨g1, 2, none⟩ (.int .i64 x1.Used), .need (Av_s0 = some (adr Av_s0) ∧ (0 : Int) ≤ v_i5 ∧ v_i5 < ((v_s0.length : Nat) : Int))]) (L' := [(0, .slice Av_s0 v_s0.length cv_s0), (1, .func (.func 77) #[] #[.pointer (some ⟨ga1q0, 0, none⟩)]), (5, .int .i64 v_i5), (6, .int .i64 v_j6), (32, .agg #[.string x1.Key, .slice A1 x1.Refs.length c1, .int .i64 x1.Used]), (33, .pointer (some ((adr Av_s0).add (v_i5.toNat * 3))))]) (by kernel_rfl) (by kernel_rfl) (fun w hh => ⟨(hh.box 0 rfl rfl), (hh.box 0 rfl rfl), (hh.box 0 rfl rfl), ⟨ha2, (at?_some hx2).1, (at?_some hx2).2.1⟩⟩) ?_
        obtain ⟨ha3, cs3, hK3, hcc3⟩ := hov_s0.get hx2
        obtain ⟨A3, c3, rfl, hc3, hr3⟩ := kEntry_open hK3
        refine RgH.does (DoesH.storeEl (a := ((adr Av_s0).add (v_i5.toNat * 3))) (k := 1) (kd := kEntry) (c0 := [.string x2.Key, .slice A3 x2.Refs.length c3, .int .i64 x2.Used]) (x' := x1) (o := 0) (ix := v_i5) (v := .agg #[.string x1.Key, .slice A1 x1.Refs.length c1, .int .i64 x1.Used]) (by kernel_rfl) rfl hov_s0 hx2 (by kernel_rfl) hcc3 rfl (Nat.le_of_ble_eq_true (by kernel_rfl)) (kEntry_mk hc1 hr1)) ?_
        rintro _ _ _ _ ⟨ch2, rfl, rfl, rfl, ho4⟩
        have hn6 : v_s0.length = (v_s0.set v_i5.toNat x1).length := by rw [List.length_set]
        refine RgH.done (by kernel_rfl) ?_
        refine RunH.reg (by kernel_rfl) ?_
        refine RgH.runk 3 [0, 1, 5, 6] (vs := []) (evs := []) (L' := [(0, .slice Av_s0 v_s0.length cv_s0), (1, .func (.func 77) #[] #[.pointer (some ⟨ga1q0, 0, none⟩)]), (5, .int .i64 (w64 (v_i5 + 1))), (6, .int .i64 v_j6)]) (by kernel_rfl) (by kernel_rfl) (fun _ _ => trivial) ?_
        refine RgH.done (by kernel_rfl) ?_
        refine RunH.adm 1 (es' := [.c [1, 1, 1, 0, 1, 0, 0, 1, 1], .l [1, 1, 1, 0, 1, 0, 0], .b 0, .c [1, 1, 1, 1]]) (by kernel_rfl) ?_
        refine RunH.keep [0, 1, 5, 6] (L' := [(0, .slice Av_s0 v_s0.length cv_s0), (1, .func (.func 77) #[] #[.pointer (some ⟨ga1q0, 0, none⟩)]), (5, .int .i64 (w64 (v_i5 + 1))), (6, .int .i64 v_j6)]) (by kernel_rfl) ?_
        refine RunH.pick 2 [1] (cs' := ch2 :: F) (by kernel_rfl) rfl ?_
        exact (slices_DeleteFunc_Entry.j3_c (backl2 := (slices_DeleteFunc_Entry.l2 e1 k)) ihk) _ a1q0 _ v_j6 (v_s0.set v_i5.toNat x1) _ _ _ _ (w64 (v_i5 + 1)) hra1q0_0 hga1q0 ho4 hn6 heq
      · replace heq := bif_false hb3 heq
        refine RunH.condF (c := !y2) (by kernel_rfl) hb3 ?_
        refine RunH.adm 2 (es' := [.c [1, 1, 1, 0, 1, 0, 0, 1, 1], .l [1, 1, 1, 0, 1, 0, 0], .b 0, .c [1, 1, 1, 1]]) (by kernel_rfl) ?_
        refine RunH.keep [0, 1, 5, 6] (L' := [(0, .slice Av_s0 v_s0.length cv_s0), (1, .func (.func 77) #[] #[.pointer (some ⟨ga1q0, 0, none⟩)]), (5, .int .i64 v_i5), (6, .int .i64 v_j6)]) (by kernel_rfl) ?_
        refine RunH.pick 2 [1] (cs' := chv_s0 :: F) (by kernel_rfl) rfl ?_
        exact (slices_DeleteFunc_Entry.j3_c (backl2 := (slices_DeleteFunc_Entry.l2 e1 k)) ihk) _ a1q0 _ v_j6 v_s0 _ _ _ _ v_i5 hra1q0_0 hga1q0 hov_s0 rfl heq
    · replace heq := bif_false hb2 heq
      refine RunH.condF (c := decide (v_j6 < (v_s0.length : Int))) (by kernel_rfl) hb2 ?_
      refine RunH.adm 2 (es' := [.c [1, 1, 1, 1, 0], .c [1, 1, 1, 1, 1]]) (by kernel_rfl) ?_
      refine RunH.keep [0, 5] (L' := [(0, .slice Av_s0 v_s0.length cv_s0), (5, .int .i64 v_i5)]) (by kernel_rfl) ?_
      exact he1 v_s0 _ _ _ _ v_i5 hov_s0 rfl heq
theorem slices_DeleteFunc_Entry_c {w0 : World} {H : Hp} {F : List Ch} {a0 : List Entry} {Aa0 : Option Addr} {na0 : Nat} {ca0 : Nat} {cha0 : Ch} {ga1q0 : Nat} {a1q0 : List (ByteArray × Bool)} {Aa1q0_0 : Option Nat} {r : (List Entry)} (hoa0 : SlOwn kEntry 51 H Aa0 ca0 a0 cha0) (hna0 : na0 = a0.length) (hra1q0_0 : Mw Value.string Kd.bool false H F Aa1q0_0 a1q0) (hga1q0 : InG H F ga1q0 (.cells #[.map Aa1q0_0] 101 (0, 0))) (heq : slices_DeleteFunc_Entry.f a0 a1q0 = some r) : CallsH Tryd.prog 76 #[.slice Aa0 na0 ca0, .func (.func 77) #[] #[.pointer (some ⟨ga1q0, 0, none⟩)]] H w0 (cha0 :: F) (S76 F H r) := by
  refine calls_of_runH (F := C76) Tryd.func76 (by kernel_rfl) Tryd.ntmps76 (args := [.slice Aa0 na0 ca0, .func (.func 77) #[] #[.pointer (some ⟨ga1q0, 0, none⟩)]]) (by kernel_rfl) ?_
  subst hna0
  unfold slices_DeleteFunc_Entry.f at heq
  refine RunH.adm 1 (es' := [.c [0], .c [1]]) (by kernel_rfl) ?_
  refine RunH.reg (by kernel_rfl) ?_
  refine RgH.runk 1 [0, 1] (vs := []) (evs := []) (L' := [(0, .slice Aa0 a0.length ca0), (1, .func (.func 77) #[] #[.pointer (some ⟨ga1q0, 0, none⟩)])]) (by kernel_rfl) (by kernel_rfl) (fun _ _ => trivial) ?_
  refine RgH.done (by kernel_rfl) ?_
  refine RunH.adm 1 (es' := [.c [1, 0], .c [1, 1]]) (by kernel_rfl) ?_
  refine RunH.reg (by kernel_rfl) ?_
  refine RgH.runk 2 [0, 1, 8, 9] (vs := []) (evs := []) (L' := [(0, .slice Aa0 a0.length ca0), (1, .func (.func 77) #[] #[.pointer (some ⟨ga1q0, 0, none⟩)]), (8, .slice Aa0 a0.length ca0), (9, .func (.func 77) #[] #[.pointer (some ⟨ga1q0, 0, none⟩)])]) (by kernel_rfl) (by kernel_rfl) (fun _ _ => trivial) ?_
  obtain ⟨y1, hy1, heq⟩ := bind_some heq
  refine RgH.does (DoesH.call (d := 10) (g := 111) (args := #[.slice Aa0 a0.length ca0, .func (.func 77) #[] #[.pointer (some ⟨ga1q0, 0, none⟩)]]) (by kernel_rfl) (slices_IndexFunc_Entry_c (a0 := a0) (a1q0 := a1q0) (hoa0.rw (.head _)) hoa0.cap rfl (hra1q0_0.wk (fun _ h => (.tail _ h))) (hga1q0.wk (fun _ h => (.tail _ h))) hy1)) ?_
  rintro _ _ _ _ ⟨_, rfl, rfl, rfl, rfl⟩
  refine RgH.runk 4 [0, 1, 5] (vs := []) (evs := []) (L' := [(0, .slice Aa0 a0.length ca0), (1, .func (.func 77) #[] #[.pointer (some ⟨ga1q0, 0, none⟩)]), (5, .int .i64 y1)]) (by kernel_rfl) (by kernel_rfl) (fun _ _ => trivial) ?_
  refine RgH.done (by kernel_rfl) ?_
  refine RunH.adm 2 (es' := [.c [1, 1, 0, 0], .c [1, 1, 0, 1], .c [1, 1, 1]]) (by kernel_rfl) ?_
  refine RunH.reg (by kernel_rfl) ?_
  refine RgH.runk 2 [0, 1, 5, 12] (vs := []) (evs := []) (L' := [(0, .slice Aa0 a0.length ca0), (1, .func (.func 77) #[] #[.pointer (some ⟨ga1q0, 0, none⟩)]), (5, .int .i64 y1), (12, .bool (y1 == (-1)))]) (by kernel_rfl) (by kernel_rfl) (fun _ _ => trivial) ?_
  refine RgH.done (by kernel_rfl) ?_
  rcases bool_cases (y1 == (-1)) with hb1 | hb1
  · replace heq := bif_true hb1 heq
    refine RunH.condT (c := y1 == (-1)) (by kernel_rfl) hb1 ?_
    refine RunH.adm 1 (es' := [.c [1, 1, 0, 1, 0, 0], .c [1, 1, 0, 1, 0, 1], .c [1, 1, 1]]) (by kernel_rfl) ?_
    refine RunH.reg (by kernel_rfl) ?_
    refine RgH.runk 2 [4] (vs := []) (evs := []) (L' := [(4, .slice Aa0 a0.length ca0)]) (by kernel_rfl) (by kernel_rfl) (fun _ _ => trivial) ?_
    refine RgH.done (by kernel_rfl) ?_
    obtain rfl := Option.some.inj heq
    exact RunH.done (by kernel_rfl) Tryd.func76 (v := .slice Aa0 a0.length ca0) (by kernel_rfl) ⟨Aa0, ca0, cha0, rfl, rfl, rfl, hoa0⟩
  · replace heq := bif_false hb1 heq
    refine RunH.condF (c := y1 == (-1)) (by kernel_rfl) hb1 ?_
    refine RunH.adm 3 (es' := [.c [1, 1, 1, 0, 0], .c [1, 1, 1, 0, 1], .c [1, 1, 1, 1]]) (by kernel_rfl) ?_
    refine RunH.reg (by kernel_rfl) ?_
    refine RgH.runk 3 [0, 1, 5, 6] (vs := []) (evs := []) (L' := [(0, .slice Aa0 a0.length ca0), (1, .func (.func 77) #[] #[.pointer (some ⟨ga1q0, 0, none⟩)]), (5, .int .i64 y1), (6, .int .i64 (w64 (y1 + 1)))]) (by kernel_rfl) (by kernel_rfl) (fun _ _ => trivial) ?_
    refine RgH.done (by kernel_rfl) ?_
    refine RunH.adm 2 (es' := [.c [1, 1, 1, 0, 1, 0, 0], .l [1, 1, 1, 0, 1, 0, 0], .b 0, .c [1, 1, 1, 1]]) (by kernel_rfl) ?_
    refine RunH.keep [0, 1, 5, 6] (L' := [(0, .slice Aa0 a0.length ca0), (1, .func (.func 77) #[] #[.pointer (some ⟨ga1q0, 0, none⟩)]), (5, .int .i64 y1), (6, .int .i64 (w64 (y1 + 1)))]) (by kernel_rfl) ?_
    exact ((slices_DeleteFunc_Entry.l2_c (e1 := slices_DeleteFunc_Entry.e1) (slices_DeleteFunc_Entry.e1_c)) big) _ a1q0 _ a0 _ _ _ _ y1 (w64 (y1 + 1)) hra1q0_0 hga1q0 hoa0 rfl heq
noncomputable def C30 : Ctx := { P := Tryd.prog, f := 30, N := 93, c := bodyOf Tryd.f30 }
def S30 (F : List Ch) (H0 : Hp) (r : Cache × (List ByteArray) × Int) (v : Value) (H : Hp) (cs : List Ch) : Prop := ∃ (A0_2 : Option Addr) (c0_2 : Nat) (ch0_2 : Ch) (A0_3 : Option Addr) (c0_3 : Nat) (ch0_3 : Ch) (A1 : Option Addr) (c1 : Nat) (ch1 : Ch), v = .tuple #[.agg #[.int .i64 r.1.Room, .int .i64 r.1.Lease, .slice A0_2 r.1.Blobs.length c0_2, .slice A0_3 r.1.Entries.length c0_3], .slice A1 r.2.1.length c1, .int .i64 r.2.2] ∧ ch0_2 :: ch0_3 :: ch1 :: F = cs ∧ SlOwn kBlob 47 H A0_2 c0_2 r.1.Blobs ch0_2 ∧ SlOwn kEntry 51 H A0_3 c0_3 r.1.Entries ch0_3 ∧ SlOwn Kd.string 9 H A1 c1 r.2.1 ch1
theorem cache_Swept.e2_c {w0 : World} {H0 : Hp} {F : List Ch} {r : Cache × (List ByteArray) × Int} : ∀ (H : Hp) (a2 : Int) (g1 : Nat) (g2 : Nat) (g3 : Nat) (y3 : Cache) (A1 : Option Addr) (c1 : Nat) (ch1 : Ch) (A2 : Option Addr) (c2 : Nat) (ch2 : Ch) (g6 : Nat) (g7 : Nat) (v_isRoot12_0 : List (ByteArray × Bool)) (gv_isRoot12_0 : Nat) (chv_isRoot12_0 : Ch) (v_wanted11_0 : List (ByteArray × Bool)) (gv_wanted11_0 : Nat) (chv_wanted11_0 : Ch) , SlOwn kBlob 47 H A1 c1 y3.Blobs ch1 → SlOwn kEntry 51 H A2 c2 y3.Entries ch2 → MpOwn Value.string Kd.bool false H gv_isRoot12_0 v_isRoot12_0 chv_isRoot12_0 → MpOwn Value.string Kd.bool false H gv_wanted11_0 v_wanted11_0 chv_wanted11_0 → cache_Swept.e2 a2 y3 v_isRoot12_0 v_wanted11_0 = some r → RunH C30 (S30 F H0 r) H0 w0 [.c [1, 1, 1, 1, 1, 1, 1, 0], .c [1, 1, 1, 1, 1, 1, 1, 1]] [(3, .pointer (some ⟨g1, 0, none⟩)), (5, .pointer (some ⟨g2, 0, none⟩)), (6, .pointer (some ⟨g3, 0, none⟩)), (11, .pointer (some ⟨g6, 0, none⟩)), (12, .pointer (some ⟨g7, 0, none⟩))] H ((some (g7, .cells #[.map (some gv_isRoot12_0)] 101 (0, 0))) :: (some (g6, .cells #[.map (some gv_wanted11_0)] 101 (0, 0))) :: chv_isRoot12_0 :: chv_wanted11_0 :: ch1 :: ch2 :: (some (g3, .cells #[.int .i64 0, .int .i64 0, .slice none 0 0, .slice none 0 0] 25 (0, 0))) :: (some (g2, .cells #[.int .i64 a2] 3 (0, 0))) :: (some (g1, .cells #[.int .i64 y3.Room, .int .i64 y3.Lease, .slice A1 y3.Blobs.length c1, .slice A2 y3.Entries.length c2] 25 (0, 0))) :: F) := by
  intro H a2 g1 g2 g3 y3 A1 c1 ch1 A2 c2 ch2 g6 g7 v_isRoot12_0 gv_isRoot12_0 chv_isRoot12_0 v_wanted11_0 gv_wanted11_0 chv_wanted11_0 ho7 ho8 hov_isRoot12_0 hov_wanted11_0 heq
  unfold cache_Swept.e2 at heq
  refine RunH.reg (by kernel_rfl) ?_
  refine RgH.runk 2 [3, 5, 6, 11, 12, 79] (vs := [.slice A1 y3.Blobs.length c1]) (evs := [.load ⟨g1, 2, none⟩ (.slice A1 y3.Blobs.length c1)]) (L' := [(3, .pointer (some ⟨g1, 0, none⟩)), (5, .pointer (some ⟨g2, 0, none⟩)), (6, .pointer (some ⟨g3, 0, none⟩)), (11, .pointer (some ⟨g6, 0, none⟩)), (12, .pointer (some ⟨g7, 0, none⟩)), (79, .slice A1 y3.Blobs.length c1)]) (by kernel_rfl) (by kernel_rfl) (fun w hh => (hh.box 8 rfl rfl)) ?_
  obtain ⟨y4, hy4, heq⟩ := bind_some heq
  refine RgH.does (DoesH.call (d := 80) (g := 55) (args := #[.slice A1 y3.Blobs.length c1]) (by kernel_rfl) (slices_Clone_Blob_c (a0 := y3.Blobs) (ho7.rw (.tail _ (.tail _ (.tail _ (.tail _ (.head _)))))) ho7.cap rfl hy4)) ?_
  rintro _ _ _ _ ⟨_, rfl, A3, c3, ch3, rfl, rfl, rfl, ho11⟩
  refine RgH.runk 4 [3, 6, 12, 80, 81] (vs := []) (evs := []) (L' := [(3, .pointer (some ⟨g1, 0, none⟩)), (6, .pointer (some ⟨g3, 0, none⟩)), (12, .pointer (some ⟨g7, 0, none⟩)), (80, .slice A3 y4.length c3), (81, .func (.func 73) #[] #[.pointer (some ⟨g2, 0, none⟩), .pointer (some ⟨g6, 0, none⟩)])]) (by kernel_rfl) (by kernel_rfl) (fun _ _ => trivial) ?_
  obtain ⟨y5, hy5, heq⟩ := bind_some heq
  refine RgH.does (DoesH.call (d := 82) (g := 72) (args := #[.slice A3 y4.length c3, .func (.func 73) #[] #[.pointer (some ⟨g2, 0, none⟩), .pointer (some ⟨g6, 0, none⟩)]]) (by kernel_rfl) (slices_DeleteFunc_Blob_c (a0 := y4) (a1q0 := a2) (a1q1 := v_wanted11_0) ho11 rfl (.inr (.tail _ (.tail _ (.tail _ (.tail _ (.tail _ (.tail _ (.tail _ (.head _))))))))) (hov_wanted11_0.mw (.tail _ (.tail _ (.tail _ (.head _))))) (.inr (.tail _ (.head _))) hy5)) ?_
  rintro _ _ _ _ ⟨_, rfl, A4, c4, ch4, rfl, rfl, rfl, ho12⟩
  obtain ⟨y6, hy6, heq⟩ := bind_some heq
  refine RgH.does (DoesH.call (d := 83) (g := 71) (args := #[.slice A4 y5.length c4]) (by kernel_rfl) (cache_digestsOf_c (a0 := y5) (ho12.rw (.head _)) ho12.cap rfl hy6)) ?_
  rintro _ _ _ _ ⟨_, rfl, A5, c5, ch5, rfl, rfl, rfl, ho13⟩
  refine RgH.runk 7 [3, 6, 12, 19] (vs := []) (evs := []) (L' := [(3, .pointer (some ⟨g1, 0, none⟩)), (6, .pointer (some ⟨g3, 0, none⟩)), (12, .pointer (some ⟨g7, 0, none⟩)), (19, .slice A5 y6.length c5)]) (by kernel_rfl) (by kernel_rfl) (fun _ _ => trivial) ?_
  refine RgH.done (by kernel_rfl) ?_
  refine RunH.adm 1 (es' := [.c [1, 1, 1, 1, 1, 1, 1, 1, 0], .c [1, 1, 1, 1, 1, 1, 1, 1, 1]]) (by kernel_rfl) ?_
  refine RunH.reg (by kernel_rfl) ?_
  refine RgH.runk 1 [3, 6, 12, 19, 84] (vs := []) (evs := []) (L' := [(3, .pointer (some ⟨g1, 0, none⟩)), (6, .pointer (some ⟨g3, 0, none⟩)), (12, .pointer (some ⟨g7, 0, none⟩)), (19, .slice A5 y6.length c5), (84, .slice A5 y6.length c5)]) (by kernel_rfl) (by kernel_rfl) (fun _ _ => trivial) ?_
  refine RgH.pick 11 [10, 6, 7, 0, 1, 2, 3, 4, 5, 8, 9] (cs' := (some (g1, .cells #[.int .i64 y3.Room, .int .i64 y3.Lease, .slice A1 y3.Blobs.length c1, .slice A2 y3.Entries.length c2] 25 (0, 0))) :: ch1 :: ch2 :: ch5 :: ch4 :: (some (g7, .cells #[.map (some gv_isRoot12_0)] 101 (0, 0))) :: (some (g6, .cells #[.map (some gv_wanted11_0)] 101 (0, 0))) :: chv_isRoot12_0 :: chv_wanted11_0 :: (some (g3, .cells #[.int .i64 0, .int .i64 0, .slice none 0 0, .slice none 0 0] 25 (0, 0))) :: (some (g2, .cells #[.int .i64 a2] 3 (0, 0))) :: F) (by kernel_rfl) rfl ?_
  obtain ⟨y7, hy7, heq⟩ := bind_some heq
  refine RgH.does (DoesH.call (d := 85) (g := 75) (args := #[.pointer (some ⟨g1, 0, none⟩), .slice A5 y6.length c5]) (by kernel_rfl) (cache_drop_c (a0 := (⟨y3.Room, y3.Lease, y3.Blobs, y3.Entries⟩ : Cache)) (a1 := y6) ho7 rfl ho8 rfl (ho13.rw (.head _)) ho13.cap rfl hy7)) ?_
  rintro _ _ _ _ ⟨_, rfl, A6, c6, ch6, A7, c7, ch7, rfl, rfl, rfl, ho14, ho15⟩
  refine RgH.done (by kernel_rfl) ?_
  refine RunH.adm 1 (es' := [.c [1, 1, 1, 1, 1, 1, 1, 1, 1, 0], .c [1, 1, 1, 1, 1, 1, 1, 1, 1, 1]]) (by kernel_rfl) ?_
  refine RunH.reg (by kernel_rfl) ?_
  refine RgH.runk 3 [3, 6, 19, 87, 88] (vs := [.slice A7 y7.Entries.length c7]) (evs := [.load ⟨g1, 3, none⟩ (.slice A7 y7.Entries.length c7)]) (L' := [(3, .pointer (some ⟨g1, 0, none⟩)), (6, .pointer (some ⟨g3, 0, none⟩)), (19, .slice A5 y6.length c5), (87, .slice A7 y7.Entries.length c7), (88, .func (.func 77) #[] #[.pointer (some ⟨g7, 0, none⟩)])]) (by kernel_rfl) (by kernel_rfl) (fun w hh => (hh.box 0 rfl rfl)) ?_
  refine RgH.pick 11 [2, 0, 1, 3, 4, 5, 6, 7, 8, 9, 10] (cs' := ch7 :: (some (g1, .cells #[.int .i64 y7.Room, .int .i64 y7.Lease, .slice A6 y7.Blobs.length c6, .slice A7 y7.Entries.length c7] 25 (0, 0))) :: ch6 :: ch5 :: ch4 :: (some (g7, .cells #[.map (some gv_isRoot12_0)] 101 (0, 0))) :: (some (g6, .cells #[.map (some gv_wanted11_0)] 101 (0, 0))) :: chv_isRoot12_0 :: chv_wanted11_0 :: (some (g3, .cells #[.int .i64 0, .int .i64 0, .slice none 0 0, .slice none 0 0] 25 (0, 0))) :: (some (g2, .cells #[.int .i64 a2] 3 (0, 0))) :: F) (by kernel_rfl) rfl ?_
  obtain ⟨y8, hy8, heq⟩ := bind_some heq
  refine RgH.does (DoesH.call (d := 89) (g := 76) (args := #[.slice A7 y7.Entries.length c7, .func (.func 77) #[] #[.pointer (some ⟨g7, 0, none⟩)]]) (by kernel_rfl) (slices_DeleteFunc_Entry_c (a0 := y7.Entries) (a1q0 := v_isRoot12_0) ho15 rfl (hov_isRoot12_0.mw (.tail _ (.tail _ (.tail _ (.tail _ (.tail _ (.tail _ (.head _)))))))) (.inr (.tail _ (.tail _ (.tail _ (.tail _ (.head _)))))) hy8)) ?_
  rintro _ _ _ _ ⟨_, rfl, A8, c8, ch8, rfl, rfl, rfl, ho16⟩
  refine RgH.runk 5 [3, 6, 19, 89, 90] (vs := []) (evs := []) (L' := [(3, .pointer (some ⟨g1, 0, none⟩)), (6, .pointer (some ⟨g3, 0, none⟩)), (19, .slice A5 y6.length c5), (89, .slice A8 y8.length c8), (90, .pointer (some ⟨g1, 3, none⟩))]) (by kernel_rfl) (by kernel_rfl) (fun _ _ => trivial) ?_
  refine RgH.does (DoesH.store (k := 1) (g := g1) (off := 3) (v := .slice A8 y8.length c8) (cells' := #[.int .i64 y7.Room, .int .i64 y7.Lease, .slice A6 y7.Blobs.length c6, .slice A8 y8.length c8]) (by kernel_rfl) rfl (by kernel_rfl) (by kernel_rfl)) ?_
  rintro _ _ _ _ ⟨rfl, rfl, rfl⟩
  refine RgH.done (by kernel_rfl) ?_
  refine RunH.adm 1 (es' := [.c [1, 1, 1, 1, 1, 1, 1, 1, 1, 1, 0], .c [1, 1, 1, 1, 1, 1, 1, 1, 1, 1, 1]]) (by kernel_rfl) ?_
  refine RunH.reg (by kernel_rfl) ?_
  refine RgH.runk 2 [6, 91, 92] (vs := [.int .i64 y7.Room, .int .i64 y7.Lease, .slice A6 y7.Blobs.length c6, .slice A8 y8.length c8]) (evs := [.load ⟨g1, 0, none⟩ (.int .i64 y7.Room), .load ⟨g1, 1, none⟩ (.int .i64 y7.Lease), .load ⟨g1, 2, none⟩ (.slice A6 y7.Blobs.length c6), .load ⟨g1, 3, none⟩ (.slice A8 y8.length c8)]) (L' := [(6, .pointer (some ⟨g3, 0, none⟩)), (91, .agg #[.int .i64 y7.Room, .int .i64 y7.Lease, .slice A6 y7.Blobs.length c6, .slice A8 y8.length c8]), (92, .slice A5 y6.length c5)]) (by kernel_rfl) (by kernel_rfl) (fun w hh => ⟨(hh.box 1 rfl rfl), (hh.box 1 rfl rfl), (hh.box 1 rfl rfl), (hh.box 1 rfl rfl)⟩) ?_
  refine RgH.does (DoesH.store (k := 9) (g := g3) (off := 0) (v := .agg #[.int .i64 y7.Room, .int .i64 y7.Lease, .slice A6 y7.Blobs.length c6, .slice A8 y8.length c8]) (cells' := #[.int .i64 y7.Room, .int .i64 y7.Lease, .slice A6 y7.Blobs.length c6, .slice A8 y8.length c8]) (by kernel_rfl) rfl (by kernel_rfl) (by kernel_rfl)) ?_
  rintro _ _ _ _ ⟨rfl, rfl, rfl⟩
  refine RgH.runk 5 [6, 7, 8] (vs := []) (evs := []) (L' := [(6, .pointer (some ⟨g3, 0, none⟩)), (7, .slice A5 y6.length c5), (8, .int .i64 0)]) (by kernel_rfl) (by kernel_rfl) (fun _ _ => trivial) ?_
  refine RgH.done (by kernel_rfl) ?_
  obtain rfl := Option.some.inj heq
  refine RunH.pick 11 [9, 2, 0, 3] (cs' := (some (g3, .cells #[.int .i64 y7.Room, .int .i64 y7.Lease, .slice A6 y7.Blobs.length c6, .slice A8 y8.length c8] 25 (0, 0))) :: ch6 :: ch8 :: ch5 :: F) (by kernel_rfl) rfl ?_
  exact RunH.doneM' 1 (vs := [.agg #[.int .i64 y7.Room, .int .i64 y7.Lease, .slice A6 y7.Blobs.length c6, .slice A8 y8.length c8], .slice A5 y6.length c5, .int .i64 0]) (v := .tuple #[.agg #[.int .i64 y7.Room, .int .i64 y7.Lease, .slice A6 y7.Blobs.length c6, .slice A8 y8.length c8], .slice A5 y6.length c5, .int .i64 0]) (by kernel_rfl) Tryd.func30 (fun w hh => show ResAll _ _ _ [.cell 6 25, .tmp 7, .tmp 8] _ from ⟨⟨⟨g3, 0, none⟩, by kernel_rfl, trS_run _ (vs := [.int .i64 y7.Room, .int .i64 y7.Lease, .slice A6 y7.Blobs.length c6, .slice A8 y8.length c8]) (r := []) (es := [.load ⟨g3, 0, none⟩ (.int .i64 y7.Room), .load ⟨g3, 1, none⟩ (.int .i64 y7.Lease), .load ⟨g3, 2, none⟩ (.slice A6 y7.Blobs.length c6), .load ⟨g3, 3, none⟩ (.slice A8 y8.length c8)]) (by kernel_rfl) ⟨(hh.box 0 rfl rfl), (hh.box 0 rfl rfl), (hh.box 0 rfl rfl), (hh.box 0 rfl rfl)⟩⟩, (show lk _ _ = some _ by kernel_rfl), (show lk _ _ = some _ by kernel_rfl), trivial⟩) rfl (cs' := ch6 :: ch8 :: ch5 :: F) rfl ⟨A6, c6, ch6, A8, c8, ch8, A5, c5, ch5, rfl, rfl, ho14, ho16, ho13⟩
theorem cache_Swept.j4_c {w0 : World} {H0 : Hp} {F : List Ch} {r : Cache × (List ByteArray) × Int} (backl3 : Int → Cache → (List (ByteArray × Bool)) → (List (ByteArray × Bool)) → Int → Option (Cache × (List ByteArray) × Int))
    (hbackl3 : ∀ (H : Hp) (a2 : Int) (g1 : Nat) (g2 : Nat) (g3 : Nat) (y3 : Cache) (A1 : Option Addr) (c1 : Nat) (ch1 : Ch) (A2 : Option Addr) (c2 : Nat) (ch2 : Ch) (g6 : Nat) (g7 : Nat) (v_isRoot12_0 : List (ByteArray × Bool)) (gv_isRoot12_0 : Nat) (chv_isRoot12_0 : Ch) (v_wanted11_0 : List (ByteArray × Bool)) (gv_wanted11_0 : Nat) (chv_wanted11_0 : Ch) (v51 : Int) , SlOwn kBlob 47 H A1 c1 y3.Blobs ch1 → SlOwn kEntry 51 H A2 c2 y3.Entries ch2 → MpOwn Value.string Kd.bool false H gv_isRoot12_0 v_isRoot12_0 chv_isRoot12_0 → MpOwn Value.string Kd.bool false H gv_wanted11_0 v_wanted11_0 chv_wanted11_0 → backl3 a2 y3 v_isRoot12_0 v_wanted11_0 v51 = some r → RunH C30 (S30 F H0 r) H0 w0 [.c [1, 1, 1, 1, 1, 1, 0, 1, 0, 0], .l [1, 1, 1, 1, 1, 1, 0, 1, 0, 0], .b 2, .c [1, 1, 1, 1, 1, 1, 1]] [(3, .pointer (some ⟨g1, 0, none⟩)), (5, .pointer (some ⟨g2, 0, none⟩)), (6, .pointer (some ⟨g3, 0, none⟩)), (11, .pointer (some ⟨g6, 0, none⟩)), (12, .pointer (some ⟨g7, 0, none⟩)), (49, .slice A2 y3.Entries.length c2), (50, .int .i64 (y3.Entries.length : Int)), (51, .int .i64 v51)] H ((some (g7, .cells #[.map (some gv_isRoot12_0)] 101 (0, 0))) :: (some (g6, .cells #[.map (some gv_wanted11_0)] 101 (0, 0))) :: chv_isRoot12_0 :: chv_wanted11_0 :: ch1 :: ch2 :: (some (g3, .cells #[.int .i64 0, .int .i64 0, .slice none 0 0, .slice none 0 0] 25 (0, 0))) :: (some (g2, .cells #[.int .i64 a2] 3 (0, 0))) :: (some (g1, .cells #[.int .i64 y3.Room, .int .i64 y3.Lease, .slice A1 y3.Blobs.length c1, .slice A2 y3.Entries.length c2] 25 (0, 0))) :: F)) : ∀ (H : Hp) (a2 : Int) (g1 : Nat) (g2 : Nat) (g3 : Nat) (y3 : Cache) (A1 : Option Addr) (c1 : Nat) (ch1 : Ch) (A2 : Option Addr) (c2 : Nat) (ch2 : Ch) (g6 : Nat) (g7 : Nat) (v_isRoot12_0 : List (ByteArray × Bool)) (gv_isRoot12_0 : Nat) (chv_isRoot12_0 : Ch) (v51 : Int) (v_wanted11_0 : List (ByteArray × Bool)) (gv_wanted11_0 : Nat) (chv_wanted11_0 : Ch) , SlOwn kBlob 47 H A1 c1 y3.Blobs ch1 → SlOwn kEntry 51 H A2 c2 y3.Entries ch2 → MpOwn Value.string Kd.bool false H gv_isRoot12_0 v_isRoot12_0 chv_isRoot12_0 → MpOwn Value.string Kd.bool false H gv_wanted11_0 v_wanted11_0 chv_wanted11_0 → cache_Swept.j4 backl3 a2 y3 v_isRoot12_0 v51 v_wanted11_0 = some r → RunH C30 (S30 F H0 r) H0 w0 [.c [1, 1, 1, 1, 1, 1, 0, 1, 0, 0, 1, 1, 1], .l [1, 1, 1, 1, 1, 1, 0, 1, 0, 0], .b 2, .c [1, 1, 1, 1, 1, 1, 1]] [(3, .pointer (some ⟨g1, 0, none⟩)), (5, .pointer (some ⟨g2, 0, none⟩)), (6, .pointer (some ⟨g3, 0, none⟩)), (11, .pointer (some ⟨g6, 0, none⟩)), (12, .pointer (some ⟨g7, 0, none⟩)), (49, .slice A2 y3.Entries.length c2), (50, .int .i64 (y3.Entries.length : Int)), (51, .int .i64 v51)] H ((some (g7, .cells #[.map (some gv_isRoot12_0)] 101 (0, 0))) :: (some (g6, .cells #[.map (some gv_wanted11_0)] 101 (0, 0))) :: chv_isRoot12_0 :: chv_wanted11_0 :: ch1 :: ch2 :: (some (g3, .cells #[.int .i64 0, .int .i64 0, .slice none 0 0, .slice none 0 0] 25 (0, 0))) :: (some (g2, .cells #[.int .i64 a2] 3 (0, 0))) :: (some (g1, .cells #[.int .i64 y3.Room, .int .i64 y3.Lease, .slice A1 y3.Blobs.length c1, .slice A2 y3.Entries.length c2] 25 (0, 0))) :: F) := by
  intro H a2 g1 g2 g3 y3 A1 c1 ch1 A2 c2 ch2 g6 g7 v_isRoot12_0 gv_isRoot12_0 chv_isRoot12_0 v51 v_wanted11_0 gv_wanted11_0 chv_wanted11_0 ho7 ho8 hov_isRoot12_0 hov_wanted11_0 heq
  unfold cache_Swept.j4 at heq
  refine RunH.reg (by kernel_rfl) ?_
  refine RgH.runk 2 [3, 5, 6, 11, 12, 49, 50, 51] (vs := []) (evs := []) (L' := [(3, .pointer (some ⟨g1, 0, none⟩)), (5, .pointer (some ⟨g2, 0, none⟩)), (6, .pointer (some ⟨g3, 0, none⟩)), (11, .pointer (some ⟨g6, 0, none⟩)), (12, .pointer (some ⟨g7, 0, none⟩)), (49, .slice A2 y3.Entries.length c2), (50, .int .i64 (y3.Entries.length : Int)), (51, .int .i64 (w64 (v51 + 1)))]) (by kernel_rfl) (by kernel_rfl) (fun _ _ => trivial) ?_
  refine RgH.done (by kernel_rfl) ?_
  refine RunH.adm 1 (es' := [.c [1, 1, 1, 1, 1, 1, 0, 1, 0, 0], .l [1, 1, 1, 1, 1, 1, 0, 1, 0, 0], .b 2, .c [1, 1, 1, 1, 1, 1, 1]]) (by kernel_rfl) ?_
  refine RunH.keep [3, 5, 6, 11, 12, 49, 50, 51] (L' := [(3, .pointer (some ⟨g1, 0, none⟩)), (5, .pointer (some ⟨g2, 0, none⟩)), (6, .pointer (some ⟨g3, 0, none⟩)), (11, .pointer (some ⟨g6, 0, none⟩)), (12, .pointer (some ⟨g7, 0, none⟩)), (49, .slice A2 y3.Entries.length c2), (50, .int .i64 (y3.Entries.length : Int)), (51, .int .i64 (w64 (v51 + 1)))]) (by kernel_rfl) ?_
  exact hbackl3 _ a2 _ _ _ y3 _ _ _ _ _ _ _ _ v_isRoot12_0 _ _ v_wanted11_0 _ _ (w64 (v51 + 1)) ho7 ho8 hov_isRoot12_0 hov_wanted11_0 heq
theorem cache_Swept.l5_c {w0 : World} {H0 : Hp} {F : List Ch} {r : Cache × (List ByteArray) × Int} (j4 : Int → Cache → (List (ByteArray × Bool)) → Int → (List (ByteArray × Bool)) → Option (Cache × (List ByteArray) × Int))
    (hj4 : ∀ (H : Hp) (a2 : Int) (g1 : Nat) (g2 : Nat) (g3 : Nat) (y3 : Cache) (A1 : Option Addr) (c1 : Nat) (ch1 : Ch) (A2 : Option Addr) (c2 : Nat) (ch2 : Ch) (g6 : Nat) (g7 : Nat) (v_isRoot12_0 : List (ByteArray × Bool)) (gv_isRoot12_0 : Nat) (chv_isRoot12_0 : Ch) (v51 : Int) (v_wanted11_0 : List (ByteArray × Bool)) (gv_wanted11_0 : Nat) (chv_wanted11_0 : Ch) , SlOwn kBlob 47 H A1 c1 y3.Blobs ch1 → SlOwn kEntry 51 H A2 c2 y3.Entries ch2 → MpOwn Value.string Kd.bool false H gv_isRoot12_0 v_isRoot12_0 chv_isRoot12_0 → MpOwn Value.string Kd.bool false H gv_wanted11_0 v_wanted11_0 chv_wanted11_0 → j4 a2 y3 v_isRoot12_0 v51 v_wanted11_0 = some r → RunH C30 (S30 F H0 r) H0 w0 [.c [1, 1, 1, 1, 1, 1, 0, 1, 0, 0, 1, 1, 1], .l [1, 1, 1, 1, 1, 1, 0, 1, 0, 0], .b 2, .c [1, 1, 1, 1, 1, 1, 1]] [(3, .pointer (some ⟨g1, 0, none⟩)), (5, .pointer (some ⟨g2, 0, none⟩)), (6, .pointer (some ⟨g3, 0, none⟩)), (11, .pointer (some ⟨g6, 0, none⟩)), (12, .pointer (some ⟨g7, 0, none⟩)), (49, .slice A2 y3.Entries.length c2), (50, .int .i64 (y3.Entries.length : Int)), (51, .int .i64 v51)] H ((some (g7, .cells #[.map (some gv_isRoot12_0)] 101 (0, 0))) :: (some (g6, .cells #[.map (some gv_wanted11_0)] 101 (0, 0))) :: chv_isRoot12_0 :: chv_wanted11_0 :: ch1 :: ch2 :: (some (g3, .cells #[.int .i64 0, .int .i64 0, .slice none 0 0, .slice none 0 0] 25 (0, 0))) :: (some (g2, .cells #[.int .i64 a2] 3 (0, 0))) :: (some (g1, .cells #[.int .i64 y3.Room, .int .i64 y3.Lease, .slice A1 y3.Blobs.length c1, .slice A2 y3.Entries.length c2] 25 (0, 0))) :: F)) : ∀ (k : Nat), ∀ (H : Hp) (a2 : Int) (g1 : Nat) (g2 : Nat) (g3 : Nat) (y3 : Cache) (A1 : Option Addr) (c1 : Nat) (ch1 : Ch) (A2 : Option Addr) (c2 : Nat) (ch2 : Ch) (g6 : Nat) (g7 : Nat) (v_isRoot12_0 : List (ByteArray × Bool)) (gv_isRoot12_0 : Nat) (chv_isRoot12_0 : Ch) (v51 : Int) (x1 : Entry) (A9 : Option Addr) (c9 : Nat) (v_wanted11_0 : List (ByteArray × Bool)) (gv_wanted11_0 : Nat) (chv_wanted11_0 : Ch) (v70 : Int) , SlOwn kBlob 47 H A1 c1 y3.Blobs ch1 → SlOwn kEntry 51 H A2 c2 y3.Entries ch2 → MpOwn Value.string Kd.bool false H gv_isRoot12_0 v_isRoot12_0 chv_isRoot12_0 → Kd.Row Kd.string H A9 x1.Refs → x1.Refs.length ≤ c9 → MpOwn Value.string Kd.bool false H gv_wanted11_0 v_wanted11_0 chv_wanted11_0 → cache_Swept.l5 j4 k a2 y3 v_isRoot12_0 v51 x1 v_wanted11_0 v70 = some r → RunH C30 (S30 F H0 r) H0 w0 [.c [1, 1, 1, 1, 1, 1, 0, 1, 0, 0, 1, 1, 0, 0, 1, 1, 0, 1, 0, 0], .l [1, 1, 1, 1, 1, 1, 0, 1, 0, 0, 1, 1, 0, 0, 1, 1, 0, 1, 0, 0], .b 4, .b 3, .c [1, 1, 1, 1, 1, 1, 0, 1, 0, 0, 1, 1, 1], .l [1, 1, 1, 1, 1, 1, 0, 1, 0, 0], .b 2, .c [1, 1, 1, 1, 1, 1, 1]] [(3, .pointer (some ⟨g1, 0, none⟩)), (5, .pointer (some ⟨g2, 0, none⟩)), (6, .pointer (some ⟨g3, 0, none⟩)), (11, .pointer (some ⟨g6, 0, none⟩)), (12, .pointer (some ⟨g7, 0, none⟩)), (49, .slice A2 y3.Entries.length c2), (50, .int .i64 (y3.Entries.length : Int)), (51, .int .i64 v51), (68, .slice A9 x1.Refs.length c9), (69, .int .i64 (x1.Refs.length : Int)), (70, .int .i64 v70)] H ((some (g7, .cells #[.map (some gv_isRoot12_0)] 101 (0, 0))) :: (some (g6, .cells #[.map (some gv_wanted11_0)] 101 (0, 0))) :: chv_isRoot12_0 :: chv_wanted11_0 :: ch1 :: ch2 :: (some (g3, .cells #[.int .i64 0, .int .i64 0, .slice none 0 0, .slice none 0 0] 25 (0, 0))) :: (some (g2, .cells #[.int .i64 a2] 3 (0, 0))) :: (some (g1, .cells #[.int .i64 y3.Room, .int .i64 y3.Lease, .slice A1 y3.Blobs.length c1, .slice A2 y3.Entries.length c2] 25 (0, 0))) :: F) := by
  intro k
  induction k with
  | zero => intro H a2 g1 g2 g3 y3 A1 c1 ch1 A2 c2 ch2 g6 g7 v_isRoot12_0 gv_isRoot12_0 chv_isRoot12_0 v51 x1 A9 c9 v_wanted11_0 gv_wanted11_0 chv_wanted11_0 v70 ho7 ho8 hov_isRoot12_0 hr1 hc1 hov_wanted11_0 heq; exact nomatch (show (none : Option (Cache × (List ByteArray) × Int)) = some r from heq)
  | succ k ihk =>
    intro H a2 g1 g2 g3 y3 A1 c1 ch1 A2 c2 ch2 g6 g7 v_isRoot12_0 gv_isRoot12_0 chv_isRoot12_0 v51 x1 A9 c9 v_wanted11_0 gv_wanted11_0 chv_wanted11_0 v70 ho7 ho8 hov_isRoot12_0 hr1 hc1 hov_wanted11_0 heq
    rw [cache_Swept.l5] at heq
    refine RunH.adm 1 (es' := [.c [1, 1, 1, 1, 1, 1, 0, 1, 0, 0, 1, 1, 0, 0, 1, 1, 0, 1, 0, 0, 0], .c [1, 1, 1, 1, 1, 1, 0, 1, 0, 0, 1, 1, 0, 0, 1, 1, 0, 1, 0, 0, 1], .l [1, 1, 1, 1, 1, 1, 0, 1, 0, 0, 1, 1, 0, 0, 1, 1, 0, 1, 0, 0], .b 4, .b 3, .c [1, 1, 1, 1, 1, 1, 0, 1, 0, 0, 1, 1, 1], .l [1, 1, 1, 1, 1, 1, 0, 1, 0, 0], .b 2, .c [1, 1, 1, 1, 1, 1, 1]]) (by kernel_rfl) ?_
    refine RunH.reg (by kernel_rfl) ?_
    refine RgH.runk 1 [3, 5, 6, 11, 12, 49, 50, 51, 68, 69, 70, 71] (vs := []) (evs := []) (L' := [(3, .pointer (some ⟨g1, 0, none⟩)), (5, .pointer (some ⟨g2, 0, none⟩)), (6, .pointer (some ⟨g3, 0, none⟩)), (11, .pointer (some ⟨g6, 0, none⟩)), (12, .pointer (some ⟨g7, 0, none⟩)), (49, .slice A2 y3.Entries.length c2), (50, .int .i64 (y3.Entries.length : Int)), (51, .int .i64 v51), (68, .slice A9 x1.Refs.length c9), (69, .int .i64 (x1.Refs.length : Int)), (70, .int .i64 v70), (71, .bool (decide (v70 < (x1.Refs.length : Int))))]) (by kernel_rfl) (by kernel_rfl) (fun _ _ => trivial) ?_
    refine RgH.done (by kernel_rfl) ?_
    refine RunH.adm 1 (es' := [.c [1, 1, 1, 1, 1, 1, 0, 1, 0, 0, 1, 1, 0, 0, 1, 1, 0, 1, 0, 0, 1, 0], .c [1, 1, 1, 1, 1, 1, 0, 1, 0, 0, 1, 1, 0, 0, 1, 1, 0, 1, 0, 0, 1, 1], .l [1, 1, 1, 1, 1, 1, 0, 1, 0, 0, 1, 1, 0, 0, 1, 1, 0, 1, 0, 0], .b 4, .b 3, .c [1, 1, 1, 1, 1, 1, 0, 1, 0, 0, 1, 1, 1], .l [1, 1, 1, 1, 1, 1, 0, 1, 0, 0], .b 2, .c [1, 1, 1, 1, 1, 1, 1]]) (by kernel_rfl) ?_
    rcases bool_cases (decide (v70 < (x1.Refs.length : Int))) with hb6 | hb6
    · replace heq := bif_true hb6 heq
      refine RunH.condT (c := decide (v70 < (x1.Refs.length : Int))) (by kernel_rfl) hb6 ?_
      refine RunH.adm 4 (es' := [.c [1, 1, 1, 1, 1, 1, 0, 1, 0, 0, 1, 1, 0, 0, 1, 1, 0, 1, 0, 0, 1, 1, 0, 0, 0], .c [1, 1, 1, 1, 1, 1, 0, 1, 0, 0, 1, 1, 0, 0, 1, 1, 0, 1, 0, 0, 1, 1, 0, 0, 1], .b 5, .c [1, 1, 1, 1, 1, 1, 0, 1, 0, 0, 1, 1, 0, 0, 1, 1, 0, 1, 0, 0, 1, 1, 1], .l [1, 1, 1, 1, 1, 1, 0, 1, 0, 0, 1, 1, 0, 0, 1, 1, 0, 1, 0, 0], .b 4, .b 3, .c [1, 1, 1, 1, 1, 1, 0, 1, 0, 0, 1, 1, 1], .l [1, 1, 1, 1, 1, 1, 0, 1, 0, 0], .b 2, .c [1, 1, 1, 1, 1, 1, 1]]) (by kernel_rfl) ?_
      refine RunH.reg (by kernel_rfl) ?_
      obtain ⟨x2, hx2, heq⟩ := bind_some heq
      obtain ⟨ha2, cs2, hK2, hcc3⟩ := (Rw.of (F := F) hr1).get hx2
      obtain rfl : cs2 = [.string x2] := hK2
      refine RgH.runk 3 [3, 5, 6, 11, 12, 18, 49, 50, 51, 68, 69, 70] (vs := [.string x2]) (evs := [.need (A9 = some (adr A9) ∧ (0 : Int) ≤ v70 ∧ v70 < ((x1.Refs.length : Nat) : Int)), .load ((adr A9).add (v70.toNat * 1)) (.string x2)]) (L' := [(3, .pointer (some ⟨g1, 0, none⟩)), (5, .pointer (some ⟨g2, 0, none⟩)), (6, .pointer (some ⟨g3, 0, none⟩)), (11, .pointer (some ⟨g6, 0, none⟩)), (12, .pointer (some ⟨g7, 0, none⟩)), (18, .string x2), (49, .slice A2 y3.Entries.length c2), (50, .int .i64 (y3.Entries.length : Int)), (51, .int .i64 v51), (68, .slice A9 x1.Refs.length c9), (69, .int .i64 (x1.Refs.length : Int)), (70, .int .i64 v70)]) (by kernel_rfl) (by kernel_rfl) (fun w hh => ⟨⟨ha2, (at?_some hx2).1, (at?_some hx2).2.1⟩, (hcc3 _ _ (hh.drop 9) 0 _ rfl)⟩) ?_
      refine RgH.done (by kernel_rfl) ?_
      refine RunH.reg (by kernel_rfl) ?_
      refine RgH.runk 2 [3, 5, 6, 11, 12, 49, 50, 51, 68, 69, 70, 74, 75] (vs := [.map (some gv_wanted11_0)]) (evs := [.load ⟨g6, 0, none⟩ (.map (some gv_wanted11_0))]) (L' := [(3, .pointer (some ⟨g1, 0, none⟩)), (5, .pointer (some ⟨g2, 0, none⟩)), (6, .pointer (some ⟨g3, 0, none⟩)), (11, .pointer (some ⟨g6, 0, none⟩)), (12, .pointer (some ⟨g7, 0, none⟩)), (49, .slice A2 y3.Entries.length c2), (50, .int .i64 (y3.Entries.length : Int)), (51, .int .i64 v51), (68, .slice A9 x1.Refs.length c9), (69, .int .i64 (x1.Refs.length : Int)), (70, .int .i64 v70), (74, .map (some gv_wanted11_0)), (75, .string x2)]) (by kernel_rfl) (by kernel_rfl) (fun w hh => (hh.box 1 rfl rfl)) ?_
      refine RgH.does (DoesH.mapUpdate (kk := 3) (cv := [.bool true]) (k := x2) (v := true) (by kernel_rfl) (KyAt.string Tryd.underlying9) rfl rfl rfl hov_wanted11_0) ?_
      rintro _ _ _ _ ⟨ch10, rfl, rfl, rfl, ho18⟩
      refine RgH.done (by kernel_rfl) ?_
      refine RunH.adm 1 (es' := [.c [1, 1, 1, 1, 1, 1, 0, 1, 0, 0, 1, 1, 0, 0, 1, 1, 0, 1, 0, 0, 1, 1, 1], .l [1, 1, 1, 1, 1, 1, 0, 1, 0, 0, 1, 1, 0, 0, 1, 1, 0, 1, 0, 0], .b 4, .b 3, .c [1, 1, 1, 1, 1, 1, 0, 1, 0, 0, 1, 1, 1], .l [1, 1, 1, 1, 1, 1, 0, 1, 0, 0], .b 2, .c [1, 1, 1, 1, 1, 1, 1]]) (by kernel_rfl) ?_
      refine RunH.reg (by kernel_rfl) ?_
      refine RgH.runk 2 [3, 5, 6, 11, 12, 49, 50, 51, 68, 69, 70] (vs := []) (evs := []) (L' := [(3, .pointer (some ⟨g1, 0, none⟩)), (5, .pointer (some ⟨g2, 0, none⟩)), (6, .pointer (some ⟨g3, 0, none⟩)), (11, .pointer (some ⟨g6, 0, none⟩)), (12, .pointer (some ⟨g7, 0, none⟩)), (49, .slice A2 y3.Entries.length c2), (50, .int .i64 (y3.Entries.length : Int)), (51, .int .i64 v51), (68, .slice A9 x1.Refs.length c9), (69, .int .i64 (x1.Refs.length : Int)), (70, .int .i64 (w64 (v70 + 1)))]) (by kernel_rfl) (by kernel_rfl) (fun _ _ => trivial) ?_
      refine RgH.done (by kernel_rfl) ?_
      refine RunH.adm 1 (es' := [.c [1, 1, 1, 1, 1, 1, 0, 1, 0, 0, 1, 1, 0, 0, 1, 1, 0, 1, 0, 0], .l [1, 1, 1, 1, 1, 1, 0, 1, 0, 0, 1, 1, 0, 0, 1, 1, 0, 1, 0, 0], .b 4, .b 3, .c [1, 1, 1, 1, 1, 1, 0, 1, 0, 0, 1, 1, 1], .l [1, 1, 1, 1, 1, 1, 0, 1, 0, 0], .b 2, .c [1, 1, 1, 1, 1, 1, 1]]) (by kernel_rfl) ?_
      refine RunH.keep [3, 5, 6, 11, 12, 49, 50, 51, 68, 69, 70] (L' := [(3, .pointer (some ⟨g1, 0, none⟩)), (5, .pointer (some ⟨g2, 0, none⟩)), (6, .pointer (some ⟨g3, 0, none⟩)), (11, .pointer (some ⟨g6, 0, none⟩)), (12, .pointer (some ⟨g7, 0, none⟩)), (49, .slice A2 y3.Entries.length c2), (50, .int .i64 (y3.Entries.length : Int)), (51, .int .i64 v51), (68, .slice A9 x1.Refs.length c9), (69, .int .i64 (x1.Refs.length : Int)), (70, .int .i64 (w64 (v70 + 1)))]) (by kernel_rfl) ?_
      exact ihk _ a2 _ _ _ y3 _ _ _ _ _ _ _ _ v_isRoot12_0 _ _ v51 x1 _ _ (mput v_wanted11_0 x2 true) _ _ (w64 (v70 + 1)) ho7 ho8 hov_isRoot12_0 hr1 hc1 ho18 heq
    · replace heq := bif_false hb6 heq
      refine RunH.condF (c := decide (v70 < (x1.Refs.length : Int))) (by kernel_rfl) hb6 ?_
      refine RunH.adm 2 (es' := [.c [1, 1, 1, 1, 1, 1, 0, 1, 0, 0, 1, 1, 1], .l [1, 1, 1, 1, 1, 1, 0, 1, 0, 0], .b 2, .c [1, 1, 1, 1, 1, 1, 1]]) (by kernel_rfl) ?_
      refine RunH.keep [3, 5, 6, 11, 12, 49, 50, 51] (L' := [(3, .pointer (some ⟨g1, 0, none⟩)), (5, .pointer (some ⟨g2, 0, none⟩)), (6, .pointer (some ⟨g3, 0, none⟩)), (11, .pointer (some ⟨g6, 0, none⟩)), (12, .pointer (some ⟨g7, 0, none⟩)), (49, .slice A2 y3.Entries.length c2), (50, .int .i64 (y3.Entries.length : Int)), (51, .int .i64 v51)]) (by kernel_rfl) ?_
      exact hj4 _ a2 _ _ _ y3 _ _ _ _ _ _ _ _ v_isRoot12_0 _ _ v51 v_wanted11_0 _ _ ho7 ho8 hov_isRoot12_0 hov_wanted11_0 heq
theorem cache_Swept.l3_c {w0 : World} {H0 : Hp} {F : List Ch} {r : Cache × (List ByteArray) × Int} (e2 : Int → Cache → (List (ByteArray × Bool)) → (List (ByteArray × Bool)) → Option (Cache × (List ByteArray) × Int))
    (he2 : ∀ (H : Hp) (a2 : Int) (g1 : Nat) (g2 : Nat) (g3 : Nat) (y3 : Cache) (A1 : Option Addr) (c1 : Nat) (ch1 : Ch) (A2 : Option Addr) (c2 : Nat) (ch2 : Ch) (g6 : Nat) (g7 : Nat) (v_isRoot12_0 : List (ByteArray × Bool)) (gv_isRoot12_0 : Nat) (chv_isRoot12_0 : Ch) (v_wanted11_0 : List (ByteArray × Bool)) (gv_wanted11_0 : Nat) (chv_wanted11_0 : Ch) , SlOwn kBlob 47 H A1 c1 y3.Blobs ch1 → SlOwn kEntry 51 H A2 c2 y3.Entries ch2 → MpOwn Value.string Kd.bool false H gv_isRoot12_0 v_isRoot12_0 chv_isRoot12_0 → MpOwn Value.string Kd.bool false H gv_wanted11_0 v_wanted11_0 chv_wanted11_0 → e2 a2 y3 v_isRoot12_0 v_wanted11_0 = some r → RunH C30 (S30 F H0 r) H0 w0 [.c [1, 1, 1, 1, 1, 1, 1, 0], .c [1, 1, 1, 1, 1, 1, 1, 1]] [(3, .pointer (some ⟨g1, 0, none⟩)), (5, .pointer (some ⟨g2, 0, none⟩)), (6, .pointer (some ⟨g3, 0, none⟩)), (11, .pointer (some ⟨g6, 0, none⟩)), (12, .pointer (some ⟨g7, 0, none⟩))] H ((some (g7, .cells #[.map (some gv_isRoot12_0)] 101 (0, 0))) :: (some (g6, .cells #[.map (some gv_wanted11_0)] 101 (0, 0))) :: chv_isRoot12_0 :: chv_wanted11_0 :: ch1 :: ch2 :: (some (g3, .cells #[.int .i64 0, .int .i64 0, .slice none 0 0, .slice none 0 0] 25 (0, 0))) :: (some (g2, .cells #[.int .i64 a2] 3 (0, 0))) :: (some (g1, .cells #[.int .i64 y3.Room, .int .i64 y3.Lease, .slice A1 y3.Blobs.length c1, .slice A2 y3.Entries.length c2] 25 (0, 0))) :: F)) : ∀ (k : Nat), ∀ (H : Hp) (a2 : Int) (g1 : Nat) (g2 : Nat) (g3 : Nat) (y3 : Cache) (A1 : Option Addr) (c1 : Nat) (ch1 : Ch) (A2 : Option Addr) (c2 : Nat) (ch2 : Ch) (g6 : Nat) (g7 : Nat) (v_isRoot12_0 : List (ByteArray × Bool)) (gv_isRoot12_0 : Nat) (chv_isRoot12_0 : Ch) (v_wanted11_0 : List (ByteArray × Bool)) (gv_wanted11_0 : Nat) (chv_wanted11_0 : Ch) (v51 : Int) , SlOwn kBlob 47 H A1 c1 y3.Blobs ch1 → SlOwn kEntry 51 H A2 c2 y3.Entries ch2 → MpOwn Value.string Kd.bool false H gv_isRoot12_0 v_isRoot12_0 chv_isRoot12_0 → MpOwn Value.string Kd.bool false H gv_wanted11_0 v_wanted11_0 chv_wanted11_0 → cache_Swept.l3 e2 k a2 y3 v_isRoot12_0 v_wanted11_0 v51 = some r → RunH C30 (S30 F H0 r) H0 w0 [.c [1, 1, 1, 1, 1, 1, 0, 1, 0, 0], .l [1, 1, 1, 1, 1, 1, 0, 1, 0, 0], .b 2, .c [1, 1, 1, 1, 1, 1, 1]] [(3, .pointer (some ⟨g1, 0, none⟩)), (5, .pointer (some ⟨g2, 0, none⟩)), (6, .pointer (some ⟨g3, 0, none⟩)), (11, .pointer (some ⟨g6, 0, none⟩)), (12, .pointer (some ⟨g7, 0, none⟩)), (49, .slice A2 y3.Entries.length c2), (50, .int .i64 (y3.Entries.length : Int)), (51, .int .i64 v51)] H ((some (g7, .cells #[.map (some gv_isRoot12_0)] 101 (0, 0))) :: (some (g6, .cells #[.map (some gv_wanted11_0)] 101 (0, 0))) :: chv_isRoot12_0 :: chv_wanted11_0 :: ch1 :: ch2 :: (some (g3, .cells #[.int .i64 0, .int .i64 0, .slice none 0 0, .slice none 0 0] 25 (0, 0))) :: (some (g2, .cells #[.int .i64 a2] 3 (0, 0))) :: (some (g1, .cells #[.int .i64 y3.Room, .int .i64 y3.Lease, .slice A1 y3.Blobs.length c1, .slice A2 y3.Entries.length c2] 25 (0, 0))) :: F) := by
  intro k
  induction k with
  | zero => intro H a2 g1 g2 g3 y3 A1 c1 ch1 A2 c2 ch2 g6 g7 v_isRoot12_0 gv_isRoot12_0 chv_isRoot12_0 v_wanted11_0 gv_wanted11_0 chv_wanted11_0 v51 ho7 ho8 hov_isRoot12_0 hov_wanted11_0 heq; exact nomatch (show (none : Option (Cache × (List ByteArray) × Int)) = some r from heq)
  | succ k ihk =>
    intro H a2 g1 g2 g3 y3 A1 c1 ch1 A2 c2 ch2 g6 g7 v_isRoot12_0 gv_isRoot12_0 chv_isRoot12_0 v_wanted11_0 gv_wanted11_0 chv_wanted11_0 v51 ho7 ho8 hov_isRoot12_0 hov_wanted11_0 heq
    rw [cache_Swept.l3] at heq
    refine RunH.adm 1 (es' := [.c [1, 1, 1, 1, 1, 1, 0, 1, 0, 0, 0], .c [1, 1, 1, 1, 1, 1, 0, 1, 0, 0, 1], .l [1, 1, 1, 1, 1, 1, 0, 1, 0, 0], .b 2, .c [1, 1, 1, 1, 1, 1, 1]]) (by kernel_rfl) ?_
    refine RunH.reg (by kernel_rfl) ?_
    refine RgH.runk 1 [3, 5, 6, 11, 12, 49, 50, 51, 52] (vs := []) (evs := []) (L' := [(3, .pointer (some ⟨g1, 0, none⟩)), (5, .pointer (some ⟨g2, 0, none⟩)), (6, .pointer (some ⟨g3, 0, none⟩)), (11, .pointer (some ⟨g6, 0, none⟩)), (12, .pointer (some ⟨g7, 0, none⟩)), (49, .slice A2 y3.Entries.length c2), (50, .int .i64 (y3.Entries.length : Int)), (51, .int .i64 v51), (52, .bool (decide (v51 < (y3.Entries.length : Int))))]) (by kernel_rfl) (by kernel_rfl) (fun _ _ => trivial) ?_
    refine RgH.done (by kernel_rfl) ?_
    refine RunH.adm 1 (es' := [.c [1, 1, 1, 1, 1, 1, 0, 1, 0, 0, 1, 0], .c [1, 1, 1, 1, 1, 1, 0, 1, 0, 0, 1, 1], .l [1, 1, 1, 1, 1, 1, 0, 1, 0, 0], .b 2, .c [1, 1, 1, 1, 1, 1, 1]]) (by kernel_rfl) ?_
    rcases bool_cases (decide (v51 < (y3.Entries.length : Int))) with hb3 | hb3
    · replace heq := bif_true hb3 heq
      refine RunH.condT (c := decide (v51 < (y3.Entries.length : Int))) (by kernel_rfl) hb3 ?_
      refine RunH.adm 4 (es' := [.c [1, 1, 1, 1, 1, 1, 0, 1, 0, 0, 1, 1, 0, 0, 0], .c [1, 1, 1, 1, 1, 1, 0, 1, 0, 0, 1, 1, 0, 0, 1], .b 3, .c [1, 1, 1, 1, 1, 1, 0, 1, 0, 0, 1, 1, 1], .l [1, 1, 1, 1, 1, 1, 0, 1, 0, 0], .b 2, .c [1, 1, 1, 1, 1, 1, 1]]) (by kernel_rfl) ?_
      refine RunH.reg (by kernel_rfl) ?_
      obtain ⟨x1, hx1, heq⟩ := bind_some heq
      obtain ⟨ha1, cs1, hK1, hcc1⟩ := ho8.get hx1
      obtain ⟨A9, c9, rfl, hc1, hr1⟩ := kEntry_open hK1
      refine RgH.runk 2 [3, 5, 6, 11, 12, 49, 50, 51, 54] (vs := [.string x1.Key, .slice A9 x1.Refs.length c9, .int .i64 x1.Used]) (evs := [.need (A2 = some (adr A2) ∧ (0 : Int) ≤ v51 ∧ v51 < ((y3.Entries.length : Nat) : Int)), .load (((adr A2).add (v51.toNat * 3)).add 0) (.string x1.Key), .load (((adr A2).add (v51.toNat * 3)).add 1) (.slice A9 x1.Refs.length c9), .load (((adr A2).add (v51.toNat * 3)).add 2) (.int .i64 x1.Used)]) (L' := [(3, .pointer (some ⟨g1, 0, none⟩)), (5, .pointer (some ⟨g2, 0, none⟩)), (6, .pointer (some ⟨g3, 0, none⟩)), (11, .pointer (some ⟨g6, 0, none⟩)), (12, .pointer (some ⟨g7, 0, none⟩)), (49, .slice A2 y3.Entries.length c2), (50, .int .i64 (y3.Entries.length : Int)), (51, .int .i64 v51), (54, .agg #[.string x1.Key, .slice A9 x1.Refs.length c9, .int .i64 x1.Used])]) (by kernel_rfl) (by kernel_rfl) (fun w hh => ⟨⟨ha1, (at?_some hx1).1, (at?_some hx1).2.1⟩, (hcc1 _ (hh.chin 5 rfl) 0 _ rfl), (hcc1 _ (hh.chin 5 rfl) 1 _ rfl), (hcc1 _ (hh.chin 5 rfl) 2 _ rfl)⟩) ?_
      refine RgH.does (DoesH.new (d := 16) (v := fun g => .pointer (some ⟨g, 0, none⟩)) (o := fun g => .cells #[.string ByteArray.empty, .slice none 0 0, .int .i64 0] 51 (0, 0)) (fun g => by kernel_rfl)) ?_
      rintro _ _ _ _ ⟨g8, rfl, rfl, rfl⟩
      refine RgH.does (DoesH.store (k := 0) (g := g8) (off := 0) (v := .agg #[.string x1.Key, .slice A9 x1.Refs.length c9, .int .i64 x1.Used]) (cells' := #[.string x1.Key, .slice A9 x1.Refs.length c9, .int .i64 x1.Used]) (by kernel_rfl) rfl (by kernel_rfl) (by kernel_rfl)) ?_
      rintro _ _ _ _ ⟨rfl, rfl, rfl⟩
      refine RgH.done (by kernel_rfl) ?_
      refine RunH.adm 1 (es' := [.c [1, 1, 1, 1, 1, 1, 0, 1, 0, 0, 1, 1, 0, 0, 1, 0], .c [1, 1, 1, 1, 1, 1, 0, 1, 0, 0, 1, 1, 0, 0, 1, 1], .b 3, .c [1, 1, 1, 1, 1, 1, 0, 1, 0, 0, 1, 1, 1], .l [1, 1, 1, 1, 1, 1, 0, 1, 0, 0], .b 2, .c [1, 1, 1, 1, 1, 1, 1]]) (by kernel_rfl) ?_
      obtain ⟨t1, ht1, heq⟩ := bind_some heq
      have K28 : ∀ (H : Hp), SlOwn kBlob 47 H A1 c1 y3.Blobs ch1 → SlOwn kEntry 51 H A2 c2 y3.Entries ch2 → MpOwn Value.string Kd.bool false H gv_isRoot12_0 v_isRoot12_0 chv_isRoot12_0 → MpOwn Value.string Kd.bool false H gv_wanted11_0 v_wanted11_0 chv_wanted11_0 → Kd.Row Kd.string H A9 x1.Refs → RunH C30 (S30 F H0 r) H0 w0 [.c [1, 1, 1, 1, 1, 1, 0, 1, 0, 0, 1, 1, 0, 0, 1, 1], .b 3, .c [1, 1, 1, 1, 1, 1, 0, 1, 0, 0, 1, 1, 1], .l [1, 1, 1, 1, 1, 1, 0, 1, 0, 0], .b 2, .c [1, 1, 1, 1, 1, 1, 1]] [(3, .pointer (some ⟨g1, 0, none⟩)), (5, .pointer (some ⟨g2, 0, none⟩)), (6, .pointer (some ⟨g3, 0, none⟩)), (11, .pointer (some ⟨g6, 0, none⟩)), (12, .pointer (some ⟨g7, 0, none⟩)), (16, .pointer (some ⟨g8, 0, none⟩)), (49, .slice A2 y3.Entries.length c2), (50, .int .i64 (y3.Entries.length : Int)), (51, .int .i64 v51), (66, .bool t1)] H ((some (g8, .cells #[.string x1.Key, .slice A9 x1.Refs.length c9, .int .i64 x1.Used] 51 (0, 0))) :: (some (g7, .cells #[.map (some gv_isRoot12_0)] 101 (0, 0))) :: (some (g6, .cells #[.map (some gv_wanted11_0)] 101 (0, 0))) :: chv_isRoot12_0 :: chv_wanted11_0 :: ch1 :: ch2 :: (some (g3, .cells #[.int .i64 0, .int .i64 0, .slice none 0 0, .slice none 0 0] 25 (0, 0))) :: (some (g2, .cells #[.int .i64 a2] 3 (0, 0))) :: (some (g1, .cells #[.int .i64 y3.Room, .int .i64 y3.Lease, .slice A1 y3.Blobs.length c1, .slice A2 y3.Entries.length c2] 25 (0, 0))) :: F) := by
        intro H ho7 ho8 hov_isRoot12_0 hov_wanted11_0 hr1
        rcases bool_cases (t1) with hb5 | hb5
        · replace heq := bif_true hb5 heq
          refine RunH.condT (c := t1) (by kernel_rfl) hb5 ?_
          refine RunH.adm 1 (es' := [.c [1, 1, 1, 1, 1, 1, 0, 1, 0, 0, 1, 1, 0, 0, 1, 1, 0, 0], .c [1, 1, 1, 1, 1, 1, 0, 1, 0, 0, 1, 1, 0, 0, 1, 1, 0, 1], .b 3, .c [1, 1, 1, 1, 1, 1, 0, 1, 0, 0, 1, 1, 1], .l [1, 1, 1, 1, 1, 1, 0, 1, 0, 0], .b 2, .c [1, 1, 1, 1, 1, 1, 1]]) (by kernel_rfl) ?_
          refine RunH.reg (by kernel_rfl) ?_
          refine RgH.runk 4 [3, 5, 6, 11, 12, 49, 50, 51, 68, 69, 70] (vs := [.slice A9 x1.Refs.length c9]) (evs := [.load ⟨g8, 1, none⟩ (.slice A9 x1.Refs.length c9)]) (L' := [(3, .pointer (some ⟨g1, 0, none⟩)), (5, .pointer (some ⟨g2, 0, none⟩)), (6, .pointer (some ⟨g3, 0, none⟩)), (11, .pointer (some ⟨g6, 0, none⟩)), (12, .pointer (some ⟨g7, 0, none⟩)), (49, .slice A2 y3.Entries.length c2), (50, .int .i64 (y3.Entries.length : Int)), (51, .int .i64 v51), (68, .slice A9 x1.Refs.length c9), (69, .int .i64 (x1.Refs.length : Int)), (70, .int .i64 0)]) (by kernel_rfl) (by kernel_rfl) (fun w hh => (hh.box 0 rfl rfl)) ?_
          refine RgH.done (by kernel_rfl) ?_
          refine RunH.adm 2 (es' := [.c [1, 1, 1, 1, 1, 1, 0, 1, 0, 0, 1, 1, 0, 0, 1, 1, 0, 1, 0, 0], .l [1, 1, 1, 1, 1, 1, 0, 1, 0, 0, 1, 1, 0, 0, 1, 1, 0, 1, 0, 0], .b 4, .b 3, .c [1, 1, 1, 1, 1, 1, 0, 1, 0, 0, 1, 1, 1], .l [1, 1, 1, 1, 1, 1, 0, 1, 0, 0], .b 2, .c [1, 1, 1, 1, 1, 1, 1]]) (by kernel_rfl) ?_
          refine RunH.keep [3, 5, 6, 11, 12, 49, 50, 51, 68, 69, 70] (L' := [(3, .pointer (some ⟨g1, 0, none⟩)), (5, .pointer (some ⟨g2, 0, none⟩)), (6, .pointer (some ⟨g3, 0, none⟩)), (11, .pointer (some ⟨g6, 0, none⟩)), (12, .pointer (some ⟨g7, 0, none⟩)), (49, .slice A2 y3.Entries.length c2), (50, .int .i64 (y3.Entries.length : Int)), (51, .int .i64 v51), (68, .slice A9 x1.Refs.length c9), (69, .int .i64 (x1.Refs.length : Int)), (70, .int .i64 0)]) (by kernel_rfl) ?_
          refine RunH.pick 10 [1, 2, 3, 4, 5, 6, 7, 8, 9] (cs' := (some (g7, .cells #[.map (some gv_isRoot12_0)] 101 (0, 0))) :: (some (g6, .cells #[.map (some gv_wanted11_0)] 101 (0, 0))) :: chv_isRoot12_0 :: chv_wanted11_0 :: ch1 :: ch2 :: (some (g3, .cells #[.int .i64 0, .int .i64 0, .slice none 0 0, .slice none 0 0] 25 (0, 0))) :: (some (g2, .cells #[.int .i64 a2] 3 (0, 0))) :: (some (g1, .cells #[.int .i64 y3.Room, .int .i64 y3.Lease, .slice A1 y3.Blobs.length c1, .slice A2 y3.Entries.length c2] 25 (0, 0))) :: F) (by kernel_rfl) rfl ?_
          exact ((cache_Swept.l5_c (j4 := cache_Swept.j4 ((cache_Swept.l3 e2 k))) (cache_Swept.j4_c (backl3 := (cache_Swept.l3 e2 k)) ihk)) big) _ a2 _ _ _ y3 _ _ _ _ _ _ _ _ v_isRoot12_0 _ _ v51 x1 _ _ v_wanted11_0 _ _ 0 ho7 ho8 hov_isRoot12_0 hr1 hc1 hov_wanted11_0 heq
        · replace heq := bif_false hb5 heq
          refine RunH.condF (c := t1) (by kernel_rfl) hb5 ?_
          refine RunH.adm 2 (es' := [.c [1, 1, 1, 1, 1, 1, 0, 1, 0, 0, 1, 1, 1], .l [1, 1, 1, 1, 1, 1, 0, 1, 0, 0], .b 2, .c [1, 1, 1, 1, 1, 1, 1]]) (by kernel_rfl) ?_
          refine RunH.keep [3, 5, 6, 11, 12, 49, 50, 51] (L' := [(3, .pointer (some ⟨g1, 0, none⟩)), (5, .pointer (some ⟨g2, 0, none⟩)), (6, .pointer (some ⟨g3, 0, none⟩)), (11, .pointer (some ⟨g6, 0, none⟩)), (12, .pointer (some ⟨g7, 0, none⟩)), (49, .slice A2 y3.Entries.length c2), (50, .int .i64 (y3.Entries.length : Int)), (51, .int .i64 v51)]) (by kernel_rfl) ?_
          refine RunH.pick 10 [1, 2, 3, 4, 5, 6, 7, 8, 9] (cs' := (some (g7, .cells #[.map (some gv_isRoot12_0)] 101 (0, 0))) :: (some (g6, .cells #[.map (some gv_wanted11_0)] 101 (0, 0))) :: chv_isRoot12_0 :: chv_wanted11_0 :: ch1 :: ch2 :: (some (g3, .cells #[.int .i64 0, .int .i64 0, .slice none 0 0, .slice none 0 0] 25 (0, 0))) :: (some (g2, .cells #[.int .i64 a2] 3 (0, 0))) :: (some (g1, .cells #[.int .i64 y3.Room, .int .i64 y3.Lease, .slice A1 y3.Blobs.length c1, .slice A2 y3.Entries.length c2] 25 (0, 0))) :: F) (by kernel_rfl) rfl ?_
          exact (cache_Swept.j4_c (backl3 := (cache_Swept.l3 e2 k)) ihk) _ a2 _ _ _ y3 _ _ _ _ _ _ _ _ v_isRoot12_0 _ _ v51 v_wanted11_0 _ _ ho7 ho8 hov_isRoot12_0 hov_wanted11_0 heq
      replace heq := ht1
      refine RunH.reg (by kernel_rfl) ?_
      refine RgH.runk 3 [3, 5, 6, 11, 12, 16, 49, 50, 51, 55, 57] (vs := [.map (some gv_isRoot12_0), .string x1.Key]) (evs := [.load ⟨g7, 0, none⟩ (.map (some gv_isRoot12_0)), .load ⟨g8, 0, none⟩ (.string x1.Key)]) (L' := [(3, .pointer (some ⟨g1, 0, none⟩)), (5, .pointer (some ⟨g2, 0, none⟩)), (6, .pointer (some ⟨g3, 0, none⟩)), (11, .pointer (some ⟨g6, 0, none⟩)), (12, .pointer (some ⟨g7, 0, none⟩)), (16, .pointer (some ⟨g8, 0, none⟩)), (49, .slice A2 y3.Entries.length c2), (50, .int .i64 (y3.Entries.length : Int)), (51, .int .i64 v51), (55, .map (some gv_isRoot12_0)), (57, .string x1.Key)]) (by kernel_rfl) (by kernel_rfl) (fun w hh => ⟨(hh.box 1 rfl rfl), (hh.box 0 rfl rfl)⟩) ?_
      refine RgH.does (DoesH.lookup (d := 58) (t := 101) (m := v_isRoot12_0) (k := x1.Key) (z := .bool false) (zc := [.bool false]) (z0 := false) (ok := false) (kd := Kd.bool) (ag := false) (by kernel_rfl) (KyAt.string Tryd.underlying9) rfl rfl (fun w hh => hov_isRoot12_0.on (hh.chin 3 rfl))) ?_
      rintro _ _ _ _ ⟨cc1, rfl, rfl, rfl, hcc2⟩
      obtain rfl : cc1 = [.bool (mgetD v_isRoot12_0 x1.Key false)] := hcc2
      refine RgH.val1 (v' := .bool (mgetD v_isRoot12_0 x1.Key false)) rfl ?_
      refine RgH.runk 5 [59, 3, 5, 6, 11, 12, 16, 49, 50, 51] (vs := []) (evs := []) (L' := [(59, .bool (mgetD v_isRoot12_0 x1.Key false)), (3, .pointer (some ⟨g1, 0, none⟩)), (5, .pointer (some ⟨g2, 0, none⟩)), (6, .pointer (some ⟨g3, 0, none⟩)), (11, .pointer (some ⟨g6, 0, none⟩)), (12, .pointer (some ⟨g7, 0, none⟩)), (16, .pointer (some ⟨g8, 0, none⟩)), (49, .slice A2 y3.Entries.length c2), (50, .int .i64 (y3.Entries.length : Int)), (51, .int .i64 v51)]) (by kernel_rfl) (by kernel_rfl) (fun _ _ => trivial) ?_
      rcases bool_cases (mgetD v_isRoot12_0 x1.Key false) with hb4 | hb4
      · replace heq := bif_true hb4 heq
        refine RgH.val1 (v' := .bool true) (congrArg Value.bool hb4) ?_
        refine RgH.runk 8 [3, 5, 6, 11, 12, 16, 49, 50, 51, 59, 60, 62] (vs := [.int .i64 y3.Room, .int .i64 y3.Lease, .slice A1 y3.Blobs.length c1, .slice A2 y3.Entries.length c2, .slice A9 x1.Refs.length c9]) (evs := [.load ⟨g1, 0, none⟩ (.int .i64 y3.Room), .load ⟨g1, 1, none⟩ (.int .i64 y3.Lease), .load ⟨g1, 2, none⟩ (.slice A1 y3.Blobs.length c1), .load ⟨g1, 3, none⟩ (.slice A2 y3.Entries.length c2), .load ⟨g8, 1, none⟩ (.slice A9 x1.Refs.length c9)]) (L' := [(3, .pointer (some ⟨g1, 0, none⟩)), (5, .pointer (some ⟨g2, 0, none⟩)), (6, .pointer (some ⟨g3, 0, none⟩)), (11, .pointer (some ⟨g6, 0, none⟩)), (12, .pointer (some ⟨g7, 0, none⟩)), (16, .pointer (some ⟨g8, 0, none⟩)), (49, .slice A2 y3.Entries.length c2), (50, .int .i64 (y3.Entries.length : Int)), (51, .int .i64 v51), (59, .bool true), (60, .agg #[.int .i64 y3.Room, .int .i64 y3.Lease, .slice A1 y3.Blobs.length c1, .slice A2 y3.Entries.length c2]), (62, .slice A9 x1.Refs.length c9)]) (by kernel_rfl) (by kernel_rfl) (fun w hh => ⟨(hh.box 9 rfl rfl), (hh.box 9 rfl rfl), (hh.box 9 rfl rfl), (hh.box 9 rfl rfl), (hh.box 0 rfl rfl)⟩) ?_
        obtain ⟨y9, hy9, heq⟩ := bind_some heq
        refine RgH.does (DoesH.call (d := 63) (g := 67) (args := #[.agg #[.int .i64 y3.Room, .int .i64 y3.Lease, .slice A1 y3.Blobs.length c1, .slice A2 y3.Entries.length c2], .slice A9 x1.Refs.length c9]) (by kernel_rfl) (cache_missing_c (a0 := (⟨y3.Room, y3.Lease, y3.Blobs, y3.Entries⟩ : Cache)) (a1 := x1.Refs) (ho7.rw (.tail _ (.tail _ (.tail _ (.tail _ (.tail _ (.head _))))))) ho7.cap rfl (ho8.rw (.tail _ (.tail _ (.tail _ (.tail _ (.tail _ (.tail _ (.head _)))))))) ho8.cap rfl (Rw.of hr1) hc1 rfl hy9)) ?_
        rintro _ _ _ _ ⟨_, rfl, A10, c10, ch9, rfl, rfl, rfl, ho17⟩
        refine RgH.runk 12 [3, 5, 6, 11, 12, 16, 49, 50, 51, 66] (vs := []) (evs := []) (L' := [(3, .pointer (some ⟨g1, 0, none⟩)), (5, .pointer (some ⟨g2, 0, none⟩)), (6, .pointer (some ⟨g3, 0, none⟩)), (11, .pointer (some ⟨g6, 0, none⟩)), (12, .pointer (some ⟨g7, 0, none⟩)), (16, .pointer (some ⟨g8, 0, none⟩)), (49, .slice A2 y3.Entries.length c2), (50, .int .i64 (y3.Entries.length : Int)), (51, .int .i64 v51), (66, .bool ((y9.length : Int) == 0))]) (by kernel_rfl) (by kernel_rfl) (fun _ _ => trivial) ?_
        obtain rfl := Option.some.inj heq
        refine RgH.keep [3, 5, 6, 11, 12, 16, 49, 50, 51, 66] (L' := [(3, .pointer (some ⟨g1, 0, none⟩)), (5, .pointer (some ⟨g2, 0, none⟩)), (6, .pointer (some ⟨g3, 0, none⟩)), (11, .pointer (some ⟨g6, 0, none⟩)), (12, .pointer (some ⟨g7, 0, none⟩)), (16, .pointer (some ⟨g8, 0, none⟩)), (49, .slice A2 y3.Entries.length c2), (50, .int .i64 (y3.Entries.length : Int)), (51, .int .i64 v51), (66, .bool ((y9.length : Int) == 0))]) (by kernel_rfl) ?_
        refine RgH.pick 11 [1, 2, 3, 4, 5, 6, 7, 8, 9, 10] (cs' := (some (g8, .cells #[.string x1.Key, .slice A9 x1.Refs.length c9, .int .i64 x1.Used] 51 (0, 0))) :: (some (g7, .cells #[.map (some gv_isRoot12_0)] 101 (0, 0))) :: (some (g6, .cells #[.map (some gv_wanted11_0)] 101 (0, 0))) :: chv_isRoot12_0 :: chv_wanted11_0 :: ch1 :: ch2 :: (some (g3, .cells #[.int .i64 0, .int .i64 0, .slice none 0 0, .slice none 0 0] 25 (0, 0))) :: (some (g2, .cells #[.int .i64 a2] 3 (0, 0))) :: (some (g1, .cells #[.int .i64 y3.Room, .int .i64 y3.Lease, .slice A1 y3.Blobs.length c1, .slice A2 y3.Entries.length c2] 25 (0, 0))) :: F) (by kernel_rfl) rfl ?_
        refine RgH.done (by kernel_rfl) ?_
        exact K28 _ ho7 ho8 hov_isRoot12_0 hov_wanted11_0 hr1
      · replace heq := bif_false hb4 heq
        refine RgH.val1 (v' := .bool false) (congrArg Value.bool hb4) ?_
        refine RgH.runk 12 [3, 5, 6, 11, 12, 16, 49, 50, 51, 66] (vs := []) (evs := []) (L' := [(3, .pointer (some ⟨g1, 0, none⟩)), (5, .pointer (some ⟨g2, 0, none⟩)), (6, .pointer (some ⟨g3, 0, none⟩)), (11, .pointer (some ⟨g6, 0, none⟩)), (12, .pointer (some ⟨g7, 0, none⟩)), (16, .pointer (some ⟨g8, 0, none⟩)), (49, .slice A2 y3.Entries.length c2), (50, .int .i64 (y3.Entries.length : Int)), (51, .int .i64 v51), (66, .bool false)]) (by kernel_rfl) (by kernel_rfl) (fun _ _ => trivial) ?_
        obtain rfl := Option.some.inj heq
        refine RgH.keep [3, 5, 6, 11, 12, 16, 49, 50, 51, 66] (L' := [(3, .pointer (some ⟨g1, 0, none⟩)), (5, .pointer (some ⟨g2, 0, none⟩)), (6, .pointer (some ⟨g3, 0, none⟩)), (11, .pointer (some ⟨g6, 0, none⟩)), (12, .pointer (some ⟨g7, 0, none⟩)), (16, .pointer (some ⟨g8, 0, none⟩)), (49, .slice A2 y3.Entries.length c2), (50, .int .i64 (y3.Entries.length : Int)), (51, .int .i64 v51), (66, .bool false)]) (by kernel_rfl) ?_
        refine RgH.done (by kernel_rfl) ?_
        exact K28 _ ho7 ho8 hov_isRoot12_0 hov_wanted11_0 hr1
    · replace heq := bif_false hb3 heq
      refine RunH.condF (c := decide (v51 < (y3.Entries.length : Int))) (by kernel_rfl) hb3 ?_
      refine RunH.adm 2 (es' := [.c [1, 1, 1, 1, 1, 1, 1, 0], .c [1, 1, 1, 1, 1, 1, 1, 1]]) (by kernel_rfl) ?_
      refine RunH.keep [3, 5, 6, 11, 12] (L' := [(3, .pointer (some ⟨g1, 0, none⟩)), (5, .pointer (some ⟨g2, 0, none⟩)), (6, .pointer (some ⟨g3, 0, none⟩)), (11, .pointer (some ⟨g6, 0, none⟩)), (12, .pointer (some ⟨g7, 0, none⟩))]) (by kernel_rfl) ?_
      exact he2 _ a2 _ _ _ y3 _ _ _ _ _ _ _ _ v_isRoot12_0 _ _ v_wanted11_0 _ _ ho7 ho8 hov_isRoot12_0 hov_wanted11_0 heq
theorem cache_Swept.e1_c {w0 : World} {H0 : Hp} {F : List Ch} {r : Cache × (List ByteArray) × Int} : ∀ (H : Hp) (a2 : Int) (g1 : Nat) (g2 : Nat) (g3 : Nat) (y3 : Cache) (A1 : Option Addr) (c1 : Nat) (ch1 : Ch) (A2 : Option Addr) (c2 : Nat) (ch2 : Ch) (g6 : Nat) (g7 : Nat) (v_wanted11_0 : List (ByteArray × Bool)) (gv_wanted11_0 : Nat) (chv_wanted11_0 : Ch) (v_isRoot12_0 : List (ByteArray × Bool)) (gv_isRoot12_0 : Nat) (chv_isRoot12_0 : Ch) , SlOwn kBlob 47 H A1 c1 y3.Blobs ch1 → SlOwn kEntry 51 H A2 c2 y3.Entries ch2 → MpOwn Value.string Kd.bool false H gv_wanted11_0 v_wanted11_0 chv_wanted11_0 → MpOwn Value.string Kd.bool false H gv_isRoot12_0 v_isRoot12_0 chv_isRoot12_0 → cache_Swept.e1 a2 y3 v_wanted11_0 v_isRoot12_0 = some r → RunH C30 (S30 F H0 r) H0 w0 [.c [1, 1, 1, 1, 1, 1, 0, 0], .c [1, 1, 1, 1, 1, 1, 0, 1], .c [1, 1, 1, 1, 1, 1, 1]] [(3, .pointer (some ⟨g1, 0, none⟩)), (5, .pointer (some ⟨g2, 0, none⟩)), (6, .pointer (some ⟨g3, 0, none⟩)), (11, .pointer (some ⟨g6, 0, none⟩)), (12, .pointer (some ⟨g7, 0, none⟩))] H ((some (g7, .cells #[.map (some gv_isRoot12_0)] 101 (0, 0))) :: (some (g6, .cells #[.map (some gv_wanted11_0)] 101 (0, 0))) :: chv_isRoot12_0 :: chv_wanted11_0 :: ch1 :: ch2 :: (some (g3, .cells #[.int .i64 0, .int .i64 0, .slice none 0 0, .slice none 0 0] 25 (0, 0))) :: (some (g2, .cells #[.int .i64 a2] 3 (0, 0))) :: (some (g1, .cells #[.int .i64 y3.Room, .int .i64 y3.Lease, .slice A1 y3.Blobs.length c1, .slice A2 y3.Entries.length c2] 25 (0, 0))) :: F) := by
  intro H a2 g1 g2 g3 y3 A1 c1 ch1 A2 c2 ch2 g6 g7 v_wanted11_0 gv_wanted11_0 chv_wanted11_0 v_isRoot12_0 gv_isRoot12_0 chv_isRoot12_0 ho7 ho8 hov_wanted11_0 hov_isRoot12_0 heq
  unfold cache_Swept.e1 at heq
  refine RunH.reg (by kernel_rfl) ?_
  refine RgH.runk 4 [3, 5, 6, 11, 12, 49, 50, 51] (vs := [.slice A2 y3.Entries.length c2]) (evs := [.load ⟨g1, 3, none⟩ (.slice A2 y3.Entries.length c2)]) (L' := [(3, .pointer (some ⟨g1, 0, none⟩)), (5, .pointer (some ⟨g2, 0, none⟩)), (6, .pointer (some ⟨g3, 0, none⟩)), (11, .pointer (some ⟨g6, 0, none⟩)), (12, .pointer (some ⟨g7, 0, none⟩)), (49, .slice A2 y3.Entries.length c2), (50, .int .i64 (y3.Entries.length : Int)), (51, .int .i64 0)]) (by kernel_rfl) (by kernel_rfl) (fun w hh => (hh.box 8 rfl rfl)) ?_
  refine RgH.done (by kernel_rfl) ?_
  refine RunH.adm 2 (es' := [.c [1, 1, 1, 1, 1, 1, 0, 1, 0, 0], .l [1, 1, 1, 1, 1, 1, 0, 1, 0, 0], .b 2, .c [1, 1, 1, 1, 1, 1, 1]]) (by kernel_rfl) ?_
  refine RunH.keep [3, 5, 6, 11, 12, 49, 50, 51] (L' := [(3, .pointer (some ⟨g1, 0, none⟩)), (5, .pointer (some ⟨g2, 0, none⟩)), (6, .pointer (some ⟨g3, 0, none⟩)), (11, .pointer (some ⟨g6, 0, none⟩)), (12, .pointer (some ⟨g7, 0, none⟩)), (49, .slice A2 y3.Entries.length c2), (50, .int .i64 (y3.Entries.length : Int)), (51, .int .i64 0)]) (by kernel_rfl) ?_
  exact ((cache_Swept.l3_c (e2 := cache_Swept.e2) (cache_Swept.e2_c)) big) _ a2 _ _ _ y3 _ _ _ _ _ _ _ _ v_isRoot12_0 _ _ v_wanted11_0 _ _ 0 ho7 ho8 hov_isRoot12_0 hov_wanted11_0 heq
theorem cache_Swept.l6_c {w0 : World} {H0 : Hp} {F : List Ch} {r : Cache × (List ByteArray) × Int} (e1 : Int → Cache → (List (ByteArray × Bool)) → (List (ByteArray × Bool)) → Option (Cache × (List ByteArray) × Int))
    (he1 : ∀ (H : Hp) (a2 : Int) (g1 : Nat) (g2 : Nat) (g3 : Nat) (y3 : Cache) (A1 : Option Addr) (c1 : Nat) (ch1 : Ch) (A2 : Option Addr) (c2 : Nat) (ch2 : Ch) (g6 : Nat) (g7 : Nat) (v_wanted11_0 : List (ByteArray × Bool)) (gv_wanted11_0 : Nat) (chv_wanted11_0 : Ch) (v_isRoot12_0 : List (ByteArray × Bool)) (gv_isRoot12_0 : Nat) (chv_isRoot12_0 : Ch) , SlOwn kBlob 47 H A1 c1 y3.Blobs ch1 → SlOwn kEntry 51 H A2 c2 y3.Entries ch2 → MpOwn Value.string Kd.bool false H gv_wanted11_0 v_wanted11_0 chv_wanted11_0 → MpOwn Value.string Kd.bool false H gv_isRoot12_0 v_isRoot12_0 chv_isRoot12_0 → e1 a2 y3 v_wanted11_0 v_isRoot12_0 = some r → RunH C30 (S30 F H0 r) H0 w0 [.c [1, 1, 1, 1, 1, 1, 0, 0], .c [1, 1, 1, 1, 1, 1, 0, 1], .c [1, 1, 1, 1, 1, 1, 1]] [(3, .pointer (some ⟨g1, 0, none⟩)), (5, .pointer (some ⟨g2, 0, none⟩)), (6, .pointer (some ⟨g3, 0, none⟩)), (11, .pointer (some ⟨g6, 0, none⟩)), (12, .pointer (some ⟨g7, 0, none⟩))] H ((some (g7, .cells #[.map (some gv_isRoot12_0)] 101 (0, 0))) :: (some (g6, .cells #[.map (some gv_wanted11_0)] 101 (0, 0))) :: chv_isRoot12_0 :: chv_wanted11_0 :: ch1 :: ch2 :: (some (g3, .cells #[.int .i64 0, .int .i64 0, .slice none 0 0, .slice none 0 0] 25 (0, 0))) :: (some (g2, .cells #[.int .i64 a2] 3 (0, 0))) :: (some (g1, .cells #[.int .i64 y3.Room, .int .i64 y3.Lease, .slice A1 y3.Blobs.length c1, .slice A2 y3.Entries.length c2] 25 (0, 0))) :: F)) : ∀ (k : Nat), ∀ (H : Hp) (a1 : List ByteArray) (Aa1 : Option Addr) (ca1 : Nat) (a2 : Int) (g1 : Nat) (g2 : Nat) (g3 : Nat) (y3 : Cache) (A1 : Option Addr) (c1 : Nat) (ch1 : Ch) (A2 : Option Addr) (c2 : Nat) (ch2 : Ch) (g6 : Nat) (g7 : Nat) (v_wanted11_0 : List (ByteArray × Bool)) (gv_wanted11_0 : Nat) (chv_wanted11_0 : Ch) (v_isRoot12_0 : List (ByteArray × Bool)) (gv_isRoot12_0 : Nat) (chv_isRoot12_0 : Ch) (v39 : Int) , Rw Kd.string H F Aa1 a1 → a1.length ≤ ca1 → SlOwn kBlob 47 H A1 c1 y3.Blobs ch1 → SlOwn kEntry 51 H A2 c2 y3.Entries ch2 → MpOwn Value.string Kd.bool false H gv_wanted11_0 v_wanted11_0 chv_wanted11_0 → MpOwn Value.string Kd.bool false H gv_isRoot12_0 v_isRoot12_0 chv_isRoot12_0 → cache_Swept.l6 e1 k a1 a2 y3 v_wanted11_0 v_isRoot12_0 v39 = some r → RunH C30 (S30 F H0 r) H0 w0 [.c [1, 1, 1, 1, 1, 0, 1, 0, 0], .l [1, 1, 1, 1, 1, 0, 1, 0, 0], .b 0, .c [1, 1, 1, 1, 1, 1]] [(3, .pointer (some ⟨g1, 0, none⟩)), (5, .pointer (some ⟨g2, 0, none⟩)), (6, .pointer (some ⟨g3, 0, none⟩)), (11, .pointer (some ⟨g6, 0, none⟩)), (12, .pointer (some ⟨g7, 0, none⟩)), (37, .slice Aa1 a1.length ca1), (38, .int .i64 (a1.length : Int)), (39, .int .i64 v39)] H ((some (g7, .cells #[.map (some gv_isRoot12_0)] 101 (0, 0))) :: (some (g6, .cells #[.map (some gv_wanted11_0)] 101 (0, 0))) :: chv_isRoot12_0 :: chv_wanted11_0 :: ch1 :: ch2 :: (some (g3, .cells #[.int .i64 0, .int .i64 0, .slice none 0 0, .slice none 0 0] 25 (0, 0))) :: (some (g2, .cells #[.int .i64 a2] 3 (0, 0))) :: (some (g1, .cells #[.int .i64 y3.Room, .int .i64 y3.Lease, .slice A1 y3.Blobs.length c1, .slice A2 y3.Entries.length c2] 25 (0, 0))) :: F) := by
  intro k
  induction k with
  | zero => intro H a1 Aa1 ca1 a2 g1 g2 g3 y3 A1 c1 ch1 A2 c2 ch2 g6 g7 v_wanted11_0 gv_wanted11_0 chv_wanted11_0 v_isRoot12_0 gv_isRoot12_0 chv_isRoot12_0 v39 hra1 hca1 ho7 ho8 hov_wanted11_0 hov_isRoot12_0 heq; exact nomatch (show (none : Option (Cache × (List ByteArray) × Int)) = some r from heq)
  | succ k ihk =>
    intro H a1 Aa1 ca1 a2 g1 g2 g3 y3 A1 c1 ch1 A2 c2 ch2 g6 g7 v_wanted11_0 gv_wanted11_0 chv_wanted11_0 v_isRoot12_0 gv_isRoot12_0 chv_isRoot12_0 v39 hra1 hca1 ho7 ho8 hov_wanted11_0 hov_isRoot12_0 heq
    rw [cache_Swept.l6] at heq
    refine RunH.adm 1 (es' := [.c [1, 1, 1, 1, 1, 0, 1, 0, 0, 0], .c [1, 1, 1, 1, 1, 0, 1, 0, 0, 1], .l [1, 1, 1, 1, 1, 0, 1, 0, 0], .b 0, .c [1, 1, 1, 1, 1, 1]]) (by kernel_rfl) ?_
    refine RunH.reg (by kernel_rfl) ?_
    refine RgH.runk 1 [3, 5, 6, 11, 12, 37, 38, 39, 40] (vs := []) (evs := []) (L' := [(3, .pointer (some ⟨g1, 0, none⟩)), (5, .pointer (some ⟨g2, 0, none⟩)), (6, .pointer (some ⟨g3, 0, none⟩)), (11, .pointer (some ⟨g6, 0, none⟩)), (12, .pointer (some ⟨g7, 0, none⟩)), (37, .slice Aa1 a1.length ca1), (38, .int .i64 (a1.length : Int)), (39, .int .i64 v39), (40, .bool (decide (v39 < (a1.length : Int))))]) (by kernel_rfl) (by kernel_rfl) (fun _ _ => trivial) ?_
    refine RgH.done (by kernel_rfl) ?_
    refine RunH.adm 1 (es' := [.c [1, 1, 1, 1, 1, 0, 1, 0, 0, 1, 0], .c [1, 1, 1, 1, 1, 0, 1, 0, 0, 1, 1], .l [1, 1, 1, 1, 1, 0, 1, 0, 0], .b 0, .c [1, 1, 1, 1, 1, 1]]) (by kernel_rfl) ?_
    rcases bool_cases (decide (v39 < (a1.length : Int))) with hb7 | hb7
    · replace heq := bif_true hb7 heq
      refine RunH.condT (c := decide (v39 < (a1.length : Int))) (by kernel_rfl) hb7 ?_
      refine RunH.adm 4 (es' := [.c [1, 1, 1, 1, 1, 0, 1, 0, 0, 1, 1, 0, 0, 0], .c [1, 1, 1, 1, 1, 0, 1, 0, 0, 1, 1, 0, 0, 1], .b 1, .c [1, 1, 1, 1, 1, 0, 1, 0, 0, 1, 1, 1], .l [1, 1, 1, 1, 1, 0, 1, 0, 0], .b 0, .c [1, 1, 1, 1, 1, 1]]) (by kernel_rfl) ?_
      refine RunH.reg (by kernel_rfl) ?_
      obtain ⟨x3, hx3, heq⟩ := bind_some heq
      obtain ⟨ha3, cs3, hK3, hcc4⟩ := hra1.get hx3
      obtain rfl : cs3 = [.string x3] := hK3
      refine RgH.runk 3 [3, 5, 6, 11, 12, 14, 37, 38, 39] (vs := [.string x3]) (evs := [.need (Aa1 = some (adr Aa1) ∧ (0 : Int) ≤ v39 ∧ v39 < ((a1.length : Nat) : Int)), .load ((adr Aa1).add (v39.toNat * 1)) (.string x3)]) (L' := [(3, .pointer (some ⟨g1, 0, none⟩)), (5, .pointer (some ⟨g2, 0, none⟩)), (6, .pointer (some ⟨g3, 0, none⟩)), (11, .pointer (some ⟨g6, 0, none⟩)), (12, .pointer (some ⟨g7, 0, none⟩)), (14, .string x3), (37, .slice Aa1 a1.length ca1), (38, .int .i64 (a1.length : Int)), (39, .int .i64 v39)]) (by kernel_rfl) (by kernel_rfl) (fun w hh => ⟨⟨ha3, (at?_some hx3).1, (at?_some hx3).2.1⟩, (hcc4 _ _ (hh.drop 9) 0 _ rfl)⟩) ?_
      refine RgH.done (by kernel_rfl) ?_
      refine RunH.keep [3, 5, 6, 11, 12, 14, 37, 38, 39] (L' := [(3, .pointer (some ⟨g1, 0, none⟩)), (5, .pointer (some ⟨g2, 0, none⟩)), (6, .pointer (some ⟨g3, 0, none⟩)), (11, .pointer (some ⟨g6, 0, none⟩)), (12, .pointer (some ⟨g7, 0, none⟩)), (14, .string x3), (37, .slice Aa1 a1.length ca1), (38, .int .i64 (a1.length : Int)), (39, .int .i64 v39)]) (by kernel_rfl) ?_
      refine RunH.draw (fun w => Heap H w0 w ((some (g7, .cells #[.map (some gv_isRoot12_0)] 101 (0, 0))) :: (some (g6, .cells #[.map (some gv_wanted11_0)] 101 (0, 0))) :: chv_isRoot12_0 :: chv_wanted11_0 :: ch1 :: ch2 :: (some (g3, .cells #[.int .i64 0, .int .i64 0, .slice none 0 0, .slice none 0 0] 25 (0, 0))) :: (some (g2, .cells #[.int .i64 a2] 3 (0, 0))) :: (some (g1, .cells #[.int .i64 y3.Room, .int .i64 y3.Lease, .slice A1 y3.Blobs.length c1, .slice A2 y3.Entries.length c2] 25 (0, 0))) :: F)) (fun w => Heap H w0 w ((some (g7, .cells #[.map (some gv_isRoot12_0)] 101 (0, 0))) :: (some (g6, .cells #[.map (some gv_wanted11_0)] 101 (0, 0))) :: chv_isRoot12_0 :: ch1 :: ch2 :: (some (g3, .cells #[.int .i64 0, .int .i64 0, .slice none 0 0, .slice none 0 0] 25 (0, 0))) :: (some (g2, .cells #[.int .i64 a2] 3 (0, 0))) :: (some (g1, .cells #[.int .i64 y3.Room, .int .i64 y3.Lease, .slice A1 y3.Blobs.length c1, .slice A2 y3.Entries.length c2] 25 (0, 0))) :: F)) [3, 3, 3, 3, 1, 2] (n := 6) (ls := [false, false, false, false, false, false]) (by kernel_rfl) (by kernel_rfl) (by kernel_rfl) rfl ?_
      refine DrH.run [0, 1] (m := 4) (ls' := [true, true, false, false, false, false]) (vs := [.map (some gv_wanted11_0)]) (evs := [.load ⟨g6, 0, none⟩ (.map (some gv_wanted11_0))]) (L' := [(44, .string x3), (43, .map (some gv_wanted11_0)), (3, .pointer (some ⟨g1, 0, none⟩)), (5, .pointer (some ⟨g2, 0, none⟩)), (6, .pointer (some ⟨g3, 0, none⟩)), (11, .pointer (some ⟨g6, 0, none⟩)), (12, .pointer (some ⟨g7, 0, none⟩)), (14, .string x3), (37, .slice Aa1 a1.length ca1), (38, .int .i64 (a1.length : Int)), (39, .int .i64 v39)]) (by kernel_rfl) (fun w hh => hh.pick 9 [0, 1, 2, 3, 4, 5, 6, 7, 8] (by kernel_rfl)) (fun w hh => hh.pick 9 [0, 1, 2, 4, 5, 6, 7, 8] (by kernel_rfl)) (by kernel_rfl) (fun w hh => (hh.box 1 rfl rfl)) (by kernel_rfl) ?_
      refine DrH.keep [3, 5, 6, 11, 12, 14, 37, 38, 39, 43, 44] (L' := [(3, .pointer (some ⟨g1, 0, none⟩)), (5, .pointer (some ⟨g2, 0, none⟩)), (6, .pointer (some ⟨g3, 0, none⟩)), (11, .pointer (some ⟨g6, 0, none⟩)), (12, .pointer (some ⟨g7, 0, none⟩)), (14, .string x3), (37, .slice Aa1 a1.length ca1), (38, .int .i64 (a1.length : Int)), (39, .int .i64 v39), (43, .map (some gv_wanted11_0)), (44, .string x3)]) (by kernel_rfl) ?_
      refine DrH.run2 [2, 3] (m := 2) (ls' := [true, true, true, true, false, false]) (vs := [.map (some gv_isRoot12_0)]) (evs := [.load ⟨g7, 0, none⟩ (.map (some gv_isRoot12_0))]) (L' := [(46, .string x3), (45, .map (some gv_isRoot12_0)), (3, .pointer (some ⟨g1, 0, none⟩)), (5, .pointer (some ⟨g2, 0, none⟩)), (6, .pointer (some ⟨g3, 0, none⟩)), (11, .pointer (some ⟨g6, 0, none⟩)), (12, .pointer (some ⟨g7, 0, none⟩)), (14, .string x3), (37, .slice Aa1 a1.length ca1), (38, .int .i64 (a1.length : Int)), (39, .int .i64 v39), (43, .map (some gv_wanted11_0)), (44, .string x3)]) (by kernel_rfl) (fun w hh => hh.pick 9 [0, 1, 2, 4, 5, 6, 7, 8] (by kernel_rfl)) (by kernel_rfl) (fun w hh => (hh.box 0 rfl rfl)) (by kernel_rfl) ?_
      refine DrH.keep [3, 5, 6, 11, 12, 37, 38, 39, 43, 44, 45, 46] (L' := [(3, .pointer (some ⟨g1, 0, none⟩)), (5, .pointer (some ⟨g2, 0, none⟩)), (6, .pointer (some ⟨g3, 0, none⟩)), (11, .pointer (some ⟨g6, 0, none⟩)), (12, .pointer (some ⟨g7, 0, none⟩)), (37, .slice Aa1 a1.length ca1), (38, .int .i64 (a1.length : Int)), (39, .int .i64 v39), (43, .map (some gv_wanted11_0)), (44, .string x3), (45, .map (some gv_isRoot12_0)), (46, .string x3)]) (by kernel_rfl) ?_
      refine DrH.does (n := 1) (ls' := [true, true, true, true, true, false]) 4 (by kernel_rfl) rfl (DoesH.mapUpdate (kk := 3) (cv := [.bool true]) (k := x3) (v := true) (by kernel_rfl) (KyAt.string Tryd.underlying9) rfl rfl rfl hov_wanted11_0) ?_
      rintro _ _ _ _ ⟨ch11, rfl, rfl, rfl, ho19⟩
      refine ⟨fun _ w hh => ⟨(fun h => by cases h), fun _ => (fun w hh => hh.pick 9 [0, 1, 2, 4, 5, 6, 7, 8] (by kernel_rfl)) w hh, (fun h => by cases h)⟩, ?_⟩
      refine DrH.keep [3, 5, 6, 11, 12, 37, 38, 39, 45, 46] (L' := [(3, .pointer (some ⟨g1, 0, none⟩)), (5, .pointer (some ⟨g2, 0, none⟩)), (6, .pointer (some ⟨g3, 0, none⟩)), (11, .pointer (some ⟨g6, 0, none⟩)), (12, .pointer (some ⟨g7, 0, none⟩)), (37, .slice Aa1 a1.length ca1), (38, .int .i64 (a1.length : Int)), (39, .int .i64 v39), (45, .map (some gv_isRoot12_0)), (46, .string x3)]) (by kernel_rfl) ?_
      refine DrH.does (n := 0) (ls' := [true, true, true, true, true, true]) 5 (by kernel_rfl) rfl (DoesH.mapUpdate (kk := 2) (cv := [.bool true]) (k := x3) (v := true) (by kernel_rfl) (KyAt.string Tryd.underlying9) rfl rfl rfl hov_isRoot12_0) ?_
      rintro _ _ _ _ ⟨ch12, rfl, rfl, rfl, ho20⟩
      refine ⟨fun _ w hh => ⟨(fun h => by cases h), (fun h => absurd h (by decide)), (fun h => by cases h)⟩, ?_⟩
      refine DrH.keep [3, 5, 6, 11, 12, 37, 38, 39] (L' := [(3, .pointer (some ⟨g1, 0, none⟩)), (5, .pointer (some ⟨g2, 0, none⟩)), (6, .pointer (some ⟨g3, 0, none⟩)), (11, .pointer (some ⟨g6, 0, none⟩)), (12, .pointer (some ⟨g7, 0, none⟩)), (37, .slice Aa1 a1.length ca1), (38, .int .i64 (a1.length : Int)), (39, .int .i64 v39)]) (by kernel_rfl) ?_
      refine DrH.done (by kernel_rfl) ?_
      refine RunH.adm 1 (es' := [.c [1, 1, 1, 1, 1, 0, 1, 0, 0, 1, 1, 1], .l [1, 1, 1, 1, 1, 0, 1, 0, 0], .b 0, .c [1, 1, 1, 1, 1, 1]]) (by kernel_rfl) ?_
      refine RunH.reg (by kernel_rfl) ?_
      refine RgH.runk 2 [3, 5, 6, 11, 12, 37, 38, 39] (vs := []) (evs := []) (L' := [(3, .pointer (some ⟨g1, 0, none⟩)), (5, .pointer (some ⟨g2, 0, none⟩)), (6, .pointer (some ⟨g3, 0, none⟩)), (11, .pointer (some ⟨g6, 0, none⟩)), (12, .pointer (some ⟨g7, 0, none⟩)), (37, .slice Aa1 a1.length ca1), (38, .int .i64 (a1.length : Int)), (39, .int .i64 (w64 (v39 + 1)))]) (by kernel_rfl) (by kernel_rfl) (fun _ _ => trivial) ?_
      refine RgH.done (by kernel_rfl) ?_
      refine RunH.adm 1 (es' := [.c [1, 1, 1, 1, 1, 0, 1, 0, 0], .l [1, 1, 1, 1, 1, 0, 1, 0, 0], .b 0, .c [1, 1, 1, 1, 1, 1]]) (by kernel_rfl) ?_
      refine RunH.keep [3, 5, 6, 11, 12, 37, 38, 39] (L' := [(3, .pointer (some ⟨g1, 0, none⟩)), (5, .pointer (some ⟨g2, 0, none⟩)), (6, .pointer (some ⟨g3, 0, none⟩)), (11, .pointer (some ⟨g6, 0, none⟩)), (12, .pointer (some ⟨g7, 0, none⟩)), (37, .slice Aa1 a1.length ca1), (38, .int .i64 (a1.length : Int)), (39, .int .i64 (w64 (v39 + 1)))]) (by kernel_rfl) ?_
      exact ihk _ a1 _ _ a2 _ _ _ y3 _ _ _ _ _ _ _ _ (mput v_wanted11_0 x3 true) _ _ (mput v_isRoot12_0 x3 true) _ _ (w64 (v39 + 1)) hra1 hca1 ho7 ho8 ho19 ho20 heq
    · replace heq := bif_false hb7 heq
      refine RunH.condF (c := decide (v39 < (a1.length : Int))) (by kernel_rfl) hb7 ?_
      refine RunH.adm 3 (es' := [.c [1, 1, 1, 1, 1, 1, 0, 0], .c [1, 1, 1, 1, 1, 1, 0, 1], .c [1, 1, 1, 1, 1, 1, 1]]) (by kernel_rfl) ?_
      refine RunH.keep [3, 5, 6, 11, 12] (L' := [(3, .pointer (some ⟨g1, 0, none⟩)), (5, .pointer (some ⟨g2, 0, none⟩)), (6, .pointer (some ⟨g3, 0, none⟩)), (11, .pointer (some ⟨g6, 0, none⟩)), (12, .pointer (some ⟨g7, 0, none⟩))]) (by kernel_rfl) ?_
      exact he1 _ a2 _ _ _ y3 _ _ _ _ _ _ _ _ v_wanted11_0 _ _ v_isRoot12_0 _ _ ho7 ho8 hov_wanted11_0 hov_isRoot12_0 heq
theorem cache_Swept_c {w0 : World} {H0 : Hp} {F : List Ch} {a0 : Cache} {Aa0_2 : Option Addr} {na0_2 : Nat} {ca0_2 : Nat} {Aa0_3 : Option Addr} {na0_3 : Nat} {ca0_3 : Nat} {a1 : List ByteArray} {Aa1 : Option Addr} {na1 : Nat} {ca1 : Nat} {a2 : Int} {r : Cache × (List ByteArray) × Int} (hra0_2 : Rw kBlob H0 F Aa0_2 a0.Blobs) (hca0_2 : na0_2 ≤ ca0_2) (hna0_2 : na0_2 = a0.Blobs.length) (hra0_3 : Rw kEntry H0 F Aa0_3 a0.Entries) (hca0_3 : na0_3 ≤ ca0_3) (hna0_3 : na0_3 = a0.Entries.length) (hra1 : Rw Kd.string H0 F Aa1 a1) (hca1 : na1 ≤ ca1) (hna1 : na1 = a1.length) (heq : cache_Swept.f a0 a1 a2 = some r) : CallsH Tryd.prog 30 #[.agg #[.int .i64 a0.Room, .int .i64 a0.Lease, .slice Aa0_2 na0_2 ca0_2, .slice Aa0_3 na0_3 ca0_3], .slice Aa1 na1 ca1, .int .i64 a2] H0 w0 (F) (S30 F H0 r) := by
  refine calls_of_runH (F := C30) Tryd.func30 (by kernel_rfl) Tryd.ntmps30 (args := [.agg #[.int .i64 a0.Room, .int .i64 a0.Lease, .slice Aa0_2 na0_2 ca0_2, .slice Aa0_3 na0_3 ca0_3], .slice Aa1 na1 ca1, .int .i64 a2]) (by kernel_rfl) ?_
  subst hna0_2
  subst hna0_3
  subst hna1
  unfold cache_Swept.f at heq
  suffices key : ∀ (H : Hp), Rw kBlob H F Aa0_2 a0.Blobs → Rw kEntry H F Aa0_3 a0.Entries → Rw Kd.string H F Aa1 a1 → RunH C30 (S30 F H0 r) H0 w0 [.c []] (argL 0 [.agg #[.int .i64 a0.Room, .int .i64 a0.Lease, .slice Aa0_2 (a0.Blobs.length) ca0_2, .slice Aa0_3 (a0.Entries.length) ca0_3], .slice Aa1 (a1.length) ca1, .int .i64 a2]) H (F) from key H0 hra0_2 hra0_3 hra1
  intro H hra0_2 hra0_3 hra1
  refine RunH.adm 1 (es' := [.c [0], .c [1]]) (by kernel_rfl) ?_
  refine RunH.reg (by kernel_rfl) ?_
  refine RgH.does (DoesH.new (d := 3) (v := fun g => .pointer (some ⟨g, 0, none⟩)) (o := fun g => .cells #[.int .i64 a0.Room, .int .i64 a0.Lease, .slice Aa0_2 a0.Blobs.length ca0_2, .slice Aa0_3 a0.Entries.length ca0_3] 25 (0, 0)) (fun g => by kernel_rfl)) ?_
  rintro _ _ _ _ ⟨g1, rfl, rfl, rfl⟩
  refine RgH.does (DoesH.new (d := 5) (v := fun g => .pointer (some ⟨g, 0, none⟩)) (o := fun g => .cells #[.int .i64 a2] 3 (0, 0)) (fun g => by kernel_rfl)) ?_
  rintro _ _ _ _ ⟨g2, rfl, rfl, rfl⟩
  refine RgH.does (DoesH.new (d := 6) (v := fun g => .pointer (some ⟨g, 0, none⟩)) (o := fun g => .cells #[.int .i64 0, .int .i64 0, .slice none 0 0, .slice none 0 0] 25 (0, 0)) (fun g => by kernel_rfl)) ?_
  rintro _ _ _ _ ⟨g3, rfl, rfl, rfl⟩
  refine RgH.runk 5 [1, 3, 5, 6] (vs := []) (evs := []) (L' := [(1, .slice Aa1 a1.length ca1), (3, .pointer (some ⟨g1, 0, none⟩)), (5, .pointer (some ⟨g2, 0, none⟩)), (6, .pointer (some ⟨g3, 0, none⟩))]) (by kernel_rfl) (by kernel_rfl) (fun _ _ => trivial) ?_
  refine RgH.done (by kernel_rfl) ?_
  refine RunH.adm 2 (es' := [.c [1, 0, 0], .c [1, 0, 1], .c [1, 1]]) (by kernel_rfl) ?_
  refine RunH.reg (by kernel_rfl) ?_
  refine RgH.runk 2 [1, 3, 5, 6, 20, 21] (vs := [.int .i64 a0.Room, .int .i64 a0.Lease, .slice Aa0_2 a0.Blobs.length ca0_2, .slice Aa0_3 a0.Entries.length ca0_3, .int .i64 a2]) (evs := [.load ⟨g1, 0, none⟩ (.int .i64 a0.Room), .load ⟨g1, 1, none⟩ (.int .i64 a0.Lease), .load ⟨g1, 2, none⟩ (.slice Aa0_2 a0.Blobs.length ca0_2), .load ⟨g1, 3, none⟩ (.slice Aa0_3 a0.Entries.length ca0_3), .load ⟨g2, 0, none⟩ (.int .i64 a2)]) (L' := [(1, .slice Aa1 a1.length ca1), (3, .pointer (some ⟨g1, 0, none⟩)), (5, .pointer (some ⟨g2, 0, none⟩)), (6, .pointer (some ⟨g3, 0, none⟩)), (20, .agg #[.int .i64 a0.Room, .int .i64 a0.Lease, .slice Aa0_2 a0.Blobs.length ca0_2, .slice Aa0_3 a0.Entries.length ca0_3]), (21, .int .i64 a2)]) (by kernel_rfl) (by kernel_rfl) (fun w hh => ⟨(hh.box 2 rfl rfl), (hh.box 2 rfl rfl), (hh.box 2 rfl rfl), (hh.box 2 rfl rfl), (hh.box 1 rfl rfl)⟩) ?_
  obtain ⟨y1, hy1, heq⟩ := bind_some heq
  refine RgH.does (DoesH.call (d := 22) (g := 69) (args := #[.agg #[.int .i64 a0.Room, .int .i64 a0.Lease, .slice Aa0_2 a0.Blobs.length ca0_2, .slice Aa0_3 a0.Entries.length ca0_3], .int .i64 a2]) (by kernel_rfl) (cache_checkAt_c (a0 := a0) (a1 := a2) (hra0_2.wk (fun _ h => (.tail _ (.tail _ (.tail _ h))))) hca0_2 rfl (hra0_3.wk (fun _ h => (.tail _ (.tail _ (.tail _ h))))) hca0_3 rfl hy1)) ?_
  rintro _ _ _ _ ⟨_, rfl, rfl, rfl, rfl⟩
  refine RgH.runk 4 [1, 3, 5, 6, 9] (vs := []) (evs := []) (L' := [(1, .slice Aa1 a1.length ca1), (3, .pointer (some ⟨g1, 0, none⟩)), (5, .pointer (some ⟨g2, 0, none⟩)), (6, .pointer (some ⟨g3, 0, none⟩)), (9, .int .i64 y1)]) (by kernel_rfl) (by kernel_rfl) (fun _ _ => trivial) ?_
  refine RgH.done (by kernel_rfl) ?_
  refine RunH.adm 1 (es' := [.c [1, 0, 1, 0], .c [1, 0, 1, 1], .c [1, 1]]) (by kernel_rfl) ?_
  refine RunH.reg (by kernel_rfl) ?_
  refine RgH.runk 2 [1, 3, 5, 6, 9, 24] (vs := []) (evs := []) (L' := [(1, .slice Aa1 a1.length ca1), (3, .pointer (some ⟨g1, 0, none⟩)), (5, .pointer (some ⟨g2, 0, none⟩)), (6, .pointer (some ⟨g3, 0, none⟩)), (9, .int .i64 y1), (24, .bool (y1 != 0))]) (by kernel_rfl) (by kernel_rfl) (fun _ _ => trivial) ?_
  refine RgH.done (by kernel_rfl) ?_
  rcases bool_cases (y1 != 0) with hb1 | hb1
  · replace heq := bif_true hb1 heq
    refine RunH.condT (c := y1 != 0) (by kernel_rfl) hb1 ?_
    refine RunH.adm 1 (es' := [.c [1, 0, 1, 1, 0, 0], .c [1, 0, 1, 1, 0, 1], .c [1, 1]]) (by kernel_rfl) ?_
    refine RunH.reg (by kernel_rfl) ?_
    refine RgH.runk 2 [6, 25, 26] (vs := []) (evs := []) (L' := [(6, .pointer (some ⟨g3, 0, none⟩)), (25, .agg #[.int .i64 0, .int .i64 0, .slice none 0 0, .slice none 0 0]), (26, .int .i64 y1)]) (by kernel_rfl) (by kernel_rfl) (fun _ _ => trivial) ?_
    refine RgH.does (DoesH.store (k := 0) (g := g3) (off := 0) (v := .agg #[.int .i64 0, .int .i64 0, .slice none 0 0, .slice none 0 0]) (cells' := #[.int .i64 0, .int .i64 0, .slice none 0 0, .slice none 0 0]) (by kernel_rfl) rfl (by kernel_rfl) (by kernel_rfl)) ?_
    rintro _ _ _ _ ⟨rfl, rfl, rfl⟩
    refine RgH.runk 5 [6, 7, 8] (vs := []) (evs := []) (L' := [(6, .pointer (some ⟨g3, 0, none⟩)), (7, .slice none 0 0), (8, .int .i64 y1)]) (by kernel_rfl) (by kernel_rfl) (fun _ _ => trivial) ?_
    refine RgH.done (by kernel_rfl) ?_
    refine RunH.nilc ?_
    have ho1 : SlOwn kBlob 47 H none 0 ([] : List Blob) none := SlOwn.nil
    refine RunH.nilc ?_
    have ho2 : SlOwn kEntry 51 H none 0 ([] : List Entry) none := SlOwn.nil
    refine RunH.nilc ?_
    have ho3 : SlOwn Kd.string 9 H none 0 ([] : List ByteArray) none := SlOwn.nil
    obtain rfl := Option.some.inj heq
    refine RunH.pick 6 [3, 2, 1, 0] (cs' := (some (g3, .cells #[.int .i64 0, .int .i64 0, .slice none 0 0, .slice none 0 0] 25 (0, 0))) :: none :: none :: none :: F) (by kernel_rfl) rfl ?_
    exact RunH.doneM' 1 (vs := [.agg #[.int .i64 0, .int .i64 0, .slice none 0 0, .slice none 0 0], .slice none 0 0, .int .i64 y1]) (v := .tuple #[.agg #[.int .i64 0, .int .i64 0, .slice none 0 0, .slice none 0 0], .slice none 0 0, .int .i64 y1]) (by kernel_rfl) Tryd.func30 (fun w hh => show ResAll _ _ _ [.cell 6 25, .tmp 7, .tmp 8] _ from ⟨⟨⟨g3, 0, none⟩, by kernel_rfl, trS_run _ (vs := [.int .i64 0, .int .i64 0, .slice none 0 0, .slice none 0 0]) (r := []) (es := [.load ⟨g3, 0, none⟩ (.int .i64 0), .load ⟨g3, 1, none⟩ (.int .i64 0), .load ⟨g3, 2, none⟩ (.slice none 0 0), .load ⟨g3, 3, none⟩ (.slice none 0 0)]) (by kernel_rfl) ⟨(hh.box 0 rfl rfl), (hh.box 0 rfl rfl), (hh.box 0 rfl rfl), (hh.box 0 rfl rfl)⟩⟩, (show lk _ _ = some _ by kernel_rfl), (show lk _ _ = some _ by kernel_rfl), trivial⟩) rfl (cs' := none :: none :: none :: F) rfl ⟨none, 0, none, none, 0, none, none, 0, none, rfl, rfl, ho1, ho2, ho3⟩
  · replace heq := bif_false hb1 heq
    refine RunH.condF (c := y1 != 0) (by kernel_rfl) hb1 ?_
    refine RunH.adm 3 (es' := [.c [1, 1, 0, 0], .c [1, 1, 0, 1], .c [1, 1, 1]]) (by kernel_rfl) ?_
    refine RunH.reg (by kernel_rfl) ?_
    refine RgH.runk 1 [1, 3, 5, 6, 27] (vs := []) (evs := []) (L' := [(1, .slice Aa1 a1.length ca1), (3, .pointer (some ⟨g1, 0, none⟩)), (5, .pointer (some ⟨g2, 0, none⟩)), (6, .pointer (some ⟨g3, 0, none⟩)), (27, .slice Aa1 a1.length ca1)]) (by kernel_rfl) (by kernel_rfl) (fun _ _ => trivial) ?_
    obtain ⟨y2, hy2, heq⟩ := bind_some heq
    refine RgH.does (DoesH.call (d := 28) (g := 60) (args := #[.slice Aa1 a1.length ca1, .int .i64 3000]) (by kernel_rfl) (cache_checkDigests_c (a0 := a1) (a1 := 3000) (hra1.wk (fun _ h => (.tail _ (.tail _ (.tail _ h))))) hca1 rfl hy2)) ?_
    rintro _ _ _ _ ⟨_, rfl, rfl, rfl, rfl⟩
    refine RgH.runk 3 [1, 3, 5, 6, 10] (vs := []) (evs := []) (L' := [(1, .slice Aa1 a1.length ca1), (3, .pointer (some ⟨g1, 0, none⟩)), (5, .pointer (some ⟨g2, 0, none⟩)), (6, .pointer (some ⟨g3, 0, none⟩)), (10, .int .i64 y2)]) (by kernel_rfl) (by kernel_rfl) (fun _ _ => trivial) ?_
    refine RgH.done (by kernel_rfl) ?_
    refine RunH.adm 1 (es' := [.c [1, 1, 0, 1, 0], .c [1, 1, 0, 1, 1], .c [1, 1, 1]]) (by kernel_rfl) ?_
    refine RunH.reg (by kernel_rfl) ?_
    refine RgH.runk 2 [1, 3, 5, 6, 10, 30] (vs := []) (evs := []) (L' := [(1, .slice Aa1 a1.length ca1), (3, .pointer (some ⟨g1, 0, none⟩)), (5, .pointer (some ⟨g2, 0, none⟩)), (6, .pointer (some ⟨g3, 0, none⟩)), (10, .int .i64 y2), (30, .bool (y2 != 0))]) (by kernel_rfl) (by kernel_rfl) (fun _ _ => trivial) ?_
    refine RgH.done (by kernel_rfl) ?_
    rcases bool_cases (y2 != 0) with hb2 | hb2
    · replace heq := bif_true hb2 heq
      refine RunH.condT (c := y2 != 0) (by kernel_rfl) hb2 ?_
      refine RunH.adm 1 (es' := [.c [1, 1, 0, 1, 1, 0, 0], .c [1, 1, 0, 1, 1, 0, 1], .c [1, 1, 1]]) (by kernel_rfl) ?_
      refine RunH.reg (by kernel_rfl) ?_
      refine RgH.runk 2 [6, 31, 32] (vs := []) (evs := []) (L' := [(6, .pointer (some ⟨g3, 0, none⟩)), (31, .agg #[.int .i64 0, .int .i64 0, .slice none 0 0, .slice none 0 0]), (32, .int .i64 y2)]) (by kernel_rfl) (by kernel_rfl) (fun _ _ => trivial) ?_
      refine RgH.does (DoesH.store (k := 0) (g := g3) (off := 0) (v := .agg #[.int .i64 0, .int .i64 0, .slice none 0 0, .slice none 0 0]) (cells' := #[.int .i64 0, .int .i64 0, .slice none 0 0, .slice none 0 0]) (by kernel_rfl) rfl (by kernel_rfl) (by kernel_rfl)) ?_
      rintro _ _ _ _ ⟨rfl, rfl, rfl⟩
      refine RgH.runk 5 [6, 7, 8] (vs := []) (evs := []) (L' := [(6, .pointer (some ⟨g3, 0, none⟩)), (7, .slice none 0 0), (8, .int .i64 y2)]) (by kernel_rfl) (by kernel_rfl) (fun _ _ => trivial) ?_
      refine RgH.done (by kernel_rfl) ?_
      refine RunH.nilc ?_
      have ho4 : SlOwn kBlob 47 H none 0 ([] : List Blob) none := SlOwn.nil
      refine RunH.nilc ?_
      have ho5 : SlOwn kEntry 51 H none 0 ([] : List Entry) none := SlOwn.nil
      refine RunH.nilc ?_
      have ho6 : SlOwn Kd.string 9 H none 0 ([] : List ByteArray) none := SlOwn.nil
      obtain rfl := Option.some.inj heq
      refine RunH.pick 6 [3, 2, 1, 0] (cs' := (some (g3, .cells #[.int .i64 0, .int .i64 0, .slice none 0 0, .slice none 0 0] 25 (0, 0))) :: none :: none :: none :: F) (by kernel_rfl) rfl ?_
      exact RunH.doneM' 1 (vs := [.agg #[.int .i64 0, .int .i64 0, .slice none 0 0, .slice none 0 0], .slice none 0 0, .int .i64 y2]) (v := .tuple #[.agg #[.int .i64 0, .int .i64 0, .slice none 0 0, .slice none 0 0], .slice none 0 0, .int .i64 y2]) (by kernel_rfl) Tryd.func30 (fun w hh => show ResAll _ _ _ [.cell 6 25, .tmp 7, .tmp 8] _ from ⟨⟨⟨g3, 0, none⟩, by kernel_rfl, trS_run _ (vs := [.int .i64 0, .int .i64 0, .slice none 0 0, .slice none 0 0]) (r := []) (es := [.load ⟨g3, 0, none⟩ (.int .i64 0), .load ⟨g3, 1, none⟩ (.int .i64 0), .load ⟨g3, 2, none⟩ (.slice none 0 0), .load ⟨g3, 3, none⟩ (.slice none 0 0)]) (by kernel_rfl) ⟨(hh.box 0 rfl rfl), (hh.box 0 rfl rfl), (hh.box 0 rfl rfl), (hh.box 0 rfl rfl)⟩⟩, (show lk _ _ = some _ by kernel_rfl), (show lk _ _ = some _ by kernel_rfl), trivial⟩) rfl (cs' := none :: none :: none :: F) rfl ⟨none, 0, none, none, 0, none, none, 0, none, rfl, rfl, ho4, ho5, ho6⟩
    · replace heq := bif_false hb2 heq
      refine RunH.condF (c := y2 != 0) (by kernel_rfl) hb2 ?_
      refine RunH.adm 2 (es' := [.c [1, 1, 1, 0], .c [1, 1, 1, 1]]) (by kernel_rfl) ?_
      refine RunH.reg (by kernel_rfl) ?_
      refine RgH.runk 1 [1, 3, 5, 6, 33] (vs := [.int .i64 a0.Room, .int .i64 a0.Lease, .slice Aa0_2 a0.Blobs.length ca0_2, .slice Aa0_3 a0.Entries.length ca0_3]) (evs := [.load ⟨g1, 0, none⟩ (.int .i64 a0.Room), .load ⟨g1, 1, none⟩ (.int .i64 a0.Lease), .load ⟨g1, 2, none⟩ (.slice Aa0_2 a0.Blobs.length ca0_2), .load ⟨g1, 3, none⟩ (.slice Aa0_3 a0.Entries.length ca0_3)]) (L' := [(1, .slice Aa1 a1.length ca1), (3, .pointer (some ⟨g1, 0, none⟩)), (5, .pointer (some ⟨g2, 0, none⟩)), (6, .pointer (some ⟨g3, 0, none⟩)), (33, .agg #[.int .i64 a0.Room, .int .i64 a0.Lease, .slice Aa0_2 a0.Blobs.length ca0_2, .slice Aa0_3 a0.Entries.length ca0_3])]) (by kernel_rfl) (by kernel_rfl) (fun w hh => ⟨(hh.box 2 rfl rfl), (hh.box 2 rfl rfl), (hh.box 2 rfl rfl), (hh.box 2 rfl rfl)⟩) ?_
      obtain ⟨y3, hy3, heq⟩ := bind_some heq
      refine RgH.does (DoesH.call (d := 34) (g := 70) (args := #[.agg #[.int .i64 a0.Room, .int .i64 a0.Lease, .slice Aa0_2 a0.Blobs.length ca0_2, .slice Aa0_3 a0.Entries.length ca0_3]]) (by kernel_rfl) (cache_own_c (a0 := a0) (hra0_2.wk (fun _ h => (.tail _ (.tail _ (.tail _ h))))) hca0_2 rfl (hra0_3.wk (fun _ h => (.tail _ (.tail _ (.tail _ h))))) hca0_3 rfl hy3)) ?_
      rintro _ H _ hl ⟨_, rfl, A1, c1, ch1, A2, c2, ch2, rfl, rfl, ho7, ho8⟩
      replace hra1 := hra1.mono hl
      replace hra0_2 := hra0_2.mono hl
      replace hra0_3 := hra0_3.mono hl
      refine RgH.does (DoesH.store (k := 4) (g := g1) (off := 0) (v := .agg #[.int .i64 y3.Room, .int .i64 y3.Lease, .slice A1 y3.Blobs.length c1, .slice A2 y3.Entries.length c2]) (cells' := #[.int .i64 y3.Room, .int .i64 y3.Lease, .slice A1 y3.Blobs.length c1, .slice A2 y3.Entries.length c2]) (by kernel_rfl) rfl (by kernel_rfl) (by kernel_rfl)) ?_
      rintro _ _ _ _ ⟨rfl, rfl, rfl⟩
      refine RgH.done (by kernel_rfl) ?_
      refine RunH.adm 1 (es' := [.c [1, 1, 1, 1, 0], .c [1, 1, 1, 1, 1]]) (by kernel_rfl) ?_
      refine RunH.reg (by kernel_rfl) ?_
      refine RgH.does (DoesH.new (d := 35) (v := fun g => .map (some g)) (o := fun g => .map #[] 0) (fun g => by kernel_rfl)) ?_
      rintro _ _ _ _ ⟨g4, rfl, rfl, rfl⟩
      have ho9 : MpOwn Value.string Kd.bool false H g4 ([] : List (ByteArray × Bool)) (some (g4, .map #[] 0)) := MpOwn.made
      refine RgH.does (DoesH.new (d := 36) (v := fun g => .map (some g)) (o := fun g => .map #[] 0) (fun g => by kernel_rfl)) ?_
      rintro _ _ _ _ ⟨g5, rfl, rfl, rfl⟩
      have ho10 : MpOwn Value.string Kd.bool false H g5 ([] : List (ByteArray × Bool)) (some (g5, .map #[] 0)) := MpOwn.made
      refine RgH.does (DoesH.new (d := 11) (v := fun g => .pointer (some ⟨g, 0, none⟩)) (o := fun g => .cells #[.map none] 101 (0, 0)) (fun g => by kernel_rfl)) ?_
      rintro _ _ _ _ ⟨g6, rfl, rfl, rfl⟩
      refine RgH.does (DoesH.new (d := 12) (v := fun g => .pointer (some ⟨g, 0, none⟩)) (o := fun g => .cells #[.map none] 101 (0, 0)) (fun g => by kernel_rfl)) ?_
      rintro _ _ _ _ ⟨g7, rfl, rfl, rfl⟩
      refine RgH.does (DoesH.store (k := 1) (g := g6) (off := 0) (v := .map (some g4)) (cells' := #[.map (some g4)]) (by kernel_rfl) rfl (by kernel_rfl) (by kernel_rfl)) ?_
      rintro _ _ _ _ ⟨rfl, rfl, rfl⟩
      refine RgH.does (DoesH.store (k := 0) (g := g7) (off := 0) (v := .map (some g5)) (cells' := #[.map (some g5)]) (by kernel_rfl) rfl (by kernel_rfl) (by kernel_rfl)) ?_
      rintro _ _ _ _ ⟨rfl, rfl, rfl⟩
      refine RgH.done (by kernel_rfl) ?_
      refine RunH.adm 2 (es' := [.c [1, 1, 1, 1, 1, 0, 0], .c [1, 1, 1, 1, 1, 0, 1], .c [1, 1, 1, 1, 1, 1]]) (by kernel_rfl) ?_
      refine RunH.reg (by kernel_rfl) ?_
      refine RgH.runk 3 [3, 5, 6, 11, 12, 37, 38, 39] (vs := []) (evs := []) (L' := [(3, .pointer (some ⟨g1, 0, none⟩)), (5, .pointer (some ⟨g2, 0, none⟩)), (6, .pointer (some ⟨g3, 0, none⟩)), (11, .pointer (some ⟨g6, 0, none⟩)), (12, .pointer (some ⟨g7, 0, none⟩)), (37, .slice Aa1 a1.length ca1), (38, .int .i64 (a1.length : Int)), (39, .int .i64 0)]) (by kernel_rfl) (by kernel_rfl) (fun _ _ => trivial) ?_
      refine RgH.done (by kernel_rfl) ?_
      refine RunH.adm 2 (es' := [.c [1, 1, 1, 1, 1, 0, 1, 0, 0], .l [1, 1, 1, 1, 1, 0, 1, 0, 0], .b 0, .c [1, 1, 1, 1, 1, 1]]) (by kernel_rfl) ?_
      refine RunH.keep [3, 5, 6, 11, 12, 37, 38, 39] (L' := [(3, .pointer (some ⟨g1, 0, none⟩)), (5, .pointer (some ⟨g2, 0, none⟩)), (6, .pointer (some ⟨g3, 0, none⟩)), (11, .pointer (some ⟨g6, 0, none⟩)), (12, .pointer (some ⟨g7, 0, none⟩)), (37, .slice Aa1 a1.length ca1), (38, .int .i64 (a1.length : Int)), (39, .int .i64 0)]) (by kernel_rfl) ?_
      exact ((cache_Swept.l6_c (e1 := cache_Swept.e1) (cache_Swept.e1_c)) big) _ a1 _ _ a2 _ _ _ y3 _ _ _ _ _ _ _ _ ([] : List (ByteArray × Bool)) _ _ ([] : List (ByteArray × Bool)) _ _ 0 hra1 hca1 ho7 ho8 ho9 ho10 heq
end Go.Proofs.YtkjilepjblffeaaDoor
