/- What the machine's calls of these functions come to: just what the plain functions say. Written by program. -/
import Derived.Test.YtdhennofffldhaaProg
import Derived.Test.YtdhennofffldhaaKitM
import Derived.Test.YtdhennofffldhaaPD
set_option linter.unusedVariables false
set_option linter.unusedSimpArgs false
set_option maxRecDepth 100000
namespace Go.Proofs.Ytdhennofffldhaa
open Go Go.RowKit Go.Proofs.Ytdhennofffldhaa.Kit
def kProbe : Kd Probe := Kd.iso ((Kd.pair (Kd.int .i64) Kd.bool)) (fun x => (x.Place, x.Pass))
theorem kProbe_open {H : Hp} {x : Probe} {c : List Value} (h : kProbe.K H x c) : c = [.int .i64 x.Place, .bool x.Pass] := by
  obtain ⟨p0, q0, rfl, g0, h0⟩ := h
  obtain rfl : p0 = [_] := g0
  obtain rfl : q0 = [_] := h0
  rfl
theorem kProbe_mk {H : Hp} {x : Probe} : kProbe.K H x [.int .i64 x.Place, .bool x.Pass] := ⟨[.int .i64 x.Place], [.bool x.Pass], rfl, rfl, rfl⟩
noncomputable def C19 : Ctx := { P := Try.prog, f := 19, N := 15, c := bodyOf Try.f19 }
def S19 (w0 : World) (r : Bool) (v : Value) (w : World) : Prop := Ext w0 w ∧ v = .bool r
theorem trials_within_c {w0 : World} {H : Hp} {a0 : Int} {a1 : Int} {a2 : Int} {r : Bool} (hH : Sub H w0) (heq : trials_within.f a0 a1 a2 = some r) : Calls Try.prog 19 #[.int .i64 a0, .int .i64 a1, .int .i64 a2] w0 (Ret (S19 w0 r)) := by
  refine calls_of_runL (F := C19) Try.func19 (by kernel_rfl) Try.ntmps19 (args := [.int .i64 a0, .int .i64 a1, .int .i64 a2]) (by kernel_rfl) ?_
  unfold trials_within.f at heq
  suffices h : ∀ w, Ext w0 w → Sub H w → RunL C19 (Ret (S19 w0 r)) [.c []] (argL 0 [.int .i64 a0, .int .i64 a1, .int .i64 a2]) w from h w0 (Ext.refl w0) hH
  clear hH
  intro w hE hH
  refine RunL.adm 1 (es' := [.c [0], .c [1]]) (by kernel_rfl) ?_
  refine RunL.reg (by kernel_rfl) ?_
  refine RgL.runk 1 [0, 1, 2] (vs := []) (evs := []) (L' := [(0, .int .i64 a0), (1, .int .i64 a1), (2, .int .i64 a2)]) (by kernel_rfl) (by kernel_rfl) trivial ?_
  refine RgL.done (by kernel_rfl) ?_
  refine RunL.adm 1 (es' := [.c [1, 0], .c [1, 1]]) (by kernel_rfl) ?_
  refine RunL.reg (by kernel_rfl) ?_
  obtain ⟨t3, ht4, heq⟩ := bind_some heq
  have K5 : ∀ w2, Ext w w2 → RunL C19 (Ret (S19 w0 r)) [.c [1, 1]] [(6, .bool t3)] w2 := by
    intro w hx
    replace hH := hH.ext hx
    replace hE := hE.then hx
    obtain rfl := Option.some.inj heq
    exact RunL.done (by kernel_rfl) Try.func19 (v := .bool t3) (by kernel_rfl) ⟨hE, rfl⟩
  replace heq := ht4
  have hE0 := Ext.refl w
  refine RgL.runk 4 [10, 0, 2] (vs := []) (evs := []) (L' := [(10, .bool (decide (a1 ≤ a0))), (0, .int .i64 a0), (2, .int .i64 a2)]) (by kernel_rfl) (by kernel_rfl) trivial ?_
  rcases bool_cases (decide (a1 ≤ a0)) with hb6 | hb6
  · replace heq := bif_true hb6 heq
    refine RgL.bool1 hb6 ?_
    refine RgL.runk 9 [6] (vs := []) (evs := []) (L' := [(6, .bool (decide (a0 ≤ a2)))]) (by kernel_rfl) (by kernel_rfl) trivial ?_
    obtain rfl := Option.some.inj heq
    refine RgL.keep [6] (L' := [(6, .bool (decide (a0 ≤ a2)))]) (by kernel_rfl) ?_
    exact RgL.done (by kernel_rfl) (K5 _ hE0)
  · replace heq := bif_false hb6 heq
    refine RgL.bool1 hb6 ?_
    refine RgL.runk 9 [6] (vs := []) (evs := []) (L' := [(6, .bool false)]) (by kernel_rfl) (by kernel_rfl) trivial ?_
    obtain rfl := Option.some.inj heq
    refine RgL.keep [6] (L' := [(6, .bool false)]) (by kernel_rfl) ?_
    exact RgL.done (by kernel_rfl) (K5 _ hE0)
noncomputable def C14 : Ctx := { P := Try.prog, f := 14, N := 45, c := bodyOf Try.f14 }
def S14 (w0 : World) (r : Int × Int × Int) (v : Value) (w : World) : Prop := Ext w0 w ∧ v = .tuple #[.int .i64 r.1, .int .i64 r.2.1, .int .i64 r.2.2]
theorem trials_Suspects.e12_c {w0 : World} {r : Int × Int × Int} : ∀ (H : Hp) (w : World) (v_most7 : Int), Sub H w → Ext w0 w → trials_Suspects.e12 v_most7 = some r → RunL C14 (Ret (S14 w0 r)) [.c [1, 1, 1, 1, 1, 0], .c [1, 1, 1, 1, 1, 1]] [(7, .int .i64 v_most7)] w := by
  intro H w v_most7 hH hE  heq
  unfold trials_Suspects.e12 at heq
  refine RunL.reg (by kernel_rfl) ?_
  refine RgL.runk 4 [4, 5, 6] (vs := []) (evs := []) (L' := [(4, .int .i64 1), (5, .int .i64 v_most7), (6, .int .i64 0)]) (by kernel_rfl) (by kernel_rfl) trivial ?_
  refine RgL.done (by kernel_rfl) ?_
  obtain rfl := Option.some.inj heq
  exact RunL.done (by kernel_rfl) Try.func14 (v := .tuple #[.int .i64 1, .int .i64 v_most7, .int .i64 0]) (by kernel_rfl) ⟨hE, rfl⟩
theorem trials_Suspects.j34_c {w0 : World} {r : Int × Int × Int} (backl14 : Int → (List Probe) → Int → Int → Option (Int × Int × Int))
    (hbackl14 : ∀ (H : Hp) (w : World) (a0 : Int) (a1 : List Probe) (Aa1 : Option Addr) (ca1 : Nat) (v_most7 : Int) (v19 : Int), Sub H w → Ext w0 w → Kd.Row kProbe H Aa1 a1 → a1.length ≤ ca1 → backl14 a0 a1 v_most7 v19 = some r → RunL C14 (Ret (S14 w0 r)) [.c [1, 1, 1, 1, 0, 1, 0, 0], .l [1, 1, 1, 1, 0, 1, 0, 0], .b 0, .c [1, 1, 1, 1, 1]] [(0, .int .i64 a0), (7, .int .i64 v_most7), (17, .slice Aa1 a1.length ca1), (18, .int .i64 (a1.length : Int)), (19, .int .i64 v19)] w) : ∀ (H : Hp) (w : World) (a0 : Int) (a1 : List Probe) (ad18 : Addr) (ca1 : Nat) (v19 : Int) (v_most7 : Int), Sub H w → Ext w0 w → Kd.Row kProbe H (some ad18) a1 → a1.length ≤ ca1 → trials_Suspects.j34 backl14 a0 a1 v19 v_most7 = some r → RunL C14 (Ret (S14 w0 r)) [.c [1, 1, 1, 1, 0, 1, 0, 0, 1, 1, 1], .l [1, 1, 1, 1, 0, 1, 0, 0], .b 0, .c [1, 1, 1, 1, 1]] [(0, .int .i64 a0), (7, .int .i64 v_most7), (17, .slice (some ad18) a1.length ca1), (18, .int .i64 (a1.length : Int)), (19, .int .i64 v19)] w := by
  intro H w a0 a1 ad18 ca1 v19 v_most7 hH hE hra1 hca1 heq
  unfold trials_Suspects.j34 at heq
  refine RunL.reg (by kernel_rfl) ?_
  refine RgL.runk 2 [0, 7, 17, 18, 19] (vs := []) (evs := []) (L' := [(0, .int .i64 a0), (7, .int .i64 v_most7), (17, .slice (some ad18) a1.length ca1), (18, .int .i64 (a1.length : Int)), (19, .int .i64 (w64 (v19 + 1)))]) (by kernel_rfl) (by kernel_rfl) trivial ?_
  refine RgL.done (by kernel_rfl) ?_
  refine RunL.adm 1 (es' := [.c [1, 1, 1, 1, 0, 1, 0, 0], .l [1, 1, 1, 1, 0, 1, 0, 0], .b 0, .c [1, 1, 1, 1, 1]]) (by kernel_rfl) ?_
  refine RunL.keep [0, 7, 17, 18, 19] (L' := [(0, .int .i64 a0), (7, .int .i64 v_most7), (17, .slice (some ad18) a1.length ca1), (18, .int .i64 (a1.length : Int)), (19, .int .i64 (w64 (v19 + 1)))]) (by kernel_rfl) ?_
  exact hbackl14 _ _ _ _ _ _ _ _ hH hE hra1 hca1 heq
theorem trials_Suspects.l14_c {w0 : World} {r : Int × Int × Int} (e12 : Int → Option (Int × Int × Int))
    (he12 : ∀ (H : Hp) (w : World) (v_most7 : Int), Sub H w → Ext w0 w → e12 v_most7 = some r → RunL C14 (Ret (S14 w0 r)) [.c [1, 1, 1, 1, 1, 0], .c [1, 1, 1, 1, 1, 1]] [(7, .int .i64 v_most7)] w) : ∀ (k : Nat), ∀ (H : Hp) (w : World) (a0 : Int) (a1 : List Probe) (Aa1 : Option Addr) (ca1 : Nat) (v_most7 : Int) (v19 : Int), Sub H w → Ext w0 w → Kd.Row kProbe H Aa1 a1 → a1.length ≤ ca1 → trials_Suspects.l14 e12 k a0 a1 v_most7 v19 = some r → RunL C14 (Ret (S14 w0 r)) [.c [1, 1, 1, 1, 0, 1, 0, 0], .l [1, 1, 1, 1, 0, 1, 0, 0], .b 0, .c [1, 1, 1, 1, 1]] [(0, .int .i64 a0), (7, .int .i64 v_most7), (17, .slice Aa1 a1.length ca1), (18, .int .i64 (a1.length : Int)), (19, .int .i64 v19)] w := by
  intro k
  induction k with
  | zero => intro H w a0 a1 Aa1 ca1 v_most7 v19 hH hE hra1 hca1 heq; exact nomatch (show (none : Option (Int × Int × Int)) = some r from heq)
  | succ k ih =>
    intro H w a0 a1 Aa1 ca1 v_most7 v19 hH hE hra1 hca1 heq
    rw [trials_Suspects.l14] at heq
    refine RunL.adm 1 (es' := [.c [1, 1, 1, 1, 0, 1, 0, 0, 0], .c [1, 1, 1, 1, 0, 1, 0, 0, 1], .l [1, 1, 1, 1, 0, 1, 0, 0], .b 0, .c [1, 1, 1, 1, 1]]) (by kernel_rfl) ?_
    refine RunL.reg (by kernel_rfl) ?_
    refine RgL.runk 1 [0, 7, 17, 18, 19, 20] (vs := []) (evs := []) (L' := [(0, .int .i64 a0), (7, .int .i64 v_most7), (17, .slice Aa1 a1.length ca1), (18, .int .i64 (a1.length : Int)), (19, .int .i64 v19), (20, .bool (decide (v19 < (a1.length : Int))))]) (by kernel_rfl) (by kernel_rfl) trivial ?_
    refine RgL.done (by kernel_rfl) ?_
    refine RunL.adm 1 (es' := [.c [1, 1, 1, 1, 0, 1, 0, 0, 1, 0], .c [1, 1, 1, 1, 0, 1, 0, 0, 1, 1], .l [1, 1, 1, 1, 0, 1, 0, 0], .b 0, .c [1, 1, 1, 1, 1]]) (by kernel_rfl) ?_
    rcases bool_cases (decide (v19 < (a1.length : Int))) with hb16 | hb16
    · replace heq := bif_true hb16 heq
      refine RunL.condT (c := decide (v19 < (a1.length : Int))) (by kernel_rfl) hb16 ?_
      refine RunL.adm 4 (es' := [.c [1, 1, 1, 1, 0, 1, 0, 0, 1, 1, 0, 0, 0], .c [1, 1, 1, 1, 0, 1, 0, 0, 1, 1, 0, 0, 1], .b 1, .c [1, 1, 1, 1, 0, 1, 0, 0, 1, 1, 1], .l [1, 1, 1, 1, 0, 1, 0, 0], .b 0, .c [1, 1, 1, 1, 1]]) (by kernel_rfl) ?_
      refine RunL.reg (by kernel_rfl) ?_
      obtain ⟨x17, hx17, heq⟩ := bind_some heq
      obtain ⟨ad18, rfl⟩ := hra1.addr hx17
      obtain ⟨csx17, hKx17, hcx17⟩ := hra1.get hx17
      obtain ⟨rfl⟩ := kProbe_open hKx17
      refine RgL.runk 2 [0, 7, 17, 18, 19, 22] (vs := [.int .i64 x17.Place, .bool x17.Pass]) (evs := [.need (0 ≤ v19 ∧ v19 < (a1.length : Int)), .load ((ad18.add (v19.toNat * 2)).add 0) (.int .i64 x17.Place), .load ((ad18.add (v19.toNat * 2)).add 1) (.bool x17.Pass)]) (L' := [(0, .int .i64 a0), (7, .int .i64 v_most7), (17, .slice (some ad18) a1.length ca1), (18, .int .i64 (a1.length : Int)), (19, .int .i64 v19), (22, .agg #[.int .i64 x17.Place, .bool x17.Pass])]) (by kernel_rfl) (by kernel_rfl) ⟨⟨(at?_some hx17).1, (at?_some hx17).2.1⟩, hcx17 _ hH 0 _ rfl, hcx17 _ hH 1 _ rfl⟩ ?_
      refine RgL.newBox (d := 9) (v := .agg #[.int .i64 x17.Place, .bool x17.Pass]) (cs0 := #[.int .i64 0, .bool false]) (cs' := #[.int .i64 x17.Place, .bool x17.Pass]) (e := 37) (fun g => by kernel_rfl) (fun g => by kernel_rfl) (by kernel_rfl) (by kernel_rfl) ?_
      intro g19 w hgg19 hx21 hsg19 hbg19
      obtain ⟨H, hl, hH, hig19, hk⟩ := addH hH hx21 hgg19 hbg19
      replace hE := hE.then hx21
      try replace hE0 := hE0.then hx21
      replace hra1 := hra1.mono hl
      refine RgL.done (by kernel_rfl) ?_
      refine RunL.adm 2 (es' := [.c [1, 1, 1, 1, 0, 1, 0, 0, 1, 1, 0, 0, 1, 0, 0], .c [1, 1, 1, 1, 0, 1, 0, 0, 1, 1, 0, 0, 1, 0, 1], .c [1, 1, 1, 1, 0, 1, 0, 0, 1, 1, 0, 0, 1, 1], .b 1, .c [1, 1, 1, 1, 0, 1, 0, 0, 1, 1, 1], .l [1, 1, 1, 1, 0, 1, 0, 0], .b 0, .c [1, 1, 1, 1, 1]]) (by kernel_rfl) ?_
      refine RunL.reg (by kernel_rfl) ?_
      refine RgL.runk 3 [0, 7, 9, 17, 18, 19, 24, 25] (vs := [.int .i64 x17.Place]) (evs := [.load ⟨g19, 0, none⟩ (.int .i64 x17.Place)]) (L' := [(0, .int .i64 a0), (7, .int .i64 v_most7), (9, .pointer (some ⟨g19, 0, none⟩)), (17, .slice (some ad18) a1.length ca1), (18, .int .i64 (a1.length : Int)), (19, .int .i64 v19), (24, .int .i64 x17.Place), (25, .int .i64 a0)]) (by kernel_rfl) (by kernel_rfl) (cellH hig19 hH rfl) ?_
      obtain ⟨y22, hy22, heq⟩ := bind_some heq
      refine RgL.call (d := some 26) (g := 19) (args := #[.int .i64 x17.Place, .int .i64 0, .int .i64 a0]) (by kernel_rfl) (trials_within_c hH  hy22) ?_
      rintro _ w ⟨hx24, rfl⟩
      replace hH := hH.ext hx24
      replace hE := hE.then hx24
      try replace hE0 := hE0.then hx24
      refine RgL.runk 5 [0, 7, 9, 17, 18, 19, 27] (vs := []) (evs := []) (L' := [(0, .int .i64 a0), (7, .int .i64 v_most7), (9, .pointer (some ⟨g19, 0, none⟩)), (17, .slice (some ad18) a1.length ca1), (18, .int .i64 (a1.length : Int)), (19, .int .i64 v19), (27, .bool (!y22))]) (by kernel_rfl) (by kernel_rfl) trivial ?_
      refine RgL.done (by kernel_rfl) ?_
      rcases bool_cases (!y22) with hb25 | hb25
      · replace heq := bif_true hb25 heq
        refine RunL.condT (c := !y22) (by kernel_rfl) hb25 ?_
        refine RunL.adm 1 (es' := [.c [1, 1, 1, 1, 0, 1, 0, 0, 1, 1, 0, 0, 1, 0, 1, 0, 0], .c [1, 1, 1, 1, 0, 1, 0, 0, 1, 1, 0, 0, 1, 0, 1, 0, 1], .c [1, 1, 1, 1, 0, 1, 0, 0, 1, 1, 0, 0, 1, 1], .b 1, .c [1, 1, 1, 1, 0, 1, 0, 0, 1, 1, 1], .l [1, 1, 1, 1, 0, 1, 0, 0], .b 0, .c [1, 1, 1, 1, 1]]) (by kernel_rfl) ?_
        refine RunL.reg (by kernel_rfl) ?_
        refine RgL.runk 3 [4, 5, 6] (vs := []) (evs := []) (L' := [(4, .int .i64 0), (5, .int .i64 0), (6, .int .i64 1)]) (by kernel_rfl) (by kernel_rfl) trivial ?_
        refine RgL.done (by kernel_rfl) ?_
        obtain rfl := Option.some.inj heq
        exact RunL.done (by kernel_rfl) Try.func14 (v := .tuple #[.int .i64 0, .int .i64 0, .int .i64 1]) (by kernel_rfl) ⟨hE, rfl⟩
      · replace heq := bif_false hb25 heq
        refine RunL.condF (c := !y22) (by kernel_rfl) hb25 ?_
        refine RunL.adm 3 (es' := [.c [1, 1, 1, 1, 0, 1, 0, 0, 1, 1, 0, 0, 1, 1, 0, 0], .c [1, 1, 1, 1, 0, 1, 0, 0, 1, 1, 0, 0, 1, 1, 0, 1], .c [1, 1, 1, 1, 0, 1, 0, 0, 1, 1, 0, 0, 1, 1, 1], .b 1, .c [1, 1, 1, 1, 0, 1, 0, 0, 1, 1, 1], .l [1, 1, 1, 1, 0, 1, 0, 0], .b 0, .c [1, 1, 1, 1, 1]]) (by kernel_rfl) ?_
        refine RunL.reg (by kernel_rfl) ?_
        obtain ⟨t28, ht29, heq⟩ := bind_some heq
        have K30 : ∀ w2, Ext w w2 → RunL C14 (Ret (S14 w0 r)) [.c [1, 1, 1, 1, 0, 1, 0, 0, 1, 1, 0, 0, 1, 1, 0, 1], .c [1, 1, 1, 1, 0, 1, 0, 0, 1, 1, 0, 0, 1, 1, 1], .b 1, .c [1, 1, 1, 1, 0, 1, 0, 0, 1, 1, 1], .l [1, 1, 1, 1, 0, 1, 0, 0], .b 0, .c [1, 1, 1, 1, 1]] [(0, .int .i64 a0), (7, .int .i64 v_most7), (9, .pointer (some ⟨g19, 0, none⟩)), (17, .slice (some ad18) a1.length ca1), (18, .int .i64 (a1.length : Int)), (19, .int .i64 v19), (35, .bool t28)] w2 := by
          intro w hx
          replace hH := hH.ext hx
          replace hE := hE.then hx
          rcases bool_cases (t28) with hb31 | hb31
          · replace heq := bif_true hb31 heq
            refine RunL.condT (c := t28) (by kernel_rfl) hb31 ?_
            refine RunL.adm 1 (es' := [.c [1, 1, 1, 1, 0, 1, 0, 0, 1, 1, 0, 0, 1, 1, 0, 1, 0, 0], .c [1, 1, 1, 1, 0, 1, 0, 0, 1, 1, 0, 0, 1, 1, 0, 1, 0, 1], .c [1, 1, 1, 1, 0, 1, 0, 0, 1, 1, 0, 0, 1, 1, 1], .b 1, .c [1, 1, 1, 1, 0, 1, 0, 0, 1, 1, 1], .l [1, 1, 1, 1, 0, 1, 0, 0], .b 0, .c [1, 1, 1, 1, 1]]) (by kernel_rfl) ?_
            refine RunL.reg (by kernel_rfl) ?_
            refine RgL.runk 3 [4, 5, 6] (vs := []) (evs := []) (L' := [(4, .int .i64 0), (5, .int .i64 0), (6, .int .i64 12)]) (by kernel_rfl) (by kernel_rfl) trivial ?_
            refine RgL.done (by kernel_rfl) ?_
            obtain rfl := Option.some.inj heq
            exact RunL.done (by kernel_rfl) Try.func14 (v := .tuple #[.int .i64 0, .int .i64 0, .int .i64 12]) (by kernel_rfl) ⟨hE, rfl⟩
          · replace heq := bif_false hb31 heq
            refine RunL.condF (c := t28) (by kernel_rfl) hb31 ?_
            refine RunL.adm 2 (es' := [.c [1, 1, 1, 1, 0, 1, 0, 0, 1, 1, 0, 0, 1, 1, 1, 0], .c [1, 1, 1, 1, 0, 1, 0, 0, 1, 1, 0, 0, 1, 1, 1, 1], .b 1, .c [1, 1, 1, 1, 0, 1, 0, 0, 1, 1, 1], .l [1, 1, 1, 1, 0, 1, 0, 0], .b 0, .c [1, 1, 1, 1, 1]]) (by kernel_rfl) ?_
            refine RunL.reg (by kernel_rfl) ?_
            refine RgL.runk 3 [0, 7, 9, 17, 18, 19, 38] (vs := [.bool x17.Pass]) (evs := [.load ⟨g19, 1, none⟩ (.bool x17.Pass)]) (L' := [(0, .int .i64 a0), (7, .int .i64 v_most7), (9, .pointer (some ⟨g19, 0, none⟩)), (17, .slice (some ad18) a1.length ca1), (18, .int .i64 (a1.length : Int)), (19, .int .i64 v19), (38, .bool (!x17.Pass))]) (by kernel_rfl) (by kernel_rfl) (cellH hig19 hH rfl) ?_
            refine RgL.done (by kernel_rfl) ?_
            rcases bool_cases (!x17.Pass) with hb36 | hb36
            · replace heq := bif_true hb36 heq
              refine RunL.condT (c := !x17.Pass) (by kernel_rfl) hb36 ?_
              refine RunL.reg (by kernel_rfl) ?_
              refine RgL.runk 5 [0, 7, 17, 18, 19] (vs := [.int .i64 x17.Place]) (evs := [.load ⟨g19, 0, none⟩ (.int .i64 x17.Place)]) (L' := [(0, .int .i64 a0), (7, .int .i64 (min2 v_most7 x17.Place)), (17, .slice (some ad18) a1.length ca1), (18, .int .i64 (a1.length : Int)), (19, .int .i64 v19)]) (by kernel_rfl) (by kernel_rfl) (cellH hig19 hH rfl) ?_
              refine RgL.done (by kernel_rfl) ?_
              refine RunL.adm 1 (es' := [.c [1, 1, 1, 1, 0, 1, 0, 0, 1, 1, 1], .l [1, 1, 1, 1, 0, 1, 0, 0], .b 0, .c [1, 1, 1, 1, 1]]) (by kernel_rfl) ?_
              refine RunL.keep [0, 7, 17, 18, 19] (L' := [(0, .int .i64 a0), (7, .int .i64 (min2 v_most7 x17.Place)), (17, .slice (some ad18) a1.length ca1), (18, .int .i64 (a1.length : Int)), (19, .int .i64 v19)]) (by kernel_rfl) ?_
              exact (trials_Suspects.j34_c (trials_Suspects.l14 e12 k) ih) _ _ _ _ _ _ _ _ hH hE hra1 hca1 heq
            · replace heq := bif_false hb36 heq
              refine RunL.condF (c := !x17.Pass) (by kernel_rfl) hb36 ?_
              refine RunL.adm 2 (es' := [.c [1, 1, 1, 1, 0, 1, 0, 0, 1, 1, 1], .l [1, 1, 1, 1, 0, 1, 0, 0], .b 0, .c [1, 1, 1, 1, 1]]) (by kernel_rfl) ?_
              refine RunL.keep [0, 7, 17, 18, 19] (L' := [(0, .int .i64 a0), (7, .int .i64 v_most7), (17, .slice (some ad18) a1.length ca1), (18, .int .i64 (a1.length : Int)), (19, .int .i64 v19)]) (by kernel_rfl) ?_
              exact (trials_Suspects.j34_c (trials_Suspects.l14 e12 k) ih) _ _ _ _ _ _ _ _ hH hE hra1 hca1 heq
        replace heq := ht29
        have hE0 := Ext.refl w
        refine RgL.runk 4 [31, 0, 7, 9, 17, 18, 19] (vs := [.int .i64 x17.Place]) (evs := [.load ⟨g19, 0, none⟩ (.int .i64 x17.Place)]) (L' := [(31, .bool (x17.Place == 0)), (0, .int .i64 a0), (7, .int .i64 v_most7), (9, .pointer (some ⟨g19, 0, none⟩)), (17, .slice (some ad18) a1.length ca1), (18, .int .i64 (a1.length : Int)), (19, .int .i64 v19)]) (by kernel_rfl) (by kernel_rfl) (cellH hig19 hH rfl) ?_
        rcases bool_cases (x17.Place == 0) with hb38 | hb38
        · replace heq := bif_true hb38 heq
          refine RgL.bool1 hb38 ?_
          refine RgL.runk 8 [0, 7, 9, 17, 18, 19, 35] (vs := [.bool x17.Pass]) (evs := [.load ⟨g19, 1, none⟩ (.bool x17.Pass)]) (L' := [(0, .int .i64 a0), (7, .int .i64 v_most7), (9, .pointer (some ⟨g19, 0, none⟩)), (17, .slice (some ad18) a1.length ca1), (18, .int .i64 (a1.length : Int)), (19, .int .i64 v19), (35, .bool (!x17.Pass))]) (by kernel_rfl) (by kernel_rfl) (cellH hig19 hH rfl) ?_
          obtain rfl := Option.some.inj heq
          refine RgL.keep [0, 7, 9, 17, 18, 19, 35] (L' := [(0, .int .i64 a0), (7, .int .i64 v_most7), (9, .pointer (some ⟨g19, 0, none⟩)), (17, .slice (some ad18) a1.length ca1), (18, .int .i64 (a1.length : Int)), (19, .int .i64 v19), (35, .bool (!x17.Pass))]) (by kernel_rfl) ?_
          exact RgL.done (by kernel_rfl) (K30 _ hE0)
        · replace heq := bif_false hb38 heq
          refine RgL.bool1 hb38 ?_
          refine RgL.runk 8 [0, 7, 9, 17, 18, 19, 35] (vs := []) (evs := []) (L' := [(0, .int .i64 a0), (7, .int .i64 v_most7), (9, .pointer (some ⟨g19, 0, none⟩)), (17, .slice (some ad18) a1.length ca1), (18, .int .i64 (a1.length : Int)), (19, .int .i64 v19), (35, .bool false)]) (by kernel_rfl) (by kernel_rfl) trivial ?_
          obtain rfl := Option.some.inj heq
          refine RgL.keep [0, 7, 9, 17, 18, 19, 35] (L' := [(0, .int .i64 a0), (7, .int .i64 v_most7), (9, .pointer (some ⟨g19, 0, none⟩)), (17, .slice (some ad18) a1.length ca1), (18, .int .i64 (a1.length : Int)), (19, .int .i64 v19), (35, .bool false)]) (by kernel_rfl) ?_
          exact RgL.done (by kernel_rfl) (K30 _ hE0)
    · replace heq := bif_false hb16 heq
      refine RunL.condF (c := decide (v19 < (a1.length : Int))) (by kernel_rfl) hb16 ?_
      refine RunL.adm 2 (es' := [.c [1, 1, 1, 1, 1, 0], .c [1, 1, 1, 1, 1, 1]]) (by kernel_rfl) ?_
      refine RunL.keep [7] (L' := [(7, .int .i64 v_most7)]) (by kernel_rfl) ?_
      exact he12 _ _ _ hH hE  heq
theorem trials_Suspects_c {w0 : World} {H : Hp} {a0 : Int} {a1 : List Probe} {Aa1 : Option Addr} {ca1 : Nat} {r : Int × Int × Int} (hH : Sub H w0) (hra1 : Kd.Row kProbe H Aa1 a1) (hca1 : a1.length ≤ ca1) (heq : trials_Suspects.f a0 a1 = some r) : Calls Try.prog 14 #[.int .i64 a0, .slice Aa1 a1.length ca1] w0 (Ret (S14 w0 r)) := by
  refine calls_of_runL (F := C14) Try.func14 (by kernel_rfl) Try.ntmps14 (args := [.int .i64 a0, .slice Aa1 a1.length ca1]) (by kernel_rfl) ?_
  unfold trials_Suspects.f at heq
  suffices h : ∀ w, Ext w0 w → Sub H w → RunL C14 (Ret (S14 w0 r)) [.c []] (argL 0 [.int .i64 a0, .slice Aa1 a1.length ca1]) w from h w0 (Ext.refl w0) hH
  clear hH
  intro w hE hH
  refine RunL.adm 1 (es' := [.c [0], .c [1]]) (by kernel_rfl) ?_
  refine RunL.reg (by kernel_rfl) ?_
  refine RgL.runk 3 [0, 1] (vs := []) (evs := []) (L' := [(0, .int .i64 a0), (1, .slice Aa1 a1.length ca1)]) (by kernel_rfl) (by kernel_rfl) trivial ?_
  refine RgL.done (by kernel_rfl) ?_
  refine RunL.adm 2 (es' := [.c [1, 0, 0], .c [1, 0, 1], .c [1, 1]]) (by kernel_rfl) ?_
  refine RunL.reg (by kernel_rfl) ?_
  refine RgL.runk 1 [0, 1, 10] (vs := []) (evs := []) (L' := [(0, .int .i64 a0), (1, .slice Aa1 a1.length ca1), (10, .int .i64 a0)]) (by kernel_rfl) (by kernel_rfl) trivial ?_
  obtain ⟨y2, hy2, heq⟩ := bind_some heq
  refine RgL.call (d := some 11) (g := 19) (args := #[.int .i64 a0, .int .i64 1, .int .i64 100000]) (by kernel_rfl) (trials_within_c hH  hy2) ?_
  rintro _ w ⟨hx4, rfl⟩
  replace hH := hH.ext hx4
  replace hE := hE.then hx4
  try replace hE0 := hE0.then hx4
  refine RgL.runk 3 [0, 1, 12] (vs := []) (evs := []) (L' := [(0, .int .i64 a0), (1, .slice Aa1 a1.length ca1), (12, .bool (!y2))]) (by kernel_rfl) (by kernel_rfl) trivial ?_
  refine RgL.done (by kernel_rfl) ?_
  rcases bool_cases (!y2) with hb5 | hb5
  · replace heq := bif_true hb5 heq
    refine RunL.condT (c := !y2) (by kernel_rfl) hb5 ?_
    refine RunL.adm 1 (es' := [.c [1, 0, 1, 0, 0], .c [1, 0, 1, 0, 1], .c [1, 1]]) (by kernel_rfl) ?_
    refine RunL.reg (by kernel_rfl) ?_
    refine RgL.runk 3 [4, 5, 6] (vs := []) (evs := []) (L' := [(4, .int .i64 0), (5, .int .i64 0), (6, .int .i64 1)]) (by kernel_rfl) (by kernel_rfl) trivial ?_
    refine RgL.done (by kernel_rfl) ?_
    obtain rfl := Option.some.inj heq
    exact RunL.done (by kernel_rfl) Try.func14 (v := .tuple #[.int .i64 0, .int .i64 0, .int .i64 1]) (by kernel_rfl) ⟨hE, rfl⟩
  · replace heq := bif_false hb5 heq
    refine RunL.condF (c := !y2) (by kernel_rfl) hb5 ?_
    refine RunL.adm 3 (es' := [.c [1, 1, 0, 0], .c [1, 1, 0, 1], .c [1, 1, 1]]) (by kernel_rfl) ?_
    refine RunL.reg (by kernel_rfl) ?_
    refine RgL.runk 3 [0, 1, 15] (vs := []) (evs := []) (L' := [(0, .int .i64 a0), (1, .slice Aa1 a1.length ca1), (15, .bool (decide (3000 < (a1.length : Int))))]) (by kernel_rfl) (by kernel_rfl) trivial ?_
    refine RgL.done (by kernel_rfl) ?_
    rcases bool_cases (decide (3000 < (a1.length : Int))) with hb8 | hb8
    · replace heq := bif_true hb8 heq
      refine RunL.condT (c := decide (3000 < (a1.length : Int))) (by kernel_rfl) hb8 ?_
      refine RunL.adm 1 (es' := [.c [1, 1, 0, 1, 0, 0], .c [1, 1, 0, 1, 0, 1], .c [1, 1, 1]]) (by kernel_rfl) ?_
      refine RunL.reg (by kernel_rfl) ?_
      refine RgL.runk 3 [4, 5, 6] (vs := []) (evs := []) (L' := [(4, .int .i64 0), (5, .int .i64 0), (6, .int .i64 2)]) (by kernel_rfl) (by kernel_rfl) trivial ?_
      refine RgL.done (by kernel_rfl) ?_
      obtain rfl := Option.some.inj heq
      exact RunL.done (by kernel_rfl) Try.func14 (v := .tuple #[.int .i64 0, .int .i64 0, .int .i64 2]) (by kernel_rfl) ⟨hE, rfl⟩
    · replace heq := bif_false hb8 heq
      refine RunL.condF (c := decide (3000 < (a1.length : Int))) (by kernel_rfl) hb8 ?_
      refine RunL.adm 2 (es' := [.c [1, 1, 1, 0], .c [1, 1, 1, 1]]) (by kernel_rfl) ?_
      refine RunL.reg (by kernel_rfl) ?_
      refine RgL.runk 2 [0, 1, 7] (vs := []) (evs := []) (L' := [(0, .int .i64 a0), (1, .slice Aa1 a1.length ca1), (7, .int .i64 a0)]) (by kernel_rfl) (by kernel_rfl) trivial ?_
      refine RgL.done (by kernel_rfl) ?_
      refine RunL.adm 2 (es' := [.c [1, 1, 1, 1, 0, 0], .c [1, 1, 1, 1, 0, 1], .c [1, 1, 1, 1, 1]]) (by kernel_rfl) ?_
      refine RunL.reg (by kernel_rfl) ?_
      refine RgL.runk 3 [0, 7, 17, 18, 19] (vs := []) (evs := []) (L' := [(0, .int .i64 a0), (7, .int .i64 a0), (17, .slice Aa1 a1.length ca1), (18, .int .i64 (a1.length : Int)), (19, .int .i64 0)]) (by kernel_rfl) (by kernel_rfl) trivial ?_
      refine RgL.done (by kernel_rfl) ?_
      refine RunL.adm 2 (es' := [.c [1, 1, 1, 1, 0, 1, 0, 0], .l [1, 1, 1, 1, 0, 1, 0, 0], .b 0, .c [1, 1, 1, 1, 1]]) (by kernel_rfl) ?_
      refine RunL.keep [0, 7, 17, 18, 19] (L' := [(0, .int .i64 a0), (7, .int .i64 a0), (17, .slice Aa1 a1.length ca1), (18, .int .i64 (a1.length : Int)), (19, .int .i64 0)]) (by kernel_rfl) ?_
      exact (trials_Suspects.l14_c trials_Suspects.e12 (trials_Suspects.e12_c)) (((a1.length : Int) - 0).toNat + 1) _ _ _ _ _ _ _ _ hH hE hra1 hca1 heq
noncomputable def C13 : Ctx := { P := Try.prog, f := 13, N := 60, c := bodyOf Try.f13 }
def S13 (w0 : World) (r : Int × Bool × Int) (v : Value) (w : World) : Prop := Ext w0 w ∧ v = .tuple #[.int .i64 r.1, .bool r.2.1, .int .i64 r.2.2]
theorem trials_NextProbe.e19_c {w0 : World} {r : Int × Bool × Int} : ∀ (H : Hp) (w : World) , Sub H w → Ext w0 w → trials_NextProbe.e19 = some r → RunL C13 (Ret (S13 w0 r)) [.c [1, 1, 1, 1, 1, 1, 1, 1, 0], .c [1, 1, 1, 1, 1, 1, 1, 1, 1]] [] w := by
  intro H w  hH hE  heq
  unfold trials_NextProbe.e19 at heq
  refine RunL.reg (by kernel_rfl) ?_
  refine RgL.runk 3 [6, 7, 8] (vs := []) (evs := []) (L' := [(6, .int .i64 0), (7, .bool false), (8, .int .i64 0)]) (by kernel_rfl) (by kernel_rfl) trivial ?_
  refine RgL.done (by kernel_rfl) ?_
  obtain rfl := Option.some.inj heq
  exact RunL.done (by kernel_rfl) Try.func13 (v := .tuple #[.int .i64 0, .bool false, .int .i64 0]) (by kernel_rfl) ⟨hE, rfl⟩
theorem trials_NextProbe.l21_c {w0 : World} {r : Int × Bool × Int} (e19 : Option (Int × Bool × Int))
    (he19 : ∀ (H : Hp) (w : World) , Sub H w → Ext w0 w → e19 = some r → RunL C13 (Ret (S13 w0 r)) [.c [1, 1, 1, 1, 1, 1, 1, 1, 0], .c [1, 1, 1, 1, 1, 1, 1, 1, 1]] [] w) : ∀ (k : Nat), ∀ (H : Hp) (w : World) (a2 : Int) (y2 : Int × Int × Int) (g13 : Nat) (v_passed12 : List (Int × Int)) (v_lo15 : Int), Sub H w → Ext w0 w → MOwn (Value.int .i64) (Kd.int .i64) false H w w0.heap.size g13 v_passed12 → trials_NextProbe.l21 e19 k a2 y2 v_passed12 v_lo15 = some r → RunL C13 (Ret (S13 w0 r)) [.c [1, 1, 1, 1, 1, 1, 1, 0, 0, 0], .l [1, 1, 1, 1, 1, 1, 1, 0, 0, 0], .b 2, .c [1, 1, 1, 1, 1, 1, 1, 1]] [(2, .int .i64 a2), (10, .int .i64 y2.2.1), (12, .map (some g13)), (15, .int .i64 v_lo15)] w := by
  intro k
  induction k with
  | zero => intro H w a2 y2 g13 v_passed12 v_lo15 hH hE hmv_passed12 heq; exact nomatch (show (none : Option (Int × Bool × Int)) = some r from heq)
  | succ k ih =>
    intro H w a2 y2 g13 v_passed12 v_lo15 hH hE hmv_passed12 heq
    rw [trials_NextProbe.l21] at heq
    refine RunL.adm 2 (es' := [.c [1, 1, 1, 1, 1, 1, 1, 0, 0, 0, 0, 0], .c [1, 1, 1, 1, 1, 1, 1, 0, 0, 0, 0, 1], .c [1, 1, 1, 1, 1, 1, 1, 0, 0, 0, 1], .l [1, 1, 1, 1, 1, 1, 1, 0, 0, 0], .b 2, .c [1, 1, 1, 1, 1, 1, 1, 1]]) (by kernel_rfl) ?_
    refine RunL.reg (by kernel_rfl) ?_
    refine RgL.runk 4 [2, 10, 12, 15, 48] (vs := []) (evs := []) (L' := [(2, .int .i64 a2), (10, .int .i64 y2.2.1), (12, .map (some g13)), (15, .int .i64 v_lo15), (48, .bool (decide ((w64 (v_lo15 + 1)) < y2.2.1)))]) (by kernel_rfl) (by kernel_rfl) trivial ?_
    refine RgL.done (by kernel_rfl) ?_
    rcases bool_cases (decide ((w64 (v_lo15 + 1)) < y2.2.1)) with hb23 | hb23
    · replace heq := bif_true hb23 heq
      refine RunL.condT (c := decide ((w64 (v_lo15 + 1)) < y2.2.1)) (by kernel_rfl) hb23 ?_
      refine RunL.adm 3 (es' := [.c [1, 1, 1, 1, 1, 1, 1, 0, 0, 0, 1, 0, 0], .c [1, 1, 1, 1, 1, 1, 1, 0, 0, 0, 1, 0, 1], .b 3, .l [1, 1, 1, 1, 1, 1, 1, 0, 0, 0], .b 2, .c [1, 1, 1, 1, 1, 1, 1, 1]]) (by kernel_rfl) ?_
      refine RunL.reg (by kernel_rfl) ?_
      refine RgL.runk 5 [2, 10, 12, 16] (vs := []) (evs := [.need ((2 : Int) ≠ 0)]) (L' := [(2, .int .i64 a2), (10, .int .i64 y2.2.1), (12, .map (some g13)), (16, .int .i64 (w64 ((w64 (v_lo15 + y2.2.1)).tdiv 2)))]) (by kernel_rfl) (by kernel_rfl) (show (2 : Int) ≠ 0 by decide) ?_
      refine RgL.done (by kernel_rfl) ?_
      refine RunL.adm 2 (es' := [.c [1, 1, 1, 1, 1, 1, 1, 0, 0, 0, 1, 0, 1, 0, 0], .c [1, 1, 1, 1, 1, 1, 1, 0, 0, 0, 1, 0, 1, 0, 1], .c [1, 1, 1, 1, 1, 1, 1, 0, 0, 0, 1, 0, 1, 1], .b 3, .l [1, 1, 1, 1, 1, 1, 1, 0, 0, 0], .b 2, .c [1, 1, 1, 1, 1, 1, 1, 1]]) (by kernel_rfl) ?_
      refine RunL.reg (by kernel_rfl) ?_
      refine RgL.runk 2 [2, 10, 12, 16, 53, 54] (vs := []) (evs := []) (L' := [(2, .int .i64 a2), (10, .int .i64 y2.2.1), (12, .map (some g13)), (16, .int .i64 (w64 ((w64 (v_lo15 + y2.2.1)).tdiv 2))), (53, .map (some g13)), (54, .int .i64 (w64 ((w64 (v_lo15 + y2.2.1)).tdiv 2)))]) (by kernel_rfl) (by kernel_rfl) trivial ?_
      refine RgL.lookup (d := 55) (t := 43) (m := v_passed12) (k := (w64 ((w64 (v_lo15 + y2.2.1)).tdiv 2))) (z := .int .i64 0) (zc := [.int .i64 0]) (z0 := 0) (ok := false) (by kernel_rfl) (KyAt.int Try.underlying3) rfl (kd := (Kd.int .i64)) (ag := false) (H := H) rfl hmv_passed12.on ?_
      intro c25 hc25
      obtain rfl : c25 = [.int .i64 (mgetD v_passed12 (w64 ((w64 (v_lo15 + y2.2.1)).tdiv 2)) 0)] := hc25
      refine RgL.val1 (v' := .int .i64 (mgetD v_passed12 (w64 ((w64 (v_lo15 + y2.2.1)).tdiv 2)) 0)) rfl ?_
      refine RgL.runk 5 [2, 10, 12, 16, 57] (vs := []) (evs := []) (L' := [(2, .int .i64 a2), (10, .int .i64 y2.2.1), (12, .map (some g13)), (16, .int .i64 (w64 ((w64 (v_lo15 + y2.2.1)).tdiv 2))), (57, .bool (decide ((mgetD v_passed12 (w64 ((w64 (v_lo15 + y2.2.1)).tdiv 2)) 0) < a2)))]) (by kernel_rfl) (by kernel_rfl) trivial ?_
      refine RgL.done (by kernel_rfl) ?_
      rcases bool_cases (decide ((mgetD v_passed12 (w64 ((w64 (v_lo15 + y2.2.1)).tdiv 2)) 0) < a2)) with hb27 | hb27
      · replace heq := bif_true hb27 heq
        refine RunL.condT (c := decide ((mgetD v_passed12 (w64 ((w64 (v_lo15 + y2.2.1)).tdiv 2)) 0) < a2)) (by kernel_rfl) hb27 ?_
        refine RunL.adm 1 (es' := [.c [1, 1, 1, 1, 1, 1, 1, 0, 0, 0, 1, 0, 1, 0, 1, 0, 0], .c [1, 1, 1, 1, 1, 1, 1, 0, 0, 0, 1, 0, 1, 0, 1, 0, 1], .c [1, 1, 1, 1, 1, 1, 1, 0, 0, 0, 1, 0, 1, 1], .b 3, .l [1, 1, 1, 1, 1, 1, 1, 0, 0, 0], .b 2, .c [1, 1, 1, 1, 1, 1, 1, 1]]) (by kernel_rfl) ?_
        refine RunL.reg (by kernel_rfl) ?_
        refine RgL.runk 4 [6, 7, 8] (vs := []) (evs := []) (L' := [(6, .int .i64 (w64 ((w64 (v_lo15 + y2.2.1)).tdiv 2))), (7, .bool true), (8, .int .i64 0)]) (by kernel_rfl) (by kernel_rfl) trivial ?_
        refine RgL.done (by kernel_rfl) ?_
        obtain rfl := Option.some.inj heq
        exact RunL.done (by kernel_rfl) Try.func13 (v := .tuple #[.int .i64 (w64 ((w64 (v_lo15 + y2.2.1)).tdiv 2)), .bool true, .int .i64 0]) (by kernel_rfl) ⟨hE, rfl⟩
      · replace heq := bif_false hb27 heq
        refine RunL.condF (c := decide ((mgetD v_passed12 (w64 ((w64 (v_lo15 + y2.2.1)).tdiv 2)) 0) < a2)) (by kernel_rfl) hb27 ?_
        refine RunL.adm 1 (es' := [.c [1, 1, 1, 1, 1, 1, 1, 0, 0, 0, 1, 0, 1, 1], .b 3, .l [1, 1, 1, 1, 1, 1, 1, 0, 0, 0], .b 2, .c [1, 1, 1, 1, 1, 1, 1, 1]]) (by kernel_rfl) ?_
        refine RunL.reg (by kernel_rfl) ?_
        refine RgL.runk 2 [2, 10, 12, 15] (vs := []) (evs := []) (L' := [(2, .int .i64 a2), (10, .int .i64 y2.2.1), (12, .map (some g13)), (15, .int .i64 (w64 ((w64 (v_lo15 + y2.2.1)).tdiv 2)))]) (by kernel_rfl) (by kernel_rfl) trivial ?_
        refine RgL.done (by kernel_rfl) ?_
        refine RunL.adm 2 (es' := [.c [1, 1, 1, 1, 1, 1, 1, 0, 0, 0], .l [1, 1, 1, 1, 1, 1, 1, 0, 0, 0], .b 2, .c [1, 1, 1, 1, 1, 1, 1, 1]]) (by kernel_rfl) ?_
        refine RunL.keep [2, 10, 12, 15] (L' := [(2, .int .i64 a2), (10, .int .i64 y2.2.1), (12, .map (some g13)), (15, .int .i64 (w64 ((w64 (v_lo15 + y2.2.1)).tdiv 2)))]) (by kernel_rfl) ?_
        exact ih _ _ _ _ _ _ _ hH hE hmv_passed12 heq
    · replace heq := bif_false hb23 heq
      refine RunL.condF (c := decide ((w64 (v_lo15 + 1)) < y2.2.1)) (by kernel_rfl) hb23 ?_
      refine RunL.adm 2 (es' := [.c [1, 1, 1, 1, 1, 1, 1, 1, 0], .c [1, 1, 1, 1, 1, 1, 1, 1, 1]]) (by kernel_rfl) ?_
      refine RunL.keep [] (L' := []) (by kernel_rfl) ?_
      exact he19 _ _  hH hE  heq
theorem trials_NextProbe.e17_c {w0 : World} {r : Int × Bool × Int} : ∀ (H : Hp) (w : World) (a2 : Int) (y2 : Int × Int × Int) (g13 : Nat) (v_passed12 : List (Int × Int)), Sub H w → Ext w0 w → MOwn (Value.int .i64) (Kd.int .i64) false H w w0.heap.size g13 v_passed12 → trials_NextProbe.e17 a2 y2 v_passed12 = some r → RunL C13 (Ret (S13 w0 r)) [.c [1, 1, 1, 1, 1, 1, 0], .c [1, 1, 1, 1, 1, 1, 1]] [(2, .int .i64 a2), (10, .int .i64 y2.2.1), (12, .map (some g13))] w := by
  intro H w a2 y2 g13 v_passed12 hH hE hmv_passed12 heq
  unfold trials_NextProbe.e17 at heq
  refine RunL.reg (by kernel_rfl) ?_
  refine RgL.runk 1 [2, 10, 12, 15] (vs := []) (evs := []) (L' := [(2, .int .i64 a2), (10, .int .i64 y2.2.1), (12, .map (some g13)), (15, .int .i64 0)]) (by kernel_rfl) (by kernel_rfl) trivial ?_
  refine RgL.done (by kernel_rfl) ?_
  refine RunL.adm 3 (es' := [.c [1, 1, 1, 1, 1, 1, 1, 0, 0, 0], .l [1, 1, 1, 1, 1, 1, 1, 0, 0, 0], .b 2, .c [1, 1, 1, 1, 1, 1, 1, 1]]) (by kernel_rfl) ?_
  refine RunL.keep [2, 10, 12, 15] (L' := [(2, .int .i64 a2), (10, .int .i64 y2.2.1), (12, .map (some g13)), (15, .int .i64 0)]) (by kernel_rfl) ?_
  exact (trials_NextProbe.l21_c trials_NextProbe.e19 (trials_NextProbe.e19_c)) ((y2.2.1 - 0).toNat + 1) _ _ _ _ _ _ _ hH hE hmv_passed12 heq
theorem trials_NextProbe.j39_c {w0 : World} {r : Int × Bool × Int} (backl30 : (List Probe) → Int → (Int × Int × Int) → (List (Int × Int)) → Int → Option (Int × Bool × Int))
    (hbackl30 : ∀ (H : Hp) (w : World) (a1 : List Probe) (Aa1 : Option Addr) (ca1 : Nat) (a2 : Int) (y2 : Int × Int × Int) (g13 : Nat) (v_passed12 : List (Int × Int)) (v33 : Int), Sub H w → Ext w0 w → Kd.Row kProbe H Aa1 a1 → a1.length ≤ ca1 → MOwn (Value.int .i64) (Kd.int .i64) false H w w0.heap.size g13 v_passed12 → backl30 a1 a2 y2 v_passed12 v33 = some r → RunL C13 (Ret (S13 w0 r)) [.c [1, 1, 1, 1, 1, 0, 1, 0, 0], .l [1, 1, 1, 1, 1, 0, 1, 0, 0], .b 0, .c [1, 1, 1, 1, 1, 1]] [(2, .int .i64 a2), (10, .int .i64 y2.2.1), (12, .map (some g13)), (31, .slice Aa1 a1.length ca1), (32, .int .i64 (a1.length : Int)), (33, .int .i64 v33)] w) : ∀ (H : Hp) (w : World) (a1 : List Probe) (ad34 : Addr) (ca1 : Nat) (a2 : Int) (y2 : Int × Int × Int) (g13 : Nat) (v33 : Int) (v_passed12 : List (Int × Int)), Sub H w → Ext w0 w → Kd.Row kProbe H (some ad34) a1 → a1.length ≤ ca1 → MOwn (Value.int .i64) (Kd.int .i64) false H w w0.heap.size g13 v_passed12 → trials_NextProbe.j39 backl30 a1 a2 y2 v33 v_passed12 = some r → RunL C13 (Ret (S13 w0 r)) [.c [1, 1, 1, 1, 1, 0, 1, 0, 0, 1, 1, 1], .l [1, 1, 1, 1, 1, 0, 1, 0, 0], .b 0, .c [1, 1, 1, 1, 1, 1]] [(2, .int .i64 a2), (10, .int .i64 y2.2.1), (12, .map (some g13)), (31, .slice (some ad34) a1.length ca1), (32, .int .i64 (a1.length : Int)), (33, .int .i64 v33)] w := by
  intro H w a1 ad34 ca1 a2 y2 g13 v33 v_passed12 hH hE hra1 hca1 hmv_passed12 heq
  unfold trials_NextProbe.j39 at heq
  refine RunL.reg (by kernel_rfl) ?_
  refine RgL.runk 2 [2, 10, 12, 31, 32, 33] (vs := []) (evs := []) (L' := [(2, .int .i64 a2), (10, .int .i64 y2.2.1), (12, .map (some g13)), (31, .slice (some ad34) a1.length ca1), (32, .int .i64 (a1.length : Int)), (33, .int .i64 (w64 (v33 + 1)))]) (by kernel_rfl) (by kernel_rfl) trivial ?_
  refine RgL.done (by kernel_rfl) ?_
  refine RunL.adm 1 (es' := [.c [1, 1, 1, 1, 1, 0, 1, 0, 0], .l [1, 1, 1, 1, 1, 0, 1, 0, 0], .b 0, .c [1, 1, 1, 1, 1, 1]]) (by kernel_rfl) ?_
  refine RunL.keep [2, 10, 12, 31, 32, 33] (L' := [(2, .int .i64 a2), (10, .int .i64 y2.2.1), (12, .map (some g13)), (31, .slice (some ad34) a1.length ca1), (32, .int .i64 (a1.length : Int)), (33, .int .i64 (w64 (v33 + 1)))]) (by kernel_rfl) ?_
  exact hbackl30 _ _ _ _ _ _ _ _ _ _ hH hE hra1 hca1 hmv_passed12 heq
theorem trials_NextProbe.l30_c {w0 : World} {r : Int × Bool × Int} (e17 : Int → (Int × Int × Int) → (List (Int × Int)) → Option (Int × Bool × Int))
    (he17 : ∀ (H : Hp) (w : World) (a2 : Int) (y2 : Int × Int × Int) (g13 : Nat) (v_passed12 : List (Int × Int)), Sub H w → Ext w0 w → MOwn (Value.int .i64) (Kd.int .i64) false H w w0.heap.size g13 v_passed12 → e17 a2 y2 v_passed12 = some r → RunL C13 (Ret (S13 w0 r)) [.c [1, 1, 1, 1, 1, 1, 0], .c [1, 1, 1, 1, 1, 1, 1]] [(2, .int .i64 a2), (10, .int .i64 y2.2.1), (12, .map (some g13))] w) : ∀ (k : Nat), ∀ (H : Hp) (w : World) (a1 : List Probe) (Aa1 : Option Addr) (ca1 : Nat) (a2 : Int) (y2 : Int × Int × Int) (g13 : Nat) (v_passed12 : List (Int × Int)) (v33 : Int), Sub H w → Ext w0 w → Kd.Row kProbe H Aa1 a1 → a1.length ≤ ca1 → MOwn (Value.int .i64) (Kd.int .i64) false H w w0.heap.size g13 v_passed12 → trials_NextProbe.l30 e17 k a1 a2 y2 v_passed12 v33 = some r → RunL C13 (Ret (S13 w0 r)) [.c [1, 1, 1, 1, 1, 0, 1, 0, 0], .l [1, 1, 1, 1, 1, 0, 1, 0, 0], .b 0, .c [1, 1, 1, 1, 1, 1]] [(2, .int .i64 a2), (10, .int .i64 y2.2.1), (12, .map (some g13)), (31, .slice Aa1 a1.length ca1), (32, .int .i64 (a1.length : Int)), (33, .int .i64 v33)] w := by
  intro k
  induction k with
  | zero => intro H w a1 Aa1 ca1 a2 y2 g13 v_passed12 v33 hH hE hra1 hca1 hmv_passed12 heq; exact nomatch (show (none : Option (Int × Bool × Int)) = some r from heq)
  | succ k ih =>
    intro H w a1 Aa1 ca1 a2 y2 g13 v_passed12 v33 hH hE hra1 hca1 hmv_passed12 heq
    rw [trials_NextProbe.l30] at heq
    refine RunL.adm 1 (es' := [.c [1, 1, 1, 1, 1, 0, 1, 0, 0, 0], .c [1, 1, 1, 1, 1, 0, 1, 0, 0, 1], .l [1, 1, 1, 1, 1, 0, 1, 0, 0], .b 0, .c [1, 1, 1, 1, 1, 1]]) (by kernel_rfl) ?_
    refine RunL.reg (by kernel_rfl) ?_
    refine RgL.runk 1 [2, 10, 12, 31, 32, 33, 34] (vs := []) (evs := []) (L' := [(2, .int .i64 a2), (10, .int .i64 y2.2.1), (12, .map (some g13)), (31, .slice Aa1 a1.length ca1), (32, .int .i64 (a1.length : Int)), (33, .int .i64 v33), (34, .bool (decide (v33 < (a1.length : Int))))]) (by kernel_rfl) (by kernel_rfl) trivial ?_
    refine RgL.done (by kernel_rfl) ?_
    refine RunL.adm 1 (es' := [.c [1, 1, 1, 1, 1, 0, 1, 0, 0, 1, 0], .c [1, 1, 1, 1, 1, 0, 1, 0, 0, 1, 1], .l [1, 1, 1, 1, 1, 0, 1, 0, 0], .b 0, .c [1, 1, 1, 1, 1, 1]]) (by kernel_rfl) ?_
    rcases bool_cases (decide (v33 < (a1.length : Int))) with hb32 | hb32
    · replace heq := bif_true hb32 heq
      refine RunL.condT (c := decide (v33 < (a1.length : Int))) (by kernel_rfl) hb32 ?_
      refine RunL.adm 4 (es' := [.c [1, 1, 1, 1, 1, 0, 1, 0, 0, 1, 1, 0, 0, 0], .c [1, 1, 1, 1, 1, 0, 1, 0, 0, 1, 1, 0, 0, 1], .b 1, .c [1, 1, 1, 1, 1, 0, 1, 0, 0, 1, 1, 1], .l [1, 1, 1, 1, 1, 0, 1, 0, 0], .b 0, .c [1, 1, 1, 1, 1, 1]]) (by kernel_rfl) ?_
      refine RunL.reg (by kernel_rfl) ?_
      obtain ⟨x33, hx33, heq⟩ := bind_some heq
      obtain ⟨ad34, rfl⟩ := hra1.addr hx33
      obtain ⟨csx33, hKx33, hcx33⟩ := hra1.get hx33
      obtain ⟨rfl⟩ := kProbe_open hKx33
      refine RgL.runk 2 [2, 10, 12, 31, 32, 33, 36] (vs := [.int .i64 x33.Place, .bool x33.Pass]) (evs := [.need (0 ≤ v33 ∧ v33 < (a1.length : Int)), .load ((ad34.add (v33.toNat * 2)).add 0) (.int .i64 x33.Place), .load ((ad34.add (v33.toNat * 2)).add 1) (.bool x33.Pass)]) (L' := [(2, .int .i64 a2), (10, .int .i64 y2.2.1), (12, .map (some g13)), (31, .slice (some ad34) a1.length ca1), (32, .int .i64 (a1.length : Int)), (33, .int .i64 v33), (36, .agg #[.int .i64 x33.Place, .bool x33.Pass])]) (by kernel_rfl) (by kernel_rfl) ⟨⟨(at?_some hx33).1, (at?_some hx33).2.1⟩, hcx33 _ hH 0 _ rfl, hcx33 _ hH 1 _ rfl⟩ ?_
      refine RgL.newBox (d := 14) (v := .agg #[.int .i64 x33.Place, .bool x33.Pass]) (cs0 := #[.int .i64 0, .bool false]) (cs' := #[.int .i64 x33.Place, .bool x33.Pass]) (e := 37) (fun g => by kernel_rfl) (fun g => by kernel_rfl) (by kernel_rfl) (by kernel_rfl) ?_
      intro g35 w hgg35 hx37 hsg35 hbg35
      obtain ⟨H, hl, hH, hig35, hk⟩ := addH hH hx37 hgg35 hbg35
      replace hE := hE.then hx37
      try replace hE0 := hE0.then hx37
      replace hra1 := hra1.mono hl
      replace hmv_passed12 := hmv_passed12.grow hl hk hx37
      refine RgL.done (by kernel_rfl) ?_
      refine RunL.adm 1 (es' := [.c [1, 1, 1, 1, 1, 0, 1, 0, 0, 1, 1, 0, 0, 1, 0], .c [1, 1, 1, 1, 1, 0, 1, 0, 0, 1, 1, 0, 0, 1, 1], .b 1, .c [1, 1, 1, 1, 1, 0, 1, 0, 0, 1, 1, 1], .l [1, 1, 1, 1, 1, 0, 1, 0, 0], .b 0, .c [1, 1, 1, 1, 1, 1]]) (by kernel_rfl) ?_
      refine RunL.reg (by kernel_rfl) ?_
      refine RgL.runk 2 [2, 10, 12, 14, 31, 32, 33, 38] (vs := [.bool x33.Pass]) (evs := [.load ⟨g35, 1, none⟩ (.bool x33.Pass)]) (L' := [(2, .int .i64 a2), (10, .int .i64 y2.2.1), (12, .map (some g13)), (14, .pointer (some ⟨g35, 0, none⟩)), (31, .slice (some ad34) a1.length ca1), (32, .int .i64 (a1.length : Int)), (33, .int .i64 v33), (38, .bool x33.Pass)]) (by kernel_rfl) (by kernel_rfl) (cellH hig35 hH rfl) ?_
      refine RgL.done (by kernel_rfl) ?_
      rcases bool_cases (x33.Pass) with hb41 | hb41
      · replace heq := bif_true hb41 heq
        refine RunL.condT (c := x33.Pass) (by kernel_rfl) hb41 ?_
        refine RunL.reg (by kernel_rfl) ?_
        refine RgL.runk 3 [2, 10, 12, 31, 32, 33, 39, 41] (vs := [.int .i64 x33.Place]) (evs := [.load ⟨g35, 0, none⟩ (.int .i64 x33.Place)]) (L' := [(2, .int .i64 a2), (10, .int .i64 y2.2.1), (12, .map (some g13)), (31, .slice (some ad34) a1.length ca1), (32, .int .i64 (a1.length : Int)), (33, .int .i64 v33), (39, .map (some g13)), (41, .int .i64 x33.Place)]) (by kernel_rfl) (by kernel_rfl) (cellH hig35 hH rfl) ?_
        refine RgL.lookup (d := 42) (t := 43) (m := v_passed12) (k := x33.Place) (z := .int .i64 0) (zc := [.int .i64 0]) (z0 := 0) (ok := false) (by kernel_rfl) (KyAt.int Try.underlying3) rfl (kd := (Kd.int .i64)) (ag := false) (H := H) rfl hmv_passed12.on ?_
        intro c42 hc42
        obtain rfl : c42 = [.int .i64 (mgetD v_passed12 x33.Place 0)] := hc42
        refine RgL.val1 (v' := .int .i64 (mgetD v_passed12 x33.Place 0)) rfl ?_
        refine RgL.runk 5 [2, 10, 12, 31, 32, 33, 39, 41, 43] (vs := []) (evs := []) (L' := [(2, .int .i64 a2), (10, .int .i64 y2.2.1), (12, .map (some g13)), (31, .slice (some ad34) a1.length ca1), (32, .int .i64 (a1.length : Int)), (33, .int .i64 v33), (39, .map (some g13)), (41, .int .i64 x33.Place), (43, .int .i64 (w64 ((mgetD v_passed12 x33.Place 0) + 1)))]) (by kernel_rfl) (by kernel_rfl) trivial ?_
        refine RgL.mapUpdate (cv := [.int .i64 (w64 ((mgetD v_passed12 x33.Place 0) + 1))]) (k := x33.Place) (by kernel_rfl) (KyAt.int Try.underlying3) rfl (v := (w64 ((mgetD v_passed12 x33.Place 0) + 1))) rfl hmv_passed12 ?_
        intro w ohU45 hU45 hm43
        replace hE := hU45.ext hE hmv_passed12.1
        replace hH := hU45.sub hH hmv_passed12.2.1
        clear hmv_passed12
        refine RgL.done (by kernel_rfl) ?_
        refine RunL.adm 1 (es' := [.c [1, 1, 1, 1, 1, 0, 1, 0, 0, 1, 1, 1], .l [1, 1, 1, 1, 1, 0, 1, 0, 0], .b 0, .c [1, 1, 1, 1, 1, 1]]) (by kernel_rfl) ?_
        refine RunL.keep [2, 10, 12, 31, 32, 33] (L' := [(2, .int .i64 a2), (10, .int .i64 y2.2.1), (12, .map (some g13)), (31, .slice (some ad34) a1.length ca1), (32, .int .i64 (a1.length : Int)), (33, .int .i64 v33)]) (by kernel_rfl) ?_
        exact (trials_NextProbe.j39_c (trials_NextProbe.l30 e17 k) ih) _ _ _ _ _ _ _ _ _ _ hH hE hra1 hca1 hm43 heq
      · replace heq := bif_false hb41 heq
        refine RunL.condF (c := x33.Pass) (by kernel_rfl) hb41 ?_
        refine RunL.adm 2 (es' := [.c [1, 1, 1, 1, 1, 0, 1, 0, 0, 1, 1, 1], .l [1, 1, 1, 1, 1, 0, 1, 0, 0], .b 0, .c [1, 1, 1, 1, 1, 1]]) (by kernel_rfl) ?_
        refine RunL.keep [2, 10, 12, 31, 32, 33] (L' := [(2, .int .i64 a2), (10, .int .i64 y2.2.1), (12, .map (some g13)), (31, .slice (some ad34) a1.length ca1), (32, .int .i64 (a1.length : Int)), (33, .int .i64 v33)]) (by kernel_rfl) ?_
        exact (trials_NextProbe.j39_c (trials_NextProbe.l30 e17 k) ih) _ _ _ _ _ _ _ _ _ _ hH hE hra1 hca1 hmv_passed12 heq
    · replace heq := bif_false hb32 heq
      refine RunL.condF (c := decide (v33 < (a1.length : Int))) (by kernel_rfl) hb32 ?_
      refine RunL.adm 2 (es' := [.c [1, 1, 1, 1, 1, 1, 0], .c [1, 1, 1, 1, 1, 1, 1]]) (by kernel_rfl) ?_
      refine RunL.keep [2, 10, 12] (L' := [(2, .int .i64 a2), (10, .int .i64 y2.2.1), (12, .map (some g13))]) (by kernel_rfl) ?_
      exact he17 _ _ _ _ _ _ hH hE hmv_passed12 heq
theorem trials_NextProbe_c {w0 : World} {H : Hp} {a0 : Int} {a1 : List Probe} {Aa1 : Option Addr} {ca1 : Nat} {a2 : Int} {r : Int × Bool × Int} (hH : Sub H w0) (hra1 : Kd.Row kProbe H Aa1 a1) (hca1 : a1.length ≤ ca1) (heq : trials_NextProbe.f a0 a1 a2 = some r) : Calls Try.prog 13 #[.int .i64 a0, .slice Aa1 a1.length ca1, .int .i64 a2] w0 (Ret (S13 w0 r)) := by
  refine calls_of_runL (F := C13) Try.func13 (by kernel_rfl) Try.ntmps13 (args := [.int .i64 a0, .slice Aa1 a1.length ca1, .int .i64 a2]) (by kernel_rfl) ?_
  unfold trials_NextProbe.f at heq
  suffices h : ∀ w, Ext w0 w → Sub H w → RunL C13 (Ret (S13 w0 r)) [.c []] (argL 0 [.int .i64 a0, .slice Aa1 a1.length ca1, .int .i64 a2]) w from h w0 (Ext.refl w0) hH
  clear hH
  intro w hE hH
  refine RunL.adm 1 (es' := [.c [0], .c [1]]) (by kernel_rfl) ?_
  refine RunL.reg (by kernel_rfl) ?_
  refine RgL.runk 3 [0, 1, 2] (vs := []) (evs := []) (L' := [(0, .int .i64 a0), (1, .slice Aa1 a1.length ca1), (2, .int .i64 a2)]) (by kernel_rfl) (by kernel_rfl) trivial ?_
  refine RgL.done (by kernel_rfl) ?_
  refine RunL.adm 1 (es' := [.c [1, 0], .c [1, 1]]) (by kernel_rfl) ?_
  refine RunL.reg (by kernel_rfl) ?_
  refine RgL.runk 2 [1, 2, 18, 19] (vs := []) (evs := []) (L' := [(1, .slice Aa1 a1.length ca1), (2, .int .i64 a2), (18, .int .i64 a0), (19, .slice Aa1 a1.length ca1)]) (by kernel_rfl) (by kernel_rfl) trivial ?_
  obtain ⟨y2, hy2, heq⟩ := bind_some heq
  refine RgL.call (d := some 20) (g := 14) (args := #[.int .i64 a0, .slice Aa1 a1.length ca1]) (by kernel_rfl) (trials_Suspects_c hH hra1 hca1 hy2) ?_
  rintro _ w ⟨hx4, rfl⟩
  replace hH := hH.ext hx4
  replace hE := hE.then hx4
  try replace hE0 := hE0.then hx4
  refine RgL.runk 10 [1, 2, 10, 11] (vs := []) (evs := []) (L' := [(1, .slice Aa1 a1.length ca1), (2, .int .i64 a2), (10, .int .i64 y2.2.1), (11, .int .i64 y2.2.2)]) (by kernel_rfl) (by kernel_rfl) trivial ?_
  refine RgL.done (by kernel_rfl) ?_
  refine RunL.adm 2 (es' := [.c [1, 1, 0, 0], .c [1, 1, 0, 1], .c [1, 1, 1]]) (by kernel_rfl) ?_
  refine RunL.reg (by kernel_rfl) ?_
  refine RgL.runk 2 [1, 2, 10, 11, 25] (vs := []) (evs := []) (L' := [(1, .slice Aa1 a1.length ca1), (2, .int .i64 a2), (10, .int .i64 y2.2.1), (11, .int .i64 y2.2.2), (25, .bool (y2.2.2 != 0))]) (by kernel_rfl) (by kernel_rfl) trivial ?_
  refine RgL.done (by kernel_rfl) ?_
  rcases bool_cases (y2.2.2 != 0) with hb6 | hb6
  · replace heq := bif_true hb6 heq
    refine RunL.condT (c := y2.2.2 != 0) (by kernel_rfl) hb6 ?_
    refine RunL.adm 1 (es' := [.c [1, 1, 0, 1, 0, 0], .c [1, 1, 0, 1, 0, 1], .c [1, 1, 1]]) (by kernel_rfl) ?_
    refine RunL.reg (by kernel_rfl) ?_
    refine RgL.runk 4 [6, 7, 8] (vs := []) (evs := []) (L' := [(6, .int .i64 0), (7, .bool false), (8, .int .i64 y2.2.2)]) (by kernel_rfl) (by kernel_rfl) trivial ?_
    refine RgL.done (by kernel_rfl) ?_
    obtain rfl := Option.some.inj heq
    exact RunL.done (by kernel_rfl) Try.func13 (v := .tuple #[.int .i64 0, .bool false, .int .i64 y2.2.2]) (by kernel_rfl) ⟨hE, rfl⟩
  · replace heq := bif_false hb6 heq
    refine RunL.condF (c := y2.2.2 != 0) (by kernel_rfl) hb6 ?_
    refine RunL.adm 3 (es' := [.c [1, 1, 1, 0, 0], .c [1, 1, 1, 0, 1], .c [1, 1, 1, 1]]) (by kernel_rfl) ?_
    refine RunL.reg (by kernel_rfl) ?_
    refine RgL.runk 1 [1, 2, 10, 27] (vs := []) (evs := []) (L' := [(1, .slice Aa1 a1.length ca1), (2, .int .i64 a2), (10, .int .i64 y2.2.1), (27, .int .i64 a2)]) (by kernel_rfl) (by kernel_rfl) trivial ?_
    obtain ⟨y8, hy8, heq⟩ := bind_some heq
    refine RgL.call (d := some 28) (g := 19) (args := #[.int .i64 a2, .int .i64 1, .int .i64 100]) (by kernel_rfl) (trials_within_c hH  hy8) ?_
    rintro _ w ⟨hx10, rfl⟩
    replace hH := hH.ext hx10
    replace hE := hE.then hx10
    try replace hE0 := hE0.then hx10
    refine RgL.runk 3 [1, 2, 10, 29] (vs := []) (evs := []) (L' := [(1, .slice Aa1 a1.length ca1), (2, .int .i64 a2), (10, .int .i64 y2.2.1), (29, .bool (!y8))]) (by kernel_rfl) (by kernel_rfl) trivial ?_
    refine RgL.done (by kernel_rfl) ?_
    rcases bool_cases (!y8) with hb11 | hb11
    · replace heq := bif_true hb11 heq
      refine RunL.condT (c := !y8) (by kernel_rfl) hb11 ?_
      refine RunL.adm 1 (es' := [.c [1, 1, 1, 0, 1, 0, 0], .c [1, 1, 1, 0, 1, 0, 1], .c [1, 1, 1, 1]]) (by kernel_rfl) ?_
      refine RunL.reg (by kernel_rfl) ?_
      refine RgL.runk 3 [6, 7, 8] (vs := []) (evs := []) (L' := [(6, .int .i64 0), (7, .bool false), (8, .int .i64 1)]) (by kernel_rfl) (by kernel_rfl) trivial ?_
      refine RgL.done (by kernel_rfl) ?_
      obtain rfl := Option.some.inj heq
      exact RunL.done (by kernel_rfl) Try.func13 (v := .tuple #[.int .i64 0, .bool false, .int .i64 1]) (by kernel_rfl) ⟨hE, rfl⟩
    · replace heq := bif_false hb11 heq
      refine RunL.condF (c := !y8) (by kernel_rfl) hb11 ?_
      refine RunL.adm 2 (es' := [.c [1, 1, 1, 1, 0], .c [1, 1, 1, 1, 1]]) (by kernel_rfl) ?_
      refine RunL.reg (by kernel_rfl) ?_
      refine RgL.makeMap (d := 30) (enc := (Value.int .i64)) (kd := (Kd.int .i64)) (ag := false) (n0 := w0.heap.size) (fun g => by kernel_rfl) hH hE.size ?_
      intro g13 w hgg13 hx15 hmg13
      replace hH := hH.ext hx15
      replace hE := hE.then hx15
      try replace hE0 := hE0.then hx15
      refine RgL.runk 2 [1, 2, 10, 12] (vs := []) (evs := []) (L' := [(1, .slice Aa1 a1.length ca1), (2, .int .i64 a2), (10, .int .i64 y2.2.1), (12, .map (some g13))]) (by kernel_rfl) (by kernel_rfl) trivial ?_
      refine RgL.done (by kernel_rfl) ?_
      refine RunL.adm 2 (es' := [.c [1, 1, 1, 1, 1, 0, 0], .c [1, 1, 1, 1, 1, 0, 1], .c [1, 1, 1, 1, 1, 1]]) (by kernel_rfl) ?_
      refine RunL.reg (by kernel_rfl) ?_
      refine RgL.runk 3 [2, 10, 12, 31, 32, 33] (vs := []) (evs := []) (L' := [(2, .int .i64 a2), (10, .int .i64 y2.2.1), (12, .map (some g13)), (31, .slice Aa1 a1.length ca1), (32, .int .i64 (a1.length : Int)), (33, .int .i64 0)]) (by kernel_rfl) (by kernel_rfl) trivial ?_
      refine RgL.done (by kernel_rfl) ?_
      refine RunL.adm 2 (es' := [.c [1, 1, 1, 1, 1, 0, 1, 0, 0], .l [1, 1, 1, 1, 1, 0, 1, 0, 0], .b 0, .c [1, 1, 1, 1, 1, 1]]) (by kernel_rfl) ?_
      refine RunL.keep [2, 10, 12, 31, 32, 33] (L' := [(2, .int .i64 a2), (10, .int .i64 y2.2.1), (12, .map (some g13)), (31, .slice Aa1 a1.length ca1), (32, .int .i64 (a1.length : Int)), (33, .int .i64 0)]) (by kernel_rfl) ?_
      exact (trials_NextProbe.l30_c trials_NextProbe.e17 (trials_NextProbe.e17_c)) (((a1.length : Int) - 0).toNat + 1) _ _ _ _ _ _ _ _ _ _ hH hE hra1 hca1 hmg13 heq
noncomputable def C15 : Ctx := { P := Try.prog, f := 15, N := 8, c := bodyOf Try.f15 }
def S15 (w0 : World) (H0 : Hp) (r : List Probe) (v : Value) (w : World) : Prop := Ext w0 w ∧ ∃ H A0 c0, HX H0 w0 H w ∧ v = .slice A0 r.length c0 ∧ Own kProbe 37 H w w0.heap.size A0 c0 r
theorem slices_Clone_Probe_c {w0 : World} {H0 : Hp} {a0 : List Probe} {Aa0 : Option Addr} {ca0 : Nat} {r : List Probe} (hH : Sub H0 w0) (hra0 : Kd.Row kProbe H0 Aa0 a0) (hca0 : a0.length ≤ ca0) (heq : slices_Clone_Probe.f a0 = some r) : Calls Try.prog 15 #[.slice Aa0 a0.length ca0] w0 (Ret (S15 w0 H0 r)) := by
  refine calls_of_runL (F := C15) Try.func15 (by kernel_rfl) Try.ntmps15 (args := [.slice Aa0 a0.length ca0]) (by kernel_rfl) ?_
  unfold slices_Clone_Probe.f at heq
  obtain ⟨hn, heq⟩ := guard?_some heq
  obtain rfl := Option.some.inj heq
  refine RunL.adm 1 (es' := [.c [0], .c [1]]) (by kernel_rfl) ?_
  refine RunL.reg (by kernel_rfl) ?_
  refine RgL.runk 1 [0] (vs := []) (evs := []) (L' := [(0, .slice Aa0 a0.length ca0)]) (by kernel_rfl) (by kernel_rfl) trivial ?_
  refine RgL.done (by kernel_rfl) ?_
  refine RunL.adm 2 (es' := [.c [1, 0, 0], .c [1, 0, 1], .c [1, 1]]) (by kernel_rfl) ?_
  refine RunL.reg (by kernel_rfl) ?_
  cases Aa0 with
  | none =>
    have h0 : a0 = [] := by
      cases a0 with
      | nil => rfl
      | cons x xs => obtain ⟨b, off, cs, e, fr, hA, _⟩ := hra0 (by simp); simp at hA
    subst h0
    refine RgL.runk 2 [4] (vs := []) (evs := []) (L' := [(4, .bool true)]) (by kernel_rfl) (by kernel_rfl) trivial ?_
    refine RgL.done (by kernel_rfl) ?_
    refine RunL.condT (c := true) (by kernel_rfl) rfl ?_
    refine RunL.adm 1 (es' := [.c [1, 0, 1, 0, 0], .c [1, 0, 1, 0, 1], .c [1, 1]]) (by kernel_rfl) ?_
    refine RunL.reg (by kernel_rfl) ?_
    refine RgL.runk 1 [2] (vs := []) (evs := []) (L' := [(2, .slice none 0 0)]) (by kernel_rfl) (by kernel_rfl) trivial ?_
    refine RgL.done (by kernel_rfl) ?_
    exact RunL.done (by kernel_rfl) Try.func15 (v := .slice none ([] : List Probe).length 0) (by kernel_rfl) ⟨Ext.refl _, H0, none, 0, HX.of hH (Ext.refl _), rfl, Own.nil⟩
  | some ad =>
    refine RgL.runk 2 [0, 4] (vs := []) (evs := []) (L' := [(0, .slice (some ad) a0.length ca0), (4, .bool false)]) (by kernel_rfl) (by kernel_rfl) trivial ?_
    refine RgL.done (by kernel_rfl) ?_
    refine RunL.condF (c := false) (by kernel_rfl) rfl ?_
    refine RunL.adm 2 (es' := [.c [1, 1, 0], .c [1, 1, 1]]) (by kernel_rfl) ?_
    refine RunL.reg (by kernel_rfl) ?_
    refine RgL.new (d := some 5) (v := fun g => .slice (some ⟨g, 0, none⟩) 0 0) (o := fun g => .cells #[] 37 (0, 0)) (fun g => by kernel_rfl) ?_
    intro g w hg hx hs hb
    have ho : Own kProbe 37 H0 w w0.heap.size (some ⟨g, 0, none⟩) 0 ([] : List Probe) := .inr ⟨g, #[], rfl, by omega, hH.none hg, hb, by simp, by simp [maxLen], by simp, Kd.Rep.nil⟩
    refine RgL.runk 2 [5, 6] (vs := []) (evs := []) (L' := [(5, .slice (some ⟨g, 0, none⟩) ([] : List Probe).length 0), (6, .slice (some ad) a0.length ca0)]) (by kernel_rfl) (by kernel_rfl) trivial ?_
    refine RgL.append (d := 7) (t := 32) (e := 37) (bytes := 16) (kd := kProbe) (xs := ([] : List Probe)) (ys := a0) (A := some ⟨g, 0, none⟩) (B := some ad) (c := 0) (cB := ca0) (by kernel_rfl) (by kernel_rfl) hx.size ho hra0 (hH.ext hx) hca0 (room_le hn) (by have := room_le hn; simp at this ⊢; omega) ?_
    intro A c w1 ha ho1
    refine RgL.runk 4 [2] (vs := []) (evs := []) (L' := [(2, .slice A (([] : List Probe) ++ a0).length c)]) (by kernel_rfl) (by kernel_rfl) trivial ?_
    refine RgL.done (by kernel_rfl) ?_
    exact RunL.done (by kernel_rfl) Try.func15 (v := .slice A (([] : List Probe) ++ a0).length c) (by kernel_rfl) ⟨ha.ext hx ho, H0, A, c, ⟨Le.refl _, ha.sub (hH.ext hx) ho, fun _ _ h => h⟩, rfl, ho1⟩

noncomputable def C20 : Ctx := { P := Try.prog, f := 20, N := 15, c := bodyOf Try.f20 }
def S20 (w0 : World) (r : Bool) (v : Value) (w : World) : Prop := Ext w0 w ∧ v = .bool r
theorem smithyardref10_within_c {w0 : World} {H : Hp} {a0 : Int} {a1 : Int} {a2 : Int} {r : Bool} (hH : Sub H w0) (heq : smithyardref10_within.f a0 a1 a2 = some r) : Calls Try.prog 20 #[.int .i64 a0, .int .i64 a1, .int .i64 a2] w0 (Ret (S20 w0 r)) := by
  refine calls_of_runL (F := C20) Try.func20 (by kernel_rfl) Try.ntmps20 (args := [.int .i64 a0, .int .i64 a1, .int .i64 a2]) (by kernel_rfl) ?_
  unfold smithyardref10_within.f at heq
  suffices h : ∀ w, Ext w0 w → Sub H w → RunL C20 (Ret (S20 w0 r)) [.c []] (argL 0 [.int .i64 a0, .int .i64 a1, .int .i64 a2]) w from h w0 (Ext.refl w0) hH
  clear hH
  intro w hE hH
  refine RunL.adm 1 (es' := [.c [0], .c [1]]) (by kernel_rfl) ?_
  refine RunL.reg (by kernel_rfl) ?_
  refine RgL.runk 1 [0, 1, 2] (vs := []) (evs := []) (L' := [(0, .int .i64 a0), (1, .int .i64 a1), (2, .int .i64 a2)]) (by kernel_rfl) (by kernel_rfl) trivial ?_
  refine RgL.done (by kernel_rfl) ?_
  refine RunL.adm 1 (es' := [.c [1, 0], .c [1, 1]]) (by kernel_rfl) ?_
  refine RunL.reg (by kernel_rfl) ?_
  obtain ⟨t3, ht4, heq⟩ := bind_some heq
  have K5 : ∀ w2, Ext w w2 → RunL C20 (Ret (S20 w0 r)) [.c [1, 1]] [(6, .bool t3)] w2 := by
    intro w hx
    replace hH := hH.ext hx
    replace hE := hE.then hx
    obtain rfl := Option.some.inj heq
    exact RunL.done (by kernel_rfl) Try.func20 (v := .bool t3) (by kernel_rfl) ⟨hE, rfl⟩
  replace heq := ht4
  have hE0 := Ext.refl w
  refine RgL.runk 4 [10, 0, 2] (vs := []) (evs := []) (L' := [(10, .bool (decide (a1 ≤ a0))), (0, .int .i64 a0), (2, .int .i64 a2)]) (by kernel_rfl) (by kernel_rfl) trivial ?_
  rcases bool_cases (decide (a1 ≤ a0)) with hb6 | hb6
  · replace heq := bif_true hb6 heq
    refine RgL.bool1 hb6 ?_
    refine RgL.runk 9 [6] (vs := []) (evs := []) (L' := [(6, .bool (decide (a0 ≤ a2)))]) (by kernel_rfl) (by kernel_rfl) trivial ?_
    obtain rfl := Option.some.inj heq
    refine RgL.keep [6] (L' := [(6, .bool (decide (a0 ≤ a2)))]) (by kernel_rfl) ?_
    exact RgL.done (by kernel_rfl) (K5 _ hE0)
  · replace heq := bif_false hb6 heq
    refine RgL.bool1 hb6 ?_
    refine RgL.runk 9 [6] (vs := []) (evs := []) (L' := [(6, .bool false)]) (by kernel_rfl) (by kernel_rfl) trivial ?_
    obtain rfl := Option.some.inj heq
    refine RgL.keep [6] (L' := [(6, .bool false)]) (by kernel_rfl) ?_
    exact RgL.done (by kernel_rfl) (K5 _ hE0)
noncomputable def C21 : Ctx := { P := Try.prog, f := 21, N := 33, c := bodyOf Try.f21 }
def S21 (w0 : World) (r : Int) (v : Value) (w : World) : Prop := Ext w0 w ∧ v = .int .i64 r
theorem smithyardref10_askProbes.e11_c {w0 : World} {r : Int} : ∀ (H : Hp) (w : World) , Sub H w → Ext w0 w → smithyardref10_askProbes.e11 = some r → RunL C21 (Ret (S21 w0 r)) [.c [1, 1, 1, 1, 0], .c [1, 1, 1, 1, 1]] [] w := by
  intro H w  hH hE  heq
  unfold smithyardref10_askProbes.e11 at heq
  refine RunL.reg (by kernel_rfl) ?_
  refine RgL.runk 1 [4] (vs := []) (evs := []) (L' := [(4, .int .i64 0)]) (by kernel_rfl) (by kernel_rfl) trivial ?_
  refine RgL.done (by kernel_rfl) ?_
  obtain rfl := Option.some.inj heq
  exact RunL.done (by kernel_rfl) Try.func21 (v := .int .i64 0) (by kernel_rfl) ⟨hE, rfl⟩
theorem smithyardref10_askProbes.l13_c {w0 : World} {r : Int} (e11 : Option Int)
    (he11 : ∀ (H : Hp) (w : World) , Sub H w → Ext w0 w → e11 = some r → RunL C21 (Ret (S21 w0 r)) [.c [1, 1, 1, 1, 0], .c [1, 1, 1, 1, 1]] [] w) : ∀ (k : Nat), ∀ (H : Hp) (w : World) (a0 : Int) (a1 : List Probe) (Aa1 : Option Addr) (ca1 : Nat) (v15 : Int), Sub H w → Ext w0 w → Kd.Row kProbe H Aa1 a1 → a1.length ≤ ca1 → smithyardref10_askProbes.l13 e11 k a0 a1 v15 = some r → RunL C21 (Ret (S21 w0 r)) [.c [1, 1, 1, 0, 1, 0, 0], .l [1, 1, 1, 0, 1, 0, 0], .b 0, .c [1, 1, 1, 1]] [(0, .int .i64 a0), (13, .slice Aa1 a1.length ca1), (14, .int .i64 (a1.length : Int)), (15, .int .i64 v15)] w := by
  intro k
  induction k with
  | zero => intro H w a0 a1 Aa1 ca1 v15 hH hE hra1 hca1 heq; exact nomatch (show (none : Option Int) = some r from heq)
  | succ k ih =>
    intro H w a0 a1 Aa1 ca1 v15 hH hE hra1 hca1 heq
    rw [smithyardref10_askProbes.l13] at heq
    refine RunL.adm 1 (es' := [.c [1, 1, 1, 0, 1, 0, 0, 0], .c [1, 1, 1, 0, 1, 0, 0, 1], .l [1, 1, 1, 0, 1, 0, 0], .b 0, .c [1, 1, 1, 1]]) (by kernel_rfl) ?_
    refine RunL.reg (by kernel_rfl) ?_
    refine RgL.runk 1 [0, 13, 14, 15, 16] (vs := []) (evs := []) (L' := [(0, .int .i64 a0), (13, .slice Aa1 a1.length ca1), (14, .int .i64 (a1.length : Int)), (15, .int .i64 v15), (16, .bool (decide (v15 < (a1.length : Int))))]) (by kernel_rfl) (by kernel_rfl) trivial ?_
    refine RgL.done (by kernel_rfl) ?_
    refine RunL.adm 1 (es' := [.c [1, 1, 1, 0, 1, 0, 0, 1, 0], .c [1, 1, 1, 0, 1, 0, 0, 1, 1], .l [1, 1, 1, 0, 1, 0, 0], .b 0, .c [1, 1, 1, 1]]) (by kernel_rfl) ?_
    rcases bool_cases (decide (v15 < (a1.length : Int))) with hb15 | hb15
    · replace heq := bif_true hb15 heq
      refine RunL.condT (c := decide (v15 < (a1.length : Int))) (by kernel_rfl) hb15 ?_
      refine RunL.adm 4 (es' := [.c [1, 1, 1, 0, 1, 0, 0, 1, 1, 0, 0, 0], .c [1, 1, 1, 0, 1, 0, 0, 1, 1, 0, 0, 1], .b 1, .c [1, 1, 1, 0, 1, 0, 0, 1, 1, 1], .l [1, 1, 1, 0, 1, 0, 0], .b 0, .c [1, 1, 1, 1]]) (by kernel_rfl) ?_
      refine RunL.reg (by kernel_rfl) ?_
      obtain ⟨x16, hx16, heq⟩ := bind_some heq
      obtain ⟨ad17, rfl⟩ := hra1.addr hx16
      obtain ⟨csx16, hKx16, hcx16⟩ := hra1.get hx16
      obtain ⟨rfl⟩ := kProbe_open hKx16
      refine RgL.runk 2 [0, 13, 14, 15, 18] (vs := [.int .i64 x16.Place, .bool x16.Pass]) (evs := [.need (0 ≤ v15 ∧ v15 < (a1.length : Int)), .load ((ad17.add (v15.toNat * 2)).add 0) (.int .i64 x16.Place), .load ((ad17.add (v15.toNat * 2)).add 1) (.bool x16.Pass)]) (L' := [(0, .int .i64 a0), (13, .slice (some ad17) a1.length ca1), (14, .int .i64 (a1.length : Int)), (15, .int .i64 v15), (18, .agg #[.int .i64 x16.Place, .bool x16.Pass])]) (by kernel_rfl) (by kernel_rfl) ⟨⟨(at?_some hx16).1, (at?_some hx16).2.1⟩, hcx16 _ hH 0 _ rfl, hcx16 _ hH 1 _ rfl⟩ ?_
      refine RgL.newBox (d := 6) (v := .agg #[.int .i64 x16.Place, .bool x16.Pass]) (cs0 := #[.int .i64 0, .bool false]) (cs' := #[.int .i64 x16.Place, .bool x16.Pass]) (e := 37) (fun g => by kernel_rfl) (fun g => by kernel_rfl) (by kernel_rfl) (by kernel_rfl) ?_
      intro g18 w hgg18 hx20 hsg18 hbg18
      obtain ⟨H, hl, hH, hig18, hk⟩ := addH hH hx20 hgg18 hbg18
      replace hE := hE.then hx20
      try replace hE0 := hE0.then hx20
      replace hra1 := hra1.mono hl
      refine RgL.done (by kernel_rfl) ?_
      refine RunL.adm 2 (es' := [.c [1, 1, 1, 0, 1, 0, 0, 1, 1, 0, 0, 1, 0, 0], .c [1, 1, 1, 0, 1, 0, 0, 1, 1, 0, 0, 1, 0, 1], .c [1, 1, 1, 0, 1, 0, 0, 1, 1, 0, 0, 1, 1], .b 1, .c [1, 1, 1, 0, 1, 0, 0, 1, 1, 1], .l [1, 1, 1, 0, 1, 0, 0], .b 0, .c [1, 1, 1, 1]]) (by kernel_rfl) ?_
      refine RunL.reg (by kernel_rfl) ?_
      refine RgL.runk 3 [0, 6, 13, 14, 15, 20, 21] (vs := [.int .i64 x16.Place]) (evs := [.load ⟨g18, 0, none⟩ (.int .i64 x16.Place)]) (L' := [(0, .int .i64 a0), (6, .pointer (some ⟨g18, 0, none⟩)), (13, .slice (some ad17) a1.length ca1), (14, .int .i64 (a1.length : Int)), (15, .int .i64 v15), (20, .int .i64 x16.Place), (21, .int .i64 a0)]) (by kernel_rfl) (by kernel_rfl) (cellH hig18 hH rfl) ?_
      obtain ⟨y21, hy21, heq⟩ := bind_some heq
      refine RgL.call (d := some 22) (g := 20) (args := #[.int .i64 x16.Place, .int .i64 0, .int .i64 a0]) (by kernel_rfl) (smithyardref10_within_c hH  hy21) ?_
      rintro _ w ⟨hx23, rfl⟩
      replace hH := hH.ext hx23
      replace hE := hE.then hx23
      try replace hE0 := hE0.then hx23
      refine RgL.runk 5 [0, 6, 13, 14, 15, 23] (vs := []) (evs := []) (L' := [(0, .int .i64 a0), (6, .pointer (some ⟨g18, 0, none⟩)), (13, .slice (some ad17) a1.length ca1), (14, .int .i64 (a1.length : Int)), (15, .int .i64 v15), (23, .bool (!y21))]) (by kernel_rfl) (by kernel_rfl) trivial ?_
      refine RgL.done (by kernel_rfl) ?_
      rcases bool_cases (!y21) with hb24 | hb24
      · replace heq := bif_true hb24 heq
        refine RunL.condT (c := !y21) (by kernel_rfl) hb24 ?_
        refine RunL.adm 1 (es' := [.c [1, 1, 1, 0, 1, 0, 0, 1, 1, 0, 0, 1, 0, 1, 0, 0], .c [1, 1, 1, 0, 1, 0, 0, 1, 1, 0, 0, 1, 0, 1, 0, 1], .c [1, 1, 1, 0, 1, 0, 0, 1, 1, 0, 0, 1, 1], .b 1, .c [1, 1, 1, 0, 1, 0, 0, 1, 1, 1], .l [1, 1, 1, 0, 1, 0, 0], .b 0, .c [1, 1, 1, 1]]) (by kernel_rfl) ?_
        refine RunL.reg (by kernel_rfl) ?_
        refine RgL.runk 1 [4] (vs := []) (evs := []) (L' := [(4, .int .i64 1)]) (by kernel_rfl) (by kernel_rfl) trivial ?_
        refine RgL.done (by kernel_rfl) ?_
        obtain rfl := Option.some.inj heq
        exact RunL.done (by kernel_rfl) Try.func21 (v := .int .i64 1) (by kernel_rfl) ⟨hE, rfl⟩
      · replace heq := bif_false hb24 heq
        refine RunL.condF (c := !y21) (by kernel_rfl) hb24 ?_
        refine RunL.adm 2 (es' := [.c [1, 1, 1, 0, 1, 0, 0, 1, 1, 0, 0, 1, 1, 0], .c [1, 1, 1, 0, 1, 0, 0, 1, 1, 0, 0, 1, 1, 1], .b 1, .c [1, 1, 1, 0, 1, 0, 0, 1, 1, 1], .l [1, 1, 1, 0, 1, 0, 0], .b 0, .c [1, 1, 1, 1]]) (by kernel_rfl) ?_
        refine RunL.reg (by kernel_rfl) ?_
        obtain ⟨t27, ht28, heq⟩ := bind_some heq
        have K29 : ∀ w2, Ext w w2 → RunL C21 (Ret (S21 w0 r)) [.c [1, 1, 1, 0, 1, 0, 0, 1, 1, 0, 0, 1, 1, 1], .b 1, .c [1, 1, 1, 0, 1, 0, 0, 1, 1, 1], .l [1, 1, 1, 0, 1, 0, 0], .b 0, .c [1, 1, 1, 1]] [(0, .int .i64 a0), (13, .slice (some ad17) a1.length ca1), (14, .int .i64 (a1.length : Int)), (15, .int .i64 v15), (31, .bool t27)] w2 := by
          intro w hx
          replace hH := hH.ext hx
          replace hE := hE.then hx
          rcases bool_cases (t27) with hb30 | hb30
          · replace heq := bif_true hb30 heq
            refine RunL.condT (c := t27) (by kernel_rfl) hb30 ?_
            refine RunL.adm 1 (es' := [.c [1, 1, 1, 0, 1, 0, 0, 1, 1, 0, 0, 1, 1, 1, 0, 0], .c [1, 1, 1, 0, 1, 0, 0, 1, 1, 0, 0, 1, 1, 1, 0, 1], .b 1, .c [1, 1, 1, 0, 1, 0, 0, 1, 1, 1], .l [1, 1, 1, 0, 1, 0, 0], .b 0, .c [1, 1, 1, 1]]) (by kernel_rfl) ?_
            refine RunL.reg (by kernel_rfl) ?_
            refine RgL.runk 1 [4] (vs := []) (evs := []) (L' := [(4, .int .i64 12)]) (by kernel_rfl) (by kernel_rfl) trivial ?_
            refine RgL.done (by kernel_rfl) ?_
            obtain rfl := Option.some.inj heq
            exact RunL.done (by kernel_rfl) Try.func21 (v := .int .i64 12) (by kernel_rfl) ⟨hE, rfl⟩
          · replace heq := bif_false hb30 heq
            refine RunL.condF (c := t27) (by kernel_rfl) hb30 ?_
            refine RunL.adm 2 (es' := [.c [1, 1, 1, 0, 1, 0, 0, 1, 1, 1], .l [1, 1, 1, 0, 1, 0, 0], .b 0, .c [1, 1, 1, 1]]) (by kernel_rfl) ?_
            refine RunL.reg (by kernel_rfl) ?_
            refine RgL.runk 2 [0, 13, 14, 15] (vs := []) (evs := []) (L' := [(0, .int .i64 a0), (13, .slice (some ad17) a1.length ca1), (14, .int .i64 (a1.length : Int)), (15, .int .i64 (w64 (v15 + 1)))]) (by kernel_rfl) (by kernel_rfl) trivial ?_
            refine RgL.done (by kernel_rfl) ?_
            refine RunL.adm 1 (es' := [.c [1, 1, 1, 0, 1, 0, 0], .l [1, 1, 1, 0, 1, 0, 0], .b 0, .c [1, 1, 1, 1]]) (by kernel_rfl) ?_
            refine RunL.keep [0, 13, 14, 15] (L' := [(0, .int .i64 a0), (13, .slice (some ad17) a1.length ca1), (14, .int .i64 (a1.length : Int)), (15, .int .i64 (w64 (v15 + 1)))]) (by kernel_rfl) ?_
            exact ih _ _ _ _ _ _ _ hH hE hra1 hca1 heq
        replace heq := ht28
        have hE0 := Ext.refl w
        refine RgL.runk 4 [27, 0, 6, 13, 14, 15] (vs := [.int .i64 x16.Place]) (evs := [.load ⟨g18, 0, none⟩ (.int .i64 x16.Place)]) (L' := [(27, .bool (x16.Place == 0)), (0, .int .i64 a0), (6, .pointer (some ⟨g18, 0, none⟩)), (13, .slice (some ad17) a1.length ca1), (14, .int .i64 (a1.length : Int)), (15, .int .i64 v15)]) (by kernel_rfl) (by kernel_rfl) (cellH hig18 hH rfl) ?_
        rcases bool_cases (x16.Place == 0) with hb33 | hb33
        · replace heq := bif_true hb33 heq
          refine RgL.bool1 hb33 ?_
          refine RgL.runk 8 [0, 13, 14, 15, 31] (vs := [.bool x16.Pass]) (evs := [.load ⟨g18, 1, none⟩ (.bool x16.Pass)]) (L' := [(0, .int .i64 a0), (13, .slice (some ad17) a1.length ca1), (14, .int .i64 (a1.length : Int)), (15, .int .i64 v15), (31, .bool (!x16.Pass))]) (by kernel_rfl) (by kernel_rfl) (cellH hig18 hH rfl) ?_
          obtain rfl := Option.some.inj heq
          refine RgL.keep [0, 13, 14, 15, 31] (L' := [(0, .int .i64 a0), (13, .slice (some ad17) a1.length ca1), (14, .int .i64 (a1.length : Int)), (15, .int .i64 v15), (31, .bool (!x16.Pass))]) (by kernel_rfl) ?_
          exact RgL.done (by kernel_rfl) (K29 _ hE0)
        · replace heq := bif_false hb33 heq
          refine RgL.bool1 hb33 ?_
          refine RgL.runk 8 [0, 13, 14, 15, 31] (vs := []) (evs := []) (L' := [(0, .int .i64 a0), (13, .slice (some ad17) a1.length ca1), (14, .int .i64 (a1.length : Int)), (15, .int .i64 v15), (31, .bool false)]) (by kernel_rfl) (by kernel_rfl) trivial ?_
          obtain rfl := Option.some.inj heq
          refine RgL.keep [0, 13, 14, 15, 31] (L' := [(0, .int .i64 a0), (13, .slice (some ad17) a1.length ca1), (14, .int .i64 (a1.length : Int)), (15, .int .i64 v15), (31, .bool false)]) (by kernel_rfl) ?_
          exact RgL.done (by kernel_rfl) (K29 _ hE0)
    · replace heq := bif_false hb15 heq
      refine RunL.condF (c := decide (v15 < (a1.length : Int))) (by kernel_rfl) hb15 ?_
      refine RunL.adm 2 (es' := [.c [1, 1, 1, 1, 0], .c [1, 1, 1, 1, 1]]) (by kernel_rfl) ?_
      refine RunL.keep [] (L' := []) (by kernel_rfl) ?_
      exact he11 _ _  hH hE  heq
theorem smithyardref10_askProbes_c {w0 : World} {H : Hp} {a0 : Int} {a1 : List Probe} {Aa1 : Option Addr} {ca1 : Nat} {r : Int} (hH : Sub H w0) (hra1 : Kd.Row kProbe H Aa1 a1) (hca1 : a1.length ≤ ca1) (heq : smithyardref10_askProbes.f a0 a1 = some r) : Calls Try.prog 21 #[.int .i64 a0, .slice Aa1 a1.length ca1] w0 (Ret (S21 w0 r)) := by
  refine calls_of_runL (F := C21) Try.func21 (by kernel_rfl) Try.ntmps21 (args := [.int .i64 a0, .slice Aa1 a1.length ca1]) (by kernel_rfl) ?_
  unfold smithyardref10_askProbes.f at heq
  suffices h : ∀ w, Ext w0 w → Sub H w → RunL C21 (Ret (S21 w0 r)) [.c []] (argL 0 [.int .i64 a0, .slice Aa1 a1.length ca1]) w from h w0 (Ext.refl w0) hH
  clear hH
  intro w hE hH
  refine RunL.adm 1 (es' := [.c [0], .c [1]]) (by kernel_rfl) ?_
  refine RunL.reg (by kernel_rfl) ?_
  refine RgL.runk 1 [0, 1] (vs := []) (evs := []) (L' := [(0, .int .i64 a0), (1, .slice Aa1 a1.length ca1)]) (by kernel_rfl) (by kernel_rfl) trivial ?_
  refine RgL.done (by kernel_rfl) ?_
  refine RunL.adm 2 (es' := [.c [1, 0, 0], .c [1, 0, 1], .c [1, 1]]) (by kernel_rfl) ?_
  refine RunL.reg (by kernel_rfl) ?_
  refine RgL.runk 1 [0, 1, 7] (vs := []) (evs := []) (L' := [(0, .int .i64 a0), (1, .slice Aa1 a1.length ca1), (7, .int .i64 a0)]) (by kernel_rfl) (by kernel_rfl) trivial ?_
  obtain ⟨y2, hy2, heq⟩ := bind_some heq
  refine RgL.call (d := some 8) (g := 20) (args := #[.int .i64 a0, .int .i64 1, .int .i64 100000]) (by kernel_rfl) (smithyardref10_within_c hH  hy2) ?_
  rintro _ w ⟨hx4, rfl⟩
  replace hH := hH.ext hx4
  replace hE := hE.then hx4
  try replace hE0 := hE0.then hx4
  refine RgL.runk 3 [0, 1, 9] (vs := []) (evs := []) (L' := [(0, .int .i64 a0), (1, .slice Aa1 a1.length ca1), (9, .bool (!y2))]) (by kernel_rfl) (by kernel_rfl) trivial ?_
  refine RgL.done (by kernel_rfl) ?_
  rcases bool_cases (!y2) with hb5 | hb5
  · replace heq := bif_true hb5 heq
    refine RunL.condT (c := !y2) (by kernel_rfl) hb5 ?_
    refine RunL.adm 1 (es' := [.c [1, 0, 1, 0, 0], .c [1, 0, 1, 0, 1], .c [1, 1]]) (by kernel_rfl) ?_
    refine RunL.reg (by kernel_rfl) ?_
    refine RgL.runk 1 [4] (vs := []) (evs := []) (L' := [(4, .int .i64 1)]) (by kernel_rfl) (by kernel_rfl) trivial ?_
    refine RgL.done (by kernel_rfl) ?_
    obtain rfl := Option.some.inj heq
    exact RunL.done (by kernel_rfl) Try.func21 (v := .int .i64 1) (by kernel_rfl) ⟨hE, rfl⟩
  · replace heq := bif_false hb5 heq
    refine RunL.condF (c := !y2) (by kernel_rfl) hb5 ?_
    refine RunL.adm 3 (es' := [.c [1, 1, 0, 0], .c [1, 1, 0, 1], .c [1, 1, 1]]) (by kernel_rfl) ?_
    refine RunL.reg (by kernel_rfl) ?_
    refine RgL.runk 3 [0, 1, 12] (vs := []) (evs := []) (L' := [(0, .int .i64 a0), (1, .slice Aa1 a1.length ca1), (12, .bool (decide (3000 < (a1.length : Int))))]) (by kernel_rfl) (by kernel_rfl) trivial ?_
    refine RgL.done (by kernel_rfl) ?_
    rcases bool_cases (decide (3000 < (a1.length : Int))) with hb8 | hb8
    · replace heq := bif_true hb8 heq
      refine RunL.condT (c := decide (3000 < (a1.length : Int))) (by kernel_rfl) hb8 ?_
      refine RunL.adm 1 (es' := [.c [1, 1, 0, 1, 0, 0], .c [1, 1, 0, 1, 0, 1], .c [1, 1, 1]]) (by kernel_rfl) ?_
      refine RunL.reg (by kernel_rfl) ?_
      refine RgL.runk 1 [4] (vs := []) (evs := []) (L' := [(4, .int .i64 2)]) (by kernel_rfl) (by kernel_rfl) trivial ?_
      refine RgL.done (by kernel_rfl) ?_
      obtain rfl := Option.some.inj heq
      exact RunL.done (by kernel_rfl) Try.func21 (v := .int .i64 2) (by kernel_rfl) ⟨hE, rfl⟩
    · replace heq := bif_false hb8 heq
      refine RunL.condF (c := decide (3000 < (a1.length : Int))) (by kernel_rfl) hb8 ?_
      refine RunL.adm 3 (es' := [.c [1, 1, 1, 0, 0], .c [1, 1, 1, 0, 1], .c [1, 1, 1, 1]]) (by kernel_rfl) ?_
      refine RunL.reg (by kernel_rfl) ?_
      refine RgL.runk 3 [0, 13, 14, 15] (vs := []) (evs := []) (L' := [(0, .int .i64 a0), (13, .slice Aa1 a1.length ca1), (14, .int .i64 (a1.length : Int)), (15, .int .i64 0)]) (by kernel_rfl) (by kernel_rfl) trivial ?_
      refine RgL.done (by kernel_rfl) ?_
      refine RunL.adm 2 (es' := [.c [1, 1, 1, 0, 1, 0, 0], .l [1, 1, 1, 0, 1, 0, 0], .b 0, .c [1, 1, 1, 1]]) (by kernel_rfl) ?_
      refine RunL.keep [0, 13, 14, 15] (L' := [(0, .int .i64 a0), (13, .slice Aa1 a1.length ca1), (14, .int .i64 (a1.length : Int)), (15, .int .i64 0)]) (by kernel_rfl) ?_
      exact (smithyardref10_askProbes.l13_c smithyardref10_askProbes.e11 (smithyardref10_askProbes.e11_c)) (((a1.length : Int) - 0).toNat + 1) _ _ _ _ _ _ _ hH hE hra1 hca1 heq
noncomputable def C22 : Ctx := { P := Try.prog, f := 22, N := 22, c := bodyOf Try.f22 }
def S22 (w0 : World) (r : Int) (v : Value) (w : World) : Prop := Ext w0 w ∧ v = .int .i64 r
theorem smithyardref10_greatest.e3_c {w0 : World} {r : Int} : ∀ (H : Hp) (w : World) (v_n0 : Int), Sub H w → Ext w0 w → smithyardref10_greatest.e3 v_n0 = some r → RunL C22 (Ret (S22 w0 r)) [.c [1, 1, 0], .c [1, 1, 1]] [(0, .int .i64 v_n0)] w := by
  intro H w v_n0 hH hE  heq
  unfold smithyardref10_greatest.e3 at heq
  refine RunL.reg (by kernel_rfl) ?_
  refine RgL.runk 2 [4] (vs := []) (evs := []) (L' := [(4, .int .i64 v_n0)]) (by kernel_rfl) (by kernel_rfl) trivial ?_
  refine RgL.done (by kernel_rfl) ?_
  obtain rfl := Option.some.inj heq
  exact RunL.done (by kernel_rfl) Try.func22 (v := .int .i64 v_n0) (by kernel_rfl) ⟨hE, rfl⟩
theorem smithyardref10_greatest.j14_c {w0 : World} {r : Int} (backl5 : (List Probe) → Int → Int → Option Int)
    (hbackl5 : ∀ (H : Hp) (w : World) (a1 : List Probe) (Aa1 : Option Addr) (ca1 : Nat) (v_n0 : Int) (v9 : Int), Sub H w → Ext w0 w → Kd.Row kProbe H Aa1 a1 → a1.length ≤ ca1 → backl5 a1 v_n0 v9 = some r → RunL C22 (Ret (S22 w0 r)) [.c [1, 0, 1, 0, 0], .l [1, 0, 1, 0, 0], .b 0, .c [1, 1]] [(0, .int .i64 v_n0), (7, .slice Aa1 a1.length ca1), (8, .int .i64 (a1.length : Int)), (9, .int .i64 v9)] w) : ∀ (H : Hp) (w : World) (a1 : List Probe) (ad9 : Addr) (ca1 : Nat) (v9 : Int) (v_n0 : Int), Sub H w → Ext w0 w → Kd.Row kProbe H (some ad9) a1 → a1.length ≤ ca1 → smithyardref10_greatest.j14 backl5 a1 v9 v_n0 = some r → RunL C22 (Ret (S22 w0 r)) [.c [1, 0, 1, 0, 0, 1, 1, 1], .l [1, 0, 1, 0, 0], .b 0, .c [1, 1]] [(0, .int .i64 v_n0), (7, .slice (some ad9) a1.length ca1), (8, .int .i64 (a1.length : Int)), (9, .int .i64 v9)] w := by
  intro H w a1 ad9 ca1 v9 v_n0 hH hE hra1 hca1 heq
  unfold smithyardref10_greatest.j14 at heq
  refine RunL.reg (by kernel_rfl) ?_
  refine RgL.runk 2 [0, 7, 8, 9] (vs := []) (evs := []) (L' := [(0, .int .i64 v_n0), (7, .slice (some ad9) a1.length ca1), (8, .int .i64 (a1.length : Int)), (9, .int .i64 (w64 (v9 + 1)))]) (by kernel_rfl) (by kernel_rfl) trivial ?_
  refine RgL.done (by kernel_rfl) ?_
  refine RunL.adm 1 (es' := [.c [1, 0, 1, 0, 0], .l [1, 0, 1, 0, 0], .b 0, .c [1, 1]]) (by kernel_rfl) ?_
  refine RunL.keep [0, 7, 8, 9] (L' := [(0, .int .i64 v_n0), (7, .slice (some ad9) a1.length ca1), (8, .int .i64 (a1.length : Int)), (9, .int .i64 (w64 (v9 + 1)))]) (by kernel_rfl) ?_
  exact hbackl5 _ _ _ _ _ _ _ hH hE hra1 hca1 heq
theorem smithyardref10_greatest.l5_c {w0 : World} {r : Int} (e3 : Int → Option Int)
    (he3 : ∀ (H : Hp) (w : World) (v_n0 : Int), Sub H w → Ext w0 w → e3 v_n0 = some r → RunL C22 (Ret (S22 w0 r)) [.c [1, 1, 0], .c [1, 1, 1]] [(0, .int .i64 v_n0)] w) : ∀ (k : Nat), ∀ (H : Hp) (w : World) (a1 : List Probe) (Aa1 : Option Addr) (ca1 : Nat) (v_n0 : Int) (v9 : Int), Sub H w → Ext w0 w → Kd.Row kProbe H Aa1 a1 → a1.length ≤ ca1 → smithyardref10_greatest.l5 e3 k a1 v_n0 v9 = some r → RunL C22 (Ret (S22 w0 r)) [.c [1, 0, 1, 0, 0], .l [1, 0, 1, 0, 0], .b 0, .c [1, 1]] [(0, .int .i64 v_n0), (7, .slice Aa1 a1.length ca1), (8, .int .i64 (a1.length : Int)), (9, .int .i64 v9)] w := by
  intro k
  induction k with
  | zero => intro H w a1 Aa1 ca1 v_n0 v9 hH hE hra1 hca1 heq; exact nomatch (show (none : Option Int) = some r from heq)
  | succ k ih =>
    intro H w a1 Aa1 ca1 v_n0 v9 hH hE hra1 hca1 heq
    rw [smithyardref10_greatest.l5] at heq
    refine RunL.adm 1 (es' := [.c [1, 0, 1, 0, 0, 0], .c [1, 0, 1, 0, 0, 1], .l [1, 0, 1, 0, 0], .b 0, .c [1, 1]]) (by kernel_rfl) ?_
    refine RunL.reg (by kernel_rfl) ?_
    refine RgL.runk 1 [0, 7, 8, 9, 10] (vs := []) (evs := []) (L' := [(0, .int .i64 v_n0), (7, .slice Aa1 a1.length ca1), (8, .int .i64 (a1.length : Int)), (9, .int .i64 v9), (10, .bool (decide (v9 < (a1.length : Int))))]) (by kernel_rfl) (by kernel_rfl) trivial ?_
    refine RgL.done (by kernel_rfl) ?_
    refine RunL.adm 1 (es' := [.c [1, 0, 1, 0, 0, 1, 0], .c [1, 0, 1, 0, 0, 1, 1], .l [1, 0, 1, 0, 0], .b 0, .c [1, 1]]) (by kernel_rfl) ?_
    rcases bool_cases (decide (v9 < (a1.length : Int))) with hb7 | hb7
    · replace heq := bif_true hb7 heq
      refine RunL.condT (c := decide (v9 < (a1.length : Int))) (by kernel_rfl) hb7 ?_
      refine RunL.adm 4 (es' := [.c [1, 0, 1, 0, 0, 1, 1, 0, 0, 0], .c [1, 0, 1, 0, 0, 1, 1, 0, 0, 1], .b 1, .c [1, 0, 1, 0, 0, 1, 1, 1], .l [1, 0, 1, 0, 0], .b 0, .c [1, 1]]) (by kernel_rfl) ?_
      refine RunL.reg (by kernel_rfl) ?_
      obtain ⟨x8, hx8, heq⟩ := bind_some heq
      obtain ⟨ad9, rfl⟩ := hra1.addr hx8
      obtain ⟨csx8, hKx8, hcx8⟩ := hra1.get hx8
      obtain ⟨rfl⟩ := kProbe_open hKx8
      refine RgL.runk 2 [0, 7, 8, 9, 12] (vs := [.int .i64 x8.Place, .bool x8.Pass]) (evs := [.need (0 ≤ v9 ∧ v9 < (a1.length : Int)), .load ((ad9.add (v9.toNat * 2)).add 0) (.int .i64 x8.Place), .load ((ad9.add (v9.toNat * 2)).add 1) (.bool x8.Pass)]) (L' := [(0, .int .i64 v_n0), (7, .slice (some ad9) a1.length ca1), (8, .int .i64 (a1.length : Int)), (9, .int .i64 v9), (12, .agg #[.int .i64 x8.Place, .bool x8.Pass])]) (by kernel_rfl) (by kernel_rfl) ⟨⟨(at?_some hx8).1, (at?_some hx8).2.1⟩, hcx8 _ hH 0 _ rfl, hcx8 _ hH 1 _ rfl⟩ ?_
      refine RgL.newBox (d := 6) (v := .agg #[.int .i64 x8.Place, .bool x8.Pass]) (cs0 := #[.int .i64 0, .bool false]) (cs' := #[.int .i64 x8.Place, .bool x8.Pass]) (e := 37) (fun g => by kernel_rfl) (fun g => by kernel_rfl) (by kernel_rfl) (by kernel_rfl) ?_
      intro g10 w hgg10 hx12 hsg10 hbg10
      obtain ⟨H, hl, hH, hig10, hk⟩ := addH hH hx12 hgg10 hbg10
      replace hE := hE.then hx12
      try replace hE0 := hE0.then hx12
      replace hra1 := hra1.mono hl
      refine RgL.done (by kernel_rfl) ?_
      refine RunL.adm 1 (es' := [.c [1, 0, 1, 0, 0, 1, 1, 0, 0, 1, 0], .c [1, 0, 1, 0, 0, 1, 1, 0, 0, 1, 1], .b 1, .c [1, 0, 1, 0, 0, 1, 1, 1], .l [1, 0, 1, 0, 0], .b 0, .c [1, 1]]) (by kernel_rfl) ?_
      refine RunL.reg (by kernel_rfl) ?_
      refine RgL.runk 3 [0, 6, 7, 8, 9, 15] (vs := [.bool x8.Pass]) (evs := [.load ⟨g10, 1, none⟩ (.bool x8.Pass)]) (L' := [(0, .int .i64 v_n0), (6, .pointer (some ⟨g10, 0, none⟩)), (7, .slice (some ad9) a1.length ca1), (8, .int .i64 (a1.length : Int)), (9, .int .i64 v9), (15, .bool (!x8.Pass))]) (by kernel_rfl) (by kernel_rfl) (cellH hig10 hH rfl) ?_
      refine RgL.done (by kernel_rfl) ?_
      rcases bool_cases (!x8.Pass) with hb16 | hb16
      · replace heq := bif_true hb16 heq
        refine RunL.condT (c := !x8.Pass) (by kernel_rfl) hb16 ?_
        refine RunL.reg (by kernel_rfl) ?_
        refine RgL.runk 5 [0, 7, 8, 9] (vs := [.int .i64 x8.Place]) (evs := [.load ⟨g10, 0, none⟩ (.int .i64 x8.Place)]) (L' := [(0, .int .i64 (min2 v_n0 x8.Place)), (7, .slice (some ad9) a1.length ca1), (8, .int .i64 (a1.length : Int)), (9, .int .i64 v9)]) (by kernel_rfl) (by kernel_rfl) (cellH hig10 hH rfl) ?_
        refine RgL.done (by kernel_rfl) ?_
        refine RunL.adm 1 (es' := [.c [1, 0, 1, 0, 0, 1, 1, 1], .l [1, 0, 1, 0, 0], .b 0, .c [1, 1]]) (by kernel_rfl) ?_
        refine RunL.keep [0, 7, 8, 9] (L' := [(0, .int .i64 (min2 v_n0 x8.Place)), (7, .slice (some ad9) a1.length ca1), (8, .int .i64 (a1.length : Int)), (9, .int .i64 v9)]) (by kernel_rfl) ?_
        exact (smithyardref10_greatest.j14_c (smithyardref10_greatest.l5 e3 k) ih) _ _ _ _ _ _ _ hH hE hra1 hca1 heq
      · replace heq := bif_false hb16 heq
        refine RunL.condF (c := !x8.Pass) (by kernel_rfl) hb16 ?_
        refine RunL.adm 2 (es' := [.c [1, 0, 1, 0, 0, 1, 1, 1], .l [1, 0, 1, 0, 0], .b 0, .c [1, 1]]) (by kernel_rfl) ?_
        refine RunL.keep [0, 7, 8, 9] (L' := [(0, .int .i64 v_n0), (7, .slice (some ad9) a1.length ca1), (8, .int .i64 (a1.length : Int)), (9, .int .i64 v9)]) (by kernel_rfl) ?_
        exact (smithyardref10_greatest.j14_c (smithyardref10_greatest.l5 e3 k) ih) _ _ _ _ _ _ _ hH hE hra1 hca1 heq
    · replace heq := bif_false hb7 heq
      refine RunL.condF (c := decide (v9 < (a1.length : Int))) (by kernel_rfl) hb7 ?_
      refine RunL.adm 2 (es' := [.c [1, 1, 0], .c [1, 1, 1]]) (by kernel_rfl) ?_
      refine RunL.keep [0] (L' := [(0, .int .i64 v_n0)]) (by kernel_rfl) ?_
      exact he3 _ _ _ hH hE  heq
theorem smithyardref10_greatest_c {w0 : World} {H : Hp} {a0 : Int} {a1 : List Probe} {Aa1 : Option Addr} {ca1 : Nat} {r : Int} (hH : Sub H w0) (hra1 : Kd.Row kProbe H Aa1 a1) (hca1 : a1.length ≤ ca1) (heq : smithyardref10_greatest.f a0 a1 = some r) : Calls Try.prog 22 #[.int .i64 a0, .slice Aa1 a1.length ca1] w0 (Ret (S22 w0 r)) := by
  refine calls_of_runL (F := C22) Try.func22 (by kernel_rfl) Try.ntmps22 (args := [.int .i64 a0, .slice Aa1 a1.length ca1]) (by kernel_rfl) ?_
  unfold smithyardref10_greatest.f at heq
  suffices h : ∀ w, Ext w0 w → Sub H w → RunL C22 (Ret (S22 w0 r)) [.c []] (argL 0 [.int .i64 a0, .slice Aa1 a1.length ca1]) w from h w0 (Ext.refl w0) hH
  clear hH
  intro w hE hH
  refine RunL.adm 1 (es' := [.c [0], .c [1]]) (by kernel_rfl) ?_
  refine RunL.reg (by kernel_rfl) ?_
  refine RgL.runk 1 [0, 1] (vs := []) (evs := []) (L' := [(0, .int .i64 a0), (1, .slice Aa1 a1.length ca1)]) (by kernel_rfl) (by kernel_rfl) trivial ?_
  refine RgL.done (by kernel_rfl) ?_
  refine RunL.adm 2 (es' := [.c [1, 0, 0], .c [1, 0, 1], .c [1, 1]]) (by kernel_rfl) ?_
  refine RunL.reg (by kernel_rfl) ?_
  refine RgL.runk 3 [0, 7, 8, 9] (vs := []) (evs := []) (L' := [(0, .int .i64 a0), (7, .slice Aa1 a1.length ca1), (8, .int .i64 (a1.length : Int)), (9, .int .i64 0)]) (by kernel_rfl) (by kernel_rfl) trivial ?_
  refine RgL.done (by kernel_rfl) ?_
  refine RunL.adm 2 (es' := [.c [1, 0, 1, 0, 0], .l [1, 0, 1, 0, 0], .b 0, .c [1, 1]]) (by kernel_rfl) ?_
  refine RunL.keep [0, 7, 8, 9] (L' := [(0, .int .i64 a0), (7, .slice Aa1 a1.length ca1), (8, .int .i64 (a1.length : Int)), (9, .int .i64 0)]) (by kernel_rfl) ?_
  exact (smithyardref10_greatest.l5_c smithyardref10_greatest.e3 (smithyardref10_greatest.e3_c)) (((a1.length : Int) - 0).toNat + 1) _ _ _ _ _ _ _ hH hE hra1 hca1 heq
noncomputable def C16 : Ctx := { P := Try.prog, f := 16, N := 17, c := bodyOf Try.f16 }
def S16 (w0 : World) (r : Int × Int × Int) (v : Value) (w : World) : Prop := Ext w0 w ∧ v = .tuple #[.int .i64 r.1, .int .i64 r.2.1, .int .i64 r.2.2]
theorem smithyardref10_Suspects_c {w0 : World} {H : Hp} {a0 : Int} {a1 : List Probe} {Aa1 : Option Addr} {ca1 : Nat} {r : Int × Int × Int} (hH : Sub H w0) (hra1 : Kd.Row kProbe H Aa1 a1) (hca1 : a1.length ≤ ca1) (heq : smithyardref10_Suspects.f a0 a1 = some r) : Calls Try.prog 16 #[.int .i64 a0, .slice Aa1 a1.length ca1] w0 (Ret (S16 w0 r)) := by
  refine calls_of_runL (F := C16) Try.func16 (by kernel_rfl) Try.ntmps16 (args := [.int .i64 a0, .slice Aa1 a1.length ca1]) (by kernel_rfl) ?_
  unfold smithyardref10_Suspects.f at heq
  suffices h : ∀ w, Ext w0 w → Sub H w → RunL C16 (Ret (S16 w0 r)) [.c []] (argL 0 [.int .i64 a0, .slice Aa1 a1.length ca1]) w from h w0 (Ext.refl w0) hH
  clear hH
  intro w hE hH
  refine RunL.adm 1 (es' := [.c [0], .c [1]]) (by kernel_rfl) ?_
  refine RunL.reg (by kernel_rfl) ?_
  refine RgL.runk 3 [0, 1] (vs := []) (evs := []) (L' := [(0, .int .i64 a0), (1, .slice Aa1 a1.length ca1)]) (by kernel_rfl) (by kernel_rfl) trivial ?_
  refine RgL.done (by kernel_rfl) ?_
  refine RunL.adm 2 (es' := [.c [1, 0, 0], .c [1, 0, 1], .c [1, 1]]) (by kernel_rfl) ?_
  refine RunL.reg (by kernel_rfl) ?_
  refine RgL.runk 2 [0, 1, 8, 9] (vs := []) (evs := []) (L' := [(0, .int .i64 a0), (1, .slice Aa1 a1.length ca1), (8, .int .i64 a0), (9, .slice Aa1 a1.length ca1)]) (by kernel_rfl) (by kernel_rfl) trivial ?_
  obtain ⟨y2, hy2, heq⟩ := bind_some heq
  refine RgL.call (d := some 10) (g := 21) (args := #[.int .i64 a0, .slice Aa1 a1.length ca1]) (by kernel_rfl) (smithyardref10_askProbes_c hH hra1 hca1 hy2) ?_
  rintro _ w ⟨hx4, rfl⟩
  replace hH := hH.ext hx4
  replace hE := hE.then hx4
  try replace hE0 := hE0.then hx4
  refine RgL.runk 4 [0, 1, 7] (vs := []) (evs := []) (L' := [(0, .int .i64 a0), (1, .slice Aa1 a1.length ca1), (7, .int .i64 y2)]) (by kernel_rfl) (by kernel_rfl) trivial ?_
  refine RgL.done (by kernel_rfl) ?_
  refine RunL.adm 1 (es' := [.c [1, 0, 1, 0], .c [1, 0, 1, 1], .c [1, 1]]) (by kernel_rfl) ?_
  refine RunL.reg (by kernel_rfl) ?_
  refine RgL.runk 2 [0, 1, 7, 12] (vs := []) (evs := []) (L' := [(0, .int .i64 a0), (1, .slice Aa1 a1.length ca1), (7, .int .i64 y2), (12, .bool (y2 != 0))]) (by kernel_rfl) (by kernel_rfl) trivial ?_
  refine RgL.done (by kernel_rfl) ?_
  rcases bool_cases (y2 != 0) with hb6 | hb6
  · replace heq := bif_true hb6 heq
    refine RunL.condT (c := y2 != 0) (by kernel_rfl) hb6 ?_
    refine RunL.adm 1 (es' := [.c [1, 0, 1, 1, 0, 0], .c [1, 0, 1, 1, 0, 1], .c [1, 1]]) (by kernel_rfl) ?_
    refine RunL.reg (by kernel_rfl) ?_
    refine RgL.runk 4 [4, 5, 6] (vs := []) (evs := []) (L' := [(4, .int .i64 0), (5, .int .i64 0), (6, .int .i64 y2)]) (by kernel_rfl) (by kernel_rfl) trivial ?_
    refine RgL.done (by kernel_rfl) ?_
    obtain rfl := Option.some.inj heq
    exact RunL.done (by kernel_rfl) Try.func16 (v := .tuple #[.int .i64 0, .int .i64 0, .int .i64 y2]) (by kernel_rfl) ⟨hE, rfl⟩
  · replace heq := bif_false hb6 heq
    refine RunL.condF (c := y2 != 0) (by kernel_rfl) hb6 ?_
    refine RunL.adm 2 (es' := [.c [1, 1, 0], .c [1, 1, 1]]) (by kernel_rfl) ?_
    refine RunL.reg (by kernel_rfl) ?_
    refine RgL.runk 2 [14, 15] (vs := []) (evs := []) (L' := [(14, .int .i64 a0), (15, .slice Aa1 a1.length ca1)]) (by kernel_rfl) (by kernel_rfl) trivial ?_
    obtain ⟨y8, hy8, heq⟩ := bind_some heq
    refine RgL.call (d := some 16) (g := 22) (args := #[.int .i64 a0, .slice Aa1 a1.length ca1]) (by kernel_rfl) (smithyardref10_greatest_c hH hra1 hca1 hy8) ?_
    rintro _ w ⟨hx10, rfl⟩
    replace hH := hH.ext hx10
    replace hE := hE.then hx10
    try replace hE0 := hE0.then hx10
    refine RgL.runk 6 [4, 5, 6] (vs := []) (evs := []) (L' := [(4, .int .i64 1), (5, .int .i64 y8), (6, .int .i64 0)]) (by kernel_rfl) (by kernel_rfl) trivial ?_
    refine RgL.done (by kernel_rfl) ?_
    obtain rfl := Option.some.inj heq
    exact RunL.done (by kernel_rfl) Try.func16 (v := .tuple #[.int .i64 1, .int .i64 y8, .int .i64 0]) (by kernel_rfl) ⟨hE, rfl⟩
noncomputable def C17 : Ctx := { P := Try.prog, f := 17, N := 58, c := bodyOf Try.f17 }
def S17 (w0 : World) (r : Int × Bool × Int) (v : Value) (w : World) : Prop := Ext w0 w ∧ v = .tuple #[.int .i64 r.1, .bool r.2.1, .int .i64 r.2.2]
theorem smithyardref10_NextProbe.e16_c {w0 : World} {r : Int × Bool × Int} : ∀ (H : Hp) (w : World) , Sub H w → Ext w0 w → smithyardref10_NextProbe.e16 = some r → RunL C17 (Ret (S17 w0 r)) [.c [1, 1, 1, 1, 1, 0], .c [1, 1, 1, 1, 1, 1]] [] w := by
  intro H w  hH hE  heq
  unfold smithyardref10_NextProbe.e16 at heq
  refine RunL.reg (by kernel_rfl) ?_
  refine RgL.runk 3 [6, 7, 8] (vs := []) (evs := []) (L' := [(6, .int .i64 0), (7, .bool false), (8, .int .i64 0)]) (by kernel_rfl) (by kernel_rfl) trivial ?_
  refine RgL.done (by kernel_rfl) ?_
  obtain rfl := Option.some.inj heq
  exact RunL.done (by kernel_rfl) Try.func17 (v := .tuple #[.int .i64 0, .bool false, .int .i64 0]) (by kernel_rfl) ⟨hE, rfl⟩
theorem smithyardref10_NextProbe.e24_c {w0 : World} {r : Int × Bool × Int} (backl18 : (List Probe) → Int → Int → Int → Option (Int × Bool × Int))
    (hbackl18 : ∀ (H : Hp) (w : World) (a1 : List Probe) (Aa1 : Option Addr) (ca1 : Nat) (a2 : Int) (y13 : Int) (v_lo10 : Int), Sub H w → Ext w0 w → Kd.Row kProbe H Aa1 a1 → a1.length ≤ ca1 → backl18 a1 a2 y13 v_lo10 = some r → RunL C17 (Ret (S17 w0 r)) [.c [1, 1, 1, 1, 0, 0, 0], .l [1, 1, 1, 1, 0, 0, 0], .b 0, .c [1, 1, 1, 1, 1]] [(1, .slice Aa1 a1.length ca1), (2, .int .i64 a2), (10, .int .i64 v_lo10), (11, .int .i64 y13)] w) : ∀ (H : Hp) (w : World) (a1 : List Probe) (Aa1 : Option Addr) (ca1 : Nat) (a2 : Int) (y13 : Int) (v_mid12 : Int) (v_good13 : Int), Sub H w → Ext w0 w → Kd.Row kProbe H Aa1 a1 → a1.length ≤ ca1 → smithyardref10_NextProbe.e24 backl18 a1 a2 y13 v_mid12 v_good13 = some r → RunL C17 (Ret (S17 w0 r)) [.c [1, 1, 1, 1, 0, 0, 0, 1, 0, 1, 1, 1, 0, 0], .c [1, 1, 1, 1, 0, 0, 0, 1, 0, 1, 1, 1, 0, 1], .c [1, 1, 1, 1, 0, 0, 0, 1, 0, 1, 1, 1, 1], .b 1, .l [1, 1, 1, 1, 0, 0, 0], .b 0, .c [1, 1, 1, 1, 1]] [(1, .slice Aa1 a1.length ca1), (2, .int .i64 a2), (11, .int .i64 y13), (12, .int .i64 v_mid12), (13, .int .i64 v_good13)] w := by
  intro H w a1 Aa1 ca1 a2 y13 v_mid12 v_good13 hH hE hra1 hca1 heq
  unfold smithyardref10_NextProbe.e24 at heq
  refine RunL.reg (by kernel_rfl) ?_
  refine RgL.runk 3 [1, 2, 11, 12, 55] (vs := []) (evs := []) (L' := [(1, .slice Aa1 a1.length ca1), (2, .int .i64 a2), (11, .int .i64 y13), (12, .int .i64 v_mid12), (55, .bool (decide (v_good13 < a2)))]) (by kernel_rfl) (by kernel_rfl) trivial ?_
  refine RgL.done (by kernel_rfl) ?_
  rcases bool_cases (decide (v_good13 < a2)) with hb26 | hb26
  · replace heq := bif_true hb26 heq
    refine RunL.condT (c := decide (v_good13 < a2)) (by kernel_rfl) hb26 ?_
    refine RunL.adm 1 (es' := [.c [1, 1, 1, 1, 0, 0, 0, 1, 0, 1, 1, 1, 0, 1, 0, 0], .c [1, 1, 1, 1, 0, 0, 0, 1, 0, 1, 1, 1, 0, 1, 0, 1], .c [1, 1, 1, 1, 0, 0, 0, 1, 0, 1, 1, 1, 1], .b 1, .l [1, 1, 1, 1, 0, 0, 0], .b 0, .c [1, 1, 1, 1, 1]]) (by kernel_rfl) ?_
    refine RunL.reg (by kernel_rfl) ?_
    refine RgL.runk 4 [6, 7, 8] (vs := []) (evs := []) (L' := [(6, .int .i64 v_mid12), (7, .bool true), (8, .int .i64 0)]) (by kernel_rfl) (by kernel_rfl) trivial ?_
    refine RgL.done (by kernel_rfl) ?_
    obtain rfl := Option.some.inj heq
    exact RunL.done (by kernel_rfl) Try.func17 (v := .tuple #[.int .i64 v_mid12, .bool true, .int .i64 0]) (by kernel_rfl) ⟨hE, rfl⟩
  · replace heq := bif_false hb26 heq
    refine RunL.condF (c := decide (v_good13 < a2)) (by kernel_rfl) hb26 ?_
    refine RunL.adm 1 (es' := [.c [1, 1, 1, 1, 0, 0, 0, 1, 0, 1, 1, 1, 1], .b 1, .l [1, 1, 1, 1, 0, 0, 0], .b 0, .c [1, 1, 1, 1, 1]]) (by kernel_rfl) ?_
    refine RunL.reg (by kernel_rfl) ?_
    refine RgL.runk 2 [1, 2, 10, 11] (vs := []) (evs := []) (L' := [(1, .slice Aa1 a1.length ca1), (2, .int .i64 a2), (10, .int .i64 v_mid12), (11, .int .i64 y13)]) (by kernel_rfl) (by kernel_rfl) trivial ?_
    refine RgL.done (by kernel_rfl) ?_
    refine RunL.adm 2 (es' := [.c [1, 1, 1, 1, 0, 0, 0], .l [1, 1, 1, 1, 0, 0, 0], .b 0, .c [1, 1, 1, 1, 1]]) (by kernel_rfl) ?_
    refine RunL.keep [1, 2, 10, 11] (L' := [(1, .slice Aa1 a1.length ca1), (2, .int .i64 a2), (10, .int .i64 v_mid12), (11, .int .i64 y13)]) (by kernel_rfl) ?_
    exact hbackl18 _ _ _ _ _ _ _ _ hH hE hra1 hca1 heq
theorem smithyardref10_NextProbe.j41_c {w0 : World} {r : Int × Bool × Int} (backl29 : (List Probe) → Int → Int → Int → Int → (List Probe) → Int → Int → Option (Int × Bool × Int))
    (hbackl29 : ∀ (H : Hp) (w : World) (a1 : List Probe) (Aa1 : Option Addr) (ca1 : Nat) (a2 : Int) (y13 : Int) (v_mid12 : Int) (v_good13 : Int) (v36 : List Probe) (Av36 : Option Addr) (cv36 : Nat) (v37 : Int) (v38 : Int), Sub H w → Ext w0 w → Kd.Row kProbe H Aa1 a1 → a1.length ≤ ca1 → Kd.Row kProbe H Av36 v36 → v36.length ≤ cv36 → backl29 a1 a2 y13 v_mid12 v_good13 v36 v37 v38 = some r → RunL C17 (Ret (S17 w0 r)) [.c [1, 1, 1, 1, 0, 0, 0, 1, 0, 1, 1, 0, 1, 0, 0], .l [1, 1, 1, 1, 0, 0, 0, 1, 0, 1, 1, 0, 1, 0, 0], .b 2, .c [1, 1, 1, 1, 0, 0, 0, 1, 0, 1, 1, 1], .b 1, .l [1, 1, 1, 1, 0, 0, 0], .b 0, .c [1, 1, 1, 1, 1]] [(1, .slice Aa1 a1.length ca1), (2, .int .i64 a2), (11, .int .i64 y13), (12, .int .i64 v_mid12), (13, .int .i64 v_good13), (36, .slice Av36 v36.length cv36), (37, .int .i64 v37), (38, .int .i64 v38)] w) : ∀ (H : Hp) (w : World) (a1 : List Probe) (Aa1 : Option Addr) (ca1 : Nat) (a2 : Int) (y13 : Int) (v_mid12 : Int) (v36 : List Probe) (ad33 : Addr) (cv36 : Nat) (v37 : Int) (v38 : Int) (v_good13 : Int), Sub H w → Ext w0 w → Kd.Row kProbe H Aa1 a1 → a1.length ≤ ca1 → Kd.Row kProbe H (some ad33) v36 → v36.length ≤ cv36 → smithyardref10_NextProbe.j41 backl29 a1 a2 y13 v_mid12 v36 v37 v38 v_good13 = some r → RunL C17 (Ret (S17 w0 r)) [.c [1, 1, 1, 1, 0, 0, 0, 1, 0, 1, 1, 0, 1, 0, 0, 1, 1, 1], .l [1, 1, 1, 1, 0, 0, 0, 1, 0, 1, 1, 0, 1, 0, 0], .b 2, .c [1, 1, 1, 1, 0, 0, 0, 1, 0, 1, 1, 1], .b 1, .l [1, 1, 1, 1, 0, 0, 0], .b 0, .c [1, 1, 1, 1, 1]] [(1, .slice Aa1 a1.length ca1), (2, .int .i64 a2), (11, .int .i64 y13), (12, .int .i64 v_mid12), (13, .int .i64 v_good13), (36, .slice (some ad33) v36.length cv36), (37, .int .i64 v37), (38, .int .i64 v38)] w := by
  intro H w a1 Aa1 ca1 a2 y13 v_mid12 v36 ad33 cv36 v37 v38 v_good13 hH hE hra1 hca1 hrv36 hcv36 heq
  unfold smithyardref10_NextProbe.j41 at heq
  refine RunL.reg (by kernel_rfl) ?_
  refine RgL.runk 2 [1, 2, 11, 12, 13, 36, 37, 38] (vs := []) (evs := []) (L' := [(1, .slice Aa1 a1.length ca1), (2, .int .i64 a2), (11, .int .i64 y13), (12, .int .i64 v_mid12), (13, .int .i64 v_good13), (36, .slice (some ad33) v36.length cv36), (37, .int .i64 v37), (38, .int .i64 (w64 (v38 + 1)))]) (by kernel_rfl) (by kernel_rfl) trivial ?_
  refine RgL.done (by kernel_rfl) ?_
  refine RunL.adm 1 (es' := [.c [1, 1, 1, 1, 0, 0, 0, 1, 0, 1, 1, 0, 1, 0, 0], .l [1, 1, 1, 1, 0, 0, 0, 1, 0, 1, 1, 0, 1, 0, 0], .b 2, .c [1, 1, 1, 1, 0, 0, 0, 1, 0, 1, 1, 1], .b 1, .l [1, 1, 1, 1, 0, 0, 0], .b 0, .c [1, 1, 1, 1, 1]]) (by kernel_rfl) ?_
  refine RunL.keep [1, 2, 11, 12, 13, 36, 37, 38] (L' := [(1, .slice Aa1 a1.length ca1), (2, .int .i64 a2), (11, .int .i64 y13), (12, .int .i64 v_mid12), (13, .int .i64 v_good13), (36, .slice (some ad33) v36.length cv36), (37, .int .i64 v37), (38, .int .i64 (w64 (v38 + 1)))]) (by kernel_rfl) ?_
  exact hbackl29 _ _ _ _ _ _ _ _ _ _ _ _ _ _ hH hE hra1 hca1 hrv36 hcv36 heq
theorem smithyardref10_NextProbe.l29_c {w0 : World} {r : Int × Bool × Int} (e24 : (List Probe) → Int → Int → Int → Int → Option (Int × Bool × Int))
    (he24 : ∀ (H : Hp) (w : World) (a1 : List Probe) (Aa1 : Option Addr) (ca1 : Nat) (a2 : Int) (y13 : Int) (v_mid12 : Int) (v_good13 : Int), Sub H w → Ext w0 w → Kd.Row kProbe H Aa1 a1 → a1.length ≤ ca1 → e24 a1 a2 y13 v_mid12 v_good13 = some r → RunL C17 (Ret (S17 w0 r)) [.c [1, 1, 1, 1, 0, 0, 0, 1, 0, 1, 1, 1, 0, 0], .c [1, 1, 1, 1, 0, 0, 0, 1, 0, 1, 1, 1, 0, 1], .c [1, 1, 1, 1, 0, 0, 0, 1, 0, 1, 1, 1, 1], .b 1, .l [1, 1, 1, 1, 0, 0, 0], .b 0, .c [1, 1, 1, 1, 1]] [(1, .slice Aa1 a1.length ca1), (2, .int .i64 a2), (11, .int .i64 y13), (12, .int .i64 v_mid12), (13, .int .i64 v_good13)] w) : ∀ (k : Nat), ∀ (H : Hp) (w : World) (a1 : List Probe) (Aa1 : Option Addr) (ca1 : Nat) (a2 : Int) (y13 : Int) (v_mid12 : Int) (v_good13 : Int) (v36 : List Probe) (Av36 : Option Addr) (cv36 : Nat) (v37 : Int) (v38 : Int), Sub H w → Ext w0 w → Kd.Row kProbe H Aa1 a1 → a1.length ≤ ca1 → Kd.Row kProbe H Av36 v36 → v36.length ≤ cv36 → smithyardref10_NextProbe.l29 e24 k a1 a2 y13 v_mid12 v_good13 v36 v37 v38 = some r → RunL C17 (Ret (S17 w0 r)) [.c [1, 1, 1, 1, 0, 0, 0, 1, 0, 1, 1, 0, 1, 0, 0], .l [1, 1, 1, 1, 0, 0, 0, 1, 0, 1, 1, 0, 1, 0, 0], .b 2, .c [1, 1, 1, 1, 0, 0, 0, 1, 0, 1, 1, 1], .b 1, .l [1, 1, 1, 1, 0, 0, 0], .b 0, .c [1, 1, 1, 1, 1]] [(1, .slice Aa1 a1.length ca1), (2, .int .i64 a2), (11, .int .i64 y13), (12, .int .i64 v_mid12), (13, .int .i64 v_good13), (36, .slice Av36 v36.length cv36), (37, .int .i64 v37), (38, .int .i64 v38)] w := by
  intro k
  induction k with
  | zero => intro H w a1 Aa1 ca1 a2 y13 v_mid12 v_good13 v36 Av36 cv36 v37 v38 hH hE hra1 hca1 hrv36 hcv36 heq; exact nomatch (show (none : Option (Int × Bool × Int)) = some r from heq)
  | succ k ih =>
    intro H w a1 Aa1 ca1 a2 y13 v_mid12 v_good13 v36 Av36 cv36 v37 v38 hH hE hra1 hca1 hrv36 hcv36 heq
    rw [smithyardref10_NextProbe.l29] at heq
    refine RunL.adm 1 (es' := [.c [1, 1, 1, 1, 0, 0, 0, 1, 0, 1, 1, 0, 1, 0, 0, 0], .c [1, 1, 1, 1, 0, 0, 0, 1, 0, 1, 1, 0, 1, 0, 0, 1], .l [1, 1, 1, 1, 0, 0, 0, 1, 0, 1, 1, 0, 1, 0, 0], .b 2, .c [1, 1, 1, 1, 0, 0, 0, 1, 0, 1, 1, 1], .b 1, .l [1, 1, 1, 1, 0, 0, 0], .b 0, .c [1, 1, 1, 1, 1]]) (by kernel_rfl) ?_
    refine RunL.reg (by kernel_rfl) ?_
    refine RgL.runk 1 [1, 2, 11, 12, 13, 36, 37, 38, 39] (vs := []) (evs := []) (L' := [(1, .slice Aa1 a1.length ca1), (2, .int .i64 a2), (11, .int .i64 y13), (12, .int .i64 v_mid12), (13, .int .i64 v_good13), (36, .slice Av36 v36.length cv36), (37, .int .i64 v37), (38, .int .i64 v38), (39, .bool (decide (v38 < v37)))]) (by kernel_rfl) (by kernel_rfl) trivial ?_
    refine RgL.done (by kernel_rfl) ?_
    refine RunL.adm 1 (es' := [.c [1, 1, 1, 1, 0, 0, 0, 1, 0, 1, 1, 0, 1, 0, 0, 1, 0], .c [1, 1, 1, 1, 0, 0, 0, 1, 0, 1, 1, 0, 1, 0, 0, 1, 1], .l [1, 1, 1, 1, 0, 0, 0, 1, 0, 1, 1, 0, 1, 0, 0], .b 2, .c [1, 1, 1, 1, 0, 0, 0, 1, 0, 1, 1, 1], .b 1, .l [1, 1, 1, 1, 0, 0, 0], .b 0, .c [1, 1, 1, 1, 1]]) (by kernel_rfl) ?_
    rcases bool_cases (decide (v38 < v37)) with hb31 | hb31
    · replace heq := bif_true hb31 heq
      refine RunL.condT (c := decide (v38 < v37)) (by kernel_rfl) hb31 ?_
      refine RunL.adm 4 (es' := [.c [1, 1, 1, 1, 0, 0, 0, 1, 0, 1, 1, 0, 1, 0, 0, 1, 1, 0, 0, 0], .c [1, 1, 1, 1, 0, 0, 0, 1, 0, 1, 1, 0, 1, 0, 0, 1, 1, 0, 0, 1], .b 3, .c [1, 1, 1, 1, 0, 0, 0, 1, 0, 1, 1, 0, 1, 0, 0, 1, 1, 1], .l [1, 1, 1, 1, 0, 0, 0, 1, 0, 1, 1, 0, 1, 0, 0], .b 2, .c [1, 1, 1, 1, 0, 0, 0, 1, 0, 1, 1, 1], .b 1, .l [1, 1, 1, 1, 0, 0, 0], .b 0, .c [1, 1, 1, 1, 1]]) (by kernel_rfl) ?_
      refine RunL.reg (by kernel_rfl) ?_
      obtain ⟨x32, hx32, heq⟩ := bind_some heq
      obtain ⟨ad33, rfl⟩ := hrv36.addr hx32
      obtain ⟨csx32, hKx32, hcx32⟩ := hrv36.get hx32
      obtain ⟨rfl⟩ := kProbe_open hKx32
      refine RgL.runk 2 [1, 2, 11, 12, 13, 36, 37, 38, 41] (vs := [.int .i64 x32.Place, .bool x32.Pass]) (evs := [.need (0 ≤ v38 ∧ v38 < (v36.length : Int)), .load ((ad33.add (v38.toNat * 2)).add 0) (.int .i64 x32.Place), .load ((ad33.add (v38.toNat * 2)).add 1) (.bool x32.Pass)]) (L' := [(1, .slice Aa1 a1.length ca1), (2, .int .i64 a2), (11, .int .i64 y13), (12, .int .i64 v_mid12), (13, .int .i64 v_good13), (36, .slice (some ad33) v36.length cv36), (37, .int .i64 v37), (38, .int .i64 v38), (41, .agg #[.int .i64 x32.Place, .bool x32.Pass])]) (by kernel_rfl) (by kernel_rfl) ⟨⟨(at?_some hx32).1, (at?_some hx32).2.1⟩, hcx32 _ hH 0 _ rfl, hcx32 _ hH 1 _ rfl⟩ ?_
      refine RgL.newBox (d := 15) (v := .agg #[.int .i64 x32.Place, .bool x32.Pass]) (cs0 := #[.int .i64 0, .bool false]) (cs' := #[.int .i64 x32.Place, .bool x32.Pass]) (e := 37) (fun g => by kernel_rfl) (fun g => by kernel_rfl) (by kernel_rfl) (by kernel_rfl) ?_
      intro g34 w hgg34 hx36 hsg34 hbg34
      obtain ⟨H, hl, hH, hig34, hk⟩ := addH hH hx36 hgg34 hbg34
      replace hE := hE.then hx36
      try replace hE0 := hE0.then hx36
      replace hra1 := hra1.mono hl
      replace hrv36 := hrv36.mono hl
      refine RgL.done (by kernel_rfl) ?_
      refine RunL.adm 1 (es' := [.c [1, 1, 1, 1, 0, 0, 0, 1, 0, 1, 1, 0, 1, 0, 0, 1, 1, 0, 0, 1, 0], .c [1, 1, 1, 1, 0, 0, 0, 1, 0, 1, 1, 0, 1, 0, 0, 1, 1, 0, 0, 1, 1], .b 3, .c [1, 1, 1, 1, 0, 0, 0, 1, 0, 1, 1, 0, 1, 0, 0, 1, 1, 1], .l [1, 1, 1, 1, 0, 0, 0, 1, 0, 1, 1, 0, 1, 0, 0], .b 2, .c [1, 1, 1, 1, 0, 0, 0, 1, 0, 1, 1, 1], .b 1, .l [1, 1, 1, 1, 0, 0, 0], .b 0, .c [1, 1, 1, 1, 1]]) (by kernel_rfl) ?_
      refine RunL.reg (by kernel_rfl) ?_
      obtain ⟨t38, ht39, heq⟩ := bind_some heq
      have K40 : ∀ w2, Ext w w2 → RunL C17 (Ret (S17 w0 r)) [.c [1, 1, 1, 1, 0, 0, 0, 1, 0, 1, 1, 0, 1, 0, 0, 1, 1, 0, 0, 1, 1], .b 3, .c [1, 1, 1, 1, 0, 0, 0, 1, 0, 1, 1, 0, 1, 0, 0, 1, 1, 1], .l [1, 1, 1, 1, 0, 0, 0, 1, 0, 1, 1, 0, 1, 0, 0], .b 2, .c [1, 1, 1, 1, 0, 0, 0, 1, 0, 1, 1, 1], .b 1, .l [1, 1, 1, 1, 0, 0, 0], .b 0, .c [1, 1, 1, 1, 1]] [(1, .slice Aa1 a1.length ca1), (2, .int .i64 a2), (11, .int .i64 y13), (12, .int .i64 v_mid12), (13, .int .i64 v_good13), (36, .slice (some ad33) v36.length cv36), (37, .int .i64 v37), (38, .int .i64 v38), (49, .bool t38)] w2 := by
        intro w hx
        replace hH := hH.ext hx
        replace hE := hE.then hx
        rcases bool_cases (t38) with hb43 | hb43
        · replace heq := bif_true hb43 heq
          refine RunL.condT (c := t38) (by kernel_rfl) hb43 ?_
          refine RunL.reg (by kernel_rfl) ?_
          refine RgL.runk 3 [1, 2, 11, 12, 13, 36, 37, 38] (vs := []) (evs := []) (L' := [(1, .slice Aa1 a1.length ca1), (2, .int .i64 a2), (11, .int .i64 y13), (12, .int .i64 v_mid12), (13, .int .i64 (w64 (v_good13 + 1))), (36, .slice (some ad33) v36.length cv36), (37, .int .i64 v37), (38, .int .i64 v38)]) (by kernel_rfl) (by kernel_rfl) trivial ?_
          refine RgL.done (by kernel_rfl) ?_
          refine RunL.adm 1 (es' := [.c [1, 1, 1, 1, 0, 0, 0, 1, 0, 1, 1, 0, 1, 0, 0, 1, 1, 1], .l [1, 1, 1, 1, 0, 0, 0, 1, 0, 1, 1, 0, 1, 0, 0], .b 2, .c [1, 1, 1, 1, 0, 0, 0, 1, 0, 1, 1, 1], .b 1, .l [1, 1, 1, 1, 0, 0, 0], .b 0, .c [1, 1, 1, 1, 1]]) (by kernel_rfl) ?_
          refine RunL.keep [1, 2, 11, 12, 13, 36, 37, 38] (L' := [(1, .slice Aa1 a1.length ca1), (2, .int .i64 a2), (11, .int .i64 y13), (12, .int .i64 v_mid12), (13, .int .i64 (w64 (v_good13 + 1))), (36, .slice (some ad33) v36.length cv36), (37, .int .i64 v37), (38, .int .i64 v38)]) (by kernel_rfl) ?_
          exact (smithyardref10_NextProbe.j41_c (smithyardref10_NextProbe.l29 e24 k) ih) _ _ _ _ _ _ _ _ _ _ _ _ _ _ hH hE hra1 hca1 hrv36 hcv36 heq
        · replace heq := bif_false hb43 heq
          refine RunL.condF (c := t38) (by kernel_rfl) hb43 ?_
          refine RunL.adm 2 (es' := [.c [1, 1, 1, 1, 0, 0, 0, 1, 0, 1, 1, 0, 1, 0, 0, 1, 1, 1], .l [1, 1, 1, 1, 0, 0, 0, 1, 0, 1, 1, 0, 1, 0, 0], .b 2, .c [1, 1, 1, 1, 0, 0, 0, 1, 0, 1, 1, 1], .b 1, .l [1, 1, 1, 1, 0, 0, 0], .b 0, .c [1, 1, 1, 1, 1]]) (by kernel_rfl) ?_
          refine RunL.keep [1, 2, 11, 12, 13, 36, 37, 38] (L' := [(1, .slice Aa1 a1.length ca1), (2, .int .i64 a2), (11, .int .i64 y13), (12, .int .i64 v_mid12), (13, .int .i64 v_good13), (36, .slice (some ad33) v36.length cv36), (37, .int .i64 v37), (38, .int .i64 v38)]) (by kernel_rfl) ?_
          exact (smithyardref10_NextProbe.j41_c (smithyardref10_NextProbe.l29 e24 k) ih) _ _ _ _ _ _ _ _ _ _ _ _ _ _ hH hE hra1 hca1 hrv36 hcv36 heq
      replace heq := ht39
      have hE0 := Ext.refl w
      refine RgL.runk 5 [46, 1, 2, 11, 12, 13, 15, 36, 37, 38] (vs := [.int .i64 x32.Place]) (evs := [.load ⟨g34, 0, none⟩ (.int .i64 x32.Place)]) (L' := [(46, .bool (x32.Place == v_mid12)), (1, .slice Aa1 a1.length ca1), (2, .int .i64 a2), (11, .int .i64 y13), (12, .int .i64 v_mid12), (13, .int .i64 v_good13), (15, .pointer (some ⟨g34, 0, none⟩)), (36, .slice (some ad33) v36.length cv36), (37, .int .i64 v37), (38, .int .i64 v38)]) (by kernel_rfl) (by kernel_rfl) (cellH hig34 hH rfl) ?_
      rcases bool_cases (x32.Place == v_mid12) with hb45 | hb45
      · replace heq := bif_true hb45 heq
        refine RgL.bool1 hb45 ?_
        refine RgL.runk 8 [1, 2, 11, 12, 13, 36, 37, 38, 49] (vs := [.bool x32.Pass]) (evs := [.load ⟨g34, 1, none⟩ (.bool x32.Pass)]) (L' := [(1, .slice Aa1 a1.length ca1), (2, .int .i64 a2), (11, .int .i64 y13), (12, .int .i64 v_mid12), (13, .int .i64 v_good13), (36, .slice (some ad33) v36.length cv36), (37, .int .i64 v37), (38, .int .i64 v38), (49, .bool x32.Pass)]) (by kernel_rfl) (by kernel_rfl) (cellH hig34 hH rfl) ?_
        obtain rfl := Option.some.inj heq
        refine RgL.keep [1, 2, 11, 12, 13, 36, 37, 38, 49] (L' := [(1, .slice Aa1 a1.length ca1), (2, .int .i64 a2), (11, .int .i64 y13), (12, .int .i64 v_mid12), (13, .int .i64 v_good13), (36, .slice (some ad33) v36.length cv36), (37, .int .i64 v37), (38, .int .i64 v38), (49, .bool x32.Pass)]) (by kernel_rfl) ?_
        exact RgL.done (by kernel_rfl) (K40 _ hE0)
      · replace heq := bif_false hb45 heq
        refine RgL.bool1 hb45 ?_
        refine RgL.runk 8 [1, 2, 11, 12, 13, 36, 37, 38, 49] (vs := []) (evs := []) (L' := [(1, .slice Aa1 a1.length ca1), (2, .int .i64 a2), (11, .int .i64 y13), (12, .int .i64 v_mid12), (13, .int .i64 v_good13), (36, .slice (some ad33) v36.length cv36), (37, .int .i64 v37), (38, .int .i64 v38), (49, .bool false)]) (by kernel_rfl) (by kernel_rfl) trivial ?_
        obtain rfl := Option.some.inj heq
        refine RgL.keep [1, 2, 11, 12, 13, 36, 37, 38, 49] (L' := [(1, .slice Aa1 a1.length ca1), (2, .int .i64 a2), (11, .int .i64 y13), (12, .int .i64 v_mid12), (13, .int .i64 v_good13), (36, .slice (some ad33) v36.length cv36), (37, .int .i64 v37), (38, .int .i64 v38), (49, .bool false)]) (by kernel_rfl) ?_
        exact RgL.done (by kernel_rfl) (K40 _ hE0)
    · replace heq := bif_false hb31 heq
      refine RunL.condF (c := decide (v38 < v37)) (by kernel_rfl) hb31 ?_
      refine RunL.adm 3 (es' := [.c [1, 1, 1, 1, 0, 0, 0, 1, 0, 1, 1, 1, 0, 0], .c [1, 1, 1, 1, 0, 0, 0, 1, 0, 1, 1, 1, 0, 1], .c [1, 1, 1, 1, 0, 0, 0, 1, 0, 1, 1, 1, 1], .b 1, .l [1, 1, 1, 1, 0, 0, 0], .b 0, .c [1, 1, 1, 1, 1]]) (by kernel_rfl) ?_
      refine RunL.keep [1, 2, 11, 12, 13] (L' := [(1, .slice Aa1 a1.length ca1), (2, .int .i64 a2), (11, .int .i64 y13), (12, .int .i64 v_mid12), (13, .int .i64 v_good13)]) (by kernel_rfl) ?_
      exact he24 _ _ _ _ _ _ _ _ _ hH hE hra1 hca1 heq
theorem smithyardref10_NextProbe.l18_c {w0 : World} {r : Int × Bool × Int} (e16 : Option (Int × Bool × Int))
    (he16 : ∀ (H : Hp) (w : World) , Sub H w → Ext w0 w → e16 = some r → RunL C17 (Ret (S17 w0 r)) [.c [1, 1, 1, 1, 1, 0], .c [1, 1, 1, 1, 1, 1]] [] w) : ∀ (k : Nat), ∀ (H : Hp) (w : World) (a1 : List Probe) (Aa1 : Option Addr) (ca1 : Nat) (a2 : Int) (y13 : Int) (v_lo10 : Int), Sub H w → Ext w0 w → Kd.Row kProbe H Aa1 a1 → a1.length ≤ ca1 → smithyardref10_NextProbe.l18 e16 k a1 a2 y13 v_lo10 = some r → RunL C17 (Ret (S17 w0 r)) [.c [1, 1, 1, 1, 0, 0, 0], .l [1, 1, 1, 1, 0, 0, 0], .b 0, .c [1, 1, 1, 1, 1]] [(1, .slice Aa1 a1.length ca1), (2, .int .i64 a2), (10, .int .i64 v_lo10), (11, .int .i64 y13)] w := by
  intro k
  induction k with
  | zero => intro H w a1 Aa1 ca1 a2 y13 v_lo10 hH hE hra1 hca1 heq; exact nomatch (show (none : Option (Int × Bool × Int)) = some r from heq)
  | succ k ih =>
    intro H w a1 Aa1 ca1 a2 y13 v_lo10 hH hE hra1 hca1 heq
    rw [smithyardref10_NextProbe.l18] at heq
    refine RunL.adm 2 (es' := [.c [1, 1, 1, 1, 0, 0, 0, 0, 0], .c [1, 1, 1, 1, 0, 0, 0, 0, 1], .c [1, 1, 1, 1, 0, 0, 0, 1], .l [1, 1, 1, 1, 0, 0, 0], .b 0, .c [1, 1, 1, 1, 1]]) (by kernel_rfl) ?_
    refine RunL.reg (by kernel_rfl) ?_
    refine RgL.runk 4 [1, 2, 10, 11, 31] (vs := []) (evs := []) (L' := [(1, .slice Aa1 a1.length ca1), (2, .int .i64 a2), (10, .int .i64 v_lo10), (11, .int .i64 y13), (31, .bool (decide ((w64 (v_lo10 + 1)) < y13)))]) (by kernel_rfl) (by kernel_rfl) trivial ?_
    refine RgL.done (by kernel_rfl) ?_
    rcases bool_cases (decide ((w64 (v_lo10 + 1)) < y13)) with hb20 | hb20
    · replace heq := bif_true hb20 heq
      refine RunL.condT (c := decide ((w64 (v_lo10 + 1)) < y13)) (by kernel_rfl) hb20 ?_
      refine RunL.adm 3 (es' := [.c [1, 1, 1, 1, 0, 0, 0, 1, 0, 0], .c [1, 1, 1, 1, 0, 0, 0, 1, 0, 1], .b 1, .l [1, 1, 1, 1, 0, 0, 0], .b 0, .c [1, 1, 1, 1, 1]]) (by kernel_rfl) ?_
      refine RunL.reg (by kernel_rfl) ?_
      refine RgL.runk 5 [1, 2, 11, 12] (vs := []) (evs := [.need ((2 : Int) ≠ 0)]) (L' := [(1, .slice Aa1 a1.length ca1), (2, .int .i64 a2), (11, .int .i64 y13), (12, .int .i64 (w64 ((w64 (v_lo10 + y13)).tdiv 2)))]) (by kernel_rfl) (by kernel_rfl) (show (2 : Int) ≠ 0 by decide) ?_
      refine RgL.done (by kernel_rfl) ?_
      refine RunL.adm 1 (es' := [.c [1, 1, 1, 1, 0, 0, 0, 1, 0, 1, 0], .c [1, 1, 1, 1, 0, 0, 0, 1, 0, 1, 1], .b 1, .l [1, 1, 1, 1, 0, 0, 0], .b 0, .c [1, 1, 1, 1, 1]]) (by kernel_rfl) ?_
      refine RunL.reg (by kernel_rfl) ?_
      refine RgL.runk 1 [1, 2, 11, 12, 13] (vs := []) (evs := []) (L' := [(1, .slice Aa1 a1.length ca1), (2, .int .i64 a2), (11, .int .i64 y13), (12, .int .i64 (w64 ((w64 (v_lo10 + y13)).tdiv 2))), (13, .int .i64 0)]) (by kernel_rfl) (by kernel_rfl) trivial ?_
      refine RgL.done (by kernel_rfl) ?_
      refine RunL.adm 2 (es' := [.c [1, 1, 1, 1, 0, 0, 0, 1, 0, 1, 1, 0, 0], .c [1, 1, 1, 1, 0, 0, 0, 1, 0, 1, 1, 0, 1], .c [1, 1, 1, 1, 0, 0, 0, 1, 0, 1, 1, 1], .b 1, .l [1, 1, 1, 1, 0, 0, 0], .b 0, .c [1, 1, 1, 1, 1]]) (by kernel_rfl) ?_
      refine RunL.reg (by kernel_rfl) ?_
      refine RgL.runk 3 [1, 2, 11, 12, 13, 36, 37, 38] (vs := []) (evs := []) (L' := [(1, .slice Aa1 a1.length ca1), (2, .int .i64 a2), (11, .int .i64 y13), (12, .int .i64 (w64 ((w64 (v_lo10 + y13)).tdiv 2))), (13, .int .i64 0), (36, .slice Aa1 a1.length ca1), (37, .int .i64 (a1.length : Int)), (38, .int .i64 0)]) (by kernel_rfl) (by kernel_rfl) trivial ?_
      refine RgL.done (by kernel_rfl) ?_
      refine RunL.adm 2 (es' := [.c [1, 1, 1, 1, 0, 0, 0, 1, 0, 1, 1, 0, 1, 0, 0], .l [1, 1, 1, 1, 0, 0, 0, 1, 0, 1, 1, 0, 1, 0, 0], .b 2, .c [1, 1, 1, 1, 0, 0, 0, 1, 0, 1, 1, 1], .b 1, .l [1, 1, 1, 1, 0, 0, 0], .b 0, .c [1, 1, 1, 1, 1]]) (by kernel_rfl) ?_
      refine RunL.keep [1, 2, 11, 12, 13, 36, 37, 38] (L' := [(1, .slice Aa1 a1.length ca1), (2, .int .i64 a2), (11, .int .i64 y13), (12, .int .i64 (w64 ((w64 (v_lo10 + y13)).tdiv 2))), (13, .int .i64 0), (36, .slice Aa1 a1.length ca1), (37, .int .i64 (a1.length : Int)), (38, .int .i64 0)]) (by kernel_rfl) ?_
      exact (smithyardref10_NextProbe.l29_c (smithyardref10_NextProbe.e24 (smithyardref10_NextProbe.l18 e16 k)) (smithyardref10_NextProbe.e24_c (smithyardref10_NextProbe.l18 e16 k) ih)) (((a1.length : Int) - 0).toNat + 1) _ _ _ _ _ _ _ _ _ _ _ _ _ _ hH hE hra1 hca1 hra1 hca1 heq
    · replace heq := bif_false hb20 heq
      refine RunL.condF (c := decide ((w64 (v_lo10 + 1)) < y13)) (by kernel_rfl) hb20 ?_
      refine RunL.adm 2 (es' := [.c [1, 1, 1, 1, 1, 0], .c [1, 1, 1, 1, 1, 1]]) (by kernel_rfl) ?_
      refine RunL.keep [] (L' := []) (by kernel_rfl) ?_
      exact he16 _ _  hH hE  heq
theorem smithyardref10_NextProbe_c {w0 : World} {H : Hp} {a0 : Int} {a1 : List Probe} {Aa1 : Option Addr} {ca1 : Nat} {a2 : Int} {r : Int × Bool × Int} (hH : Sub H w0) (hra1 : Kd.Row kProbe H Aa1 a1) (hca1 : a1.length ≤ ca1) (heq : smithyardref10_NextProbe.f a0 a1 a2 = some r) : Calls Try.prog 17 #[.int .i64 a0, .slice Aa1 a1.length ca1, .int .i64 a2] w0 (Ret (S17 w0 r)) := by
  refine calls_of_runL (F := C17) Try.func17 (by kernel_rfl) Try.ntmps17 (args := [.int .i64 a0, .slice Aa1 a1.length ca1, .int .i64 a2]) (by kernel_rfl) ?_
  unfold smithyardref10_NextProbe.f at heq
  suffices h : ∀ w, Ext w0 w → Sub H w → RunL C17 (Ret (S17 w0 r)) [.c []] (argL 0 [.int .i64 a0, .slice Aa1 a1.length ca1, .int .i64 a2]) w from h w0 (Ext.refl w0) hH
  clear hH
  intro w hE hH
  refine RunL.adm 1 (es' := [.c [0], .c [1]]) (by kernel_rfl) ?_
  refine RunL.reg (by kernel_rfl) ?_
  refine RgL.runk 3 [0, 1, 2] (vs := []) (evs := []) (L' := [(0, .int .i64 a0), (1, .slice Aa1 a1.length ca1), (2, .int .i64 a2)]) (by kernel_rfl) (by kernel_rfl) trivial ?_
  refine RgL.done (by kernel_rfl) ?_
  refine RunL.adm 2 (es' := [.c [1, 0, 0], .c [1, 0, 1], .c [1, 1]]) (by kernel_rfl) ?_
  refine RunL.reg (by kernel_rfl) ?_
  refine RgL.runk 2 [0, 1, 2, 16, 17] (vs := []) (evs := []) (L' := [(0, .int .i64 a0), (1, .slice Aa1 a1.length ca1), (2, .int .i64 a2), (16, .int .i64 a0), (17, .slice Aa1 a1.length ca1)]) (by kernel_rfl) (by kernel_rfl) trivial ?_
  obtain ⟨y2, hy2, heq⟩ := bind_some heq
  refine RgL.call (d := some 18) (g := 21) (args := #[.int .i64 a0, .slice Aa1 a1.length ca1]) (by kernel_rfl) (smithyardref10_askProbes_c hH hra1 hca1 hy2) ?_
  rintro _ w ⟨hx4, rfl⟩
  replace hH := hH.ext hx4
  replace hE := hE.then hx4
  try replace hE0 := hE0.then hx4
  refine RgL.runk 4 [0, 1, 2, 9] (vs := []) (evs := []) (L' := [(0, .int .i64 a0), (1, .slice Aa1 a1.length ca1), (2, .int .i64 a2), (9, .int .i64 y2)]) (by kernel_rfl) (by kernel_rfl) trivial ?_
  refine RgL.done (by kernel_rfl) ?_
  refine RunL.adm 1 (es' := [.c [1, 0, 1, 0], .c [1, 0, 1, 1], .c [1, 1]]) (by kernel_rfl) ?_
  refine RunL.reg (by kernel_rfl) ?_
  refine RgL.runk 2 [0, 1, 2, 9, 20] (vs := []) (evs := []) (L' := [(0, .int .i64 a0), (1, .slice Aa1 a1.length ca1), (2, .int .i64 a2), (9, .int .i64 y2), (20, .bool (y2 != 0))]) (by kernel_rfl) (by kernel_rfl) trivial ?_
  refine RgL.done (by kernel_rfl) ?_
  rcases bool_cases (y2 != 0) with hb6 | hb6
  · replace heq := bif_true hb6 heq
    refine RunL.condT (c := y2 != 0) (by kernel_rfl) hb6 ?_
    refine RunL.adm 1 (es' := [.c [1, 0, 1, 1, 0, 0], .c [1, 0, 1, 1, 0, 1], .c [1, 1]]) (by kernel_rfl) ?_
    refine RunL.reg (by kernel_rfl) ?_
    refine RgL.runk 4 [6, 7, 8] (vs := []) (evs := []) (L' := [(6, .int .i64 0), (7, .bool false), (8, .int .i64 y2)]) (by kernel_rfl) (by kernel_rfl) trivial ?_
    refine RgL.done (by kernel_rfl) ?_
    obtain rfl := Option.some.inj heq
    exact RunL.done (by kernel_rfl) Try.func17 (v := .tuple #[.int .i64 0, .bool false, .int .i64 y2]) (by kernel_rfl) ⟨hE, rfl⟩
  · replace heq := bif_false hb6 heq
    refine RunL.condF (c := y2 != 0) (by kernel_rfl) hb6 ?_
    refine RunL.adm 3 (es' := [.c [1, 1, 0, 0], .c [1, 1, 0, 1], .c [1, 1, 1]]) (by kernel_rfl) ?_
    refine RunL.reg (by kernel_rfl) ?_
    refine RgL.runk 1 [0, 1, 2, 22] (vs := []) (evs := []) (L' := [(0, .int .i64 a0), (1, .slice Aa1 a1.length ca1), (2, .int .i64 a2), (22, .int .i64 a2)]) (by kernel_rfl) (by kernel_rfl) trivial ?_
    obtain ⟨y8, hy8, heq⟩ := bind_some heq
    refine RgL.call (d := some 23) (g := 20) (args := #[.int .i64 a2, .int .i64 1, .int .i64 100]) (by kernel_rfl) (smithyardref10_within_c hH  hy8) ?_
    rintro _ w ⟨hx10, rfl⟩
    replace hH := hH.ext hx10
    replace hE := hE.then hx10
    try replace hE0 := hE0.then hx10
    refine RgL.runk 3 [0, 1, 2, 24] (vs := []) (evs := []) (L' := [(0, .int .i64 a0), (1, .slice Aa1 a1.length ca1), (2, .int .i64 a2), (24, .bool (!y8))]) (by kernel_rfl) (by kernel_rfl) trivial ?_
    refine RgL.done (by kernel_rfl) ?_
    rcases bool_cases (!y8) with hb11 | hb11
    · replace heq := bif_true hb11 heq
      refine RunL.condT (c := !y8) (by kernel_rfl) hb11 ?_
      refine RunL.adm 1 (es' := [.c [1, 1, 0, 1, 0, 0], .c [1, 1, 0, 1, 0, 1], .c [1, 1, 1]]) (by kernel_rfl) ?_
      refine RunL.reg (by kernel_rfl) ?_
      refine RgL.runk 3 [6, 7, 8] (vs := []) (evs := []) (L' := [(6, .int .i64 0), (7, .bool false), (8, .int .i64 1)]) (by kernel_rfl) (by kernel_rfl) trivial ?_
      refine RgL.done (by kernel_rfl) ?_
      obtain rfl := Option.some.inj heq
      exact RunL.done (by kernel_rfl) Try.func17 (v := .tuple #[.int .i64 0, .bool false, .int .i64 1]) (by kernel_rfl) ⟨hE, rfl⟩
    · replace heq := bif_false hb11 heq
      refine RunL.condF (c := !y8) (by kernel_rfl) hb11 ?_
      refine RunL.adm 2 (es' := [.c [1, 1, 1, 0], .c [1, 1, 1, 1]]) (by kernel_rfl) ?_
      refine RunL.reg (by kernel_rfl) ?_
      refine RgL.runk 2 [1, 2, 25, 26] (vs := []) (evs := []) (L' := [(1, .slice Aa1 a1.length ca1), (2, .int .i64 a2), (25, .int .i64 a0), (26, .slice Aa1 a1.length ca1)]) (by kernel_rfl) (by kernel_rfl) trivial ?_
      obtain ⟨y13, hy13, heq⟩ := bind_some heq
      refine RgL.call (d := some 27) (g := 22) (args := #[.int .i64 a0, .slice Aa1 a1.length ca1]) (by kernel_rfl) (smithyardref10_greatest_c hH hra1 hca1 hy13) ?_
      rintro _ w ⟨hx15, rfl⟩
      replace hH := hH.ext hx15
      replace hE := hE.then hx15
      try replace hE0 := hE0.then hx15
      refine RgL.runk 5 [1, 2, 10, 11] (vs := []) (evs := []) (L' := [(1, .slice Aa1 a1.length ca1), (2, .int .i64 a2), (10, .int .i64 0), (11, .int .i64 y13)]) (by kernel_rfl) (by kernel_rfl) trivial ?_
      refine RgL.done (by kernel_rfl) ?_
      refine RunL.adm 3 (es' := [.c [1, 1, 1, 1, 0, 0, 0], .l [1, 1, 1, 1, 0, 0, 0], .b 0, .c [1, 1, 1, 1, 1]]) (by kernel_rfl) ?_
      refine RunL.keep [1, 2, 10, 11] (L' := [(1, .slice Aa1 a1.length ca1), (2, .int .i64 a2), (10, .int .i64 0), (11, .int .i64 y13)]) (by kernel_rfl) ?_
      exact (smithyardref10_NextProbe.l18_c smithyardref10_NextProbe.e16 (smithyardref10_NextProbe.e16_c)) ((y13 - 0).toNat + 1) _ _ _ _ _ _ _ _ hH hE hra1 hca1 heq
noncomputable def C18 : Ctx := { P := Try.prog, f := 18, N := 26, c := bodyOf Try.f18 }
def S18 (w0 : World) (r : Bool) (v : Value) (w : World) : Prop := Ext w0 w ∧ v = .bool r
theorem slices_Equal_Probe.e6_c {w0 : World} {r : Bool} : ∀ (H : Hp) (w : World) , Sub H w → Ext w0 w → slices_Equal_Probe.e6 = some r → RunL C18 (Ret (S18 w0 r)) [.c [1, 1, 1, 0], .c [1, 1, 1, 1]] [] w := by
  intro H w  hH hE  heq
  unfold slices_Equal_Probe.e6 at heq
  refine RunL.reg (by kernel_rfl) ?_
  refine RgL.runk 1 [4] (vs := []) (evs := []) (L' := [(4, .bool true)]) (by kernel_rfl) (by kernel_rfl) trivial ?_
  refine RgL.done (by kernel_rfl) ?_
  obtain rfl := Option.some.inj heq
  exact RunL.done (by kernel_rfl) Try.func18 (v := .bool true) (by kernel_rfl) ⟨hE, rfl⟩
theorem slices_Equal_Probe.l8_c {w0 : World} {r : Bool} (e6 : Option Bool)
    (he6 : ∀ (H : Hp) (w : World) , Sub H w → Ext w0 w → e6 = some r → RunL C18 (Ret (S18 w0 r)) [.c [1, 1, 1, 0], .c [1, 1, 1, 1]] [] w) : ∀ (k : Nat), ∀ (H : Hp) (w : World) (a0 : List Probe) (Aa0 : Option Addr) (ca0 : Nat) (a1 : List Probe) (Aa1 : Option Addr) (ca1 : Nat) (v13 : Int), Sub H w → Ext w0 w → Kd.Row kProbe H Aa0 a0 → a0.length ≤ ca0 → Kd.Row kProbe H Aa1 a1 → a1.length ≤ ca1 → slices_Equal_Probe.l8 e6 k a0 a1 v13 = some r → RunL C18 (Ret (S18 w0 r)) [.c [1, 1, 0, 1, 0, 0], .l [1, 1, 0, 1, 0, 0], .b 0, .c [1, 1, 1]] [(0, .slice Aa0 a0.length ca0), (1, .slice Aa1 a1.length ca1), (12, .int .i64 (a0.length : Int)), (13, .int .i64 v13)] w := by
  intro k
  induction k with
  | zero => intro H w a0 Aa0 ca0 a1 Aa1 ca1 v13 hH hE hra0 hca0 hra1 hca1 heq; exact nomatch (show (none : Option Bool) = some r from heq)
  | succ k ih =>
    intro H w a0 Aa0 ca0 a1 Aa1 ca1 v13 hH hE hra0 hca0 hra1 hca1 heq
    rw [slices_Equal_Probe.l8] at heq
    refine RunL.adm 1 (es' := [.c [1, 1, 0, 1, 0, 0, 0], .c [1, 1, 0, 1, 0, 0, 1], .l [1, 1, 0, 1, 0, 0], .b 0, .c [1, 1, 1]]) (by kernel_rfl) ?_
    refine RunL.reg (by kernel_rfl) ?_
    refine RgL.runk 1 [0, 1, 12, 13, 14] (vs := []) (evs := []) (L' := [(0, .slice Aa0 a0.length ca0), (1, .slice Aa1 a1.length ca1), (12, .int .i64 (a0.length : Int)), (13, .int .i64 v13), (14, .bool (decide (v13 < (a0.length : Int))))]) (by kernel_rfl) (by kernel_rfl) trivial ?_
    refine RgL.done (by kernel_rfl) ?_
    refine RunL.adm 1 (es' := [.c [1, 1, 0, 1, 0, 0, 1, 0], .c [1, 1, 0, 1, 0, 0, 1, 1], .l [1, 1, 0, 1, 0, 0], .b 0, .c [1, 1, 1]]) (by kernel_rfl) ?_
    rcases bool_cases (decide (v13 < (a0.length : Int))) with hb10 | hb10
    · replace heq := bif_true hb10 heq
      refine RunL.condT (c := decide (v13 < (a0.length : Int))) (by kernel_rfl) hb10 ?_
      refine RunL.adm 4 (es' := [.c [1, 1, 0, 1, 0, 0, 1, 1, 0, 0, 0], .c [1, 1, 0, 1, 0, 0, 1, 1, 0, 0, 1], .b 1, .c [1, 1, 0, 1, 0, 0, 1, 1, 1], .l [1, 1, 0, 1, 0, 0], .b 0, .c [1, 1, 1]]) (by kernel_rfl) ?_
      refine RunL.reg (by kernel_rfl) ?_
      refine RgL.runk 2 [0, 1, 5, 12, 13] (vs := []) (evs := []) (L' := [(0, .slice Aa0 a0.length ca0), (1, .slice Aa1 a1.length ca1), (5, .int .i64 v13), (12, .int .i64 (a0.length : Int)), (13, .int .i64 v13)]) (by kernel_rfl) (by kernel_rfl) trivial ?_
      refine RgL.done (by kernel_rfl) ?_
      refine RunL.adm 1 (es' := [.c [1, 1, 0, 1, 0, 0, 1, 1, 0, 0, 1, 0], .c [1, 1, 0, 1, 0, 0, 1, 1, 0, 0, 1, 1], .b 1, .c [1, 1, 0, 1, 0, 0, 1, 1, 1], .l [1, 1, 0, 1, 0, 0], .b 0, .c [1, 1, 1]]) (by kernel_rfl) ?_
      refine RunL.quiet (Ext w) (by kernel_rfl) (by kernel_rfl) (by kernel_rfl) (Ext.drawn w) ?_
      obtain ⟨x12, hx12, heq⟩ := bind_some heq
      obtain ⟨ad13, rfl⟩ := hra0.addr hx12
      obtain ⟨csx12, hKx12, hcx12⟩ := hra0.get hx12
      obtain ⟨rfl⟩ := kProbe_open hKx12
      obtain ⟨x14, hx14, heq⟩ := bind_some heq
      obtain ⟨ad15, rfl⟩ := hra1.addr hx14
      obtain ⟨csx14, hKx14, hcx14⟩ := hra1.get hx14
      obtain ⟨rfl⟩ := kProbe_open hKx14
      refine QgL.runk 9 [0, 1, 12, 13, 24] (vs := [.int .i64 x12.Place, .bool x12.Pass, .int .i64 x14.Place, .bool x14.Pass]) (evs := [.need (0 ≤ v13 ∧ v13 < (a0.length : Int)), .load ((ad13.add (v13.toNat * 2)).add 0) (.int .i64 x12.Place), .load ((ad13.add (v13.toNat * 2)).add 1) (.bool x12.Pass), .need (0 ≤ v13 ∧ v13 < (a1.length : Int)), .load ((ad15.add (v13.toNat * 2)).add 0) (.int .i64 x14.Place), .load ((ad15.add (v13.toNat * 2)).add 1) (.bool x14.Pass)]) (L' := [(0, .slice (some ad13) a0.length ca0), (1, .slice (some ad15) a1.length ca1), (12, .int .i64 (a0.length : Int)), (13, .int .i64 v13), (24, .bool (!(x12.Place == x14.Place && (x12.Pass == x14.Pass && true))))]) (by kernel_rfl) (by kernel_rfl) (fun wC hC => ⟨⟨(at?_some hx12).1, (at?_some hx12).2.1⟩, hcx12 _ (hH.ext hC) 0 _ rfl, hcx12 _ (hH.ext hC) 1 _ rfl, ⟨(at?_some hx14).1, (at?_some hx14).2.1⟩, hcx14 _ (hH.ext hC) 0 _ rfl, hcx14 _ (hH.ext hC) 1 _ rfl⟩) ?_
      refine QgL.done (by kernel_rfl) (fun w hx17 => ?_)
      replace hH := hH.ext hx17
      replace hE := hE.then hx17
      try replace hE0 := hE0.then hx17
      rcases bool_cases (!(x12.Place == x14.Place && (x12.Pass == x14.Pass && true))) with hb18 | hb18
      · replace heq := bif_true hb18 heq
        refine RunL.condT (c := !(x12.Place == x14.Place && (x12.Pass == x14.Pass && true))) (by kernel_rfl) hb18 ?_
        refine RunL.adm 1 (es' := [.c [1, 1, 0, 1, 0, 0, 1, 1, 0, 0, 1, 1, 0, 0], .c [1, 1, 0, 1, 0, 0, 1, 1, 0, 0, 1, 1, 0, 1], .b 1, .c [1, 1, 0, 1, 0, 0, 1, 1, 1], .l [1, 1, 0, 1, 0, 0], .b 0, .c [1, 1, 1]]) (by kernel_rfl) ?_
        refine RunL.reg (by kernel_rfl) ?_
        refine RgL.runk 1 [4] (vs := []) (evs := []) (L' := [(4, .bool false)]) (by kernel_rfl) (by kernel_rfl) trivial ?_
        refine RgL.done (by kernel_rfl) ?_
        obtain rfl := Option.some.inj heq
        exact RunL.done (by kernel_rfl) Try.func18 (v := .bool false) (by kernel_rfl) ⟨hE, rfl⟩
      · replace heq := bif_false hb18 heq
        refine RunL.condF (c := !(x12.Place == x14.Place && (x12.Pass == x14.Pass && true))) (by kernel_rfl) hb18 ?_
        refine RunL.adm 2 (es' := [.c [1, 1, 0, 1, 0, 0, 1, 1, 1], .l [1, 1, 0, 1, 0, 0], .b 0, .c [1, 1, 1]]) (by kernel_rfl) ?_
        refine RunL.reg (by kernel_rfl) ?_
        refine RgL.runk 2 [0, 1, 12, 13] (vs := []) (evs := []) (L' := [(0, .slice (some ad13) a0.length ca0), (1, .slice (some ad15) a1.length ca1), (12, .int .i64 (a0.length : Int)), (13, .int .i64 (w64 (v13 + 1)))]) (by kernel_rfl) (by kernel_rfl) trivial ?_
        refine RgL.done (by kernel_rfl) ?_
        refine RunL.adm 1 (es' := [.c [1, 1, 0, 1, 0, 0], .l [1, 1, 0, 1, 0, 0], .b 0, .c [1, 1, 1]]) (by kernel_rfl) ?_
        refine RunL.keep [0, 1, 12, 13] (L' := [(0, .slice (some ad13) a0.length ca0), (1, .slice (some ad15) a1.length ca1), (12, .int .i64 (a0.length : Int)), (13, .int .i64 (w64 (v13 + 1)))]) (by kernel_rfl) ?_
        exact ih _ _ _ _ _ _ _ _ _ hH hE hra0 hca0 hra1 hca1 heq
    · replace heq := bif_false hb10 heq
      refine RunL.condF (c := decide (v13 < (a0.length : Int))) (by kernel_rfl) hb10 ?_
      refine RunL.adm 2 (es' := [.c [1, 1, 1, 0], .c [1, 1, 1, 1]]) (by kernel_rfl) ?_
      refine RunL.keep [] (L' := []) (by kernel_rfl) ?_
      exact he6 _ _  hH hE  heq
theorem slices_Equal_Probe_c {w0 : World} {H : Hp} {a0 : List Probe} {Aa0 : Option Addr} {ca0 : Nat} {a1 : List Probe} {Aa1 : Option Addr} {ca1 : Nat} {r : Bool} (hH : Sub H w0) (hra0 : Kd.Row kProbe H Aa0 a0) (hca0 : a0.length ≤ ca0) (hra1 : Kd.Row kProbe H Aa1 a1) (hca1 : a1.length ≤ ca1) (heq : slices_Equal_Probe.f a0 a1 = some r) : Calls Try.prog 18 #[.slice Aa0 a0.length ca0, .slice Aa1 a1.length ca1] w0 (Ret (S18 w0 r)) := by
  refine calls_of_runL (F := C18) Try.func18 (by kernel_rfl) Try.ntmps18 (args := [.slice Aa0 a0.length ca0, .slice Aa1 a1.length ca1]) (by kernel_rfl) ?_
  unfold slices_Equal_Probe.f at heq
  suffices h : ∀ w, Ext w0 w → Sub H w → RunL C18 (Ret (S18 w0 r)) [.c []] (argL 0 [.slice Aa0 a0.length ca0, .slice Aa1 a1.length ca1]) w from h w0 (Ext.refl w0) hH
  clear hH
  intro w hE hH
  refine RunL.adm 1 (es' := [.c [0], .c [1]]) (by kernel_rfl) ?_
  refine RunL.reg (by kernel_rfl) ?_
  refine RgL.runk 1 [0, 1] (vs := []) (evs := []) (L' := [(0, .slice Aa0 a0.length ca0), (1, .slice Aa1 a1.length ca1)]) (by kernel_rfl) (by kernel_rfl) trivial ?_
  refine RgL.done (by kernel_rfl) ?_
  refine RunL.adm 2 (es' := [.c [1, 0, 0], .c [1, 0, 1], .c [1, 1]]) (by kernel_rfl) ?_
  refine RunL.reg (by kernel_rfl) ?_
  refine RgL.runk 5 [0, 1, 10] (vs := []) (evs := []) (L' := [(0, .slice Aa0 a0.length ca0), (1, .slice Aa1 a1.length ca1), (10, .bool ((a0.length : Int) != (a1.length : Int)))]) (by kernel_rfl) (by kernel_rfl) trivial ?_
  refine RgL.done (by kernel_rfl) ?_
  rcases bool_cases ((a0.length : Int) != (a1.length : Int)) with hb3 | hb3
  · replace heq := bif_true hb3 heq
    refine RunL.condT (c := (a0.length : Int) != (a1.length : Int)) (by kernel_rfl) hb3 ?_
    refine RunL.adm 1 (es' := [.c [1, 0, 1, 0, 0], .c [1, 0, 1, 0, 1], .c [1, 1]]) (by kernel_rfl) ?_
    refine RunL.reg (by kernel_rfl) ?_
    refine RgL.runk 1 [4] (vs := []) (evs := []) (L' := [(4, .bool false)]) (by kernel_rfl) (by kernel_rfl) trivial ?_
    refine RgL.done (by kernel_rfl) ?_
    obtain rfl := Option.some.inj heq
    exact RunL.done (by kernel_rfl) Try.func18 (v := .bool false) (by kernel_rfl) ⟨hE, rfl⟩
  · replace heq := bif_false hb3 heq
    refine RunL.condF (c := (a0.length : Int) != (a1.length : Int)) (by kernel_rfl) hb3 ?_
    refine RunL.adm 3 (es' := [.c [1, 1, 0, 0], .c [1, 1, 0, 1], .c [1, 1, 1]]) (by kernel_rfl) ?_
    refine RunL.reg (by kernel_rfl) ?_
    refine RgL.runk 3 [0, 1, 12, 13] (vs := []) (evs := []) (L' := [(0, .slice Aa0 a0.length ca0), (1, .slice Aa1 a1.length ca1), (12, .int .i64 (a0.length : Int)), (13, .int .i64 0)]) (by kernel_rfl) (by kernel_rfl) trivial ?_
    refine RgL.done (by kernel_rfl) ?_
    refine RunL.adm 2 (es' := [.c [1, 1, 0, 1, 0, 0], .l [1, 1, 0, 1, 0, 0], .b 0, .c [1, 1, 1]]) (by kernel_rfl) ?_
    refine RunL.keep [0, 1, 12, 13] (L' := [(0, .slice Aa0 a0.length ca0), (1, .slice Aa1 a1.length ca1), (12, .int .i64 (a0.length : Int)), (13, .int .i64 0)]) (by kernel_rfl) ?_
    exact (slices_Equal_Probe.l8_c slices_Equal_Probe.e6 (slices_Equal_Probe.e6_c)) (((a0.length : Int) - 0).toNat + 1) _ _ _ _ _ _ _ _ _ hH hE hra0 hca0 hra1 hca1 heq
noncomputable def C7 : Ctx := { P := Try.prog, f := 7, N := 64, c := bodyOf Try.f7 }
def S7 (w0 : World) (r : Int × Int × Int) (v : Value) (w : World) : Prop := Ext w0 w ∧ v = .tuple #[.int .i64 r.1, .int .i64 r.2.1, .int .i64 r.2.2]
theorem trials_Tried.e15_c {w0 : World} {r : Int × Int × Int} : ∀ (H : Hp) (w : World) (a0 : Int), Sub H w → Ext w0 w → trials_Tried.e15 a0 = some r → RunL C7 (Ret (S7 w0 r)) [.c [1, 1, 1, 1, 1, 0], .c [1, 1, 1, 1, 1, 1]] [(0, .int .i64 a0)] w := by
  intro H w a0 hH hE  heq
  unfold trials_Tried.e15 at heq
  refine RunL.reg (by kernel_rfl) ?_
  refine RgL.runk 4 [6, 7, 8] (vs := []) (evs := []) (L' := [(6, .int .i64 3), (7, .int .i64 a0), (8, .int .i64 0)]) (by kernel_rfl) (by kernel_rfl) trivial ?_
  refine RgL.done (by kernel_rfl) ?_
  obtain rfl := Option.some.inj heq
  exact RunL.done (by kernel_rfl) Try.func7 (v := .tuple #[.int .i64 3, .int .i64 a0, .int .i64 0]) (by kernel_rfl) ⟨hE, rfl⟩
theorem trials_Tried.j24_c {w0 : World} {r : Int × Int × Int} (backl17 : Int → Int → (List Bool) → Int → Int → Option (Int × Int × Int))
    (hbackl17 : ∀ (H : Hp) (w : World) (a0 : Int) (a1 : Int) (a2 : List Bool) (Aa2 : Option Addr) (ca2 : Nat) (v_passed9 : Int) (v28 : Int), Sub H w → Ext w0 w → Kd.Row Kd.bool H Aa2 a2 → a2.length ≤ ca2 → backl17 a0 a1 a2 v_passed9 v28 = some r → RunL C7 (Ret (S7 w0 r)) [.c [1, 1, 1, 1, 0, 1, 0, 0], .l [1, 1, 1, 1, 0, 1, 0, 0], .b 0, .c [1, 1, 1, 1, 1]] [(0, .int .i64 a0), (1, .int .i64 a1), (9, .int .i64 v_passed9), (26, .slice Aa2 a2.length ca2), (27, .int .i64 (a2.length : Int)), (28, .int .i64 v28)] w) : ∀ (H : Hp) (w : World) (a0 : Int) (a1 : Int) (a2 : List Bool) (ad21 : Addr) (ca2 : Nat) (v28 : Int) (v_passed9 : Int), Sub H w → Ext w0 w → Kd.Row Kd.bool H (some ad21) a2 → a2.length ≤ ca2 → trials_Tried.j24 backl17 a0 a1 a2 v28 v_passed9 = some r → RunL C7 (Ret (S7 w0 r)) [.c [1, 1, 1, 1, 0, 1, 0, 0, 1, 1, 0, 0, 1, 1, 0], .c [1, 1, 1, 1, 0, 1, 0, 0, 1, 1, 0, 0, 1, 1, 1], .b 1, .c [1, 1, 1, 1, 0, 1, 0, 0, 1, 1, 1], .l [1, 1, 1, 1, 0, 1, 0, 0], .b 0, .c [1, 1, 1, 1, 1]] [(0, .int .i64 a0), (1, .int .i64 a1), (9, .int .i64 v_passed9), (10, .int .i64 v28), (26, .slice (some ad21) a2.length ca2), (27, .int .i64 (a2.length : Int)), (28, .int .i64 v28)] w := by
  intro H w a0 a1 a2 ad21 ca2 v28 v_passed9 hH hE hra2 hca2 heq
  unfold trials_Tried.j24 at heq
  refine RunL.reg (by kernel_rfl) ?_
  refine RgL.runk 3 [0, 1, 9, 12, 26, 27, 28] (vs := []) (evs := []) (L' := [(0, .int .i64 a0), (1, .int .i64 a1), (9, .int .i64 v_passed9), (12, .int .i64 (w64 (v28 + 1))), (26, .slice (some ad21) a2.length ca2), (27, .int .i64 (a2.length : Int)), (28, .int .i64 v28)]) (by kernel_rfl) (by kernel_rfl) trivial ?_
  refine RgL.done (by kernel_rfl) ?_
  refine RunL.adm 2 (es' := [.c [1, 1, 1, 1, 0, 1, 0, 0, 1, 1, 0, 0, 1, 1, 1, 0, 0], .c [1, 1, 1, 1, 0, 1, 0, 0, 1, 1, 0, 0, 1, 1, 1, 0, 1], .b 2, .b 1, .c [1, 1, 1, 1, 0, 1, 0, 0, 1, 1, 1], .l [1, 1, 1, 1, 0, 1, 0, 0], .b 0, .c [1, 1, 1, 1, 1]]) (by kernel_rfl) ?_
  refine RunL.reg (by kernel_rfl) ?_
  obtain ⟨t27, ht28, heq⟩ := bind_some heq
  have K29 : ∀ w2, Ext w w2 → RunL C7 (Ret (S7 w0 r)) [.c [1, 1, 1, 1, 0, 1, 0, 0, 1, 1, 0, 0, 1, 1, 1, 0, 1], .b 2, .b 1, .c [1, 1, 1, 1, 0, 1, 0, 0, 1, 1, 1], .l [1, 1, 1, 1, 0, 1, 0, 0], .b 0, .c [1, 1, 1, 1, 1]] [(0, .int .i64 a0), (1, .int .i64 a1), (9, .int .i64 v_passed9), (12, .int .i64 (w64 (v28 + 1))), (26, .slice (some ad21) a2.length ca2), (27, .int .i64 (a2.length : Int)), (28, .int .i64 v28), (38, .bool t27)] w2 := by
    intro w hx
    replace hH := hH.ext hx
    replace hE := hE.then hx
    rcases bool_cases (t27) with hb30 | hb30
    · replace heq := bif_true hb30 heq
      refine RunL.condT (c := t27) (by kernel_rfl) hb30 ?_
      refine RunL.adm 1 (es' := [.c [1, 1, 1, 1, 0, 1, 0, 0, 1, 1, 0, 0, 1, 1, 1, 0, 1, 0, 0], .c [1, 1, 1, 1, 0, 1, 0, 0, 1, 1, 0, 0, 1, 1, 1, 0, 1, 0, 1], .b 2, .b 1, .c [1, 1, 1, 1, 0, 1, 0, 0, 1, 1, 1], .l [1, 1, 1, 1, 0, 1, 0, 0], .b 0, .c [1, 1, 1, 1, 1]]) (by kernel_rfl) ?_
      refine RunL.reg (by kernel_rfl) ?_
      refine RgL.runk 4 [6, 7, 8] (vs := []) (evs := []) (L' := [(6, .int .i64 2), (7, .int .i64 (w64 (v28 + 1))), (8, .int .i64 0)]) (by kernel_rfl) (by kernel_rfl) trivial ?_
      refine RgL.done (by kernel_rfl) ?_
      obtain rfl := Option.some.inj heq
      exact RunL.done (by kernel_rfl) Try.func7 (v := .tuple #[.int .i64 2, .int .i64 (w64 (v28 + 1)), .int .i64 0]) (by kernel_rfl) ⟨hE, rfl⟩
    · replace heq := bif_false hb30 heq
      refine RunL.condF (c := t27) (by kernel_rfl) hb30 ?_
      refine RunL.adm 1 (es' := [.c [1, 1, 1, 1, 0, 1, 0, 0, 1, 1, 0, 0, 1, 1, 1, 0, 1, 1, 0], .c [1, 1, 1, 1, 0, 1, 0, 0, 1, 1, 0, 0, 1, 1, 1, 0, 1, 1, 1], .b 2, .b 1, .c [1, 1, 1, 1, 0, 1, 0, 0, 1, 1, 1], .l [1, 1, 1, 1, 0, 1, 0, 0], .b 0, .c [1, 1, 1, 1, 1]]) (by kernel_rfl) ?_
      refine RunL.reg (by kernel_rfl) ?_
      refine RgL.runk 4 [0, 1, 9, 12, 26, 27, 28, 48] (vs := []) (evs := []) (L' := [(0, .int .i64 a0), (1, .int .i64 a1), (9, .int .i64 v_passed9), (12, .int .i64 (w64 (v28 + 1))), (26, .slice (some ad21) a2.length ca2), (27, .int .i64 (a2.length : Int)), (28, .int .i64 v28), (48, .bool (v_passed9 == a1))]) (by kernel_rfl) (by kernel_rfl) trivial ?_
      refine RgL.done (by kernel_rfl) ?_
      rcases bool_cases (v_passed9 == a1) with hb33 | hb33
      · replace heq := bif_true hb33 heq
        refine RunL.condT (c := v_passed9 == a1) (by kernel_rfl) hb33 ?_
        refine RunL.adm 1 (es' := [.c [1, 1, 1, 1, 0, 1, 0, 0, 1, 1, 0, 0, 1, 1, 1, 0, 1, 1, 1, 0, 0], .c [1, 1, 1, 1, 0, 1, 0, 0, 1, 1, 0, 0, 1, 1, 1, 0, 1, 1, 1, 0, 1], .b 2, .b 1, .c [1, 1, 1, 1, 0, 1, 0, 0, 1, 1, 1], .l [1, 1, 1, 1, 0, 1, 0, 0], .b 0, .c [1, 1, 1, 1, 1]]) (by kernel_rfl) ?_
        refine RunL.reg (by kernel_rfl) ?_
        refine RgL.runk 4 [6, 7, 8] (vs := []) (evs := []) (L' := [(6, .int .i64 4), (7, .int .i64 (w64 (v28 + 1))), (8, .int .i64 0)]) (by kernel_rfl) (by kernel_rfl) trivial ?_
        refine RgL.done (by kernel_rfl) ?_
        obtain rfl := Option.some.inj heq
        exact RunL.done (by kernel_rfl) Try.func7 (v := .tuple #[.int .i64 4, .int .i64 (w64 (v28 + 1)), .int .i64 0]) (by kernel_rfl) ⟨hE, rfl⟩
      · replace heq := bif_false hb33 heq
        refine RunL.condF (c := v_passed9 == a1) (by kernel_rfl) hb33 ?_
        refine RunL.adm 1 (es' := [.c [1, 1, 1, 1, 0, 1, 0, 0, 1, 1, 0, 0, 1, 1, 1, 0, 1, 1, 1, 1, 0], .c [1, 1, 1, 1, 0, 1, 0, 0, 1, 1, 0, 0, 1, 1, 1, 0, 1, 1, 1, 1, 1], .b 2, .b 1, .c [1, 1, 1, 1, 0, 1, 0, 0, 1, 1, 1], .l [1, 1, 1, 1, 0, 1, 0, 0], .b 0, .c [1, 1, 1, 1, 1]]) (by kernel_rfl) ?_
        refine RunL.reg (by kernel_rfl) ?_
        refine RgL.runk 8 [0, 1, 9, 12, 26, 27, 28, 53] (vs := []) (evs := []) (L' := [(0, .int .i64 a0), (1, .int .i64 a1), (9, .int .i64 v_passed9), (12, .int .i64 (w64 (v28 + 1))), (26, .slice (some ad21) a2.length ca2), (27, .int .i64 (a2.length : Int)), (28, .int .i64 v28), (53, .bool (decide ((w64 ((w64 (v_passed9 + a0)) - (w64 (v28 + 1)))) < a1)))]) (by kernel_rfl) (by kernel_rfl) trivial ?_
        refine RgL.done (by kernel_rfl) ?_
        rcases bool_cases (decide ((w64 ((w64 (v_passed9 + a0)) - (w64 (v28 + 1)))) < a1)) with hb36 | hb36
        · replace heq := bif_true hb36 heq
          refine RunL.condT (c := decide ((w64 ((w64 (v_passed9 + a0)) - (w64 (v28 + 1)))) < a1)) (by kernel_rfl) hb36 ?_
          refine RunL.adm 1 (es' := [.c [1, 1, 1, 1, 0, 1, 0, 0, 1, 1, 0, 0, 1, 1, 1, 0, 1, 1, 1, 1, 1, 0, 0], .c [1, 1, 1, 1, 0, 1, 0, 0, 1, 1, 0, 0, 1, 1, 1, 0, 1, 1, 1, 1, 1, 0, 1], .b 2, .b 1, .c [1, 1, 1, 1, 0, 1, 0, 0, 1, 1, 1], .l [1, 1, 1, 1, 0, 1, 0, 0], .b 0, .c [1, 1, 1, 1, 1]]) (by kernel_rfl) ?_
          refine RunL.reg (by kernel_rfl) ?_
          refine RgL.runk 4 [6, 7, 8] (vs := []) (evs := []) (L' := [(6, .int .i64 3), (7, .int .i64 (w64 (v28 + 1))), (8, .int .i64 0)]) (by kernel_rfl) (by kernel_rfl) trivial ?_
          refine RgL.done (by kernel_rfl) ?_
          obtain rfl := Option.some.inj heq
          exact RunL.done (by kernel_rfl) Try.func7 (v := .tuple #[.int .i64 3, .int .i64 (w64 (v28 + 1)), .int .i64 0]) (by kernel_rfl) ⟨hE, rfl⟩
        · replace heq := bif_false hb36 heq
          refine RunL.condF (c := decide ((w64 ((w64 (v_passed9 + a0)) - (w64 (v28 + 1)))) < a1)) (by kernel_rfl) hb36 ?_
          refine RunL.adm 3 (es' := [.c [1, 1, 1, 1, 0, 1, 0, 0, 1, 1, 1], .l [1, 1, 1, 1, 0, 1, 0, 0], .b 0, .c [1, 1, 1, 1, 1]]) (by kernel_rfl) ?_
          refine RunL.reg (by kernel_rfl) ?_
          refine RgL.runk 2 [0, 1, 9, 26, 27, 28] (vs := []) (evs := []) (L' := [(0, .int .i64 a0), (1, .int .i64 a1), (9, .int .i64 v_passed9), (26, .slice (some ad21) a2.length ca2), (27, .int .i64 (a2.length : Int)), (28, .int .i64 (w64 (v28 + 1)))]) (by kernel_rfl) (by kernel_rfl) trivial ?_
          refine RgL.done (by kernel_rfl) ?_
          refine RunL.adm 1 (es' := [.c [1, 1, 1, 1, 0, 1, 0, 0], .l [1, 1, 1, 1, 0, 1, 0, 0], .b 0, .c [1, 1, 1, 1, 1]]) (by kernel_rfl) ?_
          refine RunL.keep [0, 1, 9, 26, 27, 28] (L' := [(0, .int .i64 a0), (1, .int .i64 a1), (9, .int .i64 v_passed9), (26, .slice (some ad21) a2.length ca2), (27, .int .i64 (a2.length : Int)), (28, .int .i64 (w64 (v28 + 1)))]) (by kernel_rfl) ?_
          exact hbackl17 _ _ _ _ _ _ _ _ _ hH hE hra2 hca2 heq
  replace heq := ht28
  have hE0 := Ext.refl w
  refine RgL.runk 4 [42, 0, 1, 9, 12, 26, 27, 28] (vs := []) (evs := []) (L' := [(42, .bool (v_passed9 == a1)), (0, .int .i64 a0), (1, .int .i64 a1), (9, .int .i64 v_passed9), (12, .int .i64 (w64 (v28 + 1))), (26, .slice (some ad21) a2.length ca2), (27, .int .i64 (a2.length : Int)), (28, .int .i64 v28)]) (by kernel_rfl) (by kernel_rfl) trivial ?_
  rcases bool_cases (v_passed9 == a1) with hb39 | hb39
  · replace heq := bif_true hb39 heq
    refine RgL.bool1 hb39 ?_
    refine RgL.runk 9 [0, 1, 9, 12, 26, 27, 28, 38] (vs := []) (evs := []) (L' := [(0, .int .i64 a0), (1, .int .i64 a1), (9, .int .i64 v_passed9), (12, .int .i64 (w64 (v28 + 1))), (26, .slice (some ad21) a2.length ca2), (27, .int .i64 (a2.length : Int)), (28, .int .i64 v28), (38, .bool ((w64 (v28 + 1)) == a1))]) (by kernel_rfl) (by kernel_rfl) trivial ?_
    obtain rfl := Option.some.inj heq
    refine RgL.keep [0, 1, 9, 12, 26, 27, 28, 38] (L' := [(0, .int .i64 a0), (1, .int .i64 a1), (9, .int .i64 v_passed9), (12, .int .i64 (w64 (v28 + 1))), (26, .slice (some ad21) a2.length ca2), (27, .int .i64 (a2.length : Int)), (28, .int .i64 v28), (38, .bool ((w64 (v28 + 1)) == a1))]) (by kernel_rfl) ?_
    exact RgL.done (by kernel_rfl) (K29 _ hE0)
  · replace heq := bif_false hb39 heq
    refine RgL.bool1 hb39 ?_
    refine RgL.runk 9 [0, 1, 9, 12, 26, 27, 28, 38] (vs := []) (evs := []) (L' := [(0, .int .i64 a0), (1, .int .i64 a1), (9, .int .i64 v_passed9), (12, .int .i64 (w64 (v28 + 1))), (26, .slice (some ad21) a2.length ca2), (27, .int .i64 (a2.length : Int)), (28, .int .i64 v28), (38, .bool false)]) (by kernel_rfl) (by kernel_rfl) trivial ?_
    obtain rfl := Option.some.inj heq
    refine RgL.keep [0, 1, 9, 12, 26, 27, 28, 38] (L' := [(0, .int .i64 a0), (1, .int .i64 a1), (9, .int .i64 v_passed9), (12, .int .i64 (w64 (v28 + 1))), (26, .slice (some ad21) a2.length ca2), (27, .int .i64 (a2.length : Int)), (28, .int .i64 v28), (38, .bool false)]) (by kernel_rfl) ?_
    exact RgL.done (by kernel_rfl) (K29 _ hE0)
theorem trials_Tried.l17_c {w0 : World} {r : Int × Int × Int} (e15 : Int → Option (Int × Int × Int))
    (he15 : ∀ (H : Hp) (w : World) (a0 : Int), Sub H w → Ext w0 w → e15 a0 = some r → RunL C7 (Ret (S7 w0 r)) [.c [1, 1, 1, 1, 1, 0], .c [1, 1, 1, 1, 1, 1]] [(0, .int .i64 a0)] w) : ∀ (k : Nat), ∀ (H : Hp) (w : World) (a0 : Int) (a1 : Int) (a2 : List Bool) (Aa2 : Option Addr) (ca2 : Nat) (v_passed9 : Int) (v28 : Int), Sub H w → Ext w0 w → Kd.Row Kd.bool H Aa2 a2 → a2.length ≤ ca2 → trials_Tried.l17 e15 k a0 a1 a2 v_passed9 v28 = some r → RunL C7 (Ret (S7 w0 r)) [.c [1, 1, 1, 1, 0, 1, 0, 0], .l [1, 1, 1, 1, 0, 1, 0, 0], .b 0, .c [1, 1, 1, 1, 1]] [(0, .int .i64 a0), (1, .int .i64 a1), (9, .int .i64 v_passed9), (26, .slice Aa2 a2.length ca2), (27, .int .i64 (a2.length : Int)), (28, .int .i64 v28)] w := by
  intro k
  induction k with
  | zero => intro H w a0 a1 a2 Aa2 ca2 v_passed9 v28 hH hE hra2 hca2 heq; exact nomatch (show (none : Option (Int × Int × Int)) = some r from heq)
  | succ k ih =>
    intro H w a0 a1 a2 Aa2 ca2 v_passed9 v28 hH hE hra2 hca2 heq
    rw [trials_Tried.l17] at heq
    refine RunL.adm 1 (es' := [.c [1, 1, 1, 1, 0, 1, 0, 0, 0], .c [1, 1, 1, 1, 0, 1, 0, 0, 1], .l [1, 1, 1, 1, 0, 1, 0, 0], .b 0, .c [1, 1, 1, 1, 1]]) (by kernel_rfl) ?_
    refine RunL.reg (by kernel_rfl) ?_
    refine RgL.runk 1 [0, 1, 9, 26, 27, 28, 29] (vs := []) (evs := []) (L' := [(0, .int .i64 a0), (1, .int .i64 a1), (9, .int .i64 v_passed9), (26, .slice Aa2 a2.length ca2), (27, .int .i64 (a2.length : Int)), (28, .int .i64 v28), (29, .bool (decide (v28 < (a2.length : Int))))]) (by kernel_rfl) (by kernel_rfl) trivial ?_
    refine RgL.done (by kernel_rfl) ?_
    refine RunL.adm 1 (es' := [.c [1, 1, 1, 1, 0, 1, 0, 0, 1, 0], .c [1, 1, 1, 1, 0, 1, 0, 0, 1, 1], .l [1, 1, 1, 1, 0, 1, 0, 0], .b 0, .c [1, 1, 1, 1, 1]]) (by kernel_rfl) ?_
    rcases bool_cases (decide (v28 < (a2.length : Int))) with hb19 | hb19
    · replace heq := bif_true hb19 heq
      refine RunL.condT (c := decide (v28 < (a2.length : Int))) (by kernel_rfl) hb19 ?_
      refine RunL.adm 4 (es' := [.c [1, 1, 1, 1, 0, 1, 0, 0, 1, 1, 0, 0, 0], .c [1, 1, 1, 1, 0, 1, 0, 0, 1, 1, 0, 0, 1], .b 1, .c [1, 1, 1, 1, 0, 1, 0, 0, 1, 1, 1], .l [1, 1, 1, 1, 0, 1, 0, 0], .b 0, .c [1, 1, 1, 1, 1]]) (by kernel_rfl) ?_
      refine RunL.reg (by kernel_rfl) ?_
      obtain ⟨x20, hx20, heq⟩ := bind_some heq
      obtain ⟨ad21, rfl⟩ := hra2.addr hx20
      obtain ⟨csx20, hKx20, hcx20⟩ := hra2.get hx20
      obtain rfl : csx20 = [.bool x20] := hKx20
      refine RgL.runk 5 [0, 1, 9, 10, 11, 26, 27, 28] (vs := [.bool x20]) (evs := [.need (0 ≤ v28 ∧ v28 < (a2.length : Int)), .load (ad21.add (v28.toNat * 1)) (.bool x20)]) (L' := [(0, .int .i64 a0), (1, .int .i64 a1), (9, .int .i64 v_passed9), (10, .int .i64 v28), (11, .bool x20), (26, .slice (some ad21) a2.length ca2), (27, .int .i64 (a2.length : Int)), (28, .int .i64 v28)]) (by kernel_rfl) (by kernel_rfl) ⟨⟨(at?_some hx20).1, (at?_some hx20).2.1⟩, hcx20 _ hH 0 _ rfl⟩ ?_
      refine RgL.done (by kernel_rfl) ?_
      refine RunL.adm 2 (es' := [.c [1, 1, 1, 1, 0, 1, 0, 0, 1, 1, 0, 0, 1, 0, 0], .c [1, 1, 1, 1, 0, 1, 0, 0, 1, 1, 0, 0, 1, 0, 1], .c [1, 1, 1, 1, 0, 1, 0, 0, 1, 1, 0, 0, 1, 1], .b 1, .c [1, 1, 1, 1, 0, 1, 0, 0, 1, 1, 1], .l [1, 1, 1, 1, 0, 1, 0, 0], .b 0, .c [1, 1, 1, 1, 1]]) (by kernel_rfl) ?_
      refine RunL.reg (by kernel_rfl) ?_
      refine RgL.runk 1 [0, 1, 9, 10, 26, 27, 28, 33] (vs := []) (evs := []) (L' := [(0, .int .i64 a0), (1, .int .i64 a1), (9, .int .i64 v_passed9), (10, .int .i64 v28), (26, .slice (some ad21) a2.length ca2), (27, .int .i64 (a2.length : Int)), (28, .int .i64 v28), (33, .bool x20)]) (by kernel_rfl) (by kernel_rfl) trivial ?_
      refine RgL.done (by kernel_rfl) ?_
      rcases bool_cases (x20) with hb40 | hb40
      · replace heq := bif_true hb40 heq
        refine RunL.condT (c := x20) (by kernel_rfl) hb40 ?_
        refine RunL.reg (by kernel_rfl) ?_
        refine RgL.runk 3 [0, 1, 9, 10, 26, 27, 28] (vs := []) (evs := []) (L' := [(0, .int .i64 a0), (1, .int .i64 a1), (9, .int .i64 (w64 (v_passed9 + 1))), (10, .int .i64 v28), (26, .slice (some ad21) a2.length ca2), (27, .int .i64 (a2.length : Int)), (28, .int .i64 v28)]) (by kernel_rfl) (by kernel_rfl) trivial ?_
        refine RgL.done (by kernel_rfl) ?_
        refine RunL.adm 1 (es' := [.c [1, 1, 1, 1, 0, 1, 0, 0, 1, 1, 0, 0, 1, 1, 0], .c [1, 1, 1, 1, 0, 1, 0, 0, 1, 1, 0, 0, 1, 1, 1], .b 1, .c [1, 1, 1, 1, 0, 1, 0, 0, 1, 1, 1], .l [1, 1, 1, 1, 0, 1, 0, 0], .b 0, .c [1, 1, 1, 1, 1]]) (by kernel_rfl) ?_
        refine RunL.keep [0, 1, 9, 10, 26, 27, 28] (L' := [(0, .int .i64 a0), (1, .int .i64 a1), (9, .int .i64 (w64 (v_passed9 + 1))), (10, .int .i64 v28), (26, .slice (some ad21) a2.length ca2), (27, .int .i64 (a2.length : Int)), (28, .int .i64 v28)]) (by kernel_rfl) ?_
        exact (trials_Tried.j24_c (trials_Tried.l17 e15 k) ih) _ _ _ _ _ _ _ _ _ hH hE hra2 hca2 heq
      · replace heq := bif_false hb40 heq
        refine RunL.condF (c := x20) (by kernel_rfl) hb40 ?_
        refine RunL.adm 2 (es' := [.c [1, 1, 1, 1, 0, 1, 0, 0, 1, 1, 0, 0, 1, 1, 0], .c [1, 1, 1, 1, 0, 1, 0, 0, 1, 1, 0, 0, 1, 1, 1], .b 1, .c [1, 1, 1, 1, 0, 1, 0, 0, 1, 1, 1], .l [1, 1, 1, 1, 0, 1, 0, 0], .b 0, .c [1, 1, 1, 1, 1]]) (by kernel_rfl) ?_
        refine RunL.keep [0, 1, 9, 10, 26, 27, 28] (L' := [(0, .int .i64 a0), (1, .int .i64 a1), (9, .int .i64 v_passed9), (10, .int .i64 v28), (26, .slice (some ad21) a2.length ca2), (27, .int .i64 (a2.length : Int)), (28, .int .i64 v28)]) (by kernel_rfl) ?_
        exact (trials_Tried.j24_c (trials_Tried.l17 e15 k) ih) _ _ _ _ _ _ _ _ _ hH hE hra2 hca2 heq
    · replace heq := bif_false hb19 heq
      refine RunL.condF (c := decide (v28 < (a2.length : Int))) (by kernel_rfl) hb19 ?_
      refine RunL.adm 2 (es' := [.c [1, 1, 1, 1, 1, 0], .c [1, 1, 1, 1, 1, 1]]) (by kernel_rfl) ?_
      refine RunL.keep [0] (L' := [(0, .int .i64 a0)]) (by kernel_rfl) ?_
      exact he15 _ _ _ hH hE  heq
theorem trials_Tried_c {w0 : World} {H : Hp} {a0 : Int} {a1 : Int} {a2 : List Bool} {Aa2 : Option Addr} {ca2 : Nat} {r : Int × Int × Int} (hH : Sub H w0) (hra2 : Kd.Row Kd.bool H Aa2 a2) (hca2 : a2.length ≤ ca2) (heq : trials_Tried.f a0 a1 a2 = some r) : Calls Try.prog 7 #[.int .i64 a0, .int .i64 a1, .slice Aa2 a2.length ca2] w0 (Ret (S7 w0 r)) := by
  refine calls_of_runL (F := C7) Try.func7 (by kernel_rfl) Try.ntmps7 (args := [.int .i64 a0, .int .i64 a1, .slice Aa2 a2.length ca2]) (by kernel_rfl) ?_
  unfold trials_Tried.f at heq
  suffices h : ∀ w, Ext w0 w → Sub H w → RunL C7 (Ret (S7 w0 r)) [.c []] (argL 0 [.int .i64 a0, .int .i64 a1, .slice Aa2 a2.length ca2]) w from h w0 (Ext.refl w0) hH
  clear hH
  intro w hE hH
  refine RunL.adm 1 (es' := [.c [0], .c [1]]) (by kernel_rfl) ?_
  refine RunL.reg (by kernel_rfl) ?_
  refine RgL.runk 3 [0, 1, 2] (vs := []) (evs := []) (L' := [(0, .int .i64 a0), (1, .int .i64 a1), (2, .slice Aa2 a2.length ca2)]) (by kernel_rfl) (by kernel_rfl) trivial ?_
  refine RgL.done (by kernel_rfl) ?_
  refine RunL.adm 2 (es' := [.c [1, 0, 0], .c [1, 0, 1], .c [1, 1]]) (by kernel_rfl) ?_
  refine RunL.reg (by kernel_rfl) ?_
  obtain ⟨t5, ht6, heq⟩ := bind_some heq
  have K7 : ∀ w2, Ext w w2 → RunL C7 (Ret (S7 w0 r)) [.c [1, 0, 1], .c [1, 1]] [(0, .int .i64 a0), (1, .int .i64 a1), (2, .slice Aa2 a2.length ca2), (21, .bool t5)] w2 := by
    intro w hx
    replace hH := hH.ext hx
    replace hE := hE.then hx
    rcases bool_cases (t5) with hb8 | hb8
    · replace heq := bif_true hb8 heq
      refine RunL.condT (c := t5) (by kernel_rfl) hb8 ?_
      refine RunL.adm 1 (es' := [.c [1, 0, 1, 0, 0], .c [1, 0, 1, 0, 1], .c [1, 1]]) (by kernel_rfl) ?_
      refine RunL.reg (by kernel_rfl) ?_
      refine RgL.runk 3 [6, 7, 8] (vs := []) (evs := []) (L' := [(6, .int .i64 0), (7, .int .i64 0), (8, .int .i64 1)]) (by kernel_rfl) (by kernel_rfl) trivial ?_
      refine RgL.done (by kernel_rfl) ?_
      obtain rfl := Option.some.inj heq
      exact RunL.done (by kernel_rfl) Try.func7 (v := .tuple #[.int .i64 0, .int .i64 0, .int .i64 1]) (by kernel_rfl) ⟨hE, rfl⟩
    · replace heq := bif_false hb8 heq
      refine RunL.condF (c := t5) (by kernel_rfl) hb8 ?_
      refine RunL.adm 3 (es' := [.c [1, 1, 0, 0], .c [1, 1, 0, 1], .c [1, 1, 1]]) (by kernel_rfl) ?_
      refine RunL.reg (by kernel_rfl) ?_
      refine RgL.runk 4 [0, 1, 2, 25] (vs := []) (evs := []) (L' := [(0, .int .i64 a0), (1, .int .i64 a1), (2, .slice Aa2 a2.length ca2), (25, .bool ((a2.length : Int) != a0))]) (by kernel_rfl) (by kernel_rfl) trivial ?_
      refine RgL.done (by kernel_rfl) ?_
      rcases bool_cases ((a2.length : Int) != a0) with hb11 | hb11
      · replace heq := bif_true hb11 heq
        refine RunL.condT (c := (a2.length : Int) != a0) (by kernel_rfl) hb11 ?_
        refine RunL.adm 1 (es' := [.c [1, 1, 0, 1, 0, 0], .c [1, 1, 0, 1, 0, 1], .c [1, 1, 1]]) (by kernel_rfl) ?_
        refine RunL.reg (by kernel_rfl) ?_
        refine RgL.runk 3 [6, 7, 8] (vs := []) (evs := []) (L' := [(6, .int .i64 0), (7, .int .i64 0), (8, .int .i64 3)]) (by kernel_rfl) (by kernel_rfl) trivial ?_
        refine RgL.done (by kernel_rfl) ?_
        obtain rfl := Option.some.inj heq
        exact RunL.done (by kernel_rfl) Try.func7 (v := .tuple #[.int .i64 0, .int .i64 0, .int .i64 3]) (by kernel_rfl) ⟨hE, rfl⟩
      · replace heq := bif_false hb11 heq
        refine RunL.condF (c := (a2.length : Int) != a0) (by kernel_rfl) hb11 ?_
        refine RunL.adm 2 (es' := [.c [1, 1, 1, 0], .c [1, 1, 1, 1]]) (by kernel_rfl) ?_
        refine RunL.reg (by kernel_rfl) ?_
        refine RgL.runk 1 [0, 1, 2, 9] (vs := []) (evs := []) (L' := [(0, .int .i64 a0), (1, .int .i64 a1), (2, .slice Aa2 a2.length ca2), (9, .int .i64 0)]) (by kernel_rfl) (by kernel_rfl) trivial ?_
        refine RgL.done (by kernel_rfl) ?_
        refine RunL.adm 2 (es' := [.c [1, 1, 1, 1, 0, 0], .c [1, 1, 1, 1, 0, 1], .c [1, 1, 1, 1, 1]]) (by kernel_rfl) ?_
        refine RunL.reg (by kernel_rfl) ?_
        refine RgL.runk 3 [0, 1, 9, 26, 27, 28] (vs := []) (evs := []) (L' := [(0, .int .i64 a0), (1, .int .i64 a1), (9, .int .i64 0), (26, .slice Aa2 a2.length ca2), (27, .int .i64 (a2.length : Int)), (28, .int .i64 0)]) (by kernel_rfl) (by kernel_rfl) trivial ?_
        refine RgL.done (by kernel_rfl) ?_
        refine RunL.adm 2 (es' := [.c [1, 1, 1, 1, 0, 1, 0, 0], .l [1, 1, 1, 1, 0, 1, 0, 0], .b 0, .c [1, 1, 1, 1, 1]]) (by kernel_rfl) ?_
        refine RunL.keep [0, 1, 9, 26, 27, 28] (L' := [(0, .int .i64 a0), (1, .int .i64 a1), (9, .int .i64 0), (26, .slice Aa2 a2.length ca2), (27, .int .i64 (a2.length : Int)), (28, .int .i64 0)]) (by kernel_rfl) ?_
        exact (trials_Tried.l17_c trials_Tried.e15 (trials_Tried.e15_c)) (((a2.length : Int) - 0).toNat + 1) _ _ _ _ _ _ _ _ _ hH hE hra2 hca2 heq
  replace heq := ht6
  have hE0 := Ext.refl w
  refine RgL.runk 1 [0, 1, 2, 13] (vs := []) (evs := []) (L' := [(0, .int .i64 a0), (1, .int .i64 a1), (2, .slice Aa2 a2.length ca2), (13, .int .i64 a0)]) (by kernel_rfl) (by kernel_rfl) trivial ?_
  obtain ⟨y2, hy2, heq⟩ := bind_some heq
  refine RgL.call (d := some 14) (g := 19) (args := #[.int .i64 a0, .int .i64 1, .int .i64 100]) (by kernel_rfl) (trials_within_c hH  hy2) ?_
  rintro _ w ⟨hx42, rfl⟩
  replace hH := hH.ext hx42
  replace hE := hE.then hx42
  try replace hE0 := hE0.then hx42
  refine RgL.runk 4 [16, 0, 1, 2] (vs := []) (evs := []) (L' := [(16, .bool (!y2)), (0, .int .i64 a0), (1, .int .i64 a1), (2, .slice Aa2 a2.length ca2)]) (by kernel_rfl) (by kernel_rfl) trivial ?_
  rcases bool_cases (!y2) with hb43 | hb43
  · replace heq := bif_true hb43 heq
    refine RgL.bool1 hb43 ?_
    refine RgL.runk 9 [0, 1, 2, 21] (vs := []) (evs := []) (L' := [(0, .int .i64 a0), (1, .int .i64 a1), (2, .slice Aa2 a2.length ca2), (21, .bool true)]) (by kernel_rfl) (by kernel_rfl) trivial ?_
    obtain rfl := Option.some.inj heq
    refine RgL.keep [0, 1, 2, 21] (L' := [(0, .int .i64 a0), (1, .int .i64 a1), (2, .slice Aa2 a2.length ca2), (21, .bool true)]) (by kernel_rfl) ?_
    exact RgL.done (by kernel_rfl) (K7 _ hE0)
  · replace heq := bif_false hb43 heq
    refine RgL.bool1 hb43 ?_
    refine RgL.runk 6 [0, 1, 2, 16, 17, 18] (vs := []) (evs := []) (L' := [(0, .int .i64 a0), (1, .int .i64 a1), (2, .slice Aa2 a2.length ca2), (16, .bool false), (17, .int .i64 a1), (18, .int .i64 a0)]) (by kernel_rfl) (by kernel_rfl) trivial ?_
    obtain ⟨y3, hy3, heq⟩ := bind_some heq
    refine RgL.call (d := some 19) (g := 19) (args := #[.int .i64 a1, .int .i64 1, .int .i64 a0]) (by kernel_rfl) (trials_within_c hH  hy3) ?_
    rintro _ w ⟨hx44, rfl⟩
    replace hH := hH.ext hx44
    replace hE := hE.then hx44
    try replace hE0 := hE0.then hx44
    refine RgL.runk 9 [0, 1, 2, 21] (vs := []) (evs := []) (L' := [(0, .int .i64 a0), (1, .int .i64 a1), (2, .slice Aa2 a2.length ca2), (21, .bool (!y3))]) (by kernel_rfl) (by kernel_rfl) trivial ?_
    obtain rfl := Option.some.inj heq
    refine RgL.keep [0, 1, 2, 21] (L' := [(0, .int .i64 a0), (1, .int .i64 a1), (2, .slice Aa2 a2.length ca2), (21, .bool (!y3))]) (by kernel_rfl) ?_
    exact RgL.done (by kernel_rfl) (K7 _ hE0)
noncomputable def C8 : Ctx := { P := Try.prog, f := 8, N := 20, c := bodyOf Try.f8 }
def S8 (w0 : World) (r : Bool) (v : Value) (w : World) : Prop := Ext w0 w ∧ v = .bool r
theorem smithyardlaw10_awake_c {w0 : World} {H : Hp} {r : Bool} (hH : Sub H w0) (heq : smithyardlaw10_awake.f = some r) : Calls Try.prog 8 (List.toArray []) w0 (Ret (S8 w0 r)) := by
  refine calls_of_runL (F := C8) Try.func8 (by kernel_rfl) Try.ntmps8 (args := []) (by kernel_rfl) ?_
  unfold smithyardlaw10_awake.f at heq
  suffices h : ∀ w, Ext w0 w → Sub H w → RunL C8 (Ret (S8 w0 r)) [.c []] (argL 0 []) w from h w0 (Ext.refl w0) hH
  clear hH
  intro w hE hH
  refine RunL.adm 1 (es' := [.c [0], .c [1]]) (by kernel_rfl) ?_
  refine RunL.reg (by kernel_rfl) ?_
  refine RgL.runk 1 [] (vs := []) (evs := []) (L' := []) (by kernel_rfl) (by kernel_rfl) trivial ?_
  refine RgL.done (by kernel_rfl) ?_
  refine RunL.adm 1 (es' := [.c [1, 0], .c [1, 1]]) (by kernel_rfl) ?_
  refine RunL.reg (by kernel_rfl) ?_
  refine RgL.new (d := some 5) (v := fun g => .slice (some ⟨g, 0, none⟩) ([false, true, true] : List Bool).length ([false, true, true] : List Bool).length) (o := fun g => .cells #[.bool false, .bool true, .bool true] 4 (0, 0)) (fun g => by kernel_rfl) ?_
  intro g2 w hgg2 hx5 hsg2 hbg2
  obtain ⟨H, hl, hH, hbH, hk⟩ := addH hH hx5 hgg2 hbg2
  replace hE := hE.then hx5
  try replace hE0 := hE0.then hx5
  have hrg2 : Kd.Row Kd.bool H (some ⟨g2, 0, none⟩) (([false, true, true] : List Bool) : List Bool) := Kd.Row.lit hbH (Kd.Rep.scalars rfl)
  clear hbH
  obtain ⟨y3, hy3, heq⟩ := bind_some heq
  refine RgL.call (d := some 6) (g := 7) (args := #[.int .i64 3, .int .i64 1, .slice (some ⟨g2, 0, none⟩) (([false, true, true] : List Bool).length) (([false, true, true] : List Bool).length)]) (by kernel_rfl) (trials_Tried_c hH hrg2 (Nat.le_refl _) hy3) ?_
  rintro _ w ⟨hx6, rfl⟩
  replace hH := hH.ext hx6
  replace hE := hE.then hx6
  try replace hE0 := hE0.then hx6
  refine RgL.runk 9 [1, 2, 3] (vs := []) (evs := []) (L' := [(1, .int .i64 y3.1), (2, .int .i64 y3.2.1), (3, .int .i64 y3.2.2)]) (by kernel_rfl) (by kernel_rfl) trivial ?_
  refine RgL.done (by kernel_rfl) ?_
  refine RunL.adm 1 (es' := [.c [1, 1, 0], .c [1, 1, 1]]) (by kernel_rfl) ?_
  refine RunL.reg (by kernel_rfl) ?_
  obtain ⟨t8, ht9, heq⟩ := bind_some heq
  have K10 : ∀ w2, Ext w w2 → RunL C8 (Ret (S8 w0 r)) [.c [1, 1, 1]] [(0, .bool t8)] w2 := by
    intro w hx
    replace hH := hH.ext hx
    replace hE := hE.then hx
    obtain rfl := Option.some.inj heq
    exact RunL.done (by kernel_rfl) Try.func8 (v := .bool t8) (by kernel_rfl) ⟨hE, rfl⟩
  replace heq := ht9
  have hE0 := Ext.refl w
  refine RgL.runk 3 [12, 1, 2] (vs := []) (evs := []) (L' := [(12, .bool (y3.2.2 == 0)), (1, .int .i64 y3.1), (2, .int .i64 y3.2.1)]) (by kernel_rfl) (by kernel_rfl) trivial ?_
  rcases bool_cases (y3.2.2 == 0) with hb11 | hb11
  · replace heq := bif_true hb11 heq
    refine RgL.bool1 hb11 ?_
    refine RgL.runk 7 [16, 2] (vs := []) (evs := []) (L' := [(16, .bool (y3.1 == 4)), (2, .int .i64 y3.2.1)]) (by kernel_rfl) (by kernel_rfl) trivial ?_
    rcases bool_cases (y3.1 == 4) with hb12 | hb12
    · replace heq := bif_true hb12 heq
      refine RgL.bool1 hb12 ?_
      refine RgL.runk 11 [0] (vs := []) (evs := []) (L' := [(0, .bool (y3.2.1 == 2))]) (by kernel_rfl) (by kernel_rfl) trivial ?_
      obtain rfl := Option.some.inj heq
      refine RgL.keep [0] (L' := [(0, .bool (y3.2.1 == 2))]) (by kernel_rfl) ?_
      exact RgL.done (by kernel_rfl) (K10 _ hE0)
    · replace heq := bif_false hb12 heq
      refine RgL.bool1 hb12 ?_
      refine RgL.runk 11 [0] (vs := []) (evs := []) (L' := [(0, .bool false)]) (by kernel_rfl) (by kernel_rfl) trivial ?_
      obtain rfl := Option.some.inj heq
      refine RgL.keep [0] (L' := [(0, .bool false)]) (by kernel_rfl) ?_
      exact RgL.done (by kernel_rfl) (K10 _ hE0)
  · replace heq := bif_false hb11 heq
    refine RgL.bool1 hb11 ?_
    refine RgL.runk 11 [0] (vs := []) (evs := []) (L' := [(0, .bool false)]) (by kernel_rfl) (by kernel_rfl) trivial ?_
    obtain rfl := Option.some.inj heq
    refine RgL.keep [0] (L' := [(0, .bool false)]) (by kernel_rfl) ?_
    exact RgL.done (by kernel_rfl) (K10 _ hE0)
noncomputable def C6 : Ctx := { P := Try.prog, f := 6, N := 84, c := bodyOf Try.f6 }
def S6 (w0 : World) (r : Bool) (v : Value) (w : World) : Prop := Ext w0 w ∧ v = .bool r
theorem smithyardlaw10_TrialsProbesMatchSpec_c {w0 : World} {H : Hp} {a0 : Int} {a1 : List Probe} {Aa1 : Option Addr} {ca1 : Nat} {a2 : Int} {r : Bool} (hH : Sub H w0) (hra1 : Kd.Row kProbe H Aa1 a1) (hca1 : a1.length ≤ ca1) (heq : smithyardlaw10_TrialsProbesMatchSpec.f a0 a1 a2 = some r) : Calls Try.prog 6 #[.int .i64 a0, .slice Aa1 a1.length ca1, .int .i64 a2] w0 (Ret (S6 w0 r)) := by
  refine calls_of_runL (F := C6) Try.func6 (by kernel_rfl) Try.ntmps6 (args := [.int .i64 a0, .slice Aa1 a1.length ca1, .int .i64 a2]) (by kernel_rfl) ?_
  unfold smithyardlaw10_TrialsProbesMatchSpec.f at heq
  suffices h : ∀ w, Ext w0 w → Sub H w → RunL C6 (Ret (S6 w0 r)) [.c []] (argL 0 [.int .i64 a0, .slice Aa1 a1.length ca1, .int .i64 a2]) w from h w0 (Ext.refl w0) hH
  clear hH
  intro w hE hH
  refine RunL.adm 1 (es' := [.c [0], .c [1]]) (by kernel_rfl) ?_
  refine RunL.reg (by kernel_rfl) ?_
  refine RgL.runk 1 [0, 1, 2] (vs := []) (evs := []) (L' := [(0, .int .i64 a0), (1, .slice Aa1 a1.length ca1), (2, .int .i64 a2)]) (by kernel_rfl) (by kernel_rfl) trivial ?_
  refine RgL.done (by kernel_rfl) ?_
  refine RunL.adm 1 (es' := [.c [1, 0], .c [1, 1]]) (by kernel_rfl) ?_
  refine RunL.reg (by kernel_rfl) ?_
  refine RgL.runk 1 [0, 1, 2, 18] (vs := []) (evs := []) (L' := [(0, .int .i64 a0), (1, .slice Aa1 a1.length ca1), (2, .int .i64 a2), (18, .slice Aa1 a1.length ca1)]) (by kernel_rfl) (by kernel_rfl) trivial ?_
  obtain ⟨y2, hy2, heq⟩ := bind_some heq
  refine RgL.call (d := some 19) (g := 15) (args := #[.slice Aa1 a1.length ca1]) (by kernel_rfl) (slices_Clone_Probe_c hH hra1 hca1 hy2) ?_
  rintro _ w ⟨hx4, H, Ay2_0, cy2_0, hX5, rfl, hoy2_0⟩
  replace hoy2_0 := hoy2_0.base hE.size
  have hl := hX5.le
  have hk := hX5.none
  replace hH := hX5.sub
  replace hE := hE.then hx4
  try replace hE0 := hE0.then hx4
  replace hra1 := hra1.mono hl
  refine RgL.runk 3 [0, 1, 2, 7] (vs := []) (evs := []) (L' := [(0, .int .i64 a0), (1, .slice Aa1 a1.length ca1), (2, .int .i64 a2), (7, .slice Ay2_0 y2.length cy2_0)]) (by kernel_rfl) (by kernel_rfl) trivial ?_
  refine RgL.done (by kernel_rfl) ?_
  refine RunL.adm 1 (es' := [.c [1, 1, 0], .c [1, 1, 1]]) (by kernel_rfl) ?_
  refine RunL.reg (by kernel_rfl) ?_
  refine RgL.runk 2 [0, 1, 2, 7, 21, 22] (vs := []) (evs := []) (L' := [(0, .int .i64 a0), (1, .slice Aa1 a1.length ca1), (2, .int .i64 a2), (7, .slice Ay2_0 y2.length cy2_0), (21, .int .i64 a0), (22, .slice Aa1 a1.length ca1)]) (by kernel_rfl) (by kernel_rfl) trivial ?_
  obtain ⟨y6, hy6, heq⟩ := bind_some heq
  refine RgL.call (d := some 23) (g := 14) (args := #[.int .i64 a0, .slice Aa1 a1.length ca1]) (by kernel_rfl) (trials_Suspects_c hH hra1 hca1 hy6) ?_
  rintro _ w ⟨hx8, rfl⟩
  replace hoy2_0 := hoy2_0.ext hx8
  replace hH := hH.ext hx8
  replace hE := hE.then hx8
  try replace hE0 := hE0.then hx8
  refine RgL.runk 10 [0, 1, 2, 7, 8, 9, 10] (vs := []) (evs := []) (L' := [(0, .int .i64 a0), (1, .slice Aa1 a1.length ca1), (2, .int .i64 a2), (7, .slice Ay2_0 y2.length cy2_0), (8, .int .i64 y6.1), (9, .int .i64 y6.2.1), (10, .int .i64 y6.2.2)]) (by kernel_rfl) (by kernel_rfl) trivial ?_
  refine RgL.done (by kernel_rfl) ?_
  refine RunL.adm 1 (es' := [.c [1, 1, 1, 0], .c [1, 1, 1, 1]]) (by kernel_rfl) ?_
  refine RunL.reg (by kernel_rfl) ?_
  refine RgL.runk 2 [0, 1, 2, 7, 8, 9, 10, 28, 29] (vs := []) (evs := []) (L' := [(0, .int .i64 a0), (1, .slice Aa1 a1.length ca1), (2, .int .i64 a2), (7, .slice Ay2_0 y2.length cy2_0), (8, .int .i64 y6.1), (9, .int .i64 y6.2.1), (10, .int .i64 y6.2.2), (28, .int .i64 a0), (29, .slice Ay2_0 y2.length cy2_0)]) (by kernel_rfl) (by kernel_rfl) trivial ?_
  obtain ⟨y9, hy9, heq⟩ := bind_some heq
  obtain ⟨HL11, hlL11, hHL11, hrL11⟩ := hoy2_0.lend hH
  refine RgL.call (d := some 30) (g := 16) (args := #[.int .i64 a0, .slice Ay2_0 y2.length cy2_0]) (by kernel_rfl) (smithyardref10_Suspects_c hHL11 hrL11 hoy2_0.cap hy9) ?_
  rintro _ w ⟨hx12, rfl⟩
  replace hoy2_0 := hoy2_0.ext hx12
  replace hH := hH.ext hx12
  replace hE := hE.then hx12
  try replace hE0 := hE0.then hx12
  refine RgL.runk 10 [0, 1, 2, 7, 8, 9, 10, 11, 12, 13] (vs := []) (evs := []) (L' := [(0, .int .i64 a0), (1, .slice Aa1 a1.length ca1), (2, .int .i64 a2), (7, .slice Ay2_0 y2.length cy2_0), (8, .int .i64 y6.1), (9, .int .i64 y6.2.1), (10, .int .i64 y6.2.2), (11, .int .i64 y9.1), (12, .int .i64 y9.2.1), (13, .int .i64 y9.2.2)]) (by kernel_rfl) (by kernel_rfl) trivial ?_
  refine RgL.done (by kernel_rfl) ?_
  refine RunL.adm 2 (es' := [.c [1, 1, 1, 1, 0, 0], .c [1, 1, 1, 1, 0, 1], .c [1, 1, 1, 1, 1]]) (by kernel_rfl) ?_
  refine RunL.reg (by kernel_rfl) ?_
  obtain ⟨t14, ht15, heq⟩ := bind_some heq
  have K16 : ∀ w2, Ext w w2 → RunL C6 (Ret (S6 w0 r)) [.c [1, 1, 1, 1, 0, 1], .c [1, 1, 1, 1, 1]] [(0, .int .i64 a0), (1, .slice Aa1 a1.length ca1), (2, .int .i64 a2), (7, .slice Ay2_0 y2.length cy2_0), (46, .bool t14)] w2 := by
    intro w hx
    replace hoy2_0 := hoy2_0.ext hx
    replace hH := hH.ext hx
    replace hE := hE.then hx
    rcases bool_cases (t14) with hb17 | hb17
    · replace heq := bif_true hb17 heq
      refine RunL.condT (c := t14) (by kernel_rfl) hb17 ?_
      refine RunL.adm 1 (es' := [.c [1, 1, 1, 1, 0, 1, 0, 0], .c [1, 1, 1, 1, 0, 1, 0, 1], .c [1, 1, 1, 1, 1]]) (by kernel_rfl) ?_
      refine RunL.reg (by kernel_rfl) ?_
      refine RgL.runk 1 [6] (vs := []) (evs := []) (L' := [(6, .bool false)]) (by kernel_rfl) (by kernel_rfl) trivial ?_
      refine RgL.done (by kernel_rfl) ?_
      obtain rfl := Option.some.inj heq
      exact RunL.done (by kernel_rfl) Try.func6 (v := .bool false) (by kernel_rfl) ⟨hE, rfl⟩
    · replace heq := bif_false hb17 heq
      refine RunL.condF (c := t14) (by kernel_rfl) hb17 ?_
      refine RunL.adm 2 (es' := [.c [1, 1, 1, 1, 1, 0], .c [1, 1, 1, 1, 1, 1]]) (by kernel_rfl) ?_
      refine RunL.reg (by kernel_rfl) ?_
      refine RgL.runk 3 [0, 1, 2, 7, 48, 49, 50] (vs := []) (evs := []) (L' := [(0, .int .i64 a0), (1, .slice Aa1 a1.length ca1), (2, .int .i64 a2), (7, .slice Ay2_0 y2.length cy2_0), (48, .int .i64 a0), (49, .slice Aa1 a1.length ca1), (50, .int .i64 a2)]) (by kernel_rfl) (by kernel_rfl) trivial ?_
      obtain ⟨y19, hy19, heq⟩ := bind_some heq
      refine RgL.call (d := some 51) (g := 13) (args := #[.int .i64 a0, .slice Aa1 a1.length ca1, .int .i64 a2]) (by kernel_rfl) (trials_NextProbe_c hH hra1 hca1 hy19) ?_
      rintro _ w ⟨hx21, rfl⟩
      replace hoy2_0 := hoy2_0.ext hx21
      replace hH := hH.ext hx21
      replace hE := hE.then hx21
      try replace hE0 := hE0.then hx21
      refine RgL.runk 11 [0, 1, 2, 7, 10, 14, 15] (vs := []) (evs := []) (L' := [(0, .int .i64 a0), (1, .slice Aa1 a1.length ca1), (2, .int .i64 a2), (7, .slice Ay2_0 y2.length cy2_0), (10, .int .i64 y19.2.2), (14, .int .i64 y19.1), (15, .bool y19.2.1)]) (by kernel_rfl) (by kernel_rfl) trivial ?_
      refine RgL.done (by kernel_rfl) ?_
      refine RunL.adm 1 (es' := [.c [1, 1, 1, 1, 1, 1, 0], .c [1, 1, 1, 1, 1, 1, 1]]) (by kernel_rfl) ?_
      refine RunL.reg (by kernel_rfl) ?_
      refine RgL.runk 3 [1, 7, 10, 14, 15, 56, 57, 58] (vs := []) (evs := []) (L' := [(1, .slice Aa1 a1.length ca1), (7, .slice Ay2_0 y2.length cy2_0), (10, .int .i64 y19.2.2), (14, .int .i64 y19.1), (15, .bool y19.2.1), (56, .int .i64 a0), (57, .slice Ay2_0 y2.length cy2_0), (58, .int .i64 a2)]) (by kernel_rfl) (by kernel_rfl) trivial ?_
      obtain ⟨y22, hy22, heq⟩ := bind_some heq
      obtain ⟨HL24, hlL24, hHL24, hrL24⟩ := hoy2_0.lend hH
      refine RgL.call (d := some 59) (g := 17) (args := #[.int .i64 a0, .slice Ay2_0 y2.length cy2_0, .int .i64 a2]) (by kernel_rfl) (smithyardref10_NextProbe_c hHL24 hrL24 hoy2_0.cap hy22) ?_
      rintro _ w ⟨hx25, rfl⟩
      replace hoy2_0 := hoy2_0.ext hx25
      replace hH := hH.ext hx25
      replace hE := hE.then hx25
      try replace hE0 := hE0.then hx25
      refine RgL.runk 11 [1, 7, 10, 13, 14, 15, 16, 17] (vs := []) (evs := []) (L' := [(1, .slice Aa1 a1.length ca1), (7, .slice Ay2_0 y2.length cy2_0), (10, .int .i64 y19.2.2), (13, .int .i64 y22.2.2), (14, .int .i64 y19.1), (15, .bool y19.2.1), (16, .int .i64 y22.1), (17, .bool y22.2.1)]) (by kernel_rfl) (by kernel_rfl) trivial ?_
      refine RgL.done (by kernel_rfl) ?_
      refine RunL.adm 1 (es' := [.c [1, 1, 1, 1, 1, 1, 1, 0], .c [1, 1, 1, 1, 1, 1, 1, 1]]) (by kernel_rfl) ?_
      refine RunL.reg (by kernel_rfl) ?_
      obtain ⟨t29, ht30, heq⟩ := bind_some heq
      have K31 : ∀ w2, Ext w w2 → RunL C6 (Ret (S6 w0 r)) [.c [1, 1, 1, 1, 1, 1, 1, 1]] [(6, .bool t29)] w2 := by
        intro w hx
        replace hoy2_0 := hoy2_0.ext hx
        replace hH := hH.ext hx
        replace hE := hE.then hx
        obtain rfl := Option.some.inj heq
        exact RunL.done (by kernel_rfl) Try.func6 (v := .bool t29) (by kernel_rfl) ⟨hE, rfl⟩
      replace heq := ht30
      have hE0 := Ext.refl w
      refine RgL.runk 4 [66, 1, 7, 14, 15, 16, 17] (vs := []) (evs := []) (L' := [(66, .bool (y19.2.2 == y22.2.2)), (1, .slice Aa1 a1.length ca1), (7, .slice Ay2_0 y2.length cy2_0), (14, .int .i64 y19.1), (15, .bool y19.2.1), (16, .int .i64 y22.1), (17, .bool y22.2.1)]) (by kernel_rfl) (by kernel_rfl) trivial ?_
      rcases bool_cases (y19.2.2 == y22.2.2) with hb32 | hb32
      · replace heq := bif_true hb32 heq
        refine RgL.bool1 hb32 ?_
        refine RgL.runk 9 [71, 1, 7, 15, 17] (vs := []) (evs := []) (L' := [(71, .bool (y19.1 == y22.1)), (1, .slice Aa1 a1.length ca1), (7, .slice Ay2_0 y2.length cy2_0), (15, .bool y19.2.1), (17, .bool y22.2.1)]) (by kernel_rfl) (by kernel_rfl) trivial ?_
        rcases bool_cases (y19.1 == y22.1) with hb33 | hb33
        · replace heq := bif_true hb33 heq
          refine RgL.bool1 hb33 ?_
          refine RgL.runk 14 [76, 1, 7] (vs := []) (evs := []) (L' := [(76, .bool (y19.2.1 == y22.2.1)), (1, .slice Aa1 a1.length ca1), (7, .slice Ay2_0 y2.length cy2_0)]) (by kernel_rfl) (by kernel_rfl) trivial ?_
          rcases bool_cases (y19.2.1 == y22.2.1) with hb34 | hb34
          · replace heq := bif_true hb34 heq
            refine RgL.bool1 hb34 ?_
            refine RgL.runk 16 [76, 77, 78] (vs := []) (evs := []) (L' := [(76, .bool true), (77, .slice Aa1 a1.length ca1), (78, .slice Ay2_0 y2.length cy2_0)]) (by kernel_rfl) (by kernel_rfl) trivial ?_
            obtain ⟨y26, hy26, heq⟩ := bind_some heq
            obtain ⟨HL35, hlL35, hHL35, hrL35⟩ := hoy2_0.lend hH
            refine RgL.call (d := some 79) (g := 18) (args := #[.slice Aa1 a1.length ca1, .slice Ay2_0 y2.length cy2_0]) (by kernel_rfl) (slices_Equal_Probe_c hHL35 (hra1.mono hlL35) hca1 hrL35 hoy2_0.cap hy26) ?_
            rintro _ w ⟨hx36, rfl⟩
            replace hoy2_0 := hoy2_0.ext hx36
            replace hH := hH.ext hx36
            replace hE := hE.then hx36
            try replace hE0 := hE0.then hx36
            refine RgL.runk 19 [81] (vs := []) (evs := []) (L' := [(81, .bool y26)]) (by kernel_rfl) (by kernel_rfl) trivial ?_
            rcases bool_cases (y26) with hb37 | hb37
            · replace heq := bif_true hb37 heq
              refine RgL.bool1 hb37 ?_
              obtain ⟨y27, hy27, heq⟩ := bind_some heq
              refine RgL.call (d := some 82) (g := 8) (args := (List.toArray [])) (by kernel_rfl) (smithyardlaw10_awake_c hH  hy27) ?_
              rintro _ w ⟨hx38, rfl⟩
              replace hH := hH.ext hx38
              replace hE := hE.then hx38
              try replace hE0 := hE0.then hx38
              refine RgL.runk 22 [6] (vs := []) (evs := []) (L' := [(6, .bool y27)]) (by kernel_rfl) (by kernel_rfl) trivial ?_
              obtain rfl := Option.some.inj heq
              refine RgL.keep [6] (L' := [(6, .bool y27)]) (by kernel_rfl) ?_
              exact RgL.done (by kernel_rfl) (K31 _ hE0)
            · replace heq := bif_false hb37 heq
              refine RgL.bool1 hb37 ?_
              refine RgL.runk 22 [6] (vs := []) (evs := []) (L' := [(6, .bool false)]) (by kernel_rfl) (by kernel_rfl) trivial ?_
              obtain rfl := Option.some.inj heq
              refine RgL.keep [6] (L' := [(6, .bool false)]) (by kernel_rfl) ?_
              exact RgL.done (by kernel_rfl) (K31 _ hE0)
          · replace heq := bif_false hb34 heq
            refine RgL.bool1 hb34 ?_
            refine RgL.runk 22 [6] (vs := []) (evs := []) (L' := [(6, .bool false)]) (by kernel_rfl) (by kernel_rfl) trivial ?_
            obtain rfl := Option.some.inj heq
            refine RgL.keep [6] (L' := [(6, .bool false)]) (by kernel_rfl) ?_
            exact RgL.done (by kernel_rfl) (K31 _ hE0)
        · replace heq := bif_false hb33 heq
          refine RgL.bool1 hb33 ?_
          refine RgL.runk 22 [6] (vs := []) (evs := []) (L' := [(6, .bool false)]) (by kernel_rfl) (by kernel_rfl) trivial ?_
          obtain rfl := Option.some.inj heq
          refine RgL.keep [6] (L' := [(6, .bool false)]) (by kernel_rfl) ?_
          exact RgL.done (by kernel_rfl) (K31 _ hE0)
      · replace heq := bif_false hb32 heq
        refine RgL.bool1 hb32 ?_
        refine RgL.runk 22 [6] (vs := []) (evs := []) (L' := [(6, .bool false)]) (by kernel_rfl) (by kernel_rfl) trivial ?_
        obtain rfl := Option.some.inj heq
        refine RgL.keep [6] (L' := [(6, .bool false)]) (by kernel_rfl) ?_
        exact RgL.done (by kernel_rfl) (K31 _ hE0)
  replace heq := ht15
  have hE0 := Ext.refl w
  refine RgL.runk 4 [37, 0, 1, 2, 7, 8, 9, 11, 12] (vs := []) (evs := []) (L' := [(37, .bool (y6.2.2 != y9.2.2)), (0, .int .i64 a0), (1, .slice Aa1 a1.length ca1), (2, .int .i64 a2), (7, .slice Ay2_0 y2.length cy2_0), (8, .int .i64 y6.1), (9, .int .i64 y6.2.1), (11, .int .i64 y9.1), (12, .int .i64 y9.2.1)]) (by kernel_rfl) (by kernel_rfl) trivial ?_
  rcases bool_cases (y6.2.2 != y9.2.2) with hb39 | hb39
  · replace heq := bif_true hb39 heq
    refine RgL.bool1 hb39 ?_
    refine RgL.runk 13 [0, 1, 2, 7, 46] (vs := []) (evs := []) (L' := [(0, .int .i64 a0), (1, .slice Aa1 a1.length ca1), (2, .int .i64 a2), (7, .slice Ay2_0 y2.length cy2_0), (46, .bool true)]) (by kernel_rfl) (by kernel_rfl) trivial ?_
    obtain rfl := Option.some.inj heq
    refine RgL.keep [0, 1, 2, 7, 46] (L' := [(0, .int .i64 a0), (1, .slice Aa1 a1.length ca1), (2, .int .i64 a2), (7, .slice Ay2_0 y2.length cy2_0), (46, .bool true)]) (by kernel_rfl) ?_
    exact RgL.done (by kernel_rfl) (K16 _ hE0)
  · replace heq := bif_false hb39 heq
    refine RgL.bool1 hb39 ?_
    refine RgL.runk 9 [42, 0, 1, 2, 7, 9, 12] (vs := []) (evs := []) (L' := [(42, .bool (y6.1 != y9.1)), (0, .int .i64 a0), (1, .slice Aa1 a1.length ca1), (2, .int .i64 a2), (7, .slice Ay2_0 y2.length cy2_0), (9, .int .i64 y6.2.1), (12, .int .i64 y9.2.1)]) (by kernel_rfl) (by kernel_rfl) trivial ?_
    rcases bool_cases (y6.1 != y9.1) with hb40 | hb40
    · replace heq := bif_true hb40 heq
      refine RgL.bool1 hb40 ?_
      refine RgL.runk 13 [0, 1, 2, 7, 46] (vs := []) (evs := []) (L' := [(0, .int .i64 a0), (1, .slice Aa1 a1.length ca1), (2, .int .i64 a2), (7, .slice Ay2_0 y2.length cy2_0), (46, .bool true)]) (by kernel_rfl) (by kernel_rfl) trivial ?_
      obtain rfl := Option.some.inj heq
      refine RgL.keep [0, 1, 2, 7, 46] (L' := [(0, .int .i64 a0), (1, .slice Aa1 a1.length ca1), (2, .int .i64 a2), (7, .slice Ay2_0 y2.length cy2_0), (46, .bool true)]) (by kernel_rfl) ?_
      exact RgL.done (by kernel_rfl) (K16 _ hE0)
    · replace heq := bif_false hb40 heq
      refine RgL.bool1 hb40 ?_
      refine RgL.runk 13 [0, 1, 2, 7, 46] (vs := []) (evs := []) (L' := [(0, .int .i64 a0), (1, .slice Aa1 a1.length ca1), (2, .int .i64 a2), (7, .slice Ay2_0 y2.length cy2_0), (46, .bool (y6.2.1 != y9.2.1))]) (by kernel_rfl) (by kernel_rfl) trivial ?_
      obtain rfl := Option.some.inj heq
      refine RgL.keep [0, 1, 2, 7, 46] (L' := [(0, .int .i64 a0), (1, .slice Aa1 a1.length ca1), (2, .int .i64 a2), (7, .slice Ay2_0 y2.length cy2_0), (46, .bool (y6.2.1 != y9.2.1))]) (by kernel_rfl) ?_
      exact RgL.done (by kernel_rfl) (K16 _ hE0)
noncomputable def C12 : Ctx := { P := Try.prog, f := 12, N := 14, c := bodyOf Try.f12 }
def S12 (w0 : World) (r : Int) (v : Value) (w : World) : Prop := Ext w0 w ∧ v = .int .i64 r
theorem smithyardref10_Below.j5_c {w0 : World} {r : Int} : ∀ (H : Hp) (w : World) (v_x0 : Int), Sub H w → Ext w0 w → smithyardref10_Below.j5 v_x0 = some r → RunL C12 (Ret (S12 w0 r)) [.c [1, 1, 1, 0], .c [1, 1, 1, 1]] [(0, .int .i64 v_x0)] w := by
  intro H w v_x0 hH hE  heq
  unfold smithyardref10_Below.j5 at heq
  refine RunL.reg (by kernel_rfl) ?_
  refine RgL.runk 2 [4] (vs := []) (evs := []) (L' := [(4, .int .i64 v_x0)]) (by kernel_rfl) (by kernel_rfl) trivial ?_
  refine RgL.done (by kernel_rfl) ?_
  obtain rfl := Option.some.inj heq
  exact RunL.done (by kernel_rfl) Try.func12 (v := .int .i64 v_x0) (by kernel_rfl) ⟨hE, rfl⟩
theorem smithyardref10_Below_c {w0 : World} {H : Hp} {a0 : Int} {a1 : Int} {r : Int} (hH : Sub H w0) (heq : smithyardref10_Below.f a0 a1 = some r) : Calls Try.prog 12 #[.int .i64 a0, .int .i64 a1] w0 (Ret (S12 w0 r)) := by
  refine calls_of_runL (F := C12) Try.func12 (by kernel_rfl) Try.ntmps12 (args := [.int .i64 a0, .int .i64 a1]) (by kernel_rfl) ?_
  unfold smithyardref10_Below.f at heq
  suffices h : ∀ w, Ext w0 w → Sub H w → RunL C12 (Ret (S12 w0 r)) [.c []] (argL 0 [.int .i64 a0, .int .i64 a1]) w from h w0 (Ext.refl w0) hH
  clear hH
  intro w hE hH
  refine RunL.adm 1 (es' := [.c [0], .c [1]]) (by kernel_rfl) ?_
  refine RunL.reg (by kernel_rfl) ?_
  refine RgL.runk 1 [0, 1] (vs := []) (evs := []) (L' := [(0, .int .i64 a0), (1, .int .i64 a1)]) (by kernel_rfl) (by kernel_rfl) trivial ?_
  refine RgL.done (by kernel_rfl) ?_
  refine RunL.adm 1 (es' := [.c [1, 0], .c [1, 1]]) (by kernel_rfl) ?_
  refine RunL.reg (by kernel_rfl) ?_
  obtain ⟨hn2, heq⟩ := guard?_some heq
  refine RgL.runk 4 [0, 1] (vs := []) (evs := [.need (a1 ≠ (0 : Int))]) (L' := [(0, .int .i64 (a0.tmod a1)), (1, .int .i64 a1)]) (by kernel_rfl) (by kernel_rfl) (ne_of_bne hn2) ?_
  refine RgL.done (by kernel_rfl) ?_
  refine RunL.adm 2 (es' := [.c [1, 1, 0, 0], .c [1, 1, 0, 1], .c [1, 1, 1]]) (by kernel_rfl) ?_
  refine RunL.reg (by kernel_rfl) ?_
  refine RgL.runk 2 [0, 1, 9] (vs := []) (evs := []) (L' := [(0, .int .i64 (a0.tmod a1)), (1, .int .i64 a1), (9, .bool (decide ((a0.tmod a1) < 0)))]) (by kernel_rfl) (by kernel_rfl) trivial ?_
  refine RgL.done (by kernel_rfl) ?_
  rcases bool_cases (decide ((a0.tmod a1) < 0)) with hb7 | hb7
  · replace heq := bif_true hb7 heq
    refine RunL.condT (c := decide ((a0.tmod a1) < 0)) (by kernel_rfl) hb7 ?_
    refine RunL.reg (by kernel_rfl) ?_
    refine RgL.runk 4 [0] (vs := []) (evs := []) (L' := [(0, .int .i64 (w64 ((a0.tmod a1) + a1)))]) (by kernel_rfl) (by kernel_rfl) trivial ?_
    refine RgL.done (by kernel_rfl) ?_
    refine RunL.adm 1 (es' := [.c [1, 1, 1, 0], .c [1, 1, 1, 1]]) (by kernel_rfl) ?_
    refine RunL.keep [0] (L' := [(0, .int .i64 (w64 ((a0.tmod a1) + a1)))]) (by kernel_rfl) ?_
    exact (smithyardref10_Below.j5_c) _ _ _ hH hE  heq
  · replace heq := bif_false hb7 heq
    refine RunL.condF (c := decide ((a0.tmod a1) < 0)) (by kernel_rfl) hb7 ?_
    refine RunL.adm 2 (es' := [.c [1, 1, 1, 0], .c [1, 1, 1, 1]]) (by kernel_rfl) ?_
    refine RunL.keep [0] (L' := [(0, .int .i64 (a0.tmod a1))]) (by kernel_rfl) ?_
    exact (smithyardref10_Below.j5_c) _ _ _ hH hE  heq
noncomputable def C5 : Ctx := { P := Try.prog, f := 5, N := 74, c := bodyOf Try.f5 }
def S5 (w0 : World) (r : Bool) (v : Value) (w : World) : Prop := Ext w0 w ∧ v = .bool r
theorem smithyardlaw10_TrialsProbesFindIt.e15_c {w0 : World} {r : Bool} : ∀ (H : Hp) (w : World) , Sub H w → Ext w0 w → smithyardlaw10_TrialsProbesFindIt.e15 = some r → RunL C5 (Ret (S5 w0 r)) [.c [1, 1, 1, 1, 1, 0], .c [1, 1, 1, 1, 1, 1]] [] w := by
  intro H w  hH hE  heq
  unfold smithyardlaw10_TrialsProbesFindIt.e15 at heq
  refine RunL.reg (by kernel_rfl) ?_
  refine RgL.runk 1 [4] (vs := []) (evs := []) (L' := [(4, .bool false)]) (by kernel_rfl) (by kernel_rfl) trivial ?_
  refine RgL.done (by kernel_rfl) ?_
  obtain rfl := Option.some.inj heq
  exact RunL.done (by kernel_rfl) Try.func5 (v := .bool false) (by kernel_rfl) ⟨hE, rfl⟩
theorem smithyardlaw10_TrialsProbesFindIt.l17_c {w0 : World} {r : Bool} (e15 : Option Bool)
    (he15 : ∀ (H : Hp) (w : World) , Sub H w → Ext w0 w → e15 = some r → RunL C5 (Ret (S5 w0 r)) [.c [1, 1, 1, 1, 1, 0], .c [1, 1, 1, 1, 1, 1]] [] w) : ∀ (k : Nat), ∀ (H : Hp) (w : World) (a0 : Int) (y10 : Int) (v_l5 : List Probe) (Av_l5 : Option Addr) (cv_l5 : Nat) (v23 : Int), Sub H w → Ext w0 w → Own kProbe 37 H w w0.heap.size Av_l5 cv_l5 v_l5 → smithyardlaw10_TrialsProbesFindIt.l17 e15 k a0 y10 v_l5 v23 = some r → RunL C5 (Ret (S5 w0 r)) [.c [1, 1, 1, 1, 0, 1, 0, 0], .l [1, 1, 1, 1, 0, 1, 0, 0], .b 0, .c [1, 1, 1, 1, 1]] [(0, .int .i64 a0), (1, .int .i64 (w64 (1 + y10))), (5, .slice Av_l5 v_l5.length cv_l5), (23, .int .i64 v23)] w := by
  intro k
  induction k with
  | zero => intro H w a0 y10 v_l5 Av_l5 cv_l5 v23 hH hE hov_l5 heq; exact nomatch (show (none : Option Bool) = some r from heq)
  | succ k ih =>
    intro H w a0 y10 v_l5 Av_l5 cv_l5 v23 hH hE hov_l5 heq
    rw [smithyardlaw10_TrialsProbesFindIt.l17] at heq
    refine RunL.adm 1 (es' := [.c [1, 1, 1, 1, 0, 1, 0, 0, 0], .c [1, 1, 1, 1, 0, 1, 0, 0, 1], .l [1, 1, 1, 1, 0, 1, 0, 0], .b 0, .c [1, 1, 1, 1, 1]]) (by kernel_rfl) ?_
    refine RunL.reg (by kernel_rfl) ?_
    refine RgL.runk 1 [0, 1, 5, 23, 24] (vs := []) (evs := []) (L' := [(0, .int .i64 a0), (1, .int .i64 (w64 (1 + y10))), (5, .slice Av_l5 v_l5.length cv_l5), (23, .int .i64 v23), (24, .bool (decide (v23 < 200)))]) (by kernel_rfl) (by kernel_rfl) trivial ?_
    refine RgL.done (by kernel_rfl) ?_
    refine RunL.adm 1 (es' := [.c [1, 1, 1, 1, 0, 1, 0, 0, 1, 0], .c [1, 1, 1, 1, 0, 1, 0, 0, 1, 1], .l [1, 1, 1, 1, 0, 1, 0, 0], .b 0, .c [1, 1, 1, 1, 1]]) (by kernel_rfl) ?_
    rcases bool_cases (decide (v23 < 200)) with hb19 | hb19
    · replace heq := bif_true hb19 heq
      refine RunL.condT (c := decide (v23 < 200)) (by kernel_rfl) hb19 ?_
      refine RunL.adm 4 (es' := [.c [1, 1, 1, 1, 0, 1, 0, 0, 1, 1, 0, 0, 0], .c [1, 1, 1, 1, 0, 1, 0, 0, 1, 1, 0, 0, 1], .b 1, .c [1, 1, 1, 1, 0, 1, 0, 0, 1, 1, 1], .l [1, 1, 1, 1, 0, 1, 0, 0], .b 0, .c [1, 1, 1, 1, 1]]) (by kernel_rfl) ?_
      refine RunL.reg (by kernel_rfl) ?_
      refine RgL.runk 2 [0, 1, 5, 23, 26, 27] (vs := []) (evs := []) (L' := [(0, .int .i64 a0), (1, .int .i64 (w64 (1 + y10))), (5, .slice Av_l5 v_l5.length cv_l5), (23, .int .i64 v23), (26, .int .i64 a0), (27, .slice Av_l5 v_l5.length cv_l5)]) (by kernel_rfl) (by kernel_rfl) trivial ?_
      obtain ⟨y20, hy20, heq⟩ := bind_some heq
      obtain ⟨HL22, hlL22, hHL22, hrL22⟩ := hov_l5.lend hH
      refine RgL.call (d := some 28) (g := 13) (args := #[.int .i64 a0, .slice Av_l5 v_l5.length cv_l5, .int .i64 1]) (by kernel_rfl) (trials_NextProbe_c hHL22 hrL22 hov_l5.cap hy20) ?_
      rintro _ w ⟨hx23, rfl⟩
      replace hov_l5 := hov_l5.ext hx23
      replace hH := hH.ext hx23
      replace hE := hE.then hx23
      try replace hE0 := hE0.then hx23
      refine RgL.runk 10 [0, 1, 5, 6, 7, 8, 23] (vs := []) (evs := []) (L' := [(0, .int .i64 a0), (1, .int .i64 (w64 (1 + y10))), (5, .slice Av_l5 v_l5.length cv_l5), (6, .int .i64 y20.1), (7, .bool y20.2.1), (8, .int .i64 y20.2.2), (23, .int .i64 v23)]) (by kernel_rfl) (by kernel_rfl) trivial ?_
      refine RgL.done (by kernel_rfl) ?_
      refine RunL.adm 2 (es' := [.c [1, 1, 1, 1, 0, 1, 0, 0, 1, 1, 0, 0, 1, 0, 0], .c [1, 1, 1, 1, 0, 1, 0, 0, 1, 1, 0, 0, 1, 0, 1], .c [1, 1, 1, 1, 0, 1, 0, 0, 1, 1, 0, 0, 1, 1], .b 1, .c [1, 1, 1, 1, 0, 1, 0, 0, 1, 1, 1], .l [1, 1, 1, 1, 0, 1, 0, 0], .b 0, .c [1, 1, 1, 1, 1]]) (by kernel_rfl) ?_
      refine RunL.reg (by kernel_rfl) ?_
      obtain ⟨t25, ht26, heq⟩ := bind_some heq
      have K27 : ∀ w2, Ext w w2 → RunL C5 (Ret (S5 w0 r)) [.c [1, 1, 1, 1, 0, 1, 0, 0, 1, 1, 0, 0, 1, 0, 1], .c [1, 1, 1, 1, 0, 1, 0, 0, 1, 1, 0, 0, 1, 1], .b 1, .c [1, 1, 1, 1, 0, 1, 0, 0, 1, 1, 1], .l [1, 1, 1, 1, 0, 1, 0, 0], .b 0, .c [1, 1, 1, 1, 1]] [(0, .int .i64 a0), (1, .int .i64 (w64 (1 + y10))), (5, .slice Av_l5 v_l5.length cv_l5), (6, .int .i64 y20.1), (7, .bool y20.2.1), (23, .int .i64 v23), (45, .bool t25)] w2 := by
        intro w hx
        replace hov_l5 := hov_l5.ext hx
        replace hH := hH.ext hx
        replace hE := hE.then hx
        rcases bool_cases (t25) with hb28 | hb28
        · replace heq := bif_true hb28 heq
          refine RunL.condT (c := t25) (by kernel_rfl) hb28 ?_
          refine RunL.adm 1 (es' := [.c [1, 1, 1, 1, 0, 1, 0, 0, 1, 1, 0, 0, 1, 0, 1, 0, 0], .c [1, 1, 1, 1, 0, 1, 0, 0, 1, 1, 0, 0, 1, 0, 1, 0, 1], .c [1, 1, 1, 1, 0, 1, 0, 0, 1, 1, 0, 0, 1, 1], .b 1, .c [1, 1, 1, 1, 0, 1, 0, 0, 1, 1, 1], .l [1, 1, 1, 1, 0, 1, 0, 0], .b 0, .c [1, 1, 1, 1, 1]]) (by kernel_rfl) ?_
          refine RunL.reg (by kernel_rfl) ?_
          refine RgL.runk 1 [4] (vs := []) (evs := []) (L' := [(4, .bool false)]) (by kernel_rfl) (by kernel_rfl) trivial ?_
          refine RgL.done (by kernel_rfl) ?_
          obtain rfl := Option.some.inj heq
          exact RunL.done (by kernel_rfl) Try.func5 (v := .bool false) (by kernel_rfl) ⟨hE, rfl⟩
        · replace heq := bif_false hb28 heq
          refine RunL.condF (c := t25) (by kernel_rfl) hb28 ?_
          refine RunL.adm 3 (es' := [.c [1, 1, 1, 1, 0, 1, 0, 0, 1, 1, 0, 0, 1, 1, 0, 0], .c [1, 1, 1, 1, 0, 1, 0, 0, 1, 1, 0, 0, 1, 1, 0, 1], .c [1, 1, 1, 1, 0, 1, 0, 0, 1, 1, 0, 0, 1, 1, 1], .b 1, .c [1, 1, 1, 1, 0, 1, 0, 0, 1, 1, 1], .l [1, 1, 1, 1, 0, 1, 0, 0], .b 0, .c [1, 1, 1, 1, 1]]) (by kernel_rfl) ?_
          refine RunL.reg (by kernel_rfl) ?_
          refine RgL.runk 2 [0, 1, 5, 6, 23, 47] (vs := []) (evs := []) (L' := [(0, .int .i64 a0), (1, .int .i64 (w64 (1 + y10))), (5, .slice Av_l5 v_l5.length cv_l5), (6, .int .i64 y20.1), (23, .int .i64 v23), (47, .bool (!y20.2.1))]) (by kernel_rfl) (by kernel_rfl) trivial ?_
          refine RgL.done (by kernel_rfl) ?_
          rcases bool_cases (!y20.2.1) with hb31 | hb31
          · replace heq := bif_true hb31 heq
            refine RunL.condT (c := !y20.2.1) (by kernel_rfl) hb31 ?_
            refine RunL.adm 1 (es' := [.c [1, 1, 1, 1, 0, 1, 0, 0, 1, 1, 0, 0, 1, 1, 0, 1, 0, 0], .c [1, 1, 1, 1, 0, 1, 0, 0, 1, 1, 0, 0, 1, 1, 0, 1, 0, 1], .c [1, 1, 1, 1, 0, 1, 0, 0, 1, 1, 0, 0, 1, 1, 1], .b 1, .c [1, 1, 1, 1, 0, 1, 0, 0, 1, 1, 1], .l [1, 1, 1, 1, 0, 1, 0, 0], .b 0, .c [1, 1, 1, 1, 1]]) (by kernel_rfl) ?_
            refine RunL.reg (by kernel_rfl) ?_
            refine RgL.runk 2 [1, 49, 50] (vs := []) (evs := []) (L' := [(1, .int .i64 (w64 (1 + y10))), (49, .int .i64 a0), (50, .slice Av_l5 v_l5.length cv_l5)]) (by kernel_rfl) (by kernel_rfl) trivial ?_
            obtain ⟨y32, hy32, heq⟩ := bind_some heq
            obtain ⟨HL34, hlL34, hHL34, hrL34⟩ := hov_l5.lend hH
            refine RgL.call (d := some 51) (g := 14) (args := #[.int .i64 a0, .slice Av_l5 v_l5.length cv_l5]) (by kernel_rfl) (trials_Suspects_c hHL34 hrL34 hov_l5.cap hy32) ?_
            rintro _ w ⟨hx35, rfl⟩
            replace hov_l5 := hov_l5.ext hx35
            replace hH := hH.ext hx35
            replace hE := hE.then hx35
            try replace hE0 := hE0.then hx35
            refine RgL.runk 10 [1, 10, 11] (vs := []) (evs := []) (L' := [(1, .int .i64 (w64 (1 + y10))), (10, .int .i64 y32.2.1), (11, .int .i64 y32.2.2)]) (by kernel_rfl) (by kernel_rfl) trivial ?_
            refine RgL.done (by kernel_rfl) ?_
            refine RunL.adm 1 (es' := [.c [1, 1, 1, 1, 0, 1, 0, 0, 1, 1, 0, 0, 1, 1, 0, 1, 0, 1, 0], .c [1, 1, 1, 1, 0, 1, 0, 0, 1, 1, 0, 0, 1, 1, 0, 1, 0, 1, 1], .c [1, 1, 1, 1, 0, 1, 0, 0, 1, 1, 0, 0, 1, 1, 1], .b 1, .c [1, 1, 1, 1, 0, 1, 0, 0, 1, 1, 1], .l [1, 1, 1, 1, 0, 1, 0, 0], .b 0, .c [1, 1, 1, 1, 1]]) (by kernel_rfl) ?_
            refine RunL.reg (by kernel_rfl) ?_
            obtain ⟨t38, ht39, heq⟩ := bind_some heq
            have K40 : ∀ w2, Ext w w2 → RunL C5 (Ret (S5 w0 r)) [.c [1, 1, 1, 1, 0, 1, 0, 0, 1, 1, 0, 0, 1, 1, 0, 1, 0, 1, 1], .c [1, 1, 1, 1, 0, 1, 0, 0, 1, 1, 0, 0, 1, 1, 1], .b 1, .c [1, 1, 1, 1, 0, 1, 0, 0, 1, 1, 1], .l [1, 1, 1, 1, 0, 1, 0, 0], .b 0, .c [1, 1, 1, 1, 1]] [(4, .bool t38)] w2 := by
              intro w hx
              replace hH := hH.ext hx
              replace hE := hE.then hx
              obtain rfl := Option.some.inj heq
              exact RunL.done (by kernel_rfl) Try.func5 (v := .bool t38) (by kernel_rfl) ⟨hE, rfl⟩
            replace heq := ht39
            have hE0 := Ext.refl w
            refine RgL.runk 3 [57, 1, 10] (vs := []) (evs := []) (L' := [(57, .bool (y32.2.2 == 0)), (1, .int .i64 (w64 (1 + y10))), (10, .int .i64 y32.2.1)]) (by kernel_rfl) (by kernel_rfl) trivial ?_
            rcases bool_cases (y32.2.2 == 0) with hb41 | hb41
            · replace heq := bif_true hb41 heq
              refine RgL.bool1 hb41 ?_
              refine RgL.runk 8 [62] (vs := []) (evs := []) (L' := [(62, .bool (y32.2.1 == (w64 (1 + y10))))]) (by kernel_rfl) (by kernel_rfl) trivial ?_
              rcases bool_cases (y32.2.1 == (w64 (1 + y10))) with hb42 | hb42
              · replace heq := bif_true hb42 heq
                refine RgL.bool1 hb42 ?_
                obtain ⟨y36, hy36, heq⟩ := bind_some heq
                refine RgL.call (d := some 63) (g := 8) (args := (List.toArray [])) (by kernel_rfl) (smithyardlaw10_awake_c hH  hy36) ?_
                rintro _ w ⟨hx43, rfl⟩
                replace hH := hH.ext hx43
                replace hE := hE.then hx43
                try replace hE0 := hE0.then hx43
                refine RgL.runk 11 [4] (vs := []) (evs := []) (L' := [(4, .bool y36)]) (by kernel_rfl) (by kernel_rfl) trivial ?_
                obtain rfl := Option.some.inj heq
                refine RgL.keep [4] (L' := [(4, .bool y36)]) (by kernel_rfl) ?_
                exact RgL.done (by kernel_rfl) (K40 _ hE0)
              · replace heq := bif_false hb42 heq
                refine RgL.bool1 hb42 ?_
                refine RgL.runk 11 [4] (vs := []) (evs := []) (L' := [(4, .bool false)]) (by kernel_rfl) (by kernel_rfl) trivial ?_
                obtain rfl := Option.some.inj heq
                refine RgL.keep [4] (L' := [(4, .bool false)]) (by kernel_rfl) ?_
                exact RgL.done (by kernel_rfl) (K40 _ hE0)
            · replace heq := bif_false hb41 heq
              refine RgL.bool1 hb41 ?_
              refine RgL.runk 11 [4] (vs := []) (evs := []) (L' := [(4, .bool false)]) (by kernel_rfl) (by kernel_rfl) trivial ?_
              obtain rfl := Option.some.inj heq
              refine RgL.keep [4] (L' := [(4, .bool false)]) (by kernel_rfl) ?_
              exact RgL.done (by kernel_rfl) (K40 _ hE0)
          · replace heq := bif_false hb31 heq
            refine RunL.condF (c := !y20.2.1) (by kernel_rfl) hb31 ?_
            refine RunL.adm 1 (es' := [.c [1, 1, 1, 1, 0, 1, 0, 0, 1, 1, 0, 0, 1, 1, 1], .b 1, .c [1, 1, 1, 1, 0, 1, 0, 0, 1, 1, 1], .l [1, 1, 1, 1, 0, 1, 0, 0], .b 0, .c [1, 1, 1, 1, 1]]) (by kernel_rfl) ?_
            refine RunL.reg (by kernel_rfl) ?_
            refine RgL.runk 6 [0, 1, 23, 65, 70] (vs := []) (evs := []) (L' := [(0, .int .i64 a0), (1, .int .i64 (w64 (1 + y10))), (23, .int .i64 v23), (65, .slice Av_l5 v_l5.length cv_l5), (70, .agg #[.int .i64 y20.1, .bool (decide (y20.1 < (w64 (1 + y10))))])]) (by kernel_rfl) (by kernel_rfl) trivial ?_
            refine RgL.new (d := some 71) (v := fun g => .slice (some ⟨g, 0, none⟩) ([(⟨y20.1, decide (y20.1 < (w64 (1 + y10)))⟩ : Probe)] : List Probe).length ([(⟨y20.1, decide (y20.1 < (w64 (1 + y10)))⟩ : Probe)] : List Probe).length) (o := fun g => .cells #[.int .i64 y20.1, .bool (decide (y20.1 < (w64 (1 + y10))))] 37 (0, 0)) (fun g => by kernel_rfl) ?_
            intro g44 w hgg44 hx50 hsg44 hbg44
            obtain ⟨H, hl, hH, hbH, hk⟩ := addH hH hx50 hgg44 hbg44
            replace hE := hE.then hx50
            try replace hE0 := hE0.then hx50
            replace hov_l5 := hov_l5.grow hl hk hx50
            have hrg44 : Kd.Row kProbe H (some ⟨g44, 0, none⟩) (([(⟨y20.1, decide (y20.1 < (w64 (1 + y10)))⟩ : Probe)] : List Probe) : List Probe) := Kd.Row.lit hbH (Kd.Rep.one kProbe_mk)
            clear hbH
            obtain ⟨hn45, heq⟩ := guard?_some heq
            refine RgL.append (d := 72) (t := 32) (e := 37) (bytes := 16) (kd := kProbe) (xs := v_l5) (ys := ([(⟨y20.1, decide (y20.1 < (w64 (1 + y10)))⟩ : Probe)] : List Probe)) (A := Av_l5) (B := (some ⟨g44, 0, none⟩)) (c := cv_l5) (cB := (([(⟨y20.1, decide (y20.1 < (w64 (1 + y10)))⟩ : Probe)] : List Probe).length)) (by kernel_rfl) (by kernel_rfl) hE.size hov_l5 hrg44 hH (Nat.le_refl _) (room_le hn45) (by have := room_le hn45; omega) ?_
            intro A46 c47 w ha51 ho48
            replace hE := ha51.ext hE (hov_l5 : Own kProbe 37 H _ w0.heap.size _ _ v_l5)
            replace hH := ha51.sub hH (hov_l5 : Own kProbe 37 H _ w0.heap.size _ _ v_l5)
            clear hov_l5
            refine RgL.runk 9 [0, 1, 5, 23] (vs := []) (evs := []) (L' := [(0, .int .i64 a0), (1, .int .i64 (w64 (1 + y10))), (5, .slice A46 ((v_l5 ++ ([(⟨y20.1, decide (y20.1 < (w64 (1 + y10)))⟩ : Probe)] : List Probe)).length) c47), (23, .int .i64 v23)]) (by kernel_rfl) (by kernel_rfl) trivial ?_
            refine RgL.done (by kernel_rfl) ?_
            refine RunL.adm 1 (es' := [.c [1, 1, 1, 1, 0, 1, 0, 0, 1, 1, 1], .l [1, 1, 1, 1, 0, 1, 0, 0], .b 0, .c [1, 1, 1, 1, 1]]) (by kernel_rfl) ?_
            refine RunL.reg (by kernel_rfl) ?_
            refine RgL.runk 2 [0, 1, 5, 23] (vs := []) (evs := []) (L' := [(0, .int .i64 a0), (1, .int .i64 (w64 (1 + y10))), (5, .slice A46 ((v_l5 ++ ([(⟨y20.1, decide (y20.1 < (w64 (1 + y10)))⟩ : Probe)] : List Probe)).length) c47), (23, .int .i64 (w64 (v23 + 1)))]) (by kernel_rfl) (by kernel_rfl) trivial ?_
            refine RgL.done (by kernel_rfl) ?_
            refine RunL.adm 1 (es' := [.c [1, 1, 1, 1, 0, 1, 0, 0], .l [1, 1, 1, 1, 0, 1, 0, 0], .b 0, .c [1, 1, 1, 1, 1]]) (by kernel_rfl) ?_
            refine RunL.keep [0, 1, 5, 23] (L' := [(0, .int .i64 a0), (1, .int .i64 (w64 (1 + y10))), (5, .slice A46 ((v_l5 ++ ([(⟨y20.1, decide (y20.1 < (w64 (1 + y10)))⟩ : Probe)] : List Probe)).length) c47), (23, .int .i64 (w64 (v23 + 1)))]) (by kernel_rfl) ?_
            exact ih _ _ _ _ _ _ _ _ hH hE ho48 heq
      replace heq := ht26
      have hE0 := Ext.refl w
      refine RgL.runk 3 [34, 0, 1, 5, 6, 7, 23] (vs := []) (evs := []) (L' := [(34, .bool (y20.2.2 != 0)), (0, .int .i64 a0), (1, .int .i64 (w64 (1 + y10))), (5, .slice Av_l5 v_l5.length cv_l5), (6, .int .i64 y20.1), (7, .bool y20.2.1), (23, .int .i64 v23)]) (by kernel_rfl) (by kernel_rfl) trivial ?_
      rcases bool_cases (y20.2.2 != 0) with hb53 | hb53
      · replace heq := bif_true hb53 heq
        refine RgL.bool1 hb53 ?_
        refine RgL.runk 14 [0, 1, 5, 6, 7, 23, 45] (vs := []) (evs := []) (L' := [(0, .int .i64 a0), (1, .int .i64 (w64 (1 + y10))), (5, .slice Av_l5 v_l5.length cv_l5), (6, .int .i64 y20.1), (7, .bool y20.2.1), (23, .int .i64 v23), (45, .bool true)]) (by kernel_rfl) (by kernel_rfl) trivial ?_
        obtain rfl := Option.some.inj heq
        refine RgL.keep [0, 1, 5, 6, 7, 23, 45] (L' := [(0, .int .i64 a0), (1, .int .i64 (w64 (1 + y10))), (5, .slice Av_l5 v_l5.length cv_l5), (6, .int .i64 y20.1), (7, .bool y20.2.1), (23, .int .i64 v23), (45, .bool true)]) (by kernel_rfl) ?_
        exact RgL.done (by kernel_rfl) (K27 _ hE0)
      · replace heq := bif_false hb53 heq
        refine RgL.bool1 hb53 ?_
        refine RgL.runk 5 [36, 0, 1, 5, 6, 7, 23, 34] (vs := []) (evs := []) (L' := [(36, .bool y20.2.1), (0, .int .i64 a0), (1, .int .i64 (w64 (1 + y10))), (5, .slice Av_l5 v_l5.length cv_l5), (6, .int .i64 y20.1), (7, .bool y20.2.1), (23, .int .i64 v23), (34, .bool false)]) (by kernel_rfl) (by kernel_rfl) trivial ?_
        rcases bool_cases (y20.2.1) with hb54 | hb54
        · replace heq := bif_true hb54 heq
          refine RgL.bool1 hb54 ?_
          refine RgL.runk 8 [39, 0, 1, 5, 6, 7, 23, 34, 36] (vs := []) (evs := []) (L' := [(39, .bool (decide (y20.1 < 1))), (0, .int .i64 a0), (1, .int .i64 (w64 (1 + y10))), (5, .slice Av_l5 v_l5.length cv_l5), (6, .int .i64 y20.1), (7, .bool y20.2.1), (23, .int .i64 v23), (34, .bool false), (36, .bool true)]) (by kernel_rfl) (by kernel_rfl) trivial ?_
          rcases bool_cases (decide (y20.1 < 1)) with hb55 | hb55
          · replace heq := bif_true hb55 heq
            refine RgL.bool1 hb55 ?_
            refine RgL.runk 14 [0, 1, 5, 6, 7, 23, 45] (vs := []) (evs := []) (L' := [(0, .int .i64 a0), (1, .int .i64 (w64 (1 + y10))), (5, .slice Av_l5 v_l5.length cv_l5), (6, .int .i64 y20.1), (7, .bool y20.2.1), (23, .int .i64 v23), (45, .bool true)]) (by kernel_rfl) (by kernel_rfl) trivial ?_
            obtain rfl := Option.some.inj heq
            refine RgL.keep [0, 1, 5, 6, 7, 23, 45] (L' := [(0, .int .i64 a0), (1, .int .i64 (w64 (1 + y10))), (5, .slice Av_l5 v_l5.length cv_l5), (6, .int .i64 y20.1), (7, .bool y20.2.1), (23, .int .i64 v23), (45, .bool true)]) (by kernel_rfl) ?_
            exact RgL.done (by kernel_rfl) (K27 _ hE0)
          · replace heq := bif_false hb55 heq
            refine RgL.bool1 hb55 ?_
            refine RgL.runk 14 [0, 1, 5, 6, 7, 23, 45] (vs := []) (evs := []) (L' := [(0, .int .i64 a0), (1, .int .i64 (w64 (1 + y10))), (5, .slice Av_l5 v_l5.length cv_l5), (6, .int .i64 y20.1), (7, .bool y20.2.1), (23, .int .i64 v23), (45, .bool (decide (a0 ≤ y20.1)))]) (by kernel_rfl) (by kernel_rfl) trivial ?_
            obtain rfl := Option.some.inj heq
            refine RgL.keep [0, 1, 5, 6, 7, 23, 45] (L' := [(0, .int .i64 a0), (1, .int .i64 (w64 (1 + y10))), (5, .slice Av_l5 v_l5.length cv_l5), (6, .int .i64 y20.1), (7, .bool y20.2.1), (23, .int .i64 v23), (45, .bool (decide (a0 ≤ y20.1)))]) (by kernel_rfl) ?_
            exact RgL.done (by kernel_rfl) (K27 _ hE0)
        · replace heq := bif_false hb54 heq
          refine RgL.bool1 hb54 ?_
          refine RgL.runk 14 [0, 1, 5, 6, 7, 23, 45] (vs := []) (evs := []) (L' := [(0, .int .i64 a0), (1, .int .i64 (w64 (1 + y10))), (5, .slice Av_l5 v_l5.length cv_l5), (6, .int .i64 y20.1), (7, .bool y20.2.1), (23, .int .i64 v23), (45, .bool false)]) (by kernel_rfl) (by kernel_rfl) trivial ?_
          obtain rfl := Option.some.inj heq
          refine RgL.keep [0, 1, 5, 6, 7, 23, 45] (L' := [(0, .int .i64 a0), (1, .int .i64 (w64 (1 + y10))), (5, .slice Av_l5 v_l5.length cv_l5), (6, .int .i64 y20.1), (7, .bool y20.2.1), (23, .int .i64 v23), (45, .bool false)]) (by kernel_rfl) ?_
          exact RgL.done (by kernel_rfl) (K27 _ hE0)
    · replace heq := bif_false hb19 heq
      refine RunL.condF (c := decide (v23 < 200)) (by kernel_rfl) hb19 ?_
      refine RunL.adm 2 (es' := [.c [1, 1, 1, 1, 1, 0], .c [1, 1, 1, 1, 1, 1]]) (by kernel_rfl) ?_
      refine RunL.keep [] (L' := []) (by kernel_rfl) ?_
      exact he15 _ _  hH hE  heq
theorem smithyardlaw10_TrialsProbesFindIt_c {w0 : World} {H : Hp} {a0 : Int} {a1 : Int} {r : Bool} (hH : Sub H w0) (heq : smithyardlaw10_TrialsProbesFindIt.f a0 a1 = some r) : Calls Try.prog 5 #[.int .i64 a0, .int .i64 a1] w0 (Ret (S5 w0 r)) := by
  refine calls_of_runL (F := C5) Try.func5 (by kernel_rfl) Try.ntmps5 (args := [.int .i64 a0, .int .i64 a1]) (by kernel_rfl) ?_
  unfold smithyardlaw10_TrialsProbesFindIt.f at heq
  suffices h : ∀ w, Ext w0 w → Sub H w → RunL C5 (Ret (S5 w0 r)) [.c []] (argL 0 [.int .i64 a0, .int .i64 a1]) w from h w0 (Ext.refl w0) hH
  clear hH
  intro w hE hH
  refine RunL.adm 1 (es' := [.c [0], .c [1]]) (by kernel_rfl) ?_
  refine RunL.reg (by kernel_rfl) ?_
  refine RgL.runk 1 [0, 1] (vs := []) (evs := []) (L' := [(0, .int .i64 a0), (1, .int .i64 a1)]) (by kernel_rfl) (by kernel_rfl) trivial ?_
  refine RgL.done (by kernel_rfl) ?_
  refine RunL.adm 2 (es' := [.c [1, 0, 0], .c [1, 0, 1], .c [1, 1]]) (by kernel_rfl) ?_
  refine RunL.reg (by kernel_rfl) ?_
  obtain ⟨t3, ht4, heq⟩ := bind_some heq
  have K5 : ∀ w2, Ext w w2 → RunL C5 (Ret (S5 w0 r)) [.c [1, 0, 1], .c [1, 1]] [(0, .int .i64 a0), (1, .int .i64 a1), (17, .bool t3)] w2 := by
    intro w hx
    replace hH := hH.ext hx
    replace hE := hE.then hx
    rcases bool_cases (t3) with hb6 | hb6
    · replace heq := bif_true hb6 heq
      refine RunL.condT (c := t3) (by kernel_rfl) hb6 ?_
      refine RunL.adm 1 (es' := [.c [1, 0, 1, 0, 0], .c [1, 0, 1, 0, 1], .c [1, 1]]) (by kernel_rfl) ?_
      refine RunL.reg (by kernel_rfl) ?_
      obtain ⟨y7, hy7, heq⟩ := bind_some heq
      refine RgL.call (d := some 18) (g := 8) (args := (List.toArray [])) (by kernel_rfl) (smithyardlaw10_awake_c hH  hy7) ?_
      rintro _ w ⟨hx9, rfl⟩
      replace hH := hH.ext hx9
      replace hE := hE.then hx9
      try replace hE0 := hE0.then hx9
      refine RgL.runk 2 [4] (vs := []) (evs := []) (L' := [(4, .bool y7)]) (by kernel_rfl) (by kernel_rfl) trivial ?_
      refine RgL.done (by kernel_rfl) ?_
      obtain rfl := Option.some.inj heq
      exact RunL.done (by kernel_rfl) Try.func5 (v := .bool y7) (by kernel_rfl) ⟨hE, rfl⟩
    · replace heq := bif_false hb6 heq
      refine RunL.condF (c := t3) (by kernel_rfl) hb6 ?_
      refine RunL.adm 2 (es' := [.c [1, 1, 0], .c [1, 1, 1]]) (by kernel_rfl) ?_
      refine RunL.reg (by kernel_rfl) ?_
      refine RgL.runk 2 [0, 19, 20] (vs := []) (evs := []) (L' := [(0, .int .i64 a0), (19, .int .i64 a1), (20, .int .i64 a0)]) (by kernel_rfl) (by kernel_rfl) trivial ?_
      obtain ⟨y10, hy10, heq⟩ := bind_some heq
      refine RgL.call (d := some 21) (g := 12) (args := #[.int .i64 a1, .int .i64 a0]) (by kernel_rfl) (smithyardref10_Below_c hH  hy10) ?_
      rintro _ w ⟨hx12, rfl⟩
      replace hH := hH.ext hx12
      replace hE := hE.then hx12
      try replace hE0 := hE0.then hx12
      refine RgL.runk 5 [0, 1] (vs := []) (evs := []) (L' := [(0, .int .i64 a0), (1, .int .i64 (w64 (1 + y10)))]) (by kernel_rfl) (by kernel_rfl) trivial ?_
      refine RgL.done (by kernel_rfl) ?_
      refine RunL.adm 1 (es' := [.c [1, 1, 1, 0], .c [1, 1, 1, 1]]) (by kernel_rfl) ?_
      refine RunL.reg (by kernel_rfl) ?_
      refine RgL.runk 1 [0, 1, 5] (vs := []) (evs := []) (L' := [(0, .int .i64 a0), (1, .int .i64 (w64 (1 + y10))), (5, .slice none 0 0)]) (by kernel_rfl) (by kernel_rfl) trivial ?_
      refine RgL.done (by kernel_rfl) ?_
      refine RunL.adm 2 (es' := [.c [1, 1, 1, 1, 0, 0], .c [1, 1, 1, 1, 0, 1], .c [1, 1, 1, 1, 1]]) (by kernel_rfl) ?_
      refine RunL.reg (by kernel_rfl) ?_
      refine RgL.runk 1 [0, 1, 5, 23] (vs := []) (evs := []) (L' := [(0, .int .i64 a0), (1, .int .i64 (w64 (1 + y10))), (5, .slice none 0 0), (23, .int .i64 0)]) (by kernel_rfl) (by kernel_rfl) trivial ?_
      refine RgL.done (by kernel_rfl) ?_
      refine RunL.adm 2 (es' := [.c [1, 1, 1, 1, 0, 1, 0, 0], .l [1, 1, 1, 1, 0, 1, 0, 0], .b 0, .c [1, 1, 1, 1, 1]]) (by kernel_rfl) ?_
      refine RunL.keep [0, 1, 5, 23] (L' := [(0, .int .i64 a0), (1, .int .i64 (w64 (1 + y10))), (5, .slice none 0 0), (23, .int .i64 0)]) (by kernel_rfl) ?_
      exact (smithyardlaw10_TrialsProbesFindIt.l17_c smithyardlaw10_TrialsProbesFindIt.e15 (smithyardlaw10_TrialsProbesFindIt.e15_c)) (((200 : Int) - 0).toNat + 1) _ _ _ _ _ _ _ _ hH hE Own.nil heq
  replace heq := ht4
  have hE0 := Ext.refl w
  refine RgL.runk 3 [14, 0, 1] (vs := []) (evs := []) (L' := [(14, .bool (decide (a0 < 1))), (0, .int .i64 a0), (1, .int .i64 a1)]) (by kernel_rfl) (by kernel_rfl) trivial ?_
  rcases bool_cases (decide (a0 < 1)) with hb56 | hb56
  · replace heq := bif_true hb56 heq
    refine RgL.bool1 hb56 ?_
    refine RgL.runk 6 [0, 1, 17] (vs := []) (evs := []) (L' := [(0, .int .i64 a0), (1, .int .i64 a1), (17, .bool true)]) (by kernel_rfl) (by kernel_rfl) trivial ?_
    obtain rfl := Option.some.inj heq
    refine RgL.keep [0, 1, 17] (L' := [(0, .int .i64 a0), (1, .int .i64 a1), (17, .bool true)]) (by kernel_rfl) ?_
    exact RgL.done (by kernel_rfl) (K5 _ hE0)
  · replace heq := bif_false hb56 heq
    refine RgL.bool1 hb56 ?_
    refine RgL.runk 6 [0, 1, 17] (vs := []) (evs := []) (L' := [(0, .int .i64 a0), (1, .int .i64 a1), (17, .bool (decide (100000 < a0)))]) (by kernel_rfl) (by kernel_rfl) trivial ?_
    obtain rfl := Option.some.inj heq
    refine RgL.keep [0, 1, 17] (L' := [(0, .int .i64 a0), (1, .int .i64 a1), (17, .bool (decide (100000 < a0)))]) (by kernel_rfl) ?_
    exact RgL.done (by kernel_rfl) (K5 _ hE0)
end Go.Proofs.Ytdhennofffldhaa
