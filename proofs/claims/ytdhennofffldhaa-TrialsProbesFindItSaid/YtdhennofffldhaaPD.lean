/- Plain functions, each written by program out of one Go function's operations. -/
import Derived.Test.YtdhennofffldhaaKitP
set_option linter.unusedVariables false
namespace Go.Proofs.Ytdhennofffldhaa
open Go Go.Proofs.Ytdhennofffldhaa.Kit
structure Probe where
  Place : Int
  Pass : Bool
  deriving Inhabited, DecidableEq
def trials_within.f (a0 : Int) (a1 : Int) (a2 : Int) : Option Bool :=
  (bif decide (a1 ≤ a0) then (some (decide (a0 ≤ a2))) else (some false)).bind fun t3 =>
  some t3
def trials_Suspects.e12 (v_most7 : Int) : Option (Int × Int × Int) :=
  some (1, v_most7, 0)
def trials_Suspects.j34 (backl14 : Int → (List Probe) → Int → Int → Option (Int × Int × Int)) (a0 : Int) (a1 : List Probe) (v19 : Int) (v_most7 : Int) : Option (Int × Int × Int) :=
  backl14 a0 a1 v_most7 (w64 (v19 + 1))
def trials_Suspects.l14 (e12 : Int → Option (Int × Int × Int)) : Nat → Int → (List Probe) → Int → Int → Option (Int × Int × Int)
  | 0, _, _, _, _ => none
  | k + 1, a0, a1, v_most7, v19 =>
    bif decide (v19 < (a1.length : Int)) then
    ((at? a1 v19).bind fun x17 =>
    (trials_within.f x17.Place 0 a0).bind fun y22 =>
    bif !y22 then
    (some (0, 0, 1))
    else
    ((bif x17.Place == 0 then (some (!x17.Pass)) else (some false)).bind fun t28 =>
    bif t28 then
    (some (0, 0, 12))
    else
    (bif !x17.Pass then
    (trials_Suspects.j34 (trials_Suspects.l14 e12 k) a0 a1 v19 (min2 v_most7 x17.Place))
    else
    (trials_Suspects.j34 (trials_Suspects.l14 e12 k) a0 a1 v19 v_most7))))
    else
    (e12 v_most7)
def trials_Suspects.f (a0 : Int) (a1 : List Probe) : Option (Int × Int × Int) :=
  (trials_within.f a0 1 100000).bind fun y2 =>
  bif !y2 then
  (some (0, 0, 1))
  else
  (bif decide (3000 < (a1.length : Int)) then
  (some (0, 0, 2))
  else
  (trials_Suspects.l14 trials_Suspects.e12 (((a1.length : Int) - 0).toNat + 1) a0 a1 a0 0))
def trials_NextProbe.e19  : Option (Int × Bool × Int) :=
  some (0, false, 0)
def trials_NextProbe.l21 (e19 : Option (Int × Bool × Int)) : Nat → Int → (Int × Int × Int) → (List (Int × Int)) → Int → Option (Int × Bool × Int)
  | 0, _, _, _, _ => none
  | k + 1, a2, y2, v_passed12, v_lo15 =>
    bif decide ((w64 (v_lo15 + 1)) < y2.2.1) then
    (bif decide ((mgetD v_passed12 (w64 ((w64 (v_lo15 + y2.2.1)).tdiv 2)) 0) < a2) then
    (some (w64 ((w64 (v_lo15 + y2.2.1)).tdiv 2), true, 0))
    else
    ((trials_NextProbe.l21 e19 k) a2 y2 v_passed12 (w64 ((w64 (v_lo15 + y2.2.1)).tdiv 2))))
    else
    (e19)
def trials_NextProbe.e17 (a2 : Int) (y2 : Int × Int × Int) (v_passed12 : List (Int × Int)) : Option (Int × Bool × Int) :=
  trials_NextProbe.l21 trials_NextProbe.e19 ((y2.2.1 - 0).toNat + 1) a2 y2 v_passed12 0
def trials_NextProbe.j39 (backl30 : (List Probe) → Int → (Int × Int × Int) → (List (Int × Int)) → Int → Option (Int × Bool × Int)) (a1 : List Probe) (a2 : Int) (y2 : Int × Int × Int) (v33 : Int) (v_passed12 : List (Int × Int)) : Option (Int × Bool × Int) :=
  backl30 a1 a2 y2 v_passed12 (w64 (v33 + 1))
def trials_NextProbe.l30 (e17 : Int → (Int × Int × Int) → (List (Int × Int)) → Option (Int × Bool × Int)) : Nat → (List Probe) → Int → (Int × Int × Int) → (List (Int × Int)) → Int → Option (Int × Bool × Int)
  | 0, _, _, _, _, _ => none
  | k + 1, a1, a2, y2, v_passed12, v33 =>
    bif decide (v33 < (a1.length : Int)) then
    ((at? a1 v33).bind fun x33 =>
    bif x33.Pass then
    (trials_NextProbe.j39 (trials_NextProbe.l30 e17 k) a1 a2 y2 v33 (mput v_passed12 x33.Place (w64 ((mgetD v_passed12 x33.Place 0) + 1))))
    else
    (trials_NextProbe.j39 (trials_NextProbe.l30 e17 k) a1 a2 y2 v33 v_passed12))
    else
    (e17 a2 y2 v_passed12)
def trials_NextProbe.f (a0 : Int) (a1 : List Probe) (a2 : Int) : Option (Int × Bool × Int) :=
  (trials_Suspects.f a0 a1).bind fun y2 =>
  bif y2.2.2 != 0 then
  (some (0, false, y2.2.2))
  else
  ((trials_within.f a2 1 100).bind fun y8 =>
  bif !y8 then
  (some (0, false, 1))
  else
  (trials_NextProbe.l30 trials_NextProbe.e17 (((a1.length : Int) - 0).toNat + 1) a1 a2 y2 [] 0))
def slices_Clone_Probe.f (a0 : List Probe) : Option (List Probe) := guard? (room 0 a0.length 16) (some a0)
def smithyardref10_within.f (a0 : Int) (a1 : Int) (a2 : Int) : Option Bool :=
  (bif decide (a1 ≤ a0) then (some (decide (a0 ≤ a2))) else (some false)).bind fun t3 =>
  some t3
def smithyardref10_askProbes.e11  : Option Int :=
  some 0
def smithyardref10_askProbes.l13 (e11 : Option Int) : Nat → Int → (List Probe) → Int → Option Int
  | 0, _, _, _ => none
  | k + 1, a0, a1, v15 =>
    bif decide (v15 < (a1.length : Int)) then
    ((at? a1 v15).bind fun x16 =>
    (smithyardref10_within.f x16.Place 0 a0).bind fun y21 =>
    bif !y21 then
    (some 1)
    else
    ((bif x16.Place == 0 then (some (!x16.Pass)) else (some false)).bind fun t27 =>
    bif t27 then
    (some 12)
    else
    ((smithyardref10_askProbes.l13 e11 k) a0 a1 (w64 (v15 + 1)))))
    else
    (e11)
def smithyardref10_askProbes.f (a0 : Int) (a1 : List Probe) : Option Int :=
  (smithyardref10_within.f a0 1 100000).bind fun y2 =>
  bif !y2 then
  (some 1)
  else
  (bif decide (3000 < (a1.length : Int)) then
  (some 2)
  else
  (smithyardref10_askProbes.l13 smithyardref10_askProbes.e11 (((a1.length : Int) - 0).toNat + 1) a0 a1 0))
def smithyardref10_greatest.e3 (v_n0 : Int) : Option Int :=
  some v_n0
def smithyardref10_greatest.j14 (backl5 : (List Probe) → Int → Int → Option Int) (a1 : List Probe) (v9 : Int) (v_n0 : Int) : Option Int :=
  backl5 a1 v_n0 (w64 (v9 + 1))
def smithyardref10_greatest.l5 (e3 : Int → Option Int) : Nat → (List Probe) → Int → Int → Option Int
  | 0, _, _, _ => none
  | k + 1, a1, v_n0, v9 =>
    bif decide (v9 < (a1.length : Int)) then
    ((at? a1 v9).bind fun x8 =>
    bif !x8.Pass then
    (smithyardref10_greatest.j14 (smithyardref10_greatest.l5 e3 k) a1 v9 (min2 v_n0 x8.Place))
    else
    (smithyardref10_greatest.j14 (smithyardref10_greatest.l5 e3 k) a1 v9 v_n0))
    else
    (e3 v_n0)
def smithyardref10_greatest.f (a0 : Int) (a1 : List Probe) : Option Int :=
  smithyardref10_greatest.l5 smithyardref10_greatest.e3 (((a1.length : Int) - 0).toNat + 1) a1 a0 0
def smithyardref10_Suspects.f (a0 : Int) (a1 : List Probe) : Option (Int × Int × Int) :=
  (smithyardref10_askProbes.f a0 a1).bind fun y2 =>
  bif y2 != 0 then
  (some (0, 0, y2))
  else
  ((smithyardref10_greatest.f a0 a1).bind fun y8 =>
  some (1, y8, 0))
def smithyardref10_NextProbe.e16  : Option (Int × Bool × Int) :=
  some (0, false, 0)
def smithyardref10_NextProbe.e24 (backl18 : (List Probe) → Int → Int → Int → Option (Int × Bool × Int)) (a1 : List Probe) (a2 : Int) (y13 : Int) (v_mid12 : Int) (v_good13 : Int) : Option (Int × Bool × Int) :=
  bif decide (v_good13 < a2) then
  (some (v_mid12, true, 0))
  else
  (backl18 a1 a2 y13 v_mid12)
def smithyardref10_NextProbe.j41 (backl29 : (List Probe) → Int → Int → Int → Int → (List Probe) → Int → Int → Option (Int × Bool × Int)) (a1 : List Probe) (a2 : Int) (y13 : Int) (v_mid12 : Int) (v36 : List Probe) (v37 : Int) (v38 : Int) (v_good13 : Int) : Option (Int × Bool × Int) :=
  backl29 a1 a2 y13 v_mid12 v_good13 v36 v37 (w64 (v38 + 1))
def smithyardref10_NextProbe.l29 (e24 : (List Probe) → Int → Int → Int → Int → Option (Int × Bool × Int)) : Nat → (List Probe) → Int → Int → Int → Int → (List Probe) → Int → Int → Option (Int × Bool × Int)
  | 0, _, _, _, _, _, _, _, _ => none
  | k + 1, a1, a2, y13, v_mid12, v_good13, v36, v37, v38 =>
    bif decide (v38 < v37) then
    ((at? v36 v38).bind fun x32 =>
    (bif x32.Place == v_mid12 then (some x32.Pass) else (some false)).bind fun t38 =>
    bif t38 then
    (smithyardref10_NextProbe.j41 (smithyardref10_NextProbe.l29 e24 k) a1 a2 y13 v_mid12 v36 v37 v38 (w64 (v_good13 + 1)))
    else
    (smithyardref10_NextProbe.j41 (smithyardref10_NextProbe.l29 e24 k) a1 a2 y13 v_mid12 v36 v37 v38 v_good13))
    else
    (e24 a1 a2 y13 v_mid12 v_good13)
def smithyardref10_NextProbe.l18 (e16 : Option (Int × Bool × Int)) : Nat → (List Probe) → Int → Int → Int → Option (Int × Bool × Int)
  | 0, _, _, _, _ => none
  | k + 1, a1, a2, y13, v_lo10 =>
    bif decide ((w64 (v_lo10 + 1)) < y13) then
    (smithyardref10_NextProbe.l29 (smithyardref10_NextProbe.e24 (smithyardref10_NextProbe.l18 e16 k)) (((a1.length : Int) - 0).toNat + 1) a1 a2 y13 (w64 ((w64 (v_lo10 + y13)).tdiv 2)) 0 a1 (a1.length : Int) 0)
    else
    (e16)
def smithyardref10_NextProbe.f (a0 : Int) (a1 : List Probe) (a2 : Int) : Option (Int × Bool × Int) :=
  (smithyardref10_askProbes.f a0 a1).bind fun y2 =>
  bif y2 != 0 then
  (some (0, false, y2))
  else
  ((smithyardref10_within.f a2 1 100).bind fun y8 =>
  bif !y8 then
  (some (0, false, 1))
  else
  ((smithyardref10_greatest.f a0 a1).bind fun y13 =>
  smithyardref10_NextProbe.l18 smithyardref10_NextProbe.e16 ((y13 - 0).toNat + 1) a1 a2 y13 0))
def slices_Equal_Probe.e6  : Option Bool :=
  some true
def slices_Equal_Probe.l8 (e6 : Option Bool) : Nat → (List Probe) → (List Probe) → Int → Option Bool
  | 0, _, _, _ => none
  | k + 1, a0, a1, v13 =>
    bif decide (v13 < (a0.length : Int)) then
    ((at? a0 v13).bind fun x12 =>
    (at? a1 v13).bind fun x14 =>
    bif !(x12.Place == x14.Place && (x12.Pass == x14.Pass && true)) then
    (some false)
    else
    ((slices_Equal_Probe.l8 e6 k) a0 a1 (w64 (v13 + 1))))
    else
    (e6)
def slices_Equal_Probe.f (a0 : List Probe) (a1 : List Probe) : Option Bool :=
  bif (a0.length : Int) != (a1.length : Int) then
  (some false)
  else
  (slices_Equal_Probe.l8 slices_Equal_Probe.e6 (((a0.length : Int) - 0).toNat + 1) a0 a1 0)
def trials_Tried.e15 (a0 : Int) : Option (Int × Int × Int) :=
  some (3, a0, 0)
def trials_Tried.j24 (backl17 : Int → Int → (List Bool) → Int → Int → Option (Int × Int × Int)) (a0 : Int) (a1 : Int) (a2 : List Bool) (v28 : Int) (v_passed9 : Int) : Option (Int × Int × Int) :=
  (bif v_passed9 == a1 then (some ((w64 (v28 + 1)) == a1)) else (some false)).bind fun t27 =>
  bif t27 then
  (some (2, w64 (v28 + 1), 0))
  else
  (bif v_passed9 == a1 then
  (some (4, w64 (v28 + 1), 0))
  else
  (bif decide ((w64 ((w64 (v_passed9 + a0)) - (w64 (v28 + 1)))) < a1) then
  (some (3, w64 (v28 + 1), 0))
  else
  (backl17 a0 a1 a2 v_passed9 (w64 (v28 + 1)))))
def trials_Tried.l17 (e15 : Int → Option (Int × Int × Int)) : Nat → Int → Int → (List Bool) → Int → Int → Option (Int × Int × Int)
  | 0, _, _, _, _, _ => none
  | k + 1, a0, a1, a2, v_passed9, v28 =>
    bif decide (v28 < (a2.length : Int)) then
    ((at? a2 v28).bind fun x20 =>
    bif x20 then
    (trials_Tried.j24 (trials_Tried.l17 e15 k) a0 a1 a2 v28 (w64 (v_passed9 + 1)))
    else
    (trials_Tried.j24 (trials_Tried.l17 e15 k) a0 a1 a2 v28 v_passed9))
    else
    (e15 a0)
def trials_Tried.f (a0 : Int) (a1 : Int) (a2 : List Bool) : Option (Int × Int × Int) :=
  ((trials_within.f a0 1 100).bind fun y2 =>
  bif !y2 then (some true) else ((trials_within.f a1 1 a0).bind fun y3 =>
  some (!y3))).bind fun t5 =>
  bif t5 then
  (some (0, 0, 1))
  else
  (bif (a2.length : Int) != a0 then
  (some (0, 0, 3))
  else
  (trials_Tried.l17 trials_Tried.e15 (((a2.length : Int) - 0).toNat + 1) a0 a1 a2 0 0))
def smithyardlaw10_awake.f  : Option Bool :=
  (trials_Tried.f 3 1 ([false, true, true] : List Bool)).bind fun y3 =>
  (bif y3.2.2 == 0 then (bif y3.1 == 4 then (some (y3.2.1 == 2)) else (some false)) else (some false)).bind fun t8 =>
  some t8
def smithyardlaw10_TrialsProbesMatchSpec.f (a0 : Int) (a1 : List Probe) (a2 : Int) : Option Bool :=
  (slices_Clone_Probe.f a1).bind fun y2 =>
  (trials_Suspects.f a0 a1).bind fun y6 =>
  (smithyardref10_Suspects.f a0 y2).bind fun y9 =>
  (bif y6.2.2 != y9.2.2 then (some true) else (bif y6.1 != y9.1 then (some true) else (some (y6.2.1 != y9.2.1)))).bind fun t14 =>
  bif t14 then
  (some false)
  else
  ((trials_NextProbe.f a0 a1 a2).bind fun y19 =>
  (smithyardref10_NextProbe.f a0 y2 a2).bind fun y22 =>
  (bif y19.2.2 == y22.2.2 then (bif y19.1 == y22.1 then (bif y19.2.1 == y22.2.1 then ((slices_Equal_Probe.f a1 y2).bind fun y26 =>
  bif y26 then ((smithyardlaw10_awake.f).bind fun y27 =>
  some y27) else (some false)) else (some false)) else (some false)) else (some false)).bind fun t29 =>
  some t29)
def smithyardref10_Below.j5 (v_x0 : Int) : Option Int :=
  some v_x0
def smithyardref10_Below.f (a0 : Int) (a1 : Int) : Option Int :=
  guard? (a1 != 0) (bif decide ((a0.tmod a1) < 0) then
  (smithyardref10_Below.j5 (w64 ((a0.tmod a1) + a1)))
  else
  (smithyardref10_Below.j5 (a0.tmod a1)))
def smithyardlaw10_TrialsProbesFindIt.e15  : Option Bool :=
  some false
def smithyardlaw10_TrialsProbesFindIt.l17 (e15 : Option Bool) : Nat → Int → Int → (List Probe) → Int → Option Bool
  | 0, _, _, _, _ => none
  | k + 1, a0, y10, v_l5, v23 =>
    bif decide (v23 < 200) then
    ((trials_NextProbe.f a0 v_l5 1).bind fun y20 =>
    (bif y20.2.2 != 0 then (some true) else (bif y20.2.1 then (bif decide (y20.1 < 1) then (some true) else (some (decide (a0 ≤ y20.1)))) else (some false))).bind fun t25 =>
    bif t25 then
    (some false)
    else
    (bif !y20.2.1 then
    ((trials_Suspects.f a0 v_l5).bind fun y32 =>
    (bif y32.2.2 == 0 then (bif y32.2.1 == (w64 (1 + y10)) then ((smithyardlaw10_awake.f).bind fun y36 =>
    some y36) else (some false)) else (some false)).bind fun t38 =>
    some t38)
    else
    (guard? (room v_l5.length (([(⟨y20.1, decide (y20.1 < (w64 (1 + y10)))⟩ : Probe)] : List Probe).length) 16) ((smithyardlaw10_TrialsProbesFindIt.l17 e15 k) a0 y10 (v_l5 ++ ([(⟨y20.1, decide (y20.1 < (w64 (1 + y10)))⟩ : Probe)] : List Probe)) (w64 (v23 + 1))))))
    else
    (e15)
def smithyardlaw10_TrialsProbesFindIt.f (a0 : Int) (a1 : Int) : Option Bool :=
  (bif decide (a0 < 1) then (some true) else (some (decide (100000 < a0)))).bind fun t3 =>
  bif t3 then
  ((smithyardlaw10_awake.f).bind fun y7 =>
  some y7)
  else
  ((smithyardref10_Below.f a1 a0).bind fun y10 =>
  smithyardlaw10_TrialsProbesFindIt.l17 smithyardlaw10_TrialsProbesFindIt.e15 (((200 : Int) - 0).toNat + 1) a0 y10 [] 0)
end Go.Proofs.Ytdhennofffldhaa
