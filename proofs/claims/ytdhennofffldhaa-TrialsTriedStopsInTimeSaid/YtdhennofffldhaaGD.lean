/- Plain functions, each written by program out of one Go function's operations. -/
import Derived.Test.YtdhennofffldhaaKitP
set_option linter.unusedVariables false
namespace Go.Proofs.Ytdhennofffldhaa
open Go Go.Proofs.Ytdhennofffldhaa.Kit
structure Probe where
  Place : Int
  Pass : Bool
  deriving Inhabited, DecidableEq
def trials_within.f (a0 : Int) (a1 : Int) (a2 : Int) : Option Bool :=
  (bif decide (a1 ≤ a0) then (some (decide (a0 ≤ a2))) else (some false)).bind fun t3 =>
  some t3
def smithyardref10_within.f (a0 : Int) (a1 : Int) (a2 : Int) : Option Bool :=
  (bif decide (a1 ≤ a0) then (some (decide (a0 ≤ a2))) else (some false)).bind fun t3 =>
  some t3
def smithyardref10_Below.j5 (v_x0 : Int) : Option Int :=
  some v_x0
def smithyardref10_Below.f (a0 : Int) (a1 : Int) : Option Int :=
  guard? (a1 != 0) (bif decide ((a0.tmod a1) < 0) then
  (smithyardref10_Below.j5 (w64 ((a0.tmod a1) + a1)))
  else
  (smithyardref10_Below.j5 (a0.tmod a1)))
def trials_Tried.e15 (a0 : Int) : Option (Int × Int × Int) :=
  some (3, a0, 0)
def trials_Tried.j24 (backl17 : Int → Int → (List Bool) → Int → Int → Option (Int × Int × Int)) (a0 : Int) (a1 : Int) (a2 : List Bool) (v28 : Int) (v_passed9 : Int) : Option (Int × Int × Int) :=
  (bif v_passed9 == a1 then (some ((w64 (v28 + 1)) == a1)) else (some false)).bind fun t27 =>
  bif t27 then
  (some (2, w64 (v28 + 1), 0))
  else
  (bif v_passed9 == a1 then
  (some (4, w64 (v28 + 1), 0))
  else
  (bif decide ((w64 ((w64 (v_passed9 + a0)) - (w64 (v28 + 1)))) < a1) then
  (some (3, w64 (v28 + 1), 0))
  else
  (backl17 a0 a1 a2 v_passed9 (w64 (v28 + 1)))))
def trials_Tried.l17 (e15 : Int → Option (Int × Int × Int)) : Nat → Int → Int → (List Bool) → Int → Int → Option (Int × Int × Int)
  | 0, _, _, _, _, _ => none
  | k + 1, a0, a1, a2, v_passed9, v28 =>
    bif decide (v28 < (a2.length : Int)) then
    ((at? a2 v28).bind fun x20 =>
    bif x20 then
    (trials_Tried.j24 (trials_Tried.l17 e15 k) a0 a1 a2 v28 (w64 (v_passed9 + 1)))
    else
    (trials_Tried.j24 (trials_Tried.l17 e15 k) a0 a1 a2 v28 v_passed9))
    else
    (e15 a0)
def trials_Tried.f (a0 : Int) (a1 : Int) (a2 : List Bool) : Option (Int × Int × Int) :=
  ((trials_within.f a0 1 100).bind fun y2 =>
  bif !y2 then (some true) else ((trials_within.f a1 1 a0).bind fun y3 =>
  some (!y3))).bind fun t5 =>
  bif t5 then
  (some (0, 0, 1))
  else
  (bif (a2.length : Int) != a0 then
  (some (0, 0, 3))
  else
  (trials_Tried.l17 trials_Tried.e15 (((a2.length : Int) - 0).toNat + 1) a0 a1 a2 0 0))
def smithyardlaw10_awake.f  : Option Bool :=
  (trials_Tried.f 3 1 ([false, true, true] : List Bool)).bind fun y3 =>
  (bif y3.2.2 == 0 then (bif y3.1 == 4 then (some (y3.2.1 == 2)) else (some false)) else (some false)).bind fun t8 =>
  some t8
def smithyardref10_Tried.e14 (a1 : Int) (v_good9 : Int) (v_n10 : Int) : Option (Int × Int × Int) :=
  bif decide (v_good9 < a1) then
  (some (3, v_n10, 0))
  else
  (bif decide (v_good9 < v_n10) then
  (some (4, v_n10, 0))
  else
  (some (2, v_n10, 0)))
def smithyardref10_Tried.j31 (backl22 : Int → Int → (List Bool) → Int → Int → Option (Int × Int × Int)) (a0 : Int) (a1 : Int) (a2 : List Bool) (v_n10 : Int) (v_good9 : Int) : Option (Int × Int × Int) :=
  backl22 a0 a1 a2 v_good9 (w64 (v_n10 + 1))
def smithyardref10_Tried.l22 (e14 : Int → Int → Int → Option (Int × Int × Int)) : Nat → Int → Int → (List Bool) → Int → Int → Option (Int × Int × Int)
  | 0, _, _, _, _, _ => none
  | k + 1, a0, a1, a2, v_good9, v_n10 =>
    (bif decide (v_good9 < a1) then (some (decide (a1 ≤ (w64 ((w64 (v_good9 + a0)) - v_n10))))) else (some false)).bind fun t24 =>
    bif t24 then
    ((at? a2 v_n10).bind fun x28 =>
    bif x28 then
    (smithyardref10_Tried.j31 (smithyardref10_Tried.l22 e14 k) a0 a1 a2 v_n10 (w64 (v_good9 + 1)))
    else
    (smithyardref10_Tried.j31 (smithyardref10_Tried.l22 e14 k) a0 a1 a2 v_n10 v_good9))
    else
    (e14 a1 v_good9 v_n10)
def smithyardref10_Tried.f (a0 : Int) (a1 : Int) (a2 : List Bool) : Option (Int × Int × Int) :=
  ((smithyardref10_within.f a0 1 100).bind fun y2 =>
  bif !y2 then (some true) else ((smithyardref10_within.f a1 1 a0).bind fun y3 =>
  some (!y3))).bind fun t5 =>
  bif t5 then
  (some (0, 0, 1))
  else
  (bif (a2.length : Int) != a0 then
  (some (0, 0, 3))
  else
  (smithyardref10_Tried.l22 smithyardref10_Tried.e14 (a0.toNat + 1) a0 a1 a2 0 0))
def slices_Equal_bool.e6  : Option Bool :=
  some true
def slices_Equal_bool.l8 (e6 : Option Bool) : Nat → (List Bool) → (List Bool) → Int → Option Bool
  | 0, _, _, _ => none
  | k + 1, a0, a1, v13 =>
    bif decide (v13 < (a0.length : Int)) then
    ((at? a0 v13).bind fun x12 =>
    (at? a1 v13).bind fun x14 =>
    bif !(x12 == x14) then
    (some false)
    else
    ((slices_Equal_bool.l8 e6 k) a0 a1 (w64 (v13 + 1))))
    else
    (e6)
def slices_Equal_bool.f (a0 : List Bool) (a1 : List Bool) : Option Bool :=
  bif (a0.length : Int) != (a1.length : Int) then
  (some false)
  else
  (slices_Equal_bool.l8 slices_Equal_bool.e6 (((a0.length : Int) - 0).toNat + 1) a0 a1 0)
def trials_Suspects.e12 (v_most7 : Int) : Option (Int × Int × Int) :=
  some (1, v_most7, 0)
def trials_Suspects.j34 (backl14 : Int → (List Probe) → Int → Int → Option (Int × Int × Int)) (a0 : Int) (a1 : List Probe) (v19 : Int) (v_most7 : Int) : Option (Int × Int × Int) :=
  backl14 a0 a1 v_most7 (w64 (v19 + 1))
def trials_Suspects.l14 (e12 : Int → Option (Int × Int × Int)) : Nat → Int → (List Probe) → Int → Int → Option (Int × Int × Int)
  | 0, _, _, _, _ => none
  | k + 1, a0, a1, v_most7, v19 =>
    bif decide (v19 < (a1.length : Int)) then
    ((at? a1 v19).bind fun x17 =>
    (trials_within.f x17.Place 0 a0).bind fun y22 =>
    bif !y22 then
    (some (0, 0, 1))
    else
    ((bif x17.Place == 0 then (some (!x17.Pass)) else (some false)).bind fun t28 =>
    bif t28 then
    (some (0, 0, 12))
    else
    (bif !x17.Pass then
    (trials_Suspects.j34 (trials_Suspects.l14 e12 k) a0 a1 v19 (min2 v_most7 x17.Place))
    else
    (trials_Suspects.j34 (trials_Suspects.l14 e12 k) a0 a1 v19 v_most7))))
    else
    (e12 v_most7)
def trials_Suspects.f (a0 : Int) (a1 : List Probe) : Option (Int × Int × Int) :=
  (trials_within.f a0 1 100000).bind fun y2 =>
  bif !y2 then
  (some (0, 0, 1))
  else
  (bif decide (3000 < (a1.length : Int)) then
  (some (0, 0, 2))
  else
  (trials_Suspects.l14 trials_Suspects.e12 (((a1.length : Int) - 0).toNat + 1) a0 a1 a0 0))
def smithyardref10_askProbes.e11  : Option Int :=
  some 0
def smithyardref10_askProbes.l13 (e11 : Option Int) : Nat → Int → (List Probe) → Int → Option Int
  | 0, _, _, _ => none
  | k + 1, a0, a1, v15 =>
    bif decide (v15 < (a1.length : Int)) then
    ((at? a1 v15).bind fun x16 =>
    (smithyardref10_within.f x16.Place 0 a0).bind fun y21 =>
    bif !y21 then
    (some 1)
    else
    ((bif x16.Place == 0 then (some (!x16.Pass)) else (some false)).bind fun t27 =>
    bif t27 then
    (some 12)
    else
    ((smithyardref10_askProbes.l13 e11 k) a0 a1 (w64 (v15 + 1)))))
    else
    (e11)
def smithyardref10_askProbes.f (a0 : Int) (a1 : List Probe) : Option Int :=
  (smithyardref10_within.f a0 1 100000).bind fun y2 =>
  bif !y2 then
  (some 1)
  else
  (bif decide (3000 < (a1.length : Int)) then
  (some 2)
  else
  (smithyardref10_askProbes.l13 smithyardref10_askProbes.e11 (((a1.length : Int) - 0).toNat + 1) a0 a1 0))
def smithyardref10_greatest.e3 (v_n0 : Int) : Option Int :=
  some v_n0
def smithyardref10_greatest.j14 (backl5 : (List Probe) → Int → Int → Option Int) (a1 : List Probe) (v9 : Int) (v_n0 : Int) : Option Int :=
  backl5 a1 v_n0 (w64 (v9 + 1))
def smithyardref10_greatest.l5 (e3 : Int → Option Int) : Nat → (List Probe) → Int → Int → Option Int
  | 0, _, _, _ => none
  | k + 1, a1, v_n0, v9 =>
    bif decide (v9 < (a1.length : Int)) then
    ((at? a1 v9).bind fun x8 =>
    bif !x8.Pass then
    (smithyardref10_greatest.j14 (smithyardref10_greatest.l5 e3 k) a1 v9 (min2 v_n0 x8.Place))
    else
    (smithyardref10_greatest.j14 (smithyardref10_greatest.l5 e3 k) a1 v9 v_n0))
    else
    (e3 v_n0)
def smithyardref10_greatest.f (a0 : Int) (a1 : List Probe) : Option Int :=
  smithyardref10_greatest.l5 smithyardref10_greatest.e3 (((a1.length : Int) - 0).toNat + 1) a1 a0 0
def smithyardref10_Suspects.f (a0 : Int) (a1 : List Probe) : Option (Int × Int × Int) :=
  (smithyardref10_askProbes.f a0 a1).bind fun y2 =>
  bif y2 != 0 then
  (some (0, 0, y2))
  else
  ((smithyardref10_greatest.f a0 a1).bind fun y8 =>
  some (1, y8, 0))
def slices_Equal_Probe.e6  : Option Bool :=
  some true
def slices_Equal_Probe.l8 (e6 : Option Bool) : Nat → (List Probe) → (List Probe) → Int → Option Bool
  | 0, _, _, _ => none
  | k + 1, a0, a1, v13 =>
    bif decide (v13 < (a0.length : Int)) then
    ((at? a0 v13).bind fun x12 =>
    (at? a1 v13).bind fun x14 =>
    bif !(x12.Place == x14.Place && (x12.Pass == x14.Pass && true)) then
    (some false)
    else
    ((slices_Equal_Probe.l8 e6 k) a0 a1 (w64 (v13 + 1))))
    else
    (e6)
def slices_Equal_Probe.f (a0 : List Probe) (a1 : List Probe) : Option Bool :=
  bif (a0.length : Int) != (a1.length : Int) then
  (some false)
  else
  (slices_Equal_Probe.l8 slices_Equal_Probe.e6 (((a0.length : Int) - 0).toNat + 1) a0 a1 0)
def smithyardref10_NextProbe.e16  : Option (Int × Bool × Int) :=
  some (0, false, 0)
def smithyardref10_NextProbe.e24 (backl18 : (List Probe) → Int → Int → Int → Option (Int × Bool × Int)) (a1 : List Probe) (a2 : Int) (y13 : Int) (v_mid12 : Int) (v_good13 : Int) : Option (Int × Bool × Int) :=
  bif decide (v_good13 < a2) then
  (some (v_mid12, true, 0))
  else
  (backl18 a1 a2 y13 v_mid12)
def smithyardref10_NextProbe.j41 (backl29 : (List Probe) → Int → Int → Int → Int → (List Probe) → Int → Int → Option (Int × Bool × Int)) (a1 : List Probe) (a2 : Int) (y13 : Int) (v_mid12 : Int) (v36 : List Probe) (v37 : Int) (v38 : Int) (v_good13 : Int) : Option (Int × Bool × Int) :=
  backl29 a1 a2 y13 v_mid12 v_good13 v36 v37 (w64 (v38 + 1))
def smithyardref10_NextProbe.l29 (e24 : (List Probe) → Int → Int → Int → Int → Option (Int × Bool × Int)) : Nat → (List Probe) → Int → Int → Int → Int → (List Probe) → Int → Int → Option (Int × Bool × Int)
  | 0, _, _, _, _, _, _, _, _ => none
  | k + 1, a1, a2, y13, v_mid12, v_good13, v36, v37, v38 =>
    bif decide (v38 < v37) then
    ((at? v36 v38).bind fun x32 =>
    (bif x32.Place == v_mid12 then (some x32.Pass) else (some false)).bind fun t38 =>
    bif t38 then
    (smithyardref10_NextProbe.j41 (smithyardref10_NextProbe.l29 e24 k) a1 a2 y13 v_mid12 v36 v37 v38 (w64 (v_good13 + 1)))
    else
    (smithyardref10_NextProbe.j41 (smithyardref10_NextProbe.l29 e24 k) a1 a2 y13 v_mid12 v36 v37 v38 v_good13))
    else
    (e24 a1 a2 y13 v_mid12 v_good13)
def smithyardref10_NextProbe.l18 (e16 : Option (Int × Bool × Int)) : Nat → (List Probe) → Int → Int → Int → Option (Int × Bool × Int)
  | 0, _, _, _, _ => none
  | k + 1, a1, a2, y13, v_lo10 =>
    bif decide ((w64 (v_lo10 + 1)) < y13) then
    (smithyardref10_NextProbe.l29 (smithyardref10_NextProbe.e24 (smithyardref10_NextProbe.l18 e16 k)) (((a1.length : Int) - 0).toNat + 1) a1 a2 y13 (w64 ((w64 (v_lo10 + y13)).tdiv 2)) 0 a1 (a1.length : Int) 0)
    else
    (e16)
def smithyardref10_NextProbe.f (a0 : Int) (a1 : List Probe) (a2 : Int) : Option (Int × Bool × Int) :=
  (smithyardref10_askProbes.f a0 a1).bind fun y2 =>
  bif y2 != 0 then
  (some (0, false, y2))
  else
  ((smithyardref10_within.f a2 1 100).bind fun y8 =>
  bif !y8 then
  (some (0, false, 1))
  else
  ((smithyardref10_greatest.f a0 a1).bind fun y13 =>
  smithyardref10_NextProbe.l18 smithyardref10_NextProbe.e16 ((y13 - 0).toNat + 1) a1 a2 y13 0))
def slices_Clone_bool.f (a0 : List Bool) : Option (List Bool) := guard? (room 0 a0.length 1) (some a0)
def slices_Clone_Probe.f (a0 : List Probe) : Option (List Probe) := guard? (room 0 a0.length 16) (some a0)
def smithyardlaw10_TrialsTriedMatchesSpec.f (a0 : Int) (a1 : Int) (a2 : List Bool) : Option Bool :=
  (slices_Clone_bool.f a2).bind fun y2 =>
  (trials_Tried.f a0 a1 a2).bind fun y6 =>
  (smithyardref10_Tried.f a0 a1 y2).bind fun y9 =>
  (bif y6.2.2 == y9.2.2 then (bif y6.1 == y9.1 then (bif y6.2.1 == y9.2.1 then ((slices_Equal_bool.f a2 y2).bind fun y13 =>
  bif y13 then ((smithyardlaw10_awake.f).bind fun y14 =>
  some y14) else (some false)) else (some false)) else (some false)) else (some false)).bind fun t16 =>
  some t16
def smithyardlaw10_TrialsTriedStopsInTime.e32 (a0 : Int) (a1 : Int) (y2 : Int × Int × Int) (v_m12 : List Bool) : Option Bool :=
  guard? (decide (0 ≤ a0) && decide (a0 ≤ (v_m12.length : Int))) ((trials_Tried.f a0 a1 (v_m12.take a0.toNat)).bind fun y35 =>
  (bif y35.2.2 == 0 then (bif y2.1 == y35.1 then (bif y2.2.1 == y35.2.1 then ((smithyardlaw10_awake.f).bind fun y39 =>
  some y39) else (some false)) else (some false)) else (some false)).bind fun t41 =>
  some t41)
def smithyardlaw10_TrialsTriedStopsInTime.l48 (e32 : Int → Int → (Int × Int × Int) → (List Bool) → Option Bool) : Nat → Int → Int → (Int × Int × Int) → (List Bool) → Option Bool
  | 0, _, _, _, _ => none
  | k + 1, a0, a1, y2, v_m12 =>
    bif decide ((v_m12.length : Int) < a0) then
    (guard? (room v_m12.length (([false] : List Bool).length) 1) ((smithyardlaw10_TrialsTriedStopsInTime.l48 e32 k) a0 a1 y2 (v_m12 ++ ([false] : List Bool))))
    else
    (e32 a0 a1 y2 v_m12)
def smithyardlaw10_TrialsTriedStopsInTime.f (a0 : Int) (a1 : Int) (a2 : List Bool) (a3 : List Bool) : Option Bool :=
  (trials_Tried.f a0 a1 a2).bind fun y2 =>
  bif y2.2.2 != 0 then
  ((bif y2.1 == 0 then (bif y2.2.1 == 0 then ((smithyardlaw10_awake.f).bind fun y7 =>
  some y7) else (some false)) else (some false)).bind fun t9 =>
  some t9)
  else
  ((bif decide (y2.2.1 < 1) then (some true) else (some (decide (a0 < y2.2.1)))).bind fun t16 =>
  bif t16 then
  (some false)
  else
  (guard? (decide (0 ≤ y2.2.1) && decide (y2.2.1 ≤ (a2.length : Int))) ((slices_Clone_bool.f (a2.take y2.2.1.toNat)).bind fun y23 =>
  guard? (room y23.length a3.length 1) (smithyardlaw10_TrialsTriedStopsInTime.l48 smithyardlaw10_TrialsTriedStopsInTime.e32 (a0.toNat + 1) a0 a1 y2 (y23 ++ a3)))))
end Go.Proofs.Ytdhennofffldhaa
