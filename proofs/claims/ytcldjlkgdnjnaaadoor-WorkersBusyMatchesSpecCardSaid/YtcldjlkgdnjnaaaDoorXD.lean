/- Plain functions, each written by program out of one Go function's operations. -/
import Derived.Test.YtcldjlkgdnjnaaaDoorKitP
import Derived.Lib.Bytealg
import Derived.Lib.SlTrimSet
set_option linter.unusedVariables false
namespace Go.Proofs.YtcldjlkgdnjnaaaDoor
open Go Go.Proofs.YtcldjlkgdnjnaaaDoor.Kit
structure Pair where
  Name : ByteArray
  Value : ByteArray
  deriving Inhabited, DecidableEq
structure Span where
  From : Int
  To : Int
  deriving Inhabited, DecidableEq
structure Worker where
  Name : ByteArray
  Has : List Pair
  Slots : Int
  Speed : Int
  From : Int
  To : Int
  Stands : List Span
  deriving Inhabited, DecidableEq
structure Run where
  Id : ByteArray
  Worker : ByteArray
  From : Int
  To : Int
  End : Int
  deriving Inhabited, DecidableEq
structure Work where
  Id : ByteArray
  Needs : List Pair
  Size : Int
  After : List ByteArray
  deriving Inhabited, DecidableEq
def strings_Trim.f (a0 : ByteArray) (a1 : ByteArray) : Option ByteArray := guard? (decide (a0.size ≤ 9223372036854775807) && (decide (a1.size < 4294967281) && a1.data.toList.all (fun b => decide (b.toNat < 128)))) (some (⟨(Lib.trimS a0.data.toList a1.data.toList).toArray⟩))
def config_IsWord.f (a0 : ByteArray) : Option Bool :=
  (bif decide ((a0.size : Int) < 1) then (some true) else (bif decide (40 < (a0.size : Int)) then (some true) else (guard? (decide ((0 : Int) ≤ 0) && decide (0 < (a0.size : Int))) (
  bif decide ((bt a0 0) < 97) then (some true) else (guard? (decide ((0 : Int) ≤ 0) && decide (0 < (a0.size : Int))) (
  some (decide (122 < (bt a0 0))))))))).bind fun t1 =>
  bif t1 then
  (some false)
  else
  ((strings_Trim.f a0 ({ data := #[97, 98, 99, 100, 101, 102, 103, 104, 105, 106, 107, 108, 109, 110, 111, 112, 113, 114, 115, 116, 117, 118, 119, 120, 121, 122, 48, 49, 50, 51, 52, 53, 54, 55, 56, 57, 95, 45] } : ByteArray)).bind fun y1 =>
  some (sEq y1 ({ data := #[] } : ByteArray)))
def config_CheckPairs.e1  : Option Int :=
  some 0
def config_CheckPairs.l2 (e1 : Option Int) : Nat → (List Pair) → Int → Option Int
  | 0, _, _ => none
  | k + 1, a0, v10 =>
    bif decide (v10 < (a0.length : Int)) then
    ((at? a0 v10).bind fun x1 =>
    (config_IsWord.f x1.Name).bind fun y1 =>
    bif !y1 then
    (some 5)
    else
    ((config_IsWord.f x1.Value).bind fun y2 =>
    bif !y2 then
    (some 1)
    else
    ((bif decide (0 < v10) then ((at? a0 (w64 (v10 - 1))).bind fun x2 =>
    some (sLt x1.Name x2.Name || sEq x1.Name x2.Name)) else (some false)).bind fun t1 =>
    bif t1 then
    (some 8)
    else
    ((config_CheckPairs.l2 e1 k) a0 (w64 (v10 + 1))))))
    else
    (e1)
def config_CheckPairs.f (a0 : List Pair) : Option Int :=
  bif decide (30 < (a0.length : Int)) then
  (some 2)
  else
  (config_CheckPairs.l2 config_CheckPairs.e1 big a0 0)
def workers_within.f (a0 : Int) (a1 : Int) (a2 : Int) : Option Bool :=
  (bif decide (a1 ≤ a0) then (some (decide (a0 ≤ a2))) else (some false)).bind fun t1 =>
  some t1
def workers_isMoment.f (a0 : Int) : Option Bool :=
  (workers_within.f a0 0 1000000000).bind fun y1 =>
  some y1
def workers_checkStands.e1  : Option Int :=
  some 0
def workers_checkStands.l2 (e1 : Option Int) : Nat → (List Span) → Int → Option Int
  | 0, _, _ => none
  | k + 1, a0, v10 =>
    bif decide (v10 < (a0.length : Int)) then
    ((at? a0 v10).bind fun x1 =>
    ((workers_isMoment.f x1.From).bind fun y1 =>
    bif !y1 then (some true) else ((workers_isMoment.f x1.To).bind fun y2 =>
    some (!y2))).bind fun t1 =>
    bif t1 then
    (some 1)
    else
    ((bif decide (x1.To ≤ x1.From) then (some true) else (bif decide (0 < v10) then ((at? a0 (w64 (v10 - 1))).bind fun x2 =>
    some (decide (x1.From < x2.To))) else (some false))).bind fun t2 =>
    bif t2 then
    (some 8)
    else
    ((workers_checkStands.l2 e1 k) a0 (w64 (v10 + 1)))))
    else
    (e1)
def workers_checkStands.f (a0 : List Span) : Option Int :=
  bif decide (20 < (a0.length : Int)) then
  (some 2)
  else
  (workers_checkStands.l2 workers_checkStands.e1 big a0 0)
def workers_checkWorker.f (a0 : Worker) : Option Int :=
  (config_IsWord.f a0.Name).bind fun y1 =>
  bif !y1 then
  (some 5)
  else
  ((config_CheckPairs.f a0.Has).bind fun y2 =>
  bif y2 != 0 then
  (some y2)
  else
  (((workers_within.f a0.Slots 1 20).bind fun y3 =>
  bif !y3 then (some true) else ((workers_within.f a0.Speed 1 1000).bind fun y4 =>
  bif !y4 then (some true) else ((workers_isMoment.f a0.From).bind fun y5 =>
  bif !y5 then (some true) else ((workers_isMoment.f a0.To).bind fun y6 =>
  some (!y6))))).bind fun t1 =>
  bif t1 then
  (some 1)
  else
  (bif decide (a0.To ≤ a0.From) then
  (some 8)
  else
  ((workers_checkStands.f a0.Stands).bind fun y7 =>
  some y7))))
def workers_checkSize.f (a0 : Worker) (a1 : Int) : Option Int :=
  (workers_checkWorker.f a0).bind fun y1 =>
  bif y1 != 0 then
  (some y1)
  else
  ((workers_within.f a1 1 1000000).bind fun y2 =>
  bif !y2 then
  (some 1)
  else
  (some 0))
def workers_seconds.f (a0 : Worker) (a1 : Int) : Option Int :=
  guard? (a0.Speed != 0) (
  some (w64 ((w64 ((w64 (a1 + a0.Speed)) - 1)).tdiv a0.Speed)))
def workers_Seconds.f (a0 : Worker) (a1 : Int) : Option (Int × Int) :=
  (workers_checkSize.f a0 a1).bind fun y1 =>
  bif y1 != 0 then
  (some (0, y1))
  else
  ((workers_seconds.f a0 a1).bind fun y2 =>
  some (y2, 0))
def smithyardlaw9_awake.f  : Option Bool :=
  (workers_Seconds.f (⟨({ data := #[97] } : ByteArray), ([] : List Pair), 1, 2, 0, 1, ([] : List Span)⟩ : Worker) 3).bind fun y1 =>
  (bif y1.2 == 0 then (some (y1.1 == 2)) else (some false)).bind fun t1 =>
  some t1
def workers_ends.e1 (a0 : Worker) (v_left8 : Int) (v_at9 : Int) : Option (Int × Bool) :=
  bif decide (a0.To < (w64 (v_at9 + v_left8))) then
  (some (0, false))
  else
  (some (w64 (v_at9 + v_left8), true))
def workers_ends.j3 (backl2 : Worker → Int → Int → Int → Option (Int × Bool)) (a0 : Worker) (v23 : Int) (v_left8 : Int) (v_at9 : Int) : Option (Int × Bool) :=
  backl2 a0 v_left8 v_at9 (w64 (v23 + 1))
def workers_ends.j4 (j3 : Worker → Int → Int → Int → Option (Int × Bool)) (a0 : Worker) (v23 : Int) (x1 : Span) (v_left8 : Int) : Option (Int × Bool) :=
  j3 a0 v23 v_left8 x1.To
def workers_ends.l2 (e1 : Worker → Int → Int → Option (Int × Bool)) : Nat → Worker → Int → Int → Int → Option (Int × Bool)
  | 0, _, _, _, _ => none
  | k + 1, a0, v_left8, v_at9, v23 =>
    bif decide (v23 < (a0.Stands.length : Int)) then
    ((at? a0.Stands v23).bind fun x1 =>
    bif decide (x1.To ≤ v_at9) then
    (workers_ends.j3 ((workers_ends.l2 e1 k)) a0 v23 v_left8 v_at9)
    else
    (bif decide (v_at9 < x1.From) then
    (bif decide (v_left8 ≤ (w64 (x1.From - v_at9))) then
    (e1 a0 v_left8 v_at9)
    else
    (workers_ends.j4 (workers_ends.j3 ((workers_ends.l2 e1 k))) a0 v23 x1 (w64 (v_left8 - (w64 (x1.From - v_at9))))))
    else
    (workers_ends.j4 (workers_ends.j3 ((workers_ends.l2 e1 k))) a0 v23 x1 v_left8)))
    else
    (e1 a0 v_left8 v_at9)
def workers_ends.f (a0 : Worker) (a1 : Int) (a2 : Int) : Option (Int × Bool) :=
  bif decide (a2 < a0.From) then
  (some (0, false))
  else
  ((workers_seconds.f a0 a1).bind fun y1 =>
  workers_ends.l2 workers_ends.e1 big a0 y1 a2 0)
def workers_Ends.f (a0 : Worker) (a1 : Int) (a2 : Int) : Option (Int × Bool × Int) :=
  (workers_checkSize.f a0 a1).bind fun y1 =>
  bif y1 != 0 then
  (some (0, false, y1))
  else
  ((workers_isMoment.f a2).bind fun y2 =>
  bif !y2 then
  (some (0, false, 1))
  else
  ((workers_ends.f a0 a1 a2).bind fun y3 =>
  some (y3.1, y3.2, 0)))
def smithyardlaw9_WorkersEndsAddUp.f (a0 : Worker) (a1 : Int) (a2 : Int) (a3 : Int) : Option Bool :=
  (bif decide (a1 < 1) then (some true) else (bif decide (a2 < 1) then (some true) else (bif decide (1000000 < a1) then (some true) else (bif decide (1000000 < a2) then (some true) else (bif decide (a0.Speed < 1) then (some true) else (bif decide (1000 < a0.Speed) then (some true) else (bif decide (1000000 < (w64 (a1 * a0.Speed))) then (some true) else (some (decide (1000000 < (w64 ((w64 (a1 * a0.Speed)) + a2)))))))))))).bind fun t1 =>
  bif t1 then
  ((smithyardlaw9_awake.f).bind fun y1 =>
  some y1)
  else
  ((workers_Ends.f a0 (w64 ((w64 (a1 * a0.Speed)) + a2)) a3).bind fun y2 =>
  (bif y2.2.2 != 0 then (some true) else (some (!y2.2.1))).bind fun t2 =>
  bif t2 then
  ((bif y2.1 == 0 then ((smithyardlaw9_awake.f).bind fun y3 =>
  some y3) else (some false)).bind fun t3 =>
  some t3)
  else
  ((workers_Ends.f a0 (w64 (a1 * a0.Speed)) a3).bind fun y4 =>
  (bif y4.2.2 != 0 then (some true) else (bif !y4.2.1 then (some true) else ((smithyardlaw9_awake.f).bind fun y5 =>
  some (!y5)))).bind fun t4 =>
  bif t4 then
  (some false)
  else
  ((workers_Ends.f a0 a2 y4.1).bind fun y6 =>
  (bif y6.2.2 == 0 then (bif y6.2.1 then (some (y6.1 == y2.1)) else (some false)) else (some false)).bind fun t5 =>
  some t5)))
def slices_Clone_Pair.f (a0 : List Pair) : Option (List Pair) := guard? (room 0 a0.length 32) (some a0)
def slices_Clone_Span.f (a0 : List Span) : Option (List Span) := guard? (room 0 a0.length 16) (some a0)
def smithyardref9_CopyWorker.f (a0 : Worker) : Option Worker :=
  (slices_Clone_Pair.f a0.Has).bind fun y1 =>
  (slices_Clone_Span.f a0.Stands).bind fun y2 =>
  some (⟨a0.Name, y1, a0.Slots, a0.Speed, a0.From, a0.To, y2⟩ : Worker)
def smithyardref9_within.f (a0 : Int) (a1 : Int) (a2 : Int) : Option Bool :=
  (bif decide (a1 ≤ a0) then (some (decide (a0 ≤ a2))) else (some false)).bind fun t1 =>
  some t1
def smithyardref9_isWord.e1  : Option Bool :=
  some true
def smithyardref9_isWord.l2 (e1 : Option Bool) : Nat → ByteArray → Int → Option Bool
  | 0, _, _ => none
  | k + 1, a0, v21 =>
    bif decide (v21 < (a0.size : Int)) then
    (guard? (decide ((0 : Int) ≤ v21) && decide (v21 < (a0.size : Int))) (
    (bif decide ((bt a0 v21) < 97) then (bif decide ((bt a0 v21) < 48) then (bif (bt a0 v21) != 45 then (some ((bt a0 v21) != 95)) else (some false)) else (bif decide (57 < (bt a0 v21)) then (bif (bt a0 v21) != 45 then (some ((bt a0 v21) != 95)) else (some false)) else (some false))) else (bif decide (122 < (bt a0 v21)) then (bif decide ((bt a0 v21) < 48) then (bif (bt a0 v21) != 45 then (some ((bt a0 v21) != 95)) else (some false)) else (bif decide (57 < (bt a0 v21)) then (bif (bt a0 v21) != 45 then (some ((bt a0 v21) != 95)) else (some false)) else (some false))) else (some false))).bind fun t2 =>
    bif t2 then
    (some false)
    else
    ((smithyardref9_isWord.l2 e1 k) a0 (w64 (v21 + 1)))))
    else
    (e1)
def smithyardref9_isWord.f (a0 : ByteArray) : Option Bool :=
  ((smithyardref9_within.f (a0.size : Int) 1 40).bind fun y1 =>
  bif !y1 then (some true) else (guard? (decide ((0 : Int) ≤ 0) && decide (0 < (a0.size : Int))) (
  bif decide ((bt a0 0) < 97) then (some true) else (guard? (decide ((0 : Int) ≤ 0) && decide (0 < (a0.size : Int))) (
  some (decide (122 < (bt a0 0)))))))).bind fun t1 =>
  bif t1 then
  (some false)
  else
  (smithyardref9_isWord.l2 smithyardref9_isWord.e1 big a0 0)
def smithyardref9_checkPairs.e1  : Option Int :=
  some 0
def smithyardref9_checkPairs.l2 (e1 : Option Int) : Nat → (List Pair) → Int → Option Int
  | 0, _, _ => none
  | k + 1, a0, v10 =>
    bif decide (v10 < (a0.length : Int)) then
    ((at? a0 v10).bind fun x1 =>
    (smithyardref9_isWord.f x1.Name).bind fun y1 =>
    bif !y1 then
    (some 5)
    else
    ((smithyardref9_isWord.f x1.Value).bind fun y2 =>
    bif !y2 then
    (some 1)
    else
    ((bif decide (0 < v10) then ((at? a0 (w64 (v10 - 1))).bind fun x2 =>
    some (sLt x1.Name x2.Name || sEq x1.Name x2.Name)) else (some false)).bind fun t1 =>
    bif t1 then
    (some 8)
    else
    ((smithyardref9_checkPairs.l2 e1 k) a0 (w64 (v10 + 1))))))
    else
    (e1)
def smithyardref9_checkPairs.f (a0 : List Pair) : Option Int :=
  bif decide (30 < (a0.length : Int)) then
  (some 2)
  else
  (smithyardref9_checkPairs.l2 smithyardref9_checkPairs.e1 big a0 0)
def smithyardref9_checkStands.e1  : Option Int :=
  some 0
def smithyardref9_checkStands.l2 (e1 : Option Int) : Nat → (List Span) → Int → Option Int
  | 0, _, _ => none
  | k + 1, a0, v10 =>
    bif decide (v10 < (a0.length : Int)) then
    ((at? a0 v10).bind fun x1 =>
    ((smithyardref9_within.f x1.From 0 1000000000).bind fun y1 =>
    bif !y1 then (some true) else ((smithyardref9_within.f x1.To 0 1000000000).bind fun y2 =>
    some (!y2))).bind fun t1 =>
    bif t1 then
    (some 1)
    else
    ((bif decide (x1.To ≤ x1.From) then (some true) else (bif decide (0 < v10) then ((at? a0 (w64 (v10 - 1))).bind fun x2 =>
    some (decide (x1.From < x2.To))) else (some false))).bind fun t2 =>
    bif t2 then
    (some 8)
    else
    ((smithyardref9_checkStands.l2 e1 k) a0 (w64 (v10 + 1)))))
    else
    (e1)
def smithyardref9_checkStands.f (a0 : List Span) : Option Int :=
  bif decide (20 < (a0.length : Int)) then
  (some 2)
  else
  (smithyardref9_checkStands.l2 smithyardref9_checkStands.e1 big a0 0)
def smithyardref9_checkWorker.f (a0 : Worker) : Option Int :=
  (smithyardref9_isWord.f a0.Name).bind fun y1 =>
  bif !y1 then
  (some 5)
  else
  ((smithyardref9_checkPairs.f a0.Has).bind fun y2 =>
  bif y2 != 0 then
  (some y2)
  else
  (((smithyardref9_within.f a0.Slots 1 20).bind fun y3 =>
  bif !y3 then (some true) else ((smithyardref9_within.f a0.Speed 1 1000).bind fun y4 =>
  bif !y4 then (some true) else ((smithyardref9_within.f a0.From 0 1000000000).bind fun y5 =>
  bif !y5 then (some true) else ((smithyardref9_within.f a0.To 0 1000000000).bind fun y6 =>
  some (!y6))))).bind fun t1 =>
  bif t1 then
  (some 1)
  else
  (bif decide (a0.To ≤ a0.From) then
  (some 8)
  else
  ((smithyardref9_checkStands.f a0.Stands).bind fun y7 =>
  some y7))))
def smithyardref9_seconds.f (a0 : Worker) (a1 : Int) : Option Int :=
  guard? (a0.Speed != 0) (
  some (w64 ((w64 ((w64 (a1 + a0.Speed)) - 1)).tdiv a0.Speed)))
def smithyardref9_Seconds.f (a0 : Worker) (a1 : Int) : Option (Int × Int) :=
  (smithyardref9_checkWorker.f a0).bind fun y1 =>
  bif y1 != 0 then
  (some (0, y1))
  else
  ((smithyardref9_within.f a1 1 1000000).bind fun y2 =>
  bif !y2 then
  (some (0, 1))
  else
  ((smithyardref9_seconds.f a0 a1).bind fun y3 =>
  some (y3, 0)))
def smithyardref9_ends.e1 (a0 : Worker) (v_left8 : Int) (v_at9 : Int) : Option (Int × Bool) :=
  some (w64 (v_at9 + v_left8), decide ((w64 (v_at9 + v_left8)) ≤ a0.To))
def smithyardref9_ends.j3 (backl2 : Worker → Int → Int → Int → Option (Int × Bool)) (a0 : Worker) (v23 : Int) (v_left8 : Int) (v_at9 : Int) : Option (Int × Bool) :=
  backl2 a0 v_left8 v_at9 (w64 (v23 + 1))
def smithyardref9_ends.l2 (e1 : Worker → Int → Int → Option (Int × Bool)) : Nat → Worker → Int → Int → Int → Option (Int × Bool)
  | 0, _, _, _, _ => none
  | k + 1, a0, v_left8, v_at9, v23 =>
    bif decide (v23 < (a0.Stands.length : Int)) then
    ((at? a0.Stands v23).bind fun x1 =>
    bif decide (x1.To ≤ v_at9) then
    (smithyardref9_ends.j3 ((smithyardref9_ends.l2 e1 k)) a0 v23 v_left8 v_at9)
    else
    (bif decide (v_left8 ≤ (w64 (x1.From - v_at9))) then
    (e1 a0 v_left8 v_at9)
    else
    (smithyardref9_ends.j3 ((smithyardref9_ends.l2 e1 k)) a0 v23 (w64 (v_left8 - (max2 (w64 (x1.From - v_at9)) 0))) x1.To)))
    else
    (e1 a0 v_left8 v_at9)
def smithyardref9_ends.f (a0 : Worker) (a1 : Int) (a2 : Int) : Option (Int × Bool) :=
  bif decide (a2 < a0.From) then
  (some (0, false))
  else
  ((smithyardref9_seconds.f a0 a1).bind fun y1 =>
  smithyardref9_ends.l2 smithyardref9_ends.e1 big a0 y1 a2 0)
def smithyardref9_Ends.f (a0 : Worker) (a1 : Int) (a2 : Int) : Option (Int × Bool × Int) :=
  (smithyardref9_checkWorker.f a0).bind fun y1 =>
  bif y1 != 0 then
  (some (0, false, y1))
  else
  (((smithyardref9_within.f a1 1 1000000).bind fun y2 =>
  bif !y2 then (some true) else ((smithyardref9_within.f a2 0 1000000000).bind fun y3 =>
  some (!y3))).bind fun t1 =>
  bif t1 then
  (some (0, false, 1))
  else
  ((smithyardref9_ends.f a0 a1 a2).bind fun y4 =>
  bif !y4.2 then
  (some (0, false, 0))
  else
  (some (y4.1, true, 0))))
def slices_Equal_Pair.e1  : Option Bool :=
  some true
def slices_Equal_Pair.l2 (e1 : Option Bool) : Nat → (List Pair) → (List Pair) → Int → Option Bool
  | 0, _, _, _ => none
  | k + 1, a0, a1, v13 =>
    bif decide (v13 < (a0.length : Int)) then
    ((at? a0 v13).bind fun x1 =>
    (at? a1 v13).bind fun x2 =>
    bif !(sEq x1.Name x2.Name && (sEq x1.Value x2.Value && true)) then
    (some false)
    else
    ((slices_Equal_Pair.l2 e1 k) a0 a1 (w64 (v13 + 1))))
    else
    (e1)
def slices_Equal_Pair.f (a0 : List Pair) (a1 : List Pair) : Option Bool :=
  bif (a0.length : Int) != (a1.length : Int) then
  (some false)
  else
  (slices_Equal_Pair.l2 slices_Equal_Pair.e1 big a0 a1 0)
def slices_Equal_Span.e1  : Option Bool :=
  some true
def slices_Equal_Span.l2 (e1 : Option Bool) : Nat → (List Span) → (List Span) → Int → Option Bool
  | 0, _, _, _ => none
  | k + 1, a0, a1, v13 =>
    bif decide (v13 < (a0.length : Int)) then
    ((at? a0 v13).bind fun x1 =>
    (at? a1 v13).bind fun x2 =>
    bif !(x1.From == x2.From && (x1.To == x2.To && true)) then
    (some false)
    else
    ((slices_Equal_Span.l2 e1 k) a0 a1 (w64 (v13 + 1))))
    else
    (e1)
def slices_Equal_Span.f (a0 : List Span) (a1 : List Span) : Option Bool :=
  bif (a0.length : Int) != (a1.length : Int) then
  (some false)
  else
  (slices_Equal_Span.l2 slices_Equal_Span.e1 big a0 a1 0)
def smithyardref9_SameWorker.f (a0 : Worker) (a1 : Worker) : Option Bool :=
  (bif sEq a0.Name a1.Name then ((slices_Equal_Pair.f a0.Has a1.Has).bind fun y1 =>
  bif y1 then (bif a0.Slots == a1.Slots then (bif a0.Speed == a1.Speed then (bif a0.From == a1.From then (bif a0.To == a1.To then ((slices_Equal_Span.f a0.Stands a1.Stands).bind fun y2 =>
  some y2) else (some false)) else (some false)) else (some false)) else (some false)) else (some false)) else (some false)).bind fun t1 =>
  some t1
def smithyardlaw9_WorkersEndsMatchSpec.f (a0 : Worker) (a1 : Int) (a2 : Int) : Option Bool :=
  (smithyardref9_CopyWorker.f a0).bind fun y1 =>
  (workers_Seconds.f a0 a1).bind fun y2 =>
  (smithyardref9_Seconds.f (⟨y1.Name, y1.Has, y1.Slots, y1.Speed, y1.From, y1.To, y1.Stands⟩ : Worker) a1).bind fun y3 =>
  (bif y2.2 != y3.2 then (some true) else (some (y2.1 != y3.1))).bind fun t1 =>
  bif t1 then
  (some false)
  else
  ((workers_Ends.f a0 a1 a2).bind fun y4 =>
  (smithyardref9_Ends.f (⟨y1.Name, y1.Has, y1.Slots, y1.Speed, y1.From, y1.To, y1.Stands⟩ : Worker) a1 a2).bind fun y5 =>
  (bif y4.2.2 == y5.2.2 then (bif y4.1 == y5.1 then (bif y4.2.1 == y5.2.1 then ((smithyardref9_SameWorker.f a0 (⟨y1.Name, y1.Has, y1.Slots, y1.Speed, y1.From, y1.To, y1.Stands⟩ : Worker)).bind fun y6 =>
  bif y6 then ((smithyardlaw9_awake.f).bind fun y7 =>
  some y7) else (some false)) else (some false)) else (some false)) else (some false)).bind fun t2 =>
  some t2)
def slices_Clone_Run.f (a0 : List Run) : Option (List Run) := guard? (room 0 a0.length 56) (some a0)
def cmp_isNaN_int.f (a0 : Int) : Option Bool :=
  some (a0 != a0)
def cmp_Compare_int.f (a0 : Int) (a1 : Int) : Option Int :=
  (cmp_isNaN_int.f a0).bind fun y1 =>
  (cmp_isNaN_int.f a1).bind fun y2 =>
  bif y1 then
  (bif y2 then
  (some 0)
  else
  (some (-1)))
  else
  (bif y2 then
  (some 1)
  else
  (bif decide (a0 < a1) then
  (some (-1))
  else
  (bif decide (a1 < a0) then
  (some 1)
  else
  (some 0))))
def strings_Compare.f (a0 : ByteArray) (a1 : ByteArray) : Option Int := some (Lib.compareBytes a0.data.toList a1.data.toList)
def cmp_Or_int.e1  : Option Int :=
  some 0
def cmp_Or_int.l2 (e1 : Option Int) : Nat → (List Int) → Int → Option Int
  | 0, _, _ => none
  | k + 1, a0, v8 =>
    bif decide (v8 < (a0.length : Int)) then
    ((at? a0 v8).bind fun x1 =>
    bif x1 != 0 then
    (some x1)
    else
    ((cmp_Or_int.l2 e1 k) a0 (w64 (v8 + 1))))
    else
    (e1)
def cmp_Or_int.f (a0 : List Int) : Option Int :=
  cmp_Or_int.l2 cmp_Or_int.e1 big a0 0
def workers_compareRuns.f (a0 : Run) (a1 : Run) : Option Int :=
  (cmp_Compare_int.f a0.From a1.From).bind fun y1 =>
  (strings_Compare.f a0.Id a1.Id).bind fun y2 =>
  (strings_Compare.f a0.Worker a1.Worker).bind fun y3 =>
  (cmp_Or_int.f ([y1, y2, y3] : List Int)).bind fun y4 =>
  some y4
def workers_CheckRuns.e1  : Option Int :=
  some 0
def workers_CheckRuns.l2 (e1 : Option Int) : Nat → (List Run) → Int → Option Int
  | 0, _, _ => none
  | k + 1, a0, v10 =>
    bif decide (v10 < (a0.length : Int)) then
    ((at? a0 v10).bind fun x1 =>
    ((config_IsWord.f x1.Id).bind fun y1 =>
    bif !y1 then (some true) else ((config_IsWord.f x1.Worker).bind fun y2 =>
    some (!y2))).bind fun t1 =>
    bif t1 then
    (some 5)
    else
    (((workers_isMoment.f x1.From).bind fun y3 =>
    bif !y3 then (some true) else ((workers_isMoment.f x1.To).bind fun y4 =>
    some (!y4))).bind fun t2 =>
    bif t2 then
    (some 1)
    else
    (bif decide (x1.To < x1.From) then
    (some 8)
    else
    ((workers_within.f x1.End 1 3).bind fun y5 =>
    bif !y5 then
    (some 4)
    else
    ((bif decide (0 < v10) then ((at? a0 (w64 (v10 - 1))).bind fun x2 =>
    (workers_compareRuns.f x1 x2).bind fun y6 =>
    some (decide (y6 ≤ 0))) else (some false)).bind fun t3 =>
    bif t3 then
    (some 8)
    else
    ((workers_CheckRuns.l2 e1 k) a0 (w64 (v10 + 1))))))))
    else
    (e1)
def workers_CheckRuns.f (a0 : List Run) : Option Int :=
  bif decide (4000 < (a0.length : Int)) then
  (some 2)
  else
  (workers_CheckRuns.l2 workers_CheckRuns.e1 big a0 0)
def workers_Busy.e1 (v_sum11 : Int) : Option (Int × Int) :=
  some (v_sum11, 0)
def workers_Busy.j3 (backl2 : (List Run) → ByteArray → Int → Int → Int → Int → Option (Int × Int)) (a0 : List Run) (a1 : ByteArray) (a2 : Int) (a3 : Int) (v32 : Int) (v_sum11 : Int) : Option (Int × Int) :=
  backl2 a0 a1 a2 a3 v_sum11 (w64 (v32 + 1))
def workers_Busy.l2 (e1 : Int → Option (Int × Int)) : Nat → (List Run) → ByteArray → Int → Int → Int → Int → Option (Int × Int)
  | 0, _, _, _, _, _, _ => none
  | k + 1, a0, a1, a2, a3, v_sum11, v32 =>
    bif decide (v32 < (a0.length : Int)) then
    ((at? a0 v32).bind fun x1 =>
    bif sEq x1.Worker a1 then
    (workers_Busy.j3 ((workers_Busy.l2 e1 k)) a0 a1 a2 a3 v32 (w64 (v_sum11 + (max2 0 (w64 ((min2 x1.To a3) - (max2 x1.From a2)))))))
    else
    (workers_Busy.j3 ((workers_Busy.l2 e1 k)) a0 a1 a2 a3 v32 v_sum11))
    else
    (e1 v_sum11)
def workers_Busy.f (a0 : List Run) (a1 : ByteArray) (a2 : Int) (a3 : Int) : Option (Int × Int) :=
  (workers_CheckRuns.f a0).bind fun y1 =>
  bif y1 != 0 then
  (some (0, y1))
  else
  ((config_IsWord.f a1).bind fun y2 =>
  bif !y2 then
  (some (0, 5))
  else
  (((workers_isMoment.f a2).bind fun y3 =>
  bif !y3 then (some true) else ((workers_isMoment.f a3).bind fun y4 =>
  some (!y4))).bind fun t1 =>
  bif t1 then
  (some (0, 1))
  else
  (workers_Busy.l2 workers_Busy.e1 big a0 a1 a2 a3 0 0)))
def smithyardref9_before.f (a0 : Run) (a1 : Run) : Option Bool :=
  bif a0.From != a1.From then
  (some (decide (a0.From < a1.From)))
  else
  (bif !sEq a0.Id a1.Id then
  (some (sLt a0.Id a1.Id))
  else
  (some (sLt a0.Worker a1.Worker)))
def smithyardref9_CheckRuns.e1  : Option Int :=
  some 0
def smithyardref9_CheckRuns.l2 (e1 : Option Int) : Nat → (List Run) → Int → Option Int
  | 0, _, _ => none
  | k + 1, a0, v10 =>
    bif decide (v10 < (a0.length : Int)) then
    ((at? a0 v10).bind fun x1 =>
    ((smithyardref9_isWord.f x1.Id).bind fun y1 =>
    bif !y1 then (some true) else ((smithyardref9_isWord.f x1.Worker).bind fun y2 =>
    some (!y2))).bind fun t1 =>
    bif t1 then
    (some 5)
    else
    (((smithyardref9_within.f x1.From 0 1000000000).bind fun y3 =>
    bif !y3 then (some true) else ((smithyardref9_within.f x1.To 0 1000000000).bind fun y4 =>
    some (!y4))).bind fun t2 =>
    bif t2 then
    (some 1)
    else
    (bif decide (x1.To < x1.From) then
    (some 8)
    else
    ((smithyardref9_within.f x1.End 1 3).bind fun y5 =>
    bif !y5 then
    (some 4)
    else
    ((bif decide (0 < v10) then ((at? a0 (w64 (v10 - 1))).bind fun x2 =>
    (smithyardref9_before.f x2 x1).bind fun y6 =>
    some (!y6)) else (some false)).bind fun t3 =>
    bif t3 then
    (some 8)
    else
    ((smithyardref9_CheckRuns.l2 e1 k) a0 (w64 (v10 + 1))))))))
    else
    (e1)
def smithyardref9_CheckRuns.f (a0 : List Run) : Option Int :=
  bif decide (4000 < (a0.length : Int)) then
  (some 2)
  else
  (smithyardref9_CheckRuns.l2 smithyardref9_CheckRuns.e1 big a0 0)
def smithyardref9_Busy.e1 (v_n11 : Int) : Option (Int × Int) :=
  some (v_n11, 0)
def smithyardref9_Busy.j3 (backl2 : (List Run) → ByteArray → Int → Int → Int → Int → Option (Int × Int)) (a0 : List Run) (a1 : ByteArray) (a2 : Int) (a3 : Int) (v32 : Int) (v_n11 : Int) : Option (Int × Int) :=
  backl2 a0 a1 a2 a3 v_n11 (w64 (v32 + 1))
def smithyardref9_Busy.l2 (e1 : Int → Option (Int × Int)) : Nat → (List Run) → ByteArray → Int → Int → Int → Int → Option (Int × Int)
  | 0, _, _, _, _, _, _ => none
  | k + 1, a0, a1, a2, a3, v_n11, v32 =>
    bif decide (v32 < (a0.length : Int)) then
    ((at? a0 v32).bind fun x1 =>
    bif sEq x1.Worker a1 then
    (smithyardref9_Busy.j3 ((smithyardref9_Busy.l2 e1 k)) a0 a1 a2 a3 v32 (w64 (v_n11 + (max2 0 (w64 ((min2 x1.To a3) - (max2 x1.From a2)))))))
    else
    (smithyardref9_Busy.j3 ((smithyardref9_Busy.l2 e1 k)) a0 a1 a2 a3 v32 v_n11))
    else
    (e1 v_n11)
def smithyardref9_Busy.f (a0 : List Run) (a1 : ByteArray) (a2 : Int) (a3 : Int) : Option (Int × Int) :=
  (smithyardref9_CheckRuns.f a0).bind fun y1 =>
  bif y1 != 0 then
  (some (0, y1))
  else
  ((smithyardref9_isWord.f a1).bind fun y2 =>
  bif !y2 then
  (some (0, 5))
  else
  (((smithyardref9_within.f a2 0 1000000000).bind fun y3 =>
  bif !y3 then (some true) else ((smithyardref9_within.f a3 0 1000000000).bind fun y4 =>
  some (!y4))).bind fun t1 =>
  bif t1 then
  (some (0, 1))
  else
  (smithyardref9_Busy.l2 smithyardref9_Busy.e1 big a0 a1 a2 a3 0 0)))
def workers_Wasted.e1 (v_sum5 : Int) : Option (Int × Int) :=
  some (v_sum5, 0)
def workers_Wasted.j3 (backl2 : (List Run) → Int → Int → Option (Int × Int)) (a0 : List Run) (v15 : Int) (v_sum5 : Int) : Option (Int × Int) :=
  backl2 a0 v_sum5 (w64 (v15 + 1))
def workers_Wasted.l2 (e1 : Int → Option (Int × Int)) : Nat → (List Run) → Int → Int → Option (Int × Int)
  | 0, _, _, _ => none
  | k + 1, a0, v_sum5, v15 =>
    bif decide (v15 < (a0.length : Int)) then
    ((at? a0 v15).bind fun x1 =>
    bif x1.End != 1 then
    (workers_Wasted.j3 ((workers_Wasted.l2 e1 k)) a0 v15 (w64 (v_sum5 + (w64 (x1.To - x1.From)))))
    else
    (workers_Wasted.j3 ((workers_Wasted.l2 e1 k)) a0 v15 v_sum5))
    else
    (e1 v_sum5)
def workers_Wasted.f (a0 : List Run) : Option (Int × Int) :=
  (workers_CheckRuns.f a0).bind fun y1 =>
  bif y1 != 0 then
  (some (0, y1))
  else
  (workers_Wasted.l2 workers_Wasted.e1 big a0 0 0)
def smithyardref9_Wasted.e1 (v_n5 : Int) : Option (Int × Int) :=
  some (v_n5, 0)
def smithyardref9_Wasted.j3 (backl2 : (List Run) → Int → Int → Option (Int × Int)) (a0 : List Run) (v15 : Int) (v_n5 : Int) : Option (Int × Int) :=
  backl2 a0 v_n5 (w64 (v15 + 1))
def smithyardref9_Wasted.l2 (e1 : Int → Option (Int × Int)) : Nat → (List Run) → Int → Int → Option (Int × Int)
  | 0, _, _, _ => none
  | k + 1, a0, v_n5, v15 =>
    bif decide (v15 < (a0.length : Int)) then
    ((at? a0 v15).bind fun x1 =>
    bif x1.End != 1 then
    (smithyardref9_Wasted.j3 ((smithyardref9_Wasted.l2 e1 k)) a0 v15 (w64 (v_n5 + (w64 (x1.To - x1.From)))))
    else
    (smithyardref9_Wasted.j3 ((smithyardref9_Wasted.l2 e1 k)) a0 v15 v_n5))
    else
    (e1 v_n5)
def smithyardref9_Wasted.f (a0 : List Run) : Option (Int × Int) :=
  (smithyardref9_CheckRuns.f a0).bind fun y1 =>
  bif y1 != 0 then
  (some (0, y1))
  else
  (smithyardref9_Wasted.l2 smithyardref9_Wasted.e1 big a0 0 0)
def slices_Equal_Run.e1  : Option Bool :=
  some true
def slices_Equal_Run.l2 (e1 : Option Bool) : Nat → (List Run) → (List Run) → Int → Option Bool
  | 0, _, _, _ => none
  | k + 1, a0, a1, v13 =>
    bif decide (v13 < (a0.length : Int)) then
    ((at? a0 v13).bind fun x1 =>
    (at? a1 v13).bind fun x2 =>
    bif !(sEq x1.Id x2.Id && (sEq x1.Worker x2.Worker && (x1.From == x2.From && (x1.To == x2.To && (x1.End == x2.End && true))))) then
    (some false)
    else
    ((slices_Equal_Run.l2 e1 k) a0 a1 (w64 (v13 + 1))))
    else
    (e1)
def slices_Equal_Run.f (a0 : List Run) (a1 : List Run) : Option Bool :=
  bif (a0.length : Int) != (a1.length : Int) then
  (some false)
  else
  (slices_Equal_Run.l2 slices_Equal_Run.e1 big a0 a1 0)
def smithyardlaw9_WorkersBusyMatchesSpec.f (a0 : List Run) (a1 : ByteArray) (a2 : Int) (a3 : Int) (a4 : Int) : Option Bool :=
  (slices_Clone_Run.f a0).bind fun y1 =>
  (workers_Busy.f a0 a1 a2 a4).bind fun y2 =>
  (smithyardref9_Busy.f y1 a1 a2 a4).bind fun y3 =>
  ((workers_CheckRuns.f a0).bind fun y4 =>
  (smithyardref9_CheckRuns.f y1).bind fun y5 =>
  bif y4 != y5 then (some true) else (bif y2.2 != y3.2 then (some true) else (some (y2.1 != y3.1)))).bind fun t1 =>
  bif t1 then
  (some false)
  else
  ((workers_Wasted.f a0).bind fun y6 =>
  (smithyardref9_Wasted.f y1).bind fun y7 =>
  (bif y6.2 != y7.2 then (some true) else (bif y6.1 != y7.1 then (some true) else ((slices_Equal_Run.f a0 y1).bind fun y8 =>
  bif !y8 then (some true) else ((smithyardlaw9_awake.f).bind fun y9 =>
  some (!y9))))).bind fun t2 =>
  bif t2 then
  (some false)
  else
  ((bif y2.2 != 0 then (some true) else (bif decide (a3 < a2) then (some true) else (some (decide (a4 < a3))))).bind fun t3 =>
  bif t3 then
  (some true)
  else
  ((workers_Busy.f a0 a1 a2 a3).bind fun y10 =>
  (workers_Busy.f a0 a1 a3 a4).bind fun y11 =>
  (bif y10.2 == 0 then (bif y11.2 == 0 then (some ((w64 (y10.1 + y11.1)) == y2.1)) else (some false)) else (some false)).bind fun t4 =>
  some t4)))
def slices_Clone_string.f (a0 : List ByteArray) : Option (List ByteArray) := guard? (room 0 a0.length 16) (some a0)
def smithyardref9_CopyWork.f (a0 : Work) : Option Work :=
  (slices_Clone_Pair.f a0.Needs).bind fun y1 =>
  (slices_Clone_string.f a0.After).bind fun y2 =>
  some (⟨a0.Id, y1, a0.Size, y2⟩ : Work)
def smithyardref9_CopyWorks.e1 (v_out3 : List Work) : Option (List Work) :=
  some v_out3
def smithyardref9_CopyWorks.l2 (e1 : (List Work) → Option (List Work)) : Nat → (List Work) → (List Work) → Int → Option (List Work)
  | 0, _, _, _ => none
  | k + 1, a0, v_out3, v8 =>
    bif decide (v8 < (a0.length : Int)) then
    ((at? a0 v8).bind fun x1 =>
    (smithyardref9_CopyWork.f x1).bind fun y1 =>
    guard? (room v_out3.length 1 72) (
    (smithyardref9_CopyWorks.l2 e1 k) a0 (v_out3 ++ ([y1] : List Work)) (w64 (v8 + 1))))
    else
    (e1 v_out3)
def smithyardref9_CopyWorks.f (a0 : List Work) : Option (List Work) :=
  smithyardref9_CopyWorks.l2 smithyardref9_CopyWorks.e1 big a0 ([] : List Work) 0
def workers_workAt_1.f (a0 : Work) (a1 : ByteArray) : Option Int :=
  (strings_Compare.f a0.Id a1).bind fun y1 =>
  some y1
def slices_BinarySearchFunc_Work_string.e1 (a0 : List Work) (a1 : ByteArray) (v_i9 : Int) : Option (Int × Bool) :=
  (bif decide (v_i9 < (a0.length : Int)) then ((at? a0 v_i9).bind fun x1 =>
  (workers_workAt_1.f x1 a1).bind fun y1 =>
  some (y1 == 0)) else (some false)).bind fun t1 =>
  some (v_i9, t1)
def slices_BinarySearchFunc_Work_string.l2 (e1 : (List Work) → ByteArray → Int → Option (Int × Bool)) : Nat → (List Work) → ByteArray → Int → Int → Option (Int × Bool)
  | 0, _, _, _, _ => none
  | k + 1, a0, a1, v_i9, v_j10 =>
    bif decide (v_i9 < v_j10) then
    ((at? a0 (w64 (iShr .u64 (IntKind.wrap .u64 (w64 (v_i9 + v_j10))) 1))).bind fun x2 =>
    (workers_workAt_1.f x2 a1).bind fun y2 =>
    bif decide (y2 < 0) then
    ((slices_BinarySearchFunc_Work_string.l2 e1 k) a0 a1 (w64 ((w64 (iShr .u64 (IntKind.wrap .u64 (w64 (v_i9 + v_j10))) 1)) + 1)) v_j10)
    else
    ((slices_BinarySearchFunc_Work_string.l2 e1 k) a0 a1 v_i9 (w64 (iShr .u64 (IntKind.wrap .u64 (w64 (v_i9 + v_j10))) 1))))
    else
    (e1 a0 a1 v_i9)
def slices_BinarySearchFunc_Work_string.f (a0 : List Work) (a1 : ByteArray) : Option (Int × Bool) :=
  slices_BinarySearchFunc_Work_string.l2 slices_BinarySearchFunc_Work_string.e1 big a0 a1 0 (a0.length : Int)
def workers_workAt.f (a0 : List Work) (a1 : ByteArray) : Option (Int × Bool) :=
  (slices_BinarySearchFunc_Work_string.f a0 a1).bind fun y1 =>
  some (y1.1, y1.2)
def workers_ordered_1.f (a0 : ByteArray) (a1 : List Work) (a2 : List Bool) : Option Bool :=
  (workers_workAt.f a1 a0).bind fun y1 =>
  (at? a2 y1.1).bind fun x1 =>
  some (!x1)
def slices_IndexFunc_string.e1  : Option Int :=
  some (-1)
def slices_IndexFunc_string.l2 (e1 : Option Int) : Nat → (List ByteArray) → (List Work) → (List Bool) → Int → Option Int
  | 0, _, _, _, _ => none
  | k + 1, a0, a1q0, a1q1, v8 =>
    bif decide (v8 < (a0.length : Int)) then
    ((at? a0 v8).bind fun x1 =>
    (workers_ordered_1.f x1 a1q0 a1q1).bind fun y1 =>
    bif y1 then
    (some v8)
    else
    ((slices_IndexFunc_string.l2 e1 k) a0 a1q0 a1q1 (w64 (v8 + 1))))
    else
    (e1)
def slices_IndexFunc_string.f (a0 : List ByteArray) (a1q0 : List Work) (a1q1 : List Bool) : Option Int :=
  slices_IndexFunc_string.l2 slices_IndexFunc_string.e1 big a0 a1q0 a1q1 0
def slices_ContainsFunc_string.f (a0 : List ByteArray) (a1q0 : List Work) (a1q1 : List Bool) : Option Bool :=
  (slices_IndexFunc_string.f a0 a1q0 a1q1).bind fun y1 =>
  some (decide (0 ≤ y1))
def workers_ordered.e1 (a0 : List Work) (v_out5 : List Int) : Option ((List Int) × Bool) :=
  some (v_out5, (v_out5.length : Int) == (a0.length : Int))
def workers_ordered.j4 (backl3 : (List Work) → (List Bool) → (List Int) → Bool → Int → Option ((List Int) × Bool)) (a0 : List Work) (v15 : Int) (v_done4_0 : List Bool) (v_out5 : List Int) (v_more6 : Bool) : Option ((List Int) × Bool) :=
  backl3 a0 v_done4_0 v_out5 v_more6 (w64 (v15 + 1))
def workers_ordered.l3 (backl2 : (List Work) → (List Bool) → (List Int) → Bool → Option ((List Int) × Bool)) : Nat → (List Work) → (List Bool) → (List Int) → Bool → Int → Option ((List Int) × Bool)
  | 0, _, _, _, _, _ => none
  | k + 1, a0, v_done4_0, v_out5, v_more6, v15 =>
    bif decide (v15 < (a0.length : Int)) then
    ((at? a0 v15).bind fun x1 =>
    ((at? v_done4_0 v15).bind fun x2 =>
    bif x2 then (some true) else ((slices_ContainsFunc_string.f x1.After a0 v_done4_0).bind fun y1 =>
    some y1)).bind fun t1 =>
    bif t1 then
    (workers_ordered.j4 ((workers_ordered.l3 backl2 k)) a0 v15 v_done4_0 v_out5 v_more6)
    else
    ((at? v_done4_0 v15).bind fun x3 =>
    guard? (room v_out5.length 1 8) (
    workers_ordered.j4 ((workers_ordered.l3 backl2 k)) a0 v15 (v_done4_0.set v15.toNat true) (v_out5 ++ ([v15] : List Int)) true)))
    else
    (backl2 a0 v_done4_0 v_out5 v_more6)
def workers_ordered.l2 (e1 : (List Work) → (List Int) → Option ((List Int) × Bool)) : Nat → (List Work) → (List Bool) → (List Int) → Bool → Option ((List Int) × Bool)
  | 0, _, _, _, _ => none
  | k + 1, a0, v_done4_0, v_out5, v_more6 =>
    bif v_more6 then
    (workers_ordered.l3 ((workers_ordered.l2 e1 k)) big a0 v_done4_0 v_out5 false 0)
    else
    (e1 a0 v_out5)
def workers_ordered.f (a0 : List Work) : Option ((List Int) × Bool) :=
  guard? (decide ((0 : Int) ≤ (a0.length : Int)) && room 0 (a0.length : Int).toNat 1) (
  workers_ordered.l2 workers_ordered.e1 big a0 (List.replicate (a0.length : Int).toNat (false)) ([] : List Int) true)
def workers_checkWork.e1  : Option Int :=
  some 0
def workers_checkWork.l2 (e1 : Option Int) : Nat → Work → Int → Option Int
  | 0, _, _ => none
  | k + 1, a0, v23 =>
    bif decide (v23 < (a0.After.length : Int)) then
    ((at? a0.After v23).bind fun x1 =>
    (config_IsWord.f x1).bind fun y4 =>
    bif !y4 then
    (some 5)
    else
    ((bif decide (0 < v23) then ((at? a0.After (w64 (v23 - 1))).bind fun x2 =>
    some (sLt x1 x2 || sEq x1 x2)) else (some false)).bind fun t1 =>
    bif t1 then
    (some 8)
    else
    ((workers_checkWork.l2 e1 k) a0 (w64 (v23 + 1)))))
    else
    (e1)
def workers_checkWork.f (a0 : Work) : Option Int :=
  (config_IsWord.f a0.Id).bind fun y1 =>
  bif !y1 then
  (some 5)
  else
  ((config_CheckPairs.f a0.Needs).bind fun y2 =>
  bif y2 != 0 then
  (some y2)
  else
  ((workers_within.f a0.Size 1 1000000).bind fun y3 =>
  bif !y3 then
  (some 1)
  else
  (workers_checkWork.l2 workers_checkWork.e1 big a0 0)))
def workers_CheckWorks.e2 (a0 : List Work) : Option Int :=
  (workers_ordered.f a0).bind fun y1 =>
  bif !y1.2 then
  (some 17)
  else
  (some 0)
def workers_CheckWorks.e4 (backl3 : (List Work) → Int → Option Int) (a0 : List Work) (v45 : Int) : Option Int :=
  backl3 a0 (w64 (v45 + 1))
def workers_CheckWorks.l5 (e4 : (List Work) → Int → Option Int) : Nat → (List Work) → Int → Work → Int → Option Int
  | 0, _, _, _, _ => none
  | k + 1, a0, v45, x1, v52 =>
    bif decide (v52 < (x1.After.length : Int)) then
    ((at? x1.After v52).bind fun x2 =>
    (workers_workAt.f a0 x2).bind fun y2 =>
    bif !y2.2 then
    (some 9)
    else
    ((workers_CheckWorks.l5 e4 k) a0 v45 x1 (w64 (v52 + 1))))
    else
    (e4 a0 v45)
def workers_CheckWorks.l3 (e2 : (List Work) → Option Int) : Nat → (List Work) → Int → Option Int
  | 0, _, _ => none
  | k + 1, a0, v45 =>
    bif decide (v45 < (a0.length : Int)) then
    ((at? a0 v45).bind fun x1 =>
    workers_CheckWorks.l5 (workers_CheckWorks.e4 ((workers_CheckWorks.l3 e2 k))) big a0 v45 x1 0)
    else
    (e2 a0)
def workers_CheckWorks.e1 (a0 : List Work) : Option Int :=
  workers_CheckWorks.l3 workers_CheckWorks.e2 big a0 0
def workers_CheckWorks.l6 (e1 : (List Work) → Option Int) : Nat → (List Work) → Int → Option Int
  | 0, _, _ => none
  | k + 1, a0, v19 =>
    bif decide (v19 < (a0.length : Int)) then
    ((at? a0 v19).bind fun x3 =>
    (workers_checkWork.f x3).bind fun y3 =>
    bif y3 != 0 then
    (some y3)
    else
    ((bif decide (0 < v19) then ((at? a0 (w64 (v19 - 1))).bind fun x4 =>
    some (sLt x3.Id x4.Id || sEq x3.Id x4.Id)) else (some false)).bind fun t1 =>
    bif t1 then
    (some 8)
    else
    ((workers_CheckWorks.l6 e1 k) a0 (w64 (v19 + 1)))))
    else
    (e1 a0)
def workers_CheckWorks.f (a0 : List Work) : Option Int :=
  bif decide (200 < (a0.length : Int)) then
  (some 2)
  else
  (workers_CheckWorks.l6 workers_CheckWorks.e1 big a0 0)
end Go.Proofs.YtcldjlkgdnjnaaaDoor
