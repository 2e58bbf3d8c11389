/- Plain functions, each written by program out of one Go function's operations. -/
import Derived.Test.YteljhhgffmpgnaaDoorKitP
import Derived.Lib.Bytealg
import Derived.Lib.SlTrimSet
set_option linter.unusedVariables false
namespace Go.Proofs.YteljhhgffmpgnaaDoor
open Go Go.Proofs.YteljhhgffmpgnaaDoor.Kit
structure Pair where
  Name:ByteArray
  Value:ByteArray
  deriving Inhabited,DecidableEq
structure Span where
  From:Int
  To:Int
  deriving Inhabited,DecidableEq
structure Worker where
  Name:ByteArray
  Has:List Pair
  Slots:Int
  Speed:Int
  From:Int
  To:Int
  Stands:List Span
  deriving Inhabited,DecidableEq
structure Work where
  Id:ByteArray
  Needs:List Pair
  Size:Int
  After:List ByteArray
  deriving Inhabited,DecidableEq
def slices_Clone_Pair.f (a0:List Pair):Option (List Pair):=guard? (room 0 a0.length 32) (some a0)
def slices_Clone_Span.f (a0:List Span):Option (List Span):=guard? (room 0 a0.length 16) (some a0)
def smithyardref9_CopyWorker.f (a0:Worker):Option Worker :=
  (slices_Clone_Pair.f a0.Has).bind fun y1 =>
  (slices_Clone_Span.f a0.Stands).bind fun y2 =>
  some (⟨a0.Name,y1,a0.Slots,a0.Speed,a0.From,a0.To,y2⟩:Worker)
def smithyardref9_CopyWorkers.e1 (v_out3:List Worker):Option (List Worker) :=
  some v_out3
def smithyardref9_CopyWorkers.l2 (e1:(List Worker)→Option (List Worker)):Nat→(List Worker)→(List Worker)→Int→Option (List Worker)
  | 0,_,_,_=>none
  | k+1,a0,v_out3,v8 =>
    bif decide (v8<(a0.length:Int)) then
    ((at? a0 v8).bind fun x1 =>
    (smithyardref9_CopyWorker.f x1).bind fun y1 =>
    guard? (room v_out3.length 1 96) (
    (smithyardref9_CopyWorkers.l2 e1 k) a0 (v_out3++([y1]:List Worker)) (w64 (v8+1))))
    else
    (e1 v_out3)
def smithyardref9_CopyWorkers.f (a0:List Worker):Option (List Worker) :=
  smithyardref9_CopyWorkers.l2 smithyardref9_CopyWorkers.e1 big a0 ([]:List Worker) 0
def slices_Clone_string.f (a0:List ByteArray):Option (List ByteArray):=guard? (room 0 a0.length 16) (some a0)
def smithyardref9_CopyWork.f (a0:Work):Option Work :=
  (slices_Clone_Pair.f a0.Needs).bind fun y1 =>
  (slices_Clone_string.f a0.After).bind fun y2 =>
  some (⟨a0.Id,y1,a0.Size,y2⟩:Work)
def smithyardref9_CopyWorks.e1 (v_out3:List Work):Option (List Work) :=
  some v_out3
def smithyardref9_CopyWorks.l2 (e1:(List Work)→Option (List Work)):Nat→(List Work)→(List Work)→Int→Option (List Work)
  | 0,_,_,_=>none
  | k+1,a0,v_out3,v8 =>
    bif decide (v8<(a0.length:Int)) then
    ((at? a0 v8).bind fun x1 =>
    (smithyardref9_CopyWork.f x1).bind fun y1 =>
    guard? (room v_out3.length 1 72) (
    (smithyardref9_CopyWorks.l2 e1 k) a0 (v_out3++([y1]:List Work)) (w64 (v8+1))))
    else
    (e1 v_out3)
def smithyardref9_CopyWorks.f (a0:List Work):Option (List Work) :=
  smithyardref9_CopyWorks.l2 smithyardref9_CopyWorks.e1 big a0 ([]:List Work) 0
def strings_Trim.f (a0:ByteArray) (a1:ByteArray):Option ByteArray:=guard? (decide (a0.size≤9223372036854775807)&&(decide (a1.size<4294967281)&&a1.data.toList.all (fun b=>decide (b.toNat<128)))) (some (⟨(Lib.trimS a0.data.toList a1.data.toList).toArray⟩))
def config_IsWord.f (a0:ByteArray):Option Bool :=
  (bif decide ((a0.size:Int)<1) then (some true) else (bif decide (40<(a0.size:Int)) then (some true) else (guard? (decide ((0:Int)≤0)&&decide (0<(a0.size:Int))) (
  bif decide ((bt a0 0)<97) then (some true) else (guard? (decide ((0:Int)≤0)&&decide (0<(a0.size:Int))) (
  some (decide (122<(bt a0 0))))))))).bind fun t1 =>
  bif t1 then
  (some false)
  else
  ((strings_Trim.f a0 ({ data:=#[97,98,99,100,101,102,103,104,105,106,107,108,109,110,111,112,113,114,115,116,117,118,119,120,121,122,48,49,50,51,52,53,54,55,56,57,95,45] }:ByteArray)).bind fun y1 =>
  some (sEq y1 ({ data:=#[] }:ByteArray)))
def config_CheckPairs.e1 :Option Int :=
  some 0
def config_CheckPairs.l2 (e1:Option Int):Nat→(List Pair)→Int→Option Int
  | 0,_,_=>none
  | k+1,a0,v10 =>
    bif decide (v10<(a0.length:Int)) then
    ((at? a0 v10).bind fun x1 =>
    (config_IsWord.f x1.Name).bind fun y1 =>
    bif !y1 then
    (some 5)
    else
    ((config_IsWord.f x1.Value).bind fun y2 =>
    bif !y2 then
    (some 1)
    else
    ((bif decide (0<v10) then ((at? a0 (w64 (v10 - 1))).bind fun x2 =>
    some (sLt x1.Name x2.Name||sEq x1.Name x2.Name)) else (some false)).bind fun t1 =>
    bif t1 then
    (some 8)
    else
    ((config_CheckPairs.l2 e1 k) a0 (w64 (v10+1))))))
    else
    (e1)
def config_CheckPairs.f (a0:List Pair):Option Int :=
  bif decide (30<(a0.length:Int)) then
  (some 2)
  else
  (config_CheckPairs.l2 config_CheckPairs.e1 big a0 0)
def workers_within.f (a0:Int) (a1:Int) (a2:Int):Option Bool :=
  (bif decide (a1≤a0) then (some (decide (a0≤a2))) else (some false)).bind fun t1 =>
  some t1
def workers_isMoment.f (a0:Int):Option Bool :=
  (workers_within.f a0 0 1000000000).bind fun y1 =>
  some y1
def workers_checkStands.e1 :Option Int :=
  some 0
def workers_checkStands.l2 (e1:Option Int):Nat→(List Span)→Int→Option Int
  | 0,_,_=>none
  | k+1,a0,v10 =>
    bif decide (v10<(a0.length:Int)) then
    ((at? a0 v10).bind fun x1 =>
    ((workers_isMoment.f x1.From).bind fun y1 =>
    bif !y1 then (some true) else ((workers_isMoment.f x1.To).bind fun y2 =>
    some (!y2))).bind fun t1 =>
    bif t1 then
    (some 1)
    else
    ((bif decide (x1.To≤x1.From) then (some true) else (bif decide (0<v10) then ((at? a0 (w64 (v10 - 1))).bind fun x2 =>
    some (decide (x1.From<x2.To))) else (some false))).bind fun t2 =>
    bif t2 then
    (some 8)
    else
    ((workers_checkStands.l2 e1 k) a0 (w64 (v10+1)))))
    else
    (e1)
def workers_checkStands.f (a0:List Span):Option Int :=
  bif decide (20<(a0.length:Int)) then
  (some 2)
  else
  (workers_checkStands.l2 workers_checkStands.e1 big a0 0)
def workers_checkWorker.f (a0:Worker):Option Int :=
  (config_IsWord.f a0.Name).bind fun y1 =>
  bif !y1 then
  (some 5)
  else
  ((config_CheckPairs.f a0.Has).bind fun y2 =>
  bif y2 != 0 then
  (some y2)
  else
  (((workers_within.f a0.Slots 1 20).bind fun y3 =>
  bif !y3 then (some true) else ((workers_within.f a0.Speed 1 1000).bind fun y4 =>
  bif !y4 then (some true) else ((workers_isMoment.f a0.From).bind fun y5 =>
  bif !y5 then (some true) else ((workers_isMoment.f a0.To).bind fun y6 =>
  some (!y6))))).bind fun t1 =>
  bif t1 then
  (some 1)
  else
  (bif decide (a0.To≤a0.From) then
  (some 8)
  else
  ((workers_checkStands.f a0.Stands).bind fun y7 =>
  some y7))))
def workers_checkWork.e1 :Option Int :=
  some 0
def workers_checkWork.l2 (e1:Option Int):Nat→Work→Int→Option Int
  | 0,_,_=>none
  | k+1,a0,v23 =>
    bif decide (v23<(a0.After.length:Int)) then
    ((at? a0.After v23).bind fun x1 =>
    (config_IsWord.f x1).bind fun y4 =>
    bif !y4 then
    (some 5)
    else
    ((bif decide (0<v23) then ((at? a0.After (w64 (v23 - 1))).bind fun x2 =>
    some (sLt x1 x2||sEq x1 x2)) else (some false)).bind fun t1 =>
    bif t1 then
    (some 8)
    else
    ((workers_checkWork.l2 e1 k) a0 (w64 (v23+1)))))
    else
    (e1)
def workers_checkWork.f (a0:Work):Option Int :=
  (config_IsWord.f a0.Id).bind fun y1 =>
  bif !y1 then
  (some 5)
  else
  ((config_CheckPairs.f a0.Needs).bind fun y2 =>
  bif y2 != 0 then
  (some y2)
  else
  ((workers_within.f a0.Size 1 1000000).bind fun y3 =>
  bif !y3 then
  (some 1)
  else
  (workers_checkWork.l2 workers_checkWork.e1 big a0 0)))
def slices_Index_Pair.e1 :Option Int :=
  some (-1)
def slices_Index_Pair.l2 (e1:Option Int):Nat→(List Pair)→Pair→Int→Option Int
  | 0,_,_,_=>none
  | k+1,a0,a1,v8 =>
    bif decide (v8<(a0.length:Int)) then
    ((at? a0 v8).bind fun x1 =>
    bif (sEq a1.Name x1.Name&&(sEq a1.Value x1.Value&&true)) then
    (some v8)
    else
    ((slices_Index_Pair.l2 e1 k) a0 a1 (w64 (v8+1))))
    else
    (e1)
def slices_Index_Pair.f (a0:List Pair) (a1:Pair):Option Int :=
  slices_Index_Pair.l2 slices_Index_Pair.e1 big a0 a1 0
def slices_Contains_Pair.f (a0:List Pair) (a1:Pair):Option Bool :=
  (slices_Index_Pair.f a0 a1).bind fun y1 =>
  some (decide (0≤y1))
def config_Fit.e1 :Option Bool :=
  some true
def config_Fit.l2 (e1:Option Bool):Nat→(List Pair)→(List Pair)→Int→Option Bool
  | 0,_,_,_=>none
  | k+1,a0,a1,v9 =>
    bif decide (v9<(a0.length:Int)) then
    ((at? a0 v9).bind fun x1 =>
    (slices_Contains_Pair.f a1 x1).bind fun y1 =>
    bif !y1 then
    (some false)
    else
    ((config_Fit.l2 e1 k) a0 a1 (w64 (v9+1))))
    else
    (e1)
def config_Fit.f (a0:List Pair) (a1:List Pair):Option Bool :=
  config_Fit.l2 config_Fit.e1 big a0 a1 0
def workers_Fits.f (a0:Worker) (a1:Work):Option (Bool × Int) :=
  (workers_checkWorker.f a0).bind fun y1 =>
  bif y1 != 0 then
  (some (false,y1))
  else
  ((workers_checkWork.f a1).bind fun y2 =>
  bif y2 != 0 then
  (some (false,y2))
  else
  ((config_Fit.f a1.Needs a0.Has).bind fun y3 =>
  some (y3,0)))
def smithyardref9_within.f (a0:Int) (a1:Int) (a2:Int):Option Bool :=
  (bif decide (a1≤a0) then (some (decide (a0≤a2))) else (some false)).bind fun t1 =>
  some t1
def smithyardref9_isWord.e1 :Option Bool :=
  some true
def smithyardref9_isWord.l2 (e1:Option Bool):Nat→ByteArray→Int→Option Bool
  | 0,_,_=>none
  | k+1,a0,v21 =>
    bif decide (v21<(a0.size:Int)) then
    (guard? (decide ((0:Int)≤v21)&&decide (v21<(a0.size:Int))) (
    (bif decide ((bt a0 v21)<97) then (bif decide ((bt a0 v21)<48) then (bif (bt a0 v21) != 45 then (some ((bt a0 v21) != 95)) else (some false)) else (bif decide (57<(bt a0 v21)) then (bif (bt a0 v21) != 45 then (some ((bt a0 v21) != 95)) else (some false)) else (some false))) else (bif decide (122<(bt a0 v21)) then (bif decide ((bt a0 v21)<48) then (bif (bt a0 v21) != 45 then (some ((bt a0 v21) != 95)) else (some false)) else (bif decide (57<(bt a0 v21)) then (bif (bt a0 v21) != 45 then (some ((bt a0 v21) != 95)) else (some false)) else (some false))) else (some false))).bind fun t2 =>
    bif t2 then
    (some false)
    else
    ((smithyardref9_isWord.l2 e1 k) a0 (w64 (v21+1)))))
    else
    (e1)
def smithyardref9_isWord.f (a0:ByteArray):Option Bool :=
  ((smithyardref9_within.f (a0.size:Int) 1 40).bind fun y1 =>
  bif !y1 then (some true) else (guard? (decide ((0:Int)≤0)&&decide (0<(a0.size:Int))) (
  bif decide ((bt a0 0)<97) then (some true) else (guard? (decide ((0:Int)≤0)&&decide (0<(a0.size:Int))) (
  some (decide (122<(bt a0 0)))))))).bind fun t1 =>
  bif t1 then
  (some false)
  else
  (smithyardref9_isWord.l2 smithyardref9_isWord.e1 big a0 0)
def smithyardref9_checkPairs.e1 :Option Int :=
  some 0
def smithyardref9_checkPairs.l2 (e1:Option Int):Nat→(List Pair)→Int→Option Int
  | 0,_,_=>none
  | k+1,a0,v10 =>
    bif decide (v10<(a0.length:Int)) then
    ((at? a0 v10).bind fun x1 =>
    (smithyardref9_isWord.f x1.Name).bind fun y1 =>
    bif !y1 then
    (some 5)
    else
    ((smithyardref9_isWord.f x1.Value).bind fun y2 =>
    bif !y2 then
    (some 1)
    else
    ((bif decide (0<v10) then ((at? a0 (w64 (v10 - 1))).bind fun x2 =>
    some (sLt x1.Name x2.Name||sEq x1.Name x2.Name)) else (some false)).bind fun t1 =>
    bif t1 then
    (some 8)
    else
    ((smithyardref9_checkPairs.l2 e1 k) a0 (w64 (v10+1))))))
    else
    (e1)
def smithyardref9_checkPairs.f (a0:List Pair):Option Int :=
  bif decide (30<(a0.length:Int)) then
  (some 2)
  else
  (smithyardref9_checkPairs.l2 smithyardref9_checkPairs.e1 big a0 0)
def smithyardref9_checkStands.e1 :Option Int :=
  some 0
def smithyardref9_checkStands.l2 (e1:Option Int):Nat→(List Span)→Int→Option Int
  | 0,_,_=>none
  | k+1,a0,v10 =>
    bif decide (v10<(a0.length:Int)) then
    ((at? a0 v10).bind fun x1 =>
    ((smithyardref9_within.f x1.From 0 1000000000).bind fun y1 =>
    bif !y1 then (some true) else ((smithyardref9_within.f x1.To 0 1000000000).bind fun y2 =>
    some (!y2))).bind fun t1 =>
    bif t1 then
    (some 1)
    else
    ((bif decide (x1.To≤x1.From) then (some true) else (bif decide (0<v10) then ((at? a0 (w64 (v10 - 1))).bind fun x2 =>
    some (decide (x1.From<x2.To))) else (some false))).bind fun t2 =>
    bif t2 then
    (some 8)
    else
    ((smithyardref9_checkStands.l2 e1 k) a0 (w64 (v10+1)))))
    else
    (e1)
def smithyardref9_checkStands.f (a0:List Span):Option Int :=
  bif decide (20<(a0.length:Int)) then
  (some 2)
  else
  (smithyardref9_checkStands.l2 smithyardref9_checkStands.e1 big a0 0)
def smithyardref9_checkWorker.f (a0:Worker):Option Int :=
  (smithyardref9_isWord.f a0.Name).bind fun y1 =>
  bif !y1 then
  (some 5)
  else
  ((smithyardref9_checkPairs.f a0.Has).bind fun y2 =>
  bif y2 != 0 then
  (some y2)
  else
  (((smithyardref9_within.f a0.Slots 1 20).bind fun y3 =>
  bif !y3 then (some true) else ((smithyardref9_within.f a0.Speed 1 1000).bind fun y4 =>
  bif !y4 then (some true) else ((smithyardref9_within.f a0.From 0 1000000000).bind fun y5 =>
  bif !y5 then (some true) else ((smithyardref9_within.f a0.To 0 1000000000).bind fun y6 =>
  some (!y6))))).bind fun t1 =>
  bif t1 then
  (some 1)
  else
  (bif decide (a0.To≤a0.From) then
  (some 8)
  else
  ((smithyardref9_checkStands.f a0.Stands).bind fun y7 =>
  some y7))))
def smithyardref9_checkWork.e1 :Option Int :=
  some 0
def smithyardref9_checkWork.l2 (e1:Option Int):Nat→Work→Int→Option Int
  | 0,_,_=>none
  | k+1,a0,v23 =>
    bif decide (v23<(a0.After.length:Int)) then
    ((at? a0.After v23).bind fun x1 =>
    (smithyardref9_isWord.f x1).bind fun y4 =>
    bif !y4 then
    (some 5)
    else
    ((bif decide (0<v23) then ((at? a0.After (w64 (v23 - 1))).bind fun x2 =>
    some (sLt x1 x2||sEq x1 x2)) else (some false)).bind fun t1 =>
    bif t1 then
    (some 8)
    else
    ((smithyardref9_checkWork.l2 e1 k) a0 (w64 (v23+1)))))
    else
    (e1)
def smithyardref9_checkWork.f (a0:Work):Option Int :=
  (smithyardref9_isWord.f a0.Id).bind fun y1 =>
  bif !y1 then
  (some 5)
  else
  ((smithyardref9_checkPairs.f a0.Needs).bind fun y2 =>
  bif y2 != 0 then
  (some y2)
  else
  ((smithyardref9_within.f a0.Size 1 1000000).bind fun y3 =>
  bif !y3 then
  (some 1)
  else
  (smithyardref9_checkWork.l2 smithyardref9_checkWork.e1 big a0 0)))
def smithyardref9_fits.e1 :Option Bool :=
  some true
def smithyardref9_fits.l2 (e1:Option Bool):Nat→Worker→Work→Int→Option Bool
  | 0,_,_,_=>none
  | k+1,a0,a1,v10 =>
    bif decide (v10<(a1.Needs.length:Int)) then
    ((at? a1.Needs v10).bind fun x1 =>
    (slices_Contains_Pair.f a0.Has x1).bind fun y1 =>
    bif !y1 then
    (some false)
    else
    ((smithyardref9_fits.l2 e1 k) a0 a1 (w64 (v10+1))))
    else
    (e1)
def smithyardref9_fits.f (a0:Worker) (a1:Work):Option Bool :=
  smithyardref9_fits.l2 smithyardref9_fits.e1 big a0 a1 0
def smithyardref9_Fits.f (a0:Worker) (a1:Work):Option (Bool × Int) :=
  (smithyardref9_checkWorker.f a0).bind fun y1 =>
  bif y1 != 0 then
  (some (false,y1))
  else
  ((smithyardref9_checkWork.f a1).bind fun y2 =>
  bif y2 != 0 then
  (some (false,y2))
  else
  ((smithyardref9_fits.f a0 a1).bind fun y3 =>
  some (y3,0)))
def workers_CheckWorkers.e1 :Option Int :=
  some 0
def workers_CheckWorkers.l2 (e1:Option Int):Nat→(List Worker)→Int→Option Int
  | 0,_,_=>none
  | k+1,a0,v11 =>
    bif decide (v11<(a0.length:Int)) then
    ((at? a0 v11).bind fun x1 =>
    (workers_checkWorker.f x1).bind fun y1 =>
    bif y1 != 0 then
    (some y1)
    else
    ((bif decide (0<v11) then ((at? a0 (w64 (v11 - 1))).bind fun x2 =>
    some (sLt x1.Name x2.Name||sEq x1.Name x2.Name)) else (some false)).bind fun t1 =>
    bif t1 then
    (some 8)
    else
    ((workers_CheckWorkers.l2 e1 k) a0 (w64 (v11+1)))))
    else
    (e1)
def workers_CheckWorkers.f (a0:List Worker):Option Int :=
  bif decide (50<(a0.length:Int)) then
  (some 2)
  else
  (workers_CheckWorkers.l2 workers_CheckWorkers.e1 big a0 0)
def smithyardref9_CheckWorkers.e1 :Option Int :=
  some 0
def smithyardref9_CheckWorkers.l2 (e1:Option Int):Nat→(List Worker)→Int→Option Int
  | 0,_,_=>none
  | k+1,a0,v11 =>
    bif decide (v11<(a0.length:Int)) then
    ((at? a0 v11).bind fun x1 =>
    (smithyardref9_checkWorker.f x1).bind fun y1 =>
    bif y1 != 0 then
    (some y1)
    else
    ((bif decide (0<v11) then ((at? a0 (w64 (v11 - 1))).bind fun x2 =>
    some (sLt x1.Name x2.Name||sEq x1.Name x2.Name)) else (some false)).bind fun t1 =>
    bif t1 then
    (some 8)
    else
    ((smithyardref9_CheckWorkers.l2 e1 k) a0 (w64 (v11+1)))))
    else
    (e1)
def smithyardref9_CheckWorkers.f (a0:List Worker):Option Int :=
  bif decide (50<(a0.length:Int)) then
  (some 2)
  else
  (smithyardref9_CheckWorkers.l2 smithyardref9_CheckWorkers.e1 big a0 0)
def strings_Compare.f (a0:ByteArray) (a1:ByteArray):Option Int:=some (Lib.compareBytes a0.data.toList a1.data.toList)
def workers_workAt_1.f (a0:Work) (a1:ByteArray):Option Int :=
  (strings_Compare.f a0.Id a1).bind fun y1 =>
  some y1
def slices_BinarySearchFunc_Work_string.e1 (a0:List Work) (a1:ByteArray) (v_i9:Int):Option (Int × Bool) :=
  (bif decide (v_i9<(a0.length:Int)) then ((at? a0 v_i9).bind fun x1 =>
  (workers_workAt_1.f x1 a1).bind fun y1 =>
  some (y1 == 0)) else (some false)).bind fun t1 =>
  some (v_i9,t1)
def slices_BinarySearchFunc_Work_string.l2 (e1:(List Work)→ByteArray→Int→Option (Int × Bool)):Nat→(List Work)→ByteArray→Int→Int→Option (Int × Bool)
  | 0,_,_,_,_=>none
  | k+1,a0,a1,v_i9,v_j10 =>
    bif decide (v_i9<v_j10) then
    ((at? a0 (w64 (iShr .u64 (IntKind.wrap .u64 (w64 (v_i9+v_j10))) 1))).bind fun x2 =>
    (workers_workAt_1.f x2 a1).bind fun y2 =>
    bif decide (y2<0) then
    ((slices_BinarySearchFunc_Work_string.l2 e1 k) a0 a1 (w64 ((w64 (iShr .u64 (IntKind.wrap .u64 (w64 (v_i9+v_j10))) 1))+1)) v_j10)
    else
    ((slices_BinarySearchFunc_Work_string.l2 e1 k) a0 a1 v_i9 (w64 (iShr .u64 (IntKind.wrap .u64 (w64 (v_i9+v_j10))) 1))))
    else
    (e1 a0 a1 v_i9)
def slices_BinarySearchFunc_Work_string.f (a0:List Work) (a1:ByteArray):Option (Int × Bool) :=
  slices_BinarySearchFunc_Work_string.l2 slices_BinarySearchFunc_Work_string.e1 big a0 a1 0 (a0.length:Int)
def workers_workAt.f (a0:List Work) (a1:ByteArray):Option (Int × Bool) :=
  (slices_BinarySearchFunc_Work_string.f a0 a1).bind fun y1 =>
  some (y1.1,y1.2)
def workers_ordered_1.f (a0:ByteArray) (a1:List Work) (a2:List Bool):Option Bool :=
  (workers_workAt.f a1 a0).bind fun y1 =>
  (at? a2 y1.1).bind fun x1 =>
  some (!x1)
def slices_IndexFunc_string.e1 :Option Int :=
  some (-1)
def slices_IndexFunc_string.l2 (e1:Option Int):Nat→(List ByteArray)→(List Work)→(List Bool)→Int→Option Int
  | 0,_,_,_,_=>none
  | k+1,a0,a1q0,a1q1,v8 =>
    bif decide (v8<(a0.length:Int)) then
    ((at? a0 v8).bind fun x1 =>
    (workers_ordered_1.f x1 a1q0 a1q1).bind fun y1 =>
    bif y1 then
    (some v8)
    else
    ((slices_IndexFunc_string.l2 e1 k) a0 a1q0 a1q1 (w64 (v8+1))))
    else
    (e1)
def slices_IndexFunc_string.f (a0:List ByteArray) (a1q0:List Work) (a1q1:List Bool):Option Int :=
  slices_IndexFunc_string.l2 slices_IndexFunc_string.e1 big a0 a1q0 a1q1 0
def slices_ContainsFunc_string.f (a0:List ByteArray) (a1q0:List Work) (a1q1:List Bool):Option Bool :=
  (slices_IndexFunc_string.f a0 a1q0 a1q1).bind fun y1 =>
  some (decide (0≤y1))
def workers_ordered.e1 (a0:List Work) (v_out5:List Int):Option ((List Int) × Bool) :=
  some (v_out5,(v_out5.length:Int) == (a0.length:Int))
def workers_ordered.j4 (backl3:(List Work)→(List Bool)→(List Int)→Bool→Int→Option ((List Int) × Bool)) (a0:List Work) (v15:Int) (v_done4_0:List Bool) (v_out5:List Int) (v_more6:Bool):Option ((List Int) × Bool) :=
  backl3 a0 v_done4_0 v_out5 v_more6 (w64 (v15+1))
def workers_ordered.l3 (backl2:(List Work)→(List Bool)→(List Int)→Bool→Option ((List Int) × Bool)):Nat→(List Work)→(List Bool)→(List Int)→Bool→Int→Option ((List Int) × Bool)
  | 0,_,_,_,_,_=>none
  | k+1,a0,v_done4_0,v_out5,v_more6,v15 =>
    bif decide (v15<(a0.length:Int)) then
    ((at? a0 v15).bind fun x1 =>
    ((at? v_done4_0 v15).bind fun x2 =>
    bif x2 then (some true) else ((slices_ContainsFunc_string.f x1.After a0 v_done4_0).bind fun y1 =>
    some y1)).bind fun t1 =>
    bif t1 then
    (workers_ordered.j4 ((workers_ordered.l3 backl2 k)) a0 v15 v_done4_0 v_out5 v_more6)
    else
    ((at? v_done4_0 v15).bind fun x3 =>
    guard? (room v_out5.length 1 8) (
    workers_ordered.j4 ((workers_ordered.l3 backl2 k)) a0 v15 (v_done4_0.set v15.toNat true) (v_out5++([v15]:List Int)) true)))
    else
    (backl2 a0 v_done4_0 v_out5 v_more6)
def workers_ordered.l2 (e1:(List Work)→(List Int)→Option ((List Int) × Bool)):Nat→(List Work)→(List Bool)→(List Int)→Bool→Option ((List Int) × Bool)
  | 0,_,_,_,_=>none
  | k+1,a0,v_done4_0,v_out5,v_more6 =>
    bif v_more6 then
    (workers_ordered.l3 ((workers_ordered.l2 e1 k)) big a0 v_done4_0 v_out5 false 0)
    else
    (e1 a0 v_out5)
def workers_ordered.f (a0:List Work):Option ((List Int) × Bool) :=
  guard? (decide ((0:Int)≤(a0.length:Int))&&room 0 (a0.length:Int).toNat 1) (
  workers_ordered.l2 workers_ordered.e1 big a0 (List.replicate (a0.length:Int).toNat (false)) ([]:List Int) true)
def workers_CheckWorks.e2 (a0:List Work):Option Int :=
  (workers_ordered.f a0).bind fun y1 =>
  bif !y1.2 then
  (some 17)
  else
  (some 0)
def workers_CheckWorks.e4 (backl3:(List Work)→Int→Option Int) (a0:List Work) (v45:Int):Option Int :=
  backl3 a0 (w64 (v45+1))
def workers_CheckWorks.l5 (e4:(List Work)→Int→Option Int):Nat→(List Work)→Int→Work→Int→Option Int
  | 0,_,_,_,_=>none
  | k+1,a0,v45,x1,v52 =>
    bif decide (v52<(x1.After.length:Int)) then
    ((at? x1.After v52).bind fun x2 =>
    (workers_workAt.f a0 x2).bind fun y2 =>
    bif !y2.2 then
    (some 9)
    else
    ((workers_CheckWorks.l5 e4 k) a0 v45 x1 (w64 (v52+1))))
    else
    (e4 a0 v45)
def workers_CheckWorks.l3 (e2:(List Work)→Option Int):Nat→(List Work)→Int→Option Int
  | 0,_,_=>none
  | k+1,a0,v45 =>
    bif decide (v45<(a0.length:Int)) then
    ((at? a0 v45).bind fun x1 =>
    workers_CheckWorks.l5 (workers_CheckWorks.e4 ((workers_CheckWorks.l3 e2 k))) big a0 v45 x1 0)
    else
    (e2 a0)
def workers_CheckWorks.e1 (a0:List Work):Option Int :=
  workers_CheckWorks.l3 workers_CheckWorks.e2 big a0 0
def workers_CheckWorks.l6 (e1:(List Work)→Option Int):Nat→(List Work)→Int→Option Int
  | 0,_,_=>none
  | k+1,a0,v19 =>
    bif decide (v19<(a0.length:Int)) then
    ((at? a0 v19).bind fun x3 =>
    (workers_checkWork.f x3).bind fun y3 =>
    bif y3 != 0 then
    (some y3)
    else
    ((bif decide (0<v19) then ((at? a0 (w64 (v19 - 1))).bind fun x4 =>
    some (sLt x3.Id x4.Id||sEq x3.Id x4.Id)) else (some false)).bind fun t1 =>
    bif t1 then
    (some 8)
    else
    ((workers_CheckWorks.l6 e1 k) a0 (w64 (v19+1)))))
    else
    (e1 a0)
def workers_CheckWorks.f (a0:List Work):Option Int :=
  bif decide (200<(a0.length:Int)) then
  (some 2)
  else
  (workers_CheckWorks.l6 workers_CheckWorks.e1 big a0 0)
def smithyardref9_workOf.e1 :Option Int :=
  some (-1)
def smithyardref9_workOf.l2 (e1:Option Int):Nat→(List Work)→ByteArray→Int→Option Int
  | 0,_,_,_=>none
  | k+1,a0,a1,v9 =>
    bif decide (v9<(a0.length:Int)) then
    ((at? a0 v9).bind fun x1 =>
    bif sEq x1.Id a1 then
    (some v9)
    else
    ((smithyardref9_workOf.l2 e1 k) a0 a1 (w64 (v9+1))))
    else
    (e1)
def smithyardref9_workOf.f (a0:List Work) (a1:ByteArray):Option Int :=
  smithyardref9_workOf.l2 smithyardref9_workOf.e1 big a0 a1 0
def smithyardref9_loops.e1 :Option Bool :=
  some false
def smithyardref9_loops.j4 (backl3:(List Work)→Int→Work→(List Bool)→(List Int)→Int→Option Bool) (a0:List Work) (a1:Int) (x2:Work) (v30:Int) (v_seen5:List Bool) (v_next6:List Int):Option Bool :=
  backl3 a0 a1 x2 v_seen5 v_next6 (w64 (v30+1))
def smithyardref9_loops.l3 (backl2:(List Work)→Int→(List Bool)→(List Int)→Option Bool):Nat→(List Work)→Int→Work→(List Bool)→(List Int)→Int→Option Bool
  | 0,_,_,_,_,_,_=>none
  | k+1,a0,a1,x2,v_seen5,v_next6,v30 =>
    bif decide (v30<(x2.After.length:Int)) then
    ((at? x2.After v30).bind fun x3 =>
    (smithyardref9_workOf.f a0 x3).bind fun y1 =>
    bif y1 == a1 then
    (some true)
    else
    ((at? v_seen5 y1).bind fun x4 =>
    bif !x4 then
    (guard? (room v_next6.length 1 8) (
    (at? v_seen5 y1).bind fun x5 =>
    smithyardref9_loops.j4 ((smithyardref9_loops.l3 backl2 k)) a0 a1 x2 v30 (v_seen5.set y1.toNat true) (v_next6++([y1]:List Int))))
    else
    (smithyardref9_loops.j4 ((smithyardref9_loops.l3 backl2 k)) a0 a1 x2 v30 v_seen5 v_next6)))
    else
    (backl2 a0 a1 v_seen5 v_next6)
def smithyardref9_loops.l2 (e1:Option Bool):Nat→(List Work)→Int→(List Bool)→(List Int)→Option Bool
  | 0,_,_,_,_=>none
  | k+1,a0,a1,v_seen5,v_next6 =>
    bif decide (0<(v_next6.length:Int)) then
    ((at? v_next6 0).bind fun x1 =>
    guard? (decide ((0:Int)≤1)&&decide (1≤((v_next6.length:Nat):Int))) (
    (at? a0 x1).bind fun x2 =>
    smithyardref9_loops.l3 ((smithyardref9_loops.l2 e1 k)) big a0 a1 x2 v_seen5 (v_next6.drop 1) 0))
    else
    (e1)
def smithyardref9_loops.f (a0:List Work) (a1:Int):Option Bool :=
  guard? (decide ((0:Int)≤(a0.length:Int))&&room 0 (a0.length:Int).toNat 1) (
  smithyardref9_loops.l2 smithyardref9_loops.e1 big a0 a1 (List.replicate (a0.length:Int).toNat (false)) ([a1]:List Int))
def smithyardref9_CheckWorks.e3 :Option Int :=
  some 0
def smithyardref9_CheckWorks.l4 (e3:Option Int):Nat→(List Work)→Int→Option Int
  | 0,_,_=>none
  | k+1,a0,v61 =>
    bif decide (v61<(a0.length:Int)) then
    ((smithyardref9_loops.f a0 v61).bind fun y1 =>
    bif y1 then
    (some 17)
    else
    ((smithyardref9_CheckWorks.l4 e3 k) a0 (w64 (v61+1))))
    else
    (e3)
def smithyardref9_CheckWorks.e2 (a0:List Work):Option Int :=
  smithyardref9_CheckWorks.l4 smithyardref9_CheckWorks.e3 big a0 0
def smithyardref9_CheckWorks.e6 (backl5:(List Work)→Int→Option Int) (a0:List Work) (v42:Int):Option Int :=
  backl5 a0 (w64 (v42+1))
def smithyardref9_CheckWorks.l7 (e6:(List Work)→Int→Option Int):Nat→(List Work)→Int→Work→Int→Option Int
  | 0,_,_,_,_=>none
  | k+1,a0,v42,x1,v49 =>
    bif decide (v49<(x1.After.length:Int)) then
    ((at? x1.After v49).bind fun x2 =>
    (smithyardref9_workOf.f a0 x2).bind fun y2 =>
    bif decide (y2<0) then
    (some 9)
    else
    ((smithyardref9_CheckWorks.l7 e6 k) a0 v42 x1 (w64 (v49+1))))
    else
    (e6 a0 v42)
def smithyardref9_CheckWorks.l5 (e2:(List Work)→Option Int):Nat→(List Work)→Int→Option Int
  | 0,_,_=>none
  | k+1,a0,v42 =>
    bif decide (v42<(a0.length:Int)) then
    ((at? a0 v42).bind fun x1 =>
    smithyardref9_CheckWorks.l7 (smithyardref9_CheckWorks.e6 ((smithyardref9_CheckWorks.l5 e2 k))) big a0 v42 x1 0)
    else
    (e2 a0)
def smithyardref9_CheckWorks.e1 (a0:List Work):Option Int :=
  smithyardref9_CheckWorks.l5 smithyardref9_CheckWorks.e2 big a0 0
def smithyardref9_CheckWorks.l8 (e1:(List Work)→Option Int):Nat→(List Work)→Int→Option Int
  | 0,_,_=>none
  | k+1,a0,v16 =>
    bif decide (v16<(a0.length:Int)) then
    ((at? a0 v16).bind fun x3 =>
    (smithyardref9_checkWork.f x3).bind fun y3 =>
    bif y3 != 0 then
    (some y3)
    else
    ((bif decide (0<v16) then ((at? a0 (w64 (v16 - 1))).bind fun x4 =>
    some (sLt x3.Id x4.Id||sEq x3.Id x4.Id)) else (some false)).bind fun t1 =>
    bif t1 then
    (some 8)
    else
    ((smithyardref9_CheckWorks.l8 e1 k) a0 (w64 (v16+1)))))
    else
    (e1 a0)
def smithyardref9_CheckWorks.f (a0:List Work):Option Int :=
  bif decide (200<(a0.length:Int)) then
  (some 2)
  else
  (smithyardref9_CheckWorks.l8 smithyardref9_CheckWorks.e1 big a0 0)
def slices_Equal_Pair.e1 :Option Bool :=
  some true
def slices_Equal_Pair.l2 (e1:Option Bool):Nat→(List Pair)→(List Pair)→Int→Option Bool
  | 0,_,_,_=>none
  | k+1,a0,a1,v13 =>
    bif decide (v13<(a0.length:Int)) then
    ((at? a0 v13).bind fun x1 =>
    (at? a1 v13).bind fun x2 =>
    bif !(sEq x1.Name x2.Name&&(sEq x1.Value x2.Value&&true)) then
    (some false)
    else
    ((slices_Equal_Pair.l2 e1 k) a0 a1 (w64 (v13+1))))
    else
    (e1)
def slices_Equal_Pair.f (a0:List Pair) (a1:List Pair):Option Bool :=
  bif (a0.length:Int) != (a1.length:Int) then
  (some false)
  else
  (slices_Equal_Pair.l2 slices_Equal_Pair.e1 big a0 a1 0)
def slices_Equal_Span.e1 :Option Bool :=
  some true
def slices_Equal_Span.l2 (e1:Option Bool):Nat→(List Span)→(List Span)→Int→Option Bool
  | 0,_,_,_=>none
  | k+1,a0,a1,v13 =>
    bif decide (v13<(a0.length:Int)) then
    ((at? a0 v13).bind fun x1 =>
    (at? a1 v13).bind fun x2 =>
    bif !(x1.From == x2.From&&(x1.To == x2.To&&true)) then
    (some false)
    else
    ((slices_Equal_Span.l2 e1 k) a0 a1 (w64 (v13+1))))
    else
    (e1)
def slices_Equal_Span.f (a0:List Span) (a1:List Span):Option Bool :=
  bif (a0.length:Int) != (a1.length:Int) then
  (some false)
  else
  (slices_Equal_Span.l2 slices_Equal_Span.e1 big a0 a1 0)
def smithyardref9_SameWorker.f (a0:Worker) (a1:Worker):Option Bool :=
  (bif sEq a0.Name a1.Name then ((slices_Equal_Pair.f a0.Has a1.Has).bind fun y1 =>
  bif y1 then (bif a0.Slots == a1.Slots then (bif a0.Speed == a1.Speed then (bif a0.From == a1.From then (bif a0.To == a1.To then ((slices_Equal_Span.f a0.Stands a1.Stands).bind fun y2 =>
  some y2) else (some false)) else (some false)) else (some false)) else (some false)) else (some false)) else (some false)).bind fun t1 =>
  some t1
def smithyardref9_SameWorkers.e1 :Option Bool :=
  some true
def smithyardref9_SameWorkers.l2 (e1:Option Bool):Nat→(List Worker)→(List Worker)→Int→Option Bool
  | 0,_,_,_=>none
  | k+1,a0,a1,v13 =>
    bif decide (v13<(a0.length:Int)) then
    ((at? a0 v13).bind fun x1 =>
    (at? a1 v13).bind fun x2 =>
    (smithyardref9_SameWorker.f x1 x2).bind fun y1 =>
    bif !y1 then
    (some false)
    else
    ((smithyardref9_SameWorkers.l2 e1 k) a0 a1 (w64 (v13+1))))
    else
    (e1)
def smithyardref9_SameWorkers.f (a0:List Worker) (a1:List Worker):Option Bool :=
  bif (a0.length:Int) != (a1.length:Int) then
  (some false)
  else
  (smithyardref9_SameWorkers.l2 smithyardref9_SameWorkers.e1 big a0 a1 0)
def slices_Equal_string.e1 :Option Bool :=
  some true
def slices_Equal_string.l2 (e1:Option Bool):Nat→(List ByteArray)→(List ByteArray)→Int→Option Bool
  | 0,_,_,_=>none
  | k+1,a0,a1,v13 =>
    bif decide (v13<(a0.length:Int)) then
    ((at? a0 v13).bind fun x1 =>
    (at? a1 v13).bind fun x2 =>
    bif !sEq x1 x2 then
    (some false)
    else
    ((slices_Equal_string.l2 e1 k) a0 a1 (w64 (v13+1))))
    else
    (e1)
def slices_Equal_string.f (a0:List ByteArray) (a1:List ByteArray):Option Bool :=
  bif (a0.length:Int) != (a1.length:Int) then
  (some false)
  else
  (slices_Equal_string.l2 slices_Equal_string.e1 big a0 a1 0)
def smithyardref9_SameWork.f (a0:Work) (a1:Work):Option Bool :=
  (bif sEq a0.Id a1.Id then ((slices_Equal_Pair.f a0.Needs a1.Needs).bind fun y1 =>
  bif y1 then (bif a0.Size == a1.Size then ((slices_Equal_string.f a0.After a1.After).bind fun y2 =>
  some y2) else (some false)) else (some false)) else (some false)).bind fun t1 =>
  some t1
def smithyardref9_SameWorks.e1 :Option Bool :=
  some true
def smithyardref9_SameWorks.l2 (e1:Option Bool):Nat→(List Work)→(List Work)→Int→Option Bool
  | 0,_,_,_=>none
  | k+1,a0,a1,v13 =>
    bif decide (v13<(a0.length:Int)) then
    ((at? a0 v13).bind fun x1 =>
    (at? a1 v13).bind fun x2 =>
    (smithyardref9_SameWork.f x1 x2).bind fun y1 =>
    bif !y1 then
    (some false)
    else
    ((smithyardref9_SameWorks.l2 e1 k) a0 a1 (w64 (v13+1))))
    else
    (e1)
def smithyardref9_SameWorks.f (a0:List Work) (a1:List Work):Option Bool :=
  bif (a0.length:Int) != (a1.length:Int) then
  (some false)
  else
  (smithyardref9_SameWorks.l2 smithyardref9_SameWorks.e1 big a0 a1 0)
def workers_checkSize.f (a0:Worker) (a1:Int):Option Int :=
  (workers_checkWorker.f a0).bind fun y1 =>
  bif y1 != 0 then
  (some y1)
  else
  ((workers_within.f a1 1 1000000).bind fun y2 =>
  bif !y2 then
  (some 1)
  else
  (some 0))
def workers_seconds.f (a0:Worker) (a1:Int):Option Int :=
  guard? (a0.Speed != 0) (
  some (w64 ((w64 ((w64 (a1+a0.Speed)) - 1)).tdiv a0.Speed)))
def workers_Seconds.f (a0:Worker) (a1:Int):Option (Int × Int) :=
  (workers_checkSize.f a0 a1).bind fun y1 =>
  bif y1 != 0 then
  (some (0,y1))
  else
  ((workers_seconds.f a0 a1).bind fun y2 =>
  some (y2,0))
def smithyardlaw9_awake.f :Option Bool :=
  (workers_Seconds.f (⟨({ data:=#[97] }:ByteArray),([]:List Pair),1,2,0,1,([]:List Span)⟩:Worker) 3).bind fun y1 =>
  (bif y1.2 == 0 then (some (y1.1 == 2)) else (some false)).bind fun t1 =>
  some t1
def smithyardlaw9_WorkersChecksMatchSpec.f (a0:List Worker) (a1:List Work) (a2:Worker) (a3:Work):Option Bool :=
  (smithyardref9_CopyWorkers.f a0).bind fun y1 =>
  (smithyardref9_CopyWorks.f a1).bind fun y2 =>
  (smithyardref9_CopyWorker.f a2).bind fun y3 =>
  (smithyardref9_CopyWork.f a3).bind fun y4 =>
  (workers_Fits.f a2 a3).bind fun y5 =>
  (smithyardref9_Fits.f (⟨y3.Name,y3.Has,y3.Slots,y3.Speed,y3.From,y3.To,y3.Stands⟩:Worker) (⟨y4.Id,y4.Needs,y4.Size,y4.After⟩:Work)).bind fun y6 =>
  ((workers_CheckWorkers.f a0).bind fun y7 =>
  (smithyardref9_CheckWorkers.f y1).bind fun y8 =>
  bif y7 == y8 then ((workers_CheckWorks.f a1).bind fun y9 =>
  (smithyardref9_CheckWorks.f y2).bind fun y10 =>
  bif y9 == y10 then (bif y5.2 == y6.2 then (bif y5.1 == y6.1 then ((smithyardref9_SameWorkers.f a0 y1).bind fun y11 =>
  bif y11 then ((smithyardref9_SameWorks.f a1 y2).bind fun y12 =>
  bif y12 then ((smithyardref9_SameWorker.f a2 (⟨y3.Name,y3.Has,y3.Slots,y3.Speed,y3.From,y3.To,y3.Stands⟩:Worker)).bind fun y13 =>
  bif y13 then ((smithyardref9_SameWork.f a3 (⟨y4.Id,y4.Needs,y4.Size,y4.After⟩:Work)).bind fun y14 =>
  bif y14 then ((smithyardlaw9_awake.f).bind fun y15 =>
  some y15) else (some false)) else (some false)) else (some false)) else (some false)) else (some false)) else (some false)) else (some false)) else (some false)).bind fun t1 =>
  some t1
end Go.Proofs.YteljhhgffmpgnaaDoor
