/- Plain functions, each written by program out of one Go function's operations. -/
import Derived.Test.YtdccapcfbielcaaGreatDoorKitP
import Derived.Lib.Bytealg
import Derived.Lib.SlTrimSet
import Derived.Lib.SplitLaws
import Derived.Lib.ItoaNum
import Derived.Lib.Atoi
set_option linter.unusedVariables false
namespace Go.Proofs.YtdccapcfbielcaaGreatDoor
open Go Go.Proofs.YtdccapcfbielcaaGreatDoor.Kit
structure Run where
  Id:ByteArray
  Worker:ByteArray
  From:Int
  To:Int
  End:Int
  deriving Inhabited,DecidableEq
structure Pair where
  Name:ByteArray
  Value:ByteArray
  deriving Inhabited,DecidableEq
structure Span where
  From:Int
  To:Int
  deriving Inhabited,DecidableEq
structure Worker where
  Name:ByteArray
  Has:List Pair
  Slots:Int
  Speed:Int
  From:Int
  To:Int
  Stands:List Span
  deriving Inhabited,DecidableEq
def slices_Clone_Run.f (a0:List Run):Option (List Run):=guard? (room 0 a0.length 56) (some a0)
def strings_Trim.f (a0:ByteArray) (a1:ByteArray):Option ByteArray:=guard? (decide (a0.size≤9223372036854775807)&&(decide (a1.size<4294967281)&&a1.data.toList.all (fun b=>decide (b.toNat<128)))) (some (⟨(Lib.trimS a0.data.toList a1.data.toList).toArray⟩))
def config_IsWord.f (a0:ByteArray):Option Bool :=
  (bif decide ((a0.size:Int)<1) then (some true) else (bif decide (40<(a0.size:Int)) then (some true) else (guard? (decide ((0:Int)≤0)&&decide (0<(a0.size:Int))) (
  bif decide ((bt a0 0)<97) then (some true) else (guard? (decide ((0:Int)≤0)&&decide (0<(a0.size:Int))) (
  some (decide (122<(bt a0 0))))))))).bind fun t1 =>
  bif t1 then
  (some false)
  else
  ((strings_Trim.f a0 ({ data:=#[97,98,99,100,101,102,103,104,105,106,107,108,109,110,111,112,113,114,115,116,117,118,119,120,121,122,48,49,50,51,52,53,54,55,56,57,95,45] }:ByteArray)).bind fun y1 =>
  some (sEq y1 ({ data:=#[] }:ByteArray)))
def workers_within.f (a0:Int) (a1:Int) (a2:Int):Option Bool :=
  (bif decide (a1≤a0) then (some (decide (a0≤a2))) else (some false)).bind fun t1 =>
  some t1
def workers_isMoment.f (a0:Int):Option Bool :=
  (workers_within.f a0 0 1000000000).bind fun y1 =>
  some y1
def cmp_isNaN_int.f (a0:Int):Option Bool :=
  some (a0 != a0)
def cmp_Compare_int.f (a0:Int) (a1:Int):Option Int :=
  (cmp_isNaN_int.f a0).bind fun y1 =>
  (cmp_isNaN_int.f a1).bind fun y2 =>
  bif y1 then
  (bif y2 then
  (some 0)
  else
  (some (-1)))
  else
  (bif y2 then
  (some 1)
  else
  (bif decide (a0<a1) then
  (some (-1))
  else
  (bif decide (a1<a0) then
  (some 1)
  else
  (some 0))))
def strings_Compare.f (a0:ByteArray) (a1:ByteArray):Option Int:=some (Lib.compareBytes a0.data.toList a1.data.toList)
def cmp_Or_int.e1 :Option Int :=
  some 0
def cmp_Or_int.l2 (e1:Option Int):Nat→(List Int)→Int→Option Int
  | 0,_,_=>none
  | k+1,a0,v8 =>
    bif decide (v8<(a0.length:Int)) then
    ((at? a0 v8).bind fun x1 =>
    bif x1 != 0 then
    (some x1)
    else
    ((cmp_Or_int.l2 e1 k) a0 (w64 (v8+1))))
    else
    (e1)
def cmp_Or_int.f (a0:List Int):Option Int :=
  cmp_Or_int.l2 cmp_Or_int.e1 big a0 0
def workers_compareRuns.f (a0:Run) (a1:Run):Option Int :=
  (cmp_Compare_int.f a0.From a1.From).bind fun y1 =>
  (strings_Compare.f a0.Id a1.Id).bind fun y2 =>
  (strings_Compare.f a0.Worker a1.Worker).bind fun y3 =>
  (cmp_Or_int.f ([y1,y2,y3]:List Int)).bind fun y4 =>
  some y4
def workers_CheckRuns.e1 :Option Int :=
  some 0
def workers_CheckRuns.l2 (e1:Option Int):Nat→(List Run)→Int→Option Int
  | 0,_,_=>none
  | k+1,a0,v10 =>
    bif decide (v10<(a0.length:Int)) then
    ((at? a0 v10).bind fun x1 =>
    ((config_IsWord.f x1.Id).bind fun y1 =>
    bif !y1 then (some true) else ((config_IsWord.f x1.Worker).bind fun y2 =>
    some (!y2))).bind fun t1 =>
    bif t1 then
    (some 5)
    else
    (((workers_isMoment.f x1.From).bind fun y3 =>
    bif !y3 then (some true) else ((workers_isMoment.f x1.To).bind fun y4 =>
    some (!y4))).bind fun t2 =>
    bif t2 then
    (some 1)
    else
    (bif decide (x1.To<x1.From) then
    (some 8)
    else
    ((workers_within.f x1.End 1 3).bind fun y5 =>
    bif !y5 then
    (some 4)
    else
    ((bif decide (0<v10) then ((at? a0 (w64 (v10 - 1))).bind fun x2 =>
    (workers_compareRuns.f x1 x2).bind fun y6 =>
    some (decide (y6≤0))) else (some false)).bind fun t3 =>
    bif t3 then
    (some 8)
    else
    ((workers_CheckRuns.l2 e1 k) a0 (w64 (v10+1))))))))
    else
    (e1)
def workers_CheckRuns.f (a0:List Run):Option Int :=
  bif decide (4000<(a0.length:Int)) then
  (some 2)
  else
  (workers_CheckRuns.l2 workers_CheckRuns.e1 big a0 0)
def strconv_Itoa.f (a0:Int):Option ByteArray:=guard? (decide (-9223372036854775808≤a0)&&decide (a0≤9223372036854775807)) (some (⟨(Lib.itoa a0).toArray⟩:ByteArray))
def strings_Join.e3 (v_b8:ByteArray):Option ByteArray :=
  some v_b8
def strings_Join.l4 (e3:ByteArray→Option ByteArray):Nat→(List ByteArray)→ByteArray→ByteArray→Int→Option ByteArray
  | 0,_,_,_,_=>none
  | k+1,a0,a1,v_b8,v65 =>
    bif decide (v65<((a0.length - 1:Nat):Int)) then
    ((at? (a0.drop 1) v65).bind fun x3 =>
    guard? (decide (v_b8.size+a1.size≤140737488355328)) (
    guard? (decide ((v_b8++a1).size+x3.size≤140737488355328)) (
    (strings_Join.l4 e3 k) a0 a1 ((v_b8++a1)++x3) (w64 (v65+1)))))
    else
    (e3 v_b8)
def strings_Join.e2 (a0:List ByteArray) (a1:ByteArray) (v_n5:Int):Option ByteArray :=
  guard? (decide ((0:Int)≤v_n5)&&decide (v_n5≤281474976710656)) (
  (at? a0 0).bind fun x2 =>
  guard? (decide ((⟨#[]⟩:ByteArray).size+x2.size≤140737488355328)) (
  guard? (decide ((0:Int)≤1)&&decide (1≤((a0.length:Nat):Int))) (
  strings_Join.l4 strings_Join.e3 big a0 a1 ((⟨#[]⟩:ByteArray)++x2) 0)))
def strings_Join.j6 (backl5:(List ByteArray)→ByteArray→Int→Int→Option ByteArray) (a0:List ByteArray) (a1:ByteArray) (v_n5:Int) (v41:Int) (x4:ByteArray):Option ByteArray :=
  backl5 a0 a1 (w64 (v_n5+(x4.size:Int))) (w64 (v41+1))
def strings_Join.l5 (e2:(List ByteArray)→ByteArray→Int→Option ByteArray):Nat→(List ByteArray)→ByteArray→Int→Int→Option ByteArray
  | 0,_,_,_,_=>none
  | k+1,a0,a1,v_n5,v41 =>
    bif decide (v41<(a0.length:Int)) then
    ((at? a0 v41).bind fun x4 =>
    bif decide ((w64 (9223372036854775807 - v_n5))<(x4.size:Int)) then
    (none)
    else
    (strings_Join.j6 ((strings_Join.l5 e2 k)) a0 a1 v_n5 v41 x4))
    else
    (e2 a0 a1 v_n5)
def strings_Join.j1 (a0:List ByteArray) (a1:ByteArray) (v_n5:Int):Option ByteArray :=
  strings_Join.l5 strings_Join.e2 big a0 a1 v_n5 0
def strings_Join.j7 (j1:(List ByteArray)→ByteArray→Int→Option ByteArray) (a0:List ByteArray) (a1:ByteArray):Option ByteArray :=
  j1 a0 a1 (w64 (0+(w64 ((a1.size:Int)*(w64 ((a0.length:Int) - 1))))))
def strings_Join.f (a0:List ByteArray) (a1:ByteArray):Option ByteArray :=
  bif (a0.length:Int) == 0 then
  (some ({ data:=#[] }:ByteArray))
  else
  (bif (a0.length:Int) == 1 then
  ((at? a0 0).bind fun x1 =>
  some x1)
  else
  (bif decide (0<(a1.size:Int)) then
  (guard? ((w64 ((a0.length:Int) - 1)) != 0) (
  bif decide ((w64 ((9223372036854775807:Int).tdiv (w64 ((a0.length:Int) - 1))))≤(a1.size:Int)) then
  (none)
  else
  (strings_Join.j7 strings_Join.j1 a0 a1)))
  else
  (strings_Join.j1 a0 a1 0)))
def workers_Text.e1 (v_b5:ByteArray):Option (ByteArray × Int) :=
  bif decide (600000<(v_b5.size:Int)) then
  (some (({ data:=#[] }:ByteArray),2))
  else
  (some (v_b5,0))
def workers_Text.l2 (e1:ByteArray→Option (ByteArray × Int)):Nat→(List Run)→ByteArray→Int→Option (ByteArray × Int)
  | 0,_,_,_=>none
  | k+1,a0,v_b5,v17 =>
    bif decide (v17<(a0.length:Int)) then
    ((at? a0 v17).bind fun x1 =>
    (at? ([({ data:=#[] }:ByteArray),({ data:=#[100,111,110,101] }:ByteArray),({ data:=#[108,111,115,116] }:ByteArray),({ data:=#[115,116,111,112,112,101,100] }:ByteArray)]:List ByteArray) x1.End).bind fun x2 =>
    (strconv_Itoa.f x1.From).bind fun y2 =>
    (strconv_Itoa.f x1.To).bind fun y3 =>
    (strings_Join.f ([y2,y3,x2,x1.Id,x1.Worker]:List ByteArray) ({ data:=#[32] }:ByteArray)).bind fun y4 =>
    guard? (decide (y4.size+({ data:=#[10] }:ByteArray).size≤9223372036854775807)) (
    guard? (decide (v_b5.size+(y4++({ data:=#[10] }:ByteArray)).size≤140737488355328)) (
    (workers_Text.l2 e1 k) a0 (v_b5++(y4++({ data:=#[10] }:ByteArray))) (w64 (v17+1)))))
    else
    (e1 v_b5)
def workers_Text.f (a0:List Run):Option (ByteArray × Int) :=
  (workers_CheckRuns.f a0).bind fun y1 =>
  bif y1 != 0 then
  (some (({ data:=#[] }:ByteArray),y1))
  else
  (workers_Text.l2 workers_Text.e1 big a0 (⟨#[]⟩:ByteArray) 0)
def smithyardref9_within.f (a0:Int) (a1:Int) (a2:Int):Option Bool :=
  (bif decide (a1≤a0) then (some (decide (a0≤a2))) else (some false)).bind fun t1 =>
  some t1
def smithyardref9_isWord.e1 :Option Bool :=
  some true
def smithyardref9_isWord.l2 (e1:Option Bool):Nat→ByteArray→Int→Option Bool
  | 0,_,_=>none
  | k+1,a0,v21 =>
    bif decide (v21<(a0.size:Int)) then
    (guard? (decide ((0:Int)≤v21)&&decide (v21<(a0.size:Int))) (
    (bif decide ((bt a0 v21)<97) then (bif decide ((bt a0 v21)<48) then (bif (bt a0 v21) != 45 then (some ((bt a0 v21) != 95)) else (some false)) else (bif decide (57<(bt a0 v21)) then (bif (bt a0 v21) != 45 then (some ((bt a0 v21) != 95)) else (some false)) else (some false))) else (bif decide (122<(bt a0 v21)) then (bif decide ((bt a0 v21)<48) then (bif (bt a0 v21) != 45 then (some ((bt a0 v21) != 95)) else (some false)) else (bif decide (57<(bt a0 v21)) then (bif (bt a0 v21) != 45 then (some ((bt a0 v21) != 95)) else (some false)) else (some false))) else (some false))).bind fun t2 =>
    bif t2 then
    (some false)
    else
    ((smithyardref9_isWord.l2 e1 k) a0 (w64 (v21+1)))))
    else
    (e1)
def smithyardref9_isWord.f (a0:ByteArray):Option Bool :=
  ((smithyardref9_within.f (a0.size:Int) 1 40).bind fun y1 =>
  bif !y1 then (some true) else (guard? (decide ((0:Int)≤0)&&decide (0<(a0.size:Int))) (
  bif decide ((bt a0 0)<97) then (some true) else (guard? (decide ((0:Int)≤0)&&decide (0<(a0.size:Int))) (
  some (decide (122<(bt a0 0)))))))).bind fun t1 =>
  bif t1 then
  (some false)
  else
  (smithyardref9_isWord.l2 smithyardref9_isWord.e1 big a0 0)
def smithyardref9_before.f (a0:Run) (a1:Run):Option Bool :=
  bif a0.From != a1.From then
  (some (decide (a0.From<a1.From)))
  else
  (bif !sEq a0.Id a1.Id then
  (some (sLt a0.Id a1.Id))
  else
  (some (sLt a0.Worker a1.Worker)))
def smithyardref9_CheckRuns.e1 :Option Int :=
  some 0
def smithyardref9_CheckRuns.l2 (e1:Option Int):Nat→(List Run)→Int→Option Int
  | 0,_,_=>none
  | k+1,a0,v10 =>
    bif decide (v10<(a0.length:Int)) then
    ((at? a0 v10).bind fun x1 =>
    ((smithyardref9_isWord.f x1.Id).bind fun y1 =>
    bif !y1 then (some true) else ((smithyardref9_isWord.f x1.Worker).bind fun y2 =>
    some (!y2))).bind fun t1 =>
    bif t1 then
    (some 5)
    else
    (((smithyardref9_within.f x1.From 0 1000000000).bind fun y3 =>
    bif !y3 then (some true) else ((smithyardref9_within.f x1.To 0 1000000000).bind fun y4 =>
    some (!y4))).bind fun t2 =>
    bif t2 then
    (some 1)
    else
    (bif decide (x1.To<x1.From) then
    (some 8)
    else
    ((smithyardref9_within.f x1.End 1 3).bind fun y5 =>
    bif !y5 then
    (some 4)
    else
    ((bif decide (0<v10) then ((at? a0 (w64 (v10 - 1))).bind fun x2 =>
    (smithyardref9_before.f x2 x1).bind fun y6 =>
    some (!y6)) else (some false)).bind fun t3 =>
    bif t3 then
    (some 8)
    else
    ((smithyardref9_CheckRuns.l2 e1 k) a0 (w64 (v10+1))))))))
    else
    (e1)
def smithyardref9_CheckRuns.f (a0:List Run):Option Int :=
  bif decide (4000<(a0.length:Int)) then
  (some 2)
  else
  (smithyardref9_CheckRuns.l2 smithyardref9_CheckRuns.e1 big a0 0)
def strings_Split.f (a0 a1:ByteArray):Option (List ByteArray):=guard? (decide (a0.size<4294967281)&&decide (1≤a1.size)) (some (Lib.splitB a1 0 (Lib.countB a0 a1) a0))
def smithyardref9_Text.e1 (v_out5:ByteArray):Option (ByteArray × Int) :=
  bif decide (600000<(v_out5.size:Int)) then
  (some (({ data:=#[] }:ByteArray),2))
  else
  (some (v_out5,0))
def smithyardref9_Text.l2 (e1:ByteArray→Option (ByteArray × Int)):Nat→(List Run)→ByteArray→Int→Option (ByteArray × Int)
  | 0,_,_,_=>none
  | k+1,a0,v_out5,v15 =>
    bif decide (v15<(a0.length:Int)) then
    ((at? a0 v15).bind fun x1 =>
    (strconv_Itoa.f x1.From).bind fun y2 =>
    (strconv_Itoa.f x1.To).bind fun y3 =>
    (strings_Split.f ({ data:=#[100,111,110,101,32,108,111,115,116,32,115,116,111,112,112,101,100] }:ByteArray) ({ data:=#[32] }:ByteArray)).bind fun y4 =>
    (at? y4 (w64 (x1.End - 1))).bind fun x2 =>
    (strings_Join.f ([y2,y3,x2,x1.Id,x1.Worker]:List ByteArray) ({ data:=#[32] }:ByteArray)).bind fun y5 =>
    guard? (decide (y5.size+({ data:=#[10] }:ByteArray).size≤9223372036854775807)) (
    guard? (decide (v_out5.size+(y5++({ data:=#[10] }:ByteArray)).size≤9223372036854775807)) (
    (smithyardref9_Text.l2 e1 k) a0 (v_out5++(y5++({ data:=#[10] }:ByteArray))) (w64 (v15+1)))))
    else
    (e1 v_out5)
def smithyardref9_Text.f (a0:List Run):Option (ByteArray × Int) :=
  (smithyardref9_CheckRuns.f a0).bind fun y1 =>
  bif y1 != 0 then
  (some (({ data:=#[] }:ByteArray),y1))
  else
  (smithyardref9_Text.l2 smithyardref9_Text.e1 big a0 ({ data:=#[] }:ByteArray) 0)
def slices_Equal_Run.e1 :Option Bool :=
  some true
def slices_Equal_Run.l2 (e1:Option Bool):Nat→(List Run)→(List Run)→Int→Option Bool
  | 0,_,_,_=>none
  | k+1,a0,a1,v13 =>
    bif decide (v13<(a0.length:Int)) then
    ((at? a0 v13).bind fun x1 =>
    (at? a1 v13).bind fun x2 =>
    bif !(sEq x1.Id x2.Id&&(sEq x1.Worker x2.Worker&&(x1.From == x2.From&&(x1.To == x2.To&&(x1.End == x2.End&&true))))) then
    (some false)
    else
    ((slices_Equal_Run.l2 e1 k) a0 a1 (w64 (v13+1))))
    else
    (e1)
def slices_Equal_Run.f (a0:List Run) (a1:List Run):Option Bool :=
  bif (a0.length:Int) != (a1.length:Int) then
  (some false)
  else
  (slices_Equal_Run.l2 slices_Equal_Run.e1 big a0 a1 0)
def config_CheckPairs.e1 :Option Int :=
  some 0
def config_CheckPairs.l2 (e1:Option Int):Nat→(List Pair)→Int→Option Int
  | 0,_,_=>none
  | k+1,a0,v10 =>
    bif decide (v10<(a0.length:Int)) then
    ((at? a0 v10).bind fun x1 =>
    (config_IsWord.f x1.Name).bind fun y1 =>
    bif !y1 then
    (some 5)
    else
    ((config_IsWord.f x1.Value).bind fun y2 =>
    bif !y2 then
    (some 1)
    else
    ((bif decide (0<v10) then ((at? a0 (w64 (v10 - 1))).bind fun x2 =>
    some (sLt x1.Name x2.Name||sEq x1.Name x2.Name)) else (some false)).bind fun t1 =>
    bif t1 then
    (some 8)
    else
    ((config_CheckPairs.l2 e1 k) a0 (w64 (v10+1))))))
    else
    (e1)
def config_CheckPairs.f (a0:List Pair):Option Int :=
  bif decide (30<(a0.length:Int)) then
  (some 2)
  else
  (config_CheckPairs.l2 config_CheckPairs.e1 big a0 0)
def workers_checkStands.e1 :Option Int :=
  some 0
def workers_checkStands.l2 (e1:Option Int):Nat→(List Span)→Int→Option Int
  | 0,_,_=>none
  | k+1,a0,v10 =>
    bif decide (v10<(a0.length:Int)) then
    ((at? a0 v10).bind fun x1 =>
    ((workers_isMoment.f x1.From).bind fun y1 =>
    bif !y1 then (some true) else ((workers_isMoment.f x1.To).bind fun y2 =>
    some (!y2))).bind fun t1 =>
    bif t1 then
    (some 1)
    else
    ((bif decide (x1.To≤x1.From) then (some true) else (bif decide (0<v10) then ((at? a0 (w64 (v10 - 1))).bind fun x2 =>
    some (decide (x1.From<x2.To))) else (some false))).bind fun t2 =>
    bif t2 then
    (some 8)
    else
    ((workers_checkStands.l2 e1 k) a0 (w64 (v10+1)))))
    else
    (e1)
def workers_checkStands.f (a0:List Span):Option Int :=
  bif decide (20<(a0.length:Int)) then
  (some 2)
  else
  (workers_checkStands.l2 workers_checkStands.e1 big a0 0)
def workers_checkWorker.f (a0:Worker):Option Int :=
  (config_IsWord.f a0.Name).bind fun y1 =>
  bif !y1 then
  (some 5)
  else
  ((config_CheckPairs.f a0.Has).bind fun y2 =>
  bif y2 != 0 then
  (some y2)
  else
  (((workers_within.f a0.Slots 1 20).bind fun y3 =>
  bif !y3 then (some true) else ((workers_within.f a0.Speed 1 1000).bind fun y4 =>
  bif !y4 then (some true) else ((workers_isMoment.f a0.From).bind fun y5 =>
  bif !y5 then (some true) else ((workers_isMoment.f a0.To).bind fun y6 =>
  some (!y6))))).bind fun t1 =>
  bif t1 then
  (some 1)
  else
  (bif decide (a0.To≤a0.From) then
  (some 8)
  else
  ((workers_checkStands.f a0.Stands).bind fun y7 =>
  some y7))))
def workers_checkSize.f (a0:Worker) (a1:Int):Option Int :=
  (workers_checkWorker.f a0).bind fun y1 =>
  bif y1 != 0 then
  (some y1)
  else
  ((workers_within.f a1 1 1000000).bind fun y2 =>
  bif !y2 then
  (some 1)
  else
  (some 0))
def workers_seconds.f (a0:Worker) (a1:Int):Option Int :=
  guard? (a0.Speed != 0) (
  some (w64 ((w64 ((w64 (a1+a0.Speed)) - 1)).tdiv a0.Speed)))
def workers_Seconds.f (a0:Worker) (a1:Int):Option (Int × Int) :=
  (workers_checkSize.f a0 a1).bind fun y1 =>
  bif y1 != 0 then
  (some (0,y1))
  else
  ((workers_seconds.f a0 a1).bind fun y2 =>
  some (y2,0))
def smithyardlaw9_awake.f :Option Bool :=
  (workers_Seconds.f (⟨({ data:=#[97] }:ByteArray),([]:List Pair),1,2,0,1,([]:List Span)⟩:Worker) 3).bind fun y1 =>
  (bif y1.2 == 0 then (some (y1.1 == 2)) else (some false)).bind fun t1 =>
  some t1
def stringslite_Index.f (a0 a1:ByteArray):Option Int:=guard? (decide (a1.data.toList.length=1)) (some (Lib.indexByte a0.data.toList (a1.data.toList.headD 0)))
def stringslite_Cut.f (a0:ByteArray) (a1:ByteArray):Option (ByteArray × ByteArray × Bool) :=
  (stringslite_Index.f a0 a1).bind fun y1 =>
  bif decide (0≤y1) then
  (guard? (decide ((0:Int)≤y1)&&decide (y1≤(a0.size:Int))) (
  guard? (decide ((0:Int)≤(w64 (y1+(a1.size:Int))))&&decide ((w64 (y1+(a1.size:Int)))≤(a0.size:Int))) (
  some (a0.extract 0 y1.toNat,a0.extract (w64 (y1+(a1.size:Int))).toNat a0.size,true))))
  else
  (some (a0,({ data:=#[] }:ByteArray),false))
def strings_Cut.f (a0:ByteArray) (a1:ByteArray):Option (ByteArray × ByteArray × Bool) :=
  (stringslite_Cut.f a0 a1).bind fun y1 =>
  some (y1.1,y1.2.1,y1.2.2)
def strconv_Atoi.f (a0:ByteArray):Option Int:=guard? (decide (a0.size≤18)) (Lib.atoi a0.data.toList)
def workers_number.f (a0:ByteArray):Option (Int × Bool) :=
  (bif decide ((a0.size:Int)<1) then (some true) else (bif decide (10<(a0.size:Int)) then (some true) else ((strings_Trim.f a0 ({ data:=#[48,49,50,51,52,53,54,55,56,57] }:ByteArray)).bind fun y1 =>
  bif !sEq y1 ({ data:=#[] }:ByteArray) then (some true) else (guard? (decide ((0:Int)≤0)&&decide (0<(a0.size:Int))) (
  bif (bt a0 0) == 48 then (some (!sEq a0 ({ data:=#[48] }:ByteArray))) else (some false)))))).bind fun t1 =>
  bif t1 then
  (some (0,false))
  else
  ((strconv_Atoi.f a0).bind fun y2 =>
  some (y2,true))
def slices_Index_string.e1 :Option Int :=
  some (-1)
def slices_Index_string.l2 (e1:Option Int):Nat→(List ByteArray)→ByteArray→Int→Option Int
  | 0,_,_,_=>none
  | k+1,a0,a1,v8 =>
    bif decide (v8<(a0.length:Int)) then
    ((at? a0 v8).bind fun x1 =>
    bif sEq a1 x1 then
    (some v8)
    else
    ((slices_Index_string.l2 e1 k) a0 a1 (w64 (v8+1))))
    else
    (e1)
def slices_Index_string.f (a0:List ByteArray) (a1:ByteArray):Option Int :=
  slices_Index_string.l2 slices_Index_string.e1 big a0 a1 0
def strings_ContainsFunc.f (a0:ByteArray):Option Bool:=some (a0.data.toList.any (fun b=>decide ((b.toNat:Int)<33)||decide (126<(b.toNat:Int))))
def workers_isRow.f (a0:ByteArray):Option Bool :=
  (bif !sEq a0 ({ data:=#[] }:ByteArray) then ((strings_ContainsFunc.f a0).bind fun y1 =>
  some (!y1)) else (some false)).bind fun t1 =>
  some t1
def workers_readRun.f (a0:ByteArray):Option (Run × Bool) :=
  (strings_Split.f a0 ({ data:=#[32] }:ByteArray)).bind fun y1 =>
  bif (y1.length:Int) != 5 then
  (some ((⟨ByteArray.empty,ByteArray.empty,0,0,0⟩:Run),false))
  else
  ((at? y1 0).bind fun x1 =>
  (workers_number.f x1).bind fun y2 =>
  (at? y1 1).bind fun x2 =>
  (workers_number.f x2).bind fun y3 =>
  (at? y1 2).bind fun x3 =>
  (slices_Index_string.f ([({ data:=#[] }:ByteArray),({ data:=#[100,111,110,101] }:ByteArray),({ data:=#[108,111,115,116] }:ByteArray),({ data:=#[115,116,111,112,112,101,100] }:ByteArray)]:List ByteArray) x3).bind fun y4 =>
  ((at? y1 3).bind fun x4 =>
  (at? y1 4).bind fun x5 =>
  bif y2.2 then (bif y3.2 then (bif decide (0<y4) then ((workers_isRow.f x4).bind fun y5 =>
  bif y5 then ((workers_isRow.f x5).bind fun y6 =>
  some (x4,x5,y6)) else (some (x4,x5,false))) else (some (x4,x5,false))) else (some (x4,x5,false))) else (some (x4,x5,false))).bind fun t1 =>
  some ((⟨t1.1,t1.2.1,y2.1,y3.1,y4⟩:Run),t1.2.2))
def workers_Read.e1 (v_out5:List Run):Option ((List Run) × Int × Int) :=
  (workers_CheckRuns.f v_out5).bind fun y1 =>
  bif y1 != 0 then
  (some (([]:List Run),0,y1))
  else
  (some (v_out5,0,0))
def workers_Read.l2 (e1:(List Run)→Option ((List Run) × Int × Int)):Nat→ByteArray→(List Run)→Int→Option ((List Run) × Int × Int)
  | 0,_,_,_=>none
  | k+1,v_text0,v_out5,v_n6 =>
    bif !sEq v_text0 ({ data:=#[] }:ByteArray) then
    ((strings_Cut.f v_text0 ({ data:=#[10] }:ByteArray)).bind fun y2 =>
    (workers_readRun.f y2.1).bind fun y3 =>
    (bif !y2.2.2 then (some true) else (some (!y3.2))).bind fun t1 =>
    bif t1 then
    (some (([]:List Run),v_n6,10))
    else
    (guard? (room v_out5.length 1 56) (
    (workers_Read.l2 e1 k) y2.2.1 (v_out5++([y3.1]:List Run)) (w64 (v_n6+1)))))
    else
    (e1 v_out5)
def workers_Read.f (a0:ByteArray):Option ((List Run) × Int × Int) :=
  bif decide (600000<(a0.size:Int)) then
  (some (([]:List Run),0,2))
  else
  (workers_Read.l2 workers_Read.e1 big a0 ([]:List Run) 1)
def smithyardlaw9_WorkersTextsMatchSpec.f (a0:List Run):Option Bool :=
  (slices_Clone_Run.f a0).bind fun y1 =>
  (workers_Text.f a0).bind fun y2 =>
  (smithyardref9_Text.f y1).bind fun y3 =>
  (bif y2.2 != y3.2 then (some true) else (bif !sEq y2.1 y3.1 then (some true) else ((slices_Equal_Run.f a0 y1).bind fun y4 =>
  bif !y4 then (some true) else ((smithyardlaw9_awake.f).bind fun y5 =>
  some (!y5))))).bind fun t1 =>
  bif t1 then
  (some false)
  else
  (bif y2.2 != 0 then
  (some true)
  else
  ((workers_Read.f y2.1).bind fun y6 =>
  (bif y6.2.2 == 0 then (bif y6.2.1 == 0 then ((slices_Equal_Run.f a0 y6.1).bind fun y7 =>
  some y7) else (some false)) else (some false)).bind fun t2 =>
  some t2))
end Go.Proofs.YtdccapcfbielcaaGreatDoor
