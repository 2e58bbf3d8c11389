/- Plain functions, each written by program out of one Go function's operations. -/
import Derived.Test.YtamacaieccppaaaGreatDoorKitP
import Derived.Lib.SlTrimSet
import Derived.Lib.SplitLaws
import Derived.Lib.ItoaNum
import Derived.Lib.Atoi
import Derived.Lib.Bytealg
set_option linter.unusedVariables false
namespace Go.Proofs.YtamacaieccppaaaGreatDoor
open Go Go.Proofs.YtamacaieccppaaaGreatDoor.Kit
structure TestRun where
  Test:ByteArray
  Key:ByteArray
  At:Int
  Pass:Bool
  Seconds:Int
  deriving Inhabited,DecidableEq
def slices_Clone_TestRun.f (a0:List TestRun):Option (List TestRun):=guard? (room 0 a0.length 56) (some a0)
def strings_Split.f (a0 a1:ByteArray):Option (List ByteArray):=guard? (decide (a0.size<4294967281)&&decide (1≤a1.size)) (some (Lib.splitB a1 0 (Lib.countB a0 a1) a0))
def strings_IndexByte.f (a0:ByteArray) (a1:Int):Option Int:=some (Lib.indexByte a0.data.toList a1.toNat.toUInt8)
def blob_inPart.f (a0:Int):Option Bool :=
  (bif decide (97≤a0) then (bif decide (a0≤122) then (some true) else (bif decide (65≤a0) then (bif decide (a0≤90) then (some true) else (bif decide (48≤a0) then (bif decide (a0≤57) then (some true) else ((strings_IndexByte.f ({ data:=#[46,95,45,43] }:ByteArray) a0).bind fun y1 =>
  some (decide (0≤y1)))) else ((strings_IndexByte.f ({ data:=#[46,95,45,43] }:ByteArray) a0).bind fun y2 =>
  some (decide (0≤y2))))) else (bif decide (48≤a0) then (bif decide (a0≤57) then (some true) else ((strings_IndexByte.f ({ data:=#[46,95,45,43] }:ByteArray) a0).bind fun y3 =>
  some (decide (0≤y3)))) else ((strings_IndexByte.f ({ data:=#[46,95,45,43] }:ByteArray) a0).bind fun y4 =>
  some (decide (0≤y4)))))) else (bif decide (65≤a0) then (bif decide (a0≤90) then (some true) else (bif decide (48≤a0) then (bif decide (a0≤57) then (some true) else ((strings_IndexByte.f ({ data:=#[46,95,45,43] }:ByteArray) a0).bind fun y5 =>
  some (decide (0≤y5)))) else ((strings_IndexByte.f ({ data:=#[46,95,45,43] }:ByteArray) a0).bind fun y6 =>
  some (decide (0≤y6))))) else (bif decide (48≤a0) then (bif decide (a0≤57) then (some true) else ((strings_IndexByte.f ({ data:=#[46,95,45,43] }:ByteArray) a0).bind fun y7 =>
  some (decide (0≤y7)))) else ((strings_IndexByte.f ({ data:=#[46,95,45,43] }:ByteArray) a0).bind fun y8 =>
  some (decide (0≤y8)))))).bind fun t1 =>
  some t1
def blob_isPart.e1 (a0:ByteArray):Option Bool :=
  (bif !sEq a0 ({ data:=#[] }:ByteArray) then (bif !sEq a0 ({ data:=#[46] }:ByteArray) then (some (!sEq a0 ({ data:=#[46,46] }:ByteArray))) else (some false)) else (some false)).bind fun t1 =>
  some t1
def blob_isPart.l2 (e1:ByteArray→Option Bool):Nat→ByteArray→Int→Option Bool
  | 0,_,_=>none
  | k+1,a0,v6 =>
    bif decide (v6<(a0.size:Int)) then
    (guard? (decide ((0:Int)≤v6)&&decide (v6<(a0.size:Int))) (
    (blob_inPart.f (bt a0 v6)).bind fun y1 =>
    bif !y1 then
    (some false)
    else
    ((blob_isPart.l2 e1 k) a0 (w64 (v6+1)))))
    else
    (e1 a0)
def blob_isPart.f (a0:ByteArray):Option Bool :=
  blob_isPart.l2 blob_isPart.e1 big a0 0
def blob_IsPath.e1 :Option Bool :=
  some true
def blob_IsPath.l2 (e1:Option Bool):Nat→(List ByteArray)→Int→Option Bool
  | 0,_,_=>none
  | k+1,y1,v16 =>
    bif decide (v16<(y1.length:Int)) then
    ((at? y1 v16).bind fun x1 =>
    (blob_isPart.f x1).bind fun y2 =>
    bif !y2 then
    (some false)
    else
    ((blob_IsPath.l2 e1 k) y1 (w64 (v16+1))))
    else
    (e1)
def blob_IsPath.f (a0:ByteArray):Option Bool :=
  (bif decide ((a0.size:Int)<1) then (some true) else (some (decide (200<(a0.size:Int))))).bind fun t1 =>
  bif t1 then
  (some false)
  else
  ((strings_Split.f a0 ({ data:=#[47] }:ByteArray)).bind fun y1 =>
  blob_IsPath.l2 blob_IsPath.e1 big y1 0)
def strings_Trim.f (a0:ByteArray) (a1:ByteArray):Option ByteArray:=guard? (decide (a0.size≤9223372036854775807)&&(decide (a1.size<4294967281)&&a1.data.toList.all (fun b=>decide (b.toNat<128)))) (some (⟨(Lib.trimS a0.data.toList a1.data.toList).toArray⟩))
def blob_IsDigest.f (a0:ByteArray):Option Bool :=
  (bif (a0.size:Int) == 16 then ((strings_Trim.f a0 ({ data:=#[48,49,50,51,52,53,54,55,56,57,97,98,99,100,101,102] }:ByteArray)).bind fun y1 =>
  some (sEq y1 ({ data:=#[] }:ByteArray))) else (some false)).bind fun t1 =>
  some t1
def trials_within.f (a0:Int) (a1:Int) (a2:Int):Option Bool :=
  (bif decide (a1≤a0) then (some (decide (a0≤a2))) else (some false)).bind fun t1 =>
  some t1
def trials_CheckHistory.e1 :Option Int :=
  some 0
def trials_CheckHistory.l2 (e1:Option Int):Nat→(List TestRun)→Int→Option Int
  | 0,_,_=>none
  | k+1,a0,v10 =>
    bif decide (v10<(a0.length:Int)) then
    ((at? a0 v10).bind fun x1 =>
    (blob_IsPath.f x1.Test).bind fun y1 =>
    bif !y1 then
    (some 5)
    else
    ((blob_IsDigest.f x1.Key).bind fun y2 =>
    bif !y2 then
    (some 3)
    else
    (((trials_within.f x1.At 0 1000000000).bind fun y3 =>
    bif !y3 then (some true) else ((trials_within.f x1.Seconds 0 100000).bind fun y4 =>
    some (!y4))).bind fun t1 =>
    bif t1 then
    (some 1)
    else
    ((bif decide (0<v10) then ((at? a0 (w64 (v10 - 1))).bind fun x2 =>
    some (decide (x1.At<x2.At))) else (some false)).bind fun t2 =>
    bif t2 then
    (some 8)
    else
    ((trials_CheckHistory.l2 e1 k) a0 (w64 (v10+1)))))))
    else
    (e1)
def trials_CheckHistory.f (a0:List TestRun):Option Int :=
  bif decide (3000<(a0.length:Int)) then
  (some 2)
  else
  (trials_CheckHistory.l2 trials_CheckHistory.e1 big a0 0)
def strconv_Itoa.f (a0:Int):Option ByteArray:=guard? (decide (-9223372036854775808≤a0)&&decide (a0≤9223372036854775807)) (some (⟨(Lib.itoa a0).toArray⟩:ByteArray))
def strings_Join.e3 (v_b8:ByteArray):Option ByteArray :=
  some v_b8
def strings_Join.l4 (e3:ByteArray→Option ByteArray):Nat→(List ByteArray)→ByteArray→ByteArray→Int→Option ByteArray
  | 0,_,_,_,_=>none
  | k+1,a0,a1,v_b8,v65 =>
    bif decide (v65<((a0.length - 1:Nat):Int)) then
    ((at? (a0.drop 1) v65).bind fun x3 =>
    guard? (decide (v_b8.size+a1.size≤140737488355328)) (
    guard? (decide ((v_b8++a1).size+x3.size≤140737488355328)) (
    (strings_Join.l4 e3 k) a0 a1 ((v_b8++a1)++x3) (w64 (v65+1)))))
    else
    (e3 v_b8)
def strings_Join.e2 (a0:List ByteArray) (a1:ByteArray) (v_n5:Int):Option ByteArray :=
  guard? (decide ((0:Int)≤v_n5)&&decide (v_n5≤281474976710656)) (
  (at? a0 0).bind fun x2 =>
  guard? (decide ((⟨#[]⟩:ByteArray).size+x2.size≤140737488355328)) (
  guard? (decide ((0:Int)≤1)&&decide (1≤((a0.length:Nat):Int))) (
  strings_Join.l4 strings_Join.e3 big a0 a1 ((⟨#[]⟩:ByteArray)++x2) 0)))
def strings_Join.j6 (backl5:(List ByteArray)→ByteArray→Int→Int→Option ByteArray) (a0:List ByteArray) (a1:ByteArray) (v_n5:Int) (v41:Int) (x4:ByteArray):Option ByteArray :=
  backl5 a0 a1 (w64 (v_n5+(x4.size:Int))) (w64 (v41+1))
def strings_Join.l5 (e2:(List ByteArray)→ByteArray→Int→Option ByteArray):Nat→(List ByteArray)→ByteArray→Int→Int→Option ByteArray
  | 0,_,_,_,_=>none
  | k+1,a0,a1,v_n5,v41 =>
    bif decide (v41<(a0.length:Int)) then
    ((at? a0 v41).bind fun x4 =>
    bif decide ((w64 (9223372036854775807 - v_n5))<(x4.size:Int)) then
    (none)
    else
    (strings_Join.j6 ((strings_Join.l5 e2 k)) a0 a1 v_n5 v41 x4))
    else
    (e2 a0 a1 v_n5)
def strings_Join.j1 (a0:List ByteArray) (a1:ByteArray) (v_n5:Int):Option ByteArray :=
  strings_Join.l5 strings_Join.e2 big a0 a1 v_n5 0
def strings_Join.j7 (j1:(List ByteArray)→ByteArray→Int→Option ByteArray) (a0:List ByteArray) (a1:ByteArray):Option ByteArray :=
  j1 a0 a1 (w64 (0+(w64 ((a1.size:Int)*(w64 ((a0.length:Int) - 1))))))
def strings_Join.f (a0:List ByteArray) (a1:ByteArray):Option ByteArray :=
  bif (a0.length:Int) == 0 then
  (some ({ data:=#[] }:ByteArray))
  else
  (bif (a0.length:Int) == 1 then
  ((at? a0 0).bind fun x1 =>
  some x1)
  else
  (bif decide (0<(a1.size:Int)) then
  (guard? ((w64 ((a0.length:Int) - 1)) != 0) (
  bif decide ((w64 ((9223372036854775807:Int).tdiv (w64 ((a0.length:Int) - 1))))≤(a1.size:Int)) then
  (none)
  else
  (strings_Join.j7 strings_Join.j1 a0 a1)))
  else
  (strings_Join.j1 a0 a1 0)))
def trials_Text.e1 (v_b5:ByteArray):Option (ByteArray × Int) :=
  bif decide (900000<(v_b5.size:Int)) then
  (some (({ data:=#[] }:ByteArray),2))
  else
  (some (v_b5,0))
def trials_Text.j3 (backl2:(List TestRun)→ByteArray→Int→Option (ByteArray × Int)) (a0:List TestRun) (v_b5:ByteArray) (v16:Int) (x1:TestRun) (v_pass8:ByteArray):Option (ByteArray × Int) :=
  (strconv_Itoa.f x1.At).bind fun y2 =>
  (strconv_Itoa.f x1.Seconds).bind fun y3 =>
  (strings_Join.f ([y2,x1.Test,x1.Key,v_pass8,y3]:List ByteArray) ({ data:=#[32] }:ByteArray)).bind fun y4 =>
  guard? (decide (y4.size+({ data:=#[10] }:ByteArray).size≤9223372036854775807)) (
  guard? (decide (v_b5.size+(y4++({ data:=#[10] }:ByteArray)).size≤140737488355328)) (
  backl2 a0 (v_b5++(y4++({ data:=#[10] }:ByteArray))) (w64 (v16+1))))
def trials_Text.l2 (e1:ByteArray→Option (ByteArray × Int)):Nat→(List TestRun)→ByteArray→Int→Option (ByteArray × Int)
  | 0,_,_,_=>none
  | k+1,a0,v_b5,v16 =>
    bif decide (v16<(a0.length:Int)) then
    ((at? a0 v16).bind fun x1 =>
    bif x1.Pass then
    (trials_Text.j3 ((trials_Text.l2 e1 k)) a0 v_b5 v16 x1 ({ data:=#[112,97,115,115] }:ByteArray))
    else
    (trials_Text.j3 ((trials_Text.l2 e1 k)) a0 v_b5 v16 x1 ({ data:=#[102,97,105,108] }:ByteArray)))
    else
    (e1 v_b5)
def trials_Text.f (a0:List TestRun):Option (ByteArray × Int) :=
  (trials_CheckHistory.f a0).bind fun y1 =>
  bif y1 != 0 then
  (some (({ data:=#[] }:ByteArray),y1))
  else
  (trials_Text.l2 trials_Text.e1 big a0 (⟨#[]⟩:ByteArray) 0)
def smithyardref10_within.f (a0:Int) (a1:Int) (a2:Int):Option Bool :=
  (bif decide (a1≤a0) then (some (decide (a0≤a2))) else (some false)).bind fun t1 =>
  some t1
def smithyardref10_isPart.e1 (a0:ByteArray):Option Bool :=
  (bif !sEq a0 ({ data:=#[] }:ByteArray) then (bif !sEq a0 ({ data:=#[46] }:ByteArray) then (some (!sEq a0 ({ data:=#[46,46] }:ByteArray))) else (some false)) else (some false)).bind fun t1 =>
  some t1
def smithyardref10_isPart.l2 (e1:ByteArray→Option Bool):Nat→ByteArray→Int→Option Bool
  | 0,_,_=>none
  | k+1,a0,v7 =>
    bif decide (v7<(a0.size:Int)) then
    (guard? (decide ((0:Int)≤v7)&&decide (v7<(a0.size:Int))) (
    (bif decide ((bt a0 v7)<97) then (bif decide ((bt a0 v7)<65) then (bif decide ((bt a0 v7)<48) then ((strings_IndexByte.f ({ data:=#[46,95,45,43] }:ByteArray) (bt a0 v7)).bind fun y1 =>
    some (decide (y1<0))) else (bif decide (57<(bt a0 v7)) then ((strings_IndexByte.f ({ data:=#[46,95,45,43] }:ByteArray) (bt a0 v7)).bind fun y2 =>
    some (decide (y2<0))) else (some false))) else (bif decide (90<(bt a0 v7)) then (bif decide ((bt a0 v7)<48) then ((strings_IndexByte.f ({ data:=#[46,95,45,43] }:ByteArray) (bt a0 v7)).bind fun y3 =>
    some (decide (y3<0))) else (bif decide (57<(bt a0 v7)) then ((strings_IndexByte.f ({ data:=#[46,95,45,43] }:ByteArray) (bt a0 v7)).bind fun y4 =>
    some (decide (y4<0))) else (some false))) else (some false))) else (bif decide (122<(bt a0 v7)) then (bif decide ((bt a0 v7)<65) then (bif decide ((bt a0 v7)<48) then ((strings_IndexByte.f ({ data:=#[46,95,45,43] }:ByteArray) (bt a0 v7)).bind fun y5 =>
    some (decide (y5<0))) else (bif decide (57<(bt a0 v7)) then ((strings_IndexByte.f ({ data:=#[46,95,45,43] }:ByteArray) (bt a0 v7)).bind fun y6 =>
    some (decide (y6<0))) else (some false))) else (bif decide (90<(bt a0 v7)) then (bif decide ((bt a0 v7)<48) then ((strings_IndexByte.f ({ data:=#[46,95,45,43] }:ByteArray) (bt a0 v7)).bind fun y7 =>
    some (decide (y7<0))) else (bif decide (57<(bt a0 v7)) then ((strings_IndexByte.f ({ data:=#[46,95,45,43] }:ByteArray) (bt a0 v7)).bind fun y8 =>
    some (decide (y8<0))) else (some false))) else (some false))) else (some false))).bind fun t2 =>
    bif t2 then
    (some false)
    else
    ((smithyardref10_isPart.l2 e1 k) a0 (w64 (v7+1)))))
    else
    (e1 a0)
def smithyardref10_isPart.f (a0:ByteArray):Option Bool :=
  smithyardref10_isPart.l2 smithyardref10_isPart.e1 big a0 0
def smithyardref10_isPath.e1 (a0:ByteArray):Option Bool :=
  (smithyardref10_within.f (a0.size:Int) 1 200).bind fun y2 =>
  some y2
def smithyardref10_isPath.l2 (e1:ByteArray→Option Bool):Nat→ByteArray→(List ByteArray)→Int→Option Bool
  | 0,_,_,_=>none
  | k+1,a0,y1,v8 =>
    bif decide (v8<(y1.length:Int)) then
    ((at? y1 v8).bind fun x1 =>
    (smithyardref10_isPart.f x1).bind fun y3 =>
    bif !y3 then
    (some false)
    else
    ((smithyardref10_isPath.l2 e1 k) a0 y1 (w64 (v8+1))))
    else
    (e1 a0)
def smithyardref10_isPath.f (a0:ByteArray):Option Bool :=
  (strings_Split.f a0 ({ data:=#[47] }:ByteArray)).bind fun y1 =>
  smithyardref10_isPath.l2 smithyardref10_isPath.e1 big a0 y1 0
def smithyardref10_isDigest.f (a0:ByteArray):Option Bool :=
  (bif (a0.size:Int) == 16 then ((strings_Trim.f a0 ({ data:=#[48,49,50,51,52,53,54,55,56,57,97,98,99,100,101,102] }:ByteArray)).bind fun y1 =>
  some (sEq y1 ({ data:=#[] }:ByteArray))) else (some false)).bind fun t1 =>
  some t1
def smithyardref10_CheckHistory.e1 :Option Int :=
  some 0
def smithyardref10_CheckHistory.l2 (e1:Option Int):Nat→(List TestRun)→Int→Option Int
  | 0,_,_=>none
  | k+1,a0,v10 =>
    bif decide (v10<(a0.length:Int)) then
    ((at? a0 v10).bind fun x1 =>
    (smithyardref10_isPath.f x1.Test).bind fun y1 =>
    bif !y1 then
    (some 5)
    else
    ((smithyardref10_isDigest.f x1.Key).bind fun y2 =>
    bif !y2 then
    (some 3)
    else
    (((smithyardref10_within.f x1.At 0 1000000000).bind fun y3 =>
    bif !y3 then (some true) else ((smithyardref10_within.f x1.Seconds 0 100000).bind fun y4 =>
    some (!y4))).bind fun t1 =>
    bif t1 then
    (some 1)
    else
    ((bif decide (0<v10) then ((at? a0 (w64 (v10 - 1))).bind fun x2 =>
    some (decide (x1.At<x2.At))) else (some false)).bind fun t2 =>
    bif t2 then
    (some 8)
    else
    ((smithyardref10_CheckHistory.l2 e1 k) a0 (w64 (v10+1)))))))
    else
    (e1)
def smithyardref10_CheckHistory.f (a0:List TestRun):Option Int :=
  bif decide (3000<(a0.length:Int)) then
  (some 2)
  else
  (smithyardref10_CheckHistory.l2 smithyardref10_CheckHistory.e1 big a0 0)
def smithyardref10_passText.f (a0:Bool):Option ByteArray :=
  bif a0 then
  (some ({ data:=#[112,97,115,115] }:ByteArray))
  else
  (some ({ data:=#[102,97,105,108] }:ByteArray))
def smithyardref10_Text.e1 (v_out5:ByteArray):Option (ByteArray × Int) :=
  bif decide (900000<(v_out5.size:Int)) then
  (some (({ data:=#[] }:ByteArray),2))
  else
  (some (v_out5,0))
def smithyardref10_Text.l2 (e1:ByteArray→Option (ByteArray × Int)):Nat→(List TestRun)→ByteArray→Int→Option (ByteArray × Int)
  | 0,_,_,_=>none
  | k+1,a0,v_out5,v15 =>
    bif decide (v15<(a0.length:Int)) then
    ((at? a0 v15).bind fun x1 =>
    (strconv_Itoa.f x1.At).bind fun y2 =>
    (smithyardref10_passText.f x1.Pass).bind fun y3 =>
    (strconv_Itoa.f x1.Seconds).bind fun y4 =>
    (strings_Join.f ([y2,x1.Test,x1.Key,y3,y4]:List ByteArray) ({ data:=#[32] }:ByteArray)).bind fun y5 =>
    guard? (decide (y5.size+({ data:=#[10] }:ByteArray).size≤9223372036854775807)) (
    guard? (decide (v_out5.size+(y5++({ data:=#[10] }:ByteArray)).size≤9223372036854775807)) (
    (smithyardref10_Text.l2 e1 k) a0 (v_out5++(y5++({ data:=#[10] }:ByteArray))) (w64 (v15+1)))))
    else
    (e1 v_out5)
def smithyardref10_Text.f (a0:List TestRun):Option (ByteArray × Int) :=
  (smithyardref10_CheckHistory.f a0).bind fun y1 =>
  bif y1 != 0 then
  (some (({ data:=#[] }:ByteArray),y1))
  else
  (smithyardref10_Text.l2 smithyardref10_Text.e1 big a0 ({ data:=#[] }:ByteArray) 0)
def slices_Equal_TestRun.e1 :Option Bool :=
  some true
def slices_Equal_TestRun.l2 (e1:Option Bool):Nat→(List TestRun)→(List TestRun)→Int→Option Bool
  | 0,_,_,_=>none
  | k+1,a0,a1,v13 =>
    bif decide (v13<(a0.length:Int)) then
    ((at? a0 v13).bind fun x1 =>
    (at? a1 v13).bind fun x2 =>
    bif !(sEq x1.Test x2.Test&&(sEq x1.Key x2.Key&&(x1.At == x2.At&&(x1.Pass == x2.Pass&&(x1.Seconds == x2.Seconds&&true))))) then
    (some false)
    else
    ((slices_Equal_TestRun.l2 e1 k) a0 a1 (w64 (v13+1))))
    else
    (e1)
def slices_Equal_TestRun.f (a0:List TestRun) (a1:List TestRun):Option Bool :=
  bif (a0.length:Int) != (a1.length:Int) then
  (some false)
  else
  (slices_Equal_TestRun.l2 slices_Equal_TestRun.e1 big a0 a1 0)
def trials_Tried.e1 (a0:Int):Option (Int × Int × Int) :=
  some (3,a0,0)
def trials_Tried.j3 (backl2:Int→Int→(List Bool)→Int→Int→Option (Int × Int × Int)) (a0:Int) (a1:Int) (a2:List Bool) (v28:Int) (v_passed9:Int):Option (Int × Int × Int) :=
  (bif v_passed9 == a1 then (some ((w64 (v28+1)) == a1)) else (some false)).bind fun t2 =>
  bif t2 then
  (some (2,w64 (v28+1),0))
  else
  (bif v_passed9 == a1 then
  (some (4,w64 (v28+1),0))
  else
  (bif decide ((w64 ((w64 (v_passed9+a0)) - (w64 (v28+1))))<a1) then
  (some (3,w64 (v28+1),0))
  else
  (backl2 a0 a1 a2 v_passed9 (w64 (v28+1)))))
def trials_Tried.l2 (e1:Int→Option (Int × Int × Int)):Nat→Int→Int→(List Bool)→Int→Int→Option (Int × Int × Int)
  | 0,_,_,_,_,_=>none
  | k+1,a0,a1,a2,v_passed9,v28 =>
    bif decide (v28<(a2.length:Int)) then
    ((at? a2 v28).bind fun x1 =>
    bif x1 then
    (trials_Tried.j3 ((trials_Tried.l2 e1 k)) a0 a1 a2 v28 (w64 (v_passed9+1)))
    else
    (trials_Tried.j3 ((trials_Tried.l2 e1 k)) a0 a1 a2 v28 v_passed9))
    else
    (e1 a0)
def trials_Tried.f (a0:Int) (a1:Int) (a2:List Bool):Option (Int × Int × Int) :=
  ((trials_within.f a0 1 100).bind fun y1 =>
  bif !y1 then (some true) else ((trials_within.f a1 1 a0).bind fun y2 =>
  some (!y2))).bind fun t1 =>
  bif t1 then
  (some (0,0,1))
  else
  (bif (a2.length:Int) != a0 then
  (some (0,0,3))
  else
  (trials_Tried.l2 trials_Tried.e1 big a0 a1 a2 0 0))
def smithyardlaw10_awake.f :Option Bool :=
  (trials_Tried.f 3 1 ([false,true,true]:List Bool)).bind fun y1 =>
  (bif y1.2.2 == 0 then (bif y1.1 == 4 then (some (y1.2.1 == 2)) else (some false)) else (some false)).bind fun t1 =>
  some t1
def stringslite_Index.f (a0 a1:ByteArray):Option Int:=guard? (decide (a1.data.toList.length=1)) (some (Lib.indexByte a0.data.toList (a1.data.toList.headD 0)))
def stringslite_Cut.f (a0:ByteArray) (a1:ByteArray):Option (ByteArray × ByteArray × Bool) :=
  (stringslite_Index.f a0 a1).bind fun y1 =>
  bif decide (0≤y1) then
  (guard? (decide ((0:Int)≤y1)&&decide (y1≤(a0.size:Int))) (
  guard? (decide ((0:Int)≤(w64 (y1+(a1.size:Int))))&&decide ((w64 (y1+(a1.size:Int)))≤(a0.size:Int))) (
  some (a0.extract 0 y1.toNat,a0.extract (w64 (y1+(a1.size:Int))).toNat a0.size,true))))
  else
  (some (a0,({ data:=#[] }:ByteArray),false))
def strings_Cut.f (a0:ByteArray) (a1:ByteArray):Option (ByteArray × ByteArray × Bool) :=
  (stringslite_Cut.f a0 a1).bind fun y1 =>
  some (y1.1,y1.2.1,y1.2.2)
def strings_ContainsFunc.f (a0:ByteArray):Option Bool:=some (a0.data.toList.any (fun b=>decide ((b.toNat:Int)<33)||decide (126<(b.toNat:Int))))
def trials_isWord.f (a0:ByteArray):Option Bool :=
  (bif !sEq a0 ({ data:=#[] }:ByteArray) then ((strings_ContainsFunc.f a0).bind fun y1 =>
  some (!y1)) else (some false)).bind fun t1 =>
  some t1
def trials_readRun_1.f (a0:ByteArray):Option Bool :=
  (trials_isWord.f a0).bind fun y1 =>
  some (!y1)
def slices_IndexFunc_string.e1 :Option Int :=
  some (-1)
def slices_IndexFunc_string.l2 (e1:Option Int):Nat→(List ByteArray)→Int→Option Int
  | 0,_,_=>none
  | k+1,a0,v8 =>
    bif decide (v8<(a0.length:Int)) then
    ((at? a0 v8).bind fun x1 =>
    (trials_readRun_1.f x1).bind fun y1 =>
    bif y1 then
    (some v8)
    else
    ((slices_IndexFunc_string.l2 e1 k) a0 (w64 (v8+1))))
    else
    (e1)
def slices_IndexFunc_string.f (a0:List ByteArray):Option Int :=
  slices_IndexFunc_string.l2 slices_IndexFunc_string.e1 big a0 0
def slices_ContainsFunc_string.f (a0:List ByteArray):Option Bool :=
  (slices_IndexFunc_string.f a0).bind fun y1 =>
  some (decide (0≤y1))
def strconv_Atoi.f (a0:ByteArray):Option Int:=guard? (decide (a0.size≤18)) (Lib.atoi a0.data.toList)
def trials_number.f (a0:ByteArray):Option (Int × Bool) :=
  (bif decide ((a0.size:Int)<1) then (some true) else (bif decide (10<(a0.size:Int)) then (some true) else ((strings_Trim.f a0 ({ data:=#[48,49,50,51,52,53,54,55,56,57] }:ByteArray)).bind fun y1 =>
  bif !sEq y1 ({ data:=#[] }:ByteArray) then (some true) else (guard? (decide ((0:Int)≤0)&&decide (0<(a0.size:Int))) (
  bif (bt a0 0) == 48 then (some (!sEq a0 ({ data:=#[48] }:ByteArray))) else (some false)))))).bind fun t1 =>
  bif t1 then
  (some (0,false))
  else
  ((strconv_Atoi.f a0).bind fun y2 =>
  some (y2,true))
def trials_readRun.f (a0:ByteArray):Option (TestRun × Bool) :=
  (strings_Split.f a0 ({ data:=#[32] }:ByteArray)).bind fun y1 =>
  (bif (y1.length:Int) != 5 then (some true) else ((slices_ContainsFunc_string.f y1).bind fun y2 =>
  bif y2 then (some true) else ((at? y1 3).bind fun x1 =>
  bif !sEq x1 ({ data:=#[112,97,115,115] }:ByteArray) then (some (!sEq x1 ({ data:=#[102,97,105,108] }:ByteArray))) else (some false)))).bind fun t1 =>
  bif t1 then
  (some ((⟨ByteArray.empty,ByteArray.empty,0,false,0⟩:TestRun),false))
  else
  ((at? y1 0).bind fun x2 =>
  (trials_number.f x2).bind fun y3 =>
  (at? y1 4).bind fun x3 =>
  (trials_number.f x3).bind fun y4 =>
  ((at? y1 1).bind fun x4 =>
  (at? y1 2).bind fun x5 =>
  (at? y1 3).bind fun x6 =>
  bif y3.2 then (some (x4,x5,(sEq x6 ({ data:=#[112,97,115,115] }:ByteArray)),y4.2)) else (some (x4,x5,(sEq x6 ({ data:=#[112,97,115,115] }:ByteArray)),false))).bind fun t2 =>
  some ((⟨t2.1,t2.2.1,y3.1,t2.2.2.1,y4.1⟩:TestRun),t2.2.2.2))
def trials_Read.e1 (v_out5:List TestRun):Option ((List TestRun) × Int × Int) :=
  (trials_CheckHistory.f v_out5).bind fun y1 =>
  bif y1 != 0 then
  (some (([]:List TestRun),0,y1))
  else
  (some (v_out5,0,0))
def trials_Read.l2 (e1:(List TestRun)→Option ((List TestRun) × Int × Int)):Nat→ByteArray→(List TestRun)→Int→Option ((List TestRun) × Int × Int)
  | 0,_,_,_=>none
  | k+1,v_text0,v_out5,v_n6 =>
    bif !sEq v_text0 ({ data:=#[] }:ByteArray) then
    ((strings_Cut.f v_text0 ({ data:=#[10] }:ByteArray)).bind fun y2 =>
    (trials_readRun.f y2.1).bind fun y3 =>
    (bif !y2.2.2 then (some true) else (some (!y3.2))).bind fun t1 =>
    bif t1 then
    (some (([]:List TestRun),v_n6,10))
    else
    (guard? (room v_out5.length 1 56) (
    (trials_Read.l2 e1 k) y2.2.1 (v_out5++([y3.1]:List TestRun)) (w64 (v_n6+1)))))
    else
    (e1 v_out5)
def trials_Read.f (a0:ByteArray):Option ((List TestRun) × Int × Int) :=
  bif decide (900000<(a0.size:Int)) then
  (some (([]:List TestRun),0,2))
  else
  (trials_Read.l2 trials_Read.e1 big a0 ([]:List TestRun) 1)
def smithyardlaw10_TrialsTextsMatchSpec.f (a0:List TestRun):Option Bool :=
  (slices_Clone_TestRun.f a0).bind fun y1 =>
  (trials_Text.f a0).bind fun y2 =>
  (smithyardref10_Text.f y1).bind fun y3 =>
  (bif y2.2 != y3.2 then (some true) else (bif !sEq y2.1 y3.1 then (some true) else ((slices_Equal_TestRun.f a0 y1).bind fun y4 =>
  bif !y4 then (some true) else ((smithyardlaw10_awake.f).bind fun y5 =>
  some (!y5))))).bind fun t1 =>
  bif t1 then
  (some false)
  else
  (bif y2.2 != 0 then
  (some true)
  else
  ((trials_Read.f y2.1).bind fun y6 =>
  (bif y6.2.2 == 0 then (bif y6.2.1 == 0 then ((slices_Equal_TestRun.f a0 y6.1).bind fun y7 =>
  some y7) else (some false)) else (some false)).bind fun t2 =>
  some t2))
end Go.Proofs.YtamacaieccppaaaGreatDoor
