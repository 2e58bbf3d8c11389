/- Plain functions, each written by program out of one Go function's operations. -/
import Derived.Test.YtacmmbpamfefbaaDoorKitP
import Derived.Lib.SlTrimSet
import Derived.Lib.SplitLaws
import Derived.Lib.SlicesCompact
import Derived.Lib.Bytealg
set_option linter.unusedVariables false
namespace Go.Proofs.YtacmmbpamfefbaaDoor
open Go Go.Proofs.YtacmmbpamfefbaaDoor.Kit
structure TestRun where
  Test:ByteArray
  Key:ByteArray
  At:Int
  Pass:Bool
  Seconds:Int
  deriving Inhabited,DecidableEq
structure trials_id where
  test:ByteArray
  key:ByteArray
  deriving Inhabited,DecidableEq
structure trials_tally where
  passed:Int
  failed:Int
  deriving Inhabited,DecidableEq
structure Part where
  Num:Int
  Den:Int
  deriving Inhabited,DecidableEq
def slices_Clone_TestRun.f (a0:List TestRun):Option (List TestRun):=guard? (room 0 a0.length 56) (some a0)
def strings_Split.f (a0 a1:ByteArray):Option (List ByteArray):=guard? (decide (a0.size<4294967281)&&decide (1≤a1.size)) (some (Lib.splitB a1 0 (Lib.countB a0 a1) a0))
def strings_IndexByte.f (a0:ByteArray) (a1:Int):Option Int:=some (Lib.indexByte a0.data.toList a1.toNat.toUInt8)
def blob_inPart.f (a0:Int):Option Bool :=
  (bif decide (97≤a0) then (bif decide (a0≤122) then (some true) else (bif decide (65≤a0) then (bif decide (a0≤90) then (some true) else (bif decide (48≤a0) then (bif decide (a0≤57) then (some true) else ((strings_IndexByte.f ({ data:=#[46,95,45,43] }:ByteArray) a0).bind fun y1 =>
  some (decide (0≤y1)))) else ((strings_IndexByte.f ({ data:=#[46,95,45,43] }:ByteArray) a0).bind fun y2 =>
  some (decide (0≤y2))))) else (bif decide (48≤a0) then (bif decide (a0≤57) then (some true) else ((strings_IndexByte.f ({ data:=#[46,95,45,43] }:ByteArray) a0).bind fun y3 =>
  some (decide (0≤y3)))) else ((strings_IndexByte.f ({ data:=#[46,95,45,43] }:ByteArray) a0).bind fun y4 =>
  some (decide (0≤y4)))))) else (bif decide (65≤a0) then (bif decide (a0≤90) then (some true) else (bif decide (48≤a0) then (bif decide (a0≤57) then (some true) else ((strings_IndexByte.f ({ data:=#[46,95,45,43] }:ByteArray) a0).bind fun y5 =>
  some (decide (0≤y5)))) else ((strings_IndexByte.f ({ data:=#[46,95,45,43] }:ByteArray) a0).bind fun y6 =>
  some (decide (0≤y6))))) else (bif decide (48≤a0) then (bif decide (a0≤57) then (some true) else ((strings_IndexByte.f ({ data:=#[46,95,45,43] }:ByteArray) a0).bind fun y7 =>
  some (decide (0≤y7)))) else ((strings_IndexByte.f ({ data:=#[46,95,45,43] }:ByteArray) a0).bind fun y8 =>
  some (decide (0≤y8)))))).bind fun t1 =>
  some t1
def blob_isPart.e1 (a0:ByteArray):Option Bool :=
  (bif !sEq a0 ({ data:=#[] }:ByteArray) then (bif !sEq a0 ({ data:=#[46] }:ByteArray) then (some (!sEq a0 ({ data:=#[46,46] }:ByteArray))) else (some false)) else (some false)).bind fun t1 =>
  some t1
def blob_isPart.l2 (e1:ByteArray→Option Bool):Nat→ByteArray→Int→Option Bool
  | 0,_,_=>none
  | k+1,a0,v6 =>
    bif decide (v6<(a0.size:Int)) then
    (guard? (decide ((0:Int)≤v6)&&decide (v6<(a0.size:Int))) (
    (blob_inPart.f (bt a0 v6)).bind fun y1 =>
    bif !y1 then
    (some false)
    else
    ((blob_isPart.l2 e1 k) a0 (w64 (v6+1)))))
    else
    (e1 a0)
def blob_isPart.f (a0:ByteArray):Option Bool :=
  blob_isPart.l2 blob_isPart.e1 big a0 0
def blob_IsPath.e1 :Option Bool :=
  some true
def blob_IsPath.l2 (e1:Option Bool):Nat→(List ByteArray)→Int→Option Bool
  | 0,_,_=>none
  | k+1,y1,v16 =>
    bif decide (v16<(y1.length:Int)) then
    ((at? y1 v16).bind fun x1 =>
    (blob_isPart.f x1).bind fun y2 =>
    bif !y2 then
    (some false)
    else
    ((blob_IsPath.l2 e1 k) y1 (w64 (v16+1))))
    else
    (e1)
def blob_IsPath.f (a0:ByteArray):Option Bool :=
  (bif decide ((a0.size:Int)<1) then (some true) else (some (decide (200<(a0.size:Int))))).bind fun t1 =>
  bif t1 then
  (some false)
  else
  ((strings_Split.f a0 ({ data:=#[47] }:ByteArray)).bind fun y1 =>
  blob_IsPath.l2 blob_IsPath.e1 big y1 0)
def strings_Trim.f (a0:ByteArray) (a1:ByteArray):Option ByteArray:=guard? (decide (a0.size≤9223372036854775807)&&(decide (a1.size<4294967281)&&a1.data.toList.all (fun b=>decide (b.toNat<128)))) (some (⟨(Lib.trimS a0.data.toList a1.data.toList).toArray⟩))
def blob_IsDigest.f (a0:ByteArray):Option Bool :=
  (bif (a0.size:Int) == 16 then ((strings_Trim.f a0 ({ data:=#[48,49,50,51,52,53,54,55,56,57,97,98,99,100,101,102] }:ByteArray)).bind fun y1 =>
  some (sEq y1 ({ data:=#[] }:ByteArray))) else (some false)).bind fun t1 =>
  some t1
def trials_within.f (a0:Int) (a1:Int) (a2:Int):Option Bool :=
  (bif decide (a1≤a0) then (some (decide (a0≤a2))) else (some false)).bind fun t1 =>
  some t1
def trials_CheckHistory.e1 :Option Int :=
  some 0
def trials_CheckHistory.l2 (e1:Option Int):Nat→(List TestRun)→Int→Option Int
  | 0,_,_=>none
  | k+1,a0,v10 =>
    bif decide (v10<(a0.length:Int)) then
    ((at? a0 v10).bind fun x1 =>
    (blob_IsPath.f x1.Test).bind fun y1 =>
    bif !y1 then
    (some 5)
    else
    ((blob_IsDigest.f x1.Key).bind fun y2 =>
    bif !y2 then
    (some 3)
    else
    (((trials_within.f x1.At 0 1000000000).bind fun y3 =>
    bif !y3 then (some true) else ((trials_within.f x1.Seconds 0 100000).bind fun y4 =>
    some (!y4))).bind fun t1 =>
    bif t1 then
    (some 1)
    else
    ((bif decide (0<v10) then ((at? a0 (w64 (v10 - 1))).bind fun x2 =>
    some (decide (x1.At<x2.At))) else (some false)).bind fun t2 =>
    bif t2 then
    (some 8)
    else
    ((trials_CheckHistory.l2 e1 k) a0 (w64 (v10+1)))))))
    else
    (e1)
def trials_CheckHistory.f (a0:List TestRun):Option Int :=
  bif decide (3000<(a0.length:Int)) then
  (some 2)
  else
  (trials_CheckHistory.l2 trials_CheckHistory.e1 big a0 0)
def trials_tallies.e1 (v_out3:List (trials_id × trials_tally)):Option (List (trials_id × trials_tally)) :=
  some v_out3
def trials_tallies.j3 (backl2:(List TestRun)→(List (trials_id × trials_tally))→Int→Option (List (trials_id × trials_tally))) (a0:List TestRun) (v_out3:List (trials_id × trials_tally)) (v10:Int) (x1:TestRun) (v_t6_0:Int) (v_t6_1:Int):Option (List (trials_id × trials_tally)) :=
  backl2 a0 (mput v_out3 (⟨x1.Test,x1.Key⟩:trials_id) (⟨v_t6_0,v_t6_1⟩:trials_tally)) (w64 (v10+1))
def trials_tallies.l2 (e1:(List (trials_id × trials_tally))→Option (List (trials_id × trials_tally))):Nat→(List TestRun)→(List (trials_id × trials_tally))→Int→Option (List (trials_id × trials_tally))
  | 0,_,_,_=>none
  | k+1,a0,v_out3,v10 =>
    bif decide (v10<(a0.length:Int)) then
    ((at? a0 v10).bind fun x1 =>
    (some (mgetD v_out3 (⟨x1.Test,x1.Key⟩:trials_id) (⟨0,0⟩:trials_tally))).bind fun x2 =>
    bif x1.Pass then
    (trials_tallies.j3 ((trials_tallies.l2 e1 k)) a0 v_out3 v10 x1 (w64 (x2.passed+1)) x2.failed)
    else
    (trials_tallies.j3 ((trials_tallies.l2 e1 k)) a0 v_out3 v10 x1 x2.passed (w64 (x2.failed+1))))
    else
    (e1 v_out3)
def trials_tallies.f (a0:List TestRun):Option (List (trials_id × trials_tally)) :=
  trials_tallies.l2 trials_tallies.e1 big a0 ([]:List (trials_id × trials_tally)) 0
def trials_tally_verdict.f (a0:trials_tally):Option Int :=
  bif (w64 (a0.passed+a0.failed)) == 0 then
  (some 1)
  else
  (bif a0.failed == 0 then
  (some 2)
  else
  (bif a0.passed == 0 then
  (some 3)
  else
  (some 4)))
def trials_Flaky.e1 (v_is5:List (ByteArray × Bool)):Option ((List ByteArray) × Int) :=
  (keysB v_is5).bind fun y3 =>
  some (y3,0)
def trials_Flaky.l2 (e1:(List (ByteArray × Bool))→Option ((List ByteArray) × Int)):Nat→(List (trials_id × trials_tally))→(List (ByteArray × Bool))→(List (trials_id × trials_tally))→Option ((List ByteArray) × Int)
  | 0,_,_,_=>none
  | k+1,y2,v_is5,v16 =>
    rangeAll v16
    (e1 v_is5)
    (fun q1 lv1 =>
    (trials_tally_verdict.f q1.2).bind fun y4 =>
    bif y4 == 4 then
    ((trials_Flaky.l2 e1 k) y2 (mput v_is5 q1.1.test true) lv1)
    else
    ((trials_Flaky.l2 e1 k) y2 v_is5 lv1))
def trials_Flaky.f (a0:List TestRun):Option ((List ByteArray) × Int) :=
  (trials_CheckHistory.f a0).bind fun y1 =>
  bif y1 != 0 then
  (some (([]:List ByteArray),y1))
  else
  ((trials_tallies.f a0).bind fun y2 =>
  trials_Flaky.l2 trials_Flaky.e1 big y2 ([]:List (ByteArray × Bool)) y2)
def smithyardref10_within.f (a0:Int) (a1:Int) (a2:Int):Option Bool :=
  (bif decide (a1≤a0) then (some (decide (a0≤a2))) else (some false)).bind fun t1 =>
  some t1
def smithyardref10_isPart.e1 (a0:ByteArray):Option Bool :=
  (bif !sEq a0 ({ data:=#[] }:ByteArray) then (bif !sEq a0 ({ data:=#[46] }:ByteArray) then (some (!sEq a0 ({ data:=#[46,46] }:ByteArray))) else (some false)) else (some false)).bind fun t1 =>
  some t1
def smithyardref10_isPart.l2 (e1:ByteArray→Option Bool):Nat→ByteArray→Int→Option Bool
  | 0,_,_=>none
  | k+1,a0,v7 =>
    bif decide (v7<(a0.size:Int)) then
    (guard? (decide ((0:Int)≤v7)&&decide (v7<(a0.size:Int))) (
    (bif decide ((bt a0 v7)<97) then (bif decide ((bt a0 v7)<65) then (bif decide ((bt a0 v7)<48) then ((strings_IndexByte.f ({ data:=#[46,95,45,43] }:ByteArray) (bt a0 v7)).bind fun y1 =>
    some (decide (y1<0))) else (bif decide (57<(bt a0 v7)) then ((strings_IndexByte.f ({ data:=#[46,95,45,43] }:ByteArray) (bt a0 v7)).bind fun y2 =>
    some (decide (y2<0))) else (some false))) else (bif decide (90<(bt a0 v7)) then (bif decide ((bt a0 v7)<48) then ((strings_IndexByte.f ({ data:=#[46,95,45,43] }:ByteArray) (bt a0 v7)).bind fun y3 =>
    some (decide (y3<0))) else (bif decide (57<(bt a0 v7)) then ((strings_IndexByte.f ({ data:=#[46,95,45,43] }:ByteArray) (bt a0 v7)).bind fun y4 =>
    some (decide (y4<0))) else (some false))) else (some false))) else (bif decide (122<(bt a0 v7)) then (bif decide ((bt a0 v7)<65) then (bif decide ((bt a0 v7)<48) then ((strings_IndexByte.f ({ data:=#[46,95,45,43] }:ByteArray) (bt a0 v7)).bind fun y5 =>
    some (decide (y5<0))) else (bif decide (57<(bt a0 v7)) then ((strings_IndexByte.f ({ data:=#[46,95,45,43] }:ByteArray) (bt a0 v7)).bind fun y6 =>
    some (decide (y6<0))) else (some false))) else (bif decide (90<(bt a0 v7)) then (bif decide ((bt a0 v7)<48) then ((strings_IndexByte.f ({ data:=#[46,95,45,43] }:ByteArray) (bt a0 v7)).bind fun y7 =>
    some (decide (y7<0))) else (bif decide (57<(bt a0 v7)) then ((strings_IndexByte.f ({ data:=#[46,95,45,43] }:ByteArray) (bt a0 v7)).bind fun y8 =>
    some (decide (y8<0))) else (some false))) else (some false))) else (some false))).bind fun t2 =>
    bif t2 then
    (some false)
    else
    ((smithyardref10_isPart.l2 e1 k) a0 (w64 (v7+1)))))
    else
    (e1 a0)
def smithyardref10_isPart.f (a0:ByteArray):Option Bool :=
  smithyardref10_isPart.l2 smithyardref10_isPart.e1 big a0 0
def smithyardref10_isPath.e1 (a0:ByteArray):Option Bool :=
  (smithyardref10_within.f (a0.size:Int) 1 200).bind fun y2 =>
  some y2
def smithyardref10_isPath.l2 (e1:ByteArray→Option Bool):Nat→ByteArray→(List ByteArray)→Int→Option Bool
  | 0,_,_,_=>none
  | k+1,a0,y1,v8 =>
    bif decide (v8<(y1.length:Int)) then
    ((at? y1 v8).bind fun x1 =>
    (smithyardref10_isPart.f x1).bind fun y3 =>
    bif !y3 then
    (some false)
    else
    ((smithyardref10_isPath.l2 e1 k) a0 y1 (w64 (v8+1))))
    else
    (e1 a0)
def smithyardref10_isPath.f (a0:ByteArray):Option Bool :=
  (strings_Split.f a0 ({ data:=#[47] }:ByteArray)).bind fun y1 =>
  smithyardref10_isPath.l2 smithyardref10_isPath.e1 big a0 y1 0
def smithyardref10_isDigest.f (a0:ByteArray):Option Bool :=
  (bif (a0.size:Int) == 16 then ((strings_Trim.f a0 ({ data:=#[48,49,50,51,52,53,54,55,56,57,97,98,99,100,101,102] }:ByteArray)).bind fun y1 =>
  some (sEq y1 ({ data:=#[] }:ByteArray))) else (some false)).bind fun t1 =>
  some t1
def smithyardref10_CheckHistory.e1 :Option Int :=
  some 0
def smithyardref10_CheckHistory.l2 (e1:Option Int):Nat→(List TestRun)→Int→Option Int
  | 0,_,_=>none
  | k+1,a0,v10 =>
    bif decide (v10<(a0.length:Int)) then
    ((at? a0 v10).bind fun x1 =>
    (smithyardref10_isPath.f x1.Test).bind fun y1 =>
    bif !y1 then
    (some 5)
    else
    ((smithyardref10_isDigest.f x1.Key).bind fun y2 =>
    bif !y2 then
    (some 3)
    else
    (((smithyardref10_within.f x1.At 0 1000000000).bind fun y3 =>
    bif !y3 then (some true) else ((smithyardref10_within.f x1.Seconds 0 100000).bind fun y4 =>
    some (!y4))).bind fun t1 =>
    bif t1 then
    (some 1)
    else
    ((bif decide (0<v10) then ((at? a0 (w64 (v10 - 1))).bind fun x2 =>
    some (decide (x1.At<x2.At))) else (some false)).bind fun t2 =>
    bif t2 then
    (some 8)
    else
    ((smithyardref10_CheckHistory.l2 e1 k) a0 (w64 (v10+1)))))))
    else
    (e1)
def smithyardref10_CheckHistory.f (a0:List TestRun):Option Int :=
  bif decide (3000<(a0.length:Int)) then
  (some 2)
  else
  (smithyardref10_CheckHistory.l2 smithyardref10_CheckHistory.e1 big a0 0)
def slices_Sort_string.f (a0:List ByteArray):Option (List ByteArray):=guard? (decide (a0.length<4611686018427387904)) (some (((a0.map (fun s=>s.data.toList)).mergeSort fun x y=>decide (x≤y)).map fun l=>(⟨l.toArray⟩:ByteArray)))
def slices_Compact_string.f (a0:List ByteArray):Option (List ByteArray):=guard? (decide (a0.length<4611686018427387904)) (some ((Lib.compact (a0.map (fun s=>s.data.toList))).map fun l=>(⟨l.toArray⟩:ByteArray)))
def smithyardref10_verdict.e1 (v_good7:Bool) (v_bad8:Bool):Option Int :=
  (bif v_good7 then (some v_bad8) else (some false)).bind fun t1 =>
  bif t1 then
  (some 4)
  else
  (bif v_good7 then
  (some 2)
  else
  (bif v_bad8 then
  (some 3)
  else
  (some 1)))
def smithyardref10_verdict.j3 (backl2:(List TestRun)→ByteArray→ByteArray→Bool→Bool→Int→Option Int) (a0:List TestRun) (a1:ByteArray) (a2:ByteArray) (v13:Int) (v_good7:Bool) (v_bad8:Bool):Option Int :=
  backl2 a0 a1 a2 v_good7 v_bad8 (w64 (v13+1))
def smithyardref10_verdict.l2 (e1:Bool→Bool→Option Int):Nat→(List TestRun)→ByteArray→ByteArray→Bool→Bool→Int→Option Int
  | 0,_,_,_,_,_,_=>none
  | k+1,a0,a1,a2,v_good7,v_bad8,v13 =>
    bif decide (v13<(a0.length:Int)) then
    ((at? a0 v13).bind fun x1 =>
    (bif sEq x1.Test a1 then (some (sEq x1.Key a2)) else (some false)).bind fun t2 =>
    bif t2 then
    ((bif v_good7 then (bif v_bad8 then (some (true,true)) else (some (true,(!x1.Pass)))) else (bif v_bad8 then (some (x1.Pass,true)) else (some (x1.Pass,(!x1.Pass))))).bind fun t3 =>
    smithyardref10_verdict.j3 ((smithyardref10_verdict.l2 e1 k)) a0 a1 a2 v13 t3.1 t3.2)
    else
    (smithyardref10_verdict.j3 ((smithyardref10_verdict.l2 e1 k)) a0 a1 a2 v13 v_good7 v_bad8))
    else
    (e1 v_good7 v_bad8)
def smithyardref10_verdict.f (a0:List TestRun) (a1:ByteArray) (a2:ByteArray):Option Int :=
  smithyardref10_verdict.l2 smithyardref10_verdict.e1 big a0 a1 a2 false false 0
def smithyardref10_Flaky.e1 (v_out5:List ByteArray):Option ((List ByteArray) × Int) :=
  (slices_Sort_string.f v_out5).bind fun y2 =>
  (slices_Compact_string.f y2).bind fun y3 =>
  some (y3,0)
def smithyardref10_Flaky.j3 (backl2:(List TestRun)→(List ByteArray)→Int→Option ((List ByteArray) × Int)) (a0:List TestRun) (v15:Int) (v_out5:List ByteArray):Option ((List ByteArray) × Int) :=
  backl2 a0 v_out5 (w64 (v15+1))
def smithyardref10_Flaky.l2 (e1:(List ByteArray)→Option ((List ByteArray) × Int)):Nat→(List TestRun)→(List ByteArray)→Int→Option ((List ByteArray) × Int)
  | 0,_,_,_=>none
  | k+1,a0,v_out5,v15 =>
    bif decide (v15<(a0.length:Int)) then
    ((at? a0 v15).bind fun x1 =>
    (smithyardref10_verdict.f a0 x1.Test x1.Key).bind fun y4 =>
    bif y4 == 4 then
    (guard? (room v_out5.length 1 16) (
    smithyardref10_Flaky.j3 ((smithyardref10_Flaky.l2 e1 k)) a0 v15 (v_out5++([x1.Test]:List ByteArray))))
    else
    (smithyardref10_Flaky.j3 ((smithyardref10_Flaky.l2 e1 k)) a0 v15 v_out5))
    else
    (e1 v_out5)
def smithyardref10_Flaky.f (a0:List TestRun):Option ((List ByteArray) × Int) :=
  (smithyardref10_CheckHistory.f a0).bind fun y1 =>
  bif y1 != 0 then
  (some (([]:List ByteArray),y1))
  else
  (smithyardref10_Flaky.l2 smithyardref10_Flaky.e1 big a0 ([]:List ByteArray) 0)
def slices_Equal_string.e1 :Option Bool :=
  some true
def slices_Equal_string.l2 (e1:Option Bool):Nat→(List ByteArray)→(List ByteArray)→Int→Option Bool
  | 0,_,_,_=>none
  | k+1,a0,a1,v13 =>
    bif decide (v13<(a0.length:Int)) then
    ((at? a0 v13).bind fun x1 =>
    (at? a1 v13).bind fun x2 =>
    bif !sEq x1 x2 then
    (some false)
    else
    ((slices_Equal_string.l2 e1 k) a0 a1 (w64 (v13+1))))
    else
    (e1)
def slices_Equal_string.f (a0:List ByteArray) (a1:List ByteArray):Option Bool :=
  bif (a0.length:Int) != (a1.length:Int) then
  (some false)
  else
  (slices_Equal_string.l2 slices_Equal_string.e1 big a0 a1 0)
def trials_lowest.e1 (a0:Int) (a1:Int) (v_a5:Int):Option Part :=
  guard? (v_a5 != 0) (
  guard? (v_a5 != 0) (
  some (⟨w64 (a0.tdiv v_a5),w64 (a1.tdiv v_a5)⟩:Part)))
def trials_lowest.l2 (e1:Int→Int→Int→Option Part):Nat→Int→Int→Int→Int→Option Part
  | 0,_,_,_,_=>none
  | k+1,a0,a1,v_a5,v_b6 =>
    bif v_b6 != 0 then
    (guard? (v_b6 != 0) (
    (trials_lowest.l2 e1 k) a0 a1 v_b6 (v_a5.tmod v_b6)))
    else
    (e1 a0 a1 v_a5)
def trials_lowest.f (a0:Int) (a1:Int):Option Part :=
  trials_lowest.l2 trials_lowest.e1 big a0 a1 a0 a1
def trials_Failing.e1 (v_failed7:Int) (v_all8:Int):Option (Part × Int) :=
  bif v_all8 == 0 then
  (some ((⟨0,1⟩:Part),0))
  else
  ((trials_lowest.f v_failed7 v_all8).bind fun y4 =>
  some (y4,0))
def trials_Failing.l2 (e1:Int→Int→Option (Part × Int)):Nat→ByteArray→(List (trials_id × trials_tally))→Int→Int→(List (trials_id × trials_tally))→Option (Part × Int)
  | 0,_,_,_,_,_=>none
  | k+1,a1,y3,v_failed7,v_all8,v23 =>
    rangeAll v23
    (e1 v_failed7 v_all8)
    (fun q1 lv1 =>
    (bif sEq q1.1.test a1 then ((trials_tally_verdict.f q1.2).bind fun y5 =>
    some (y5 != 3)) else (some false)).bind fun t1 =>
    bif t1 then
    ((trials_Failing.l2 e1 k) a1 y3 (w64 (v_failed7+q1.2.failed)) (w64 ((w64 (v_all8+q1.2.passed))+q1.2.failed)) lv1)
    else
    ((trials_Failing.l2 e1 k) a1 y3 v_failed7 v_all8 lv1))
def trials_Failing.f (a0:List TestRun) (a1:ByteArray):Option (Part × Int) :=
  (trials_CheckHistory.f a0).bind fun y1 =>
  bif y1 != 0 then
  (some ((⟨0,0⟩:Part),y1))
  else
  ((blob_IsPath.f a1).bind fun y2 =>
  bif !y2 then
  (some ((⟨0,0⟩:Part),5))
  else
  ((trials_tallies.f a0).bind fun y3 =>
  trials_Failing.l2 trials_Failing.e1 big a1 y3 0 0 y3))
def smithyardref10_part.e1 (a0:Int) (a1:Int) (v_a5:Int):Option Part :=
  guard? (v_a5 != 0) (
  guard? (v_a5 != 0) (
  some (⟨w64 (a0.tdiv v_a5),w64 (a1.tdiv v_a5)⟩:Part)))
def smithyardref10_part.l2 (e1:Int→Int→Int→Option Part):Nat→Int→Int→Int→Int→Option Part
  | 0,_,_,_,_=>none
  | k+1,a0,a1,v_a5,v_b6 =>
    bif decide (0<v_b6) then
    (guard? (v_b6 != 0) (
    (smithyardref10_part.l2 e1 k) a0 a1 v_b6 (v_a5.tmod v_b6)))
    else
    (e1 a0 a1 v_a5)
def smithyardref10_part.f (a0:Int) (a1:Int):Option Part :=
  bif a1 == 0 then
  (some (⟨0,1⟩:Part))
  else
  (smithyardref10_part.l2 smithyardref10_part.e1 big a0 a1 a0 a1)
def smithyardref10_Failing.e1 (v_bad7:Int) (v_all8:Int):Option (Part × Int) :=
  (smithyardref10_part.f v_bad7 v_all8).bind fun y3 =>
  some (y3,0)
def smithyardref10_Failing.j3 (backl2:(List TestRun)→ByteArray→Int→Int→Int→Option (Part × Int)) (a0:List TestRun) (a1:ByteArray) (v23:Int) (v_bad7:Int) (v_all8:Int):Option (Part × Int) :=
  backl2 a0 a1 v_bad7 v_all8 (w64 (v23+1))
def smithyardref10_Failing.l2 (e1:Int→Int→Option (Part × Int)):Nat→(List TestRun)→ByteArray→Int→Int→Int→Option (Part × Int)
  | 0,_,_,_,_,_=>none
  | k+1,a0,a1,v_bad7,v_all8,v23 =>
    bif decide (v23<(a0.length:Int)) then
    ((at? a0 v23).bind fun x1 =>
    (bif !sEq x1.Test a1 then (some true) else ((smithyardref10_verdict.f a0 a1 x1.Key).bind fun y4 =>
    some (y4 == 3))).bind fun t1 =>
    bif t1 then
    (smithyardref10_Failing.j3 ((smithyardref10_Failing.l2 e1 k)) a0 a1 v23 v_bad7 v_all8)
    else
    (bif !x1.Pass then
    (smithyardref10_Failing.j3 ((smithyardref10_Failing.l2 e1 k)) a0 a1 v23 (w64 (v_bad7+1)) (w64 (v_all8+1)))
    else
    (smithyardref10_Failing.j3 ((smithyardref10_Failing.l2 e1 k)) a0 a1 v23 v_bad7 (w64 (v_all8+1)))))
    else
    (e1 v_bad7 v_all8)
def smithyardref10_Failing.f (a0:List TestRun) (a1:ByteArray):Option (Part × Int) :=
  (smithyardref10_CheckHistory.f a0).bind fun y1 =>
  bif y1 != 0 then
  (some ((⟨0,0⟩:Part),y1))
  else
  ((smithyardref10_isPath.f a1).bind fun y2 =>
  bif !y2 then
  (some ((⟨0,0⟩:Part),5))
  else
  (smithyardref10_Failing.l2 smithyardref10_Failing.e1 big a0 a1 0 0 0))
def slices_Equal_TestRun.e1 :Option Bool :=
  some true
def slices_Equal_TestRun.l2 (e1:Option Bool):Nat→(List TestRun)→(List TestRun)→Int→Option Bool
  | 0,_,_,_=>none
  | k+1,a0,a1,v13 =>
    bif decide (v13<(a0.length:Int)) then
    ((at? a0 v13).bind fun x1 =>
    (at? a1 v13).bind fun x2 =>
    bif !(sEq x1.Test x2.Test&&(sEq x1.Key x2.Key&&(x1.At == x2.At&&(x1.Pass == x2.Pass&&(x1.Seconds == x2.Seconds&&true))))) then
    (some false)
    else
    ((slices_Equal_TestRun.l2 e1 k) a0 a1 (w64 (v13+1))))
    else
    (e1)
def slices_Equal_TestRun.f (a0:List TestRun) (a1:List TestRun):Option Bool :=
  bif (a0.length:Int) != (a1.length:Int) then
  (some false)
  else
  (slices_Equal_TestRun.l2 slices_Equal_TestRun.e1 big a0 a1 0)
def trials_Tried.e1 (a0:Int):Option (Int × Int × Int) :=
  some (3,a0,0)
def trials_Tried.j3 (backl2:Int→Int→(List Bool)→Int→Int→Option (Int × Int × Int)) (a0:Int) (a1:Int) (a2:List Bool) (v28:Int) (v_passed9:Int):Option (Int × Int × Int) :=
  (bif v_passed9 == a1 then (some ((w64 (v28+1)) == a1)) else (some false)).bind fun t2 =>
  bif t2 then
  (some (2,w64 (v28+1),0))
  else
  (bif v_passed9 == a1 then
  (some (4,w64 (v28+1),0))
  else
  (bif decide ((w64 ((w64 (v_passed9+a0)) - (w64 (v28+1))))<a1) then
  (some (3,w64 (v28+1),0))
  else
  (backl2 a0 a1 a2 v_passed9 (w64 (v28+1)))))
def trials_Tried.l2 (e1:Int→Option (Int × Int × Int)):Nat→Int→Int→(List Bool)→Int→Int→Option (Int × Int × Int)
  | 0,_,_,_,_,_=>none
  | k+1,a0,a1,a2,v_passed9,v28 =>
    bif decide (v28<(a2.length:Int)) then
    ((at? a2 v28).bind fun x1 =>
    bif x1 then
    (trials_Tried.j3 ((trials_Tried.l2 e1 k)) a0 a1 a2 v28 (w64 (v_passed9+1)))
    else
    (trials_Tried.j3 ((trials_Tried.l2 e1 k)) a0 a1 a2 v28 v_passed9))
    else
    (e1 a0)
def trials_Tried.f (a0:Int) (a1:Int) (a2:List Bool):Option (Int × Int × Int) :=
  ((trials_within.f a0 1 100).bind fun y1 =>
  bif !y1 then (some true) else ((trials_within.f a1 1 a0).bind fun y2 =>
  some (!y2))).bind fun t1 =>
  bif t1 then
  (some (0,0,1))
  else
  (bif (a2.length:Int) != a0 then
  (some (0,0,3))
  else
  (trials_Tried.l2 trials_Tried.e1 big a0 a1 a2 0 0))
def smithyardlaw10_awake.f :Option Bool :=
  (trials_Tried.f 3 1 ([false,true,true]:List Bool)).bind fun y1 =>
  (bif y1.2.2 == 0 then (bif y1.1 == 4 then (some (y1.2.1 == 2)) else (some false)) else (some false)).bind fun t1 =>
  some t1
def smithyardlaw10_TrialsFlakyMatchesSpec.f (a0:List TestRun) (a1:ByteArray):Option Bool :=
  (slices_Clone_TestRun.f a0).bind fun y1 =>
  (trials_Flaky.f a0).bind fun y2 =>
  (smithyardref10_Flaky.f y1).bind fun y3 =>
  (bif y2.2 != y3.2 then (some true) else ((slices_Equal_string.f y2.1 y3.1).bind fun y4 =>
  some (!y4))).bind fun t1 =>
  bif t1 then
  (some false)
  else
  ((trials_Failing.f a0 a1).bind fun y5 =>
  (smithyardref10_Failing.f y1 a1).bind fun y6 =>
  (bif y5.2 == y6.2 then (bif (y5.1.Num == y6.1.Num&&(y5.1.Den == y6.1.Den&&true)) then ((slices_Equal_TestRun.f a0 y1).bind fun y7 =>
  bif y7 then ((smithyardlaw10_awake.f).bind fun y8 =>
  some y8) else (some false)) else (some false)) else (some false)).bind fun t2 =>
  some t2)
end Go.Proofs.YtacmmbpamfefbaaDoor
