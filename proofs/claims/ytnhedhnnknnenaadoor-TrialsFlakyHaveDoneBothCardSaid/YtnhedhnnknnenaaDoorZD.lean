/- Plain functions, each written by program out of one Go function's operations. -/
import Derived.Test.YtnhedhnnknnenaaDoorKitP
import Derived.Lib.SlTrimSet
import Derived.Lib.SplitLaws
import Derived.Lib.Bytealg
set_option linter.unusedVariables false
namespace Go.Proofs.YtnhedhnnknnenaaDoor
open Go Go.Proofs.YtnhedhnnknnenaaDoor.Kit
structure TestRun where
  Test:ByteArray
  Key:ByteArray
  At:Int
  Pass:Bool
  Seconds:Int
  deriving Inhabited,DecidableEq
structure trials_id where
  test:ByteArray
  key:ByteArray
  deriving Inhabited,DecidableEq
structure trials_tally where
  passed:Int
  failed:Int
  deriving Inhabited,DecidableEq
def strings_Split.f (a0 a1:ByteArray):Option (List ByteArray):=guard? (decide (a0.size<4294967281)&&decide (1≤a1.size)) (some (Lib.splitB a1 0 (Lib.countB a0 a1) a0))
def strings_IndexByte.f (a0:ByteArray) (a1:Int):Option Int:=some (Lib.indexByte a0.data.toList a1.toNat.toUInt8)
def blob_inPart.f (a0:Int):Option Bool :=
  (bif decide (97≤a0) then (bif decide (a0≤122) then (some true) else (bif decide (65≤a0) then (bif decide (a0≤90) then (some true) else (bif decide (48≤a0) then (bif decide (a0≤57) then (some true) else ((strings_IndexByte.f ({ data:=#[46,95,45,43] }:ByteArray) a0).bind fun y1 =>
  some (decide (0≤y1)))) else ((strings_IndexByte.f ({ data:=#[46,95,45,43] }:ByteArray) a0).bind fun y2 =>
  some (decide (0≤y2))))) else (bif decide (48≤a0) then (bif decide (a0≤57) then (some true) else ((strings_IndexByte.f ({ data:=#[46,95,45,43] }:ByteArray) a0).bind fun y3 =>
  some (decide (0≤y3)))) else ((strings_IndexByte.f ({ data:=#[46,95,45,43] }:ByteArray) a0).bind fun y4 =>
  some (decide (0≤y4)))))) else (bif decide (65≤a0) then (bif decide (a0≤90) then (some true) else (bif decide (48≤a0) then (bif decide (a0≤57) then (some true) else ((strings_IndexByte.f ({ data:=#[46,95,45,43] }:ByteArray) a0).bind fun y5 =>
  some (decide (0≤y5)))) else ((strings_IndexByte.f ({ data:=#[46,95,45,43] }:ByteArray) a0).bind fun y6 =>
  some (decide (0≤y6))))) else (bif decide (48≤a0) then (bif decide (a0≤57) then (some true) else ((strings_IndexByte.f ({ data:=#[46,95,45,43] }:ByteArray) a0).bind fun y7 =>
  some (decide (0≤y7)))) else ((strings_IndexByte.f ({ data:=#[46,95,45,43] }:ByteArray) a0).bind fun y8 =>
  some (decide (0≤y8)))))).bind fun t1 =>
  some t1
def blob_isPart.e1 (a0:ByteArray):Option Bool :=
  (bif !sEq a0 ({ data:=#[] }:ByteArray) then (bif !sEq a0 ({ data:=#[46] }:ByteArray) then (some (!sEq a0 ({ data:=#[46,46] }:ByteArray))) else (some false)) else (some false)).bind fun t1 =>
  some t1
def blob_isPart.l2 (e1:ByteArray→Option Bool):Nat→ByteArray→Int→Option Bool
  | 0,_,_=>none
  | k+1,a0,v6 =>
    bif decide (v6<(a0.size:Int)) then
    (guard? (decide ((0:Int)≤v6)&&decide (v6<(a0.size:Int))) (
    (blob_inPart.f (bt a0 v6)).bind fun y1 =>
    bif !y1 then
    (some false)
    else
    ((blob_isPart.l2 e1 k) a0 (w64 (v6+1)))))
    else
    (e1 a0)
def blob_isPart.f (a0:ByteArray):Option Bool :=
  blob_isPart.l2 blob_isPart.e1 big a0 0
def blob_IsPath.e1 :Option Bool :=
  some true
def blob_IsPath.l2 (e1:Option Bool):Nat→(List ByteArray)→Int→Option Bool
  | 0,_,_=>none
  | k+1,y1,v16 =>
    bif decide (v16<(y1.length:Int)) then
    ((at? y1 v16).bind fun x1 =>
    (blob_isPart.f x1).bind fun y2 =>
    bif !y2 then
    (some false)
    else
    ((blob_IsPath.l2 e1 k) y1 (w64 (v16+1))))
    else
    (e1)
def blob_IsPath.f (a0:ByteArray):Option Bool :=
  (bif decide ((a0.size:Int)<1) then (some true) else (some (decide (200<(a0.size:Int))))).bind fun t1 =>
  bif t1 then
  (some false)
  else
  ((strings_Split.f a0 ({ data:=#[47] }:ByteArray)).bind fun y1 =>
  blob_IsPath.l2 blob_IsPath.e1 big y1 0)
def strings_Trim.f (a0:ByteArray) (a1:ByteArray):Option ByteArray:=guard? (decide (a0.size≤9223372036854775807)&&(decide (a1.size<4294967281)&&a1.data.toList.all (fun b=>decide (b.toNat<128)))) (some (⟨(Lib.trimS a0.data.toList a1.data.toList).toArray⟩))
def blob_IsDigest.f (a0:ByteArray):Option Bool :=
  (bif (a0.size:Int) == 16 then ((strings_Trim.f a0 ({ data:=#[48,49,50,51,52,53,54,55,56,57,97,98,99,100,101,102] }:ByteArray)).bind fun y1 =>
  some (sEq y1 ({ data:=#[] }:ByteArray))) else (some false)).bind fun t1 =>
  some t1
def trials_within.f (a0:Int) (a1:Int) (a2:Int):Option Bool :=
  (bif decide (a1≤a0) then (some (decide (a0≤a2))) else (some false)).bind fun t1 =>
  some t1
def trials_CheckHistory.e1 :Option Int :=
  some 0
def trials_CheckHistory.l2 (e1:Option Int):Nat→(List TestRun)→Int→Option Int
  | 0,_,_=>none
  | k+1,a0,v10 =>
    bif decide (v10<(a0.length:Int)) then
    ((at? a0 v10).bind fun x1 =>
    (blob_IsPath.f x1.Test).bind fun y1 =>
    bif !y1 then
    (some 5)
    else
    ((blob_IsDigest.f x1.Key).bind fun y2 =>
    bif !y2 then
    (some 3)
    else
    (((trials_within.f x1.At 0 1000000000).bind fun y3 =>
    bif !y3 then (some true) else ((trials_within.f x1.Seconds 0 100000).bind fun y4 =>
    some (!y4))).bind fun t1 =>
    bif t1 then
    (some 1)
    else
    ((bif decide (0<v10) then ((at? a0 (w64 (v10 - 1))).bind fun x2 =>
    some (decide (x1.At<x2.At))) else (some false)).bind fun t2 =>
    bif t2 then
    (some 8)
    else
    ((trials_CheckHistory.l2 e1 k) a0 (w64 (v10+1)))))))
    else
    (e1)
def trials_CheckHistory.f (a0:List TestRun):Option Int :=
  bif decide (3000<(a0.length:Int)) then
  (some 2)
  else
  (trials_CheckHistory.l2 trials_CheckHistory.e1 big a0 0)
def trials_tallies.e1 (v_out3:List (trials_id × trials_tally)):Option (List (trials_id × trials_tally)) :=
  some v_out3
def trials_tallies.j3 (backl2:(List TestRun)→(List (trials_id × trials_tally))→Int→Option (List (trials_id × trials_tally))) (a0:List TestRun) (v_out3:List (trials_id × trials_tally)) (v10:Int) (x1:TestRun) (v_t6_0:Int) (v_t6_1:Int):Option (List (trials_id × trials_tally)) :=
  backl2 a0 (mput v_out3 (⟨x1.Test,x1.Key⟩:trials_id) (⟨v_t6_0,v_t6_1⟩:trials_tally)) (w64 (v10+1))
def trials_tallies.l2 (e1:(List (trials_id × trials_tally))→Option (List (trials_id × trials_tally))):Nat→(List TestRun)→(List (trials_id × trials_tally))→Int→Option (List (trials_id × trials_tally))
  | 0,_,_,_=>none
  | k+1,a0,v_out3,v10 =>
    bif decide (v10<(a0.length:Int)) then
    ((at? a0 v10).bind fun x1 =>
    (some (mgetD v_out3 (⟨x1.Test,x1.Key⟩:trials_id) (⟨0,0⟩:trials_tally))).bind fun x2 =>
    bif x1.Pass then
    (trials_tallies.j3 ((trials_tallies.l2 e1 k)) a0 v_out3 v10 x1 (w64 (x2.passed+1)) x2.failed)
    else
    (trials_tallies.j3 ((trials_tallies.l2 e1 k)) a0 v_out3 v10 x1 x2.passed (w64 (x2.failed+1))))
    else
    (e1 v_out3)
def trials_tallies.f (a0:List TestRun):Option (List (trials_id × trials_tally)) :=
  trials_tallies.l2 trials_tallies.e1 big a0 ([]:List (trials_id × trials_tally)) 0
def trials_tally_verdict.f (a0:trials_tally):Option Int :=
  bif (w64 (a0.passed+a0.failed)) == 0 then
  (some 1)
  else
  (bif a0.failed == 0 then
  (some 2)
  else
  (bif a0.passed == 0 then
  (some 3)
  else
  (some 4)))
def trials_Flaky.e1 (v_is5:List (ByteArray × Bool)):Option ((List ByteArray) × Int) :=
  (keysB v_is5).bind fun y3 =>
  some (y3,0)
def trials_Flaky.l2 (e1:(List (ByteArray × Bool))→Option ((List ByteArray) × Int)):Nat→(List (trials_id × trials_tally))→(List (ByteArray × Bool))→(List (trials_id × trials_tally))→Option ((List ByteArray) × Int)
  | 0,_,_,_=>none
  | k+1,y2,v_is5,v16 =>
    rangeAll v16
    (e1 v_is5)
    (fun q1 lv1 =>
    (trials_tally_verdict.f q1.2).bind fun y4 =>
    bif y4 == 4 then
    ((trials_Flaky.l2 e1 k) y2 (mput v_is5 q1.1.test true) lv1)
    else
    ((trials_Flaky.l2 e1 k) y2 v_is5 lv1))
def trials_Flaky.f (a0:List TestRun):Option ((List ByteArray) × Int) :=
  (trials_CheckHistory.f a0).bind fun y1 =>
  bif y1 != 0 then
  (some (([]:List ByteArray),y1))
  else
  ((trials_tallies.f a0).bind fun y2 =>
  trials_Flaky.l2 trials_Flaky.e1 big y2 ([]:List (ByteArray × Bool)) y2)
def trials_Tried.e1 (a0:Int):Option (Int × Int × Int) :=
  some (3,a0,0)
def trials_Tried.j3 (backl2:Int→Int→(List Bool)→Int→Int→Option (Int × Int × Int)) (a0:Int) (a1:Int) (a2:List Bool) (v28:Int) (v_passed9:Int):Option (Int × Int × Int) :=
  (bif v_passed9 == a1 then (some ((w64 (v28+1)) == a1)) else (some false)).bind fun t2 =>
  bif t2 then
  (some (2,w64 (v28+1),0))
  else
  (bif v_passed9 == a1 then
  (some (4,w64 (v28+1),0))
  else
  (bif decide ((w64 ((w64 (v_passed9+a0)) - (w64 (v28+1))))<a1) then
  (some (3,w64 (v28+1),0))
  else
  (backl2 a0 a1 a2 v_passed9 (w64 (v28+1)))))
def trials_Tried.l2 (e1:Int→Option (Int × Int × Int)):Nat→Int→Int→(List Bool)→Int→Int→Option (Int × Int × Int)
  | 0,_,_,_,_,_=>none
  | k+1,a0,a1,a2,v_passed9,v28 =>
    bif decide (v28<(a2.length:Int)) then
    ((at? a2 v28).bind fun x1 =>
    bif x1 then
    (trials_Tried.j3 ((trials_Tried.l2 e1 k)) a0 a1 a2 v28 (w64 (v_passed9+1)))
    else
    (trials_Tried.j3 ((trials_Tried.l2 e1 k)) a0 a1 a2 v28 v_passed9))
    else
    (e1 a0)
def trials_Tried.f (a0:Int) (a1:Int) (a2:List Bool):Option (Int × Int × Int) :=
  ((trials_within.f a0 1 100).bind fun y1 =>
  bif !y1 then (some true) else ((trials_within.f a1 1 a0).bind fun y2 =>
  some (!y2))).bind fun t1 =>
  bif t1 then
  (some (0,0,1))
  else
  (bif (a2.length:Int) != a0 then
  (some (0,0,3))
  else
  (trials_Tried.l2 trials_Tried.e1 big a0 a1 a2 0 0))
def smithyardlaw10_awake.f :Option Bool :=
  (trials_Tried.f 3 1 ([false,true,true]:List Bool)).bind fun y1 =>
  (bif y1.2.2 == 0 then (bif y1.1 == 4 then (some (y1.2.1 == 2)) else (some false)) else (some false)).bind fun t1 =>
  some t1
def smithyardlaw10_TrialsFlakyHaveDoneBoth.e1 :Option Bool :=
  (smithyardlaw10_awake.f).bind fun y3 =>
  some y3
def smithyardlaw10_TrialsFlakyHaveDoneBoth.e3 (backl2:(List TestRun)→((List ByteArray) × Int)→Int→Option Bool) (a0:List TestRun) (y1:(List ByteArray) × Int) (v27:Int) (v_both7:Bool):Option Bool :=
  bif !v_both7 then
  (some false)
  else
  (backl2 a0 y1 (w64 (v27+1)))
def smithyardlaw10_TrialsFlakyHaveDoneBoth.e5 (backl4:(List TestRun)→((List ByteArray) × Int)→Int→ByteArray→Bool→Int→Option Bool) (a0:List TestRun) (y1:(List ByteArray) × Int) (v27:Int) (x1:ByteArray) (v33:Int) (v_both7:Bool):Option Bool :=
  backl4 a0 y1 v27 x1 v_both7 (w64 (v33+1))
def smithyardlaw10_TrialsFlakyHaveDoneBoth.l6 (e5:(List TestRun)→((List ByteArray) × Int)→Int→ByteArray→Int→Bool→Option Bool):Nat→(List TestRun)→((List ByteArray) × Int)→Int→ByteArray→Int→TestRun→Bool→Int→Option Bool
  | 0,_,_,_,_,_,_,_,_=>none
  | k+1,a0,y1,v27,x1,v33,x2,v_both7,v42 =>
    bif decide (v42<(v33.toNat:Int)) then
    ((at? (a0.take v33.toNat) v42).bind fun x3 =>
    (bif v_both7 then (some true) else (bif sEq x2.Test x1 then (bif sEq x3.Test x1 then (bif sEq x2.Key x3.Key then (some (!(x2.Pass == x3.Pass))) else (some false)) else (some false)) else (some false))).bind fun t2 =>
    (smithyardlaw10_TrialsFlakyHaveDoneBoth.l6 e5 k) a0 y1 v27 x1 v33 x2 t2 (w64 (v42+1)))
    else
    (e5 a0 y1 v27 x1 v33 v_both7)
def smithyardlaw10_TrialsFlakyHaveDoneBoth.l4 (e3:(List TestRun)→((List ByteArray) × Int)→Int→Bool→Option Bool):Nat→(List TestRun)→((List ByteArray) × Int)→Int→ByteArray→Bool→Int→Option Bool
  | 0,_,_,_,_,_,_=>none
  | k+1,a0,y1,v27,x1,v_both7,v33 =>
    bif decide (v33<(a0.length:Int)) then
    ((at? a0 v33).bind fun x2 =>
    guard? (decide ((0:Int)≤v33)&&decide (v33≤((a0.length:Nat):Int))) (
    smithyardlaw10_TrialsFlakyHaveDoneBoth.l6 (smithyardlaw10_TrialsFlakyHaveDoneBoth.e5 ((smithyardlaw10_TrialsFlakyHaveDoneBoth.l4 e3 k))) big a0 y1 v27 x1 v33 x2 v_both7 0))
    else
    (e3 a0 y1 v27 v_both7)
def smithyardlaw10_TrialsFlakyHaveDoneBoth.l2 (e1:Option Bool):Nat→(List TestRun)→((List ByteArray) × Int)→Int→Option Bool
  | 0,_,_,_=>none
  | k+1,a0,y1,v27 =>
    bif decide (v27<(y1.1.length:Int)) then
    ((at? y1.1 v27).bind fun x1 =>
    smithyardlaw10_TrialsFlakyHaveDoneBoth.l4 (smithyardlaw10_TrialsFlakyHaveDoneBoth.e3 ((smithyardlaw10_TrialsFlakyHaveDoneBoth.l2 e1 k))) big a0 y1 v27 x1 false 0)
    else
    (e1)
def smithyardlaw10_TrialsFlakyHaveDoneBoth.f (a0:List TestRun):Option Bool :=
  (trials_Flaky.f a0).bind fun y1 =>
  bif y1.2 != 0 then
  ((bif (y1.1.length:Int) == 0 then ((smithyardlaw10_awake.f).bind fun y2 =>
  some y2) else (some false)).bind fun t1 =>
  some t1)
  else
  (smithyardlaw10_TrialsFlakyHaveDoneBoth.l2 smithyardlaw10_TrialsFlakyHaveDoneBoth.e1 big a0 y1 0)
end Go.Proofs.YtnhedhnnknnenaaDoor
