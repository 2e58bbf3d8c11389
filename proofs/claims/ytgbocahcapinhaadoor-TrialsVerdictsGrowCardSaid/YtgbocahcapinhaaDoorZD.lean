/- Plain functions, each written by program out of one Go function's operations. -/
import Derived.Test.YtgbocahcapinhaaDoorKitP
import Derived.Lib.SlTrimSet
import Derived.Lib.SplitLaws
import Derived.Lib.Bytealg
set_option linter.unusedVariables false
namespace Go.Proofs.YtgbocahcapinhaaDoor
open Go Go.Proofs.YtgbocahcapinhaaDoor.Kit
structure TestRun where
  Test:ByteArray
  Key:ByteArray
  At:Int
  Pass:Bool
  Seconds:Int
  deriving Inhabited,DecidableEq
structure trials_id where
  test:ByteArray
  key:ByteArray
  deriving Inhabited,DecidableEq
structure trials_tally where
  passed:Int
  failed:Int
  deriving Inhabited,DecidableEq
def strings_Split.f (a0 a1:ByteArray):Option (List ByteArray):=guard? (decide (a0.size<4294967281)&&decide (1≤a1.size)) (some (Lib.splitB a1 0 (Lib.countB a0 a1) a0))
def strings_IndexByte.f (a0:ByteArray) (a1:Int):Option Int:=some (Lib.indexByte a0.data.toList a1.toNat.toUInt8)
def blob_inPart.f (a0:Int):Option Bool :=
  (bif decide (97≤a0) then (bif decide (a0≤122) then (some true) else (bif decide (65≤a0) then (bif decide (a0≤90) then (some true) else (bif decide (48≤a0) then (bif decide (a0≤57) then (some true) else ((strings_IndexByte.f ({ data:=#[46,95,45,43] }:ByteArray) a0).bind fun y1 =>
  some (decide (0≤y1)))) else ((strings_IndexByte.f ({ data:=#[46,95,45,43] }:ByteArray) a0).bind fun y2 =>
  some (decide (0≤y2))))) else (bif decide (48≤a0) then (bif decide (a0≤57) then (some true) else ((strings_IndexByte.f ({ data:=#[46,95,45,43] }:ByteArray) a0).bind fun y3 =>
  some (decide (0≤y3)))) else ((strings_IndexByte.f ({ data:=#[46,95,45,43] }:ByteArray) a0).bind fun y4 =>
  some (decide (0≤y4)))))) else (bif decide (65≤a0) then (bif decide (a0≤90) then (some true) else (bif decide (48≤a0) then (bif decide (a0≤57) then (some true) else ((strings_IndexByte.f ({ data:=#[46,95,45,43] }:ByteArray) a0).bind fun y5 =>
  some (decide (0≤y5)))) else ((strings_IndexByte.f ({ data:=#[46,95,45,43] }:ByteArray) a0).bind fun y6 =>
  some (decide (0≤y6))))) else (bif decide (48≤a0) then (bif decide (a0≤57) then (some true) else ((strings_IndexByte.f ({ data:=#[46,95,45,43] }:ByteArray) a0).bind fun y7 =>
  some (decide (0≤y7)))) else ((strings_IndexByte.f ({ data:=#[46,95,45,43] }:ByteArray) a0).bind fun y8 =>
  some (decide (0≤y8)))))).bind fun t1 =>
  some t1
def blob_isPart.e1 (a0:ByteArray):Option Bool :=
  (bif !sEq a0 ({ data:=#[] }:ByteArray) then (bif !sEq a0 ({ data:=#[46] }:ByteArray) then (some (!sEq a0 ({ data:=#[46,46] }:ByteArray))) else (some false)) else (some false)).bind fun t1 =>
  some t1
def blob_isPart.l2 (e1:ByteArray→Option Bool):Nat→ByteArray→Int→Option Bool
  | 0,_,_=>none
  | k+1,a0,v6 =>
    bif decide (v6<(a0.size:Int)) then
    (guard? (decide ((0:Int)≤v6)&&decide (v6<(a0.size:Int))) (
    (blob_inPart.f (bt a0 v6)).bind fun y1 =>
    bif !y1 then
    (some false)
    else
    ((blob_isPart.l2 e1 k) a0 (w64 (v6+1)))))
    else
    (e1 a0)
def blob_isPart.f (a0:ByteArray):Option Bool :=
  blob_isPart.l2 blob_isPart.e1 big a0 0
def blob_IsPath.e1 :Option Bool :=
  some true
def blob_IsPath.l2 (e1:Option Bool):Nat→(List ByteArray)→Int→Option Bool
  | 0,_,_=>none
  | k+1,y1,v16 =>
    bif decide (v16<(y1.length:Int)) then
    ((at? y1 v16).bind fun x1 =>
    (blob_isPart.f x1).bind fun y2 =>
    bif !y2 then
    (some false)
    else
    ((blob_IsPath.l2 e1 k) y1 (w64 (v16+1))))
    else
    (e1)
def blob_IsPath.f (a0:ByteArray):Option Bool :=
  (bif decide ((a0.size:Int)<1) then (some true) else (some (decide (200<(a0.size:Int))))).bind fun t1 =>
  bif t1 then
  (some false)
  else
  ((strings_Split.f a0 ({ data:=#[47] }:ByteArray)).bind fun y1 =>
  blob_IsPath.l2 blob_IsPath.e1 big y1 0)
def strings_Trim.f (a0:ByteArray) (a1:ByteArray):Option ByteArray:=guard? (decide (a0.size≤9223372036854775807)&&(decide (a1.size<4294967281)&&a1.data.toList.all (fun b=>decide (b.toNat<128)))) (some (⟨(Lib.trimS a0.data.toList a1.data.toList).toArray⟩))
def blob_IsDigest.f (a0:ByteArray):Option Bool :=
  (bif (a0.size:Int) == 16 then ((strings_Trim.f a0 ({ data:=#[48,49,50,51,52,53,54,55,56,57,97,98,99,100,101,102] }:ByteArray)).bind fun y1 =>
  some (sEq y1 ({ data:=#[] }:ByteArray))) else (some false)).bind fun t1 =>
  some t1
def trials_within.f (a0:Int) (a1:Int) (a2:Int):Option Bool :=
  (bif decide (a1≤a0) then (some (decide (a0≤a2))) else (some false)).bind fun t1 =>
  some t1
def trials_CheckHistory.e1 :Option Int :=
  some 0
def trials_CheckHistory.l2 (e1:Option Int):Nat→(List TestRun)→Int→Option Int
  | 0,_,_=>none
  | k+1,a0,v10 =>
    bif decide (v10<(a0.length:Int)) then
    ((at? a0 v10).bind fun x1 =>
    (blob_IsPath.f x1.Test).bind fun y1 =>
    bif !y1 then
    (some 5)
    else
    ((blob_IsDigest.f x1.Key).bind fun y2 =>
    bif !y2 then
    (some 3)
    else
    (((trials_within.f x1.At 0 1000000000).bind fun y3 =>
    bif !y3 then (some true) else ((trials_within.f x1.Seconds 0 100000).bind fun y4 =>
    some (!y4))).bind fun t1 =>
    bif t1 then
    (some 1)
    else
    ((bif decide (0<v10) then ((at? a0 (w64 (v10 - 1))).bind fun x2 =>
    some (decide (x1.At<x2.At))) else (some false)).bind fun t2 =>
    bif t2 then
    (some 8)
    else
    ((trials_CheckHistory.l2 e1 k) a0 (w64 (v10+1)))))))
    else
    (e1)
def trials_CheckHistory.f (a0:List TestRun):Option Int :=
  bif decide (3000<(a0.length:Int)) then
  (some 2)
  else
  (trials_CheckHistory.l2 trials_CheckHistory.e1 big a0 0)
def trials_checkKey.f (a0:List TestRun) (a1:ByteArray) (a2:ByteArray):Option Int :=
  (trials_CheckHistory.f a0).bind fun y1 =>
  bif y1 != 0 then
  (some y1)
  else
  ((blob_IsPath.f a1).bind fun y2 =>
  bif !y2 then
  (some 5)
  else
  ((blob_IsDigest.f a2).bind fun y3 =>
  bif !y3 then
  (some 3)
  else
  (some 0)))
def trials_tallies.e1 (v_out3:List (trials_id × trials_tally)):Option (List (trials_id × trials_tally)) :=
  some v_out3
def trials_tallies.j3 (backl2:(List TestRun)→(List (trials_id × trials_tally))→Int→Option (List (trials_id × trials_tally))) (a0:List TestRun) (v_out3:List (trials_id × trials_tally)) (v10:Int) (x1:TestRun) (v_t6_0:Int) (v_t6_1:Int):Option (List (trials_id × trials_tally)) :=
  backl2 a0 (mput v_out3 (⟨x1.Test,x1.Key⟩:trials_id) (⟨v_t6_0,v_t6_1⟩:trials_tally)) (w64 (v10+1))
def trials_tallies.l2 (e1:(List (trials_id × trials_tally))→Option (List (trials_id × trials_tally))):Nat→(List TestRun)→(List (trials_id × trials_tally))→Int→Option (List (trials_id × trials_tally))
  | 0,_,_,_=>none
  | k+1,a0,v_out3,v10 =>
    bif decide (v10<(a0.length:Int)) then
    ((at? a0 v10).bind fun x1 =>
    (some (mgetD v_out3 (⟨x1.Test,x1.Key⟩:trials_id) (⟨0,0⟩:trials_tally))).bind fun x2 =>
    bif x1.Pass then
    (trials_tallies.j3 ((trials_tallies.l2 e1 k)) a0 v_out3 v10 x1 (w64 (x2.passed+1)) x2.failed)
    else
    (trials_tallies.j3 ((trials_tallies.l2 e1 k)) a0 v_out3 v10 x1 x2.passed (w64 (x2.failed+1))))
    else
    (e1 v_out3)
def trials_tallies.f (a0:List TestRun):Option (List (trials_id × trials_tally)) :=
  trials_tallies.l2 trials_tallies.e1 big a0 ([]:List (trials_id × trials_tally)) 0
def trials_tally_verdict.f (a0:trials_tally):Option Int :=
  bif (w64 (a0.passed+a0.failed)) == 0 then
  (some 1)
  else
  (bif a0.failed == 0 then
  (some 2)
  else
  (bif a0.passed == 0 then
  (some 3)
  else
  (some 4)))
def trials_Verdict.f (a0:List TestRun) (a1:ByteArray) (a2:ByteArray):Option (Int × Int) :=
  (trials_checkKey.f a0 a1 a2).bind fun y1 =>
  bif y1 != 0 then
  (some (0,y1))
  else
  ((trials_tallies.f a0).bind fun y2 =>
  (some (mgetD y2 (⟨a1,a2⟩:trials_id) (⟨0,0⟩:trials_tally))).bind fun x1 =>
  (trials_tally_verdict.f x1).bind fun y3 =>
  some (y3,0))
def trials_Tried.e1 (a0:Int):Option (Int × Int × Int) :=
  some (3,a0,0)
def trials_Tried.j3 (backl2:Int→Int→(List Bool)→Int→Int→Option (Int × Int × Int)) (a0:Int) (a1:Int) (a2:List Bool) (v28:Int) (v_passed9:Int):Option (Int × Int × Int) :=
  (bif v_passed9 == a1 then (some ((w64 (v28+1)) == a1)) else (some false)).bind fun t2 =>
  bif t2 then
  (some (2,w64 (v28+1),0))
  else
  (bif v_passed9 == a1 then
  (some (4,w64 (v28+1),0))
  else
  (bif decide ((w64 ((w64 (v_passed9+a0)) - (w64 (v28+1))))<a1) then
  (some (3,w64 (v28+1),0))
  else
  (backl2 a0 a1 a2 v_passed9 (w64 (v28+1)))))
def trials_Tried.l2 (e1:Int→Option (Int × Int × Int)):Nat→Int→Int→(List Bool)→Int→Int→Option (Int × Int × Int)
  | 0,_,_,_,_,_=>none
  | k+1,a0,a1,a2,v_passed9,v28 =>
    bif decide (v28<(a2.length:Int)) then
    ((at? a2 v28).bind fun x1 =>
    bif x1 then
    (trials_Tried.j3 ((trials_Tried.l2 e1 k)) a0 a1 a2 v28 (w64 (v_passed9+1)))
    else
    (trials_Tried.j3 ((trials_Tried.l2 e1 k)) a0 a1 a2 v28 v_passed9))
    else
    (e1 a0)
def trials_Tried.f (a0:Int) (a1:Int) (a2:List Bool):Option (Int × Int × Int) :=
  ((trials_within.f a0 1 100).bind fun y1 =>
  bif !y1 then (some true) else ((trials_within.f a1 1 a0).bind fun y2 =>
  some (!y2))).bind fun t1 =>
  bif t1 then
  (some (0,0,1))
  else
  (bif (a2.length:Int) != a0 then
  (some (0,0,3))
  else
  (trials_Tried.l2 trials_Tried.e1 big a0 a1 a2 0 0))
def smithyardlaw10_awake.f :Option Bool :=
  (trials_Tried.f 3 1 ([false,true,true]:List Bool)).bind fun y1 =>
  (bif y1.2.2 == 0 then (bif y1.1 == 4 then (some (y1.2.1 == 2)) else (some false)) else (some false)).bind fun t1 =>
  some t1
def slices_Clone_TestRun.f (a0:List TestRun):Option (List TestRun):=guard? (room 0 a0.length 56) (some a0)
def smithyardlaw10_TrialsVerdictsGrow.j3 (y4:Int × Int) (v_want13:Int):Option Bool :=
  (bif y4.1 == v_want13 then ((smithyardlaw10_awake.f).bind fun y6 =>
  some y6) else (some false)).bind fun t4 =>
  some t4
def smithyardlaw10_TrialsVerdictsGrow.j2 (y1:Int × Int) (y4:Int × Int) (v_want13:Int):Option Bool :=
  (bif y1.1 != 1 then (some (y1.1 != v_want13)) else (some false)).bind fun t3 =>
  bif t3 then
  (smithyardlaw10_TrialsVerdictsGrow.j3 y4 4)
  else
  (smithyardlaw10_TrialsVerdictsGrow.j3 y4 v_want13)
def smithyardlaw10_TrialsVerdictsGrow.j1 (a0:List TestRun) (a1:ByteArray) (a2:ByteArray) (a3:Bool) (y1:Int × Int) (v_at11:Int):Option Bool :=
  (slices_Clone_TestRun.f a0).bind fun y3 =>
  guard? (room y3.length 1 56) (
  (trials_Verdict.f (y3++([(⟨a1,a2,v_at11,a3,0⟩:TestRun)]:List TestRun)) a1 a2).bind fun y4 =>
  bif y4.2 != 0 then
  ((bif y4.2 == 2 then ((smithyardlaw10_awake.f).bind fun y5 =>
  some y5) else (some false)).bind fun t2 =>
  some t2)
  else
  (bif a3 then
  (smithyardlaw10_TrialsVerdictsGrow.j2 y1 y4 2)
  else
  (smithyardlaw10_TrialsVerdictsGrow.j2 y1 y4 3)))
def smithyardlaw10_TrialsVerdictsGrow.f (a0:List TestRun) (a1:ByteArray) (a2:ByteArray) (a3:Bool):Option Bool :=
  (trials_Verdict.f a0 a1 a2).bind fun y1 =>
  bif y1.2 != 0 then
  ((bif y1.1 == 0 then ((smithyardlaw10_awake.f).bind fun y2 =>
  some y2) else (some false)).bind fun t1 =>
  some t1)
  else
  (bif decide (0<(a0.length:Int)) then
  ((at? a0 (w64 ((a0.length:Int) - 1))).bind fun x1 =>
  smithyardlaw10_TrialsVerdictsGrow.j1 a0 a1 a2 a3 y1 x1.At)
  else
  (smithyardlaw10_TrialsVerdictsGrow.j1 a0 a1 a2 a3 y1 0))
end Go.Proofs.YtgbocahcapinhaaDoor
