/- Plain functions, each written by program out of one Go function's operations. -/
import Derived.Test.YtkgbgapheigjcaaDoorKitP
import Derived.Lib.SplitLaws
import Derived.Lib.SlicesCompact
import Derived.Lib.Bytealg
set_option linter.unusedVariables false
namespace Go.Proofs.YtkgbgapheigjcaaDoor
open Go Go.Proofs.YtkgbgapheigjcaaDoor.Kit
structure TestReads where
  Test:ByteArray
  Paths:List ByteArray
  Looked:List ByteArray
  deriving Inhabited,DecidableEq
structure TreeChange where
  Path:ByteArray
  Kind:Int
  deriving Inhabited,DecidableEq
structure trials_changes where
  other:List (ByteArray × Bool)
  fresh:List (ByteArray × Bool)
  over:List (ByteArray × Bool)
  deriving Inhabited,DecidableEq
def strings_Split.f (a0 a1:ByteArray):Option (List ByteArray):=guard? (decide (a0.size<4294967281)&&decide (1≤a1.size)) (some (Lib.splitB a1 0 (Lib.countB a0 a1) a0))
def strings_IndexByte.f (a0:ByteArray) (a1:Int):Option Int:=some (Lib.indexByte a0.data.toList a1.toNat.toUInt8)
def blob_inPart.f (a0:Int):Option Bool :=
  (bif decide (97≤a0) then (bif decide (a0≤122) then (some true) else (bif decide (65≤a0) then (bif decide (a0≤90) then (some true) else (bif decide (48≤a0) then (bif decide (a0≤57) then (some true) else ((strings_IndexByte.f ({ data:=#[46,95,45,43] }:ByteArray) a0).bind fun y1 =>
  some (decide (0≤y1)))) else ((strings_IndexByte.f ({ data:=#[46,95,45,43] }:ByteArray) a0).bind fun y2 =>
  some (decide (0≤y2))))) else (bif decide (48≤a0) then (bif decide (a0≤57) then (some true) else ((strings_IndexByte.f ({ data:=#[46,95,45,43] }:ByteArray) a0).bind fun y3 =>
  some (decide (0≤y3)))) else ((strings_IndexByte.f ({ data:=#[46,95,45,43] }:ByteArray) a0).bind fun y4 =>
  some (decide (0≤y4)))))) else (bif decide (65≤a0) then (bif decide (a0≤90) then (some true) else (bif decide (48≤a0) then (bif decide (a0≤57) then (some true) else ((strings_IndexByte.f ({ data:=#[46,95,45,43] }:ByteArray) a0).bind fun y5 =>
  some (decide (0≤y5)))) else ((strings_IndexByte.f ({ data:=#[46,95,45,43] }:ByteArray) a0).bind fun y6 =>
  some (decide (0≤y6))))) else (bif decide (48≤a0) then (bif decide (a0≤57) then (some true) else ((strings_IndexByte.f ({ data:=#[46,95,45,43] }:ByteArray) a0).bind fun y7 =>
  some (decide (0≤y7)))) else ((strings_IndexByte.f ({ data:=#[46,95,45,43] }:ByteArray) a0).bind fun y8 =>
  some (decide (0≤y8)))))).bind fun t1 =>
  some t1
def blob_isPart.e1 (a0:ByteArray):Option Bool :=
  (bif !sEq a0 ({ data:=#[] }:ByteArray) then (bif !sEq a0 ({ data:=#[46] }:ByteArray) then (some (!sEq a0 ({ data:=#[46,46] }:ByteArray))) else (some false)) else (some false)).bind fun t1 =>
  some t1
def blob_isPart.l2 (e1:ByteArray→Option Bool):Nat→ByteArray→Int→Option Bool
  | 0,_,_=>none
  | k+1,a0,v6 =>
    bif decide (v6<(a0.size:Int)) then
    (guard? (decide ((0:Int)≤v6)&&decide (v6<(a0.size:Int))) (
    (blob_inPart.f (bt a0 v6)).bind fun y1 =>
    bif !y1 then
    (some false)
    else
    ((blob_isPart.l2 e1 k) a0 (w64 (v6+1)))))
    else
    (e1 a0)
def blob_isPart.f (a0:ByteArray):Option Bool :=
  blob_isPart.l2 blob_isPart.e1 big a0 0
def blob_IsPath.e1 :Option Bool :=
  some true
def blob_IsPath.l2 (e1:Option Bool):Nat→(List ByteArray)→Int→Option Bool
  | 0,_,_=>none
  | k+1,y1,v16 =>
    bif decide (v16<(y1.length:Int)) then
    ((at? y1 v16).bind fun x1 =>
    (blob_isPart.f x1).bind fun y2 =>
    bif !y2 then
    (some false)
    else
    ((blob_IsPath.l2 e1 k) y1 (w64 (v16+1))))
    else
    (e1)
def blob_IsPath.f (a0:ByteArray):Option Bool :=
  (bif decide ((a0.size:Int)<1) then (some true) else (some (decide (200<(a0.size:Int))))).bind fun t1 =>
  bif t1 then
  (some false)
  else
  ((strings_Split.f a0 ({ data:=#[47] }:ByteArray)).bind fun y1 =>
  blob_IsPath.l2 blob_IsPath.e1 big y1 0)
def trials_checkPaths.e1 :Option Int :=
  some 0
def trials_checkPaths.l2 (e1:Option Int):Nat→(List ByteArray)→Int→Option Int
  | 0,_,_=>none
  | k+1,a0,v7 =>
    bif decide (v7<(a0.length:Int)) then
    ((at? a0 v7).bind fun x1 =>
    (blob_IsPath.f x1).bind fun y1 =>
    bif !y1 then
    (some 3)
    else
    ((bif decide (0<v7) then ((at? a0 (w64 (v7 - 1))).bind fun x2 =>
    some (sLt x1 x2||sEq x1 x2)) else (some false)).bind fun t1 =>
    bif t1 then
    (some 8)
    else
    ((trials_checkPaths.l2 e1 k) a0 (w64 (v7+1)))))
    else
    (e1)
def trials_checkPaths.f (a0:List ByteArray):Option Int :=
  trials_checkPaths.l2 trials_checkPaths.e1 big a0 0
def slices_isNaN_string.f (a0:ByteArray):Option Bool :=
  some (!sEq a0 a0)
def cmp_isNaN_string.f (a0:ByteArray):Option Bool :=
  some (!sEq a0 a0)
def cmp_Less_string.f (a0:ByteArray) (a1:ByteArray):Option Bool :=
  ((cmp_isNaN_string.f a0).bind fun y1 =>
  bif y1 then ((cmp_isNaN_string.f a1).bind fun y2 =>
  bif !y2 then (some true) else (some (sLt a0 a1))) else (some (sLt a0 a1))).bind fun t1 =>
  some t1
def slices_BinarySearch_string.e1 (a0:List ByteArray) (a1:ByteArray) (v_i7:Int):Option (Int × Bool) :=
  (bif decide (v_i7<(a0.length:Int)) then ((at? a0 v_i7).bind fun x1 =>
  bif sEq x1 a1 then (some true) else ((slices_isNaN_string.f x1).bind fun y1 =>
  bif y1 then ((slices_isNaN_string.f a1).bind fun y2 =>
  some y2) else (some false))) else (some false)).bind fun t1 =>
  some (v_i7,t1)
def slices_BinarySearch_string.l2 (e1:(List ByteArray)→ByteArray→Int→Option (Int × Bool)):Nat→(List ByteArray)→ByteArray→Int→Int→Option (Int × Bool)
  | 0,_,_,_,_=>none
  | k+1,a0,a1,v_i7,v_j8 =>
    bif decide (v_i7<v_j8) then
    ((at? a0 (w64 (iShr .u64 (IntKind.wrap .u64 (w64 (v_i7+v_j8))) 1))).bind fun x2 =>
    (cmp_Less_string.f x2 a1).bind fun y3 =>
    bif y3 then
    ((slices_BinarySearch_string.l2 e1 k) a0 a1 (w64 ((w64 (iShr .u64 (IntKind.wrap .u64 (w64 (v_i7+v_j8))) 1))+1)) v_j8)
    else
    ((slices_BinarySearch_string.l2 e1 k) a0 a1 v_i7 (w64 (iShr .u64 (IntKind.wrap .u64 (w64 (v_i7+v_j8))) 1))))
    else
    (e1 a0 a1 v_i7)
def slices_BinarySearch_string.f (a0:List ByteArray) (a1:ByteArray):Option (Int × Bool) :=
  slices_BinarySearch_string.l2 slices_BinarySearch_string.e1 big a0 a1 0 (a0.length:Int)
def trials_CheckReads_1.f (a0:ByteArray) (a1:TestReads):Option Bool :=
  (slices_BinarySearch_string.f a1.Paths a0).bind fun y1 =>
  some y1.2
def slices_IndexFunc_string.e1 :Option Int :=
  some (-1)
def slices_IndexFunc_string.l2 (e1:Option Int):Nat→(List ByteArray)→TestReads→Int→Option Int
  | 0,_,_,_=>none
  | k+1,a0,a1q0,v8 =>
    bif decide (v8<(a0.length:Int)) then
    ((at? a0 v8).bind fun x1 =>
    (trials_CheckReads_1.f x1 a1q0).bind fun y1 =>
    bif y1 then
    (some v8)
    else
    ((slices_IndexFunc_string.l2 e1 k) a0 a1q0 (w64 (v8+1))))
    else
    (e1)
def slices_IndexFunc_string.f (a0:List ByteArray) (a1q0:TestReads):Option Int :=
  slices_IndexFunc_string.l2 slices_IndexFunc_string.e1 big a0 a1q0 0
def slices_ContainsFunc_string.f (a0:List ByteArray) (a1q0:TestReads):Option Bool :=
  (slices_IndexFunc_string.f a0 a1q0).bind fun y1 =>
  some (decide (0≤y1))
def trials_CheckReads.e1 :Option Int :=
  some 0
def trials_CheckReads.l2 (e1:Option Int):Nat→(List TestReads)→Int→Option Int
  | 0,_,_=>none
  | k+1,a0,v12 =>
    bif decide (v12<(a0.length:Int)) then
    ((at? a0 v12).bind fun x1 =>
    (blob_IsPath.f x1.Test).bind fun y1 =>
    bif !y1 then
    (some 5)
    else
    ((bif decide (1000<(x1.Paths.length:Int)) then (some true) else (some (decide (1000<(x1.Looked.length:Int))))).bind fun t1 =>
    bif t1 then
    (some 2)
    else
    ((trials_checkPaths.f x1.Paths).bind fun y2 =>
    bif y2 != 0 then
    (some y2)
    else
    ((trials_checkPaths.f x1.Looked).bind fun y3 =>
    bif y3 != 0 then
    (some y3)
    else
    ((slices_ContainsFunc_string.f x1.Looked x1).bind fun y4 =>
    bif y4 then
    (some 12)
    else
    ((bif decide (0<v12) then ((at? a0 (w64 (v12 - 1))).bind fun x2 =>
    some (sLt x1.Test x2.Test||sEq x1.Test x2.Test)) else (some false)).bind fun t2 =>
    bif t2 then
    (some 8)
    else
    ((trials_CheckReads.l2 e1 k) a0 (w64 (v12+1)))))))))
    else
    (e1)
def trials_CheckReads.f (a0:List TestReads):Option Int :=
  bif decide (300<(a0.length:Int)) then
  (some 2)
  else
  (trials_CheckReads.l2 trials_CheckReads.e1 big a0 0)
def trials_within.f (a0:Int) (a1:Int) (a2:Int):Option Bool :=
  (bif decide (a1≤a0) then (some (decide (a0≤a2))) else (some false)).bind fun t1 =>
  some t1
def trials_above.e1 (v_out3:List ByteArray):Option (List ByteArray) :=
  some v_out3
def trials_above.j3 (backl2:ByteArray→(List ByteArray)→Int→Option (List ByteArray)) (a0:ByteArray) (v7:Int) (v_out3:List ByteArray):Option (List ByteArray) :=
  backl2 a0 v_out3 (w64 (v7+1))
def trials_above.l2 (e1:(List ByteArray)→Option (List ByteArray)):Nat→ByteArray→(List ByteArray)→Int→Option (List ByteArray)
  | 0,_,_,_=>none
  | k+1,a0,v_out3,v7 =>
    bif decide (v7<(a0.size:Int)) then
    (guard? (decide ((0:Int)≤v7)&&decide (v7<(a0.size:Int))) (
    bif (bt a0 v7) == 47 then
    (guard? (decide ((0:Int)≤v7)&&decide (v7≤(a0.size:Int))) (
    guard? (room v_out3.length 1 16) (
    trials_above.j3 ((trials_above.l2 e1 k)) a0 v7 (v_out3++([a0.extract 0 v7.toNat]:List ByteArray)))))
    else
    (trials_above.j3 ((trials_above.l2 e1 k)) a0 v7 v_out3)))
    else
    (e1 v_out3)
def trials_above.f (a0:ByteArray):Option (List ByteArray) :=
  trials_above.l2 trials_above.e1 big a0 ([]:List ByteArray) 0
def trials_changesOf.e1 (v_c4_0:List (ByteArray × Bool)) (v_c4_1:List (ByteArray × Bool)) (v_c4_2:List (ByteArray × Bool)):Option (trials_changes × Int) :=
  some ((⟨v_c4_0,v_c4_1,v_c4_2⟩:trials_changes),0)
def trials_changesOf.j3 (backl2:(List TreeChange)→(List (ByteArray × Bool))→(List (ByteArray × Bool))→(List (ByteArray × Bool))→Int→Option (trials_changes × Int)) (a0:List TreeChange) (v19:Int) (v_c4_0:List (ByteArray × Bool)) (v_c4_1:List (ByteArray × Bool)) (v_c4_2:List (ByteArray × Bool)):Option (trials_changes × Int) :=
  backl2 a0 v_c4_0 v_c4_1 v_c4_2 (w64 (v19+1))
def trials_changesOf.l4 (j3:(List TreeChange)→Int→(List (ByteArray × Bool))→(List (ByteArray × Bool))→(List (ByteArray × Bool))→Option (trials_changes × Int)):Nat→(List TreeChange)→(List (ByteArray × Bool))→(List (ByteArray × Bool))→Int→TreeChange→(List ByteArray)→(List (ByteArray × Bool))→Int→Option (trials_changes × Int)
  | 0,_,_,_,_,_,_,_,_=>none
  | k+1,a0,v_c4_0,v_c4_1,v19,x1,y3,v_c4_2,v67 =>
    bif decide (v67<(y3.length:Int)) then
    ((at? y3 v67).bind fun x3 =>
    (trials_changesOf.l4 j3 k) a0 v_c4_0 v_c4_1 v19 x1 y3 (mput v_c4_2 x3 true) (w64 (v67+1)))
    else
    (j3 a0 v19 v_c4_0 (mput v_c4_1 x1.Path true) v_c4_2)
def trials_changesOf.l2 (e1:(List (ByteArray × Bool))→(List (ByteArray × Bool))→(List (ByteArray × Bool))→Option (trials_changes × Int)):Nat→(List TreeChange)→(List (ByteArray × Bool))→(List (ByteArray × Bool))→(List (ByteArray × Bool))→Int→Option (trials_changes × Int)
  | 0,_,_,_,_,_=>none
  | k+1,a0,v_c4_0,v_c4_1,v_c4_2,v19 =>
    bif decide (v19<(a0.length:Int)) then
    ((at? a0 v19).bind fun x1 =>
    (blob_IsPath.f x1.Path).bind fun y1 =>
    bif !y1 then
    (some ((⟨v_c4_0,v_c4_1,v_c4_2⟩:trials_changes),3))
    else
    ((trials_within.f x1.Kind 1 4).bind fun y2 =>
    bif !y2 then
    (some ((⟨v_c4_0,v_c4_1,v_c4_2⟩:trials_changes),4))
    else
    ((bif decide (0<v19) then ((at? a0 (w64 (v19 - 1))).bind fun x2 =>
    some (sLt x1.Path x2.Path||sEq x1.Path x2.Path)) else (some false)).bind fun t1 =>
    bif t1 then
    (some ((⟨v_c4_0,v_c4_1,v_c4_2⟩:trials_changes),8))
    else
    (bif x1.Kind != 1 then
    (trials_changesOf.j3 ((trials_changesOf.l2 e1 k)) a0 v19 (mput v_c4_0 x1.Path true) v_c4_1 v_c4_2)
    else
    ((trials_above.f x1.Path).bind fun y3 =>
    trials_changesOf.l4 (trials_changesOf.j3 ((trials_changesOf.l2 e1 k))) big a0 v_c4_0 v_c4_1 v19 x1 y3 v_c4_2 0)))))
    else
    (e1 v_c4_0 v_c4_1 v_c4_2)
def trials_changesOf.f (a0:List TreeChange):Option (trials_changes × Int) :=
  bif decide (1000<(a0.length:Int)) then
  (some ((⟨([]:List (ByteArray × Bool)),([]:List (ByteArray × Bool)),([]:List (ByteArray × Bool))⟩:trials_changes),2))
  else
  (trials_changesOf.l2 trials_changesOf.e1 big a0 ([]:List (ByteArray × Bool)) ([]:List (ByteArray × Bool)) ([]:List (ByteArray × Bool)) 0)
def trials_changes_affects_1.f (a0:ByteArray) (a1:trials_changes):Option Bool :=
  some (mgetD a1.other a0 false)
def slices_IndexFunc_string_2.e1 :Option Int :=
  some (-1)
def slices_IndexFunc_string_2.l2 (e1:Option Int):Nat→(List ByteArray)→trials_changes→Int→Option Int
  | 0,_,_,_=>none
  | k+1,a0,a1q0,v8 =>
    bif decide (v8<(a0.length:Int)) then
    ((at? a0 v8).bind fun x1 =>
    (trials_changes_affects_1.f x1 a1q0).bind fun y1 =>
    bif y1 then
    (some v8)
    else
    ((slices_IndexFunc_string_2.l2 e1 k) a0 a1q0 (w64 (v8+1))))
    else
    (e1)
def slices_IndexFunc_string_2.f (a0:List ByteArray) (a1q0:trials_changes):Option Int :=
  slices_IndexFunc_string_2.l2 slices_IndexFunc_string_2.e1 big a0 a1q0 0
def slices_ContainsFunc_string_2.f (a0:List ByteArray) (a1q0:trials_changes):Option Bool :=
  (slices_IndexFunc_string_2.f a0 a1q0).bind fun y1 =>
  some (decide (0≤y1))
def trials_changes_affects_2_1.f (a0:ByteArray) (a1:trials_changes):Option Bool :=
  some (mgetD a1.fresh a0 false)
def slices_IndexFunc_string_4.e1 :Option Int :=
  some (-1)
def slices_IndexFunc_string_4.l2 (e1:Option Int):Nat→(List ByteArray)→trials_changes→Int→Option Int
  | 0,_,_,_=>none
  | k+1,a0,a1q0,v8 =>
    bif decide (v8<(a0.length:Int)) then
    ((at? a0 v8).bind fun x1 =>
    (trials_changes_affects_2_1.f x1 a1q0).bind fun y1 =>
    bif y1 then
    (some v8)
    else
    ((slices_IndexFunc_string_4.l2 e1 k) a0 a1q0 (w64 (v8+1))))
    else
    (e1)
def slices_IndexFunc_string_4.f (a0:List ByteArray) (a1q0:trials_changes):Option Int :=
  slices_IndexFunc_string_4.l2 slices_IndexFunc_string_4.e1 big a0 a1q0 0
def slices_ContainsFunc_string_4.f (a0:List ByteArray) (a1q0:trials_changes):Option Bool :=
  (slices_IndexFunc_string_4.f a0 a1q0).bind fun y1 =>
  some (decide (0≤y1))
def trials_changes_affects_2.f (a0:ByteArray) (a1:trials_changes):Option Bool :=
  (bif mgetD a1.fresh a0 false then (some true) else (bif mgetD a1.over a0 false then (some true) else ((trials_above.f a0).bind fun y1 =>
  (slices_ContainsFunc_string_4.f y1 a1).bind fun y2 =>
  some y2))).bind fun t1 =>
  some t1
def slices_IndexFunc_string_3.e1 :Option Int :=
  some (-1)
def slices_IndexFunc_string_3.l2 (e1:Option Int):Nat→(List ByteArray)→trials_changes→Int→Option Int
  | 0,_,_,_=>none
  | k+1,a0,a1q0,v8 =>
    bif decide (v8<(a0.length:Int)) then
    ((at? a0 v8).bind fun x1 =>
    (trials_changes_affects_2.f x1 a1q0).bind fun y1 =>
    bif y1 then
    (some v8)
    else
    ((slices_IndexFunc_string_3.l2 e1 k) a0 a1q0 (w64 (v8+1))))
    else
    (e1)
def slices_IndexFunc_string_3.f (a0:List ByteArray) (a1q0:trials_changes):Option Int :=
  slices_IndexFunc_string_3.l2 slices_IndexFunc_string_3.e1 big a0 a1q0 0
def slices_ContainsFunc_string_3.f (a0:List ByteArray) (a1q0:trials_changes):Option Bool :=
  (slices_IndexFunc_string_3.f a0 a1q0).bind fun y1 =>
  some (decide (0≤y1))
def trials_changes_affects.f (a0:trials_changes) (a1:TestReads):Option Bool :=
  (slices_ContainsFunc_string_2.f a1.Paths a0).bind fun y1 =>
  bif y1 then
  (some true)
  else
  ((slices_ContainsFunc_string_3.f a1.Looked a0).bind fun y2 =>
  some y2)
def trials_Affected.e1 (v_out9:List ByteArray):Option ((List ByteArray) × Int) :=
  some (v_out9,0)
def trials_Affected.j3 (backl2:(List TestReads)→(trials_changes × Int)→(List ByteArray)→Int→Option ((List ByteArray) × Int)) (a0:List TestReads) (y2:trials_changes × Int) (v27:Int) (v_out9:List ByteArray):Option ((List ByteArray) × Int) :=
  backl2 a0 y2 v_out9 (w64 (v27+1))
def trials_Affected.l2 (e1:(List ByteArray)→Option ((List ByteArray) × Int)):Nat→(List TestReads)→(trials_changes × Int)→(List ByteArray)→Int→Option ((List ByteArray) × Int)
  | 0,_,_,_,_=>none
  | k+1,a0,y2,v_out9,v27 =>
    bif decide (v27<(a0.length:Int)) then
    ((at? a0 v27).bind fun x1 =>
    (trials_changes_affects.f (⟨y2.1.other,y2.1.fresh,y2.1.over⟩:trials_changes) x1).bind fun y3 =>
    bif y3 then
    (guard? (room v_out9.length 1 16) (
    trials_Affected.j3 ((trials_Affected.l2 e1 k)) a0 y2 v27 (v_out9++([x1.Test]:List ByteArray))))
    else
    (trials_Affected.j3 ((trials_Affected.l2 e1 k)) a0 y2 v27 v_out9))
    else
    (e1 v_out9)
def trials_Affected.f (a0:List TestReads) (a1:List TreeChange):Option ((List ByteArray) × Int) :=
  (trials_CheckReads.f a0).bind fun y1 =>
  bif y1 != 0 then
  (some (([]:List ByteArray),y1))
  else
  ((trials_changesOf.f a1).bind fun y2 =>
  bif y2.2 != 0 then
  (some (([]:List ByteArray),y2.2))
  else
  (trials_Affected.l2 trials_Affected.e1 big a0 y2 ([]:List ByteArray) 0))
def trials_Tried.e1 (a0:Int):Option (Int × Int × Int) :=
  some (3,a0,0)
def trials_Tried.j3 (backl2:Int→Int→(List Bool)→Int→Int→Option (Int × Int × Int)) (a0:Int) (a1:Int) (a2:List Bool) (v28:Int) (v_passed9:Int):Option (Int × Int × Int) :=
  (bif v_passed9 == a1 then (some ((w64 (v28+1)) == a1)) else (some false)).bind fun t2 =>
  bif t2 then
  (some (2,w64 (v28+1),0))
  else
  (bif v_passed9 == a1 then
  (some (4,w64 (v28+1),0))
  else
  (bif decide ((w64 ((w64 (v_passed9+a0)) - (w64 (v28+1))))<a1) then
  (some (3,w64 (v28+1),0))
  else
  (backl2 a0 a1 a2 v_passed9 (w64 (v28+1)))))
def trials_Tried.l2 (e1:Int→Option (Int × Int × Int)):Nat→Int→Int→(List Bool)→Int→Int→Option (Int × Int × Int)
  | 0,_,_,_,_,_=>none
  | k+1,a0,a1,a2,v_passed9,v28 =>
    bif decide (v28<(a2.length:Int)) then
    ((at? a2 v28).bind fun x1 =>
    bif x1 then
    (trials_Tried.j3 ((trials_Tried.l2 e1 k)) a0 a1 a2 v28 (w64 (v_passed9+1)))
    else
    (trials_Tried.j3 ((trials_Tried.l2 e1 k)) a0 a1 a2 v28 v_passed9))
    else
    (e1 a0)
def trials_Tried.f (a0:Int) (a1:Int) (a2:List Bool):Option (Int × Int × Int) :=
  ((trials_within.f a0 1 100).bind fun y1 =>
  bif !y1 then (some true) else ((trials_within.f a1 1 a0).bind fun y2 =>
  some (!y2))).bind fun t1 =>
  bif t1 then
  (some (0,0,1))
  else
  (bif (a2.length:Int) != a0 then
  (some (0,0,3))
  else
  (trials_Tried.l2 trials_Tried.e1 big a0 a1 a2 0 0))
def smithyardlaw10_awake.f :Option Bool :=
  (trials_Tried.f 3 1 ([false,true,true]:List Bool)).bind fun y1 =>
  (bif y1.2.2 == 0 then (bif y1.1 == 4 then (some (y1.2.1 == 2)) else (some false)) else (some false)).bind fun t1 =>
  some t1
def smithyardref10_Below.j1 (v_x0:Int):Option Int :=
  some v_x0
def smithyardref10_Below.f (a0:Int) (a1:Int):Option Int :=
  guard? (a1 != 0) (
  bif decide ((a0.tmod a1)<0) then
  (smithyardref10_Below.j1 (w64 ((a0.tmod a1)+a1)))
  else
  (smithyardref10_Below.j1 (a0.tmod a1)))
def slices_Grow_string.f (a0:List ByteArray) (a1:Int):Option (List ByteArray):=guard? (a0.isEmpty&&(decide ((0:Int)≤a1)&&room 0 a1.toNat 16)) (some ([]:List ByteArray))
def slices_Concat_string.e2 (v_newslice6:List ByteArray):Option (List ByteArray) :=
  some v_newslice6
def slices_Concat_string.l3 (e2:(List ByteArray)→Option (List ByteArray)):Nat→(List (List ByteArray))→(List ByteArray)→Int→Option (List ByteArray)
  | 0,_,_,_=>none
  | k+1,a0,v_newslice6,v27 =>
    bif decide (v27<(a0.length:Int)) then
    ((at? a0 v27).bind fun x1 =>
    guard? (room v_newslice6.length x1.length 16) (
    (slices_Concat_string.l3 e2 k) a0 (v_newslice6++x1) (w64 (v27+1))))
    else
    (e2 v_newslice6)
def slices_Concat_string.e1 (a0:List (List ByteArray)) (v_size3:Int):Option (List ByteArray) :=
  (slices_Grow_string.f ([]:List ByteArray) v_size3).bind fun y1 =>
  slices_Concat_string.l3 slices_Concat_string.e2 big a0 y1 0
def slices_Concat_string.j5 (backl4:(List (List ByteArray))→Int→Int→Option (List ByteArray)) (a0:List (List ByteArray)) (v_size3:Int) (v11:Int) (x2:List ByteArray):Option (List ByteArray) :=
  backl4 a0 (w64 (v_size3+(x2.length:Int))) (w64 (v11+1))
def slices_Concat_string.l4 (e1:(List (List ByteArray))→Int→Option (List ByteArray)):Nat→(List (List ByteArray))→Int→Int→Option (List ByteArray)
  | 0,_,_,_=>none
  | k+1,a0,v_size3,v11 =>
    bif decide (v11<(a0.length:Int)) then
    ((at? a0 v11).bind fun x2 =>
    bif decide ((w64 (v_size3+(x2.length:Int)))<0) then
    (none)
    else
    (slices_Concat_string.j5 ((slices_Concat_string.l4 e1 k)) a0 v_size3 v11 x2))
    else
    (e1 a0 v_size3)
def slices_Concat_string.f (a0:List (List ByteArray)):Option (List ByteArray) :=
  slices_Concat_string.l4 slices_Concat_string.e1 big a0 0 0
def slices_Sort_string.f (a0:List ByteArray):Option (List ByteArray):=guard? (decide (a0.length<4611686018427387904)) (some (((a0.map (fun s=>s.data.toList)).mergeSort fun x y=>decide (x≤y)).map fun l=>(⟨l.toArray⟩:ByteArray)))
def slices_Compact_string.f (a0:List ByteArray):Option (List ByteArray):=guard? (decide (a0.length<4611686018427387904)) (some ((Lib.compact (a0.map (fun s=>s.data.toList))).map fun l=>(⟨l.toArray⟩:ByteArray)))
def slices_Equal_string.e1 :Option Bool :=
  some true
def slices_Equal_string.l2 (e1:Option Bool):Nat→(List ByteArray)→(List ByteArray)→Int→Option Bool
  | 0,_,_,_=>none
  | k+1,a0,a1,v13 =>
    bif decide (v13<(a0.length:Int)) then
    ((at? a0 v13).bind fun x1 =>
    (at? a1 v13).bind fun x2 =>
    bif !sEq x1 x2 then
    (some false)
    else
    ((slices_Equal_string.l2 e1 k) a0 a1 (w64 (v13+1))))
    else
    (e1)
def slices_Equal_string.f (a0:List ByteArray) (a1:List ByteArray):Option Bool :=
  bif (a0.length:Int) != (a1.length:Int) then
  (some false)
  else
  (slices_Equal_string.l2 slices_Equal_string.e1 big a0 a1 0)
def smithyardlaw10_TrialsAffectedByParts.f (a0:List TestReads) (a1:List TreeChange) (a2:Int):Option Bool :=
  (trials_Affected.f a0 a1).bind fun y1 =>
  bif y1.2 != 0 then
  ((bif (y1.1.length:Int) == 0 then ((smithyardlaw10_awake.f).bind fun y2 =>
  some y2) else (some false)).bind fun t1 =>
  some t1)
  else
  ((smithyardref10_Below.f a2 (w64 ((a1.length:Int)+1))).bind fun y3 =>
  guard? (decide ((0:Int)≤y3)&&decide (y3≤((a1.length:Nat):Int))) (
  (trials_Affected.f a0 (a1.take y3.toNat)).bind fun y4 =>
  guard? (decide ((0:Int)≤y3)&&decide (y3≤((a1.length:Nat):Int))) (
  (trials_Affected.f a0 (a1.drop y3.toNat)).bind fun y5 =>
  (bif y4.2 != 0 then (some true) else (some (y5.2 != 0))).bind fun t2 =>
  bif t2 then
  (some false)
  else
  ((slices_Concat_string.f ([y4.1,y5.1]:List (List ByteArray))).bind fun y6 =>
  (slices_Sort_string.f y6).bind fun y7 =>
  ((slices_Compact_string.f y7).bind fun y8 =>
  (slices_Equal_string.f y8 y1.1).bind fun y9 =>
  bif y9 then ((smithyardlaw10_awake.f).bind fun y10 =>
  some y10) else (some false)).bind fun t3 =>
  some t3))))
end Go.Proofs.YtkgbgapheigjcaaDoor
