/- Plain functions, each written by program out of one Go function's operations. -/
import Derived.Test.YtedkdnhhohcocaaDoorKitP
import Derived.Lib.SlTrimSet
import Derived.Lib.SplitLaws
import Derived.Lib.Bytealg
set_option linter.unusedVariables false
namespace Go.Proofs.YtedkdnhhohcocaaDoor
open Go Go.Proofs.YtedkdnhhohcocaaDoor.Kit
structure TestCase where
  Name:ByteArray
  Seconds:Int
  deriving Inhabited,DecidableEq
structure Test where
  Name:ByteArray
  Cases:List TestCase
  deriving Inhabited,DecidableEq
def slices_Clone_TestCase.f (a0:List TestCase):Option (List TestCase):=guard? (room 0 a0.length 24) (some a0)
def smithyardref10_CopyTest.f (a0:Test):Option Test :=
  (slices_Clone_TestCase.f a0.Cases).bind fun y1 =>
  some (⟨a0.Name,y1⟩:Test)
def slices_Clone_string.f (a0:List ByteArray):Option (List ByteArray):=guard? (room 0 a0.length 16) (some a0)
def smithyardref10_CopyRows.e1 (v_out3:List (List ByteArray)):Option (List (List ByteArray)) :=
  some v_out3
def smithyardref10_CopyRows.l2 (e1:(List (List ByteArray))→Option (List (List ByteArray))):Nat→(List (List ByteArray))→(List (List ByteArray))→Int→Option (List (List ByteArray))
  | 0,_,_,_=>none
  | k+1,a0,v_out3,v8 =>
    bif decide (v8<(a0.length:Int)) then
    ((at? a0 v8).bind fun x1 =>
    (slices_Clone_string.f x1).bind fun y1 =>
    guard? (room v_out3.length 1 24) (
    (smithyardref10_CopyRows.l2 e1 k) a0 (v_out3++([y1]:List (List ByteArray))) (w64 (v8+1))))
    else
    (e1 v_out3)
def smithyardref10_CopyRows.f (a0:List (List ByteArray)):Option (List (List ByteArray)) :=
  smithyardref10_CopyRows.l2 smithyardref10_CopyRows.e1 big a0 ([]:List (List ByteArray)) 0
def strings_Split.f (a0 a1:ByteArray):Option (List ByteArray):=guard? (decide (a0.size<4294967281)&&decide (1≤a1.size)) (some (Lib.splitB a1 0 (Lib.countB a0 a1) a0))
def strings_IndexByte.f (a0:ByteArray) (a1:Int):Option Int:=some (Lib.indexByte a0.data.toList a1.toNat.toUInt8)
def blob_inPart.f (a0:Int):Option Bool :=
  (bif decide (97≤a0) then (bif decide (a0≤122) then (some true) else (bif decide (65≤a0) then (bif decide (a0≤90) then (some true) else (bif decide (48≤a0) then (bif decide (a0≤57) then (some true) else ((strings_IndexByte.f ({ data:=#[46,95,45,43] }:ByteArray) a0).bind fun y1 =>
  some (decide (0≤y1)))) else ((strings_IndexByte.f ({ data:=#[46,95,45,43] }:ByteArray) a0).bind fun y2 =>
  some (decide (0≤y2))))) else (bif decide (48≤a0) then (bif decide (a0≤57) then (some true) else ((strings_IndexByte.f ({ data:=#[46,95,45,43] }:ByteArray) a0).bind fun y3 =>
  some (decide (0≤y3)))) else ((strings_IndexByte.f ({ data:=#[46,95,45,43] }:ByteArray) a0).bind fun y4 =>
  some (decide (0≤y4)))))) else (bif decide (65≤a0) then (bif decide (a0≤90) then (some true) else (bif decide (48≤a0) then (bif decide (a0≤57) then (some true) else ((strings_IndexByte.f ({ data:=#[46,95,45,43] }:ByteArray) a0).bind fun y5 =>
  some (decide (0≤y5)))) else ((strings_IndexByte.f ({ data:=#[46,95,45,43] }:ByteArray) a0).bind fun y6 =>
  some (decide (0≤y6))))) else (bif decide (48≤a0) then (bif decide (a0≤57) then (some true) else ((strings_IndexByte.f ({ data:=#[46,95,45,43] }:ByteArray) a0).bind fun y7 =>
  some (decide (0≤y7)))) else ((strings_IndexByte.f ({ data:=#[46,95,45,43] }:ByteArray) a0).bind fun y8 =>
  some (decide (0≤y8)))))).bind fun t1 =>
  some t1
def blob_isPart.e1 (a0:ByteArray):Option Bool :=
  (bif !sEq a0 ({ data:=#[] }:ByteArray) then (bif !sEq a0 ({ data:=#[46] }:ByteArray) then (some (!sEq a0 ({ data:=#[46,46] }:ByteArray))) else (some false)) else (some false)).bind fun t1 =>
  some t1
def blob_isPart.l2 (e1:ByteArray→Option Bool):Nat→ByteArray→Int→Option Bool
  | 0,_,_=>none
  | k+1,a0,v6 =>
    bif decide (v6<(a0.size:Int)) then
    (guard? (decide ((0:Int)≤v6)&&decide (v6<(a0.size:Int))) (
    (blob_inPart.f (bt a0 v6)).bind fun y1 =>
    bif !y1 then
    (some false)
    else
    ((blob_isPart.l2 e1 k) a0 (w64 (v6+1)))))
    else
    (e1 a0)
def blob_isPart.f (a0:ByteArray):Option Bool :=
  blob_isPart.l2 blob_isPart.e1 big a0 0
def blob_IsPath.e1 :Option Bool :=
  some true
def blob_IsPath.l2 (e1:Option Bool):Nat→(List ByteArray)→Int→Option Bool
  | 0,_,_=>none
  | k+1,y1,v16 =>
    bif decide (v16<(y1.length:Int)) then
    ((at? y1 v16).bind fun x1 =>
    (blob_isPart.f x1).bind fun y2 =>
    bif !y2 then
    (some false)
    else
    ((blob_IsPath.l2 e1 k) y1 (w64 (v16+1))))
    else
    (e1)
def blob_IsPath.f (a0:ByteArray):Option Bool :=
  (bif decide ((a0.size:Int)<1) then (some true) else (some (decide (200<(a0.size:Int))))).bind fun t1 =>
  bif t1 then
  (some false)
  else
  ((strings_Split.f a0 ({ data:=#[47] }:ByteArray)).bind fun y1 =>
  blob_IsPath.l2 blob_IsPath.e1 big y1 0)
def strings_Trim.f (a0:ByteArray) (a1:ByteArray):Option ByteArray:=guard? (decide (a0.size≤9223372036854775807)&&(decide (a1.size<4294967281)&&a1.data.toList.all (fun b=>decide (b.toNat<128)))) (some (⟨(Lib.trimS a0.data.toList a1.data.toList).toArray⟩))
def config_IsWord.f (a0:ByteArray):Option Bool :=
  (bif decide ((a0.size:Int)<1) then (some true) else (bif decide (40<(a0.size:Int)) then (some true) else (guard? (decide ((0:Int)≤0)&&decide (0<(a0.size:Int))) (
  bif decide ((bt a0 0)<97) then (some true) else (guard? (decide ((0:Int)≤0)&&decide (0<(a0.size:Int))) (
  some (decide (122<(bt a0 0))))))))).bind fun t1 =>
  bif t1 then
  (some false)
  else
  ((strings_Trim.f a0 ({ data:=#[97,98,99,100,101,102,103,104,105,106,107,108,109,110,111,112,113,114,115,116,117,118,119,120,121,122,48,49,50,51,52,53,54,55,56,57,95,45] }:ByteArray)).bind fun y1 =>
  some (sEq y1 ({ data:=#[] }:ByteArray)))
def trials_within.f (a0:Int) (a1:Int) (a2:Int):Option Bool :=
  (bif decide (a1≤a0) then (some (decide (a0≤a2))) else (some false)).bind fun t1 =>
  some t1
def trials_CheckTest.e1 :Option Int :=
  some 0
def trials_CheckTest.l2 (e1:Option Int):Nat→Test→Int→Option Int
  | 0,_,_=>none
  | k+1,a0,v23 =>
    bif decide (v23<(a0.Cases.length:Int)) then
    ((at? a0.Cases v23).bind fun x1 =>
    (config_IsWord.f x1.Name).bind fun y2 =>
    bif !y2 then
    (some 5)
    else
    ((trials_within.f x1.Seconds 0 100000).bind fun y3 =>
    bif !y3 then
    (some 1)
    else
    ((bif decide (0<v23) then ((at? a0.Cases (w64 (v23 - 1))).bind fun x2 =>
    some (sLt x1.Name x2.Name||sEq x1.Name x2.Name)) else (some false)).bind fun t1 =>
    bif t1 then
    (some 8)
    else
    ((trials_CheckTest.l2 e1 k) a0 (w64 (v23+1))))))
    else
    (e1)
def trials_CheckTest.f (a0:Test):Option Int :=
  (blob_IsPath.f a0.Name).bind fun y1 =>
  bif !y1 then
  (some 5)
  else
  (bif (a0.Cases.length:Int) == 0 then
  (some 9)
  else
  (bif decide (500<(a0.Cases.length:Int)) then
  (some 2)
  else
  (trials_CheckTest.l2 trials_CheckTest.e1 big a0 0)))
def cmp_isNaN_int.f (a0:Int):Option Bool :=
  some (a0 != a0)
def cmp_Compare_int.f (a0:Int) (a1:Int):Option Int :=
  (cmp_isNaN_int.f a0).bind fun y1 =>
  (cmp_isNaN_int.f a1).bind fun y2 =>
  bif y1 then
  (bif y2 then
  (some 0)
  else
  (some (-1)))
  else
  (bif y2 then
  (some 1)
  else
  (bif decide (a0<a1) then
  (some (-1))
  else
  (bif decide (a1<a0) then
  (some 1)
  else
  (some 0))))
def trials_Shards_1.f (a0:TestCase) (a1:TestCase):Option Int :=
  (cmp_Compare_int.f a1.Seconds a0.Seconds).bind fun y1 =>
  some y1
def slices_insertionSortCmpFunc_TestCase.e2 (backl1:Int→Int→(List TestCase)→Int→Option (List TestCase)) (a1:Int) (a2:Int) (v_i8:Int) (v_data0:List TestCase):Option (List TestCase) :=
  backl1 a1 a2 v_data0 (w64 (v_i8+1))
def slices_insertionSortCmpFunc_TestCase.l3 (e2:Int→Int→Int→(List TestCase)→Option (List TestCase)):Nat→Int→Int→Int→(List TestCase)→Int→Option (List TestCase)
  | 0,_,_,_,_,_=>none
  | k+1,a1,a2,v_i8,v_data0,v_j9 =>
    (bif decide (a1<v_j9) then ((at? v_data0 v_j9).bind fun x1 =>
    (at? v_data0 (w64 (v_j9 - 1))).bind fun x2 =>
    (trials_Shards_1.f x1 x2).bind fun y1 =>
    some (decide (y1<0))) else (some false)).bind fun t1 =>
    bif t1 then
    ((at? v_data0 (w64 (v_j9 - 1))).bind fun x3 =>
    (at? v_data0 v_j9).bind fun x4 =>
    (at? (v_data0.set v_j9.toNat x3) (w64 (v_j9 - 1))).bind fun x5 =>
    (slices_insertionSortCmpFunc_TestCase.l3 e2 k) a1 a2 v_i8 ((v_data0.set v_j9.toNat x3).set (w64 (v_j9 - 1)).toNat x4) (w64 (v_j9 - 1)))
    else
    (e2 a1 a2 v_i8 v_data0)
def slices_insertionSortCmpFunc_TestCase.l1:Nat→Int→Int→(List TestCase)→Int→Option (List TestCase)
  | 0,_,_,_,_=>none
  | k+1,a1,a2,v_data0,v_i8 =>
    bif decide (v_i8<a2) then
    (slices_insertionSortCmpFunc_TestCase.l3 (slices_insertionSortCmpFunc_TestCase.e2 ((slices_insertionSortCmpFunc_TestCase.l1 k))) big a1 a2 v_i8 v_data0 v_i8)
    else
    (some v_data0)
def slices_insertionSortCmpFunc_TestCase.f (a0:List TestCase) (a1:Int) (a2:Int):Option (List TestCase) :=
  slices_insertionSortCmpFunc_TestCase.l1 big a1 a2 a0 (w64 (a1+1))
def slices_swapRangeCmpFunc_TestCase.l1:Nat→Int→Int→Int→(List TestCase)→Int→Option (List TestCase)
  | 0,_,_,_,_,_=>none
  | k+1,a1,a2,a3,v_data0,v_i10 =>
    bif decide (v_i10<a3) then
    ((at? v_data0 (w64 (a2+v_i10))).bind fun x1 =>
    (at? v_data0 (w64 (a1+v_i10))).bind fun x2 =>
    (at? (v_data0.set (w64 (a1+v_i10)).toNat x1) (w64 (a2+v_i10))).bind fun x3 =>
    (slices_swapRangeCmpFunc_TestCase.l1 k) a1 a2 a3 ((v_data0.set (w64 (a1+v_i10)).toNat x1).set (w64 (a2+v_i10)).toNat x2) (w64 (v_i10+1)))
    else
    (some v_data0)
def slices_swapRangeCmpFunc_TestCase.f (a0:List TestCase) (a1:Int) (a2:Int) (a3:Int):Option (List TestCase) :=
  slices_swapRangeCmpFunc_TestCase.l1 big a1 a2 a3 a0 0
def slices_rotateCmpFunc_TestCase.e1 (a2:Int) (v_data0:List TestCase) (v_i10:Int):Option (List TestCase) :=
  (slices_swapRangeCmpFunc_TestCase.f v_data0 (w64 (a2 - v_i10)) a2 v_i10).bind fun y1 =>
  some y1
def slices_rotateCmpFunc_TestCase.l2 (e1:Int→(List TestCase)→Int→Option (List TestCase)):Nat→Int→(List TestCase)→Int→Int→Option (List TestCase)
  | 0,_,_,_,_=>none
  | k+1,a2,v_data0,v_i10,v_j11 =>
    bif v_i10 != v_j11 then
    (bif decide (v_j11<v_i10) then
    ((slices_swapRangeCmpFunc_TestCase.f v_data0 (w64 (a2 - v_i10)) a2 v_j11).bind fun y2 =>
    (slices_rotateCmpFunc_TestCase.l2 e1 k) a2 y2 (w64 (v_i10 - v_j11)) v_j11)
    else
    ((slices_swapRangeCmpFunc_TestCase.f v_data0 (w64 (a2 - v_i10)) (w64 ((w64 (a2+v_j11)) - v_i10)) v_i10).bind fun y3 =>
    (slices_rotateCmpFunc_TestCase.l2 e1 k) a2 y3 v_i10 (w64 (v_j11 - v_i10))))
    else
    (e1 a2 v_data0 v_i10)
def slices_rotateCmpFunc_TestCase.f (a0:List TestCase) (a1:Int) (a2:Int) (a3:Int):Option (List TestCase) :=
  slices_rotateCmpFunc_TestCase.l2 slices_rotateCmpFunc_TestCase.e1 big a2 a0 (w64 (a2 - a1)) (w64 (a3 - a2))
def slices_symMergeCmpFunc_TestCase.l2:Nat→Int→(List TestCase)→Int→Option (List TestCase)
  | 0,_,_,_=>none
  | k+1,v_i10,v_data0,v_k13 =>
    bif decide (v_k13<(w64 (v_i10 - 1))) then
    ((at? v_data0 (w64 (v_k13+1))).bind fun x1 =>
    (at? v_data0 v_k13).bind fun x2 =>
    (at? (v_data0.set v_k13.toNat x1) (w64 (v_k13+1))).bind fun x3 =>
    (slices_symMergeCmpFunc_TestCase.l2 k) v_i10 ((v_data0.set v_k13.toNat x1).set (w64 (v_k13+1)).toNat x2) (w64 (v_k13+1)))
    else
    (some v_data0)
def slices_symMergeCmpFunc_TestCase.e1 (a0:List TestCase) (a1:Int) (v_i10:Int):Option (List TestCase) :=
  slices_symMergeCmpFunc_TestCase.l2 big v_i10 a0 a1
def slices_symMergeCmpFunc_TestCase.l3 (e1:(List TestCase)→Int→Int→Option (List TestCase)):Nat→(List TestCase)→Int→Int→Int→Option (List TestCase)
  | 0,_,_,_,_=>none
  | k+1,a0,a1,v_i10,v_j11 =>
    bif decide (v_i10<v_j11) then
    ((at? a0 (w64 (iShr .u64 (IntKind.wrap .u64 (w64 (v_i10+v_j11))) 1))).bind fun x4 =>
    (at? a0 a1).bind fun x5 =>
    (trials_Shards_1.f x4 x5).bind fun y1 =>
    bif decide (y1<0) then
    ((slices_symMergeCmpFunc_TestCase.l3 e1 k) a0 a1 (w64 ((w64 (iShr .u64 (IntKind.wrap .u64 (w64 (v_i10+v_j11))) 1))+1)) v_j11)
    else
    ((slices_symMergeCmpFunc_TestCase.l3 e1 k) a0 a1 v_i10 (w64 (iShr .u64 (IntKind.wrap .u64 (w64 (v_i10+v_j11))) 1))))
    else
    (e1 a0 a1 v_i10)
def slices_symMergeCmpFunc_TestCase.l5:Nat→Int→(List TestCase)→Int→Option (List TestCase)
  | 0,_,_,_=>none
  | k+1,v_i14,v_data0,v_k17 =>
    bif decide (v_i14<v_k17) then
    ((at? v_data0 (w64 (v_k17 - 1))).bind fun x6 =>
    (at? v_data0 v_k17).bind fun x7 =>
    (at? (v_data0.set v_k17.toNat x6) (w64 (v_k17 - 1))).bind fun x8 =>
    (slices_symMergeCmpFunc_TestCase.l5 k) v_i14 ((v_data0.set v_k17.toNat x6).set (w64 (v_k17 - 1)).toNat x7) (w64 (v_k17 - 1)))
    else
    (some v_data0)
def slices_symMergeCmpFunc_TestCase.e4 (a0:List TestCase) (a2:Int) (v_i14:Int):Option (List TestCase) :=
  slices_symMergeCmpFunc_TestCase.l5 big v_i14 a0 a2
def slices_symMergeCmpFunc_TestCase.l6 (e4:(List TestCase)→Int→Int→Option (List TestCase)):Nat→(List TestCase)→Int→Int→Int→Option (List TestCase)
  | 0,_,_,_,_=>none
  | k+1,a0,a2,v_i14,v_j15 =>
    bif decide (v_i14<v_j15) then
    ((at? a0 a2).bind fun x9 =>
    (at? a0 (w64 (iShr .u64 (IntKind.wrap .u64 (w64 (v_i14+v_j15))) 1))).bind fun x10 =>
    (trials_Shards_1.f x9 x10).bind fun y2 =>
    bif !(decide (y2<0)) then
    ((slices_symMergeCmpFunc_TestCase.l6 e4 k) a0 a2 (w64 ((w64 (iShr .u64 (IntKind.wrap .u64 (w64 (v_i14+v_j15))) 1))+1)) v_j15)
    else
    ((slices_symMergeCmpFunc_TestCase.l6 e4 k) a0 a2 v_i14 (w64 (iShr .u64 (IntKind.wrap .u64 (w64 (v_i14+v_j15))) 1))))
    else
    (e4 a0 a2 v_i14)
def slices_symMergeCmpFunc_TestCase.j11 (v_data0:List TestCase):Option (List TestCase) :=
  some v_data0
def slices_symMergeCmpFunc_TestCase.j10 (rec_:(List TestCase)→Int→Int→Int→Option (List TestCase)) (a1:Int) (a2:Int) (a3:Int) (v_start20:Int) (v_data0:List TestCase):Option (List TestCase) :=
  (bif decide ((w64 (iShr .u64 (IntKind.wrap .u64 (w64 (a1+a3))) 1))<(w64 ((w64 ((w64 (iShr .u64 (IntKind.wrap .u64 (w64 (a1+a3))) 1))+a2)) - v_start20))) then (some (decide ((w64 ((w64 ((w64 (iShr .u64 (IntKind.wrap .u64 (w64 (a1+a3))) 1))+a2)) - v_start20))<a3))) else (some false)).bind fun t3 =>
  bif t3 then
  ((rec_ v_data0 (w64 (iShr .u64 (IntKind.wrap .u64 (w64 (a1+a3))) 1)) (w64 ((w64 ((w64 (iShr .u64 (IntKind.wrap .u64 (w64 (a1+a3))) 1))+a2)) - v_start20)) a3).bind fun y3 =>
  slices_symMergeCmpFunc_TestCase.j11 y3)
  else
  (slices_symMergeCmpFunc_TestCase.j11 v_data0)
def slices_symMergeCmpFunc_TestCase.j9 (rec_:(List TestCase)→Int→Int→Int→Option (List TestCase)) (a1:Int) (a2:Int) (a3:Int) (v_start20:Int) (v_data0:List TestCase):Option (List TestCase) :=
  (bif decide (a1<v_start20) then (some (decide (v_start20<(w64 (iShr .u64 (IntKind.wrap .u64 (w64 (a1+a3))) 1))))) else (some false)).bind fun t2 =>
  bif t2 then
  ((rec_ v_data0 a1 v_start20 (w64 (iShr .u64 (IntKind.wrap .u64 (w64 (a1+a3))) 1))).bind fun y4 =>
  slices_symMergeCmpFunc_TestCase.j10 rec_ a1 a2 a3 v_start20 y4)
  else
  (slices_symMergeCmpFunc_TestCase.j10 rec_ a1 a2 a3 v_start20 v_data0)
def slices_symMergeCmpFunc_TestCase.e8 (rec_:(List TestCase)→Int→Int→Int→Option (List TestCase)) (a0:List TestCase) (a1:Int) (a2:Int) (a3:Int) (v_start20:Int):Option (List TestCase) :=
  (bif decide (v_start20<a2) then (some (decide (a2<(w64 ((w64 ((w64 (iShr .u64 (IntKind.wrap .u64 (w64 (a1+a3))) 1))+a2)) - v_start20))))) else (some false)).bind fun t1 =>
  bif t1 then
  ((slices_rotateCmpFunc_TestCase.f a0 v_start20 a2 (w64 ((w64 ((w64 (iShr .u64 (IntKind.wrap .u64 (w64 (a1+a3))) 1))+a2)) - v_start20))).bind fun y5 =>
  slices_symMergeCmpFunc_TestCase.j9 rec_ a1 a2 a3 v_start20 y5)
  else
  (slices_symMergeCmpFunc_TestCase.j9 rec_ a1 a2 a3 v_start20 a0)
def slices_symMergeCmpFunc_TestCase.l12 (e8:(List TestCase)→Int→Int→Int→Int→Option (List TestCase)):Nat→(List TestCase)→Int→Int→Int→Int→Int→Option (List TestCase)
  | 0,_,_,_,_,_,_=>none
  | k+1,a0,a1,a2,a3,v_start20,v_r21 =>
    bif decide (v_start20<v_r21) then
    ((at? a0 (w64 ((w64 ((w64 ((w64 (iShr .u64 (IntKind.wrap .u64 (w64 (a1+a3))) 1))+a2)) - 1)) - (w64 (iShr .u64 (IntKind.wrap .u64 (w64 (v_start20+v_r21))) 1))))).bind fun x11 =>
    (at? a0 (w64 (iShr .u64 (IntKind.wrap .u64 (w64 (v_start20+v_r21))) 1))).bind fun x12 =>
    (trials_Shards_1.f x11 x12).bind fun y6 =>
    bif !(decide (y6<0)) then
    ((slices_symMergeCmpFunc_TestCase.l12 e8 k) a0 a1 a2 a3 (w64 ((w64 (iShr .u64 (IntKind.wrap .u64 (w64 (v_start20+v_r21))) 1))+1)) v_r21)
    else
    ((slices_symMergeCmpFunc_TestCase.l12 e8 k) a0 a1 a2 a3 v_start20 (w64 (iShr .u64 (IntKind.wrap .u64 (w64 (v_start20+v_r21))) 1))))
    else
    (e8 a0 a1 a2 a3 v_start20)
def slices_symMergeCmpFunc_TestCase.j7 (rec_:(List TestCase)→Int→Int→Int→Option (List TestCase)) (a0:List TestCase) (a1:Int) (a2:Int) (a3:Int) (v_start20:Int) (v_r21:Int):Option (List TestCase) :=
  slices_symMergeCmpFunc_TestCase.l12 (slices_symMergeCmpFunc_TestCase.e8 rec_) big a0 a1 a2 a3 v_start20 v_r21
def slices_symMergeCmpFunc_TestCase.g (rec_:(List TestCase)→Int→Int→Int→Option (List TestCase)) (a0:List TestCase) (a1:Int) (a2:Int) (a3:Int):Option (List TestCase) :=
  bif (w64 (a2 - a1)) == 1 then
  (slices_symMergeCmpFunc_TestCase.l3 slices_symMergeCmpFunc_TestCase.e1 big a0 a1 a2 a3)
  else
  (bif (w64 (a3 - a2)) == 1 then
  (slices_symMergeCmpFunc_TestCase.l6 slices_symMergeCmpFunc_TestCase.e4 big a0 a2 a1 a2)
  else
  (bif decide ((w64 (iShr .u64 (IntKind.wrap .u64 (w64 (a1+a3))) 1))<a2) then
  (slices_symMergeCmpFunc_TestCase.j7 rec_ a0 a1 a2 a3 (w64 ((w64 ((w64 (iShr .u64 (IntKind.wrap .u64 (w64 (a1+a3))) 1))+a2)) - a3)) (w64 (iShr .u64 (IntKind.wrap .u64 (w64 (a1+a3))) 1)))
  else
  (slices_symMergeCmpFunc_TestCase.j7 rec_ a0 a1 a2 a3 a1 a2)))
def slices_symMergeCmpFunc_TestCase.fk:Nat→(List TestCase)→Int→Int→Int→Option (List TestCase)
  | 0,_,_,_,_=>none
  | k+1,a0,a1,a2,a3=>slices_symMergeCmpFunc_TestCase.g (slices_symMergeCmpFunc_TestCase.fk k) a0 a1 a2 a3
def slices_symMergeCmpFunc_TestCase.f (a0:List TestCase) (a1:Int) (a2:Int) (a3:Int):Option (List TestCase):=slices_symMergeCmpFunc_TestCase.fk big a0 a1 a2 a3
def slices_stableCmpFunc_TestCase.j4 (backl2:Int→(List TestCase)→Int→Option (List TestCase)) (a1:Int) (v_blockSize6:Int) (v_data0:List TestCase):Option (List TestCase) :=
  backl2 a1 v_data0 (w64 (v_blockSize6*2))
def slices_stableCmpFunc_TestCase.e3 (backl2:Int→(List TestCase)→Int→Option (List TestCase)) (a1:Int) (v_data0:List TestCase) (v_blockSize6:Int) (v_a7:Int):Option (List TestCase) :=
  bif decide ((w64 (v_a7+v_blockSize6))<a1) then
  ((slices_symMergeCmpFunc_TestCase.f v_data0 v_a7 (w64 (v_a7+v_blockSize6)) a1).bind fun y2 =>
  slices_stableCmpFunc_TestCase.j4 backl2 a1 v_blockSize6 y2)
  else
  (slices_stableCmpFunc_TestCase.j4 backl2 a1 v_blockSize6 v_data0)
def slices_stableCmpFunc_TestCase.l5 (e3:Int→(List TestCase)→Int→Int→Option (List TestCase)):Nat→Int→Int→(List TestCase)→Int→Int→Option (List TestCase)
  | 0,_,_,_,_,_=>none
  | k+1,a1,v_blockSize6,v_data0,v_a7,v_b8 =>
    bif decide (v_b8≤a1) then
    ((slices_symMergeCmpFunc_TestCase.f v_data0 v_a7 (w64 (v_a7+v_blockSize6)) v_b8).bind fun y3 =>
    (slices_stableCmpFunc_TestCase.l5 e3 k) a1 v_blockSize6 y3 v_b8 (w64 (v_b8+(w64 (2*v_blockSize6)))))
    else
    (e3 a1 v_data0 v_blockSize6 v_a7)
def slices_stableCmpFunc_TestCase.l2:Nat→Int→(List TestCase)→Int→Option (List TestCase)
  | 0,_,_,_=>none
  | k+1,a1,v_data0,v_blockSize6 =>
    bif decide (v_blockSize6<a1) then
    (slices_stableCmpFunc_TestCase.l5 (slices_stableCmpFunc_TestCase.e3 ((slices_stableCmpFunc_TestCase.l2 k))) big a1 v_blockSize6 v_data0 0 (w64 (2*v_blockSize6)))
    else
    (some v_data0)
def slices_stableCmpFunc_TestCase.e1 (a1:Int) (v_data0:List TestCase) (v_a7:Int):Option (List TestCase) :=
  (slices_insertionSortCmpFunc_TestCase.f v_data0 v_a7 a1).bind fun y1 =>
  slices_stableCmpFunc_TestCase.l2 big a1 y1 20
def slices_stableCmpFunc_TestCase.l6 (e1:Int→(List TestCase)→Int→Option (List TestCase)):Nat→Int→(List TestCase)→Int→Int→Option (List TestCase)
  | 0,_,_,_,_=>none
  | k+1,a1,v_data0,v_a7,v_b8 =>
    bif decide (v_b8≤a1) then
    ((slices_insertionSortCmpFunc_TestCase.f v_data0 v_a7 v_b8).bind fun y4 =>
    (slices_stableCmpFunc_TestCase.l6 e1 k) a1 y4 v_b8 (w64 (v_b8+20)))
    else
    (e1 a1 v_data0 v_a7)
def slices_stableCmpFunc_TestCase.f (a0:List TestCase) (a1:Int):Option (List TestCase) :=
  slices_stableCmpFunc_TestCase.l6 slices_stableCmpFunc_TestCase.e1 big a1 a0 0 20
def slices_SortStableFunc_TestCase.f (a0:List TestCase):Option (List TestCase) :=
  (slices_stableCmpFunc_TestCase.f a0 (a0.length:Int)).bind fun y1 =>
  some y1
def slices_Sort_string.f (a0:List ByteArray):Option (List ByteArray):=guard? (decide (a0.length<4611686018427387904)) (some (((a0.map (fun s=>s.data.toList)).mergeSort fun x y=>decide (x≤y)).map fun l=>(⟨l.toArray⟩:ByteArray)))
def slices_Min_int.e2 (v_m3:Int):Option Int :=
  some v_m3
def slices_Min_int.l3 (e2:Int→Option Int):Nat→(List Int)→Int→Int→Option Int
  | 0,_,_,_=>none
  | k+1,a0,v_m3,v_i4 =>
    bif decide (v_i4<(a0.length:Int)) then
    ((at? a0 v_i4).bind fun x2 =>
    (slices_Min_int.l3 e2 k) a0 (min2 v_m3 x2) (w64 (v_i4+1)))
    else
    (e2 v_m3)
def slices_Min_int.j1 (a0:List Int):Option Int :=
  (at? a0 0).bind fun x1 =>
  slices_Min_int.l3 slices_Min_int.e2 big a0 x1 1
def slices_Min_int.f (a0:List Int):Option Int :=
  bif decide ((a0.length:Int)<1) then
  (none)
  else
  (slices_Min_int.j1 a0)
def slices_Index_int.e1 :Option Int :=
  some (-1)
def slices_Index_int.l2 (e1:Option Int):Nat→(List Int)→Int→Int→Option Int
  | 0,_,_,_=>none
  | k+1,a0,a1,v8 =>
    bif decide (v8<(a0.length:Int)) then
    ((at? a0 v8).bind fun x1 =>
    bif a1 == x1 then
    (some v8)
    else
    ((slices_Index_int.l2 e1 k) a0 a1 (w64 (v8+1))))
    else
    (e1)
def slices_Index_int.f (a0:List Int) (a1:Int):Option Int :=
  slices_Index_int.l2 slices_Index_int.e1 big a0 a1 0
def trials_Shards.e2 (v_out8:List (List ByteArray)):Option ((List (List ByteArray)) × Int) :=
  some (v_out8,0)
def trials_Shards.l3 (e2:(List (List ByteArray))→Option ((List (List ByteArray)) × Int)):Nat→(List (List ByteArray))→(List (List ByteArray))→Int→Option ((List (List ByteArray)) × Int)
  | 0,_,_,_=>none
  | k+1,v_out8,v_out8q,v66 =>
    bif decide (v66<(v_out8.length:Int)) then
    ((at? v_out8q v66).bind fun x1 =>
    (slices_Sort_string.f x1).bind fun y5 =>
    (trials_Shards.l3 e2 k) v_out8 (List.set v_out8q v66.toNat y5) (w64 (v66+1)))
    else
    (e2 v_out8q)
def trials_Shards.e1 (v_out8:List (List ByteArray)):Option ((List (List ByteArray)) × Int) :=
  trials_Shards.l3 trials_Shards.e2 big v_out8 v_out8 0
def trials_Shards.l4 (e1:(List (List ByteArray))→Option ((List (List ByteArray)) × Int)):Nat→(List TestCase)→(List TestCase)→(List (List ByteArray))→(List Int)→Int→Option ((List (List ByteArray)) × Int)
  | 0,_,_,_,_,_=>none
  | k+1,y3,y4,v_out8,v_sum9,v34 =>
    bif decide (v34<(y3.length:Int)) then
    ((at? y4 v34).bind fun x2 =>
    (slices_Min_int.f v_sum9).bind fun y6 =>
    (slices_Index_int.f v_sum9 y6).bind fun y7 =>
    (at? v_out8 y7).bind fun x3 =>
    (at? v_sum9 y7).bind fun x4 =>
    guard? (room x3.length 1 16) (
    (trials_Shards.l4 e1 k) y3 y4 (List.set v_out8 y7.toNat (x3++([x2.Name]:List ByteArray))) (v_sum9.set y7.toNat (w64 (x4+x2.Seconds))) (w64 (v34+1))))
    else
    (e1 v_out8)
def trials_Shards.f (a0:Test) (a1:Int):Option ((List (List ByteArray)) × Int) :=
  (trials_CheckTest.f a0).bind fun y1 =>
  bif y1 != 0 then
  (some (([]:List (List ByteArray)),y1))
  else
  ((trials_within.f a1 1 100).bind fun y2 =>
  bif !y2 then
  (some (([]:List (List ByteArray)),1))
  else
  ((slices_Clone_TestCase.f a0.Cases).bind fun y3 =>
  (slices_SortStableFunc_TestCase.f y3).bind fun y4 =>
  guard? (decide ((0:Int)≤a1)&&room 0 a1.toNat 8) (
  guard? (decide ((0:Int)≤a1)&&room 0 a1.toNat 24) (
  trials_Shards.l4 trials_Shards.e1 big y3 y4 (List.replicate a1.toNat ([]:List ByteArray)) (List.replicate a1.toNat (0:Int)) 0))))
def smithyardref10_within.f (a0:Int) (a1:Int) (a2:Int):Option Bool :=
  (bif decide (a1≤a0) then (some (decide (a0≤a2))) else (some false)).bind fun t1 =>
  some t1
def smithyardref10_isPart.e1 (a0:ByteArray):Option Bool :=
  (bif !sEq a0 ({ data:=#[] }:ByteArray) then (bif !sEq a0 ({ data:=#[46] }:ByteArray) then (some (!sEq a0 ({ data:=#[46,46] }:ByteArray))) else (some false)) else (some false)).bind fun t1 =>
  some t1
def smithyardref10_isPart.l2 (e1:ByteArray→Option Bool):Nat→ByteArray→Int→Option Bool
  | 0,_,_=>none
  | k+1,a0,v7 =>
    bif decide (v7<(a0.size:Int)) then
    (guard? (decide ((0:Int)≤v7)&&decide (v7<(a0.size:Int))) (
    (bif decide ((bt a0 v7)<97) then (bif decide ((bt a0 v7)<65) then (bif decide ((bt a0 v7)<48) then ((strings_IndexByte.f ({ data:=#[46,95,45,43] }:ByteArray) (bt a0 v7)).bind fun y1 =>
    some (decide (y1<0))) else (bif decide (57<(bt a0 v7)) then ((strings_IndexByte.f ({ data:=#[46,95,45,43] }:ByteArray) (bt a0 v7)).bind fun y2 =>
    some (decide (y2<0))) else (some false))) else (bif decide (90<(bt a0 v7)) then (bif decide ((bt a0 v7)<48) then ((strings_IndexByte.f ({ data:=#[46,95,45,43] }:ByteArray) (bt a0 v7)).bind fun y3 =>
    some (decide (y3<0))) else (bif decide (57<(bt a0 v7)) then ((strings_IndexByte.f ({ data:=#[46,95,45,43] }:ByteArray) (bt a0 v7)).bind fun y4 =>
    some (decide (y4<0))) else (some false))) else (some false))) else (bif decide (122<(bt a0 v7)) then (bif decide ((bt a0 v7)<65) then (bif decide ((bt a0 v7)<48) then ((strings_IndexByte.f ({ data:=#[46,95,45,43] }:ByteArray) (bt a0 v7)).bind fun y5 =>
    some (decide (y5<0))) else (bif decide (57<(bt a0 v7)) then ((strings_IndexByte.f ({ data:=#[46,95,45,43] }:ByteArray) (bt a0 v7)).bind fun y6 =>
    some (decide (y6<0))) else (some false))) else (bif decide (90<(bt a0 v7)) then (bif decide ((bt a0 v7)<48) then ((strings_IndexByte.f ({ data:=#[46,95,45,43] }:ByteArray) (bt a0 v7)).bind fun y7 =>
    some (decide (y7<0))) else (bif decide (57<(bt a0 v7)) then ((strings_IndexByte.f ({ data:=#[46,95,45,43] }:ByteArray) (bt a0 v7)).bind fun y8 =>
    some (decide (y8<0))) else (some false))) else (some false))) else (some false))).bind fun t2 =>
    bif t2 then
    (some false)
    else
    ((smithyardref10_isPart.l2 e1 k) a0 (w64 (v7+1)))))
    else
    (e1 a0)
def smithyardref10_isPart.f (a0:ByteArray):Option Bool :=
  smithyardref10_isPart.l2 smithyardref10_isPart.e1 big a0 0
def smithyardref10_isPath.e1 (a0:ByteArray):Option Bool :=
  (smithyardref10_within.f (a0.size:Int) 1 200).bind fun y2 =>
  some y2
def smithyardref10_isPath.l2 (e1:ByteArray→Option Bool):Nat→ByteArray→(List ByteArray)→Int→Option Bool
  | 0,_,_,_=>none
  | k+1,a0,y1,v8 =>
    bif decide (v8<(y1.length:Int)) then
    ((at? y1 v8).bind fun x1 =>
    (smithyardref10_isPart.f x1).bind fun y3 =>
    bif !y3 then
    (some false)
    else
    ((smithyardref10_isPath.l2 e1 k) a0 y1 (w64 (v8+1))))
    else
    (e1 a0)
def smithyardref10_isPath.f (a0:ByteArray):Option Bool :=
  (strings_Split.f a0 ({ data:=#[47] }:ByteArray)).bind fun y1 =>
  smithyardref10_isPath.l2 smithyardref10_isPath.e1 big a0 y1 0
def smithyardref10_isWord.e1 :Option Bool :=
  some true
def smithyardref10_isWord.l2 (e1:Option Bool):Nat→ByteArray→Int→Option Bool
  | 0,_,_=>none
  | k+1,a0,v21 =>
    bif decide (v21<(a0.size:Int)) then
    (guard? (decide ((0:Int)≤v21)&&decide (v21<(a0.size:Int))) (
    (bif decide ((bt a0 v21)<97) then (bif decide ((bt a0 v21)<48) then (bif (bt a0 v21) != 45 then (some ((bt a0 v21) != 95)) else (some false)) else (bif decide (57<(bt a0 v21)) then (bif (bt a0 v21) != 45 then (some ((bt a0 v21) != 95)) else (some false)) else (some false))) else (bif decide (122<(bt a0 v21)) then (bif decide ((bt a0 v21)<48) then (bif (bt a0 v21) != 45 then (some ((bt a0 v21) != 95)) else (some false)) else (bif decide (57<(bt a0 v21)) then (bif (bt a0 v21) != 45 then (some ((bt a0 v21) != 95)) else (some false)) else (some false))) else (some false))).bind fun t2 =>
    bif t2 then
    (some false)
    else
    ((smithyardref10_isWord.l2 e1 k) a0 (w64 (v21+1)))))
    else
    (e1)
def smithyardref10_isWord.f (a0:ByteArray):Option Bool :=
  ((smithyardref10_within.f (a0.size:Int) 1 40).bind fun y1 =>
  bif !y1 then (some true) else (guard? (decide ((0:Int)≤0)&&decide (0<(a0.size:Int))) (
  bif decide ((bt a0 0)<97) then (some true) else (guard? (decide ((0:Int)≤0)&&decide (0<(a0.size:Int))) (
  some (decide (122<(bt a0 0)))))))).bind fun t1 =>
  bif t1 then
  (some false)
  else
  (smithyardref10_isWord.l2 smithyardref10_isWord.e1 big a0 0)
def smithyardref10_CheckTest.e1 :Option Int :=
  some 0
def smithyardref10_CheckTest.l2 (e1:Option Int):Nat→Test→Int→Option Int
  | 0,_,_=>none
  | k+1,a0,v23 =>
    bif decide (v23<(a0.Cases.length:Int)) then
    ((at? a0.Cases v23).bind fun x1 =>
    (smithyardref10_isWord.f x1.Name).bind fun y2 =>
    bif !y2 then
    (some 5)
    else
    ((smithyardref10_within.f x1.Seconds 0 100000).bind fun y3 =>
    bif !y3 then
    (some 1)
    else
    ((bif decide (0<v23) then ((at? a0.Cases (w64 (v23 - 1))).bind fun x2 =>
    some (sLt x1.Name x2.Name||sEq x1.Name x2.Name)) else (some false)).bind fun t1 =>
    bif t1 then
    (some 8)
    else
    ((smithyardref10_CheckTest.l2 e1 k) a0 (w64 (v23+1))))))
    else
    (e1)
def smithyardref10_CheckTest.f (a0:Test):Option Int :=
  (smithyardref10_isPath.f a0.Name).bind fun y1 =>
  bif !y1 then
  (some 5)
  else
  (bif (a0.Cases.length:Int) == 0 then
  (some 9)
  else
  (bif decide (500<(a0.Cases.length:Int)) then
  (some 2)
  else
  (smithyardref10_CheckTest.l2 smithyardref10_CheckTest.e1 big a0 0)))
def slices_Insert_TestCase.f (a0:List TestCase) (a1:Int) (a2:List TestCase):Option (List TestCase):=guard? (decide ((0:Int)≤a1)&&(decide (a1≤(a0.length:Int))&&(decide (0<a2.length)&&room a0.length a2.length 24))) (some (a0.take a1.toNat++a2++a0.drop a1.toNat))
def smithyardref10_Shards.e3 (v_out11:List (List ByteArray)):Option ((List (List ByteArray)) × Int) :=
  some (v_out11,0)
def smithyardref10_Shards.l4 (e3:(List (List ByteArray))→Option ((List (List ByteArray)) × Int)):Nat→(List (List ByteArray))→(List (List ByteArray))→Int→Option ((List (List ByteArray)) × Int)
  | 0,_,_,_=>none
  | k+1,v_out11,v_out11q,v106 =>
    bif decide (v106<(v_out11.length:Int)) then
    ((at? v_out11q v106).bind fun x1 =>
    (slices_Sort_string.f x1).bind fun y3 =>
    (smithyardref10_Shards.l4 e3 k) v_out11 (List.set v_out11q v106.toNat y3) (w64 (v106+1)))
    else
    (e3 v_out11q)
def smithyardref10_Shards.e2 (v_out11:List (List ByteArray)):Option ((List (List ByteArray)) × Int) :=
  smithyardref10_Shards.l4 smithyardref10_Shards.e3 big v_out11 v_out11 0
def smithyardref10_Shards.e6 (backl5:(List TestCase)→(List (List ByteArray))→(List Int)→Int→Option ((List (List ByteArray)) × Int)) (v_l7:List TestCase) (v_out11:List (List ByteArray)) (v_sum12:List Int) (v63:Int) (x2:TestCase) (v_k15:Int):Option ((List (List ByteArray)) × Int) :=
  (at? v_out11 v_k15).bind fun x3 =>
  (at? v_sum12 v_k15).bind fun x4 =>
  guard? (room x3.length 1 16) (
  backl5 v_l7 (List.set v_out11 v_k15.toNat (x3++([x2.Name]:List ByteArray))) (v_sum12.set v_k15.toNat (w64 (x4+x2.Seconds))) (w64 (v63+1)))
def smithyardref10_Shards.j8 (backl7:(List TestCase)→(List (List ByteArray))→(List Int)→Int→TestCase→Int→Int→Option ((List (List ByteArray)) × Int)) (v_l7:List TestCase) (v_out11:List (List ByteArray)) (v_sum12:List Int) (v63:Int) (x2:TestCase) (v69:Int) (v_k15:Int):Option ((List (List ByteArray)) × Int) :=
  backl7 v_l7 v_out11 v_sum12 v63 x2 v_k15 (w64 (v69+1))
def smithyardref10_Shards.l7 (e6:(List TestCase)→(List (List ByteArray))→(List Int)→Int→TestCase→Int→Option ((List (List ByteArray)) × Int)):Nat→(List TestCase)→(List (List ByteArray))→(List Int)→Int→TestCase→Int→Int→Option ((List (List ByteArray)) × Int)
  | 0,_,_,_,_,_,_,_=>none
  | k+1,v_l7,v_out11,v_sum12,v63,x2,v_k15,v69 =>
    bif decide (v69<(v_sum12.length:Int)) then
    ((at? v_sum12 v69).bind fun x5 =>
    (at? v_sum12 v_k15).bind fun x6 =>
    bif decide (x5<x6) then
    (smithyardref10_Shards.j8 ((smithyardref10_Shards.l7 e6 k)) v_l7 v_out11 v_sum12 v63 x2 v69 v69)
    else
    (smithyardref10_Shards.j8 ((smithyardref10_Shards.l7 e6 k)) v_l7 v_out11 v_sum12 v63 x2 v69 v_k15))
    else
    (e6 v_l7 v_out11 v_sum12 v63 x2 v_k15)
def smithyardref10_Shards.l5 (e2:(List (List ByteArray))→Option ((List (List ByteArray)) × Int)):Nat→(List TestCase)→(List (List ByteArray))→(List Int)→Int→Option ((List (List ByteArray)) × Int)
  | 0,_,_,_,_=>none
  | k+1,v_l7,v_out11,v_sum12,v63 =>
    bif decide (v63<(v_l7.length:Int)) then
    ((at? v_l7 v63).bind fun x2 =>
    smithyardref10_Shards.l7 (smithyardref10_Shards.e6 ((smithyardref10_Shards.l5 e2 k))) big v_l7 v_out11 v_sum12 v63 x2 0 0)
    else
    (e2 v_out11)
def smithyardref10_Shards.e1 (a1:Int) (v_l7:List TestCase):Option ((List (List ByteArray)) × Int) :=
  guard? (decide ((0:Int)≤a1)&&room 0 a1.toNat 24) (
  guard? (decide ((0:Int)≤a1)&&room 0 a1.toNat 8) (
  smithyardref10_Shards.l5 smithyardref10_Shards.e2 big v_l7 (List.replicate a1.toNat ([]:List ByteArray)) (List.replicate a1.toNat (0)) 0))
def smithyardref10_Shards.e10 (backl9:Test→Int→(List TestCase)→Int→Option ((List (List ByteArray)) × Int)) (a0:Test) (a1:Int) (v_l7:List TestCase) (v30:Int) (x7:TestCase) (v_at10:Int):Option ((List (List ByteArray)) × Int) :=
  (slices_Insert_TestCase.f v_l7 v_at10 ([x7]:List TestCase)).bind fun y4 =>
  backl9 a0 a1 y4 (w64 (v30+1))
def smithyardref10_Shards.l11 (e10:Test→Int→(List TestCase)→Int→TestCase→Int→Option ((List (List ByteArray)) × Int)):Nat→Test→Int→(List TestCase)→Int→TestCase→Int→Option ((List (List ByteArray)) × Int)
  | 0,_,_,_,_,_,_=>none
  | k+1,a0,a1,v_l7,v30,x7,v_at10 =>
    (bif decide (0<v_at10) then ((at? v_l7 (w64 (v_at10 - 1))).bind fun x8 =>
    some (decide (x8.Seconds<x7.Seconds))) else (some false)).bind fun t1 =>
    bif t1 then
    ((smithyardref10_Shards.l11 e10 k) a0 a1 v_l7 v30 x7 (w64 (v_at10 - 1)))
    else
    (e10 a0 a1 v_l7 v30 x7 v_at10)
def smithyardref10_Shards.l9 (e1:Int→(List TestCase)→Option ((List (List ByteArray)) × Int)):Nat→Test→Int→(List TestCase)→Int→Option ((List (List ByteArray)) × Int)
  | 0,_,_,_,_=>none
  | k+1,a0,a1,v_l7,v30 =>
    bif decide (v30<(a0.Cases.length:Int)) then
    ((at? a0.Cases v30).bind fun x7 =>
    smithyardref10_Shards.l11 (smithyardref10_Shards.e10 ((smithyardref10_Shards.l9 e1 k))) big a0 a1 v_l7 v30 x7 (v_l7.length:Int))
    else
    (e1 a1 v_l7)
def smithyardref10_Shards.f (a0:Test) (a1:Int):Option ((List (List ByteArray)) × Int) :=
  (smithyardref10_CheckTest.f a0).bind fun y1 =>
  bif y1 != 0 then
  (some (([]:List (List ByteArray)),y1))
  else
  ((smithyardref10_within.f a1 1 100).bind fun y2 =>
  bif !y2 then
  (some (([]:List (List ByteArray)),1))
  else
  (smithyardref10_Shards.l9 smithyardref10_Shards.e1 big a0 a1 ([]:List TestCase) 0))
def slices_Equal_string.e1 :Option Bool :=
  some true
def slices_Equal_string.l2 (e1:Option Bool):Nat→(List ByteArray)→(List ByteArray)→Int→Option Bool
  | 0,_,_,_=>none
  | k+1,a0,a1,v13 =>
    bif decide (v13<(a0.length:Int)) then
    ((at? a0 v13).bind fun x1 =>
    (at? a1 v13).bind fun x2 =>
    bif !sEq x1 x2 then
    (some false)
    else
    ((slices_Equal_string.l2 e1 k) a0 a1 (w64 (v13+1))))
    else
    (e1)
def slices_Equal_string.f (a0:List ByteArray) (a1:List ByteArray):Option Bool :=
  bif (a0.length:Int) != (a1.length:Int) then
  (some false)
  else
  (slices_Equal_string.l2 slices_Equal_string.e1 big a0 a1 0)
def smithyardref10_SameRows.e1 :Option Bool :=
  some true
def smithyardref10_SameRows.l2 (e1:Option Bool):Nat→(List (List ByteArray))→(List (List ByteArray))→Int→Option Bool
  | 0,_,_,_=>none
  | k+1,a0,a1,v13 =>
    bif decide (v13<(a0.length:Int)) then
    ((at? a0 v13).bind fun x1 =>
    (at? a1 v13).bind fun x2 =>
    (slices_Equal_string.f x1 x2).bind fun y1 =>
    bif !y1 then
    (some false)
    else
    ((smithyardref10_SameRows.l2 e1 k) a0 a1 (w64 (v13+1))))
    else
    (e1)
def smithyardref10_SameRows.f (a0:List (List ByteArray)) (a1:List (List ByteArray)):Option Bool :=
  bif (a0.length:Int) != (a1.length:Int) then
  (some false)
  else
  (smithyardref10_SameRows.l2 smithyardref10_SameRows.e1 big a0 a1 0)
def trials_Longest.e2 (a0:Test) (v_seen8:List (ByteArray × Bool)) (v_most11:Int):Option (Int × Int) :=
  bif decide (((v_seen8).length:Int)<(a0.Cases.length:Int)) then
  (some (0,12))
  else
  (some (v_most11,0))
def trials_Longest.e4 (backl3:Test→(List (List ByteArray))→(List (ByteArray × Int))→(List (ByteArray × Bool))→Int→Int→Option (Int × Int)) (a0:Test) (a1:List (List ByteArray)) (v_took7:List (ByteArray × Int)) (v_most11:Int) (v44:Int) (v_seen8:List (ByteArray × Bool)) (v_sum14:Int):Option (Int × Int) :=
  backl3 a0 a1 v_took7 v_seen8 (max2 v_most11 v_sum14) (w64 (v44+1))
def trials_Longest.l5 (e4:Test→(List (List ByteArray))→(List (ByteArray × Int))→Int→Int→(List (ByteArray × Bool))→Int→Option (Int × Int)):Nat→Test→(List (List ByteArray))→(List (ByteArray × Int))→Int→Int→(List ByteArray)→(List (ByteArray × Bool))→Int→Int→Option (Int × Int)
  | 0,_,_,_,_,_,_,_,_,_=>none
  | k+1,a0,a1,v_took7,v_most11,v44,x1,v_seen8,v_sum14,v50 =>
    bif decide (v50<(x1.length:Int)) then
    ((at? x1 v50).bind fun x2 =>
    bif !(mhas v_took7 x2) then
    (some (0,9))
    else
    (bif mgetD v_seen8 x2 false then
    (some (0,7))
    else
    ((trials_Longest.l5 e4 k) a0 a1 v_took7 v_most11 v44 x1 (mput v_seen8 x2 true) (w64 (v_sum14+(mgetD v_took7 x2 0))) (w64 (v50+1)))))
    else
    (e4 a0 a1 v_took7 v_most11 v44 v_seen8 v_sum14)
def trials_Longest.l3 (e2:Test→(List (ByteArray × Bool))→Int→Option (Int × Int)):Nat→Test→(List (List ByteArray))→(List (ByteArray × Int))→(List (ByteArray × Bool))→Int→Int→Option (Int × Int)
  | 0,_,_,_,_,_,_=>none
  | k+1,a0,a1,v_took7,v_seen8,v_most11,v44 =>
    bif decide (v44<(a1.length:Int)) then
    ((at? a1 v44).bind fun x1 =>
    trials_Longest.l5 (trials_Longest.e4 ((trials_Longest.l3 e2 k))) big a0 a1 v_took7 v_most11 v44 x1 v_seen8 0 0)
    else
    (e2 a0 v_seen8 v_most11)
def trials_Longest.e1 (a0:Test) (a1:List (List ByteArray)) (v_took7:List (ByteArray × Int)):Option (Int × Int) :=
  trials_Longest.l3 trials_Longest.e2 big a0 a1 v_took7 ([]:List (ByteArray × Bool)) 0 0
def trials_Longest.l6 (e1:Test→(List (List ByteArray))→(List (ByteArray × Int))→Option (Int × Int)):Nat→Test→(List (List ByteArray))→(List (ByteArray × Int))→Int→Option (Int × Int)
  | 0,_,_,_,_=>none
  | k+1,a0,a1,v_took7,v32 =>
    bif decide (v32<(a0.Cases.length:Int)) then
    ((at? a0.Cases v32).bind fun x3 =>
    (trials_Longest.l6 e1 k) a0 a1 (mput v_took7 x3.Name x3.Seconds) (w64 (v32+1)))
    else
    (e1 a0 a1 v_took7)
def trials_Longest.f (a0:Test) (a1:List (List ByteArray)):Option (Int × Int) :=
  (trials_CheckTest.f a0).bind fun y1 =>
  bif y1 != 0 then
  (some (0,y1))
  else
  (bif decide (100<(a1.length:Int)) then
  (some (0,2))
  else
  (trials_Longest.l6 trials_Longest.e1 big a0 a1 ([]:List (ByteArray × Int)) 0))
def slices_Index_bool.e1 :Option Int :=
  some (-1)
def slices_Index_bool.l2 (e1:Option Int):Nat→(List Bool)→Bool→Int→Option Int
  | 0,_,_,_=>none
  | k+1,a0,a1,v8 =>
    bif decide (v8<(a0.length:Int)) then
    ((at? a0 v8).bind fun x1 =>
    bif a1 == x1 then
    (some v8)
    else
    ((slices_Index_bool.l2 e1 k) a0 a1 (w64 (v8+1))))
    else
    (e1)
def slices_Index_bool.f (a0:List Bool) (a1:Bool):Option Int :=
  slices_Index_bool.l2 slices_Index_bool.e1 big a0 a1 0
def slices_Contains_bool.f (a0:List Bool) (a1:Bool):Option Bool :=
  (slices_Index_bool.f a0 a1).bind fun y1 =>
  some (decide (0≤y1))
def smithyardref10_caseOf.e1 :Option Int :=
  some (-1)
def smithyardref10_caseOf.l2 (e1:Option Int):Nat→Test→ByteArray→Int→Option Int
  | 0,_,_,_=>none
  | k+1,a0,a1,v10 =>
    bif decide (v10<(a0.Cases.length:Int)) then
    ((at? a0.Cases v10).bind fun x1 =>
    bif sEq x1.Name a1 then
    (some v10)
    else
    ((smithyardref10_caseOf.l2 e1 k) a0 a1 (w64 (v10+1))))
    else
    (e1)
def smithyardref10_caseOf.f (a0:Test) (a1:ByteArray):Option Int :=
  smithyardref10_caseOf.l2 smithyardref10_caseOf.e1 big a0 a1 0
def smithyardref10_Longest.e1 (v_seen7:List Bool) (v_most8:Int):Option (Int × Int) :=
  (slices_Contains_bool.f v_seen7 false).bind fun y2 =>
  bif y2 then
  (some (0,12))
  else
  (some (v_most8,0))
def smithyardref10_Longest.e3 (backl2:Test→(List (List ByteArray))→(List Bool)→Int→Int→Option (Int × Int)) (a0:Test) (a1:List (List ByteArray)) (v_most8:Int) (v29:Int) (v_seen7:List Bool) (v_sum11:Int):Option (Int × Int) :=
  backl2 a0 a1 v_seen7 (max2 v_most8 v_sum11) (w64 (v29+1))
def smithyardref10_Longest.l4 (e3:Test→(List (List ByteArray))→Int→Int→(List Bool)→Int→Option (Int × Int)):Nat→Test→(List (List ByteArray))→Int→Int→(List ByteArray)→(List Bool)→Int→Int→Option (Int × Int)
  | 0,_,_,_,_,_,_,_,_=>none
  | k+1,a0,a1,v_most8,v29,x1,v_seen7,v_sum11,v35 =>
    bif decide (v35<(x1.length:Int)) then
    ((at? x1 v35).bind fun x2 =>
    (smithyardref10_caseOf.f a0 x2).bind fun y3 =>
    bif decide (y3<0) then
    (some (0,9))
    else
    ((at? v_seen7 y3).bind fun x3 =>
    bif x3 then
    (some (0,7))
    else
    ((at? a0.Cases y3).bind fun x4 =>
    (at? v_seen7 y3).bind fun x5 =>
    (smithyardref10_Longest.l4 e3 k) a0 a1 v_most8 v29 x1 (v_seen7.set y3.toNat true) (w64 (v_sum11+x4.Seconds)) (w64 (v35+1)))))
    else
    (e3 a0 a1 v_most8 v29 v_seen7 v_sum11)
def smithyardref10_Longest.l2 (e1:(List Bool)→Int→Option (Int × Int)):Nat→Test→(List (List ByteArray))→(List Bool)→Int→Int→Option (Int × Int)
  | 0,_,_,_,_,_=>none
  | k+1,a0,a1,v_seen7,v_most8,v29 =>
    bif decide (v29<(a1.length:Int)) then
    ((at? a1 v29).bind fun x1 =>
    smithyardref10_Longest.l4 (smithyardref10_Longest.e3 ((smithyardref10_Longest.l2 e1 k))) big a0 a1 v_most8 v29 x1 v_seen7 0 0)
    else
    (e1 v_seen7 v_most8)
def smithyardref10_Longest.f (a0:Test) (a1:List (List ByteArray)):Option (Int × Int) :=
  (smithyardref10_CheckTest.f a0).bind fun y1 =>
  bif y1 != 0 then
  (some (0,y1))
  else
  (bif decide (100<(a1.length:Int)) then
  (some (0,2))
  else
  (guard? (decide ((0:Int)≤(a0.Cases.length:Int))&&room 0 (a0.Cases.length:Int).toNat 1) (
  smithyardref10_Longest.l2 smithyardref10_Longest.e1 big a0 a1 (List.replicate (a0.Cases.length:Int).toNat (false)) 0 0)))
def slices_Equal_TestCase.e1 :Option Bool :=
  some true
def slices_Equal_TestCase.l2 (e1:Option Bool):Nat→(List TestCase)→(List TestCase)→Int→Option Bool
  | 0,_,_,_=>none
  | k+1,a0,a1,v13 =>
    bif decide (v13<(a0.length:Int)) then
    ((at? a0 v13).bind fun x1 =>
    (at? a1 v13).bind fun x2 =>
    bif !(sEq x1.Name x2.Name&&(x1.Seconds == x2.Seconds&&true)) then
    (some false)
    else
    ((slices_Equal_TestCase.l2 e1 k) a0 a1 (w64 (v13+1))))
    else
    (e1)
def slices_Equal_TestCase.f (a0:List TestCase) (a1:List TestCase):Option Bool :=
  bif (a0.length:Int) != (a1.length:Int) then
  (some false)
  else
  (slices_Equal_TestCase.l2 slices_Equal_TestCase.e1 big a0 a1 0)
def smithyardref10_SameTest.f (a0:Test) (a1:Test):Option Bool :=
  (bif sEq a0.Name a1.Name then ((slices_Equal_TestCase.f a0.Cases a1.Cases).bind fun y1 =>
  some y1) else (some false)).bind fun t1 =>
  some t1
def trials_Tried.e1 (a0:Int):Option (Int × Int × Int) :=
  some (3,a0,0)
def trials_Tried.j3 (backl2:Int→Int→(List Bool)→Int→Int→Option (Int × Int × Int)) (a0:Int) (a1:Int) (a2:List Bool) (v28:Int) (v_passed9:Int):Option (Int × Int × Int) :=
  (bif v_passed9 == a1 then (some ((w64 (v28+1)) == a1)) else (some false)).bind fun t2 =>
  bif t2 then
  (some (2,w64 (v28+1),0))
  else
  (bif v_passed9 == a1 then
  (some (4,w64 (v28+1),0))
  else
  (bif decide ((w64 ((w64 (v_passed9+a0)) - (w64 (v28+1))))<a1) then
  (some (3,w64 (v28+1),0))
  else
  (backl2 a0 a1 a2 v_passed9 (w64 (v28+1)))))
def trials_Tried.l2 (e1:Int→Option (Int × Int × Int)):Nat→Int→Int→(List Bool)→Int→Int→Option (Int × Int × Int)
  | 0,_,_,_,_,_=>none
  | k+1,a0,a1,a2,v_passed9,v28 =>
    bif decide (v28<(a2.length:Int)) then
    ((at? a2 v28).bind fun x1 =>
    bif x1 then
    (trials_Tried.j3 ((trials_Tried.l2 e1 k)) a0 a1 a2 v28 (w64 (v_passed9+1)))
    else
    (trials_Tried.j3 ((trials_Tried.l2 e1 k)) a0 a1 a2 v28 v_passed9))
    else
    (e1 a0)
def trials_Tried.f (a0:Int) (a1:Int) (a2:List Bool):Option (Int × Int × Int) :=
  ((trials_within.f a0 1 100).bind fun y1 =>
  bif !y1 then (some true) else ((trials_within.f a1 1 a0).bind fun y2 =>
  some (!y2))).bind fun t1 =>
  bif t1 then
  (some (0,0,1))
  else
  (bif (a2.length:Int) != a0 then
  (some (0,0,3))
  else
  (trials_Tried.l2 trials_Tried.e1 big a0 a1 a2 0 0))
def smithyardlaw10_awake.f :Option Bool :=
  (trials_Tried.f 3 1 ([false,true,true]:List Bool)).bind fun y1 =>
  (bif y1.2.2 == 0 then (bif y1.1 == 4 then (some (y1.2.1 == 2)) else (some false)) else (some false)).bind fun t1 =>
  some t1
def smithyardlaw10_TrialsShardsMatchSpec.f (a0:Test) (a1:Int) (a2:List (List ByteArray)):Option Bool :=
  (smithyardref10_CopyTest.f a0).bind fun y1 =>
  (smithyardref10_CopyRows.f a2).bind fun y2 =>
  (trials_Shards.f a0 a1).bind fun y3 =>
  (smithyardref10_Shards.f (⟨y1.Name,y1.Cases⟩:Test) a1).bind fun y4 =>
  ((trials_CheckTest.f a0).bind fun y5 =>
  (smithyardref10_CheckTest.f (⟨y1.Name,y1.Cases⟩:Test)).bind fun y6 =>
  bif y5 != y6 then (some true) else (bif y3.2 != y4.2 then (some true) else ((smithyardref10_SameRows.f y3.1 y4.1).bind fun y7 =>
  some (!y7)))).bind fun t1 =>
  bif t1 then
  (some false)
  else
  ((trials_Longest.f a0 a2).bind fun y8 =>
  (smithyardref10_Longest.f (⟨y1.Name,y1.Cases⟩:Test) y2).bind fun y9 =>
  (bif y8.2 == y9.2 then (bif y8.1 == y9.1 then ((smithyardref10_SameTest.f a0 (⟨y1.Name,y1.Cases⟩:Test)).bind fun y10 =>
  bif y10 then ((smithyardref10_SameRows.f a2 y2).bind fun y11 =>
  bif y11 then ((smithyardlaw10_awake.f).bind fun y12 =>
  some y12) else (some false)) else (some false)) else (some false)) else (some false)).bind fun t2 =>
  some t2)
end Go.Proofs.YtedkdnhhohcocaaDoor
