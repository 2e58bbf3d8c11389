/- Plain functions, each written by program out of one Go function's operations. -/
import Derived.Test.YtgmfdaibmaakpaaDoorKitP
import Derived.Lib.SlTrimSet
set_option linter.unusedVariables false
namespace Go.Proofs.YtgmfdaibmaakpaaDoor
open Go Go.Proofs.YtgmfdaibmaakpaaDoor.Kit
structure Pair where
  Name:ByteArray
  Value:ByteArray
  deriving Inhabited,DecidableEq
structure Span where
  From:Int
  To:Int
  deriving Inhabited,DecidableEq
structure Worker where
  Name:ByteArray
  Has:List Pair
  Slots:Int
  Speed:Int
  From:Int
  To:Int
  Stands:List Span
  deriving Inhabited,DecidableEq
def blob_cut.j3 (v_out10:List Int):Option (List Int) :=
  some v_out10
def blob_cut.e2 (a0:List Int) (v_out10:List Int) (v_from12:Int):Option (List Int) :=
  bif decide (v_from12<(a0.length:Int)) then
  (guard? (room v_out10.length 1 8) (
  blob_cut.j3 (v_out10++([w64 ((a0.length:Int) - v_from12)]:List Int))))
  else
  (blob_cut.j3 v_out10)
def blob_cut.j6 (backl4:(List Int)→Int→Int→Int→Int→(List Int)→Int→Int→Int→Option (List Int)) (a0:List Int) (a1:Int) (a2:Int) (a3:Int) (v_power9:Int) (v23:Int) (x1:Int) (v_h11:Int) (v_out10:List Int) (v_from12:Int):Option (List Int) :=
  backl4 a0 a1 a2 a3 v_power9 v_out10 (IntKind.wrap .u32 ((IntKind.wrap .u32 (31*v_h11))+(IntKind.wrap .u32 x1))) v_from12 (w64 (v23+1))
def blob_cut.j5 (backl4:(List Int)→Int→Int→Int→Int→(List Int)→Int→Int→Int→Option (List Int)) (a0:List Int) (a1:Int) (a2:Int) (a3:Int) (v_power9:Int) (v_out10:List Int) (v_from12:Int) (v23:Int) (x1:Int) (v_h11:Int):Option (List Int) :=
  (bif decide (a1≤(w64 ((w64 (v23+1)) - v_from12))) then (guard? (decide ((0:Int)≤a2)) (
  bif (iAnd .u32 (IntKind.wrap .u32 ((IntKind.wrap .u32 (31*v_h11))+(IntKind.wrap .u32 x1))) (IntKind.wrap .u32 ((iShl .u32 1 a2) - 1))) == 0 then (some true) else (some (decide (a3≤(w64 ((w64 (v23+1)) - v_from12))))))) else (some (decide (a3≤(w64 ((w64 (v23+1)) - v_from12)))))).bind fun t1 =>
  bif t1 then
  (guard? (room v_out10.length 1 8) (
  blob_cut.j6 backl4 a0 a1 a2 a3 v_power9 v23 x1 v_h11 (v_out10++([w64 ((w64 (v23+1)) - v_from12)]:List Int)) (w64 (v23+1))))
  else
  (blob_cut.j6 backl4 a0 a1 a2 a3 v_power9 v23 x1 v_h11 v_out10 v_from12)
def blob_cut.l4 (e2:(List Int)→(List Int)→Int→Option (List Int)):Nat→(List Int)→Int→Int→Int→Int→(List Int)→Int→Int→Int→Option (List Int)
  | 0,_,_,_,_,_,_,_,_,_=>none
  | k+1,a0,a1,a2,a3,v_power9,v_out10,v_h11,v_from12,v23 =>
    bif decide (v23<(a0.length:Int)) then
    ((at? a0 v23).bind fun x1 =>
    bif decide (16≤v23) then
    ((at? a0 (w64 (v23 - 16))).bind fun x2 =>
    blob_cut.j5 ((blob_cut.l4 e2 k)) a0 a1 a2 a3 v_power9 v_out10 v_from12 v23 x1 (IntKind.wrap .u32 (v_h11 - (IntKind.wrap .u32 (v_power9*(IntKind.wrap .u32 x2))))))
    else
    (blob_cut.j5 ((blob_cut.l4 e2 k)) a0 a1 a2 a3 v_power9 v_out10 v_from12 v23 x1 v_h11))
    else
    (e2 a0 v_out10 v_from12)
def blob_cut.e1 (a0:List Int) (a1:Int) (a2:Int) (a3:Int) (v_power9:Int):Option (List Int) :=
  blob_cut.l4 blob_cut.e2 big a0 a1 a2 a3 v_power9 ([]:List Int) 0 0 0
def blob_cut.l7 (e1:(List Int)→Int→Int→Int→Int→Option (List Int)):Nat→(List Int)→Int→Int→Int→Int→Int→Option (List Int)
  | 0,_,_,_,_,_,_=>none
  | k+1,a0,a1,a2,a3,v_power9,v16 =>
    bif decide (v16<15) then
    ((blob_cut.l7 e1 k) a0 a1 a2 a3 (IntKind.wrap .u32 (v_power9*31)) (w64 (v16+1)))
    else
    (e1 a0 a1 a2 a3 v_power9)
def blob_cut.f (a0:List Int) (a1:Int) (a2:Int) (a3:Int):Option (List Int) :=
  blob_cut.l7 blob_cut.e1 big a0 a1 a2 a3 1 0
def blob_Pieces.f (a0:List Int) (a1:Int) (a2:Int) (a3:Int):Option ((List Int) × Int) :=
  bif decide (2000000<(a0.length:Int)) then
  (some (([]:List Int),2))
  else
  ((bif decide (a1<1) then (some true) else (bif decide (a3<a1) then (some true) else (bif decide (a2<0) then (some true) else (bif decide (20<a2) then (some true) else (some (decide (100000<a3))))))).bind fun t1 =>
  bif t1 then
  (some (([]:List Int),1))
  else
  ((blob_cut.f a0 a1 a2 a3).bind fun y1 =>
  bif decide (20000<(y1.length:Int)) then
  (some (([]:List Int),2))
  else
  (some (y1,0))))
def strings_Trim.f (a0:ByteArray) (a1:ByteArray):Option ByteArray:=guard? (decide (a0.size≤9223372036854775807)&&(decide (a1.size<4294967281)&&a1.data.toList.all (fun b=>decide (b.toNat<128)))) (some (⟨(Lib.trimS a0.data.toList a1.data.toList).toArray⟩))
def config_IsWord.f (a0:ByteArray):Option Bool :=
  (bif decide ((a0.size:Int)<1) then (some true) else (bif decide (40<(a0.size:Int)) then (some true) else (guard? (decide ((0:Int)≤0)&&decide (0<(a0.size:Int))) (
  bif decide ((bt a0 0)<97) then (some true) else (guard? (decide ((0:Int)≤0)&&decide (0<(a0.size:Int))) (
  some (decide (122<(bt a0 0))))))))).bind fun t1 =>
  bif t1 then
  (some false)
  else
  ((strings_Trim.f a0 ({ data:=#[97,98,99,100,101,102,103,104,105,106,107,108,109,110,111,112,113,114,115,116,117,118,119,120,121,122,48,49,50,51,52,53,54,55,56,57,95,45] }:ByteArray)).bind fun y1 =>
  some (sEq y1 ({ data:=#[] }:ByteArray)))
def config_CheckPairs.e1 :Option Int :=
  some 0
def config_CheckPairs.l2 (e1:Option Int):Nat→(List Pair)→Int→Option Int
  | 0,_,_=>none
  | k+1,a0,v10 =>
    bif decide (v10<(a0.length:Int)) then
    ((at? a0 v10).bind fun x1 =>
    (config_IsWord.f x1.Name).bind fun y1 =>
    bif !y1 then
    (some 5)
    else
    ((config_IsWord.f x1.Value).bind fun y2 =>
    bif !y2 then
    (some 1)
    else
    ((bif decide (0<v10) then ((at? a0 (w64 (v10 - 1))).bind fun x2 =>
    some (sLt x1.Name x2.Name||sEq x1.Name x2.Name)) else (some false)).bind fun t1 =>
    bif t1 then
    (some 8)
    else
    ((config_CheckPairs.l2 e1 k) a0 (w64 (v10+1))))))
    else
    (e1)
def config_CheckPairs.f (a0:List Pair):Option Int :=
  bif decide (30<(a0.length:Int)) then
  (some 2)
  else
  (config_CheckPairs.l2 config_CheckPairs.e1 big a0 0)
def workers_within.f (a0:Int) (a1:Int) (a2:Int):Option Bool :=
  (bif decide (a1≤a0) then (some (decide (a0≤a2))) else (some false)).bind fun t1 =>
  some t1
def workers_isMoment.f (a0:Int):Option Bool :=
  (workers_within.f a0 0 1000000000).bind fun y1 =>
  some y1
def workers_checkStands.e1 :Option Int :=
  some 0
def workers_checkStands.l2 (e1:Option Int):Nat→(List Span)→Int→Option Int
  | 0,_,_=>none
  | k+1,a0,v10 =>
    bif decide (v10<(a0.length:Int)) then
    ((at? a0 v10).bind fun x1 =>
    ((workers_isMoment.f x1.From).bind fun y1 =>
    bif !y1 then (some true) else ((workers_isMoment.f x1.To).bind fun y2 =>
    some (!y2))).bind fun t1 =>
    bif t1 then
    (some 1)
    else
    ((bif decide (x1.To≤x1.From) then (some true) else (bif decide (0<v10) then ((at? a0 (w64 (v10 - 1))).bind fun x2 =>
    some (decide (x1.From<x2.To))) else (some false))).bind fun t2 =>
    bif t2 then
    (some 8)
    else
    ((workers_checkStands.l2 e1 k) a0 (w64 (v10+1)))))
    else
    (e1)
def workers_checkStands.f (a0:List Span):Option Int :=
  bif decide (20<(a0.length:Int)) then
  (some 2)
  else
  (workers_checkStands.l2 workers_checkStands.e1 big a0 0)
def workers_checkWorker.f (a0:Worker):Option Int :=
  (config_IsWord.f a0.Name).bind fun y1 =>
  bif !y1 then
  (some 5)
  else
  ((config_CheckPairs.f a0.Has).bind fun y2 =>
  bif y2 != 0 then
  (some y2)
  else
  (((workers_within.f a0.Slots 1 20).bind fun y3 =>
  bif !y3 then (some true) else ((workers_within.f a0.Speed 1 1000).bind fun y4 =>
  bif !y4 then (some true) else ((workers_isMoment.f a0.From).bind fun y5 =>
  bif !y5 then (some true) else ((workers_isMoment.f a0.To).bind fun y6 =>
  some (!y6))))).bind fun t1 =>
  bif t1 then
  (some 1)
  else
  (bif decide (a0.To≤a0.From) then
  (some 8)
  else
  ((workers_checkStands.f a0.Stands).bind fun y7 =>
  some y7))))
def workers_checkSize.f (a0:Worker) (a1:Int):Option Int :=
  (workers_checkWorker.f a0).bind fun y1 =>
  bif y1 != 0 then
  (some y1)
  else
  ((workers_within.f a1 1 1000000).bind fun y2 =>
  bif !y2 then
  (some 1)
  else
  (some 0))
def workers_seconds.f (a0:Worker) (a1:Int):Option Int :=
  guard? (a0.Speed != 0) (
  some (w64 ((w64 ((w64 (a1+a0.Speed)) - 1)).tdiv a0.Speed)))
def workers_Seconds.f (a0:Worker) (a1:Int):Option (Int × Int) :=
  (workers_checkSize.f a0 a1).bind fun y1 =>
  bif y1 != 0 then
  (some (0,y1))
  else
  ((workers_seconds.f a0 a1).bind fun y2 =>
  some (y2,0))
def blob_Digest.e2 (v_out6:List Int):Option ByteArray :=
  some (strN v_out6)
def blob_Digest.l3 (e2:(List Int)→Option ByteArray):Nat→Int→(List Int)→Int→Option ByteArray
  | 0,_,_,_=>none
  | k+1,v_n3,v_out6,v23 =>
    bif decide (v23<((List.replicate 16 (0)).length:Int)) then
    (guard? (decide ((0:Int)≤(iAnd .u64 v_n3 15))&&decide ((iAnd .u64 v_n3 15)<(({ data:=#[48,49,50,51,52,53,54,55,56,57,97,98,99,100,101,102] }:ByteArray).size:Int))) (
    (at? v_out6 (w64 (15 - v23))).bind fun x1 =>
    (blob_Digest.l3 e2 k) (iShr .u64 v_n3 4) (v_out6.set (w64 (15 - v23)).toNat (bt ({ data:=#[48,49,50,51,52,53,54,55,56,57,97,98,99,100,101,102] }:ByteArray) (iAnd .u64 v_n3 15))) (w64 (v23+1))))
    else
    (e2 v_out6)
def blob_Digest.e1 (v_n3:Int):Option ByteArray :=
  guard? (decide ((0:Int)≤16)&&room 0 16 1) (
  blob_Digest.l3 blob_Digest.e2 big v_n3 (List.replicate 16 (0)) 0)
def blob_Digest.l4 (e1:Int→Option ByteArray):Nat→(List Int)→Int→Int→Option ByteArray
  | 0,_,_,_=>none
  | k+1,a0,v_n3,v10 =>
    bif decide (v10<(a0.length:Int)) then
    ((at? a0 v10).bind fun x2 =>
    (blob_Digest.l4 e1 k) a0 (IntKind.wrap .u64 ((iXor .u64 v_n3 (IntKind.wrap .u64 x2))*1099511628211)) (w64 (v10+1)))
    else
    (e1 v_n3)
def blob_Digest.f (a0:List Int):Option ByteArray :=
  blob_Digest.l4 blob_Digest.e1 big a0 14695981039346656037 0
def smithyardtop_alive.f :Option Bool :=
  (workers_Seconds.f (⟨({ data:=#[97] }:ByteArray),([]:List Pair),1,2,0,1,([]:List Span)⟩:Worker) 3).bind fun y1 =>
  (bif y1.2 == 0 then (bif y1.1 == 2 then ((blob_Digest.f ([]:List Int)).bind fun y2 =>
  some (sEq y2 ({ data:=#[99,98,102,50,57,99,101,52,56,52,50,50,50,51,50,53] }:ByteArray))) else (some false)) else (some false)).bind fun t1 =>
  some t1
def smithyardtop_cutInto.e1 (v_out5:List (List Int)):Option (List (List Int)) :=
  some v_out5
def smithyardtop_cutInto.l2 (e1:(List (List Int))→Option (List (List Int))):Nat→(List Int)→(List Int)→(List (List Int))→Int→Option (List (List Int))
  | 0,_,_,_,_=>none
  | k+1,a1,v_b0,v_out5,v10 =>
    bif decide (v10<(a1.length:Int)) then
    ((at? a1 v10).bind fun x1 =>
    guard? (decide ((0:Int)≤(max2 0 (min2 x1 (v_b0.length:Int))))&&decide ((max2 0 (min2 x1 (v_b0.length:Int)))≤((v_b0.length:Nat):Int))) (
    guard? (room v_out5.length 1 24) (
    guard? (decide ((0:Int)≤(max2 0 (min2 x1 (v_b0.length:Int))))&&decide ((max2 0 (min2 x1 (v_b0.length:Int)))≤((v_b0.length:Nat):Int))) (
    (smithyardtop_cutInto.l2 e1 k) a1 (v_b0.drop (max2 0 (min2 x1 (v_b0.length:Int))).toNat) (v_out5++([(v_b0.take (max2 0 (min2 x1 (v_b0.length:Int))).toNat)]:List (List Int))) (w64 (v10+1))))))
    else
    (e1 v_out5)
def smithyardtop_cutInto.f (a0:List Int) (a1:List Int):Option (List (List Int)) :=
  smithyardtop_cutInto.l2 smithyardtop_cutInto.e1 big a1 a0 ([]:List (List Int)) 0
def wire_checkPieces.e1 (a0:List (List Int)) (v_sum3:Int):Option Int :=
  (bif decide (20000<(a0.length:Int)) then (some true) else (some (decide (2000000<v_sum3)))).bind fun t1 =>
  bif t1 then
  (some 2)
  else
  (some 0)
def wire_checkPieces.l2 (e1:(List (List Int))→Int→Option Int):Nat→(List (List Int))→Int→Int→Option Int
  | 0,_,_,_=>none
  | k+1,a0,v_sum3,v8 =>
    bif decide (v8<(a0.length:Int)) then
    ((at? a0 v8).bind fun x1 =>
    (wire_checkPieces.l2 e1 k) a0 (w64 (v_sum3+(x1.length:Int))) (w64 (v8+1)))
    else
    (e1 a0 v_sum3)
def wire_checkPieces.f (a0:List (List Int)):Option Int :=
  wire_checkPieces.l2 wire_checkPieces.e1 big a0 0 0
def wire_Fresh.e2 (v_out12:List Int) (v_sum13:Int):Option ((List Int) × Int × Int) :=
  some (v_out12,v_sum13,0)
def wire_Fresh.j4 (backl3:(List (List Int))→(List (ByteArray × Bool))→(List Int)→Int→Int→Option ((List Int) × Int × Int)) (a1:List (List Int)) (v39:Int) (v_has9:List (ByteArray × Bool)) (v_out12:List Int) (v_sum13:Int):Option ((List Int) × Int × Int) :=
  backl3 a1 v_has9 v_out12 v_sum13 (w64 (v39+1))
def wire_Fresh.l3 (e2:(List Int)→Int→Option ((List Int) × Int × Int)):Nat→(List (List Int))→(List (ByteArray × Bool))→(List Int)→Int→Int→Option ((List Int) × Int × Int)
  | 0,_,_,_,_,_=>none
  | k+1,a1,v_has9,v_out12,v_sum13,v39 =>
    bif decide (v39<(a1.length:Int)) then
    ((at? a1 v39).bind fun x1 =>
    bif !(mgetD v_has9 (strN x1) false) then
    (guard? (room v_out12.length 1 8) (
    wire_Fresh.j4 ((wire_Fresh.l3 e2 k)) a1 v39 (mput v_has9 (strN x1) true) (v_out12++([v39]:List Int)) (w64 (v_sum13+(x1.length:Int)))))
    else
    (wire_Fresh.j4 ((wire_Fresh.l3 e2 k)) a1 v39 v_has9 v_out12 v_sum13))
    else
    (e2 v_out12 v_sum13)
def wire_Fresh.e1 (a1:List (List Int)) (v_has9:List (ByteArray × Bool)):Option ((List Int) × Int × Int) :=
  wire_Fresh.l3 wire_Fresh.e2 big a1 v_has9 ([]:List Int) 0 0
def wire_Fresh.l5 (e1:(List (List Int))→(List (ByteArray × Bool))→Option ((List Int) × Int × Int)):Nat→(List (List Int))→(List (List Int))→(List (ByteArray × Bool))→Int→Option ((List Int) × Int × Int)
  | 0,_,_,_,_=>none
  | k+1,a0,a1,v_has9,v29 =>
    bif decide (v29<(a0.length:Int)) then
    ((at? a0 v29).bind fun x2 =>
    (wire_Fresh.l5 e1 k) a0 a1 (mput v_has9 (strN x2) true) (w64 (v29+1)))
    else
    (e1 a1 v_has9)
def wire_Fresh.f (a0:List (List Int)) (a1:List (List Int)):Option ((List Int) × Int × Int) :=
  (wire_checkPieces.f a0).bind fun y1 =>
  bif y1 != 0 then
  (some (([]:List Int),0,y1))
  else
  ((wire_checkPieces.f a1).bind fun y2 =>
  bif y2 != 0 then
  (some (([]:List Int),0,y2))
  else
  (wire_Fresh.l5 wire_Fresh.e1 big a0 a1 ([]:List (ByteArray × Bool)) 0))
def blob_Shared.e2 (v_sum18:Int):Option (Int × Int) :=
  some (v_sum18,0)
def blob_Shared.j4 (backl3:((List Int) × Int)→(List (ByteArray × Bool))→(List Int)→Int→Int→Option (Int × Int)) (y2:(List Int) × Int) (v_has15:List (ByteArray × Bool)) (v_b1:List Int) (v61:Int) (x1:Int) (v_sum18:Int):Option (Int × Int) :=
  guard? (decide ((0:Int)≤x1)&&decide (x1≤((v_b1.length:Nat):Int))) (
  backl3 y2 v_has15 (v_b1.drop x1.toNat) v_sum18 (w64 (v61+1)))
def blob_Shared.l3 (e2:Int→Option (Int × Int)):Nat→((List Int) × Int)→(List (ByteArray × Bool))→(List Int)→Int→Int→Option (Int × Int)
  | 0,_,_,_,_,_=>none
  | k+1,y2,v_has15,v_b1,v_sum18,v61 =>
    bif decide (v61<(y2.1.length:Int)) then
    ((at? y2.1 v61).bind fun x1 =>
    guard? (decide ((0:Int)≤x1)&&decide (x1≤((v_b1.length:Nat):Int))) (
    bif mgetD v_has15 (strN (v_b1.take x1.toNat)) false then
    (blob_Shared.j4 ((blob_Shared.l3 e2 k)) y2 v_has15 v_b1 v61 x1 (w64 (v_sum18+x1)))
    else
    (blob_Shared.j4 ((blob_Shared.l3 e2 k)) y2 v_has15 v_b1 v61 x1 v_sum18)))
    else
    (e2 v_sum18)
def blob_Shared.e1 (a1:List Int) (y2:(List Int) × Int) (v_has15:List (ByteArray × Bool)):Option (Int × Int) :=
  blob_Shared.l3 blob_Shared.e2 big y2 v_has15 a1 0 0
def blob_Shared.l5 (e1:(List Int)→((List Int) × Int)→(List (ByteArray × Bool))→Option (Int × Int)):Nat→(List Int)→((List Int) × Int)→((List Int) × Int)→(List Int)→(List (ByteArray × Bool))→Int→Option (Int × Int)
  | 0,_,_,_,_,_,_=>none
  | k+1,a1,y1,y2,v_a0,v_has15,v46 =>
    bif decide (v46<(y1.1.length:Int)) then
    ((at? y1.1 v46).bind fun x2 =>
    guard? (decide ((0:Int)≤x2)&&decide (x2≤((v_a0.length:Nat):Int))) (
    guard? (decide ((0:Int)≤x2)&&decide (x2≤((v_a0.length:Nat):Int))) (
    (blob_Shared.l5 e1 k) a1 y1 y2 (v_a0.drop x2.toNat) (mput v_has15 (strN (v_a0.take x2.toNat)) true) (w64 (v46+1)))))
    else
    (e1 a1 y2 v_has15)
def blob_Shared.f (a0:List Int) (a1:List Int) (a2:Int) (a3:Int) (a4:Int):Option (Int × Int) :=
  (blob_Pieces.f a0 a2 a3 a4).bind fun y1 =>
  bif y1.2 != 0 then
  (some (0,y1.2))
  else
  ((blob_Pieces.f a1 a2 a3 a4).bind fun y2 =>
  bif y2.2 != 0 then
  (some (0,y2.2))
  else
  (blob_Shared.l5 blob_Shared.e1 big a1 y1 y2 a0 ([]:List (ByteArray × Bool)) 0))
def slices_Clone_byte.f (a0:List (List Int)):Option (List (List Int)):=guard? (room 0 a0.length 24) (some a0)
def slices_Grow_byte.f (a0:List Int) (a1:Int):Option (List Int):=guard? (a0.isEmpty&&(decide ((0:Int)≤a1)&&room 0 a1.toNat 1)) (some ([]:List Int))
def slices_Concat_byte.e2 (v_newslice6:List Int):Option (List Int) :=
  some v_newslice6
def slices_Concat_byte.l3 (e2:(List Int)→Option (List Int)):Nat→(List (List Int))→(List Int)→Int→Option (List Int)
  | 0,_,_,_=>none
  | k+1,a0,v_newslice6,v27 =>
    bif decide (v27<(a0.length:Int)) then
    ((at? a0 v27).bind fun x1 =>
    guard? (room v_newslice6.length x1.length 1) (
    (slices_Concat_byte.l3 e2 k) a0 (v_newslice6++x1) (w64 (v27+1))))
    else
    (e2 v_newslice6)
def slices_Concat_byte.e1 (a0:List (List Int)) (v_size3:Int):Option (List Int) :=
  (slices_Grow_byte.f ([]:List Int) v_size3).bind fun y1 =>
  slices_Concat_byte.l3 slices_Concat_byte.e2 big a0 y1 0
def slices_Concat_byte.j5 (backl4:(List (List Int))→Int→Int→Option (List Int)) (a0:List (List Int)) (v_size3:Int) (v11:Int) (x2:List Int):Option (List Int) :=
  backl4 a0 (w64 (v_size3+(x2.length:Int))) (w64 (v11+1))
def slices_Concat_byte.l4 (e1:(List (List Int))→Int→Option (List Int)):Nat→(List (List Int))→Int→Int→Option (List Int)
  | 0,_,_,_=>none
  | k+1,a0,v_size3,v11 =>
    bif decide (v11<(a0.length:Int)) then
    ((at? a0 v11).bind fun x2 =>
    bif decide ((w64 (v_size3+(x2.length:Int)))<0) then
    (none)
    else
    (slices_Concat_byte.j5 ((slices_Concat_byte.l4 e1 k)) a0 v_size3 v11 x2))
    else
    (e1 a0 v_size3)
def slices_Concat_byte.f (a0:List (List Int)):Option (List Int) :=
  slices_Concat_byte.l4 slices_Concat_byte.e1 big a0 0 0
def blob_Together.e1 (a0:List (List Int)) (v_total4:Int):Option ((List Int) × Int) :=
  bif decide (2000000<v_total4) then
  (some (([]:List Int),2))
  else
  ((slices_Concat_byte.f a0).bind fun y1 =>
  some (y1,0))
def blob_Together.l2 (e1:(List (List Int))→Int→Option ((List Int) × Int)):Nat→(List (List Int))→Int→Int→Option ((List Int) × Int)
  | 0,_,_,_=>none
  | k+1,a0,v_total4,v12 =>
    bif decide (v12<(a0.length:Int)) then
    ((at? a0 v12).bind fun x1 =>
    (blob_Together.l2 e1 k) a0 (w64 (v_total4+(x1.length:Int))) (w64 (v12+1)))
    else
    (e1 a0 v_total4)
def blob_Together.f (a0:List (List Int)):Option ((List Int) × Int) :=
  bif decide (20000<(a0.length:Int)) then
  (some (([]:List Int),2))
  else
  (blob_Together.l2 blob_Together.e1 big a0 0 0)
def slices_Equal_byte.e1 :Option Bool :=
  some true
def slices_Equal_byte.l2 (e1:Option Bool):Nat→(List Int)→(List Int)→Int→Option Bool
  | 0,_,_,_=>none
  | k+1,a0,a1,v13 =>
    bif decide (v13<(a0.length:Int)) then
    ((at? a0 v13).bind fun x1 =>
    (at? a1 v13).bind fun x2 =>
    bif x1 != x2 then
    (some false)
    else
    ((slices_Equal_byte.l2 e1 k) a0 a1 (w64 (v13+1))))
    else
    (e1)
def slices_Equal_byte.f (a0:List Int) (a1:List Int):Option Bool :=
  bif (a0.length:Int) != (a1.length:Int) then
  (some false)
  else
  (slices_Equal_byte.l2 slices_Equal_byte.e1 big a0 a1 0)
def smithyardtop_TopPiecesTravel.e2 (a1:List Int) (y6:(List (List Int))):Option Bool :=
  (blob_Together.f y6).bind fun y10 =>
  (bif y10.2 == 0 then ((slices_Equal_byte.f y10.1 a1).bind fun y11 =>
  bif y11 then ((smithyardtop_alive.f).bind fun y12 =>
  some y12) else (some false)) else (some false)).bind fun t4 =>
  some t4
def smithyardtop_TopPiecesTravel.e4 (backl3:(List Int)→(List (List Int))→(List (List Int))→Int→Option Bool) (a1:List Int) (y6:(List (List Int))) (v_have20:List (List Int)) (v123:Int) (v_found25:Bool):Option Bool :=
  bif !v_found25 then
  (some false)
  else
  (backl3 a1 y6 v_have20 (w64 (v123+1)))
def smithyardtop_TopPiecesTravel.l5 (e4:(List Int)→(List (List Int))→(List (List Int))→Int→Bool→Option Bool):Nat→(List Int)→(List (List Int))→(List (List Int))→Int→(List Int)→Bool→Int→Option Bool
  | 0,_,_,_,_,_,_,_=>none
  | k+1,a1,y6,v_have20,v123,x1,v_found25,v129 =>
    bif decide (v129<(v_have20.length:Int)) then
    ((at? v_have20 v129).bind fun x2 =>
    (bif v_found25 then (some true) else ((slices_Equal_byte.f x2 x1).bind fun y13 =>
    some y13)).bind fun t5 =>
    (smithyardtop_TopPiecesTravel.l5 e4 k) a1 y6 v_have20 v123 x1 t5 (w64 (v129+1)))
    else
    (e4 a1 y6 v_have20 v123 v_found25)
def smithyardtop_TopPiecesTravel.l3 (e2:(List Int)→(List (List Int))→Option Bool):Nat→(List Int)→(List (List Int))→(List (List Int))→Int→Option Bool
  | 0,_,_,_,_=>none
  | k+1,a1,y6,v_have20,v123 =>
    bif decide (v123<(y6.length:Int)) then
    ((at? y6 v123).bind fun x1 =>
    smithyardtop_TopPiecesTravel.l5 (smithyardtop_TopPiecesTravel.e4 ((smithyardtop_TopPiecesTravel.l3 e2 k))) big a1 y6 v_have20 v123 x1 false 0)
    else
    (e2 a1 y6)
def smithyardtop_TopPiecesTravel.e1 (a1:List Int) (y6:(List (List Int))) (v_have20:List (List Int)):Option Bool :=
  smithyardtop_TopPiecesTravel.l3 smithyardtop_TopPiecesTravel.e2 big a1 y6 v_have20 0
def smithyardtop_TopPiecesTravel.l6 (e1:(List Int)→(List (List Int))→(List (List Int))→Option Bool):Nat→(List Int)→(List (List Int))→((List Int) × Int × Int)→(List (List Int))→Int→Option Bool
  | 0,_,_,_,_,_=>none
  | k+1,a1,y6,y7,v_have20,v101 =>
    bif decide (v101<(y7.1.length:Int)) then
    ((at? y7.1 v101).bind fun x3 =>
    (bif decide (x3<0) then (some true) else (some (decide ((y6.length:Int)≤x3)))).bind fun t6 =>
    bif t6 then
    (some false)
    else
    ((at? y6 x3).bind fun x4 =>
    guard? (room v_have20.length 1 24) (
    (smithyardtop_TopPiecesTravel.l6 e1 k) a1 y6 y7 (v_have20++([x4]:List (List Int))) (w64 (v101+1)))))
    else
    (e1 a1 y6 v_have20)
def smithyardtop_TopPiecesTravel.f (a0:List Int) (a1:List Int) (a2:Int) (a3:Int) (a4:Int):Option Bool :=
  (blob_Pieces.f a0 a2 a3 a4).bind fun y1 =>
  (blob_Pieces.f a1 a2 a3 a4).bind fun y2 =>
  (bif y1.2 != 0 then (some true) else (some (y2.2 != 0))).bind fun t1 =>
  bif t1 then
  ((bif y1.2 == 0 then ((smithyardtop_alive.f).bind fun y3 =>
  some y3) else (bif (y1.1.length:Int) == 0 then ((smithyardtop_alive.f).bind fun y4 =>
  some y4) else (some false))).bind fun t2 =>
  some t2)
  else
  ((smithyardtop_cutInto.f a0 y1.1).bind fun y5 =>
  (smithyardtop_cutInto.f a1 y2.1).bind fun y6 =>
  (wire_Fresh.f y5 y6).bind fun y7 =>
  (blob_Shared.f a0 a1 a2 a3 a4).bind fun y8 =>
  (bif y7.2.2 != 0 then (some true) else (bif y8.2 != 0 then (some true) else (some (decide ((w64 ((a1.length:Int) - y8.1))<y7.2.1))))).bind fun t3 =>
  bif t3 then
  (some false)
  else
  ((slices_Clone_byte.f y5).bind fun y9 =>
  smithyardtop_TopPiecesTravel.l6 smithyardtop_TopPiecesTravel.e1 big a1 y6 y7 y9 0))
end Go.Proofs.YtgmfdaibmaakpaaDoor
