/- Plain functions, each written by program out of one Go function's operations. -/
import Derived.Test.YtkjilepjblffeaaDoorKitP
import Derived.Lib.Bytealg
import Derived.Lib.SlTrimSet
set_option linter.unusedVariables false
namespace Go.Proofs.YtkjilepjblffeaaDoor
open Go Go.Proofs.YtkjilepjblffeaaDoor.Kit
structure Blob where
  Digest:ByteArray
  Size:Int
  Used:Int
  Until:Int
  Pins:Int
  deriving Inhabited,DecidableEq
structure Entry where
  Key:ByteArray
  Refs:List ByteArray
  Used:Int
  deriving Inhabited,DecidableEq
structure Cache where
  Room:Int
  Lease:Int
  Blobs:List Blob
  Entries:List Entry
  deriving Inhabited,DecidableEq
structure CacheEvent where
  Kind:Int
  At:Int
  Digest:ByteArray
  Digests:List ByteArray
  Key:ByteArray
  Size:Int
  deriving Inhabited,DecidableEq
structure CacheAnswer where
  Done:Bool
  Missing:List ByteArray
  Gone:List ByteArray
  deriving Inhabited,DecidableEq
def slices_Clone_Blob.f (a0:List Blob):Option (List Blob):=guard? (room 0 a0.length 48) (some a0)
def slices_Clone_string.f (a0:List ByteArray):Option (List ByteArray):=guard? (room 0 a0.length 16) (some a0)
def smithyardref7_Copy.e1 (a0:Cache) (y1:List Blob) (v_entries3:List Entry):Option Cache :=
  some (⟨a0.Room,a0.Lease,y1,v_entries3⟩:Cache)
def smithyardref7_Copy.l2 (e1:Cache→(List Blob)→(List Entry)→Option Cache):Nat→Cache→(List Blob)→(List Entry)→Int→Option Cache
  | 0,_,_,_,_=>none
  | k+1,a0,y1,v_entries3,v_i4 =>
    bif decide (v_i4<(a0.Entries.length:Int)) then
    ((at? a0.Entries v_i4).bind fun x1 =>
    (slices_Clone_string.f x1.Refs).bind fun y2 =>
    guard? (room v_entries3.length 1 48) (
    (smithyardref7_Copy.l2 e1 k) a0 y1 (v_entries3++([(⟨x1.Key,y2,x1.Used⟩:Entry)]:List Entry)) (w64 (v_i4+1))))
    else
    (e1 a0 y1 v_entries3)
def smithyardref7_Copy.f (a0:Cache):Option Cache :=
  (slices_Clone_Blob.f a0.Blobs).bind fun y1 =>
  smithyardref7_Copy.l2 smithyardref7_Copy.e1 big a0 y1 ([]:List Entry) 0
def cache_within.f (a0:Int) (a1:Int) (a2:Int):Option Bool :=
  (bif decide (a1≤a0) then (some (decide (a0≤a2))) else (some false)).bind fun t1 =>
  some t1
def strings_Trim.f (a0:ByteArray) (a1:ByteArray):Option ByteArray:=guard? (decide (a0.size≤9223372036854775807)&&(decide (a1.size<4294967281)&&a1.data.toList.all (fun b=>decide (b.toNat<128)))) (some (⟨(Lib.trimS a0.data.toList a1.data.toList).toArray⟩))
def blob_IsDigest.f (a0:ByteArray):Option Bool :=
  (bif (a0.size:Int) == 16 then ((strings_Trim.f a0 ({ data:=#[48,49,50,51,52,53,54,55,56,57,97,98,99,100,101,102] }:ByteArray)).bind fun y1 =>
  some (sEq y1 ({ data:=#[] }:ByteArray))) else (some false)).bind fun t1 =>
  some t1
def cache_isMoment.f (a0:Int):Option Bool :=
  (cache_within.f a0 0 1000000000).bind fun y1 =>
  some y1
def cache_checkBlobs.e1 (a1:Int) (v_sum5:Int):Option Int :=
  bif decide (a1<v_sum5) then
  (some 16)
  else
  (some 0)
def cache_checkBlobs.l2 (e1:Int→Int→Option Int):Nat→(List Blob)→Int→Int→Int→Option Int
  | 0,_,_,_,_=>none
  | k+1,a0,a1,v_sum5,v13 =>
    bif decide (v13<(a0.length:Int)) then
    ((at? a0 v13).bind fun x1 =>
    (blob_IsDigest.f x1.Digest).bind fun y1 =>
    bif !y1 then
    (some 3)
    else
    (((cache_within.f x1.Size 0 100000000).bind fun y2 =>
    bif !y2 then (some true) else ((cache_isMoment.f x1.Used).bind fun y3 =>
    bif !y3 then (some true) else ((cache_within.f x1.Until 0 1001000000).bind fun y4 =>
    bif !y4 then (some true) else ((cache_within.f x1.Pins 0 3000).bind fun y5 =>
    some (!y5))))).bind fun t1 =>
    bif t1 then
    (some 1)
    else
    ((bif decide (0<v13) then ((at? a0 (w64 (v13 - 1))).bind fun x2 =>
    some (sLt x1.Digest x2.Digest||sEq x1.Digest x2.Digest)) else (some false)).bind fun t2 =>
    bif t2 then
    (some 8)
    else
    ((cache_checkBlobs.l2 e1 k) a0 a1 (w64 (v_sum5+x1.Size)) (w64 (v13+1))))))
    else
    (e1 a1 v_sum5)
def cache_checkBlobs.f (a0:List Blob) (a1:Int):Option Int :=
  bif decide (3000<(a0.length:Int)) then
  (some 2)
  else
  (cache_checkBlobs.l2 cache_checkBlobs.e1 big a0 a1 0 0)
def cache_checkDigests.e1 :Option Int :=
  some 0
def cache_checkDigests.l2 (e1:Option Int):Nat→(List ByteArray)→Int→Option Int
  | 0,_,_=>none
  | k+1,a0,v13 =>
    bif decide (v13<(a0.length:Int)) then
    ((at? a0 v13).bind fun x1 =>
    (blob_IsDigest.f x1).bind fun y1 =>
    bif !y1 then
    (some 3)
    else
    ((bif decide (0<v13) then ((at? a0 (w64 (v13 - 1))).bind fun x2 =>
    some (sLt x1 x2||sEq x1 x2)) else (some false)).bind fun t1 =>
    bif t1 then
    (some 8)
    else
    ((cache_checkDigests.l2 e1 k) a0 (w64 (v13+1)))))
    else
    (e1)
def cache_checkDigests.f (a0:List ByteArray) (a1:Int):Option Int :=
  bif decide (a1<(a0.length:Int)) then
  (some 2)
  else
  (cache_checkDigests.l2 cache_checkDigests.e1 big a0 0)
def cache_CheckCache.e1 :Option Int :=
  some 0
def cache_CheckCache.l2 (e1:Option Int):Nat→Cache→Int→Option Int
  | 0,_,_=>none
  | k+1,a0,v32 =>
    bif decide (v32<(a0.Entries.length:Int)) then
    ((at? a0.Entries v32).bind fun x1 =>
    (blob_IsDigest.f x1.Key).bind fun y4 =>
    bif !y4 then
    (some 3)
    else
    ((cache_checkDigests.f x1.Refs 200).bind fun y5 =>
    bif y5 != 0 then
    (some y5)
    else
    ((cache_isMoment.f x1.Used).bind fun y6 =>
    bif !y6 then
    (some 1)
    else
    ((bif decide (0<v32) then ((at? a0.Entries (w64 (v32 - 1))).bind fun x2 =>
    some (sLt x1.Key x2.Key||sEq x1.Key x2.Key)) else (some false)).bind fun t2 =>
    bif t2 then
    (some 8)
    else
    ((cache_CheckCache.l2 e1 k) a0 (w64 (v32+1)))))))
    else
    (e1)
def cache_CheckCache.f (a0:Cache):Option Int :=
  ((cache_within.f a0.Room 0 1000000000).bind fun y1 =>
  bif !y1 then (some true) else ((cache_within.f a0.Lease 0 1000000).bind fun y2 =>
  some (!y2))).bind fun t1 =>
  bif t1 then
  (some 1)
  else
  ((cache_checkBlobs.f a0.Blobs a0.Room).bind fun y3 =>
  bif y3 != 0 then
  (some y3)
  else
  (bif decide (1000<(a0.Entries.length:Int)) then
  (some 2)
  else
  (cache_CheckCache.l2 cache_CheckCache.e1 big a0 0)))
def cache_New.f (a0:Int) (a1:Int):Option (Cache × Int) :=
  (cache_CheckCache.f (⟨a0,a1,([]:List Blob),([]:List Entry)⟩:Cache)).bind fun y1 =>
  bif y1 != 0 then
  (some ((⟨0,0,([]:List Blob),([]:List Entry)⟩:Cache),y1))
  else
  (some ((⟨a0,a1,([]:List Blob),([]:List Entry)⟩:Cache),0))
def smithyardref7_within.f (a0:Int) (a1:Int) (a2:Int):Option Bool :=
  (bif decide (a1≤a0) then (some (decide (a0≤a2))) else (some false)).bind fun t1 =>
  some t1
def smithyardref7_bytesOf.e1 (v_n3:Int):Option Int :=
  some v_n3
def smithyardref7_bytesOf.l2 (e1:Int→Option Int):Nat→(List Blob)→Int→Int→Option Int
  | 0,_,_,_=>none
  | k+1,a0,v_n3,v_i4 =>
    bif decide (v_i4<(a0.length:Int)) then
    ((at? a0 v_i4).bind fun x1 =>
    (smithyardref7_bytesOf.l2 e1 k) a0 (w64 (v_n3+x1.Size)) (w64 (v_i4+1)))
    else
    (e1 v_n3)
def smithyardref7_bytesOf.f (a0:List Blob):Option Int :=
  smithyardref7_bytesOf.l2 smithyardref7_bytesOf.e1 big a0 0 0
def smithyardref1_IsDigest.e1 (a0:ByteArray):Option Bool :=
  some ((a0.size:Int) == 16)
def smithyardref1_IsDigest.l2 (e1:ByteArray→Option Bool):Nat→ByteArray→Int→Option Bool
  | 0,_,_=>none
  | k+1,a0,v_i3 =>
    bif decide (v_i3<(a0.size:Int)) then
    ((guard? (decide ((0:Int)≤v_i3)&&decide (v_i3<(a0.size:Int))) (
    bif decide (48≤(bt a0 v_i3)) then (guard? (decide ((0:Int)≤v_i3)&&decide (v_i3<(a0.size:Int))) (
    bif decide ((bt a0 v_i3)≤57) then (some false) else (guard? (decide ((0:Int)≤v_i3)&&decide (v_i3<(a0.size:Int))) (
    bif decide (97≤(bt a0 v_i3)) then (guard? (decide ((0:Int)≤v_i3)&&decide (v_i3<(a0.size:Int))) (
    some (!(decide ((bt a0 v_i3)≤102))))) else (some true))))) else (guard? (decide ((0:Int)≤v_i3)&&decide (v_i3<(a0.size:Int))) (
    bif decide (97≤(bt a0 v_i3)) then (guard? (decide ((0:Int)≤v_i3)&&decide (v_i3<(a0.size:Int))) (
    some (!(decide ((bt a0 v_i3)≤102))))) else (some true))))).bind fun t1 =>
    bif t1 then
    (some false)
    else
    ((smithyardref1_IsDigest.l2 e1 k) a0 (w64 (v_i3+1))))
    else
    (e1 a0)
def smithyardref1_IsDigest.f (a0:ByteArray):Option Bool :=
  smithyardref1_IsDigest.l2 smithyardref1_IsDigest.e1 big a0 0
def smithyardref7_rising.e1 :Option Int :=
  some 0
def smithyardref7_rising.l2 (e1:Option Int):Nat→(List ByteArray)→Int→Option Int
  | 0,_,_=>none
  | k+1,a0,v_i3 =>
    bif decide (v_i3<(a0.length:Int)) then
    ((at? a0 v_i3).bind fun x1 =>
    (smithyardref1_IsDigest.f x1).bind fun y1 =>
    bif !y1 then
    (some 3)
    else
    ((bif decide (0<v_i3) then ((at? a0 v_i3).bind fun x2 =>
    (at? a0 (w64 (v_i3 - 1))).bind fun x3 =>
    some (sLt x2 x3||sEq x2 x3)) else (some false)).bind fun t1 =>
    bif t1 then
    (some 8)
    else
    ((smithyardref7_rising.l2 e1 k) a0 (w64 (v_i3+1)))))
    else
    (e1)
def smithyardref7_rising.f (a0:List ByteArray):Option Int :=
  smithyardref7_rising.l2 smithyardref7_rising.e1 big a0 0
def smithyardref7_CheckCache.e2 :Option Int :=
  some 0
def smithyardref7_CheckCache.l3 (e2:Option Int):Nat→Cache→Int→Option Int
  | 0,_,_=>none
  | k+1,a0,v_i5 =>
    bif decide (v_i5<(a0.Entries.length:Int)) then
    ((at? a0.Entries v_i5).bind fun x1 =>
    (smithyardref1_IsDigest.f x1.Key).bind fun y4 =>
    bif !y4 then
    (some 3)
    else
    (bif decide (200<(x1.Refs.length:Int)) then
    (some 2)
    else
    ((smithyardref7_rising.f x1.Refs).bind fun y5 =>
    bif y5 != 0 then
    (some y5)
    else
    ((smithyardref7_within.f x1.Used 0 1000000000).bind fun y6 =>
    bif !y6 then
    (some 1)
    else
    ((bif decide (0<v_i5) then ((at? a0.Entries (w64 (v_i5 - 1))).bind fun x2 =>
    some (sLt x1.Key x2.Key||sEq x1.Key x2.Key)) else (some false)).bind fun t2 =>
    bif t2 then
    (some 8)
    else
    ((smithyardref7_CheckCache.l3 e2 k) a0 (w64 (v_i5+1))))))))
    else
    (e2)
def smithyardref7_CheckCache.e1 (a0:Cache):Option Int :=
  (smithyardref7_bytesOf.f a0.Blobs).bind fun y3 =>
  bif decide (a0.Room<y3) then
  (some 16)
  else
  (bif decide (1000<(a0.Entries.length:Int)) then
  (some 2)
  else
  (smithyardref7_CheckCache.l3 smithyardref7_CheckCache.e2 big a0 0))
def smithyardref7_CheckCache.l4 (e1:Cache→Option Int):Nat→Cache→Int→Option Int
  | 0,_,_=>none
  | k+1,a0,v_i3 =>
    bif decide (v_i3<(a0.Blobs.length:Int)) then
    ((at? a0.Blobs v_i3).bind fun x3 =>
    (smithyardref1_IsDigest.f x3.Digest).bind fun y7 =>
    bif !y7 then
    (some 3)
    else
    (((smithyardref7_within.f x3.Size 0 100000000).bind fun y8 =>
    bif !y8 then (some true) else ((smithyardref7_within.f x3.Used 0 1000000000).bind fun y9 =>
    bif !y9 then (some true) else ((smithyardref7_within.f x3.Until 0 1001000000).bind fun y10 =>
    bif !y10 then (some true) else ((smithyardref7_within.f x3.Pins 0 3000).bind fun y11 =>
    some (!y11))))).bind fun t3 =>
    bif t3 then
    (some 1)
    else
    ((bif decide (0<v_i3) then ((at? a0.Blobs (w64 (v_i3 - 1))).bind fun x4 =>
    some (sLt x3.Digest x4.Digest||sEq x3.Digest x4.Digest)) else (some false)).bind fun t4 =>
    bif t4 then
    (some 8)
    else
    ((smithyardref7_CheckCache.l4 e1 k) a0 (w64 (v_i3+1))))))
    else
    (e1 a0)
def smithyardref7_CheckCache.f (a0:Cache):Option Int :=
  ((smithyardref7_within.f a0.Room 0 1000000000).bind fun y1 =>
  bif !y1 then (some true) else ((smithyardref7_within.f a0.Lease 0 1000000).bind fun y2 =>
  some (!y2))).bind fun t1 =>
  bif t1 then
  (some 1)
  else
  (bif decide (3000<(a0.Blobs.length:Int)) then
  (some 2)
  else
  (smithyardref7_CheckCache.l4 smithyardref7_CheckCache.e1 big a0 0))
def smithyardref7_sameList.e1 :Option Bool :=
  some true
def smithyardref7_sameList.l2 (e1:Option Bool):Nat→(List ByteArray)→(List ByteArray)→Int→Option Bool
  | 0,_,_,_=>none
  | k+1,a0,a1,v_i5 =>
    bif decide (v_i5<(a0.length:Int)) then
    ((at? a0 v_i5).bind fun x1 =>
    (at? a1 v_i5).bind fun x2 =>
    bif !sEq x1 x2 then
    (some false)
    else
    ((smithyardref7_sameList.l2 e1 k) a0 a1 (w64 (v_i5+1))))
    else
    (e1)
def smithyardref7_sameList.f (a0:List ByteArray) (a1:List ByteArray):Option Bool :=
  bif (a0.length:Int) != (a1.length:Int) then
  (some false)
  else
  (smithyardref7_sameList.l2 smithyardref7_sameList.e1 big a0 a1 0)
def smithyardref7_Same.e2 :Option Bool :=
  some true
def smithyardref7_Same.l3 (e2:Option Bool):Nat→Cache→Cache→Int→Option Bool
  | 0,_,_,_=>none
  | k+1,a0,a1,v_i6 =>
    bif decide (v_i6<(a0.Entries.length:Int)) then
    (((at? a0.Entries v_i6).bind fun x1 =>
    (at? a1.Entries v_i6).bind fun x2 =>
    bif !sEq x1.Key x2.Key then (some true) else (bif x1.Used != x2.Used then (some true) else ((smithyardref7_sameList.f x1.Refs x2.Refs).bind fun y1 =>
    some (!y1)))).bind fun t2 =>
    bif t2 then
    (some false)
    else
    ((smithyardref7_Same.l3 e2 k) a0 a1 (w64 (v_i6+1))))
    else
    (e2)
def smithyardref7_Same.e1 (a0:Cache) (a1:Cache):Option Bool :=
  smithyardref7_Same.l3 smithyardref7_Same.e2 big a0 a1 0
def smithyardref7_Same.l4 (e1:Cache→Cache→Option Bool):Nat→Cache→Cache→Int→Option Bool
  | 0,_,_,_=>none
  | k+1,a0,a1,v_i5 =>
    bif decide (v_i5<(a0.Blobs.length:Int)) then
    ((at? a0.Blobs v_i5).bind fun x3 =>
    (at? a1.Blobs v_i5).bind fun x4 =>
    bif !(sEq x3.Digest x4.Digest&&(x3.Size == x4.Size&&(x3.Used == x4.Used&&(x3.Until == x4.Until&&(x3.Pins == x4.Pins&&true))))) then
    (some false)
    else
    ((smithyardref7_Same.l4 e1 k) a0 a1 (w64 (v_i5+1))))
    else
    (e1 a0 a1)
def smithyardref7_Same.f (a0:Cache) (a1:Cache):Option Bool :=
  (bif a0.Room != a1.Room then (some true) else (bif a0.Lease != a1.Lease then (some true) else (bif (a0.Blobs.length:Int) != (a1.Blobs.length:Int) then (some true) else (some ((a0.Entries.length:Int) != (a1.Entries.length:Int)))))).bind fun t1 =>
  bif t1 then
  (some false)
  else
  (smithyardref7_Same.l4 smithyardref7_Same.e1 big a0 a1 0)
def cache_used.e1 (v_sum3:Int):Option Int :=
  some v_sum3
def cache_used.l2 (e1:Int→Option Int):Nat→Cache→Int→Int→Option Int
  | 0,_,_,_=>none
  | k+1,a0,v_sum3,v9 =>
    bif decide (v9<(a0.Blobs.length:Int)) then
    ((at? a0.Blobs v9).bind fun x1 =>
    (cache_used.l2 e1 k) a0 (w64 (v_sum3+x1.Size)) (w64 (v9+1)))
    else
    (e1 v_sum3)
def cache_used.f (a0:Cache):Option Int :=
  cache_used.l2 cache_used.e1 big a0 0 0
def strings_Compare.f (a0:ByteArray) (a1:ByteArray):Option Int:=some (Lib.compareBytes a0.data.toList a1.data.toList)
def cache_find_1.f (a0:Blob) (a1:ByteArray):Option Int :=
  (strings_Compare.f a0.Digest a1).bind fun y1 =>
  some y1
def slices_BinarySearchFunc_Blob_string.e1 (a0:List Blob) (a1:ByteArray) (v_i9:Int):Option (Int × Bool) :=
  (bif decide (v_i9<(a0.length:Int)) then ((at? a0 v_i9).bind fun x1 =>
  (cache_find_1.f x1 a1).bind fun y1 =>
  some (y1 == 0)) else (some false)).bind fun t1 =>
  some (v_i9,t1)
def slices_BinarySearchFunc_Blob_string.l2 (e1:(List Blob)→ByteArray→Int→Option (Int × Bool)):Nat→(List Blob)→ByteArray→Int→Int→Option (Int × Bool)
  | 0,_,_,_,_=>none
  | k+1,a0,a1,v_i9,v_j10 =>
    bif decide (v_i9<v_j10) then
    ((at? a0 (w64 (iShr .u64 (IntKind.wrap .u64 (w64 (v_i9+v_j10))) 1))).bind fun x2 =>
    (cache_find_1.f x2 a1).bind fun y2 =>
    bif decide (y2<0) then
    ((slices_BinarySearchFunc_Blob_string.l2 e1 k) a0 a1 (w64 ((w64 (iShr .u64 (IntKind.wrap .u64 (w64 (v_i9+v_j10))) 1))+1)) v_j10)
    else
    ((slices_BinarySearchFunc_Blob_string.l2 e1 k) a0 a1 v_i9 (w64 (iShr .u64 (IntKind.wrap .u64 (w64 (v_i9+v_j10))) 1))))
    else
    (e1 a0 a1 v_i9)
def slices_BinarySearchFunc_Blob_string.f (a0:List Blob) (a1:ByteArray):Option (Int × Bool) :=
  slices_BinarySearchFunc_Blob_string.l2 slices_BinarySearchFunc_Blob_string.e1 big a0 a1 0 (a0.length:Int)
def cache_find.f (a0:Cache) (a1:ByteArray):Option (Int × Bool) :=
  (slices_BinarySearchFunc_Blob_string.f a0.Blobs a1).bind fun y1 =>
  some (y1.1,y1.2)
def cache_missing.e1 (v_out5:List ByteArray):Option (List ByteArray) :=
  some v_out5
def cache_missing.j3 (backl2:Cache→(List ByteArray)→(List ByteArray)→Int→Option (List ByteArray)) (a0:Cache) (a1:List ByteArray) (v12:Int) (v_out5:List ByteArray):Option (List ByteArray) :=
  backl2 a0 a1 v_out5 (w64 (v12+1))
def cache_missing.l2 (e1:(List ByteArray)→Option (List ByteArray)):Nat→Cache→(List ByteArray)→(List ByteArray)→Int→Option (List ByteArray)
  | 0,_,_,_,_=>none
  | k+1,a0,a1,v_out5,v12 =>
    bif decide (v12<(a1.length:Int)) then
    ((at? a1 v12).bind fun x1 =>
    (cache_find.f a0 x1).bind fun y1 =>
    bif !y1.2 then
    (guard? (room v_out5.length 1 16) (
    cache_missing.j3 ((cache_missing.l2 e1 k)) a0 a1 v12 (v_out5++([x1]:List ByteArray))))
    else
    (cache_missing.j3 ((cache_missing.l2 e1 k)) a0 a1 v12 v_out5))
    else
    (e1 v_out5)
def cache_missing.f (a0:Cache) (a1:List ByteArray):Option (List ByteArray) :=
  cache_missing.l2 cache_missing.e1 big a0 a1 ([]:List ByteArray) 0
def smithyardref7_blob.e1 :Option Int :=
  some (-1)
def smithyardref7_blob.l2 (e1:Option Int):Nat→Cache→ByteArray→Int→Option Int
  | 0,_,_,_=>none
  | k+1,a0,a1,v_i5 =>
    bif decide (v_i5<(a0.Blobs.length:Int)) then
    ((at? a0.Blobs v_i5).bind fun x1 =>
    bif sEq x1.Digest a1 then
    (some v_i5)
    else
    ((smithyardref7_blob.l2 e1 k) a0 a1 (w64 (v_i5+1))))
    else
    (e1)
def smithyardref7_blob.f (a0:Cache) (a1:ByteArray):Option Int :=
  smithyardref7_blob.l2 smithyardref7_blob.e1 big a0 a1 0
def smithyardref7_missing.e1 (v_out5:List ByteArray):Option (List ByteArray) :=
  some v_out5
def smithyardref7_missing.j3 (backl2:Cache→(List ByteArray)→(List ByteArray)→Int→Option (List ByteArray)) (a0:Cache) (a1:List ByteArray) (v_i6:Int) (v_out5:List ByteArray):Option (List ByteArray) :=
  backl2 a0 a1 v_out5 (w64 (v_i6+1))
def smithyardref7_missing.l2 (e1:(List ByteArray)→Option (List ByteArray)):Nat→Cache→(List ByteArray)→(List ByteArray)→Int→Option (List ByteArray)
  | 0,_,_,_,_=>none
  | k+1,a0,a1,v_out5,v_i6 =>
    bif decide (v_i6<(a1.length:Int)) then
    ((at? a1 v_i6).bind fun x1 =>
    (smithyardref7_blob.f a0 x1).bind fun y1 =>
    bif decide (y1<0) then
    ((at? a1 v_i6).bind fun x2 =>
    guard? (room v_out5.length 1 16) (
    smithyardref7_missing.j3 ((smithyardref7_missing.l2 e1 k)) a0 a1 v_i6 (v_out5++([x2]:List ByteArray))))
    else
    (smithyardref7_missing.j3 ((smithyardref7_missing.l2 e1 k)) a0 a1 v_i6 v_out5))
    else
    (e1 v_out5)
def smithyardref7_missing.f (a0:Cache) (a1:List ByteArray):Option (List ByteArray) :=
  smithyardref7_missing.l2 smithyardref7_missing.e1 big a0 a1 ([]:List ByteArray) 0
def slices_Equal_string.e1 :Option Bool :=
  some true
def slices_Equal_string.l2 (e1:Option Bool):Nat→(List ByteArray)→(List ByteArray)→Int→Option Bool
  | 0,_,_,_=>none
  | k+1,a0,a1,v13 =>
    bif decide (v13<(a0.length:Int)) then
    ((at? a0 v13).bind fun x1 =>
    (at? a1 v13).bind fun x2 =>
    bif !sEq x1 x2 then
    (some false)
    else
    ((slices_Equal_string.l2 e1 k) a0 a1 (w64 (v13+1))))
    else
    (e1)
def slices_Equal_string.f (a0:List ByteArray) (a1:List ByteArray):Option Bool :=
  bif (a0.length:Int) != (a1.length:Int) then
  (some false)
  else
  (slices_Equal_string.l2 slices_Equal_string.e1 big a0 a1 0)
def smithyardlaw7_awake.f :Option Bool :=
  (cache_New.f 5 7).bind fun y1 =>
  (bif y1.2 == 0 then (bif y1.1.Room == 5 then (some (y1.1.Lease == 7)) else (some false)) else (some false)).bind fun t1 =>
  some t1
def cache_checkAt.f (a0:Cache) (a1:Int):Option Int :=
  (cache_CheckCache.f a0).bind fun y1 =>
  bif y1 != 0 then
  (some y1)
  else
  ((cache_isMoment.f a1).bind fun y2 =>
  bif !y2 then
  (some 1)
  else
  (some 0))
def slices_Clone_Entry.f (a0:List Entry):Option (List Entry):=guard? (room 0 a0.length 48) (some a0)
def cache_own.e1 (a0:Cache) (y1:List Blob) (v_c1_3:List Entry):Option Cache :=
  some (⟨a0.Room,a0.Lease,y1,v_c1_3⟩:Cache)
def cache_own.l2 (e1:Cache→(List Blob)→(List Entry)→Option Cache):Nat→Cache→(List Blob)→(List Entry)→(List Entry)→Int→Option Cache
  | 0,_,_,_,_,_=>none
  | k+1,a0,y1,y2,v_c1_3,v15 =>
    bif decide (v15<(y2.length:Int)) then
    ((at? v_c1_3 v15).bind fun x1 =>
    (slices_Clone_string.f x1.Refs).bind fun y3 =>
    (cache_own.l2 e1 k) a0 y1 y2 (v_c1_3.set v15.toNat (⟨x1.Key,y3,x1.Used⟩:Entry)) (w64 (v15+1)))
    else
    (e1 a0 y1 v_c1_3)
def cache_own.f (a0:Cache):Option Cache :=
  (slices_Clone_Blob.f a0.Blobs).bind fun y1 =>
  (slices_Clone_Entry.f a0.Entries).bind fun y2 =>
  cache_own.l2 cache_own.e1 big a0 y1 y2 y2 0
def cache_held.f (a0:Blob) (a1:Int):Option Bool :=
  (bif decide (0<a0.Pins) then (some true) else (some (decide (a1<a0.Until)))).bind fun t1 =>
  some t1
def cache_Swept_1.f (a0:Blob) (a1:Int) (a2:List (ByteArray × Bool)):Option Bool :=
  ((cache_held.f a0 a1).bind fun y1 =>
  bif y1 then (some true) else (some (mgetD a2 a0.Digest false))).bind fun t1 =>
  some t1
def slices_IndexFunc_Blob.e1 :Option Int :=
  some (-1)
def slices_IndexFunc_Blob.l2 (e1:Option Int):Nat→(List Blob)→Int→(List (ByteArray × Bool))→Int→Option Int
  | 0,_,_,_,_=>none
  | k+1,a0,a1q0,a1q1,v8 =>
    bif decide (v8<(a0.length:Int)) then
    ((at? a0 v8).bind fun x1 =>
    (cache_Swept_1.f x1 a1q0 a1q1).bind fun y1 =>
    bif y1 then
    (some v8)
    else
    ((slices_IndexFunc_Blob.l2 e1 k) a0 a1q0 a1q1 (w64 (v8+1))))
    else
    (e1)
def slices_IndexFunc_Blob.f (a0:List Blob) (a1q0:Int) (a1q1:List (ByteArray × Bool)):Option Int :=
  slices_IndexFunc_Blob.l2 slices_IndexFunc_Blob.e1 big a0 a1q0 a1q1 0
def slices_DeleteFunc_Blob.e1 (v_s0:List Blob) (v_i5:Int):Option (List Blob) :=
  guard? (decide ((0:Int)≤v_i5)&&decide (v_i5≤((v_s0.length:Nat):Int))) (
  guard? (decide ((0:Int)≤v_i5)&&decide (v_i5≤((v_s0.length:Nat):Int))) (
  some ((v_s0.take v_i5.toNat++List.replicate (v_s0.length - v_i5.toNat) (⟨ByteArray.empty,0,0,0,0⟩:Blob)).take v_i5.toNat)))
def slices_DeleteFunc_Blob.j3 (backl2:Int→(List (ByteArray × Bool))→(List Blob)→Int→Int→Option (List Blob)) (a1q0:Int) (a1q1:List (ByteArray × Bool)) (v_j6:Int) (v_s0:List Blob) (v_i5:Int):Option (List Blob) :=
  backl2 a1q0 a1q1 v_s0 v_i5 (w64 (v_j6+1))
def slices_DeleteFunc_Blob.l2 (e1:(List Blob)→Int→Option (List Blob)):Nat→Int→(List (ByteArray × Bool))→(List Blob)→Int→Int→Option (List Blob)
  | 0,_,_,_,_,_=>none
  | k+1,a1q0,a1q1,v_s0,v_i5,v_j6 =>
    bif decide (v_j6<(v_s0.length:Int)) then
    ((at? v_s0 v_j6).bind fun x1 =>
    (cache_Swept_1.f x1 a1q0 a1q1).bind fun y2 =>
    bif !y2 then
    ((at? v_s0 v_i5).bind fun x2 =>
    slices_DeleteFunc_Blob.j3 ((slices_DeleteFunc_Blob.l2 e1 k)) a1q0 a1q1 v_j6 (v_s0.set v_i5.toNat x1) (w64 (v_i5+1)))
    else
    (slices_DeleteFunc_Blob.j3 ((slices_DeleteFunc_Blob.l2 e1 k)) a1q0 a1q1 v_j6 v_s0 v_i5))
    else
    (e1 v_s0 v_i5)
def slices_DeleteFunc_Blob.f (a0:List Blob) (a1q0:Int) (a1q1:List (ByteArray × Bool)):Option (List Blob) :=
  (slices_IndexFunc_Blob.f a0 a1q0 a1q1).bind fun y1 =>
  bif y1 == (-1) then
  (some a0)
  else
  (slices_DeleteFunc_Blob.l2 slices_DeleteFunc_Blob.e1 big a1q0 a1q1 a0 y1 (w64 (y1+1)))
def cache_digestsOf.e1 (v_out3:List ByteArray):Option (List ByteArray) :=
  some v_out3
def cache_digestsOf.l2 (e1:(List ByteArray)→Option (List ByteArray)):Nat→(List Blob)→(List ByteArray)→Int→Option (List ByteArray)
  | 0,_,_,_=>none
  | k+1,a0,v_out3,v8 =>
    bif decide (v8<(a0.length:Int)) then
    ((at? a0 v8).bind fun x1 =>
    guard? (room v_out3.length 1 16) (
    (cache_digestsOf.l2 e1 k) a0 (v_out3++([x1.Digest]:List ByteArray)) (w64 (v8+1))))
    else
    (e1 v_out3)
def cache_digestsOf.f (a0:List Blob):Option (List ByteArray) :=
  cache_digestsOf.l2 cache_digestsOf.e1 big a0 ([]:List ByteArray) 0
def cache_drop_1.f (a0:Blob) (a1:List (ByteArray × Bool)):Option Bool :=
  some (mgetD a1 a0.Digest false)
def slices_IndexFunc_Blob_2.e1 :Option Int :=
  some (-1)
def slices_IndexFunc_Blob_2.l2 (e1:Option Int):Nat→(List Blob)→(List (ByteArray × Bool))→Int→Option Int
  | 0,_,_,_=>none
  | k+1,a0,a1q0,v8 =>
    bif decide (v8<(a0.length:Int)) then
    ((at? a0 v8).bind fun x1 =>
    (cache_drop_1.f x1 a1q0).bind fun y1 =>
    bif y1 then
    (some v8)
    else
    ((slices_IndexFunc_Blob_2.l2 e1 k) a0 a1q0 (w64 (v8+1))))
    else
    (e1)
def slices_IndexFunc_Blob_2.f (a0:List Blob) (a1q0:List (ByteArray × Bool)):Option Int :=
  slices_IndexFunc_Blob_2.l2 slices_IndexFunc_Blob_2.e1 big a0 a1q0 0
def slices_DeleteFunc_Blob_2.e1 (v_s0:List Blob) (v_i5:Int):Option (List Blob) :=
  guard? (decide ((0:Int)≤v_i5)&&decide (v_i5≤((v_s0.length:Nat):Int))) (
  guard? (decide ((0:Int)≤v_i5)&&decide (v_i5≤((v_s0.length:Nat):Int))) (
  some ((v_s0.take v_i5.toNat++List.replicate (v_s0.length - v_i5.toNat) (⟨ByteArray.empty,0,0,0,0⟩:Blob)).take v_i5.toNat)))
def slices_DeleteFunc_Blob_2.j3 (backl2:(List (ByteArray × Bool))→(List Blob)→Int→Int→Option (List Blob)) (a1q0:List (ByteArray × Bool)) (v_j6:Int) (v_s0:List Blob) (v_i5:Int):Option (List Blob) :=
  backl2 a1q0 v_s0 v_i5 (w64 (v_j6+1))
def slices_DeleteFunc_Blob_2.l2 (e1:(List Blob)→Int→Option (List Blob)):Nat→(List (ByteArray × Bool))→(List Blob)→Int→Int→Option (List Blob)
  | 0,_,_,_,_=>none
  | k+1,a1q0,v_s0,v_i5,v_j6 =>
    bif decide (v_j6<(v_s0.length:Int)) then
    ((at? v_s0 v_j6).bind fun x1 =>
    (cache_drop_1.f x1 a1q0).bind fun y2 =>
    bif !y2 then
    ((at? v_s0 v_i5).bind fun x2 =>
    slices_DeleteFunc_Blob_2.j3 ((slices_DeleteFunc_Blob_2.l2 e1 k)) a1q0 v_j6 (v_s0.set v_i5.toNat x1) (w64 (v_i5+1)))
    else
    (slices_DeleteFunc_Blob_2.j3 ((slices_DeleteFunc_Blob_2.l2 e1 k)) a1q0 v_j6 v_s0 v_i5))
    else
    (e1 v_s0 v_i5)
def slices_DeleteFunc_Blob_2.f (a0:List Blob) (a1q0:List (ByteArray × Bool)):Option (List Blob) :=
  (slices_IndexFunc_Blob_2.f a0 a1q0).bind fun y1 =>
  bif y1 == (-1) then
  (some a0)
  else
  (slices_DeleteFunc_Blob_2.l2 slices_DeleteFunc_Blob_2.e1 big a1q0 a0 y1 (w64 (y1+1)))
def cache_drop.e1 (a0:Cache) (v_has4_0:List (ByteArray × Bool)):Option Cache :=
  (slices_DeleteFunc_Blob_2.f a0.Blobs v_has4_0).bind fun y1 =>
  some (⟨a0.Room,a0.Lease,y1,a0.Entries⟩:Cache)
def cache_drop.l2 (e1:Cache→(List (ByteArray × Bool))→Option Cache):Nat→Cache→(List ByteArray)→(List (ByteArray × Bool))→Int→Option Cache
  | 0,_,_,_,_=>none
  | k+1,a0,a1,v_has4_0,v10 =>
    bif decide (v10<(a1.length:Int)) then
    ((at? a1 v10).bind fun x1 =>
    (cache_drop.l2 e1 k) a0 a1 (mput v_has4_0 x1 true) (w64 (v10+1)))
    else
    (e1 a0 v_has4_0)
def cache_drop.f (a0:Cache) (a1:List ByteArray):Option Cache :=
  cache_drop.l2 cache_drop.e1 big a0 a1 ([]:List (ByteArray × Bool)) 0
def cache_Swept_2.f (a0:Entry) (a1:List (ByteArray × Bool)):Option Bool :=
  some (!(mgetD a1 a0.Key false))
def slices_IndexFunc_Entry.e1 :Option Int :=
  some (-1)
def slices_IndexFunc_Entry.l2 (e1:Option Int):Nat→(List Entry)→(List (ByteArray × Bool))→Int→Option Int
  | 0,_,_,_=>none
  | k+1,a0,a1q0,v8 =>
    bif decide (v8<(a0.length:Int)) then
    ((at? a0 v8).bind fun x1 =>
    (cache_Swept_2.f x1 a1q0).bind fun y1 =>
    bif y1 then
    (some v8)
    else
    ((slices_IndexFunc_Entry.l2 e1 k) a0 a1q0 (w64 (v8+1))))
    else
    (e1)
def slices_IndexFunc_Entry.f (a0:List Entry) (a1q0:List (ByteArray × Bool)):Option Int :=
  slices_IndexFunc_Entry.l2 slices_IndexFunc_Entry.e1 big a0 a1q0 0
def slices_DeleteFunc_Entry.e1 (v_s0:List Entry) (v_i5:Int):Option (List Entry) :=
  guard? (decide ((0:Int)≤v_i5)&&decide (v_i5≤((v_s0.length:Nat):Int))) (
  guard? (decide ((0:Int)≤v_i5)&&decide (v_i5≤((v_s0.length:Nat):Int))) (
  some ((v_s0.take v_i5.toNat++List.replicate (v_s0.length - v_i5.toNat) (⟨ByteArray.empty,([]:List ByteArray),0⟩:Entry)).take v_i5.toNat)))
def slices_DeleteFunc_Entry.j3 (backl2:(List (ByteArray × Bool))→(List Entry)→Int→Int→Option (List Entry)) (a1q0:List (ByteArray × Bool)) (v_j6:Int) (v_s0:List Entry) (v_i5:Int):Option (List Entry) :=
  backl2 a1q0 v_s0 v_i5 (w64 (v_j6+1))
def slices_DeleteFunc_Entry.l2 (e1:(List Entry)→Int→Option (List Entry)):Nat→(List (ByteArray × Bool))→(List Entry)→Int→Int→Option (List Entry)
  | 0,_,_,_,_=>none
  | k+1,a1q0,v_s0,v_i5,v_j6 =>
    bif decide (v_j6<(v_s0.length:Int)) then
    ((at? v_s0 v_j6).bind fun x1 =>
    (cache_Swept_2.f x1 a1q0).bind fun y2 =>
    bif !y2 then
    ((at? v_s0 v_i5).bind fun x2 =>
    slices_DeleteFunc_Entry.j3 ((slices_DeleteFunc_Entry.l2 e1 k)) a1q0 v_j6 (v_s0.set v_i5.toNat x1) (w64 (v_i5+1)))
    else
    (slices_DeleteFunc_Entry.j3 ((slices_DeleteFunc_Entry.l2 e1 k)) a1q0 v_j6 v_s0 v_i5))
    else
    (e1 v_s0 v_i5)
def slices_DeleteFunc_Entry.f (a0:List Entry) (a1q0:List (ByteArray × Bool)):Option (List Entry) :=
  (slices_IndexFunc_Entry.f a0 a1q0).bind fun y1 =>
  bif y1 == (-1) then
  (some a0)
  else
  (slices_DeleteFunc_Entry.l2 slices_DeleteFunc_Entry.e1 big a1q0 a0 y1 (w64 (y1+1)))
def cache_Swept.e2 (a2:Int) (y3:Cache) (v_isRoot12_0:List (ByteArray × Bool)) (v_wanted11_0:List (ByteArray × Bool)):Option (Cache × (List ByteArray) × Int) :=
  (slices_Clone_Blob.f y3.Blobs).bind fun y4 =>
  (slices_DeleteFunc_Blob.f y4 a2 v_wanted11_0).bind fun y5 =>
  (cache_digestsOf.f y5).bind fun y6 =>
  (cache_drop.f (⟨y3.Room,y3.Lease,y3.Blobs,y3.Entries⟩:Cache) y6).bind fun y7 =>
  (slices_DeleteFunc_Entry.f y7.Entries v_isRoot12_0).bind fun y8 =>
  some ((⟨y7.Room,y7.Lease,y7.Blobs,y8⟩:Cache),y6,0)
def cache_Swept.j4 (backl3:Int→Cache→(List (ByteArray × Bool))→(List (ByteArray × Bool))→Int→Option (Cache × (List ByteArray) × Int)) (a2:Int) (y3:Cache) (v_isRoot12_0:List (ByteArray × Bool)) (v51:Int) (v_wanted11_0:List (ByteArray × Bool)):Option (Cache × (List ByteArray) × Int) :=
  backl3 a2 y3 v_isRoot12_0 v_wanted11_0 (w64 (v51+1))
def cache_Swept.l5 (j4:Int→Cache→(List (ByteArray × Bool))→Int→(List (ByteArray × Bool))→Option (Cache × (List ByteArray) × Int)):Nat→Int→Cache→(List (ByteArray × Bool))→Int→Entry→(List (ByteArray × Bool))→Int→Option (Cache × (List ByteArray) × Int)
  | 0,_,_,_,_,_,_,_=>none
  | k+1,a2,y3,v_isRoot12_0,v51,x1,v_wanted11_0,v70 =>
    bif decide (v70<(x1.Refs.length:Int)) then
    ((at? x1.Refs v70).bind fun x2 =>
    (cache_Swept.l5 j4 k) a2 y3 v_isRoot12_0 v51 x1 (mput v_wanted11_0 x2 true) (w64 (v70+1)))
    else
    (j4 a2 y3 v_isRoot12_0 v51 v_wanted11_0)
def cache_Swept.l3 (e2:Int→Cache→(List (ByteArray × Bool))→(List (ByteArray × Bool))→Option (Cache × (List ByteArray) × Int)):Nat→Int→Cache→(List (ByteArray × Bool))→(List (ByteArray × Bool))→Int→Option (Cache × (List ByteArray) × Int)
  | 0,_,_,_,_,_=>none
  | k+1,a2,y3,v_isRoot12_0,v_wanted11_0,v51 =>
    bif decide (v51<(y3.Entries.length:Int)) then
    ((at? y3.Entries v51).bind fun x1 =>
    (bif mgetD v_isRoot12_0 x1.Key false then ((cache_missing.f (⟨y3.Room,y3.Lease,y3.Blobs,y3.Entries⟩:Cache) x1.Refs).bind fun y9 =>
    some ((y9.length:Int) == 0)) else (some false)).bind fun t1 =>
    bif t1 then
    (cache_Swept.l5 (cache_Swept.j4 ((cache_Swept.l3 e2 k))) big a2 y3 v_isRoot12_0 v51 x1 v_wanted11_0 0)
    else
    (cache_Swept.j4 ((cache_Swept.l3 e2 k)) a2 y3 v_isRoot12_0 v51 v_wanted11_0))
    else
    (e2 a2 y3 v_isRoot12_0 v_wanted11_0)
def cache_Swept.e1 (a2:Int) (y3:Cache) (v_wanted11_0:List (ByteArray × Bool)) (v_isRoot12_0:List (ByteArray × Bool)):Option (Cache × (List ByteArray) × Int) :=
  cache_Swept.l3 cache_Swept.e2 big a2 y3 v_isRoot12_0 v_wanted11_0 0
def cache_Swept.l6 (e1:Int→Cache→(List (ByteArray × Bool))→(List (ByteArray × Bool))→Option (Cache × (List ByteArray) × Int)):Nat→(List ByteArray)→Int→Cache→(List (ByteArray × Bool))→(List (ByteArray × Bool))→Int→Option (Cache × (List ByteArray) × Int)
  | 0,_,_,_,_,_,_=>none
  | k+1,a1,a2,y3,v_wanted11_0,v_isRoot12_0,v39 =>
    bif decide (v39<(a1.length:Int)) then
    ((at? a1 v39).bind fun x3 =>
    (cache_Swept.l6 e1 k) a1 a2 y3 (mput v_wanted11_0 x3 true) (mput v_isRoot12_0 x3 true) (w64 (v39+1)))
    else
    (e1 a2 y3 v_wanted11_0 v_isRoot12_0)
def cache_Swept.f (a0:Cache) (a1:List ByteArray) (a2:Int):Option (Cache × (List ByteArray) × Int) :=
  (cache_checkAt.f a0 a2).bind fun y1 =>
  bif y1 != 0 then
  (some ((⟨0,0,([]:List Blob),([]:List Entry)⟩:Cache),([]:List ByteArray),y1))
  else
  ((cache_checkDigests.f a1 3000).bind fun y2 =>
  bif y2 != 0 then
  (some ((⟨0,0,([]:List Blob),([]:List Entry)⟩:Cache),([]:List ByteArray),y2))
  else
  ((cache_own.f a0).bind fun y3 =>
  cache_Swept.l6 cache_Swept.e1 big a1 a2 y3 ([]:List (ByteArray × Bool)) ([]:List (ByteArray × Bool)) 0))
def smithyardref7_copied.e1 (a0:Cache) (v_out3_3:List Entry):Option Cache :=
  some (⟨a0.Room,a0.Lease,(([]:List Blob)++a0.Blobs),v_out3_3⟩:Cache)
def smithyardref7_copied.l2 (e1:Cache→(List Entry)→Option Cache):Nat→Cache→(List Entry)→Int→Option Cache
  | 0,_,_,_=>none
  | k+1,a0,v_out3_3,v_i4 =>
    bif decide (v_i4<(a0.Entries.length:Int)) then
    ((at? a0.Entries v_i4).bind fun x1 =>
    (at? a0.Entries v_i4).bind fun x2 =>
    guard? (room 0 x2.Refs.length 16) (
    guard? (room v_out3_3.length 1 48) (
    (smithyardref7_copied.l2 e1 k) a0 (v_out3_3++([(⟨x1.Key,(([]:List ByteArray)++x2.Refs),x1.Used⟩:Entry)]:List Entry)) (w64 (v_i4+1)))))
    else
    (e1 a0 v_out3_3)
def smithyardref7_copied.f (a0:Cache):Option Cache :=
  guard? (room 0 a0.Blobs.length 48) (
  smithyardref7_copied.l2 smithyardref7_copied.e1 big a0 ([]:List Entry) 0)
def cache_leaving_1.f (a0:Blob) (a1:Int):Option Bool :=
  (cache_held.f a0 a1).bind fun y1 =>
  some y1
def slices_IndexFunc_Blob_3.e1 :Option Int :=
  some (-1)
def slices_IndexFunc_Blob_3.l2 (e1:Option Int):Nat→(List Blob)→Int→Int→Option Int
  | 0,_,_,_=>none
  | k+1,a0,a1q0,v8 =>
    bif decide (v8<(a0.length:Int)) then
    ((at? a0 v8).bind fun x1 =>
    (cache_leaving_1.f x1 a1q0).bind fun y1 =>
    bif y1 then
    (some v8)
    else
    ((slices_IndexFunc_Blob_3.l2 e1 k) a0 a1q0 (w64 (v8+1))))
    else
    (e1)
def slices_IndexFunc_Blob_3.f (a0:List Blob) (a1q0:Int):Option Int :=
  slices_IndexFunc_Blob_3.l2 slices_IndexFunc_Blob_3.e1 big a0 a1q0 0
def slices_DeleteFunc_Blob_3.e1 (v_s0:List Blob) (v_i5:Int):Option (List Blob) :=
  guard? (decide ((0:Int)≤v_i5)&&decide (v_i5≤((v_s0.length:Nat):Int))) (
  guard? (decide ((0:Int)≤v_i5)&&decide (v_i5≤((v_s0.length:Nat):Int))) (
  some ((v_s0.take v_i5.toNat++List.replicate (v_s0.length - v_i5.toNat) (⟨ByteArray.empty,0,0,0,0⟩:Blob)).take v_i5.toNat)))
def slices_DeleteFunc_Blob_3.j3 (backl2:Int→(List Blob)→Int→Int→Option (List Blob)) (a1q0:Int) (v_j6:Int) (v_s0:List Blob) (v_i5:Int):Option (List Blob) :=
  backl2 a1q0 v_s0 v_i5 (w64 (v_j6+1))
def slices_DeleteFunc_Blob_3.l2 (e1:(List Blob)→Int→Option (List Blob)):Nat→Int→(List Blob)→Int→Int→Option (List Blob)
  | 0,_,_,_,_=>none
  | k+1,a1q0,v_s0,v_i5,v_j6 =>
    bif decide (v_j6<(v_s0.length:Int)) then
    ((at? v_s0 v_j6).bind fun x1 =>
    (cache_leaving_1.f x1 a1q0).bind fun y2 =>
    bif !y2 then
    ((at? v_s0 v_i5).bind fun x2 =>
    slices_DeleteFunc_Blob_3.j3 ((slices_DeleteFunc_Blob_3.l2 e1 k)) a1q0 v_j6 (v_s0.set v_i5.toNat x1) (w64 (v_i5+1)))
    else
    (slices_DeleteFunc_Blob_3.j3 ((slices_DeleteFunc_Blob_3.l2 e1 k)) a1q0 v_j6 v_s0 v_i5))
    else
    (e1 v_s0 v_i5)
def slices_DeleteFunc_Blob_3.f (a0:List Blob) (a1q0:Int):Option (List Blob) :=
  (slices_IndexFunc_Blob_3.f a0 a1q0).bind fun y1 =>
  bif y1 == (-1) then
  (some a0)
  else
  (slices_DeleteFunc_Blob_3.l2 slices_DeleteFunc_Blob_3.e1 big a1q0 a0 y1 (w64 (y1+1)))
def cmp_isNaN_int.f (a0:Int):Option Bool :=
  some (a0 != a0)
def cmp_Compare_int.f (a0:Int) (a1:Int):Option Int :=
  (cmp_isNaN_int.f a0).bind fun y1 =>
  (cmp_isNaN_int.f a1).bind fun y2 =>
  bif y1 then
  (bif y2 then
  (some 0)
  else
  (some (-1)))
  else
  (bif y2 then
  (some 1)
  else
  (bif decide (a0<a1) then
  (some (-1))
  else
  (bif decide (a1<a0) then
  (some 1)
  else
  (some 0))))
def cache_leaving_2.f (a0:Blob) (a1:Blob):Option Int :=
  (cmp_Compare_int.f a0.Used a1.Used).bind fun y1 =>
  some y1
def slices_insertionSortCmpFunc_Blob.e2 (backl1:Int→Int→(List Blob)→Int→Option (List Blob)) (a1:Int) (a2:Int) (v_i8:Int) (v_data0:List Blob):Option (List Blob) :=
  backl1 a1 a2 v_data0 (w64 (v_i8+1))
def slices_insertionSortCmpFunc_Blob.l3 (e2:Int→Int→Int→(List Blob)→Option (List Blob)):Nat→Int→Int→Int→(List Blob)→Int→Option (List Blob)
  | 0,_,_,_,_,_=>none
  | k+1,a1,a2,v_i8,v_data0,v_j9 =>
    (bif decide (a1<v_j9) then ((at? v_data0 v_j9).bind fun x1 =>
    (at? v_data0 (w64 (v_j9 - 1))).bind fun x2 =>
    (cache_leaving_2.f x1 x2).bind fun y1 =>
    some (decide (y1<0))) else (some false)).bind fun t1 =>
    bif t1 then
    ((at? v_data0 (w64 (v_j9 - 1))).bind fun x3 =>
    (at? v_data0 v_j9).bind fun x4 =>
    (at? (v_data0.set v_j9.toNat x3) (w64 (v_j9 - 1))).bind fun x5 =>
    (slices_insertionSortCmpFunc_Blob.l3 e2 k) a1 a2 v_i8 ((v_data0.set v_j9.toNat x3).set (w64 (v_j9 - 1)).toNat x4) (w64 (v_j9 - 1)))
    else
    (e2 a1 a2 v_i8 v_data0)
def slices_insertionSortCmpFunc_Blob.l1:Nat→Int→Int→(List Blob)→Int→Option (List Blob)
  | 0,_,_,_,_=>none
  | k+1,a1,a2,v_data0,v_i8 =>
    bif decide (v_i8<a2) then
    (slices_insertionSortCmpFunc_Blob.l3 (slices_insertionSortCmpFunc_Blob.e2 ((slices_insertionSortCmpFunc_Blob.l1 k))) big a1 a2 v_i8 v_data0 v_i8)
    else
    (some v_data0)
def slices_insertionSortCmpFunc_Blob.f (a0:List Blob) (a1:Int) (a2:Int):Option (List Blob) :=
  slices_insertionSortCmpFunc_Blob.l1 big a1 a2 a0 (w64 (a1+1))
def slices_swapRangeCmpFunc_Blob.l1:Nat→Int→Int→Int→(List Blob)→Int→Option (List Blob)
  | 0,_,_,_,_,_=>none
  | k+1,a1,a2,a3,v_data0,v_i10 =>
    bif decide (v_i10<a3) then
    ((at? v_data0 (w64 (a2+v_i10))).bind fun x1 =>
    (at? v_data0 (w64 (a1+v_i10))).bind fun x2 =>
    (at? (v_data0.set (w64 (a1+v_i10)).toNat x1) (w64 (a2+v_i10))).bind fun x3 =>
    (slices_swapRangeCmpFunc_Blob.l1 k) a1 a2 a3 ((v_data0.set (w64 (a1+v_i10)).toNat x1).set (w64 (a2+v_i10)).toNat x2) (w64 (v_i10+1)))
    else
    (some v_data0)
def slices_swapRangeCmpFunc_Blob.f (a0:List Blob) (a1:Int) (a2:Int) (a3:Int):Option (List Blob) :=
  slices_swapRangeCmpFunc_Blob.l1 big a1 a2 a3 a0 0
def slices_rotateCmpFunc_Blob.e1 (a2:Int) (v_data0:List Blob) (v_i10:Int):Option (List Blob) :=
  (slices_swapRangeCmpFunc_Blob.f v_data0 (w64 (a2 - v_i10)) a2 v_i10).bind fun y1 =>
  some y1
def slices_rotateCmpFunc_Blob.l2 (e1:Int→(List Blob)→Int→Option (List Blob)):Nat→Int→(List Blob)→Int→Int→Option (List Blob)
  | 0,_,_,_,_=>none
  | k+1,a2,v_data0,v_i10,v_j11 =>
    bif v_i10 != v_j11 then
    (bif decide (v_j11<v_i10) then
    ((slices_swapRangeCmpFunc_Blob.f v_data0 (w64 (a2 - v_i10)) a2 v_j11).bind fun y2 =>
    (slices_rotateCmpFunc_Blob.l2 e1 k) a2 y2 (w64 (v_i10 - v_j11)) v_j11)
    else
    ((slices_swapRangeCmpFunc_Blob.f v_data0 (w64 (a2 - v_i10)) (w64 ((w64 (a2+v_j11)) - v_i10)) v_i10).bind fun y3 =>
    (slices_rotateCmpFunc_Blob.l2 e1 k) a2 y3 v_i10 (w64 (v_j11 - v_i10))))
    else
    (e1 a2 v_data0 v_i10)
def slices_rotateCmpFunc_Blob.f (a0:List Blob) (a1:Int) (a2:Int) (a3:Int):Option (List Blob) :=
  slices_rotateCmpFunc_Blob.l2 slices_rotateCmpFunc_Blob.e1 big a2 a0 (w64 (a2 - a1)) (w64 (a3 - a2))
def slices_symMergeCmpFunc_Blob.l2:Nat→Int→(List Blob)→Int→Option (List Blob)
  | 0,_,_,_=>none
  | k+1,v_i10,v_data0,v_k13 =>
    bif decide (v_k13<(w64 (v_i10 - 1))) then
    ((at? v_data0 (w64 (v_k13+1))).bind fun x1 =>
    (at? v_data0 v_k13).bind fun x2 =>
    (at? (v_data0.set v_k13.toNat x1) (w64 (v_k13+1))).bind fun x3 =>
    (slices_symMergeCmpFunc_Blob.l2 k) v_i10 ((v_data0.set v_k13.toNat x1).set (w64 (v_k13+1)).toNat x2) (w64 (v_k13+1)))
    else
    (some v_data0)
def slices_symMergeCmpFunc_Blob.e1 (a0:List Blob) (a1:Int) (v_i10:Int):Option (List Blob) :=
  slices_symMergeCmpFunc_Blob.l2 big v_i10 a0 a1
def slices_symMergeCmpFunc_Blob.l3 (e1:(List Blob)→Int→Int→Option (List Blob)):Nat→(List Blob)→Int→Int→Int→Option (List Blob)
  | 0,_,_,_,_=>none
  | k+1,a0,a1,v_i10,v_j11 =>
    bif decide (v_i10<v_j11) then
    ((at? a0 (w64 (iShr .u64 (IntKind.wrap .u64 (w64 (v_i10+v_j11))) 1))).bind fun x4 =>
    (at? a0 a1).bind fun x5 =>
    (cache_leaving_2.f x4 x5).bind fun y1 =>
    bif decide (y1<0) then
    ((slices_symMergeCmpFunc_Blob.l3 e1 k) a0 a1 (w64 ((w64 (iShr .u64 (IntKind.wrap .u64 (w64 (v_i10+v_j11))) 1))+1)) v_j11)
    else
    ((slices_symMergeCmpFunc_Blob.l3 e1 k) a0 a1 v_i10 (w64 (iShr .u64 (IntKind.wrap .u64 (w64 (v_i10+v_j11))) 1))))
    else
    (e1 a0 a1 v_i10)
def slices_symMergeCmpFunc_Blob.l5:Nat→Int→(List Blob)→Int→Option (List Blob)
  | 0,_,_,_=>none
  | k+1,v_i14,v_data0,v_k17 =>
    bif decide (v_i14<v_k17) then
    ((at? v_data0 (w64 (v_k17 - 1))).bind fun x6 =>
    (at? v_data0 v_k17).bind fun x7 =>
    (at? (v_data0.set v_k17.toNat x6) (w64 (v_k17 - 1))).bind fun x8 =>
    (slices_symMergeCmpFunc_Blob.l5 k) v_i14 ((v_data0.set v_k17.toNat x6).set (w64 (v_k17 - 1)).toNat x7) (w64 (v_k17 - 1)))
    else
    (some v_data0)
def slices_symMergeCmpFunc_Blob.e4 (a0:List Blob) (a2:Int) (v_i14:Int):Option (List Blob) :=
  slices_symMergeCmpFunc_Blob.l5 big v_i14 a0 a2
def slices_symMergeCmpFunc_Blob.l6 (e4:(List Blob)→Int→Int→Option (List Blob)):Nat→(List Blob)→Int→Int→Int→Option (List Blob)
  | 0,_,_,_,_=>none
  | k+1,a0,a2,v_i14,v_j15 =>
    bif decide (v_i14<v_j15) then
    ((at? a0 a2).bind fun x9 =>
    (at? a0 (w64 (iShr .u64 (IntKind.wrap .u64 (w64 (v_i14+v_j15))) 1))).bind fun x10 =>
    (cache_leaving_2.f x9 x10).bind fun y2 =>
    bif !(decide (y2<0)) then
    ((slices_symMergeCmpFunc_Blob.l6 e4 k) a0 a2 (w64 ((w64 (iShr .u64 (IntKind.wrap .u64 (w64 (v_i14+v_j15))) 1))+1)) v_j15)
    else
    ((slices_symMergeCmpFunc_Blob.l6 e4 k) a0 a2 v_i14 (w64 (iShr .u64 (IntKind.wrap .u64 (w64 (v_i14+v_j15))) 1))))
    else
    (e4 a0 a2 v_i14)
def slices_symMergeCmpFunc_Blob.j11 (v_data0:List Blob):Option (List Blob) :=
  some v_data0
def slices_symMergeCmpFunc_Blob.j10 (rec_:(List Blob)→Int→Int→Int→Option (List Blob)) (a1:Int) (a2:Int) (a3:Int) (v_start20:Int) (v_data0:List Blob):Option (List Blob) :=
  (bif decide ((w64 (iShr .u64 (IntKind.wrap .u64 (w64 (a1+a3))) 1))<(w64 ((w64 ((w64 (iShr .u64 (IntKind.wrap .u64 (w64 (a1+a3))) 1))+a2)) - v_start20))) then (some (decide ((w64 ((w64 ((w64 (iShr .u64 (IntKind.wrap .u64 (w64 (a1+a3))) 1))+a2)) - v_start20))<a3))) else (some false)).bind fun t3 =>
  bif t3 then
  ((rec_ v_data0 (w64 (iShr .u64 (IntKind.wrap .u64 (w64 (a1+a3))) 1)) (w64 ((w64 ((w64 (iShr .u64 (IntKind.wrap .u64 (w64 (a1+a3))) 1))+a2)) - v_start20)) a3).bind fun y3 =>
  slices_symMergeCmpFunc_Blob.j11 y3)
  else
  (slices_symMergeCmpFunc_Blob.j11 v_data0)
def slices_symMergeCmpFunc_Blob.j9 (rec_:(List Blob)→Int→Int→Int→Option (List Blob)) (a1:Int) (a2:Int) (a3:Int) (v_start20:Int) (v_data0:List Blob):Option (List Blob) :=
  (bif decide (a1<v_start20) then (some (decide (v_start20<(w64 (iShr .u64 (IntKind.wrap .u64 (w64 (a1+a3))) 1))))) else (some false)).bind fun t2 =>
  bif t2 then
  ((rec_ v_data0 a1 v_start20 (w64 (iShr .u64 (IntKind.wrap .u64 (w64 (a1+a3))) 1))).bind fun y4 =>
  slices_symMergeCmpFunc_Blob.j10 rec_ a1 a2 a3 v_start20 y4)
  else
  (slices_symMergeCmpFunc_Blob.j10 rec_ a1 a2 a3 v_start20 v_data0)
def slices_symMergeCmpFunc_Blob.e8 (rec_:(List Blob)→Int→Int→Int→Option (List Blob)) (a0:List Blob) (a1:Int) (a2:Int) (a3:Int) (v_start20:Int):Option (List Blob) :=
  (bif decide (v_start20<a2) then (some (decide (a2<(w64 ((w64 ((w64 (iShr .u64 (IntKind.wrap .u64 (w64 (a1+a3))) 1))+a2)) - v_start20))))) else (some false)).bind fun t1 =>
  bif t1 then
  ((slices_rotateCmpFunc_Blob.f a0 v_start20 a2 (w64 ((w64 ((w64 (iShr .u64 (IntKind.wrap .u64 (w64 (a1+a3))) 1))+a2)) - v_start20))).bind fun y5 =>
  slices_symMergeCmpFunc_Blob.j9 rec_ a1 a2 a3 v_start20 y5)
  else
  (slices_symMergeCmpFunc_Blob.j9 rec_ a1 a2 a3 v_start20 a0)
def slices_symMergeCmpFunc_Blob.l12 (e8:(List Blob)→Int→Int→Int→Int→Option (List Blob)):Nat→(List Blob)→Int→Int→Int→Int→Int→Option (List Blob)
  | 0,_,_,_,_,_,_=>none
  | k+1,a0,a1,a2,a3,v_start20,v_r21 =>
    bif decide (v_start20<v_r21) then
    ((at? a0 (w64 ((w64 ((w64 ((w64 (iShr .u64 (IntKind.wrap .u64 (w64 (a1+a3))) 1))+a2)) - 1)) - (w64 (iShr .u64 (IntKind.wrap .u64 (w64 (v_start20+v_r21))) 1))))).bind fun x11 =>
    (at? a0 (w64 (iShr .u64 (IntKind.wrap .u64 (w64 (v_start20+v_r21))) 1))).bind fun x12 =>
    (cache_leaving_2.f x11 x12).bind fun y6 =>
    bif !(decide (y6<0)) then
    ((slices_symMergeCmpFunc_Blob.l12 e8 k) a0 a1 a2 a3 (w64 ((w64 (iShr .u64 (IntKind.wrap .u64 (w64 (v_start20+v_r21))) 1))+1)) v_r21)
    else
    ((slices_symMergeCmpFunc_Blob.l12 e8 k) a0 a1 a2 a3 v_start20 (w64 (iShr .u64 (IntKind.wrap .u64 (w64 (v_start20+v_r21))) 1))))
    else
    (e8 a0 a1 a2 a3 v_start20)
def slices_symMergeCmpFunc_Blob.j7 (rec_:(List Blob)→Int→Int→Int→Option (List Blob)) (a0:List Blob) (a1:Int) (a2:Int) (a3:Int) (v_start20:Int) (v_r21:Int):Option (List Blob) :=
  slices_symMergeCmpFunc_Blob.l12 (slices_symMergeCmpFunc_Blob.e8 rec_) big a0 a1 a2 a3 v_start20 v_r21
def slices_symMergeCmpFunc_Blob.g (rec_:(List Blob)→Int→Int→Int→Option (List Blob)) (a0:List Blob) (a1:Int) (a2:Int) (a3:Int):Option (List Blob) :=
  bif (w64 (a2 - a1)) == 1 then
  (slices_symMergeCmpFunc_Blob.l3 slices_symMergeCmpFunc_Blob.e1 big a0 a1 a2 a3)
  else
  (bif (w64 (a3 - a2)) == 1 then
  (slices_symMergeCmpFunc_Blob.l6 slices_symMergeCmpFunc_Blob.e4 big a0 a2 a1 a2)
  else
  (bif decide ((w64 (iShr .u64 (IntKind.wrap .u64 (w64 (a1+a3))) 1))<a2) then
  (slices_symMergeCmpFunc_Blob.j7 rec_ a0 a1 a2 a3 (w64 ((w64 ((w64 (iShr .u64 (IntKind.wrap .u64 (w64 (a1+a3))) 1))+a2)) - a3)) (w64 (iShr .u64 (IntKind.wrap .u64 (w64 (a1+a3))) 1)))
  else
  (slices_symMergeCmpFunc_Blob.j7 rec_ a0 a1 a2 a3 a1 a2)))
def slices_symMergeCmpFunc_Blob.fk:Nat→(List Blob)→Int→Int→Int→Option (List Blob)
  | 0,_,_,_,_=>none
  | k+1,a0,a1,a2,a3=>slices_symMergeCmpFunc_Blob.g (slices_symMergeCmpFunc_Blob.fk k) a0 a1 a2 a3
def slices_symMergeCmpFunc_Blob.f (a0:List Blob) (a1:Int) (a2:Int) (a3:Int):Option (List Blob):=slices_symMergeCmpFunc_Blob.fk big a0 a1 a2 a3
def slices_stableCmpFunc_Blob.j4 (backl2:Int→(List Blob)→Int→Option (List Blob)) (a1:Int) (v_blockSize6:Int) (v_data0:List Blob):Option (List Blob) :=
  backl2 a1 v_data0 (w64 (v_blockSize6*2))
def slices_stableCmpFunc_Blob.e3 (backl2:Int→(List Blob)→Int→Option (List Blob)) (a1:Int) (v_data0:List Blob) (v_blockSize6:Int) (v_a7:Int):Option (List Blob) :=
  bif decide ((w64 (v_a7+v_blockSize6))<a1) then
  ((slices_symMergeCmpFunc_Blob.f v_data0 v_a7 (w64 (v_a7+v_blockSize6)) a1).bind fun y2 =>
  slices_stableCmpFunc_Blob.j4 backl2 a1 v_blockSize6 y2)
  else
  (slices_stableCmpFunc_Blob.j4 backl2 a1 v_blockSize6 v_data0)
def slices_stableCmpFunc_Blob.l5 (e3:Int→(List Blob)→Int→Int→Option (List Blob)):Nat→Int→Int→(List Blob)→Int→Int→Option (List Blob)
  | 0,_,_,_,_,_=>none
  | k+1,a1,v_blockSize6,v_data0,v_a7,v_b8 =>
    bif decide (v_b8≤a1) then
    ((slices_symMergeCmpFunc_Blob.f v_data0 v_a7 (w64 (v_a7+v_blockSize6)) v_b8).bind fun y3 =>
    (slices_stableCmpFunc_Blob.l5 e3 k) a1 v_blockSize6 y3 v_b8 (w64 (v_b8+(w64 (2*v_blockSize6)))))
    else
    (e3 a1 v_data0 v_blockSize6 v_a7)
def slices_stableCmpFunc_Blob.l2:Nat→Int→(List Blob)→Int→Option (List Blob)
  | 0,_,_,_=>none
  | k+1,a1,v_data0,v_blockSize6 =>
    bif decide (v_blockSize6<a1) then
    (slices_stableCmpFunc_Blob.l5 (slices_stableCmpFunc_Blob.e3 ((slices_stableCmpFunc_Blob.l2 k))) big a1 v_blockSize6 v_data0 0 (w64 (2*v_blockSize6)))
    else
    (some v_data0)
def slices_stableCmpFunc_Blob.e1 (a1:Int) (v_data0:List Blob) (v_a7:Int):Option (List Blob) :=
  (slices_insertionSortCmpFunc_Blob.f v_data0 v_a7 a1).bind fun y1 =>
  slices_stableCmpFunc_Blob.l2 big a1 y1 20
def slices_stableCmpFunc_Blob.l6 (e1:Int→(List Blob)→Int→Option (List Blob)):Nat→Int→(List Blob)→Int→Int→Option (List Blob)
  | 0,_,_,_,_=>none
  | k+1,a1,v_data0,v_a7,v_b8 =>
    bif decide (v_b8≤a1) then
    ((slices_insertionSortCmpFunc_Blob.f v_data0 v_a7 v_b8).bind fun y4 =>
    (slices_stableCmpFunc_Blob.l6 e1 k) a1 y4 v_b8 (w64 (v_b8+20)))
    else
    (e1 a1 v_data0 v_a7)
def slices_stableCmpFunc_Blob.f (a0:List Blob) (a1:Int):Option (List Blob) :=
  slices_stableCmpFunc_Blob.l6 slices_stableCmpFunc_Blob.e1 big a1 a0 0 20
def slices_SortStableFunc_Blob.f (a0:List Blob):Option (List Blob) :=
  (slices_stableCmpFunc_Blob.f a0 (a0.length:Int)).bind fun y1 =>
  some y1
def cache_leaving.f (a0:Cache) (a1:Int):Option (List Blob) :=
  (slices_Clone_Blob.f a0.Blobs).bind fun y1 =>
  (slices_DeleteFunc_Blob_3.f y1 a1).bind fun y2 =>
  (slices_SortStableFunc_Blob.f y2).bind fun y3 =>
  some y3
def cache_sumOf.f (a0:List Blob):Option Int :=
  (cache_used.f (⟨0,0,a0,([]:List Entry)⟩:Cache)).bind fun y1 =>
  some y1
def cache_clear.e1 (a0:Cache) (v_gone10:List ByteArray):Option ((List ByteArray) × Bool × Cache) :=
  (cache_drop.f (⟨a0.Room,a0.Lease,a0.Blobs,a0.Entries⟩:Cache) v_gone10).bind fun y4 =>
  some (v_gone10,true,(⟨y4.Room,y4.Lease,y4.Blobs,y4.Entries⟩:Cache))
def cache_clear.l2 (e1:Cache→(List ByteArray)→Option ((List ByteArray) × Bool × Cache)):Nat→Cache→(List Blob)→Int→(List ByteArray)→Int→Option ((List ByteArray) × Bool × Cache)
  | 0,_,_,_,_,_=>none
  | k+1,a0,y1,v_over9,v_gone10,v30 =>
    bif decide (v30<(y1.length:Int)) then
    ((at? y1 v30).bind fun x1 =>
    bif decide (v_over9≤0) then
    (e1 a0 v_gone10)
    else
    (guard? (room v_gone10.length 1 16) (
    (cache_clear.l2 e1 k) a0 y1 (w64 (v_over9 - x1.Size)) (v_gone10++([x1.Digest]:List ByteArray)) (w64 (v30+1)))))
    else
    (e1 a0 v_gone10)
def cache_clear.f (a0:Cache) (a1:Int) (a2:Int):Option ((List ByteArray) × Bool × Cache) :=
  (cache_leaving.f (⟨a0.Room,a0.Lease,a0.Blobs,a0.Entries⟩:Cache) a2).bind fun y1 =>
  (cache_used.f (⟨a0.Room,a0.Lease,a0.Blobs,a0.Entries⟩:Cache)).bind fun y2 =>
  (cache_sumOf.f y1).bind fun y3 =>
  bif decide (y3<(w64 (y2 - a1))) then
  (some (([]:List ByteArray),false,(⟨a0.Room,a0.Lease,a0.Blobs,a0.Entries⟩:Cache)))
  else
  (cache_clear.l2 cache_clear.e1 big a0 y1 (w64 (y2 - a1)) ([]:List ByteArray) 0)
def cache_Shrunk.f (a0:Cache) (a1:Int) (a2:Int):Option (Cache × (List ByteArray) × Int) :=
  (cache_checkAt.f a0 a2).bind fun y1 =>
  bif y1 != 0 then
  (some ((⟨0,0,([]:List Blob),([]:List Entry)⟩:Cache),([]:List ByteArray),y1))
  else
  ((cache_within.f a1 0 1000000000).bind fun y2 =>
  bif !y2 then
  (some ((⟨0,0,([]:List Blob),([]:List Entry)⟩:Cache),([]:List ByteArray),1))
  else
  ((cache_own.f a0).bind fun y3 =>
  (cache_clear.f (⟨y3.Room,y3.Lease,y3.Blobs,y3.Entries⟩:Cache) a1 a2).bind fun y4 =>
  bif !y4.2.1 then
  (some ((⟨0,0,([]:List Blob),([]:List Entry)⟩:Cache),([]:List ByteArray),16))
  else
  (some ((⟨a1,y4.2.2.Lease,y4.2.2.Blobs,y4.2.2.Entries⟩:Cache),y4.1,0))))
def smithyardref7_held.f (a0:Blob) (a1:Int):Option Bool :=
  (bif decide (0<a0.Pins) then (some true) else (some (decide (a1<a0.Until)))).bind fun t1 =>
  some t1
def smithyardref7_row.e2 (v_out10:List ByteArray):Option (List ByteArray) :=
  some v_out10
def smithyardref7_row.l3 (e2:(List ByteArray)→Option (List ByteArray)):Nat→(List Blob)→(List ByteArray)→Int→Option (List ByteArray)
  | 0,_,_,_=>none
  | k+1,v_l5,v_out10,v_i11 =>
    bif decide (v_i11<(v_l5.length:Int)) then
    ((at? v_l5 v_i11).bind fun x1 =>
    guard? (room v_out10.length 1 16) (
    (smithyardref7_row.l3 e2 k) v_l5 (v_out10++([x1.Digest]:List ByteArray)) (w64 (v_i11+1))))
    else
    (e2 v_out10)
def smithyardref7_row.e1 (v_l5:List Blob):Option (List ByteArray) :=
  smithyardref7_row.l3 smithyardref7_row.e2 big v_l5 ([]:List ByteArray) 0
def smithyardref7_row.j5 (backl4:Cache→Int→(List Blob)→Int→Option (List ByteArray)) (a0:Cache) (a1:Int) (v_i6:Int) (v_l5:List Blob):Option (List ByteArray) :=
  backl4 a0 a1 v_l5 (w64 (v_i6+1))
def smithyardref7_row.e6 (j5:Cache→Int→Int→(List Blob)→Option (List ByteArray)) (a0:Cache) (a1:Int) (v_l5:List Blob) (v_i6:Int) (x2:Blob) (v_k8:Int):Option (List ByteArray) :=
  guard? (decide ((0:Int)≤v_k8)&&decide (v_k8≤((v_l5.length:Nat):Int))) (
  guard? (room 0 v_k8.toNat 48) (
  guard? (room ((([]:List Blob)++(v_l5.take v_k8.toNat)).length) 1 48) (
  guard? (decide ((0:Int)≤v_k8)&&decide (v_k8≤((v_l5.length:Nat):Int))) (
  guard? (room (((([]:List Blob)++(v_l5.take v_k8.toNat))++([x2]:List Blob)).length) (v_l5.length - v_k8.toNat) 48) (
  j5 a0 a1 v_i6 (((([]:List Blob)++(v_l5.take v_k8.toNat))++([x2]:List Blob))++(v_l5.drop v_k8.toNat)))))))
def smithyardref7_row.l7 (e6:Cache→Int→(List Blob)→Int→Blob→Int→Option (List ByteArray)):Nat→Cache→Int→(List Blob)→Int→Blob→Int→Option (List ByteArray)
  | 0,_,_,_,_,_,_=>none
  | k+1,a0,a1,v_l5,v_i6,x2,v_k8 =>
    (bif decide (0<v_k8) then ((at? v_l5 (w64 (v_k8 - 1))).bind fun x3 =>
    some (decide (x2.Used<x3.Used))) else (some false)).bind fun t1 =>
    bif t1 then
    ((smithyardref7_row.l7 e6 k) a0 a1 v_l5 v_i6 x2 (w64 (v_k8 - 1)))
    else
    (e6 a0 a1 v_l5 v_i6 x2 v_k8)
def smithyardref7_row.l4 (e1:(List Blob)→Option (List ByteArray)):Nat→Cache→Int→(List Blob)→Int→Option (List ByteArray)
  | 0,_,_,_,_=>none
  | k+1,a0,a1,v_l5,v_i6 =>
    bif decide (v_i6<(a0.Blobs.length:Int)) then
    ((at? a0.Blobs v_i6).bind fun x2 =>
    (smithyardref7_held.f x2 a1).bind fun y1 =>
    bif y1 then
    (smithyardref7_row.j5 ((smithyardref7_row.l4 e1 k)) a0 a1 v_i6 v_l5)
    else
    (smithyardref7_row.l7 (smithyardref7_row.e6 (smithyardref7_row.j5 ((smithyardref7_row.l4 e1 k)))) big a0 a1 v_l5 v_i6 x2 (v_l5.length:Int)))
    else
    (e1 v_l5)
def smithyardref7_row.f (a0:Cache) (a1:Int):Option (List ByteArray) :=
  smithyardref7_row.l4 smithyardref7_row.e1 big a0 a1 ([]:List Blob) 0
def smithyardref7_drop_2.f (a0:Cache) (a1:ByteArray):Option Cache :=
  (smithyardref7_blob.f (⟨a0.Room,a0.Lease,a0.Blobs,a0.Entries⟩:Cache) a1).bind fun y1 =>
  guard? (decide ((0:Int)≤y1)&&decide (y1≤((a0.Blobs.length:Nat):Int))) (
  guard? (room 0 y1.toNat 48) (
  guard? (decide ((0:Int)≤(w64 (y1+1)))&&decide ((w64 (y1+1))≤((a0.Blobs.length:Nat):Int))) (
  guard? (room ((([]:List Blob)++(a0.Blobs.take y1.toNat)).length) (a0.Blobs.length - (w64 (y1+1)).toNat) 48) (
  some (⟨a0.Room,a0.Lease,((([]:List Blob)++(a0.Blobs.take y1.toNat))++(a0.Blobs.drop (w64 (y1+1)).toNat)),a0.Entries⟩:Cache)))))
def smithyardref7_space.e2 (v_c0_0:Int) (v_c0_1:Int) (v_c0_2:List Blob) (v_c0_3:List Entry) (v_gone10:List ByteArray):Option ((List ByteArray) × Bool × Cache) :=
  some (v_gone10,true,(⟨v_c0_0,v_c0_1,v_c0_2,v_c0_3⟩:Cache))
def smithyardref7_space.l3 (e2:Int→Int→(List Blob)→(List Entry)→(List ByteArray)→Option ((List ByteArray) × Bool × Cache)):Nat→Int→(List ByteArray)→Int→Int→(List Blob)→(List Entry)→(List ByteArray)→Int→Option ((List ByteArray) × Bool × Cache)
  | 0,_,_,_,_,_,_,_,_=>none
  | k+1,a1,y1,v_c0_0,v_c0_1,v_c0_2,v_c0_3,v_gone10,v_i12 =>
    (bif decide (v_i12<(y1.length:Int)) then ((smithyardref7_bytesOf.f v_c0_2).bind fun y2 =>
    some (decide (a1<y2))) else (some false)).bind fun t1 =>
    bif t1 then
    ((at? y1 v_i12).bind fun x1 =>
    (smithyardref7_drop_2.f (⟨v_c0_0,v_c0_1,v_c0_2,v_c0_3⟩:Cache) x1).bind fun y3 =>
    (at? y1 v_i12).bind fun x2 =>
    guard? (room v_gone10.length 1 16) (
    (smithyardref7_space.l3 e2 k) a1 y1 y3.Room y3.Lease y3.Blobs y3.Entries (v_gone10++([x2]:List ByteArray)) (w64 (v_i12+1))))
    else
    (e2 v_c0_0 v_c0_1 v_c0_2 v_c0_3 v_gone10)
def smithyardref7_space.e1 (a0:Cache) (a1:Int) (a2:Int) (v_stay8:Int):Option ((List ByteArray) × Bool × Cache) :=
  bif decide (a1<v_stay8) then
  (some (([]:List ByteArray),false,(⟨a0.Room,a0.Lease,a0.Blobs,a0.Entries⟩:Cache)))
  else
  ((smithyardref7_row.f (⟨a0.Room,a0.Lease,a0.Blobs,a0.Entries⟩:Cache) a2).bind fun y1 =>
  smithyardref7_space.l3 smithyardref7_space.e2 big a1 y1 a0.Room a0.Lease a0.Blobs a0.Entries ([]:List ByteArray) 0)
def smithyardref7_space.j5 (backl4:Cache→Int→Int→Int→Int→Option ((List ByteArray) × Bool × Cache)) (a0:Cache) (a1:Int) (a2:Int) (v_i9:Int) (v_stay8:Int):Option ((List ByteArray) × Bool × Cache) :=
  backl4 a0 a1 a2 v_stay8 (w64 (v_i9+1))
def smithyardref7_space.l4 (e1:Cache→Int→Int→Int→Option ((List ByteArray) × Bool × Cache)):Nat→Cache→Int→Int→Int→Int→Option ((List ByteArray) × Bool × Cache)
  | 0,_,_,_,_,_=>none
  | k+1,a0,a1,a2,v_stay8,v_i9 =>
    bif decide (v_i9<(a0.Blobs.length:Int)) then
    ((at? a0.Blobs v_i9).bind fun x3 =>
    (smithyardref7_held.f x3 a2).bind fun y4 =>
    bif y4 then
    ((at? a0.Blobs v_i9).bind fun x4 =>
    smithyardref7_space.j5 ((smithyardref7_space.l4 e1 k)) a0 a1 a2 v_i9 (w64 (v_stay8+x4.Size)))
    else
    (smithyardref7_space.j5 ((smithyardref7_space.l4 e1 k)) a0 a1 a2 v_i9 v_stay8))
    else
    (e1 a0 a1 a2 v_stay8)
def smithyardref7_space.f (a0:Cache) (a1:Int) (a2:Int):Option ((List ByteArray) × Bool × Cache) :=
  smithyardref7_space.l4 smithyardref7_space.e1 big a0 a1 a2 0 0
def smithyardref7_has.e1 :Option Bool :=
  some false
def smithyardref7_has.l2 (e1:Option Bool):Nat→(List ByteArray)→ByteArray→Int→Option Bool
  | 0,_,_,_=>none
  | k+1,a0,a1,v_i5 =>
    bif decide (v_i5<(a0.length:Int)) then
    ((at? a0 v_i5).bind fun x1 =>
    bif sEq x1 a1 then
    (some true)
    else
    ((smithyardref7_has.l2 e1 k) a0 a1 (w64 (v_i5+1))))
    else
    (e1)
def smithyardref7_has.f (a0:List ByteArray) (a1:ByteArray):Option Bool :=
  smithyardref7_has.l2 smithyardref7_has.e1 big a0 a1 0
def smithyardref7_Swept.e2 (a0:Cache) (v_entries12:List Entry) (v_out15_2:List Blob) (v_gone16:List ByteArray):Option (Cache × (List ByteArray) × Int) :=
  some ((⟨a0.Room,a0.Lease,v_out15_2,v_entries12⟩:Cache),v_gone16,0)
def smithyardref7_Swept.j4 (backl3:Cache→Int→Cache→(List Entry)→(List ByteArray)→(List Blob)→(List ByteArray)→Int→Option (Cache × (List ByteArray) × Int)) (a0:Cache) (a2:Int) (y4:Cache) (v_entries12:List Entry) (v_stay13:List ByteArray) (v_i17:Int) (v_out15_2:List Blob) (v_gone16:List ByteArray):Option (Cache × (List ByteArray) × Int) :=
  backl3 a0 a2 y4 v_entries12 v_stay13 v_out15_2 v_gone16 (w64 (v_i17+1))
def smithyardref7_Swept.l3 (e2:Cache→(List Entry)→(List Blob)→(List ByteArray)→Option (Cache × (List ByteArray) × Int)):Nat→Cache→Int→Cache→(List Entry)→(List ByteArray)→(List Blob)→(List ByteArray)→Int→Option (Cache × (List ByteArray) × Int)
  | 0,_,_,_,_,_,_,_,_=>none
  | k+1,a0,a2,y4,v_entries12,v_stay13,v_out15_2,v_gone16,v_i17 =>
    bif decide (v_i17<(y4.Blobs.length:Int)) then
    (((at? y4.Blobs v_i17).bind fun x1 =>
    (smithyardref7_held.f x1 a2).bind fun y5 =>
    bif y5 then (some true) else ((smithyardref7_has.f v_stay13 x1.Digest).bind fun y6 =>
    some y6)).bind fun t1 =>
    bif t1 then
    ((at? y4.Blobs v_i17).bind fun x2 =>
    guard? (room v_out15_2.length 1 48) (
    smithyardref7_Swept.j4 ((smithyardref7_Swept.l3 e2 k)) a0 a2 y4 v_entries12 v_stay13 v_i17 (v_out15_2++([x2]:List Blob)) v_gone16))
    else
    ((at? y4.Blobs v_i17).bind fun x3 =>
    guard? (room v_gone16.length 1 16) (
    smithyardref7_Swept.j4 ((smithyardref7_Swept.l3 e2 k)) a0 a2 y4 v_entries12 v_stay13 v_i17 v_out15_2 (v_gone16++([x3.Digest]:List ByteArray)))))
    else
    (e2 a0 v_entries12 v_out15_2 v_gone16)
def smithyardref7_Swept.e1 (a0:Cache) (a2:Int) (y4:Cache) (v_entries12:List Entry) (v_stay13:List ByteArray):Option (Cache × (List ByteArray) × Int) :=
  smithyardref7_Swept.l3 smithyardref7_Swept.e2 big a0 a2 y4 v_entries12 v_stay13 ([]:List Blob) ([]:List ByteArray) 0
def smithyardref7_Swept.j6 (backl5:Cache→(List ByteArray)→Int→Cache→(List Entry)→(List ByteArray)→Int→Option (Cache × (List ByteArray) × Int)) (a0:Cache) (a1:List ByteArray) (a2:Int) (y4:Cache) (v_i14:Int) (v_entries12:List Entry) (v_stay13:List ByteArray):Option (Cache × (List ByteArray) × Int) :=
  backl5 a0 a1 a2 y4 v_entries12 v_stay13 (w64 (v_i14+1))
def smithyardref7_Swept.l5 (e1:Cache→Int→Cache→(List Entry)→(List ByteArray)→Option (Cache × (List ByteArray) × Int)):Nat→Cache→(List ByteArray)→Int→Cache→(List Entry)→(List ByteArray)→Int→Option (Cache × (List ByteArray) × Int)
  | 0,_,_,_,_,_,_,_=>none
  | k+1,a0,a1,a2,y4,v_entries12,v_stay13,v_i14 =>
    bif decide (v_i14<(y4.Entries.length:Int)) then
    ((at? y4.Entries v_i14).bind fun x4 =>
    (smithyardref7_has.f a1 x4.Key).bind fun y7 =>
    bif !y7 then
    (smithyardref7_Swept.j6 ((smithyardref7_Swept.l5 e1 k)) a0 a1 a2 y4 v_i14 v_entries12 v_stay13)
    else
    ((at? y4.Entries v_i14).bind fun x5 =>
    guard? (room v_entries12.length 1 48) (
    (at? y4.Entries v_i14).bind fun x6 =>
    (smithyardref7_missing.f (⟨y4.Room,y4.Lease,y4.Blobs,y4.Entries⟩:Cache) x6.Refs).bind fun y8 =>
    bif (y8.length:Int) == 0 then
    ((at? y4.Entries v_i14).bind fun x7 =>
    guard? (room v_stay13.length x7.Refs.length 16) (
    smithyardref7_Swept.j6 ((smithyardref7_Swept.l5 e1 k)) a0 a1 a2 y4 v_i14 (v_entries12++([x5]:List Entry)) (v_stay13++x7.Refs)))
    else
    (smithyardref7_Swept.j6 ((smithyardref7_Swept.l5 e1 k)) a0 a1 a2 y4 v_i14 (v_entries12++([x5]:List Entry)) v_stay13))))
    else
    (e1 a0 a2 y4 v_entries12 v_stay13)
def smithyardref7_Swept.f (a0:Cache) (a1:List ByteArray) (a2:Int):Option (Cache × (List ByteArray) × Int) :=
  (smithyardref7_CheckCache.f a0).bind fun y1 =>
  bif y1 != 0 then
  (some ((⟨0,0,([]:List Blob),([]:List Entry)⟩:Cache),([]:List ByteArray),y1))
  else
  ((smithyardref7_within.f a2 0 1000000000).bind fun y2 =>
  bif !y2 then
  (some ((⟨0,0,([]:List Blob),([]:List Entry)⟩:Cache),([]:List ByteArray),1))
  else
  (bif decide (3000<(a1.length:Int)) then
  (some ((⟨0,0,([]:List Blob),([]:List Entry)⟩:Cache),([]:List ByteArray),2))
  else
  ((smithyardref7_rising.f a1).bind fun y3 =>
  bif y3 != 0 then
  (some ((⟨0,0,([]:List Blob),([]:List Entry)⟩:Cache),([]:List ByteArray),y3))
  else
  ((smithyardref7_copied.f a0).bind fun y4 =>
  guard? (room 0 a1.length 16) (
  smithyardref7_Swept.l5 smithyardref7_Swept.e1 big a0 a1 a2 y4 ([]:List Entry) (([]:List ByteArray)++a1) 0)))))
def smithyardref7_Shrunk.f (a0:Cache) (a1:Int) (a2:Int):Option (Cache × (List ByteArray) × Int) :=
  (smithyardref7_CheckCache.f a0).bind fun y1 =>
  bif y1 != 0 then
  (some ((⟨0,0,([]:List Blob),([]:List Entry)⟩:Cache),([]:List ByteArray),y1))
  else
  (((smithyardref7_within.f a1 0 1000000000).bind fun y2 =>
  bif !y2 then (some true) else ((smithyardref7_within.f a2 0 1000000000).bind fun y3 =>
  some (!y3))).bind fun t1 =>
  bif t1 then
  (some ((⟨0,0,([]:List Blob),([]:List Entry)⟩:Cache),([]:List ByteArray),1))
  else
  ((smithyardref7_copied.f a0).bind fun y4 =>
  (smithyardref7_space.f (⟨y4.Room,y4.Lease,y4.Blobs,y4.Entries⟩:Cache) a1 a2).bind fun y5 =>
  bif !y5.2.1 then
  (some ((⟨0,0,([]:List Blob),([]:List Entry)⟩:Cache),([]:List ByteArray),16))
  else
  (some ((⟨a1,y5.2.2.Lease,y5.2.2.Blobs,y5.2.2.Entries⟩:Cache),y5.1,0))))
def smithyardlaw7_CacheSweepsMatchSpec.f (a0:Cache) (a1:List ByteArray) (a2:Int) (a3:Int):Option Bool :=
  (smithyardref7_Copy.f a0).bind fun y1 =>
  (slices_Clone_string.f a1).bind fun y2 =>
  (cache_Swept.f a0 a1 a3).bind fun y3 =>
  (smithyardref7_Swept.f (⟨y1.Room,y1.Lease,y1.Blobs,y1.Entries⟩:Cache) y2 a3).bind fun y4 =>
  ((smithyardref7_Same.f (⟨y3.1.Room,y3.1.Lease,y3.1.Blobs,y3.1.Entries⟩:Cache) (⟨y4.1.Room,y4.1.Lease,y4.1.Blobs,y4.1.Entries⟩:Cache)).bind fun y5 =>
  bif !y5 then (some true) else ((slices_Equal_string.f y3.2.1 y4.2.1).bind fun y6 =>
  bif !y6 then (some true) else (some (y3.2.2 != y4.2.2)))).bind fun t1 =>
  bif t1 then
  (some false)
  else
  ((cache_Shrunk.f a0 a2 a3).bind fun y7 =>
  (smithyardref7_Shrunk.f (⟨y1.Room,y1.Lease,y1.Blobs,y1.Entries⟩:Cache) a2 a3).bind fun y8 =>
  ((smithyardref7_Same.f (⟨y7.1.Room,y7.1.Lease,y7.1.Blobs,y7.1.Entries⟩:Cache) (⟨y8.1.Room,y8.1.Lease,y8.1.Blobs,y8.1.Entries⟩:Cache)).bind fun y9 =>
  bif y9 then ((slices_Equal_string.f y7.2.1 y8.2.1).bind fun y10 =>
  bif y10 then (bif y7.2.2 == y8.2.2 then ((smithyardref7_Same.f a0 (⟨y1.Room,y1.Lease,y1.Blobs,y1.Entries⟩:Cache)).bind fun y11 =>
  bif y11 then ((slices_Equal_string.f a1 y2).bind fun y12 =>
  bif y12 then ((smithyardlaw7_awake.f).bind fun y13 =>
  some y13) else (some false)) else (some false)) else (some false)) else (some false)) else (some false)).bind fun t2 =>
  some t2)
end Go.Proofs.YtkjilepjblffeaaDoor
