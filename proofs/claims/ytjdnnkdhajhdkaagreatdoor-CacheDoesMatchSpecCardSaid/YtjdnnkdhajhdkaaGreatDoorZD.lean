/- Plain functions, each written by program out of one Go function's operations. -/
import Derived.Test.YtjdnnkdhajhdkaaGreatDoorKitP
import Derived.Lib.Bytealg
import Derived.Lib.SlTrimSet
set_option linter.unusedVariables false
namespace Go.Proofs.YtjdnnkdhajhdkaaGreatDoor
open Go Go.Proofs.YtjdnnkdhajhdkaaGreatDoor.Kit
structure Blob where
  Digest:ByteArray
  Size:Int
  Used:Int
  Until:Int
  Pins:Int
  deriving Inhabited,DecidableEq
structure Entry where
  Key:ByteArray
  Refs:List ByteArray
  Used:Int
  deriving Inhabited,DecidableEq
structure Cache where
  Room:Int
  Lease:Int
  Blobs:List Blob
  Entries:List Entry
  deriving Inhabited,DecidableEq
structure CacheEvent where
  Kind:Int
  At:Int
  Digest:ByteArray
  Digests:List ByteArray
  Key:ByteArray
  Size:Int
  deriving Inhabited,DecidableEq
structure CacheAnswer where
  Done:Bool
  Missing:List ByteArray
  Gone:List ByteArray
  deriving Inhabited,DecidableEq
def slices_Clone_Blob.f (a0:List Blob):Option (List Blob):=guard? (room 0 a0.length 48) (some a0)
def slices_Clone_string.f (a0:List ByteArray):Option (List ByteArray):=guard? (room 0 a0.length 16) (some a0)
def smithyardref7_Copy.e1 (a0:Cache) (y1:List Blob) (v_entries3:List Entry):Option Cache :=
  some (⟨a0.Room,a0.Lease,y1,v_entries3⟩:Cache)
def smithyardref7_Copy.l2 (e1:Cache→(List Blob)→(List Entry)→Option Cache):Nat→Cache→(List Blob)→(List Entry)→Int→Option Cache
  | 0,_,_,_,_=>none
  | k+1,a0,y1,v_entries3,v_i4 =>
    bif decide (v_i4<(a0.Entries.length:Int)) then
    ((at? a0.Entries v_i4).bind fun x1 =>
    (slices_Clone_string.f x1.Refs).bind fun y2 =>
    guard? (room v_entries3.length 1 48) (
    (smithyardref7_Copy.l2 e1 k) a0 y1 (v_entries3++([(⟨x1.Key,y2,x1.Used⟩:Entry)]:List Entry)) (w64 (v_i4+1))))
    else
    (e1 a0 y1 v_entries3)
def smithyardref7_Copy.f (a0:Cache):Option Cache :=
  (slices_Clone_Blob.f a0.Blobs).bind fun y1 =>
  smithyardref7_Copy.l2 smithyardref7_Copy.e1 big a0 y1 ([]:List Entry) 0
def smithyardref7_CopyEvents.e1 (v_out3:List CacheEvent):Option (List CacheEvent) :=
  some v_out3
def smithyardref7_CopyEvents.l2 (e1:(List CacheEvent)→Option (List CacheEvent)):Nat→(List CacheEvent)→(List CacheEvent)→Int→Option (List CacheEvent)
  | 0,_,_,_=>none
  | k+1,a0,v_out3,v_i4 =>
    bif decide (v_i4<(a0.length:Int)) then
    ((at? a0 v_i4).bind fun x1 =>
    (slices_Clone_string.f x1.Digests).bind fun y1 =>
    guard? (room v_out3.length 1 80) (
    (smithyardref7_CopyEvents.l2 e1 k) a0 (v_out3++([(⟨x1.Kind,x1.At,x1.Digest,y1,x1.Key,x1.Size⟩:CacheEvent)]:List CacheEvent)) (w64 (v_i4+1))))
    else
    (e1 v_out3)
def smithyardref7_CopyEvents.f (a0:List CacheEvent):Option (List CacheEvent) :=
  smithyardref7_CopyEvents.l2 smithyardref7_CopyEvents.e1 big a0 ([]:List CacheEvent) 0
def cache_within.f (a0:Int) (a1:Int) (a2:Int):Option Bool :=
  (bif decide (a1≤a0) then (some (decide (a0≤a2))) else (some false)).bind fun t1 =>
  some t1
def strings_Trim.f (a0:ByteArray) (a1:ByteArray):Option ByteArray:=guard? (decide (a0.size≤9223372036854775807)&&(decide (a1.size<4294967281)&&a1.data.toList.all (fun b=>decide (b.toNat<128)))) (some (⟨(Lib.trimS a0.data.toList a1.data.toList).toArray⟩))
def blob_IsDigest.f (a0:ByteArray):Option Bool :=
  (bif (a0.size:Int) == 16 then ((strings_Trim.f a0 ({ data:=#[48,49,50,51,52,53,54,55,56,57,97,98,99,100,101,102] }:ByteArray)).bind fun y1 =>
  some (sEq y1 ({ data:=#[] }:ByteArray))) else (some false)).bind fun t1 =>
  some t1
def cache_isMoment.f (a0:Int):Option Bool :=
  (cache_within.f a0 0 1000000000).bind fun y1 =>
  some y1
def cache_checkBlobs.e1 (a1:Int) (v_sum5:Int):Option Int :=
  bif decide (a1<v_sum5) then
  (some 16)
  else
  (some 0)
def cache_checkBlobs.l2 (e1:Int→Int→Option Int):Nat→(List Blob)→Int→Int→Int→Option Int
  | 0,_,_,_,_=>none
  | k+1,a0,a1,v_sum5,v13 =>
    bif decide (v13<(a0.length:Int)) then
    ((at? a0 v13).bind fun x1 =>
    (blob_IsDigest.f x1.Digest).bind fun y1 =>
    bif !y1 then
    (some 3)
    else
    (((cache_within.f x1.Size 0 100000000).bind fun y2 =>
    bif !y2 then (some true) else ((cache_isMoment.f x1.Used).bind fun y3 =>
    bif !y3 then (some true) else ((cache_within.f x1.Until 0 1001000000).bind fun y4 =>
    bif !y4 then (some true) else ((cache_within.f x1.Pins 0 3000).bind fun y5 =>
    some (!y5))))).bind fun t1 =>
    bif t1 then
    (some 1)
    else
    ((bif decide (0<v13) then ((at? a0 (w64 (v13 - 1))).bind fun x2 =>
    some (sLt x1.Digest x2.Digest||sEq x1.Digest x2.Digest)) else (some false)).bind fun t2 =>
    bif t2 then
    (some 8)
    else
    ((cache_checkBlobs.l2 e1 k) a0 a1 (w64 (v_sum5+x1.Size)) (w64 (v13+1))))))
    else
    (e1 a1 v_sum5)
def cache_checkBlobs.f (a0:List Blob) (a1:Int):Option Int :=
  bif decide (3000<(a0.length:Int)) then
  (some 2)
  else
  (cache_checkBlobs.l2 cache_checkBlobs.e1 big a0 a1 0 0)
def cache_checkDigests.e1 :Option Int :=
  some 0
def cache_checkDigests.l2 (e1:Option Int):Nat→(List ByteArray)→Int→Option Int
  | 0,_,_=>none
  | k+1,a0,v13 =>
    bif decide (v13<(a0.length:Int)) then
    ((at? a0 v13).bind fun x1 =>
    (blob_IsDigest.f x1).bind fun y1 =>
    bif !y1 then
    (some 3)
    else
    ((bif decide (0<v13) then ((at? a0 (w64 (v13 - 1))).bind fun x2 =>
    some (sLt x1 x2||sEq x1 x2)) else (some false)).bind fun t1 =>
    bif t1 then
    (some 8)
    else
    ((cache_checkDigests.l2 e1 k) a0 (w64 (v13+1)))))
    else
    (e1)
def cache_checkDigests.f (a0:List ByteArray) (a1:Int):Option Int :=
  bif decide (a1<(a0.length:Int)) then
  (some 2)
  else
  (cache_checkDigests.l2 cache_checkDigests.e1 big a0 0)
def cache_CheckCache.e1 :Option Int :=
  some 0
def cache_CheckCache.l2 (e1:Option Int):Nat→Cache→Int→Option Int
  | 0,_,_=>none
  | k+1,a0,v32 =>
    bif decide (v32<(a0.Entries.length:Int)) then
    ((at? a0.Entries v32).bind fun x1 =>
    (blob_IsDigest.f x1.Key).bind fun y4 =>
    bif !y4 then
    (some 3)
    else
    ((cache_checkDigests.f x1.Refs 200).bind fun y5 =>
    bif y5 != 0 then
    (some y5)
    else
    ((cache_isMoment.f x1.Used).bind fun y6 =>
    bif !y6 then
    (some 1)
    else
    ((bif decide (0<v32) then ((at? a0.Entries (w64 (v32 - 1))).bind fun x2 =>
    some (sLt x1.Key x2.Key||sEq x1.Key x2.Key)) else (some false)).bind fun t2 =>
    bif t2 then
    (some 8)
    else
    ((cache_CheckCache.l2 e1 k) a0 (w64 (v32+1)))))))
    else
    (e1)
def cache_CheckCache.f (a0:Cache):Option Int :=
  ((cache_within.f a0.Room 0 1000000000).bind fun y1 =>
  bif !y1 then (some true) else ((cache_within.f a0.Lease 0 1000000).bind fun y2 =>
  some (!y2))).bind fun t1 =>
  bif t1 then
  (some 1)
  else
  ((cache_checkBlobs.f a0.Blobs a0.Room).bind fun y3 =>
  bif y3 != 0 then
  (some y3)
  else
  (bif decide (1000<(a0.Entries.length:Int)) then
  (some 2)
  else
  (cache_CheckCache.l2 cache_CheckCache.e1 big a0 0)))
def slices_Clone_Entry.f (a0:List Entry):Option (List Entry):=guard? (room 0 a0.length 48) (some a0)
def cache_own.e1 (a0:Cache) (y1:List Blob) (v_c1_3:List Entry):Option Cache :=
  some (⟨a0.Room,a0.Lease,y1,v_c1_3⟩:Cache)
def cache_own.l2 (e1:Cache→(List Blob)→(List Entry)→Option Cache):Nat→Cache→(List Blob)→(List Entry)→(List Entry)→Int→Option Cache
  | 0,_,_,_,_,_=>none
  | k+1,a0,y1,y2,v_c1_3,v15 =>
    bif decide (v15<(y2.length:Int)) then
    ((at? v_c1_3 v15).bind fun x1 =>
    (slices_Clone_string.f x1.Refs).bind fun y3 =>
    (cache_own.l2 e1 k) a0 y1 y2 (v_c1_3.set v15.toNat (⟨x1.Key,y3,x1.Used⟩:Entry)) (w64 (v15+1)))
    else
    (e1 a0 y1 v_c1_3)
def cache_own.f (a0:Cache):Option Cache :=
  (slices_Clone_Blob.f a0.Blobs).bind fun y1 =>
  (slices_Clone_Entry.f a0.Entries).bind fun y2 =>
  cache_own.l2 cache_own.e1 big a0 y1 y2 y2 0
def cache_fields.f (a0:Int):Option (Bool × Bool × Bool × Bool) :=
  bif a0 == 1 then
  (some (true,false,false,true))
  else
  (bif a0 == 3 then
  (some (false,true,false,false))
  else
  (bif a0 == 6 then
  (some (false,true,true,false))
  else
  (bif a0 == 7 then
  (some (false,false,true,false))
  else
  (some (true,false,false,false)))))
def cache_checkEvent.j2 (a0:CacheEvent) (v50:Bool):Option Int :=
  bif v50 then
  (some 3)
  else
  ((cache_checkDigests.f a0.Digests 200).bind fun y4 =>
  bif y4 != 0 then
  (some y4)
  else
  (((cache_within.f a0.Size 0 100000000).bind fun y5 =>
  bif !y5 then (some true) else ((cache_isMoment.f a0.At).bind fun y6 =>
  some (!y6))).bind fun t3 =>
  bif t3 then
  (some 1)
  else
  (some 0)))
def cache_checkEvent.j1 (a0:CacheEvent) (y2:Bool × Bool × Bool × Bool) (v20:Bool):Option Int :=
  bif v20 then
  (some 3)
  else
  ((bif y2.1 then ((blob_IsDigest.f a0.Digest).bind fun y3 =>
  some (!y3)) else (some false)).bind fun t2 =>
  bif t2 then
  (cache_checkEvent.j2 a0 t2)
  else
  ((bif y2.2.2.1 then ((blob_IsDigest.f a0.Key).bind fun y7 =>
  some (!y7)) else (some false)).bind fun t4 =>
  cache_checkEvent.j2 a0 t4))
def cache_checkEvent.f (a0:CacheEvent):Option Int :=
  (cache_within.f a0.Kind 1 8).bind fun y1 =>
  bif !y1 then
  (some 4)
  else
  ((cache_fields.f a0.Kind).bind fun y2 =>
  (bif !y2.1 then (some (!sEq a0.Digest ({ data:=#[] }:ByteArray))) else (some false)).bind fun t1 =>
  bif t1 then
  (cache_checkEvent.j1 a0 y2 t1)
  else
  ((bif !y2.2.1 then (some (decide (0<(a0.Digests.length:Int)))) else (some false)).bind fun t5 =>
  bif t5 then
  (cache_checkEvent.j1 a0 y2 t5)
  else
  ((bif !y2.2.2.1 then (some (!sEq a0.Key ({ data:=#[] }:ByteArray))) else (some false)).bind fun t6 =>
  bif t6 then
  (cache_checkEvent.j1 a0 y2 t6)
  else
  ((bif !y2.2.2.2 then (some (a0.Size != 0)) else (some false)).bind fun t7 =>
  cache_checkEvent.j1 a0 y2 t7))))
def cache_newest.e2 (v_n3:Int):Option Int :=
  some v_n3
def cache_newest.l3 (e2:Int→Option Int):Nat→Cache→Int→Int→Option Int
  | 0,_,_,_=>none
  | k+1,a0,v_n3,v23 =>
    bif decide (v23<(a0.Entries.length:Int)) then
    ((at? a0.Entries v23).bind fun x1 =>
    (cache_newest.l3 e2 k) a0 (max2 v_n3 x1.Used) (w64 (v23+1)))
    else
    (e2 v_n3)
def cache_newest.e1 (a0:Cache) (v_n3:Int):Option Int :=
  cache_newest.l3 cache_newest.e2 big a0 v_n3 0
def cache_newest.l4 (e1:Cache→Int→Option Int):Nat→Cache→Int→Int→Option Int
  | 0,_,_,_=>none
  | k+1,a0,v_n3,v11 =>
    bif decide (v11<(a0.Blobs.length:Int)) then
    ((at? a0.Blobs v11).bind fun x2 =>
    (cache_newest.l4 e1 k) a0 (max2 v_n3 x2.Used) (w64 (v11+1)))
    else
    (e1 a0 v_n3)
def cache_newest.f (a0:Cache):Option Int :=
  cache_newest.l4 cache_newest.e1 big a0 0 0
def strings_Compare.f (a0:ByteArray) (a1:ByteArray):Option Int:=some (Lib.compareBytes a0.data.toList a1.data.toList)
def cache_find_1.f (a0:Blob) (a1:ByteArray):Option Int :=
  (strings_Compare.f a0.Digest a1).bind fun y1 =>
  some y1
def slices_BinarySearchFunc_Blob_string.e1 (a0:List Blob) (a1:ByteArray) (v_i9:Int):Option (Int × Bool) :=
  (bif decide (v_i9<(a0.length:Int)) then ((at? a0 v_i9).bind fun x1 =>
  (cache_find_1.f x1 a1).bind fun y1 =>
  some (y1 == 0)) else (some false)).bind fun t1 =>
  some (v_i9,t1)
def slices_BinarySearchFunc_Blob_string.l2 (e1:(List Blob)→ByteArray→Int→Option (Int × Bool)):Nat→(List Blob)→ByteArray→Int→Int→Option (Int × Bool)
  | 0,_,_,_,_=>none
  | k+1,a0,a1,v_i9,v_j10 =>
    bif decide (v_i9<v_j10) then
    ((at? a0 (w64 (iShr .u64 (IntKind.wrap .u64 (w64 (v_i9+v_j10))) 1))).bind fun x2 =>
    (cache_find_1.f x2 a1).bind fun y2 =>
    bif decide (y2<0) then
    ((slices_BinarySearchFunc_Blob_string.l2 e1 k) a0 a1 (w64 ((w64 (iShr .u64 (IntKind.wrap .u64 (w64 (v_i9+v_j10))) 1))+1)) v_j10)
    else
    ((slices_BinarySearchFunc_Blob_string.l2 e1 k) a0 a1 v_i9 (w64 (iShr .u64 (IntKind.wrap .u64 (w64 (v_i9+v_j10))) 1))))
    else
    (e1 a0 a1 v_i9)
def slices_BinarySearchFunc_Blob_string.f (a0:List Blob) (a1:ByteArray):Option (Int × Bool) :=
  slices_BinarySearchFunc_Blob_string.l2 slices_BinarySearchFunc_Blob_string.e1 big a0 a1 0 (a0.length:Int)
def cache_find.f (a0:Cache) (a1:ByteArray):Option (Int × Bool) :=
  (slices_BinarySearchFunc_Blob_string.f a0.Blobs a1).bind fun y1 =>
  some (y1.1,y1.2)
def cache_held.f (a0:Blob) (a1:Int):Option Bool :=
  (bif decide (0<a0.Pins) then (some true) else (some (decide (a1<a0.Until)))).bind fun t1 =>
  some t1
def cache_leaving_1.f (a0:Blob) (a1:Int):Option Bool :=
  (cache_held.f a0 a1).bind fun y1 =>
  some y1
def slices_IndexFunc_Blob.e1 :Option Int :=
  some (-1)
def slices_IndexFunc_Blob.l2 (e1:Option Int):Nat→(List Blob)→Int→Int→Option Int
  | 0,_,_,_=>none
  | k+1,a0,a1q0,v8 =>
    bif decide (v8<(a0.length:Int)) then
    ((at? a0 v8).bind fun x1 =>
    (cache_leaving_1.f x1 a1q0).bind fun y1 =>
    bif y1 then
    (some v8)
    else
    ((slices_IndexFunc_Blob.l2 e1 k) a0 a1q0 (w64 (v8+1))))
    else
    (e1)
def slices_IndexFunc_Blob.f (a0:List Blob) (a1q0:Int):Option Int :=
  slices_IndexFunc_Blob.l2 slices_IndexFunc_Blob.e1 big a0 a1q0 0
def slices_DeleteFunc_Blob.e1 (v_s0:List Blob) (v_i5:Int):Option (List Blob) :=
  guard? (decide ((0:Int)≤v_i5)&&decide (v_i5≤((v_s0.length:Nat):Int))) (
  guard? (decide ((0:Int)≤v_i5)&&decide (v_i5≤((v_s0.length:Nat):Int))) (
  some ((v_s0.take v_i5.toNat++List.replicate (v_s0.length - v_i5.toNat) (⟨ByteArray.empty,0,0,0,0⟩:Blob)).take v_i5.toNat)))
def slices_DeleteFunc_Blob.j3 (backl2:Int→(List Blob)→Int→Int→Option (List Blob)) (a1q0:Int) (v_j6:Int) (v_s0:List Blob) (v_i5:Int):Option (List Blob) :=
  backl2 a1q0 v_s0 v_i5 (w64 (v_j6+1))
def slices_DeleteFunc_Blob.l2 (e1:(List Blob)→Int→Option (List Blob)):Nat→Int→(List Blob)→Int→Int→Option (List Blob)
  | 0,_,_,_,_=>none
  | k+1,a1q0,v_s0,v_i5,v_j6 =>
    bif decide (v_j6<(v_s0.length:Int)) then
    ((at? v_s0 v_j6).bind fun x1 =>
    (cache_leaving_1.f x1 a1q0).bind fun y2 =>
    bif !y2 then
    ((at? v_s0 v_i5).bind fun x2 =>
    slices_DeleteFunc_Blob.j3 ((slices_DeleteFunc_Blob.l2 e1 k)) a1q0 v_j6 (v_s0.set v_i5.toNat x1) (w64 (v_i5+1)))
    else
    (slices_DeleteFunc_Blob.j3 ((slices_DeleteFunc_Blob.l2 e1 k)) a1q0 v_j6 v_s0 v_i5))
    else
    (e1 v_s0 v_i5)
def slices_DeleteFunc_Blob.f (a0:List Blob) (a1q0:Int):Option (List Blob) :=
  (slices_IndexFunc_Blob.f a0 a1q0).bind fun y1 =>
  bif y1 == (-1) then
  (some a0)
  else
  (slices_DeleteFunc_Blob.l2 slices_DeleteFunc_Blob.e1 big a1q0 a0 y1 (w64 (y1+1)))
def cmp_isNaN_int.f (a0:Int):Option Bool :=
  some (a0 != a0)
def cmp_Compare_int.f (a0:Int) (a1:Int):Option Int :=
  (cmp_isNaN_int.f a0).bind fun y1 =>
  (cmp_isNaN_int.f a1).bind fun y2 =>
  bif y1 then
  (bif y2 then
  (some 0)
  else
  (some (-1)))
  else
  (bif y2 then
  (some 1)
  else
  (bif decide (a0<a1) then
  (some (-1))
  else
  (bif decide (a1<a0) then
  (some 1)
  else
  (some 0))))
def cache_leaving_2.f (a0:Blob) (a1:Blob):Option Int :=
  (cmp_Compare_int.f a0.Used a1.Used).bind fun y1 =>
  some y1
def slices_insertionSortCmpFunc_Blob.e2 (backl1:Int→Int→(List Blob)→Int→Option (List Blob)) (a1:Int) (a2:Int) (v_i8:Int) (v_data0:List Blob):Option (List Blob) :=
  backl1 a1 a2 v_data0 (w64 (v_i8+1))
def slices_insertionSortCmpFunc_Blob.l3 (e2:Int→Int→Int→(List Blob)→Option (List Blob)):Nat→Int→Int→Int→(List Blob)→Int→Option (List Blob)
  | 0,_,_,_,_,_=>none
  | k+1,a1,a2,v_i8,v_data0,v_j9 =>
    (bif decide (a1<v_j9) then ((at? v_data0 v_j9).bind fun x1 =>
    (at? v_data0 (w64 (v_j9 - 1))).bind fun x2 =>
    (cache_leaving_2.f x1 x2).bind fun y1 =>
    some (decide (y1<0))) else (some false)).bind fun t1 =>
    bif t1 then
    ((at? v_data0 (w64 (v_j9 - 1))).bind fun x3 =>
    (at? v_data0 v_j9).bind fun x4 =>
    (at? (v_data0.set v_j9.toNat x3) (w64 (v_j9 - 1))).bind fun x5 =>
    (slices_insertionSortCmpFunc_Blob.l3 e2 k) a1 a2 v_i8 ((v_data0.set v_j9.toNat x3).set (w64 (v_j9 - 1)).toNat x4) (w64 (v_j9 - 1)))
    else
    (e2 a1 a2 v_i8 v_data0)
def slices_insertionSortCmpFunc_Blob.l1:Nat→Int→Int→(List Blob)→Int→Option (List Blob)
  | 0,_,_,_,_=>none
  | k+1,a1,a2,v_data0,v_i8 =>
    bif decide (v_i8<a2) then
    (slices_insertionSortCmpFunc_Blob.l3 (slices_insertionSortCmpFunc_Blob.e2 ((slices_insertionSortCmpFunc_Blob.l1 k))) big a1 a2 v_i8 v_data0 v_i8)
    else
    (some v_data0)
def slices_insertionSortCmpFunc_Blob.f (a0:List Blob) (a1:Int) (a2:Int):Option (List Blob) :=
  slices_insertionSortCmpFunc_Blob.l1 big a1 a2 a0 (w64 (a1+1))
def slices_swapRangeCmpFunc_Blob.l1:Nat→Int→Int→Int→(List Blob)→Int→Option (List Blob)
  | 0,_,_,_,_,_=>none
  | k+1,a1,a2,a3,v_data0,v_i10 =>
    bif decide (v_i10<a3) then
    ((at? v_data0 (w64 (a2+v_i10))).bind fun x1 =>
    (at? v_data0 (w64 (a1+v_i10))).bind fun x2 =>
    (at? (v_data0.set (w64 (a1+v_i10)).toNat x1) (w64 (a2+v_i10))).bind fun x3 =>
    (slices_swapRangeCmpFunc_Blob.l1 k) a1 a2 a3 ((v_data0.set (w64 (a1+v_i10)).toNat x1).set (w64 (a2+v_i10)).toNat x2) (w64 (v_i10+1)))
    else
    (some v_data0)
def slices_swapRangeCmpFunc_Blob.f (a0:List Blob) (a1:Int) (a2:Int) (a3:Int):Option (List Blob) :=
  slices_swapRangeCmpFunc_Blob.l1 big a1 a2 a3 a0 0
def slices_rotateCmpFunc_Blob.e1 (a2:Int) (v_data0:List Blob) (v_i10:Int):Option (List Blob) :=
  (slices_swapRangeCmpFunc_Blob.f v_data0 (w64 (a2 - v_i10)) a2 v_i10).bind fun y1 =>
  some y1
def slices_rotateCmpFunc_Blob.l2 (e1:Int→(List Blob)→Int→Option (List Blob)):Nat→Int→(List Blob)→Int→Int→Option (List Blob)
  | 0,_,_,_,_=>none
  | k+1,a2,v_data0,v_i10,v_j11 =>
    bif v_i10 != v_j11 then
    (bif decide (v_j11<v_i10) then
    ((slices_swapRangeCmpFunc_Blob.f v_data0 (w64 (a2 - v_i10)) a2 v_j11).bind fun y2 =>
    (slices_rotateCmpFunc_Blob.l2 e1 k) a2 y2 (w64 (v_i10 - v_j11)) v_j11)
    else
    ((slices_swapRangeCmpFunc_Blob.f v_data0 (w64 (a2 - v_i10)) (w64 ((w64 (a2+v_j11)) - v_i10)) v_i10).bind fun y3 =>
    (slices_rotateCmpFunc_Blob.l2 e1 k) a2 y3 v_i10 (w64 (v_j11 - v_i10))))
    else
    (e1 a2 v_data0 v_i10)
def slices_rotateCmpFunc_Blob.f (a0:List Blob) (a1:Int) (a2:Int) (a3:Int):Option (List Blob) :=
  slices_rotateCmpFunc_Blob.l2 slices_rotateCmpFunc_Blob.e1 big a2 a0 (w64 (a2 - a1)) (w64 (a3 - a2))
def slices_symMergeCmpFunc_Blob.l2:Nat→Int→(List Blob)→Int→Option (List Blob)
  | 0,_,_,_=>none
  | k+1,v_i10,v_data0,v_k13 =>
    bif decide (v_k13<(w64 (v_i10 - 1))) then
    ((at? v_data0 (w64 (v_k13+1))).bind fun x1 =>
    (at? v_data0 v_k13).bind fun x2 =>
    (at? (v_data0.set v_k13.toNat x1) (w64 (v_k13+1))).bind fun x3 =>
    (slices_symMergeCmpFunc_Blob.l2 k) v_i10 ((v_data0.set v_k13.toNat x1).set (w64 (v_k13+1)).toNat x2) (w64 (v_k13+1)))
    else
    (some v_data0)
def slices_symMergeCmpFunc_Blob.e1 (a0:List Blob) (a1:Int) (v_i10:Int):Option (List Blob) :=
  slices_symMergeCmpFunc_Blob.l2 big v_i10 a0 a1
def slices_symMergeCmpFunc_Blob.l3 (e1:(List Blob)→Int→Int→Option (List Blob)):Nat→(List Blob)→Int→Int→Int→Option (List Blob)
  | 0,_,_,_,_=>none
  | k+1,a0,a1,v_i10,v_j11 =>
    bif decide (v_i10<v_j11) then
    ((at? a0 (w64 (iShr .u64 (IntKind.wrap .u64 (w64 (v_i10+v_j11))) 1))).bind fun x4 =>
    (at? a0 a1).bind fun x5 =>
    (cache_leaving_2.f x4 x5).bind fun y1 =>
    bif decide (y1<0) then
    ((slices_symMergeCmpFunc_Blob.l3 e1 k) a0 a1 (w64 ((w64 (iShr .u64 (IntKind.wrap .u64 (w64 (v_i10+v_j11))) 1))+1)) v_j11)
    else
    ((slices_symMergeCmpFunc_Blob.l3 e1 k) a0 a1 v_i10 (w64 (iShr .u64 (IntKind.wrap .u64 (w64 (v_i10+v_j11))) 1))))
    else
    (e1 a0 a1 v_i10)
def slices_symMergeCmpFunc_Blob.l5:Nat→Int→(List Blob)→Int→Option (List Blob)
  | 0,_,_,_=>none
  | k+1,v_i14,v_data0,v_k17 =>
    bif decide (v_i14<v_k17) then
    ((at? v_data0 (w64 (v_k17 - 1))).bind fun x6 =>
    (at? v_data0 v_k17).bind fun x7 =>
    (at? (v_data0.set v_k17.toNat x6) (w64 (v_k17 - 1))).bind fun x8 =>
    (slices_symMergeCmpFunc_Blob.l5 k) v_i14 ((v_data0.set v_k17.toNat x6).set (w64 (v_k17 - 1)).toNat x7) (w64 (v_k17 - 1)))
    else
    (some v_data0)
def slices_symMergeCmpFunc_Blob.e4 (a0:List Blob) (a2:Int) (v_i14:Int):Option (List Blob) :=
  slices_symMergeCmpFunc_Blob.l5 big v_i14 a0 a2
def slices_symMergeCmpFunc_Blob.l6 (e4:(List Blob)→Int→Int→Option (List Blob)):Nat→(List Blob)→Int→Int→Int→Option (List Blob)
  | 0,_,_,_,_=>none
  | k+1,a0,a2,v_i14,v_j15 =>
    bif decide (v_i14<v_j15) then
    ((at? a0 a2).bind fun x9 =>
    (at? a0 (w64 (iShr .u64 (IntKind.wrap .u64 (w64 (v_i14+v_j15))) 1))).bind fun x10 =>
    (cache_leaving_2.f x9 x10).bind fun y2 =>
    bif !(decide (y2<0)) then
    ((slices_symMergeCmpFunc_Blob.l6 e4 k) a0 a2 (w64 ((w64 (iShr .u64 (IntKind.wrap .u64 (w64 (v_i14+v_j15))) 1))+1)) v_j15)
    else
    ((slices_symMergeCmpFunc_Blob.l6 e4 k) a0 a2 v_i14 (w64 (iShr .u64 (IntKind.wrap .u64 (w64 (v_i14+v_j15))) 1))))
    else
    (e4 a0 a2 v_i14)
def slices_symMergeCmpFunc_Blob.j11 (v_data0:List Blob):Option (List Blob) :=
  some v_data0
def slices_symMergeCmpFunc_Blob.j10 (rec_:(List Blob)→Int→Int→Int→Option (List Blob)) (a1:Int) (a2:Int) (a3:Int) (v_start20:Int) (v_data0:List Blob):Option (List Blob) :=
  (bif decide ((w64 (iShr .u64 (IntKind.wrap .u64 (w64 (a1+a3))) 1))<(w64 ((w64 ((w64 (iShr .u64 (IntKind.wrap .u64 (w64 (a1+a3))) 1))+a2)) - v_start20))) then (some (decide ((w64 ((w64 ((w64 (iShr .u64 (IntKind.wrap .u64 (w64 (a1+a3))) 1))+a2)) - v_start20))<a3))) else (some false)).bind fun t3 =>
  bif t3 then
  ((rec_ v_data0 (w64 (iShr .u64 (IntKind.wrap .u64 (w64 (a1+a3))) 1)) (w64 ((w64 ((w64 (iShr .u64 (IntKind.wrap .u64 (w64 (a1+a3))) 1))+a2)) - v_start20)) a3).bind fun y3 =>
  slices_symMergeCmpFunc_Blob.j11 y3)
  else
  (slices_symMergeCmpFunc_Blob.j11 v_data0)
def slices_symMergeCmpFunc_Blob.j9 (rec_:(List Blob)→Int→Int→Int→Option (List Blob)) (a1:Int) (a2:Int) (a3:Int) (v_start20:Int) (v_data0:List Blob):Option (List Blob) :=
  (bif decide (a1<v_start20) then (some (decide (v_start20<(w64 (iShr .u64 (IntKind.wrap .u64 (w64 (a1+a3))) 1))))) else (some false)).bind fun t2 =>
  bif t2 then
  ((rec_ v_data0 a1 v_start20 (w64 (iShr .u64 (IntKind.wrap .u64 (w64 (a1+a3))) 1))).bind fun y4 =>
  slices_symMergeCmpFunc_Blob.j10 rec_ a1 a2 a3 v_start20 y4)
  else
  (slices_symMergeCmpFunc_Blob.j10 rec_ a1 a2 a3 v_start20 v_data0)
def slices_symMergeCmpFunc_Blob.e8 (rec_:(List Blob)→Int→Int→Int→Option (List Blob)) (a0:List Blob) (a1:Int) (a2:Int) (a3:Int) (v_start20:Int):Option (List Blob) :=
  (bif decide (v_start20<a2) then (some (decide (a2<(w64 ((w64 ((w64 (iShr .u64 (IntKind.wrap .u64 (w64 (a1+a3))) 1))+a2)) - v_start20))))) else (some false)).bind fun t1 =>
  bif t1 then
  ((slices_rotateCmpFunc_Blob.f a0 v_start20 a2 (w64 ((w64 ((w64 (iShr .u64 (IntKind.wrap .u64 (w64 (a1+a3))) 1))+a2)) - v_start20))).bind fun y5 =>
  slices_symMergeCmpFunc_Blob.j9 rec_ a1 a2 a3 v_start20 y5)
  else
  (slices_symMergeCmpFunc_Blob.j9 rec_ a1 a2 a3 v_start20 a0)
def slices_symMergeCmpFunc_Blob.l12 (e8:(List Blob)→Int→Int→Int→Int→Option (List Blob)):Nat→(List Blob)→Int→Int→Int→Int→Int→Option (List Blob)
  | 0,_,_,_,_,_,_=>none
  | k+1,a0,a1,a2,a3,v_start20,v_r21 =>
    bif decide (v_start20<v_r21) then
    ((at? a0 (w64 ((w64 ((w64 ((w64 (iShr .u64 (IntKind.wrap .u64 (w64 (a1+a3))) 1))+a2)) - 1)) - (w64 (iShr .u64 (IntKind.wrap .u64 (w64 (v_start20+v_r21))) 1))))).bind fun x11 =>
    (at? a0 (w64 (iShr .u64 (IntKind.wrap .u64 (w64 (v_start20+v_r21))) 1))).bind fun x12 =>
    (cache_leaving_2.f x11 x12).bind fun y6 =>
    bif !(decide (y6<0)) then
    ((slices_symMergeCmpFunc_Blob.l12 e8 k) a0 a1 a2 a3 (w64 ((w64 (iShr .u64 (IntKind.wrap .u64 (w64 (v_start20+v_r21))) 1))+1)) v_r21)
    else
    ((slices_symMergeCmpFunc_Blob.l12 e8 k) a0 a1 a2 a3 v_start20 (w64 (iShr .u64 (IntKind.wrap .u64 (w64 (v_start20+v_r21))) 1))))
    else
    (e8 a0 a1 a2 a3 v_start20)
def slices_symMergeCmpFunc_Blob.j7 (rec_:(List Blob)→Int→Int→Int→Option (List Blob)) (a0:List Blob) (a1:Int) (a2:Int) (a3:Int) (v_start20:Int) (v_r21:Int):Option (List Blob) :=
  slices_symMergeCmpFunc_Blob.l12 (slices_symMergeCmpFunc_Blob.e8 rec_) big a0 a1 a2 a3 v_start20 v_r21
def slices_symMergeCmpFunc_Blob.g (rec_:(List Blob)→Int→Int→Int→Option (List Blob)) (a0:List Blob) (a1:Int) (a2:Int) (a3:Int):Option (List Blob) :=
  bif (w64 (a2 - a1)) == 1 then
  (slices_symMergeCmpFunc_Blob.l3 slices_symMergeCmpFunc_Blob.e1 big a0 a1 a2 a3)
  else
  (bif (w64 (a3 - a2)) == 1 then
  (slices_symMergeCmpFunc_Blob.l6 slices_symMergeCmpFunc_Blob.e4 big a0 a2 a1 a2)
  else
  (bif decide ((w64 (iShr .u64 (IntKind.wrap .u64 (w64 (a1+a3))) 1))<a2) then
  (slices_symMergeCmpFunc_Blob.j7 rec_ a0 a1 a2 a3 (w64 ((w64 ((w64 (iShr .u64 (IntKind.wrap .u64 (w64 (a1+a3))) 1))+a2)) - a3)) (w64 (iShr .u64 (IntKind.wrap .u64 (w64 (a1+a3))) 1)))
  else
  (slices_symMergeCmpFunc_Blob.j7 rec_ a0 a1 a2 a3 a1 a2)))
def slices_symMergeCmpFunc_Blob.fk:Nat→(List Blob)→Int→Int→Int→Option (List Blob)
  | 0,_,_,_,_=>none
  | k+1,a0,a1,a2,a3=>slices_symMergeCmpFunc_Blob.g (slices_symMergeCmpFunc_Blob.fk k) a0 a1 a2 a3
def slices_symMergeCmpFunc_Blob.f (a0:List Blob) (a1:Int) (a2:Int) (a3:Int):Option (List Blob):=slices_symMergeCmpFunc_Blob.fk big a0 a1 a2 a3
def slices_stableCmpFunc_Blob.j4 (backl2:Int→(List Blob)→Int→Option (List Blob)) (a1:Int) (v_blockSize6:Int) (v_data0:List Blob):Option (List Blob) :=
  backl2 a1 v_data0 (w64 (v_blockSize6*2))
def slices_stableCmpFunc_Blob.e3 (backl2:Int→(List Blob)→Int→Option (List Blob)) (a1:Int) (v_data0:List Blob) (v_blockSize6:Int) (v_a7:Int):Option (List Blob) :=
  bif decide ((w64 (v_a7+v_blockSize6))<a1) then
  ((slices_symMergeCmpFunc_Blob.f v_data0 v_a7 (w64 (v_a7+v_blockSize6)) a1).bind fun y2 =>
  slices_stableCmpFunc_Blob.j4 backl2 a1 v_blockSize6 y2)
  else
  (slices_stableCmpFunc_Blob.j4 backl2 a1 v_blockSize6 v_data0)
def slices_stableCmpFunc_Blob.l5 (e3:Int→(List Blob)→Int→Int→Option (List Blob)):Nat→Int→Int→(List Blob)→Int→Int→Option (List Blob)
  | 0,_,_,_,_,_=>none
  | k+1,a1,v_blockSize6,v_data0,v_a7,v_b8 =>
    bif decide (v_b8≤a1) then
    ((slices_symMergeCmpFunc_Blob.f v_data0 v_a7 (w64 (v_a7+v_blockSize6)) v_b8).bind fun y3 =>
    (slices_stableCmpFunc_Blob.l5 e3 k) a1 v_blockSize6 y3 v_b8 (w64 (v_b8+(w64 (2*v_blockSize6)))))
    else
    (e3 a1 v_data0 v_blockSize6 v_a7)
def slices_stableCmpFunc_Blob.l2:Nat→Int→(List Blob)→Int→Option (List Blob)
  | 0,_,_,_=>none
  | k+1,a1,v_data0,v_blockSize6 =>
    bif decide (v_blockSize6<a1) then
    (slices_stableCmpFunc_Blob.l5 (slices_stableCmpFunc_Blob.e3 ((slices_stableCmpFunc_Blob.l2 k))) big a1 v_blockSize6 v_data0 0 (w64 (2*v_blockSize6)))
    else
    (some v_data0)
def slices_stableCmpFunc_Blob.e1 (a1:Int) (v_data0:List Blob) (v_a7:Int):Option (List Blob) :=
  (slices_insertionSortCmpFunc_Blob.f v_data0 v_a7 a1).bind fun y1 =>
  slices_stableCmpFunc_Blob.l2 big a1 y1 20
def slices_stableCmpFunc_Blob.l6 (e1:Int→(List Blob)→Int→Option (List Blob)):Nat→Int→(List Blob)→Int→Int→Option (List Blob)
  | 0,_,_,_,_=>none
  | k+1,a1,v_data0,v_a7,v_b8 =>
    bif decide (v_b8≤a1) then
    ((slices_insertionSortCmpFunc_Blob.f v_data0 v_a7 v_b8).bind fun y4 =>
    (slices_stableCmpFunc_Blob.l6 e1 k) a1 y4 v_b8 (w64 (v_b8+20)))
    else
    (e1 a1 v_data0 v_a7)
def slices_stableCmpFunc_Blob.f (a0:List Blob) (a1:Int):Option (List Blob) :=
  slices_stableCmpFunc_Blob.l6 slices_stableCmpFunc_Blob.e1 big a1 a0 0 20
def slices_SortStableFunc_Blob.f (a0:List Blob):Option (List Blob) :=
  (slices_stableCmpFunc_Blob.f a0 (a0.length:Int)).bind fun y1 =>
  some y1
def cache_leaving.f (a0:Cache) (a1:Int):Option (List Blob) :=
  (slices_Clone_Blob.f a0.Blobs).bind fun y1 =>
  (slices_DeleteFunc_Blob.f y1 a1).bind fun y2 =>
  (slices_SortStableFunc_Blob.f y2).bind fun y3 =>
  some y3
def cache_used.e1 (v_sum3:Int):Option Int :=
  some v_sum3
def cache_used.l2 (e1:Int→Option Int):Nat→Cache→Int→Int→Option Int
  | 0,_,_,_=>none
  | k+1,a0,v_sum3,v9 =>
    bif decide (v9<(a0.Blobs.length:Int)) then
    ((at? a0.Blobs v9).bind fun x1 =>
    (cache_used.l2 e1 k) a0 (w64 (v_sum3+x1.Size)) (w64 (v9+1)))
    else
    (e1 v_sum3)
def cache_used.f (a0:Cache):Option Int :=
  cache_used.l2 cache_used.e1 big a0 0 0
def cache_sumOf.f (a0:List Blob):Option Int :=
  (cache_used.f (⟨0,0,a0,([]:List Entry)⟩:Cache)).bind fun y1 =>
  some y1
def cache_drop_1.f (a0:Blob) (a1:List (ByteArray × Bool)):Option Bool :=
  some (mgetD a1 a0.Digest false)
def slices_IndexFunc_Blob_2.e1 :Option Int :=
  some (-1)
def slices_IndexFunc_Blob_2.l2 (e1:Option Int):Nat→(List Blob)→(List (ByteArray × Bool))→Int→Option Int
  | 0,_,_,_=>none
  | k+1,a0,a1q0,v8 =>
    bif decide (v8<(a0.length:Int)) then
    ((at? a0 v8).bind fun x1 =>
    (cache_drop_1.f x1 a1q0).bind fun y1 =>
    bif y1 then
    (some v8)
    else
    ((slices_IndexFunc_Blob_2.l2 e1 k) a0 a1q0 (w64 (v8+1))))
    else
    (e1)
def slices_IndexFunc_Blob_2.f (a0:List Blob) (a1q0:List (ByteArray × Bool)):Option Int :=
  slices_IndexFunc_Blob_2.l2 slices_IndexFunc_Blob_2.e1 big a0 a1q0 0
def slices_DeleteFunc_Blob_2.e1 (v_s0:List Blob) (v_i5:Int):Option (List Blob) :=
  guard? (decide ((0:Int)≤v_i5)&&decide (v_i5≤((v_s0.length:Nat):Int))) (
  guard? (decide ((0:Int)≤v_i5)&&decide (v_i5≤((v_s0.length:Nat):Int))) (
  some ((v_s0.take v_i5.toNat++List.replicate (v_s0.length - v_i5.toNat) (⟨ByteArray.empty,0,0,0,0⟩:Blob)).take v_i5.toNat)))
def slices_DeleteFunc_Blob_2.j3 (backl2:(List (ByteArray × Bool))→(List Blob)→Int→Int→Option (List Blob)) (a1q0:List (ByteArray × Bool)) (v_j6:Int) (v_s0:List Blob) (v_i5:Int):Option (List Blob) :=
  backl2 a1q0 v_s0 v_i5 (w64 (v_j6+1))
def slices_DeleteFunc_Blob_2.l2 (e1:(List Blob)→Int→Option (List Blob)):Nat→(List (ByteArray × Bool))→(List Blob)→Int→Int→Option (List Blob)
  | 0,_,_,_,_=>none
  | k+1,a1q0,v_s0,v_i5,v_j6 =>
    bif decide (v_j6<(v_s0.length:Int)) then
    ((at? v_s0 v_j6).bind fun x1 =>
    (cache_drop_1.f x1 a1q0).bind fun y2 =>
    bif !y2 then
    ((at? v_s0 v_i5).bind fun x2 =>
    slices_DeleteFunc_Blob_2.j3 ((slices_DeleteFunc_Blob_2.l2 e1 k)) a1q0 v_j6 (v_s0.set v_i5.toNat x1) (w64 (v_i5+1)))
    else
    (slices_DeleteFunc_Blob_2.j3 ((slices_DeleteFunc_Blob_2.l2 e1 k)) a1q0 v_j6 v_s0 v_i5))
    else
    (e1 v_s0 v_i5)
def slices_DeleteFunc_Blob_2.f (a0:List Blob) (a1q0:List (ByteArray × Bool)):Option (List Blob) :=
  (slices_IndexFunc_Blob_2.f a0 a1q0).bind fun y1 =>
  bif y1 == (-1) then
  (some a0)
  else
  (slices_DeleteFunc_Blob_2.l2 slices_DeleteFunc_Blob_2.e1 big a1q0 a0 y1 (w64 (y1+1)))
def slices_Insert_Blob.f (a0:List Blob) (a1:Int) (a2:List Blob):Option (List Blob):=guard? (decide ((0:Int)≤a1)&&(decide (a1≤(a0.length:Int))&&(decide (0<a2.length)&&room a0.length a2.length 48))) (some (a0.take a1.toNat++a2++a0.drop a1.toNat))
def cache_touch_3.j3 (backl1:Cache→(List ByteArray)→Int→Bool→Bool→(List Blob)→Int→Option Cache) (a0:Cache) (a1:List ByteArray) (a2:Int) (a3:Bool) (a4:Bool) (v16:Int) (v_c0_2:List Blob):Option Cache :=
  backl1 a0 a1 a2 a3 a4 v_c0_2 (w64 (v16+1))
def cache_touch_3.j2 (backl1:Cache→(List ByteArray)→Int→Bool→Bool→(List Blob)→Int→Option Cache) (a0:Cache) (a1:List ByteArray) (a2:Int) (a3:Bool) (a4:Bool) (v16:Int) (y1:Int × Bool) (v_c0_2:List Blob):Option Cache :=
  (bif y1.2 then (some a4) else (some false)).bind fun t2 =>
  bif t2 then
  ((at? v_c0_2 y1.1).bind fun x2 =>
  cache_touch_3.j3 backl1 a0 a1 a2 a3 a4 v16 (v_c0_2.set y1.1.toNat (⟨x2.Digest,x2.Size,x2.Used,max2 x2.Until (w64 (a2+a0.Lease)),x2.Pins⟩:Blob)))
  else
  (cache_touch_3.j3 backl1 a0 a1 a2 a3 a4 v16 v_c0_2)
def cache_touch_3.l1:Nat→Cache→(List ByteArray)→Int→Bool→Bool→(List Blob)→Int→Option Cache
  | 0,_,_,_,_,_,_,_=>none
  | k+1,a0,a1,a2,a3,a4,v_c0_2,v16 =>
    bif decide (v16<(a1.length:Int)) then
    ((at? a1 v16).bind fun x1 =>
    (cache_find.f (⟨a0.Room,a0.Lease,v_c0_2,a0.Entries⟩:Cache) x1).bind fun y1 =>
    (bif y1.2 then (some a3) else (some false)).bind fun t1 =>
    bif t1 then
    ((at? v_c0_2 y1.1).bind fun x3 =>
    cache_touch_3.j2 ((cache_touch_3.l1 k)) a0 a1 a2 a3 a4 v16 y1 (v_c0_2.set y1.1.toNat (⟨x3.Digest,x3.Size,a2,x3.Until,x3.Pins⟩:Blob)))
    else
    (cache_touch_3.j2 ((cache_touch_3.l1 k)) a0 a1 a2 a3 a4 v16 y1 v_c0_2))
    else
    (some (⟨a0.Room,a0.Lease,v_c0_2,a0.Entries⟩:Cache))
def cache_touch_3.f (a0:Cache) (a1:List ByteArray) (a2:Int) (a3:Bool) (a4:Bool):Option Cache :=
  cache_touch_3.l1 big a0 a1 a2 a3 a4 a0.Blobs 0
def cache_drop_3.e1 (a0:Cache) (v_has4_0:List (ByteArray × Bool)):Option Cache :=
  (slices_DeleteFunc_Blob_2.f a0.Blobs v_has4_0).bind fun y1 =>
  some (⟨a0.Room,a0.Lease,y1,a0.Entries⟩:Cache)
def cache_drop_3.l2 (e1:Cache→(List (ByteArray × Bool))→Option Cache):Nat→Cache→(List ByteArray)→(List (ByteArray × Bool))→Int→Option Cache
  | 0,_,_,_,_=>none
  | k+1,a0,a1,v_has4_0,v10 =>
    bif decide (v10<(a1.length:Int)) then
    ((at? a1 v10).bind fun x1 =>
    (cache_drop_3.l2 e1 k) a0 a1 (mput v_has4_0 x1 true) (w64 (v10+1)))
    else
    (e1 a0 v_has4_0)
def cache_drop_3.f (a0:Cache) (a1:List ByteArray):Option Cache :=
  cache_drop_3.l2 cache_drop_3.e1 big a0 a1 ([]:List (ByteArray × Bool)) 0
def cache_clear_2.e1 (a0:Cache) (v_gone10:List ByteArray):Option ((List ByteArray) × Bool × Cache) :=
  (cache_drop_3.f (⟨a0.Room,a0.Lease,a0.Blobs,a0.Entries⟩:Cache) v_gone10).bind fun y4 =>
  some (v_gone10,true,(⟨y4.Room,y4.Lease,y4.Blobs,y4.Entries⟩:Cache))
def cache_clear_2.l2 (e1:Cache→(List ByteArray)→Option ((List ByteArray) × Bool × Cache)):Nat→Cache→(List Blob)→Int→(List ByteArray)→Int→Option ((List ByteArray) × Bool × Cache)
  | 0,_,_,_,_,_=>none
  | k+1,a0,y1,v_over9,v_gone10,v30 =>
    bif decide (v30<(y1.length:Int)) then
    ((at? y1 v30).bind fun x1 =>
    bif decide (v_over9≤0) then
    (e1 a0 v_gone10)
    else
    (guard? (room v_gone10.length 1 16) (
    (cache_clear_2.l2 e1 k) a0 y1 (w64 (v_over9 - x1.Size)) (v_gone10++([x1.Digest]:List ByteArray)) (w64 (v30+1)))))
    else
    (e1 a0 v_gone10)
def cache_clear_2.f (a0:Cache) (a1:Int) (a2:Int):Option ((List ByteArray) × Bool × Cache) :=
  (cache_leaving.f (⟨a0.Room,a0.Lease,a0.Blobs,a0.Entries⟩:Cache) a2).bind fun y1 =>
  (cache_used.f (⟨a0.Room,a0.Lease,a0.Blobs,a0.Entries⟩:Cache)).bind fun y2 =>
  (cache_sumOf.f y1).bind fun y3 =>
  bif decide (y3<(w64 (y2 - a1))) then
  (some (([]:List ByteArray),false,(⟨a0.Room,a0.Lease,a0.Blobs,a0.Entries⟩:Cache)))
  else
  (cache_clear_2.l2 cache_clear_2.e1 big a0 y1 (w64 (y2 - a1)) ([]:List ByteArray) 0)
def cache_put_2.f (a0:Cache) (a1:CacheEvent):Option (CacheAnswer × Int × Cache) :=
  (cache_find.f (⟨a0.Room,a0.Lease,a0.Blobs,a0.Entries⟩:Cache) a1.Digest).bind fun y1 =>
  bif y1.2 then
  ((at? a0.Blobs y1.1).bind fun x1 =>
  bif x1.Size != a1.Size then
  (some ((⟨false,([]:List ByteArray),([]:List ByteArray)⟩:CacheAnswer),12,(⟨a0.Room,a0.Lease,a0.Blobs,a0.Entries⟩:Cache)))
  else
  ((cache_touch_3.f (⟨a0.Room,a0.Lease,a0.Blobs,a0.Entries⟩:Cache) ([a1.Digest]:List ByteArray) a1.At true true).bind fun y2 =>
  some ((⟨true,([]:List ByteArray),([]:List ByteArray)⟩:CacheAnswer),0,(⟨y2.Room,y2.Lease,y2.Blobs,y2.Entries⟩:Cache))))
  else
  ((cache_clear_2.f (⟨a0.Room,a0.Lease,a0.Blobs,a0.Entries⟩:Cache) (w64 (a0.Room - a1.Size)) a1.At).bind fun y3 =>
  bif !y3.2.1 then
  (some ((⟨false,([]:List ByteArray),([]:List ByteArray)⟩:CacheAnswer),0,(⟨y3.2.2.Room,y3.2.2.Lease,y3.2.2.Blobs,y3.2.2.Entries⟩:Cache)))
  else
  (bif decide (3000≤(y3.2.2.Blobs.length:Int)) then
  (some ((⟨false,([]:List ByteArray),([]:List ByteArray)⟩:CacheAnswer),16,(⟨y3.2.2.Room,y3.2.2.Lease,y3.2.2.Blobs,y3.2.2.Entries⟩:Cache)))
  else
  ((cache_find.f (⟨y3.2.2.Room,y3.2.2.Lease,y3.2.2.Blobs,y3.2.2.Entries⟩:Cache) a1.Digest).bind fun y4 =>
  (slices_Insert_Blob.f y3.2.2.Blobs y4.1 ([(⟨a1.Digest,a1.Size,a1.At,w64 (a1.At+y3.2.2.Lease),0⟩:Blob)]:List Blob)).bind fun y5 =>
  some ((⟨true,([]:List ByteArray),y3.1⟩:CacheAnswer),0,(⟨y3.2.2.Room,y3.2.2.Lease,y5,y3.2.2.Entries⟩:Cache)))))
def cache_missing.e1 (v_out5:List ByteArray):Option (List ByteArray) :=
  some v_out5
def cache_missing.j3 (backl2:Cache→(List ByteArray)→(List ByteArray)→Int→Option (List ByteArray)) (a0:Cache) (a1:List ByteArray) (v12:Int) (v_out5:List ByteArray):Option (List ByteArray) :=
  backl2 a0 a1 v_out5 (w64 (v12+1))
def cache_missing.l2 (e1:(List ByteArray)→Option (List ByteArray)):Nat→Cache→(List ByteArray)→(List ByteArray)→Int→Option (List ByteArray)
  | 0,_,_,_,_=>none
  | k+1,a0,a1,v_out5,v12 =>
    bif decide (v12<(a1.length:Int)) then
    ((at? a1 v12).bind fun x1 =>
    (cache_find.f a0 x1).bind fun y1 =>
    bif !y1.2 then
    (guard? (room v_out5.length 1 16) (
    cache_missing.j3 ((cache_missing.l2 e1 k)) a0 a1 v12 (v_out5++([x1]:List ByteArray))))
    else
    (cache_missing.j3 ((cache_missing.l2 e1 k)) a0 a1 v12 v_out5))
    else
    (e1 v_out5)
def cache_missing.f (a0:Cache) (a1:List ByteArray):Option (List ByteArray) :=
  cache_missing.l2 cache_missing.e1 big a0 a1 ([]:List ByteArray) 0
def cache_pin.j1 (a0:Cache) (v_c0_2:List Blob):Option (CacheAnswer × Int × Cache) :=
  some ((⟨true,([]:List ByteArray),([]:List ByteArray)⟩:CacheAnswer),0,(⟨a0.Room,a0.Lease,v_c0_2,a0.Entries⟩:Cache))
def cache_pin.f (a0:Cache) (a1:CacheEvent):Option (CacheAnswer × Int × Cache) :=
  (cache_find.f (⟨a0.Room,a0.Lease,a0.Blobs,a0.Entries⟩:Cache) a1.Digest).bind fun y1 =>
  (bif !y1.2 then (some true) else (bif a1.Kind == 5 then ((at? a0.Blobs y1.1).bind fun x1 =>
  some (x1.Pins == 0)) else (some false))).bind fun t1 =>
  bif t1 then
  (some ((⟨false,([]:List ByteArray),([]:List ByteArray)⟩:CacheAnswer),0,(⟨a0.Room,a0.Lease,a0.Blobs,a0.Entries⟩:Cache)))
  else
  (bif a1.Kind == 5 then
  ((at? a0.Blobs y1.1).bind fun x2 =>
  cache_pin.j1 a0 (a0.Blobs.set y1.1.toNat (⟨x2.Digest,x2.Size,x2.Used,x2.Until,w64 (x2.Pins - 1)⟩:Blob)))
  else
  ((at? a0.Blobs y1.1).bind fun x3 =>
  bif decide (3000≤x3.Pins) then
  (some ((⟨false,([]:List ByteArray),([]:List ByteArray)⟩:CacheAnswer),16,(⟨a0.Room,a0.Lease,a0.Blobs,a0.Entries⟩:Cache)))
  else
  ((at? a0.Blobs y1.1).bind fun x4 =>
  cache_pin.j1 a0 (a0.Blobs.set y1.1.toNat (⟨x4.Digest,x4.Size,x4.Used,x4.Until,w64 (x4.Pins+1)⟩:Blob)))))
def cache_entryAt_1.f (a0:Entry) (a1:ByteArray):Option Int :=
  (strings_Compare.f a0.Key a1).bind fun y1 =>
  some y1
def slices_BinarySearchFunc_Entry_string.e1 (a0:List Entry) (a1:ByteArray) (v_i9:Int):Option (Int × Bool) :=
  (bif decide (v_i9<(a0.length:Int)) then ((at? a0 v_i9).bind fun x1 =>
  (cache_entryAt_1.f x1 a1).bind fun y1 =>
  some (y1 == 0)) else (some false)).bind fun t1 =>
  some (v_i9,t1)
def slices_BinarySearchFunc_Entry_string.l2 (e1:(List Entry)→ByteArray→Int→Option (Int × Bool)):Nat→(List Entry)→ByteArray→Int→Int→Option (Int × Bool)
  | 0,_,_,_,_=>none
  | k+1,a0,a1,v_i9,v_j10 =>
    bif decide (v_i9<v_j10) then
    ((at? a0 (w64 (iShr .u64 (IntKind.wrap .u64 (w64 (v_i9+v_j10))) 1))).bind fun x2 =>
    (cache_entryAt_1.f x2 a1).bind fun y2 =>
    bif decide (y2<0) then
    ((slices_BinarySearchFunc_Entry_string.l2 e1 k) a0 a1 (w64 ((w64 (iShr .u64 (IntKind.wrap .u64 (w64 (v_i9+v_j10))) 1))+1)) v_j10)
    else
    ((slices_BinarySearchFunc_Entry_string.l2 e1 k) a0 a1 v_i9 (w64 (iShr .u64 (IntKind.wrap .u64 (w64 (v_i9+v_j10))) 1))))
    else
    (e1 a0 a1 v_i9)
def slices_BinarySearchFunc_Entry_string.f (a0:List Entry) (a1:ByteArray):Option (Int × Bool) :=
  slices_BinarySearchFunc_Entry_string.l2 slices_BinarySearchFunc_Entry_string.e1 big a0 a1 0 (a0.length:Int)
def cache_entryAt.f (a0:Cache) (a1:ByteArray):Option (Int × Bool) :=
  (slices_BinarySearchFunc_Entry_string.f a0.Entries a1).bind fun y1 =>
  some (y1.1,y1.2)
def slices_Insert_Entry.f (a0:List Entry) (a1:Int) (a2:List Entry):Option (List Entry):=guard? (decide ((0:Int)≤a1)&&(decide (a1≤(a0.length:Int))&&(decide (0<a2.length)&&room a0.length a2.length 48))) (some (a0.take a1.toNat++a2++a0.drop a1.toNat))
def slices_Delete_Entry.f (a0:List Entry) (a1 a2:Int):Option (List Entry):=guard? (decide ((0:Int)≤a1)&&(decide (a1≤a2)&&(decide (a2≤(a0.length:Int))&&room a0.length 0 48))) (some (a0.take a1.toNat++a0.drop a2.toNat))
def cache_store.j1 (a1:CacheEvent) (y2:Cache) (y3:List ByteArray) (v_c0_3:List Entry) (v_k7:Int):Option (CacheAnswer × Cache) :=
  (slices_Insert_Entry.f v_c0_3 v_k7 ([(⟨a1.Key,y3,a1.At⟩:Entry)]:List Entry)).bind fun y5 =>
  some ((⟨true,([]:List ByteArray),([]:List ByteArray)⟩:CacheAnswer),(⟨y2.Room,y2.Lease,y2.Blobs,y5⟩:Cache))
def cache_store.e2 (j1:CacheEvent→Cache→(List ByteArray)→(List Entry)→Int→Option (CacheAnswer × Cache)) (a1:CacheEvent) (y2:Cache) (y3:List ByteArray) (v_least9:Int):Option (CacheAnswer × Cache) :=
  (slices_Delete_Entry.f y2.Entries v_least9 (w64 (v_least9+1))).bind fun y6 =>
  (cache_entryAt.f (⟨y2.Room,y2.Lease,y2.Blobs,y6⟩:Cache) a1.Key).bind fun y7 =>
  j1 a1 y2 y3 y6 y7.1
def cache_store.j4 (backl3:CacheEvent→Cache→(List ByteArray)→Int→Int→Option (CacheAnswer × Cache)) (a1:CacheEvent) (y2:Cache) (y3:List ByteArray) (v66:Int) (v_least9:Int):Option (CacheAnswer × Cache) :=
  backl3 a1 y2 y3 v_least9 (w64 (v66+1))
def cache_store.l3 (e2:CacheEvent→Cache→(List ByteArray)→Int→Option (CacheAnswer × Cache)):Nat→CacheEvent→Cache→(List ByteArray)→Int→Int→Option (CacheAnswer × Cache)
  | 0,_,_,_,_,_=>none
  | k+1,a1,y2,y3,v_least9,v66 =>
    bif decide (v66<(y2.Entries.length:Int)) then
    ((at? y2.Entries v66).bind fun x2 =>
    (at? y2.Entries v_least9).bind fun x3 =>
    bif decide (x2.Used<x3.Used) then
    (cache_store.j4 ((cache_store.l3 e2 k)) a1 y2 y3 v66 v66)
    else
    (cache_store.j4 ((cache_store.l3 e2 k)) a1 y2 y3 v66 v_least9))
    else
    (e2 a1 y2 y3 v_least9)
def cache_store.f (a0:Cache) (a1:CacheEvent):Option (CacheAnswer × Cache) :=
  (cache_missing.f (⟨a0.Room,a0.Lease,a0.Blobs,a0.Entries⟩:Cache) a1.Digests).bind fun y1 =>
  bif decide (0<(y1.length:Int)) then
  (some ((⟨false,y1,([]:List ByteArray)⟩:CacheAnswer),(⟨a0.Room,a0.Lease,a0.Blobs,a0.Entries⟩:Cache)))
  else
  ((cache_touch_3.f (⟨a0.Room,a0.Lease,a0.Blobs,a0.Entries⟩:Cache) a1.Digests a1.At true false).bind fun y2 =>
  (slices_Clone_string.f a1.Digests).bind fun y3 =>
  (cache_entryAt.f (⟨y2.Room,y2.Lease,y2.Blobs,y2.Entries⟩:Cache) a1.Key).bind fun y4 =>
  bif y4.2 then
  ((at? y2.Entries y4.1).bind fun x1 =>
  some ((⟨true,([]:List ByteArray),([]:List ByteArray)⟩:CacheAnswer),(⟨y2.Room,y2.Lease,y2.Blobs,(y2.Entries.set y4.1.toNat (⟨a1.Key,y3,a1.At⟩:Entry))⟩:Cache)))
  else
  (bif decide (1000≤(y2.Entries.length:Int)) then
  (cache_store.l3 (cache_store.e2 cache_store.j1) big a1 y2 y3 0 0)
  else
  (cache_store.j1 a1 y2 y3 y2.Entries y4.1)))
def cache_search.f (a0:Cache) (a1:CacheEvent):Option (CacheAnswer × Cache) :=
  (cache_entryAt.f (⟨a0.Room,a0.Lease,a0.Blobs,a0.Entries⟩:Cache) a1.Key).bind fun y1 =>
  bif !y1.2 then
  (some ((⟨false,([]:List ByteArray),([]:List ByteArray)⟩:CacheAnswer),(⟨a0.Room,a0.Lease,a0.Blobs,a0.Entries⟩:Cache)))
  else
  ((at? a0.Entries y1.1).bind fun x1 =>
  (cache_missing.f (⟨a0.Room,a0.Lease,a0.Blobs,a0.Entries⟩:Cache) x1.Refs).bind fun y2 =>
  bif decide (0<(y2.length:Int)) then
  ((slices_Delete_Entry.f a0.Entries y1.1 (w64 (y1.1+1))).bind fun y3 =>
  some ((⟨false,y2,([]:List ByteArray)⟩:CacheAnswer),(⟨a0.Room,a0.Lease,a0.Blobs,y3⟩:Cache)))
  else
  ((at? a0.Entries y1.1).bind fun x2 =>
  (cache_touch_3.f (⟨a0.Room,a0.Lease,a0.Blobs,(a0.Entries.set y1.1.toNat (⟨x2.Key,x2.Refs,a1.At⟩:Entry))⟩:Cache) x1.Refs a1.At true true).bind fun y4 =>
  some ((⟨true,([]:List ByteArray),([]:List ByteArray)⟩:CacheAnswer),(⟨y4.Room,y4.Lease,y4.Blobs,y4.Entries⟩:Cache))))
def cache_do.j1 (a0:Cache) (a1:CacheEvent) (y3:Int × Bool) (v72:Bool):Option (CacheAnswer × Int × Cache) :=
  bif v72 then
  ((cache_pin.f (⟨a0.Room,a0.Lease,a0.Blobs,a0.Entries⟩:Cache) a1).bind fun y8 =>
  some ((⟨y8.1.Done,y8.1.Missing,y8.1.Gone⟩:CacheAnswer),y8.2.1,(⟨y8.2.2.Room,y8.2.2.Lease,y8.2.2.Blobs,y8.2.2.Entries⟩:Cache)))
  else
  (bif a1.Kind == 6 then
  ((cache_store.f (⟨a0.Room,a0.Lease,a0.Blobs,a0.Entries⟩:Cache) a1).bind fun y9 =>
  some ((⟨y9.1.Done,y9.1.Missing,y9.1.Gone⟩:CacheAnswer),0,(⟨y9.2.Room,y9.2.Lease,y9.2.Blobs,y9.2.Entries⟩:Cache)))
  else
  (bif a1.Kind == 7 then
  ((cache_search.f (⟨a0.Room,a0.Lease,a0.Blobs,a0.Entries⟩:Cache) a1).bind fun y10 =>
  some ((⟨y10.1.Done,y10.1.Missing,y10.1.Gone⟩:CacheAnswer),0,(⟨y10.2.Room,y10.2.Lease,y10.2.Blobs,y10.2.Entries⟩:Cache)))
  else
  ((bif !y3.2 then (some true) else ((at? a0.Blobs y3.1).bind fun x1 =>
  (cache_held.f x1 a1.At).bind fun y11 =>
  some y11)).bind fun t1 =>
  bif t1 then
  (some ((⟨false,([]:List ByteArray),([]:List ByteArray)⟩:CacheAnswer),0,(⟨a0.Room,a0.Lease,a0.Blobs,a0.Entries⟩:Cache)))
  else
  ((cache_drop_3.f (⟨a0.Room,a0.Lease,a0.Blobs,a0.Entries⟩:Cache) ([a1.Digest]:List ByteArray)).bind fun y12 =>
  some ((⟨true,([]:List ByteArray),([a1.Digest]:List ByteArray)⟩:CacheAnswer),0,(⟨y12.Room,y12.Lease,y12.Blobs,y12.Entries⟩:Cache))))))
def cache_do.f (a0:Cache) (a1:CacheEvent):Option (CacheAnswer × Int × Cache) :=
  (cache_checkEvent.f a1).bind fun y1 =>
  bif y1 != 0 then
  (some ((⟨false,([]:List ByteArray),([]:List ByteArray)⟩:CacheAnswer),y1,(⟨a0.Room,a0.Lease,a0.Blobs,a0.Entries⟩:Cache)))
  else
  ((cache_newest.f (⟨a0.Room,a0.Lease,a0.Blobs,a0.Entries⟩:Cache)).bind fun y2 =>
  bif decide (a1.At<y2) then
  (some ((⟨false,([]:List ByteArray),([]:List ByteArray)⟩:CacheAnswer),11,(⟨a0.Room,a0.Lease,a0.Blobs,a0.Entries⟩:Cache)))
  else
  ((cache_find.f (⟨a0.Room,a0.Lease,a0.Blobs,a0.Entries⟩:Cache) a1.Digest).bind fun y3 =>
  bif a1.Kind == 1 then
  ((cache_put_2.f (⟨a0.Room,a0.Lease,a0.Blobs,a0.Entries⟩:Cache) a1).bind fun y4 =>
  some ((⟨y4.1.Done,y4.1.Missing,y4.1.Gone⟩:CacheAnswer),y4.2.1,(⟨y4.2.2.Room,y4.2.2.Lease,y4.2.2.Blobs,y4.2.2.Entries⟩:Cache)))
  else
  (bif a1.Kind == 2 then
  ((cache_touch_3.f (⟨a0.Room,a0.Lease,a0.Blobs,a0.Entries⟩:Cache) ([a1.Digest]:List ByteArray) a1.At true true).bind fun y5 =>
  some ((⟨y3.2,([]:List ByteArray),([]:List ByteArray)⟩:CacheAnswer),0,(⟨y5.Room,y5.Lease,y5.Blobs,y5.Entries⟩:Cache)))
  else
  (bif a1.Kind == 3 then
  ((cache_touch_3.f (⟨a0.Room,a0.Lease,a0.Blobs,a0.Entries⟩:Cache) a1.Digests a1.At false true).bind fun y6 =>
  (cache_missing.f (⟨y6.Room,y6.Lease,y6.Blobs,y6.Entries⟩:Cache) a1.Digests).bind fun y7 =>
  some ((⟨(y7.length:Int) == 0,y7,([]:List ByteArray)⟩:CacheAnswer),0,(⟨y6.Room,y6.Lease,y6.Blobs,y6.Entries⟩:Cache)))
  else
  (bif a1.Kind == 4 then
  (cache_do.j1 a0 a1 y3 (a1.Kind == 4))
  else
  (cache_do.j1 a0 a1 y3 (a1.Kind == 5)))))))
def cache_Do.f (a0:Cache) (a1:CacheEvent):Option (Cache × CacheAnswer × Int) :=
  (cache_CheckCache.f a0).bind fun y1 =>
  bif y1 != 0 then
  (some ((⟨0,0,([]:List Blob),([]:List Entry)⟩:Cache),(⟨false,([]:List ByteArray),([]:List ByteArray)⟩:CacheAnswer),y1))
  else
  ((cache_own.f a0).bind fun y2 =>
  (cache_do.f (⟨y2.Room,y2.Lease,y2.Blobs,y2.Entries⟩:Cache) a1).bind fun y3 =>
  bif y3.2.1 != 0 then
  (some ((⟨0,0,([]:List Blob),([]:List Entry)⟩:Cache),(⟨false,([]:List ByteArray),([]:List ByteArray)⟩:CacheAnswer),y3.2.1))
  else
  (some ((⟨y3.2.2.Room,y3.2.2.Lease,y3.2.2.Blobs,y3.2.2.Entries⟩:Cache),(⟨y3.1.Done,y3.1.Missing,y3.1.Gone⟩:CacheAnswer),0)))
def smithyardref7_within.f (a0:Int) (a1:Int) (a2:Int):Option Bool :=
  (bif decide (a1≤a0) then (some (decide (a0≤a2))) else (some false)).bind fun t1 =>
  some t1
def smithyardref7_bytesOf.e1 (v_n3:Int):Option Int :=
  some v_n3
def smithyardref7_bytesOf.l2 (e1:Int→Option Int):Nat→(List Blob)→Int→Int→Option Int
  | 0,_,_,_=>none
  | k+1,a0,v_n3,v_i4 =>
    bif decide (v_i4<(a0.length:Int)) then
    ((at? a0 v_i4).bind fun x1 =>
    (smithyardref7_bytesOf.l2 e1 k) a0 (w64 (v_n3+x1.Size)) (w64 (v_i4+1)))
    else
    (e1 v_n3)
def smithyardref7_bytesOf.f (a0:List Blob):Option Int :=
  smithyardref7_bytesOf.l2 smithyardref7_bytesOf.e1 big a0 0 0
def smithyardref1_IsDigest.e1 (a0:ByteArray):Option Bool :=
  some ((a0.size:Int) == 16)
def smithyardref1_IsDigest.l2 (e1:ByteArray→Option Bool):Nat→ByteArray→Int→Option Bool
  | 0,_,_=>none
  | k+1,a0,v_i3 =>
    bif decide (v_i3<(a0.size:Int)) then
    ((guard? (decide ((0:Int)≤v_i3)&&decide (v_i3<(a0.size:Int))) (
    bif decide (48≤(bt a0 v_i3)) then (guard? (decide ((0:Int)≤v_i3)&&decide (v_i3<(a0.size:Int))) (
    bif decide ((bt a0 v_i3)≤57) then (some false) else (guard? (decide ((0:Int)≤v_i3)&&decide (v_i3<(a0.size:Int))) (
    bif decide (97≤(bt a0 v_i3)) then (guard? (decide ((0:Int)≤v_i3)&&decide (v_i3<(a0.size:Int))) (
    some (!(decide ((bt a0 v_i3)≤102))))) else (some true))))) else (guard? (decide ((0:Int)≤v_i3)&&decide (v_i3<(a0.size:Int))) (
    bif decide (97≤(bt a0 v_i3)) then (guard? (decide ((0:Int)≤v_i3)&&decide (v_i3<(a0.size:Int))) (
    some (!(decide ((bt a0 v_i3)≤102))))) else (some true))))).bind fun t1 =>
    bif t1 then
    (some false)
    else
    ((smithyardref1_IsDigest.l2 e1 k) a0 (w64 (v_i3+1))))
    else
    (e1 a0)
def smithyardref1_IsDigest.f (a0:ByteArray):Option Bool :=
  smithyardref1_IsDigest.l2 smithyardref1_IsDigest.e1 big a0 0
def smithyardref7_rising.e1 :Option Int :=
  some 0
def smithyardref7_rising.l2 (e1:Option Int):Nat→(List ByteArray)→Int→Option Int
  | 0,_,_=>none
  | k+1,a0,v_i3 =>
    bif decide (v_i3<(a0.length:Int)) then
    ((at? a0 v_i3).bind fun x1 =>
    (smithyardref1_IsDigest.f x1).bind fun y1 =>
    bif !y1 then
    (some 3)
    else
    ((bif decide (0<v_i3) then ((at? a0 v_i3).bind fun x2 =>
    (at? a0 (w64 (v_i3 - 1))).bind fun x3 =>
    some (sLt x2 x3||sEq x2 x3)) else (some false)).bind fun t1 =>
    bif t1 then
    (some 8)
    else
    ((smithyardref7_rising.l2 e1 k) a0 (w64 (v_i3+1)))))
    else
    (e1)
def smithyardref7_rising.f (a0:List ByteArray):Option Int :=
  smithyardref7_rising.l2 smithyardref7_rising.e1 big a0 0
def smithyardref7_CheckCache.e2 :Option Int :=
  some 0
def smithyardref7_CheckCache.l3 (e2:Option Int):Nat→Cache→Int→Option Int
  | 0,_,_=>none
  | k+1,a0,v_i5 =>
    bif decide (v_i5<(a0.Entries.length:Int)) then
    ((at? a0.Entries v_i5).bind fun x1 =>
    (smithyardref1_IsDigest.f x1.Key).bind fun y4 =>
    bif !y4 then
    (some 3)
    else
    (bif decide (200<(x1.Refs.length:Int)) then
    (some 2)
    else
    ((smithyardref7_rising.f x1.Refs).bind fun y5 =>
    bif y5 != 0 then
    (some y5)
    else
    ((smithyardref7_within.f x1.Used 0 1000000000).bind fun y6 =>
    bif !y6 then
    (some 1)
    else
    ((bif decide (0<v_i5) then ((at? a0.Entries (w64 (v_i5 - 1))).bind fun x2 =>
    some (sLt x1.Key x2.Key||sEq x1.Key x2.Key)) else (some false)).bind fun t2 =>
    bif t2 then
    (some 8)
    else
    ((smithyardref7_CheckCache.l3 e2 k) a0 (w64 (v_i5+1))))))))
    else
    (e2)
def smithyardref7_CheckCache.e1 (a0:Cache):Option Int :=
  (smithyardref7_bytesOf.f a0.Blobs).bind fun y3 =>
  bif decide (a0.Room<y3) then
  (some 16)
  else
  (bif decide (1000<(a0.Entries.length:Int)) then
  (some 2)
  else
  (smithyardref7_CheckCache.l3 smithyardref7_CheckCache.e2 big a0 0))
def smithyardref7_CheckCache.l4 (e1:Cache→Option Int):Nat→Cache→Int→Option Int
  | 0,_,_=>none
  | k+1,a0,v_i3 =>
    bif decide (v_i3<(a0.Blobs.length:Int)) then
    ((at? a0.Blobs v_i3).bind fun x3 =>
    (smithyardref1_IsDigest.f x3.Digest).bind fun y7 =>
    bif !y7 then
    (some 3)
    else
    (((smithyardref7_within.f x3.Size 0 100000000).bind fun y8 =>
    bif !y8 then (some true) else ((smithyardref7_within.f x3.Used 0 1000000000).bind fun y9 =>
    bif !y9 then (some true) else ((smithyardref7_within.f x3.Until 0 1001000000).bind fun y10 =>
    bif !y10 then (some true) else ((smithyardref7_within.f x3.Pins 0 3000).bind fun y11 =>
    some (!y11))))).bind fun t3 =>
    bif t3 then
    (some 1)
    else
    ((bif decide (0<v_i3) then ((at? a0.Blobs (w64 (v_i3 - 1))).bind fun x4 =>
    some (sLt x3.Digest x4.Digest||sEq x3.Digest x4.Digest)) else (some false)).bind fun t4 =>
    bif t4 then
    (some 8)
    else
    ((smithyardref7_CheckCache.l4 e1 k) a0 (w64 (v_i3+1))))))
    else
    (e1 a0)
def smithyardref7_CheckCache.f (a0:Cache):Option Int :=
  ((smithyardref7_within.f a0.Room 0 1000000000).bind fun y1 =>
  bif !y1 then (some true) else ((smithyardref7_within.f a0.Lease 0 1000000).bind fun y2 =>
  some (!y2))).bind fun t1 =>
  bif t1 then
  (some 1)
  else
  (bif decide (3000<(a0.Blobs.length:Int)) then
  (some 2)
  else
  (smithyardref7_CheckCache.l4 smithyardref7_CheckCache.e1 big a0 0))
def smithyardref7_copied.e1 (a0:Cache) (v_out3_3:List Entry):Option Cache :=
  some (⟨a0.Room,a0.Lease,(([]:List Blob)++a0.Blobs),v_out3_3⟩:Cache)
def smithyardref7_copied.l2 (e1:Cache→(List Entry)→Option Cache):Nat→Cache→(List Entry)→Int→Option Cache
  | 0,_,_,_=>none
  | k+1,a0,v_out3_3,v_i4 =>
    bif decide (v_i4<(a0.Entries.length:Int)) then
    ((at? a0.Entries v_i4).bind fun x1 =>
    (at? a0.Entries v_i4).bind fun x2 =>
    guard? (room 0 x2.Refs.length 16) (
    guard? (room v_out3_3.length 1 48) (
    (smithyardref7_copied.l2 e1 k) a0 (v_out3_3++([(⟨x1.Key,(([]:List ByteArray)++x2.Refs),x1.Used⟩:Entry)]:List Entry)) (w64 (v_i4+1)))))
    else
    (e1 a0 v_out3_3)
def smithyardref7_copied.f (a0:Cache):Option Cache :=
  guard? (room 0 a0.Blobs.length 48) (
  smithyardref7_copied.l2 smithyardref7_copied.e1 big a0 ([]:List Entry) 0)
def smithyardref7_fields.j1 (a0:CacheEvent) (v_digest3:Bool) (v_digests4:Bool) (v_key5:Bool) (v_size6:Bool):Option Bool :=
  (bif v_digest3 then (bif v_digests4 then (bif v_key5 then (bif v_size6 then (some true) else (some (a0.Size == 0))) else (bif sEq a0.Key ({ data:=#[] }:ByteArray) then (bif v_size6 then (some true) else (some (a0.Size == 0))) else (some false))) else (bif (a0.Digests.length:Int) == 0 then (bif v_key5 then (bif v_size6 then (some true) else (some (a0.Size == 0))) else (bif sEq a0.Key ({ data:=#[] }:ByteArray) then (bif v_size6 then (some true) else (some (a0.Size == 0))) else (some false))) else (some false))) else (bif sEq a0.Digest ({ data:=#[] }:ByteArray) then (bif v_digests4 then (bif v_key5 then (bif v_size6 then (some true) else (some (a0.Size == 0))) else (bif sEq a0.Key ({ data:=#[] }:ByteArray) then (bif v_size6 then (some true) else (some (a0.Size == 0))) else (some false))) else (bif (a0.Digests.length:Int) == 0 then (bif v_key5 then (bif v_size6 then (some true) else (some (a0.Size == 0))) else (bif sEq a0.Key ({ data:=#[] }:ByteArray) then (bif v_size6 then (some true) else (some (a0.Size == 0))) else (some false))) else (some false))) else (some false))).bind fun t1 =>
  some t1
def smithyardref7_fields.f (a0:CacheEvent):Option Bool :=
  bif a0.Kind == 1 then
  (smithyardref7_fields.j1 a0 true false false true)
  else
  (bif a0.Kind == 3 then
  (smithyardref7_fields.j1 a0 false true false false)
  else
  (bif a0.Kind == 6 then
  (smithyardref7_fields.j1 a0 false true true false)
  else
  (bif a0.Kind == 7 then
  (smithyardref7_fields.j1 a0 false false true false)
  else
  (smithyardref7_fields.j1 a0 true false false false))))
def smithyardref7_blob.e1 :Option Int :=
  some (-1)
def smithyardref7_blob.l2 (e1:Option Int):Nat→Cache→ByteArray→Int→Option Int
  | 0,_,_,_=>none
  | k+1,a0,a1,v_i5 =>
    bif decide (v_i5<(a0.Blobs.length:Int)) then
    ((at? a0.Blobs v_i5).bind fun x1 =>
    bif sEq x1.Digest a1 then
    (some v_i5)
    else
    ((smithyardref7_blob.l2 e1 k) a0 a1 (w64 (v_i5+1))))
    else
    (e1)
def smithyardref7_blob.f (a0:Cache) (a1:ByteArray):Option Int :=
  smithyardref7_blob.l2 smithyardref7_blob.e1 big a0 a1 0
def smithyardref7_checkEvent.e2 (a0:Cache) (a1:CacheEvent):Option Int :=
  (smithyardref7_blob.f a0 a1.Digest).bind fun y9 =>
  (bif a1.Kind == 1 then (bif decide (0≤y9) then ((at? a0.Blobs y9).bind fun x1 =>
  some (x1.Size != a1.Size)) else (some false)) else (some false)).bind fun t5 =>
  bif t5 then
  (some 12)
  else
  ((smithyardref7_blob.f a0 a1.Digest).bind fun y10 =>
  (bif a1.Kind == 4 then (bif decide (0≤y10) then ((at? a0.Blobs y10).bind fun x2 =>
  some (x2.Pins == 3000)) else (some false)) else (some false)).bind fun t6 =>
  bif t6 then
  (some 16)
  else
  (some 0))
def smithyardref7_checkEvent.l3 (e2:Cache→CacheEvent→Option Int):Nat→Cache→CacheEvent→Int→Option Int
  | 0,_,_,_=>none
  | k+1,a0,a1,v_i9 =>
    bif decide (v_i9<(a0.Entries.length:Int)) then
    ((at? a0.Entries v_i9).bind fun x3 =>
    bif decide (a1.At<x3.Used) then
    (some 11)
    else
    ((smithyardref7_checkEvent.l3 e2 k) a0 a1 (w64 (v_i9+1))))
    else
    (e2 a0 a1)
def smithyardref7_checkEvent.e1 (a0:Cache) (a1:CacheEvent):Option Int :=
  smithyardref7_checkEvent.l3 smithyardref7_checkEvent.e2 big a0 a1 0
def smithyardref7_checkEvent.l4 (e1:Cache→CacheEvent→Option Int):Nat→Cache→CacheEvent→Int→Option Int
  | 0,_,_,_=>none
  | k+1,a0,a1,v_i8 =>
    bif decide (v_i8<(a0.Blobs.length:Int)) then
    ((at? a0.Blobs v_i8).bind fun x4 =>
    bif decide (a1.At<x4.Used) then
    (some 11)
    else
    ((smithyardref7_checkEvent.l4 e1 k) a0 a1 (w64 (v_i8+1))))
    else
    (e1 a0 a1)
def smithyardref7_checkEvent.f (a0:Cache) (a1:CacheEvent):Option Int :=
  (smithyardref7_within.f a1.Kind 1 8).bind fun y1 =>
  bif !y1 then
  (some 4)
  else
  ((smithyardref7_fields.f a1).bind fun y2 =>
  bif !y2 then
  (some 3)
  else
  ((bif a1.Kind == 6 then (some true) else (some (a1.Kind == 7))).bind fun t1 =>
  (bif !t1 then (some (a1.Kind != 3)) else (some false)).bind fun t2 =>
  (bif t2 then ((smithyardref1_IsDigest.f a1.Digest).bind fun y3 =>
  bif !y3 then (some true) else (bif t1 then ((smithyardref1_IsDigest.f a1.Key).bind fun y4 =>
  some (!y4)) else (some false))) else (bif t1 then ((smithyardref1_IsDigest.f a1.Key).bind fun y5 =>
  some (!y5)) else (some false))).bind fun t3 =>
  bif t3 then
  (some 3)
  else
  (bif decide (200<(a1.Digests.length:Int)) then
  (some 2)
  else
  ((smithyardref7_rising.f a1.Digests).bind fun y6 =>
  bif y6 != 0 then
  (some y6)
  else
  (((smithyardref7_within.f a1.Size 0 100000000).bind fun y7 =>
  bif !y7 then (some true) else ((smithyardref7_within.f a1.At 0 1000000000).bind fun y8 =>
  some (!y8))).bind fun t4 =>
  bif t4 then
  (some 1)
  else
  (smithyardref7_checkEvent.l4 smithyardref7_checkEvent.e1 big a0 a1 0))))))
def smithyardref7_held.f (a0:Blob) (a1:Int):Option Bool :=
  (bif decide (0<a0.Pins) then (some true) else (some (decide (a1<a0.Until)))).bind fun t1 =>
  some t1
def smithyardref7_row.e2 (v_out10:List ByteArray):Option (List ByteArray) :=
  some v_out10
def smithyardref7_row.l3 (e2:(List ByteArray)→Option (List ByteArray)):Nat→(List Blob)→(List ByteArray)→Int→Option (List ByteArray)
  | 0,_,_,_=>none
  | k+1,v_l5,v_out10,v_i11 =>
    bif decide (v_i11<(v_l5.length:Int)) then
    ((at? v_l5 v_i11).bind fun x1 =>
    guard? (room v_out10.length 1 16) (
    (smithyardref7_row.l3 e2 k) v_l5 (v_out10++([x1.Digest]:List ByteArray)) (w64 (v_i11+1))))
    else
    (e2 v_out10)
def smithyardref7_row.e1 (v_l5:List Blob):Option (List ByteArray) :=
  smithyardref7_row.l3 smithyardref7_row.e2 big v_l5 ([]:List ByteArray) 0
def smithyardref7_row.j5 (backl4:Cache→Int→(List Blob)→Int→Option (List ByteArray)) (a0:Cache) (a1:Int) (v_i6:Int) (v_l5:List Blob):Option (List ByteArray) :=
  backl4 a0 a1 v_l5 (w64 (v_i6+1))
def smithyardref7_row.e6 (j5:Cache→Int→Int→(List Blob)→Option (List ByteArray)) (a0:Cache) (a1:Int) (v_l5:List Blob) (v_i6:Int) (x2:Blob) (v_k8:Int):Option (List ByteArray) :=
  guard? (decide ((0:Int)≤v_k8)&&decide (v_k8≤((v_l5.length:Nat):Int))) (
  guard? (room 0 v_k8.toNat 48) (
  guard? (room ((([]:List Blob)++(v_l5.take v_k8.toNat)).length) 1 48) (
  guard? (decide ((0:Int)≤v_k8)&&decide (v_k8≤((v_l5.length:Nat):Int))) (
  guard? (room (((([]:List Blob)++(v_l5.take v_k8.toNat))++([x2]:List Blob)).length) (v_l5.length - v_k8.toNat) 48) (
  j5 a0 a1 v_i6 (((([]:List Blob)++(v_l5.take v_k8.toNat))++([x2]:List Blob))++(v_l5.drop v_k8.toNat)))))))
def smithyardref7_row.l7 (e6:Cache→Int→(List Blob)→Int→Blob→Int→Option (List ByteArray)):Nat→Cache→Int→(List Blob)→Int→Blob→Int→Option (List ByteArray)
  | 0,_,_,_,_,_,_=>none
  | k+1,a0,a1,v_l5,v_i6,x2,v_k8 =>
    (bif decide (0<v_k8) then ((at? v_l5 (w64 (v_k8 - 1))).bind fun x3 =>
    some (decide (x2.Used<x3.Used))) else (some false)).bind fun t1 =>
    bif t1 then
    ((smithyardref7_row.l7 e6 k) a0 a1 v_l5 v_i6 x2 (w64 (v_k8 - 1)))
    else
    (e6 a0 a1 v_l5 v_i6 x2 v_k8)
def smithyardref7_row.l4 (e1:(List Blob)→Option (List ByteArray)):Nat→Cache→Int→(List Blob)→Int→Option (List ByteArray)
  | 0,_,_,_,_=>none
  | k+1,a0,a1,v_l5,v_i6 =>
    bif decide (v_i6<(a0.Blobs.length:Int)) then
    ((at? a0.Blobs v_i6).bind fun x2 =>
    (smithyardref7_held.f x2 a1).bind fun y1 =>
    bif y1 then
    (smithyardref7_row.j5 ((smithyardref7_row.l4 e1 k)) a0 a1 v_i6 v_l5)
    else
    (smithyardref7_row.l7 (smithyardref7_row.e6 (smithyardref7_row.j5 ((smithyardref7_row.l4 e1 k)))) big a0 a1 v_l5 v_i6 x2 (v_l5.length:Int)))
    else
    (e1 v_l5)
def smithyardref7_row.f (a0:Cache) (a1:Int):Option (List ByteArray) :=
  smithyardref7_row.l4 smithyardref7_row.e1 big a0 a1 ([]:List Blob) 0
def smithyardref7_lease_2.f (a0:Cache) (a1:Int) (a2:Int):Option Cache :=
  (at? a0.Blobs a1).bind fun x1 =>
  some (⟨a0.Room,a0.Lease,(a0.Blobs.set a1.toNat (⟨x1.Digest,x1.Size,x1.Used,max2 x1.Until (w64 (a2+a0.Lease)),x1.Pins⟩:Blob)),a0.Entries⟩:Cache)
def smithyardref7_drop_3.f (a0:Cache) (a1:ByteArray):Option Cache :=
  (smithyardref7_blob.f (⟨a0.Room,a0.Lease,a0.Blobs,a0.Entries⟩:Cache) a1).bind fun y1 =>
  guard? (decide ((0:Int)≤y1)&&decide (y1≤((a0.Blobs.length:Nat):Int))) (
  guard? (room 0 y1.toNat 48) (
  guard? (decide ((0:Int)≤(w64 (y1+1)))&&decide ((w64 (y1+1))≤((a0.Blobs.length:Nat):Int))) (
  guard? (room ((([]:List Blob)++(a0.Blobs.take y1.toNat)).length) (a0.Blobs.length - (w64 (y1+1)).toNat) 48) (
  some (⟨a0.Room,a0.Lease,((([]:List Blob)++(a0.Blobs.take y1.toNat))++(a0.Blobs.drop (w64 (y1+1)).toNat)),a0.Entries⟩:Cache)))))
def smithyardref7_space_2.e2 (v_c0_0:Int) (v_c0_1:Int) (v_c0_2:List Blob) (v_c0_3:List Entry) (v_gone10:List ByteArray):Option ((List ByteArray) × Bool × Cache) :=
  some (v_gone10,true,(⟨v_c0_0,v_c0_1,v_c0_2,v_c0_3⟩:Cache))
def smithyardref7_space_2.l3 (e2:Int→Int→(List Blob)→(List Entry)→(List ByteArray)→Option ((List ByteArray) × Bool × Cache)):Nat→Int→(List ByteArray)→Int→Int→(List Blob)→(List Entry)→(List ByteArray)→Int→Option ((List ByteArray) × Bool × Cache)
  | 0,_,_,_,_,_,_,_,_=>none
  | k+1,a1,y1,v_c0_0,v_c0_1,v_c0_2,v_c0_3,v_gone10,v_i12 =>
    (bif decide (v_i12<(y1.length:Int)) then ((smithyardref7_bytesOf.f v_c0_2).bind fun y2 =>
    some (decide (a1<y2))) else (some false)).bind fun t1 =>
    bif t1 then
    ((at? y1 v_i12).bind fun x1 =>
    (smithyardref7_drop_3.f (⟨v_c0_0,v_c0_1,v_c0_2,v_c0_3⟩:Cache) x1).bind fun y3 =>
    (at? y1 v_i12).bind fun x2 =>
    guard? (room v_gone10.length 1 16) (
    (smithyardref7_space_2.l3 e2 k) a1 y1 y3.Room y3.Lease y3.Blobs y3.Entries (v_gone10++([x2]:List ByteArray)) (w64 (v_i12+1))))
    else
    (e2 v_c0_0 v_c0_1 v_c0_2 v_c0_3 v_gone10)
def smithyardref7_space_2.e1 (a0:Cache) (a1:Int) (a2:Int) (v_stay8:Int):Option ((List ByteArray) × Bool × Cache) :=
  bif decide (a1<v_stay8) then
  (some (([]:List ByteArray),false,(⟨a0.Room,a0.Lease,a0.Blobs,a0.Entries⟩:Cache)))
  else
  ((smithyardref7_row.f (⟨a0.Room,a0.Lease,a0.Blobs,a0.Entries⟩:Cache) a2).bind fun y1 =>
  smithyardref7_space_2.l3 smithyardref7_space_2.e2 big a1 y1 a0.Room a0.Lease a0.Blobs a0.Entries ([]:List ByteArray) 0)
def smithyardref7_space_2.j5 (backl4:Cache→Int→Int→Int→Int→Option ((List ByteArray) × Bool × Cache)) (a0:Cache) (a1:Int) (a2:Int) (v_i9:Int) (v_stay8:Int):Option ((List ByteArray) × Bool × Cache) :=
  backl4 a0 a1 a2 v_stay8 (w64 (v_i9+1))
def smithyardref7_space_2.l4 (e1:Cache→Int→Int→Int→Option ((List ByteArray) × Bool × Cache)):Nat→Cache→Int→Int→Int→Int→Option ((List ByteArray) × Bool × Cache)
  | 0,_,_,_,_,_=>none
  | k+1,a0,a1,a2,v_stay8,v_i9 =>
    bif decide (v_i9<(a0.Blobs.length:Int)) then
    ((at? a0.Blobs v_i9).bind fun x3 =>
    (smithyardref7_held.f x3 a2).bind fun y4 =>
    bif y4 then
    ((at? a0.Blobs v_i9).bind fun x4 =>
    smithyardref7_space_2.j5 ((smithyardref7_space_2.l4 e1 k)) a0 a1 a2 v_i9 (w64 (v_stay8+x4.Size)))
    else
    (smithyardref7_space_2.j5 ((smithyardref7_space_2.l4 e1 k)) a0 a1 a2 v_i9 v_stay8))
    else
    (e1 a0 a1 a2 v_stay8)
def smithyardref7_space_2.f (a0:Cache) (a1:Int) (a2:Int):Option ((List ByteArray) × Bool × Cache) :=
  smithyardref7_space_2.l4 smithyardref7_space_2.e1 big a0 a1 a2 0 0
def smithyardref7_putBlob_2.e1 (a1:CacheEvent) (y3:(List ByteArray) × Bool × Cache) (v_k9:Int):Option (CacheAnswer × Int × Cache) :=
  guard? (decide ((0:Int)≤v_k9)&&decide (v_k9≤((y3.2.2.Blobs.length:Nat):Int))) (
  guard? (room 0 v_k9.toNat 48) (
  guard? (room ((([]:List Blob)++(y3.2.2.Blobs.take v_k9.toNat)).length) 1 48) (
  guard? (decide ((0:Int)≤v_k9)&&decide (v_k9≤((y3.2.2.Blobs.length:Nat):Int))) (
  guard? (room (((([]:List Blob)++(y3.2.2.Blobs.take v_k9.toNat))++([(⟨a1.Digest,a1.Size,a1.At,w64 (a1.At+y3.2.2.Lease),0⟩:Blob)]:List Blob)).length) (y3.2.2.Blobs.length - v_k9.toNat) 48) (
  some ((⟨true,([]:List ByteArray),y3.1⟩:CacheAnswer),0,(⟨y3.2.2.Room,y3.2.2.Lease,(((([]:List Blob)++(y3.2.2.Blobs.take v_k9.toNat))++([(⟨a1.Digest,a1.Size,a1.At,w64 (a1.At+y3.2.2.Lease),0⟩:Blob)]:List Blob))++(y3.2.2.Blobs.drop v_k9.toNat)),y3.2.2.Entries⟩:Cache)))))))
def smithyardref7_putBlob_2.l2 (e1:CacheEvent→((List ByteArray) × Bool × Cache)→Int→Option (CacheAnswer × Int × Cache)):Nat→CacheEvent→((List ByteArray) × Bool × Cache)→Int→Option (CacheAnswer × Int × Cache)
  | 0,_,_,_=>none
  | k+1,a1,y3,v_k9 =>
    (bif decide (v_k9<(y3.2.2.Blobs.length:Int)) then ((at? y3.2.2.Blobs v_k9).bind fun x2 =>
    some (sLt x2.Digest a1.Digest)) else (some false)).bind fun t1 =>
    bif t1 then
    ((smithyardref7_putBlob_2.l2 e1 k) a1 y3 (w64 (v_k9+1)))
    else
    (e1 a1 y3 v_k9)
def smithyardref7_putBlob_2.f (a0:Cache) (a1:CacheEvent):Option (CacheAnswer × Int × Cache) :=
  (smithyardref7_blob.f (⟨a0.Room,a0.Lease,a0.Blobs,a0.Entries⟩:Cache) a1.Digest).bind fun y1 =>
  bif decide (0≤y1) then
  ((at? a0.Blobs y1).bind fun x1 =>
  (smithyardref7_lease_2.f (⟨a0.Room,a0.Lease,(a0.Blobs.set y1.toNat (⟨x1.Digest,x1.Size,a1.At,x1.Until,x1.Pins⟩:Blob)),a0.Entries⟩:Cache) y1 a1.At).bind fun y2 =>
  some ((⟨true,([]:List ByteArray),([]:List ByteArray)⟩:CacheAnswer),0,(⟨y2.Room,y2.Lease,y2.Blobs,y2.Entries⟩:Cache)))
  else
  (bif decide (a0.Room<a1.Size) then
  (some ((⟨false,([]:List ByteArray),([]:List ByteArray)⟩:CacheAnswer),0,(⟨a0.Room,a0.Lease,a0.Blobs,a0.Entries⟩:Cache)))
  else
  ((smithyardref7_space_2.f (⟨a0.Room,a0.Lease,a0.Blobs,a0.Entries⟩:Cache) (w64 (a0.Room - a1.Size)) a1.At).bind fun y3 =>
  bif !y3.2.1 then
  (some ((⟨false,([]:List ByteArray),([]:List ByteArray)⟩:CacheAnswer),0,(⟨y3.2.2.Room,y3.2.2.Lease,y3.2.2.Blobs,y3.2.2.Entries⟩:Cache)))
  else
  (bif (y3.2.2.Blobs.length:Int) == 3000 then
  (some ((⟨false,([]:List ByteArray),([]:List ByteArray)⟩:CacheAnswer),16,(⟨y3.2.2.Room,y3.2.2.Lease,y3.2.2.Blobs,y3.2.2.Entries⟩:Cache)))
  else
  (smithyardref7_putBlob_2.l2 smithyardref7_putBlob_2.e1 big a1 y3 0))))
def smithyardref7_missing.e1 (v_out5:List ByteArray):Option (List ByteArray) :=
  some v_out5
def smithyardref7_missing.j3 (backl2:Cache→(List ByteArray)→(List ByteArray)→Int→Option (List ByteArray)) (a0:Cache) (a1:List ByteArray) (v_i6:Int) (v_out5:List ByteArray):Option (List ByteArray) :=
  backl2 a0 a1 v_out5 (w64 (v_i6+1))
def smithyardref7_missing.l2 (e1:(List ByteArray)→Option (List ByteArray)):Nat→Cache→(List ByteArray)→(List ByteArray)→Int→Option (List ByteArray)
  | 0,_,_,_,_=>none
  | k+1,a0,a1,v_out5,v_i6 =>
    bif decide (v_i6<(a1.length:Int)) then
    ((at? a1 v_i6).bind fun x1 =>
    (smithyardref7_blob.f a0 x1).bind fun y1 =>
    bif decide (y1<0) then
    ((at? a1 v_i6).bind fun x2 =>
    guard? (room v_out5.length 1 16) (
    smithyardref7_missing.j3 ((smithyardref7_missing.l2 e1 k)) a0 a1 v_i6 (v_out5++([x2]:List ByteArray))))
    else
    (smithyardref7_missing.j3 ((smithyardref7_missing.l2 e1 k)) a0 a1 v_i6 v_out5))
    else
    (e1 v_out5)
def smithyardref7_missing.f (a0:Cache) (a1:List ByteArray):Option (List ByteArray) :=
  smithyardref7_missing.l2 smithyardref7_missing.e1 big a0 a1 ([]:List ByteArray) 0
def smithyardref7_ask.e1 (a1:CacheEvent) (v_c0_0:Int) (v_c0_1:Int) (v_c0_2:List Blob) (v_c0_3:List Entry):Option (CacheAnswer × Cache) :=
  (smithyardref7_missing.f (⟨v_c0_0,v_c0_1,v_c0_2,v_c0_3⟩:Cache) a1.Digests).bind fun y1 =>
  some ((⟨(y1.length:Int) == 0,y1,([]:List ByteArray)⟩:CacheAnswer),(⟨v_c0_0,v_c0_1,v_c0_2,v_c0_3⟩:Cache))
def smithyardref7_ask.j3 (backl2:CacheEvent→Int→Int→(List Blob)→(List Entry)→Int→Option (CacheAnswer × Cache)) (a1:CacheEvent) (v_i5:Int) (v_c0_0:Int) (v_c0_1:Int) (v_c0_2:List Blob) (v_c0_3:List Entry):Option (CacheAnswer × Cache) :=
  backl2 a1 v_c0_0 v_c0_1 v_c0_2 v_c0_3 (w64 (v_i5+1))
def smithyardref7_ask.l2 (e1:CacheEvent→Int→Int→(List Blob)→(List Entry)→Option (CacheAnswer × Cache)):Nat→CacheEvent→Int→Int→(List Blob)→(List Entry)→Int→Option (CacheAnswer × Cache)
  | 0,_,_,_,_,_,_=>none
  | k+1,a1,v_c0_0,v_c0_1,v_c0_2,v_c0_3,v_i5 =>
    bif decide (v_i5<(a1.Digests.length:Int)) then
    ((at? a1.Digests v_i5).bind fun x1 =>
    (smithyardref7_blob.f (⟨v_c0_0,v_c0_1,v_c0_2,v_c0_3⟩:Cache) x1).bind fun y2 =>
    bif decide (0≤y2) then
    ((smithyardref7_lease_2.f (⟨v_c0_0,v_c0_1,v_c0_2,v_c0_3⟩:Cache) y2 a1.At).bind fun y3 =>
    smithyardref7_ask.j3 ((smithyardref7_ask.l2 e1 k)) a1 v_i5 y3.Room y3.Lease y3.Blobs y3.Entries)
    else
    (smithyardref7_ask.j3 ((smithyardref7_ask.l2 e1 k)) a1 v_i5 v_c0_0 v_c0_1 v_c0_2 v_c0_3))
    else
    (e1 a1 v_c0_0 v_c0_1 v_c0_2 v_c0_3)
def smithyardref7_ask.f (a0:Cache) (a1:CacheEvent):Option (CacheAnswer × Cache) :=
  smithyardref7_ask.l2 smithyardref7_ask.e1 big a1 a0.Room a0.Lease a0.Blobs a0.Entries 0
def smithyardref7_entry.e1 :Option Int :=
  some (-1)
def smithyardref7_entry.l2 (e1:Option Int):Nat→Cache→ByteArray→Int→Option Int
  | 0,_,_,_=>none
  | k+1,a0,a1,v_i5 =>
    bif decide (v_i5<(a0.Entries.length:Int)) then
    ((at? a0.Entries v_i5).bind fun x1 =>
    bif sEq x1.Key a1 then
    (some v_i5)
    else
    ((smithyardref7_entry.l2 e1 k) a0 a1 (w64 (v_i5+1))))
    else
    (e1)
def smithyardref7_entry.f (a0:Cache) (a1:ByteArray):Option Int :=
  smithyardref7_entry.l2 smithyardref7_entry.e1 big a0 a1 0
def smithyardref7_removeEntry.f (a0:Cache) (a1:Int):Option Cache :=
  guard? (decide ((0:Int)≤a1)&&decide (a1≤((a0.Entries.length:Nat):Int))) (
  guard? (room 0 a1.toNat 48) (
  guard? (decide ((0:Int)≤(w64 (a1+1)))&&decide ((w64 (a1+1))≤((a0.Entries.length:Nat):Int))) (
  guard? (room ((([]:List Entry)++(a0.Entries.take a1.toNat)).length) (a0.Entries.length - (w64 (a1+1)).toNat) 48) (
  some (⟨a0.Room,a0.Lease,a0.Blobs,((([]:List Entry)++(a0.Entries.take a1.toNat))++(a0.Entries.drop (w64 (a1+1)).toNat))⟩:Cache)))))
def smithyardref7_store.e4 (a1:CacheEvent) (v_c0_0:Int) (v_c0_1:Int) (v_c0_2:List Blob) (v_c0_3:List Entry) (v_k10:Int):Option (CacheAnswer × Cache) :=
  guard? (room 0 a1.Digests.length 16) (
  guard? (decide ((0:Int)≤v_k10)&&decide (v_k10≤((v_c0_3.length:Nat):Int))) (
  guard? (room 0 v_k10.toNat 48) (
  guard? (room ((([]:List Entry)++(v_c0_3.take v_k10.toNat)).length) 1 48) (
  guard? (decide ((0:Int)≤v_k10)&&decide (v_k10≤((v_c0_3.length:Nat):Int))) (
  guard? (room (((([]:List Entry)++(v_c0_3.take v_k10.toNat))++([(⟨a1.Key,(([]:List ByteArray)++a1.Digests),a1.At⟩:Entry)]:List Entry)).length) (v_c0_3.length - v_k10.toNat) 48) (
  some ((⟨true,([]:List ByteArray),([]:List ByteArray)⟩:CacheAnswer),(⟨v_c0_0,v_c0_1,v_c0_2,(((([]:List Entry)++(v_c0_3.take v_k10.toNat))++([(⟨a1.Key,(([]:List ByteArray)++a1.Digests),a1.At⟩:Entry)]:List Entry))++(v_c0_3.drop v_k10.toNat))⟩:Cache))))))))
def smithyardref7_store.l5 (e4:CacheEvent→Int→Int→(List Blob)→(List Entry)→Int→Option (CacheAnswer × Cache)):Nat→CacheEvent→Int→Int→(List Blob)→(List Entry)→Int→Option (CacheAnswer × Cache)
  | 0,_,_,_,_,_,_=>none
  | k+1,a1,v_c0_0,v_c0_1,v_c0_2,v_c0_3,v_k10 =>
    (bif decide (v_k10<(v_c0_3.length:Int)) then ((at? v_c0_3 v_k10).bind fun x1 =>
    some (sLt x1.Key a1.Key)) else (some false)).bind fun t1 =>
    bif t1 then
    ((smithyardref7_store.l5 e4 k) a1 v_c0_0 v_c0_1 v_c0_2 v_c0_3 (w64 (v_k10+1)))
    else
    (e4 a1 v_c0_0 v_c0_1 v_c0_2 v_c0_3 v_k10)
def smithyardref7_store.j3 (a1:CacheEvent) (v_c0_0:Int) (v_c0_1:Int) (v_c0_2:List Blob) (v_c0_3:List Entry):Option (CacheAnswer × Cache) :=
  smithyardref7_store.l5 smithyardref7_store.e4 big a1 v_c0_0 v_c0_1 v_c0_2 v_c0_3 0
def smithyardref7_store.e6 (j3:CacheEvent→Int→Int→(List Blob)→(List Entry)→Option (CacheAnswer × Cache)) (a1:CacheEvent) (v_c0_0:Int) (v_c0_1:Int) (v_c0_2:List Blob) (v_c0_3:List Entry) (v_old8:Int):Option (CacheAnswer × Cache) :=
  (smithyardref7_removeEntry.f (⟨v_c0_0,v_c0_1,v_c0_2,v_c0_3⟩:Cache) v_old8).bind fun y3 =>
  j3 a1 y3.Room y3.Lease y3.Blobs y3.Entries
def smithyardref7_store.j8 (backl7:CacheEvent→Int→Int→(List Blob)→(List Entry)→Int→Int→Option (CacheAnswer × Cache)) (a1:CacheEvent) (v_c0_0:Int) (v_c0_1:Int) (v_c0_2:List Blob) (v_c0_3:List Entry) (v_i9:Int) (v_old8:Int):Option (CacheAnswer × Cache) :=
  backl7 a1 v_c0_0 v_c0_1 v_c0_2 v_c0_3 v_old8 (w64 (v_i9+1))
def smithyardref7_store.l7 (e6:CacheEvent→Int→Int→(List Blob)→(List Entry)→Int→Option (CacheAnswer × Cache)):Nat→CacheEvent→Int→Int→(List Blob)→(List Entry)→Int→Int→Option (CacheAnswer × Cache)
  | 0,_,_,_,_,_,_,_=>none
  | k+1,a1,v_c0_0,v_c0_1,v_c0_2,v_c0_3,v_old8,v_i9 =>
    bif decide (v_i9<(v_c0_3.length:Int)) then
    ((at? v_c0_3 v_i9).bind fun x2 =>
    (at? v_c0_3 v_old8).bind fun x3 =>
    bif decide (x2.Used<x3.Used) then
    (smithyardref7_store.j8 ((smithyardref7_store.l7 e6 k)) a1 v_c0_0 v_c0_1 v_c0_2 v_c0_3 v_i9 v_i9)
    else
    (smithyardref7_store.j8 ((smithyardref7_store.l7 e6 k)) a1 v_c0_0 v_c0_1 v_c0_2 v_c0_3 v_i9 v_old8))
    else
    (e6 a1 v_c0_0 v_c0_1 v_c0_2 v_c0_3 v_old8)
def smithyardref7_store.j2 (a1:CacheEvent) (v_c0_0:Int) (v_c0_1:Int) (v_c0_2:List Blob) (v_c0_3:List Entry):Option (CacheAnswer × Cache) :=
  bif (v_c0_3.length:Int) == 1000 then
  (smithyardref7_store.l7 (smithyardref7_store.e6 smithyardref7_store.j3) big a1 v_c0_0 v_c0_1 v_c0_2 v_c0_3 0 0)
  else
  (smithyardref7_store.j3 a1 v_c0_0 v_c0_1 v_c0_2 v_c0_3)
def smithyardref7_store.e1 (a0:Cache) (a1:CacheEvent) (v_c0_2:List Blob):Option (CacheAnswer × Cache) :=
  (smithyardref7_entry.f (⟨a0.Room,a0.Lease,v_c0_2,a0.Entries⟩:Cache) a1.Key).bind fun y2 =>
  bif decide (0≤y2) then
  ((smithyardref7_removeEntry.f (⟨a0.Room,a0.Lease,v_c0_2,a0.Entries⟩:Cache) y2).bind fun y4 =>
  smithyardref7_store.j2 a1 y4.Room y4.Lease y4.Blobs y4.Entries)
  else
  (smithyardref7_store.j2 a1 a0.Room a0.Lease v_c0_2 a0.Entries)
def smithyardref7_store.l9 (e1:Cache→CacheEvent→(List Blob)→Option (CacheAnswer × Cache)):Nat→Cache→CacheEvent→(List Blob)→Int→Option (CacheAnswer × Cache)
  | 0,_,_,_,_=>none
  | k+1,a0,a1,v_c0_2,v_i6 =>
    bif decide (v_i6<(a1.Digests.length:Int)) then
    ((at? a1.Digests v_i6).bind fun x4 =>
    (smithyardref7_blob.f (⟨a0.Room,a0.Lease,v_c0_2,a0.Entries⟩:Cache) x4).bind fun y5 =>
    (at? v_c0_2 y5).bind fun x5 =>
    (smithyardref7_store.l9 e1 k) a0 a1 (v_c0_2.set y5.toNat (⟨x5.Digest,x5.Size,a1.At,x5.Until,x5.Pins⟩:Blob)) (w64 (v_i6+1)))
    else
    (e1 a0 a1 v_c0_2)
def smithyardref7_store.f (a0:Cache) (a1:CacheEvent):Option (CacheAnswer × Cache) :=
  (smithyardref7_missing.f (⟨a0.Room,a0.Lease,a0.Blobs,a0.Entries⟩:Cache) a1.Digests).bind fun y1 =>
  bif decide (0<(y1.length:Int)) then
  (some ((⟨false,y1,([]:List ByteArray)⟩:CacheAnswer),(⟨a0.Room,a0.Lease,a0.Blobs,a0.Entries⟩:Cache)))
  else
  (smithyardref7_store.l9 smithyardref7_store.e1 big a0 a1 a0.Blobs 0)
def smithyardref7_find.e1 (v_c0_0:Int) (v_c0_1:Int) (v_c0_2:List Blob) (v_c0_3:List Entry):Option (CacheAnswer × Cache) :=
  some ((⟨true,([]:List ByteArray),([]:List ByteArray)⟩:CacheAnswer),(⟨v_c0_0,v_c0_1,v_c0_2,v_c0_3⟩:Cache))
def smithyardref7_find.l2 (e1:Int→Int→(List Blob)→(List Entry)→Option (CacheAnswer × Cache)):Nat→CacheEvent→Entry→Int→Int→(List Blob)→(List Entry)→Int→Option (CacheAnswer × Cache)
  | 0,_,_,_,_,_,_,_=>none
  | k+1,a1,x1,v_c0_0,v_c0_1,v_c0_2,v_c0_3,v_i8 =>
    bif decide (v_i8<(x1.Refs.length:Int)) then
    ((at? x1.Refs v_i8).bind fun x3 =>
    (smithyardref7_blob.f (⟨v_c0_0,v_c0_1,v_c0_2,v_c0_3⟩:Cache) x3).bind fun y4 =>
    (at? v_c0_2 y4).bind fun x4 =>
    (smithyardref7_lease_2.f (⟨v_c0_0,v_c0_1,(v_c0_2.set y4.toNat (⟨x4.Digest,x4.Size,a1.At,x4.Until,x4.Pins⟩:Blob)),v_c0_3⟩:Cache) y4 a1.At).bind fun y5 =>
    (smithyardref7_find.l2 e1 k) a1 x1 y5.Room y5.Lease y5.Blobs y5.Entries (w64 (v_i8+1)))
    else
    (e1 v_c0_0 v_c0_1 v_c0_2 v_c0_3)
def smithyardref7_find.f (a0:Cache) (a1:CacheEvent):Option (CacheAnswer × Cache) :=
  (smithyardref7_entry.f (⟨a0.Room,a0.Lease,a0.Blobs,a0.Entries⟩:Cache) a1.Key).bind fun y1 =>
  bif decide (y1<0) then
  (some ((⟨false,([]:List ByteArray),([]:List ByteArray)⟩:CacheAnswer),(⟨a0.Room,a0.Lease,a0.Blobs,a0.Entries⟩:Cache)))
  else
  ((at? a0.Entries y1).bind fun x1 =>
  (smithyardref7_missing.f (⟨a0.Room,a0.Lease,a0.Blobs,a0.Entries⟩:Cache) x1.Refs).bind fun y2 =>
  bif decide (0<(y2.length:Int)) then
  ((smithyardref7_removeEntry.f (⟨a0.Room,a0.Lease,a0.Blobs,a0.Entries⟩:Cache) y1).bind fun y3 =>
  some ((⟨false,y2,([]:List ByteArray)⟩:CacheAnswer),(⟨y3.Room,y3.Lease,y3.Blobs,y3.Entries⟩:Cache)))
  else
  ((at? a0.Entries y1).bind fun x2 =>
  smithyardref7_find.l2 smithyardref7_find.e1 big a1 x1 a0.Room a0.Lease a0.Blobs (a0.Entries.set y1.toNat (⟨x2.Key,x2.Refs,a1.At⟩:Entry)) 0))
def smithyardref7_one.j1 (v_c0_0:Int) (v_c0_1:Int) (v_c0_2:List Blob) (v_c0_3:List Entry):Option (CacheAnswer × Cache) :=
  some ((⟨true,([]:List ByteArray),([]:List ByteArray)⟩:CacheAnswer),(⟨v_c0_0,v_c0_1,v_c0_2,v_c0_3⟩:Cache))
def smithyardref7_one.f (a0:Cache) (a1:CacheEvent):Option (CacheAnswer × Cache) :=
  (smithyardref7_blob.f (⟨a0.Room,a0.Lease,a0.Blobs,a0.Entries⟩:Cache) a1.Digest).bind fun y1 =>
  bif decide (y1<0) then
  (some ((⟨false,([]:List ByteArray),([]:List ByteArray)⟩:CacheAnswer),(⟨a0.Room,a0.Lease,a0.Blobs,a0.Entries⟩:Cache)))
  else
  ((at? a0.Blobs y1).bind fun x1 =>
  bif a1.Kind == 2 then
  ((at? a0.Blobs y1).bind fun x2 =>
  (smithyardref7_lease_2.f (⟨a0.Room,a0.Lease,(a0.Blobs.set y1.toNat (⟨x2.Digest,x2.Size,a1.At,x2.Until,x2.Pins⟩:Blob)),a0.Entries⟩:Cache) y1 a1.At).bind fun y2 =>
  smithyardref7_one.j1 y2.Room y2.Lease y2.Blobs y2.Entries)
  else
  (bif a1.Kind == 4 then
  ((at? a0.Blobs y1).bind fun x3 =>
  smithyardref7_one.j1 a0.Room a0.Lease (a0.Blobs.set y1.toNat (⟨x3.Digest,x3.Size,x3.Used,x3.Until,w64 (x3.Pins+1)⟩:Blob)) a0.Entries)
  else
  (bif a1.Kind == 5 then
  ((at? a0.Blobs y1).bind fun x4 =>
  bif x4.Pins == 0 then
  (some ((⟨false,([]:List ByteArray),([]:List ByteArray)⟩:CacheAnswer),(⟨a0.Room,a0.Lease,a0.Blobs,a0.Entries⟩:Cache)))
  else
  ((at? a0.Blobs y1).bind fun x5 =>
  smithyardref7_one.j1 a0.Room a0.Lease (a0.Blobs.set y1.toNat (⟨x5.Digest,x5.Size,x5.Used,x5.Until,w64 (x5.Pins - 1)⟩:Blob)) a0.Entries))
  else
  (bif a1.Kind == 8 then
  ((at? a0.Blobs y1).bind fun x6 =>
  (smithyardref7_held.f x6 a1.At).bind fun y3 =>
  bif y3 then
  (some ((⟨false,([]:List ByteArray),([]:List ByteArray)⟩:CacheAnswer),(⟨a0.Room,a0.Lease,a0.Blobs,a0.Entries⟩:Cache)))
  else
  ((smithyardref7_drop_3.f (⟨a0.Room,a0.Lease,a0.Blobs,a0.Entries⟩:Cache) a1.Digest).bind fun y4 =>
  some ((⟨true,([]:List ByteArray),([a1.Digest]:List ByteArray)⟩:CacheAnswer),(⟨y4.Room,y4.Lease,y4.Blobs,y4.Entries⟩:Cache))))
  else
  (smithyardref7_one.j1 a0.Room a0.Lease a0.Blobs a0.Entries)))))
def smithyardref7_do.f (a0:Cache) (a1:CacheEvent):Option (CacheAnswer × Int × Cache) :=
  (smithyardref7_checkEvent.f (⟨a0.Room,a0.Lease,a0.Blobs,a0.Entries⟩:Cache) a1).bind fun y1 =>
  bif y1 != 0 then
  (some ((⟨false,([]:List ByteArray),([]:List ByteArray)⟩:CacheAnswer),y1,(⟨a0.Room,a0.Lease,a0.Blobs,a0.Entries⟩:Cache)))
  else
  (bif a1.Kind == 1 then
  ((smithyardref7_putBlob_2.f (⟨a0.Room,a0.Lease,a0.Blobs,a0.Entries⟩:Cache) a1).bind fun y2 =>
  some ((⟨y2.1.Done,y2.1.Missing,y2.1.Gone⟩:CacheAnswer),y2.2.1,(⟨y2.2.2.Room,y2.2.2.Lease,y2.2.2.Blobs,y2.2.2.Entries⟩:Cache)))
  else
  (bif a1.Kind == 3 then
  ((smithyardref7_ask.f (⟨a0.Room,a0.Lease,a0.Blobs,a0.Entries⟩:Cache) a1).bind fun y3 =>
  some ((⟨y3.1.Done,y3.1.Missing,y3.1.Gone⟩:CacheAnswer),0,(⟨y3.2.Room,y3.2.Lease,y3.2.Blobs,y3.2.Entries⟩:Cache)))
  else
  (bif a1.Kind == 6 then
  ((smithyardref7_store.f (⟨a0.Room,a0.Lease,a0.Blobs,a0.Entries⟩:Cache) a1).bind fun y4 =>
  some ((⟨y4.1.Done,y4.1.Missing,y4.1.Gone⟩:CacheAnswer),0,(⟨y4.2.Room,y4.2.Lease,y4.2.Blobs,y4.2.Entries⟩:Cache)))
  else
  (bif a1.Kind == 7 then
  ((smithyardref7_find.f (⟨a0.Room,a0.Lease,a0.Blobs,a0.Entries⟩:Cache) a1).bind fun y5 =>
  some ((⟨y5.1.Done,y5.1.Missing,y5.1.Gone⟩:CacheAnswer),0,(⟨y5.2.Room,y5.2.Lease,y5.2.Blobs,y5.2.Entries⟩:Cache)))
  else
  ((smithyardref7_one.f (⟨a0.Room,a0.Lease,a0.Blobs,a0.Entries⟩:Cache) a1).bind fun y6 =>
  some ((⟨y6.1.Done,y6.1.Missing,y6.1.Gone⟩:CacheAnswer),0,(⟨y6.2.Room,y6.2.Lease,y6.2.Blobs,y6.2.Entries⟩:Cache)))))))
def smithyardref7_Do.f (a0:Cache) (a1:CacheEvent):Option (Cache × CacheAnswer × Int) :=
  (smithyardref7_CheckCache.f a0).bind fun y1 =>
  bif y1 != 0 then
  (some ((⟨0,0,([]:List Blob),([]:List Entry)⟩:Cache),(⟨false,([]:List ByteArray),([]:List ByteArray)⟩:CacheAnswer),y1))
  else
  ((smithyardref7_copied.f a0).bind fun y2 =>
  (smithyardref7_do.f (⟨y2.Room,y2.Lease,y2.Blobs,y2.Entries⟩:Cache) a1).bind fun y3 =>
  bif y3.2.1 != 0 then
  (some ((⟨0,0,([]:List Blob),([]:List Entry)⟩:Cache),(⟨false,([]:List ByteArray),([]:List ByteArray)⟩:CacheAnswer),y3.2.1))
  else
  (some ((⟨y3.2.2.Room,y3.2.2.Lease,y3.2.2.Blobs,y3.2.2.Entries⟩:Cache),(⟨y3.1.Done,y3.1.Missing,y3.1.Gone⟩:CacheAnswer),0)))
def smithyardref7_sameList.e1 :Option Bool :=
  some true
def smithyardref7_sameList.l2 (e1:Option Bool):Nat→(List ByteArray)→(List ByteArray)→Int→Option Bool
  | 0,_,_,_=>none
  | k+1,a0,a1,v_i5 =>
    bif decide (v_i5<(a0.length:Int)) then
    ((at? a0 v_i5).bind fun x1 =>
    (at? a1 v_i5).bind fun x2 =>
    bif !sEq x1 x2 then
    (some false)
    else
    ((smithyardref7_sameList.l2 e1 k) a0 a1 (w64 (v_i5+1))))
    else
    (e1)
def smithyardref7_sameList.f (a0:List ByteArray) (a1:List ByteArray):Option Bool :=
  bif (a0.length:Int) != (a1.length:Int) then
  (some false)
  else
  (smithyardref7_sameList.l2 smithyardref7_sameList.e1 big a0 a1 0)
def smithyardref7_Same.e2 :Option Bool :=
  some true
def smithyardref7_Same.l3 (e2:Option Bool):Nat→Cache→Cache→Int→Option Bool
  | 0,_,_,_=>none
  | k+1,a0,a1,v_i6 =>
    bif decide (v_i6<(a0.Entries.length:Int)) then
    (((at? a0.Entries v_i6).bind fun x1 =>
    (at? a1.Entries v_i6).bind fun x2 =>
    bif !sEq x1.Key x2.Key then (some true) else (bif x1.Used != x2.Used then (some true) else ((smithyardref7_sameList.f x1.Refs x2.Refs).bind fun y1 =>
    some (!y1)))).bind fun t2 =>
    bif t2 then
    (some false)
    else
    ((smithyardref7_Same.l3 e2 k) a0 a1 (w64 (v_i6+1))))
    else
    (e2)
def smithyardref7_Same.e1 (a0:Cache) (a1:Cache):Option Bool :=
  smithyardref7_Same.l3 smithyardref7_Same.e2 big a0 a1 0
def smithyardref7_Same.l4 (e1:Cache→Cache→Option Bool):Nat→Cache→Cache→Int→Option Bool
  | 0,_,_,_=>none
  | k+1,a0,a1,v_i5 =>
    bif decide (v_i5<(a0.Blobs.length:Int)) then
    ((at? a0.Blobs v_i5).bind fun x3 =>
    (at? a1.Blobs v_i5).bind fun x4 =>
    bif !(sEq x3.Digest x4.Digest&&(x3.Size == x4.Size&&(x3.Used == x4.Used&&(x3.Until == x4.Until&&(x3.Pins == x4.Pins&&true))))) then
    (some false)
    else
    ((smithyardref7_Same.l4 e1 k) a0 a1 (w64 (v_i5+1))))
    else
    (e1 a0 a1)
def smithyardref7_Same.f (a0:Cache) (a1:Cache):Option Bool :=
  (bif a0.Room != a1.Room then (some true) else (bif a0.Lease != a1.Lease then (some true) else (bif (a0.Blobs.length:Int) != (a1.Blobs.length:Int) then (some true) else (some ((a0.Entries.length:Int) != (a1.Entries.length:Int)))))).bind fun t1 =>
  bif t1 then
  (some false)
  else
  (smithyardref7_Same.l4 smithyardref7_Same.e1 big a0 a1 0)
def smithyardref7_SameAnswers.e1 :Option Bool :=
  some true
def smithyardref7_SameAnswers.l2 (e1:Option Bool):Nat→(List CacheAnswer)→(List CacheAnswer)→Int→Option Bool
  | 0,_,_,_=>none
  | k+1,a0,a1,v_i5 =>
    bif decide (v_i5<(a0.length:Int)) then
    (((at? a0 v_i5).bind fun x1 =>
    (at? a1 v_i5).bind fun x2 =>
    bif !(x1.Done == x2.Done) then (some true) else ((smithyardref7_sameList.f x1.Missing x2.Missing).bind fun y1 =>
    bif !y1 then (some true) else ((smithyardref7_sameList.f x1.Gone x2.Gone).bind fun y2 =>
    some (!y2)))).bind fun t1 =>
    bif t1 then
    (some false)
    else
    ((smithyardref7_SameAnswers.l2 e1 k) a0 a1 (w64 (v_i5+1))))
    else
    (e1)
def smithyardref7_SameAnswers.f (a0:List CacheAnswer) (a1:List CacheAnswer):Option Bool :=
  bif (a0.length:Int) != (a1.length:Int) then
  (some false)
  else
  (smithyardref7_SameAnswers.l2 smithyardref7_SameAnswers.e1 big a0 a1 0)
def smithyardref7_SameEvents.e1 :Option Bool :=
  some true
def smithyardref7_SameEvents.l2 (e1:Option Bool):Nat→(List CacheEvent)→(List CacheEvent)→Int→Option Bool
  | 0,_,_,_=>none
  | k+1,a0,a1,v_i5 =>
    bif decide (v_i5<(a0.length:Int)) then
    ((at? a0 v_i5).bind fun x1 =>
    (at? a1 v_i5).bind fun x2 =>
    (bif x1.Kind != x2.Kind then (some true) else (bif x1.At != x2.At then (some true) else (bif !sEq x1.Digest x2.Digest then (some true) else (bif !sEq x1.Key x2.Key then (some true) else (bif x1.Size != x2.Size then (some true) else ((smithyardref7_sameList.f x1.Digests x2.Digests).bind fun y1 =>
    some (!y1))))))).bind fun t1 =>
    bif t1 then
    (some false)
    else
    ((smithyardref7_SameEvents.l2 e1 k) a0 a1 (w64 (v_i5+1))))
    else
    (e1)
def smithyardref7_SameEvents.f (a0:List CacheEvent) (a1:List CacheEvent):Option Bool :=
  bif (a0.length:Int) != (a1.length:Int) then
  (some false)
  else
  (smithyardref7_SameEvents.l2 smithyardref7_SameEvents.e1 big a0 a1 0)
def cache_New.f (a0:Int) (a1:Int):Option (Cache × Int) :=
  (cache_CheckCache.f (⟨a0,a1,([]:List Blob),([]:List Entry)⟩:Cache)).bind fun y1 =>
  bif y1 != 0 then
  (some ((⟨0,0,([]:List Blob),([]:List Entry)⟩:Cache),y1))
  else
  (some ((⟨a0,a1,([]:List Blob),([]:List Entry)⟩:Cache),0))
def smithyardlaw7_awake.f :Option Bool :=
  (cache_New.f 5 7).bind fun y1 =>
  (bif y1.2 == 0 then (bif y1.1.Room == 5 then (some (y1.1.Lease == 7)) else (some false)) else (some false)).bind fun t1 =>
  some t1
def smithyardlaw7_CacheDoesMatchSpec.f (a0:Cache) (a1:CacheEvent):Option Bool :=
  (smithyardref7_Copy.f a0).bind fun y1 =>
  (smithyardref7_CopyEvents.f ([a1]:List CacheEvent)).bind fun y2 =>
  (at? y2 0).bind fun x1 =>
  (cache_Do.f a0 a1).bind fun y3 =>
  (smithyardref7_Do.f (⟨y1.Room,y1.Lease,y1.Blobs,y1.Entries⟩:Cache) x1).bind fun y4 =>
  ((smithyardref7_Same.f (⟨y3.1.Room,y3.1.Lease,y3.1.Blobs,y3.1.Entries⟩:Cache) (⟨y4.1.Room,y4.1.Lease,y4.1.Blobs,y4.1.Entries⟩:Cache)).bind fun y5 =>
  bif y5 then ((smithyardref7_SameAnswers.f ([(⟨y3.2.1.Done,y3.2.1.Missing,y3.2.1.Gone⟩:CacheAnswer)]:List CacheAnswer) ([(⟨y4.2.1.Done,y4.2.1.Missing,y4.2.1.Gone⟩:CacheAnswer)]:List CacheAnswer)).bind fun y6 =>
  bif y6 then (bif y3.2.2 == y4.2.2 then ((smithyardref7_Same.f a0 (⟨y1.Room,y1.Lease,y1.Blobs,y1.Entries⟩:Cache)).bind fun y7 =>
  bif y7 then ((smithyardref7_SameEvents.f ([a1]:List CacheEvent) ([x1]:List CacheEvent)).bind fun y8 =>
  bif y8 then ((smithyardlaw7_awake.f).bind fun y9 =>
  some y9) else (some false)) else (some false)) else (some false)) else (some false)) else (some false)).bind fun t1 =>
  some t1
end Go.Proofs.YtjdnnkdhajhdkaaGreatDoor
