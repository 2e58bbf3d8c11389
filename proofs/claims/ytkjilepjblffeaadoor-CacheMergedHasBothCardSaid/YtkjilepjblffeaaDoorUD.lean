/- Plain functions, each written by program out of one Go function's operations. -/
import Derived.Test.YtkjilepjblffeaaDoorKitP
import Derived.Lib.Bytealg
import Derived.Lib.SlTrimSet
set_option linter.unusedVariables false
namespace Go.Proofs.YtkjilepjblffeaaDoor
open Go Go.Proofs.YtkjilepjblffeaaDoor.Kit
structure Blob where
  Digest:ByteArray
  Size:Int
  Used:Int
  Until:Int
  Pins:Int
  deriving Inhabited,DecidableEq
structure Entry where
  Key:ByteArray
  Refs:List ByteArray
  Used:Int
  deriving Inhabited,DecidableEq
structure Cache where
  Room:Int
  Lease:Int
  Blobs:List Blob
  Entries:List Entry
  deriving Inhabited,DecidableEq
structure CacheEvent where
  Kind:Int
  At:Int
  Digest:ByteArray
  Digests:List ByteArray
  Key:ByteArray
  Size:Int
  deriving Inhabited,DecidableEq
structure CacheAnswer where
  Done:Bool
  Missing:List ByteArray
  Gone:List ByteArray
  deriving Inhabited,DecidableEq
def slices_Clone_Blob.f (a0:List Blob):Option (List Blob):=guard? (room 0 a0.length 48) (some a0)
def slices_Clone_string.f (a0:List ByteArray):Option (List ByteArray):=guard? (room 0 a0.length 16) (some a0)
def cache_within.f (a0:Int) (a1:Int) (a2:Int):Option Bool :=
  (bif decide (a1≤a0) then (some (decide (a0≤a2))) else (some false)).bind fun t1 =>
  some t1
def strings_Trim.f (a0:ByteArray) (a1:ByteArray):Option ByteArray:=guard? (decide (a0.size≤9223372036854775807)&&(decide (a1.size<4294967281)&&a1.data.toList.all (fun b=>decide (b.toNat<128)))) (some (⟨(Lib.trimS a0.data.toList a1.data.toList).toArray⟩))
def blob_IsDigest.f (a0:ByteArray):Option Bool :=
  (bif (a0.size:Int) == 16 then ((strings_Trim.f a0 ({ data:=#[48,49,50,51,52,53,54,55,56,57,97,98,99,100,101,102] }:ByteArray)).bind fun y1 =>
  some (sEq y1 ({ data:=#[] }:ByteArray))) else (some false)).bind fun t1 =>
  some t1
def cache_isMoment.f (a0:Int):Option Bool :=
  (cache_within.f a0 0 1000000000).bind fun y1 =>
  some y1
def cache_checkBlobs.e1 (a1:Int) (v_sum5:Int):Option Int :=
  bif decide (a1<v_sum5) then
  (some 16)
  else
  (some 0)
def cache_checkBlobs.l2 (e1:Int→Int→Option Int):Nat→(List Blob)→Int→Int→Int→Option Int
  | 0,_,_,_,_=>none
  | k+1,a0,a1,v_sum5,v13 =>
    bif decide (v13<(a0.length:Int)) then
    ((at? a0 v13).bind fun x1 =>
    (blob_IsDigest.f x1.Digest).bind fun y1 =>
    bif !y1 then
    (some 3)
    else
    (((cache_within.f x1.Size 0 100000000).bind fun y2 =>
    bif !y2 then (some true) else ((cache_isMoment.f x1.Used).bind fun y3 =>
    bif !y3 then (some true) else ((cache_within.f x1.Until 0 1001000000).bind fun y4 =>
    bif !y4 then (some true) else ((cache_within.f x1.Pins 0 3000).bind fun y5 =>
    some (!y5))))).bind fun t1 =>
    bif t1 then
    (some 1)
    else
    ((bif decide (0<v13) then ((at? a0 (w64 (v13 - 1))).bind fun x2 =>
    some (sLt x1.Digest x2.Digest||sEq x1.Digest x2.Digest)) else (some false)).bind fun t2 =>
    bif t2 then
    (some 8)
    else
    ((cache_checkBlobs.l2 e1 k) a0 a1 (w64 (v_sum5+x1.Size)) (w64 (v13+1))))))
    else
    (e1 a1 v_sum5)
def cache_checkBlobs.f (a0:List Blob) (a1:Int):Option Int :=
  bif decide (3000<(a0.length:Int)) then
  (some 2)
  else
  (cache_checkBlobs.l2 cache_checkBlobs.e1 big a0 a1 0 0)
def cache_checkDigests.e1 :Option Int :=
  some 0
def cache_checkDigests.l2 (e1:Option Int):Nat→(List ByteArray)→Int→Option Int
  | 0,_,_=>none
  | k+1,a0,v13 =>
    bif decide (v13<(a0.length:Int)) then
    ((at? a0 v13).bind fun x1 =>
    (blob_IsDigest.f x1).bind fun y1 =>
    bif !y1 then
    (some 3)
    else
    ((bif decide (0<v13) then ((at? a0 (w64 (v13 - 1))).bind fun x2 =>
    some (sLt x1 x2||sEq x1 x2)) else (some false)).bind fun t1 =>
    bif t1 then
    (some 8)
    else
    ((cache_checkDigests.l2 e1 k) a0 (w64 (v13+1)))))
    else
    (e1)
def cache_checkDigests.f (a0:List ByteArray) (a1:Int):Option Int :=
  bif decide (a1<(a0.length:Int)) then
  (some 2)
  else
  (cache_checkDigests.l2 cache_checkDigests.e1 big a0 0)
def cache_CheckCache.e1 :Option Int :=
  some 0
def cache_CheckCache.l2 (e1:Option Int):Nat→Cache→Int→Option Int
  | 0,_,_=>none
  | k+1,a0,v32 =>
    bif decide (v32<(a0.Entries.length:Int)) then
    ((at? a0.Entries v32).bind fun x1 =>
    (blob_IsDigest.f x1.Key).bind fun y4 =>
    bif !y4 then
    (some 3)
    else
    ((cache_checkDigests.f x1.Refs 200).bind fun y5 =>
    bif y5 != 0 then
    (some y5)
    else
    ((cache_isMoment.f x1.Used).bind fun y6 =>
    bif !y6 then
    (some 1)
    else
    ((bif decide (0<v32) then ((at? a0.Entries (w64 (v32 - 1))).bind fun x2 =>
    some (sLt x1.Key x2.Key||sEq x1.Key x2.Key)) else (some false)).bind fun t2 =>
    bif t2 then
    (some 8)
    else
    ((cache_CheckCache.l2 e1 k) a0 (w64 (v32+1)))))))
    else
    (e1)
def cache_CheckCache.f (a0:Cache):Option Int :=
  ((cache_within.f a0.Room 0 1000000000).bind fun y1 =>
  bif !y1 then (some true) else ((cache_within.f a0.Lease 0 1000000).bind fun y2 =>
  some (!y2))).bind fun t1 =>
  bif t1 then
  (some 1)
  else
  ((cache_checkBlobs.f a0.Blobs a0.Room).bind fun y3 =>
  bif y3 != 0 then
  (some y3)
  else
  (bif decide (1000<(a0.Entries.length:Int)) then
  (some 2)
  else
  (cache_CheckCache.l2 cache_CheckCache.e1 big a0 0)))
def cache_New.f (a0:Int) (a1:Int):Option (Cache × Int) :=
  (cache_CheckCache.f (⟨a0,a1,([]:List Blob),([]:List Entry)⟩:Cache)).bind fun y1 =>
  bif y1 != 0 then
  (some ((⟨0,0,([]:List Blob),([]:List Entry)⟩:Cache),y1))
  else
  (some ((⟨a0,a1,([]:List Blob),([]:List Entry)⟩:Cache),0))
def smithyardref7_sameList.e1 :Option Bool :=
  some true
def smithyardref7_sameList.l2 (e1:Option Bool):Nat→(List ByteArray)→(List ByteArray)→Int→Option Bool
  | 0,_,_,_=>none
  | k+1,a0,a1,v_i5 =>
    bif decide (v_i5<(a0.length:Int)) then
    ((at? a0 v_i5).bind fun x1 =>
    (at? a1 v_i5).bind fun x2 =>
    bif !sEq x1 x2 then
    (some false)
    else
    ((smithyardref7_sameList.l2 e1 k) a0 a1 (w64 (v_i5+1))))
    else
    (e1)
def smithyardref7_sameList.f (a0:List ByteArray) (a1:List ByteArray):Option Bool :=
  bif (a0.length:Int) != (a1.length:Int) then
  (some false)
  else
  (smithyardref7_sameList.l2 smithyardref7_sameList.e1 big a0 a1 0)
def smithyardref7_Same.e2 :Option Bool :=
  some true
def smithyardref7_Same.l3 (e2:Option Bool):Nat→Cache→Cache→Int→Option Bool
  | 0,_,_,_=>none
  | k+1,a0,a1,v_i6 =>
    bif decide (v_i6<(a0.Entries.length:Int)) then
    (((at? a0.Entries v_i6).bind fun x1 =>
    (at? a1.Entries v_i6).bind fun x2 =>
    bif !sEq x1.Key x2.Key then (some true) else (bif x1.Used != x2.Used then (some true) else ((smithyardref7_sameList.f x1.Refs x2.Refs).bind fun y1 =>
    some (!y1)))).bind fun t2 =>
    bif t2 then
    (some false)
    else
    ((smithyardref7_Same.l3 e2 k) a0 a1 (w64 (v_i6+1))))
    else
    (e2)
def smithyardref7_Same.e1 (a0:Cache) (a1:Cache):Option Bool :=
  smithyardref7_Same.l3 smithyardref7_Same.e2 big a0 a1 0
def smithyardref7_Same.l4 (e1:Cache→Cache→Option Bool):Nat→Cache→Cache→Int→Option Bool
  | 0,_,_,_=>none
  | k+1,a0,a1,v_i5 =>
    bif decide (v_i5<(a0.Blobs.length:Int)) then
    ((at? a0.Blobs v_i5).bind fun x3 =>
    (at? a1.Blobs v_i5).bind fun x4 =>
    bif !(sEq x3.Digest x4.Digest&&(x3.Size == x4.Size&&(x3.Used == x4.Used&&(x3.Until == x4.Until&&(x3.Pins == x4.Pins&&true))))) then
    (some false)
    else
    ((smithyardref7_Same.l4 e1 k) a0 a1 (w64 (v_i5+1))))
    else
    (e1 a0 a1)
def smithyardref7_Same.f (a0:Cache) (a1:Cache):Option Bool :=
  (bif a0.Room != a1.Room then (some true) else (bif a0.Lease != a1.Lease then (some true) else (bif (a0.Blobs.length:Int) != (a1.Blobs.length:Int) then (some true) else (some ((a0.Entries.length:Int) != (a1.Entries.length:Int)))))).bind fun t1 =>
  bif t1 then
  (some false)
  else
  (smithyardref7_Same.l4 smithyardref7_Same.e1 big a0 a1 0)
def strings_Compare.f (a0:ByteArray) (a1:ByteArray):Option Int:=some (Lib.compareBytes a0.data.toList a1.data.toList)
def cache_find_1.f (a0:Blob) (a1:ByteArray):Option Int :=
  (strings_Compare.f a0.Digest a1).bind fun y1 =>
  some y1
def slices_BinarySearchFunc_Blob_string.e1 (a0:List Blob) (a1:ByteArray) (v_i9:Int):Option (Int × Bool) :=
  (bif decide (v_i9<(a0.length:Int)) then ((at? a0 v_i9).bind fun x1 =>
  (cache_find_1.f x1 a1).bind fun y1 =>
  some (y1 == 0)) else (some false)).bind fun t1 =>
  some (v_i9,t1)
def slices_BinarySearchFunc_Blob_string.l2 (e1:(List Blob)→ByteArray→Int→Option (Int × Bool)):Nat→(List Blob)→ByteArray→Int→Int→Option (Int × Bool)
  | 0,_,_,_,_=>none
  | k+1,a0,a1,v_i9,v_j10 =>
    bif decide (v_i9<v_j10) then
    ((at? a0 (w64 (iShr .u64 (IntKind.wrap .u64 (w64 (v_i9+v_j10))) 1))).bind fun x2 =>
    (cache_find_1.f x2 a1).bind fun y2 =>
    bif decide (y2<0) then
    ((slices_BinarySearchFunc_Blob_string.l2 e1 k) a0 a1 (w64 ((w64 (iShr .u64 (IntKind.wrap .u64 (w64 (v_i9+v_j10))) 1))+1)) v_j10)
    else
    ((slices_BinarySearchFunc_Blob_string.l2 e1 k) a0 a1 v_i9 (w64 (iShr .u64 (IntKind.wrap .u64 (w64 (v_i9+v_j10))) 1))))
    else
    (e1 a0 a1 v_i9)
def slices_BinarySearchFunc_Blob_string.f (a0:List Blob) (a1:ByteArray):Option (Int × Bool) :=
  slices_BinarySearchFunc_Blob_string.l2 slices_BinarySearchFunc_Blob_string.e1 big a0 a1 0 (a0.length:Int)
def cache_find.f (a0:Cache) (a1:ByteArray):Option (Int × Bool) :=
  (slices_BinarySearchFunc_Blob_string.f a0.Blobs a1).bind fun y1 =>
  some (y1.1,y1.2)
def cache_missing.e1 (v_out5:List ByteArray):Option (List ByteArray) :=
  some v_out5
def cache_missing.j3 (backl2:Cache→(List ByteArray)→(List ByteArray)→Int→Option (List ByteArray)) (a0:Cache) (a1:List ByteArray) (v12:Int) (v_out5:List ByteArray):Option (List ByteArray) :=
  backl2 a0 a1 v_out5 (w64 (v12+1))
def cache_missing.l2 (e1:(List ByteArray)→Option (List ByteArray)):Nat→Cache→(List ByteArray)→(List ByteArray)→Int→Option (List ByteArray)
  | 0,_,_,_,_=>none
  | k+1,a0,a1,v_out5,v12 =>
    bif decide (v12<(a1.length:Int)) then
    ((at? a1 v12).bind fun x1 =>
    (cache_find.f a0 x1).bind fun y1 =>
    bif !y1.2 then
    (guard? (room v_out5.length 1 16) (
    cache_missing.j3 ((cache_missing.l2 e1 k)) a0 a1 v12 (v_out5++([x1]:List ByteArray))))
    else
    (cache_missing.j3 ((cache_missing.l2 e1 k)) a0 a1 v12 v_out5))
    else
    (e1 v_out5)
def cache_missing.f (a0:Cache) (a1:List ByteArray):Option (List ByteArray) :=
  cache_missing.l2 cache_missing.e1 big a0 a1 ([]:List ByteArray) 0
def slices_Equal_string.e1 :Option Bool :=
  some true
def slices_Equal_string.l2 (e1:Option Bool):Nat→(List ByteArray)→(List ByteArray)→Int→Option Bool
  | 0,_,_,_=>none
  | k+1,a0,a1,v13 =>
    bif decide (v13<(a0.length:Int)) then
    ((at? a0 v13).bind fun x1 =>
    (at? a1 v13).bind fun x2 =>
    bif !sEq x1 x2 then
    (some false)
    else
    ((slices_Equal_string.l2 e1 k) a0 a1 (w64 (v13+1))))
    else
    (e1)
def slices_Equal_string.f (a0:List ByteArray) (a1:List ByteArray):Option Bool :=
  bif (a0.length:Int) != (a1.length:Int) then
  (some false)
  else
  (slices_Equal_string.l2 slices_Equal_string.e1 big a0 a1 0)
def smithyardlaw7_awake.f :Option Bool :=
  (cache_New.f 5 7).bind fun y1 =>
  (bif y1.2 == 0 then (bif y1.1.Room == 5 then (some (y1.1.Lease == 7)) else (some false)) else (some false)).bind fun t1 =>
  some t1
def slices_Clone_Entry.f (a0:List Entry):Option (List Entry):=guard? (room 0 a0.length 48) (some a0)
def cache_own.e1 (a0:Cache) (y1:List Blob) (v_c1_3:List Entry):Option Cache :=
  some (⟨a0.Room,a0.Lease,y1,v_c1_3⟩:Cache)
def cache_own.l2 (e1:Cache→(List Blob)→(List Entry)→Option Cache):Nat→Cache→(List Blob)→(List Entry)→(List Entry)→Int→Option Cache
  | 0,_,_,_,_,_=>none
  | k+1,a0,y1,y2,v_c1_3,v15 =>
    bif decide (v15<(y2.length:Int)) then
    ((at? v_c1_3 v15).bind fun x1 =>
    (slices_Clone_string.f x1.Refs).bind fun y3 =>
    (cache_own.l2 e1 k) a0 y1 y2 (v_c1_3.set v15.toNat (⟨x1.Key,y3,x1.Used⟩:Entry)) (w64 (v15+1)))
    else
    (e1 a0 y1 v_c1_3)
def cache_own.f (a0:Cache):Option Cache :=
  (slices_Clone_Blob.f a0.Blobs).bind fun y1 =>
  (slices_Clone_Entry.f a0.Entries).bind fun y2 =>
  cache_own.l2 cache_own.e1 big a0 y1 y2 y2 0
def cache_entryAt_1.f (a0:Entry) (a1:ByteArray):Option Int :=
  (strings_Compare.f a0.Key a1).bind fun y1 =>
  some y1
def slices_BinarySearchFunc_Entry_string.e1 (a0:List Entry) (a1:ByteArray) (v_i9:Int):Option (Int × Bool) :=
  (bif decide (v_i9<(a0.length:Int)) then ((at? a0 v_i9).bind fun x1 =>
  (cache_entryAt_1.f x1 a1).bind fun y1 =>
  some (y1 == 0)) else (some false)).bind fun t1 =>
  some (v_i9,t1)
def slices_BinarySearchFunc_Entry_string.l2 (e1:(List Entry)→ByteArray→Int→Option (Int × Bool)):Nat→(List Entry)→ByteArray→Int→Int→Option (Int × Bool)
  | 0,_,_,_,_=>none
  | k+1,a0,a1,v_i9,v_j10 =>
    bif decide (v_i9<v_j10) then
    ((at? a0 (w64 (iShr .u64 (IntKind.wrap .u64 (w64 (v_i9+v_j10))) 1))).bind fun x2 =>
    (cache_entryAt_1.f x2 a1).bind fun y2 =>
    bif decide (y2<0) then
    ((slices_BinarySearchFunc_Entry_string.l2 e1 k) a0 a1 (w64 ((w64 (iShr .u64 (IntKind.wrap .u64 (w64 (v_i9+v_j10))) 1))+1)) v_j10)
    else
    ((slices_BinarySearchFunc_Entry_string.l2 e1 k) a0 a1 v_i9 (w64 (iShr .u64 (IntKind.wrap .u64 (w64 (v_i9+v_j10))) 1))))
    else
    (e1 a0 a1 v_i9)
def slices_BinarySearchFunc_Entry_string.f (a0:List Entry) (a1:ByteArray):Option (Int × Bool) :=
  slices_BinarySearchFunc_Entry_string.l2 slices_BinarySearchFunc_Entry_string.e1 big a0 a1 0 (a0.length:Int)
def cache_entryAt.f (a0:Cache) (a1:ByteArray):Option (Int × Bool) :=
  (slices_BinarySearchFunc_Entry_string.f a0.Entries a1).bind fun y1 =>
  some (y1.1,y1.2)
def cache_Whole.f (a0:Cache) (a1:ByteArray):Option (Bool × Int) :=
  (cache_CheckCache.f a0).bind fun y1 =>
  bif y1 != 0 then
  (some (false,y1))
  else
  ((blob_IsDigest.f a1).bind fun y2 =>
  bif !y2 then
  (some (false,3))
  else
  ((cache_entryAt.f a0 a1).bind fun y3 =>
  (bif y3.2 then ((at? a0.Entries y3.1).bind fun x1 =>
  (cache_missing.f a0 x1.Refs).bind fun y4 =>
  some ((y4.length:Int) == 0)) else (some false)).bind fun t1 =>
  some (t1,0)))
def slices_Insert_Entry.f (a0:List Entry) (a1:Int) (a2:List Entry):Option (List Entry):=guard? (decide ((0:Int)≤a1)&&(decide (a1≤(a0.length:Int))&&(decide (0<a2.length)&&room a0.length a2.length 48))) (some (a0.take a1.toNat++a2++a0.drop a1.toNat))
def slices_Insert_Blob.f (a0:List Blob) (a1:Int) (a2:List Blob):Option (List Blob):=guard? (decide ((0:Int)≤a1)&&(decide (a1≤(a0.length:Int))&&(decide (0<a2.length)&&room a0.length a2.length 48))) (some (a0.take a1.toNat++a2++a0.drop a1.toNat))
def cache_Merged.e2 (y3:Cache) (v_a2_2:List Blob) (v_a2_3:List Entry):Option (Cache × Int) :=
  (cache_CheckCache.f (⟨y3.Room,y3.Lease,v_a2_2,v_a2_3⟩:Cache)).bind fun y5 =>
  bif y5 != 0 then
  (some ((⟨0,0,([]:List Blob),([]:List Entry)⟩:Cache),y5))
  else
  (some ((⟨y3.Room,y3.Lease,v_a2_2,v_a2_3⟩:Cache),0))
def cache_Merged.j4 (backl3:Cache→Cache→(List Blob)→(List Entry)→Int→Option (Cache × Int)) (y3:Cache) (y4:Cache) (v_a2_2:List Blob) (v103:Int) (v_a2_3:List Entry):Option (Cache × Int) :=
  backl3 y3 y4 v_a2_2 v_a2_3 (w64 (v103+1))
def cache_Merged.l3 (e2:Cache→(List Blob)→(List Entry)→Option (Cache × Int)):Nat→Cache→Cache→(List Blob)→(List Entry)→Int→Option (Cache × Int)
  | 0,_,_,_,_,_=>none
  | k+1,y3,y4,v_a2_2,v_a2_3,v103 =>
    bif decide (v103<(y4.Entries.length:Int)) then
    ((at? y4.Entries v103).bind fun x1 =>
    (cache_entryAt.f (⟨y3.Room,y3.Lease,v_a2_2,v_a2_3⟩:Cache) x1.Key).bind fun y6 =>
    bif y6.2 then
    ((at? v_a2_3 y6.1).bind fun x2 =>
    cache_Merged.j4 ((cache_Merged.l3 e2 k)) y3 y4 v_a2_2 v103 (v_a2_3.set y6.1.toNat (⟨x2.Key,x2.Refs,max2 x2.Used x1.Used⟩:Entry)))
    else
    ((slices_Insert_Entry.f v_a2_3 y6.1 ([x1]:List Entry)).bind fun y7 =>
    cache_Merged.j4 ((cache_Merged.l3 e2 k)) y3 y4 v_a2_2 v103 y7))
    else
    (e2 y3 v_a2_2 v_a2_3)
def cache_Merged.e1 (y3:Cache) (y4:Cache) (v_a2_2:List Blob):Option (Cache × Int) :=
  cache_Merged.l3 cache_Merged.e2 big y3 y4 v_a2_2 y3.Entries 0
def cache_Merged.j6 (backl5:Cache→Cache→(List Blob)→Int→Option (Cache × Int)) (y3:Cache) (y4:Cache) (v37:Int) (v_a2_2:List Blob):Option (Cache × Int) :=
  backl5 y3 y4 v_a2_2 (w64 (v37+1))
def cache_Merged.l5 (e1:Cache→Cache→(List Blob)→Option (Cache × Int)):Nat→Cache→Cache→(List Blob)→Int→Option (Cache × Int)
  | 0,_,_,_,_=>none
  | k+1,y3,y4,v_a2_2,v37 =>
    bif decide (v37<(y4.Blobs.length:Int)) then
    ((at? y4.Blobs v37).bind fun x3 =>
    (cache_find.f (⟨y3.Room,y3.Lease,v_a2_2,y3.Entries⟩:Cache) x3.Digest).bind fun y8 =>
    bif !y8.2 then
    ((slices_Insert_Blob.f v_a2_2 y8.1 ([x3]:List Blob)).bind fun y9 =>
    cache_Merged.j6 ((cache_Merged.l5 e1 k)) y3 y4 v37 y9)
    else
    ((at? v_a2_2 y8.1).bind fun x4 =>
    (at? v_a2_2 y8.1).bind fun x5 =>
    bif x5.Size != x3.Size then
    (some ((⟨0,0,([]:List Blob),([]:List Entry)⟩:Cache),12))
    else
    ((at? v_a2_2 y8.1).bind fun x6 =>
    (at? (v_a2_2.set y8.1.toNat (⟨x6.Digest,x6.Size,max2 x6.Used x3.Used,x6.Until,x6.Pins⟩:Blob)) y8.1).bind fun x7 =>
    (at? ((v_a2_2.set y8.1.toNat (⟨x6.Digest,x6.Size,max2 x6.Used x3.Used,x6.Until,x6.Pins⟩:Blob)).set y8.1.toNat (⟨x7.Digest,x7.Size,x7.Used,max2 x6.Until x3.Until,x7.Pins⟩:Blob)) y8.1).bind fun x8 =>
    cache_Merged.j6 ((cache_Merged.l5 e1 k)) y3 y4 v37 (((v_a2_2.set y8.1.toNat (⟨x6.Digest,x6.Size,max2 x6.Used x3.Used,x6.Until,x6.Pins⟩:Blob)).set y8.1.toNat (⟨x7.Digest,x7.Size,x7.Used,max2 x6.Until x3.Until,x7.Pins⟩:Blob)).set y8.1.toNat (⟨x8.Digest,x8.Size,x8.Used,x8.Until,max2 x6.Pins x3.Pins⟩:Blob)))))
    else
    (e1 y3 y4 v_a2_2)
def cache_Merged.f (a0:Cache) (a1:Cache):Option (Cache × Int) :=
  (cache_CheckCache.f a0).bind fun y1 =>
  bif y1 != 0 then
  (some ((⟨0,0,([]:List Blob),([]:List Entry)⟩:Cache),y1))
  else
  ((cache_CheckCache.f a1).bind fun y2 =>
  bif y2 != 0 then
  (some ((⟨0,0,([]:List Blob),([]:List Entry)⟩:Cache),y2))
  else
  ((cache_own.f a0).bind fun y3 =>
  (cache_own.f a1).bind fun y4 =>
  cache_Merged.l5 cache_Merged.e1 big y3 y4 y3.Blobs 0))
def smithyardlaw7_entry.e1 :Option (Entry × Bool) :=
  some ((⟨ByteArray.empty,([]:List ByteArray),0⟩:Entry),false)
def smithyardlaw7_entry.l2 (e1:Option (Entry × Bool)):Nat→Cache→ByteArray→Int→Option (Entry × Bool)
  | 0,_,_,_=>none
  | k+1,a0,a1,v_i6 =>
    bif decide (v_i6<(a0.Entries.length:Int)) then
    ((at? a0.Entries v_i6).bind fun x1 =>
    bif sEq x1.Key a1 then
    ((at? a0.Entries v_i6).bind fun x2 =>
    some (x2,true))
    else
    ((smithyardlaw7_entry.l2 e1 k) a0 a1 (w64 (v_i6+1))))
    else
    (e1)
def smithyardlaw7_entry.f (a0:Cache) (a1:ByteArray):Option (Entry × Bool) :=
  smithyardlaw7_entry.l2 smithyardlaw7_entry.e1 big a0 a1 0
def smithyardlaw7_blob.e1 :Option (Blob × Bool) :=
  some ((⟨ByteArray.empty,0,0,0,0⟩:Blob),false)
def smithyardlaw7_blob.l2 (e1:Option (Blob × Bool)):Nat→Cache→ByteArray→Int→Option (Blob × Bool)
  | 0,_,_,_=>none
  | k+1,a0,a1,v_i6 =>
    bif decide (v_i6<(a0.Blobs.length:Int)) then
    ((at? a0.Blobs v_i6).bind fun x1 =>
    bif sEq x1.Digest a1 then
    ((at? a0.Blobs v_i6).bind fun x2 =>
    some (x2,true))
    else
    ((smithyardlaw7_blob.l2 e1 k) a0 a1 (w64 (v_i6+1))))
    else
    (e1)
def smithyardlaw7_blob.f (a0:Cache) (a1:ByteArray):Option (Blob × Bool) :=
  smithyardlaw7_blob.l2 smithyardlaw7_blob.e1 big a0 a1 0
def smithyardlaw7_CacheMergedHasBoth.e6 (a0:Cache) (a2:ByteArray) (y3:Cache × Int):Option Bool :=
  (cache_Whole.f a0 a2).bind fun y5 =>
  (cache_Whole.f (⟨y3.1.Room,y3.1.Lease,y3.1.Blobs,y3.1.Entries⟩:Cache) a2).bind fun y6 =>
  (bif y5.2 != 0 then (bif y5.2 == y6.2 then ((smithyardlaw7_awake.f).bind fun y7 =>
  some y7) else (bif !y5.1 then ((smithyardlaw7_awake.f).bind fun y8 =>
  some y8) else (bif y6.1 then ((smithyardlaw7_awake.f).bind fun y9 =>
  some y9) else (some false)))) else (bif !y5.1 then ((smithyardlaw7_awake.f).bind fun y10 =>
  some y10) else (bif y6.1 then ((smithyardlaw7_awake.f).bind fun y11 =>
  some y11) else (some false)))).bind fun t3 =>
  some t3
def smithyardlaw7_CacheMergedHasBoth.l7 (e6:Cache→ByteArray→(Cache × Int)→Option Bool):Nat→Cache→Cache→ByteArray→(Cache × Int)→Int→Option Bool
  | 0,_,_,_,_,_=>none
  | k+1,a0,a1,a2,y3,v_i30 =>
    bif decide (v_i30<(y3.1.Entries.length:Int)) then
    ((at? y3.1.Entries v_i30).bind fun x1 =>
    (smithyardlaw7_entry.f a0 x1.Key).bind fun y12 =>
    (at? y3.1.Entries v_i30).bind fun x2 =>
    (smithyardlaw7_entry.f a1 x2.Key).bind fun y13 =>
    (bif !y12.2 then (some (!y13.2)) else (some false)).bind fun t4 =>
    bif t4 then
    (some false)
    else
    ((smithyardlaw7_CacheMergedHasBoth.l7 e6 k) a0 a1 a2 y3 (w64 (v_i30+1))))
    else
    (e6 a0 a2 y3)
def smithyardlaw7_CacheMergedHasBoth.e5 (a0:Cache) (a1:Cache) (a2:ByteArray) (y3:Cache × Int):Option Bool :=
  smithyardlaw7_CacheMergedHasBoth.l7 smithyardlaw7_CacheMergedHasBoth.e6 big a0 a1 a2 y3 0
def smithyardlaw7_CacheMergedHasBoth.l8 (e5:Cache→Cache→ByteArray→(Cache × Int)→Option Bool):Nat→Cache→Cache→ByteArray→(Cache × Int)→Int→Option Bool
  | 0,_,_,_,_,_=>none
  | k+1,a0,a1,a2,y3,v_i25 =>
    bif decide (v_i25<(y3.1.Blobs.length:Int)) then
    ((at? y3.1.Blobs v_i25).bind fun x3 =>
    (smithyardlaw7_blob.f a0 x3.Digest).bind fun y14 =>
    (at? y3.1.Blobs v_i25).bind fun x4 =>
    (smithyardlaw7_blob.f a1 x4.Digest).bind fun y15 =>
    (bif !y14.2 then (some (!y15.2)) else (some false)).bind fun t5 =>
    bif t5 then
    (some false)
    else
    ((smithyardlaw7_CacheMergedHasBoth.l8 e5 k) a0 a1 a2 y3 (w64 (v_i25+1))))
    else
    (e5 a0 a1 a2 y3)
def smithyardlaw7_CacheMergedHasBoth.e4 (a0:Cache) (a1:Cache) (a2:ByteArray) (y3:Cache × Int):Option Bool :=
  smithyardlaw7_CacheMergedHasBoth.l8 smithyardlaw7_CacheMergedHasBoth.e5 big a0 a1 a2 y3 0
def smithyardlaw7_CacheMergedHasBoth.l9 (e4:Cache→Cache→ByteArray→(Cache × Int)→Option Bool):Nat→Cache→Cache→ByteArray→(Cache × Int)→Int→Option Bool
  | 0,_,_,_,_,_=>none
  | k+1,a0,a1,a2,y3,v_i20 =>
    bif decide (v_i20<(a1.Entries.length:Int)) then
    ((at? a1.Entries v_i20).bind fun x5 =>
    (smithyardlaw7_entry.f a0 x5.Key).bind fun y16 =>
    (at? a1.Entries v_i20).bind fun x6 =>
    (smithyardlaw7_entry.f (⟨y3.1.Room,y3.1.Lease,y3.1.Blobs,y3.1.Entries⟩:Cache) x6.Key).bind fun y17 =>
    (bif !y17.2 then (some true) else (bif !y16.2 then ((at? a1.Entries v_i20).bind fun x7 =>
    (slices_Equal_string.f y17.1.Refs x7.Refs).bind fun y18 =>
    some (!y18)) else (some false))).bind fun t6 =>
    bif t6 then
    (some false)
    else
    ((smithyardlaw7_CacheMergedHasBoth.l9 e4 k) a0 a1 a2 y3 (w64 (v_i20+1))))
    else
    (e4 a0 a1 a2 y3)
def smithyardlaw7_CacheMergedHasBoth.e3 (a0:Cache) (a1:Cache) (a2:ByteArray) (y3:Cache × Int):Option Bool :=
  smithyardlaw7_CacheMergedHasBoth.l9 smithyardlaw7_CacheMergedHasBoth.e4 big a0 a1 a2 y3 0
def smithyardlaw7_CacheMergedHasBoth.l10 (e3:Cache→Cache→ByteArray→(Cache × Int)→Option Bool):Nat→Cache→Cache→ByteArray→(Cache × Int)→Int→Option Bool
  | 0,_,_,_,_,_=>none
  | k+1,a0,a1,a2,y3,v_i17 =>
    bif decide (v_i17<(a0.Entries.length:Int)) then
    ((at? a0.Entries v_i17).bind fun x8 =>
    (smithyardlaw7_entry.f (⟨y3.1.Room,y3.1.Lease,y3.1.Blobs,y3.1.Entries⟩:Cache) x8.Key).bind fun y19 =>
    (bif !y19.2 then (some true) else ((at? a0.Entries v_i17).bind fun x9 =>
    (slices_Equal_string.f y19.1.Refs x9.Refs).bind fun y20 =>
    some (!y20))).bind fun t7 =>
    bif t7 then
    (some false)
    else
    ((smithyardlaw7_CacheMergedHasBoth.l10 e3 k) a0 a1 a2 y3 (w64 (v_i17+1))))
    else
    (e3 a0 a1 a2 y3)
def smithyardlaw7_CacheMergedHasBoth.e2 (a0:Cache) (a1:Cache) (a2:ByteArray) (y3:Cache × Int):Option Bool :=
  smithyardlaw7_CacheMergedHasBoth.l10 smithyardlaw7_CacheMergedHasBoth.e3 big a0 a1 a2 y3 0
def smithyardlaw7_CacheMergedHasBoth.l11 (e2:Cache→Cache→ByteArray→(Cache × Int)→Option Bool):Nat→Cache→Cache→ByteArray→(Cache × Int)→Int→Option Bool
  | 0,_,_,_,_,_=>none
  | k+1,a0,a1,a2,y3,v_i14 =>
    bif decide (v_i14<(a1.Blobs.length:Int)) then
    ((at? a1.Blobs v_i14).bind fun x10 =>
    (smithyardlaw7_blob.f (⟨y3.1.Room,y3.1.Lease,y3.1.Blobs,y3.1.Entries⟩:Cache) x10.Digest).bind fun y21 =>
    bif !y21.2 then
    (some false)
    else
    ((smithyardlaw7_CacheMergedHasBoth.l11 e2 k) a0 a1 a2 y3 (w64 (v_i14+1))))
    else
    (e2 a0 a1 a2 y3)
def smithyardlaw7_CacheMergedHasBoth.e1 (a0:Cache) (a1:Cache) (a2:ByteArray) (y3:Cache × Int):Option Bool :=
  smithyardlaw7_CacheMergedHasBoth.l11 smithyardlaw7_CacheMergedHasBoth.e2 big a0 a1 a2 y3 0
def smithyardlaw7_CacheMergedHasBoth.l12 (e1:Cache→Cache→ByteArray→(Cache × Int)→Option Bool):Nat→Cache→Cache→ByteArray→(Cache × Int)→Int→Option Bool
  | 0,_,_,_,_,_=>none
  | k+1,a0,a1,a2,y3,v_i11 =>
    bif decide (v_i11<(a0.Blobs.length:Int)) then
    ((at? a0.Blobs v_i11).bind fun x11 =>
    (smithyardlaw7_blob.f (⟨y3.1.Room,y3.1.Lease,y3.1.Blobs,y3.1.Entries⟩:Cache) x11.Digest).bind fun y22 =>
    bif !y22.2 then
    (some false)
    else
    ((smithyardlaw7_CacheMergedHasBoth.l12 e1 k) a0 a1 a2 y3 (w64 (v_i11+1))))
    else
    (e1 a0 a1 a2 y3)
def smithyardlaw7_CacheMergedHasBoth.f (a0:Cache) (a1:Cache) (a2:ByteArray):Option Bool :=
  (cache_Merged.f a0 a0).bind fun y1 =>
  (bif y1.2 == 0 then ((smithyardref7_Same.f (⟨y1.1.Room,y1.1.Lease,y1.1.Blobs,y1.1.Entries⟩:Cache) a0).bind fun y2 =>
  some (!y2)) else (some false)).bind fun t1 =>
  bif t1 then
  (some false)
  else
  ((cache_Merged.f a0 a1).bind fun y3 =>
  bif y3.2 != 0 then
  ((bif (y3.1.Blobs.length:Int) == 0 then ((smithyardlaw7_awake.f).bind fun y4 =>
  some y4) else (some false)).bind fun t2 =>
  some t2)
  else
  (smithyardlaw7_CacheMergedHasBoth.l12 smithyardlaw7_CacheMergedHasBoth.e1 big a0 a1 a2 y3 0))
end Go.Proofs.YtkjilepjblffeaaDoor
