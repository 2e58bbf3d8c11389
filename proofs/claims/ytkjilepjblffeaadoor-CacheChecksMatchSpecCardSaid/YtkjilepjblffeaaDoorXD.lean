/- Plain functions, each written by program out of one Go function's operations. -/
import Derived.Test.YtkjilepjblffeaaDoorKitP
import Derived.Lib.Bytealg
import Derived.Lib.SlTrimSet
set_option linter.unusedVariables false
namespace Go.Proofs.YtkjilepjblffeaaDoor
open Go Go.Proofs.YtkjilepjblffeaaDoor.Kit
structure Blob where
  Digest : ByteArray
  Size : Int
  Used : Int
  Until : Int
  Pins : Int
  deriving Inhabited, DecidableEq
structure Entry where
  Key : ByteArray
  Refs : List ByteArray
  Used : Int
  deriving Inhabited, DecidableEq
structure Cache where
  Room : Int
  Lease : Int
  Blobs : List Blob
  Entries : List Entry
  deriving Inhabited, DecidableEq
def slices_Clone_Blob.f (a0 : List Blob) : Option (List Blob) := guard? (room 0 a0.length 48) (some a0)
def slices_Clone_string.f (a0 : List ByteArray) : Option (List ByteArray) := guard? (room 0 a0.length 16) (some a0)
def smithyardref7_Copy.e1 (a0 : Cache) (y1 : List Blob) (v_entries3 : List Entry) : Option Cache :=
  some (⟨a0.Room, a0.Lease, y1, v_entries3⟩ : Cache)
def smithyardref7_Copy.l2 (e1 : Cache → (List Blob) → (List Entry) → Option Cache) : Nat → Cache → (List Blob) → (List Entry) → Int → Option Cache
  | 0, _, _, _, _ => none
  | k + 1, a0, y1, v_entries3, v_i4 =>
    bif decide (v_i4 < (a0.Entries.length : Int)) then
    ((at? a0.Entries v_i4).bind fun x1 =>
    (slices_Clone_string.f x1.Refs).bind fun y2 =>
    guard? (room v_entries3.length 1 48) (
    (smithyardref7_Copy.l2 e1 k) a0 y1 (v_entries3 ++ ([(⟨x1.Key, y2, x1.Used⟩ : Entry)] : List Entry)) (w64 (v_i4 + 1))))
    else
    (e1 a0 y1 v_entries3)
def smithyardref7_Copy.f (a0 : Cache) : Option Cache :=
  (slices_Clone_Blob.f a0.Blobs).bind fun y1 =>
  smithyardref7_Copy.l2 smithyardref7_Copy.e1 big a0 y1 ([] : List Entry) 0
def cache_within.f (a0 : Int) (a1 : Int) (a2 : Int) : Option Bool :=
  (bif decide (a1 ≤ a0) then (some (decide (a0 ≤ a2))) else (some false)).bind fun t1 =>
  some t1
def strings_Trim.f (a0 : ByteArray) (a1 : ByteArray) : Option ByteArray := guard? (decide (a0.size ≤ 9223372036854775807) && (decide (a1.size < 4294967281) && a1.data.toList.all (fun b => decide (b.toNat < 128)))) (some (⟨(Lib.trimS a0.data.toList a1.data.toList).toArray⟩))
def blob_IsDigest.f (a0 : ByteArray) : Option Bool :=
  (bif (a0.size : Int) == 16 then ((strings_Trim.f a0 ({ data := #[48, 49, 50, 51, 52, 53, 54, 55, 56, 57, 97, 98, 99, 100, 101, 102] } : ByteArray)).bind fun y1 =>
  some (sEq y1 ({ data := #[] } : ByteArray))) else (some false)).bind fun t1 =>
  some t1
def cache_isMoment.f (a0 : Int) : Option Bool :=
  (cache_within.f a0 0 1000000000).bind fun y1 =>
  some y1
def cache_checkBlobs.e1 (a1 : Int) (v_sum5 : Int) : Option Int :=
  bif decide (a1 < v_sum5) then
  (some 16)
  else
  (some 0)
def cache_checkBlobs.l2 (e1 : Int → Int → Option Int) : Nat → (List Blob) → Int → Int → Int → Option Int
  | 0, _, _, _, _ => none
  | k + 1, a0, a1, v_sum5, v13 =>
    bif decide (v13 < (a0.length : Int)) then
    ((at? a0 v13).bind fun x1 =>
    (blob_IsDigest.f x1.Digest).bind fun y1 =>
    bif !y1 then
    (some 3)
    else
    (((cache_within.f x1.Size 0 100000000).bind fun y2 =>
    bif !y2 then (some true) else ((cache_isMoment.f x1.Used).bind fun y3 =>
    bif !y3 then (some true) else ((cache_within.f x1.Until 0 1001000000).bind fun y4 =>
    bif !y4 then (some true) else ((cache_within.f x1.Pins 0 3000).bind fun y5 =>
    some (!y5))))).bind fun t1 =>
    bif t1 then
    (some 1)
    else
    ((bif decide (0 < v13) then ((at? a0 (w64 (v13 - 1))).bind fun x2 =>
    some (sLt x1.Digest x2.Digest || sEq x1.Digest x2.Digest)) else (some false)).bind fun t2 =>
    bif t2 then
    (some 8)
    else
    ((cache_checkBlobs.l2 e1 k) a0 a1 (w64 (v_sum5 + x1.Size)) (w64 (v13 + 1))))))
    else
    (e1 a1 v_sum5)
def cache_checkBlobs.f (a0 : List Blob) (a1 : Int) : Option Int :=
  bif decide (3000 < (a0.length : Int)) then
  (some 2)
  else
  (cache_checkBlobs.l2 cache_checkBlobs.e1 big a0 a1 0 0)
def cache_checkDigests.e1  : Option Int :=
  some 0
def cache_checkDigests.l2 (e1 : Option Int) : Nat → (List ByteArray) → Int → Option Int
  | 0, _, _ => none
  | k + 1, a0, v13 =>
    bif decide (v13 < (a0.length : Int)) then
    ((at? a0 v13).bind fun x1 =>
    (blob_IsDigest.f x1).bind fun y1 =>
    bif !y1 then
    (some 3)
    else
    ((bif decide (0 < v13) then ((at? a0 (w64 (v13 - 1))).bind fun x2 =>
    some (sLt x1 x2 || sEq x1 x2)) else (some false)).bind fun t1 =>
    bif t1 then
    (some 8)
    else
    ((cache_checkDigests.l2 e1 k) a0 (w64 (v13 + 1)))))
    else
    (e1)
def cache_checkDigests.f (a0 : List ByteArray) (a1 : Int) : Option Int :=
  bif decide (a1 < (a0.length : Int)) then
  (some 2)
  else
  (cache_checkDigests.l2 cache_checkDigests.e1 big a0 0)
def cache_CheckCache.e1  : Option Int :=
  some 0
def cache_CheckCache.l2 (e1 : Option Int) : Nat → Cache → Int → Option Int
  | 0, _, _ => none
  | k + 1, a0, v32 =>
    bif decide (v32 < (a0.Entries.length : Int)) then
    ((at? a0.Entries v32).bind fun x1 =>
    (blob_IsDigest.f x1.Key).bind fun y4 =>
    bif !y4 then
    (some 3)
    else
    ((cache_checkDigests.f x1.Refs 200).bind fun y5 =>
    bif y5 != 0 then
    (some y5)
    else
    ((cache_isMoment.f x1.Used).bind fun y6 =>
    bif !y6 then
    (some 1)
    else
    ((bif decide (0 < v32) then ((at? a0.Entries (w64 (v32 - 1))).bind fun x2 =>
    some (sLt x1.Key x2.Key || sEq x1.Key x2.Key)) else (some false)).bind fun t2 =>
    bif t2 then
    (some 8)
    else
    ((cache_CheckCache.l2 e1 k) a0 (w64 (v32 + 1)))))))
    else
    (e1)
def cache_CheckCache.f (a0 : Cache) : Option Int :=
  ((cache_within.f a0.Room 0 1000000000).bind fun y1 =>
  bif !y1 then (some true) else ((cache_within.f a0.Lease 0 1000000).bind fun y2 =>
  some (!y2))).bind fun t1 =>
  bif t1 then
  (some 1)
  else
  ((cache_checkBlobs.f a0.Blobs a0.Room).bind fun y3 =>
  bif y3 != 0 then
  (some y3)
  else
  (bif decide (1000 < (a0.Entries.length : Int)) then
  (some 2)
  else
  (cache_CheckCache.l2 cache_CheckCache.e1 big a0 0)))
def cache_New.f (a0 : Int) (a1 : Int) : Option (Cache × Int) :=
  (cache_CheckCache.f (⟨a0, a1, ([] : List Blob), ([] : List Entry)⟩ : Cache)).bind fun y1 =>
  bif y1 != 0 then
  (some ((⟨0, 0, ([] : List Blob), ([] : List Entry)⟩ : Cache), y1))
  else
  (some ((⟨a0, a1, ([] : List Blob), ([] : List Entry)⟩ : Cache), 0))
def smithyardref7_within.f (a0 : Int) (a1 : Int) (a2 : Int) : Option Bool :=
  (bif decide (a1 ≤ a0) then (some (decide (a0 ≤ a2))) else (some false)).bind fun t1 =>
  some t1
def smithyardref7_bytesOf.e1 (v_n3 : Int) : Option Int :=
  some v_n3
def smithyardref7_bytesOf.l2 (e1 : Int → Option Int) : Nat → (List Blob) → Int → Int → Option Int
  | 0, _, _, _ => none
  | k + 1, a0, v_n3, v_i4 =>
    bif decide (v_i4 < (a0.length : Int)) then
    ((at? a0 v_i4).bind fun x1 =>
    (smithyardref7_bytesOf.l2 e1 k) a0 (w64 (v_n3 + x1.Size)) (w64 (v_i4 + 1)))
    else
    (e1 v_n3)
def smithyardref7_bytesOf.f (a0 : List Blob) : Option Int :=
  smithyardref7_bytesOf.l2 smithyardref7_bytesOf.e1 big a0 0 0
def smithyardref1_IsDigest.e1 (a0 : ByteArray) : Option Bool :=
  some ((a0.size : Int) == 16)
def smithyardref1_IsDigest.l2 (e1 : ByteArray → Option Bool) : Nat → ByteArray → Int → Option Bool
  | 0, _, _ => none
  | k + 1, a0, v_i3 =>
    bif decide (v_i3 < (a0.size : Int)) then
    ((guard? (decide ((0 : Int) ≤ v_i3) && decide (v_i3 < (a0.size : Int))) (
    bif decide (48 ≤ (bt a0 v_i3)) then (guard? (decide ((0 : Int) ≤ v_i3) && decide (v_i3 < (a0.size : Int))) (
    bif decide ((bt a0 v_i3) ≤ 57) then (some false) else (guard? (decide ((0 : Int) ≤ v_i3) && decide (v_i3 < (a0.size : Int))) (
    bif decide (97 ≤ (bt a0 v_i3)) then (guard? (decide ((0 : Int) ≤ v_i3) && decide (v_i3 < (a0.size : Int))) (
    some (!(decide ((bt a0 v_i3) ≤ 102))))) else (some true))))) else (guard? (decide ((0 : Int) ≤ v_i3) && decide (v_i3 < (a0.size : Int))) (
    bif decide (97 ≤ (bt a0 v_i3)) then (guard? (decide ((0 : Int) ≤ v_i3) && decide (v_i3 < (a0.size : Int))) (
    some (!(decide ((bt a0 v_i3) ≤ 102))))) else (some true))))).bind fun t1 =>
    bif t1 then
    (some false)
    else
    ((smithyardref1_IsDigest.l2 e1 k) a0 (w64 (v_i3 + 1))))
    else
    (e1 a0)
def smithyardref1_IsDigest.f (a0 : ByteArray) : Option Bool :=
  smithyardref1_IsDigest.l2 smithyardref1_IsDigest.e1 big a0 0
def smithyardref7_rising.e1  : Option Int :=
  some 0
def smithyardref7_rising.l2 (e1 : Option Int) : Nat → (List ByteArray) → Int → Option Int
  | 0, _, _ => none
  | k + 1, a0, v_i3 =>
    bif decide (v_i3 < (a0.length : Int)) then
    ((at? a0 v_i3).bind fun x1 =>
    (smithyardref1_IsDigest.f x1).bind fun y1 =>
    bif !y1 then
    (some 3)
    else
    ((bif decide (0 < v_i3) then ((at? a0 v_i3).bind fun x2 =>
    (at? a0 (w64 (v_i3 - 1))).bind fun x3 =>
    some (sLt x2 x3 || sEq x2 x3)) else (some false)).bind fun t1 =>
    bif t1 then
    (some 8)
    else
    ((smithyardref7_rising.l2 e1 k) a0 (w64 (v_i3 + 1)))))
    else
    (e1)
def smithyardref7_rising.f (a0 : List ByteArray) : Option Int :=
  smithyardref7_rising.l2 smithyardref7_rising.e1 big a0 0
def smithyardref7_CheckCache.e2  : Option Int :=
  some 0
def smithyardref7_CheckCache.l3 (e2 : Option Int) : Nat → Cache → Int → Option Int
  | 0, _, _ => none
  | k + 1, a0, v_i5 =>
    bif decide (v_i5 < (a0.Entries.length : Int)) then
    ((at? a0.Entries v_i5).bind fun x1 =>
    (smithyardref1_IsDigest.f x1.Key).bind fun y4 =>
    bif !y4 then
    (some 3)
    else
    (bif decide (200 < (x1.Refs.length : Int)) then
    (some 2)
    else
    ((smithyardref7_rising.f x1.Refs).bind fun y5 =>
    bif y5 != 0 then
    (some y5)
    else
    ((smithyardref7_within.f x1.Used 0 1000000000).bind fun y6 =>
    bif !y6 then
    (some 1)
    else
    ((bif decide (0 < v_i5) then ((at? a0.Entries (w64 (v_i5 - 1))).bind fun x2 =>
    some (sLt x1.Key x2.Key || sEq x1.Key x2.Key)) else (some false)).bind fun t2 =>
    bif t2 then
    (some 8)
    else
    ((smithyardref7_CheckCache.l3 e2 k) a0 (w64 (v_i5 + 1))))))))
    else
    (e2)
def smithyardref7_CheckCache.e1 (a0 : Cache) : Option Int :=
  (smithyardref7_bytesOf.f a0.Blobs).bind fun y3 =>
  bif decide (a0.Room < y3) then
  (some 16)
  else
  (bif decide (1000 < (a0.Entries.length : Int)) then
  (some 2)
  else
  (smithyardref7_CheckCache.l3 smithyardref7_CheckCache.e2 big a0 0))
def smithyardref7_CheckCache.l4 (e1 : Cache → Option Int) : Nat → Cache → Int → Option Int
  | 0, _, _ => none
  | k + 1, a0, v_i3 =>
    bif decide (v_i3 < (a0.Blobs.length : Int)) then
    ((at? a0.Blobs v_i3).bind fun x3 =>
    (smithyardref1_IsDigest.f x3.Digest).bind fun y7 =>
    bif !y7 then
    (some 3)
    else
    (((smithyardref7_within.f x3.Size 0 100000000).bind fun y8 =>
    bif !y8 then (some true) else ((smithyardref7_within.f x3.Used 0 1000000000).bind fun y9 =>
    bif !y9 then (some true) else ((smithyardref7_within.f x3.Until 0 1001000000).bind fun y10 =>
    bif !y10 then (some true) else ((smithyardref7_within.f x3.Pins 0 3000).bind fun y11 =>
    some (!y11))))).bind fun t3 =>
    bif t3 then
    (some 1)
    else
    ((bif decide (0 < v_i3) then ((at? a0.Blobs (w64 (v_i3 - 1))).bind fun x4 =>
    some (sLt x3.Digest x4.Digest || sEq x3.Digest x4.Digest)) else (some false)).bind fun t4 =>
    bif t4 then
    (some 8)
    else
    ((smithyardref7_CheckCache.l4 e1 k) a0 (w64 (v_i3 + 1))))))
    else
    (e1 a0)
def smithyardref7_CheckCache.f (a0 : Cache) : Option Int :=
  ((smithyardref7_within.f a0.Room 0 1000000000).bind fun y1 =>
  bif !y1 then (some true) else ((smithyardref7_within.f a0.Lease 0 1000000).bind fun y2 =>
  some (!y2))).bind fun t1 =>
  bif t1 then
  (some 1)
  else
  (bif decide (3000 < (a0.Blobs.length : Int)) then
  (some 2)
  else
  (smithyardref7_CheckCache.l4 smithyardref7_CheckCache.e1 big a0 0))
def smithyardref7_New.f (a0 : Int) (a1 : Int) : Option (Cache × Int) :=
  (smithyardref7_CheckCache.f (⟨a0, a1, ([] : List Blob), ([] : List Entry)⟩ : Cache)).bind fun y1 =>
  bif y1 != 0 then
  (some ((⟨0, 0, ([] : List Blob), ([] : List Entry)⟩ : Cache), y1))
  else
  (some ((⟨a0, a1, ([] : List Blob), ([] : List Entry)⟩ : Cache), 0))
def smithyardref7_sameList.e1  : Option Bool :=
  some true
def smithyardref7_sameList.l2 (e1 : Option Bool) : Nat → (List ByteArray) → (List ByteArray) → Int → Option Bool
  | 0, _, _, _ => none
  | k + 1, a0, a1, v_i5 =>
    bif decide (v_i5 < (a0.length : Int)) then
    ((at? a0 v_i5).bind fun x1 =>
    (at? a1 v_i5).bind fun x2 =>
    bif !sEq x1 x2 then
    (some false)
    else
    ((smithyardref7_sameList.l2 e1 k) a0 a1 (w64 (v_i5 + 1))))
    else
    (e1)
def smithyardref7_sameList.f (a0 : List ByteArray) (a1 : List ByteArray) : Option Bool :=
  bif (a0.length : Int) != (a1.length : Int) then
  (some false)
  else
  (smithyardref7_sameList.l2 smithyardref7_sameList.e1 big a0 a1 0)
def smithyardref7_Same.e2  : Option Bool :=
  some true
def smithyardref7_Same.l3 (e2 : Option Bool) : Nat → Cache → Cache → Int → Option Bool
  | 0, _, _, _ => none
  | k + 1, a0, a1, v_i6 =>
    bif decide (v_i6 < (a0.Entries.length : Int)) then
    (((at? a0.Entries v_i6).bind fun x1 =>
    (at? a1.Entries v_i6).bind fun x2 =>
    bif !sEq x1.Key x2.Key then (some true) else (bif x1.Used != x2.Used then (some true) else ((smithyardref7_sameList.f x1.Refs x2.Refs).bind fun y1 =>
    some (!y1)))).bind fun t2 =>
    bif t2 then
    (some false)
    else
    ((smithyardref7_Same.l3 e2 k) a0 a1 (w64 (v_i6 + 1))))
    else
    (e2)
def smithyardref7_Same.e1 (a0 : Cache) (a1 : Cache) : Option Bool :=
  smithyardref7_Same.l3 smithyardref7_Same.e2 big a0 a1 0
def smithyardref7_Same.l4 (e1 : Cache → Cache → Option Bool) : Nat → Cache → Cache → Int → Option Bool
  | 0, _, _, _ => none
  | k + 1, a0, a1, v_i5 =>
    bif decide (v_i5 < (a0.Blobs.length : Int)) then
    ((at? a0.Blobs v_i5).bind fun x3 =>
    (at? a1.Blobs v_i5).bind fun x4 =>
    bif !(sEq x3.Digest x4.Digest && (x3.Size == x4.Size && (x3.Used == x4.Used && (x3.Until == x4.Until && (x3.Pins == x4.Pins && true))))) then
    (some false)
    else
    ((smithyardref7_Same.l4 e1 k) a0 a1 (w64 (v_i5 + 1))))
    else
    (e1 a0 a1)
def smithyardref7_Same.f (a0 : Cache) (a1 : Cache) : Option Bool :=
  (bif a0.Room != a1.Room then (some true) else (bif a0.Lease != a1.Lease then (some true) else (bif (a0.Blobs.length : Int) != (a1.Blobs.length : Int) then (some true) else (some ((a0.Entries.length : Int) != (a1.Entries.length : Int)))))).bind fun t1 =>
  bif t1 then
  (some false)
  else
  (smithyardref7_Same.l4 smithyardref7_Same.e1 big a0 a1 0)
def cache_used.e1 (v_sum3 : Int) : Option Int :=
  some v_sum3
def cache_used.l2 (e1 : Int → Option Int) : Nat → Cache → Int → Int → Option Int
  | 0, _, _, _ => none
  | k + 1, a0, v_sum3, v9 =>
    bif decide (v9 < (a0.Blobs.length : Int)) then
    ((at? a0.Blobs v9).bind fun x1 =>
    (cache_used.l2 e1 k) a0 (w64 (v_sum3 + x1.Size)) (w64 (v9 + 1)))
    else
    (e1 v_sum3)
def cache_used.f (a0 : Cache) : Option Int :=
  cache_used.l2 cache_used.e1 big a0 0 0
def cache_Used.f (a0 : Cache) : Option (Int × Int) :=
  (cache_CheckCache.f a0).bind fun y1 =>
  bif y1 != 0 then
  (some (0, y1))
  else
  ((cache_used.f a0).bind fun y2 =>
  some (y2, 0))
def smithyardref7_Used.f (a0 : Cache) : Option (Int × Int) :=
  (smithyardref7_CheckCache.f a0).bind fun y1 =>
  bif y1 != 0 then
  (some (0, y1))
  else
  ((smithyardref7_bytesOf.f a0.Blobs).bind fun y2 =>
  some (y2, 0))
def strings_Compare.f (a0 : ByteArray) (a1 : ByteArray) : Option Int := some (Lib.compareBytes a0.data.toList a1.data.toList)
def cache_find_1.f (a0 : Blob) (a1 : ByteArray) : Option Int :=
  (strings_Compare.f a0.Digest a1).bind fun y1 =>
  some y1
def slices_BinarySearchFunc_Blob_string.e1 (a0 : List Blob) (a1 : ByteArray) (v_i9 : Int) : Option (Int × Bool) :=
  (bif decide (v_i9 < (a0.length : Int)) then ((at? a0 v_i9).bind fun x1 =>
  (cache_find_1.f x1 a1).bind fun y1 =>
  some (y1 == 0)) else (some false)).bind fun t1 =>
  some (v_i9, t1)
def slices_BinarySearchFunc_Blob_string.l2 (e1 : (List Blob) → ByteArray → Int → Option (Int × Bool)) : Nat → (List Blob) → ByteArray → Int → Int → Option (Int × Bool)
  | 0, _, _, _, _ => none
  | k + 1, a0, a1, v_i9, v_j10 =>
    bif decide (v_i9 < v_j10) then
    ((at? a0 (w64 (iShr .u64 (IntKind.wrap .u64 (w64 (v_i9 + v_j10))) 1))).bind fun x2 =>
    (cache_find_1.f x2 a1).bind fun y2 =>
    bif decide (y2 < 0) then
    ((slices_BinarySearchFunc_Blob_string.l2 e1 k) a0 a1 (w64 ((w64 (iShr .u64 (IntKind.wrap .u64 (w64 (v_i9 + v_j10))) 1)) + 1)) v_j10)
    else
    ((slices_BinarySearchFunc_Blob_string.l2 e1 k) a0 a1 v_i9 (w64 (iShr .u64 (IntKind.wrap .u64 (w64 (v_i9 + v_j10))) 1))))
    else
    (e1 a0 a1 v_i9)
def slices_BinarySearchFunc_Blob_string.f (a0 : List Blob) (a1 : ByteArray) : Option (Int × Bool) :=
  slices_BinarySearchFunc_Blob_string.l2 slices_BinarySearchFunc_Blob_string.e1 big a0 a1 0 (a0.length : Int)
def cache_find.f (a0 : Cache) (a1 : ByteArray) : Option (Int × Bool) :=
  (slices_BinarySearchFunc_Blob_string.f a0.Blobs a1).bind fun y1 =>
  some (y1.1, y1.2)
def cache_missing.e1 (v_out5 : List ByteArray) : Option (List ByteArray) :=
  some v_out5
def cache_missing.j3 (backl2 : Cache → (List ByteArray) → (List ByteArray) → Int → Option (List ByteArray)) (a0 : Cache) (a1 : List ByteArray) (v12 : Int) (v_out5 : List ByteArray) : Option (List ByteArray) :=
  backl2 a0 a1 v_out5 (w64 (v12 + 1))
def cache_missing.l2 (e1 : (List ByteArray) → Option (List ByteArray)) : Nat → Cache → (List ByteArray) → (List ByteArray) → Int → Option (List ByteArray)
  | 0, _, _, _, _ => none
  | k + 1, a0, a1, v_out5, v12 =>
    bif decide (v12 < (a1.length : Int)) then
    ((at? a1 v12).bind fun x1 =>
    (cache_find.f a0 x1).bind fun y1 =>
    bif !y1.2 then
    (guard? (room v_out5.length 1 16) (
    cache_missing.j3 ((cache_missing.l2 e1 k)) a0 a1 v12 (v_out5 ++ ([x1] : List ByteArray))))
    else
    (cache_missing.j3 ((cache_missing.l2 e1 k)) a0 a1 v12 v_out5))
    else
    (e1 v_out5)
def cache_missing.f (a0 : Cache) (a1 : List ByteArray) : Option (List ByteArray) :=
  cache_missing.l2 cache_missing.e1 big a0 a1 ([] : List ByteArray) 0
def cache_Broken.e1 (v_out5 : List ByteArray) : Option ((List ByteArray) × Int) :=
  some (v_out5, 0)
def cache_Broken.j3 (backl2 : Cache → (List ByteArray) → Int → Option ((List ByteArray) × Int)) (a0 : Cache) (v16 : Int) (v_out5 : List ByteArray) : Option ((List ByteArray) × Int) :=
  backl2 a0 v_out5 (w64 (v16 + 1))
def cache_Broken.l2 (e1 : (List ByteArray) → Option ((List ByteArray) × Int)) : Nat → Cache → (List ByteArray) → Int → Option ((List ByteArray) × Int)
  | 0, _, _, _ => none
  | k + 1, a0, v_out5, v16 =>
    bif decide (v16 < (a0.Entries.length : Int)) then
    ((at? a0.Entries v16).bind fun x1 =>
    (cache_missing.f a0 x1.Refs).bind fun y2 =>
    bif decide (0 < (y2.length : Int)) then
    (guard? (room v_out5.length 1 16) (
    cache_Broken.j3 ((cache_Broken.l2 e1 k)) a0 v16 (v_out5 ++ ([x1.Key] : List ByteArray))))
    else
    (cache_Broken.j3 ((cache_Broken.l2 e1 k)) a0 v16 v_out5))
    else
    (e1 v_out5)
def cache_Broken.f (a0 : Cache) : Option ((List ByteArray) × Int) :=
  (cache_CheckCache.f a0).bind fun y1 =>
  bif y1 != 0 then
  (some (([] : List ByteArray), y1))
  else
  (cache_Broken.l2 cache_Broken.e1 big a0 ([] : List ByteArray) 0)
def smithyardref7_blob.e1  : Option Int :=
  some (-1)
def smithyardref7_blob.l2 (e1 : Option Int) : Nat → Cache → ByteArray → Int → Option Int
  | 0, _, _, _ => none
  | k + 1, a0, a1, v_i5 =>
    bif decide (v_i5 < (a0.Blobs.length : Int)) then
    ((at? a0.Blobs v_i5).bind fun x1 =>
    bif sEq x1.Digest a1 then
    (some v_i5)
    else
    ((smithyardref7_blob.l2 e1 k) a0 a1 (w64 (v_i5 + 1))))
    else
    (e1)
def smithyardref7_blob.f (a0 : Cache) (a1 : ByteArray) : Option Int :=
  smithyardref7_blob.l2 smithyardref7_blob.e1 big a0 a1 0
def smithyardref7_missing.e1 (v_out5 : List ByteArray) : Option (List ByteArray) :=
  some v_out5
def smithyardref7_missing.j3 (backl2 : Cache → (List ByteArray) → (List ByteArray) → Int → Option (List ByteArray)) (a0 : Cache) (a1 : List ByteArray) (v_i6 : Int) (v_out5 : List ByteArray) : Option (List ByteArray) :=
  backl2 a0 a1 v_out5 (w64 (v_i6 + 1))
def smithyardref7_missing.l2 (e1 : (List ByteArray) → Option (List ByteArray)) : Nat → Cache → (List ByteArray) → (List ByteArray) → Int → Option (List ByteArray)
  | 0, _, _, _, _ => none
  | k + 1, a0, a1, v_out5, v_i6 =>
    bif decide (v_i6 < (a1.length : Int)) then
    ((at? a1 v_i6).bind fun x1 =>
    (smithyardref7_blob.f a0 x1).bind fun y1 =>
    bif decide (y1 < 0) then
    ((at? a1 v_i6).bind fun x2 =>
    guard? (room v_out5.length 1 16) (
    smithyardref7_missing.j3 ((smithyardref7_missing.l2 e1 k)) a0 a1 v_i6 (v_out5 ++ ([x2] : List ByteArray))))
    else
    (smithyardref7_missing.j3 ((smithyardref7_missing.l2 e1 k)) a0 a1 v_i6 v_out5))
    else
    (e1 v_out5)
def smithyardref7_missing.f (a0 : Cache) (a1 : List ByteArray) : Option (List ByteArray) :=
  smithyardref7_missing.l2 smithyardref7_missing.e1 big a0 a1 ([] : List ByteArray) 0
def smithyardref7_Broken.e1 (v_out5 : List ByteArray) : Option ((List ByteArray) × Int) :=
  some (v_out5, 0)
def smithyardref7_Broken.j3 (backl2 : Cache → (List ByteArray) → Int → Option ((List ByteArray) × Int)) (a0 : Cache) (v_i6 : Int) (v_out5 : List ByteArray) : Option ((List ByteArray) × Int) :=
  backl2 a0 v_out5 (w64 (v_i6 + 1))
def smithyardref7_Broken.l2 (e1 : (List ByteArray) → Option ((List ByteArray) × Int)) : Nat → Cache → (List ByteArray) → Int → Option ((List ByteArray) × Int)
  | 0, _, _, _ => none
  | k + 1, a0, v_out5, v_i6 =>
    bif decide (v_i6 < (a0.Entries.length : Int)) then
    ((at? a0.Entries v_i6).bind fun x1 =>
    (smithyardref7_missing.f a0 x1.Refs).bind fun y2 =>
    bif decide (0 < (y2.length : Int)) then
    ((at? a0.Entries v_i6).bind fun x2 =>
    guard? (room v_out5.length 1 16) (
    smithyardref7_Broken.j3 ((smithyardref7_Broken.l2 e1 k)) a0 v_i6 (v_out5 ++ ([x2.Key] : List ByteArray))))
    else
    (smithyardref7_Broken.j3 ((smithyardref7_Broken.l2 e1 k)) a0 v_i6 v_out5))
    else
    (e1 v_out5)
def smithyardref7_Broken.f (a0 : Cache) : Option ((List ByteArray) × Int) :=
  (smithyardref7_CheckCache.f a0).bind fun y1 =>
  bif y1 != 0 then
  (some (([] : List ByteArray), y1))
  else
  (smithyardref7_Broken.l2 smithyardref7_Broken.e1 big a0 ([] : List ByteArray) 0)
def slices_Equal_string.e1  : Option Bool :=
  some true
def slices_Equal_string.l2 (e1 : Option Bool) : Nat → (List ByteArray) → (List ByteArray) → Int → Option Bool
  | 0, _, _, _ => none
  | k + 1, a0, a1, v13 =>
    bif decide (v13 < (a0.length : Int)) then
    ((at? a0 v13).bind fun x1 =>
    (at? a1 v13).bind fun x2 =>
    bif !sEq x1 x2 then
    (some false)
    else
    ((slices_Equal_string.l2 e1 k) a0 a1 (w64 (v13 + 1))))
    else
    (e1)
def slices_Equal_string.f (a0 : List ByteArray) (a1 : List ByteArray) : Option Bool :=
  bif (a0.length : Int) != (a1.length : Int) then
  (some false)
  else
  (slices_Equal_string.l2 slices_Equal_string.e1 big a0 a1 0)
def smithyardlaw7_awake.f  : Option Bool :=
  (cache_New.f 5 7).bind fun y1 =>
  (bif y1.2 == 0 then (bif y1.1.Room == 5 then (some (y1.1.Lease == 7)) else (some false)) else (some false)).bind fun t1 =>
  some t1
def smithyardlaw7_CacheChecksMatchSpec.f (a0 : Cache) : Option Bool :=
  (smithyardref7_Copy.f a0).bind fun y1 =>
  (cache_New.f a0.Room a0.Lease).bind fun y2 =>
  (smithyardref7_New.f y1.Room y1.Lease).bind fun y3 =>
  ((smithyardref7_Same.f (⟨y2.1.Room, y2.1.Lease, y2.1.Blobs, y2.1.Entries⟩ : Cache) (⟨y3.1.Room, y3.1.Lease, y3.1.Blobs, y3.1.Entries⟩ : Cache)).bind fun y4 =>
  bif !y4 then (some true) else (bif y2.2 != y3.2 then (some true) else ((cache_CheckCache.f a0).bind fun y5 =>
  (smithyardref7_CheckCache.f (⟨y1.Room, y1.Lease, y1.Blobs, y1.Entries⟩ : Cache)).bind fun y6 =>
  some (y5 != y6)))).bind fun t1 =>
  bif t1 then
  (some false)
  else
  ((cache_Used.f a0).bind fun y7 =>
  (smithyardref7_Used.f (⟨y1.Room, y1.Lease, y1.Blobs, y1.Entries⟩ : Cache)).bind fun y8 =>
  (cache_Broken.f a0).bind fun y9 =>
  (smithyardref7_Broken.f (⟨y1.Room, y1.Lease, y1.Blobs, y1.Entries⟩ : Cache)).bind fun y10 =>
  (bif y7.1 == y8.1 then (bif y7.2 == y8.2 then ((slices_Equal_string.f y9.1 y10.1).bind fun y11 =>
  bif y11 then (bif y9.2 == y10.2 then ((smithyardref7_Same.f a0 (⟨y1.Room, y1.Lease, y1.Blobs, y1.Entries⟩ : Cache)).bind fun y12 =>
  bif y12 then ((smithyardlaw7_awake.f).bind fun y13 =>
  some y13) else (some false)) else (some false)) else (some false)) else (some false)) else (some false)).bind fun t2 =>
  some t2)
end Go.Proofs.YtkjilepjblffeaaDoor
