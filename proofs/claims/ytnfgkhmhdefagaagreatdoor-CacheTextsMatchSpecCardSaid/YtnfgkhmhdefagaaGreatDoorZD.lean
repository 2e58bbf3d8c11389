/- Plain functions, each written by program out of one Go function's operations. -/
import Derived.Test.YtnfgkhmhdefagaaGreatDoorKitP
import Derived.Lib.SlTrimSet
import Derived.Lib.SplitLaws
import Derived.Lib.ItoaNum
import Derived.Lib.Atoi
import Derived.Lib.Bytealg
set_option linter.unusedVariables false
namespace Go.Proofs.YtnfgkhmhdefagaaGreatDoor
open Go Go.Proofs.YtnfgkhmhdefagaaGreatDoor.Kit
structure Blob where
  Digest:ByteArray
  Size:Int
  Used:Int
  Until:Int
  Pins:Int
  deriving Inhabited,DecidableEq
structure Entry where
  Key:ByteArray
  Refs:List ByteArray
  Used:Int
  deriving Inhabited,DecidableEq
structure Cache where
  Room:Int
  Lease:Int
  Blobs:List Blob
  Entries:List Entry
  deriving Inhabited,DecidableEq
def slices_Clone_Blob.f (a0:List Blob):Option (List Blob):=guard? (room 0 a0.length 48) (some a0)
def slices_Clone_string.f (a0:List ByteArray):Option (List ByteArray):=guard? (room 0 a0.length 16) (some a0)
def smithyardref7_Copy.e1 (a0:Cache) (y1:List Blob) (v_entries3:List Entry):Option Cache :=
  some (⟨a0.Room,a0.Lease,y1,v_entries3⟩:Cache)
def smithyardref7_Copy.l2 (e1:Cache→(List Blob)→(List Entry)→Option Cache):Nat→Cache→(List Blob)→(List Entry)→Int→Option Cache
  | 0,_,_,_,_=>none
  | k+1,a0,y1,v_entries3,v_i4 =>
    bif decide (v_i4<(a0.Entries.length:Int)) then
    ((at? a0.Entries v_i4).bind fun x1 =>
    (slices_Clone_string.f x1.Refs).bind fun y2 =>
    guard? (room v_entries3.length 1 48) (
    (smithyardref7_Copy.l2 e1 k) a0 y1 (v_entries3++([(⟨x1.Key,y2,x1.Used⟩:Entry)]:List Entry)) (w64 (v_i4+1))))
    else
    (e1 a0 y1 v_entries3)
def smithyardref7_Copy.f (a0:Cache):Option Cache :=
  (slices_Clone_Blob.f a0.Blobs).bind fun y1 =>
  smithyardref7_Copy.l2 smithyardref7_Copy.e1 big a0 y1 ([]:List Entry) 0
def cache_within.f (a0:Int) (a1:Int) (a2:Int):Option Bool :=
  (bif decide (a1≤a0) then (some (decide (a0≤a2))) else (some false)).bind fun t1 =>
  some t1
def strings_Trim.f (a0:ByteArray) (a1:ByteArray):Option ByteArray:=guard? (decide (a0.size≤9223372036854775807)&&(decide (a1.size<4294967281)&&a1.data.toList.all (fun b=>decide (b.toNat<128)))) (some (⟨(Lib.trimS a0.data.toList a1.data.toList).toArray⟩))
def blob_IsDigest.f (a0:ByteArray):Option Bool :=
  (bif (a0.size:Int) == 16 then ((strings_Trim.f a0 ({ data:=#[48,49,50,51,52,53,54,55,56,57,97,98,99,100,101,102] }:ByteArray)).bind fun y1 =>
  some (sEq y1 ({ data:=#[] }:ByteArray))) else (some false)).bind fun t1 =>
  some t1
def cache_isMoment.f (a0:Int):Option Bool :=
  (cache_within.f a0 0 1000000000).bind fun y1 =>
  some y1
def cache_checkBlobs.e1 (a1:Int) (v_sum5:Int):Option Int :=
  bif decide (a1<v_sum5) then
  (some 16)
  else
  (some 0)
def cache_checkBlobs.l2 (e1:Int→Int→Option Int):Nat→(List Blob)→Int→Int→Int→Option Int
  | 0,_,_,_,_=>none
  | k+1,a0,a1,v_sum5,v13 =>
    bif decide (v13<(a0.length:Int)) then
    ((at? a0 v13).bind fun x1 =>
    (blob_IsDigest.f x1.Digest).bind fun y1 =>
    bif !y1 then
    (some 3)
    else
    (((cache_within.f x1.Size 0 100000000).bind fun y2 =>
    bif !y2 then (some true) else ((cache_isMoment.f x1.Used).bind fun y3 =>
    bif !y3 then (some true) else ((cache_within.f x1.Until 0 1001000000).bind fun y4 =>
    bif !y4 then (some true) else ((cache_within.f x1.Pins 0 3000).bind fun y5 =>
    some (!y5))))).bind fun t1 =>
    bif t1 then
    (some 1)
    else
    ((bif decide (0<v13) then ((at? a0 (w64 (v13 - 1))).bind fun x2 =>
    some (sLt x1.Digest x2.Digest||sEq x1.Digest x2.Digest)) else (some false)).bind fun t2 =>
    bif t2 then
    (some 8)
    else
    ((cache_checkBlobs.l2 e1 k) a0 a1 (w64 (v_sum5+x1.Size)) (w64 (v13+1))))))
    else
    (e1 a1 v_sum5)
def cache_checkBlobs.f (a0:List Blob) (a1:Int):Option Int :=
  bif decide (3000<(a0.length:Int)) then
  (some 2)
  else
  (cache_checkBlobs.l2 cache_checkBlobs.e1 big a0 a1 0 0)
def cache_checkDigests.e1 :Option Int :=
  some 0
def cache_checkDigests.l2 (e1:Option Int):Nat→(List ByteArray)→Int→Option Int
  | 0,_,_=>none
  | k+1,a0,v13 =>
    bif decide (v13<(a0.length:Int)) then
    ((at? a0 v13).bind fun x1 =>
    (blob_IsDigest.f x1).bind fun y1 =>
    bif !y1 then
    (some 3)
    else
    ((bif decide (0<v13) then ((at? a0 (w64 (v13 - 1))).bind fun x2 =>
    some (sLt x1 x2||sEq x1 x2)) else (some false)).bind fun t1 =>
    bif t1 then
    (some 8)
    else
    ((cache_checkDigests.l2 e1 k) a0 (w64 (v13+1)))))
    else
    (e1)
def cache_checkDigests.f (a0:List ByteArray) (a1:Int):Option Int :=
  bif decide (a1<(a0.length:Int)) then
  (some 2)
  else
  (cache_checkDigests.l2 cache_checkDigests.e1 big a0 0)
def cache_CheckCache.e1 :Option Int :=
  some 0
def cache_CheckCache.l2 (e1:Option Int):Nat→Cache→Int→Option Int
  | 0,_,_=>none
  | k+1,a0,v32 =>
    bif decide (v32<(a0.Entries.length:Int)) then
    ((at? a0.Entries v32).bind fun x1 =>
    (blob_IsDigest.f x1.Key).bind fun y4 =>
    bif !y4 then
    (some 3)
    else
    ((cache_checkDigests.f x1.Refs 200).bind fun y5 =>
    bif y5 != 0 then
    (some y5)
    else
    ((cache_isMoment.f x1.Used).bind fun y6 =>
    bif !y6 then
    (some 1)
    else
    ((bif decide (0<v32) then ((at? a0.Entries (w64 (v32 - 1))).bind fun x2 =>
    some (sLt x1.Key x2.Key||sEq x1.Key x2.Key)) else (some false)).bind fun t2 =>
    bif t2 then
    (some 8)
    else
    ((cache_CheckCache.l2 e1 k) a0 (w64 (v32+1)))))))
    else
    (e1)
def cache_CheckCache.f (a0:Cache):Option Int :=
  ((cache_within.f a0.Room 0 1000000000).bind fun y1 =>
  bif !y1 then (some true) else ((cache_within.f a0.Lease 0 1000000).bind fun y2 =>
  some (!y2))).bind fun t1 =>
  bif t1 then
  (some 1)
  else
  ((cache_checkBlobs.f a0.Blobs a0.Room).bind fun y3 =>
  bif y3 != 0 then
  (some y3)
  else
  (bif decide (1000<(a0.Entries.length:Int)) then
  (some 2)
  else
  (cache_CheckCache.l2 cache_CheckCache.e1 big a0 0)))
def strconv_Itoa.f (a0:Int):Option ByteArray:=guard? (decide (-9223372036854775808≤a0)&&decide (a0≤9223372036854775807)) (some (⟨(Lib.itoa a0).toArray⟩:ByteArray))
def strings_Join.e3 (v_b8:ByteArray):Option ByteArray :=
  some v_b8
def strings_Join.l4 (e3:ByteArray→Option ByteArray):Nat→(List ByteArray)→ByteArray→ByteArray→Int→Option ByteArray
  | 0,_,_,_,_=>none
  | k+1,a0,a1,v_b8,v65 =>
    bif decide (v65<((a0.length - 1:Nat):Int)) then
    ((at? (a0.drop 1) v65).bind fun x3 =>
    guard? (decide (v_b8.size+a1.size≤140737488355328)) (
    guard? (decide ((v_b8++a1).size+x3.size≤140737488355328)) (
    (strings_Join.l4 e3 k) a0 a1 ((v_b8++a1)++x3) (w64 (v65+1)))))
    else
    (e3 v_b8)
def strings_Join.e2 (a0:List ByteArray) (a1:ByteArray) (v_n5:Int):Option ByteArray :=
  guard? (decide ((0:Int)≤v_n5)&&decide (v_n5≤281474976710656)) (
  (at? a0 0).bind fun x2 =>
  guard? (decide ((⟨#[]⟩:ByteArray).size+x2.size≤140737488355328)) (
  guard? (decide ((0:Int)≤1)&&decide (1≤((a0.length:Nat):Int))) (
  strings_Join.l4 strings_Join.e3 big a0 a1 ((⟨#[]⟩:ByteArray)++x2) 0)))
def strings_Join.j6 (backl5:(List ByteArray)→ByteArray→Int→Int→Option ByteArray) (a0:List ByteArray) (a1:ByteArray) (v_n5:Int) (v41:Int) (x4:ByteArray):Option ByteArray :=
  backl5 a0 a1 (w64 (v_n5+(x4.size:Int))) (w64 (v41+1))
def strings_Join.l5 (e2:(List ByteArray)→ByteArray→Int→Option ByteArray):Nat→(List ByteArray)→ByteArray→Int→Int→Option ByteArray
  | 0,_,_,_,_=>none
  | k+1,a0,a1,v_n5,v41 =>
    bif decide (v41<(a0.length:Int)) then
    ((at? a0 v41).bind fun x4 =>
    bif decide ((w64 (9223372036854775807 - v_n5))<(x4.size:Int)) then
    (none)
    else
    (strings_Join.j6 ((strings_Join.l5 e2 k)) a0 a1 v_n5 v41 x4))
    else
    (e2 a0 a1 v_n5)
def strings_Join.j1 (a0:List ByteArray) (a1:ByteArray) (v_n5:Int):Option ByteArray :=
  strings_Join.l5 strings_Join.e2 big a0 a1 v_n5 0
def strings_Join.j7 (j1:(List ByteArray)→ByteArray→Int→Option ByteArray) (a0:List ByteArray) (a1:ByteArray):Option ByteArray :=
  j1 a0 a1 (w64 (0+(w64 ((a1.size:Int)*(w64 ((a0.length:Int) - 1))))))
def strings_Join.f (a0:List ByteArray) (a1:ByteArray):Option ByteArray :=
  bif (a0.length:Int) == 0 then
  (some ({ data:=#[] }:ByteArray))
  else
  (bif (a0.length:Int) == 1 then
  ((at? a0 0).bind fun x1 =>
  some x1)
  else
  (bif decide (0<(a1.size:Int)) then
  (guard? ((w64 ((a0.length:Int) - 1)) != 0) (
  bif decide ((w64 ((9223372036854775807:Int).tdiv (w64 ((a0.length:Int) - 1))))≤(a1.size:Int)) then
  (none)
  else
  (strings_Join.j7 strings_Join.j1 a0 a1)))
  else
  (strings_Join.j1 a0 a1 0)))
def cache_Text_1.f (a0:List ByteArray) (a1:ByteArray):Option ByteArray :=
  (strings_Join.f a0 ({ data:=#[32] }:ByteArray)).bind fun y1 =>
  guard? (decide (y1.size+({ data:=#[10] }:ByteArray).size≤9223372036854775807)) (
  guard? (decide (a1.size+(y1++({ data:=#[10] }:ByteArray)).size≤140737488355328)) (
  some (a1++(y1++({ data:=#[10] }:ByteArray)))))
def cache_Text.e2 (v_b5:ByteArray):Option (ByteArray × Int) :=
  bif decide (2000000<(v_b5.size:Int)) then
  (some (({ data:=#[] }:ByteArray),2))
  else
  (some (v_b5,0))
def cache_Text.l3 (e2:ByteArray→Option (ByteArray × Int)):Nat→Cache→ByteArray→Int→Option (ByteArray × Int)
  | 0,_,_,_=>none
  | k+1,a0,v_b5,v61 =>
    bif decide (v61<(a0.Entries.length:Int)) then
    ((at? a0.Entries v61).bind fun x1 =>
    (strconv_Itoa.f x1.Used).bind fun y5 =>
    guard? (room 3 x1.Refs.length 16) (
    (cache_Text_1.f (([({ data:=#[101,110,116,114,121] }:ByteArray),x1.Key,y5]:List ByteArray)++x1.Refs) v_b5).bind fun y6 =>
    (cache_Text.l3 e2 k) a0 y6 (w64 (v61+1))))
    else
    (e2 v_b5)
def cache_Text.e1 (a0:Cache) (v_b5:ByteArray):Option (ByteArray × Int) :=
  cache_Text.l3 cache_Text.e2 big a0 v_b5 0
def cache_Text.l4 (e1:Cache→ByteArray→Option (ByteArray × Int)):Nat→Cache→ByteArray→Int→Option (ByteArray × Int)
  | 0,_,_,_=>none
  | k+1,a0,v_b5,v32 =>
    bif decide (v32<(a0.Blobs.length:Int)) then
    ((at? a0.Blobs v32).bind fun x2 =>
    (strconv_Itoa.f x2.Size).bind fun y7 =>
    (strconv_Itoa.f x2.Used).bind fun y8 =>
    (strconv_Itoa.f x2.Until).bind fun y9 =>
    (strconv_Itoa.f x2.Pins).bind fun y10 =>
    (cache_Text_1.f ([({ data:=#[98,108,111,98] }:ByteArray),x2.Digest,y7,y8,y9,y10]:List ByteArray) v_b5).bind fun y11 =>
    (cache_Text.l4 e1 k) a0 y11 (w64 (v32+1)))
    else
    (e1 a0 v_b5)
def cache_Text.f (a0:Cache):Option (ByteArray × Int) :=
  (cache_CheckCache.f a0).bind fun y1 =>
  bif y1 != 0 then
  (some (({ data:=#[] }:ByteArray),y1))
  else
  ((strconv_Itoa.f a0.Room).bind fun y2 =>
  (strconv_Itoa.f a0.Lease).bind fun y3 =>
  (cache_Text_1.f ([({ data:=#[99,97,99,104,101] }:ByteArray),y2,y3]:List ByteArray) (⟨#[]⟩:ByteArray)).bind fun y4 =>
  cache_Text.l4 cache_Text.e1 big a0 y4 0)
def smithyardref7_within.f (a0:Int) (a1:Int) (a2:Int):Option Bool :=
  (bif decide (a1≤a0) then (some (decide (a0≤a2))) else (some false)).bind fun t1 =>
  some t1
def smithyardref7_bytesOf.e1 (v_n3:Int):Option Int :=
  some v_n3
def smithyardref7_bytesOf.l2 (e1:Int→Option Int):Nat→(List Blob)→Int→Int→Option Int
  | 0,_,_,_=>none
  | k+1,a0,v_n3,v_i4 =>
    bif decide (v_i4<(a0.length:Int)) then
    ((at? a0 v_i4).bind fun x1 =>
    (smithyardref7_bytesOf.l2 e1 k) a0 (w64 (v_n3+x1.Size)) (w64 (v_i4+1)))
    else
    (e1 v_n3)
def smithyardref7_bytesOf.f (a0:List Blob):Option Int :=
  smithyardref7_bytesOf.l2 smithyardref7_bytesOf.e1 big a0 0 0
def smithyardref1_IsDigest.e1 (a0:ByteArray):Option Bool :=
  some ((a0.size:Int) == 16)
def smithyardref1_IsDigest.l2 (e1:ByteArray→Option Bool):Nat→ByteArray→Int→Option Bool
  | 0,_,_=>none
  | k+1,a0,v_i3 =>
    bif decide (v_i3<(a0.size:Int)) then
    ((guard? (decide ((0:Int)≤v_i3)&&decide (v_i3<(a0.size:Int))) (
    bif decide (48≤(bt a0 v_i3)) then (guard? (decide ((0:Int)≤v_i3)&&decide (v_i3<(a0.size:Int))) (
    bif decide ((bt a0 v_i3)≤57) then (some false) else (guard? (decide ((0:Int)≤v_i3)&&decide (v_i3<(a0.size:Int))) (
    bif decide (97≤(bt a0 v_i3)) then (guard? (decide ((0:Int)≤v_i3)&&decide (v_i3<(a0.size:Int))) (
    some (!(decide ((bt a0 v_i3)≤102))))) else (some true))))) else (guard? (decide ((0:Int)≤v_i3)&&decide (v_i3<(a0.size:Int))) (
    bif decide (97≤(bt a0 v_i3)) then (guard? (decide ((0:Int)≤v_i3)&&decide (v_i3<(a0.size:Int))) (
    some (!(decide ((bt a0 v_i3)≤102))))) else (some true))))).bind fun t1 =>
    bif t1 then
    (some false)
    else
    ((smithyardref1_IsDigest.l2 e1 k) a0 (w64 (v_i3+1))))
    else
    (e1 a0)
def smithyardref1_IsDigest.f (a0:ByteArray):Option Bool :=
  smithyardref1_IsDigest.l2 smithyardref1_IsDigest.e1 big a0 0
def smithyardref7_rising.e1 :Option Int :=
  some 0
def smithyardref7_rising.l2 (e1:Option Int):Nat→(List ByteArray)→Int→Option Int
  | 0,_,_=>none
  | k+1,a0,v_i3 =>
    bif decide (v_i3<(a0.length:Int)) then
    ((at? a0 v_i3).bind fun x1 =>
    (smithyardref1_IsDigest.f x1).bind fun y1 =>
    bif !y1 then
    (some 3)
    else
    ((bif decide (0<v_i3) then ((at? a0 v_i3).bind fun x2 =>
    (at? a0 (w64 (v_i3 - 1))).bind fun x3 =>
    some (sLt x2 x3||sEq x2 x3)) else (some false)).bind fun t1 =>
    bif t1 then
    (some 8)
    else
    ((smithyardref7_rising.l2 e1 k) a0 (w64 (v_i3+1)))))
    else
    (e1)
def smithyardref7_rising.f (a0:List ByteArray):Option Int :=
  smithyardref7_rising.l2 smithyardref7_rising.e1 big a0 0
def smithyardref7_CheckCache.e2 :Option Int :=
  some 0
def smithyardref7_CheckCache.l3 (e2:Option Int):Nat→Cache→Int→Option Int
  | 0,_,_=>none
  | k+1,a0,v_i5 =>
    bif decide (v_i5<(a0.Entries.length:Int)) then
    ((at? a0.Entries v_i5).bind fun x1 =>
    (smithyardref1_IsDigest.f x1.Key).bind fun y4 =>
    bif !y4 then
    (some 3)
    else
    (bif decide (200<(x1.Refs.length:Int)) then
    (some 2)
    else
    ((smithyardref7_rising.f x1.Refs).bind fun y5 =>
    bif y5 != 0 then
    (some y5)
    else
    ((smithyardref7_within.f x1.Used 0 1000000000).bind fun y6 =>
    bif !y6 then
    (some 1)
    else
    ((bif decide (0<v_i5) then ((at? a0.Entries (w64 (v_i5 - 1))).bind fun x2 =>
    some (sLt x1.Key x2.Key||sEq x1.Key x2.Key)) else (some false)).bind fun t2 =>
    bif t2 then
    (some 8)
    else
    ((smithyardref7_CheckCache.l3 e2 k) a0 (w64 (v_i5+1))))))))
    else
    (e2)
def smithyardref7_CheckCache.e1 (a0:Cache):Option Int :=
  (smithyardref7_bytesOf.f a0.Blobs).bind fun y3 =>
  bif decide (a0.Room<y3) then
  (some 16)
  else
  (bif decide (1000<(a0.Entries.length:Int)) then
  (some 2)
  else
  (smithyardref7_CheckCache.l3 smithyardref7_CheckCache.e2 big a0 0))
def smithyardref7_CheckCache.l4 (e1:Cache→Option Int):Nat→Cache→Int→Option Int
  | 0,_,_=>none
  | k+1,a0,v_i3 =>
    bif decide (v_i3<(a0.Blobs.length:Int)) then
    ((at? a0.Blobs v_i3).bind fun x3 =>
    (smithyardref1_IsDigest.f x3.Digest).bind fun y7 =>
    bif !y7 then
    (some 3)
    else
    (((smithyardref7_within.f x3.Size 0 100000000).bind fun y8 =>
    bif !y8 then (some true) else ((smithyardref7_within.f x3.Used 0 1000000000).bind fun y9 =>
    bif !y9 then (some true) else ((smithyardref7_within.f x3.Until 0 1001000000).bind fun y10 =>
    bif !y10 then (some true) else ((smithyardref7_within.f x3.Pins 0 3000).bind fun y11 =>
    some (!y11))))).bind fun t3 =>
    bif t3 then
    (some 1)
    else
    ((bif decide (0<v_i3) then ((at? a0.Blobs (w64 (v_i3 - 1))).bind fun x4 =>
    some (sLt x3.Digest x4.Digest||sEq x3.Digest x4.Digest)) else (some false)).bind fun t4 =>
    bif t4 then
    (some 8)
    else
    ((smithyardref7_CheckCache.l4 e1 k) a0 (w64 (v_i3+1))))))
    else
    (e1 a0)
def smithyardref7_CheckCache.f (a0:Cache):Option Int :=
  ((smithyardref7_within.f a0.Room 0 1000000000).bind fun y1 =>
  bif !y1 then (some true) else ((smithyardref7_within.f a0.Lease 0 1000000).bind fun y2 =>
  some (!y2))).bind fun t1 =>
  bif t1 then
  (some 1)
  else
  (bif decide (3000<(a0.Blobs.length:Int)) then
  (some 2)
  else
  (smithyardref7_CheckCache.l4 smithyardref7_CheckCache.e1 big a0 0))
def smithyardref7_Text.e2 (v_s5:ByteArray):Option (ByteArray × Int) :=
  bif decide (2000000<(v_s5.size:Int)) then
  (some (({ data:=#[] }:ByteArray),2))
  else
  (some (v_s5,0))
def smithyardref7_Text.e4 (backl3:Cache→ByteArray→Int→Option (ByteArray × Int)) (a0:Cache) (v_i8:Int) (v_s5:ByteArray):Option (ByteArray × Int) :=
  guard? (decide (v_s5.size+({ data:=#[10] }:ByteArray).size≤9223372036854775807)) (
  backl3 a0 (v_s5++({ data:=#[10] }:ByteArray)) (w64 (v_i8+1)))
def smithyardref7_Text.l5 (e4:Cache→Int→ByteArray→Option (ByteArray × Int)):Nat→Cache→Int→Entry→ByteArray→Int→Option (ByteArray × Int)
  | 0,_,_,_,_,_=>none
  | k+1,a0,v_i8,x1,v_s5,v_k10 =>
    bif decide (v_k10<(x1.Refs.length:Int)) then
    ((at? x1.Refs v_k10).bind fun x2 =>
    guard? (decide (({ data:=#[32] }:ByteArray).size+x2.size≤9223372036854775807)) (
    guard? (decide (v_s5.size+(({ data:=#[32] }:ByteArray)++x2).size≤9223372036854775807)) (
    (smithyardref7_Text.l5 e4 k) a0 v_i8 x1 (v_s5++(({ data:=#[32] }:ByteArray)++x2)) (w64 (v_k10+1)))))
    else
    (e4 a0 v_i8 v_s5)
def smithyardref7_Text.l3 (e2:ByteArray→Option (ByteArray × Int)):Nat→Cache→ByteArray→Int→Option (ByteArray × Int)
  | 0,_,_,_=>none
  | k+1,a0,v_s5,v_i8 =>
    bif decide (v_i8<(a0.Entries.length:Int)) then
    ((at? a0.Entries v_i8).bind fun x1 =>
    guard? (decide (({ data:=#[101,110,116,114,121,32] }:ByteArray).size+x1.Key.size≤9223372036854775807)) (
    guard? (decide ((({ data:=#[101,110,116,114,121,32] }:ByteArray)++x1.Key).size+({ data:=#[32] }:ByteArray).size≤9223372036854775807)) (
    (strconv_Itoa.f x1.Used).bind fun y4 =>
    guard? (decide (((({ data:=#[101,110,116,114,121,32] }:ByteArray)++x1.Key)++({ data:=#[32] }:ByteArray)).size+y4.size≤9223372036854775807)) (
    guard? (decide (v_s5.size+(((({ data:=#[101,110,116,114,121,32] }:ByteArray)++x1.Key)++({ data:=#[32] }:ByteArray))++y4).size≤9223372036854775807)) (
    smithyardref7_Text.l5 (smithyardref7_Text.e4 ((smithyardref7_Text.l3 e2 k))) big a0 v_i8 x1 (v_s5++(((({ data:=#[101,110,116,114,121,32] }:ByteArray)++x1.Key)++({ data:=#[32] }:ByteArray))++y4)) 0)))))
    else
    (e2 v_s5)
def smithyardref7_Text.e1 (a0:Cache) (v_s5:ByteArray):Option (ByteArray × Int) :=
  smithyardref7_Text.l3 smithyardref7_Text.e2 big a0 v_s5 0
def smithyardref7_Text.l6 (e1:Cache→ByteArray→Option (ByteArray × Int)):Nat→Cache→ByteArray→Int→Option (ByteArray × Int)
  | 0,_,_,_=>none
  | k+1,a0,v_s5,v_i6 =>
    bif decide (v_i6<(a0.Blobs.length:Int)) then
    ((at? a0.Blobs v_i6).bind fun x3 =>
    guard? (decide (({ data:=#[98,108,111,98,32] }:ByteArray).size+x3.Digest.size≤9223372036854775807)) (
    guard? (decide ((({ data:=#[98,108,111,98,32] }:ByteArray)++x3.Digest).size+({ data:=#[32] }:ByteArray).size≤9223372036854775807)) (
    (strconv_Itoa.f x3.Size).bind fun y5 =>
    guard? (decide (((({ data:=#[98,108,111,98,32] }:ByteArray)++x3.Digest)++({ data:=#[32] }:ByteArray)).size+y5.size≤9223372036854775807)) (
    guard? (decide ((((({ data:=#[98,108,111,98,32] }:ByteArray)++x3.Digest)++({ data:=#[32] }:ByteArray))++y5).size+({ data:=#[32] }:ByteArray).size≤9223372036854775807)) (
    (strconv_Itoa.f x3.Used).bind fun y6 =>
    guard? (decide (((((({ data:=#[98,108,111,98,32] }:ByteArray)++x3.Digest)++({ data:=#[32] }:ByteArray))++y5)++({ data:=#[32] }:ByteArray)).size+y6.size≤9223372036854775807)) (
    guard? (decide ((((((({ data:=#[98,108,111,98,32] }:ByteArray)++x3.Digest)++({ data:=#[32] }:ByteArray))++y5)++({ data:=#[32] }:ByteArray))++y6).size+({ data:=#[32] }:ByteArray).size≤9223372036854775807)) (
    (strconv_Itoa.f x3.Until).bind fun y7 =>
    guard? (decide (((((((({ data:=#[98,108,111,98,32] }:ByteArray)++x3.Digest)++({ data:=#[32] }:ByteArray))++y5)++({ data:=#[32] }:ByteArray))++y6)++({ data:=#[32] }:ByteArray)).size+y7.size≤9223372036854775807)) (
    guard? (decide ((((((((({ data:=#[98,108,111,98,32] }:ByteArray)++x3.Digest)++({ data:=#[32] }:ByteArray))++y5)++({ data:=#[32] }:ByteArray))++y6)++({ data:=#[32] }:ByteArray))++y7).size+({ data:=#[32] }:ByteArray).size≤9223372036854775807)) (
    (strconv_Itoa.f x3.Pins).bind fun y8 =>
    guard? (decide (((((((((({ data:=#[98,108,111,98,32] }:ByteArray)++x3.Digest)++({ data:=#[32] }:ByteArray))++y5)++({ data:=#[32] }:ByteArray))++y6)++({ data:=#[32] }:ByteArray))++y7)++({ data:=#[32] }:ByteArray)).size+y8.size≤9223372036854775807)) (
    guard? (decide ((((((((((({ data:=#[98,108,111,98,32] }:ByteArray)++x3.Digest)++({ data:=#[32] }:ByteArray))++y5)++({ data:=#[32] }:ByteArray))++y6)++({ data:=#[32] }:ByteArray))++y7)++({ data:=#[32] }:ByteArray))++y8).size+({ data:=#[10] }:ByteArray).size≤9223372036854775807)) (
    guard? (decide (v_s5.size+((((((((((({ data:=#[98,108,111,98,32] }:ByteArray)++x3.Digest)++({ data:=#[32] }:ByteArray))++y5)++({ data:=#[32] }:ByteArray))++y6)++({ data:=#[32] }:ByteArray))++y7)++({ data:=#[32] }:ByteArray))++y8)++({ data:=#[10] }:ByteArray)).size≤9223372036854775807)) (
    (smithyardref7_Text.l6 e1 k) a0 (v_s5++((((((((((({ data:=#[98,108,111,98,32] }:ByteArray)++x3.Digest)++({ data:=#[32] }:ByteArray))++y5)++({ data:=#[32] }:ByteArray))++y6)++({ data:=#[32] }:ByteArray))++y7)++({ data:=#[32] }:ByteArray))++y8)++({ data:=#[10] }:ByteArray))) (w64 (v_i6+1))))))))))))))
    else
    (e1 a0 v_s5)
def smithyardref7_Text.f (a0:Cache):Option (ByteArray × Int) :=
  (smithyardref7_CheckCache.f a0).bind fun y1 =>
  bif y1 != 0 then
  (some (({ data:=#[] }:ByteArray),y1))
  else
  ((strconv_Itoa.f a0.Room).bind fun y2 =>
  guard? (decide (({ data:=#[99,97,99,104,101,32] }:ByteArray).size+y2.size≤9223372036854775807)) (
  guard? (decide ((({ data:=#[99,97,99,104,101,32] }:ByteArray)++y2).size+({ data:=#[32] }:ByteArray).size≤9223372036854775807)) (
  (strconv_Itoa.f a0.Lease).bind fun y3 =>
  guard? (decide (((({ data:=#[99,97,99,104,101,32] }:ByteArray)++y2)++({ data:=#[32] }:ByteArray)).size+y3.size≤9223372036854775807)) (
  guard? (decide ((((({ data:=#[99,97,99,104,101,32] }:ByteArray)++y2)++({ data:=#[32] }:ByteArray))++y3).size+({ data:=#[10] }:ByteArray).size≤9223372036854775807)) (
  smithyardref7_Text.l6 smithyardref7_Text.e1 big a0 ((((({ data:=#[99,97,99,104,101,32] }:ByteArray)++y2)++({ data:=#[32] }:ByteArray))++y3)++({ data:=#[10] }:ByteArray)) 0)))))
def stringslite_Index.f (a0 a1:ByteArray):Option Int:=guard? (decide (a1.data.toList.length=1)) (some (Lib.indexByte a0.data.toList (a1.data.toList.headD 0)))
def stringslite_Cut.f (a0:ByteArray) (a1:ByteArray):Option (ByteArray × ByteArray × Bool) :=
  (stringslite_Index.f a0 a1).bind fun y1 =>
  bif decide (0≤y1) then
  (guard? (decide ((0:Int)≤y1)&&decide (y1≤(a0.size:Int))) (
  guard? (decide ((0:Int)≤(w64 (y1+(a1.size:Int))))&&decide ((w64 (y1+(a1.size:Int)))≤(a0.size:Int))) (
  some (a0.extract 0 y1.toNat,a0.extract (w64 (y1+(a1.size:Int))).toNat a0.size,true))))
  else
  (some (a0,({ data:=#[] }:ByteArray),false))
def strings_Cut.f (a0:ByteArray) (a1:ByteArray):Option (ByteArray × ByteArray × Bool) :=
  (stringslite_Cut.f a0 a1).bind fun y1 =>
  some (y1.1,y1.2.1,y1.2.2)
def strings_Split.f (a0 a1:ByteArray):Option (List ByteArray):=guard? (decide (a0.size<4294967281)&&decide (1≤a1.size)) (some (Lib.splitB a1 0 (Lib.countB a0 a1) a0))
def slices_Index_string.e1 :Option Int :=
  some (-1)
def slices_Index_string.l2 (e1:Option Int):Nat→(List ByteArray)→ByteArray→Int→Option Int
  | 0,_,_,_=>none
  | k+1,a0,a1,v8 =>
    bif decide (v8<(a0.length:Int)) then
    ((at? a0 v8).bind fun x1 =>
    bif sEq a1 x1 then
    (some v8)
    else
    ((slices_Index_string.l2 e1 k) a0 a1 (w64 (v8+1))))
    else
    (e1)
def slices_Index_string.f (a0:List ByteArray) (a1:ByteArray):Option Int :=
  slices_Index_string.l2 slices_Index_string.e1 big a0 a1 0
def slices_Contains_string.f (a0:List ByteArray) (a1:ByteArray):Option Bool :=
  (slices_Index_string.f a0 a1).bind fun y1 =>
  some (decide (0≤y1))
def strconv_Atoi.f (a0:ByteArray):Option Int:=guard? (decide (a0.size≤18)) (Lib.atoi a0.data.toList)
def cache_numbers.e1 (v_out4:List Int):Option ((List Int) × Bool) :=
  some (v_out4,true)
def cache_numbers.l2 (e1:(List Int)→Option ((List Int) × Bool)):Nat→(List ByteArray)→(List Int)→Int→Option ((List Int) × Bool)
  | 0,_,_,_=>none
  | k+1,a0,v_out4,v11 =>
    bif decide (v11<(a0.length:Int)) then
    ((at? a0 v11).bind fun x1 =>
    (bif decide ((x1.size:Int)<1) then (some true) else (bif decide (10<(x1.size:Int)) then (some true) else ((strings_Trim.f x1 ({ data:=#[48,49,50,51,52,53,54,55,56,57] }:ByteArray)).bind fun y1 =>
    bif !sEq y1 ({ data:=#[] }:ByteArray) then (some true) else (guard? (decide ((0:Int)≤0)&&decide (0<(x1.size:Int))) (
    bif (bt x1 0) == 48 then (some (!sEq x1 ({ data:=#[48] }:ByteArray))) else (some false)))))).bind fun t1 =>
    bif t1 then
    (some (([]:List Int),false))
    else
    ((strconv_Atoi.f x1).bind fun y2 =>
    guard? (room v_out4.length 1 8) (
    (cache_numbers.l2 e1 k) a0 (v_out4++([y2]:List Int)) (w64 (v11+1)))))
    else
    (e1 v_out4)
def cache_numbers.f (a0:List ByteArray):Option ((List Int) × Bool) :=
  cache_numbers.l2 cache_numbers.e1 big a0 ([]:List Int) 0
def cache_line.f (a0:Cache) (a1:Int) (a2:ByteArray):Option (Bool × Cache) :=
  (strings_Split.f a2 ({ data:=#[32] }:ByteArray)).bind fun y1 =>
  (slices_Contains_string.f y1 ({ data:=#[] }:ByteArray)).bind fun y2 =>
  bif y2 then
  (some (false,(⟨a0.Room,a0.Lease,a0.Blobs,a0.Entries⟩:Cache)))
  else
  (bif a1 == 0 then
  (guard? (decide ((0:Int)≤1)&&decide (1≤((y1.length:Nat):Int))) (
  (cache_numbers.f (y1.drop 1)).bind fun y3 =>
  ((at? y1 0).bind fun x1 =>
  bif !sEq x1 ({ data:=#[99,97,99,104,101] }:ByteArray) then (some true) else (bif !y3.2 then (some true) else (some ((y3.1.length:Int) != 2)))).bind fun t1 =>
  bif t1 then
  (some (false,(⟨a0.Room,a0.Lease,a0.Blobs,a0.Entries⟩:Cache)))
  else
  ((at? y3.1 0).bind fun x2 =>
  (at? y3.1 1).bind fun x3 =>
  some (true,(⟨x2,x3,a0.Blobs,a0.Entries⟩:Cache)))))
  else
  (((at? y1 0).bind fun x4 =>
  bif sEq x4 ({ data:=#[98,108,111,98] }:ByteArray) then (bif (y1.length:Int) == 6 then (some ((a0.Entries.length:Int) == 0)) else (some false)) else (some false)).bind fun t2 =>
  bif t2 then
  (guard? (decide ((0:Int)≤2)&&decide (2≤((y1.length:Nat):Int))) (
  (cache_numbers.f (y1.drop 2)).bind fun y4 =>
  bif !y4.2 then
  (some (false,(⟨a0.Room,a0.Lease,a0.Blobs,a0.Entries⟩:Cache)))
  else
  ((at? y1 1).bind fun x5 =>
  (at? y4.1 0).bind fun x6 =>
  (at? y4.1 1).bind fun x7 =>
  (at? y4.1 2).bind fun x8 =>
  (at? y4.1 3).bind fun x9 =>
  guard? (room a0.Blobs.length 1 48) (
  some (true,(⟨a0.Room,a0.Lease,(a0.Blobs++([(⟨x5,x6,x7,x8,x9⟩:Blob)]:List Blob)),a0.Entries⟩:Cache))))))
  else
  (((at? y1 0).bind fun x10 =>
  bif sEq x10 ({ data:=#[101,110,116,114,121] }:ByteArray) then (some (decide (3≤(y1.length:Int)))) else (some false)).bind fun t3 =>
  bif t3 then
  (guard? (decide ((0:Int)≤2)&&(decide ((2:Int)≤3)&&decide (3≤((y1.length:Nat):Int)))) (
  (cache_numbers.f ((y1.take 3).drop 2)).bind fun y5 =>
  bif !y5.2 then
  (some (false,(⟨a0.Room,a0.Lease,a0.Blobs,a0.Entries⟩:Cache)))
  else
  ((at? y1 1).bind fun x11 =>
  (at? y5.1 0).bind fun x12 =>
  guard? (decide ((0:Int)≤3)&&decide (3≤((y1.length:Nat):Int))) (
  (slices_Clone_string.f (y1.drop 3)).bind fun y6 =>
  guard? (room a0.Entries.length 1 48) (
  some (true,(⟨a0.Room,a0.Lease,a0.Blobs,(a0.Entries++([(⟨x11,y6,x12⟩:Entry)]:List Entry))⟩:Cache)))))))
  else
  (some (false,(⟨a0.Room,a0.Lease,a0.Blobs,a0.Entries⟩:Cache))))))
def cache_Read.e1 (v_c5_0:Int) (v_c5_1:Int) (v_c5_2:List Blob) (v_c5_3:List Entry):Option (Cache × Int × Int) :=
  (cache_CheckCache.f (⟨v_c5_0,v_c5_1,v_c5_2,v_c5_3⟩:Cache)).bind fun y1 =>
  bif y1 != 0 then
  (some ((⟨0,0,([]:List Blob),([]:List Entry)⟩:Cache),0,y1))
  else
  (some ((⟨v_c5_0,v_c5_1,v_c5_2,v_c5_3⟩:Cache),0,0))
def cache_Read.l2 (e1:Int→Int→(List Blob)→(List Entry)→Option (Cache × Int × Int)):Nat→ByteArray→Int→Int→(List Blob)→(List Entry)→Int→Option (Cache × Int × Int)
  | 0,_,_,_,_,_,_=>none
  | k+1,v_text0,v_c5_0,v_c5_1,v_c5_2,v_c5_3,v_i6 =>
    (bif v_i6 == 0 then (some true) else (some (!sEq v_text0 ({ data:=#[] }:ByteArray)))).bind fun t1 =>
    bif t1 then
    ((strings_Cut.f v_text0 ({ data:=#[10] }:ByteArray)).bind fun y2 =>
    (bif !y2.2.2 then (some (v_c5_0,v_c5_1,v_c5_2,v_c5_3,true)) else ((cache_line.f (⟨v_c5_0,v_c5_1,v_c5_2,v_c5_3⟩:Cache) v_i6 y2.1).bind fun y3 =>
    some (y3.2.Room,y3.2.Lease,y3.2.Blobs,y3.2.Entries,(!y3.1)))).bind fun t2 =>
    bif t2.2.2.2.2 then
    (some ((⟨0,0,([]:List Blob),([]:List Entry)⟩:Cache),w64 (v_i6+1),10))
    else
    ((cache_Read.l2 e1 k) y2.2.1 t2.1 t2.2.1 t2.2.2.1 t2.2.2.2.1 (w64 (v_i6+1))))
    else
    (e1 v_c5_0 v_c5_1 v_c5_2 v_c5_3)
def cache_Read.f (a0:ByteArray):Option (Cache × Int × Int) :=
  bif decide (2000000<(a0.size:Int)) then
  (some ((⟨0,0,([]:List Blob),([]:List Entry)⟩:Cache),0,2))
  else
  (cache_Read.l2 cache_Read.e1 big a0 0 0 ([]:List Blob) ([]:List Entry) 0)
def smithyardref7_numbers.e1 (v_out4:List Int):Option ((List Int) × Bool) :=
  some (v_out4,true)
def smithyardref7_numbers.e3 (backl2:(List ByteArray)→(List Int)→Int→Option ((List Int) × Bool)) (a0:List ByteArray) (v_out4:List Int) (v_i5:Int) (x1:ByteArray):Option ((List Int) × Bool) :=
  (strconv_Atoi.f x1).bind fun y1 =>
  guard? (room v_out4.length 1 8) (
  backl2 a0 (v_out4++([y1]:List Int)) (w64 (v_i5+1)))
def smithyardref7_numbers.l4 (e3:(List ByteArray)→(List Int)→Int→ByteArray→Option ((List Int) × Bool)):Nat→(List ByteArray)→(List Int)→Int→ByteArray→Int→Option ((List Int) × Bool)
  | 0,_,_,_,_,_=>none
  | k+1,a0,v_out4,v_i5,x1,v_k7 =>
    bif decide (v_k7<(x1.size:Int)) then
    ((guard? (decide ((0:Int)≤v_k7)&&decide (v_k7<(x1.size:Int))) (
    bif decide ((bt x1 v_k7)<48) then (some true) else (guard? (decide ((0:Int)≤v_k7)&&decide (v_k7<(x1.size:Int))) (
    some (decide (57<(bt x1 v_k7))))))).bind fun t2 =>
    bif t2 then
    (some (([]:List Int),false))
    else
    ((smithyardref7_numbers.l4 e3 k) a0 v_out4 v_i5 x1 (w64 (v_k7+1))))
    else
    (e3 a0 v_out4 v_i5 x1)
def smithyardref7_numbers.l2 (e1:(List Int)→Option ((List Int) × Bool)):Nat→(List ByteArray)→(List Int)→Int→Option ((List Int) × Bool)
  | 0,_,_,_=>none
  | k+1,a0,v_out4,v_i5 =>
    bif decide (v_i5<(a0.length:Int)) then
    ((at? a0 v_i5).bind fun x1 =>
    (bif sEq x1 ({ data:=#[] }:ByteArray) then (some true) else (bif decide (10<(x1.size:Int)) then (some true) else (bif decide (1<(x1.size:Int)) then (guard? (decide ((0:Int)≤0)&&decide (0<(x1.size:Int))) (
    some ((bt x1 0) == 48))) else (some false)))).bind fun t1 =>
    bif t1 then
    (some (([]:List Int),false))
    else
    (smithyardref7_numbers.l4 (smithyardref7_numbers.e3 ((smithyardref7_numbers.l2 e1 k))) big a0 v_out4 v_i5 x1 0))
    else
    (e1 v_out4)
def smithyardref7_numbers.f (a0:List ByteArray):Option ((List Int) × Bool) :=
  smithyardref7_numbers.l2 smithyardref7_numbers.e1 big a0 ([]:List Int) 0
def smithyardref7_line.j2 (a0:Cache) (y2:(List Int) × Bool) (v_c0_0:Int) (v_c0_1:Int):Option (Bool × Cache) :=
  some (y2.2,(⟨v_c0_0,v_c0_1,a0.Blobs,a0.Entries⟩:Cache))
def smithyardref7_line.j3 (a0:Cache) (y3:(List Int) × Bool) (v_c0_2:List Blob):Option (Bool × Cache) :=
  some (y3.2,(⟨a0.Room,a0.Lease,v_c0_2,a0.Entries⟩:Cache))
def smithyardref7_line.j4 (a0:Cache) (y4:(List Int) × Bool) (v_c0_3:List Entry):Option (Bool × Cache) :=
  some (y4.2,(⟨a0.Room,a0.Lease,a0.Blobs,v_c0_3⟩:Cache))
def smithyardref7_line.e1 (a0:Cache) (a2:Bool) (y1:List ByteArray):Option (Bool × Cache) :=
  bif a2 then
  (((at? y1 0).bind fun x1 =>
  bif !sEq x1 ({ data:=#[99,97,99,104,101] }:ByteArray) then (some true) else (some ((y1.length:Int) != 3))).bind fun t1 =>
  bif t1 then
  (some (false,(⟨a0.Room,a0.Lease,a0.Blobs,a0.Entries⟩:Cache)))
  else
  (guard? (decide ((0:Int)≤1)&&decide (1≤((y1.length:Nat):Int))) (
  (smithyardref7_numbers.f (y1.drop 1)).bind fun y2 =>
  bif y2.2 then
  ((at? y2.1 0).bind fun x2 =>
  (at? y2.1 1).bind fun x3 =>
  smithyardref7_line.j2 a0 y2 x2 x3)
  else
  (smithyardref7_line.j2 a0 y2 a0.Room a0.Lease))))
  else
  (((at? y1 0).bind fun x4 =>
  bif sEq x4 ({ data:=#[98,108,111,98] }:ByteArray) then (bif (y1.length:Int) == 6 then (some ((a0.Entries.length:Int) == 0)) else (some false)) else (some false)).bind fun t2 =>
  bif t2 then
  (guard? (decide ((0:Int)≤2)&&decide (2≤((y1.length:Nat):Int))) (
  (smithyardref7_numbers.f (y1.drop 2)).bind fun y3 =>
  bif y3.2 then
  ((at? y1 1).bind fun x5 =>
  (at? y3.1 0).bind fun x6 =>
  (at? y3.1 1).bind fun x7 =>
  (at? y3.1 2).bind fun x8 =>
  (at? y3.1 3).bind fun x9 =>
  guard? (room a0.Blobs.length 1 48) (
  smithyardref7_line.j3 a0 y3 (a0.Blobs++([(⟨x5,x6,x7,x8,x9⟩:Blob)]:List Blob))))
  else
  (smithyardref7_line.j3 a0 y3 a0.Blobs)))
  else
  (((at? y1 0).bind fun x10 =>
  bif sEq x10 ({ data:=#[101,110,116,114,121] }:ByteArray) then (some (decide (3≤(y1.length:Int)))) else (some false)).bind fun t3 =>
  bif t3 then
  (guard? (decide ((0:Int)≤2)&&(decide ((2:Int)≤3)&&decide (3≤((y1.length:Nat):Int)))) (
  (smithyardref7_numbers.f ((y1.take 3).drop 2)).bind fun y4 =>
  bif y4.2 then
  ((at? y1 1).bind fun x11 =>
  (at? y4.1 0).bind fun x12 =>
  guard? (decide ((0:Int)≤3)&&decide (3≤((y1.length:Nat):Int))) (
  guard? (room a0.Entries.length 1 48) (
  smithyardref7_line.j4 a0 y4 (a0.Entries++([(⟨x11,(y1.drop 3),x12⟩:Entry)]:List Entry)))))
  else
  (smithyardref7_line.j4 a0 y4 a0.Entries)))
  else
  (some (false,(⟨a0.Room,a0.Lease,a0.Blobs,a0.Entries⟩:Cache)))))
def smithyardref7_line.l5 (e1:Cache→Bool→(List ByteArray)→Option (Bool × Cache)):Nat→Cache→Bool→(List ByteArray)→Int→Option (Bool × Cache)
  | 0,_,_,_,_=>none
  | k+1,a0,a2,y1,v_i8 =>
    bif decide (v_i8<(y1.length:Int)) then
    ((at? y1 v_i8).bind fun x13 =>
    bif sEq x13 ({ data:=#[] }:ByteArray) then
    (some (false,(⟨a0.Room,a0.Lease,a0.Blobs,a0.Entries⟩:Cache)))
    else
    ((smithyardref7_line.l5 e1 k) a0 a2 y1 (w64 (v_i8+1))))
    else
    (e1 a0 a2 y1)
def smithyardref7_line.f (a0:Cache) (a1:ByteArray) (a2:Bool):Option (Bool × Cache) :=
  (strings_Split.f a1 ({ data:=#[32] }:ByteArray)).bind fun y1 =>
  smithyardref7_line.l5 smithyardref7_line.e1 big a0 a2 y1 0
def smithyardref7_Read.e1 (v_c5_0:Int) (v_c5_1:Int) (v_c5_2:List Blob) (v_c5_3:List Entry):Option (Cache × Int × Int) :=
  (smithyardref7_CheckCache.f (⟨v_c5_0,v_c5_1,v_c5_2,v_c5_3⟩:Cache)).bind fun y1 =>
  bif y1 != 0 then
  (some ((⟨0,0,([]:List Blob),([]:List Entry)⟩:Cache),0,y1))
  else
  (some ((⟨v_c5_0,v_c5_1,v_c5_2,v_c5_3⟩:Cache),0,0))
def smithyardref7_Read.l2 (e1:Int→Int→(List Blob)→(List Entry)→Option (Cache × Int × Int)):Nat→ByteArray→Int→Int→(List Blob)→(List Entry)→Int→Option (Cache × Int × Int)
  | 0,_,_,_,_,_,_=>none
  | k+1,v_text0,v_c5_0,v_c5_1,v_c5_2,v_c5_3,v_at6 =>
    (bif !sEq v_text0 ({ data:=#[] }:ByteArray) then (some true) else (some (v_at6 == 0))).bind fun t1 =>
    bif t1 then
    ((strings_Cut.f v_text0 ({ data:=#[10] }:ByteArray)).bind fun y2 =>
    (bif !y2.2.2 then (some (v_c5_0,v_c5_1,v_c5_2,v_c5_3,true)) else ((smithyardref7_line.f (⟨v_c5_0,v_c5_1,v_c5_2,v_c5_3⟩:Cache) y2.1 ((w64 (v_at6+1)) == 1)).bind fun y3 =>
    some (y3.2.Room,y3.2.Lease,y3.2.Blobs,y3.2.Entries,(!y3.1)))).bind fun t2 =>
    bif t2.2.2.2.2 then
    (some ((⟨0,0,([]:List Blob),([]:List Entry)⟩:Cache),w64 (v_at6+1),10))
    else
    ((smithyardref7_Read.l2 e1 k) y2.2.1 t2.1 t2.2.1 t2.2.2.1 t2.2.2.2.1 (w64 (v_at6+1))))
    else
    (e1 v_c5_0 v_c5_1 v_c5_2 v_c5_3)
def smithyardref7_Read.f (a0:ByteArray):Option (Cache × Int × Int) :=
  bif decide (2000000<(a0.size:Int)) then
  (some ((⟨0,0,([]:List Blob),([]:List Entry)⟩:Cache),0,2))
  else
  (smithyardref7_Read.l2 smithyardref7_Read.e1 big a0 0 0 ([]:List Blob) ([]:List Entry) 0)
def smithyardref7_sameList.e1 :Option Bool :=
  some true
def smithyardref7_sameList.l2 (e1:Option Bool):Nat→(List ByteArray)→(List ByteArray)→Int→Option Bool
  | 0,_,_,_=>none
  | k+1,a0,a1,v_i5 =>
    bif decide (v_i5<(a0.length:Int)) then
    ((at? a0 v_i5).bind fun x1 =>
    (at? a1 v_i5).bind fun x2 =>
    bif !sEq x1 x2 then
    (some false)
    else
    ((smithyardref7_sameList.l2 e1 k) a0 a1 (w64 (v_i5+1))))
    else
    (e1)
def smithyardref7_sameList.f (a0:List ByteArray) (a1:List ByteArray):Option Bool :=
  bif (a0.length:Int) != (a1.length:Int) then
  (some false)
  else
  (smithyardref7_sameList.l2 smithyardref7_sameList.e1 big a0 a1 0)
def smithyardref7_Same.e2 :Option Bool :=
  some true
def smithyardref7_Same.l3 (e2:Option Bool):Nat→Cache→Cache→Int→Option Bool
  | 0,_,_,_=>none
  | k+1,a0,a1,v_i6 =>
    bif decide (v_i6<(a0.Entries.length:Int)) then
    (((at? a0.Entries v_i6).bind fun x1 =>
    (at? a1.Entries v_i6).bind fun x2 =>
    bif !sEq x1.Key x2.Key then (some true) else (bif x1.Used != x2.Used then (some true) else ((smithyardref7_sameList.f x1.Refs x2.Refs).bind fun y1 =>
    some (!y1)))).bind fun t2 =>
    bif t2 then
    (some false)
    else
    ((smithyardref7_Same.l3 e2 k) a0 a1 (w64 (v_i6+1))))
    else
    (e2)
def smithyardref7_Same.e1 (a0:Cache) (a1:Cache):Option Bool :=
  smithyardref7_Same.l3 smithyardref7_Same.e2 big a0 a1 0
def smithyardref7_Same.l4 (e1:Cache→Cache→Option Bool):Nat→Cache→Cache→Int→Option Bool
  | 0,_,_,_=>none
  | k+1,a0,a1,v_i5 =>
    bif decide (v_i5<(a0.Blobs.length:Int)) then
    ((at? a0.Blobs v_i5).bind fun x3 =>
    (at? a1.Blobs v_i5).bind fun x4 =>
    bif !(sEq x3.Digest x4.Digest&&(x3.Size == x4.Size&&(x3.Used == x4.Used&&(x3.Until == x4.Until&&(x3.Pins == x4.Pins&&true))))) then
    (some false)
    else
    ((smithyardref7_Same.l4 e1 k) a0 a1 (w64 (v_i5+1))))
    else
    (e1 a0 a1)
def smithyardref7_Same.f (a0:Cache) (a1:Cache):Option Bool :=
  (bif a0.Room != a1.Room then (some true) else (bif a0.Lease != a1.Lease then (some true) else (bif (a0.Blobs.length:Int) != (a1.Blobs.length:Int) then (some true) else (some ((a0.Entries.length:Int) != (a1.Entries.length:Int)))))).bind fun t1 =>
  bif t1 then
  (some false)
  else
  (smithyardref7_Same.l4 smithyardref7_Same.e1 big a0 a1 0)
def cache_New.f (a0:Int) (a1:Int):Option (Cache × Int) :=
  (cache_CheckCache.f (⟨a0,a1,([]:List Blob),([]:List Entry)⟩:Cache)).bind fun y1 =>
  bif y1 != 0 then
  (some ((⟨0,0,([]:List Blob),([]:List Entry)⟩:Cache),y1))
  else
  (some ((⟨a0,a1,([]:List Blob),([]:List Entry)⟩:Cache),0))
def smithyardlaw7_awake.f :Option Bool :=
  (cache_New.f 5 7).bind fun y1 =>
  (bif y1.2 == 0 then (bif y1.1.Room == 5 then (some (y1.1.Lease == 7)) else (some false)) else (some false)).bind fun t1 =>
  some t1
def smithyardlaw7_CacheTextsMatchSpec.f (a0:Cache) (a1:ByteArray):Option Bool :=
  (smithyardref7_Copy.f a0).bind fun y1 =>
  (cache_Text.f a0).bind fun y2 =>
  (smithyardref7_Text.f (⟨y1.Room,y1.Lease,y1.Blobs,y1.Entries⟩:Cache)).bind fun y3 =>
  (cache_Read.f a1).bind fun y4 =>
  (smithyardref7_Read.f a1).bind fun y5 =>
  (bif sEq y2.1 y3.1 then (bif y2.2 == y3.2 then ((smithyardref7_Same.f (⟨y4.1.Room,y4.1.Lease,y4.1.Blobs,y4.1.Entries⟩:Cache) (⟨y5.1.Room,y5.1.Lease,y5.1.Blobs,y5.1.Entries⟩:Cache)).bind fun y6 =>
  bif y6 then (bif y4.2.1 == y5.2.1 then (bif y4.2.2 == y5.2.2 then ((smithyardref7_Same.f a0 (⟨y1.Room,y1.Lease,y1.Blobs,y1.Entries⟩:Cache)).bind fun y7 =>
  bif y7 then ((smithyardlaw7_awake.f).bind fun y8 =>
  some y8) else (some false)) else (some false)) else (some false)) else (some false)) else (some false)) else (some false)).bind fun t1 =>
  some t1
end Go.Proofs.YtnfgkhmhdefagaaGreatDoor
