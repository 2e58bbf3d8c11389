/- Plain functions, each written by program out of one Go function's operations. -/
import Derived.Test.YtiecpfnjmlidbaaGreatDoorKitP
import Derived.Lib.Bytealg
import Derived.Lib.SlTrimSet
set_option linter.unusedVariables false
namespace Go.Proofs.YtiecpfnjmlidbaaGreatDoor
open Go Go.Proofs.YtiecpfnjmlidbaaGreatDoor.Kit
structure Blob where
  b7:ByteArray
  j4:Int
  Used:Int
  u6:Int
  q4:Int
  deriving Inhabited,DecidableEq
structure Entry where
  Key:ByteArray
  Refs:List ByteArray
  Used:Int
  deriving Inhabited,DecidableEq
structure Cache where
  Room:Int
  c4:Int
  U:List Blob
  Entries:List Entry
  deriving Inhabited,DecidableEq
structure k7 where
  Kind:Int
  At:Int
  b7:ByteArray
  j9:List ByteArray
  Key:ByteArray
  j4:Int
  deriving Inhabited,DecidableEq
structure k6 where
  x8:Bool
  x5:List ByteArray
  x4:List ByteArray
  deriving Inhabited,DecidableEq
def bj4.f (a0:List Blob):Option (List Blob):=G5 (room 0 a0.length 48) (some a0)
def slices_Clone_string.f (a0:List ByteArray):Option (List ByteArray):=G5 (room 0 a0.length 16) (some a0)
def al0.e1 (a0:Cache) (y1:List Blob) (Z7:List Entry):Option Cache :=
  some (⟨a0.Room,a0.c4,y1,Z7⟩:Cache)
def al0.l2 (e1:Cache→(List Blob)→(List Entry)→Option Cache):Nat→Cache→(List Blob)→(List Entry)→Int→Option Cache
  | 0,_,_,_,_=>none
  | k+1,a0,y1,Z7,U0 =>
    bif decide (U0<(a0.Entries.length:Int)) then
    ((o7 a0.Entries U0).bind fun x1 =>
    (slices_Clone_string.f x1.Refs).bind fun y2 =>
    G5 (room Z7.length 1 48) (
    (al0.l2 e1 k) a0 y1 (Z7++([(⟨x1.Key,y2,x1.Used⟩:Entry)]:List Entry)) (c5 (U0+1))))
    else
    (e1 a0 y1 Z7)
def al0.f (a0:Cache):Option Cache :=
  (bj4.f a0.U).bind fun y1 =>
  al0.l2 al0.e1 n8 a0 y1 ([]:List Entry) 0
def aj6.e1 (ah4:List k7):Option (List k7) :=
  some ah4
def aj6.l2 (e1:(List k7)→Option (List k7)):Nat→(List k7)→(List k7)→Int→Option (List k7)
  | 0,_,_,_=>none
  | k+1,a0,ah4,U0 =>
    bif decide (U0<(a0.length:Int)) then
    ((o7 a0 U0).bind fun x1 =>
    (slices_Clone_string.f x1.j9).bind fun y1 =>
    G5 (room ah4.length 1 80) (
    (aj6.l2 e1 k) a0 (ah4++([(⟨x1.Kind,x1.At,x1.b7,y1,x1.Key,x1.j4⟩:k7)]:List k7)) (c5 (U0+1))))
    else
    (e1 ah4)
def aj6.f (a0:List k7):Option (List k7) :=
  aj6.l2 aj6.e1 n8 a0 ([]:List k7) 0
def aH1.f (a0:Int) (a1:Int) (a2:Int):Option Bool :=
  (bif decide (a1≤a0) then (some (decide (a0≤a2))) else (some false)).bind fun t1 =>
  some t1
def strings_Trim.f (a0:ByteArray) (a1:ByteArray):Option ByteArray:=G5 (decide (a0.size≤9223372036854775807)&&(decide (a1.size<4294967281)&&a1.data.toList.all (fun b=>decide (b.toNat<128)))) (some (⟨(Lib.trimS a0.data.toList a1.data.toList).toArray⟩))
def aS0.f (a0:ByteArray):Option Bool :=
  (bif (a0.size:Int) == 16 then ((strings_Trim.f a0 ({ data:=#[48,49,50,51,52,53,54,55,56,57,97,98,99,100,101,102] }:ByteArray)).bind fun y1 =>
  some (p4 y1 ({ data:=#[] }:ByteArray))) else (some false)).bind fun t1 =>
  some t1
def aW0.f (a0:Int):Option Bool :=
  (aH1.f a0 0 1000000000).bind fun y1 =>
  some y1
def ak9.e1 (a1:Int) (ap3:Int):Option Int :=
  bif decide (a1<ap3) then
  (some 16)
  else
  (some 0)
def ak9.l2 (e1:Int→Int→Option Int):Nat→(List Blob)→Int→Int→Int→Option Int
  | 0,_,_,_,_=>none
  | k+1,a0,a1,ap3,v13 =>
    bif decide (v13<(a0.length:Int)) then
    ((o7 a0 v13).bind fun x1 =>
    (aS0.f x1.b7).bind fun y1 =>
    bif !y1 then
    (some 3)
    else
    (((aH1.f x1.j4 0 100000000).bind fun y2 =>
    bif !y2 then (some true) else ((aW0.f x1.Used).bind fun y3 =>
    bif !y3 then (some true) else ((aH1.f x1.u6 0 1001000000).bind fun y4 =>
    bif !y4 then (some true) else ((aH1.f x1.q4 0 3000).bind fun A0 =>
    some (!A0))))).bind fun t1 =>
    bif t1 then
    (some 1)
    else
    ((bif decide (0<v13) then ((o7 a0 (c5 (v13 - 1))).bind fun x2 =>
    some (x9 x1.b7 x2.b7||p4 x1.b7 x2.b7)) else (some false)).bind fun t2 =>
    bif t2 then
    (some 8)
    else
    ((ak9.l2 e1 k) a0 a1 (c5 (ap3+x1.j4)) (c5 (v13+1))))))
    else
    (e1 a1 ap3)
def ak9.f (a0:List Blob) (a1:Int):Option Int :=
  bif decide (3000<(a0.length:Int)) then
  (some 2)
  else
  (ak9.l2 ak9.e1 n8 a0 a1 0 0)
def aj2.e1 :Option Int :=
  some 0
def aj2.l2 (e1:Option Int):Nat→(List ByteArray)→Int→Option Int
  | 0,_,_=>none
  | k+1,a0,v13 =>
    bif decide (v13<(a0.length:Int)) then
    ((o7 a0 v13).bind fun x1 =>
    (aS0.f x1).bind fun y1 =>
    bif !y1 then
    (some 3)
    else
    ((bif decide (0<v13) then ((o7 a0 (c5 (v13 - 1))).bind fun x2 =>
    some (x9 x1 x2||p4 x1 x2)) else (some false)).bind fun t1 =>
    bif t1 then
    (some 8)
    else
    ((aj2.l2 e1 k) a0 (c5 (v13+1)))))
    else
    (e1)
def aj2.f (a0:List ByteArray) (a1:Int):Option Int :=
  bif decide (a1<(a0.length:Int)) then
  (some 2)
  else
  (aj2.l2 aj2.e1 n8 a0 0)
def ae1.e1 :Option Int :=
  some 0
def ae1.l2 (e1:Option Int):Nat→Cache→Int→Option Int
  | 0,_,_=>none
  | k+1,a0,v32 =>
    bif decide (v32<(a0.Entries.length:Int)) then
    ((o7 a0.Entries v32).bind fun x1 =>
    (aS0.f x1.Key).bind fun y4 =>
    bif !y4 then
    (some 3)
    else
    ((aj2.f x1.Refs 200).bind fun A0 =>
    bif A0 != 0 then
    (some A0)
    else
    ((aW0.f x1.Used).bind fun G0 =>
    bif !G0 then
    (some 1)
    else
    ((bif decide (0<v32) then ((o7 a0.Entries (c5 (v32 - 1))).bind fun x2 =>
    some (x9 x1.Key x2.Key||p4 x1.Key x2.Key)) else (some false)).bind fun t2 =>
    bif t2 then
    (some 8)
    else
    ((ae1.l2 e1 k) a0 (c5 (v32+1)))))))
    else
    (e1)
def ae1.f (a0:Cache):Option Int :=
  ((aH1.f a0.Room 0 1000000000).bind fun y1 =>
  bif !y1 then (some true) else ((aH1.f a0.c4 0 1000000).bind fun y2 =>
  some (!y2))).bind fun t1 =>
  bif t1 then
  (some 1)
  else
  ((ak9.f a0.U a0.Room).bind fun y3 =>
  bif y3 != 0 then
  (some y3)
  else
  (bif decide (1000<(a0.Entries.length:Int)) then
  (some 2)
  else
  (ae1.l2 ae1.e1 n8 a0 0)))
def bG5.f (a0:List Entry):Option (List Entry):=G5 (room 0 a0.length 48) (some a0)
def ag5.e1 (a0:Cache) (y1:List Blob) (aa6:List Entry):Option Cache :=
  some (⟨a0.Room,a0.c4,y1,aa6⟩:Cache)
def ag5.l2 (e1:Cache→(List Blob)→(List Entry)→Option Cache):Nat→Cache→(List Blob)→(List Entry)→(List Entry)→Int→Option Cache
  | 0,_,_,_,_,_=>none
  | k+1,a0,y1,y2,aa6,v15 =>
    bif decide (v15<(y2.length:Int)) then
    ((o7 aa6 v15).bind fun x1 =>
    (slices_Clone_string.f x1.Refs).bind fun y3 =>
    (ag5.l2 e1 k) a0 y1 y2 (aa6.set v15.toNat (⟨x1.Key,y3,x1.Used⟩:Entry)) (c5 (v15+1)))
    else
    (e1 a0 y1 aa6)
def ag5.f (a0:Cache):Option Cache :=
  (bj4.f a0.U).bind fun y1 =>
  (bG5.f a0.Entries).bind fun y2 =>
  ag5.l2 ag5.e1 n8 a0 y1 y2 y2 0
def bq3.f (a0:Int):Option (Bool × Bool × Bool × Bool) :=
  bif a0 == 1 then
  (some (true,false,false,true))
  else
  (bif a0 == 3 then
  (some (false,true,false,false))
  else
  (bif a0 == 6 then
  (some (false,true,true,false))
  else
  (bif a0 == 7 then
  (some (false,false,true,false))
  else
  (some (true,false,false,false)))))
def ac1.j2 (a0:k7) (v50:Bool):Option Int :=
  bif v50 then
  (some 3)
  else
  ((aj2.f a0.j9 200).bind fun y4 =>
  bif y4 != 0 then
  (some y4)
  else
  (((aH1.f a0.j4 0 100000000).bind fun A0 =>
  bif !A0 then (some true) else ((aW0.f a0.At).bind fun G0 =>
  some (!G0))).bind fun t3 =>
  bif t3 then
  (some 1)
  else
  (some 0)))
def ac1.j1 (a0:k7) (y2:Bool × Bool × Bool × Bool) (v20:Bool):Option Int :=
  bif v20 then
  (some 3)
  else
  ((bif y2.1 then ((aS0.f a0.b7).bind fun y3 =>
  some (!y3)) else (some false)).bind fun t2 =>
  bif t2 then
  (ac1.j2 a0 t2)
  else
  ((bif y2.2.2.1 then ((aS0.f a0.Key).bind fun W2 =>
  some (!W2)) else (some false)).bind fun t4 =>
  ac1.j2 a0 t4))
def ac1.f (a0:k7):Option Int :=
  (aH1.f a0.Kind 1 8).bind fun y1 =>
  bif !y1 then
  (some 4)
  else
  ((bq3.f a0.Kind).bind fun y2 =>
  (bif !y2.1 then (some (!p4 a0.b7 ({ data:=#[] }:ByteArray))) else (some false)).bind fun t1 =>
  bif t1 then
  (ac1.j1 a0 y2 t1)
  else
  ((bif !y2.2.1 then (some (decide (0<(a0.j9.length:Int)))) else (some false)).bind fun t5 =>
  bif t5 then
  (ac1.j1 a0 y2 t5)
  else
  ((bif !y2.2.2.1 then (some (!p4 a0.Key ({ data:=#[] }:ByteArray))) else (some false)).bind fun t6 =>
  bif t6 then
  (ac1.j1 a0 y2 t6)
  else
  ((bif !y2.2.2.2 then (some (a0.j4 != 0)) else (some false)).bind fun t7 =>
  ac1.j1 a0 y2 t7))))
def S8.e2 (K2:Int):Option Int :=
  some K2
def S8.l3 (e2:Int→Option Int):Nat→Cache→Int→Int→Option Int
  | 0,_,_,_=>none
  | k+1,a0,K2,v23 =>
    bif decide (v23<(a0.Entries.length:Int)) then
    ((o7 a0.Entries v23).bind fun x1 =>
    (S8.l3 e2 k) a0 (max2 K2 x1.Used) (c5 (v23+1)))
    else
    (e2 K2)
def S8.e1 (a0:Cache) (K2:Int):Option Int :=
  S8.l3 S8.e2 n8 a0 K2 0
def S8.l4 (e1:Cache→Int→Option Int):Nat→Cache→Int→Int→Option Int
  | 0,_,_,_=>none
  | k+1,a0,K2,v11 =>
    bif decide (v11<(a0.U.length:Int)) then
    ((o7 a0.U v11).bind fun x2 =>
    (S8.l4 e1 k) a0 (max2 K2 x2.Used) (c5 (v11+1)))
    else
    (e1 a0 K2)
def S8.f (a0:Cache):Option Int :=
  S8.l4 S8.e1 n8 a0 0 0
def strings_Compare.f (a0:ByteArray) (a1:ByteArray):Option Int:=some (Lib.compareBytes a0.data.toList a1.data.toList)
def bp7.f (a0:Blob) (a1:ByteArray):Option Int :=
  (strings_Compare.f a0.b7 a1).bind fun y1 =>
  some y1
def ai2.e1 (a0:List Blob) (a1:ByteArray) (y5:Int):Option (Int × Bool) :=
  (bif decide (y5<(a0.length:Int)) then ((o7 a0 y5).bind fun x1 =>
  (bp7.f x1 a1).bind fun y1 =>
  some (y1 == 0)) else (some false)).bind fun t1 =>
  some (y5,t1)
def ai2.l2 (e1:(List Blob)→ByteArray→Int→Option (Int × Bool)):Nat→(List Blob)→ByteArray→Int→Int→Option (Int × Bool)
  | 0,_,_,_,_=>none
  | k+1,a0,a1,y5,ae7 =>
    bif decide (y5<ae7) then
    ((o7 a0 (c5 (F8 .u64 (IntKind.wrap .u64 (c5 (y5+ae7))) 1))).bind fun x2 =>
    (bp7.f x2 a1).bind fun y2 =>
    bif decide (y2<0) then
    ((ai2.l2 e1 k) a0 a1 (c5 ((c5 (F8 .u64 (IntKind.wrap .u64 (c5 (y5+ae7))) 1))+1)) ae7)
    else
    ((ai2.l2 e1 k) a0 a1 y5 (c5 (F8 .u64 (IntKind.wrap .u64 (c5 (y5+ae7))) 1))))
    else
    (e1 a0 a1 y5)
def ai2.f (a0:List Blob) (a1:ByteArray):Option (Int × Bool) :=
  ai2.l2 ai2.e1 n8 a0 a1 0 (a0.length:Int)
def aE1.f (a0:Cache) (a1:ByteArray):Option (Int × Bool) :=
  (ai2.f a0.U a1).bind fun y1 =>
  some (y1.1,y1.2)
def bh9.f (a0:Blob) (a1:Int):Option Bool :=
  (bif decide (0<a0.q4) then (some true) else (some (decide (a1<a0.u6)))).bind fun t1 =>
  some t1
def bi9.f (a0:Blob) (a1:Int):Option Bool :=
  (bh9.f a0 a1).bind fun y1 =>
  some y1
def al5.e1 :Option Int :=
  some (-1)
def al5.l2 (e1:Option Int):Nat→(List Blob)→Int→Int→Option Int
  | 0,_,_,_=>none
  | k+1,a0,D9,v8 =>
    bif decide (v8<(a0.length:Int)) then
    ((o7 a0 v8).bind fun x1 =>
    (bi9.f x1 D9).bind fun y1 =>
    bif y1 then
    (some v8)
    else
    ((al5.l2 e1 k) a0 D9 (c5 (v8+1))))
    else
    (e1)
def al5.f (a0:List Blob) (D9:Int):Option Int :=
  al5.l2 al5.e1 n8 a0 D9 0
def X3.e1 (z1:List Blob) (n7:Int):Option (List Blob) :=
  G5 (decide ((0:Int)≤n7)&&decide (n7≤((z1.length:Nat):Int))) (
  G5 (decide ((0:Int)≤n7)&&decide (n7≤((z1.length:Nat):Int))) (
  some ((z1.take n7.toNat++List.replicate (z1.length - n7.toNat) (⟨ByteArray.empty,0,0,0,0⟩:Blob)).take n7.toNat)))
def X3.j3 (K5:Int→(List Blob)→Int→Int→Option (List Blob)) (D9:Int) (R7:Int) (z1:List Blob) (n7:Int):Option (List Blob) :=
  K5 D9 z1 n7 (c5 (R7+1))
def X3.l2 (e1:(List Blob)→Int→Option (List Blob)):Nat→Int→(List Blob)→Int→Int→Option (List Blob)
  | 0,_,_,_,_=>none
  | k+1,D9,z1,n7,R7 =>
    bif decide (R7<(z1.length:Int)) then
    ((o7 z1 R7).bind fun x1 =>
    (bi9.f x1 D9).bind fun y2 =>
    bif !y2 then
    ((o7 z1 n7).bind fun x2 =>
    X3.j3 ((X3.l2 e1 k)) D9 R7 (z1.set n7.toNat x1) (c5 (n7+1)))
    else
    (X3.j3 ((X3.l2 e1 k)) D9 R7 z1 n7))
    else
    (e1 z1 n7)
def X3.f (a0:List Blob) (D9:Int):Option (List Blob) :=
  (al5.f a0 D9).bind fun y1 =>
  bif y1 == (-1) then
  (some a0)
  else
  (X3.l2 X3.e1 n8 D9 a0 y1 (c5 (y1+1)))
def cmp_isNaN_int.f (a0:Int):Option Bool :=
  some (a0 != a0)
def bH0.f (a0:Int) (a1:Int):Option Int :=
  (cmp_isNaN_int.f a0).bind fun y1 =>
  (cmp_isNaN_int.f a1).bind fun y2 =>
  bif y1 then
  (bif y2 then
  (some 0)
  else
  (some (-1)))
  else
  (bif y2 then
  (some 1)
  else
  (bif decide (a0<a1) then
  (some (-1))
  else
  (bif decide (a1<a0) then
  (some 1)
  else
  (some 0))))
def aX4.f (a0:Blob) (a1:Blob):Option Int :=
  (bH0.f a0.Used a1.Used).bind fun y1 =>
  some y1
def U4.e2 (al8:Int→Int→(List Blob)→Int→Option (List Blob)) (a1:Int) (a2:Int) (M3:Int) (o3:List Blob):Option (List Blob) :=
  al8 a1 a2 o3 (c5 (M3+1))
def U4.l3 (e2:Int→Int→Int→(List Blob)→Option (List Blob)):Nat→Int→Int→Int→(List Blob)→Int→Option (List Blob)
  | 0,_,_,_,_,_=>none
  | k+1,a1,a2,M3,o3,ae8 =>
    (bif decide (a1<ae8) then ((o7 o3 ae8).bind fun x1 =>
    (o7 o3 (c5 (ae8 - 1))).bind fun x2 =>
    (aX4.f x1 x2).bind fun y1 =>
    some (decide (y1<0))) else (some false)).bind fun t1 =>
    bif t1 then
    ((o7 o3 (c5 (ae8 - 1))).bind fun x3 =>
    (o7 o3 ae8).bind fun C2 =>
    (o7 (o3.set ae8.toNat x3) (c5 (ae8 - 1))).bind fun J5 =>
    (U4.l3 e2 k) a1 a2 M3 ((o3.set ae8.toNat x3).set (c5 (ae8 - 1)).toNat C2) (c5 (ae8 - 1)))
    else
    (e2 a1 a2 M3 o3)
def U4.l1:Nat→Int→Int→(List Blob)→Int→Option (List Blob)
  | 0,_,_,_,_=>none
  | k+1,a1,a2,o3,M3 =>
    bif decide (M3<a2) then
    (U4.l3 (U4.e2 ((U4.l1 k))) n8 a1 a2 M3 o3 M3)
    else
    (some o3)
def U4.f (a0:List Blob) (a1:Int) (a2:Int):Option (List Blob) :=
  U4.l1 n8 a1 a2 a0 (c5 (a1+1))
def av0.l1:Nat→Int→Int→Int→(List Blob)→Int→Option (List Blob)
  | 0,_,_,_,_,_=>none
  | k+1,a1,a2,a3,o3,D5 =>
    bif decide (D5<a3) then
    ((o7 o3 (c5 (a2+D5))).bind fun x1 =>
    (o7 o3 (c5 (a1+D5))).bind fun x2 =>
    (o7 (o3.set (c5 (a1+D5)).toNat x1) (c5 (a2+D5))).bind fun x3 =>
    (av0.l1 k) a1 a2 a3 ((o3.set (c5 (a1+D5)).toNat x1).set (c5 (a2+D5)).toNat x2) (c5 (D5+1)))
    else
    (some o3)
def av0.f (a0:List Blob) (a1:Int) (a2:Int) (a3:Int):Option (List Blob) :=
  av0.l1 n8 a1 a2 a3 a0 0
def ai6.e1 (a2:Int) (o3:List Blob) (D5:Int):Option (List Blob) :=
  (av0.f o3 (c5 (a2 - D5)) a2 D5).bind fun y1 =>
  some y1
def ai6.l2 (e1:Int→(List Blob)→Int→Option (List Blob)):Nat→Int→(List Blob)→Int→Int→Option (List Blob)
  | 0,_,_,_,_=>none
  | k+1,a2,o3,D5,ac7 =>
    bif D5 != ac7 then
    (bif decide (ac7<D5) then
    ((av0.f o3 (c5 (a2 - D5)) a2 ac7).bind fun y2 =>
    (ai6.l2 e1 k) a2 y2 (c5 (D5 - ac7)) ac7)
    else
    ((av0.f o3 (c5 (a2 - D5)) (c5 ((c5 (a2+ac7)) - D5)) D5).bind fun y3 =>
    (ai6.l2 e1 k) a2 y3 D5 (c5 (ac7 - D5))))
    else
    (e1 a2 o3 D5)
def ai6.f (a0:List Blob) (a1:Int) (a2:Int) (a3:Int):Option (List Blob) :=
  ai6.l2 ai6.e1 n8 a2 a0 (c5 (a2 - a1)) (c5 (a3 - a2))
def s6.l2:Nat→Int→(List Blob)→Int→Option (List Blob)
  | 0,_,_,_=>none
  | k+1,D5,o3,ak3 =>
    bif decide (ak3<(c5 (D5 - 1))) then
    ((o7 o3 (c5 (ak3+1))).bind fun x1 =>
    (o7 o3 ak3).bind fun x2 =>
    (o7 (o3.set ak3.toNat x1) (c5 (ak3+1))).bind fun x3 =>
    (s6.l2 k) D5 ((o3.set ak3.toNat x1).set (c5 (ak3+1)).toNat x2) (c5 (ak3+1)))
    else
    (some o3)
def s6.e1 (a0:List Blob) (a1:Int) (D5:Int):Option (List Blob) :=
  s6.l2 n8 D5 a0 a1
def s6.l3 (e1:(List Blob)→Int→Int→Option (List Blob)):Nat→(List Blob)→Int→Int→Int→Option (List Blob)
  | 0,_,_,_,_=>none
  | k+1,a0,a1,D5,ac7 =>
    bif decide (D5<ac7) then
    ((o7 a0 (c5 (F8 .u64 (IntKind.wrap .u64 (c5 (D5+ac7))) 1))).bind fun C2 =>
    (o7 a0 a1).bind fun J5 =>
    (aX4.f C2 J5).bind fun y1 =>
    bif decide (y1<0) then
    ((s6.l3 e1 k) a0 a1 (c5 ((c5 (F8 .u64 (IntKind.wrap .u64 (c5 (D5+ac7))) 1))+1)) ac7)
    else
    ((s6.l3 e1 k) a0 a1 D5 (c5 (F8 .u64 (IntKind.wrap .u64 (c5 (D5+ac7))) 1))))
    else
    (e1 a0 a1 D5)
def s6.l5:Nat→Int→(List Blob)→Int→Option (List Blob)
  | 0,_,_,_=>none
  | k+1,Y8,o3,ak4 =>
    bif decide (Y8<ak4) then
    ((o7 o3 (c5 (ak4 - 1))).bind fun x6 =>
    (o7 o3 ak4).bind fun az9 =>
    (o7 (o3.set ak4.toNat x6) (c5 (ak4 - 1))).bind fun bl1 =>
    (s6.l5 k) Y8 ((o3.set ak4.toNat x6).set (c5 (ak4 - 1)).toNat az9) (c5 (ak4 - 1)))
    else
    (some o3)
def s6.S2 (a0:List Blob) (a2:Int) (Y8:Int):Option (List Blob) :=
  s6.l5 n8 Y8 a0 a2
def s6.l6 (S2:(List Blob)→Int→Int→Option (List Blob)):Nat→(List Blob)→Int→Int→Int→Option (List Blob)
  | 0,_,_,_,_=>none
  | k+1,a0,a2,Y8,aF1 =>
    bif decide (Y8<aF1) then
    ((o7 a0 a2).bind fun cx0 =>
    (o7 a0 (c5 (F8 .u64 (IntKind.wrap .u64 (c5 (Y8+aF1))) 1))).bind fun x10 =>
    (aX4.f cx0 x10).bind fun y2 =>
    bif !(decide (y2<0)) then
    ((s6.l6 S2 k) a0 a2 (c5 ((c5 (F8 .u64 (IntKind.wrap .u64 (c5 (Y8+aF1))) 1))+1)) aF1)
    else
    ((s6.l6 S2 k) a0 a2 Y8 (c5 (F8 .u64 (IntKind.wrap .u64 (c5 (Y8+aF1))) 1))))
    else
    (S2 a0 a2 Y8)
def s6.j11 (o3:List Blob):Option (List Blob) :=
  some o3
def s6.j10 (N6:(List Blob)→Int→Int→Int→Option (List Blob)) (a1:Int) (a2:Int) (a3:Int) (H6:Int) (o3:List Blob):Option (List Blob) :=
  (bif decide ((c5 (F8 .u64 (IntKind.wrap .u64 (c5 (a1+a3))) 1))<(c5 ((c5 ((c5 (F8 .u64 (IntKind.wrap .u64 (c5 (a1+a3))) 1))+a2)) - H6))) then (some (decide ((c5 ((c5 ((c5 (F8 .u64 (IntKind.wrap .u64 (c5 (a1+a3))) 1))+a2)) - H6))<a3))) else (some false)).bind fun t3 =>
  bif t3 then
  ((N6 o3 (c5 (F8 .u64 (IntKind.wrap .u64 (c5 (a1+a3))) 1)) (c5 ((c5 ((c5 (F8 .u64 (IntKind.wrap .u64 (c5 (a1+a3))) 1))+a2)) - H6)) a3).bind fun y3 =>
  s6.j11 y3)
  else
  (s6.j11 o3)
def s6.bj6 (N6:(List Blob)→Int→Int→Int→Option (List Blob)) (a1:Int) (a2:Int) (a3:Int) (H6:Int) (o3:List Blob):Option (List Blob) :=
  (bif decide (a1<H6) then (some (decide (H6<(c5 (F8 .u64 (IntKind.wrap .u64 (c5 (a1+a3))) 1))))) else (some false)).bind fun t2 =>
  bif t2 then
  ((N6 o3 a1 H6 (c5 (F8 .u64 (IntKind.wrap .u64 (c5 (a1+a3))) 1))).bind fun y4 =>
  s6.j10 N6 a1 a2 a3 H6 y4)
  else
  (s6.j10 N6 a1 a2 a3 H6 o3)
def s6.am7 (N6:(List Blob)→Int→Int→Int→Option (List Blob)) (a0:List Blob) (a1:Int) (a2:Int) (a3:Int) (H6:Int):Option (List Blob) :=
  (bif decide (H6<a2) then (some (decide (a2<(c5 ((c5 ((c5 (F8 .u64 (IntKind.wrap .u64 (c5 (a1+a3))) 1))+a2)) - H6))))) else (some false)).bind fun t1 =>
  bif t1 then
  ((ai6.f a0 H6 a2 (c5 ((c5 ((c5 (F8 .u64 (IntKind.wrap .u64 (c5 (a1+a3))) 1))+a2)) - H6))).bind fun A0 =>
  s6.bj6 N6 a1 a2 a3 H6 A0)
  else
  (s6.bj6 N6 a1 a2 a3 H6 a0)
def s6.l12 (am7:(List Blob)→Int→Int→Int→Int→Option (List Blob)):Nat→(List Blob)→Int→Int→Int→Int→Int→Option (List Blob)
  | 0,_,_,_,_,_,_=>none
  | k+1,a0,a1,a2,a3,H6,ao1 =>
    bif decide (H6<ao1) then
    ((o7 a0 (c5 ((c5 ((c5 ((c5 (F8 .u64 (IntKind.wrap .u64 (c5 (a1+a3))) 1))+a2)) - 1)) - (c5 (F8 .u64 (IntKind.wrap .u64 (c5 (H6+ao1))) 1))))).bind fun x11 =>
    (o7 a0 (c5 (F8 .u64 (IntKind.wrap .u64 (c5 (H6+ao1))) 1))).bind fun x12 =>
    (aX4.f x11 x12).bind fun G0 =>
    bif !(decide (G0<0)) then
    ((s6.l12 am7 k) a0 a1 a2 a3 (c5 ((c5 (F8 .u64 (IntKind.wrap .u64 (c5 (H6+ao1))) 1))+1)) ao1)
    else
    ((s6.l12 am7 k) a0 a1 a2 a3 H6 (c5 (F8 .u64 (IntKind.wrap .u64 (c5 (H6+ao1))) 1))))
    else
    (am7 a0 a1 a2 a3 H6)
def s6.bj7 (N6:(List Blob)→Int→Int→Int→Option (List Blob)) (a0:List Blob) (a1:Int) (a2:Int) (a3:Int) (H6:Int) (ao1:Int):Option (List Blob) :=
  s6.l12 (s6.am7 N6) n8 a0 a1 a2 a3 H6 ao1
def s6.g (N6:(List Blob)→Int→Int→Int→Option (List Blob)) (a0:List Blob) (a1:Int) (a2:Int) (a3:Int):Option (List Blob) :=
  bif (c5 (a2 - a1)) == 1 then
  (s6.l3 s6.e1 n8 a0 a1 a2 a3)
  else
  (bif (c5 (a3 - a2)) == 1 then
  (s6.l6 s6.S2 n8 a0 a2 a1 a2)
  else
  (bif decide ((c5 (F8 .u64 (IntKind.wrap .u64 (c5 (a1+a3))) 1))<a2) then
  (s6.bj7 N6 a0 a1 a2 a3 (c5 ((c5 ((c5 (F8 .u64 (IntKind.wrap .u64 (c5 (a1+a3))) 1))+a2)) - a3)) (c5 (F8 .u64 (IntKind.wrap .u64 (c5 (a1+a3))) 1)))
  else
  (s6.bj7 N6 a0 a1 a2 a3 a1 a2)))
def s6.fk:Nat→(List Blob)→Int→Int→Int→Option (List Blob)
  | 0,_,_,_,_=>none
  | k+1,a0,a1,a2,a3=>s6.g (s6.fk k) a0 a1 a2 a3
def s6.f (a0:List Blob) (a1:Int) (a2:Int) (a3:Int):Option (List Blob):=s6.fk n8 a0 a1 a2 a3
def I4.ap0 (K5:Int→(List Blob)→Int→Option (List Blob)) (a1:Int) (N7:Int) (o3:List Blob):Option (List Blob) :=
  K5 a1 o3 (c5 (N7*2))
def I4.S7 (K5:Int→(List Blob)→Int→Option (List Blob)) (a1:Int) (o3:List Blob) (N7:Int) (V3:Int):Option (List Blob) :=
  bif decide ((c5 (V3+N7))<a1) then
  ((s6.f o3 V3 (c5 (V3+N7)) a1).bind fun y2 =>
  I4.ap0 K5 a1 N7 y2)
  else
  (I4.ap0 K5 a1 N7 o3)
def I4.l5 (S7:Int→(List Blob)→Int→Int→Option (List Blob)):Nat→Int→Int→(List Blob)→Int→Int→Option (List Blob)
  | 0,_,_,_,_,_=>none
  | k+1,a1,N7,o3,V3,ak5 =>
    bif decide (ak5≤a1) then
    ((s6.f o3 V3 (c5 (V3+N7)) ak5).bind fun y3 =>
    (I4.l5 S7 k) a1 N7 y3 ak5 (c5 (ak5+(c5 (2*N7)))))
    else
    (S7 a1 o3 N7 V3)
def I4.l2:Nat→Int→(List Blob)→Int→Option (List Blob)
  | 0,_,_,_=>none
  | k+1,a1,o3,N7 =>
    bif decide (N7<a1) then
    (I4.l5 (I4.S7 ((I4.l2 k))) n8 a1 N7 o3 0 (c5 (2*N7)))
    else
    (some o3)
def I4.e1 (a1:Int) (o3:List Blob) (V3:Int):Option (List Blob) :=
  (U4.f o3 V3 a1).bind fun y1 =>
  I4.l2 n8 a1 y1 20
def I4.l6 (e1:Int→(List Blob)→Int→Option (List Blob)):Nat→Int→(List Blob)→Int→Int→Option (List Blob)
  | 0,_,_,_,_=>none
  | k+1,a1,o3,V3,ak5 =>
    bif decide (ak5≤a1) then
    ((U4.f o3 V3 ak5).bind fun y4 =>
    (I4.l6 e1 k) a1 y4 ak5 (c5 (ak5+20)))
    else
    (e1 a1 o3 V3)
def I4.f (a0:List Blob) (a1:Int):Option (List Blob) :=
  I4.l6 I4.e1 n8 a1 a0 0 20
def bs1.f (a0:List Blob):Option (List Blob) :=
  (I4.f a0 (a0.length:Int)).bind fun y1 =>
  some y1
def bj1.f (a0:Cache) (a1:Int):Option (List Blob) :=
  (bj4.f a0.U).bind fun y1 =>
  (X3.f y1 a1).bind fun y2 =>
  (bs1.f y2).bind fun y3 =>
  some y3
def ac0.e1 (ar6:Int):Option Int :=
  some ar6
def ac0.l2 (e1:Int→Option Int):Nat→Cache→Int→Int→Option Int
  | 0,_,_,_=>none
  | k+1,a0,ar6,v9 =>
    bif decide (v9<(a0.U.length:Int)) then
    ((o7 a0.U v9).bind fun x1 =>
    (ac0.l2 e1 k) a0 (c5 (ar6+x1.j4)) (c5 (v9+1)))
    else
    (e1 ar6)
def ac0.f (a0:Cache):Option Int :=
  ac0.l2 ac0.e1 n8 a0 0 0
def bG2.f (a0:List Blob):Option Int :=
  (ac0.f (⟨0,0,a0,([]:List Entry)⟩:Cache)).bind fun y1 =>
  some y1
def bp8.f (a0:Blob) (a1:List (ByteArray × Bool)):Option Bool :=
  some (aq3 a1 a0.b7 false)
def ao9.e1 :Option Int :=
  some (-1)
def ao9.l2 (e1:Option Int):Nat→(List Blob)→(List (ByteArray × Bool))→Int→Option Int
  | 0,_,_,_=>none
  | k+1,a0,D9,v8 =>
    bif decide (v8<(a0.length:Int)) then
    ((o7 a0 v8).bind fun x1 =>
    (bp8.f x1 D9).bind fun y1 =>
    bif y1 then
    (some v8)
    else
    ((ao9.l2 e1 k) a0 D9 (c5 (v8+1))))
    else
    (e1)
def ao9.f (a0:List Blob) (D9:List (ByteArray × Bool)):Option Int :=
  ao9.l2 ao9.e1 n8 a0 D9 0
def X1.e1 (z1:List Blob) (n7:Int):Option (List Blob) :=
  G5 (decide ((0:Int)≤n7)&&decide (n7≤((z1.length:Nat):Int))) (
  G5 (decide ((0:Int)≤n7)&&decide (n7≤((z1.length:Nat):Int))) (
  some ((z1.take n7.toNat++List.replicate (z1.length - n7.toNat) (⟨ByteArray.empty,0,0,0,0⟩:Blob)).take n7.toNat)))
def X1.j3 (K5:(List (ByteArray × Bool))→(List Blob)→Int→Int→Option (List Blob)) (D9:List (ByteArray × Bool)) (R7:Int) (z1:List Blob) (n7:Int):Option (List Blob) :=
  K5 D9 z1 n7 (c5 (R7+1))
def X1.l2 (e1:(List Blob)→Int→Option (List Blob)):Nat→(List (ByteArray × Bool))→(List Blob)→Int→Int→Option (List Blob)
  | 0,_,_,_,_=>none
  | k+1,D9,z1,n7,R7 =>
    bif decide (R7<(z1.length:Int)) then
    ((o7 z1 R7).bind fun x1 =>
    (bp8.f x1 D9).bind fun y2 =>
    bif !y2 then
    ((o7 z1 n7).bind fun x2 =>
    X1.j3 ((X1.l2 e1 k)) D9 R7 (z1.set n7.toNat x1) (c5 (n7+1)))
    else
    (X1.j3 ((X1.l2 e1 k)) D9 R7 z1 n7))
    else
    (e1 z1 n7)
def X1.f (a0:List Blob) (D9:List (ByteArray × Bool)):Option (List Blob) :=
  (ao9.f a0 D9).bind fun y1 =>
  bif y1 == (-1) then
  (some a0)
  else
  (X1.l2 X1.e1 n8 D9 a0 y1 (c5 (y1+1)))
def bE6.f (a0:List Blob) (a1:Int) (a2:List Blob):Option (List Blob):=G5 (decide ((0:Int)≤a1)&&(decide (a1≤(a0.length:Int))&&(decide (0<a2.length)&&room a0.length a2.length 48))) (some (a0.take a1.toNat++a2++a0.drop a1.toNat))
def R4.j3 (al8:Cache→(List ByteArray)→Int→Bool→Bool→(List Blob)→Int→Option Cache) (a0:Cache) (a1:List ByteArray) (a2:Int) (a3:Bool) (a4:Bool) (Y2:Int) (k9:List Blob):Option Cache :=
  al8 a0 a1 a2 a3 a4 k9 (c5 (Y2+1))
def R4.j2 (al8:Cache→(List ByteArray)→Int→Bool→Bool→(List Blob)→Int→Option Cache) (a0:Cache) (a1:List ByteArray) (a2:Int) (a3:Bool) (a4:Bool) (Y2:Int) (y1:Int × Bool) (k9:List Blob):Option Cache :=
  (bif y1.2 then (some a4) else (some false)).bind fun t2 =>
  bif t2 then
  ((o7 k9 y1.1).bind fun x2 =>
  R4.j3 al8 a0 a1 a2 a3 a4 Y2 (k9.set y1.1.toNat (⟨x2.b7,x2.j4,x2.Used,max2 x2.u6 (c5 (a2+a0.c4)),x2.q4⟩:Blob)))
  else
  (R4.j3 al8 a0 a1 a2 a3 a4 Y2 k9)
def R4.l1:Nat→Cache→(List ByteArray)→Int→Bool→Bool→(List Blob)→Int→Option Cache
  | 0,_,_,_,_,_,_,_=>none
  | k+1,a0,a1,a2,a3,a4,k9,Y2 =>
    bif decide (Y2<(a1.length:Int)) then
    ((o7 a1 Y2).bind fun x1 =>
    (aE1.f (⟨a0.Room,a0.c4,k9,a0.Entries⟩:Cache) x1).bind fun y1 =>
    (bif y1.2 then (some a3) else (some false)).bind fun t1 =>
    bif t1 then
    ((o7 k9 y1.1).bind fun x3 =>
    R4.j2 ((R4.l1 k)) a0 a1 a2 a3 a4 Y2 y1 (k9.set y1.1.toNat (⟨x3.b7,x3.j4,a2,x3.u6,x3.q4⟩:Blob)))
    else
    (R4.j2 ((R4.l1 k)) a0 a1 a2 a3 a4 Y2 y1 k9))
    else
    (some (⟨a0.Room,a0.c4,k9,a0.Entries⟩:Cache))
def R4.f (a0:Cache) (a1:List ByteArray) (a2:Int) (a3:Bool) (a4:Bool):Option Cache :=
  R4.l1 n8 a0 a1 a2 a3 a4 a0.U 0
def af3.e1 (a0:Cache) (at5:List (ByteArray × Bool)):Option Cache :=
  (X1.f a0.U at5).bind fun y1 =>
  some (⟨a0.Room,a0.c4,y1,a0.Entries⟩:Cache)
def af3.l2 (e1:Cache→(List (ByteArray × Bool))→Option Cache):Nat→Cache→(List ByteArray)→(List (ByteArray × Bool))→Int→Option Cache
  | 0,_,_,_,_=>none
  | k+1,a0,a1,at5,v10 =>
    bif decide (v10<(a1.length:Int)) then
    ((o7 a1 v10).bind fun x1 =>
    (af3.l2 e1 k) a0 a1 (ao5 at5 x1 true) (c5 (v10+1)))
    else
    (e1 a0 at5)
def af3.f (a0:Cache) (a1:List ByteArray):Option Cache :=
  af3.l2 af3.e1 n8 a0 a1 ([]:List (ByteArray × Bool)) 0
def af4.e1 (a0:Cache) (M0:List ByteArray):Option ((List ByteArray) × Bool × Cache) :=
  (af3.f (⟨a0.Room,a0.c4,a0.U,a0.Entries⟩:Cache) M0).bind fun y4 =>
  some (M0,true,(⟨y4.Room,y4.c4,y4.U,y4.Entries⟩:Cache))
def af4.l2 (e1:Cache→(List ByteArray)→Option ((List ByteArray) × Bool × Cache)):Nat→Cache→(List Blob)→Int→(List ByteArray)→Int→Option ((List ByteArray) × Bool × Cache)
  | 0,_,_,_,_,_=>none
  | k+1,a0,y1,aY7,M0,v30 =>
    bif decide (v30<(y1.length:Int)) then
    ((o7 y1 v30).bind fun x1 =>
    bif decide (aY7≤0) then
    (e1 a0 M0)
    else
    (G5 (room M0.length 1 16) (
    (af4.l2 e1 k) a0 y1 (c5 (aY7 - x1.j4)) (M0++([x1.b7]:List ByteArray)) (c5 (v30+1)))))
    else
    (e1 a0 M0)
def af4.f (a0:Cache) (a1:Int) (a2:Int):Option ((List ByteArray) × Bool × Cache) :=
  (bj1.f (⟨a0.Room,a0.c4,a0.U,a0.Entries⟩:Cache) a2).bind fun y1 =>
  (ac0.f (⟨a0.Room,a0.c4,a0.U,a0.Entries⟩:Cache)).bind fun y2 =>
  (bG2.f y1).bind fun y3 =>
  bif decide (y3<(c5 (y2 - a1))) then
  (some (([]:List ByteArray),false,(⟨a0.Room,a0.c4,a0.U,a0.Entries⟩:Cache)))
  else
  (af4.l2 af4.e1 n8 a0 y1 (c5 (y2 - a1)) ([]:List ByteArray) 0)
def aS3.f (a0:Cache) (a1:k7):Option (k6 × Int × Cache) :=
  (aE1.f (⟨a0.Room,a0.c4,a0.U,a0.Entries⟩:Cache) a1.b7).bind fun y1 =>
  bif y1.2 then
  ((o7 a0.U y1.1).bind fun x1 =>
  bif x1.j4 != a1.j4 then
  (some ((⟨false,([]:List ByteArray),([]:List ByteArray)⟩:k6),12,(⟨a0.Room,a0.c4,a0.U,a0.Entries⟩:Cache)))
  else
  ((R4.f (⟨a0.Room,a0.c4,a0.U,a0.Entries⟩:Cache) ([a1.b7]:List ByteArray) a1.At true true).bind fun y2 =>
  some ((⟨true,([]:List ByteArray),([]:List ByteArray)⟩:k6),0,(⟨y2.Room,y2.c4,y2.U,y2.Entries⟩:Cache))))
  else
  ((af4.f (⟨a0.Room,a0.c4,a0.U,a0.Entries⟩:Cache) (c5 (a0.Room - a1.j4)) a1.At).bind fun y3 =>
  bif !y3.2.1 then
  (some ((⟨false,([]:List ByteArray),([]:List ByteArray)⟩:k6),0,(⟨y3.2.2.Room,y3.2.2.c4,y3.2.2.U,y3.2.2.Entries⟩:Cache)))
  else
  (bif decide (3000≤(y3.2.2.U.length:Int)) then
  (some ((⟨false,([]:List ByteArray),([]:List ByteArray)⟩:k6),16,(⟨y3.2.2.Room,y3.2.2.c4,y3.2.2.U,y3.2.2.Entries⟩:Cache)))
  else
  ((aE1.f (⟨y3.2.2.Room,y3.2.2.c4,y3.2.2.U,y3.2.2.Entries⟩:Cache) a1.b7).bind fun y4 =>
  (bE6.f y3.2.2.U y4.1 ([(⟨a1.b7,a1.j4,a1.At,c5 (a1.At+y3.2.2.c4),0⟩:Blob)]:List Blob)).bind fun A0 =>
  some ((⟨true,([]:List ByteArray),y3.1⟩:k6),0,(⟨y3.2.2.Room,y3.2.2.c4,A0,y3.2.2.Entries⟩:Cache)))))
def U8.e1 (E9:List ByteArray):Option (List ByteArray) :=
  some E9
def U8.j3 (K5:Cache→(List ByteArray)→(List ByteArray)→Int→Option (List ByteArray)) (a0:Cache) (a1:List ByteArray) (v12:Int) (E9:List ByteArray):Option (List ByteArray) :=
  K5 a0 a1 E9 (c5 (v12+1))
def U8.l2 (e1:(List ByteArray)→Option (List ByteArray)):Nat→Cache→(List ByteArray)→(List ByteArray)→Int→Option (List ByteArray)
  | 0,_,_,_,_=>none
  | k+1,a0,a1,E9,v12 =>
    bif decide (v12<(a1.length:Int)) then
    ((o7 a1 v12).bind fun x1 =>
    (aE1.f a0 x1).bind fun y1 =>
    bif !y1.2 then
    (G5 (room E9.length 1 16) (
    U8.j3 ((U8.l2 e1 k)) a0 a1 v12 (E9++([x1]:List ByteArray))))
    else
    (U8.j3 ((U8.l2 e1 k)) a0 a1 v12 E9))
    else
    (e1 E9)
def U8.f (a0:Cache) (a1:List ByteArray):Option (List ByteArray) :=
  U8.l2 U8.e1 n8 a0 a1 ([]:List ByteArray) 0
def az2.j1 (a0:Cache) (k9:List Blob):Option (k6 × Int × Cache) :=
  some ((⟨true,([]:List ByteArray),([]:List ByteArray)⟩:k6),0,(⟨a0.Room,a0.c4,k9,a0.Entries⟩:Cache))
def az2.f (a0:Cache) (a1:k7):Option (k6 × Int × Cache) :=
  (aE1.f (⟨a0.Room,a0.c4,a0.U,a0.Entries⟩:Cache) a1.b7).bind fun y1 =>
  (bif !y1.2 then (some true) else (bif a1.Kind == 5 then ((o7 a0.U y1.1).bind fun x1 =>
  some (x1.q4 == 0)) else (some false))).bind fun t1 =>
  bif t1 then
  (some ((⟨false,([]:List ByteArray),([]:List ByteArray)⟩:k6),0,(⟨a0.Room,a0.c4,a0.U,a0.Entries⟩:Cache)))
  else
  (bif a1.Kind == 5 then
  ((o7 a0.U y1.1).bind fun x2 =>
  az2.j1 a0 (a0.U.set y1.1.toNat (⟨x2.b7,x2.j4,x2.Used,x2.u6,c5 (x2.q4 - 1)⟩:Blob)))
  else
  ((o7 a0.U y1.1).bind fun x3 =>
  bif decide (3000≤x3.q4) then
  (some ((⟨false,([]:List ByteArray),([]:List ByteArray)⟩:k6),16,(⟨a0.Room,a0.c4,a0.U,a0.Entries⟩:Cache)))
  else
  ((o7 a0.U y1.1).bind fun C2 =>
  az2.j1 a0 (a0.U.set y1.1.toNat (⟨C2.b7,C2.j4,C2.Used,C2.u6,c5 (C2.q4+1)⟩:Blob)))))
def bp6.f (a0:Entry) (a1:ByteArray):Option Int :=
  (strings_Compare.f a0.Key a1).bind fun y1 =>
  some y1
def ai1.e1 (a0:List Entry) (a1:ByteArray) (y5:Int):Option (Int × Bool) :=
  (bif decide (y5<(a0.length:Int)) then ((o7 a0 y5).bind fun x1 =>
  (bp6.f x1 a1).bind fun y1 =>
  some (y1 == 0)) else (some false)).bind fun t1 =>
  some (y5,t1)
def ai1.l2 (e1:(List Entry)→ByteArray→Int→Option (Int × Bool)):Nat→(List Entry)→ByteArray→Int→Int→Option (Int × Bool)
  | 0,_,_,_,_=>none
  | k+1,a0,a1,y5,ae7 =>
    bif decide (y5<ae7) then
    ((o7 a0 (c5 (F8 .u64 (IntKind.wrap .u64 (c5 (y5+ae7))) 1))).bind fun x2 =>
    (bp6.f x2 a1).bind fun y2 =>
    bif decide (y2<0) then
    ((ai1.l2 e1 k) a0 a1 (c5 ((c5 (F8 .u64 (IntKind.wrap .u64 (c5 (y5+ae7))) 1))+1)) ae7)
    else
    ((ai1.l2 e1 k) a0 a1 y5 (c5 (F8 .u64 (IntKind.wrap .u64 (c5 (y5+ae7))) 1))))
    else
    (e1 a0 a1 y5)
def ai1.f (a0:List Entry) (a1:ByteArray):Option (Int × Bool) :=
  ai1.l2 ai1.e1 n8 a0 a1 0 (a0.length:Int)
def aW2.f (a0:Cache) (a1:ByteArray):Option (Int × Bool) :=
  (ai1.f a0.Entries a1).bind fun y1 =>
  some (y1.1,y1.2)
def bq4.f (a0:List Entry) (a1:Int) (a2:List Entry):Option (List Entry):=G5 (decide ((0:Int)≤a1)&&(decide (a1≤(a0.length:Int))&&(decide (0<a2.length)&&room a0.length a2.length 48))) (some (a0.take a1.toNat++a2++a0.drop a1.toNat))
def bi4.f (a0:List Entry) (a1 a2:Int):Option (List Entry):=G5 (decide ((0:Int)≤a1)&&(decide (a1≤a2)&&(decide (a2≤(a0.length:Int))&&room a0.length 0 48))) (some (a0.take a1.toNat++a0.drop a2.toNat))
def M9.j1 (a1:k7) (y2:Cache) (y3:List ByteArray) (o4:List Entry) (aU0:Int):Option (k6 × Cache) :=
  (bq4.f o4 aU0 ([(⟨a1.Key,y3,a1.At⟩:Entry)]:List Entry)).bind fun A0 =>
  some ((⟨true,([]:List ByteArray),([]:List ByteArray)⟩:k6),(⟨y2.Room,y2.c4,y2.U,A0⟩:Cache))
def M9.e2 (j1:k7→Cache→(List ByteArray)→(List Entry)→Int→Option (k6 × Cache)) (a1:k7) (y2:Cache) (y3:List ByteArray) (aa1:Int):Option (k6 × Cache) :=
  (bi4.f y2.Entries aa1 (c5 (aa1+1))).bind fun G0 =>
  (aW2.f (⟨y2.Room,y2.c4,y2.U,G0⟩:Cache) a1.Key).bind fun W2 =>
  j1 a1 y2 y3 G0 W2.1
def M9.ap0 (bl6:k7→Cache→(List ByteArray)→Int→Int→Option (k6 × Cache)) (a1:k7) (y2:Cache) (y3:List ByteArray) (v66:Int) (aa1:Int):Option (k6 × Cache) :=
  bl6 a1 y2 y3 aa1 (c5 (v66+1))
def M9.l3 (e2:k7→Cache→(List ByteArray)→Int→Option (k6 × Cache)):Nat→k7→Cache→(List ByteArray)→Int→Int→Option (k6 × Cache)
  | 0,_,_,_,_,_=>none
  | k+1,a1,y2,y3,aa1,v66 =>
    bif decide (v66<(y2.Entries.length:Int)) then
    ((o7 y2.Entries v66).bind fun x2 =>
    (o7 y2.Entries aa1).bind fun x3 =>
    bif decide (x2.Used<x3.Used) then
    (M9.ap0 ((M9.l3 e2 k)) a1 y2 y3 v66 v66)
    else
    (M9.ap0 ((M9.l3 e2 k)) a1 y2 y3 v66 aa1))
    else
    (e2 a1 y2 y3 aa1)
def M9.f (a0:Cache) (a1:k7):Option (k6 × Cache) :=
  (U8.f (⟨a0.Room,a0.c4,a0.U,a0.Entries⟩:Cache) a1.j9).bind fun y1 =>
  bif decide (0<(y1.length:Int)) then
  (some ((⟨false,y1,([]:List ByteArray)⟩:k6),(⟨a0.Room,a0.c4,a0.U,a0.Entries⟩:Cache)))
  else
  ((R4.f (⟨a0.Room,a0.c4,a0.U,a0.Entries⟩:Cache) a1.j9 a1.At true false).bind fun y2 =>
  (slices_Clone_string.f a1.j9).bind fun y3 =>
  (aW2.f (⟨y2.Room,y2.c4,y2.U,y2.Entries⟩:Cache) a1.Key).bind fun y4 =>
  bif y4.2 then
  ((o7 y2.Entries y4.1).bind fun x1 =>
  some ((⟨true,([]:List ByteArray),([]:List ByteArray)⟩:k6),(⟨y2.Room,y2.c4,y2.U,(y2.Entries.set y4.1.toNat (⟨a1.Key,y3,a1.At⟩:Entry))⟩:Cache)))
  else
  (bif decide (1000≤(y2.Entries.length:Int)) then
  (M9.l3 (M9.e2 M9.j1) n8 a1 y2 y3 0 0)
  else
  (M9.j1 a1 y2 y3 y2.Entries y4.1)))
def bi3.f (a0:Cache) (a1:k7):Option (k6 × Cache) :=
  (aW2.f (⟨a0.Room,a0.c4,a0.U,a0.Entries⟩:Cache) a1.Key).bind fun y1 =>
  bif !y1.2 then
  (some ((⟨false,([]:List ByteArray),([]:List ByteArray)⟩:k6),(⟨a0.Room,a0.c4,a0.U,a0.Entries⟩:Cache)))
  else
  ((o7 a0.Entries y1.1).bind fun x1 =>
  (U8.f (⟨a0.Room,a0.c4,a0.U,a0.Entries⟩:Cache) x1.Refs).bind fun y2 =>
  bif decide (0<(y2.length:Int)) then
  ((bi4.f a0.Entries y1.1 (c5 (y1.1+1))).bind fun y3 =>
  some ((⟨false,y2,([]:List ByteArray)⟩:k6),(⟨a0.Room,a0.c4,a0.U,y3⟩:Cache)))
  else
  ((o7 a0.Entries y1.1).bind fun x2 =>
  (R4.f (⟨a0.Room,a0.c4,a0.U,(a0.Entries.set y1.1.toNat (⟨x2.Key,x2.Refs,a1.At⟩:Entry))⟩:Cache) x1.Refs a1.At true true).bind fun y4 =>
  some ((⟨true,([]:List ByteArray),([]:List ByteArray)⟩:k6),(⟨y4.Room,y4.c4,y4.U,y4.Entries⟩:Cache))))
def aj5.j1 (a0:Cache) (a1:k7) (y3:Int × Bool) (v72:Bool):Option (k6 × Int × Cache) :=
  bif v72 then
  ((az2.f (⟨a0.Room,a0.c4,a0.U,a0.Entries⟩:Cache) a1).bind fun O5 =>
  some ((⟨O5.1.x8,O5.1.x5,O5.1.x4⟩:k6),O5.2.1,(⟨O5.2.2.Room,O5.2.2.c4,O5.2.2.U,O5.2.2.Entries⟩:Cache)))
  else
  (bif a1.Kind == 6 then
  ((M9.f (⟨a0.Room,a0.c4,a0.U,a0.Entries⟩:Cache) a1).bind fun Q5 =>
  some ((⟨Q5.1.x8,Q5.1.x5,Q5.1.x4⟩:k6),0,(⟨Q5.2.Room,Q5.2.c4,Q5.2.U,Q5.2.Entries⟩:Cache)))
  else
  (bif a1.Kind == 7 then
  ((bi3.f (⟨a0.Room,a0.c4,a0.U,a0.Entries⟩:Cache) a1).bind fun Q6 =>
  some ((⟨Q6.1.x8,Q6.1.x5,Q6.1.x4⟩:k6),0,(⟨Q6.2.Room,Q6.2.c4,Q6.2.U,Q6.2.Entries⟩:Cache)))
  else
  ((bif !y3.2 then (some true) else ((o7 a0.U y3.1).bind fun x1 =>
  (bh9.f x1 a1.At).bind fun y11 =>
  some y11)).bind fun t1 =>
  bif t1 then
  (some ((⟨false,([]:List ByteArray),([]:List ByteArray)⟩:k6),0,(⟨a0.Room,a0.c4,a0.U,a0.Entries⟩:Cache)))
  else
  ((af3.f (⟨a0.Room,a0.c4,a0.U,a0.Entries⟩:Cache) ([a1.b7]:List ByteArray)).bind fun y12 =>
  some ((⟨true,([]:List ByteArray),([a1.b7]:List ByteArray)⟩:k6),0,(⟨y12.Room,y12.c4,y12.U,y12.Entries⟩:Cache))))))
def aj5.f (a0:Cache) (a1:k7):Option (k6 × Int × Cache) :=
  (ac1.f a1).bind fun y1 =>
  bif y1 != 0 then
  (some ((⟨false,([]:List ByteArray),([]:List ByteArray)⟩:k6),y1,(⟨a0.Room,a0.c4,a0.U,a0.Entries⟩:Cache)))
  else
  ((S8.f (⟨a0.Room,a0.c4,a0.U,a0.Entries⟩:Cache)).bind fun y2 =>
  bif decide (a1.At<y2) then
  (some ((⟨false,([]:List ByteArray),([]:List ByteArray)⟩:k6),11,(⟨a0.Room,a0.c4,a0.U,a0.Entries⟩:Cache)))
  else
  ((aE1.f (⟨a0.Room,a0.c4,a0.U,a0.Entries⟩:Cache) a1.b7).bind fun y3 =>
  bif a1.Kind == 1 then
  ((aS3.f (⟨a0.Room,a0.c4,a0.U,a0.Entries⟩:Cache) a1).bind fun y4 =>
  some ((⟨y4.1.x8,y4.1.x5,y4.1.x4⟩:k6),y4.2.1,(⟨y4.2.2.Room,y4.2.2.c4,y4.2.2.U,y4.2.2.Entries⟩:Cache)))
  else
  (bif a1.Kind == 2 then
  ((R4.f (⟨a0.Room,a0.c4,a0.U,a0.Entries⟩:Cache) ([a1.b7]:List ByteArray) a1.At true true).bind fun A0 =>
  some ((⟨y3.2,([]:List ByteArray),([]:List ByteArray)⟩:k6),0,(⟨A0.Room,A0.c4,A0.U,A0.Entries⟩:Cache)))
  else
  (bif a1.Kind == 3 then
  ((R4.f (⟨a0.Room,a0.c4,a0.U,a0.Entries⟩:Cache) a1.j9 a1.At false true).bind fun G0 =>
  (U8.f (⟨G0.Room,G0.c4,G0.U,G0.Entries⟩:Cache) a1.j9).bind fun W2 =>
  some ((⟨(W2.length:Int) == 0,W2,([]:List ByteArray)⟩:k6),0,(⟨G0.Room,G0.c4,G0.U,G0.Entries⟩:Cache)))
  else
  (bif a1.Kind == 4 then
  (aj5.j1 a0 a1 y3 (a1.Kind == 4))
  else
  (aj5.j1 a0 a1 y3 (a1.Kind == 5)))))))
def bF8.f (a0:Cache) (a1:k7) (a2:k6) (a3:List k6):Option (List k6) :=
  G5 (room a3.length 1 56) (
  some (a3++([a2]:List k6)))
def al4.e1 (I7:List k6) (F6:Int) (F7:Int) (E2:List Blob) (E3:List Entry):Option (Cache × Int × (List k6)) :=
  some ((⟨F6,F7,E2,E3⟩:Cache),0,I7)
def al4.l2 (e1:(List k6)→Int→Int→(List Blob)→(List Entry)→Option (Cache × Int × (List k6))):Nat→(List k7)→(List k6)→Int→Int→(List Blob)→(List Entry)→Int→Option (Cache × Int × (List k6))
  | 0,_,_,_,_,_,_,_=>none
  | k+1,a1,I7,F6,F7,E2,E3,v27 =>
    bif decide (v27<(a1.length:Int)) then
    ((o7 a1 v27).bind fun x1 =>
    (aj5.f (⟨F6,F7,E2,E3⟩:Cache) x1).bind fun y3 =>
    bif y3.2.1 != 0 then
    (some ((⟨0,0,([]:List Blob),([]:List Entry)⟩:Cache),y3.2.1,I7))
    else
    ((bF8.f (⟨y3.2.2.Room,y3.2.2.c4,y3.2.2.U,y3.2.2.Entries⟩:Cache) x1 (⟨y3.1.x8,y3.1.x5,y3.1.x4⟩:k6) I7).bind fun y4 =>
    (al4.l2 e1 k) a1 y4 y3.2.2.Room y3.2.2.c4 y3.2.2.U y3.2.2.Entries (c5 (v27+1))))
    else
    (e1 I7 F6 F7 E2 E3)
def al4.f (a0:Cache) (a1:List k7) (Y4:List k6):Option (Cache × Int × (List k6)) :=
  (ae1.f a0).bind fun y1 =>
  bif y1 != 0 then
  (some ((⟨0,0,([]:List Blob),([]:List Entry)⟩:Cache),y1,Y4))
  else
  (bif decide (3000<(a1.length:Int)) then
  (some ((⟨0,0,([]:List Blob),([]:List Entry)⟩:Cache),2,Y4))
  else
  ((ag5.f a0).bind fun y2 =>
  al4.l2 al4.e1 n8 a1 Y4 y2.Room y2.c4 y2.U y2.Entries 0))
def bc4.f (a0:Cache) (a1:List k7):Option (Cache × (List k6) × Int) :=
  (al4.f a0 a1 ([]:List k6)).bind fun y1 =>
  bif y1.2.1 != 0 then
  (some ((⟨0,0,([]:List Blob),([]:List Entry)⟩:Cache),([]:List k6),y1.2.1))
  else
  (some ((⟨y1.1.Room,y1.1.c4,y1.1.U,y1.1.Entries⟩:Cache),y1.2.2,0))
def aB4.f (a0:Int) (a1:Int) (a2:Int):Option Bool :=
  (bif decide (a1≤a0) then (some (decide (a0≤a2))) else (some false)).bind fun t1 =>
  some t1
def ag4.e1 (K2:Int):Option Int :=
  some K2
def ag4.l2 (e1:Int→Option Int):Nat→(List Blob)→Int→Int→Option Int
  | 0,_,_,_=>none
  | k+1,a0,K2,U0 =>
    bif decide (U0<(a0.length:Int)) then
    ((o7 a0 U0).bind fun x1 =>
    (ag4.l2 e1 k) a0 (c5 (K2+x1.j4)) (c5 (U0+1)))
    else
    (e1 K2)
def ag4.f (a0:List Blob):Option Int :=
  ag4.l2 ag4.e1 n8 a0 0 0
def ab9.e1 (a0:ByteArray):Option Bool :=
  some ((a0.size:Int) == 16)
def ab9.l2 (e1:ByteArray→Option Bool):Nat→ByteArray→Int→Option Bool
  | 0,_,_=>none
  | k+1,a0,J8 =>
    bif decide (J8<(a0.size:Int)) then
    ((G5 (decide ((0:Int)≤J8)&&decide (J8<(a0.size:Int))) (
    bif decide (48≤(bt a0 J8)) then (G5 (decide ((0:Int)≤J8)&&decide (J8<(a0.size:Int))) (
    bif decide ((bt a0 J8)≤57) then (some false) else (G5 (decide ((0:Int)≤J8)&&decide (J8<(a0.size:Int))) (
    bif decide (97≤(bt a0 J8)) then (G5 (decide ((0:Int)≤J8)&&decide (J8<(a0.size:Int))) (
    some (!(decide ((bt a0 J8)≤102))))) else (some true))))) else (G5 (decide ((0:Int)≤J8)&&decide (J8<(a0.size:Int))) (
    bif decide (97≤(bt a0 J8)) then (G5 (decide ((0:Int)≤J8)&&decide (J8<(a0.size:Int))) (
    some (!(decide ((bt a0 J8)≤102))))) else (some true))))).bind fun t1 =>
    bif t1 then
    (some false)
    else
    ((ab9.l2 e1 k) a0 (c5 (J8+1))))
    else
    (e1 a0)
def ab9.f (a0:ByteArray):Option Bool :=
  ab9.l2 ab9.e1 n8 a0 0
def aj3.e1 :Option Int :=
  some 0
def aj3.l2 (e1:Option Int):Nat→(List ByteArray)→Int→Option Int
  | 0,_,_=>none
  | k+1,a0,J8 =>
    bif decide (J8<(a0.length:Int)) then
    ((o7 a0 J8).bind fun x1 =>
    (ab9.f x1).bind fun y1 =>
    bif !y1 then
    (some 3)
    else
    ((bif decide (0<J8) then ((o7 a0 J8).bind fun x2 =>
    (o7 a0 (c5 (J8 - 1))).bind fun x3 =>
    some (x9 x2 x3||p4 x2 x3)) else (some false)).bind fun t1 =>
    bif t1 then
    (some 8)
    else
    ((aj3.l2 e1 k) a0 (c5 (J8+1)))))
    else
    (e1)
def aj3.f (a0:List ByteArray):Option Int :=
  aj3.l2 aj3.e1 n8 a0 0
def Q1.e2 :Option Int :=
  some 0
def Q1.l3 (e2:Option Int):Nat→Cache→Int→Option Int
  | 0,_,_=>none
  | k+1,a0,n7 =>
    bif decide (n7<(a0.Entries.length:Int)) then
    ((o7 a0.Entries n7).bind fun x1 =>
    (ab9.f x1.Key).bind fun y4 =>
    bif !y4 then
    (some 3)
    else
    (bif decide (200<(x1.Refs.length:Int)) then
    (some 2)
    else
    ((aj3.f x1.Refs).bind fun A0 =>
    bif A0 != 0 then
    (some A0)
    else
    ((aB4.f x1.Used 0 1000000000).bind fun G0 =>
    bif !G0 then
    (some 1)
    else
    ((bif decide (0<n7) then ((o7 a0.Entries (c5 (n7 - 1))).bind fun x2 =>
    some (x9 x1.Key x2.Key||p4 x1.Key x2.Key)) else (some false)).bind fun t2 =>
    bif t2 then
    (some 8)
    else
    ((Q1.l3 e2 k) a0 (c5 (n7+1))))))))
    else
    (e2)
def Q1.e1 (a0:Cache):Option Int :=
  (ag4.f a0.U).bind fun y3 =>
  bif decide (a0.Room<y3) then
  (some 16)
  else
  (bif decide (1000<(a0.Entries.length:Int)) then
  (some 2)
  else
  (Q1.l3 Q1.e2 n8 a0 0))
def Q1.l4 (e1:Cache→Option Int):Nat→Cache→Int→Option Int
  | 0,_,_=>none
  | k+1,a0,J8 =>
    bif decide (J8<(a0.U.length:Int)) then
    ((o7 a0.U J8).bind fun x3 =>
    (ab9.f x3.b7).bind fun W2 =>
    bif !W2 then
    (some 3)
    else
    (((aB4.f x3.j4 0 100000000).bind fun O5 =>
    bif !O5 then (some true) else ((aB4.f x3.Used 0 1000000000).bind fun Q5 =>
    bif !Q5 then (some true) else ((aB4.f x3.u6 0 1001000000).bind fun Q6 =>
    bif !Q6 then (some true) else ((aB4.f x3.q4 0 3000).bind fun y11 =>
    some (!y11))))).bind fun t3 =>
    bif t3 then
    (some 1)
    else
    ((bif decide (0<J8) then ((o7 a0.U (c5 (J8 - 1))).bind fun C2 =>
    some (x9 x3.b7 C2.b7||p4 x3.b7 C2.b7)) else (some false)).bind fun t4 =>
    bif t4 then
    (some 8)
    else
    ((Q1.l4 e1 k) a0 (c5 (J8+1))))))
    else
    (e1 a0)
def Q1.f (a0:Cache):Option Int :=
  ((aB4.f a0.Room 0 1000000000).bind fun y1 =>
  bif !y1 then (some true) else ((aB4.f a0.c4 0 1000000).bind fun y2 =>
  some (!y2))).bind fun t1 =>
  bif t1 then
  (some 1)
  else
  (bif decide (3000<(a0.U.length:Int)) then
  (some 2)
  else
  (Q1.l4 Q1.e1 n8 a0 0))
def al6.e1 (a0:Cache) (ag1:List Entry):Option Cache :=
  some (⟨a0.Room,a0.c4,(([]:List Blob)++a0.U),ag1⟩:Cache)
def al6.l2 (e1:Cache→(List Entry)→Option Cache):Nat→Cache→(List Entry)→Int→Option Cache
  | 0,_,_,_=>none
  | k+1,a0,ag1,U0 =>
    bif decide (U0<(a0.Entries.length:Int)) then
    ((o7 a0.Entries U0).bind fun x1 =>
    (o7 a0.Entries U0).bind fun x2 =>
    G5 (room 0 x2.Refs.length 16) (
    G5 (room ag1.length 1 48) (
    (al6.l2 e1 k) a0 (ag1++([(⟨x1.Key,(([]:List ByteArray)++x2.Refs),x1.Used⟩:Entry)]:List Entry)) (c5 (U0+1)))))
    else
    (e1 a0 ag1)
def al6.f (a0:Cache):Option Cache :=
  G5 (room 0 a0.U.length 48) (
  al6.l2 al6.e1 n8 a0 ([]:List Entry) 0)
def am8.j1 (a0:k7) (bl9:Bool) (aZ1:Bool) (aI5:Bool) (aq1:Bool):Option Bool :=
  (bif bl9 then (bif aZ1 then (bif aI5 then (bif aq1 then (some true) else (some (a0.j4 == 0))) else (bif p4 a0.Key ({ data:=#[] }:ByteArray) then (bif aq1 then (some true) else (some (a0.j4 == 0))) else (some false))) else (bif (a0.j9.length:Int) == 0 then (bif aI5 then (bif aq1 then (some true) else (some (a0.j4 == 0))) else (bif p4 a0.Key ({ data:=#[] }:ByteArray) then (bif aq1 then (some true) else (some (a0.j4 == 0))) else (some false))) else (some false))) else (bif p4 a0.b7 ({ data:=#[] }:ByteArray) then (bif aZ1 then (bif aI5 then (bif aq1 then (some true) else (some (a0.j4 == 0))) else (bif p4 a0.Key ({ data:=#[] }:ByteArray) then (bif aq1 then (some true) else (some (a0.j4 == 0))) else (some false))) else (bif (a0.j9.length:Int) == 0 then (bif aI5 then (bif aq1 then (some true) else (some (a0.j4 == 0))) else (bif p4 a0.Key ({ data:=#[] }:ByteArray) then (bif aq1 then (some true) else (some (a0.j4 == 0))) else (some false))) else (some false))) else (some false))).bind fun t1 =>
  some t1
def am8.f (a0:k7):Option Bool :=
  bif a0.Kind == 1 then
  (am8.j1 a0 true false false true)
  else
  (bif a0.Kind == 3 then
  (am8.j1 a0 false true false false)
  else
  (bif a0.Kind == 6 then
  (am8.j1 a0 false true true false)
  else
  (bif a0.Kind == 7 then
  (am8.j1 a0 false false true false)
  else
  (am8.j1 a0 true false false false))))
def V8.e1 :Option Int :=
  some (-1)
def V8.l2 (e1:Option Int):Nat→Cache→ByteArray→Int→Option Int
  | 0,_,_,_=>none
  | k+1,a0,a1,n7 =>
    bif decide (n7<(a0.U.length:Int)) then
    ((o7 a0.U n7).bind fun x1 =>
    bif p4 x1.b7 a1 then
    (some n7)
    else
    ((V8.l2 e1 k) a0 a1 (c5 (n7+1))))
    else
    (e1)
def V8.f (a0:Cache) (a1:ByteArray):Option Int :=
  V8.l2 V8.e1 n8 a0 a1 0
def Q0.e2 (a0:Cache) (a1:k7):Option Int :=
  (V8.f a0 a1.b7).bind fun Q5 =>
  (bif a1.Kind == 1 then (bif decide (0≤Q5) then ((o7 a0.U Q5).bind fun x1 =>
  some (x1.j4 != a1.j4)) else (some false)) else (some false)).bind fun t5 =>
  bif t5 then
  (some 12)
  else
  ((V8.f a0 a1.b7).bind fun Q6 =>
  (bif a1.Kind == 4 then (bif decide (0≤Q6) then ((o7 a0.U Q6).bind fun x2 =>
  some (x2.q4 == 3000)) else (some false)) else (some false)).bind fun t6 =>
  bif t6 then
  (some 16)
  else
  (some 0))
def Q0.l3 (e2:Cache→k7→Option Int):Nat→Cache→k7→Int→Option Int
  | 0,_,_,_=>none
  | k+1,a0,a1,y5 =>
    bif decide (y5<(a0.Entries.length:Int)) then
    ((o7 a0.Entries y5).bind fun x3 =>
    bif decide (a1.At<x3.Used) then
    (some 11)
    else
    ((Q0.l3 e2 k) a0 a1 (c5 (y5+1))))
    else
    (e2 a0 a1)
def Q0.e1 (a0:Cache) (a1:k7):Option Int :=
  Q0.l3 Q0.e2 n8 a0 a1 0
def Q0.l4 (e1:Cache→k7→Option Int):Nat→Cache→k7→Int→Option Int
  | 0,_,_,_=>none
  | k+1,a0,a1,M3 =>
    bif decide (M3<(a0.U.length:Int)) then
    ((o7 a0.U M3).bind fun C2 =>
    bif decide (a1.At<C2.Used) then
    (some 11)
    else
    ((Q0.l4 e1 k) a0 a1 (c5 (M3+1))))
    else
    (e1 a0 a1)
def Q0.f (a0:Cache) (a1:k7):Option Int :=
  (aB4.f a1.Kind 1 8).bind fun y1 =>
  bif !y1 then
  (some 4)
  else
  ((am8.f a1).bind fun y2 =>
  bif !y2 then
  (some 3)
  else
  ((bif a1.Kind == 6 then (some true) else (some (a1.Kind == 7))).bind fun t1 =>
  (bif !t1 then (some (a1.Kind != 3)) else (some false)).bind fun t2 =>
  (bif t2 then ((ab9.f a1.b7).bind fun y3 =>
  bif !y3 then (some true) else (bif t1 then ((ab9.f a1.Key).bind fun y4 =>
  some (!y4)) else (some false))) else (bif t1 then ((ab9.f a1.Key).bind fun A0 =>
  some (!A0)) else (some false))).bind fun t3 =>
  bif t3 then
  (some 3)
  else
  (bif decide (200<(a1.j9.length:Int)) then
  (some 2)
  else
  ((aj3.f a1.j9).bind fun G0 =>
  bif G0 != 0 then
  (some G0)
  else
  (((aB4.f a1.j4 0 100000000).bind fun W2 =>
  bif !W2 then (some true) else ((aB4.f a1.At 0 1000000000).bind fun O5 =>
  some (!O5))).bind fun t4 =>
  bif t4 then
  (some 1)
  else
  (Q0.l4 Q0.e1 n8 a0 a1 0))))))
def bc5.f (a0:Blob) (a1:Int):Option Bool :=
  (bif decide (0<a0.q4) then (some true) else (some (decide (a1<a0.u6)))).bind fun t1 =>
  some t1
def E5.e2 (ah6:List ByteArray):Option (List ByteArray) :=
  some ah6
def E5.l3 (e2:(List ByteArray)→Option (List ByteArray)):Nat→(List Blob)→(List ByteArray)→Int→Option (List ByteArray)
  | 0,_,_,_=>none
  | k+1,C0,ah6,aU4 =>
    bif decide (aU4<(C0.length:Int)) then
    ((o7 C0 aU4).bind fun x1 =>
    G5 (room ah6.length 1 16) (
    (E5.l3 e2 k) C0 (ah6++([x1.b7]:List ByteArray)) (c5 (aU4+1))))
    else
    (e2 ah6)
def E5.e1 (C0:List Blob):Option (List ByteArray) :=
  E5.l3 E5.e2 n8 C0 ([]:List ByteArray) 0
def E5.j5 (aG3:Cache→Int→(List Blob)→Int→Option (List ByteArray)) (a0:Cache) (a1:Int) (D1:Int) (C0:List Blob):Option (List ByteArray) :=
  aG3 a0 a1 C0 (c5 (D1+1))
def E5.W8 (j5:Cache→Int→Int→(List Blob)→Option (List ByteArray)) (a0:Cache) (a1:Int) (C0:List Blob) (D1:Int) (x2:Blob) (M6:Int):Option (List ByteArray) :=
  G5 (decide ((0:Int)≤M6)&&decide (M6≤((C0.length:Nat):Int))) (
  G5 (room 0 M6.toNat 48) (
  G5 (room ((([]:List Blob)++(C0.take M6.toNat)).length) 1 48) (
  G5 (decide ((0:Int)≤M6)&&decide (M6≤((C0.length:Nat):Int))) (
  G5 (room (((([]:List Blob)++(C0.take M6.toNat))++([x2]:List Blob)).length) (C0.length - M6.toNat) 48) (
  j5 a0 a1 D1 (((([]:List Blob)++(C0.take M6.toNat))++([x2]:List Blob))++(C0.drop M6.toNat)))))))
def E5.l7 (W8:Cache→Int→(List Blob)→Int→Blob→Int→Option (List ByteArray)):Nat→Cache→Int→(List Blob)→Int→Blob→Int→Option (List ByteArray)
  | 0,_,_,_,_,_,_=>none
  | k+1,a0,a1,C0,D1,x2,M6 =>
    (bif decide (0<M6) then ((o7 C0 (c5 (M6 - 1))).bind fun x3 =>
    some (decide (x2.Used<x3.Used))) else (some false)).bind fun t1 =>
    bif t1 then
    ((E5.l7 W8 k) a0 a1 C0 D1 x2 (c5 (M6 - 1)))
    else
    (W8 a0 a1 C0 D1 x2 M6)
def E5.l4 (e1:(List Blob)→Option (List ByteArray)):Nat→Cache→Int→(List Blob)→Int→Option (List ByteArray)
  | 0,_,_,_,_=>none
  | k+1,a0,a1,C0,D1 =>
    bif decide (D1<(a0.U.length:Int)) then
    ((o7 a0.U D1).bind fun x2 =>
    (bc5.f x2 a1).bind fun y1 =>
    bif y1 then
    (E5.j5 ((E5.l4 e1 k)) a0 a1 D1 C0)
    else
    (E5.l7 (E5.W8 (E5.j5 ((E5.l4 e1 k)))) n8 a0 a1 C0 D1 x2 (C0.length:Int)))
    else
    (e1 C0)
def E5.f (a0:Cache) (a1:Int):Option (List ByteArray) :=
  E5.l4 E5.e1 n8 a0 a1 ([]:List Blob) 0
def aS7.f (a0:Cache) (a1:Int) (a2:Int):Option Cache :=
  (o7 a0.U a1).bind fun x1 =>
  some (⟨a0.Room,a0.c4,(a0.U.set a1.toNat (⟨x1.b7,x1.j4,x1.Used,max2 x1.u6 (c5 (a2+a0.c4)),x1.q4⟩:Blob)),a0.Entries⟩:Cache)
def aW9.f (a0:Cache) (a1:ByteArray):Option Cache :=
  (V8.f (⟨a0.Room,a0.c4,a0.U,a0.Entries⟩:Cache) a1).bind fun y1 =>
  G5 (decide ((0:Int)≤y1)&&decide (y1≤((a0.U.length:Nat):Int))) (
  G5 (room 0 y1.toNat 48) (
  G5 (decide ((0:Int)≤(c5 (y1+1)))&&decide ((c5 (y1+1))≤((a0.U.length:Nat):Int))) (
  G5 (room ((([]:List Blob)++(a0.U.take y1.toNat)).length) (a0.U.length - (c5 (y1+1)).toNat) 48) (
  some (⟨a0.Room,a0.c4,((([]:List Blob)++(a0.U.take y1.toNat))++(a0.U.drop (c5 (y1+1)).toNat)),a0.Entries⟩:Cache)))))
def K7.e2 (r6:Int) (r7:Int) (k9:List Blob) (o4:List Entry) (M0:List ByteArray):Option ((List ByteArray) × Bool × Cache) :=
  some (M0,true,(⟨r6,r7,k9,o4⟩:Cache))
def K7.l3 (e2:Int→Int→(List Blob)→(List Entry)→(List ByteArray)→Option ((List ByteArray) × Bool × Cache)):Nat→Int→(List ByteArray)→Int→Int→(List Blob)→(List Entry)→(List ByteArray)→Int→Option ((List ByteArray) × Bool × Cache)
  | 0,_,_,_,_,_,_,_,_=>none
  | k+1,a1,y1,r6,r7,k9,o4,M0,am1 =>
    (bif decide (am1<(y1.length:Int)) then ((ag4.f k9).bind fun y2 =>
    some (decide (a1<y2))) else (some false)).bind fun t1 =>
    bif t1 then
    ((o7 y1 am1).bind fun x1 =>
    (aW9.f (⟨r6,r7,k9,o4⟩:Cache) x1).bind fun y3 =>
    (o7 y1 am1).bind fun x2 =>
    G5 (room M0.length 1 16) (
    (K7.l3 e2 k) a1 y1 y3.Room y3.c4 y3.U y3.Entries (M0++([x2]:List ByteArray)) (c5 (am1+1))))
    else
    (e2 r6 r7 k9 o4 M0)
def K7.e1 (a0:Cache) (a1:Int) (a2:Int) (ab5:Int):Option ((List ByteArray) × Bool × Cache) :=
  bif decide (a1<ab5) then
  (some (([]:List ByteArray),false,(⟨a0.Room,a0.c4,a0.U,a0.Entries⟩:Cache)))
  else
  ((E5.f (⟨a0.Room,a0.c4,a0.U,a0.Entries⟩:Cache) a2).bind fun y1 =>
  K7.l3 K7.e2 n8 a1 y1 a0.Room a0.c4 a0.U a0.Entries ([]:List ByteArray) 0)
def K7.j5 (aG3:Cache→Int→Int→Int→Int→Option ((List ByteArray) × Bool × Cache)) (a0:Cache) (a1:Int) (a2:Int) (y5:Int) (ab5:Int):Option ((List ByteArray) × Bool × Cache) :=
  aG3 a0 a1 a2 ab5 (c5 (y5+1))
def K7.l4 (e1:Cache→Int→Int→Int→Option ((List ByteArray) × Bool × Cache)):Nat→Cache→Int→Int→Int→Int→Option ((List ByteArray) × Bool × Cache)
  | 0,_,_,_,_,_=>none
  | k+1,a0,a1,a2,ab5,y5 =>
    bif decide (y5<(a0.U.length:Int)) then
    ((o7 a0.U y5).bind fun x3 =>
    (bc5.f x3 a2).bind fun y4 =>
    bif y4 then
    ((o7 a0.U y5).bind fun C2 =>
    K7.j5 ((K7.l4 e1 k)) a0 a1 a2 y5 (c5 (ab5+C2.j4)))
    else
    (K7.j5 ((K7.l4 e1 k)) a0 a1 a2 y5 ab5))
    else
    (e1 a0 a1 a2 ab5)
def K7.f (a0:Cache) (a1:Int) (a2:Int):Option ((List ByteArray) × Bool × Cache) :=
  K7.l4 K7.e1 n8 a0 a1 a2 0 0
def ag9.e1 (a1:k7) (y3:(List ByteArray) × Bool × Cache) (L0:Int):Option (k6 × Int × Cache) :=
  G5 (decide ((0:Int)≤L0)&&decide (L0≤((y3.2.2.U.length:Nat):Int))) (
  G5 (room 0 L0.toNat 48) (
  G5 (room ((([]:List Blob)++(y3.2.2.U.take L0.toNat)).length) 1 48) (
  G5 (decide ((0:Int)≤L0)&&decide (L0≤((y3.2.2.U.length:Nat):Int))) (
  G5 (room (((([]:List Blob)++(y3.2.2.U.take L0.toNat))++([(⟨a1.b7,a1.j4,a1.At,c5 (a1.At+y3.2.2.c4),0⟩:Blob)]:List Blob)).length) (y3.2.2.U.length - L0.toNat) 48) (
  some ((⟨true,([]:List ByteArray),y3.1⟩:k6),0,(⟨y3.2.2.Room,y3.2.2.c4,(((([]:List Blob)++(y3.2.2.U.take L0.toNat))++([(⟨a1.b7,a1.j4,a1.At,c5 (a1.At+y3.2.2.c4),0⟩:Blob)]:List Blob))++(y3.2.2.U.drop L0.toNat)),y3.2.2.Entries⟩:Cache)))))))
def ag9.l2 (e1:k7→((List ByteArray) × Bool × Cache)→Int→Option (k6 × Int × Cache)):Nat→k7→((List ByteArray) × Bool × Cache)→Int→Option (k6 × Int × Cache)
  | 0,_,_,_=>none
  | k+1,a1,y3,L0 =>
    (bif decide (L0<(y3.2.2.U.length:Int)) then ((o7 y3.2.2.U L0).bind fun x2 =>
    some (x9 x2.b7 a1.b7)) else (some false)).bind fun t1 =>
    bif t1 then
    ((ag9.l2 e1 k) a1 y3 (c5 (L0+1)))
    else
    (e1 a1 y3 L0)
def ag9.f (a0:Cache) (a1:k7):Option (k6 × Int × Cache) :=
  (V8.f (⟨a0.Room,a0.c4,a0.U,a0.Entries⟩:Cache) a1.b7).bind fun y1 =>
  bif decide (0≤y1) then
  ((o7 a0.U y1).bind fun x1 =>
  (aS7.f (⟨a0.Room,a0.c4,(a0.U.set y1.toNat (⟨x1.b7,x1.j4,a1.At,x1.u6,x1.q4⟩:Blob)),a0.Entries⟩:Cache) y1 a1.At).bind fun y2 =>
  some ((⟨true,([]:List ByteArray),([]:List ByteArray)⟩:k6),0,(⟨y2.Room,y2.c4,y2.U,y2.Entries⟩:Cache)))
  else
  (bif decide (a0.Room<a1.j4) then
  (some ((⟨false,([]:List ByteArray),([]:List ByteArray)⟩:k6),0,(⟨a0.Room,a0.c4,a0.U,a0.Entries⟩:Cache)))
  else
  ((K7.f (⟨a0.Room,a0.c4,a0.U,a0.Entries⟩:Cache) (c5 (a0.Room - a1.j4)) a1.At).bind fun y3 =>
  bif !y3.2.1 then
  (some ((⟨false,([]:List ByteArray),([]:List ByteArray)⟩:k6),0,(⟨y3.2.2.Room,y3.2.2.c4,y3.2.2.U,y3.2.2.Entries⟩:Cache)))
  else
  (bif (y3.2.2.U.length:Int) == 3000 then
  (some ((⟨false,([]:List ByteArray),([]:List ByteArray)⟩:k6),16,(⟨y3.2.2.Room,y3.2.2.c4,y3.2.2.U,y3.2.2.Entries⟩:Cache)))
  else
  (ag9.l2 ag9.e1 n8 a1 y3 0))))
def U9.e1 (E9:List ByteArray):Option (List ByteArray) :=
  some E9
def U9.j3 (K5:Cache→(List ByteArray)→(List ByteArray)→Int→Option (List ByteArray)) (a0:Cache) (a1:List ByteArray) (D1:Int) (E9:List ByteArray):Option (List ByteArray) :=
  K5 a0 a1 E9 (c5 (D1+1))
def U9.l2 (e1:(List ByteArray)→Option (List ByteArray)):Nat→Cache→(List ByteArray)→(List ByteArray)→Int→Option (List ByteArray)
  | 0,_,_,_,_=>none
  | k+1,a0,a1,E9,D1 =>
    bif decide (D1<(a1.length:Int)) then
    ((o7 a1 D1).bind fun x1 =>
    (V8.f a0 x1).bind fun y1 =>
    bif decide (y1<0) then
    ((o7 a1 D1).bind fun x2 =>
    G5 (room E9.length 1 16) (
    U9.j3 ((U9.l2 e1 k)) a0 a1 D1 (E9++([x2]:List ByteArray))))
    else
    (U9.j3 ((U9.l2 e1 k)) a0 a1 D1 E9))
    else
    (e1 E9)
def U9.f (a0:Cache) (a1:List ByteArray):Option (List ByteArray) :=
  U9.l2 U9.e1 n8 a0 a1 ([]:List ByteArray) 0
def V0.e1 (a1:k7) (r6:Int) (r7:Int) (k9:List Blob) (o4:List Entry):Option (k6 × Cache) :=
  (U9.f (⟨r6,r7,k9,o4⟩:Cache) a1.j9).bind fun y1 =>
  some ((⟨(y1.length:Int) == 0,y1,([]:List ByteArray)⟩:k6),(⟨r6,r7,k9,o4⟩:Cache))
def V0.j3 (K5:k7→Int→Int→(List Blob)→(List Entry)→Int→Option (k6 × Cache)) (a1:k7) (n7:Int) (r6:Int) (r7:Int) (k9:List Blob) (o4:List Entry):Option (k6 × Cache) :=
  K5 a1 r6 r7 k9 o4 (c5 (n7+1))
def V0.l2 (e1:k7→Int→Int→(List Blob)→(List Entry)→Option (k6 × Cache)):Nat→k7→Int→Int→(List Blob)→(List Entry)→Int→Option (k6 × Cache)
  | 0,_,_,_,_,_,_=>none
  | k+1,a1,r6,r7,k9,o4,n7 =>
    bif decide (n7<(a1.j9.length:Int)) then
    ((o7 a1.j9 n7).bind fun x1 =>
    (V8.f (⟨r6,r7,k9,o4⟩:Cache) x1).bind fun y2 =>
    bif decide (0≤y2) then
    ((aS7.f (⟨r6,r7,k9,o4⟩:Cache) y2 a1.At).bind fun y3 =>
    V0.j3 ((V0.l2 e1 k)) a1 n7 y3.Room y3.c4 y3.U y3.Entries)
    else
    (V0.j3 ((V0.l2 e1 k)) a1 n7 r6 r7 k9 o4))
    else
    (e1 a1 r6 r7 k9 o4)
def V0.f (a0:Cache) (a1:k7):Option (k6 × Cache) :=
  V0.l2 V0.e1 n8 a1 a0.Room a0.c4 a0.U a0.Entries 0
def ai4.e1 :Option Int :=
  some (-1)
def ai4.l2 (e1:Option Int):Nat→Cache→ByteArray→Int→Option Int
  | 0,_,_,_=>none
  | k+1,a0,a1,n7 =>
    bif decide (n7<(a0.Entries.length:Int)) then
    ((o7 a0.Entries n7).bind fun x1 =>
    bif p4 x1.Key a1 then
    (some n7)
    else
    ((ai4.l2 e1 k) a0 a1 (c5 (n7+1))))
    else
    (e1)
def ai4.f (a0:Cache) (a1:ByteArray):Option Int :=
  ai4.l2 ai4.e1 n8 a0 a1 0
def aX0.f (a0:Cache) (a1:Int):Option Cache :=
  G5 (decide ((0:Int)≤a1)&&decide (a1≤((a0.Entries.length:Nat):Int))) (
  G5 (room 0 a1.toNat 48) (
  G5 (decide ((0:Int)≤(c5 (a1+1)))&&decide ((c5 (a1+1))≤((a0.Entries.length:Nat):Int))) (
  G5 (room ((([]:List Entry)++(a0.Entries.take a1.toNat)).length) (a0.Entries.length - (c5 (a1+1)).toNat) 48) (
  some (⟨a0.Room,a0.c4,a0.U,((([]:List Entry)++(a0.Entries.take a1.toNat))++(a0.Entries.drop (c5 (a1+1)).toNat))⟩:Cache)))))
def B0.S2 (a1:k7) (r6:Int) (r7:Int) (k9:List Blob) (o4:List Entry) (ad3:Int):Option (k6 × Cache) :=
  G5 (room 0 a1.j9.length 16) (
  G5 (decide ((0:Int)≤ad3)&&decide (ad3≤((o4.length:Nat):Int))) (
  G5 (room 0 ad3.toNat 48) (
  G5 (room ((([]:List Entry)++(o4.take ad3.toNat)).length) 1 48) (
  G5 (decide ((0:Int)≤ad3)&&decide (ad3≤((o4.length:Nat):Int))) (
  G5 (room (((([]:List Entry)++(o4.take ad3.toNat))++([(⟨a1.Key,(([]:List ByteArray)++a1.j9),a1.At⟩:Entry)]:List Entry)).length) (o4.length - ad3.toNat) 48) (
  some ((⟨true,([]:List ByteArray),([]:List ByteArray)⟩:k6),(⟨r6,r7,k9,(((([]:List Entry)++(o4.take ad3.toNat))++([(⟨a1.Key,(([]:List ByteArray)++a1.j9),a1.At⟩:Entry)]:List Entry))++(o4.drop ad3.toNat))⟩:Cache))))))))
def B0.l5 (S2:k7→Int→Int→(List Blob)→(List Entry)→Int→Option (k6 × Cache)):Nat→k7→Int→Int→(List Blob)→(List Entry)→Int→Option (k6 × Cache)
  | 0,_,_,_,_,_,_=>none
  | k+1,a1,r6,r7,k9,o4,ad3 =>
    (bif decide (ad3<(o4.length:Int)) then ((o7 o4 ad3).bind fun x1 =>
    some (x9 x1.Key a1.Key)) else (some false)).bind fun t1 =>
    bif t1 then
    ((B0.l5 S2 k) a1 r6 r7 k9 o4 (c5 (ad3+1)))
    else
    (S2 a1 r6 r7 k9 o4 ad3)
def B0.j3 (a1:k7) (r6:Int) (r7:Int) (k9:List Blob) (o4:List Entry):Option (k6 × Cache) :=
  B0.l5 B0.S2 n8 a1 r6 r7 k9 o4 0
def B0.W8 (j3:k7→Int→Int→(List Blob)→(List Entry)→Option (k6 × Cache)) (a1:k7) (r6:Int) (r7:Int) (k9:List Blob) (o4:List Entry) (ac8:Int):Option (k6 × Cache) :=
  (aX0.f (⟨r6,r7,k9,o4⟩:Cache) ac8).bind fun y3 =>
  j3 a1 y3.Room y3.c4 y3.U y3.Entries
def B0.j8 (bm5:k7→Int→Int→(List Blob)→(List Entry)→Int→Int→Option (k6 × Cache)) (a1:k7) (r6:Int) (r7:Int) (k9:List Blob) (o4:List Entry) (y5:Int) (ac8:Int):Option (k6 × Cache) :=
  bm5 a1 r6 r7 k9 o4 ac8 (c5 (y5+1))
def B0.l7 (W8:k7→Int→Int→(List Blob)→(List Entry)→Int→Option (k6 × Cache)):Nat→k7→Int→Int→(List Blob)→(List Entry)→Int→Int→Option (k6 × Cache)
  | 0,_,_,_,_,_,_,_=>none
  | k+1,a1,r6,r7,k9,o4,ac8,y5 =>
    bif decide (y5<(o4.length:Int)) then
    ((o7 o4 y5).bind fun x2 =>
    (o7 o4 ac8).bind fun x3 =>
    bif decide (x2.Used<x3.Used) then
    (B0.j8 ((B0.l7 W8 k)) a1 r6 r7 k9 o4 y5 y5)
    else
    (B0.j8 ((B0.l7 W8 k)) a1 r6 r7 k9 o4 y5 ac8))
    else
    (W8 a1 r6 r7 k9 o4 ac8)
def B0.j2 (a1:k7) (r6:Int) (r7:Int) (k9:List Blob) (o4:List Entry):Option (k6 × Cache) :=
  bif (o4.length:Int) == 1000 then
  (B0.l7 (B0.W8 B0.j3) n8 a1 r6 r7 k9 o4 0 0)
  else
  (B0.j3 a1 r6 r7 k9 o4)
def B0.e1 (a0:Cache) (a1:k7) (k9:List Blob):Option (k6 × Cache) :=
  (ai4.f (⟨a0.Room,a0.c4,k9,a0.Entries⟩:Cache) a1.Key).bind fun y2 =>
  bif decide (0≤y2) then
  ((aX0.f (⟨a0.Room,a0.c4,k9,a0.Entries⟩:Cache) y2).bind fun y4 =>
  B0.j2 a1 y4.Room y4.c4 y4.U y4.Entries)
  else
  (B0.j2 a1 a0.Room a0.c4 k9 a0.Entries)
def B0.l9 (e1:Cache→k7→(List Blob)→Option (k6 × Cache)):Nat→Cache→k7→(List Blob)→Int→Option (k6 × Cache)
  | 0,_,_,_,_=>none
  | k+1,a0,a1,k9,D1 =>
    bif decide (D1<(a1.j9.length:Int)) then
    ((o7 a1.j9 D1).bind fun C2 =>
    (V8.f (⟨a0.Room,a0.c4,k9,a0.Entries⟩:Cache) C2).bind fun A0 =>
    (o7 k9 A0).bind fun J5 =>
    (B0.l9 e1 k) a0 a1 (k9.set A0.toNat (⟨J5.b7,J5.j4,a1.At,J5.u6,J5.q4⟩:Blob)) (c5 (D1+1)))
    else
    (e1 a0 a1 k9)
def B0.f (a0:Cache) (a1:k7):Option (k6 × Cache) :=
  (U9.f (⟨a0.Room,a0.c4,a0.U,a0.Entries⟩:Cache) a1.j9).bind fun y1 =>
  bif decide (0<(y1.length:Int)) then
  (some ((⟨false,y1,([]:List ByteArray)⟩:k6),(⟨a0.Room,a0.c4,a0.U,a0.Entries⟩:Cache)))
  else
  (B0.l9 B0.e1 n8 a0 a1 a0.U 0)
def ah0.e1 (r6:Int) (r7:Int) (k9:List Blob) (o4:List Entry):Option (k6 × Cache) :=
  some ((⟨true,([]:List ByteArray),([]:List ByteArray)⟩:k6),(⟨r6,r7,k9,o4⟩:Cache))
def ah0.l2 (e1:Int→Int→(List Blob)→(List Entry)→Option (k6 × Cache)):Nat→k7→Entry→Int→Int→(List Blob)→(List Entry)→Int→Option (k6 × Cache)
  | 0,_,_,_,_,_,_,_=>none
  | k+1,a1,x1,r6,r7,k9,o4,M3 =>
    bif decide (M3<(x1.Refs.length:Int)) then
    ((o7 x1.Refs M3).bind fun x3 =>
    (V8.f (⟨r6,r7,k9,o4⟩:Cache) x3).bind fun y4 =>
    (o7 k9 y4).bind fun C2 =>
    (aS7.f (⟨r6,r7,(k9.set y4.toNat (⟨C2.b7,C2.j4,a1.At,C2.u6,C2.q4⟩:Blob)),o4⟩:Cache) y4 a1.At).bind fun A0 =>
    (ah0.l2 e1 k) a1 x1 A0.Room A0.c4 A0.U A0.Entries (c5 (M3+1)))
    else
    (e1 r6 r7 k9 o4)
def ah0.f (a0:Cache) (a1:k7):Option (k6 × Cache) :=
  (ai4.f (⟨a0.Room,a0.c4,a0.U,a0.Entries⟩:Cache) a1.Key).bind fun y1 =>
  bif decide (y1<0) then
  (some ((⟨false,([]:List ByteArray),([]:List ByteArray)⟩:k6),(⟨a0.Room,a0.c4,a0.U,a0.Entries⟩:Cache)))
  else
  ((o7 a0.Entries y1).bind fun x1 =>
  (U9.f (⟨a0.Room,a0.c4,a0.U,a0.Entries⟩:Cache) x1.Refs).bind fun y2 =>
  bif decide (0<(y2.length:Int)) then
  ((aX0.f (⟨a0.Room,a0.c4,a0.U,a0.Entries⟩:Cache) y1).bind fun y3 =>
  some ((⟨false,y2,([]:List ByteArray)⟩:k6),(⟨y3.Room,y3.c4,y3.U,y3.Entries⟩:Cache)))
  else
  ((o7 a0.Entries y1).bind fun x2 =>
  ah0.l2 ah0.e1 n8 a1 x1 a0.Room a0.c4 a0.U (a0.Entries.set y1.toNat (⟨x2.Key,x2.Refs,a1.At⟩:Entry)) 0))
def as8.j1 (r6:Int) (r7:Int) (k9:List Blob) (o4:List Entry):Option (k6 × Cache) :=
  some ((⟨true,([]:List ByteArray),([]:List ByteArray)⟩:k6),(⟨r6,r7,k9,o4⟩:Cache))
def as8.f (a0:Cache) (a1:k7):Option (k6 × Cache) :=
  (V8.f (⟨a0.Room,a0.c4,a0.U,a0.Entries⟩:Cache) a1.b7).bind fun y1 =>
  bif decide (y1<0) then
  (some ((⟨false,([]:List ByteArray),([]:List ByteArray)⟩:k6),(⟨a0.Room,a0.c4,a0.U,a0.Entries⟩:Cache)))
  else
  ((o7 a0.U y1).bind fun x1 =>
  bif a1.Kind == 2 then
  ((o7 a0.U y1).bind fun x2 =>
  (aS7.f (⟨a0.Room,a0.c4,(a0.U.set y1.toNat (⟨x2.b7,x2.j4,a1.At,x2.u6,x2.q4⟩:Blob)),a0.Entries⟩:Cache) y1 a1.At).bind fun y2 =>
  as8.j1 y2.Room y2.c4 y2.U y2.Entries)
  else
  (bif a1.Kind == 4 then
  ((o7 a0.U y1).bind fun x3 =>
  as8.j1 a0.Room a0.c4 (a0.U.set y1.toNat (⟨x3.b7,x3.j4,x3.Used,x3.u6,c5 (x3.q4+1)⟩:Blob)) a0.Entries)
  else
  (bif a1.Kind == 5 then
  ((o7 a0.U y1).bind fun C2 =>
  bif C2.q4 == 0 then
  (some ((⟨false,([]:List ByteArray),([]:List ByteArray)⟩:k6),(⟨a0.Room,a0.c4,a0.U,a0.Entries⟩:Cache)))
  else
  ((o7 a0.U y1).bind fun J5 =>
  as8.j1 a0.Room a0.c4 (a0.U.set y1.toNat (⟨J5.b7,J5.j4,J5.Used,J5.u6,c5 (J5.q4 - 1)⟩:Blob)) a0.Entries))
  else
  (bif a1.Kind == 8 then
  ((o7 a0.U y1).bind fun x6 =>
  (bc5.f x6 a1.At).bind fun y3 =>
  bif y3 then
  (some ((⟨false,([]:List ByteArray),([]:List ByteArray)⟩:k6),(⟨a0.Room,a0.c4,a0.U,a0.Entries⟩:Cache)))
  else
  ((aW9.f (⟨a0.Room,a0.c4,a0.U,a0.Entries⟩:Cache) a1.b7).bind fun y4 =>
  some ((⟨true,([]:List ByteArray),([a1.b7]:List ByteArray)⟩:k6),(⟨y4.Room,y4.c4,y4.U,y4.Entries⟩:Cache))))
  else
  (as8.j1 a0.Room a0.c4 a0.U a0.Entries)))))
def bi6.f (a0:Cache) (a1:k7):Option (k6 × Int × Cache) :=
  (Q0.f (⟨a0.Room,a0.c4,a0.U,a0.Entries⟩:Cache) a1).bind fun y1 =>
  bif y1 != 0 then
  (some ((⟨false,([]:List ByteArray),([]:List ByteArray)⟩:k6),y1,(⟨a0.Room,a0.c4,a0.U,a0.Entries⟩:Cache)))
  else
  (bif a1.Kind == 1 then
  ((ag9.f (⟨a0.Room,a0.c4,a0.U,a0.Entries⟩:Cache) a1).bind fun y2 =>
  some ((⟨y2.1.x8,y2.1.x5,y2.1.x4⟩:k6),y2.2.1,(⟨y2.2.2.Room,y2.2.2.c4,y2.2.2.U,y2.2.2.Entries⟩:Cache)))
  else
  (bif a1.Kind == 3 then
  ((V0.f (⟨a0.Room,a0.c4,a0.U,a0.Entries⟩:Cache) a1).bind fun y3 =>
  some ((⟨y3.1.x8,y3.1.x5,y3.1.x4⟩:k6),0,(⟨y3.2.Room,y3.2.c4,y3.2.U,y3.2.Entries⟩:Cache)))
  else
  (bif a1.Kind == 6 then
  ((B0.f (⟨a0.Room,a0.c4,a0.U,a0.Entries⟩:Cache) a1).bind fun y4 =>
  some ((⟨y4.1.x8,y4.1.x5,y4.1.x4⟩:k6),0,(⟨y4.2.Room,y4.2.c4,y4.2.U,y4.2.Entries⟩:Cache)))
  else
  (bif a1.Kind == 7 then
  ((ah0.f (⟨a0.Room,a0.c4,a0.U,a0.Entries⟩:Cache) a1).bind fun A0 =>
  some ((⟨A0.1.x8,A0.1.x5,A0.1.x4⟩:k6),0,(⟨A0.2.Room,A0.2.c4,A0.2.U,A0.2.Entries⟩:Cache)))
  else
  ((as8.f (⟨a0.Room,a0.c4,a0.U,a0.Entries⟩:Cache) a1).bind fun G0 =>
  some ((⟨G0.1.x8,G0.1.x5,G0.1.x4⟩:k6),0,(⟨G0.2.Room,G0.2.c4,G0.2.U,G0.2.Entries⟩:Cache)))))))
def ad4.e1 (au0:Int) (au1:Int) (ao3:List Blob) (ao4:List Entry) (ar8:Int) (ah7:List k6):Option ((Bool × Cache) × (List k6) × Int × Int) :=
  some ((true,(⟨au0,au1,ao3,ao4⟩:Cache)),ah7,ar8,0)
def ad4.l2 (e1:Int→Int→(List Blob)→(List Entry)→Int→(List k6)→Option ((Bool × Cache) × (List k6) × Int × Int)):Nat→(List k7)→Int→Int→(List Blob)→(List Entry)→Int→(List k6)→Int→Option ((Bool × Cache) × (List k6) × Int × Int)
  | 0,_,_,_,_,_,_,_,_=>none
  | k+1,a1,au0,au1,ao3,ao4,ar8,ah7,am1 =>
    bif decide (am1<(a1.length:Int)) then
    ((o7 a1 am1).bind fun x1 =>
    (bi6.f (⟨au0,au1,ao3,ao4⟩:Cache) x1).bind fun y4 =>
    bif y4.2.1 != 0 then
    (some ((false,(⟨0,0,([]:List Blob),([]:List Entry)⟩:Cache)),([]:List k6),0,y4.2.1))
    else
    (G5 (room ah7.length 1 56) (
    (ag4.f y4.2.2.U).bind fun A0 =>
    (ad4.l2 e1 k) a1 y4.2.2.Room y4.2.2.c4 y4.2.2.U y4.2.2.Entries (max2 ar8 A0) (ah7++([(⟨y4.1.x8,y4.1.x5,y4.1.x4⟩:k6)]:List k6)) (c5 (am1+1)))))
    else
    (e1 au0 au1 ao3 ao4 ar8 ah7)
def ad4.f (a0:Cache) (a1:List k7):Option ((Bool × Cache) × (List k6) × Int × Int) :=
  (Q1.f a0).bind fun y1 =>
  bif y1 != 0 then
  (some ((false,(⟨0,0,([]:List Blob),([]:List Entry)⟩:Cache)),([]:List k6),0,y1))
  else
  (bif decide (3000<(a1.length:Int)) then
  (some ((false,(⟨0,0,([]:List Blob),([]:List Entry)⟩:Cache)),([]:List k6),0,2))
  else
  ((al6.f a0).bind fun y2 =>
  (ag4.f y2.U).bind fun y3 =>
  ad4.l2 ad4.e1 n8 a1 y2.Room y2.c4 y2.U y2.Entries y3 ([]:List k6) 0))
def bH2.f (a0:Cache) (a1:List k7):Option (Cache × (List k6) × Int) :=
  (ad4.f a0 a1).bind fun y1 =>
  bif y1.2.2.2 != 0 then
  (some ((⟨0,0,([]:List Blob),([]:List Entry)⟩:Cache),([]:List k6),y1.2.2.2))
  else
  (G5 (y1.1.1) (
  some ((⟨y1.1.2.Room,y1.1.2.c4,y1.1.2.U,y1.1.2.Entries⟩:Cache),y1.2.1,0)))
def ai3.e1 :Option Bool :=
  some true
def ai3.l2 (e1:Option Bool):Nat→(List ByteArray)→(List ByteArray)→Int→Option Bool
  | 0,_,_,_=>none
  | k+1,a0,a1,n7 =>
    bif decide (n7<(a0.length:Int)) then
    ((o7 a0 n7).bind fun x1 =>
    (o7 a1 n7).bind fun x2 =>
    bif !p4 x1 x2 then
    (some false)
    else
    ((ai3.l2 e1 k) a0 a1 (c5 (n7+1))))
    else
    (e1)
def ai3.f (a0:List ByteArray) (a1:List ByteArray):Option Bool :=
  bif (a0.length:Int) != (a1.length:Int) then
  (some false)
  else
  (ai3.l2 ai3.e1 n8 a0 a1 0)
def P0.e2 :Option Bool :=
  some true
def P0.l3 (e2:Option Bool):Nat→Cache→Cache→Int→Option Bool
  | 0,_,_,_=>none
  | k+1,a0,a1,D1 =>
    bif decide (D1<(a0.Entries.length:Int)) then
    (((o7 a0.Entries D1).bind fun x1 =>
    (o7 a1.Entries D1).bind fun x2 =>
    bif !p4 x1.Key x2.Key then (some true) else (bif x1.Used != x2.Used then (some true) else ((ai3.f x1.Refs x2.Refs).bind fun y1 =>
    some (!y1)))).bind fun t2 =>
    bif t2 then
    (some false)
    else
    ((P0.l3 e2 k) a0 a1 (c5 (D1+1))))
    else
    (e2)
def P0.e1 (a0:Cache) (a1:Cache):Option Bool :=
  P0.l3 P0.e2 n8 a0 a1 0
def P0.l4 (e1:Cache→Cache→Option Bool):Nat→Cache→Cache→Int→Option Bool
  | 0,_,_,_=>none
  | k+1,a0,a1,n7 =>
    bif decide (n7<(a0.U.length:Int)) then
    ((o7 a0.U n7).bind fun x3 =>
    (o7 a1.U n7).bind fun C2 =>
    bif !(p4 x3.b7 C2.b7&&(x3.j4 == C2.j4&&(x3.Used == C2.Used&&(x3.u6 == C2.u6&&(x3.q4 == C2.q4&&true))))) then
    (some false)
    else
    ((P0.l4 e1 k) a0 a1 (c5 (n7+1))))
    else
    (e1 a0 a1)
def P0.f (a0:Cache) (a1:Cache):Option Bool :=
  (bif a0.Room != a1.Room then (some true) else (bif a0.c4 != a1.c4 then (some true) else (bif (a0.U.length:Int) != (a1.U.length:Int) then (some true) else (some ((a0.Entries.length:Int) != (a1.Entries.length:Int)))))).bind fun t1 =>
  bif t1 then
  (some false)
  else
  (P0.l4 P0.e1 n8 a0 a1 0)
def ag3.e1 :Option Bool :=
  some true
def ag3.l2 (e1:Option Bool):Nat→(List k6)→(List k6)→Int→Option Bool
  | 0,_,_,_=>none
  | k+1,a0,a1,n7 =>
    bif decide (n7<(a0.length:Int)) then
    (((o7 a0 n7).bind fun x1 =>
    (o7 a1 n7).bind fun x2 =>
    bif !(x1.x8 == x2.x8) then (some true) else ((ai3.f x1.x5 x2.x5).bind fun y1 =>
    bif !y1 then (some true) else ((ai3.f x1.x4 x2.x4).bind fun y2 =>
    some (!y2)))).bind fun t1 =>
    bif t1 then
    (some false)
    else
    ((ag3.l2 e1 k) a0 a1 (c5 (n7+1))))
    else
    (e1)
def ag3.f (a0:List k6) (a1:List k6):Option Bool :=
  bif (a0.length:Int) != (a1.length:Int) then
  (some false)
  else
  (ag3.l2 ag3.e1 n8 a0 a1 0)
def au8.j1 (bz2:Int) (bz3:Int):Option (Int × Int) :=
  some (bz2,bz3)
def au8.f (a0:Cache) (a1:k7) (a2:k6) (a3:Int) (a4:Int):Option (Int × Int) :=
  (bif a1.Kind == 2 then (some true) else (some (a1.Kind == 7))).bind fun t1 =>
  bif t1 then
  (bif a2.x8 then
  (au8.j1 (c5 (a3+1)) (c5 (a4+1)))
  else
  (au8.j1 (c5 (a3+1)) a4))
  else
  (au8.j1 a3 a4)
def al2.e1 (I7:Int) (ap1:Int) (F6:Int) (F7:Int) (E2:List Blob) (E3:List Entry):Option (Cache × Int × Int × Int) :=
  some ((⟨F6,F7,E2,E3⟩:Cache),0,I7,ap1)
def al2.l2 (e1:Int→Int→Int→Int→(List Blob)→(List Entry)→Option (Cache × Int × Int × Int)):Nat→(List k7)→Int→Int→Int→Int→(List Blob)→(List Entry)→Int→Option (Cache × Int × Int × Int)
  | 0,_,_,_,_,_,_,_,_=>none
  | k+1,a1,I7,ap1,F6,F7,E2,E3,v27 =>
    bif decide (v27<(a1.length:Int)) then
    ((o7 a1 v27).bind fun x1 =>
    (aj5.f (⟨F6,F7,E2,E3⟩:Cache) x1).bind fun y3 =>
    bif y3.2.1 != 0 then
    (some ((⟨0,0,([]:List Blob),([]:List Entry)⟩:Cache),y3.2.1,I7,ap1))
    else
    ((au8.f (⟨y3.2.2.Room,y3.2.2.c4,y3.2.2.U,y3.2.2.Entries⟩:Cache) x1 (⟨y3.1.x8,y3.1.x5,y3.1.x4⟩:k6) I7 ap1).bind fun y4 =>
    (al2.l2 e1 k) a1 y4.1 y4.2 y3.2.2.Room y3.2.2.c4 y3.2.2.U y3.2.2.Entries (c5 (v27+1))))
    else
    (e1 I7 ap1 F6 F7 E2 E3)
def al2.f (a0:Cache) (a1:List k7) (Y4:Int) (aP5:Int):Option (Cache × Int × Int × Int) :=
  (ae1.f a0).bind fun y1 =>
  bif y1 != 0 then
  (some ((⟨0,0,([]:List Blob),([]:List Entry)⟩:Cache),y1,Y4,aP5))
  else
  (bif decide (3000<(a1.length:Int)) then
  (some ((⟨0,0,([]:List Blob),([]:List Entry)⟩:Cache),2,Y4,aP5))
  else
  ((ag5.f a0).bind fun y2 =>
  al2.l2 al2.e1 n8 a1 Y4 aP5 y2.Room y2.c4 y2.U y2.Entries 0))
def bi7.f (a0:Cache) (a1:List k7):Option (Int × Int × Int) :=
  (al2.f a0 a1 0 0).bind fun y1 =>
  bif y1.2.1 != 0 then
  (some (0,0,y1.2.1))
  else
  (some (y1.2.2.2,y1.2.2.1,0))
def T9.e1 (Y5:Int) (Y6:Int):Option (Int × Int × Int) :=
  some (Y5,Y6,0)
def T9.j3 (K5:(List k7)→((Bool × Cache) × (List k6) × Int × Int)→Int→Int→Int→Option (Int × Int × Int)) (a1:List k7) (y1:(Bool × Cache) × (List k6) × Int × Int) (ah2:Int) (Y5:Int) (Y6:Int):Option (Int × Int × Int) :=
  K5 a1 y1 Y5 Y6 (c5 (ah2+1))
def T9.l2 (e1:Int→Int→Option (Int × Int × Int)):Nat→(List k7)→((Bool × Cache) × (List k6) × Int × Int)→Int→Int→Int→Option (Int × Int × Int)
  | 0,_,_,_,_,_=>none
  | k+1,a1,y1,Y5,Y6,ah2 =>
    bif decide (ah2<(a1.length:Int)) then
    (((o7 a1 ah2).bind fun x1 =>
    bif x1.Kind == 2 then (some true) else (some (x1.Kind == 7))).bind fun t1 =>
    bif t1 then
    ((o7 y1.2.1 ah2).bind fun x2 =>
    bif x2.x8 then
    (T9.j3 ((T9.l2 e1 k)) a1 y1 ah2 (c5 (Y5+1)) (c5 (Y6+1)))
    else
    (T9.j3 ((T9.l2 e1 k)) a1 y1 ah2 Y5 (c5 (Y6+1))))
    else
    (T9.j3 ((T9.l2 e1 k)) a1 y1 ah2 Y5 Y6))
    else
    (e1 Y5 Y6)
def T9.f (a0:Cache) (a1:List k7):Option (Int × Int × Int) :=
  (ad4.f a0 a1).bind fun y1 =>
  bif y1.2.2.2 != 0 then
  (some (0,0,y1.2.2.2))
  else
  (T9.l2 T9.e1 n8 a1 y1 0 0 0)
def bF9.f (a0:Cache) (a1:k7) (a2:k6) (a3:Int):Option Int :=
  (ac0.f a0).bind fun y1 =>
  some (max2 a3 y1)
def al3.e1 (I7:Int) (F6:Int) (F7:Int) (E2:List Blob) (E3:List Entry):Option (Cache × Int × Int) :=
  some ((⟨F6,F7,E2,E3⟩:Cache),0,I7)
def al3.l2 (e1:Int→Int→Int→(List Blob)→(List Entry)→Option (Cache × Int × Int)):Nat→(List k7)→Int→Int→Int→(List Blob)→(List Entry)→Int→Option (Cache × Int × Int)
  | 0,_,_,_,_,_,_,_=>none
  | k+1,a1,I7,F6,F7,E2,E3,v27 =>
    bif decide (v27<(a1.length:Int)) then
    ((o7 a1 v27).bind fun x1 =>
    (aj5.f (⟨F6,F7,E2,E3⟩:Cache) x1).bind fun y3 =>
    bif y3.2.1 != 0 then
    (some ((⟨0,0,([]:List Blob),([]:List Entry)⟩:Cache),y3.2.1,I7))
    else
    ((bF9.f (⟨y3.2.2.Room,y3.2.2.c4,y3.2.2.U,y3.2.2.Entries⟩:Cache) x1 (⟨y3.1.x8,y3.1.x5,y3.1.x4⟩:k6) I7).bind fun y4 =>
    (al3.l2 e1 k) a1 y4 y3.2.2.Room y3.2.2.c4 y3.2.2.U y3.2.2.Entries (c5 (v27+1))))
    else
    (e1 I7 F6 F7 E2 E3)
def al3.f (a0:Cache) (a1:List k7) (Y4:Int):Option (Cache × Int × Int) :=
  (ae1.f a0).bind fun y1 =>
  bif y1 != 0 then
  (some ((⟨0,0,([]:List Blob),([]:List Entry)⟩:Cache),y1,Y4))
  else
  (bif decide (3000<(a1.length:Int)) then
  (some ((⟨0,0,([]:List Blob),([]:List Entry)⟩:Cache),2,Y4))
  else
  ((ag5.f a0).bind fun y2 =>
  al3.l2 al3.e1 n8 a1 Y4 y2.Room y2.c4 y2.U y2.Entries 0))
def bi8.f (a0:Cache) (a1:List k7):Option (Int × Int) :=
  (ac0.f a0).bind fun y1 =>
  (al3.f a0 a1 y1).bind fun y2 =>
  bif y2.2.1 != 0 then
  (some (0,y2.2.1))
  else
  (some (y2.2.2,0))
def bH3.f (a0:Cache) (a1:List k7):Option (Int × Int) :=
  (ad4.f a0 a1).bind fun y1 =>
  some (y1.2.2.1,y1.2.2.2)
def ai5.e1 :Option Bool :=
  some true
def ai5.l2 (e1:Option Bool):Nat→(List k7)→(List k7)→Int→Option Bool
  | 0,_,_,_=>none
  | k+1,a0,a1,n7 =>
    bif decide (n7<(a0.length:Int)) then
    ((o7 a0 n7).bind fun x1 =>
    (o7 a1 n7).bind fun x2 =>
    (bif x1.Kind != x2.Kind then (some true) else (bif x1.At != x2.At then (some true) else (bif !p4 x1.b7 x2.b7 then (some true) else (bif !p4 x1.Key x2.Key then (some true) else (bif x1.j4 != x2.j4 then (some true) else ((ai3.f x1.j9 x2.j9).bind fun y1 =>
    some (!y1))))))).bind fun t1 =>
    bif t1 then
    (some false)
    else
    ((ai5.l2 e1 k) a0 a1 (c5 (n7+1))))
    else
    (e1)
def ai5.f (a0:List k7) (a1:List k7):Option Bool :=
  bif (a0.length:Int) != (a1.length:Int) then
  (some false)
  else
  (ai5.l2 ai5.e1 n8 a0 a1 0)
def bX0.f (a0:Int) (a1:Int):Option (Cache × Int) :=
  (ae1.f (⟨a0,a1,([]:List Blob),([]:List Entry)⟩:Cache)).bind fun y1 =>
  bif y1 != 0 then
  (some ((⟨0,0,([]:List Blob),([]:List Entry)⟩:Cache),y1))
  else
  (some ((⟨a0,a1,([]:List Blob),([]:List Entry)⟩:Cache),0))
def bC7.f :Option Bool :=
  (bX0.f 5 7).bind fun y1 =>
  (bif y1.2 == 0 then (bif y1.1.Room == 5 then (some (y1.1.c4 == 7)) else (some false)) else (some false)).bind fun t1 =>
  some t1
def bH1.f (a0:Cache) (a1:List k7):Option Bool :=
  (al0.f a0).bind fun y1 =>
  (aj6.f a1).bind fun y2 =>
  (bc4.f a0 a1).bind fun y3 =>
  (bH2.f (⟨y1.Room,y1.c4,y1.U,y1.Entries⟩:Cache) y2).bind fun y4 =>
  ((P0.f (⟨y3.1.Room,y3.1.c4,y3.1.U,y3.1.Entries⟩:Cache) (⟨y4.1.Room,y4.1.c4,y4.1.U,y4.1.Entries⟩:Cache)).bind fun A0 =>
  bif !A0 then (some true) else ((ag3.f y3.2.1 y4.2.1).bind fun G0 =>
  bif !G0 then (some true) else (some (y3.2.2 != y4.2.2)))).bind fun t1 =>
  bif t1 then
  (some false)
  else
  ((bi7.f a0 a1).bind fun W2 =>
  (T9.f (⟨y1.Room,y1.c4,y1.U,y1.Entries⟩:Cache) y2).bind fun O5 =>
  (bi8.f a0 a1).bind fun Q5 =>
  (bH3.f (⟨y1.Room,y1.c4,y1.U,y1.Entries⟩:Cache) y2).bind fun Q6 =>
  (bif W2.1 == O5.1 then (bif W2.2.1 == O5.2.1 then (bif W2.2.2 == O5.2.2 then (bif Q5.1 == Q6.1 then (bif Q5.2 == Q6.2 then ((P0.f a0 (⟨y1.Room,y1.c4,y1.U,y1.Entries⟩:Cache)).bind fun y11 =>
  bif y11 then ((ai5.f a1 y2).bind fun y12 =>
  bif y12 then ((bC7.f).bind fun y13 =>
  some y13) else (some false)) else (some false)) else (some false)) else (some false)) else (some false)) else (some false)) else (some false)).bind fun t2 =>
  some t2)
end Go.Proofs.YtiecpfnjmlidbaaGreatDoor
