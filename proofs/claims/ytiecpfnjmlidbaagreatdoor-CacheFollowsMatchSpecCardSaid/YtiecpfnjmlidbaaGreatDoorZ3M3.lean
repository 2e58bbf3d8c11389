/- What the machine's calls of these functions come to: just what the plain functions say. Written by program. -/
import Derived.Test.YtiecpfnjmlidbaaGreatDoorProg
import Derived.Test.YtiecpfnjmlidbaaGreatDoorKitXi
import Derived.Test.YtiecpfnjmlidbaaGreatDoorZD
import Derived.Test.YtiecpfnjmlidbaaGreatDoorShelf
import Derived.Test.YtiecpfnjmlidbaaGreatDoorZ3M2
set_option linter.unusedVariables false
set_option linter.unnecessarySimpa false
set_option linter.unusedSimpArgs false
set_option maxRecDepth 100000
set_option maxHeartbeats 1000000
namespace Go.Proofs.YtiecpfnjmlidbaaGreatDoor
open Go Go.RowKit Go.Proofs.YtiecpfnjmlidbaaGreatDoor.Kit
variable {w0 : World} {H0 H : Hp} {F : List Ch}
noncomputable def C78:Ctx:={ P:=Tryz.prog,f:=78,N:=14,c:=C1 Tryz.f78 }
def S78 (F:List Ch) (H0:Hp) (r:Bool) (v:Value) (H:Hp) (cs:List Ch):Prop:=H0=H∧v=.bool r∧F=cs
theorem ca6 {a0:Blob} {a1:Int} {r:Bool} (heq:bc5.f a0 a1=some r):z7 Tryz.prog 78 #[.agg #[.string a0.b7,iv a0.j4,iv a0.Used,iv a0.u6,iv a0.q4],iv a1] H w0 (F) (S78 F H r):=by
 refine Co C78 Tryz.func78 Tryz.ntmps78 ?_
 unfold bc5.f at heq
 refine Sa 1 ?_
 refine c6.e5 (j6.new (d:=2) (v:=fun g=>.pointer (some ⟨g,0,none⟩)) (o:=fun g=>.cells #[.string a0.b7,iv a0.j4,iv a0.Used,iv a0.u6,iv a0.q4] 44 (0,0)) (fun g=>by kernel_rfl)) ?_
 rintro _ _ _ _ ⟨g1,rfl,rfl,rfl⟩
 refine Zd 2<|An 1 ?_
 obtain ⟨t1,A9,heq⟩:=bind_some heq
 have O0:b8 C78 (S78 F H r) H w0 [.c [1,1]] [(4,.bool t1)] H (F):=by
  obtain rfl:=Option.some.inj heq
  exact b8.done (by kernel_rfl) Tryz.func78 (v:=.bool t1) (by kernel_rfl) ⟨rfl,rfl,rfl⟩
 replace heq:=A9
 refine Sa 0<|Zv 4 [bx 0 4] ?_
 rcases y9 (decide (0<a0.q4)) with o8 | o8
 ·replace heq:=A5 o8 heq
  refine Zs 8 (congrArg Value.bool o8)<|Zk 10 ?_
  obtain rfl:=Option.some.inj heq
  refine Dn ?_
  exact Gt 1 [] (O0)
 ·replace heq:=A6 o8 heq
  refine Zs 8 (congrArg Value.bool o8)<|Zv 10 [bx 0 3] ?_
  obtain rfl:=Option.some.inj heq
  refine Dn ?_
  exact Gt 1 [] (O0)
noncomputable def C97:Ctx:={ P:=Tryz.prog,f:=97,N:=77,c:=C1 Tryz.f97 }
def S97 (F:List Ch) (H0:Hp) (r:(List ByteArray)) (v:Value) (H:Hp) (cs:List Ch):Prop:=∃ (ad8:Option Addr) (c0:Nat) (J6:Ch),H0=H∧v=.slice ad8 r.length c0∧J6::F=cs∧b6 Kd.string 9 H ad8 c0 r J6
theorem E5.az5 {r:(List ByteArray)}:∀ (ah6:List ByteArray) (aD0:Option Addr) (aM5 aD1:Nat) (aI6:Ch) ,b6 Kd.string 9 H aD0 aD1 ah6 aI6→aM5=ah6.length→E5.e2 ah6=some r→b8 C97 (S97 F H r) H w0 [.c [1,1,1,1,1,0],.c [1,1,1,1,1,1]] [(10,.slice aD0 aM5 aD1)] H (aI6::F):=by
 intro ah6 aD0 aM5 aD1 aI6 by4 bK8 heq
 subst bK8
 unfold E5.e2 at heq
 refine Sa 0<|Zd 2 ?_
 obtain rfl:=Option.some.inj heq
 exact b8.done (by kernel_rfl) Tryz.func97 (v:=.slice aD0 ah6.length aD1) (by kernel_rfl) ⟨aD0,aD1,aI6,rfl,rfl,rfl,by4⟩
theorem E5.av4 {r:(List ByteArray)} (e2:(List ByteArray)→Option (List ByteArray))
  (he2:∀ (ah6:List ByteArray) (aD0:Option Addr) (aM5 aD1:Nat) (aI6:Ch) ,b6 Kd.string 9 H aD0 aD1 ah6 aI6→aM5=ah6.length→e2 ah6=some r→b8 C97 (S97 F H r) H w0 [.c [1,1,1,1,1,0],.c [1,1,1,1,1,1]] [(10,.slice aD0 aM5 aD1)] H (aI6::F)):∀ (k:Nat),∀ (C0:List Blob) (T4:Option Addr) (S1:Nat) (U7:Ch) (ah6:List ByteArray) (aD0:Option Addr) (aM5 aD1:Nat) (aI6:Ch) (aU4:Int) ,b6 j7 44 H T4 S1 C0 U7→b6 Kd.string 9 H aD0 aD1 ah6 aI6→aM5=ah6.length→E5.l3 e2 k C0 ah6 aU4=some r→b8 C97 (S97 F H r) H w0 [.c [1,1,1,1,0,1,0,0],.l [1,1,1,1,0,1,0,0],.b 4,.c [1,1,1,1,1]] [(5,.slice T4 C0.length S1),(10,.slice aD0 aM5 aD1),(11,iv aU4)] H (aI6::U7::F):=by
 intro k
 induction k with
 | zero=>intro C0 T4 S1 U7 ah6 aD0 aM5 aD1 aI6 aU4 am0 by4 bK8 heq; exact nomatch (show (none:Option (List ByteArray))=some r from heq)
 | succ k u0 =>
  intro C0 T4 S1 U7 ah6 aD0 aM5 aD1 aI6 aU4 am0 by4 bK8 heq
  subst bK8
  rw [E5.l3] at heq
  refine Sa 2<|Zd 4 ?_
  refine Cb heq ?_ ?_
  ·intro o8 heq
   refine Sa 3 ?_
   obtain ⟨x1,hx1,heq⟩:=bind_some heq
   obtain ⟨A7,I1,B1,B2⟩:=am0.get hx1
   obtain ⟨rfl⟩:=C6 B1
   refine Zv 6 [nx A7 hx1,el B2 1 0] ?_
   refine c6.e5 (j6.new (d:=74) (v:=fun g=>.slice (some ⟨g,0,none⟩) 1 1) (o:=fun g=>.cells #[.string x1.b7] 9 (0,0)) (fun g=>by kernel_rfl)) ?_
   rintro _ _ _ _ ⟨g1,rfl,rfl,rfl⟩
   have r8:b6 Kd.string 9 H (some ⟨g1,0,none⟩) 1 ([x1.b7]:List ByteArray) (some (g1,.cells #[.string x1.b7] 9 (0,0))):=b6.lit (xs:=([x1.b7]:List ByteArray)) (by kernel_rfl) (Nat.le_of_ble_eq_true (by kernel_rfl)) (Kd.q9.scalars rfl)
   obtain ⟨C4,heq⟩:=M1 heq
   refine c6.e5 (j6.append (d:=75) (k:=1) (t:=45) (e:=9) (bytes:=16) (kd:=Kd.string) (n:=ah6.length) (m:=1) (xs:=ah6) (ys:=([x1.b7]:List ByteArray)) (A:=aD0) (B:=(some ⟨g1,0,none⟩)) (c:=aD1) (cB:=1) (by kernel_rfl) rfl rfl (by kernel_rfl) rfl by4 (fun w hh=>r8.Y9 (hh.N1 0 rfl)) (room_le C4) (by have:=room_le C4; omega)) ?_
   rintro _ _ _ _ ⟨A1,c1,r9,rfl,rfl,rfl,w8⟩
   refine c6.p6 ?_
   refine Zd 9<|Sa 1<|Zd 3<|An 1 ?_
   exact Gt 1 [] (u0 C0 _ _ _ (ah6++([x1.b7]:List ByteArray)) _ _ _ _ (c5 (aU4+1)) am0 w8 rfl heq)
  ·intro o8 heq
   refine An 2 ?_
   exact Gt 2 [0] (he2 ah6 _ _ _ _ by4 rfl heq)
theorem E5.D7 {r:(List ByteArray)}:∀ (C0:List Blob) (T4:Option Addr) (ao2 S1:Nat) (U7:Ch) ,b6 j7 44 H T4 S1 C0 U7→ao2=C0.length→E5.e1 C0=some r→b8 C97 (S97 F H r) H w0 [.c [1,1,1,0],.c [1,1,1,1]] [(5,.slice T4 ao2 S1)] H (U7::F):=by
 intro C0 T4 ao2 S1 U7 am0 bm0 heq
 subst bm0
 unfold E5.e1 at heq
 refine Sa 0<|Zd 1<|Sa 2<|Zd 1<|An 2<|b8.w5 ?_
 have w4:b6 Kd.string 9 H none 0 ([]:List ByteArray) none:=b6.nil
 exact Gt 0 [] (((E5.av4 (e2:=E5.e2) (E5.az5)) n8) C0 _ _ _ ([]:List ByteArray) _ _ _ _ 0 am0 w4 rfl heq)
theorem E5.by5 {r:(List ByteArray)} (aG3:Cache→Int→(List Blob)→Int→Option (List ByteArray))
  (ca7:∀ (c9:Nat) (a0:Cache) (e6:Option Addr) (e8:Nat) (e3:Option Addr) (e4:Nat) (a1:Int) (C0:List Blob) (T4:Option Addr) (ao2 S1:Nat) (U7:Ch) (D1:Int) ,Rw j7 H F e6 a0.U→a0.U.length≤e8→Rw k5 H F e3 a0.Entries→a0.Entries.length≤e4→P3 H F c9 (.cells #[iv a0.Room,iv a0.c4,.slice e6 a0.U.length e8,.slice e3 a0.Entries.length e4] 25 (0,0))→b6 j7 44 H T4 S1 C0 U7→ao2=C0.length→aG3 a0 a1 C0 D1=some r→b8 C97 (S97 F H r) H w0 [.c [1,1,0,1,0,0],.l [1,1,0,1,0,0],.b 0,.c [1,1,1]] [(0,pg c9 0),(1,iv a1),(5,.slice T4 ao2 S1),(6,iv D1)] H (U7::F)):∀ (c9:Nat) (a0:Cache) (e6:Option Addr) (e8:Nat) (e3:Option Addr) (e4:Nat) (a1 D1:Int) (C0:List Blob) (T4:Option Addr) (ao2 S1:Nat) (U7:Ch) ,Rw j7 H F e6 a0.U→a0.U.length≤e8→Rw k5 H F e3 a0.Entries→a0.Entries.length≤e4→P3 H F c9 (.cells #[iv a0.Room,iv a0.c4,.slice e6 a0.U.length e8,.slice e3 a0.Entries.length e4] 25 (0,0))→b6 j7 44 H T4 S1 C0 U7→ao2=C0.length→E5.j5 aG3 a0 a1 D1 C0=some r→b8 C97 (S97 F H r) H w0 [.c [1,1,0,1,0,0,1,1],.l [1,1,0,1,0,0],.b 0,.c [1,1,1]] [(0,pg c9 0),(1,iv a1),(5,.slice T4 ao2 S1),(6,iv D1)] H (U7::F):=by
 intro c9 a0 e6 e8 e3 e4 a1 D1 C0 T4 ao2 S1 U7 n9 s7 l8 q8 K3 am0 bm0 heq
 subst bm0
 unfold E5.j5 at heq
 refine Sa 0<|Zd 3<|An 1 ?_
 exact Gt 0 [] (ca7 _ a0 _ _ _ _ a1 C0 _ _ _ _ (c5 (D1+1)) n9 s7 l8 q8 K3 am0 rfl heq)
theorem E5.ca8 {r:(List ByteArray)} (j5:Cache→Int→Int→(List Blob)→Option (List ByteArray))
  (hj5:∀ (c9:Nat) (a0:Cache) (e6:Option Addr) (e8:Nat) (e3:Option Addr) (e4:Nat) (a1 D1:Int) (C0:List Blob) (T4:Option Addr) (ao2 S1:Nat) (U7:Ch) ,Rw j7 H F e6 a0.U→a0.U.length≤e8→Rw k5 H F e3 a0.Entries→a0.Entries.length≤e4→P3 H F c9 (.cells #[iv a0.Room,iv a0.c4,.slice e6 a0.U.length e8,.slice e3 a0.Entries.length e4] 25 (0,0))→b6 j7 44 H T4 S1 C0 U7→ao2=C0.length→j5 a0 a1 D1 C0=some r→b8 C97 (S97 F H r) H w0 [.c [1,1,0,1,0,0,1,1],.l [1,1,0,1,0,0],.b 0,.c [1,1,1]] [(0,pg c9 0),(1,iv a1),(5,.slice T4 ao2 S1),(6,iv D1)] H (U7::F)):∀ (c9:Nat) (a0:Cache) (e6:Option Addr) (e8:Nat) (e3:Option Addr) (e4:Nat) (a1:Int) (C0:List Blob) (T4:Option Addr) (S1:Nat) (U7:Ch) (D1:Int) (x2:Blob) (g2:Nat) (M6:Int) ,Rw j7 H F e6 a0.U→a0.U.length≤e8→Rw k5 H F e3 a0.Entries→a0.Entries.length≤e4→P3 H F c9 (.cells #[iv a0.Room,iv a0.c4,.slice e6 a0.U.length e8,.slice e3 a0.Entries.length e4] 25 (0,0))→b6 j7 44 H T4 S1 C0 U7→E5.W8 j5 a0 a1 C0 D1 x2 M6=some r→b8 C97 (S97 F H r) H w0 [.c [1,1,0,1,0,0,1,0,0,1,1,1,1,0],.c [1,1,0,1,0,0,1,0,0,1,1,1,1,1],.b 1,.c [1,1,0,1,0,0,1,1],.l [1,1,0,1,0,0],.b 0,.c [1,1,1]] [(0,pg c9 0),(1,iv a1),(5,.slice T4 C0.length S1),(6,iv D1),(7,pg g2 0),(8,iv M6)] H ((some (g2,.cells #[.string x2.b7,iv x2.j4,iv x2.Used,iv x2.u6,iv x2.q4] 44 (0,0)))::U7::F):=by
 intro c9 a0 e6 e8 e3 e4 a1 C0 T4 S1 U7 D1 x2 g2 M6 n9 s7 l8 q8 K3 am0 heq
 unfold E5.W8 at heq
 refine Sa 0<|Zd 1<|Sa 1 ?_
 obtain ⟨S9,heq⟩:=M1 heq
 have hn2:M6.toNat=(C0.take M6.toNat).length:=by have h1:=O6 S9; have h3:=trivial; (try simp); (try omega)
 have C9:=am0.take M6.toNat
 refine Zv 4 [⟨.need ((0:Int)≤M6∧M6≤((S1:Nat):Int)),fun w hh=>⟨(O6 S9).1,(by have h1:=(O6 S9).2; have h2:=am0.cap; have h3:=trivial; omega)⟩⟩]<|c6.w5 ?_
 have H7:b6 j7 44 H none 0 ([]:List Blob) none:=b6.nil
 obtain ⟨hn4,heq⟩:=M1 heq
 refine c6.e5 (j6.append (d:=52) (k:=0) (t:=22) (e:=44) (bytes:=48) (kd:=j7) (n:=0) (m:=M6.toNat) (xs:=([]:List Blob)) (ys:=(C0.take M6.toNat)) (A:=none) (B:=T4) (c:=0) (cB:=S1) (by kernel_rfl) rfl hn2 (by kernel_rfl) rfl H7 (fun w hh=>C9.Y9 (hh.N1 2 rfl)) (room_le hn4) (by have:=room_le hn4; omega)) ?_
 rintro _ _ _ _ ⟨aa3,c2,B5,rfl,rfl,rfl,O4⟩
 refine c6.p6 ?_
 refine Zd 6<|Sa 1<|Zv 2 (C8 1) ?_
 refine c6.e5 (j6.new (d:=55) (v:=fun g=>.slice (some ⟨g,0,none⟩) 1 1) (o:=fun g=>.cells #[.string x2.b7,iv x2.j4,iv x2.Used,iv x2.u6,iv x2.q4] 44 (0,0)) (fun g=>by kernel_rfl)) ?_
 rintro _ _ _ _ ⟨g3,rfl,rfl,rfl⟩
 have O3:b6 j7 44 H (some ⟨g3,0,none⟩) 1 ([x2]:List Blob) (some (g3,.cells #[.string x2.b7,iv x2.j4,iv x2.Used,iv x2.u6,iv x2.q4] 44 (0,0))):=b6.lit (xs:=([x2]:List Blob)) (by kernel_rfl) (Nat.le_of_ble_eq_true (by kernel_rfl)) (Kd.q9.one af8)
 obtain ⟨hn5,heq⟩:=M1 heq
 refine c6.e5 (j6.append (d:=56) (k:=1) (t:=22) (e:=44) (bytes:=48) (kd:=j7) (n:=(([]:List Blob)++(C0.take M6.toNat)).length) (m:=1) (xs:=(([]:List Blob)++(C0.take M6.toNat))) (ys:=([x2]:List Blob)) (A:=aa3) (B:=(some ⟨g3,0,none⟩)) (c:=c2) (cB:=1) (by kernel_rfl) rfl rfl (by kernel_rfl) rfl O4 (fun w hh=>O3.Y9 (hh.N1 0 rfl)) (room_le hn5) (by have:=room_le hn5; omega)) ?_
 rintro _ _ _ _ ⟨aa8,c3,E6,rfl,rfl,rfl,R5⟩
 refine c6.p6 ?_
 refine Zd 5<|Sa 0 ?_
 obtain ⟨hn7,heq⟩:=M1 heq
 have hn6:C0.length - M6.toNat=(C0.drop M6.toNat).length:=by have h1:=O6 hn7; have h3:=trivial; (try simp); (try omega)
 have K4:=am0.drop M6.toNat (by have h2:=am0.cap; have h3:=trivial; have h1:=O6 hn7; omega)
 refine Zv 4 [⟨.need ((0:Int)≤M6∧M6≤((C0.length:Nat):Int)),fun w hh=>(O6 hn7)⟩] ?_
 obtain ⟨hn8,heq⟩:=M1 heq
 refine c6.e5 (j6.append (d:=61) (k:=1) (t:=22) (e:=44) (bytes:=48) (kd:=j7) (n:=((([]:List Blob)++(C0.take M6.toNat))++([x2]:List Blob)).length) (m:=C0.length - M6.toNat) (xs:=((([]:List Blob)++(C0.take M6.toNat))++([x2]:List Blob))) (ys:=(C0.drop M6.toNat)) (A:=aa8) (B:=(K6 S1 M6.toNat 5 T4)) (c:=c3) (cB:=(S1 - M6.toNat)) (by kernel_rfl) rfl hn6 (by kernel_rfl) rfl R5 (fun w hh=>K4.Y9 (hh.N1 3 rfl)) (room_le hn8) (by have:=room_le hn8; omega)) ?_
 rintro _ _ _ _ ⟨aa9,y8,G6,rfl,rfl,rfl,N0⟩
 refine c6.p6 ?_
 refine Zd 6<|An 1 ?_
 exact Gt 4 [1] (hj5 _ a0 _ _ _ _ a1 D1 (((([]:List Blob)++(C0.take M6.toNat))++([x2]:List Blob))++(C0.drop M6.toNat)) _ _ _ _ n9 s7 l8 q8 K3 N0 rfl heq)
theorem E5.ca9 {r:(List ByteArray)} (W8:Cache→Int→(List Blob)→Int→Blob→Int→Option (List ByteArray))
  (he6:∀ (c9:Nat) (a0:Cache) (e6:Option Addr) (e8:Nat) (e3:Option Addr) (e4:Nat) (a1:Int) (C0:List Blob) (T4:Option Addr) (S1:Nat) (U7:Ch) (D1:Int) (x2:Blob) (g2:Nat) (M6:Int) ,Rw j7 H F e6 a0.U→a0.U.length≤e8→Rw k5 H F e3 a0.Entries→a0.Entries.length≤e4→P3 H F c9 (.cells #[iv a0.Room,iv a0.c4,.slice e6 a0.U.length e8,.slice e3 a0.Entries.length e4] 25 (0,0))→b6 j7 44 H T4 S1 C0 U7→W8 a0 a1 C0 D1 x2 M6=some r→b8 C97 (S97 F H r) H w0 [.c [1,1,0,1,0,0,1,0,0,1,1,1,1,0],.c [1,1,0,1,0,0,1,0,0,1,1,1,1,1],.b 1,.c [1,1,0,1,0,0,1,1],.l [1,1,0,1,0,0],.b 0,.c [1,1,1]] [(0,pg c9 0),(1,iv a1),(5,.slice T4 C0.length S1),(6,iv D1),(7,pg g2 0),(8,iv M6)] H ((some (g2,.cells #[.string x2.b7,iv x2.j4,iv x2.Used,iv x2.u6,iv x2.q4] 44 (0,0)))::U7::F)):∀ (k:Nat),∀ (c9:Nat) (a0:Cache) (e6:Option Addr) (e8:Nat) (e3:Option Addr) (e4:Nat) (a1:Int) (C0:List Blob) (T4:Option Addr) (S1:Nat) (U7:Ch) (D1:Int) (x2:Blob) (g2:Nat) (M6:Int) ,Rw j7 H F e6 a0.U→a0.U.length≤e8→Rw k5 H F e3 a0.Entries→a0.Entries.length≤e4→P3 H F c9 (.cells #[iv a0.Room,iv a0.c4,.slice e6 a0.U.length e8,.slice e3 a0.Entries.length e4] 25 (0,0))→b6 j7 44 H T4 S1 C0 U7→E5.l7 W8 k a0 a1 C0 D1 x2 M6=some r→b8 C97 (S97 F H r) H w0 [.c [1,1,0,1,0,0,1,0,0,1,1,1,0,0,0],.l [1,1,0,1,0,0,1,0,0,1,1,1,0,0,0],.b 2,.c [1,1,0,1,0,0,1,0,0,1,1,1,1],.b 1,.c [1,1,0,1,0,0,1,1],.l [1,1,0,1,0,0],.b 0,.c [1,1,1]] [(0,pg c9 0),(1,iv a1),(5,.slice T4 C0.length S1),(6,iv D1),(7,pg g2 0),(8,iv M6)] H ((some (g2,.cells #[.string x2.b7,iv x2.j4,iv x2.Used,iv x2.u6,iv x2.q4] 44 (0,0)))::U7::F):=by
 intro k
 induction k with
 | zero=>intro c9 a0 e6 e8 e3 e4 a1 C0 T4 S1 U7 D1 x2 g2 M6 n9 s7 l8 q8 K3 am0 heq; exact nomatch (show (none:Option (List ByteArray))=some r from heq)
 | succ k u0 =>
  intro c9 a0 e6 e8 e3 e4 a1 C0 T4 S1 U7 D1 x2 g2 M6 n9 s7 l8 q8 K3 am0 heq
  rw [E5.l7] at heq
  refine An 2 ?_
  obtain ⟨t1,A9,heq⟩:=bind_some heq
  have K11:b8 C97 (S97 F H r) H w0 [.c [1,1,0,1,0,0,1,0,0,1,1,1,0,0,0,0,1],.c [1,1,0,1,0,0,1,0,0,1,1,1,0,0,0,1],.l [1,1,0,1,0,0,1,0,0,1,1,1,0,0,0],.b 2,.c [1,1,0,1,0,0,1,0,0,1,1,1,1],.b 1,.c [1,1,0,1,0,0,1,1],.l [1,1,0,1,0,0],.b 0,.c [1,1,1]] [(0,pg c9 0),(1,iv a1),(5,.slice T4 C0.length S1),(6,iv D1),(7,pg g2 0),(8,iv M6),(45,.bool t1)] H ((some (g2,.cells #[.string x2.b7,iv x2.j4,iv x2.Used,iv x2.u6,iv x2.q4] 44 (0,0)))::U7::F):=by
   refine Cb heq ?_ ?_
   ·intro F2 heq
    refine Sa 2<|Zd 3<|An 2 ?_
    exact Gt 0 [] (u0 _ a0 _ _ _ _ a1 C0 _ _ _ D1 x2 _ (c5 (M6 - 1)) n9 s7 l8 q8 K3 am0 heq)
   ·intro F2 heq
    refine An 2 ?_
    exact Gt 0 [] (he6 _ a0 _ _ _ _ a1 C0 _ _ _ D1 x2 _ M6 n9 s7 l8 q8 K3 am0 heq)
  replace heq:=A9
  refine Sd 0 13 [] [3,3,3,3,3,3,3,3,3,3,3,3,3]<|Zr [0,1,2] 10 [] (Pk 2 [0,1]) (Pk 2 [0,1]) ?_
  rcases y9 (decide (0<M6)) with B3 | B3
  ·replace heq:=A5 B3 heq
   refine Zu 35 (congrArg Value.bool B3) ?_
   obtain ⟨x3,K8,heq⟩:=bind_some heq
   obtain ⟨W1,ae3,Q4,ad7⟩:=am0.get K8
   obtain ⟨rfl⟩:=C6 Q4
   refine Zr [3,4,5,6,7,8,9,10,11,12] 0 [nx W1 K8,el ad7 1 2,bx 0 2] (Pk 2 [0,1]) (Pk 2 [0,1]) ?_
   obtain rfl:=Option.some.inj heq
   refine o5.done (by kernel_rfl) ?_
   exact Gt 0 [] (K11)
  ·replace heq:=A6 B3 heq
   refine Zu 35 (congrArg Value.bool B3)<|Zr [3,4,5,6,7,8,9,10,11,12] 0 [] (Pk 2 [0,1]) (Pk 2 [0,1]) ?_
   obtain rfl:=Option.some.inj heq
   refine o5.done (by kernel_rfl) ?_
   exact Gt 0 [] (K11)
theorem E5.aL6 {r:(List ByteArray)} (e1:(List Blob)→Option (List ByteArray))
  (D4:∀ (C0:List Blob) (T4:Option Addr) (ao2 S1:Nat) (U7:Ch) ,b6 j7 44 H T4 S1 C0 U7→ao2=C0.length→e1 C0=some r→b8 C97 (S97 F H r) H w0 [.c [1,1,1,0],.c [1,1,1,1]] [(5,.slice T4 ao2 S1)] H (U7::F)):∀ (k:Nat),∀ (c9:Nat) (a0:Cache) (e6:Option Addr) (e8:Nat) (e3:Option Addr) (e4:Nat) (a1:Int) (C0:List Blob) (T4:Option Addr) (ao2 S1:Nat) (U7:Ch) (D1:Int) ,Rw j7 H F e6 a0.U→a0.U.length≤e8→Rw k5 H F e3 a0.Entries→a0.Entries.length≤e4→P3 H F c9 (.cells #[iv a0.Room,iv a0.c4,.slice e6 a0.U.length e8,.slice e3 a0.Entries.length e4] 25 (0,0))→b6 j7 44 H T4 S1 C0 U7→ao2=C0.length→E5.l4 e1 k a0 a1 C0 D1=some r→b8 C97 (S97 F H r) H w0 [.c [1,1,0,1,0,0],.l [1,1,0,1,0,0],.b 0,.c [1,1,1]] [(0,pg c9 0),(1,iv a1),(5,.slice T4 ao2 S1),(6,iv D1)] H (U7::F):=by
 intro k
 induction k with
 | zero=>intro c9 a0 e6 e8 e3 e4 a1 C0 T4 ao2 S1 U7 D1 n9 s7 l8 q8 K3 am0 bm0 heq; exact nomatch (show (none:Option (List ByteArray))=some r from heq)
 | succ k u0 =>
  intro c9 a0 e6 e8 e3 e4 a1 C0 T4 ao2 S1 U7 D1 n9 s7 l8 q8 K3 am0 bm0 heq
  subst bm0
  rw [E5.l4] at heq
  refine Sa 2<|Zw 7 [rb K3 1 2] ?_
  refine Cb heq ?_ ?_
  ·intro s3 heq
   refine Sa 4 ?_
   obtain ⟨x2,w6,heq⟩:=bind_some heq
   obtain ⟨J2,T7,I8,J7⟩:=n9.get w6
   obtain ⟨rfl⟩:=C6 I8
   refine Zv 7 ([rb K3 1 2,nx J2 w6]++ers J7 1) ?_
   refine c6.e5 (j6.new (d:=7) (v:=fun g=>.pointer (some ⟨g,0,none⟩)) (o:=fun g=>.cells #[.string ByteArray.empty,iv 0,iv 0,iv 0,iv 0] 44 (0,0)) (fun g=>by kernel_rfl)) ?_
   rintro _ _ _ _ ⟨g2,rfl,rfl,rfl⟩
   refine c6.e5 (j6.store (k:=0) (g:=g2) (off:=0) (v:=.agg #[.string x2.b7,iv x2.j4,iv x2.Used,iv x2.u6,iv x2.q4]) (cells':=#[.string x2.b7,iv x2.j4,iv x2.Used,iv x2.u6,iv x2.q4]) (by kernel_rfl) rfl (by kernel_rfl) (by kernel_rfl)) ?_
   rintro _ _ _ _ ⟨rfl,rfl,rfl⟩
   refine c6.p6 ?_
   refine Dn<|Sa 2<|Zv 2 (C8 0) ?_
   obtain ⟨y1,hy1,heq⟩:=bind_some heq
   refine c6.e5 (o9 30 (ca6 hy1 )) ?_
   rintro _ _ _ _ ⟨_,rfl,rfl,rfl,rfl⟩
   refine Dn ?_
   refine Cb heq ?_ ?_
   ·intro x7 heq
    refine An 1 ?_
    exact Gt 1 [] ((E5.by5 (aG3:=(E5.l4 e1 k)) u0) _ a0 _ _ _ _ a1 D1 C0 _ _ _ _ n9 s7 l8 q8 K3 am0 rfl heq)
   ·intro x7 heq
    refine Sa 2<|Zd 3<|An 3 ?_
    exact Gt 0 [] (((E5.ca9 (W8:=E5.W8 (E5.j5 ((E5.l4 e1 k)))) (E5.ca8 (j5:=E5.j5 ((E5.l4 e1 k))) (E5.by5 (aG3:=(E5.l4 e1 k)) u0))) n8) _ a0 _ _ _ _ a1 C0 _ _ _ D1 x2 _ (C0.length:Int) n9 s7 l8 q8 K3 am0 heq)
  ·intro s3 heq
   refine An 2 ?_
   exact Gt 0 [] (D4 C0 _ _ _ _ am0 rfl heq)
theorem dr7 {c9:Nat} {a0:Cache} {e6:Option Addr} {q2 e8:Nat} {e3:Option Addr} {p7 e4:Nat} {a1:Int} {r:(List ByteArray)} (heq:E5.f a0 a1=some r) (n9:Rw j7 H F e6 a0.U) (s7:q2≤e8) (B9:q2=a0.U.length) (l8:Rw k5 H F e3 a0.Entries) (q8:p7≤e4) (B4:p7=a0.Entries.length) (K3:P3 H F c9 (.cells #[iv a0.Room,iv a0.c4,.slice e6 q2 e8,.slice e3 p7 e4] 25 (0,0))):z7 Tryz.prog 97 #[.pointer (some ⟨c9,0,none⟩),iv a1] H w0 (F) (S97 F H r):=by
 refine Co C97 Tryz.func97 Tryz.ntmps97 ?_
 subst B9
 subst B4
 unfold E5.f at heq
 refine Sa 1<|Zd 1<|Sa 1<|Zd 1<|Sa 2<|Zd 1<|An 2<|b8.w5 ?_
 have aa4:b6 j7 44 H none 0 ([]:List Blob) none:=b6.nil
 exact Gt 0 [] (((E5.aL6 (e1:=E5.e1) (E5.D7)) n8) _ a0 _ _ _ _ a1 ([]:List Blob) _ _ _ _ 0 n9 s7 l8 q8 K3 aa4 rfl heq)
noncomputable def dr8:Ctx:={ P:=Tryz.prog,f:=73,N:=28,c:=C1 Tryz.f73 }
def dr9 (F:List Ch) (H0:Hp) (c9:Nat) (r:Cache) (v:Value) (H:Hp) (cs:List Ch):Prop:=∃ (E7:Option Addr) (E8:Nat) (F1:Ch) (P7:Option Addr) (P8:Nat) (Q9:Ch),H0=H∧v=.tuple #[]∧some (c9,.cells #[iv r.Room,iv r.c4,.slice E7 r.U.length E8,.slice P7 r.Entries.length P8] 25 (0,0))::F1::Q9::F=cs∧b6 j7 44 H E7 E8 r.U F1∧b6 k5 47 H P7 P8 r.Entries Q9
theorem bK9 {c9:Nat} {a0:Cache} {e6:Option Addr} {q2 e8:Nat} {s8:Ch} {e3:Option Addr} {p7 e4:Nat} {p5:Ch} {a1 a2:Int} {r:Cache} (heq:aS7.f a0 a1 a2=some r) (q6:b6 j7 44 H e6 e8 a0.U s8) (B9:q2=a0.U.length) (p9:b6 k5 47 H e3 e4 a0.Entries p5) (B4:p7=a0.Entries.length):z7 Tryz.prog 73 #[.pointer (some ⟨c9,0,none⟩),iv a1,iv a2] H w0 ((some (c9,.cells #[iv a0.Room,iv a0.c4,.slice e6 q2 e8,.slice e3 p7 e4] 25 (0,0)))::s8::p5::F) (dr9 F H c9 r):=by
 refine Co dr8 Tryz.func73 Tryz.ntmps73 ?_
 subst B9
 subst B4
 unfold aS7.f at heq
 refine Sd 0 23 [] [3,3,3,3,3,3,3,3,3,3,3,3,3,3,3,3,3,3,3,3,0,3,2] ?_
 obtain ⟨x1,hx1,heq⟩:=bind_some heq
 obtain ⟨A7,I1,B1,B2⟩:=q6.get hx1
 obtain ⟨rfl⟩:=C6 B1
 refine Zr [0,1,2,3,4,5,6,7,8,9,10,11,12,13,14,15,16,17,18,19] 3 [bx 0 2,bx 0 2,nx A7 hx1,el B2 1 3,bx 0 1] (Pk 3 [0,1,2]) (Pk 3 [0,1,2]) ?_
 obtain ⟨J2,T7,I8,J7⟩:=q6.get hx1
 obtain ⟨rfl⟩:=C6 I8
 refine Dz 20 (j6.aw6 (d:=26) (v:=.pointer (some ((H8 e6).add (a1.toNat*5)))) (vs:=[]) (G8:=[.need (e6=some (H8 e6)∧(0:Int)≤a1∧a1<((a0.U.length:Nat):Int))]) (by kernel_rfl) (fun w hh=>⟨J2,(aa2 hx1).1,(aa2 hx1).2.1⟩)) ?_
 rintro _ _ _ _ ⟨rfl,rfl,rfl⟩
 refine ⟨fun _ w hh=>⟨fun _=>(Pk 3 [0,1,2]) w hh,fun _=>(Pk 3 [0,1,2]) w hh,(fun h=>by cases h)⟩,?_⟩
 refine Zr [21] 1 [] (Pk 3 [0,1,2]) (Pk 3 [0,1,2]) ?_
 obtain ⟨W1,ae3,Q4,ad7⟩:=q6.get hx1
 obtain ⟨rfl⟩:=C6 Q4
 refine Dz 22 (j6.ab7 (a:=(((H8 e6).add (a1.toNat*5)).add 3)) (k:=1) (kd:=j7) (c0:=[.string x1.b7,iv x1.j4,iv x1.Used,iv x1.u6,iv x1.q4]) (x':=(⟨x1.b7,x1.j4,x1.Used,max2 x1.u6 (c5 (a2+a0.c4)),x1.q4⟩:Blob)) (o:=3) (ix:=a1) (v:=iv (max2 x1.u6 (c5 (a2+a0.c4)))) (by kernel_rfl) rfl q6 hx1 (by kernel_rfl) ad7 rfl (Nat.le_of_ble_eq_true (by kernel_rfl)) af8) ?_
 rintro _ _ _ _ ⟨r9,rfl,rfl,rfl,r8⟩
 have C4:a0.U.length=(a0.U.set a1.toNat (⟨x1.b7,x1.j4,x1.Used,max2 x1.u6 (c5 (a2+a0.c4)),x1.q4⟩:Blob)).length:=by rw [List.length_set]
 refine ⟨fun _ w hh=>⟨(fun h=>by cases h),(fun h=>absurd h (by decide)),(fun h=>by cases h)⟩,?_⟩
 refine o5.p6 ?_
 refine o5.done (by kernel_rfl) ?_
 obtain rfl:=Option.some.inj heq
 exact b8.done (by kernel_rfl) Tryz.func73 (v:=.tuple #[]) (by kernel_rfl) ⟨e6,e8,r9,e3,e4,p5,rfl,(by first | rfl | exact congrArg (fun q=>Value.slice _ q _) C4 | (rw [C4]; done) | (simp only [← C4])),(by first | rfl | (rw [C4]; done) | (rw [C4]; rfl) | (simp only [List.length_set]; done) | (simp only [List.length_set]; rfl)),r8,p9⟩
noncomputable def ds0:Ctx:={ P:=Tryz.prog,f:=79,N:=29,c:=C1 Tryz.f79 }
def ds1 (F:List Ch) (H0:Hp) (c9:Nat) (r:Cache) (v:Value) (H:Hp) (cs:List Ch):Prop:=∃ (E7:Option Addr) (E8:Nat) (F1:Ch) (P7:Option Addr) (P8:Nat) (Q9:Ch),H0=H∧v=.tuple #[]∧some (c9,.cells #[iv r.Room,iv r.c4,.slice E7 r.U.length E8,.slice P7 r.Entries.length P8] 25 (0,0))::F1::Q9::F=cs∧b6 j7 44 H E7 E8 r.U F1∧b6 k5 47 H P7 P8 r.Entries Q9
theorem cC1 {c9:Nat} {a0:Cache} {e6:Option Addr} {q2 e8:Nat} {s8:Ch} {e3:Option Addr} {p7 e4:Nat} {p5:Ch} {a1:ByteArray} {r:Cache} (heq:aW9.f a0 a1=some r) (q6:b6 j7 44 H e6 e8 a0.U s8) (B9:q2=a0.U.length) (p9:b6 k5 47 H e3 e4 a0.Entries p5) (B4:p7=a0.Entries.length):z7 Tryz.prog 79 #[.pointer (some ⟨c9,0,none⟩),.string a1] H w0 ((some (c9,.cells #[iv a0.Room,iv a0.c4,.slice e6 q2 e8,.slice e3 p7 e4] 25 (0,0)))::s8::p5::F) (ds1 F H c9 r):=by
 refine Co ds0 Tryz.func79 Tryz.ntmps79 ?_
 subst B9
 subst B4
 unfold aW9.f at heq
 refine Sa 1<|Zk 2 ?_
 obtain ⟨y1,hy1,heq⟩:=bind_some heq
 refine c6.e5 (o9 8 (aU3 hy1 (q6.rw (.tail _ (.head _))) q6.cap rfl (p9.rw (.tail _ (.tail _ (.head _)))) p9.cap rfl (.inr (.head _)))) ?_
 rintro _ _ _ _ ⟨_,rfl,rfl,rfl,rfl⟩
 refine Zd 4<|Sa 1<|Zd 1<|Sa 1 ?_
 obtain ⟨hn2,heq⟩:=M1 heq
 have C4:y1.toNat=(a0.U.take y1.toNat).length:=by have h1:=O6 hn2; have h3:=trivial; (try simp); (try omega)
 have r8:=q6.take y1.toNat
 refine Zv 7 [bx 0 2,⟨.need ((0:Int)≤y1∧y1≤((e8:Nat):Int)),fun w hh=>⟨(O6 hn2).1,(by have h1:=(O6 hn2).2; have h2:=q6.cap; have h3:=trivial; omega)⟩⟩]<|c6.w5 ?_
 have w8:b6 j7 44 H none 0 ([]:List Blob) none:=b6.nil
 obtain ⟨S9,heq⟩:=M1 heq
 refine c6.e5 (j6.append (d:=16) (k:=0) (t:=22) (e:=44) (bytes:=48) (kd:=j7) (n:=0) (m:=y1.toNat) (xs:=([]:List Blob)) (ys:=(a0.U.take y1.toNat)) (A:=none) (B:=e6) (c:=0) (cB:=e8) (by kernel_rfl) rfl C4 (by kernel_rfl) rfl w8 (fun w hh=>r8.Y9 (hh.N1 2 rfl)) (room_le S9) (by have:=room_le S9; omega)) ?_
 rintro _ _ _ _ ⟨A1,c1,r9,rfl,rfl,rfl,w4⟩
 refine c6.p6 ?_
 refine Zd 9<|Sa 0 ?_
 obtain ⟨hn5,heq⟩:=M1 heq
 have hn4:a0.U.length - (c5 (y1+1)).toNat=(a0.U.drop (c5 (y1+1)).toNat).length:=by have h1:=O6 hn5; have h3:=trivial; (try simp); (try omega)
 have C9:=q6.drop (c5 (y1+1)).toNat (by have h2:=q6.cap; have h3:=trivial; have h1:=O6 hn5; omega)
 refine Zv 9 [bx 1 2,⟨.need ((0:Int)≤(c5 (y1+1))∧(c5 (y1+1))≤((a0.U.length:Nat):Int)),fun w hh=>(O6 hn5)⟩] ?_
 obtain ⟨hn6,heq⟩:=M1 heq
 refine c6.e5 (j6.append (d:=26) (k:=0) (t:=22) (e:=44) (bytes:=48) (kd:=j7) (n:=(([]:List Blob)++(a0.U.take y1.toNat)).length) (m:=a0.U.length - (c5 (y1+1)).toNat) (xs:=(([]:List Blob)++(a0.U.take y1.toNat))) (ys:=(a0.U.drop (c5 (y1+1)).toNat)) (A:=A1) (B:=(K6 e8 (c5 (y1+1)).toNat 5 e6)) (c:=c1) (cB:=(e8 - (c5 (y1+1)).toNat)) (by kernel_rfl) rfl hn4 (by kernel_rfl) rfl w4 (fun w hh=>C9.Y9 (hh.N1 2 rfl)) (room_le hn6) (by have:=room_le hn6; omega)) ?_
 rintro _ _ _ _ ⟨aa3,c2,B5,rfl,rfl,rfl,H7⟩
 refine c6.p6 ?_
 refine Zk 12 ?_
 refine c6.e5 (j6.store (k:=1) (g:=c9) (off:=2) (v:=.slice aa3 (((([]:List Blob)++(a0.U.take y1.toNat))++(a0.U.drop (c5 (y1+1)).toNat)).length) c2) (cells':=#[iv a0.Room,iv a0.c4,.slice aa3 (((([]:List Blob)++(a0.U.take y1.toNat))++(a0.U.drop (c5 (y1+1)).toNat)).length) c2,.slice e3 a0.Entries.length e4]) (by kernel_rfl) rfl (by kernel_rfl) (by kernel_rfl)) ?_
 rintro _ _ _ _ ⟨rfl,rfl,rfl⟩
 refine c6.p6 ?_
 refine Dn ?_
 obtain rfl:=Option.some.inj heq
 refine Up 3 [1,0] ?_
 exact b8.done (by kernel_rfl) Tryz.func79 (v:=.tuple #[]) (by kernel_rfl) ⟨aa3,c2,B5,e3,e4,p5,rfl,rfl,rfl,H7,p9⟩
noncomputable def aR0:Ctx:={ P:=Tryz.prog,f:=74,N:=76,c:=C1 Tryz.f74 }
def aR1 (F:List Ch) (H0:Hp) (c9:Nat) (r:(List ByteArray) × Bool × Cache) (v:Value) (H:Hp) (cs:List Ch):Prop:=∃ (ad8:Option Addr) (c0:Nat) (J6:Ch) (ap5:Option Addr) (ap6:Nat) (ap7:Ch) (ap8:Option Addr) (ap9:Nat) (aq0:Ch),H0=H∧v=.tuple #[.slice ad8 r.1.length c0,.bool r.2.1]∧J6::some (c9,.cells #[iv r.2.2.Room,iv r.2.2.c4,.slice ap5 r.2.2.U.length ap6,.slice ap8 r.2.2.Entries.length ap9] 25 (0,0))::ap7::aq0::F=cs∧b6 Kd.string 9 H ad8 c0 r.1 J6∧b6 j7 44 H ap5 ap6 r.2.2.U ap7∧b6 k5 47 H ap8 ap9 r.2.2.Entries aq0
theorem K7.az5 {r:(List ByteArray) × Bool × Cache}:∀ (c9:Nat) (r6 r7:Int) (k9:List Blob) (s4:Option Addr) (C7 u5:Nat) (u7:Ch) (o4:List Entry) (z8:Option Addr) (J1 z6:Nat) (ac3:Ch) (M0:List ByteArray) (ab3:Option Addr) (ak7 ab4:Nat) (ag0:Ch) ,b6 j7 44 H s4 u5 k9 u7→C7=k9.length→b6 k5 47 H z8 z6 o4 ac3→J1=o4.length→b6 Kd.string 9 H ab3 ab4 M0 ag0→ak7=M0.length→K7.e2 r6 r7 k9 o4 M0=some r→b8 aR0 (aR1 F H c9 r) H w0 [.c [1,1,1,1,1,1,1,0],.c [1,1,1,1,1,1,1,1]] [(0,pg c9 0),(10,.slice ab3 ak7 ab4)] H (ag0::(some (c9,.cells #[iv r6,iv r7,.slice s4 C7 u5,.slice z8 J1 z6] 25 (0,0)))::u7::ac3::F):=by
 intro c9 r6 r7 k9 s4 C7 u5 u7 o4 z8 J1 z6 ac3 M0 ab3 ak7 ab4 ag0 D3 W9 J4 ai9 aC7 aT7 heq
 subst W9
 subst ai9
 subst aT7
 unfold K7.e2 at heq
 refine Sa 0<|Zd 3 ?_
 obtain rfl:=Option.some.inj heq
 exact b8.done (by kernel_rfl) Tryz.func74 (v:=.tuple #[.slice ab3 M0.length ab4,.bool true]) (by kernel_rfl) ⟨ab3,ab4,ag0,s4,u5,u7,z8,z6,ac3,rfl,rfl,rfl,aC7,D3,J4⟩
theorem K7.av4 {r:(List ByteArray) × Bool × Cache} (e2:Int→Int→(List Blob)→(List Entry)→(List ByteArray)→Option ((List ByteArray) × Bool × Cache))
  (he2:∀ (c9:Nat) (r6 r7:Int) (k9:List Blob) (s4:Option Addr) (C7 u5:Nat) (u7:Ch) (o4:List Entry) (z8:Option Addr) (J1 z6:Nat) (ac3:Ch) (M0:List ByteArray) (ab3:Option Addr) (ak7 ab4:Nat) (ag0:Ch) ,b6 j7 44 H s4 u5 k9 u7→C7=k9.length→b6 k5 47 H z8 z6 o4 ac3→J1=o4.length→b6 Kd.string 9 H ab3 ab4 M0 ag0→ak7=M0.length→e2 r6 r7 k9 o4 M0=some r→b8 aR0 (aR1 F H c9 r) H w0 [.c [1,1,1,1,1,1,1,0],.c [1,1,1,1,1,1,1,1]] [(0,pg c9 0),(10,.slice ab3 ak7 ab4)] H (ag0::(some (c9,.cells #[iv r6,iv r7,.slice s4 C7 u5,.slice z8 J1 z6] 25 (0,0)))::u7::ac3::F)):∀ (k:Nat),∀ (c9:Nat) (a1:Int) (y1:(List ByteArray)) (A1:Option Addr) (c1:Nat) (r9:Ch) (r6 r7:Int) (k9:List Blob) (s4:Option Addr) (C7 u5:Nat) (u7:Ch) (o4:List Entry) (z8:Option Addr) (J1 z6:Nat) (ac3:Ch) (M0:List ByteArray) (ab3:Option Addr) (ak7 ab4:Nat) (ag0:Ch) (am1:Int) ,b6 Kd.string 9 H A1 c1 y1 r9→b6 j7 44 H s4 u5 k9 u7→C7=k9.length→b6 k5 47 H z8 z6 o4 ac3→J1=o4.length→b6 Kd.string 9 H ab3 ab4 M0 ag0→ak7=M0.length→K7.l3 e2 k a1 y1 r6 r7 k9 o4 M0 am1=some r→b8 aR0 (aR1 F H c9 r) H w0 [.c [1,1,1,1,1,1,0,1,0,0],.l [1,1,1,1,1,1,0,1,0,0],.b 2,.c [1,1,1,1,1,1,1]] [(0,pg c9 0),(1,iv a1),(10,.slice ab3 ak7 ab4),(11,.slice A1 y1.length c1),(12,iv am1)] H (ag0::r9::(some (c9,.cells #[iv r6,iv r7,.slice s4 C7 u5,.slice z8 J1 z6] 25 (0,0)))::u7::ac3::F):=by
 intro k
 induction k with
 | zero=>intro c9 a1 y1 A1 c1 r9 r6 r7 k9 s4 C7 u5 u7 o4 z8 J1 z6 ac3 M0 ab3 ak7 ab4 ag0 am1 w8 D3 W9 J4 ai9 aC7 aT7 heq; exact nomatch (show (none:Option ((List ByteArray) × Bool × Cache))=some r from heq)
 | succ k u0 =>
  intro c9 a1 y1 A1 c1 r9 r6 r7 k9 s4 C7 u5 u7 o4 z8 J1 z6 ac3 M0 ab3 ak7 ab4 ag0 am1 w8 D3 W9 J4 ai9 aC7 aT7 heq
  subst W9
  subst ai9
  subst aT7
  rw [K7.l3] at heq
  refine An 2 ?_
  obtain ⟨t1,A9,heq⟩:=bind_some heq
  have K12:b8 aR0 (aR1 F H c9 r) H w0 [.c [1,1,1,1,1,1,0,1,0,0,0,1],.c [1,1,1,1,1,1,0,1,0,0,1],.l [1,1,1,1,1,1,0,1,0,0],.b 2,.c [1,1,1,1,1,1,1]] [(0,pg c9 0),(1,iv a1),(10,.slice ab3 M0.length ab4),(11,.slice A1 y1.length c1),(12,iv am1),(59,.bool t1)] H (ag0::r9::(some (c9,.cells #[iv r6,iv r7,.slice s4 k9.length u5,.slice z8 o4.length z6] 25 (0,0)))::u7::ac3::F):=by
   refine Cb heq ?_ ?_
   ·intro x7 heq
    refine Sa 4 ?_
    obtain ⟨x1,hx1,heq⟩:=bind_some heq
    obtain ⟨A7,I1,B1,B2⟩:=w8.get hx1
    obtain rfl:I1=[.string x1]:=B1
    refine Zv 5 [nx A7 hx1,el B2 1 0]<|Ug 5 [2,3,4,0,1] ?_
    obtain ⟨y3,hy3,heq⟩:=bind_some heq
    refine c6.e5 (o9 67 (cC1 (a0:=(⟨r6,r7,k9,o4⟩:Cache)) hy3 D3 rfl J4 rfl)) ?_
    rintro _ _ _ _ ⟨_,rfl,aa3,c2,B5,aa8,c3,E6,rfl,rfl,rfl,w4,C9⟩
    refine Dn<|Sa 0 ?_
    obtain ⟨x2,w6,heq⟩:=bind_some heq
    obtain ⟨J2,T7,I8,J7⟩:=w8.get w6
    obtain rfl:T7=[.string x2]:=I8
    refine Zv 5 [nx J2 w6,el J7 4 0] ?_
    refine c6.e5 (j6.new (d:=73) (v:=fun g=>.slice (some ⟨g,0,none⟩) 1 1) (o:=fun g=>.cells #[.string x2] 9 (0,0)) (fun g=>by kernel_rfl)) ?_
    rintro _ _ _ _ ⟨g1,rfl,rfl,rfl⟩
    have H7:b6 Kd.string 9 H (some ⟨g1,0,none⟩) 1 ([x2]:List ByteArray) (some (g1,.cells #[.string x2] 9 (0,0))):=b6.lit (xs:=([x2]:List ByteArray)) (by kernel_rfl) (Nat.le_of_ble_eq_true (by kernel_rfl)) (Kd.q9.scalars rfl)
    obtain ⟨C4,heq⟩:=M1 heq
    refine c6.e5 (j6.append (d:=74) (k:=4) (t:=45) (e:=9) (bytes:=16) (kd:=Kd.string) (n:=M0.length) (m:=1) (xs:=M0) (ys:=([x2]:List ByteArray)) (A:=ab3) (B:=(some ⟨g1,0,none⟩)) (c:=ab4) (cB:=1) (by kernel_rfl) rfl rfl (by kernel_rfl) rfl aC7 (fun w hh=>H7.Y9 (hh.N1 0 rfl)) (room_le C4) (by have:=room_le C4; omega)) ?_
    rintro _ _ _ _ ⟨aa9,y8,G6,rfl,rfl,rfl,O4⟩
    refine c6.p6 ?_
    refine Zd 8<|Sa 1<|Zd 3<|An 1 ?_
    exact Gt 6 [4,5,1,2,3] (u0 _ a1 y1 _ _ _ y3.Room y3.c4 y3.U _ _ _ _ y3.Entries _ _ _ _ (M0++([x2]:List ByteArray)) _ _ _ _ (c5 (am1+1)) w8 w4 rfl C9 rfl O4 rfl heq)
   ·intro x7 heq
    refine An 2 ?_
    exact Gt 2 [0] (he2 _ r6 r7 k9 _ _ _ _ o4 _ _ _ _ M0 _ _ _ _ D3 rfl J4 rfl aC7 rfl heq)
  replace heq:=A9
  refine Sa 0<|Zk 5 ?_
  rcases y9 (decide (am1<(y1.length:Int))) with s3 | s3
  ·replace heq:=A5 s3 heq
   refine Zs 51 (congrArg Value.bool s3)<|Zv 9 [bx 2 2] ?_
   obtain ⟨y2,hy2,heq⟩:=bind_some heq
   refine c6.e5 (o9 56 (bK4 hy2 (D3.rw (.tail _ (.tail _ (.tail _ (.head _))))) D3.cap rfl)) ?_
   rintro _ _ _ _ ⟨_,rfl,rfl,rfl,rfl⟩
   refine Zk 13 ?_
   obtain rfl:=Option.some.inj heq
   refine Dn ?_
   exact Gt 0 [] (K12)
  ·replace heq:=A6 s3 heq
   refine Zs 51 (congrArg Value.bool s3)<|Zk 13 ?_
   obtain rfl:=Option.some.inj heq
   refine Dn ?_
   exact Gt 0 [] (K12)
theorem K7.D7 {r:(List ByteArray) × Bool × Cache}:∀ (c9:Nat) (a0:Cache) (e6:Option Addr) (e8:Nat) (s8:Ch) (e3:Option Addr) (e4:Nat) (p5:Ch) (a1 a2 ab5:Int) ,b6 j7 44 H e6 e8 a0.U s8→b6 k5 47 H e3 e4 a0.Entries p5→K7.e1 a0 a1 a2 ab5=some r→b8 aR0 (aR1 F H c9 r) H w0 [.c [1,1,1,0,0],.c [1,1,1,0,1],.c [1,1,1,1]] [(0,pg c9 0),(1,iv a1),(2,iv a2),(8,iv ab5)] H ((some (c9,.cells #[iv a0.Room,iv a0.c4,.slice e6 a0.U.length e8,.slice e3 a0.Entries.length e4] 25 (0,0)))::s8::p5::F):=by
 intro c9 a0 e6 e8 s8 e3 e4 p5 a1 a2 ab5 q6 p9 heq
 unfold K7.e1 at heq
 refine Sa 0<|Zd 3 ?_
 refine Cb heq ?_ ?_
 ·intro o8 heq
  refine Sa 1<|Zd 2<|b8.w5 ?_
  have r8:b6 Kd.string 9 H none 0 ([]:List ByteArray) none:=b6.nil
  obtain rfl:=Option.some.inj heq
  exact b8.done (by kernel_rfl) Tryz.func74 (v:=.tuple #[.slice none 0 0,.bool false]) (by kernel_rfl) ⟨none,0,none,e6,e8,s8,e3,e4,p5,rfl,rfl,rfl,r8,q6,p9⟩
 ·intro o8 heq
  refine Sa 2<|Zd 1<|Sa 1<|Zk 2 ?_
  obtain ⟨y1,hy1,heq⟩:=bind_some heq
  refine c6.e5 (o9 46 (dr7 hy1 (q6.rw (.tail _ (.head _))) q6.cap rfl (p9.rw (.tail _ (.tail _ (.head _)))) p9.cap rfl (.inr (.head _)))) ?_
  rintro _ _ _ _ ⟨_,rfl,A1,c1,r9,rfl,rfl,rfl,w8⟩
  refine Zd 4<|Sa 2<|Zd 1<|An 2<|b8.w5 ?_
  have O3:b6 Kd.string 9 H none 0 ([]:List ByteArray) none:=b6.nil
  exact Gt 0 [] (((K7.av4 (e2:=K7.e2) (K7.az5)) n8) _ a1 y1 _ _ _ a0.Room a0.c4 a0.U _ _ _ _ a0.Entries _ _ _ _ ([]:List ByteArray) _ _ _ _ 0 w8 q6 rfl p9 rfl O3 rfl heq)
theorem K7.by5 {r:(List ByteArray) × Bool × Cache} (aG3:Cache→Int→Int→Int→Int→Option ((List ByteArray) × Bool × Cache))
  (ca7:∀ (c9:Nat) (a0:Cache) (e6:Option Addr) (e8:Nat) (s8:Ch) (e3:Option Addr) (e4:Nat) (p5:Ch) (a1 a2 ab5 y5:Int) ,b6 j7 44 H e6 e8 a0.U s8→b6 k5 47 H e3 e4 a0.Entries p5→aG3 a0 a1 a2 ab5 y5=some r→b8 aR0 (aR1 F H c9 r) H w0 [.c [1,1,0,1,0,0],.l [1,1,0,1,0,0],.b 0,.c [1,1,1]] [(0,pg c9 0),(1,iv a1),(2,iv a2),(8,iv ab5),(9,iv y5)] H ((some (c9,.cells #[iv a0.Room,iv a0.c4,.slice e6 a0.U.length e8,.slice e3 a0.Entries.length e4] 25 (0,0)))::s8::p5::F)):∀ (c9:Nat) (a0:Cache) (e6:Option Addr) (e8:Nat) (s8:Ch) (e3:Option Addr) (e4:Nat) (p5:Ch) (a1 a2 y5 ab5:Int) ,b6 j7 44 H e6 e8 a0.U s8→b6 k5 47 H e3 e4 a0.Entries p5→K7.j5 aG3 a0 a1 a2 y5 ab5=some r→b8 aR0 (aR1 F H c9 r) H w0 [.c [1,1,0,1,0,0,1,1],.l [1,1,0,1,0,0],.b 0,.c [1,1,1]] [(0,pg c9 0),(1,iv a1),(2,iv a2),(8,iv ab5),(9,iv y5)] H ((some (c9,.cells #[iv a0.Room,iv a0.c4,.slice e6 a0.U.length e8,.slice e3 a0.Entries.length e4] 25 (0,0)))::s8::p5::F):=by
 intro c9 a0 e6 e8 s8 e3 e4 p5 a1 a2 y5 ab5 q6 p9 heq
 unfold K7.j5 at heq
 refine Sa 0<|Zd 3<|An 1 ?_
 exact Gt 0 [] (ca7 _ a0 _ _ _ _ _ _ a1 a2 ab5 (c5 (y5+1)) q6 p9 heq)
theorem K7.aL6 {r:(List ByteArray) × Bool × Cache} (e1:Cache→Int→Int→Int→Option ((List ByteArray) × Bool × Cache))
  (D4:∀ (c9:Nat) (a0:Cache) (e6:Option Addr) (e8:Nat) (s8:Ch) (e3:Option Addr) (e4:Nat) (p5:Ch) (a1 a2 ab5:Int) ,b6 j7 44 H e6 e8 a0.U s8→b6 k5 47 H e3 e4 a0.Entries p5→e1 a0 a1 a2 ab5=some r→b8 aR0 (aR1 F H c9 r) H w0 [.c [1,1,1,0,0],.c [1,1,1,0,1],.c [1,1,1,1]] [(0,pg c9 0),(1,iv a1),(2,iv a2),(8,iv ab5)] H ((some (c9,.cells #[iv a0.Room,iv a0.c4,.slice e6 a0.U.length e8,.slice e3 a0.Entries.length e4] 25 (0,0)))::s8::p5::F)):∀ (k:Nat),∀ (c9:Nat) (a0:Cache) (e6:Option Addr) (e8:Nat) (s8:Ch) (e3:Option Addr) (e4:Nat) (p5:Ch) (a1 a2 ab5 y5:Int) ,b6 j7 44 H e6 e8 a0.U s8→b6 k5 47 H e3 e4 a0.Entries p5→K7.l4 e1 k a0 a1 a2 ab5 y5=some r→b8 aR0 (aR1 F H c9 r) H w0 [.c [1,1,0,1,0,0],.l [1,1,0,1,0,0],.b 0,.c [1,1,1]] [(0,pg c9 0),(1,iv a1),(2,iv a2),(8,iv ab5),(9,iv y5)] H ((some (c9,.cells #[iv a0.Room,iv a0.c4,.slice e6 a0.U.length e8,.slice e3 a0.Entries.length e4] 25 (0,0)))::s8::p5::F):=by
 intro k
 induction k with
 | zero=>intro c9 a0 e6 e8 s8 e3 e4 p5 a1 a2 ab5 y5 q6 p9 heq; exact nomatch (show (none:Option ((List ByteArray) × Bool × Cache))=some r from heq)
 | succ k u0 =>
  intro c9 a0 e6 e8 s8 e3 e4 p5 a1 a2 ab5 y5 q6 p9 heq
  rw [K7.l4] at heq
  refine Sa 2<|Zw 7 [bx 0 2] ?_
  refine Cb heq ?_ ?_
  ·intro B3 heq
   refine Sa 4 ?_
   obtain ⟨x3,K8,heq⟩:=bind_some heq
   obtain ⟨W1,ae3,Q4,ad7⟩:=q6.get K8
   obtain ⟨rfl⟩:=C6 Q4
   refine Zv 8 ([bx 0 2,nx W1 K8]++els ad7 1) ?_
   obtain ⟨y4,hy4,heq⟩:=bind_some heq
   refine c6.e5 (o9 30 (ca6 hy4 )) ?_
   rintro _ _ _ _ ⟨_,rfl,rfl,rfl,rfl⟩
   refine Dn ?_
   refine Cb heq ?_ ?_
   ·intro F2 heq
    refine Sa 0 ?_
    obtain ⟨C2,V1,heq⟩:=bind_some heq
    obtain ⟨ha4,af1,hK4,af9⟩:=q6.get V1
    obtain ⟨rfl⟩:=C6 hK4
    refine Zw 11 [bx 0 2,nx ha4 V1,el af9 1 1]<|An 1 ?_
    exact Gt 0 [] ((K7.by5 (aG3:=(K7.l4 e1 k)) u0) _ a0 _ _ _ _ _ _ a1 a2 y5 (c5 (ab5+C2.j4)) q6 p9 heq)
   ·intro F2 heq
    refine An 2 ?_
    exact Gt 0 [] ((K7.by5 (aG3:=(K7.l4 e1 k)) u0) _ a0 _ _ _ _ _ _ a1 a2 y5 ab5 q6 p9 heq)
  ·intro B3 heq
   refine An 3 ?_
   exact Gt 0 [] (D4 _ a0 _ _ _ _ _ _ a1 a2 ab5 q6 p9 heq)
theorem ds2 {c9:Nat} {a0:Cache} {e6:Option Addr} {q2 e8:Nat} {s8:Ch} {e3:Option Addr} {p7 e4:Nat} {p5:Ch} {a1 a2:Int} {r:(List ByteArray) × Bool × Cache} (heq:K7.f a0 a1 a2=some r) (q6:b6 j7 44 H e6 e8 a0.U s8) (B9:q2=a0.U.length) (p9:b6 k5 47 H e3 e4 a0.Entries p5) (B4:p7=a0.Entries.length):z7 Tryz.prog 74 #[.pointer (some ⟨c9,0,none⟩),iv a1,iv a2] H w0 ((some (c9,.cells #[iv a0.Room,iv a0.c4,.slice e6 q2 e8,.slice e3 p7 e4] 25 (0,0)))::s8::p5::F) (aR1 F H c9 r):=by
 refine Co aR0 Tryz.func74 Tryz.ntmps74 ?_
 subst B9
 subst B4
 unfold K7.f at heq
 refine Sa 1<|Zd 2<|Sa 1<|Zd 1<|Sa 2<|Zd 1<|An 2 ?_
 exact Gt 0 [] (((K7.aL6 (e1:=K7.e1) (K7.D7)) n8) _ a0 _ _ _ _ _ _ a1 a2 0 0 q6 p9 heq)
noncomputable def by6:Ctx:={ P:=Tryz.prog,f:=54,N:=124,c:=C1 Tryz.f54 }
def by7 (F:List Ch) (H0:Hp) (c9:Nat) (r:k6 × Int × Cache) (v:Value) (H:Hp) (cs:List Ch):Prop:=∃ (Z8:Option Addr) (Z9:Nat) (aa0:Ch) (E7:Option Addr) (E8:Nat) (F1:Ch) (ap5:Option Addr) (ap6:Nat) (ap7:Ch) (ap8:Option Addr) (ap9:Nat) (aq0:Ch),H0=H∧v=.tuple #[.agg #[.bool r.1.x8,.slice Z8 r.1.x5.length Z9,.slice E7 r.1.x4.length E8],iv r.2.1]∧aa0::F1::some (c9,.cells #[iv r.2.2.Room,iv r.2.2.c4,.slice ap5 r.2.2.U.length ap6,.slice ap8 r.2.2.Entries.length ap9] 25 (0,0))::ap7::aq0::F=cs∧b6 Kd.string 9 H Z8 Z9 r.1.x5 aa0∧b6 Kd.string 9 H E7 E8 r.1.x4 F1∧b6 j7 44 H ap5 ap6 r.2.2.U ap7∧b6 k5 47 H ap8 ap9 r.2.2.Entries aq0
theorem ag9.D7 {r:k6 × Int × Cache}:∀ (c9:Nat) (a1:k7) (n3:Option Addr) (n4 g1 g2:Nat) (y3:(List ByteArray) × Bool × Cache) (aa8:Option Addr) (c3:Nat) (G6:Ch) (aa9:Option Addr) (y8:Nat) (O2:Ch) (G3:Option Addr) (G4:Nat) (S3:Ch) (L0:Int) ,Rw Kd.string H F n3 a1.j9→a1.j9.length≤n4→b6 Kd.string 9 H aa8 c3 y3.1 G6→b6 j7 44 H aa9 y8 y3.2.2.U O2→b6 k5 47 H G3 G4 y3.2.2.Entries S3→ag9.e1 a1 y3 L0=some r→b8 by6 (by7 F H c9 r) H w0 [.c [1,1,1,1,1,1,1,1,0],.c [1,1,1,1,1,1,1,1,1]] [(0,pg c9 0),(3,pg g1 0),(4,pg g2 0),(7,.slice aa8 y3.1.length c3),(9,iv L0)] H (G6::(some (c9,.cells #[iv y3.2.2.Room,iv y3.2.2.c4,.slice aa9 y3.2.2.U.length y8,.slice G3 y3.2.2.Entries.length G4] 25 (0,0)))::O2::S3::(some (g2,.cells #[.bool false,.slice none 0 0,.slice none 0 0] 54 (0,0)))::(some (g1,.cells #[iv a1.Kind,iv a1.At,.string a1.b7,.slice n3 a1.j9.length n4,.string a1.Key,iv a1.j4] 50 (0,0)))::F):=by
 intro c9 a1 n3 n4 g1 g2 y3 aa8 c3 G6 aa9 y8 O2 G3 G4 S3 L0 u9 y6 R5 K4 N0 heq
 unfold ag9.e1 at heq
 refine Sa 0<|Zd 1<|Sa 1 ?_
 obtain ⟨S9,heq⟩:=M1 heq
 have hn2:L0.toNat=(y3.2.2.U.take L0.toNat).length:=by have h1:=O6 S9; have h3:=trivial; (try simp); (try omega)
 have aA3:=K4.take L0.toNat
 refine Zv 7 [bx 1 2,⟨.need ((0:Int)≤L0∧L0≤((y8:Nat):Int)),fun w hh=>⟨(O6 S9).1,(by have h1:=(O6 S9).2; have h2:=K4.cap; have h3:=trivial; omega)⟩⟩]<|c6.w5 ?_
 have aF4:b6 j7 44 H none 0 ([]:List Blob) none:=b6.nil
 obtain ⟨hn4,heq⟩:=M1 heq
 refine c6.e5 (j6.append (d:=93) (k:=0) (t:=22) (e:=44) (bytes:=48) (kd:=j7) (n:=0) (m:=L0.toNat) (xs:=([]:List Blob)) (ys:=(y3.2.2.U.take L0.toNat)) (A:=none) (B:=aa9) (c:=0) (cB:=y8) (by kernel_rfl) rfl hn2 (by kernel_rfl) rfl aF4 (fun w hh=>aA3.Y9 (hh.N1 3 rfl)) (room_le hn4) (by have:=room_le hn4; omega)) ?_
 rintro _ _ _ _ ⟨X6,X7,ae6,rfl,rfl,rfl,aF5⟩
 refine c6.p6 ?_
 refine Zd 9<|An 1<|Sd 1 18 [] [3,3,3,3,3,3,3,3,3,3,3,3,3,3,3,0,1,3]<|Zr [0] 17 [] (Pk 7 [0,1,2,3,4,5,6]) (Pk 7 [1,2,3,4,5,6])<|Zt [1,2,3,4,5,6,7,8,9,10,11,12,13,14] 3 [bx 5 2,bx 5 5,bx 5 1,bx 5 1,bx 1 1] (Pk 7 [1,2,3,4,5,6]) ?_
 refine Dz 15 (j6.new (d:=109) (v:=fun g=>.slice (some ⟨g,0,none⟩) 1 1) (o:=fun g=>.cells #[.string a1.b7,iv a1.j4,iv a1.At,iv (c5 (a1.At+y3.2.2.c4)),iv 0] 44 (0,0)) (fun g=>by kernel_rfl)) ?_
 rintro _ _ _ _ ⟨g3,rfl,rfl,rfl⟩
 have aU1:b6 j7 44 H (some ⟨g3,0,none⟩) 1 ([(⟨a1.b7,a1.j4,a1.At,c5 (a1.At+y3.2.2.c4),0⟩:Blob)]:List Blob) (some (g3,.cells #[.string a1.b7,iv a1.j4,iv a1.At,iv (c5 (a1.At+y3.2.2.c4)),iv 0] 44 (0,0))):=b6.lit (xs:=([(⟨a1.b7,a1.j4,a1.At,c5 (a1.At+y3.2.2.c4),0⟩:Blob)]:List Blob)) (by kernel_rfl) (Nat.le_of_ble_eq_true (by kernel_rfl)) (Kd.q9.one af8)
 refine ⟨fun _ w hh=>⟨fun _=>(Pk 8 [1,2,3,4,5,6,7]) w hh,fun _=>(Pk 8 [2,3,4,5,6,7]) w hh,(fun h=>by cases h)⟩,?_⟩
 obtain ⟨hn5,heq⟩:=M1 heq
 refine Dz 16 (j6.append (d:=110) (k:=1) (t:=22) (e:=44) (bytes:=48) (kd:=j7) (n:=(([]:List Blob)++(y3.2.2.U.take L0.toNat)).length) (m:=1) (xs:=(([]:List Blob)++(y3.2.2.U.take L0.toNat))) (ys:=([(⟨a1.b7,a1.j4,a1.At,c5 (a1.At+y3.2.2.c4),0⟩:Blob)]:List Blob)) (A:=X6) (B:=(some ⟨g3,0,none⟩)) (c:=X7) (cB:=1) (by kernel_rfl) rfl rfl (by kernel_rfl) rfl aF5 (fun w hh=>aU1.Y9 (hh.N1 0 rfl)) (room_le hn5) (by have:=room_le hn5; omega)) ?_
 rintro _ _ _ _ ⟨af6,c7,aj0,rfl,rfl,rfl,bw1⟩
 refine ⟨fun _ w hh=>⟨(fun h=>by cases h),fun _=>(Pk 8 [2,3,4,5,6,7]) w hh,(fun h=>by cases h)⟩,?_⟩
 refine o5.p6 ?_
 refine Zt [17] 0 [] (Pk 8 [2,3,4,5,6,7]) ?_
 refine o5.done (by kernel_rfl) ?_
 refine Sa 1 ?_
 obtain ⟨hn7,heq⟩:=M1 heq
 have hn6:y3.2.2.U.length - L0.toNat=(y3.2.2.U.drop L0.toNat).length:=by have h1:=O6 hn7; have h3:=trivial; (try simp); (try omega)
 have bw2:=K4.drop L0.toNat (by have h2:=K4.cap; have h3:=trivial; have h1:=O6 hn7; omega)
 refine Zv 8 [bx 3 2,⟨.need ((0:Int)≤L0∧L0≤((y3.2.2.U.length:Nat):Int)),fun w hh=>(O6 hn7)⟩] ?_
 obtain ⟨hn8,heq⟩:=M1 heq
 refine c6.e5 (j6.append (d:=119) (k:=1) (t:=22) (e:=44) (bytes:=48) (kd:=j7) (n:=((([]:List Blob)++(y3.2.2.U.take L0.toNat))++([(⟨a1.b7,a1.j4,a1.At,c5 (a1.At+y3.2.2.c4),0⟩:Blob)]:List Blob)).length) (m:=y3.2.2.U.length - L0.toNat) (xs:=((([]:List Blob)++(y3.2.2.U.take L0.toNat))++([(⟨a1.b7,a1.j4,a1.At,c5 (a1.At+y3.2.2.c4),0⟩:Blob)]:List Blob))) (ys:=(y3.2.2.U.drop L0.toNat)) (A:=af6) (B:=(K6 y8 L0.toNat 5 aa9)) (c:=c7) (cB:=(y8 - L0.toNat)) (by kernel_rfl) rfl hn6 (by kernel_rfl) rfl bw1 (fun w hh=>bw2.Y9 (hh.N1 4 rfl)) (room_le hn8) (by have:=room_le hn8; omega)) ?_
 rintro _ _ _ _ ⟨A8,an2,af7,rfl,rfl,rfl,bw3⟩
 refine c6.p6 ?_
 refine Zk 11 ?_
 refine c6.e5 (j6.store (k:=3) (g:=c9) (off:=2) (v:=.slice A8 ((((([]:List Blob)++(y3.2.2.U.take L0.toNat))++([(⟨a1.b7,a1.j4,a1.At,c5 (a1.At+y3.2.2.c4),0⟩:Blob)]:List Blob))++(y3.2.2.U.drop L0.toNat)).length) an2) (cells':=#[iv y3.2.2.Room,iv y3.2.2.c4,.slice A8 ((((([]:List Blob)++(y3.2.2.U.take L0.toNat))++([(⟨a1.b7,a1.j4,a1.At,c5 (a1.At+y3.2.2.c4),0⟩:Blob)]:List Blob))++(y3.2.2.U.drop L0.toNat)).length) an2,.slice G3 y3.2.2.Entries.length G4]) (by kernel_rfl) rfl (by kernel_rfl) (by kernel_rfl)) ?_
 rintro _ _ _ _ ⟨rfl,rfl,rfl⟩
 refine c6.p6 ?_
 refine Dn<|Sa 1<|Zk 2 ?_
 refine c6.e5 (j6.store (k:=6) (g:=g2) (off:=0) (v:=.agg #[.bool true,.slice none 0 0,.slice aa8 y3.1.length c3]) (cells':=#[.bool true,.slice none 0 0,.slice aa8 y3.1.length c3]) (by kernel_rfl) rfl (by kernel_rfl) (by kernel_rfl)) ?_
 rintro _ _ _ _ ⟨rfl,rfl,rfl⟩
 refine c6.p6 ?_
 refine Zd 4<|b8.w5 ?_
 have bx0:b6 Kd.string 9 H none 0 ([]:List ByteArray) none:=b6.nil
 obtain rfl:=Option.some.inj heq
 refine Up 9 [7,0,3,4,2,6] ?_
 exact b8.I3 1 (vs:=[.agg #[.bool true,.slice none 0 0,.slice aa8 y3.1.length c3],iv 0]) (v:=.tuple #[.agg #[.bool true,.slice none 0 0,.slice aa8 y3.1.length c3],iv 0]) (by kernel_rfl) Tryz.func54 (fun w hh=>show G2 _ _ _ [.cell 4 54,.tmp 5] _ from ⟨⟨⟨g2,0,none⟩,by kernel_rfl,F5 _ (vs:=[.bool true,.slice none 0 0,.slice aa8 y3.1.length c3]) (r:=[]) (es:=[.load ⟨g2,0,none⟩ (.bool true),.load ⟨g2,1,none⟩ (.slice none 0 0),.load ⟨g2,2,none⟩ (.slice aa8 y3.1.length c3)]) (by kernel_rfl) ⟨(hh.box 0 rfl rfl),(hh.box 0 rfl rfl),(hh.box 0 rfl rfl)⟩⟩,(show lk _ _=some _ by kernel_rfl),trivial⟩) rfl (cs':=none::G6::(some (c9,.cells #[iv y3.2.2.Room,iv y3.2.2.c4,.slice A8 ((((([]:List Blob)++(y3.2.2.U.take L0.toNat))++([(⟨a1.b7,a1.j4,a1.At,c5 (a1.At+y3.2.2.c4),0⟩:Blob)]:List Blob))++(y3.2.2.U.drop L0.toNat)).length) an2,.slice G3 y3.2.2.Entries.length G4] 25 (0,0)))::af7::S3::F) rfl ⟨none,0,none,aa8,c3,G6,A8,an2,af7,G3,G4,S3,rfl,rfl,rfl,bx0,R5,bw3,N0⟩
theorem ag9.F9 {r:k6 × Int × Cache} (e1:k7→((List ByteArray) × Bool × Cache)→Int→Option (k6 × Int × Cache))
  (D4:∀ (c9:Nat) (a1:k7) (n3:Option Addr) (n4 g1 g2:Nat) (y3:(List ByteArray) × Bool × Cache) (aa8:Option Addr) (c3:Nat) (G6:Ch) (aa9:Option Addr) (y8:Nat) (O2:Ch) (G3:Option Addr) (G4:Nat) (S3:Ch) (L0:Int) ,Rw Kd.string H F n3 a1.j9→a1.j9.length≤n4→b6 Kd.string 9 H aa8 c3 y3.1 G6→b6 j7 44 H aa9 y8 y3.2.2.U O2→b6 k5 47 H G3 G4 y3.2.2.Entries S3→e1 a1 y3 L0=some r→b8 by6 (by7 F H c9 r) H w0 [.c [1,1,1,1,1,1,1,1,0],.c [1,1,1,1,1,1,1,1,1]] [(0,pg c9 0),(3,pg g1 0),(4,pg g2 0),(7,.slice aa8 y3.1.length c3),(9,iv L0)] H (G6::(some (c9,.cells #[iv y3.2.2.Room,iv y3.2.2.c4,.slice aa9 y3.2.2.U.length y8,.slice G3 y3.2.2.Entries.length G4] 25 (0,0)))::O2::S3::(some (g2,.cells #[.bool false,.slice none 0 0,.slice none 0 0] 54 (0,0)))::(some (g1,.cells #[iv a1.Kind,iv a1.At,.string a1.b7,.slice n3 a1.j9.length n4,.string a1.Key,iv a1.j4] 50 (0,0)))::F)):∀ (k:Nat),∀ (c9:Nat) (a1:k7) (n3:Option Addr) (n4 g1 g2:Nat) (y3:(List ByteArray) × Bool × Cache) (aa8:Option Addr) (c3:Nat) (G6:Ch) (aa9:Option Addr) (y8:Nat) (O2:Ch) (G3:Option Addr) (G4:Nat) (S3:Ch) (L0:Int) ,Rw Kd.string H F n3 a1.j9→a1.j9.length≤n4→b6 Kd.string 9 H aa8 c3 y3.1 G6→b6 j7 44 H aa9 y8 y3.2.2.U O2→b6 k5 47 H G3 G4 y3.2.2.Entries S3→ag9.l2 e1 k a1 y3 L0=some r→b8 by6 (by7 F H c9 r) H w0 [.c [1,1,1,1,1,1,1,0,0,0],.l [1,1,1,1,1,1,1,0,0,0],.b 0,.c [1,1,1,1,1,1,1,1]] [(0,pg c9 0),(3,pg g1 0),(4,pg g2 0),(7,.slice aa8 y3.1.length c3),(9,iv L0)] H (G6::(some (c9,.cells #[iv y3.2.2.Room,iv y3.2.2.c4,.slice aa9 y3.2.2.U.length y8,.slice G3 y3.2.2.Entries.length G4] 25 (0,0)))::O2::S3::(some (g2,.cells #[.bool false,.slice none 0 0,.slice none 0 0] 54 (0,0)))::(some (g1,.cells #[iv a1.Kind,iv a1.At,.string a1.b7,.slice n3 a1.j9.length n4,.string a1.Key,iv a1.j4] 50 (0,0)))::F):=by
 intro k
 induction k with
 | zero=>intro c9 a1 n3 n4 g1 g2 y3 aa8 c3 G6 aa9 y8 O2 G3 G4 S3 L0 u9 y6 R5 K4 N0 heq; exact nomatch (show (none:Option (k6 × Int × Cache))=some r from heq)
 | succ k u0 =>
  intro c9 a1 n3 n4 g1 g2 y3 aa8 c3 G6 aa9 y8 O2 G3 G4 S3 L0 u9 y6 R5 K4 N0 heq
  rw [ag9.l2] at heq
  refine An 2 ?_
  obtain ⟨t1,A9,heq⟩:=bind_some heq
  have K22:b8 by6 (by7 F H c9 r) H w0 [.c [1,1,1,1,1,1,1,0,0,0,0,1],.c [1,1,1,1,1,1,1,0,0,0,1],.l [1,1,1,1,1,1,1,0,0,0],.b 0,.c [1,1,1,1,1,1,1,1]] [(0,pg c9 0),(3,pg g1 0),(4,pg g2 0),(7,.slice aa8 y3.1.length c3),(9,iv L0),(83,.bool t1)] H (G6::(some (c9,.cells #[iv y3.2.2.Room,iv y3.2.2.c4,.slice aa9 y3.2.2.U.length y8,.slice G3 y3.2.2.Entries.length G4] 25 (0,0)))::O2::S3::(some (g2,.cells #[.bool false,.slice none 0 0,.slice none 0 0] 54 (0,0)))::(some (g1,.cells #[iv a1.Kind,iv a1.At,.string a1.b7,.slice n3 a1.j9.length n4,.string a1.Key,iv a1.j4] 50 (0,0)))::F):=by
   refine Cb heq ?_ ?_
   ·intro M4 heq
    refine Sa 2<|Zd 3<|An 2 ?_
    exact Gt 0 [] (u0 _ a1 _ _ _ _ y3 _ _ _ _ _ _ _ _ _ (c5 (L0+1)) u9 y6 R5 K4 N0 heq)
   ·intro M4 heq
    refine An 2 ?_
    exact Gt 0 [] (D4 _ a1 _ _ _ _ y3 _ _ _ _ _ _ _ _ _ L0 u9 y6 R5 K4 N0 heq)
  replace heq:=A9
  refine Sd 0 20 [] [3,3,3,3,3,3,3,3,3,3,3,3,3,3,3,3,3,3,3,3]<|Zr [0,1,2,3,4,5,6,7] 12 [bx 1 2] (Pk 6 [0,1,2,3,4,5]) (Pk 6 [0,1,2,3,4,5]) ?_
  rcases y9 (decide (L0<(y3.2.2.U.length:Int))) with F2 | F2
  ·replace heq:=A5 F2 heq
   refine Zu 71 (congrArg Value.bool F2) ?_
   obtain ⟨x2,w6,heq⟩:=bind_some heq
   obtain ⟨W1,ae3,Q4,ad7⟩:=K4.get w6
   obtain ⟨rfl⟩:=C6 Q4
   refine Zr [8,9,10,11,12,13,14,15,16,17,18,19] 0 [bx 1 2,nx W1 w6,el ad7 2 0,bx 5 2] (Pk 6 [0,1,2,3,4,5]) (Pk 6 [0,1,2,3,4,5]) ?_
   obtain rfl:=Option.some.inj heq
   refine o5.done (by kernel_rfl) ?_
   exact Gt 0 [] (K22)
  ·replace heq:=A6 F2 heq
   refine Zu 71 (congrArg Value.bool F2)<|Zr [8,9,10,11,12,13,14,15,16,17,18,19] 0 [] (Pk 6 [0,1,2,3,4,5]) (Pk 6 [0,1,2,3,4,5]) ?_
   obtain rfl:=Option.some.inj heq
   refine o5.done (by kernel_rfl) ?_
   exact Gt 0 [] (K22)
theorem ds3 {c9:Nat} {a0:Cache} {e6:Option Addr} {q2 e8:Nat} {s8:Ch} {e3:Option Addr} {p7 e4:Nat} {p5:Ch} {a1:k7} {n3:Option Addr} {J3 n4:Nat} {r:k6 × Int × Cache} (heq:ag9.f a0 a1=some r) (q6:b6 j7 44 H e6 e8 a0.U s8) (B9:q2=a0.U.length) (p9:b6 k5 47 H e3 e4 a0.Entries p5) (B4:p7=a0.Entries.length) (u9:Rw Kd.string H F n3 a1.j9) (y6:J3≤n4) (aa5:J3=a1.j9.length):z7 Tryz.prog 54 #[.pointer (some ⟨c9,0,none⟩),.agg #[iv a1.Kind,iv a1.At,.string a1.b7,.slice n3 J3 n4,.string a1.Key,iv a1.j4]] H w0 ((some (c9,.cells #[iv a0.Room,iv a0.c4,.slice e6 q2 e8,.slice e3 p7 e4] 25 (0,0)))::s8::p5::F) (by7 F H c9 r):=by
 refine Co by6 Tryz.func54 Tryz.ntmps54 ?_
 subst B9
 subst B4
 subst aa5
 unfold ag9.f at heq
 refine Sa 1 ?_
 refine c6.e5 (j6.new (d:=3) (v:=fun g=>.pointer (some ⟨g,0,none⟩)) (o:=fun g=>.cells #[iv a1.Kind,iv a1.At,.string a1.b7,.slice n3 a1.j9.length n4,.string a1.Key,iv a1.j4] 50 (0,0)) (fun g=>by kernel_rfl)) ?_
 rintro _ _ _ _ ⟨g1,rfl,rfl,rfl⟩
 refine c6.e5 (j6.new (d:=4) (v:=fun g=>.pointer (some ⟨g,0,none⟩)) (o:=fun g=>.cells #[.bool false,.slice none 0 0,.slice none 0 0] 54 (0,0)) (fun g=>by kernel_rfl)) ?_
 rintro _ _ _ _ ⟨g2,rfl,rfl,rfl⟩
 refine Zd 3<|Sa 2<|Zv 3 [bx 1 2] ?_
 obtain ⟨y1,hy1,heq⟩:=bind_some heq
 refine c6.e5 (o9 14 (aU3 hy1 (q6.rw (.tail _ (.tail _ (.tail _ (.head _))))) q6.cap rfl (p9.rw (.tail _ (.tail _ (.tail _ (.tail _ (.head _)))))) p9.cap rfl (.inr (.tail _ (.tail _ (.head _)))))) ?_
 rintro _ _ _ _ ⟨_,rfl,rfl,rfl,rfl⟩
 refine Zd 5<|Sa 1<|Zd 2 ?_
 refine Cb heq ?_ ?_
 ·intro o8 heq
  refine An 1<|Sd 0 10 [] [3,3,3,3,3,3,3,0,3,2]<|Zr [0,1,2,3,4,5,6] 3 [bx 2 2,bx 1 1] (Pk 5 [0,1,2,3,4]) (Pk 5 [0,1,2,3,4]) ?_
  obtain ⟨x1,hx1,heq⟩:=bind_some heq
  obtain ⟨A7,I1,B1,B2⟩:=q6.get hx1
  obtain ⟨rfl⟩:=C6 B1
  refine Dz 7 (j6.aw6 (d:=24) (v:=.pointer (some ((H8 e6).add (y1.toNat*5)))) (vs:=[]) (G8:=[.need (e6=some (H8 e6)∧(0:Int)≤y1∧y1<((a0.U.length:Nat):Int))]) (by kernel_rfl) (fun w hh=>⟨A7,(aa2 hx1).1,(aa2 hx1).2.1⟩)) ?_
  rintro _ _ _ _ ⟨rfl,rfl,rfl⟩
  refine ⟨fun _ w hh=>⟨fun _=>(Pk 5 [0,1,2,3,4]) w hh,fun _=>(Pk 5 [0,1,2,3,4]) w hh,(fun h=>by cases h)⟩,?_⟩
  refine Zr [8] 1 [] (Pk 5 [0,1,2,3,4]) (Pk 5 [0,1,2,3,4]) ?_
  obtain ⟨J2,T7,I8,J7⟩:=q6.get hx1
  obtain ⟨rfl⟩:=C6 I8
  refine Dz 9 (j6.ab7 (a:=(((H8 e6).add (y1.toNat*5)).add 2)) (k:=3) (kd:=j7) (c0:=[.string x1.b7,iv x1.j4,iv x1.Used,iv x1.u6,iv x1.q4]) (x':=(⟨x1.b7,x1.j4,a1.At,x1.u6,x1.q4⟩:Blob)) (o:=2) (ix:=y1) (v:=iv a1.At) (by kernel_rfl) rfl q6 hx1 (by kernel_rfl) J7 rfl (Nat.le_of_ble_eq_true (by kernel_rfl)) af8) ?_
  rintro _ _ _ _ ⟨r9,rfl,rfl,rfl,r8⟩
  have C4:a0.U.length=(a0.U.set y1.toNat (⟨x1.b7,x1.j4,a1.At,x1.u6,x1.q4⟩:Blob)).length:=by rw [List.length_set]
  refine ⟨fun _ w hh=>⟨(fun h=>by cases h),(fun h=>absurd h (by decide)),(fun h=>by cases h)⟩,?_⟩
  refine o5.p6 ?_
  refine o5.done (by kernel_rfl) ?_
  refine Sa 1<|Zv 4 [bx 1 1]<|Ug 5 [2,3,4,0,1] ?_
  obtain ⟨y2,hy2,heq⟩:=bind_some heq
  refine c6.e5 (o9 30 (bK9 (a0:=(⟨a0.Room,a0.c4,(a0.U.set y1.toNat (⟨x1.b7,x1.j4,a1.At,x1.u6,x1.q4⟩:Blob)),a0.Entries⟩:Cache)) hy2 r8 C4 p9 rfl)) ?_
  rintro _ _ _ _ ⟨_,rfl,A1,c1,B5,aa3,c2,E6,rfl,rfl,rfl,w8,w4⟩
  refine Dn<|Sa 1<|Zk 1 ?_
  refine c6.e5 (j6.store (k:=3) (g:=g2) (off:=0) (v:=.agg #[.bool true,.slice none 0 0,.slice none 0 0]) (cells':=#[.bool true,.slice none 0 0,.slice none 0 0]) (by kernel_rfl) rfl (by kernel_rfl) (by kernel_rfl)) ?_
  rintro _ _ _ _ ⟨rfl,rfl,rfl⟩
  refine c6.p6 ?_
  refine Zd 3<|b8.w5 ?_
  have C9:b6 Kd.string 9 H none 0 ([]:List ByteArray) none:=b6.nil
  refine b8.w5 ?_
  have H7:b6 Kd.string 9 H none 0 ([]:List ByteArray) none:=b6.nil
  obtain rfl:=Option.some.inj heq
  refine Up 7 [5,1,0,2,3,4] ?_
  exact b8.I3 1 (vs:=[.agg #[.bool true,.slice none 0 0,.slice none 0 0],iv 0]) (v:=.tuple #[.agg #[.bool true,.slice none 0 0,.slice none 0 0],iv 0]) (by kernel_rfl) Tryz.func54 (fun w hh=>show G2 _ _ _ [.cell 4 54,.tmp 5] _ from ⟨⟨⟨g2,0,none⟩,by kernel_rfl,F5 _ (vs:=[.bool true,.slice none 0 0,.slice none 0 0]) (r:=[]) (es:=[.load ⟨g2,0,none⟩ (.bool true),.load ⟨g2,1,none⟩ (.slice none 0 0),.load ⟨g2,2,none⟩ (.slice none 0 0)]) (by kernel_rfl) ⟨(hh.box 0 rfl rfl),(hh.box 0 rfl rfl),(hh.box 0 rfl rfl)⟩⟩,(show lk _ _=some _ by kernel_rfl),trivial⟩) rfl (cs':=none::none::(some (c9,.cells #[iv y2.Room,iv y2.c4,.slice A1 y2.U.length c1,.slice aa3 y2.Entries.length c2] 25 (0,0)))::B5::E6::F) rfl ⟨none,0,none,none,0,none,A1,c1,B5,aa3,c2,E6,rfl,rfl,rfl,C9,H7,w8,w4⟩
 ·intro o8 heq
  refine An 3<|Sd 0 7 [] [3,3,3,3,3,3,3]<|Zr [0,1,2,3,4,5,6] 0 [bx 1 5,bx 2 0] (Pk 5 [0,1,2,3,4]) (Pk 5 [0,1,2,3,4]) ?_
  refine o5.done (by kernel_rfl) ?_
  refine Cb heq ?_ ?_
  ·intro s3 heq
   refine Sa 1<|Zk 1 ?_
   refine c6.e5 (j6.store (k:=0) (g:=g2) (off:=0) (v:=.agg #[.bool false,.slice none 0 0,.slice none 0 0]) (cells':=#[.bool false,.slice none 0 0,.slice none 0 0]) (by kernel_rfl) rfl (by kernel_rfl) (by kernel_rfl)) ?_
   rintro _ _ _ _ ⟨rfl,rfl,rfl⟩
   refine c6.p6 ?_
   refine Zd 3<|b8.w5 ?_
   have O4:b6 Kd.string 9 H none 0 ([]:List ByteArray) none:=b6.nil
   refine b8.w5 ?_
   have O3:b6 Kd.string 9 H none 0 ([]:List ByteArray) none:=b6.nil
   obtain rfl:=Option.some.inj heq
   refine Up 4 [2,1,0] ?_
   exact b8.I3 1 (vs:=[.agg #[.bool false,.slice none 0 0,.slice none 0 0],iv 0]) (v:=.tuple #[.agg #[.bool false,.slice none 0 0,.slice none 0 0],iv 0]) (by kernel_rfl) Tryz.func54 (fun w hh=>show G2 _ _ _ [.cell 4 54,.tmp 5] _ from ⟨⟨⟨g2,0,none⟩,by kernel_rfl,F5 _ (vs:=[.bool false,.slice none 0 0,.slice none 0 0]) (r:=[]) (es:=[.load ⟨g2,0,none⟩ (.bool false),.load ⟨g2,1,none⟩ (.slice none 0 0),.load ⟨g2,2,none⟩ (.slice none 0 0)]) (by kernel_rfl) ⟨(hh.box 0 rfl rfl),(hh.box 0 rfl rfl),(hh.box 0 rfl rfl)⟩⟩,(show lk _ _=some _ by kernel_rfl),trivial⟩) rfl (cs':=none::none::(some (c9,.cells #[iv a0.Room,iv a0.c4,.slice e6 a0.U.length e8,.slice e3 a0.Entries.length e4] 25 (0,0)))::s8::p5::F) rfl ⟨none,0,none,none,0,none,e6,e8,s8,e3,e4,p5,rfl,rfl,rfl,O4,O3,q6,p9⟩
  ·intro s3 heq
   refine An 2<|Sd 5 16 [0,1] [3,3,3,3,0,3,3,3,3,3,1,3,3,3,3,3]<|Zr [0] 15 [] (Pk 5 [0,1,2,3,4]) (Pk 5 [0,1])<|Zt [1,2,3,5,6,8] 9 [bx 1 5] (Pk 5 [0,1])<|Zr [9] 8 [bx 1 1] (Pk 5 [0,1,2,3,4]) (Pk 5 [0,1]) ?_
   refine Dz 4 (j6.aw6 (d:=45) (v:=iv a0.Room) (vs:=[iv a0.Room]) (G8:=[.load ⟨c9,0,none⟩ (iv a0.Room)]) (by kernel_rfl) (fun w hh=>(hh.box 2 rfl rfl))) ?_
   rintro _ _ _ _ ⟨rfl,rfl,rfl⟩
   refine ⟨fun _ w hh=>⟨fun _=>(Pk 5 [0,1,2,3,4]) w hh,fun _=>(Pk 5 [0,1]) w hh,(fun h=>by cases h)⟩,?_⟩
   refine Zr [7] 6 [] (Pk 5 [0,1,2,3,4]) (Pk 5 [0,1])<|Ur 5 [2,3,4,0,1] ?_
   obtain ⟨y3,hy3,heq⟩:=bind_some heq
   refine Dz 10 (o9 51 (ds2 hy3 q6 rfl p9 rfl)) ?_
   rintro _ _ _ _ ⟨_,rfl,aa8,c3,G6,aa9,y8,O2,G3,G4,S3,rfl,rfl,rfl,R5,K4,N0⟩
   refine ⟨fun _ w hh=>⟨(fun h=>by cases h),fun _=>(Pk 6 [4,5]) w hh,(fun h=>by cases h)⟩,?_⟩
   refine Zt [11,12,13,14,15] 0 [] (Pk 6 [4,5]) ?_
   refine o5.done (by kernel_rfl) ?_
   refine Sa 2<|Zd 2 ?_
   refine Cb heq ?_ ?_
   ·intro x7 heq
    refine Sa 1<|Zk 1 ?_
    refine c6.e5 (j6.store (k:=4) (g:=g2) (off:=0) (v:=.agg #[.bool false,.slice none 0 0,.slice none 0 0]) (cells':=#[.bool false,.slice none 0 0,.slice none 0 0]) (by kernel_rfl) rfl (by kernel_rfl) (by kernel_rfl)) ?_
    rintro _ _ _ _ ⟨rfl,rfl,rfl⟩
    refine c6.p6 ?_
    refine Zd 3<|b8.w5 ?_
    have aa4:b6 Kd.string 9 H none 0 ([]:List ByteArray) none:=b6.nil
    refine b8.w5 ?_
    have ae5:b6 Kd.string 9 H none 0 ([]:List ByteArray) none:=b6.nil
    obtain rfl:=Option.some.inj heq
    refine Up 8 [6,1,0,3,4,5] ?_
    exact b8.I3 1 (vs:=[.agg #[.bool false,.slice none 0 0,.slice none 0 0],iv 0]) (v:=.tuple #[.agg #[.bool false,.slice none 0 0,.slice none 0 0],iv 0]) (by kernel_rfl) Tryz.func54 (fun w hh=>show G2 _ _ _ [.cell 4 54,.tmp 5] _ from ⟨⟨⟨g2,0,none⟩,by kernel_rfl,F5 _ (vs:=[.bool false,.slice none 0 0,.slice none 0 0]) (r:=[]) (es:=[.load ⟨g2,0,none⟩ (.bool false),.load ⟨g2,1,none⟩ (.slice none 0 0),.load ⟨g2,2,none⟩ (.slice none 0 0)]) (by kernel_rfl) ⟨(hh.box 0 rfl rfl),(hh.box 0 rfl rfl),(hh.box 0 rfl rfl)⟩⟩,(show lk _ _=some _ by kernel_rfl),trivial⟩) rfl (cs':=none::none::(some (c9,.cells #[iv y3.2.2.Room,iv y3.2.2.c4,.slice aa9 y3.2.2.U.length y8,.slice G3 y3.2.2.Entries.length G4] 25 (0,0)))::O2::S3::F) rfl ⟨none,0,none,none,0,none,aa9,y8,O2,G3,G4,S3,rfl,rfl,rfl,aa4,ae5,K4,N0⟩
   ·intro x7 heq
    refine Sa 3<|Zw 6 [bx 1 2] ?_
    refine Cb heq ?_ ?_
    ·intro B3 heq
     refine Sa 1<|Zk 1 ?_
     refine c6.e5 (j6.store (k:=4) (g:=g2) (off:=0) (v:=.agg #[.bool false,.slice none 0 0,.slice none 0 0]) (cells':=#[.bool false,.slice none 0 0,.slice none 0 0]) (by kernel_rfl) rfl (by kernel_rfl) (by kernel_rfl)) ?_
     rintro _ _ _ _ ⟨rfl,rfl,rfl⟩
     refine c6.p6 ?_
     refine Zd 3<|b8.w5 ?_
     have ar7:b6 Kd.string 9 H none 0 ([]:List ByteArray) none:=b6.nil
     refine b8.w5 ?_
     have aA2:b6 Kd.string 9 H none 0 ([]:List ByteArray) none:=b6.nil
     obtain rfl:=Option.some.inj heq
     refine Up 8 [6,1,0,3,4,5] ?_
     exact b8.I3 1 (vs:=[.agg #[.bool false,.slice none 0 0,.slice none 0 0],iv 16]) (v:=.tuple #[.agg #[.bool false,.slice none 0 0,.slice none 0 0],iv 16]) (by kernel_rfl) Tryz.func54 (fun w hh=>show G2 _ _ _ [.cell 4 54,.tmp 5] _ from ⟨⟨⟨g2,0,none⟩,by kernel_rfl,F5 _ (vs:=[.bool false,.slice none 0 0,.slice none 0 0]) (r:=[]) (es:=[.load ⟨g2,0,none⟩ (.bool false),.load ⟨g2,1,none⟩ (.slice none 0 0),.load ⟨g2,2,none⟩ (.slice none 0 0)]) (by kernel_rfl) ⟨(hh.box 0 rfl rfl),(hh.box 0 rfl rfl),(hh.box 0 rfl rfl)⟩⟩,(show lk _ _=some _ by kernel_rfl),trivial⟩) rfl (cs':=none::none::(some (c9,.cells #[iv y3.2.2.Room,iv y3.2.2.c4,.slice aa9 y3.2.2.U.length y8,.slice G3 y3.2.2.Entries.length G4] 25 (0,0)))::O2::S3::F) rfl ⟨none,0,none,none,0,none,aa9,y8,O2,G3,G4,S3,rfl,rfl,rfl,ar7,aA2,K4,N0⟩
    ·intro B3 heq
     refine Sa 2<|Zd 1<|An 3 ?_
     exact Gt 0 [] (((ag9.F9 (e1:=ag9.e1) (ag9.D7)) n8) _ a1 _ _ _ _ y3 _ _ _ _ _ _ _ _ _ 0 u9 y6 R5 K4 N0 heq)
noncomputable def C75:Ctx:={ P:=Tryz.prog,f:=75,N:=28,c:=C1 Tryz.f75 }
def S75 (F:List Ch) (H0:Hp) (r:(List ByteArray)) (v:Value) (H:Hp) (cs:List Ch):Prop:=∃ (ad8:Option Addr) (c0:Nat) (J6:Ch),H0=H∧v=.slice ad8 r.length c0∧J6::F=cs∧b6 Kd.string 9 H ad8 c0 r J6
theorem U9.D7 {r:(List ByteArray)}:∀ (E9:List ByteArray) (R9:Option Addr) (W5 S0:Nat) (U6:Ch) ,b6 Kd.string 9 H R9 S0 E9 U6→W5=E9.length→U9.e1 E9=some r→b8 C75 (S75 F H r) H w0 [.c [1,1,1,0],.c [1,1,1,1]] [(5,.slice R9 W5 S0)] H (U6::F):=by
 intro E9 R9 W5 S0 U6 av5 aF6 heq
 subst aF6
 unfold U9.e1 at heq
 refine Sa 0<|Zd 2 ?_
 obtain rfl:=Option.some.inj heq
 exact b8.done (by kernel_rfl) Tryz.func75 (v:=.slice R9 E9.length S0) (by kernel_rfl) ⟨R9,S0,U6,rfl,rfl,rfl,av5⟩
theorem U9.ai7 {r:(List ByteArray)} (K5:Cache→(List ByteArray)→(List ByteArray)→Int→Option (List ByteArray))
  (ax7:∀ (c9:Nat) (a0:Cache) (e6:Option Addr) (e8:Nat) (e3:Option Addr) (e4:Nat) (a1:List ByteArray) (p8:Option Addr) (q7:Nat) (E9:List ByteArray) (R9:Option Addr) (W5 S0:Nat) (U6:Ch) (D1:Int) ,Rw j7 H F e6 a0.U→a0.U.length≤e8→Rw k5 H F e3 a0.Entries→a0.Entries.length≤e4→P3 H F c9 (.cells #[iv a0.Room,iv a0.c4,.slice e6 a0.U.length e8,.slice e3 a0.Entries.length e4] 25 (0,0))→Rw Kd.string H F p8 a1→a1.length≤q7→b6 Kd.string 9 H R9 S0 E9 U6→W5=E9.length→K5 a0 a1 E9 D1=some r→b8 C75 (S75 F H r) H w0 [.c [1,1,0,1,0,0],.l [1,1,0,1,0,0],.b 0,.c [1,1,1]] [(0,pg c9 0),(1,.slice p8 a1.length q7),(5,.slice R9 W5 S0),(6,iv D1)] H (U6::F)):∀ (c9:Nat) (a0:Cache) (e6:Option Addr) (e8:Nat) (e3:Option Addr) (e4:Nat) (a1:List ByteArray) (p8:Option Addr) (q7:Nat) (D1:Int) (E9:List ByteArray) (R9:Option Addr) (W5 S0:Nat) (U6:Ch) ,Rw j7 H F e6 a0.U→a0.U.length≤e8→Rw k5 H F e3 a0.Entries→a0.Entries.length≤e4→P3 H F c9 (.cells #[iv a0.Room,iv a0.c4,.slice e6 a0.U.length e8,.slice e3 a0.Entries.length e4] 25 (0,0))→Rw Kd.string H F p8 a1→a1.length≤q7→b6 Kd.string 9 H R9 S0 E9 U6→W5=E9.length→U9.j3 K5 a0 a1 D1 E9=some r→b8 C75 (S75 F H r) H w0 [.c [1,1,0,1,0,0,1,1],.l [1,1,0,1,0,0],.b 0,.c [1,1,1]] [(0,pg c9 0),(1,.slice p8 a1.length q7),(5,.slice R9 W5 S0),(6,iv D1)] H (U6::F):=by
 intro c9 a0 e6 e8 e3 e4 a1 p8 q7 D1 E9 R9 W5 S0 U6 n9 s7 l8 q8 K3 p0 C5 av5 aF6 heq
 subst aF6
 unfold U9.j3 at heq
 refine Sa 0<|Zd 3<|An 1 ?_
 exact Gt 0 [] (ax7 _ a0 _ _ _ _ a1 _ _ E9 _ _ _ _ (c5 (D1+1)) n9 s7 l8 q8 K3 p0 C5 av5 rfl heq)
theorem U9.F9 {r:(List ByteArray)} (e1:(List ByteArray)→Option (List ByteArray))
  (D4:∀ (E9:List ByteArray) (R9:Option Addr) (W5 S0:Nat) (U6:Ch) ,b6 Kd.string 9 H R9 S0 E9 U6→W5=E9.length→e1 E9=some r→b8 C75 (S75 F H r) H w0 [.c [1,1,1,0],.c [1,1,1,1]] [(5,.slice R9 W5 S0)] H (U6::F)):∀ (k:Nat),∀ (c9:Nat) (a0:Cache) (e6:Option Addr) (e8:Nat) (e3:Option Addr) (e4:Nat) (a1:List ByteArray) (p8:Option Addr) (q7:Nat) (E9:List ByteArray) (R9:Option Addr) (W5 S0:Nat) (U6:Ch) (D1:Int) ,Rw j7 H F e6 a0.U→a0.U.length≤e8→Rw k5 H F e3 a0.Entries→a0.Entries.length≤e4→P3 H F c9 (.cells #[iv a0.Room,iv a0.c4,.slice e6 a0.U.length e8,.slice e3 a0.Entries.length e4] 25 (0,0))→Rw Kd.string H F p8 a1→a1.length≤q7→b6 Kd.string 9 H R9 S0 E9 U6→W5=E9.length→U9.l2 e1 k a0 a1 E9 D1=some r→b8 C75 (S75 F H r) H w0 [.c [1,1,0,1,0,0],.l [1,1,0,1,0,0],.b 0,.c [1,1,1]] [(0,pg c9 0),(1,.slice p8 a1.length q7),(5,.slice R9 W5 S0),(6,iv D1)] H (U6::F):=by
 intro k
 induction k with
 | zero=>intro c9 a0 e6 e8 e3 e4 a1 p8 q7 E9 R9 W5 S0 U6 D1 n9 s7 l8 q8 K3 p0 C5 av5 aF6 heq; exact nomatch (show (none:Option (List ByteArray))=some r from heq)
 | succ k u0 =>
  intro c9 a0 e6 e8 e3 e4 a1 p8 q7 E9 R9 W5 S0 U6 D1 n9 s7 l8 q8 K3 p0 C5 av5 aF6 heq
  subst aF6
  rw [U9.l2] at heq
  refine Sa 2<|Zd 4 ?_
  refine Cb heq ?_ ?_
  ·intro o8 heq
   refine Sa 4 ?_
   obtain ⟨x1,hx1,heq⟩:=bind_some heq
   obtain ⟨A7,I1,B1,B2⟩:=p0.get hx1
   obtain rfl:I1=[.string x1]:=B1
   refine Zv 5 [nx A7 hx1,er B2 1 0] ?_
   obtain ⟨y1,hy1,heq⟩:=bind_some heq
   refine c6.e5 (o9 18 (aU3 hy1 (n9.wk (fun _ h=>(.tail _ h))) s7 rfl (l8.wk (fun _ h=>(.tail _ h))) q8 rfl (K3.wk (fun _ h=>(.tail _ h))))) ?_
   rintro _ _ _ _ ⟨_,rfl,rfl,rfl,rfl⟩
   refine Zd 7 ?_
   refine Cb heq ?_ ?_
   ·intro s3 heq
    refine Sa 0 ?_
    obtain ⟨x2,w6,heq⟩:=bind_some heq
    obtain ⟨J2,T7,I8,J7⟩:=p0.get w6
    obtain rfl:T7=[.string x2]:=I8
    refine Zv 5 [nx J2 w6,er J7 1 0] ?_
    refine c6.e5 (j6.new (d:=25) (v:=fun g=>.slice (some ⟨g,0,none⟩) 1 1) (o:=fun g=>.cells #[.string x2] 9 (0,0)) (fun g=>by kernel_rfl)) ?_
    rintro _ _ _ _ ⟨g1,rfl,rfl,rfl⟩
    have r8:b6 Kd.string 9 H (some ⟨g1,0,none⟩) 1 ([x2]:List ByteArray) (some (g1,.cells #[.string x2] 9 (0,0))):=b6.lit (xs:=([x2]:List ByteArray)) (by kernel_rfl) (Nat.le_of_ble_eq_true (by kernel_rfl)) (Kd.q9.scalars rfl)
    obtain ⟨C4,heq⟩:=M1 heq
    refine c6.e5 (j6.append (d:=26) (k:=1) (t:=45) (e:=9) (bytes:=16) (kd:=Kd.string) (n:=E9.length) (m:=1) (xs:=E9) (ys:=([x2]:List ByteArray)) (A:=R9) (B:=(some ⟨g1,0,none⟩)) (c:=S0) (cB:=1) (by kernel_rfl) rfl rfl (by kernel_rfl) rfl av5 (fun w hh=>r8.Y9 (hh.N1 0 rfl)) (room_le C4) (by have:=room_le C4; omega)) ?_
    rintro _ _ _ _ ⟨A1,c1,r9,rfl,rfl,rfl,w8⟩
    refine c6.p6 ?_
    refine Zd 8<|An 1 ?_
    exact Gt 1 [] ((U9.ai7 (K5:=(U9.l2 e1 k)) u0) _ a0 _ _ _ _ a1 _ _ D1 (E9++([x2]:List ByteArray)) _ _ _ _ n9 s7 l8 q8 K3 p0 C5 w8 rfl heq)
   ·intro s3 heq
    refine An 2 ?_
    exact Gt 0 [] ((U9.ai7 (K5:=(U9.l2 e1 k)) u0) _ a0 _ _ _ _ a1 _ _ D1 E9 _ _ _ _ n9 s7 l8 q8 K3 p0 C5 av5 rfl heq)
  ·intro o8 heq
   refine An 2 ?_
   exact Gt 0 [] (D4 E9 _ _ _ _ av5 rfl heq)
theorem cb1 {c9:Nat} {a0:Cache} {e6:Option Addr} {q2 e8:Nat} {e3:Option Addr} {p7 e4:Nat} {a1:List ByteArray} {p8:Option Addr} {G7 q7:Nat} {r:(List ByteArray)} (heq:U9.f a0 a1=some r) (n9:Rw j7 H F e6 a0.U) (s7:q2≤e8) (B9:q2=a0.U.length) (l8:Rw k5 H F e3 a0.Entries) (q8:p7≤e4) (B4:p7=a0.Entries.length) (K3:P3 H F c9 (.cells #[iv a0.Room,iv a0.c4,.slice e6 q2 e8,.slice e3 p7 e4] 25 (0,0))) (p0:Rw Kd.string H F p8 a1) (C5:G7≤q7) (X8:G7=a1.length):z7 Tryz.prog 75 #[.pointer (some ⟨c9,0,none⟩),.slice p8 G7 q7] H w0 (F) (S75 F H r):=by
 refine Co C75 Tryz.func75 Tryz.ntmps75 ?_
 subst B9
 subst B4
 subst X8
 unfold U9.f at heq
 refine Sa 1<|Zd 1<|Sa 1<|Zd 1<|Sa 2<|Zd 1<|An 2<|b8.w5 ?_
 have w4:b6 Kd.string 9 H none 0 ([]:List ByteArray) none:=b6.nil
 exact Gt 0 [] (((U9.F9 (e1:=U9.e1) (U9.D7)) n8) _ a0 _ _ _ _ a1 _ _ ([]:List ByteArray) _ _ _ _ 0 n9 s7 l8 q8 K3 p0 C5 w4 rfl heq)
noncomputable def C55:Ctx:={ P:=Tryz.prog,f:=55,N:=38,c:=C1 Tryz.f55 }
def S55 (F:List Ch) (H0:Hp) (c9:Nat) (r:k6 × Cache) (v:Value) (H:Hp) (cs:List Ch):Prop:=∃ (Z8:Option Addr) (Z9:Nat) (aa0:Ch) (E7:Option Addr) (E8:Nat) (F1:Ch) (av6:Option Addr) (av7:Nat) (av8:Ch) (av9:Option Addr) (aw0:Nat) (aw1:Ch),H0=H∧v=.agg #[.bool r.1.x8,.slice Z8 r.1.x5.length Z9,.slice E7 r.1.x4.length E8]∧aa0::F1::some (c9,.cells #[iv r.2.Room,iv r.2.c4,.slice av6 r.2.U.length av7,.slice av9 r.2.Entries.length aw0] 25 (0,0))::av8::aw1::F=cs∧b6 Kd.string 9 H Z8 Z9 r.1.x5 aa0∧b6 Kd.string 9 H E7 E8 r.1.x4 F1∧b6 j7 44 H av6 av7 r.2.U av8∧b6 k5 47 H av9 aw0 r.2.Entries aw1
theorem V0.D7 {r:k6 × Cache}:∀ (c9:Nat) (a1:k7) (n3:Option Addr) (n4 g1 g2:Nat) (r6 r7:Int) (k9:List Blob) (s4:Option Addr) (C7 u5:Nat) (u7:Ch) (o4:List Entry) (z8:Option Addr) (J1 z6:Nat) (ac3:Ch) ,Rw Kd.string H F n3 a1.j9→a1.j9.length≤n4→b6 j7 44 H s4 u5 k9 u7→C7=k9.length→b6 k5 47 H z8 z6 o4 ac3→J1=o4.length→V0.e1 a1 r6 r7 k9 o4=some r→b8 C55 (S55 F H c9 r) H w0 [.c [1,1,0],.c [1,1,1]] [(0,pg c9 0),(3,pg g1 0),(4,pg g2 0)] H ((some (g2,.cells #[.bool false,.slice none 0 0,.slice none 0 0] 54 (0,0)))::(some (g1,.cells #[iv a1.Kind,iv a1.At,.string a1.b7,.slice n3 a1.j9.length n4,.string a1.Key,iv a1.j4] 50 (0,0)))::(some (c9,.cells #[iv r6,iv r7,.slice s4 C7 u5,.slice z8 J1 z6] 25 (0,0)))::u7::ac3::F):=by
 intro c9 a1 n3 n4 g1 g2 r6 r7 k9 s4 C7 u5 u7 o4 z8 J1 z6 ac3 u9 y6 D3 W9 J4 ai9 heq
 subst W9
 subst ai9
 unfold V0.e1 at heq
 refine Sa 0<|Zv 3 [bx 1 3] ?_
 obtain ⟨y1,hy1,heq⟩:=bind_some heq
 refine c6.e5 (o9 32 (cb1 (a0:=(⟨r6,r7,k9,o4⟩:Cache)) hy1 (D3.rw (.tail _ (.tail _ (.tail _ (.head _))))) D3.cap rfl (J4.rw (.tail _ (.tail _ (.tail _ (.tail _ (.head _)))))) J4.cap rfl (.inr (.tail _ (.tail _ (.head _)))) (u9.wk (fun _ h=>(.tail _ (.tail _ (.tail _ (.tail _ (.tail _ h))))))) y6 rfl)) ?_
 rintro _ _ _ _ ⟨_,rfl,A1,c1,r9,rfl,rfl,rfl,r8⟩
 refine Zd 5<|Sa 1<|Zk 5 ?_
 refine c6.e5 (j6.store (k:=1) (g:=g2) (off:=0) (v:=.agg #[.bool ((y1.length:Int) == 0),.slice A1 y1.length c1,.slice none 0 0]) (cells':=#[.bool ((y1.length:Int) == 0),.slice A1 y1.length c1,.slice none 0 0]) (by kernel_rfl) rfl (by kernel_rfl) (by kernel_rfl)) ?_
 rintro _ _ _ _ ⟨rfl,rfl,rfl⟩
 refine c6.p6 ?_
 refine Dn<|b8.w5 ?_
 have w8:b6 Kd.string 9 H none 0 ([]:List ByteArray) none:=b6.nil
 obtain rfl:=Option.some.inj heq
 refine Up 4 [2,1,0] ?_
 exact b8.I3 1 (vs:=[.agg #[.bool ((y1.length:Int) == 0),.slice A1 y1.length c1,.slice none 0 0]]) (v:=.agg #[.bool ((y1.length:Int) == 0),.slice A1 y1.length c1,.slice none 0 0]) (by kernel_rfl) Tryz.func55 (fun w hh=>show G2 _ _ _ [.cell 4 54] _ from ⟨⟨⟨g2,0,none⟩,by kernel_rfl,F5 _ (vs:=[.bool ((y1.length:Int) == 0),.slice A1 y1.length c1,.slice none 0 0]) (r:=[]) (es:=[.load ⟨g2,0,none⟩ (.bool ((y1.length:Int) == 0)),.load ⟨g2,1,none⟩ (.slice A1 y1.length c1),.load ⟨g2,2,none⟩ (.slice none 0 0)]) (by kernel_rfl) ⟨(hh.box 0 rfl rfl),(hh.box 0 rfl rfl),(hh.box 0 rfl rfl)⟩⟩,trivial⟩) rfl (cs':=r9::none::(some (c9,.cells #[iv r6,iv r7,.slice s4 k9.length u5,.slice z8 o4.length z6] 25 (0,0)))::u7::ac3::F) rfl ⟨A1,c1,r9,none,0,none,s4,u5,u7,z8,z6,ac3,rfl,rfl,rfl,r8,w8,D3,J4⟩
theorem V0.ai7 {r:k6 × Cache} (K5:k7→Int→Int→(List Blob)→(List Entry)→Int→Option (k6 × Cache))
  (ax7:∀ (c9:Nat) (a1:k7) (n3:Option Addr) (n4 g1 g2:Nat) (r6 r7:Int) (k9:List Blob) (s4:Option Addr) (C7 u5:Nat) (u7:Ch) (o4:List Entry) (z8:Option Addr) (J1 z6:Nat) (ac3:Ch) (n7:Int) ,Rw Kd.string H F n3 a1.j9→a1.j9.length≤n4→b6 j7 44 H s4 u5 k9 u7→C7=k9.length→b6 k5 47 H z8 z6 o4 ac3→J1=o4.length→K5 a1 r6 r7 k9 o4 n7=some r→b8 C55 (S55 F H c9 r) H w0 [.c [1,0,1,0,0],.l [1,0,1,0,0],.b 0,.c [1,1]] [(0,pg c9 0),(3,pg g1 0),(4,pg g2 0),(5,iv n7)] H ((some (g2,.cells #[.bool false,.slice none 0 0,.slice none 0 0] 54 (0,0)))::(some (g1,.cells #[iv a1.Kind,iv a1.At,.string a1.b7,.slice n3 a1.j9.length n4,.string a1.Key,iv a1.j4] 50 (0,0)))::(some (c9,.cells #[iv r6,iv r7,.slice s4 C7 u5,.slice z8 J1 z6] 25 (0,0)))::u7::ac3::F)):∀ (c9:Nat) (a1:k7) (n3:Option Addr) (n4 g1 g2:Nat) (n7 r6 r7:Int) (k9:List Blob) (s4:Option Addr) (C7 u5:Nat) (u7:Ch) (o4:List Entry) (z8:Option Addr) (J1 z6:Nat) (ac3:Ch) ,Rw Kd.string H F n3 a1.j9→a1.j9.length≤n4→b6 j7 44 H s4 u5 k9 u7→C7=k9.length→b6 k5 47 H z8 z6 o4 ac3→J1=o4.length→V0.j3 K5 a1 n7 r6 r7 k9 o4=some r→b8 C55 (S55 F H c9 r) H w0 [.c [1,0,1,0,0,1,1],.l [1,0,1,0,0],.b 0,.c [1,1]] [(0,pg c9 0),(3,pg g1 0),(4,pg g2 0),(5,iv n7)] H ((some (g2,.cells #[.bool false,.slice none 0 0,.slice none 0 0] 54 (0,0)))::(some (g1,.cells #[iv a1.Kind,iv a1.At,.string a1.b7,.slice n3 a1.j9.length n4,.string a1.Key,iv a1.j4] 50 (0,0)))::(some (c9,.cells #[iv r6,iv r7,.slice s4 C7 u5,.slice z8 J1 z6] 25 (0,0)))::u7::ac3::F):=by
 intro c9 a1 n3 n4 g1 g2 n7 r6 r7 k9 s4 C7 u5 u7 o4 z8 J1 z6 ac3 u9 y6 D3 W9 J4 ai9 heq
 subst W9
 subst ai9
 unfold V0.j3 at heq
 refine Sa 0<|Zd 3<|An 1 ?_
 exact Gt 0 [] (ax7 _ a1 _ _ _ _ r6 r7 k9 _ _ _ _ o4 _ _ _ _ (c5 (n7+1)) u9 y6 D3 rfl J4 rfl heq)
theorem V0.F9 {r:k6 × Cache} (e1:k7→Int→Int→(List Blob)→(List Entry)→Option (k6 × Cache))
  (D4:∀ (c9:Nat) (a1:k7) (n3:Option Addr) (n4 g1 g2:Nat) (r6 r7:Int) (k9:List Blob) (s4:Option Addr) (C7 u5:Nat) (u7:Ch) (o4:List Entry) (z8:Option Addr) (J1 z6:Nat) (ac3:Ch) ,Rw Kd.string H F n3 a1.j9→a1.j9.length≤n4→b6 j7 44 H s4 u5 k9 u7→C7=k9.length→b6 k5 47 H z8 z6 o4 ac3→J1=o4.length→e1 a1 r6 r7 k9 o4=some r→b8 C55 (S55 F H c9 r) H w0 [.c [1,1,0],.c [1,1,1]] [(0,pg c9 0),(3,pg g1 0),(4,pg g2 0)] H ((some (g2,.cells #[.bool false,.slice none 0 0,.slice none 0 0] 54 (0,0)))::(some (g1,.cells #[iv a1.Kind,iv a1.At,.string a1.b7,.slice n3 a1.j9.length n4,.string a1.Key,iv a1.j4] 50 (0,0)))::(some (c9,.cells #[iv r6,iv r7,.slice s4 C7 u5,.slice z8 J1 z6] 25 (0,0)))::u7::ac3::F)):∀ (k:Nat),∀ (c9:Nat) (a1:k7) (n3:Option Addr) (n4 g1 g2:Nat) (r6 r7:Int) (k9:List Blob) (s4:Option Addr) (C7 u5:Nat) (u7:Ch) (o4:List Entry) (z8:Option Addr) (J1 z6:Nat) (ac3:Ch) (n7:Int) ,Rw Kd.string H F n3 a1.j9→a1.j9.length≤n4→b6 j7 44 H s4 u5 k9 u7→C7=k9.length→b6 k5 47 H z8 z6 o4 ac3→J1=o4.length→V0.l2 e1 k a1 r6 r7 k9 o4 n7=some r→b8 C55 (S55 F H c9 r) H w0 [.c [1,0,1,0,0],.l [1,0,1,0,0],.b 0,.c [1,1]] [(0,pg c9 0),(3,pg g1 0),(4,pg g2 0),(5,iv n7)] H ((some (g2,.cells #[.bool false,.slice none 0 0,.slice none 0 0] 54 (0,0)))::(some (g1,.cells #[iv a1.Kind,iv a1.At,.string a1.b7,.slice n3 a1.j9.length n4,.string a1.Key,iv a1.j4] 50 (0,0)))::(some (c9,.cells #[iv r6,iv r7,.slice s4 C7 u5,.slice z8 J1 z6] 25 (0,0)))::u7::ac3::F):=by
 intro k
 induction k with
 | zero=>intro c9 a1 n3 n4 g1 g2 r6 r7 k9 s4 C7 u5 u7 o4 z8 J1 z6 ac3 n7 u9 y6 D3 W9 J4 ai9 heq; exact nomatch (show (none:Option (k6 × Cache))=some r from heq)
 | succ k u0 =>
  intro c9 a1 n3 n4 g1 g2 r6 r7 k9 s4 C7 u5 u7 o4 z8 J1 z6 ac3 n7 u9 y6 D3 W9 J4 ai9 heq
  subst W9
  subst ai9
  rw [V0.l2] at heq
  refine Sa 2<|Zw 5 [bx 1 3] ?_
  refine Cb heq ?_ ?_
  ·intro o8 heq
   refine Sa 4 ?_
   obtain ⟨x1,hx1,heq⟩:=bind_some heq
   obtain ⟨A7,I1,B1,B2⟩:=u9.get hx1
   obtain rfl:I1=[.string x1]:=B1
   refine Zv 6 [bx 1 3,nx A7 hx1,er B2 5 0] ?_
   obtain ⟨y2,hy2,heq⟩:=bind_some heq
   refine c6.e5 (o9 21 (aU3 (a0:=(⟨r6,r7,k9,o4⟩:Cache)) hy2 (D3.rw (.tail _ (.tail _ (.tail _ (.head _))))) D3.cap rfl (J4.rw (.tail _ (.tail _ (.tail _ (.tail _ (.head _)))))) J4.cap rfl (.inr (.tail _ (.tail _ (.head _)))))) ?_
   rintro _ _ _ _ ⟨_,rfl,rfl,rfl,rfl⟩
   refine Zd 8<|Sa 1<|Zd 2 ?_
   refine Cb heq ?_ ?_
   ·intro s3 heq
    refine Sa 0<|Zv 4 [bx 1 1]<|Ug 5 [2,3,4,0,1] ?_
    obtain ⟨y3,hy3,heq⟩:=bind_some heq
    refine c6.e5 (o9 28 (bK9 (a0:=(⟨r6,r7,k9,o4⟩:Cache)) hy3 D3 rfl J4 rfl)) ?_
    rintro _ _ _ _ ⟨_,rfl,aa3,c2,B5,aa8,c3,E6,rfl,rfl,rfl,w4,C9⟩
    refine Dn<|An 1 ?_
    exact Gt 5 [3,4,0,1,2] ((V0.ai7 (K5:=(V0.l2 e1 k)) u0) _ a1 _ _ _ _ n7 y3.Room y3.c4 y3.U _ _ _ _ y3.Entries _ _ _ _ u9 y6 w4 rfl C9 rfl heq)
   ·intro s3 heq
    refine An 2 ?_
    exact Gt 0 [] ((V0.ai7 (K5:=(V0.l2 e1 k)) u0) _ a1 _ _ _ _ n7 r6 r7 k9 _ _ _ _ o4 _ _ _ _ u9 y6 D3 rfl J4 rfl heq)
  ·intro o8 heq
   refine An 2 ?_
   exact Gt 0 [] (D4 _ a1 _ _ _ _ r6 r7 k9 _ _ _ _ o4 _ _ _ _ u9 y6 D3 rfl J4 rfl heq)
theorem ds4 {c9:Nat} {a0:Cache} {e6:Option Addr} {q2 e8:Nat} {s8:Ch} {e3:Option Addr} {p7 e4:Nat} {p5:Ch} {a1:k7} {n3:Option Addr} {J3 n4:Nat} {r:k6 × Cache} (heq:V0.f a0 a1=some r) (q6:b6 j7 44 H e6 e8 a0.U s8) (B9:q2=a0.U.length) (p9:b6 k5 47 H e3 e4 a0.Entries p5) (B4:p7=a0.Entries.length) (u9:Rw Kd.string H F n3 a1.j9) (y6:J3≤n4) (aa5:J3=a1.j9.length):z7 Tryz.prog 55 #[.pointer (some ⟨c9,0,none⟩),.agg #[iv a1.Kind,iv a1.At,.string a1.b7,.slice n3 J3 n4,.string a1.Key,iv a1.j4]] H w0 ((some (c9,.cells #[iv a0.Room,iv a0.c4,.slice e6 q2 e8,.slice e3 p7 e4] 25 (0,0)))::s8::p5::F) (S55 F H c9 r):=by
 refine Co C55 Tryz.func55 Tryz.ntmps55 ?_
 subst B9
 subst B4
 subst aa5
 unfold V0.f at heq
 refine Sa 1 ?_
 refine c6.e5 (j6.new (d:=3) (v:=fun g=>.pointer (some ⟨g,0,none⟩)) (o:=fun g=>.cells #[iv a1.Kind,iv a1.At,.string a1.b7,.slice n3 a1.j9.length n4,.string a1.Key,iv a1.j4] 50 (0,0)) (fun g=>by kernel_rfl)) ?_
 rintro _ _ _ _ ⟨g1,rfl,rfl,rfl⟩
 refine c6.e5 (j6.new (d:=4) (v:=fun g=>.pointer (some ⟨g,0,none⟩)) (o:=fun g=>.cells #[.bool false,.slice none 0 0,.slice none 0 0] 54 (0,0)) (fun g=>by kernel_rfl)) ?_
 rintro _ _ _ _ ⟨g2,rfl,rfl,rfl⟩
 refine Dn<|Sa 2<|Zd 1<|An 2 ?_
 exact Gt 0 [] (((V0.F9 (e1:=V0.e1) (V0.D7)) n8) _ a1 _ _ _ _ a0.Room a0.c4 a0.U _ _ _ _ a0.Entries _ _ _ _ 0 u9 y6 q6 rfl p9 rfl heq)
noncomputable def C76:Ctx:={ P:=Tryz.prog,f:=76,N:=26,c:=C1 Tryz.f76 }
def S76 (F:List Ch) (H0:Hp) (r:Int) (v:Value) (H:Hp) (cs:List Ch):Prop:=H0=H∧v=iv r∧F=cs
theorem ai4.D7 {r:Int}:ai4.e1=some r→b8 C76 (S76 F H r) H w0 [.c [1,1,0],.c [1,1,1]] [] H (F):=by
 intro   heq
 unfold ai4.e1 at heq
 refine Sa 0<|Zd 1 ?_
 obtain rfl:=Option.some.inj heq
 exact b8.done (by kernel_rfl) Tryz.func76 (v:=iv (-1)) (by kernel_rfl) ⟨rfl,rfl,rfl⟩
theorem ai4.F9 {r:Int} (e1:Option Int)
  (D4:e1=some r→b8 C76 (S76 F H r) H w0 [.c [1,1,0],.c [1,1,1]] [] H (F)):∀ (k:Nat),∀ (c9:Nat) (a0:Cache) (e6:Option Addr) (e8:Nat) (e3:Option Addr) (e4:Nat) (a1:ByteArray) (n7:Int) ,Rw j7 H F e6 a0.U→a0.U.length≤e8→Rw k5 H F e3 a0.Entries→a0.Entries.length≤e4→P3 H F c9 (.cells #[iv a0.Room,iv a0.c4,.slice e6 a0.U.length e8,.slice e3 a0.Entries.length e4] 25 (0,0))→ai4.l2 e1 k a0 a1 n7=some r→b8 C76 (S76 F H r) H w0 [.c [1,0,1,0,0],.l [1,0,1,0,0],.b 0,.c [1,1]] [(0,pg c9 0),(1,.string a1),(5,iv n7)] H (F):=by
 intro k
 induction k with
 | zero=>intro c9 a0 e6 e8 e3 e4 a1 n7 n9 s7 l8 q8 K3 heq; exact nomatch (show (none:Option Int)=some r from heq)
 | succ k u0 =>
  intro c9 a0 e6 e8 e3 e4 a1 n7 n9 s7 l8 q8 K3 heq
  rw [ai4.l2] at heq
  refine Sa 2<|Zw 7 [rb K3 0 3] ?_
  refine Cb heq ?_ ?_
  ·intro o8 heq
   refine Sa 4 ?_
   obtain ⟨x1,hx1,heq⟩:=bind_some heq
   obtain ⟨A7,I1,B1,B2⟩:=l8.get hx1
   obtain ⟨A1,c1,rfl,hc1,I0⟩:=Y7 B1
   refine Zw 10 [rb K3 0 3,nx A7 hx1,er B2 0 0] ?_
   refine Cb heq ?_ ?_
   ·intro s3 heq
    refine Sa 1<|Zd 2 ?_
    obtain rfl:=Option.some.inj heq
    exact b8.done (by kernel_rfl) Tryz.func76 (v:=iv n7) (by kernel_rfl) ⟨rfl,rfl,rfl⟩
   ·intro s3 heq
    refine Sa 2<|Zd 3<|An 1 ?_
    exact Gt 0 [] (u0 _ a0 _ _ _ _ a1 (c5 (n7+1)) n9 s7 l8 q8 K3 heq)
  ·intro o8 heq
   refine An 2 ?_
   exact Gt 0 [] (D4 heq)
theorem cC4 {c9:Nat} {a0:Cache} {e6:Option Addr} {q2 e8:Nat} {e3:Option Addr} {p7 e4:Nat} {a1:ByteArray} {r:Int} (heq:ai4.f a0 a1=some r) (n9:Rw j7 H F e6 a0.U) (s7:q2≤e8) (B9:q2=a0.U.length) (l8:Rw k5 H F e3 a0.Entries) (q8:p7≤e4) (B4:p7=a0.Entries.length) (K3:P3 H F c9 (.cells #[iv a0.Room,iv a0.c4,.slice e6 q2 e8,.slice e3 p7 e4] 25 (0,0))):z7 Tryz.prog 76 #[.pointer (some ⟨c9,0,none⟩),.string a1] H w0 (F) (S76 F H r):=by
 refine Co C76 Tryz.func76 Tryz.ntmps76 ?_
 subst B9
 subst B4
 unfold ai4.f at heq
 refine Sa 1<|Zd 1<|Sa 2<|Zd 1<|An 2 ?_
 exact Gt 0 [] (((ai4.F9 (e1:=ai4.e1) (ai4.D7)) n8) _ a0 _ _ _ _ a1 0 n9 s7 l8 q8 K3 heq)
noncomputable def C77:Ctx:={ P:=Tryz.prog,f:=77,N:=25,c:=C1 Tryz.f77 }
def S77 (F:List Ch) (H0:Hp) (c9:Nat) (r:Cache) (v:Value) (H:Hp) (cs:List Ch):Prop:=∃ (E7:Option Addr) (E8:Nat) (F1:Ch) (P7:Option Addr) (P8:Nat) (Q9:Ch),H0=H∧v=.tuple #[]∧some (c9,.cells #[iv r.Room,iv r.c4,.slice E7 r.U.length E8,.slice P7 r.Entries.length P8] 25 (0,0))::F1::Q9::F=cs∧b6 j7 44 H E7 E8 r.U F1∧b6 k5 47 H P7 P8 r.Entries Q9
theorem cb2 {c9:Nat} {a0:Cache} {e6:Option Addr} {q2 e8:Nat} {s8:Ch} {e3:Option Addr} {p7 e4:Nat} {p5:Ch} {a1:Int} {r:Cache} (heq:aX0.f a0 a1=some r) (q6:b6 j7 44 H e6 e8 a0.U s8) (B9:q2=a0.U.length) (p9:b6 k5 47 H e3 e4 a0.Entries p5) (B4:p7=a0.Entries.length):z7 Tryz.prog 77 #[.pointer (some ⟨c9,0,none⟩),iv a1] H w0 ((some (c9,.cells #[iv a0.Room,iv a0.c4,.slice e6 q2 e8,.slice e3 p7 e4] 25 (0,0)))::s8::p5::F) (S77 F H c9 r):=by
 refine Co C77 Tryz.func77 Tryz.ntmps77 ?_
 subst B9
 subst B4
 unfold aX0.f at heq
 refine Sa 1<|Zd 1<|Sa 1 ?_
 obtain ⟨hn2,heq⟩:=M1 heq
 have C4:a1.toNat=(a0.Entries.take a1.toNat).length:=by have h1:=O6 hn2; have h3:=trivial; (try simp); (try omega)
 have r8:=p9.take a1.toNat
 refine Zv 7 [bx 0 3,⟨.need ((0:Int)≤a1∧a1≤((e4:Nat):Int)),fun w hh=>⟨(O6 hn2).1,(by have h1:=(O6 hn2).2; have h2:=p9.cap; have h3:=trivial; omega)⟩⟩]<|c6.w5 ?_
 have w8:b6 k5 47 H none 0 ([]:List Entry) none:=b6.nil
 obtain ⟨S9,heq⟩:=M1 heq
 refine c6.e5 (j6.append (d:=12) (k:=0) (t:=23) (e:=47) (bytes:=48) (kd:=k5) (n:=0) (m:=a1.toNat) (xs:=([]:List Entry)) (ys:=(a0.Entries.take a1.toNat)) (A:=none) (B:=e3) (c:=0) (cB:=e4) (by kernel_rfl) rfl C4 (by kernel_rfl) rfl w8 (fun w hh=>r8.Y9 (hh.N1 3 rfl)) (room_le S9) (by have:=room_le S9; omega)) ?_
 rintro _ _ _ _ ⟨A1,c1,r9,rfl,rfl,rfl,w4⟩
 refine c6.p6 ?_
 refine Zd 9<|Sa 0 ?_
 obtain ⟨hn5,heq⟩:=M1 heq
 have hn4:a0.Entries.length - (c5 (a1+1)).toNat=(a0.Entries.drop (c5 (a1+1)).toNat).length:=by have h1:=O6 hn5; have h3:=trivial; (try simp); (try omega)
 have C9:=p9.drop (c5 (a1+1)).toNat (by have h2:=p9.cap; have h3:=trivial; have h1:=O6 hn5; omega)
 refine Zv 9 [bx 1 3,⟨.need ((0:Int)≤(c5 (a1+1))∧(c5 (a1+1))≤((a0.Entries.length:Nat):Int)),fun w hh=>(O6 hn5)⟩] ?_
 obtain ⟨hn6,heq⟩:=M1 heq
 refine c6.e5 (j6.append (d:=22) (k:=0) (t:=23) (e:=47) (bytes:=48) (kd:=k5) (n:=(([]:List Entry)++(a0.Entries.take a1.toNat)).length) (m:=a0.Entries.length - (c5 (a1+1)).toNat) (xs:=(([]:List Entry)++(a0.Entries.take a1.toNat))) (ys:=(a0.Entries.drop (c5 (a1+1)).toNat)) (A:=A1) (B:=(K6 e4 (c5 (a1+1)).toNat 3 e3)) (c:=c1) (cB:=(e4 - (c5 (a1+1)).toNat)) (by kernel_rfl) rfl hn4 (by kernel_rfl) rfl w4 (fun w hh=>C9.Y9 (hh.N1 3 rfl)) (room_le hn6) (by have:=room_le hn6; omega)) ?_
 rintro _ _ _ _ ⟨aa3,c2,B5,rfl,rfl,rfl,H7⟩
 refine c6.p6 ?_
 refine Zk 12 ?_
 refine c6.e5 (j6.store (k:=1) (g:=c9) (off:=3) (v:=.slice aa3 (((([]:List Entry)++(a0.Entries.take a1.toNat))++(a0.Entries.drop (c5 (a1+1)).toNat)).length) c2) (cells':=#[iv a0.Room,iv a0.c4,.slice e6 a0.U.length e8,.slice aa3 (((([]:List Entry)++(a0.Entries.take a1.toNat))++(a0.Entries.drop (c5 (a1+1)).toNat)).length) c2]) (by kernel_rfl) rfl (by kernel_rfl) (by kernel_rfl)) ?_
 rintro _ _ _ _ ⟨rfl,rfl,rfl⟩
 refine c6.p6 ?_
 refine Dn ?_
 obtain rfl:=Option.some.inj heq
 refine Up 4 [1,2,0] ?_
 exact b8.done (by kernel_rfl) Tryz.func77 (v:=.tuple #[]) (by kernel_rfl) ⟨e6,e8,s8,aa3,c2,B5,rfl,rfl,rfl,q6,H7⟩
noncomputable def C56:Ctx:={ P:=Tryz.prog,f:=56,N:=146,c:=C1 Tryz.f56 }
def S56 (F:List Ch) (H0:Hp) (c9:Nat) (r:k6 × Cache) (v:Value) (H:Hp) (cs:List Ch):Prop:=∃ (Z8:Option Addr) (Z9:Nat) (aa0:Ch) (E7:Option Addr) (E8:Nat) (F1:Ch) (av6:Option Addr) (av7:Nat) (av8:Ch) (av9:Option Addr) (aw0:Nat) (aw1:Ch),v=.agg #[.bool r.1.x8,.slice Z8 r.1.x5.length Z9,.slice E7 r.1.x4.length E8]∧aa0::F1::some (c9,.cells #[iv r.2.Room,iv r.2.c4,.slice av6 r.2.U.length av7,.slice av9 r.2.Entries.length aw0] 25 (0,0))::av8::aw1::F=cs∧b6 Kd.string 9 H Z8 Z9 r.1.x5 aa0∧b6 Kd.string 9 H E7 E8 r.1.x4 F1∧b6 j7 44 H av6 av7 r.2.U av8∧b6 k5 47 H av9 aw0 r.2.Entries aw1
theorem B0.bY3 {r:k6 × Cache}:∀ (H:Hp) (c9:Nat) (a1:k7) (n3:Option Addr) (n4 g1 g2:Nat) (r6 r7:Int) (k9:List Blob) (s4:Option Addr) (u5:Nat) (u7:Ch) (o4:List Entry) (z8:Option Addr) (z6:Nat) (ac3:Ch) (ad3:Int) ,Rw Kd.string H F n3 a1.j9→a1.j9.length≤n4→b6 j7 44 H s4 u5 k9 u7→b6 k5 47 H z8 z6 o4 ac3→B0.S2 a1 r6 r7 k9 o4 ad3=some r→b8 C56 (S56 F H0 c9 r) H0 w0 [.c [1,1,1,1,1,1,1,0],.c [1,1,1,1,1,1,1,1]] [(0,pg c9 0),(3,pg g1 0),(4,pg g2 0),(10,iv ad3)] H ((some (g2,.cells #[.bool false,.slice none 0 0,.slice none 0 0] 54 (0,0)))::(some (g1,.cells #[iv a1.Kind,iv a1.At,.string a1.b7,.slice n3 a1.j9.length n4,.string a1.Key,iv a1.j4] 50 (0,0)))::(some (c9,.cells #[iv r6,iv r7,.slice s4 k9.length u5,.slice z8 o4.length z6] 25 (0,0)))::u7::ac3::F):=by
 intro H c9 a1 n3 n4 g1 g2 r6 r7 k9 s4 u5 u7 o4 z8 z6 ac3 ad3 u9 y6 D3 J4 heq
 unfold B0.S2 at heq
 refine Sa 0<|Zv 5 [bx 1 4,bx 1 1] ?_
 refine c6.e5 (j6.new (d:=11) (v:=fun g=>.pointer (some ⟨g,0,none⟩)) (o:=fun g=>.cells #[.string ByteArray.empty,.slice none 0 0,iv 0] 47 (0,0)) (fun g=>by kernel_rfl)) ?_
 rintro _ _ _ _ ⟨g3,rfl,rfl,rfl⟩
 refine c6.e5 (j6.store (k:=0) (g:=g3) (off:=0) (v:=.agg #[.string a1.Key,.slice none 0 0,iv a1.At]) (cells':=#[.string a1.Key,.slice none 0 0,iv a1.At]) (by kernel_rfl) rfl (by kernel_rfl) (by kernel_rfl)) ?_
 rintro _ _ _ _ ⟨rfl,rfl,rfl⟩
 refine c6.p6 ?_
 refine Dn<|Sa 1<|Zv 4 [bx 0 1,bx 2 3]<|c6.w5 ?_
 have w4:b6 Kd.string 9 H none 0 ([]:List ByteArray) none:=b6.nil
 obtain ⟨C4,heq⟩:=M1 heq
 refine c6.e5 (j6.append (d:=120) (k:=0) (t:=45) (e:=9) (bytes:=16) (kd:=Kd.string) (n:=0) (m:=a1.j9.length) (xs:=([]:List ByteArray)) (ys:=a1.j9) (A:=none) (B:=n3) (c:=0) (cB:=n4) (by kernel_rfl) rfl rfl (by kernel_rfl) rfl w4 (fun w hh=>u9.Y9 (hh.drop 7)) (room_le C4) (by have:=room_le C4; omega)) ?_
 rintro _ _ _ _ ⟨aa3,c2,B5,rfl,rfl,rfl,C9⟩
 refine c6.p6 ?_
 refine Zk 6 ?_
 refine c6.e5 (j6.store (k:=1) (g:=g3) (off:=1) (v:=.slice aa3 ((([]:List ByteArray)++a1.j9).length) c2) (cells':=#[.string a1.Key,.slice aa3 ((([]:List ByteArray)++a1.j9).length) c2,iv a1.At]) (by kernel_rfl) rfl (by kernel_rfl) (by kernel_rfl)) ?_
 rintro _ _ _ _ ⟨rfl,rfl,rfl⟩
 refine c6.p6 ?_
 refine Dn<|Sa 1<|Zd 1<|Sa 1 ?_
 obtain ⟨S9,heq⟩:=M1 heq
 have hn2:ad3.toNat=(o4.take ad3.toNat).length:=by have h1:=O6 S9; have h3:=trivial; (try simp); (try omega)
 have H7:=J4.take ad3.toNat
 refine Zv 7 [bx 4 3,⟨.need ((0:Int)≤ad3∧ad3≤((z6:Nat):Int)),fun w hh=>⟨(O6 S9).1,(by have h1:=(O6 S9).2; have h2:=J4.cap; have h3:=trivial; omega)⟩⟩]<|c6.w5 ?_
 have O4:b6 k5 47 H none 0 ([]:List Entry) none:=b6.nil
 obtain ⟨hn4,heq⟩:=M1 heq
 refine c6.e5 (j6.append (d:=129) (k:=0) (t:=23) (e:=47) (bytes:=48) (kd:=k5) (n:=0) (m:=ad3.toNat) (xs:=([]:List Entry)) (ys:=(o4.take ad3.toNat)) (A:=none) (B:=z8) (c:=0) (cB:=z6) (by kernel_rfl) rfl hn2 (by kernel_rfl) rfl O4 (fun w hh=>H7.Y9 (hh.N1 7 rfl)) (room_le hn4) (by have:=room_le hn4; omega)) ?_
 rintro _ _ _ _ ⟨aa8,c3,E6,rfl,rfl,rfl,O3⟩
 refine c6.p6 ?_
 refine Zd 9<|Sa 1<|Zv 2 (C8 2)<|Ug 2 [1,0] ?_
 have hc1:=C9.cap
 refine Hs.aD8 C9 (fun H hl I0=>?_)
 replace D3:=D3.mono hl
 replace J4:=J4.mono hl
 replace O3:=O3.mono hl
 refine c6.e5 (j6.new (d:=132) (v:=fun g=>.slice (some ⟨g,0,none⟩) 1 1) (o:=fun g=>.cells #[.string a1.Key,.slice aa3 ((([]:List ByteArray)++a1.j9).length) c2,iv a1.At] 47 (0,0)) (fun g=>by kernel_rfl)) ?_
 rintro _ _ _ _ ⟨g4,rfl,rfl,rfl⟩
 have R5:b6 k5 47 H (some ⟨g4,0,none⟩) 1 ([(⟨a1.Key,(([]:List ByteArray)++a1.j9),a1.At⟩:Entry)]:List Entry) (some (g4,.cells #[.string a1.Key,.slice aa3 ((([]:List ByteArray)++a1.j9).length) c2,iv a1.At] 47 (0,0))):=b6.lit (xs:=([(⟨a1.Key,(([]:List ByteArray)++a1.j9),a1.At⟩:Entry)]:List Entry)) (by kernel_rfl) (Nat.le_of_ble_eq_true (by kernel_rfl)) (Kd.q9.one (aT4 hc1 I0))
 obtain ⟨hn5,heq⟩:=M1 heq
 refine c6.e5 (j6.append (d:=133) (k:=1) (t:=23) (e:=47) (bytes:=48) (kd:=k5) (n:=(([]:List Entry)++(o4.take ad3.toNat)).length) (m:=1) (xs:=(([]:List Entry)++(o4.take ad3.toNat))) (ys:=([(⟨a1.Key,(([]:List ByteArray)++a1.j9),a1.At⟩:Entry)]:List Entry)) (A:=aa8) (B:=(some ⟨g4,0,none⟩)) (c:=c3) (cB:=1) (by kernel_rfl) rfl rfl (by kernel_rfl) rfl O3 (fun w hh=>R5.Y9 (hh.N1 0 rfl)) (room_le hn5) (by have:=room_le hn5; omega)) ?_
 rintro _ _ _ _ ⟨aa9,y8,G6,rfl,rfl,rfl,K4⟩
 refine c6.p6 ?_
 refine Zd 5<|Sa 1 ?_
 obtain ⟨hn7,heq⟩:=M1 heq
 have hn6:o4.length - ad3.toNat=(o4.drop ad3.toNat).length:=by have h1:=O6 hn7; have h3:=trivial; (try simp); (try omega)
 have N0:=J4.drop ad3.toNat (by have h2:=J4.cap; have h3:=trivial; have h1:=O6 hn7; omega)
 refine Zv 8 [bx 5 3,⟨.need ((0:Int)≤ad3∧ad3≤((o4.length:Nat):Int)),fun w hh=>(O6 hn7)⟩] ?_
 obtain ⟨hn8,heq⟩:=M1 heq
 refine c6.e5 (j6.append (d:=142) (k:=1) (t:=23) (e:=47) (bytes:=48) (kd:=k5) (n:=((([]:List Entry)++(o4.take ad3.toNat))++([(⟨a1.Key,(([]:List ByteArray)++a1.j9),a1.At⟩:Entry)]:List Entry)).length) (m:=o4.length - ad3.toNat) (xs:=((([]:List Entry)++(o4.take ad3.toNat))++([(⟨a1.Key,(([]:List ByteArray)++a1.j9),a1.At⟩:Entry)]:List Entry))) (ys:=(o4.drop ad3.toNat)) (A:=aa9) (B:=(K6 z6 ad3.toNat 3 z8)) (c:=y8) (cB:=(z6 - ad3.toNat)) (by kernel_rfl) rfl hn6 (by kernel_rfl) rfl K4 (fun w hh=>N0.Y9 (hh.N1 7 rfl)) (room_le hn8) (by have:=room_le hn8; omega)) ?_
 rintro _ _ _ _ ⟨G3,G4,O2,rfl,rfl,rfl,aa4⟩
 refine c6.p6 ?_
 refine Zk 11 ?_
 refine c6.e5 (j6.store (k:=5) (g:=c9) (off:=3) (v:=.slice G3 ((((([]:List Entry)++(o4.take ad3.toNat))++([(⟨a1.Key,(([]:List ByteArray)++a1.j9),a1.At⟩:Entry)]:List Entry))++(o4.drop ad3.toNat)).length) G4) (cells':=#[iv r6,iv r7,.slice s4 k9.length u5,.slice G3 ((((([]:List Entry)++(o4.take ad3.toNat))++([(⟨a1.Key,(([]:List ByteArray)++a1.j9),a1.At⟩:Entry)]:List Entry))++(o4.drop ad3.toNat)).length) G4]) (by kernel_rfl) rfl (by kernel_rfl) (by kernel_rfl)) ?_
 rintro _ _ _ _ ⟨rfl,rfl,rfl⟩
 refine c6.p6 ?_
 refine Dn<|Sa 1<|Zk 1 ?_
 refine c6.e5 (j6.store (k:=3) (g:=g2) (off:=0) (v:=.agg #[.bool true,.slice none 0 0,.slice none 0 0]) (cells':=#[.bool true,.slice none 0 0,.slice none 0 0]) (by kernel_rfl) rfl (by kernel_rfl) (by kernel_rfl)) ?_
 rintro _ _ _ _ ⟨rfl,rfl,rfl⟩
 refine c6.p6 ?_
 refine Dn<|b8.w5 ?_
 have ae5:b6 Kd.string 9 H none 0 ([]:List ByteArray) none:=b6.nil
 refine b8.w5 ?_
 have ar7:b6 Kd.string 9 H none 0 ([]:List ByteArray) none:=b6.nil
 obtain rfl:=Option.some.inj heq
 refine Up 10 [5,1,0,7,8,3] ?_
 exact b8.I3 1 (vs:=[.agg #[.bool true,.slice none 0 0,.slice none 0 0]]) (v:=.agg #[.bool true,.slice none 0 0,.slice none 0 0]) (by kernel_rfl) Tryz.func56 (fun w hh=>show G2 _ _ _ [.cell 4 54] _ from ⟨⟨⟨g2,0,none⟩,by kernel_rfl,F5 _ (vs:=[.bool true,.slice none 0 0,.slice none 0 0]) (r:=[]) (es:=[.load ⟨g2,0,none⟩ (.bool true),.load ⟨g2,1,none⟩ (.slice none 0 0),.load ⟨g2,2,none⟩ (.slice none 0 0)]) (by kernel_rfl) ⟨(hh.box 0 rfl rfl),(hh.box 0 rfl rfl),(hh.box 0 rfl rfl)⟩⟩,trivial⟩) rfl (cs':=none::none::(some (c9,.cells #[iv r6,iv r7,.slice s4 k9.length u5,.slice G3 ((((([]:List Entry)++(o4.take ad3.toNat))++([(⟨a1.Key,(([]:List ByteArray)++a1.j9),a1.At⟩:Entry)]:List Entry))++(o4.drop ad3.toNat)).length) G4] 25 (0,0)))::u7::O2::F) rfl ⟨none,0,none,none,0,none,s4,u5,u7,G3,G4,O2,rfl,rfl,ae5,ar7,D3,aa4⟩
theorem B0.bv0 {r:k6 × Cache} (S2:k7→Int→Int→(List Blob)→(List Entry)→Int→Option (k6 × Cache))
  (he4:∀ (H:Hp) (c9:Nat) (a1:k7) (n3:Option Addr) (n4 g1 g2:Nat) (r6 r7:Int) (k9:List Blob) (s4:Option Addr) (u5:Nat) (u7:Ch) (o4:List Entry) (z8:Option Addr) (z6:Nat) (ac3:Ch) (ad3:Int) ,Rw Kd.string H F n3 a1.j9→a1.j9.length≤n4→b6 j7 44 H s4 u5 k9 u7→b6 k5 47 H z8 z6 o4 ac3→S2 a1 r6 r7 k9 o4 ad3=some r→b8 C56 (S56 F H0 c9 r) H0 w0 [.c [1,1,1,1,1,1,1,0],.c [1,1,1,1,1,1,1,1]] [(0,pg c9 0),(3,pg g1 0),(4,pg g2 0),(10,iv ad3)] H ((some (g2,.cells #[.bool false,.slice none 0 0,.slice none 0 0] 54 (0,0)))::(some (g1,.cells #[iv a1.Kind,iv a1.At,.string a1.b7,.slice n3 a1.j9.length n4,.string a1.Key,iv a1.j4] 50 (0,0)))::(some (c9,.cells #[iv r6,iv r7,.slice s4 k9.length u5,.slice z8 o4.length z6] 25 (0,0)))::u7::ac3::F)):∀ (k:Nat),∀ (H:Hp) (c9:Nat) (a1:k7) (n3:Option Addr) (n4 g1 g2:Nat) (r6 r7:Int) (k9:List Blob) (s4:Option Addr) (u5:Nat) (u7:Ch) (o4:List Entry) (z8:Option Addr) (z6:Nat) (ac3:Ch) (ad3:Int) ,Rw Kd.string H F n3 a1.j9→a1.j9.length≤n4→b6 j7 44 H s4 u5 k9 u7→b6 k5 47 H z8 z6 o4 ac3→B0.l5 S2 k a1 r6 r7 k9 o4 ad3=some r→b8 C56 (S56 F H0 c9 r) H0 w0 [.c [1,1,1,1,1,1,0,0,0],.l [1,1,1,1,1,1,0,0,0],.b 4,.c [1,1,1,1,1,1,1]] [(0,pg c9 0),(3,pg g1 0),(4,pg g2 0),(10,iv ad3)] H ((some (g2,.cells #[.bool false,.slice none 0 0,.slice none 0 0] 54 (0,0)))::(some (g1,.cells #[iv a1.Kind,iv a1.At,.string a1.b7,.slice n3 a1.j9.length n4,.string a1.Key,iv a1.j4] 50 (0,0)))::(some (c9,.cells #[iv r6,iv r7,.slice s4 k9.length u5,.slice z8 o4.length z6] 25 (0,0)))::u7::ac3::F):=by
 intro k
 induction k with
 | zero=>intro H c9 a1 n3 n4 g1 g2 r6 r7 k9 s4 u5 u7 o4 z8 z6 ac3 ad3 u9 y6 D3 J4 heq; exact nomatch (show (none:Option (k6 × Cache))=some r from heq)
 | succ k u0 =>
  intro H c9 a1 n3 n4 g1 g2 r6 r7 k9 s4 u5 u7 o4 z8 z6 ac3 ad3 u9 y6 D3 J4 heq
  rw [B0.l5] at heq
  refine An 2 ?_
  obtain ⟨t1,A9,heq⟩:=bind_some heq
  have K19:∀ (H:Hp),Rw Kd.string H F n3 a1.j9→b6 j7 44 H s4 u5 k9 u7→b6 k5 47 H z8 z6 o4 ac3→b8 C56 (S56 F H0 c9 r) H0 w0 [.c [1,1,1,1,1,1,0,0,0,0,1],.c [1,1,1,1,1,1,0,0,0,1],.l [1,1,1,1,1,1,0,0,0],.b 4,.c [1,1,1,1,1,1,1]] [(0,pg c9 0),(3,pg g1 0),(4,pg g2 0),(10,iv ad3),(108,.bool t1)] H ((some (g2,.cells #[.bool false,.slice none 0 0,.slice none 0 0] 54 (0,0)))::(some (g1,.cells #[iv a1.Kind,iv a1.At,.string a1.b7,.slice n3 a1.j9.length n4,.string a1.Key,iv a1.j4] 50 (0,0)))::(some (c9,.cells #[iv r6,iv r7,.slice s4 k9.length u5,.slice z8 o4.length z6] 25 (0,0)))::u7::ac3::F):=by
   intro H u9 D3 J4
   refine Cb heq ?_ ?_
   ·intro x7 heq
    refine Sa 2<|Zd 3<|An 2 ?_
    exact Gt 0 [] (u0 _ _ a1 _ _ _ _ r6 r7 k9 _ _ _ o4 _ _ _ (c5 (ad3+1)) u9 y6 D3 J4 heq)
   ·intro x7 heq
    refine An 2 ?_
    exact Gt 0 [] (he4 _ _ a1 _ _ _ _ r6 r7 k9 _ _ _ o4 _ _ _ ad3 u9 y6 D3 J4 heq)
  replace heq:=A9
  refine Sd 0 20 [] [3,3,3,3,3,3,3,3,3,3,3,3,3,3,3,3,3,3,3,3]<|Zr [0,1,2,3,4,5,6,7] 12 [bx 2 3] (Pk 5 [0,1,2,3,4]) (Pk 5 [0,1,2,3,4]) ?_
  rcases y9 (decide (ad3<(o4.length:Int))) with s3 | s3
  ·replace heq:=A5 s3 heq
   refine Zu 96 (congrArg Value.bool s3) ?_
   obtain ⟨x1,hx1,heq⟩:=bind_some heq
   obtain ⟨A7,I1,B1,B2⟩:=J4.get hx1
   obtain ⟨X6,X7,rfl,N9,hr2⟩:=Y7 B1
   refine Zr [8,9,10,11,12,13,14,15,16,17,18,19] 0 [bx 2 3,nx A7 hx1,el B2 4 0,bx 1 4] (Pk 5 [0,1,2,3,4]) (Pk 5 [0,1,2,3,4]) ?_
   obtain rfl:=Option.some.inj heq
   refine o5.done (by kernel_rfl) ?_
   exact Gt 0 [] (K19 _ u9 D3 J4)
  ·replace heq:=A6 s3 heq
   refine Zu 96 (congrArg Value.bool s3)<|Zr [8,9,10,11,12,13,14,15,16,17,18,19] 0 [] (Pk 5 [0,1,2,3,4]) (Pk 5 [0,1,2,3,4]) ?_
   obtain rfl:=Option.some.inj heq
   refine o5.done (by kernel_rfl) ?_
   exact Gt 0 [] (K19 _ u9 D3 J4)
theorem B0.ai7 {r:k6 × Cache}:∀ (H:Hp) (c9:Nat) (a1:k7) (n3:Option Addr) (n4 g1 g2:Nat) (r6 r7:Int) (k9:List Blob) (s4:Option Addr) (C7 u5:Nat) (u7:Ch) (o4:List Entry) (z8:Option Addr) (J1 z6:Nat) (ac3:Ch) ,Rw Kd.string H F n3 a1.j9→a1.j9.length≤n4→b6 j7 44 H s4 u5 k9 u7→C7=k9.length→b6 k5 47 H z8 z6 o4 ac3→J1=o4.length→B0.j3 a1 r6 r7 k9 o4=some r→b8 C56 (S56 F H0 c9 r) H0 w0 [.c [1,1,1,1,1,0],.c [1,1,1,1,1,1]] [(0,pg c9 0),(3,pg g1 0),(4,pg g2 0)] H ((some (g2,.cells #[.bool false,.slice none 0 0,.slice none 0 0] 54 (0,0)))::(some (g1,.cells #[iv a1.Kind,iv a1.At,.string a1.b7,.slice n3 a1.j9.length n4,.string a1.Key,iv a1.j4] 50 (0,0)))::(some (c9,.cells #[iv r6,iv r7,.slice s4 C7 u5,.slice z8 J1 z6] 25 (0,0)))::u7::ac3::F):=by
 intro H c9 a1 n3 n4 g1 g2 r6 r7 k9 s4 C7 u5 u7 o4 z8 J1 z6 ac3 u9 y6 D3 W9 J4 ai9 heq
 subst W9
 subst ai9
 unfold B0.j3 at heq
 refine Sa 0<|Zd 1<|An 3 ?_
 exact Gt 0 [] (((B0.bv0 (S2:=B0.S2) (B0.bY3)) n8) _ _ a1 _ _ _ _ r6 r7 k9 _ _ _ o4 _ _ _ 0 u9 y6 D3 J4 heq)
theorem B0.ca8 {r:k6 × Cache} (j3:k7→Int→Int→(List Blob)→(List Entry)→Option (k6 × Cache))
  (hj3:∀ (H:Hp) (c9:Nat) (a1:k7) (n3:Option Addr) (n4 g1 g2:Nat) (r6 r7:Int) (k9:List Blob) (s4:Option Addr) (C7 u5:Nat) (u7:Ch) (o4:List Entry) (z8:Option Addr) (J1 z6:Nat) (ac3:Ch) ,Rw Kd.string H F n3 a1.j9→a1.j9.length≤n4→b6 j7 44 H s4 u5 k9 u7→C7=k9.length→b6 k5 47 H z8 z6 o4 ac3→J1=o4.length→j3 a1 r6 r7 k9 o4=some r→b8 C56 (S56 F H0 c9 r) H0 w0 [.c [1,1,1,1,1,0],.c [1,1,1,1,1,1]] [(0,pg c9 0),(3,pg g1 0),(4,pg g2 0)] H ((some (g2,.cells #[.bool false,.slice none 0 0,.slice none 0 0] 54 (0,0)))::(some (g1,.cells #[iv a1.Kind,iv a1.At,.string a1.b7,.slice n3 a1.j9.length n4,.string a1.Key,iv a1.j4] 50 (0,0)))::(some (c9,.cells #[iv r6,iv r7,.slice s4 C7 u5,.slice z8 J1 z6] 25 (0,0)))::u7::ac3::F)):∀ (H:Hp) (c9:Nat) (a1:k7) (n3:Option Addr) (n4 g1 g2:Nat) (r6 r7:Int) (k9:List Blob) (s4:Option Addr) (u5:Nat) (u7:Ch) (o4:List Entry) (z8:Option Addr) (z6:Nat) (ac3:Ch) (ac8:Int) ,Rw Kd.string H F n3 a1.j9→a1.j9.length≤n4→b6 j7 44 H s4 u5 k9 u7→b6 k5 47 H z8 z6 o4 ac3→B0.W8 j3 a1 r6 r7 k9 o4 ac8=some r→b8 C56 (S56 F H0 c9 r) H0 w0 [.c [1,1,1,1,0,1,0,1,1],.c [1,1,1,1,1]] [(0,pg c9 0),(3,pg g1 0),(4,pg g2 0),(8,iv ac8)] H ((some (g2,.cells #[.bool false,.slice none 0 0,.slice none 0 0] 54 (0,0)))::(some (g1,.cells #[iv a1.Kind,iv a1.At,.string a1.b7,.slice n3 a1.j9.length n4,.string a1.Key,iv a1.j4] 50 (0,0)))::(some (c9,.cells #[iv r6,iv r7,.slice s4 k9.length u5,.slice z8 o4.length z6] 25 (0,0)))::u7::ac3::F):=by
 intro H c9 a1 n3 n4 g1 g2 r6 r7 k9 s4 u5 u7 o4 z8 z6 ac3 ac8 u9 y6 D3 J4 heq
 unfold B0.W8 at heq
 refine Sa 0<|Zk 2<|Ug 5 [2,3,4,0,1] ?_
 obtain ⟨y3,hy3,heq⟩:=bind_some heq
 refine c6.e5 (o9 88 (cb2 (a0:=(⟨r6,r7,k9,o4⟩:Cache)) hy3 D3 rfl J4 rfl)) ?_
 rintro _ _ _ _ ⟨_,rfl,af6,c7,S3,A8,an2,ae6,rfl,rfl,rfl,aA2,aA3⟩
 refine Dn<|An 1 ?_
 exact Gt 5 [3,4,0,1,2] (hj3 _ _ a1 _ _ _ _ y3.Room y3.c4 y3.U _ _ _ _ y3.Entries _ _ _ _ u9 y6 aA2 rfl aA3 rfl heq)
theorem B0.cC6 {r:k6 × Cache} (bm5:k7→Int→Int→(List Blob)→(List Entry)→Int→Int→Option (k6 × Cache))
  (ds8:∀ (H:Hp) (c9:Nat) (a1:k7) (n3:Option Addr) (n4 g1 g2:Nat) (r6 r7:Int) (k9:List Blob) (s4:Option Addr) (u5:Nat) (u7:Ch) (o4:List Entry) (z8:Option Addr) (z6:Nat) (ac3:Ch) (ac8 y5:Int) ,Rw Kd.string H F n3 a1.j9→a1.j9.length≤n4→b6 j7 44 H s4 u5 k9 u7→b6 k5 47 H z8 z6 o4 ac3→bm5 a1 r6 r7 k9 o4 ac8 y5=some r→b8 C56 (S56 F H0 c9 r) H0 w0 [.c [1,1,1,1,0,1,0,1,0,1,0,0],.l [1,1,1,1,0,1,0,1,0,1,0,0],.b 2,.c [1,1,1,1,0,1,0,1,1],.c [1,1,1,1,1]] [(0,pg c9 0),(3,pg g1 0),(4,pg g2 0),(8,iv ac8),(9,iv y5)] H ((some (g2,.cells #[.bool false,.slice none 0 0,.slice none 0 0] 54 (0,0)))::(some (g1,.cells #[iv a1.Kind,iv a1.At,.string a1.b7,.slice n3 a1.j9.length n4,.string a1.Key,iv a1.j4] 50 (0,0)))::(some (c9,.cells #[iv r6,iv r7,.slice s4 k9.length u5,.slice z8 o4.length z6] 25 (0,0)))::u7::ac3::F)):∀ (H:Hp) (c9:Nat) (a1:k7) (n3:Option Addr) (n4 g1 g2:Nat) (r6 r7:Int) (k9:List Blob) (s4:Option Addr) (u5:Nat) (u7:Ch) (o4:List Entry) (z8:Option Addr) (z6:Nat) (ac3:Ch) (y5 ac8:Int) ,Rw Kd.string H F n3 a1.j9→a1.j9.length≤n4→b6 j7 44 H s4 u5 k9 u7→b6 k5 47 H z8 z6 o4 ac3→B0.j8 bm5 a1 r6 r7 k9 o4 y5 ac8=some r→b8 C56 (S56 F H0 c9 r) H0 w0 [.c [1,1,1,1,0,1,0,1,0,1,0,0,1,1],.l [1,1,1,1,0,1,0,1,0,1,0,0],.b 2,.c [1,1,1,1,0,1,0,1,1],.c [1,1,1,1,1]] [(0,pg c9 0),(3,pg g1 0),(4,pg g2 0),(8,iv ac8),(9,iv y5)] H ((some (g2,.cells #[.bool false,.slice none 0 0,.slice none 0 0] 54 (0,0)))::(some (g1,.cells #[iv a1.Kind,iv a1.At,.string a1.b7,.slice n3 a1.j9.length n4,.string a1.Key,iv a1.j4] 50 (0,0)))::(some (c9,.cells #[iv r6,iv r7,.slice s4 k9.length u5,.slice z8 o4.length z6] 25 (0,0)))::u7::ac3::F):=by
 intro H c9 a1 n3 n4 g1 g2 r6 r7 k9 s4 u5 u7 o4 z8 z6 ac3 y5 ac8 u9 y6 D3 J4 heq
 unfold B0.j8 at heq
 refine Sa 0<|Zd 3<|An 1 ?_
 exact Gt 0 [] (ds8 _ _ a1 _ _ _ _ r6 r7 k9 _ _ _ o4 _ _ _ ac8 (c5 (y5+1)) u9 y6 D3 J4 heq)
theorem B0.ca9 {r:k6 × Cache} (W8:k7→Int→Int→(List Blob)→(List Entry)→Int→Option (k6 × Cache))
  (he6:∀ (H:Hp) (c9:Nat) (a1:k7) (n3:Option Addr) (n4 g1 g2:Nat) (r6 r7:Int) (k9:List Blob) (s4:Option Addr) (u5:Nat) (u7:Ch) (o4:List Entry) (z8:Option Addr) (z6:Nat) (ac3:Ch) (ac8:Int) ,Rw Kd.string H F n3 a1.j9→a1.j9.length≤n4→b6 j7 44 H s4 u5 k9 u7→b6 k5 47 H z8 z6 o4 ac3→W8 a1 r6 r7 k9 o4 ac8=some r→b8 C56 (S56 F H0 c9 r) H0 w0 [.c [1,1,1,1,0,1,0,1,1],.c [1,1,1,1,1]] [(0,pg c9 0),(3,pg g1 0),(4,pg g2 0),(8,iv ac8)] H ((some (g2,.cells #[.bool false,.slice none 0 0,.slice none 0 0] 54 (0,0)))::(some (g1,.cells #[iv a1.Kind,iv a1.At,.string a1.b7,.slice n3 a1.j9.length n4,.string a1.Key,iv a1.j4] 50 (0,0)))::(some (c9,.cells #[iv r6,iv r7,.slice s4 k9.length u5,.slice z8 o4.length z6] 25 (0,0)))::u7::ac3::F)):∀ (k:Nat),∀ (H:Hp) (c9:Nat) (a1:k7) (n3:Option Addr) (n4 g1 g2:Nat) (r6 r7:Int) (k9:List Blob) (s4:Option Addr) (u5:Nat) (u7:Ch) (o4:List Entry) (z8:Option Addr) (z6:Nat) (ac3:Ch) (ac8 y5:Int) ,Rw Kd.string H F n3 a1.j9→a1.j9.length≤n4→b6 j7 44 H s4 u5 k9 u7→b6 k5 47 H z8 z6 o4 ac3→B0.l7 W8 k a1 r6 r7 k9 o4 ac8 y5=some r→b8 C56 (S56 F H0 c9 r) H0 w0 [.c [1,1,1,1,0,1,0,1,0,1,0,0],.l [1,1,1,1,0,1,0,1,0,1,0,0],.b 2,.c [1,1,1,1,0,1,0,1,1],.c [1,1,1,1,1]] [(0,pg c9 0),(3,pg g1 0),(4,pg g2 0),(8,iv ac8),(9,iv y5)] H ((some (g2,.cells #[.bool false,.slice none 0 0,.slice none 0 0] 54 (0,0)))::(some (g1,.cells #[iv a1.Kind,iv a1.At,.string a1.b7,.slice n3 a1.j9.length n4,.string a1.Key,iv a1.j4] 50 (0,0)))::(some (c9,.cells #[iv r6,iv r7,.slice s4 k9.length u5,.slice z8 o4.length z6] 25 (0,0)))::u7::ac3::F):=by
 intro k
 induction k with
 | zero=>intro H c9 a1 n3 n4 g1 g2 r6 r7 k9 s4 u5 u7 o4 z8 z6 ac3 ac8 y5 u9 y6 D3 J4 heq; exact nomatch (show (none:Option (k6 × Cache))=some r from heq)
 | succ k u0 =>
  intro H c9 a1 n3 n4 g1 g2 r6 r7 k9 s4 u5 u7 o4 z8 z6 ac3 ac8 y5 u9 y6 D3 J4 heq
  rw [B0.l7] at heq
  refine Sa 2<|Zw 7 [bx 2 3] ?_
  refine Cb heq ?_ ?_
  ·intro F2 heq
   refine An 4<|Sd 0 17 [] [3,3,3,3,3,3,3,3,3,3,3,3,3,3,3,3,3] ?_
   obtain ⟨x2,w6,heq⟩:=bind_some heq
   obtain ⟨J2,T7,I8,J7⟩:=J4.get w6
   obtain ⟨an3,an4,rfl,hc3,hr3⟩:=Y7 I8
   obtain ⟨x3,K8,heq⟩:=bind_some heq
   obtain ⟨W1,ae3,Q4,ad7⟩:=J4.get K8
   obtain ⟨A10,c10,rfl,hc4,hr4⟩:=Y7 Q4
   refine Zr [0,1,2,3,4,5,6,7,8,9,10,11,12,13,14,15,16] 0 [bx 2 3,nx J2 w6,el J7 4 2,bx 2 3,nx W1 K8,el ad7 4 2] (Pk 5 [0,1,2,3,4]) (Pk 5 [0,1,2,3,4]) ?_
   refine o5.done (by kernel_rfl) ?_
   refine Cb heq ?_ ?_
   ·intro M4 heq
    refine Sa 0<|Zd 2<|An 1 ?_
    exact Gt 0 [] ((B0.cC6 (bm5:=(B0.l7 W8 k)) u0) _ _ a1 _ _ _ _ r6 r7 k9 _ _ _ o4 _ _ _ y5 y5 u9 y6 D3 J4 heq)
   ·intro M4 heq
    refine An 2 ?_
    exact Gt 0 [] ((B0.cC6 (bm5:=(B0.l7 W8 k)) u0) _ _ a1 _ _ _ _ r6 r7 k9 _ _ _ o4 _ _ _ y5 ac8 u9 y6 D3 J4 heq)
  ·intro F2 heq
   refine An 1 ?_
   exact Gt 0 [] (he6 _ _ a1 _ _ _ _ r6 r7 k9 _ _ _ o4 _ _ _ ac8 u9 y6 D3 J4 heq)
theorem B0.aY2 {r:k6 × Cache}:∀ (H:Hp) (c9:Nat) (a1:k7) (n3:Option Addr) (n4 g1 g2:Nat) (r6 r7:Int) (k9:List Blob) (s4:Option Addr) (C7 u5:Nat) (u7:Ch) (o4:List Entry) (z8:Option Addr) (J1 z6:Nat) (ac3:Ch) ,Rw Kd.string H F n3 a1.j9→a1.j9.length≤n4→b6 j7 44 H s4 u5 k9 u7→C7=k9.length→b6 k5 47 H z8 z6 o4 ac3→J1=o4.length→B0.j2 a1 r6 r7 k9 o4=some r→b8 C56 (S56 F H0 c9 r) H0 w0 [.c [1,1,1,1,0,0],.c [1,1,1,1,0,1],.c [1,1,1,1,1]] [(0,pg c9 0),(3,pg g1 0),(4,pg g2 0)] H ((some (g2,.cells #[.bool false,.slice none 0 0,.slice none 0 0] 54 (0,0)))::(some (g1,.cells #[iv a1.Kind,iv a1.At,.string a1.b7,.slice n3 a1.j9.length n4,.string a1.Key,iv a1.j4] 50 (0,0)))::(some (c9,.cells #[iv r6,iv r7,.slice s4 C7 u5,.slice z8 J1 z6] 25 (0,0)))::u7::ac3::F):=by
 intro H c9 a1 n3 n4 g1 g2 r6 r7 k9 s4 C7 u5 u7 o4 z8 J1 z6 ac3 u9 y6 D3 W9 J4 ai9 heq
 subst W9
 subst ai9
 unfold B0.j2 at heq
 refine Sa 0<|Zw 6 [bx 2 3] ?_
 refine Cb heq ?_ ?_
 ·intro B3 heq
  refine Sa 1<|Zd 1<|Sa 2<|Zd 1<|An 2 ?_
  exact Gt 0 [] (((B0.ca9 (W8:=B0.W8 B0.j3) (B0.ca8 (j3:=B0.j3) (B0.ai7))) n8) _ _ a1 _ _ _ _ r6 r7 k9 _ _ _ o4 _ _ _ 0 0 u9 y6 D3 J4 heq)
 ·intro B3 heq
  refine An 2 ?_
  exact Gt 0 [] ((B0.ai7) _ _ a1 _ _ _ _ r6 r7 k9 _ _ _ _ o4 _ _ _ _ u9 y6 D3 rfl J4 rfl heq)
theorem B0.D7 {r:k6 × Cache}:∀ (H:Hp) (c9:Nat) (a0:Cache) (e3:Option Addr) (e4:Nat) (p5:Ch) (a1:k7) (n3:Option Addr) (n4 g1 g2:Nat) (k9:List Blob) (s4:Option Addr) (C7 u5:Nat) (u7:Ch) ,b6 k5 47 H e3 e4 a0.Entries p5→Rw Kd.string H F n3 a1.j9→a1.j9.length≤n4→b6 j7 44 H s4 u5 k9 u7→C7=k9.length→B0.e1 a0 a1 k9=some r→b8 C56 (S56 F H0 c9 r) H0 w0 [.c [1,1,1,0,0],.c [1,1,1,0,1],.c [1,1,1,1]] [(0,pg c9 0),(3,pg g1 0),(4,pg g2 0)] H ((some (g2,.cells #[.bool false,.slice none 0 0,.slice none 0 0] 54 (0,0)))::(some (g1,.cells #[iv a1.Kind,iv a1.At,.string a1.b7,.slice n3 a1.j9.length n4,.string a1.Key,iv a1.j4] 50 (0,0)))::(some (c9,.cells #[iv a0.Room,iv a0.c4,.slice s4 C7 u5,.slice e3 a0.Entries.length e4] 25 (0,0)))::u7::p5::F):=by
 intro H c9 a0 e3 e4 p5 a1 n3 n4 g1 g2 k9 s4 C7 u5 u7 p9 u9 y6 D3 W9 heq
 subst W9
 unfold B0.e1 at heq
 refine Sa 0<|Zv 3 [bx 1 4] ?_
 obtain ⟨y2,hy2,heq⟩:=bind_some heq
 refine c6.e5 (o9 47 (cC4 (a0:=(⟨a0.Room,a0.c4,k9,a0.Entries⟩:Cache)) hy2 (D3.rw (.tail _ (.tail _ (.tail _ (.head _))))) D3.cap rfl (p9.rw (.tail _ (.tail _ (.tail _ (.tail _ (.head _)))))) p9.cap rfl (.inr (.tail _ (.tail _ (.head _)))))) ?_
 rintro _ _ _ _ ⟨_,rfl,rfl,rfl,rfl⟩
 refine Zd 5<|Sa 1<|Zd 2 ?_
 refine Cb heq ?_ ?_
 ·intro M5 heq
  refine Sa 0<|Zk 2<|Ug 5 [2,3,4,0,1] ?_
  obtain ⟨y4,hy4,heq⟩:=bind_some heq
  refine c6.e5 (o9 52 (cb2 (a0:=(⟨a0.Room,a0.c4,k9,a0.Entries⟩:Cache)) hy4 D3 rfl p9 rfl)) ?_
  rintro _ _ _ _ ⟨_,rfl,A11,c11,aj0,A12,c12,af7,rfl,rfl,rfl,aF4,aF5⟩
  refine Dn<|An 2 ?_
  exact Gt 5 [3,4,0,1,2] ((B0.aY2) _ _ a1 _ _ _ _ y4.Room y4.c4 y4.U _ _ _ _ y4.Entries _ _ _ _ u9 y6 aF4 rfl aF5 rfl heq)
 ·intro M5 heq
  refine An 3 ?_
  exact Gt 0 [] ((B0.aY2) _ _ a1 _ _ _ _ a0.Room a0.c4 k9 _ _ _ _ a0.Entries _ _ _ _ u9 y6 D3 rfl p9 rfl heq)
theorem B0.ds9 {r:k6 × Cache} (e1:Cache→k7→(List Blob)→Option (k6 × Cache))
  (D4:∀ (H:Hp) (c9:Nat) (a0:Cache) (e3:Option Addr) (e4:Nat) (p5:Ch) (a1:k7) (n3:Option Addr) (n4 g1 g2:Nat) (k9:List Blob) (s4:Option Addr) (C7 u5:Nat) (u7:Ch) ,b6 k5 47 H e3 e4 a0.Entries p5→Rw Kd.string H F n3 a1.j9→a1.j9.length≤n4→b6 j7 44 H s4 u5 k9 u7→C7=k9.length→e1 a0 a1 k9=some r→b8 C56 (S56 F H0 c9 r) H0 w0 [.c [1,1,1,0,0],.c [1,1,1,0,1],.c [1,1,1,1]] [(0,pg c9 0),(3,pg g1 0),(4,pg g2 0)] H ((some (g2,.cells #[.bool false,.slice none 0 0,.slice none 0 0] 54 (0,0)))::(some (g1,.cells #[iv a1.Kind,iv a1.At,.string a1.b7,.slice n3 a1.j9.length n4,.string a1.Key,iv a1.j4] 50 (0,0)))::(some (c9,.cells #[iv a0.Room,iv a0.c4,.slice s4 C7 u5,.slice e3 a0.Entries.length e4] 25 (0,0)))::u7::p5::F)):∀ (k:Nat),∀ (H:Hp) (c9:Nat) (a0:Cache) (e3:Option Addr) (e4:Nat) (p5:Ch) (a1:k7) (n3:Option Addr) (n4 g1 g2:Nat) (k9:List Blob) (s4:Option Addr) (C7 u5:Nat) (u7:Ch) (D1:Int) ,b6 k5 47 H e3 e4 a0.Entries p5→Rw Kd.string H F n3 a1.j9→a1.j9.length≤n4→b6 j7 44 H s4 u5 k9 u7→C7=k9.length→B0.l9 e1 k a0 a1 k9 D1=some r→b8 C56 (S56 F H0 c9 r) H0 w0 [.c [1,1,0,1,0,0],.l [1,1,0,1,0,0],.b 0,.c [1,1,1]] [(0,pg c9 0),(3,pg g1 0),(4,pg g2 0),(6,iv D1)] H ((some (g2,.cells #[.bool false,.slice none 0 0,.slice none 0 0] 54 (0,0)))::(some (g1,.cells #[iv a1.Kind,iv a1.At,.string a1.b7,.slice n3 a1.j9.length n4,.string a1.Key,iv a1.j4] 50 (0,0)))::(some (c9,.cells #[iv a0.Room,iv a0.c4,.slice s4 C7 u5,.slice e3 a0.Entries.length e4] 25 (0,0)))::u7::p5::F):=by
 intro k
 induction k with
 | zero=>intro H c9 a0 e3 e4 p5 a1 n3 n4 g1 g2 k9 s4 C7 u5 u7 D1 p9 u9 y6 D3 W9 heq; exact nomatch (show (none:Option (k6 × Cache))=some r from heq)
 | succ k u0 =>
  intro H c9 a0 e3 e4 p5 a1 n3 n4 g1 g2 k9 s4 C7 u5 u7 D1 p9 u9 y6 D3 W9 heq
  subst W9
  rw [B0.l9] at heq
  refine Sa 2<|Zw 5 [bx 1 3] ?_
  refine Cb heq ?_ ?_
  ·intro Y0 heq
   refine An 3<|Sd 0 16 [] [3,3,3,3,3,3,3,3,3,3,0,3,3,0,3,2] ?_
   obtain ⟨C2,V1,heq⟩:=bind_some heq
   obtain ⟨ha4,af1,hK4,af9⟩:=u9.get V1
   obtain rfl:af1=[.string C2]:=hK4
   refine Zr [0,1,2,3,4,5,6,7,8,9,11,12] 4 [bx 2 2,bx 1 3,nx ha4 V1,er af9 5 0,bx 1 1] (Pk 5 [0,1,2,3,4]) (Pk 5 [0,1,2,3,4]) ?_
   obtain ⟨A0,hy5,heq⟩:=bind_some heq
   refine Dz 10 (o9 39 (aU3 (a0:=(⟨a0.Room,a0.c4,k9,a0.Entries⟩:Cache)) hy5 (D3.rw (.tail _ (.tail _ (.tail _ (.head _))))) D3.cap rfl (p9.rw (.tail _ (.tail _ (.tail _ (.tail _ (.head _)))))) p9.cap rfl (.inr (.tail _ (.tail _ (.head _)))))) ?_
   rintro _ _ _ _ ⟨_,rfl,rfl,rfl,rfl⟩
   refine ⟨fun _ w hh=>⟨fun _=>(Pk 5 [0,1,2,3,4]) w hh,fun _=>(Pk 5 [0,1,2,3,4]) w hh,(fun h=>by cases h)⟩,?_⟩
   obtain ⟨J5,hx5,heq⟩:=bind_some heq
   obtain ⟨ha5,ah1,hK5,aC6⟩:=D3.get hx5
   obtain ⟨rfl⟩:=C6 hK5
   refine Dz 13 (j6.aw6 (d:=42) (v:=.pointer (some ((H8 s4).add (A0.toNat*5)))) (vs:=[]) (G8:=[.need (s4=some (H8 s4)∧(0:Int)≤A0∧A0<((k9.length:Nat):Int))]) (by kernel_rfl) (fun w hh=>⟨ha5,(aa2 hx5).1,(aa2 hx5).2.1⟩)) ?_
   rintro _ _ _ _ ⟨rfl,rfl,rfl⟩
   refine ⟨fun _ w hh=>⟨fun _=>(Pk 5 [0,1,2,3,4]) w hh,fun _=>(Pk 5 [0,1,2,3,4]) w hh,(fun h=>by cases h)⟩,?_⟩
   refine Zr [14] 1 [] (Pk 5 [0,1,2,3,4]) (Pk 5 [0,1,2,3,4]) ?_
   obtain ⟨ha6,ai0,hK6,ar4⟩:=D3.get hx5
   obtain ⟨rfl⟩:=C6 hK6
   refine Dz 15 (j6.ab7 (a:=(((H8 s4).add (A0.toNat*5)).add 2)) (k:=3) (kd:=j7) (c0:=[.string J5.b7,iv J5.j4,iv J5.Used,iv J5.u6,iv J5.q4]) (x':=(⟨J5.b7,J5.j4,a1.At,J5.u6,J5.q4⟩:Blob)) (o:=2) (ix:=A0) (v:=iv a1.At) (by kernel_rfl) rfl D3 hx5 (by kernel_rfl) ar4 rfl (Nat.le_of_ble_eq_true (by kernel_rfl)) af8) ?_
   rintro _ _ _ _ ⟨bl7,rfl,rfl,rfl,aU1⟩
   have hn9:k9.length=(k9.set A0.toNat (⟨J5.b7,J5.j4,a1.At,J5.u6,J5.q4⟩:Blob)).length:=by rw [List.length_set]
   refine ⟨fun _ w hh=>⟨(fun h=>by cases h),(fun h=>absurd h (by decide)),(fun h=>by cases h)⟩,?_⟩
   refine o5.p6 ?_
   refine o5.done (by kernel_rfl) ?_
   refine Sa 1<|Zd 3<|An 1 ?_
   exact Gt 0 [] (u0 _ _ a0 _ _ _ a1 _ _ _ _ (k9.set A0.toNat (⟨J5.b7,J5.j4,a1.At,J5.u6,J5.q4⟩:Blob)) _ _ _ _ (c5 (D1+1)) p9 u9 y6 aU1 hn9 heq)
  ·intro Y0 heq
   refine An 3 ?_
   exact Gt 0 [] (D4 _ _ a0 _ _ _ a1 _ _ _ _ k9 _ _ _ _ p9 u9 y6 D3 rfl heq)
theorem dt1 {c9:Nat} {a0:Cache} {e6:Option Addr} {q2 e8:Nat} {s8:Ch} {e3:Option Addr} {p7 e4:Nat} {p5:Ch} {a1:k7} {n3:Option Addr} {J3 n4:Nat} {r:k6 × Cache} (heq:B0.f a0 a1=some r) (q6:b6 j7 44 H0 e6 e8 a0.U s8) (B9:q2=a0.U.length) (p9:b6 k5 47 H0 e3 e4 a0.Entries p5) (B4:p7=a0.Entries.length) (u9:Rw Kd.string H0 F n3 a1.j9) (y6:J3≤n4) (aa5:J3=a1.j9.length):z7 Tryz.prog 56 #[.pointer (some ⟨c9,0,none⟩),.agg #[iv a1.Kind,iv a1.At,.string a1.b7,.slice n3 J3 n4,.string a1.Key,iv a1.j4]] H0 w0 ((some (c9,.cells #[iv a0.Room,iv a0.c4,.slice e6 q2 e8,.slice e3 p7 e4] 25 (0,0)))::s8::p5::F) (S56 F H0 c9 r):=by
 refine Co C56 Tryz.func56 Tryz.ntmps56 ?_
 subst B9
 subst B4
 subst aa5
 unfold B0.f at heq
 suffices key:∀ (H:Hp),b6 j7 44 H e6 e8 a0.U s8→b6 k5 47 H e3 e4 a0.Entries p5→Rw Kd.string H F n3 a1.j9→b8 C56 (S56 F H0 c9 r) H0 w0 [.c []] (Z3 0 [.pointer (some ⟨c9,0,none⟩),.agg #[iv a1.Kind,iv a1.At,.string a1.b7,.slice n3 (a1.j9.length) n4,.string a1.Key,iv a1.j4]]) H ((some (c9,.cells #[iv a0.Room,iv a0.c4,.slice e6 (a0.U.length) e8,.slice e3 (a0.Entries.length) e4] 25 (0,0)))::s8::p5::F) from key H0 q6 p9 u9
 intro H q6 p9 u9
 refine Sa 1 ?_
 refine c6.e5 (j6.new (d:=3) (v:=fun g=>.pointer (some ⟨g,0,none⟩)) (o:=fun g=>.cells #[iv a1.Kind,iv a1.At,.string a1.b7,.slice n3 a1.j9.length n4,.string a1.Key,iv a1.j4] 50 (0,0)) (fun g=>by kernel_rfl)) ?_
 rintro _ _ _ _ ⟨g1,rfl,rfl,rfl⟩
 refine c6.e5 (j6.new (d:=4) (v:=fun g=>.pointer (some ⟨g,0,none⟩)) (o:=fun g=>.cells #[.bool false,.slice none 0 0,.slice none 0 0] 54 (0,0)) (fun g=>by kernel_rfl)) ?_
 rintro _ _ _ _ ⟨g2,rfl,rfl,rfl⟩
 refine Dn<|Sa 2<|Zv 3 [bx 1 3] ?_
 obtain ⟨y1,hy1,heq⟩:=bind_some heq
 refine c6.e5 (o9 16 (cb1 hy1 (q6.rw (.tail _ (.tail _ (.tail _ (.head _))))) q6.cap rfl (p9.rw (.tail _ (.tail _ (.tail _ (.tail _ (.head _)))))) p9.cap rfl (.inr (.tail _ (.tail _ (.head _)))) (u9.wk (fun _ h=>(.tail _ (.tail _ (.tail _ (.tail _ (.tail _ h))))))) y6 rfl)) ?_
 rintro _ _ _ _ ⟨_,rfl,A1,c1,r9,rfl,rfl,rfl,r8⟩
 refine Zd 5<|Sa 1<|Zd 3 ?_
 refine Cb heq ?_ ?_
 ·intro o8 heq
  refine Sa 1<|Zk 2 ?_
  refine c6.e5 (j6.store (k:=1) (g:=g2) (off:=0) (v:=.agg #[.bool false,.slice A1 y1.length c1,.slice none 0 0]) (cells':=#[.bool false,.slice A1 y1.length c1,.slice none 0 0]) (by kernel_rfl) rfl (by kernel_rfl) (by kernel_rfl)) ?_
  rintro _ _ _ _ ⟨rfl,rfl,rfl⟩
  refine c6.p6 ?_
  refine Dn<|b8.w5 ?_
  have w8:b6 Kd.string 9 H none 0 ([]:List ByteArray) none:=b6.nil
  obtain rfl:=Option.some.inj heq
  refine Up 4 [2,1,0] ?_
  exact b8.I3 1 (vs:=[.agg #[.bool false,.slice A1 y1.length c1,.slice none 0 0]]) (v:=.agg #[.bool false,.slice A1 y1.length c1,.slice none 0 0]) (by kernel_rfl) Tryz.func56 (fun w hh=>show G2 _ _ _ [.cell 4 54] _ from ⟨⟨⟨g2,0,none⟩,by kernel_rfl,F5 _ (vs:=[.bool false,.slice A1 y1.length c1,.slice none 0 0]) (r:=[]) (es:=[.load ⟨g2,0,none⟩ (.bool false),.load ⟨g2,1,none⟩ (.slice A1 y1.length c1),.load ⟨g2,2,none⟩ (.slice none 0 0)]) (by kernel_rfl) ⟨(hh.box 0 rfl rfl),(hh.box 0 rfl rfl),(hh.box 0 rfl rfl)⟩⟩,trivial⟩) rfl (cs':=r9::none::(some (c9,.cells #[iv a0.Room,iv a0.c4,.slice e6 a0.U.length e8,.slice e3 a0.Entries.length e4] 25 (0,0)))::s8::p5::F) rfl ⟨A1,c1,r9,none,0,none,e6,e8,s8,e3,e4,p5,rfl,rfl,r8,w8,q6,p9⟩
 ·intro o8 heq
  refine Sa 3<|Zd 1<|An 2 ?_
  exact Gt 1 [] (((B0.ds9 (e1:=B0.e1) (B0.D7)) n8) _ _ a0 _ _ _ a1 _ _ _ _ a0.U _ _ _ _ 0 p9 u9 y6 q6 rfl heq)
noncomputable def C57:Ctx:={ P:=Tryz.prog,f:=57,N:=72,c:=C1 Tryz.f57 }
def S57 (F:List Ch) (H0:Hp) (c9:Nat) (r:k6 × Cache) (v:Value) (H:Hp) (cs:List Ch):Prop:=∃ (Z8:Option Addr) (Z9:Nat) (aa0:Ch) (E7:Option Addr) (E8:Nat) (F1:Ch) (av6:Option Addr) (av7:Nat) (av8:Ch) (av9:Option Addr) (aw0:Nat) (aw1:Ch),H0=H∧v=.agg #[.bool r.1.x8,.slice Z8 r.1.x5.length Z9,.slice E7 r.1.x4.length E8]∧aa0::F1::some (c9,.cells #[iv r.2.Room,iv r.2.c4,.slice av6 r.2.U.length av7,.slice av9 r.2.Entries.length aw0] 25 (0,0))::av8::aw1::F=cs∧b6 Kd.string 9 H Z8 Z9 r.1.x5 aa0∧b6 Kd.string 9 H E7 E8 r.1.x4 F1∧b6 j7 44 H av6 av7 r.2.U av8∧b6 k5 47 H av9 aw0 r.2.Entries aw1
theorem ah0.D7 {r:k6 × Cache}:∀ (c9 g2:Nat) (r6 r7:Int) (k9:List Blob) (s4:Option Addr) (C7 u5:Nat) (u7:Ch) (o4:List Entry) (z8:Option Addr) (J1 z6:Nat) (ac3:Ch) ,b6 j7 44 H s4 u5 k9 u7→C7=k9.length→b6 k5 47 H z8 z6 o4 ac3→J1=o4.length→ah0.e1 r6 r7 k9 o4=some r→b8 C57 (S57 F H c9 r) H w0 [.c [1,1,1,1,1,1,1,0],.c [1,1,1,1,1,1,1,1]] [(0,pg c9 0),(4,pg g2 0)] H ((some (g2,.cells #[.bool false,.slice none 0 0,.slice none 0 0] 54 (0,0)))::(some (c9,.cells #[iv r6,iv r7,.slice s4 C7 u5,.slice z8 J1 z6] 25 (0,0)))::u7::ac3::F):=by
 intro c9 g2 r6 r7 k9 s4 C7 u5 u7 o4 z8 J1 z6 ac3 D3 W9 J4 ai9 heq
 subst W9
 subst ai9
 unfold ah0.e1 at heq
 refine Sa 0<|Zk 1 ?_
 refine c6.e5 (j6.store (k:=0) (g:=g2) (off:=0) (v:=.agg #[.bool true,.slice none 0 0,.slice none 0 0]) (cells':=#[.bool true,.slice none 0 0,.slice none 0 0]) (by kernel_rfl) rfl (by kernel_rfl) (by kernel_rfl)) ?_
 rintro _ _ _ _ ⟨rfl,rfl,rfl⟩
 refine c6.p6 ?_
 refine Dn<|b8.w5 ?_
 have R5:b6 Kd.string 9 H none 0 ([]:List ByteArray) none:=b6.nil
 refine b8.w5 ?_
 have K4:b6 Kd.string 9 H none 0 ([]:List ByteArray) none:=b6.nil
 obtain rfl:=Option.some.inj heq
 refine Up 3 [2,1,0] ?_
 exact b8.I3 1 (vs:=[.agg #[.bool true,.slice none 0 0,.slice none 0 0]]) (v:=.agg #[.bool true,.slice none 0 0,.slice none 0 0]) (by kernel_rfl) Tryz.func57 (fun w hh=>show G2 _ _ _ [.cell 4 54] _ from ⟨⟨⟨g2,0,none⟩,by kernel_rfl,F5 _ (vs:=[.bool true,.slice none 0 0,.slice none 0 0]) (r:=[]) (es:=[.load ⟨g2,0,none⟩ (.bool true),.load ⟨g2,1,none⟩ (.slice none 0 0),.load ⟨g2,2,none⟩ (.slice none 0 0)]) (by kernel_rfl) ⟨(hh.box 0 rfl rfl),(hh.box 0 rfl rfl),(hh.box 0 rfl rfl)⟩⟩,trivial⟩) rfl (cs':=none::none::(some (c9,.cells #[iv r6,iv r7,.slice s4 k9.length u5,.slice z8 o4.length z6] 25 (0,0)))::u7::ac3::F) rfl ⟨none,0,none,none,0,none,s4,u5,u7,z8,z6,ac3,rfl,rfl,rfl,R5,K4,D3,J4⟩
theorem ah0.F9 {r:k6 × Cache} (e1:Int→Int→(List Blob)→(List Entry)→Option (k6 × Cache))
  (D4:∀ (c9 g2:Nat) (r6 r7:Int) (k9:List Blob) (s4:Option Addr) (C7 u5:Nat) (u7:Ch) (o4:List Entry) (z8:Option Addr) (J1 z6:Nat) (ac3:Ch) ,b6 j7 44 H s4 u5 k9 u7→C7=k9.length→b6 k5 47 H z8 z6 o4 ac3→J1=o4.length→e1 r6 r7 k9 o4=some r→b8 C57 (S57 F H c9 r) H w0 [.c [1,1,1,1,1,1,1,0],.c [1,1,1,1,1,1,1,1]] [(0,pg c9 0),(4,pg g2 0)] H ((some (g2,.cells #[.bool false,.slice none 0 0,.slice none 0 0] 54 (0,0)))::(some (c9,.cells #[iv r6,iv r7,.slice s4 C7 u5,.slice z8 J1 z6] 25 (0,0)))::u7::ac3::F)):∀ (k:Nat),∀ (c9:Nat) (a1:k7) (n3:Option Addr) (n4 g1 g2:Nat) (x1:Entry) (A1:Option Addr) (c1:Nat) (r6 r7:Int) (k9:List Blob) (s4:Option Addr) (C7 u5:Nat) (u7:Ch) (o4:List Entry) (z8:Option Addr) (J1 z6:Nat) (ac3:Ch) (M3:Int) ,Rw Kd.string H F n3 a1.j9→a1.j9.length≤n4→Kd.Row Kd.string H A1 x1.Refs→x1.Refs.length≤c1→b6 j7 44 H s4 u5 k9 u7→C7=k9.length→b6 k5 47 H z8 z6 o4 ac3→J1=o4.length→ah0.l2 e1 k a1 x1 r6 r7 k9 o4 M3=some r→b8 C57 (S57 F H c9 r) H w0 [.c [1,1,1,1,1,1,0,1,0,0],.l [1,1,1,1,1,1,0,1,0,0],.b 0,.c [1,1,1,1,1,1,1]] [(0,pg c9 0),(3,pg g1 0),(4,pg g2 0),(6,.slice A1 x1.Refs.length c1),(8,iv M3)] H ((some (g2,.cells #[.bool false,.slice none 0 0,.slice none 0 0] 54 (0,0)))::(some (g1,.cells #[iv a1.Kind,iv a1.At,.string a1.b7,.slice n3 a1.j9.length n4,.string a1.Key,iv a1.j4] 50 (0,0)))::(some (c9,.cells #[iv r6,iv r7,.slice s4 C7 u5,.slice z8 J1 z6] 25 (0,0)))::u7::ac3::F):=by
 intro k
 induction k with
 | zero=>intro c9 a1 n3 n4 g1 g2 x1 A1 c1 r6 r7 k9 s4 C7 u5 u7 o4 z8 J1 z6 ac3 M3 u9 y6 I0 hc1 D3 W9 J4 ai9 heq; exact nomatch (show (none:Option (k6 × Cache))=some r from heq)
 | succ k u0 =>
  intro c9 a1 n3 n4 g1 g2 x1 A1 c1 r6 r7 k9 s4 C7 u5 u7 o4 z8 J1 z6 ac3 M3 u9 y6 I0 hc1 D3 W9 J4 ai9 heq
  subst W9
  subst ai9
  rw [ah0.l2] at heq
  refine Sa 2<|Zd 4 ?_
  refine Cb heq ?_ ?_
  ·intro x7 heq
   refine Sa 4 ?_
   obtain ⟨x3,K8,heq⟩:=bind_some heq
   obtain ⟨ha4,af1,hK4,af9⟩:=(Rw.of (F:=F) I0).get K8
   obtain rfl:af1=[.string x3]:=hK4
   refine Zv 5 [nx ha4 K8,er af9 5 0] ?_
   obtain ⟨y4,hy4,heq⟩:=bind_some heq
   refine c6.e5 (o9 56 (aU3 (a0:=(⟨r6,r7,k9,o4⟩:Cache)) hy4 (D3.rw (.tail _ (.tail _ (.tail _ (.head _))))) D3.cap rfl (J4.rw (.tail _ (.tail _ (.tail _ (.tail _ (.head _)))))) J4.cap rfl (.inr (.tail _ (.tail _ (.head _)))))) ?_
   rintro _ _ _ _ ⟨_,rfl,rfl,rfl,rfl⟩
   refine Zd 7<|An 1<|Sd 0 10 [] [3,3,3,3,3,3,3,0,3,2]<|Zr [0,1,2,3,4,5,6] 3 [bx 2 2,bx 1 1] (Pk 5 [0,1,2,3,4]) (Pk 5 [0,1,2,3,4]) ?_
   obtain ⟨C2,V1,heq⟩:=bind_some heq
   obtain ⟨ha5,ah1,hK5,aC6⟩:=D3.get V1
   obtain ⟨rfl⟩:=C6 hK5
   refine Dz 7 (j6.aw6 (d:=64) (v:=.pointer (some ((H8 s4).add (y4.toNat*5)))) (vs:=[]) (G8:=[.need (s4=some (H8 s4)∧(0:Int)≤y4∧y4<((k9.length:Nat):Int))]) (by kernel_rfl) (fun w hh=>⟨ha5,(aa2 V1).1,(aa2 V1).2.1⟩)) ?_
   rintro _ _ _ _ ⟨rfl,rfl,rfl⟩
   refine ⟨fun _ w hh=>⟨fun _=>(Pk 5 [0,1,2,3,4]) w hh,fun _=>(Pk 5 [0,1,2,3,4]) w hh,(fun h=>by cases h)⟩,?_⟩
   refine Zr [8] 1 [] (Pk 5 [0,1,2,3,4]) (Pk 5 [0,1,2,3,4]) ?_
   obtain ⟨ha6,ai0,hK6,ar4⟩:=D3.get V1
   obtain ⟨rfl⟩:=C6 hK6
   refine Dz 9 (j6.ab7 (a:=(((H8 s4).add (y4.toNat*5)).add 2)) (k:=3) (kd:=j7) (c0:=[.string C2.b7,iv C2.j4,iv C2.Used,iv C2.u6,iv C2.q4]) (x':=(⟨C2.b7,C2.j4,a1.At,C2.u6,C2.q4⟩:Blob)) (o:=2) (ix:=y4) (v:=iv a1.At) (by kernel_rfl) rfl D3 V1 (by kernel_rfl) ar4 rfl (Nat.le_of_ble_eq_true (by kernel_rfl)) af8) ?_
   rintro _ _ _ _ ⟨O2,rfl,rfl,rfl,N0⟩
   have hn2:k9.length=(k9.set y4.toNat (⟨C2.b7,C2.j4,a1.At,C2.u6,C2.q4⟩:Blob)).length:=by rw [List.length_set]
   refine ⟨fun _ w hh=>⟨(fun h=>by cases h),(fun h=>absurd h (by decide)),(fun h=>by cases h)⟩,?_⟩
   refine o5.p6 ?_
   refine o5.done (by kernel_rfl) ?_
   refine Sa 0<|Zv 4 [bx 1 1]<|Ug 5 [2,3,4,0,1] ?_
   obtain ⟨A0,hy5,heq⟩:=bind_some heq
   refine c6.e5 (o9 70 (bK9 (a0:=(⟨r6,r7,(k9.set y4.toNat (⟨C2.b7,C2.j4,a1.At,C2.u6,C2.q4⟩:Blob)),o4⟩:Cache)) hy5 N0 hn2 J4 rfl)) ?_
   rintro _ _ _ _ ⟨_,rfl,af6,c7,S3,A8,an2,ae6,rfl,rfl,rfl,aa4,ae5⟩
   refine Dn<|Sa 1<|Zd 3<|An 1 ?_
   exact Gt 5 [3,4,0,1,2] (u0 _ a1 _ _ _ _ x1 _ _ A0.Room A0.c4 A0.U _ _ _ _ A0.Entries _ _ _ _ (c5 (M3+1)) u9 y6 I0 hc1 aa4 rfl ae5 rfl heq)
  ·intro x7 heq
   refine An 2 ?_
   exact Gt 2 [0] (D4 _ _ r6 r7 k9 _ _ _ _ o4 _ _ _ _ D3 rfl J4 rfl heq)
theorem dt2 {c9:Nat} {a0:Cache} {e6:Option Addr} {q2 e8:Nat} {s8:Ch} {e3:Option Addr} {p7 e4:Nat} {p5:Ch} {a1:k7} {n3:Option Addr} {J3 n4:Nat} {r:k6 × Cache} (heq:ah0.f a0 a1=some r) (q6:b6 j7 44 H e6 e8 a0.U s8) (B9:q2=a0.U.length) (p9:b6 k5 47 H e3 e4 a0.Entries p5) (B4:p7=a0.Entries.length) (u9:Rw Kd.string H F n3 a1.j9) (y6:J3≤n4) (aa5:J3=a1.j9.length):z7 Tryz.prog 57 #[.pointer (some ⟨c9,0,none⟩),.agg #[iv a1.Kind,iv a1.At,.string a1.b7,.slice n3 J3 n4,.string a1.Key,iv a1.j4]] H w0 ((some (c9,.cells #[iv a0.Room,iv a0.c4,.slice e6 q2 e8,.slice e3 p7 e4] 25 (0,0)))::s8::p5::F) (S57 F H c9 r):=by
 refine Co C57 Tryz.func57 Tryz.ntmps57 ?_
 subst B9
 subst B4
 subst aa5
 unfold ah0.f at heq
 refine Sa 1 ?_
 refine c6.e5 (j6.new (d:=3) (v:=fun g=>.pointer (some ⟨g,0,none⟩)) (o:=fun g=>.cells #[iv a1.Kind,iv a1.At,.string a1.b7,.slice n3 a1.j9.length n4,.string a1.Key,iv a1.j4] 50 (0,0)) (fun g=>by kernel_rfl)) ?_
 rintro _ _ _ _ ⟨g1,rfl,rfl,rfl⟩
 refine c6.e5 (j6.new (d:=4) (v:=fun g=>.pointer (some ⟨g,0,none⟩)) (o:=fun g=>.cells #[.bool false,.slice none 0 0,.slice none 0 0] 54 (0,0)) (fun g=>by kernel_rfl)) ?_
 rintro _ _ _ _ ⟨g2,rfl,rfl,rfl⟩
 refine Dn<|Sa 1<|Zv 3 [bx 1 4] ?_
 obtain ⟨y1,hy1,heq⟩:=bind_some heq
 refine c6.e5 (o9 13 (cC4 hy1 (q6.rw (.tail _ (.tail _ (.tail _ (.head _))))) q6.cap rfl (p9.rw (.tail _ (.tail _ (.tail _ (.tail _ (.head _)))))) p9.cap rfl (.inr (.tail _ (.tail _ (.head _)))))) ?_
 rintro _ _ _ _ ⟨_,rfl,rfl,rfl,rfl⟩
 refine Zd 5<|Sa 2<|Zd 2 ?_
 refine Cb heq ?_ ?_
 ·intro o8 heq
  refine Sa 1<|Zk 1 ?_
  refine c6.e5 (j6.store (k:=0) (g:=g2) (off:=0) (v:=.agg #[.bool false,.slice none 0 0,.slice none 0 0]) (cells':=#[.bool false,.slice none 0 0,.slice none 0 0]) (by kernel_rfl) rfl (by kernel_rfl) (by kernel_rfl)) ?_
  rintro _ _ _ _ ⟨rfl,rfl,rfl⟩
  refine c6.p6 ?_
  refine Dn<|b8.w5 ?_
  have r8:b6 Kd.string 9 H none 0 ([]:List ByteArray) none:=b6.nil
  refine b8.w5 ?_
  have w8:b6 Kd.string 9 H none 0 ([]:List ByteArray) none:=b6.nil
  obtain rfl:=Option.some.inj heq
  refine Up 4 [2,1,0] ?_
  exact b8.I3 1 (vs:=[.agg #[.bool false,.slice none 0 0,.slice none 0 0]]) (v:=.agg #[.bool false,.slice none 0 0,.slice none 0 0]) (by kernel_rfl) Tryz.func57 (fun w hh=>show G2 _ _ _ [.cell 4 54] _ from ⟨⟨⟨g2,0,none⟩,by kernel_rfl,F5 _ (vs:=[.bool false,.slice none 0 0,.slice none 0 0]) (r:=[]) (es:=[.load ⟨g2,0,none⟩ (.bool false),.load ⟨g2,1,none⟩ (.slice none 0 0),.load ⟨g2,2,none⟩ (.slice none 0 0)]) (by kernel_rfl) ⟨(hh.box 0 rfl rfl),(hh.box 0 rfl rfl),(hh.box 0 rfl rfl)⟩⟩,trivial⟩) rfl (cs':=none::none::(some (c9,.cells #[iv a0.Room,iv a0.c4,.slice e6 a0.U.length e8,.slice e3 a0.Entries.length e4] 25 (0,0)))::s8::p5::F) rfl ⟨none,0,none,none,0,none,e6,e8,s8,e3,e4,p5,rfl,rfl,rfl,r8,w8,q6,p9⟩
 ·intro o8 heq
  refine Sa 2 ?_
  obtain ⟨x1,hx1,heq⟩:=bind_some heq
  obtain ⟨A7,I1,B1,B2⟩:=p9.get hx1
  obtain ⟨A1,c1,rfl,hc1,I0⟩:=Y7 B1
  refine Zw 9 [bx 2 3,nx A7 hx1,el B2 4 1]<|Sa 2<|Zk 2 ?_
  obtain ⟨y2,hy2,heq⟩:=bind_some heq
  refine c6.e5 (o9 27 (cb1 hy2 (q6.rw (.tail _ (.tail _ (.tail _ (.head _))))) q6.cap rfl (p9.rw (.tail _ (.tail _ (.tail _ (.tail _ (.head _)))))) p9.cap rfl (.inr (.tail _ (.tail _ (.head _)))) (Rw.of I0) hc1 rfl)) ?_
  rintro _ _ _ _ ⟨_,rfl,aa3,c2,r9,rfl,rfl,rfl,w4⟩
  refine Zd 4<|Sa 1<|Zd 3 ?_
  refine Cb heq ?_ ?_
  ·intro s3 heq
   refine Sa 1<|Zk 2<|Ug 6 [3,4,5,0,1,2] ?_
   obtain ⟨y3,hy3,heq⟩:=bind_some heq
   refine c6.e5 (o9 33 (cb2 hy3 q6 rfl p9 rfl)) ?_
   rintro _ _ _ _ ⟨_,rfl,aa8,c3,B5,aa9,y8,E6,rfl,rfl,rfl,C9,H7⟩
   refine Dn<|Sa 1<|Zk 2 ?_
   refine c6.e5 (j6.store (k:=4) (g:=g2) (off:=0) (v:=.agg #[.bool false,.slice aa3 y2.length c2,.slice none 0 0]) (cells':=#[.bool false,.slice aa3 y2.length c2,.slice none 0 0]) (by kernel_rfl) rfl (by kernel_rfl) (by kernel_rfl)) ?_
   rintro _ _ _ _ ⟨rfl,rfl,rfl⟩
   refine c6.p6 ?_
   refine Dn<|b8.w5 ?_
   have O4:b6 Kd.string 9 H none 0 ([]:List ByteArray) none:=b6.nil
   obtain rfl:=Option.some.inj heq
   refine Up 7 [5,4,0,1,2,3] ?_
   exact b8.I3 1 (vs:=[.agg #[.bool false,.slice aa3 y2.length c2,.slice none 0 0]]) (v:=.agg #[.bool false,.slice aa3 y2.length c2,.slice none 0 0]) (by kernel_rfl) Tryz.func57 (fun w hh=>show G2 _ _ _ [.cell 4 54] _ from ⟨⟨⟨g2,0,none⟩,by kernel_rfl,F5 _ (vs:=[.bool false,.slice aa3 y2.length c2,.slice none 0 0]) (r:=[]) (es:=[.load ⟨g2,0,none⟩ (.bool false),.load ⟨g2,1,none⟩ (.slice aa3 y2.length c2),.load ⟨g2,2,none⟩ (.slice none 0 0)]) (by kernel_rfl) ⟨(hh.box 0 rfl rfl),(hh.box 0 rfl rfl),(hh.box 0 rfl rfl)⟩⟩,trivial⟩) rfl (cs':=r9::none::(some (c9,.cells #[iv y3.Room,iv y3.c4,.slice aa8 y3.U.length c3,.slice aa9 y3.Entries.length y8] 25 (0,0)))::B5::E6::F) rfl ⟨aa3,c2,r9,none,0,none,aa8,c3,B5,aa9,y8,E6,rfl,rfl,rfl,w4,O4,C9,H7⟩
  ·intro s3 heq
   refine An 2<|Sd 0 10 [] [3,3,3,3,3,3,3,0,3,2]<|Zr [0,1,2,3,4,5,6] 3 [bx 3 3,bx 2 1] (Pk 6 [0,1,2,3,4,5]) (Pk 6 [0,1,2,3,4,5]) ?_
   obtain ⟨x2,w6,heq⟩:=bind_some heq
   obtain ⟨J2,T7,I8,J7⟩:=p9.get w6
   obtain ⟨G3,G4,rfl,N9,hr2⟩:=Y7 I8
   refine Dz 7 (j6.aw6 (d:=43) (v:=.pointer (some ((H8 e3).add (y1.toNat*3)))) (vs:=[]) (G8:=[.need (e3=some (H8 e3)∧(0:Int)≤y1∧y1<((a0.Entries.length:Nat):Int))]) (by kernel_rfl) (fun w hh=>⟨J2,(aa2 w6).1,(aa2 w6).2.1⟩)) ?_
   rintro _ _ _ _ ⟨rfl,rfl,rfl⟩
   refine ⟨fun _ w hh=>⟨fun _=>(Pk 6 [0,1,2,3,4,5]) w hh,fun _=>(Pk 6 [0,1,2,3,4,5]) w hh,(fun h=>by cases h)⟩,?_⟩
   refine Zr [8] 1 [] (Pk 6 [0,1,2,3,4,5]) (Pk 6 [0,1,2,3,4,5]) ?_
   obtain ⟨W1,ae3,Q4,ad7⟩:=p9.get w6
   obtain ⟨X6,X7,rfl,hc3,hr3⟩:=Y7 Q4
   refine Dz 9 (j6.ab7 (a:=(((H8 e3).add (y1.toNat*3)).add 2)) (k:=5) (kd:=k5) (c0:=[.string x2.Key,.slice X6 x2.Refs.length X7,iv x2.Used]) (x':=(⟨x2.Key,x2.Refs,a1.At⟩:Entry)) (o:=2) (ix:=y1) (v:=iv a1.At) (by kernel_rfl) rfl p9 w6 (by kernel_rfl) ad7 rfl (Nat.le_of_ble_eq_true (by kernel_rfl)) (aT4 hc3 hr3)) ?_
   rintro _ _ _ _ ⟨G6,rfl,rfl,rfl,O3⟩
   have C4:a0.Entries.length=(a0.Entries.set y1.toNat (⟨x2.Key,x2.Refs,a1.At⟩:Entry)).length:=by rw [List.length_set]
   refine ⟨fun _ w hh=>⟨(fun h=>by cases h),(fun h=>absurd h (by decide)),(fun h=>by cases h)⟩,?_⟩
   refine o5.p6 ?_
   refine o5.done (by kernel_rfl) ?_
   refine Sa 2<|Zd 1<|An 2 ?_
   exact Gt 1 [] (((ah0.F9 (e1:=ah0.e1) (ah0.D7)) n8) _ a1 _ _ _ _ x1 _ _ a0.Room a0.c4 a0.U _ _ _ _ (a0.Entries.set y1.toNat (⟨x2.Key,x2.Refs,a1.At⟩:Entry)) _ _ _ _ 0 u9 y6 I0 hc1 q6 rfl O3 C4 heq)
noncomputable def C58:Ctx:={ P:=Tryz.prog,f:=58,N:=76,c:=C1 Tryz.f58 }
def S58 (F:List Ch) (H0:Hp) (c9:Nat) (r:k6 × Cache) (v:Value) (H:Hp) (cs:List Ch):Prop:=∃ (Z8:Option Addr) (Z9:Nat) (aa0:Ch) (E7:Option Addr) (E8:Nat) (F1:Ch) (av6:Option Addr) (av7:Nat) (av8:Ch) (av9:Option Addr) (aw0:Nat) (aw1:Ch),H0=H∧v=.agg #[.bool r.1.x8,.slice Z8 r.1.x5.length Z9,.slice E7 r.1.x4.length E8]∧aa0::F1::some (c9,.cells #[iv r.2.Room,iv r.2.c4,.slice av6 r.2.U.length av7,.slice av9 r.2.Entries.length aw0] 25 (0,0))::av8::aw1::F=cs∧b6 Kd.string 9 H Z8 Z9 r.1.x5 aa0∧b6 Kd.string 9 H E7 E8 r.1.x4 F1∧b6 j7 44 H av6 av7 r.2.U av8∧b6 k5 47 H av9 aw0 r.2.Entries aw1
theorem as8.ad6 {r:k6 × Cache}:∀ (c9 g2:Nat) (r6 r7:Int) (k9:List Blob) (s4:Option Addr) (C7 u5:Nat) (u7:Ch) (o4:List Entry) (z8:Option Addr) (J1 z6:Nat) (ac3:Ch) ,b6 j7 44 H s4 u5 k9 u7→C7=k9.length→b6 k5 47 H z8 z6 o4 ac3→J1=o4.length→as8.j1 r6 r7 k9 o4=some r→b8 C58 (S58 F H c9 r) H w0 [.c [1,1,1,1,1,0],.c [1,1,1,1,1,1]] [(0,pg c9 0),(4,pg g2 0)] H ((some (g2,.cells #[.bool false,.slice none 0 0,.slice none 0 0] 54 (0,0)))::(some (c9,.cells #[iv r6,iv r7,.slice s4 C7 u5,.slice z8 J1 z6] 25 (0,0)))::u7::ac3::F):=by
 intro c9 g2 r6 r7 k9 s4 C7 u5 u7 o4 z8 J1 z6 ac3 D3 W9 J4 ai9 heq
 subst W9
 subst ai9
 unfold as8.j1 at heq
 refine Sa 0<|Zk 1 ?_
 refine c6.e5 (j6.store (k:=0) (g:=g2) (off:=0) (v:=.agg #[.bool true,.slice none 0 0,.slice none 0 0]) (cells':=#[.bool true,.slice none 0 0,.slice none 0 0]) (by kernel_rfl) rfl (by kernel_rfl) (by kernel_rfl)) ?_
 rintro _ _ _ _ ⟨rfl,rfl,rfl⟩
 refine c6.p6 ?_
 refine Dn<|b8.w5 ?_
 have w4:b6 Kd.string 9 H none 0 ([]:List ByteArray) none:=b6.nil
 refine b8.w5 ?_
 have C9:b6 Kd.string 9 H none 0 ([]:List ByteArray) none:=b6.nil
 obtain rfl:=Option.some.inj heq
 refine Up 3 [2,1,0] ?_
 exact b8.I3 1 (vs:=[.agg #[.bool true,.slice none 0 0,.slice none 0 0]]) (v:=.agg #[.bool true,.slice none 0 0,.slice none 0 0]) (by kernel_rfl) Tryz.func58 (fun w hh=>show G2 _ _ _ [.cell 4 54] _ from ⟨⟨⟨g2,0,none⟩,by kernel_rfl,F5 _ (vs:=[.bool true,.slice none 0 0,.slice none 0 0]) (r:=[]) (es:=[.load ⟨g2,0,none⟩ (.bool true),.load ⟨g2,1,none⟩ (.slice none 0 0),.load ⟨g2,2,none⟩ (.slice none 0 0)]) (by kernel_rfl) ⟨(hh.box 0 rfl rfl),(hh.box 0 rfl rfl),(hh.box 0 rfl rfl)⟩⟩,trivial⟩) rfl (cs':=none::none::(some (c9,.cells #[iv r6,iv r7,.slice s4 k9.length u5,.slice z8 o4.length z6] 25 (0,0)))::u7::ac3::F) rfl ⟨none,0,none,none,0,none,s4,u5,u7,z8,z6,ac3,rfl,rfl,rfl,w4,C9,D3,J4⟩
theorem dt3 {c9:Nat} {a0:Cache} {e6:Option Addr} {q2 e8:Nat} {s8:Ch} {e3:Option Addr} {p7 e4:Nat} {p5:Ch} {a1:k7} {n3:Option Addr} {J3 n4:Nat} {r:k6 × Cache} (heq:as8.f a0 a1=some r) (q6:b6 j7 44 H e6 e8 a0.U s8) (B9:q2=a0.U.length) (p9:b6 k5 47 H e3 e4 a0.Entries p5) (B4:p7=a0.Entries.length) (u9:Rw Kd.string H F n3 a1.j9) (y6:J3≤n4) (aa5:J3=a1.j9.length):z7 Tryz.prog 58 #[.pointer (some ⟨c9,0,none⟩),.agg #[iv a1.Kind,iv a1.At,.string a1.b7,.slice n3 J3 n4,.string a1.Key,iv a1.j4]] H w0 ((some (c9,.cells #[iv a0.Room,iv a0.c4,.slice e6 q2 e8,.slice e3 p7 e4] 25 (0,0)))::s8::p5::F) (S58 F H c9 r):=by
 refine Co C58 Tryz.func58 Tryz.ntmps58 ?_
 subst B9
 subst B4
 subst aa5
 unfold as8.f at heq
 refine Sa 1 ?_
 refine c6.e5 (j6.new (d:=3) (v:=fun g=>.pointer (some ⟨g,0,none⟩)) (o:=fun g=>.cells #[iv a1.Kind,iv a1.At,.string a1.b7,.slice n3 a1.j9.length n4,.string a1.Key,iv a1.j4] 50 (0,0)) (fun g=>by kernel_rfl)) ?_
 rintro _ _ _ _ ⟨g1,rfl,rfl,rfl⟩
 refine c6.e5 (j6.new (d:=4) (v:=fun g=>.pointer (some ⟨g,0,none⟩)) (o:=fun g=>.cells #[.bool false,.slice none 0 0,.slice none 0 0] 54 (0,0)) (fun g=>by kernel_rfl)) ?_
 rintro _ _ _ _ ⟨g2,rfl,rfl,rfl⟩
 refine Dn<|Sa 1<|Zv 3 [bx 1 2] ?_
 obtain ⟨y1,hy1,heq⟩:=bind_some heq
 refine c6.e5 (o9 10 (aU3 hy1 (q6.rw (.tail _ (.tail _ (.tail _ (.head _))))) q6.cap rfl (p9.rw (.tail _ (.tail _ (.tail _ (.tail _ (.head _)))))) p9.cap rfl (.inr (.tail _ (.tail _ (.head _)))))) ?_
 rintro _ _ _ _ ⟨_,rfl,rfl,rfl,rfl⟩
 refine Zd 5<|Sa 2<|Zd 2 ?_
 refine Cb heq ?_ ?_
 ·intro o8 heq
  refine Sa 1<|Zk 1 ?_
  refine c6.e5 (j6.store (k:=0) (g:=g2) (off:=0) (v:=.agg #[.bool false,.slice none 0 0,.slice none 0 0]) (cells':=#[.bool false,.slice none 0 0,.slice none 0 0]) (by kernel_rfl) rfl (by kernel_rfl) (by kernel_rfl)) ?_
  rintro _ _ _ _ ⟨rfl,rfl,rfl⟩
  refine c6.p6 ?_
  refine Dn<|b8.w5 ?_
  have r8:b6 Kd.string 9 H none 0 ([]:List ByteArray) none:=b6.nil
  refine b8.w5 ?_
  have w8:b6 Kd.string 9 H none 0 ([]:List ByteArray) none:=b6.nil
  obtain rfl:=Option.some.inj heq
  refine Up 4 [2,1,0] ?_
  exact b8.I3 1 (vs:=[.agg #[.bool false,.slice none 0 0,.slice none 0 0]]) (v:=.agg #[.bool false,.slice none 0 0,.slice none 0 0]) (by kernel_rfl) Tryz.func58 (fun w hh=>show G2 _ _ _ [.cell 4 54] _ from ⟨⟨⟨g2,0,none⟩,by kernel_rfl,F5 _ (vs:=[.bool false,.slice none 0 0,.slice none 0 0]) (r:=[]) (es:=[.load ⟨g2,0,none⟩ (.bool false),.load ⟨g2,1,none⟩ (.slice none 0 0),.load ⟨g2,2,none⟩ (.slice none 0 0)]) (by kernel_rfl) ⟨(hh.box 0 rfl rfl),(hh.box 0 rfl rfl),(hh.box 0 rfl rfl)⟩⟩,trivial⟩) rfl (cs':=none::none::(some (c9,.cells #[iv a0.Room,iv a0.c4,.slice e6 a0.U.length e8,.slice e3 a0.Entries.length e4] 25 (0,0)))::s8::p5::F) rfl ⟨none,0,none,none,0,none,e6,e8,s8,e3,e4,p5,rfl,rfl,rfl,r8,w8,q6,p9⟩
 ·intro o8 heq
  refine Sa 2 ?_
  obtain ⟨x1,hx1,heq⟩:=bind_some heq
  obtain ⟨A7,I1,B1,B2⟩:=q6.get hx1
  obtain ⟨rfl⟩:=C6 B1
  refine Zw 7 [bx 2 2,nx A7 hx1]<|Sa 2<|Zw 2 [bx 1 0]<|Sa 2<|Zd 2 ?_
  refine Cb heq ?_ ?_
  ·intro s3 heq
   refine Sa 1<|Zv 5 [bx 1 1] ?_
   obtain ⟨x2,w6,heq⟩:=bind_some heq
   obtain ⟨J2,T7,I8,J7⟩:=q6.get w6
   obtain ⟨rfl⟩:=C6 I8
   refine c6.e5 (j6.ab7 (a:=(((H8 e6).add (y1.toNat*5)).add 2)) (k:=3) (kd:=j7) (c0:=[.string x2.b7,iv x2.j4,iv x2.Used,iv x2.u6,iv x2.q4]) (x':=(⟨x2.b7,x2.j4,a1.At,x2.u6,x2.q4⟩:Blob)) (o:=2) (ix:=y1) (v:=iv a1.At) (by kernel_rfl) rfl q6 w6 (by kernel_rfl) J7 rfl (Nat.le_of_ble_eq_true (by kernel_rfl)) af8) ?_
   rintro _ _ _ _ ⟨r9,rfl,rfl,rfl,H7⟩
   have C4:a0.U.length=(a0.U.set y1.toNat (⟨x2.b7,x2.j4,a1.At,x2.u6,x2.q4⟩:Blob)).length:=by rw [List.length_set]
   refine c6.p6 ?_
   refine Dn<|Sa 0<|Zv 4 [bx 1 1]<|Ug 5 [2,3,4,0,1] ?_
   obtain ⟨y2,hy2,heq⟩:=bind_some heq
   refine c6.e5 (o9 33 (bK9 (a0:=(⟨a0.Room,a0.c4,(a0.U.set y1.toNat (⟨x2.b7,x2.j4,a1.At,x2.u6,x2.q4⟩:Blob)),a0.Entries⟩:Cache)) hy2 H7 C4 p9 rfl)) ?_
   rintro _ _ _ _ ⟨_,rfl,A1,c1,B5,aa3,c2,E6,rfl,rfl,rfl,O4,O3⟩
   refine Dn<|An 2 ?_
   exact Gt 5 [3,0,1,2] ((as8.ad6) _ _ y2.Room y2.c4 y2.U _ _ _ _ y2.Entries _ _ _ _ O4 rfl O3 rfl heq)
  ·intro s3 heq
   refine Sa 1<|Zd 2 ?_
   refine Cb heq ?_ ?_
   ·intro x7 heq
    refine Sa 0 ?_
    obtain ⟨x3,K8,heq⟩:=bind_some heq
    obtain ⟨W1,ae3,Q4,ad7⟩:=q6.get K8
    obtain ⟨rfl⟩:=C6 Q4
    refine Zv 7 [el ad7 3 4] ?_
    obtain ⟨ha4,af1,hK4,af9⟩:=q6.get K8
    obtain ⟨rfl⟩:=C6 hK4
    refine c6.e5 (j6.ab7 (a:=(((H8 e6).add (y1.toNat*5)).add 4)) (k:=3) (kd:=j7) (c0:=[.string x3.b7,iv x3.j4,iv x3.Used,iv x3.u6,iv x3.q4]) (x':=(⟨x3.b7,x3.j4,x3.Used,x3.u6,c5 (x3.q4+1)⟩:Blob)) (o:=4) (ix:=y1) (v:=iv (c5 (x3.q4+1))) (by kernel_rfl) rfl q6 K8 (by kernel_rfl) af9 rfl (Nat.le_of_ble_eq_true (by kernel_rfl)) af8) ?_
    rintro _ _ _ _ ⟨G6,rfl,rfl,rfl,R5⟩
    have hn2:a0.U.length=(a0.U.set y1.toNat (⟨x3.b7,x3.j4,x3.Used,x3.u6,c5 (x3.q4+1)⟩:Blob)).length:=by rw [List.length_set]
    refine c6.p6 ?_
    refine Dn<|An 2 ?_
    exact Gt 2 [0] ((as8.ad6) _ _ a0.Room a0.c4 (a0.U.set y1.toNat (⟨x3.b7,x3.j4,x3.Used,x3.u6,c5 (x3.q4+1)⟩:Blob)) _ _ _ _ a0.Entries _ _ _ _ R5 hn2 p9 rfl heq)
   ·intro x7 heq
    refine Sa 1<|Zd 2 ?_
    refine Cb heq ?_ ?_
    ·intro B3 heq
     refine Sa 2 ?_
     obtain ⟨C2,V1,heq⟩:=bind_some heq
     obtain ⟨ha5,ah1,hK5,aC6⟩:=q6.get V1
     obtain ⟨rfl⟩:=C6 hK5
     refine Zw 5 [el aC6 3 4] ?_
     refine Cb heq ?_ ?_
     ·intro F2 heq
      refine Sa 1<|Zk 1 ?_
      refine c6.e5 (j6.store (k:=0) (g:=g2) (off:=0) (v:=.agg #[.bool false,.slice none 0 0,.slice none 0 0]) (cells':=#[.bool false,.slice none 0 0,.slice none 0 0]) (by kernel_rfl) rfl (by kernel_rfl) (by kernel_rfl)) ?_
      rintro _ _ _ _ ⟨rfl,rfl,rfl⟩
      refine c6.p6 ?_
      refine Dn<|b8.w5 ?_
      have K4:b6 Kd.string 9 H none 0 ([]:List ByteArray) none:=b6.nil
      refine b8.w5 ?_
      have N0:b6 Kd.string 9 H none 0 ([]:List ByteArray) none:=b6.nil
      obtain rfl:=Option.some.inj heq
      refine Up 4 [2,1,0] ?_
      exact b8.I3 1 (vs:=[.agg #[.bool false,.slice none 0 0,.slice none 0 0]]) (v:=.agg #[.bool false,.slice none 0 0,.slice none 0 0]) (by kernel_rfl) Tryz.func58 (fun w hh=>show G2 _ _ _ [.cell 4 54] _ from ⟨⟨⟨g2,0,none⟩,by kernel_rfl,F5 _ (vs:=[.bool false,.slice none 0 0,.slice none 0 0]) (r:=[]) (es:=[.load ⟨g2,0,none⟩ (.bool false),.load ⟨g2,1,none⟩ (.slice none 0 0),.load ⟨g2,2,none⟩ (.slice none 0 0)]) (by kernel_rfl) ⟨(hh.box 0 rfl rfl),(hh.box 0 rfl rfl),(hh.box 0 rfl rfl)⟩⟩,trivial⟩) rfl (cs':=none::none::(some (c9,.cells #[iv a0.Room,iv a0.c4,.slice e6 a0.U.length e8,.slice e3 a0.Entries.length e4] 25 (0,0)))::s8::p5::F) rfl ⟨none,0,none,none,0,none,e6,e8,s8,e3,e4,p5,rfl,rfl,rfl,K4,N0,q6,p9⟩
     ·intro F2 heq
      refine Sa 1 ?_
      obtain ⟨J5,hx5,heq⟩:=bind_some heq
      obtain ⟨ha6,ai0,hK6,ar4⟩:=q6.get hx5
      obtain ⟨rfl⟩:=C6 hK6
      refine Zv 7 [el ar4 3 4] ?_
      obtain ⟨ha7,aj9,hK7,bk9⟩:=q6.get hx5
      obtain ⟨rfl⟩:=C6 hK7
      refine c6.e5 (j6.ab7 (a:=(((H8 e6).add (y1.toNat*5)).add 4)) (k:=3) (kd:=j7) (c0:=[.string J5.b7,iv J5.j4,iv J5.Used,iv J5.u6,iv J5.q4]) (x':=(⟨J5.b7,J5.j4,J5.Used,J5.u6,c5 (J5.q4 - 1)⟩:Blob)) (o:=4) (ix:=y1) (v:=iv (c5 (J5.q4 - 1))) (by kernel_rfl) rfl q6 hx5 (by kernel_rfl) bk9 rfl (Nat.le_of_ble_eq_true (by kernel_rfl)) af8) ?_
      rintro _ _ _ _ ⟨O2,rfl,rfl,rfl,aa4⟩
      have S9:a0.U.length=(a0.U.set y1.toNat (⟨J5.b7,J5.j4,J5.Used,J5.u6,c5 (J5.q4 - 1)⟩:Blob)).length:=by rw [List.length_set]
      refine c6.p6 ?_
      refine Dn<|An 2 ?_
      exact Gt 2 [0] ((as8.ad6) _ _ a0.Room a0.c4 (a0.U.set y1.toNat (⟨J5.b7,J5.j4,J5.Used,J5.u6,c5 (J5.q4 - 1)⟩:Blob)) _ _ _ _ a0.Entries _ _ _ _ aa4 S9 p9 rfl heq)
    ·intro B3 heq
     refine Sa 1<|Zd 2 ?_
     refine Cb heq ?_ ?_
     ·intro M4 heq
      refine An 2<|Sd 0 6 [] [3,3,3,3,3,0] ?_
      obtain ⟨x6,hx6,heq⟩:=bind_some heq
      obtain ⟨ha8,ak1,hK8,be2⟩:=q6.get hx6
      obtain ⟨rfl⟩:=C6 hK8
      refine Zr [0,1,2,3,4] 1 (els be2 3++[bx 1 1]) (Pk 5 [0,1,2,3,4]) (Pk 5 [0,1,2,3,4]) ?_
      obtain ⟨y3,hy3,heq⟩:=bind_some heq
      refine Dz 5 (o9 65 (ca6 hy3 )) ?_
      rintro _ _ _ _ ⟨_,rfl,rfl,rfl,rfl⟩
      refine ⟨fun _ w hh=>⟨fun _=>(Pk 5 [0,1,2,3,4]) w hh,fun _=>(Pk 5 [0,1,2,3,4]) w hh,(fun h=>by cases h)⟩,?_⟩
      refine o5.done (by kernel_rfl) ?_
      refine Cb heq ?_ ?_
      ·intro M5 heq
       refine Sa 1<|Zk 1 ?_
       refine c6.e5 (j6.store (k:=0) (g:=g2) (off:=0) (v:=.agg #[.bool false,.slice none 0 0,.slice none 0 0]) (cells':=#[.bool false,.slice none 0 0,.slice none 0 0]) (by kernel_rfl) rfl (by kernel_rfl) (by kernel_rfl)) ?_
       rintro _ _ _ _ ⟨rfl,rfl,rfl⟩
       refine c6.p6 ?_
       refine Dn<|b8.w5 ?_
       have ae5:b6 Kd.string 9 H none 0 ([]:List ByteArray) none:=b6.nil
       refine b8.w5 ?_
       have ar7:b6 Kd.string 9 H none 0 ([]:List ByteArray) none:=b6.nil
       obtain rfl:=Option.some.inj heq
       refine Up 4 [2,1,0] ?_
       exact b8.I3 1 (vs:=[.agg #[.bool false,.slice none 0 0,.slice none 0 0]]) (v:=.agg #[.bool false,.slice none 0 0,.slice none 0 0]) (by kernel_rfl) Tryz.func58 (fun w hh=>show G2 _ _ _ [.cell 4 54] _ from ⟨⟨⟨g2,0,none⟩,by kernel_rfl,F5 _ (vs:=[.bool false,.slice none 0 0,.slice none 0 0]) (r:=[]) (es:=[.load ⟨g2,0,none⟩ (.bool false),.load ⟨g2,1,none⟩ (.slice none 0 0),.load ⟨g2,2,none⟩ (.slice none 0 0)]) (by kernel_rfl) ⟨(hh.box 0 rfl rfl),(hh.box 0 rfl rfl),(hh.box 0 rfl rfl)⟩⟩,trivial⟩) rfl (cs':=none::none::(some (c9,.cells #[iv a0.Room,iv a0.c4,.slice e6 a0.U.length e8,.slice e3 a0.Entries.length e4] 25 (0,0)))::s8::p5::F) rfl ⟨none,0,none,none,0,none,e6,e8,s8,e3,e4,p5,rfl,rfl,rfl,ae5,ar7,q6,p9⟩
      ·intro M5 heq
       refine Sa 2<|Zv 3 [bx 1 2]<|Ug 5 [2,3,4,0,1] ?_
       obtain ⟨y4,hy4,heq⟩:=bind_some heq
       refine c6.e5 (o9 70 (cC1 hy4 q6 rfl p9 rfl)) ?_
       rintro _ _ _ _ ⟨_,rfl,aa8,c3,S3,aa9,y8,ae6,rfl,rfl,rfl,aA2,aA3⟩
       refine Dn<|Sa 1<|Zv 2 [bx 4 2] ?_
       refine c6.e5 (j6.new (d:=73) (v:=fun g=>.slice (some ⟨g,0,none⟩) 1 1) (o:=fun g=>.cells #[.string a1.b7] 9 (0,0)) (fun g=>by kernel_rfl)) ?_
       rintro _ _ _ _ ⟨g3,rfl,rfl,rfl⟩
       have aF4:b6 Kd.string 9 H (some ⟨g3,0,none⟩) 1 ([a1.b7]:List ByteArray) (some (g3,.cells #[.string a1.b7] 9 (0,0))):=b6.lit (xs:=([a1.b7]:List ByteArray)) (by kernel_rfl) (Nat.le_of_ble_eq_true (by kernel_rfl)) (Kd.q9.scalars rfl)
       refine Zk 4 ?_
       refine c6.e5 (j6.store (k:=4) (g:=g2) (off:=0) (v:=.agg #[.bool true,.slice none 0 0,.slice (some ⟨g3,0,none⟩) 1 1]) (cells':=#[.bool true,.slice none 0 0,.slice (some ⟨g3,0,none⟩) 1 1]) (by kernel_rfl) rfl (by kernel_rfl) (by kernel_rfl)) ?_
       rintro _ _ _ _ ⟨rfl,rfl,rfl⟩
       refine c6.p6 ?_
       refine Dn<|b8.w5 ?_
       have aF5:b6 Kd.string 9 H none 0 ([]:List ByteArray) none:=b6.nil
       obtain rfl:=Option.some.inj heq
       refine Up 7 [5,0,1,2,3,4] ?_
       exact b8.I3 1 (vs:=[.agg #[.bool true,.slice none 0 0,.slice (some ⟨g3,0,none⟩) 1 1]]) (v:=.agg #[.bool true,.slice none 0 0,.slice (some ⟨g3,0,none⟩) 1 1]) (by kernel_rfl) Tryz.func58 (fun w hh=>show G2 _ _ _ [.cell 4 54] _ from ⟨⟨⟨g2,0,none⟩,by kernel_rfl,F5 _ (vs:=[.bool true,.slice none 0 0,.slice (some ⟨g3,0,none⟩) 1 1]) (r:=[]) (es:=[.load ⟨g2,0,none⟩ (.bool true),.load ⟨g2,1,none⟩ (.slice none 0 0),.load ⟨g2,2,none⟩ (.slice (some ⟨g3,0,none⟩) 1 1)]) (by kernel_rfl) ⟨(hh.box 0 rfl rfl),(hh.box 0 rfl rfl),(hh.box 0 rfl rfl)⟩⟩,trivial⟩) rfl (cs':=none::(some (g3,.cells #[.string a1.b7] 9 (0,0)))::(some (c9,.cells #[iv y4.Room,iv y4.c4,.slice aa8 y4.U.length c3,.slice aa9 y4.Entries.length y8] 25 (0,0)))::S3::ae6::F) rfl ⟨none,0,none,some ⟨g3,0,none⟩,1,(some (g3,.cells #[.string a1.b7] 9 (0,0))),aa8,c3,S3,aa9,y8,ae6,rfl,rfl,rfl,aF5,aF4,aA2,aA3⟩
     ·intro M4 heq
      refine An 3 ?_
      exact Gt 2 [0] ((as8.ad6) _ _ a0.Room a0.c4 a0.U _ _ _ _ a0.Entries _ _ _ _ q6 rfl p9 rfl heq)
noncomputable def C32:Ctx:={ P:=Tryz.prog,f:=32,N:=41,c:=C1 Tryz.f32 }
def S32 (F:List Ch) (H0:Hp) (c9:Nat) (r:k6 × Int × Cache) (v:Value) (H:Hp) (cs:List Ch):Prop:=∃ (Z8:Option Addr) (Z9:Nat) (aa0:Ch) (E7:Option Addr) (E8:Nat) (F1:Ch) (ap5:Option Addr) (ap6:Nat) (ap7:Ch) (ap8:Option Addr) (ap9:Nat) (aq0:Ch),v=.tuple #[.agg #[.bool r.1.x8,.slice Z8 r.1.x5.length Z9,.slice E7 r.1.x4.length E8],iv r.2.1]∧aa0::F1::some (c9,.cells #[iv r.2.2.Room,iv r.2.2.c4,.slice ap5 r.2.2.U.length ap6,.slice ap8 r.2.2.Entries.length ap9] 25 (0,0))::ap7::aq0::F=cs∧b6 Kd.string 9 H Z8 Z9 r.1.x5 aa0∧b6 Kd.string 9 H E7 E8 r.1.x4 F1∧b6 j7 44 H ap5 ap6 r.2.2.U ap7∧b6 k5 47 H ap8 ap9 r.2.2.Entries aq0
theorem dt4 {c9:Nat} {a0:Cache} {e6:Option Addr} {q2 e8:Nat} {s8:Ch} {e3:Option Addr} {p7 e4:Nat} {p5:Ch} {a1:k7} {n3:Option Addr} {J3 n4:Nat} {r:k6 × Int × Cache} (heq:bi6.f a0 a1=some r) (q6:b6 j7 44 H0 e6 e8 a0.U s8) (B9:q2=a0.U.length) (p9:b6 k5 47 H0 e3 e4 a0.Entries p5) (B4:p7=a0.Entries.length) (u9:Rw Kd.string H0 F n3 a1.j9) (y6:J3≤n4) (aa5:J3=a1.j9.length):z7 Tryz.prog 32 #[.pointer (some ⟨c9,0,none⟩),.agg #[iv a1.Kind,iv a1.At,.string a1.b7,.slice n3 J3 n4,.string a1.Key,iv a1.j4]] H0 w0 ((some (c9,.cells #[iv a0.Room,iv a0.c4,.slice e6 q2 e8,.slice e3 p7 e4] 25 (0,0)))::s8::p5::F) (S32 F H0 c9 r):=by
 refine Co C32 Tryz.func32 Tryz.ntmps32 ?_
 subst B9
 subst B4
 subst aa5
 unfold bi6.f at heq
 suffices key:∀ (H:Hp),b6 j7 44 H e6 e8 a0.U s8→b6 k5 47 H e3 e4 a0.Entries p5→Rw Kd.string H F n3 a1.j9→b8 C32 (S32 F H0 c9 r) H0 w0 [.c []] (Z3 0 [.pointer (some ⟨c9,0,none⟩),.agg #[iv a1.Kind,iv a1.At,.string a1.b7,.slice n3 (a1.j9.length) n4,.string a1.Key,iv a1.j4]]) H ((some (c9,.cells #[iv a0.Room,iv a0.c4,.slice e6 (a0.U.length) e8,.slice e3 (a0.Entries.length) e4] 25 (0,0)))::s8::p5::F) from key H0 q6 p9 u9
 intro H q6 p9 u9
 refine Sa 1 ?_
 refine c6.e5 (j6.new (d:=3) (v:=fun g=>.pointer (some ⟨g,0,none⟩)) (o:=fun g=>.cells #[iv a1.Kind,iv a1.At,.string a1.b7,.slice n3 a1.j9.length n4,.string a1.Key,iv a1.j4] 50 (0,0)) (fun g=>by kernel_rfl)) ?_
 rintro _ _ _ _ ⟨g1,rfl,rfl,rfl⟩
 refine c6.e5 (j6.new (d:=4) (v:=fun g=>.pointer (some ⟨g,0,none⟩)) (o:=fun g=>.cells #[.bool false,.slice none 0 0,.slice none 0 0] 54 (0,0)) (fun g=>by kernel_rfl)) ?_
 rintro _ _ _ _ ⟨g2,rfl,rfl,rfl⟩
 refine Zd 3<|Sa 2<|Zv 2 (C8 1) ?_
 obtain ⟨y1,hy1,heq⟩:=bind_some heq
 refine c6.e5 (o9 9 (dr5 hy1 (q6.rw (.tail _ (.tail _ (.tail _ (.head _))))) q6.cap rfl (p9.rw (.tail _ (.tail _ (.tail _ (.tail _ (.head _)))))) p9.cap rfl (.inr (.tail _ (.tail _ (.head _)))) (u9.wk (fun _ h=>(.tail _ (.tail _ (.tail _ (.tail _ (.tail _ h))))))) y6 rfl)) ?_
 rintro _ _ _ _ ⟨_,rfl,rfl,rfl,rfl⟩
 refine Zd 4<|Sa 1<|Zd 2 ?_
 refine Cb heq ?_ ?_
 ·intro o8 heq
  refine Sa 1<|Zk 2 ?_
  refine c6.e5 (j6.store (k:=0) (g:=g2) (off:=0) (v:=.agg #[.bool false,.slice none 0 0,.slice none 0 0]) (cells':=#[.bool false,.slice none 0 0,.slice none 0 0]) (by kernel_rfl) rfl (by kernel_rfl) (by kernel_rfl)) ?_
  rintro _ _ _ _ ⟨rfl,rfl,rfl⟩
  refine c6.p6 ?_
  refine Zd 4<|b8.w5 ?_
  have r8:b6 Kd.string 9 H none 0 ([]:List ByteArray) none:=b6.nil
  refine b8.w5 ?_
  have w8:b6 Kd.string 9 H none 0 ([]:List ByteArray) none:=b6.nil
  obtain rfl:=Option.some.inj heq
  refine Up 4 [2,1,0] ?_
  exact b8.I3 1 (vs:=[.agg #[.bool false,.slice none 0 0,.slice none 0 0],iv y1]) (v:=.tuple #[.agg #[.bool false,.slice none 0 0,.slice none 0 0],iv y1]) (by kernel_rfl) Tryz.func32 (fun w hh=>show G2 _ _ _ [.cell 4 54,.tmp 5] _ from ⟨⟨⟨g2,0,none⟩,by kernel_rfl,F5 _ (vs:=[.bool false,.slice none 0 0,.slice none 0 0]) (r:=[]) (es:=[.load ⟨g2,0,none⟩ (.bool false),.load ⟨g2,1,none⟩ (.slice none 0 0),.load ⟨g2,2,none⟩ (.slice none 0 0)]) (by kernel_rfl) ⟨(hh.box 0 rfl rfl),(hh.box 0 rfl rfl),(hh.box 0 rfl rfl)⟩⟩,(show lk _ _=some _ by kernel_rfl),trivial⟩) rfl (cs':=none::none::(some (c9,.cells #[iv a0.Room,iv a0.c4,.slice e6 a0.U.length e8,.slice e3 a0.Entries.length e4] 25 (0,0)))::s8::p5::F) rfl ⟨none,0,none,none,0,none,e6,e8,s8,e3,e4,p5,rfl,rfl,r8,w8,q6,p9⟩
 ·intro o8 heq
  refine Sa 3<|Zw 2 [bx 1 0]<|Sa 2<|Zd 2 ?_
  refine Cb heq ?_ ?_
  ·intro s3 heq
   refine Sa 1<|Zv 2 (C8 1)<|Ug 5 [2,3,4,0,1] ?_
   obtain ⟨y2,hy2,heq⟩:=bind_some heq
   refine c6.e5 (o9 20 (ds3 hy2 q6 rfl p9 rfl (u9.wk (fun _ h=>(.tail _ (.tail _ h)))) y6 rfl)) ?_
   rintro _ _ _ _ ⟨_,rfl,A1,c1,r9,aa3,c2,B5,aa8,c3,E6,aa9,y8,G6,rfl,rfl,rfl,w4,C9,H7,O4⟩
   refine Zk 5 ?_
   refine c6.e5 (j6.store (k:=5) (g:=g2) (off:=0) (v:=.agg #[.bool y2.1.x8,.slice A1 y2.1.x5.length c1,.slice aa3 y2.1.x4.length c2]) (cells':=#[.bool y2.1.x8,.slice A1 y2.1.x5.length c1,.slice aa3 y2.1.x4.length c2]) (by kernel_rfl) rfl (by kernel_rfl) (by kernel_rfl)) ?_
   rintro _ _ _ _ ⟨rfl,rfl,rfl⟩
   refine c6.p6 ?_
   refine Zd 7 ?_
   obtain rfl:=Option.some.inj heq
   refine Up 7 [5,0,1,2,3,4] ?_
   exact b8.I3 1 (vs:=[.agg #[.bool y2.1.x8,.slice A1 y2.1.x5.length c1,.slice aa3 y2.1.x4.length c2],iv y2.2.1]) (v:=.tuple #[.agg #[.bool y2.1.x8,.slice A1 y2.1.x5.length c1,.slice aa3 y2.1.x4.length c2],iv y2.2.1]) (by kernel_rfl) Tryz.func32 (fun w hh=>show G2 _ _ _ [.cell 4 54,.tmp 5] _ from ⟨⟨⟨g2,0,none⟩,by kernel_rfl,F5 _ (vs:=[.bool y2.1.x8,.slice A1 y2.1.x5.length c1,.slice aa3 y2.1.x4.length c2]) (r:=[]) (es:=[.load ⟨g2,0,none⟩ (.bool y2.1.x8),.load ⟨g2,1,none⟩ (.slice A1 y2.1.x5.length c1),.load ⟨g2,2,none⟩ (.slice aa3 y2.1.x4.length c2)]) (by kernel_rfl) ⟨(hh.box 0 rfl rfl),(hh.box 0 rfl rfl),(hh.box 0 rfl rfl)⟩⟩,(show lk _ _=some _ by kernel_rfl),trivial⟩) rfl (cs':=r9::B5::(some (c9,.cells #[iv y2.2.2.Room,iv y2.2.2.c4,.slice aa8 y2.2.2.U.length c3,.slice aa9 y2.2.2.Entries.length y8] 25 (0,0)))::E6::G6::F) rfl ⟨A1,c1,r9,aa3,c2,B5,aa8,c3,E6,aa9,y8,G6,rfl,rfl,w4,C9,H7,O4⟩
  ·intro s3 heq
   refine Sa 1<|Zd 2 ?_
   refine Cb heq ?_ ?_
   ·intro x7 heq
    refine Sa 1<|Zv 2 (C8 1)<|Ug 5 [2,3,4,0,1] ?_
    obtain ⟨y3,hy3,heq⟩:=bind_some heq
    refine c6.e5 (o9 27 (ds4 hy3 q6 rfl p9 rfl (u9.wk (fun _ h=>(.tail _ (.tail _ h)))) y6 rfl)) ?_
    rintro _ _ _ _ ⟨_,rfl,G3,G4,O2,X6,X7,S3,af6,c7,ae6,A8,an2,aj0,rfl,rfl,rfl,O3,R5,K4,N0⟩
    refine c6.e5 (j6.store (k:=5) (g:=g2) (off:=0) (v:=.agg #[.bool y3.1.x8,.slice G3 y3.1.x5.length G4,.slice X6 y3.1.x4.length X7]) (cells':=#[.bool y3.1.x8,.slice G3 y3.1.x5.length G4,.slice X6 y3.1.x4.length X7]) (by kernel_rfl) rfl (by kernel_rfl) (by kernel_rfl)) ?_
    rintro _ _ _ _ ⟨rfl,rfl,rfl⟩
    refine c6.p6 ?_
    refine Zd 5 ?_
    obtain rfl:=Option.some.inj heq
    refine Up 7 [5,0,1,2,3,4] ?_
    exact b8.I3 1 (vs:=[.agg #[.bool y3.1.x8,.slice G3 y3.1.x5.length G4,.slice X6 y3.1.x4.length X7],iv 0]) (v:=.tuple #[.agg #[.bool y3.1.x8,.slice G3 y3.1.x5.length G4,.slice X6 y3.1.x4.length X7],iv 0]) (by kernel_rfl) Tryz.func32 (fun w hh=>show G2 _ _ _ [.cell 4 54,.tmp 5] _ from ⟨⟨⟨g2,0,none⟩,by kernel_rfl,F5 _ (vs:=[.bool y3.1.x8,.slice G3 y3.1.x5.length G4,.slice X6 y3.1.x4.length X7]) (r:=[]) (es:=[.load ⟨g2,0,none⟩ (.bool y3.1.x8),.load ⟨g2,1,none⟩ (.slice G3 y3.1.x5.length G4),.load ⟨g2,2,none⟩ (.slice X6 y3.1.x4.length X7)]) (by kernel_rfl) ⟨(hh.box 0 rfl rfl),(hh.box 0 rfl rfl),(hh.box 0 rfl rfl)⟩⟩,(show lk _ _=some _ by kernel_rfl),trivial⟩) rfl (cs':=O2::S3::(some (c9,.cells #[iv y3.2.Room,iv y3.2.c4,.slice af6 y3.2.U.length c7,.slice A8 y3.2.Entries.length an2] 25 (0,0)))::ae6::aj0::F) rfl ⟨G3,G4,O2,X6,X7,S3,af6,c7,ae6,A8,an2,aj0,rfl,rfl,O3,R5,K4,N0⟩
   ·intro x7 heq
    refine Sa 1<|Zd 2 ?_
    refine Cb heq ?_ ?_
    ·intro B3 heq
     refine Sa 1<|Zv 2 (C8 1)<|Ug 5 [2,3,4,0,1] ?_
     obtain ⟨y4,hy4,heq⟩:=bind_some heq
     refine c6.e5 (o9 32 (dt1 hy4 q6 rfl p9 rfl (u9.wk (fun _ h=>(.tail _ (.tail _ h)))) y6 rfl)) ?_
     rintro _ H _ hl ⟨_,rfl,an3,an4,af7,A10,c10,bl7,A11,c11,bv8,A12,c12,bv9,rfl,rfl,aa4,ae5,ar7,aA2⟩
     replace q6:=q6.mono hl
     replace p9:=p9.mono hl
     replace u9:=u9.mono hl
     refine c6.e5 (j6.store (k:=5) (g:=g2) (off:=0) (v:=.agg #[.bool y4.1.x8,.slice an3 y4.1.x5.length an4,.slice A10 y4.1.x4.length c10]) (cells':=#[.bool y4.1.x8,.slice an3 y4.1.x5.length an4,.slice A10 y4.1.x4.length c10]) (by kernel_rfl) rfl (by kernel_rfl) (by kernel_rfl)) ?_
     rintro _ _ _ _ ⟨rfl,rfl,rfl⟩
     refine c6.p6 ?_
     refine Zd 5 ?_
     obtain rfl:=Option.some.inj heq
     refine Up 7 [5,0,1,2,3,4] ?_
     exact b8.I3 1 (vs:=[.agg #[.bool y4.1.x8,.slice an3 y4.1.x5.length an4,.slice A10 y4.1.x4.length c10],iv 0]) (v:=.tuple #[.agg #[.bool y4.1.x8,.slice an3 y4.1.x5.length an4,.slice A10 y4.1.x4.length c10],iv 0]) (by kernel_rfl) Tryz.func32 (fun w hh=>show G2 _ _ _ [.cell 4 54,.tmp 5] _ from ⟨⟨⟨g2,0,none⟩,by kernel_rfl,F5 _ (vs:=[.bool y4.1.x8,.slice an3 y4.1.x5.length an4,.slice A10 y4.1.x4.length c10]) (r:=[]) (es:=[.load ⟨g2,0,none⟩ (.bool y4.1.x8),.load ⟨g2,1,none⟩ (.slice an3 y4.1.x5.length an4),.load ⟨g2,2,none⟩ (.slice A10 y4.1.x4.length c10)]) (by kernel_rfl) ⟨(hh.box 0 rfl rfl),(hh.box 0 rfl rfl),(hh.box 0 rfl rfl)⟩⟩,(show lk _ _=some _ by kernel_rfl),trivial⟩) rfl (cs':=af7::bl7::(some (c9,.cells #[iv y4.2.Room,iv y4.2.c4,.slice A11 y4.2.U.length c11,.slice A12 y4.2.Entries.length c12] 25 (0,0)))::bv8::bv9::F) rfl ⟨an3,an4,af7,A10,c10,bl7,A11,c11,bv8,A12,c12,bv9,rfl,rfl,aa4,ae5,ar7,aA2⟩
    ·intro B3 heq
     refine Sa 1<|Zd 2 ?_
     refine Cb heq ?_ ?_
     ·intro F2 heq
      refine Sa 1<|Zv 2 (C8 1)<|Ug 5 [2,3,4,0,1] ?_
      obtain ⟨A0,hy5,heq⟩:=bind_some heq
      refine c6.e5 (o9 37 (dt2 hy5 q6 rfl p9 rfl (u9.wk (fun _ h=>(.tail _ (.tail _ h)))) y6 rfl)) ?_
      rintro _ _ _ _ ⟨_,rfl,A13,c13,bw0,A14,c14,bw4,A15,c15,bw5,A16,c16,bw8,rfl,rfl,rfl,aA3,aF4,aF5,aU1⟩
      refine c6.e5 (j6.store (k:=5) (g:=g2) (off:=0) (v:=.agg #[.bool A0.1.x8,.slice A13 A0.1.x5.length c13,.slice A14 A0.1.x4.length c14]) (cells':=#[.bool A0.1.x8,.slice A13 A0.1.x5.length c13,.slice A14 A0.1.x4.length c14]) (by kernel_rfl) rfl (by kernel_rfl) (by kernel_rfl)) ?_
      rintro _ _ _ _ ⟨rfl,rfl,rfl⟩
      refine c6.p6 ?_
      refine Zd 5 ?_
      obtain rfl:=Option.some.inj heq
      refine Up 7 [5,0,1,2,3,4] ?_
      exact b8.I3 1 (vs:=[.agg #[.bool A0.1.x8,.slice A13 A0.1.x5.length c13,.slice A14 A0.1.x4.length c14],iv 0]) (v:=.tuple #[.agg #[.bool A0.1.x8,.slice A13 A0.1.x5.length c13,.slice A14 A0.1.x4.length c14],iv 0]) (by kernel_rfl) Tryz.func32 (fun w hh=>show G2 _ _ _ [.cell 4 54,.tmp 5] _ from ⟨⟨⟨g2,0,none⟩,by kernel_rfl,F5 _ (vs:=[.bool A0.1.x8,.slice A13 A0.1.x5.length c13,.slice A14 A0.1.x4.length c14]) (r:=[]) (es:=[.load ⟨g2,0,none⟩ (.bool A0.1.x8),.load ⟨g2,1,none⟩ (.slice A13 A0.1.x5.length c13),.load ⟨g2,2,none⟩ (.slice A14 A0.1.x4.length c14)]) (by kernel_rfl) ⟨(hh.box 0 rfl rfl),(hh.box 0 rfl rfl),(hh.box 0 rfl rfl)⟩⟩,(show lk _ _=some _ by kernel_rfl),trivial⟩) rfl (cs':=bw0::bw4::(some (c9,.cells #[iv A0.2.Room,iv A0.2.c4,.slice A15 A0.2.U.length c15,.slice A16 A0.2.Entries.length c16] 25 (0,0)))::bw5::bw8::F) rfl ⟨A13,c13,bw0,A14,c14,bw4,A15,c15,bw5,A16,c16,bw8,rfl,rfl,aA3,aF4,aF5,aU1⟩
     ·intro F2 heq
      refine Sa 3<|Zv 2 (C8 1)<|Ug 5 [2,3,4,0,1] ?_
      obtain ⟨G0,hy6,heq⟩:=bind_some heq
      refine c6.e5 (o9 40 (dt3 hy6 q6 rfl p9 rfl (u9.wk (fun _ h=>(.tail _ (.tail _ h)))) y6 rfl)) ?_
      rintro _ _ _ _ ⟨_,rfl,A17,c17,bw9,A18,c18,bx1,A19,c19,bx2,A20,c20,bx5,rfl,rfl,rfl,bw1,bw2,bw3,bx0⟩
      refine c6.e5 (j6.store (k:=5) (g:=g2) (off:=0) (v:=.agg #[.bool G0.1.x8,.slice A17 G0.1.x5.length c17,.slice A18 G0.1.x4.length c18]) (cells':=#[.bool G0.1.x8,.slice A17 G0.1.x5.length c17,.slice A18 G0.1.x4.length c18]) (by kernel_rfl) rfl (by kernel_rfl) (by kernel_rfl)) ?_
      rintro _ _ _ _ ⟨rfl,rfl,rfl⟩
      refine c6.p6 ?_
      refine Zd 5 ?_
      obtain rfl:=Option.some.inj heq
      refine Up 7 [5,0,1,2,3,4] ?_
      exact b8.I3 1 (vs:=[.agg #[.bool G0.1.x8,.slice A17 G0.1.x5.length c17,.slice A18 G0.1.x4.length c18],iv 0]) (v:=.tuple #[.agg #[.bool G0.1.x8,.slice A17 G0.1.x5.length c17,.slice A18 G0.1.x4.length c18],iv 0]) (by kernel_rfl) Tryz.func32 (fun w hh=>show G2 _ _ _ [.cell 4 54,.tmp 5] _ from ⟨⟨⟨g2,0,none⟩,by kernel_rfl,F5 _ (vs:=[.bool G0.1.x8,.slice A17 G0.1.x5.length c17,.slice A18 G0.1.x4.length c18]) (r:=[]) (es:=[.load ⟨g2,0,none⟩ (.bool G0.1.x8),.load ⟨g2,1,none⟩ (.slice A17 G0.1.x5.length c17),.load ⟨g2,2,none⟩ (.slice A18 G0.1.x4.length c18)]) (by kernel_rfl) ⟨(hh.box 0 rfl rfl),(hh.box 0 rfl rfl),(hh.box 0 rfl rfl)⟩⟩,(show lk _ _=some _ by kernel_rfl),trivial⟩) rfl (cs':=bw9::bx1::(some (c9,.cells #[iv G0.2.Room,iv G0.2.c4,.slice A19 G0.2.U.length c19,.slice A20 G0.2.Entries.length c20] 25 (0,0)))::bx2::bx5::F) rfl ⟨A17,c17,bw9,A18,c18,bx1,A19,c19,bx2,A20,c20,bx5,rfl,rfl,bw1,bw2,bw3,bx0⟩
noncomputable def C20:Ctx:={ P:=Tryz.prog,f:=20,N:=62,c:=C1 Tryz.f20 }
def S20 (F:List Ch) (H0:Hp) (r:(Bool × Cache) × (List k6) × Int × Int) (v:Value) (H:Hp) (cs:List Ch):Prop:=∃ (g0:Nat) (E7:Option Addr) (E8:Nat) (F1:Ch) (P7:Option Addr) (P8:Nat) (Q9:Ch) (A1:Option Addr) (c1:Nat) (r9:Ch),v=.tuple #[.pointer (bif r.1.1 then some ⟨g0,0,none⟩ else none),.slice A1 r.2.1.length c1,iv r.2.2.1,iv r.2.2.2]∧(bif r.1.1 then some (g0,.cells #[iv r.1.2.Room,iv r.1.2.c4,.slice E7 r.1.2.U.length E8,.slice P7 r.1.2.Entries.length P8] 25 (0,0)) else none)::F1::Q9::r9::F=cs∧b6 j7 44 H E7 E8 r.1.2.U F1∧b6 k5 47 H P7 P8 r.1.2.Entries Q9∧b6 X9 54 H A1 c1 r.2.1 r9
theorem ad4.D7 {r:(Bool × Cache) × (List k6) × Int × Int}:∀ (H:Hp) (g2:Nat) (au0 au1:Int) (ao3:List Blob) (aI7:Option Addr) (aM6 aI8:Nat) (aI9:Ch) (ao4:List Entry) (aJ0:Option Addr) (aM7 aJ1:Nat) (aJ2:Ch) (ar8:Int) (ah7:List k6) (aD2:Option Addr) (aM8 aD3:Nat) (aJ3:Ch) ,b6 j7 44 H aI7 aI8 ao3 aI9→aM6=ao3.length→b6 k5 47 H aJ0 aJ1 ao4 aJ2→aM7=ao4.length→b6 X9 54 H aD2 aD3 ah7 aJ3→aM8=ah7.length→ad4.e1 au0 au1 ao3 ao4 ar8 ah7=some r→b8 C20 (S20 F H0 r) H0 w0 [.c [1,1,1,1,1,1,1,0],.c [1,1,1,1,1,1,1,1]] [(9,pg g2 0),(10,iv ar8),(11,.slice aD2 aM8 aD3)] H (aJ3::(some (g2,.cells #[iv au0,iv au1,.slice aI7 aM6 aI8,.slice aJ0 aM7 aJ1] 25 (0,0)))::aI9::aJ2::F):=by
 intro H g2 au0 au1 ao3 aI7 aM6 aI8 aI9 ao4 aJ0 aM7 aJ1 aJ2 ar8 ah7 aD2 aM8 aD3 aJ3 bf0 bL4 bf1 bL5 aM9 bL6 heq
 subst bL4
 subst bL5
 subst bL6
 unfold ad4.e1 at heq
 refine Sa 0<|Zd 7 ?_
 obtain rfl:=Option.some.inj heq
 refine Up 4 [1,2,3,0] ?_
 exact b8.done (by kernel_rfl) Tryz.func20 (v:=.tuple #[.pointer (some ⟨g2,0,none⟩),.slice aD2 ah7.length aD3,iv ar8,iv 0]) (by kernel_rfl) ⟨g2,aI7,aI8,aI9,aJ0,aJ1,aJ2,aD2,aD3,aJ3,rfl,rfl,bf0,bf1,aM9⟩
theorem ad4.F9 {r:(Bool × Cache) × (List k6) × Int × Int} (e1:Int→Int→(List Blob)→(List Entry)→Int→(List k6)→Option ((Bool × Cache) × (List k6) × Int × Int))
  (D4:∀ (H:Hp) (g2:Nat) (au0 au1:Int) (ao3:List Blob) (aI7:Option Addr) (aM6 aI8:Nat) (aI9:Ch) (ao4:List Entry) (aJ0:Option Addr) (aM7 aJ1:Nat) (aJ2:Ch) (ar8:Int) (ah7:List k6) (aD2:Option Addr) (aM8 aD3:Nat) (aJ3:Ch) ,b6 j7 44 H aI7 aI8 ao3 aI9→aM6=ao3.length→b6 k5 47 H aJ0 aJ1 ao4 aJ2→aM7=ao4.length→b6 X9 54 H aD2 aD3 ah7 aJ3→aM8=ah7.length→e1 au0 au1 ao3 ao4 ar8 ah7=some r→b8 C20 (S20 F H0 r) H0 w0 [.c [1,1,1,1,1,1,1,0],.c [1,1,1,1,1,1,1,1]] [(9,pg g2 0),(10,iv ar8),(11,.slice aD2 aM8 aD3)] H (aJ3::(some (g2,.cells #[iv au0,iv au1,.slice aI7 aM6 aI8,.slice aJ0 aM7 aJ1] 25 (0,0)))::aI9::aJ2::F)):∀ (k:Nat),∀ (H:Hp) (a1:List k7) (p8:Option Addr) (q7 g2:Nat) (au0 au1:Int) (ao3:List Blob) (aI7:Option Addr) (aM6 aI8:Nat) (aI9:Ch) (ao4:List Entry) (aJ0:Option Addr) (aM7 aJ1:Nat) (aJ2:Ch) (ar8:Int) (ah7:List k6) (aD2:Option Addr) (aM8 aD3:Nat) (aJ3:Ch) (am1:Int) ,Rw O1 H F p8 a1→a1.length≤q7→b6 j7 44 H aI7 aI8 ao3 aI9→aM6=ao3.length→b6 k5 47 H aJ0 aJ1 ao4 aJ2→aM7=ao4.length→b6 X9 54 H aD2 aD3 ah7 aJ3→aM8=ah7.length→ad4.l2 e1 k a1 au0 au1 ao3 ao4 ar8 ah7 am1=some r→b8 C20 (S20 F H0 r) H0 w0 [.c [1,1,1,1,1,1,0,1,0,0],.l [1,1,1,1,1,1,0,1,0,0],.b 0,.c [1,1,1,1,1,1,1]] [(1,.slice p8 a1.length q7),(9,pg g2 0),(10,iv ar8),(11,.slice aD2 aM8 aD3),(12,iv am1)] H (aJ3::(some (g2,.cells #[iv au0,iv au1,.slice aI7 aM6 aI8,.slice aJ0 aM7 aJ1] 25 (0,0)))::aI9::aJ2::F):=by
 intro k
 induction k with
 | zero=>intro H a1 p8 q7 g2 au0 au1 ao3 aI7 aM6 aI8 aI9 ao4 aJ0 aM7 aJ1 aJ2 ar8 ah7 aD2 aM8 aD3 aJ3 am1 p0 C5 bf0 bL4 bf1 bL5 aM9 bL6 heq; exact nomatch (show (none:Option ((Bool × Cache) × (List k6) × Int × Int))=some r from heq)
 | succ k u0 =>
  intro H a1 p8 q7 g2 au0 au1 ao3 aI7 aM6 aI8 aI9 ao4 aJ0 aM7 aJ1 aJ2 ar8 ah7 aD2 aM8 aD3 aJ3 am1 p0 C5 bf0 bL4 bf1 bL5 aM9 bL6 heq
  subst bL4
  subst bL5
  subst bL6
  rw [ad4.l2] at heq
  refine Sa 2<|Zd 4 ?_
  refine Cb heq ?_ ?_
  ·intro x7 heq
   refine Sa 4 ?_
   obtain ⟨x1,hx1,heq⟩:=bind_some heq
   obtain ⟨A7,I1,B1,B2⟩:=p0.get hx1
   obtain ⟨aa8,c3,rfl,hc1,I0⟩:=aT2 B1
   refine Zv 5 ([nx A7 hx1]++ers B2 4)<|Ug 4 [1,2,3,0] ?_
   obtain ⟨y4,hy4,heq⟩:=bind_some heq
   refine c6.e5 (o9 42 (dt4 (a0:=(⟨au0,au1,ao3,ao4⟩:Cache)) hy4 bf0 rfl bf1 rfl (Rw.of I0) hc1 rfl)) ?_
   rintro _ H _ hl ⟨_,rfl,aa9,y8,E6,G3,G4,G6,X6,X7,O2,af6,c7,S3,rfl,rfl,K4,N0,aa4,ae5⟩
   replace p0:=p0.mono hl
   replace bf0:=bf0.mono hl
   replace bf1:=bf1.mono hl
   replace aM9:=aM9.mono hl
   replace I0:=I0.mono hl
   refine Zk 9 ?_
   refine c6.e5 (j6.new (d:=13) (v:=fun g=>.pointer (some ⟨g,0,none⟩)) (o:=fun g=>.cells #[.bool false,.slice none 0 0,.slice none 0 0] 54 (0,0)) (fun g=>by kernel_rfl)) ?_
   rintro _ _ _ _ ⟨g3,rfl,rfl,rfl⟩
   refine c6.e5 (j6.store (k:=0) (g:=g3) (off:=0) (v:=.agg #[.bool y4.1.x8,.slice aa9 y4.1.x5.length y8,.slice G3 y4.1.x4.length G4]) (cells':=#[.bool y4.1.x8,.slice aa9 y4.1.x5.length y8,.slice G3 y4.1.x4.length G4]) (by kernel_rfl) rfl (by kernel_rfl) (by kernel_rfl)) ?_
   rintro _ _ _ _ ⟨rfl,rfl,rfl⟩
   refine c6.p6 ?_
   refine Zd 12<|Sa 2<|Zd 2 ?_
   refine Cb heq ?_ ?_
   ·intro B3 heq
    refine Sa 1<|Zd 5<|b8.w5<|b8.w5 ?_
    have ar7:b6 j7 44 H none 0 ([]:List Blob) none:=b6.nil
    refine b8.w5 ?_
    have aA2:b6 k5 47 H none 0 ([]:List Entry) none:=b6.nil
    refine b8.w5 ?_
    have aA3:b6 X9 54 H none 0 ([]:List k6) none:=b6.nil
    obtain rfl:=Option.some.inj heq
    refine Up 11 [3,2,1,0] ?_
    exact b8.done (by kernel_rfl) Tryz.func20 (v:=.tuple #[.pointer none,.slice none 0 0,iv 0,iv y4.2.1]) (by kernel_rfl) ⟨0,none,0,none,none,0,none,none,0,none,rfl,rfl,ar7,aA2,aA3⟩
   ·intro B3 heq
    refine Sa 2<|Zv 2 (C8 0)<|Ug 2 [1,0] ?_
    have N9:=K4.cap
    refine Hs.aD8 K4 (fun H hl hr2=>?_)
    replace p0:=p0.mono hl
    replace aa4:=aa4.mono hl
    replace ae5:=ae5.mono hl
    replace aM9:=aM9.mono hl
    replace N0:=N0.mono hl
    refine Ug 2 [1,0] ?_
    have hc3:=N0.cap
    refine Hs.aD8 N0 (fun H hl hr3=>?_)
    replace p0:=p0.mono hl
    replace aa4:=aa4.mono hl
    replace ae5:=ae5.mono hl
    replace aM9:=aM9.mono hl
    replace hr2:=hr2.mono hl
    refine c6.e5 (j6.new (d:=50) (v:=fun g=>.slice (some ⟨g,0,none⟩) 1 1) (o:=fun g=>.cells #[.bool y4.1.x8,.slice aa9 y4.1.x5.length y8,.slice G3 y4.1.x4.length G4] 54 (0,0)) (fun g=>by kernel_rfl)) ?_
    rintro _ _ _ _ ⟨g4,rfl,rfl,rfl⟩
    have aF4:b6 X9 54 H (some ⟨g4,0,none⟩) 1 ([(⟨y4.1.x8,y4.1.x5,y4.1.x4⟩:k6)]:List k6) (some (g4,.cells #[.bool y4.1.x8,.slice aa9 y4.1.x5.length y8,.slice G3 y4.1.x4.length G4] 54 (0,0))):=b6.lit (xs:=([(⟨y4.1.x8,y4.1.x5,y4.1.x4⟩:k6)]:List k6)) (by kernel_rfl) (Nat.le_of_ble_eq_true (by kernel_rfl)) (Kd.q9.one (cv6 N9 hr2 hc3 hr3))
    obtain ⟨C4,heq⟩:=M1 heq
    refine c6.e5 (j6.append (d:=51) (k:=5) (t:=29) (e:=54) (bytes:=56) (kd:=X9) (n:=ah7.length) (m:=1) (xs:=ah7) (ys:=([(⟨y4.1.x8,y4.1.x5,y4.1.x4⟩:k6)]:List k6)) (A:=aD2) (B:=(some ⟨g4,0,none⟩)) (c:=aD3) (cB:=1) (by kernel_rfl) rfl rfl (by kernel_rfl) rfl aM9 (fun w hh=>aF4.Y9 (hh.N1 0 rfl)) (room_le C4) (by have:=room_le C4; omega)) ?_
    rintro _ _ _ _ ⟨A8,an2,ae6,rfl,rfl,rfl,aF5⟩
    refine c6.p6 ?_
    refine Zd 5<|Sa 0<|Zv 5 [bx 2 2] ?_
    obtain ⟨A0,hy5,heq⟩:=bind_some heq
    refine c6.e5 (o9 57 (bK4 hy5 (aa4.rw (.tail _ (.tail _ (.tail _ (.head _))))) aa4.cap rfl)) ?_
    rintro _ _ _ _ ⟨_,rfl,rfl,rfl,rfl⟩
    refine Zd 8<|Sa 1<|Zd 3<|An 1 ?_
    exact Gt 6 [5,2,3,4] (u0 _ a1 _ _ _ y4.2.2.Room y4.2.2.c4 y4.2.2.U _ _ _ _ y4.2.2.Entries _ _ _ _ (max2 ar8 A0) (ah7++([(⟨y4.1.x8,y4.1.x5,y4.1.x4⟩:k6)]:List k6)) _ _ _ _ (c5 (am1+1)) p0 C5 aa4 rfl ae5 rfl aF5 rfl heq)
  ·intro x7 heq
   refine An 2 ?_
   exact Gt 0 [] (D4 _ _ au0 au1 ao3 _ _ _ _ ao4 _ _ _ _ ar8 ah7 _ _ _ _ bf0 rfl bf1 rfl aM9 rfl heq)
theorem bW5 {a0:Cache} {e6:Option Addr} {q2 e8:Nat} {e3:Option Addr} {p7 e4:Nat} {a1:List k7} {p8:Option Addr} {G7 q7:Nat} {r:(Bool × Cache) × (List k6) × Int × Int} (heq:ad4.f a0 a1=some r) (n9:Rw j7 H0 F e6 a0.U) (s7:q2≤e8) (B9:q2=a0.U.length) (l8:Rw k5 H0 F e3 a0.Entries) (q8:p7≤e4) (B4:p7=a0.Entries.length) (p0:Rw O1 H0 F p8 a1) (C5:G7≤q7) (X8:G7=a1.length):z7 Tryz.prog 20 #[.agg #[iv a0.Room,iv a0.c4,.slice e6 q2 e8,.slice e3 p7 e4],.slice p8 G7 q7] H0 w0 (F) (S20 F H0 r):=by
 refine Co C20 Tryz.func20 Tryz.ntmps20 ?_
 subst B9
 subst B4
 subst X8
 unfold ad4.f at heq
 suffices key:∀ (H:Hp),Rw j7 H F e6 a0.U→Rw k5 H F e3 a0.Entries→Rw O1 H F p8 a1→b8 C20 (S20 F H0 r) H0 w0 [.c []] (Z3 0 [.agg #[iv a0.Room,iv a0.c4,.slice e6 (a0.U.length) e8,.slice e3 (a0.Entries.length) e4],.slice p8 (a1.length) q7]) H (F) from key H0 n9 l8 p0
 intro H n9 l8 p0
 refine Sa 1 ?_
 refine c6.e5 (j6.new (d:=2) (v:=fun g=>.pointer (some ⟨g,0,none⟩)) (o:=fun g=>.cells #[iv a0.Room,iv a0.c4,.slice e6 a0.U.length e8,.slice e3 a0.Entries.length e4] 25 (0,0)) (fun g=>by kernel_rfl)) ?_
 rintro _ _ _ _ ⟨g1,rfl,rfl,rfl⟩
 refine Zd 5<|Sa 2<|Zv 1 (C8 0) ?_
 obtain ⟨y1,hy1,heq⟩:=bind_some heq
 refine c6.e5 (o9 16 (dq9 hy1 (n9.wk (fun _ h=>(.tail _ h))) s7 rfl (l8.wk (fun _ h=>(.tail _ h))) q8 rfl)) ?_
 rintro _ _ _ _ ⟨_,rfl,rfl,rfl,rfl⟩
 refine Zd 3<|Sa 1<|Zd 2 ?_
 refine Cb heq ?_ ?_
 ·intro o8 heq
  refine Sa 1<|Zd 5<|b8.w5<|b8.w5 ?_
  have r8:b6 j7 44 H none 0 ([]:List Blob) none:=b6.nil
  refine b8.w5 ?_
  have w8:b6 k5 47 H none 0 ([]:List Entry) none:=b6.nil
  refine b8.w5 ?_
  have w4:b6 X9 54 H none 0 ([]:List k6) none:=b6.nil
  obtain rfl:=Option.some.inj heq
  refine Up 5 [3,2,1,0] ?_
  exact b8.done (by kernel_rfl) Tryz.func20 (v:=.tuple #[.pointer none,.slice none 0 0,iv 0,iv y1]) (by kernel_rfl) ⟨0,none,0,none,none,0,none,none,0,none,rfl,rfl,r8,w8,w4⟩
 ·intro o8 heq
  refine Sa 3<|Zd 3 ?_
  refine Cb heq ?_ ?_
  ·intro s3 heq
   refine Sa 1<|Zd 4<|b8.w5<|b8.w5 ?_
   have C9:b6 j7 44 H none 0 ([]:List Blob) none:=b6.nil
   refine b8.w5 ?_
   have H7:b6 k5 47 H none 0 ([]:List Entry) none:=b6.nil
   refine b8.w5 ?_
   have O4:b6 X9 54 H none 0 ([]:List k6) none:=b6.nil
   obtain rfl:=Option.some.inj heq
   refine Up 5 [3,2,1,0] ?_
   exact b8.done (by kernel_rfl) Tryz.func20 (v:=.tuple #[.pointer none,.slice none 0 0,iv 0,iv 2]) (by kernel_rfl) ⟨0,none,0,none,none,0,none,none,0,none,rfl,rfl,C9,H7,O4⟩
  ·intro s3 heq
   refine Sa 2<|Zv 1 (C8 0) ?_
   obtain ⟨y2,hy2,heq⟩:=bind_some heq
   refine c6.e5 (o9 24 (dr0 hy2 (n9.wk (fun _ h=>(.tail _ h))) s7 rfl (l8.wk (fun _ h=>(.tail _ h))) q8 rfl)) ?_
   rintro _ H _ hl ⟨_,rfl,g2,A1,c1,r9,aa3,c2,B5,rfl,rfl,O3,R5⟩
   replace p0:=p0.mono hl
   replace n9:=n9.mono hl
   replace l8:=l8.mono hl
   refine Zd 3<|Sa 1<|Zv 4 [bx 0 2] ?_
   obtain ⟨y3,hy3,heq⟩:=bind_some heq
   refine c6.e5 (o9 29 (bK4 hy3 (O3.rw (.tail _ (.head _))) O3.cap rfl)) ?_
   rintro _ _ _ _ ⟨_,rfl,rfl,rfl,rfl⟩
   refine Zd 6<|Sa 1<|Zd 1<|Sa 2<|Zd 1<|An 2<|b8.w5 ?_
   have aU1:b6 X9 54 H none 0 ([]:List k6) none:=b6.nil
   exact Gt 5 [0,1,2,3] (((ad4.F9 (e1:=ad4.e1) (ad4.D7)) n8) _ a1 _ _ _ y2.Room y2.c4 y2.U _ _ _ _ y2.Entries _ _ _ _ y3 ([]:List k6) _ _ _ _ 0 p0 C5 O3 rfl R5 rfl aU1 rfl heq)
noncomputable def cD1:Ctx:={ P:=Tryz.prog,f:=7,N:=27,c:=C1 Tryz.f7 }
def cD2 (F:List Ch) (H0:Hp) (r:Cache × (List k6) × Int) (v:Value) (H:Hp) (cs:List Ch):Prop:=∃ (E7:Option Addr) (E8:Nat) (F1:Ch) (P7:Option Addr) (P8:Nat) (Q9:Ch) (A1:Option Addr) (c1:Nat) (r9:Ch),v=.tuple #[.agg #[iv r.1.Room,iv r.1.c4,.slice E7 r.1.U.length E8,.slice P7 r.1.Entries.length P8],.slice A1 r.2.1.length c1,iv r.2.2]∧F1::Q9::r9::F=cs∧b6 j7 44 H E7 E8 r.1.U F1∧b6 k5 47 H P7 P8 r.1.Entries Q9∧b6 X9 54 H A1 c1 r.2.1 r9
theorem dd5 {a0:Cache} {e6:Option Addr} {q2 e8:Nat} {e3:Option Addr} {p7 e4:Nat} {a1:List k7} {p8:Option Addr} {G7 q7:Nat} {r:Cache × (List k6) × Int} (heq:bH2.f a0 a1=some r) (n9:Rw j7 H0 F e6 a0.U) (s7:q2≤e8) (B9:q2=a0.U.length) (l8:Rw k5 H0 F e3 a0.Entries) (q8:p7≤e4) (B4:p7=a0.Entries.length) (p0:Rw O1 H0 F p8 a1) (C5:G7≤q7) (X8:G7=a1.length):z7 Tryz.prog 7 #[.agg #[iv a0.Room,iv a0.c4,.slice e6 q2 e8,.slice e3 p7 e4],.slice p8 G7 q7] H0 w0 (F) (cD2 F H0 r):=by
 refine Co cD1 Tryz.func7 Tryz.ntmps7 ?_
 subst B9
 subst B4
 subst X8
 unfold bH2.f at heq
 suffices key:∀ (H:Hp),Rw j7 H F e6 a0.U→Rw k5 H F e3 a0.Entries→Rw O1 H F p8 a1→b8 cD1 (cD2 F H0 r) H0 w0 [.c []] (Z3 0 [.agg #[iv a0.Room,iv a0.c4,.slice e6 (a0.U.length) e8,.slice e3 (a0.Entries.length) e4],.slice p8 (a1.length) q7]) H (F) from key H0 n9 l8 p0
 intro H n9 l8 p0
 refine Sa 1 ?_
 refine c6.e5 (j6.new (d:=2) (v:=fun g=>.pointer (some ⟨g,0,none⟩)) (o:=fun g=>.cells #[iv a0.Room,iv a0.c4,.slice e6 a0.U.length e8,.slice e3 a0.Entries.length e4] 25 (0,0)) (fun g=>by kernel_rfl)) ?_
 rintro _ _ _ _ ⟨g1,rfl,rfl,rfl⟩
 refine c6.e5 (j6.new (d:=4) (v:=fun g=>.pointer (some ⟨g,0,none⟩)) (o:=fun g=>.cells #[iv 0,iv 0,.slice none 0 0,.slice none 0 0] 25 (0,0)) (fun g=>by kernel_rfl)) ?_
 rintro _ _ _ _ ⟨g2,rfl,rfl,rfl⟩
 refine Zd 4<|Sa 1<|Zv 2 (C8 1) ?_
 obtain ⟨y1,hy1,heq⟩:=bind_some heq
 refine c6.e5 (o9 14 (bW5 hy1 (n9.wk (fun _ h=>(.tail _ (.tail _ h)))) s7 rfl (l8.wk (fun _ h=>(.tail _ (.tail _ h)))) q8 rfl (p0.wk (fun _ h=>(.tail _ (.tail _ h)))) C5 rfl)) ?_
 rintro _ H _ hl ⟨_,rfl,g3,A1,c1,r9,aa3,c2,B5,aa8,c3,E6,rfl,rfl,r8,w8,w4⟩
 replace n9:=n9.mono hl
 replace l8:=l8.mono hl
 replace p0:=p0.mono hl
 refine Zd 12<|Sa 2<|Zd 2 ?_
 refine Cb heq ?_ ?_
 ·intro o8 heq
  refine Sa 1<|Zk 2 ?_
  refine c6.e5 (j6.store (k:=4) (g:=g2) (off:=0) (v:=.agg #[iv 0,iv 0,.slice none 0 0,.slice none 0 0]) (cells':=#[iv 0,iv 0,.slice none 0 0,.slice none 0 0]) (by kernel_rfl) rfl (by kernel_rfl) (by kernel_rfl)) ?_
  rintro _ _ _ _ ⟨rfl,rfl,rfl⟩
  refine c6.p6 ?_
  refine Zd 5<|b8.w5 ?_
  have C9:b6 j7 44 H none 0 ([]:List Blob) none:=b6.nil
  refine b8.w5 ?_
  have H7:b6 k5 47 H none 0 ([]:List Entry) none:=b6.nil
  refine b8.w5 ?_
  have O4:b6 X9 54 H none 0 ([]:List k6) none:=b6.nil
  obtain rfl:=Option.some.inj heq
  refine Up 9 [7,2,1,0] ?_
  exact b8.I3 1 (vs:=[.agg #[iv 0,iv 0,.slice none 0 0,.slice none 0 0],.slice none 0 0,iv y1.2.2.2]) (v:=.tuple #[.agg #[iv 0,iv 0,.slice none 0 0,.slice none 0 0],.slice none 0 0,iv y1.2.2.2]) (by kernel_rfl) Tryz.func7 (fun w hh=>show G2 _ _ _ [.cell 4 25,.tmp 5,.tmp 6] _ from ⟨⟨⟨g2,0,none⟩,by kernel_rfl,F5 _ (vs:=[iv 0,iv 0,.slice none 0 0,.slice none 0 0]) (r:=[]) (es:=[.load ⟨g2,0,none⟩ (iv 0),.load ⟨g2,1,none⟩ (iv 0),.load ⟨g2,2,none⟩ (.slice none 0 0),.load ⟨g2,3,none⟩ (.slice none 0 0)]) (by kernel_rfl) ⟨(hh.box 0 rfl rfl),(hh.box 0 rfl rfl),(hh.box 0 rfl rfl),(hh.box 0 rfl rfl)⟩⟩,(show lk _ _=some _ by kernel_rfl),(show lk _ _=some _ by kernel_rfl),trivial⟩) rfl (cs':=none::none::none::F) rfl ⟨none,0,none,none,0,none,none,0,none,rfl,rfl,C9,H7,O4⟩
 ·intro o8 heq
  refine Sa 2<|Zk 1 ?_
  obtain ⟨C4,heq⟩:=M1 heq
  refine Zs 23 (v':=.pointer (some ⟨g3,0,none⟩)) (v:=.pointer (bif y1.1.1 then some ⟨g3,0,none⟩ else none)) (by rw [C4]; rfl) ?_
  refine c6.cse (cs':=(some (g3,.cells #[iv y1.1.2.Room,iv y1.1.2.c4,.slice A1 y1.1.2.U.length c1,.slice aa3 y1.1.2.Entries.length c2] 25 (0,0)))::r9::B5::E6::(some (g2,.cells #[iv 0,iv 0,.slice none 0 0,.slice none 0 0] 25 (0,0)))::(some (g1,.cells #[iv a0.Room,iv a0.c4,.slice e6 a0.U.length e8,.slice e3 a0.Entries.length e4] 25 (0,0)))::F) (by rw [C4]; rfl) ?_
  refine Zv 4 (C8 0) ?_
  refine c6.e5 (j6.store (k:=4) (g:=g2) (off:=0) (v:=.agg #[iv y1.1.2.Room,iv y1.1.2.c4,.slice A1 y1.1.2.U.length c1,.slice aa3 y1.1.2.Entries.length c2]) (cells':=#[iv y1.1.2.Room,iv y1.1.2.c4,.slice A1 y1.1.2.U.length c1,.slice aa3 y1.1.2.Entries.length c2]) (by kernel_rfl) rfl (by kernel_rfl) (by kernel_rfl)) ?_
  rintro _ _ _ _ ⟨rfl,rfl,rfl⟩
  refine c6.p6 ?_
  refine Zd 7 ?_
  obtain rfl:=Option.some.inj heq
  refine Up 6 [4,1,2,3] ?_
  exact b8.I3 1 (vs:=[.agg #[iv y1.1.2.Room,iv y1.1.2.c4,.slice A1 y1.1.2.U.length c1,.slice aa3 y1.1.2.Entries.length c2],.slice aa8 y1.2.1.length c3,iv 0]) (v:=.tuple #[.agg #[iv y1.1.2.Room,iv y1.1.2.c4,.slice A1 y1.1.2.U.length c1,.slice aa3 y1.1.2.Entries.length c2],.slice aa8 y1.2.1.length c3,iv 0]) (by kernel_rfl) Tryz.func7 (fun w hh=>show G2 _ _ _ [.cell 4 25,.tmp 5,.tmp 6] _ from ⟨⟨⟨g2,0,none⟩,by kernel_rfl,F5 _ (vs:=[iv y1.1.2.Room,iv y1.1.2.c4,.slice A1 y1.1.2.U.length c1,.slice aa3 y1.1.2.Entries.length c2]) (r:=[]) (es:=[.load ⟨g2,0,none⟩ (iv y1.1.2.Room),.load ⟨g2,1,none⟩ (iv y1.1.2.c4),.load ⟨g2,2,none⟩ (.slice A1 y1.1.2.U.length c1),.load ⟨g2,3,none⟩ (.slice aa3 y1.1.2.Entries.length c2)]) (by kernel_rfl) ⟨(hh.box 0 rfl rfl),(hh.box 0 rfl rfl),(hh.box 0 rfl rfl),(hh.box 0 rfl rfl)⟩⟩,(show lk _ _=some _ by kernel_rfl),(show lk _ _=some _ by kernel_rfl),trivial⟩) rfl (cs':=r9::B5::E6::F) rfl ⟨A1,c1,r9,aa3,c2,B5,aa8,c3,E6,rfl,rfl,r8,w8,w4⟩
noncomputable def C21:Ctx:={ P:=Tryz.prog,f:=21,N:=26,c:=C1 Tryz.f21 }
def S21 (F:List Ch) (H0:Hp) (r:Bool) (v:Value) (H:Hp) (cs:List Ch):Prop:=H0=H∧v=.bool r∧F=cs
theorem ai3.D7 {r:Bool}:ai3.e1=some r→b8 C21 (S21 F H r) H w0 [.c [1,1,1,0],.c [1,1,1,1]] [] H (F):=by
 intro   heq
 unfold ai3.e1 at heq
 refine Sa 0<|Zd 1 ?_
 obtain rfl:=Option.some.inj heq
 exact b8.done (by kernel_rfl) Tryz.func21 (v:=.bool true) (by kernel_rfl) ⟨rfl,rfl,rfl⟩
theorem ai3.F9 {r:Bool} (e1:Option Bool)
  (D4:e1=some r→b8 C21 (S21 F H r) H w0 [.c [1,1,1,0],.c [1,1,1,1]] [] H (F)):∀ (k:Nat),∀ (a0:List ByteArray) (e7:Option Addr) (c8:Nat) (a1:List ByteArray) (p8:Option Addr) (q7:Nat) (n7:Int) ,Rw Kd.string H F e7 a0→a0.length≤c8→Rw Kd.string H F p8 a1→a1.length≤q7→ai3.l2 e1 k a0 a1 n7=some r→b8 C21 (S21 F H r) H w0 [.c [1,1,0,1,0,0],.l [1,1,0,1,0,0],.b 0,.c [1,1,1]] [(0,.slice e7 a0.length c8),(1,.slice p8 a1.length q7),(5,iv n7)] H (F):=by
 intro k
 induction k with
 | zero=>intro a0 e7 c8 a1 p8 q7 n7 B6 G9 p0 C5 heq; exact nomatch (show (none:Option Bool)=some r from heq)
 | succ k u0 =>
  intro a0 e7 c8 a1 p8 q7 n7 B6 G9 p0 C5 heq
  rw [ai3.l2] at heq
  refine Sa 2<|Zd 4 ?_
  refine Cb heq ?_ ?_
  ·intro s3 heq
   refine An 4<|Sd 0 9 [] [3,3,3,3,3,3,3,3,3] ?_
   obtain ⟨x1,hx1,heq⟩:=bind_some heq
   obtain ⟨A7,I1,B1,B2⟩:=B6.get hx1
   obtain rfl:I1=[.string x1]:=B1
   obtain ⟨x2,w6,heq⟩:=bind_some heq
   obtain ⟨J2,T7,I8,J7⟩:=p0.get w6
   obtain rfl:T7=[.string x2]:=I8
   refine Zr [0,1,2,3,4,5,6,7,8] 0 [nx A7 hx1,er B2 0 0,nx J2 w6,er J7 0 0] (Pk 0 []) (Pk 0 []) ?_
   refine o5.done (by kernel_rfl) ?_
   refine Cb heq ?_ ?_
   ·intro x7 heq
    refine Sa 1<|Zd 1 ?_
    obtain rfl:=Option.some.inj heq
    exact b8.done (by kernel_rfl) Tryz.func21 (v:=.bool false) (by kernel_rfl) ⟨rfl,rfl,rfl⟩
   ·intro x7 heq
    refine Sa 2<|Zd 3<|An 1 ?_
    exact Gt 0 [] (u0 a0 _ _ a1 _ _ (c5 (n7+1)) B6 G9 p0 C5 heq)
  ·intro s3 heq
   refine An 2 ?_
   exact Gt 0 [] (D4 heq)
theorem bH6 {a0:List ByteArray} {e7:Option Addr} {s0 c8:Nat} {a1:List ByteArray} {p8:Option Addr} {G7 q7:Nat} {r:Bool} (heq:ai3.f a0 a1=some r) (B6:Rw Kd.string H F e7 a0) (G9:s0≤c8) (L8:s0=a0.length) (p0:Rw Kd.string H F p8 a1) (C5:G7≤q7) (X8:G7=a1.length):z7 Tryz.prog 21 #[.slice e7 s0 c8,.slice p8 G7 q7] H w0 (F) (S21 F H r):=by
 refine Co C21 Tryz.func21 Tryz.ntmps21 ?_
 subst L8
 subst X8
 unfold ai3.f at heq
 refine Sa 1<|Zd 1<|Sa 2<|Zd 5 ?_
 refine Cb heq ?_ ?_
 ·intro o8 heq
  refine Sa 1<|Zd 1 ?_
  obtain rfl:=Option.some.inj heq
  exact b8.done (by kernel_rfl) Tryz.func21 (v:=.bool false) (by kernel_rfl) ⟨rfl,rfl,rfl⟩
 ·intro o8 heq
  refine Sa 3<|Zd 1<|An 2 ?_
  exact Gt 0 [] (((ai3.F9 (e1:=ai3.e1) (ai3.D7)) n8) a0 _ _ a1 _ _ 0 B6 G9 p0 C5 heq)
noncomputable def aU5:Ctx:={ P:=Tryz.prog,f:=8,N:=106,c:=C1 Tryz.f8 }
def aU6 (F:List Ch) (H0:Hp) (r:Bool) (v:Value) (H:Hp) (cs:List Ch):Prop:=H0=H∧v=.bool r∧F=cs
theorem P0.az5 {r:Bool}:P0.e2=some r→b8 aU5 (aU6 F H r) H w0 [.c [1,1,1,1,0],.c [1,1,1,1,1]] [] H (F):=by
 intro   heq
 unfold P0.e2 at heq
 refine Sa 0<|Zd 1 ?_
 obtain rfl:=Option.some.inj heq
 exact b8.done (by kernel_rfl) Tryz.func8 (v:=.bool true) (by kernel_rfl) ⟨rfl,rfl,rfl⟩
theorem P0.av4 {r:Bool} (e2:Option Bool)
  (he2:e2=some r→b8 aU5 (aU6 F H r) H w0 [.c [1,1,1,1,0],.c [1,1,1,1,1]] [] H (F)):∀ (k:Nat),∀ (a0:Cache) (e6:Option Addr) (e8:Nat) (e3:Option Addr) (e4:Nat) (a1:Cache) (am2:Option Addr) (am3:Nat) (n3:Option Addr) (n4 g1 g2:Nat) (D1:Int) ,Rw j7 H F e6 a0.U→a0.U.length≤e8→Rw k5 H F e3 a0.Entries→a0.Entries.length≤e4→Rw j7 H F am2 a1.U→a1.U.length≤am3→Rw k5 H F n3 a1.Entries→a1.Entries.length≤n4→P0.l3 e2 k a0 a1 D1=some r→b8 aU5 (aU6 F H r) H w0 [.c [1,1,1,0,1,0,0],.l [1,1,1,0,1,0,0],.b 2,.c [1,1,1,1]] [(2,pg g1 0),(3,pg g2 0),(6,iv D1)] H ((some (g2,.cells #[iv a1.Room,iv a1.c4,.slice am2 a1.U.length am3,.slice n3 a1.Entries.length n4] 25 (0,0)))::(some (g1,.cells #[iv a0.Room,iv a0.c4,.slice e6 a0.U.length e8,.slice e3 a0.Entries.length e4] 25 (0,0)))::F):=by
 intro k
 induction k with
 | zero=>intro a0 e6 e8 e3 e4 a1 am2 am3 n3 n4 g1 g2 D1 n9 s7 l8 q8 aN0 aR2 u9 y6 heq; exact nomatch (show (none:Option Bool)=some r from heq)
 | succ k u0 =>
  intro a0 e6 e8 e3 e4 a1 am2 am3 n3 n4 g1 g2 D1 n9 s7 l8 q8 aN0 aR2 u9 y6 heq
  rw [P0.l3] at heq
  refine Sa 2<|Zw 5 [bx 1 3] ?_
  refine Cb heq ?_ ?_
  ·intro F2 heq
   refine An 4 ?_
   obtain ⟨t2,ht2,heq⟩:=bind_some heq
   have ah3:b8 aU5 (aU6 F H r) H w0 [.c [1,1,1,0,1,0,0,1,0,0,1],.b 3,.c [1,1,1,0,1,0,0,1,1],.l [1,1,1,0,1,0,0],.b 2,.c [1,1,1,1]] [(2,pg g1 0),(3,pg g2 0),(6,iv D1),(105,.bool t2)] H ((some (g2,.cells #[iv a1.Room,iv a1.c4,.slice am2 a1.U.length am3,.slice n3 a1.Entries.length n4] 25 (0,0)))::(some (g1,.cells #[iv a0.Room,iv a0.c4,.slice e6 a0.U.length e8,.slice e3 a0.Entries.length e4] 25 (0,0)))::F):=by
    refine Cb heq ?_ ?_
    ·intro Y0 heq
     refine Sa 1<|Zd 1 ?_
     obtain rfl:=Option.some.inj heq
     refine Up 2 [] ?_
     exact b8.done (by kernel_rfl) Tryz.func8 (v:=.bool false) (by kernel_rfl) ⟨rfl,rfl,rfl⟩
    ·intro Y0 heq
     refine Sa 2<|Zd 3<|An 1 ?_
     exact Gt 0 [] (u0 a0 _ _ _ _ a1 _ _ _ _ _ _ (c5 (D1+1)) n9 s7 l8 q8 aN0 aR2 u9 y6 heq)
   replace heq:=ht2
   refine Sd 0 44 [] [3,3,3,3,3,3,3,3,3,3,3,3,3,3,3,3,3,3,3,3,3,3,3,3,3,3,3,3,3,3,3,3,3,3,3,3,3,3,3,3,3,0,3,3] ?_
   obtain ⟨x1,hx1,heq⟩:=bind_some heq
   obtain ⟨A7,I1,B1,B2⟩:=l8.get hx1
   obtain ⟨A1,c1,rfl,hc1,I0⟩:=Y7 B1
   obtain ⟨x2,w6,heq⟩:=bind_some heq
   obtain ⟨J2,T7,I8,J7⟩:=u9.get w6
   obtain ⟨aa3,c2,rfl,N9,hr2⟩:=Y7 I8
   refine Zr [0,1,2,3,4,5,6,7,8,9,10,11,12,13] 30 [bx 1 3,nx A7 hx1,er B2 2 0,bx 0 3,nx J2 w6,er J7 2 0] (Pk 2 [0,1]) (Pk 2 [0,1]) ?_
   rcases y9 (!p4 x1.Key x2.Key) with M4 | M4
   ·replace heq:=A5 M4 heq
    refine Zu 75 (congrArg Value.bool M4)<|Zr [14,15,16,17,18,19,20,21,22,23,24,25,26,27,28,29,30,31,32,33,34,35,36,37,38,39,40,41,42,43] 0 [] (Pk 2 [0,1]) (Pk 2 [0,1]) ?_
    obtain rfl:=Option.some.inj heq
    refine o5.done (by kernel_rfl) ?_
    exact Gt 0 [] (ah3)
   ·replace heq:=A6 M4 heq
    refine Zu 75 (congrArg Value.bool M4) ?_
    obtain ⟨W1,ae3,Q4,ad7⟩:=l8.get hx1
    obtain ⟨aa8,c3,rfl,hc3,hr3⟩:=Y7 Q4
    obtain ⟨ha4,af1,hK4,af9⟩:=u9.get w6
    obtain ⟨aa9,y8,rfl,hc4,hr4⟩:=Y7 hK4
    refine Zr [14,15,16,17,18,19,20,21,22,23,24,25,26,27,28] 15 [bx 1 3,nx W1 hx1,er ad7 2 2,bx 0 3,nx ha4 w6,er af9 2 2] (Pk 2 [0,1]) (Pk 2 [0,1]) ?_
    rcases y9 (x1.Used != x2.Used) with M5 | M5
    ·replace heq:=A5 M5 heq
     refine Zu 90 (congrArg Value.bool M5)<|Zr [29,30,31,32,33,34,35,36,37,38,39,40,41,42,43] 0 [] (Pk 2 [0,1]) (Pk 2 [0,1]) ?_
     obtain rfl:=Option.some.inj heq
     refine o5.done (by kernel_rfl) ?_
     exact Gt 0 [] (ah3)
    ·replace heq:=A6 M5 heq
     refine Zu 90 (congrArg Value.bool M5) ?_
     obtain ⟨ha5,ah1,hK5,aC6⟩:=l8.get hx1
     obtain ⟨G3,G4,rfl,hc5,hr5⟩:=Y7 hK5
     obtain ⟨ha6,ai0,hK6,ar4⟩:=u9.get w6
     obtain ⟨X6,X7,rfl,hc6,hr6⟩:=Y7 hK6
     refine Zr [29,30,31,32,33,34,35,36,37,38,39,40] 3 [bx 1 3,nx ha5 hx1,er aC6 2 1,bx 0 3,nx ha6 w6,er ar4 2 1] (Pk 2 [0,1]) (Pk 2 [0,1]) ?_
     obtain ⟨y1,hy1,heq⟩:=bind_some heq
     refine Dz 41 (o9 103 (bH6 hy1 (Rw.of hr5) hc5 rfl (Rw.of hr6) hc6 rfl)) ?_
     rintro _ _ _ _ ⟨_,rfl,rfl,rfl,rfl⟩
     refine ⟨fun _ w hh=>⟨fun _=>(Pk 2 [0,1]) w hh,fun _=>(Pk 2 [0,1]) w hh,(fun h=>by cases h)⟩,?_⟩
     refine Zr [42,43] 0 [] (Pk 2 [0,1]) (Pk 2 [0,1]) ?_
     obtain rfl:=Option.some.inj heq
     refine o5.done (by kernel_rfl) ?_
     exact Gt 0 [] (ah3)
  ·intro F2 heq
   refine An 2 ?_
   exact Gt 2 [] (he2 heq)
theorem P0.D7 {r:Bool}:∀ (a0:Cache) (e6:Option Addr) (e8:Nat) (e3:Option Addr) (e4:Nat) (a1:Cache) (am2:Option Addr) (am3:Nat) (n3:Option Addr) (n4 g1 g2:Nat) ,Rw j7 H F e6 a0.U→a0.U.length≤e8→Rw k5 H F e3 a0.Entries→a0.Entries.length≤e4→Rw j7 H F am2 a1.U→a1.U.length≤am3→Rw k5 H F n3 a1.Entries→a1.Entries.length≤n4→P0.e1 a0 a1=some r→b8 aU5 (aU6 F H r) H w0 [.c [1,1,1,0,0],.c [1,1,1,0,1],.c [1,1,1,1]] [(2,pg g1 0),(3,pg g2 0)] H ((some (g2,.cells #[iv a1.Room,iv a1.c4,.slice am2 a1.U.length am3,.slice n3 a1.Entries.length n4] 25 (0,0)))::(some (g1,.cells #[iv a0.Room,iv a0.c4,.slice e6 a0.U.length e8,.slice e3 a0.Entries.length e4] 25 (0,0)))::F):=by
 intro a0 e6 e8 e3 e4 a1 am2 am3 n3 n4 g1 g2 n9 s7 l8 q8 aN0 aR2 u9 y6 heq
 unfold P0.e1 at heq
 refine Sa 0<|Zd 1<|An 2 ?_
 exact Gt 0 [] (((P0.av4 (e2:=P0.e2) (P0.az5)) n8) a0 _ _ _ _ a1 _ _ _ _ _ _ 0 n9 s7 l8 q8 aN0 aR2 u9 y6 heq)
theorem P0.aL6 {r:Bool} (e1:Cache→Cache→Option Bool)
  (D4:∀ (a0:Cache) (e6:Option Addr) (e8:Nat) (e3:Option Addr) (e4:Nat) (a1:Cache) (am2:Option Addr) (am3:Nat) (n3:Option Addr) (n4 g1 g2:Nat) ,Rw j7 H F e6 a0.U→a0.U.length≤e8→Rw k5 H F e3 a0.Entries→a0.Entries.length≤e4→Rw j7 H F am2 a1.U→a1.U.length≤am3→Rw k5 H F n3 a1.Entries→a1.Entries.length≤n4→e1 a0 a1=some r→b8 aU5 (aU6 F H r) H w0 [.c [1,1,1,0,0],.c [1,1,1,0,1],.c [1,1,1,1]] [(2,pg g1 0),(3,pg g2 0)] H ((some (g2,.cells #[iv a1.Room,iv a1.c4,.slice am2 a1.U.length am3,.slice n3 a1.Entries.length n4] 25 (0,0)))::(some (g1,.cells #[iv a0.Room,iv a0.c4,.slice e6 a0.U.length e8,.slice e3 a0.Entries.length e4] 25 (0,0)))::F)):∀ (k:Nat),∀ (a0:Cache) (e6:Option Addr) (e8:Nat) (e3:Option Addr) (e4:Nat) (a1:Cache) (am2:Option Addr) (am3:Nat) (n3:Option Addr) (n4 g1 g2:Nat) (n7:Int) ,Rw j7 H F e6 a0.U→a0.U.length≤e8→Rw k5 H F e3 a0.Entries→a0.Entries.length≤e4→Rw j7 H F am2 a1.U→a1.U.length≤am3→Rw k5 H F n3 a1.Entries→a1.Entries.length≤n4→P0.l4 e1 k a0 a1 n7=some r→b8 aU5 (aU6 F H r) H w0 [.c [1,1,0,1,0,0],.l [1,1,0,1,0,0],.b 0,.c [1,1,1]] [(2,pg g1 0),(3,pg g2 0),(5,iv n7)] H ((some (g2,.cells #[iv a1.Room,iv a1.c4,.slice am2 a1.U.length am3,.slice n3 a1.Entries.length n4] 25 (0,0)))::(some (g1,.cells #[iv a0.Room,iv a0.c4,.slice e6 a0.U.length e8,.slice e3 a0.Entries.length e4] 25 (0,0)))::F):=by
 intro k
 induction k with
 | zero=>intro a0 e6 e8 e3 e4 a1 am2 am3 n3 n4 g1 g2 n7 n9 s7 l8 q8 aN0 aR2 u9 y6 heq; exact nomatch (show (none:Option Bool)=some r from heq)
 | succ k u0 =>
  intro a0 e6 e8 e3 e4 a1 am2 am3 n3 n4 g1 g2 n7 n9 s7 l8 q8 aN0 aR2 u9 y6 heq
  rw [P0.l4] at heq
  refine Sa 2<|Zw 5 [bx 1 2] ?_
  refine Cb heq ?_ ?_
  ·intro R6 heq
   refine An 4<|Sd 0 11 [] [3,3,3,3,3,3,3,3,3,3,3] ?_
   obtain ⟨x3,K8,heq⟩:=bind_some heq
   obtain ⟨ha7,aj9,hK7,bk9⟩:=n9.get K8
   obtain ⟨rfl⟩:=C6 hK7
   obtain ⟨C2,V1,heq⟩:=bind_some heq
   obtain ⟨ha8,ak1,hK8,be2⟩:=aN0.get V1
   obtain ⟨rfl⟩:=C6 hK8
   refine Zr [0,1,2,3,4,5,6,7,8,9,10] 0 ([bx 1 2,nx ha7 K8]++ers bk9 2++[bx 0 2,nx ha8 V1]++ers be2 2) (Pk 2 [0,1]) (Pk 2 [0,1]) ?_
   refine o5.done (by kernel_rfl) ?_
   refine Cb heq ?_ ?_
   ·intro Y1 heq
    refine Sa 1<|Zd 1 ?_
    obtain rfl:=Option.some.inj heq
    refine Up 2 [] ?_
    exact b8.done (by kernel_rfl) Tryz.func8 (v:=.bool false) (by kernel_rfl) ⟨rfl,rfl,rfl⟩
   ·intro Y1 heq
    refine Sa 2<|Zd 3<|An 1 ?_
    exact Gt 0 [] (u0 a0 _ _ _ _ a1 _ _ _ _ _ _ (c5 (n7+1)) n9 s7 l8 q8 aN0 aR2 u9 y6 heq)
  ·intro R6 heq
   refine An 3 ?_
   exact Gt 0 [] (D4 a0 _ _ _ _ a1 _ _ _ _ _ _ n9 s7 l8 q8 aN0 aR2 u9 y6 heq)
theorem cv4 {a0:Cache} {e6:Option Addr} {q2 e8:Nat} {e3:Option Addr} {p7 e4:Nat} {a1:Cache} {am2:Option Addr} {cb3 am3:Nat} {n3:Option Addr} {J3 n4:Nat} {r:Bool} (heq:P0.f a0 a1=some r) (n9:Rw j7 H F e6 a0.U) (s7:q2≤e8) (B9:q2=a0.U.length) (l8:Rw k5 H F e3 a0.Entries) (q8:p7≤e4) (B4:p7=a0.Entries.length) (aN0:Rw j7 H F am2 a1.U) (aR2:cb3≤am3) (dt5:cb3=a1.U.length) (u9:Rw k5 H F n3 a1.Entries) (y6:J3≤n4) (aa5:J3=a1.Entries.length):z7 Tryz.prog 8 #[.agg #[iv a0.Room,iv a0.c4,.slice e6 q2 e8,.slice e3 p7 e4],.agg #[iv a1.Room,iv a1.c4,.slice am2 cb3 am3,.slice n3 J3 n4]] H w0 (F) (aU6 F H r):=by
 refine Co aU5 Tryz.func8 Tryz.ntmps8 ?_
 subst B9
 subst B4
 subst dt5
 subst aa5
 unfold P0.f at heq
 refine Sa 1 ?_
 refine c6.e5 (j6.new (d:=2) (v:=fun g=>.pointer (some ⟨g,0,none⟩)) (o:=fun g=>.cells #[iv a0.Room,iv a0.c4,.slice e6 a0.U.length e8,.slice e3 a0.Entries.length e4] 25 (0,0)) (fun g=>by kernel_rfl)) ?_
 rintro _ _ _ _ ⟨g1,rfl,rfl,rfl⟩
 refine c6.e5 (j6.new (d:=3) (v:=fun g=>.pointer (some ⟨g,0,none⟩)) (o:=fun g=>.cells #[iv a1.Room,iv a1.c4,.slice am2 a1.U.length am3,.slice n3 a1.Entries.length n4] 25 (0,0)) (fun g=>by kernel_rfl)) ?_
 rintro _ _ _ _ ⟨g2,rfl,rfl,rfl⟩
 refine Zd 3<|An 2 ?_
 obtain ⟨t1,A9,heq⟩:=bind_some heq
 have ap2:b8 aU5 (aU6 F H r) H w0 [.c [1,0,1],.c [1,1]] [(2,pg g1 0),(3,pg g2 0),(36,.bool t1)] H ((some (g2,.cells #[iv a1.Room,iv a1.c4,.slice am2 a1.U.length am3,.slice n3 a1.Entries.length n4] 25 (0,0)))::(some (g1,.cells #[iv a0.Room,iv a0.c4,.slice e6 a0.U.length e8,.slice e3 a0.Entries.length e4] 25 (0,0)))::F):=by
  refine Cb heq ?_ ?_
  ·intro B3 heq
   refine Sa 1<|Zd 1 ?_
   obtain rfl:=Option.some.inj heq
   refine Up 2 [] ?_
   exact b8.done (by kernel_rfl) Tryz.func8 (v:=.bool false) (by kernel_rfl) ⟨rfl,rfl,rfl⟩
  ·intro B3 heq
   refine Sa 3<|Zd 1<|An 2 ?_
   exact Gt 0 [] (((P0.aL6 (e1:=P0.e1) (P0.D7)) n8) a0 _ _ _ _ a1 _ _ _ _ _ _ 0 n9 s7 l8 q8 aN0 aR2 u9 y6 heq)
 replace heq:=A9
 refine Sa 0<|Zv 6 [bx 1 0,bx 0 0] ?_
 rcases y9 (a0.Room != a1.Room) with o8 | o8
 ·replace heq:=A5 o8 heq
  refine Zs 12 (congrArg Value.bool o8)<|Zk 30 ?_
  obtain rfl:=Option.some.inj heq
  refine Dn ?_
  exact Gt 0 [] (ap2)
 ·replace heq:=A6 o8 heq
  refine Zs 12 (congrArg Value.bool o8)<|Zv 13 [bx 1 1,bx 0 1] ?_
  rcases y9 (a0.c4 != a1.c4) with s3 | s3
  ·replace heq:=A5 s3 heq
   refine Zs 19 (congrArg Value.bool s3)<|Zk 30 ?_
   obtain rfl:=Option.some.inj heq
   refine Dn ?_
   exact Gt 0 [] (ap2)
  ·replace heq:=A6 s3 heq
   refine Zs 19 (congrArg Value.bool s3)<|Zv 22 [bx 1 2,bx 0 2] ?_
   rcases y9 ((a0.U.length:Int) != (a1.U.length:Int)) with x7 | x7
   ·replace heq:=A5 x7 heq
    refine Zs 28 (congrArg Value.bool x7)<|Zk 30 ?_
    obtain rfl:=Option.some.inj heq
    refine Dn ?_
    exact Gt 0 [] (ap2)
   ·replace heq:=A6 x7 heq
    refine Zs 28 (congrArg Value.bool x7)<|Zv 30 [bx 1 3,bx 0 3] ?_
    obtain rfl:=Option.some.inj heq
    refine Dn ?_
    exact Gt 0 [] (ap2)
noncomputable def bz0:Ctx:={ P:=Tryz.prog,f:=9,N:=56,c:=C1 Tryz.f9 }
def bz1 (F:List Ch) (H0:Hp) (r:Bool) (v:Value) (H:Hp) (cs:List Ch):Prop:=H0=H∧v=.bool r∧F=cs
theorem ag3.D7 {r:Bool}:ag3.e1=some r→b8 bz0 (bz1 F H r) H w0 [.c [1,1,1,0],.c [1,1,1,1]] [] H (F):=by
 intro   heq
 unfold ag3.e1 at heq
 refine Sa 0<|Zd 1 ?_
 obtain rfl:=Option.some.inj heq
 exact b8.done (by kernel_rfl) Tryz.func9 (v:=.bool true) (by kernel_rfl) ⟨rfl,rfl,rfl⟩
theorem ag3.F9 {r:Bool} (e1:Option Bool)
  (D4:e1=some r→b8 bz0 (bz1 F H r) H w0 [.c [1,1,1,0],.c [1,1,1,1]] [] H (F)):∀ (k:Nat),∀ (a0:List k6) (e7:Option Addr) (c8:Nat) (a1:List k6) (p8:Option Addr) (q7:Nat) (n7:Int) ,Rw X9 H F e7 a0→a0.length≤c8→Rw X9 H F p8 a1→a1.length≤q7→ag3.l2 e1 k a0 a1 n7=some r→b8 bz0 (bz1 F H r) H w0 [.c [1,1,0,1,0,0],.l [1,1,0,1,0,0],.b 0,.c [1,1,1]] [(0,.slice e7 a0.length c8),(1,.slice p8 a1.length q7),(5,iv n7)] H (F):=by
 intro k
 induction k with
 | zero=>intro a0 e7 c8 a1 p8 q7 n7 B6 G9 p0 C5 heq; exact nomatch (show (none:Option Bool)=some r from heq)
 | succ k u0 =>
  intro a0 e7 c8 a1 p8 q7 n7 B6 G9 p0 C5 heq
  rw [ag3.l2] at heq
  refine Sa 2<|Zd 4 ?_
  refine Cb heq ?_ ?_
  ·intro s3 heq
   refine An 4 ?_
   obtain ⟨t1,A9,heq⟩:=bind_some heq
   have Z0:b8 bz0 (bz1 F H r) H w0 [.c [1,1,0,1,0,0,1,0,0,1],.b 1,.c [1,1,0,1,0,0,1,1],.l [1,1,0,1,0,0],.b 0,.c [1,1,1]] [(0,.slice e7 a0.length c8),(1,.slice p8 a1.length q7),(5,iv n7),(55,.bool t1)] H (F):=by
    refine Cb heq ?_ ?_
    ·intro F2 heq
     refine Sa 1<|Zd 1 ?_
     obtain rfl:=Option.some.inj heq
     exact b8.done (by kernel_rfl) Tryz.func9 (v:=.bool false) (by kernel_rfl) ⟨rfl,rfl,rfl⟩
    ·intro F2 heq
     refine Sa 2<|Zd 3<|An 1 ?_
     exact Gt 0 [] (u0 a0 _ _ a1 _ _ (c5 (n7+1)) B6 G9 p0 C5 heq)
   replace heq:=A9
   refine Sd 0 39 [] [3,3,3,3,3,3,3,3,3,3,3,3,3,3,3,3,3,3,3,3,3,3,0,3,3,3,3,3,3,3,3,3,3,3,3,3,0,3,3] ?_
   obtain ⟨x1,hx1,heq⟩:=bind_some heq
   obtain ⟨A7,I1,B1,B2⟩:=B6.get hx1
   obtain ⟨A1,c1,aa3,c2,rfl,hc1,I0,N9,hr2⟩:=bd1 B1
   obtain ⟨x2,w6,heq⟩:=bind_some heq
   obtain ⟨J2,T7,I8,J7⟩:=p0.get w6
   obtain ⟨aa8,c3,aa9,y8,rfl,hc3,hr3,hc4,hr4⟩:=bd1 I8
   refine Zr [0,1,2,3,4,5,6,7,8,9,10,11] 27 [nx A7 hx1,er B2 0 0,nx J2 w6,er J7 0 0] (Pk 0 []) (Pk 0 []) ?_
   rcases y9 (!(x1.x8 == x2.x8)) with x7 | x7
   ·replace heq:=A5 x7 heq
    refine Zu 28 (congrArg Value.bool x7)<|Zr [12,13,14,15,16,17,18,19,20,21,22,23,24,25,26,27,28,29,30,31,32,33,34,35,36,37,38] 0 [] (Pk 0 []) (Pk 0 []) ?_
    obtain rfl:=Option.some.inj heq
    refine o5.done (by kernel_rfl) ?_
    exact Gt 0 [] (Z0)
   ·replace heq:=A6 x7 heq
    refine Zu 28 (congrArg Value.bool x7) ?_
    obtain ⟨W1,ae3,Q4,ad7⟩:=B6.get hx1
    obtain ⟨G3,G4,X6,X7,rfl,hc5,hr5,hc6,hr6⟩:=bd1 Q4
    obtain ⟨ha4,af1,hK4,af9⟩:=p0.get w6
    obtain ⟨af6,c7,A8,an2,rfl,hc7,hr7,hc8,hr8⟩:=bd1 hK4
    refine Zr [12,13,14,15,16,17,18,19,20,21] 17 [nx W1 hx1,er ad7 0 1,nx ha4 w6,er af9 0 1] (Pk 0 []) (Pk 0 []) ?_
    obtain ⟨y1,hy1,heq⟩:=bind_some heq
    refine Dz 22 (o9 39 (bH6 hy1 (Rw.of hr5) hc5 rfl (Rw.of hr7) hc7 rfl)) ?_
    rintro _ _ _ _ ⟨_,rfl,rfl,rfl,rfl⟩
    refine ⟨fun _ w hh=>⟨fun _=>(Pk 0 []) w hh,fun _=>(Pk 0 []) w hh,(fun h=>by cases h)⟩,?_⟩
    refine Zr [23,24,25] 13 [] (Pk 0 []) (Pk 0 []) ?_
    rcases y9 (!y1) with B3 | B3
    ·replace heq:=A5 B3 heq
     refine Zu 42 (congrArg Value.bool B3)<|Zr [26,27,28,29,30,31,32,33,34,35,36,37,38] 0 [] (Pk 0 []) (Pk 0 []) ?_
     obtain rfl:=Option.some.inj heq
     refine o5.done (by kernel_rfl) ?_
     exact Gt 0 [] (Z0)
    ·replace heq:=A6 B3 heq
     refine Zu 42 (congrArg Value.bool B3) ?_
     obtain ⟨ha5,ah1,hK5,aC6⟩:=B6.get hx1
     obtain ⟨an3,an4,A10,c10,rfl,hc9,hr9,dt8,dt9⟩:=bd1 hK5
     obtain ⟨ha6,ai0,hK6,ar4⟩:=p0.get w6
     obtain ⟨A11,c11,A12,c12,rfl,dy8,dy9,du0,du1⟩:=bd1 hK6
     refine Zr [26,27,28,29,30,31,32,33,34,35] 3 [nx ha5 hx1,er aC6 0 2,nx ha6 w6,er ar4 0 2] (Pk 0 []) (Pk 0 []) ?_
     obtain ⟨y2,hy2,heq⟩:=bind_some heq
     refine Dz 36 (o9 53 (bH6 hy2 (Rw.of dt9) dt8 rfl (Rw.of du1) du0 rfl)) ?_
     rintro _ _ _ _ ⟨_,rfl,rfl,rfl,rfl⟩
     refine ⟨fun _ w hh=>⟨fun _=>(Pk 0 []) w hh,fun _=>(Pk 0 []) w hh,(fun h=>by cases h)⟩,?_⟩
     refine Zr [37,38] 0 [] (Pk 0 []) (Pk 0 []) ?_
     obtain rfl:=Option.some.inj heq
     refine o5.done (by kernel_rfl) ?_
     exact Gt 0 [] (Z0)
  ·intro s3 heq
   refine An 2 ?_
   exact Gt 0 [] (D4 heq)
theorem dd7 {a0:List k6} {e7:Option Addr} {s0 c8:Nat} {a1:List k6} {p8:Option Addr} {G7 q7:Nat} {r:Bool} (heq:ag3.f a0 a1=some r) (B6:Rw X9 H F e7 a0) (G9:s0≤c8) (L8:s0=a0.length) (p0:Rw X9 H F p8 a1) (C5:G7≤q7) (X8:G7=a1.length):z7 Tryz.prog 9 #[.slice e7 s0 c8,.slice p8 G7 q7] H w0 (F) (bz1 F H r):=by
 refine Co bz0 Tryz.func9 Tryz.ntmps9 ?_
 subst L8
 subst X8
 unfold ag3.f at heq
 refine Sa 1<|Zd 1<|Sa 2<|Zd 5 ?_
 refine Cb heq ?_ ?_
 ·intro o8 heq
  refine Sa 1<|Zd 1 ?_
  obtain rfl:=Option.some.inj heq
  exact b8.done (by kernel_rfl) Tryz.func9 (v:=.bool false) (by kernel_rfl) ⟨rfl,rfl,rfl⟩
 ·intro o8 heq
  refine Sa 3<|Zd 1<|An 2 ?_
  exact Gt 0 [] (((ag3.F9 (e1:=ag3.e1) (ag3.D7)) n8) a0 _ _ a1 _ _ 0 B6 G9 p0 C5 heq)
noncomputable def C22:Ctx:={ P:=Tryz.prog,f:=22,N:=22,c:=C1 Tryz.f22 }
def S22 (F:List Ch) (H0:Hp) (ga3:Nat) (ga4:Nat) (r:Int × Int) (v:Value) (H:Hp) (cs:List Ch):Prop:=H0=H∧v=.tuple #[]∧some (ga3,.cells #[iv r.1] 3 (0,0))::some (ga4,.cells #[iv r.2] 3 (0,0))::F=cs
theorem au8.ad6 {r:Int × Int}:∀ (ga3 ga4:Nat) (bz2 bz3:Int) ,au8.j1 bz2 bz3=some r→b8 C22 (S22 F H ga3 ga4 r) H w0 [] [(3,pg ga3 0),(4,pg ga4 0)] H ((some (ga3,.cells #[iv bz2] 3 (0,0)))::(some (ga4,.cells #[iv bz3] 3 (0,0)))::F):=by
 intro ga3 ga4 bz2 bz3  heq
 unfold au8.j1 at heq
 obtain rfl:=Option.some.inj heq
 exact b8.done (by kernel_rfl) Tryz.func22 (v:=.tuple #[]) (by kernel_rfl) ⟨rfl,rfl,rfl⟩
theorem db7 {a0:Cache} {e6:Option Addr} {q2 e8:Nat} {e3:Option Addr} {p7 e4:Nat} {a1:k7} {n3:Option Addr} {J3 n4:Nat} {a2:k6} {aC0:Option Addr} {aK9 aC1:Nat} {aC2:Option Addr} {aL0 aC3 ga3:Nat} {a3:Int} {ga4:Nat} {a4:Int} {r:Int × Int} (heq:au8.f a0 a1 a2 a3 a4=some r) (n9:Rw j7 H F e6 a0.U) (s7:q2≤e8) (B9:q2=a0.U.length) (l8:Rw k5 H F e3 a0.Entries) (q8:p7≤e4) (B4:p7=a0.Entries.length) (u9:Rw Kd.string H F n3 a1.j9) (y6:J3≤n4) (aa5:J3=a1.j9.length) (bW6:Rw Kd.string H F aC0 a2.x5) (bW7:aK9≤aC1) (bs4:aK9=a2.x5.length) (bW8:Rw Kd.string H F aC2 a2.x4) (bW9:aL0≤aC3) (bs5:aL0=a2.x4.length):z7 Tryz.prog 22 #[.agg #[iv a0.Room,iv a0.c4,.slice e6 q2 e8,.slice e3 p7 e4],.agg #[iv a1.Kind,iv a1.At,.string a1.b7,.slice n3 J3 n4,.string a1.Key,iv a1.j4],.agg #[.bool a2.x8,.slice aC0 aK9 aC1,.slice aC2 aL0 aC3],.pointer (some ⟨ga3,0,none⟩),.pointer (some ⟨ga4,0,none⟩)] H w0 ((some (ga3,.cells #[iv a3] 3 (0,0)))::(some (ga4,.cells #[iv a4] 3 (0,0)))::F) (S22 F H ga3 ga4 r):=by
 refine Co C22 Tryz.func22 Tryz.ntmps22 ?_
 subst B9
 subst B4
 subst aa5
 subst bs4
 subst bs5
 unfold au8.f at heq
 refine Sa 1 ?_
 refine c6.e5 (j6.new (d:=5) (v:=fun g=>.pointer (some ⟨g,0,none⟩)) (o:=fun g=>.cells #[iv a0.Room,iv a0.c4,.slice e6 a0.U.length e8,.slice e3 a0.Entries.length e4] 25 (0,0)) (fun g=>by kernel_rfl)) ?_
 rintro _ _ _ _ ⟨g1,rfl,rfl,rfl⟩
 refine c6.e5 (j6.new (d:=6) (v:=fun g=>.pointer (some ⟨g,0,none⟩)) (o:=fun g=>.cells #[iv a1.Kind,iv a1.At,.string a1.b7,.slice n3 a1.j9.length n4,.string a1.Key,iv a1.j4] 50 (0,0)) (fun g=>by kernel_rfl)) ?_
 rintro _ _ _ _ ⟨g2,rfl,rfl,rfl⟩
 refine c6.e5 (j6.new (d:=7) (v:=fun g=>.pointer (some ⟨g,0,none⟩)) (o:=fun g=>.cells #[.bool a2.x8,.slice aC0 a2.x5.length aC1,.slice aC2 a2.x4.length aC3] 54 (0,0)) (fun g=>by kernel_rfl)) ?_
 rintro _ _ _ _ ⟨g3,rfl,rfl,rfl⟩
 refine Dn<|An 1 ?_
 obtain ⟨t1,A9,heq⟩:=bind_some heq
 have ai8:b8 C22 (S22 F H ga3 ga4 r) H w0 [.c [1,1]] [(3,pg ga3 0),(4,pg ga4 0),(7,pg g3 0),(15,.bool t1)] H ((some (g3,.cells #[.bool a2.x8,.slice aC0 a2.x5.length aC1,.slice aC2 a2.x4.length aC3] 54 (0,0)))::(some (ga3,.cells #[iv a3] 3 (0,0)))::(some (ga4,.cells #[iv a4] 3 (0,0)))::F):=by
  refine Cb heq ?_ ?_
  ·intro s3 heq
   refine Sa 1<|Zv 2 [bx 1 0] ?_
   refine c6.e5 (j6.store (k:=1) (g:=ga3) (off:=0) (v:=iv (c5 (a3+1))) (cells':=#[iv (c5 (a3+1))]) (by kernel_rfl) rfl (by kernel_rfl) (by kernel_rfl)) ?_
   rintro _ _ _ _ ⟨rfl,rfl,rfl⟩
   refine c6.p6 ?_
   refine Dn<|Sa 1<|Zw 2 [bx 0 0] ?_
   refine Cb heq ?_ ?_
   ·intro x7 heq
    refine Sa 0<|Zv 2 [bx 2 0] ?_
    refine c6.e5 (j6.store (k:=2) (g:=ga4) (off:=0) (v:=iv (c5 (a4+1))) (cells':=#[iv (c5 (a4+1))]) (by kernel_rfl) rfl (by kernel_rfl) (by kernel_rfl)) ?_
    rintro _ _ _ _ ⟨rfl,rfl,rfl⟩
    refine c6.p6 ?_
    refine Dn ?_
    exact Gt 1 [] ((au8.ad6) _ _ (c5 (a3+1)) (c5 (a4+1)) heq)
   ·intro x7 heq
    refine An 1 ?_
    exact Gt 1 [] ((au8.ad6) _ _ (c5 (a3+1)) a4 heq)
  ·intro s3 heq
   refine An 1 ?_
   exact Gt 1 [] ((au8.ad6) _ _ a3 a4 heq)
 replace heq:=A9
 refine Sa 0<|Zv 4 [bx 1 0] ?_
 rcases y9 (a1.Kind == 2) with o8 | o8
 ·replace heq:=A5 o8 heq
  refine Zs 11 (congrArg Value.bool o8)<|Zk 8 ?_
  obtain rfl:=Option.some.inj heq
  refine Dn ?_
  exact Gt 3 [0] (ai8)
 ·replace heq:=A6 o8 heq
  refine Zs 11 (congrArg Value.bool o8)<|Zv 8 [bx 1 0] ?_
  obtain rfl:=Option.some.inj heq
  refine Dn ?_
  exact Gt 3 [0] (ai8)
end Go.Proofs.YtiecpfnjmlidbaaGreatDoor
