/- What the machine's calls of these functions come to: just what the plain functions say. Written by program. -/
import Derived.Test.YtiecpfnjmlidbaaGreatDoorProg
import Derived.Test.YtiecpfnjmlidbaaGreatDoorKitXi
import Derived.Test.YtiecpfnjmlidbaaGreatDoorZD
import Derived.Test.YtiecpfnjmlidbaaGreatDoorShelf
import Derived.Test.YtiecpfnjmlidbaaGreatDoorZ3M1
set_option linter.unusedVariables false
set_option linter.unnecessarySimpa false
set_option linter.unusedSimpArgs false
set_option maxRecDepth 100000
set_option maxHeartbeats 1000000
namespace Go.Proofs.YtiecpfnjmlidbaaGreatDoor
open Go Go.RowKit Go.Proofs.YtiecpfnjmlidbaaGreatDoor.Kit
variable {w0 : World} {H0 H : Hp} {F : List Ch}
noncomputable def dm6:Ctx:={ P:=Tryz.prog,f:=42,N:=99,c:=C1 Tryz.f42 }
def dm7 (F:List Ch) (H0:Hp) (c9:Nat) (r:k6 × Int × Cache) (v:Value) (H:Hp) (cs:List Ch):Prop:=∃ (Z8:Option Addr) (Z9:Nat) (aa0:Ch) (E7:Option Addr) (E8:Nat) (F1:Ch) (ap5:Option Addr) (ap6:Nat) (ap7:Ch) (ap8:Option Addr) (ap9:Nat) (aq0:Ch),H0=H∧v=.tuple #[.agg #[.bool r.1.x8,.slice Z8 r.1.x5.length Z9,.slice E7 r.1.x4.length E8],iv r.2.1]∧aa0::F1::some (c9,.cells #[iv r.2.2.Room,iv r.2.2.c4,.slice ap5 r.2.2.U.length ap6,.slice ap8 r.2.2.Entries.length ap9] 25 (0,0))::ap7::aq0::F=cs∧b6 Kd.string 9 H Z8 Z9 r.1.x5 aa0∧b6 Kd.string 9 H E7 E8 r.1.x4 F1∧b6 j7 44 H ap5 ap6 r.2.2.U ap7∧b6 k5 47 H ap8 ap9 r.2.2.Entries aq0
theorem dm8 {c9:Nat} {a0:Cache} {e6:Option Addr} {q2 e8:Nat} {s8:Ch} {e3:Option Addr} {p7 e4:Nat} {p5:Ch} {a1:k7} {n3:Option Addr} {J3 n4:Nat} {r:k6 × Int × Cache} (heq:aS3.f a0 a1=some r) (q6:b6 j7 44 H e6 e8 a0.U s8) (B9:q2=a0.U.length) (p9:b6 k5 47 H e3 e4 a0.Entries p5) (B4:p7=a0.Entries.length) (u9:Rw Kd.string H F n3 a1.j9) (y6:J3≤n4) (aa5:J3=a1.j9.length):z7 Tryz.prog 42 #[.pointer (some ⟨c9,0,none⟩),.agg #[iv a1.Kind,iv a1.At,.string a1.b7,.slice n3 J3 n4,.string a1.Key,iv a1.j4]] H w0 ((some (c9,.cells #[iv a0.Room,iv a0.c4,.slice e6 q2 e8,.slice e3 p7 e4] 25 (0,0)))::s8::p5::F) (dm7 F H c9 r):=by
 refine Co dm6 Tryz.func42 Tryz.ntmps42 ?_
 subst B9
 subst B4
 subst aa5
 unfold aS3.f at heq
 refine Sa 1 ?_
 refine c6.e5 (j6.new (d:=3) (v:=fun g=>.pointer (some ⟨g,0,none⟩)) (o:=fun g=>.cells #[iv a1.Kind,iv a1.At,.string a1.b7,.slice n3 a1.j9.length n4,.string a1.Key,iv a1.j4] 50 (0,0)) (fun g=>by kernel_rfl)) ?_
 rintro _ _ _ _ ⟨g1,rfl,rfl,rfl⟩
 refine c6.e5 (j6.new (d:=4) (v:=fun g=>.pointer (some ⟨g,0,none⟩)) (o:=fun g=>.cells #[.bool false,.slice none 0 0,.slice none 0 0] 54 (0,0)) (fun g=>by kernel_rfl)) ?_
 rintro _ _ _ _ ⟨g2,rfl,rfl,rfl⟩
 refine Zd 3<|An 1<|Sd 0 11 [] [3,3,3,3,3,0,3,3,3,3,3]<|Zr [0,1,2,3,4] 6 (C8 2++[bx 1 2]) (Pk 5 [0,1,2,3,4]) (Pk 5 [0,1,2,3,4]) ?_
 obtain ⟨y1,hy1,heq⟩:=bind_some heq
 refine Dz 5 (o9 16 (bk4 hy1 (q6.rw (.tail _ (.tail _ (.tail _ (.head _))))) q6.cap rfl (p9.rw (.tail _ (.tail _ (.tail _ (.tail _ (.head _)))))) p9.cap rfl)) ?_
 rintro _ _ _ _ ⟨_,rfl,rfl,rfl,rfl⟩
 refine ⟨fun _ w hh=>⟨fun _=>(Pk 5 [0,1,2,3,4]) w hh,fun _=>(Pk 5 [0,1,2,3,4]) w hh,(fun h=>by cases h)⟩,?_⟩
 refine Zr [6,7,8,9,10] 0 [] (Pk 5 [0,1,2,3,4]) (Pk 5 [0,1,2,3,4]) ?_
 refine o5.done (by kernel_rfl) ?_
 refine Sa 2<|Zd 1 ?_
 refine Cb heq ?_ ?_
 ·intro o8 heq
  refine An 2<|Sd 0 11 [] [3,3,3,3,3,3,3,3,3,3,3] ?_
  obtain ⟨x1,hx1,heq⟩:=bind_some heq
  obtain ⟨A7,I1,B1,B2⟩:=q6.get hx1
  obtain ⟨rfl⟩:=C6 B1
  refine Zr [0,1,2,3,4,5,6,7,8,9,10] 0 [bx 2 2,nx A7 hx1,el B2 3 1,bx 1 5] (Pk 5 [0,1,2,3,4]) (Pk 5 [0,1,2,3,4]) ?_
  refine o5.done (by kernel_rfl) ?_
  refine Cb heq ?_ ?_
  ·intro s3 heq
   refine Sa 1<|Zk 1 ?_
   refine c6.e5 (j6.store (k:=0) (g:=g2) (off:=0) (v:=.agg #[.bool false,.slice none 0 0,.slice none 0 0]) (cells':=#[.bool false,.slice none 0 0,.slice none 0 0]) (by kernel_rfl) rfl (by kernel_rfl) (by kernel_rfl)) ?_
   rintro _ _ _ _ ⟨rfl,rfl,rfl⟩
   refine c6.p6 ?_
   refine Zd 3<|b8.w5 ?_
   have r8:b6 Kd.string 9 H none 0 ([]:List ByteArray) none:=b6.nil
   refine b8.w5 ?_
   have w8:b6 Kd.string 9 H none 0 ([]:List ByteArray) none:=b6.nil
   obtain rfl:=Option.some.inj heq
   refine Up 4 [2,1,0] ?_
   exact b8.I3 1 (vs:=[.agg #[.bool false,.slice none 0 0,.slice none 0 0],iv 12]) (v:=.tuple #[.agg #[.bool false,.slice none 0 0,.slice none 0 0],iv 12]) (by kernel_rfl) Tryz.func42 (fun w hh=>show G2 _ _ _ [.cell 4 54,.tmp 5] _ from ⟨⟨⟨g2,0,none⟩,by kernel_rfl,F5 _ (vs:=[.bool false,.slice none 0 0,.slice none 0 0]) (r:=[]) (es:=[.load ⟨g2,0,none⟩ (.bool false),.load ⟨g2,1,none⟩ (.slice none 0 0),.load ⟨g2,2,none⟩ (.slice none 0 0)]) (by kernel_rfl) ⟨(hh.box 0 rfl rfl),(hh.box 0 rfl rfl),(hh.box 0 rfl rfl)⟩⟩,(show lk _ _=some _ by kernel_rfl),trivial⟩) rfl (cs':=none::none::(some (c9,.cells #[iv a0.Room,iv a0.c4,.slice e6 a0.U.length e8,.slice e3 a0.Entries.length e4] 25 (0,0)))::s8::p5::F) rfl ⟨none,0,none,none,0,none,e6,e8,s8,e3,e4,p5,rfl,rfl,rfl,r8,w8,q6,p9⟩
  ·intro s3 heq
   refine Sa 2<|Zv 3 [bx 1 2] ?_
   refine c6.e5 (j6.new (d:=35) (v:=fun g=>.slice (some ⟨g,0,none⟩) 1 1) (o:=fun g=>.cells #[.string a1.b7] 9 (0,0)) (fun g=>by kernel_rfl)) ?_
   rintro _ _ _ _ ⟨g3,rfl,rfl,rfl⟩
   have w4:b6 Kd.string 9 H (some ⟨g3,0,none⟩) 1 ([a1.b7]:List ByteArray) (some (g3,.cells #[.string a1.b7] 9 (0,0))):=b6.lit (xs:=([a1.b7]:List ByteArray)) (by kernel_rfl) (Nat.le_of_ble_eq_true (by kernel_rfl)) (Kd.q9.scalars rfl)
   refine Zv 6 [bx 2 1]<|Ug 6 [3,4,5,0,1,2] ?_
   obtain ⟨y2,hy2,heq⟩:=bind_some heq
   refine c6.e5 (o9 38 (bv4 hy2 q6 rfl p9 rfl (w4.rw (.head _)) w4.cap rfl)) ?_
   rintro _ _ _ _ ⟨_,rfl,A1,c1,r9,aa3,c2,B5,rfl,rfl,rfl,C9,H7⟩
   refine Dn<|Sa 1<|Zk 1 ?_
   refine c6.e5 (j6.store (k:=4) (g:=g2) (off:=0) (v:=.agg #[.bool true,.slice none 0 0,.slice none 0 0]) (cells':=#[.bool true,.slice none 0 0,.slice none 0 0]) (by kernel_rfl) rfl (by kernel_rfl) (by kernel_rfl)) ?_
   rintro _ _ _ _ ⟨rfl,rfl,rfl⟩
   refine c6.p6 ?_
   refine Zd 3<|b8.w5 ?_
   have O4:b6 Kd.string 9 H none 0 ([]:List ByteArray) none:=b6.nil
   refine b8.w5 ?_
   have O3:b6 Kd.string 9 H none 0 ([]:List ByteArray) none:=b6.nil
   obtain rfl:=Option.some.inj heq
   refine Up 8 [6,1,0,2,3,4] ?_
   exact b8.I3 1 (vs:=[.agg #[.bool true,.slice none 0 0,.slice none 0 0],iv 0]) (v:=.tuple #[.agg #[.bool true,.slice none 0 0,.slice none 0 0],iv 0]) (by kernel_rfl) Tryz.func42 (fun w hh=>show G2 _ _ _ [.cell 4 54,.tmp 5] _ from ⟨⟨⟨g2,0,none⟩,by kernel_rfl,F5 _ (vs:=[.bool true,.slice none 0 0,.slice none 0 0]) (r:=[]) (es:=[.load ⟨g2,0,none⟩ (.bool true),.load ⟨g2,1,none⟩ (.slice none 0 0),.load ⟨g2,2,none⟩ (.slice none 0 0)]) (by kernel_rfl) ⟨(hh.box 0 rfl rfl),(hh.box 0 rfl rfl),(hh.box 0 rfl rfl)⟩⟩,(show lk _ _=some _ by kernel_rfl),trivial⟩) rfl (cs':=none::none::(some (c9,.cells #[iv y2.Room,iv y2.c4,.slice A1 y2.U.length c1,.slice aa3 y2.Entries.length c2] 25 (0,0)))::r9::B5::F) rfl ⟨none,0,none,none,0,none,A1,c1,r9,aa3,c2,B5,rfl,rfl,rfl,O4,O3,C9,H7⟩
 ·intro o8 heq
  refine An 2<|Sd 5 16 [0,1] [3,3,3,3,0,3,3,3,3,3,1,3,3,3,3,3]<|Zr [0] 15 [] (Pk 5 [0,1,2,3,4]) (Pk 5 [0,1])<|Zt [1,2,3,5,6,8] 9 [bx 1 5] (Pk 5 [0,1])<|Zr [9] 8 [bx 1 1] (Pk 5 [0,1,2,3,4]) (Pk 5 [0,1]) ?_
  refine Dz 4 (j6.aw6 (d:=45) (v:=iv a0.Room) (vs:=[iv a0.Room]) (G8:=[.load ⟨c9,0,none⟩ (iv a0.Room)]) (by kernel_rfl) (fun w hh=>(hh.box 2 rfl rfl))) ?_
  rintro _ _ _ _ ⟨rfl,rfl,rfl⟩
  refine ⟨fun _ w hh=>⟨fun _=>(Pk 5 [0,1,2,3,4]) w hh,fun _=>(Pk 5 [0,1]) w hh,(fun h=>by cases h)⟩,?_⟩
  refine Zr [7] 6 [] (Pk 5 [0,1,2,3,4]) (Pk 5 [0,1])<|Ur 5 [2,3,4,0,1] ?_
  obtain ⟨y3,hy3,heq⟩:=bind_some heq
  refine Dz 10 (o9 51 (dm5 hy3 q6 rfl p9 rfl)) ?_
  rintro _ _ _ _ ⟨_,rfl,aa8,c3,E6,aa9,y8,G6,G3,G4,O2,rfl,rfl,rfl,R5,K4,N0⟩
  refine ⟨fun _ w hh=>⟨(fun h=>by cases h),fun _=>(Pk 6 [4,5]) w hh,(fun h=>by cases h)⟩,?_⟩
  refine Zt [11,12,13,14,15] 0 [] (Pk 6 [4,5]) ?_
  refine o5.done (by kernel_rfl) ?_
  refine Sa 2<|Zd 2 ?_
  refine Cb heq ?_ ?_
  ·intro x7 heq
   refine Sa 1<|Zk 1 ?_
   refine c6.e5 (j6.store (k:=4) (g:=g2) (off:=0) (v:=.agg #[.bool false,.slice none 0 0,.slice none 0 0]) (cells':=#[.bool false,.slice none 0 0,.slice none 0 0]) (by kernel_rfl) rfl (by kernel_rfl) (by kernel_rfl)) ?_
   rintro _ _ _ _ ⟨rfl,rfl,rfl⟩
   refine c6.p6 ?_
   refine Zd 3<|b8.w5 ?_
   have aa4:b6 Kd.string 9 H none 0 ([]:List ByteArray) none:=b6.nil
   refine b8.w5 ?_
   have ae5:b6 Kd.string 9 H none 0 ([]:List ByteArray) none:=b6.nil
   obtain rfl:=Option.some.inj heq
   refine Up 8 [6,1,0,3,4,5] ?_
   exact b8.I3 1 (vs:=[.agg #[.bool false,.slice none 0 0,.slice none 0 0],iv 0]) (v:=.tuple #[.agg #[.bool false,.slice none 0 0,.slice none 0 0],iv 0]) (by kernel_rfl) Tryz.func42 (fun w hh=>show G2 _ _ _ [.cell 4 54,.tmp 5] _ from ⟨⟨⟨g2,0,none⟩,by kernel_rfl,F5 _ (vs:=[.bool false,.slice none 0 0,.slice none 0 0]) (r:=[]) (es:=[.load ⟨g2,0,none⟩ (.bool false),.load ⟨g2,1,none⟩ (.slice none 0 0),.load ⟨g2,2,none⟩ (.slice none 0 0)]) (by kernel_rfl) ⟨(hh.box 0 rfl rfl),(hh.box 0 rfl rfl),(hh.box 0 rfl rfl)⟩⟩,(show lk _ _=some _ by kernel_rfl),trivial⟩) rfl (cs':=none::none::(some (c9,.cells #[iv y3.2.2.Room,iv y3.2.2.c4,.slice aa9 y3.2.2.U.length y8,.slice G3 y3.2.2.Entries.length G4] 25 (0,0)))::G6::O2::F) rfl ⟨none,0,none,none,0,none,aa9,y8,G6,G3,G4,O2,rfl,rfl,rfl,aa4,ae5,K4,N0⟩
  ·intro x7 heq
   refine Sa 3<|Zw 6 [bx 1 2] ?_
   refine Cb heq ?_ ?_
   ·intro B3 heq
    refine Sa 1<|Zk 1 ?_
    refine c6.e5 (j6.store (k:=4) (g:=g2) (off:=0) (v:=.agg #[.bool false,.slice none 0 0,.slice none 0 0]) (cells':=#[.bool false,.slice none 0 0,.slice none 0 0]) (by kernel_rfl) rfl (by kernel_rfl) (by kernel_rfl)) ?_
    rintro _ _ _ _ ⟨rfl,rfl,rfl⟩
    refine c6.p6 ?_
    refine Zd 3<|b8.w5 ?_
    have ar7:b6 Kd.string 9 H none 0 ([]:List ByteArray) none:=b6.nil
    refine b8.w5 ?_
    have aA2:b6 Kd.string 9 H none 0 ([]:List ByteArray) none:=b6.nil
    obtain rfl:=Option.some.inj heq
    refine Up 8 [6,1,0,3,4,5] ?_
    exact b8.I3 1 (vs:=[.agg #[.bool false,.slice none 0 0,.slice none 0 0],iv 16]) (v:=.tuple #[.agg #[.bool false,.slice none 0 0,.slice none 0 0],iv 16]) (by kernel_rfl) Tryz.func42 (fun w hh=>show G2 _ _ _ [.cell 4 54,.tmp 5] _ from ⟨⟨⟨g2,0,none⟩,by kernel_rfl,F5 _ (vs:=[.bool false,.slice none 0 0,.slice none 0 0]) (r:=[]) (es:=[.load ⟨g2,0,none⟩ (.bool false),.load ⟨g2,1,none⟩ (.slice none 0 0),.load ⟨g2,2,none⟩ (.slice none 0 0)]) (by kernel_rfl) ⟨(hh.box 0 rfl rfl),(hh.box 0 rfl rfl),(hh.box 0 rfl rfl)⟩⟩,(show lk _ _=some _ by kernel_rfl),trivial⟩) rfl (cs':=none::none::(some (c9,.cells #[iv y3.2.2.Room,iv y3.2.2.c4,.slice aa9 y3.2.2.U.length y8,.slice G3 y3.2.2.Entries.length G4] 25 (0,0)))::G6::O2::F) rfl ⟨none,0,none,none,0,none,aa9,y8,G6,G3,G4,O2,rfl,rfl,rfl,ar7,aA2,K4,N0⟩
   ·intro B3 heq
    refine An 2<|Sd 0 10 [] [3,3,3,3,3,0,3,3,3,3]<|Zr [0,1,2,3,4] 5 (C8 1++[bx 5 2]) (Pk 6 [0,1,2,3,4,5]) (Pk 6 [0,1,2,3,4,5]) ?_
    obtain ⟨y4,hy4,heq⟩:=bind_some heq
    refine Dz 5 (o9 70 (bk4 hy4 (K4.rw (.tail _ (.tail _ (.head _)))) K4.cap rfl (N0.rw (.tail _ (.tail _ (.tail _ (.head _))))) N0.cap rfl)) ?_
    rintro _ _ _ _ ⟨_,rfl,rfl,rfl,rfl⟩
    refine ⟨fun _ w hh=>⟨fun _=>(Pk 6 [0,1,2,3,4,5]) w hh,fun _=>(Pk 6 [0,1,2,3,4,5]) w hh,(fun h=>by cases h)⟩,?_⟩
    refine Zr [6,7,8,9] 0 [] (Pk 6 [0,1,2,3,4,5]) (Pk 6 [0,1,2,3,4,5]) ?_
    refine o5.done (by kernel_rfl) ?_
    refine An 1<|Sd 3 25 [0,1] [3,3,3,3,3,3,3,3,3,3,3,3,3,3,3,3,3,3,3,3,0,1,1,3,2]<|Zt [0,1,2,3] 21 [] (Pk 6 [0,1,3,4,5])<|Zr [4,5] 19 [bx 1 2] (Pk 6 [0,1,2,3,4,5]) (Pk 6 [0,1,3,4,5])<|Zt [6,7,8,9,10,11,12,13,14,15,16,17,18,19] 5 [bx 4 2,bx 4 5,bx 4 1,bx 4 1,bx 1 1] (Pk 6 [0,1,3,4,5]) ?_
    refine Dz 20 (j6.new (d:=93) (v:=fun g=>.slice (some ⟨g,0,none⟩) 1 1) (o:=fun g=>.cells #[.string a1.b7,iv a1.j4,iv a1.At,iv (c5 (a1.At+y3.2.2.c4)),iv 0] 44 (0,0)) (fun g=>by kernel_rfl)) ?_
    rintro _ _ _ _ ⟨g4,rfl,rfl,rfl⟩
    have aA3:b6 j7 44 H (some ⟨g4,0,none⟩) 1 ([(⟨a1.b7,a1.j4,a1.At,c5 (a1.At+y3.2.2.c4),0⟩:Blob)]:List Blob) (some (g4,.cells #[.string a1.b7,iv a1.j4,iv a1.At,iv (c5 (a1.At+y3.2.2.c4)),iv 0] 44 (0,0))):=b6.lit (xs:=([(⟨a1.b7,a1.j4,a1.At,c5 (a1.At+y3.2.2.c4),0⟩:Blob)]:List Blob)) (by kernel_rfl) (Nat.le_of_ble_eq_true (by kernel_rfl)) (Kd.q9.one af8)
    refine ⟨fun _ w hh=>⟨fun _=>(Pk 7 [1,2,3,4,5,6]) w hh,fun _=>(Pk 7 [1,2,4,5,6]) w hh,(fun h=>by cases h)⟩,?_⟩
    refine Ur 4 [3,0,1,2] ?_
    obtain ⟨A0,hy5,heq⟩:=bind_some heq
    refine Dz 21 (o9 94 (dm4 (a0:=y3.2.2.U) (a1:=y4.1) (a2:=([(⟨a1.b7,a1.j4,a1.At,c5 (a1.At+y3.2.2.c4),0⟩:Blob)]:List Blob)) K4 rfl aA3 rfl hy5)) ?_
    rintro _ _ _ _ ⟨_,rfl,X6,X7,S3,rfl,rfl,rfl,aF4⟩
    refine ⟨fun _ w hh=>⟨(fun h=>by cases h),fun _=>(Pk 6 [1,2,3,4,5]) w hh,(fun h=>by cases h)⟩,?_⟩
    refine Dz 22 (j6.aw6 (d:=95) (v:=.pointer (some ⟨c9,0,none⟩)) (vs:=[]) (G8:=[]) (by kernel_rfl) (fun _ _=>trivial)) ?_
    rintro _ _ _ _ ⟨rfl,rfl,rfl⟩
    refine ⟨fun _ w hh=>⟨(fun h=>by cases h),fun _=>(Pk 6 [1,2,3,4,5]) w hh,(fun h=>by cases h)⟩,?_⟩
    refine Zt [23] 1 [] (Pk 6 [1,2,3,4,5]) ?_
    refine Dz 24 (j6.store (k:=2) (g:=c9) (off:=2) (v:=.slice X6 A0.length X7) (cells':=#[iv y3.2.2.Room,iv y3.2.2.c4,.slice X6 A0.length X7,.slice G3 y3.2.2.Entries.length G4]) (by kernel_rfl) rfl (by kernel_rfl) (by kernel_rfl)) ?_
    rintro _ _ _ _ ⟨rfl,rfl,rfl⟩
    refine ⟨fun _ w hh=>⟨(fun h=>by cases h),(fun h=>absurd h (by decide)),(fun h=>by cases h)⟩,?_⟩
    refine o5.p6 ?_
    refine o5.done (by kernel_rfl) ?_
    refine Sa 1<|Zk 2 ?_
    refine c6.e5 (j6.store (k:=4) (g:=g2) (off:=0) (v:=.agg #[.bool true,.slice none 0 0,.slice aa8 y3.1.length c3]) (cells':=#[.bool true,.slice none 0 0,.slice aa8 y3.1.length c3]) (by kernel_rfl) rfl (by kernel_rfl) (by kernel_rfl)) ?_
    rintro _ _ _ _ ⟨rfl,rfl,rfl⟩
    refine c6.p6 ?_
    refine Zd 4<|b8.w5 ?_
    have aF5:b6 Kd.string 9 H none 0 ([]:List ByteArray) none:=b6.nil
    obtain rfl:=Option.some.inj heq
    refine Up 7 [5,0,2,3,1,4] ?_
    exact b8.I3 1 (vs:=[.agg #[.bool true,.slice none 0 0,.slice aa8 y3.1.length c3],iv 0]) (v:=.tuple #[.agg #[.bool true,.slice none 0 0,.slice aa8 y3.1.length c3],iv 0]) (by kernel_rfl) Tryz.func42 (fun w hh=>show G2 _ _ _ [.cell 4 54,.tmp 5] _ from ⟨⟨⟨g2,0,none⟩,by kernel_rfl,F5 _ (vs:=[.bool true,.slice none 0 0,.slice aa8 y3.1.length c3]) (r:=[]) (es:=[.load ⟨g2,0,none⟩ (.bool true),.load ⟨g2,1,none⟩ (.slice none 0 0),.load ⟨g2,2,none⟩ (.slice aa8 y3.1.length c3)]) (by kernel_rfl) ⟨(hh.box 0 rfl rfl),(hh.box 0 rfl rfl),(hh.box 0 rfl rfl)⟩⟩,(show lk _ _=some _ by kernel_rfl),trivial⟩) rfl (cs':=none::E6::(some (c9,.cells #[iv y3.2.2.Room,iv y3.2.2.c4,.slice X6 A0.length X7,.slice G3 y3.2.2.Entries.length G4] 25 (0,0)))::S3::O2::F) rfl ⟨none,0,none,aa8,c3,E6,X6,X7,S3,G3,G4,O2,rfl,rfl,rfl,aF5,R5,aF4,N0⟩
noncomputable def C44:Ctx:={ P:=Tryz.prog,f:=44,N:=30,c:=C1 Tryz.f44 }
def S44 (F:List Ch) (H0:Hp) (r:(List ByteArray)) (v:Value) (H:Hp) (cs:List Ch):Prop:=∃ (ad8:Option Addr) (c0:Nat) (J6:Ch),H0=H∧v=.slice ad8 r.length c0∧J6::F=cs∧b6 Kd.string 9 H ad8 c0 r J6
theorem U8.D7 {r:(List ByteArray)}:∀ (E9:List ByteArray) (R9:Option Addr) (W5 S0:Nat) (U6:Ch) ,b6 Kd.string 9 H R9 S0 E9 U6→W5=E9.length→U8.e1 E9=some r→b8 C44 (S44 F H r) H w0 [.c [1,1,1,0],.c [1,1,1,1]] [(5,.slice R9 W5 S0)] H (U6::F):=by
 intro E9 R9 W5 S0 U6 av5 aF6 heq
 subst aF6
 unfold U8.e1 at heq
 refine Sa 0<|Zd 2 ?_
 obtain rfl:=Option.some.inj heq
 exact b8.done (by kernel_rfl) Tryz.func44 (v:=.slice R9 E9.length S0) (by kernel_rfl) ⟨R9,S0,U6,rfl,rfl,rfl,av5⟩
theorem U8.ai7 {r:(List ByteArray)} (K5:Cache→(List ByteArray)→(List ByteArray)→Int→Option (List ByteArray))
  (ax7:∀ (a0:Cache) (e6:Option Addr) (e8:Nat) (e3:Option Addr) (e4:Nat) (a1:List ByteArray) (p8:Option Addr) (q7 g1:Nat) (E9:List ByteArray) (R9:Option Addr) (W5 S0:Nat) (U6:Ch) (v12:Int) ,Rw j7 H F e6 a0.U→a0.U.length≤e8→Rw k5 H F e3 a0.Entries→a0.Entries.length≤e4→Rw Kd.string H F p8 a1→a1.length≤q7→b6 Kd.string 9 H R9 S0 E9 U6→W5=E9.length→K5 a0 a1 E9 v12=some r→b8 C44 (S44 F H r) H w0 [.c [1,1,0,1,0,0],.l [1,1,0,1,0,0],.b 0,.c [1,1,1]] [(2,pg g1 0),(5,.slice R9 W5 S0),(10,.slice p8 a1.length q7),(11,iv (a1.length:Int)),(12,iv v12)] H (U6::(some (g1,.cells #[iv a0.Room,iv a0.c4,.slice e6 a0.U.length e8,.slice e3 a0.Entries.length e4] 25 (0,0)))::F)):∀ (a0:Cache) (e6:Option Addr) (e8:Nat) (e3:Option Addr) (e4:Nat) (a1:List ByteArray) (p8:Option Addr) (q7 g1:Nat) (v12:Int) (E9:List ByteArray) (R9:Option Addr) (W5 S0:Nat) (U6:Ch) ,Rw j7 H F e6 a0.U→a0.U.length≤e8→Rw k5 H F e3 a0.Entries→a0.Entries.length≤e4→Rw Kd.string H F p8 a1→a1.length≤q7→b6 Kd.string 9 H R9 S0 E9 U6→W5=E9.length→U8.j3 K5 a0 a1 v12 E9=some r→b8 C44 (S44 F H r) H w0 [.c [1,1,0,1,0,0,1,1,1],.l [1,1,0,1,0,0],.b 0,.c [1,1,1]] [(2,pg g1 0),(5,.slice R9 W5 S0),(10,.slice p8 a1.length q7),(11,iv (a1.length:Int)),(12,iv v12)] H (U6::(some (g1,.cells #[iv a0.Room,iv a0.c4,.slice e6 a0.U.length e8,.slice e3 a0.Entries.length e4] 25 (0,0)))::F):=by
 intro a0 e6 e8 e3 e4 a1 p8 q7 g1 v12 E9 R9 W5 S0 U6 n9 s7 l8 q8 p0 C5 av5 aF6 heq
 subst aF6
 unfold U8.j3 at heq
 refine Sa 0<|Zd 2<|An 1 ?_
 exact Gt 0 [] (ax7 a0 _ _ _ _ a1 _ _ _ E9 _ _ _ _ (c5 (v12+1)) n9 s7 l8 q8 p0 C5 av5 rfl heq)
theorem U8.F9 {r:(List ByteArray)} (e1:(List ByteArray)→Option (List ByteArray))
  (D4:∀ (E9:List ByteArray) (R9:Option Addr) (W5 S0:Nat) (U6:Ch) ,b6 Kd.string 9 H R9 S0 E9 U6→W5=E9.length→e1 E9=some r→b8 C44 (S44 F H r) H w0 [.c [1,1,1,0],.c [1,1,1,1]] [(5,.slice R9 W5 S0)] H (U6::F)):∀ (k:Nat),∀ (a0:Cache) (e6:Option Addr) (e8:Nat) (e3:Option Addr) (e4:Nat) (a1:List ByteArray) (p8:Option Addr) (q7 g1:Nat) (E9:List ByteArray) (R9:Option Addr) (W5 S0:Nat) (U6:Ch) (v12:Int) ,Rw j7 H F e6 a0.U→a0.U.length≤e8→Rw k5 H F e3 a0.Entries→a0.Entries.length≤e4→Rw Kd.string H F p8 a1→a1.length≤q7→b6 Kd.string 9 H R9 S0 E9 U6→W5=E9.length→U8.l2 e1 k a0 a1 E9 v12=some r→b8 C44 (S44 F H r) H w0 [.c [1,1,0,1,0,0],.l [1,1,0,1,0,0],.b 0,.c [1,1,1]] [(2,pg g1 0),(5,.slice R9 W5 S0),(10,.slice p8 a1.length q7),(11,iv (a1.length:Int)),(12,iv v12)] H (U6::(some (g1,.cells #[iv a0.Room,iv a0.c4,.slice e6 a0.U.length e8,.slice e3 a0.Entries.length e4] 25 (0,0)))::F):=by
 intro k
 induction k with
 | zero=>intro a0 e6 e8 e3 e4 a1 p8 q7 g1 E9 R9 W5 S0 U6 v12 n9 s7 l8 q8 p0 C5 av5 aF6 heq; exact nomatch (show (none:Option (List ByteArray))=some r from heq)
 | succ k u0 =>
  intro a0 e6 e8 e3 e4 a1 p8 q7 g1 E9 R9 W5 S0 U6 v12 n9 s7 l8 q8 p0 C5 av5 aF6 heq
  subst aF6
  rw [U8.l2] at heq
  refine Sa 1<|Zd 1<|An 1 ?_
  refine Cb heq ?_ ?_
  ·intro o8 heq
   refine Sa 4 ?_
   obtain ⟨x1,hx1,heq⟩:=bind_some heq
   obtain ⟨A7,I1,B1,B2⟩:=p0.get hx1
   obtain rfl:I1=[.string x1]:=B1
   refine Zw 3 [nx A7 hx1,er B2 2 0]<|Sa 1<|Zv 2 (C8 1) ?_
   obtain ⟨y1,hy1,heq⟩:=bind_some heq
   refine c6.e5 (o9 19 (bk4 hy1 (n9.wk (fun _ h=>(.tail _ (.tail _ h)))) s7 rfl (l8.wk (fun _ h=>(.tail _ (.tail _ h)))) q8 rfl)) ?_
   rintro _ _ _ _ ⟨_,rfl,rfl,rfl,rfl⟩
   refine Zd 8<|Sa 1<|Zd 2 ?_
   refine Cb heq ?_ ?_
   ·intro s3 heq
    refine Sa 0<|Zk 2 ?_
    refine c6.e5 (j6.new (d:=26) (v:=fun g=>.slice (some ⟨g,0,none⟩) 1 1) (o:=fun g=>.cells #[.string x1] 9 (0,0)) (fun g=>by kernel_rfl)) ?_
    rintro _ _ _ _ ⟨g2,rfl,rfl,rfl⟩
    have r8:b6 Kd.string 9 H (some ⟨g2,0,none⟩) 1 ([x1]:List ByteArray) (some (g2,.cells #[.string x1] 9 (0,0))):=b6.lit (xs:=([x1]:List ByteArray)) (by kernel_rfl) (Nat.le_of_ble_eq_true (by kernel_rfl)) (Kd.q9.scalars rfl)
    obtain ⟨C4,heq⟩:=M1 heq
    refine c6.e5 (j6.append (d:=27) (k:=1) (t:=45) (e:=9) (bytes:=16) (kd:=Kd.string) (n:=E9.length) (m:=1) (xs:=E9) (ys:=([x1]:List ByteArray)) (A:=R9) (B:=(some ⟨g2,0,none⟩)) (c:=S0) (cB:=1) (by kernel_rfl) rfl rfl (by kernel_rfl) rfl av5 (fun w hh=>r8.Y9 (hh.N1 0 rfl)) (room_le C4) (by have:=room_le C4; omega)) ?_
    rintro _ _ _ _ ⟨A1,c1,r9,rfl,rfl,rfl,w8⟩
    refine c6.p6 ?_
    refine Zd 5<|An 1 ?_
    exact Gt 1 [] ((U8.ai7 (K5:=(U8.l2 e1 k)) u0) a0 _ _ _ _ a1 _ _ _ v12 (E9++([x1]:List ByteArray)) _ _ _ _ n9 s7 l8 q8 p0 C5 w8 rfl heq)
   ·intro s3 heq
    refine An 2 ?_
    exact Gt 0 [] ((U8.ai7 (K5:=(U8.l2 e1 k)) u0) a0 _ _ _ _ a1 _ _ _ v12 E9 _ _ _ _ n9 s7 l8 q8 p0 C5 av5 rfl heq)
  ·intro o8 heq
   refine An 2 ?_
   exact Gt 2 [0] (D4 E9 _ _ _ _ av5 rfl heq)
theorem bZ2 {a0:Cache} {e6:Option Addr} {q2 e8:Nat} {e3:Option Addr} {p7 e4:Nat} {a1:List ByteArray} {p8:Option Addr} {G7 q7:Nat} {r:(List ByteArray)} (heq:U8.f a0 a1=some r) (n9:Rw j7 H F e6 a0.U) (s7:q2≤e8) (B9:q2=a0.U.length) (l8:Rw k5 H F e3 a0.Entries) (q8:p7≤e4) (B4:p7=a0.Entries.length) (p0:Rw Kd.string H F p8 a1) (C5:G7≤q7) (X8:G7=a1.length):z7 Tryz.prog 44 #[.agg #[iv a0.Room,iv a0.c4,.slice e6 q2 e8,.slice e3 p7 e4],.slice p8 G7 q7] H w0 (F) (S44 F H r):=by
 refine Co C44 Tryz.func44 Tryz.ntmps44 ?_
 subst B9
 subst B4
 subst X8
 unfold U8.f at heq
 refine Sa 1 ?_
 refine c6.e5 (j6.new (d:=2) (v:=fun g=>.pointer (some ⟨g,0,none⟩)) (o:=fun g=>.cells #[iv a0.Room,iv a0.c4,.slice e6 a0.U.length e8,.slice e3 a0.Entries.length e4] 25 (0,0)) (fun g=>by kernel_rfl)) ?_
 rintro _ _ _ _ ⟨g1,rfl,rfl,rfl⟩
 refine Zd 2<|Sa 1<|Zd 1<|Sa 2<|Zd 3<|An 2<|b8.w5 ?_
 have w4:b6 Kd.string 9 H none 0 ([]:List ByteArray) none:=b6.nil
 exact Gt 0 [] (((U8.F9 (e1:=U8.e1) (U8.D7)) n8) a0 _ _ _ _ a1 _ _ _ ([]:List ByteArray) _ _ _ _ 0 n9 s7 l8 q8 p0 C5 w4 rfl heq)
noncomputable def C45:Ctx:={ P:=Tryz.prog,f:=45,N:=75,c:=C1 Tryz.f45 }
def S45 (F:List Ch) (H0:Hp) (c9:Nat) (r:k6 × Int × Cache) (v:Value) (H:Hp) (cs:List Ch):Prop:=∃ (Z8:Option Addr) (Z9:Nat) (aa0:Ch) (E7:Option Addr) (E8:Nat) (F1:Ch) (ap5:Option Addr) (ap6:Nat) (ap7:Ch) (ap8:Option Addr) (ap9:Nat) (aq0:Ch),H0=H∧v=.tuple #[.agg #[.bool r.1.x8,.slice Z8 r.1.x5.length Z9,.slice E7 r.1.x4.length E8],iv r.2.1]∧aa0::F1::some (c9,.cells #[iv r.2.2.Room,iv r.2.2.c4,.slice ap5 r.2.2.U.length ap6,.slice ap8 r.2.2.Entries.length ap9] 25 (0,0))::ap7::aq0::F=cs∧b6 Kd.string 9 H Z8 Z9 r.1.x5 aa0∧b6 Kd.string 9 H E7 E8 r.1.x4 F1∧b6 j7 44 H ap5 ap6 r.2.2.U ap7∧b6 k5 47 H ap8 ap9 r.2.2.Entries aq0
theorem az2.ad6 {r:k6 × Int × Cache}:∀ (c9:Nat) (a0:Cache) (e3:Option Addr) (e4:Nat) (p5:Ch) (g2:Nat) (k9:List Blob) (s4:Option Addr) (C7 u5:Nat) (u7:Ch) ,b6 k5 47 H e3 e4 a0.Entries p5→b6 j7 44 H s4 u5 k9 u7→C7=k9.length→az2.j1 a0 k9=some r→b8 C45 (S45 F H c9 r) H w0 [.c [1,1,1,0],.c [1,1,1,1]] [(0,pg c9 0),(4,pg g2 0)] H ((some (g2,.cells #[.bool false,.slice none 0 0,.slice none 0 0] 54 (0,0)))::(some (c9,.cells #[iv a0.Room,iv a0.c4,.slice s4 C7 u5,.slice e3 a0.Entries.length e4] 25 (0,0)))::u7::p5::F):=by
 intro c9 a0 e3 e4 p5 g2 k9 s4 C7 u5 u7 p9 D3 W9 heq
 subst W9
 unfold az2.j1 at heq
 refine Sa 0<|Zk 1 ?_
 refine c6.e5 (j6.store (k:=0) (g:=g2) (off:=0) (v:=.agg #[.bool true,.slice none 0 0,.slice none 0 0]) (cells':=#[.bool true,.slice none 0 0,.slice none 0 0]) (by kernel_rfl) rfl (by kernel_rfl) (by kernel_rfl)) ?_
 rintro _ _ _ _ ⟨rfl,rfl,rfl⟩
 refine c6.p6 ?_
 refine Zd 3<|b8.w5 ?_
 have w4:b6 Kd.string 9 H none 0 ([]:List ByteArray) none:=b6.nil
 refine b8.w5 ?_
 have C9:b6 Kd.string 9 H none 0 ([]:List ByteArray) none:=b6.nil
 obtain rfl:=Option.some.inj heq
 refine Up 3 [2,1,0] ?_
 exact b8.I3 1 (vs:=[.agg #[.bool true,.slice none 0 0,.slice none 0 0],iv 0]) (v:=.tuple #[.agg #[.bool true,.slice none 0 0,.slice none 0 0],iv 0]) (by kernel_rfl) Tryz.func45 (fun w hh=>show G2 _ _ _ [.cell 4 54,.tmp 5] _ from ⟨⟨⟨g2,0,none⟩,by kernel_rfl,F5 _ (vs:=[.bool true,.slice none 0 0,.slice none 0 0]) (r:=[]) (es:=[.load ⟨g2,0,none⟩ (.bool true),.load ⟨g2,1,none⟩ (.slice none 0 0),.load ⟨g2,2,none⟩ (.slice none 0 0)]) (by kernel_rfl) ⟨(hh.box 0 rfl rfl),(hh.box 0 rfl rfl),(hh.box 0 rfl rfl)⟩⟩,(show lk _ _=some _ by kernel_rfl),trivial⟩) rfl (cs':=none::none::(some (c9,.cells #[iv a0.Room,iv a0.c4,.slice s4 k9.length u5,.slice e3 a0.Entries.length e4] 25 (0,0)))::u7::p5::F) rfl ⟨none,0,none,none,0,none,s4,u5,u7,e3,e4,p5,rfl,rfl,rfl,w4,C9,D3,p9⟩
theorem dm9 {c9:Nat} {a0:Cache} {e6:Option Addr} {q2 e8:Nat} {s8:Ch} {e3:Option Addr} {p7 e4:Nat} {p5:Ch} {a1:k7} {n3:Option Addr} {J3 n4:Nat} {r:k6 × Int × Cache} (heq:az2.f a0 a1=some r) (q6:b6 j7 44 H e6 e8 a0.U s8) (B9:q2=a0.U.length) (p9:b6 k5 47 H e3 e4 a0.Entries p5) (B4:p7=a0.Entries.length) (u9:Rw Kd.string H F n3 a1.j9) (y6:J3≤n4) (aa5:J3=a1.j9.length):z7 Tryz.prog 45 #[.pointer (some ⟨c9,0,none⟩),.agg #[iv a1.Kind,iv a1.At,.string a1.b7,.slice n3 J3 n4,.string a1.Key,iv a1.j4]] H w0 ((some (c9,.cells #[iv a0.Room,iv a0.c4,.slice e6 q2 e8,.slice e3 p7 e4] 25 (0,0)))::s8::p5::F) (S45 F H c9 r):=by
 refine Co C45 Tryz.func45 Tryz.ntmps45 ?_
 subst B9
 subst B4
 subst aa5
 unfold az2.f at heq
 refine Sa 1 ?_
 refine c6.e5 (j6.new (d:=3) (v:=fun g=>.pointer (some ⟨g,0,none⟩)) (o:=fun g=>.cells #[iv a1.Kind,iv a1.At,.string a1.b7,.slice n3 a1.j9.length n4,.string a1.Key,iv a1.j4] 50 (0,0)) (fun g=>by kernel_rfl)) ?_
 rintro _ _ _ _ ⟨g1,rfl,rfl,rfl⟩
 refine c6.e5 (j6.new (d:=4) (v:=fun g=>.pointer (some ⟨g,0,none⟩)) (o:=fun g=>.cells #[.bool false,.slice none 0 0,.slice none 0 0] 54 (0,0)) (fun g=>by kernel_rfl)) ?_
 rintro _ _ _ _ ⟨g2,rfl,rfl,rfl⟩
 refine Zd 3<|An 1<|Sd 0 11 [] [3,3,3,3,3,0,3,3,3,3,3]<|Zr [0,1,2,3,4] 6 (C8 2++[bx 1 2]) (Pk 5 [0,1,2,3,4]) (Pk 5 [0,1,2,3,4]) ?_
 obtain ⟨y1,hy1,heq⟩:=bind_some heq
 refine Dz 5 (o9 14 (bk4 hy1 (q6.rw (.tail _ (.tail _ (.tail _ (.head _))))) q6.cap rfl (p9.rw (.tail _ (.tail _ (.tail _ (.tail _ (.head _)))))) p9.cap rfl)) ?_
 rintro _ _ _ _ ⟨_,rfl,rfl,rfl,rfl⟩
 refine ⟨fun _ w hh=>⟨fun _=>(Pk 5 [0,1,2,3,4]) w hh,fun _=>(Pk 5 [0,1,2,3,4]) w hh,(fun h=>by cases h)⟩,?_⟩
 refine Zr [6,7,8,9,10] 0 [] (Pk 5 [0,1,2,3,4]) (Pk 5 [0,1,2,3,4]) ?_
 refine o5.done (by kernel_rfl) ?_
 refine An 3 ?_
 obtain ⟨t1,A9,heq⟩:=bind_some heq
 have ai8:b8 C45 (S45 F H c9 r) H w0 [.c [1,1,0,0,1],.b 0,.c [1,1,1]] [(0,pg c9 0),(3,pg g1 0),(4,pg g2 0),(6,iv y1.1),(28,.bool t1)] H ((some (g2,.cells #[.bool false,.slice none 0 0,.slice none 0 0] 54 (0,0)))::(some (g1,.cells #[iv a1.Kind,iv a1.At,.string a1.b7,.slice n3 a1.j9.length n4,.string a1.Key,iv a1.j4] 50 (0,0)))::(some (c9,.cells #[iv a0.Room,iv a0.c4,.slice e6 a0.U.length e8,.slice e3 a0.Entries.length e4] 25 (0,0)))::s8::p5::F):=by
  refine Cb heq ?_ ?_
  ·intro x7 heq
   refine Sa 1<|Zk 1 ?_
   refine c6.e5 (j6.store (k:=0) (g:=g2) (off:=0) (v:=.agg #[.bool false,.slice none 0 0,.slice none 0 0]) (cells':=#[.bool false,.slice none 0 0,.slice none 0 0]) (by kernel_rfl) rfl (by kernel_rfl) (by kernel_rfl)) ?_
   rintro _ _ _ _ ⟨rfl,rfl,rfl⟩
   refine c6.p6 ?_
   refine Zd 3<|b8.w5 ?_
   have r8:b6 Kd.string 9 H none 0 ([]:List ByteArray) none:=b6.nil
   refine b8.w5 ?_
   have w8:b6 Kd.string 9 H none 0 ([]:List ByteArray) none:=b6.nil
   obtain rfl:=Option.some.inj heq
   refine Up 4 [2,1,0] ?_
   exact b8.I3 1 (vs:=[.agg #[.bool false,.slice none 0 0,.slice none 0 0],iv 0]) (v:=.tuple #[.agg #[.bool false,.slice none 0 0,.slice none 0 0],iv 0]) (by kernel_rfl) Tryz.func45 (fun w hh=>show G2 _ _ _ [.cell 4 54,.tmp 5] _ from ⟨⟨⟨g2,0,none⟩,by kernel_rfl,F5 _ (vs:=[.bool false,.slice none 0 0,.slice none 0 0]) (r:=[]) (es:=[.load ⟨g2,0,none⟩ (.bool false),.load ⟨g2,1,none⟩ (.slice none 0 0),.load ⟨g2,2,none⟩ (.slice none 0 0)]) (by kernel_rfl) ⟨(hh.box 0 rfl rfl),(hh.box 0 rfl rfl),(hh.box 0 rfl rfl)⟩⟩,(show lk _ _=some _ by kernel_rfl),trivial⟩) rfl (cs':=none::none::(some (c9,.cells #[iv a0.Room,iv a0.c4,.slice e6 a0.U.length e8,.slice e3 a0.Entries.length e4] 25 (0,0)))::s8::p5::F) rfl ⟨none,0,none,none,0,none,e6,e8,s8,e3,e4,p5,rfl,rfl,rfl,r8,w8,q6,p9⟩
  ·intro x7 heq
   refine Sa 1<|Zw 4 [bx 1 0] ?_
   refine Cb heq ?_ ?_
   ·intro B3 heq
    refine Sa 0 ?_
    obtain ⟨x2,w6,heq⟩:=bind_some heq
    obtain ⟨J2,T7,I8,J7⟩:=q6.get w6
    obtain ⟨rfl⟩:=C6 I8
    refine Zv 11 [bx 2 2,nx J2 w6,el J7 3 4,nx J2 w6] ?_
    obtain ⟨W1,ae3,Q4,ad7⟩:=q6.get w6
    obtain ⟨rfl⟩:=C6 Q4
    refine c6.e5 (j6.ab7 (a:=(((H8 e6).add (y1.1.toNat*5)).add 4)) (k:=3) (kd:=j7) (c0:=[.string x2.b7,iv x2.j4,iv x2.Used,iv x2.u6,iv x2.q4]) (x':=(⟨x2.b7,x2.j4,x2.Used,x2.u6,c5 (x2.q4 - 1)⟩:Blob)) (o:=4) (ix:=y1.1) (v:=iv (c5 (x2.q4 - 1))) (by kernel_rfl) rfl q6 w6 (by kernel_rfl) ad7 rfl (Nat.le_of_ble_eq_true (by kernel_rfl)) af8) ?_
    rintro _ _ _ _ ⟨r9,rfl,rfl,rfl,H7⟩
    have C4:a0.U.length=(a0.U.set y1.1.toNat (⟨x2.b7,x2.j4,x2.Used,x2.u6,c5 (x2.q4 - 1)⟩:Blob)).length:=by rw [List.length_set]
    refine c6.p6 ?_
    refine Dn<|An 2 ?_
    exact Gt 2 [0] ((az2.ad6) _ a0 _ _ _ _ (a0.U.set y1.1.toNat (⟨x2.b7,x2.j4,x2.Used,x2.u6,c5 (x2.q4 - 1)⟩:Blob)) _ _ _ _ p9 H7 C4 heq)
   ·intro B3 heq
    refine Sa 1 ?_
    obtain ⟨x3,K8,heq⟩:=bind_some heq
    obtain ⟨ha4,af1,hK4,af9⟩:=q6.get K8
    obtain ⟨rfl⟩:=C6 hK4
    refine Zw 10 [bx 2 2,nx ha4 K8,el af9 3 4] ?_
    refine Cb heq ?_ ?_
    ·intro F2 heq
     refine Sa 1<|Zk 1 ?_
     refine c6.e5 (j6.store (k:=0) (g:=g2) (off:=0) (v:=.agg #[.bool false,.slice none 0 0,.slice none 0 0]) (cells':=#[.bool false,.slice none 0 0,.slice none 0 0]) (by kernel_rfl) rfl (by kernel_rfl) (by kernel_rfl)) ?_
     rintro _ _ _ _ ⟨rfl,rfl,rfl⟩
     refine c6.p6 ?_
     refine Zd 3<|b8.w5 ?_
     have O4:b6 Kd.string 9 H none 0 ([]:List ByteArray) none:=b6.nil
     refine b8.w5 ?_
     have O3:b6 Kd.string 9 H none 0 ([]:List ByteArray) none:=b6.nil
     obtain rfl:=Option.some.inj heq
     refine Up 4 [2,1,0] ?_
     exact b8.I3 1 (vs:=[.agg #[.bool false,.slice none 0 0,.slice none 0 0],iv 16]) (v:=.tuple #[.agg #[.bool false,.slice none 0 0,.slice none 0 0],iv 16]) (by kernel_rfl) Tryz.func45 (fun w hh=>show G2 _ _ _ [.cell 4 54,.tmp 5] _ from ⟨⟨⟨g2,0,none⟩,by kernel_rfl,F5 _ (vs:=[.bool false,.slice none 0 0,.slice none 0 0]) (r:=[]) (es:=[.load ⟨g2,0,none⟩ (.bool false),.load ⟨g2,1,none⟩ (.slice none 0 0),.load ⟨g2,2,none⟩ (.slice none 0 0)]) (by kernel_rfl) ⟨(hh.box 0 rfl rfl),(hh.box 0 rfl rfl),(hh.box 0 rfl rfl)⟩⟩,(show lk _ _=some _ by kernel_rfl),trivial⟩) rfl (cs':=none::none::(some (c9,.cells #[iv a0.Room,iv a0.c4,.slice e6 a0.U.length e8,.slice e3 a0.Entries.length e4] 25 (0,0)))::s8::p5::F) rfl ⟨none,0,none,none,0,none,e6,e8,s8,e3,e4,p5,rfl,rfl,rfl,O4,O3,q6,p9⟩
    ·intro F2 heq
     refine Sa 0 ?_
     obtain ⟨C2,V1,heq⟩:=bind_some heq
     obtain ⟨ha5,ah1,hK5,aC6⟩:=q6.get V1
     obtain ⟨rfl⟩:=C6 hK5
     refine Zv 11 [bx 2 2,nx ha5 V1,el aC6 3 4,nx ha5 V1] ?_
     obtain ⟨ha6,ai0,hK6,ar4⟩:=q6.get V1
     obtain ⟨rfl⟩:=C6 hK6
     refine c6.e5 (j6.ab7 (a:=(((H8 e6).add (y1.1.toNat*5)).add 4)) (k:=3) (kd:=j7) (c0:=[.string C2.b7,iv C2.j4,iv C2.Used,iv C2.u6,iv C2.q4]) (x':=(⟨C2.b7,C2.j4,C2.Used,C2.u6,c5 (C2.q4+1)⟩:Blob)) (o:=4) (ix:=y1.1) (v:=iv (c5 (C2.q4+1))) (by kernel_rfl) rfl q6 V1 (by kernel_rfl) ar4 rfl (Nat.le_of_ble_eq_true (by kernel_rfl)) af8) ?_
     rintro _ _ _ _ ⟨B5,rfl,rfl,rfl,R5⟩
     have hn2:a0.U.length=(a0.U.set y1.1.toNat (⟨C2.b7,C2.j4,C2.Used,C2.u6,c5 (C2.q4+1)⟩:Blob)).length:=by rw [List.length_set]
     refine c6.p6 ?_
     refine Dn<|An 2 ?_
     exact Gt 2 [0] ((az2.ad6) _ a0 _ _ _ _ (a0.U.set y1.1.toNat (⟨C2.b7,C2.j4,C2.Used,C2.u6,c5 (C2.q4+1)⟩:Blob)) _ _ _ _ p9 R5 hn2 heq)
 replace heq:=A9
 refine Sa 0<|Zk 3 ?_
 rcases y9 (!y1.2) with o8 | o8
 ·replace heq:=A5 o8 heq
  refine Zs 31 (congrArg Value.bool o8)<|Zk 19 ?_
  obtain rfl:=Option.some.inj heq
  refine Dn ?_
  exact Gt 0 [] (ai8)
 ·replace heq:=A6 o8 heq
  refine Zs 31 (congrArg Value.bool o8)<|Zv 7 [bx 1 0] ?_
  rcases y9 (a1.Kind == 5) with s3 | s3
  ·replace heq:=A5 s3 heq
   refine Zs 35 (congrArg Value.bool s3) ?_
   obtain ⟨x1,hx1,heq⟩:=bind_some heq
   obtain ⟨A7,I1,B1,B2⟩:=q6.get hx1
   obtain ⟨rfl⟩:=C6 B1
   refine Zv 19 [bx 2 2,nx A7 hx1,el B2 3 4] ?_
   obtain rfl:=Option.some.inj heq
   refine Dn ?_
   exact Gt 0 [] (ai8)
  ·replace heq:=A6 s3 heq
   refine Zs 35 (congrArg Value.bool s3)<|Zk 19 ?_
   obtain rfl:=Option.some.inj heq
   refine Dn ?_
   exact Gt 0 [] (ai8)
noncomputable def C93:Ctx:={ P:=Tryz.prog,f:=93,N:=9,c:=C1 Tryz.f93 }
def S93 (F:List Ch) (H0:Hp) (r:Int) (v:Value) (H:Hp) (cs:List Ch):Prop:=H0=H∧v=iv r∧F=cs
theorem cz0 {a0:Entry} {bZ5:Option Addr} {bZ6 bZ7:Nat} {a1:ByteArray} {r:Int} (heq:bp6.f a0 a1=some r) (dy2:Rw Kd.string H F bZ5 a0.Refs) (dy3:bZ6≤bZ7) (dn2:bZ6=a0.Refs.length):z7 Tryz.prog 93 #[.agg #[.string a0.Key,.slice bZ5 bZ6 bZ7,iv a0.Used],.string a1] H w0 (F) (S93 F H r):=by
 refine Co C93 Tryz.func93 Tryz.ntmps93 ?_
 subst dn2
 unfold bp6.f at heq
 refine Sa 1 ?_
 refine c6.e5 (j6.new (d:=2) (v:=fun g=>.pointer (some ⟨g,0,none⟩)) (o:=fun g=>.cells #[.string a0.Key,.slice bZ5 a0.Refs.length bZ7,iv a0.Used] 47 (0,0)) (fun g=>by kernel_rfl)) ?_
 rintro _ _ _ _ ⟨g1,rfl,rfl,rfl⟩
 refine Zd 2<|Sa 1<|Zv 3 [bx 0 0] ?_
 obtain ⟨y1,hy1,heq⟩:=bind_some heq
 refine c6.e5 (o9 8 (cw2 (a0:=a0.Key) (a1:=a1)  hy1)) ?_
 rintro _ _ _ _ ⟨_,rfl,rfl,rfl,rfl⟩
 refine Zd 5 ?_
 obtain rfl:=Option.some.inj heq
 refine Up 1 [] ?_
 exact b8.done (by kernel_rfl) Tryz.func93 (v:=iv y1) (by kernel_rfl) ⟨rfl,rfl,rfl⟩
noncomputable def C92:Ctx:={ P:=Tryz.prog,f:=92,N:=49,c:=C1 Tryz.f92 }
def S92 (F:List Ch) (H0:Hp) (r:Int × Bool) (v:Value) (H:Hp) (cs:List Ch):Prop:=H0=H∧v=.tuple #[iv r.1,.bool r.2]∧F=cs
theorem ai1.D7 {r:Int × Bool}:∀ (a0:List Entry) (e7:Option Addr) (c8:Nat) (a1:ByteArray) (y5:Int) ,Rw k5 H F e7 a0→a0.length≤c8→ai1.e1 a0 a1 y5=some r→b8 C92 (S92 F H r) H w0 [.c [1,1,1,1,0],.c [1,1,1,1,1]] [(0,.slice e7 a0.length c8),(1,.string a1),(2,.func (.func 93) #[] #[]),(8,iv (a0.length:Int)),(9,iv y5)] H (F):=by
 intro a0 e7 c8 a1 y5 B6 G9 heq
 unfold ai1.e1 at heq
 obtain ⟨t1,A9,heq⟩:=bind_some heq
 have Z0:b8 C92 (S92 F H r) H w0 [.c [1,1,1,1,1]] [(6,iv y5),(7,.bool t1)] H (F):=by
  obtain rfl:=Option.some.inj heq
  exact b8.done (by kernel_rfl) Tryz.func92 (v:=.tuple #[iv y5,.bool t1]) (by kernel_rfl) ⟨rfl,rfl,rfl⟩
 replace heq:=A9
 refine Sa 0<|Zk 5 ?_
 rcases y9 (decide (y5<(a0.length:Int))) with o8 | o8
 ·replace heq:=A5 o8 heq
  refine Zs 39 (congrArg Value.bool o8) ?_
  obtain ⟨x1,hx1,heq⟩:=bind_some heq
  obtain ⟨A7,I1,B1,B2⟩:=B6.get hx1
  obtain ⟨A1,c1,rfl,hc1,I0⟩:=Y7 B1
  refine Zv 11 ([nx A7 hx1]++ers B2 0) ?_
  obtain ⟨y1,hy1,heq⟩:=bind_some heq
  refine c6.e5 (o9 46 (cz0 hy1 (Rw.of I0) hc1 rfl)) ?_
  rintro _ _ _ _ ⟨_,rfl,rfl,rfl,rfl⟩
  refine Zk 16 ?_
  obtain rfl:=Option.some.inj heq
  refine Dn ?_
  exact Gt 0 [] (Z0)
 ·replace heq:=A6 o8 heq
  refine Zs 39 (congrArg Value.bool o8)<|Zk 16 ?_
  obtain rfl:=Option.some.inj heq
  refine Dn ?_
  exact Gt 0 [] (Z0)
theorem ai1.F9 {r:Int × Bool} (e1:(List Entry)→ByteArray→Int→Option (Int × Bool))
  (D4:∀ (a0:List Entry) (e7:Option Addr) (c8:Nat) (a1:ByteArray) (y5:Int) ,Rw k5 H F e7 a0→a0.length≤c8→e1 a0 a1 y5=some r→b8 C92 (S92 F H r) H w0 [.c [1,1,1,1,0],.c [1,1,1,1,1]] [(0,.slice e7 a0.length c8),(1,.string a1),(2,.func (.func 93) #[] #[]),(8,iv (a0.length:Int)),(9,iv y5)] H (F)):∀ (k:Nat),∀ (a0:List Entry) (e7:Option Addr) (c8:Nat) (a1:ByteArray) (y5 ae7:Int) ,Rw k5 H F e7 a0→a0.length≤c8→ai1.l2 e1 k a0 a1 y5 ae7=some r→b8 C92 (S92 F H r) H w0 [.c [1,1,1,0,0,0],.l [1,1,1,0,0,0],.b 0,.c [1,1,1,1]] [(0,.slice e7 a0.length c8),(1,.string a1),(2,.func (.func 93) #[] #[]),(8,iv (a0.length:Int)),(9,iv y5),(10,iv ae7)] H (F):=by
 intro k
 induction k with
 | zero=>intro a0 e7 c8 a1 y5 ae7 B6 G9 heq; exact nomatch (show (none:Option (Int × Bool))=some r from heq)
 | succ k u0 =>
  intro a0 e7 c8 a1 y5 ae7 B6 G9 heq
  rw [ai1.l2] at heq
  refine Sa 2<|Zd 3 ?_
  refine Cb heq ?_ ?_
  ·intro s3 heq
   refine Sa 3<|Zw 7 [⟨.need ((0:Int)≤1),fun w hh=>(show (0:Int)≤1 by decide)⟩]<|Sa 1 ?_
   obtain ⟨x2,w6,heq⟩:=bind_some heq
   obtain ⟨J2,T7,I8,J7⟩:=B6.get w6
   obtain ⟨aa3,c2,rfl,N9,hr2⟩:=Y7 I8
   refine Zv 6 ([nx J2 w6]++ers J7 0) ?_
   obtain ⟨y2,hy2,heq⟩:=bind_some heq
   refine c6.e5 (o9 30 (cz0 hy2 (Rw.of hr2) N9 rfl)) ?_
   rintro _ _ _ _ ⟨_,rfl,rfl,rfl,rfl⟩
   refine Zd 8 ?_
   refine Cb heq ?_ ?_
   ·intro x7 heq
    refine Sa 0<|Zd 3<|An 2 ?_
    exact Gt 0 [] (u0 a0 _ _ a1 (c5 ((c5 (F8 .u64 (IntKind.wrap .u64 (c5 (y5+ae7))) 1))+1)) ae7 B6 G9 heq)
   ·intro x7 heq
    refine Sa 0<|Zd 2<|An 2 ?_
    exact Gt 0 [] (u0 a0 _ _ a1 y5 (c5 (F8 .u64 (IntKind.wrap .u64 (c5 (y5+ae7))) 1)) B6 G9 heq)
  ·intro s3 heq
   refine An 2 ?_
   exact Gt 0 [] (D4 a0 _ _ a1 y5 B6 G9 heq)
theorem dn3 {a0:List Entry} {e7:Option Addr} {s0 c8:Nat} {a1:ByteArray} {r:Int × Bool} (heq:ai1.f a0 a1=some r) (B6:Rw k5 H F e7 a0) (G9:s0≤c8) (L8:s0=a0.length):z7 Tryz.prog 92 #[.slice e7 s0 c8,.string a1,.func (.func 93) #[] #[]] H w0 (F) (S92 F H r):=by
 refine Co C92 Tryz.func92 Tryz.ntmps92 ?_
 subst L8
 unfold ai1.f at heq
 refine Sa 1<|Zd 2<|Sa 1<|Zd 3<|Sa 1<|Zd 3<|An 3 ?_
 exact Gt 0 [] (((ai1.F9 (e1:=ai1.e1) (ai1.D7)) n8) a0 _ _ a1 0 (a0.length:Int) B6 G9 heq)
noncomputable def C66:Ctx:={ P:=Tryz.prog,f:=66,N:=12,c:=C1 Tryz.f66 }
def S66 (F:List Ch) (H0:Hp) (r:Int × Bool) (v:Value) (H:Hp) (cs:List Ch):Prop:=H0=H∧v=.tuple #[iv r.1,.bool r.2]∧F=cs
theorem bZ8 {a0:Cache} {e6:Option Addr} {q2 e8:Nat} {e3:Option Addr} {p7 e4:Nat} {a1:ByteArray} {r:Int × Bool} (heq:aW2.f a0 a1=some r) (n9:Rw j7 H F e6 a0.U) (s7:q2≤e8) (B9:q2=a0.U.length) (l8:Rw k5 H F e3 a0.Entries) (q8:p7≤e4) (B4:p7=a0.Entries.length):z7 Tryz.prog 66 #[.agg #[iv a0.Room,iv a0.c4,.slice e6 q2 e8,.slice e3 p7 e4],.string a1] H w0 (F) (S66 F H r):=by
 refine Co C66 Tryz.func66 Tryz.ntmps66 ?_
 subst B9
 subst B4
 unfold aW2.f at heq
 refine Sa 1 ?_
 refine c6.e5 (j6.new (d:=2) (v:=fun g=>.pointer (some ⟨g,0,none⟩)) (o:=fun g=>.cells #[iv a0.Room,iv a0.c4,.slice e6 a0.U.length e8,.slice e3 a0.Entries.length e4] 25 (0,0)) (fun g=>by kernel_rfl)) ?_
 rintro _ _ _ _ ⟨g1,rfl,rfl,rfl⟩
 refine Zd 3<|Sa 1<|Zv 3 [bx 0 3] ?_
 obtain ⟨y1,hy1,heq⟩:=bind_some heq
 refine c6.e5 (o9 9 (dn3 hy1 (l8.wk (fun _ h=>(.tail _ h))) q8 rfl)) ?_
 rintro _ _ _ _ ⟨_,rfl,rfl,rfl,rfl⟩
 refine Zd 8 ?_
 obtain rfl:=Option.some.inj heq
 refine Up 1 [] ?_
 exact b8.done (by kernel_rfl) Tryz.func66 (v:=.tuple #[iv y1.1,.bool y1.2]) (by kernel_rfl) ⟨rfl,rfl,rfl⟩
noncomputable def C68:Ctx:={ P:=Tryz.prog,f:=68,N:=95,c:=C1 Tryz.f68 }
def S68 (F:List Ch) (H0:Hp) (r:List Entry) (v:Value) (H:Hp) (cs:List Ch):Prop:=∃ (ad8:Option Addr) (c0:Nat) (J6:Ch),H0=H∧v=.slice ad8 r.length c0∧J6::F=cs∧b6 k5 47 H ad8 c0 r J6
theorem dn8 {a0:List Entry} {e7:Option Addr} {s0 c8:Nat} {ab2:Ch} {a1:Int} {a2:List Entry} {Aa2:Option Addr} {na2 K9:Nat} {bv2:Ch} {r:List Entry} (I5:b6 k5 47 H e7 c8 a0 ab2) (L8:s0=a0.length) (bv3:b6 k5 47 H Aa2 K9 a2 bv2) (bY6:na2=a2.length) (heq:bq4.f a0 a1 a2=some r):z7 Tryz.prog 68 #[.slice e7 s0 c8,iv a1,.slice Aa2 na2 K9] H w0 (ab2::bv2::F) (S68 F H r):=by
 refine ba4 (F:=C68) Tryz.func68 (by kernel_rfl) Tryz.ntmps68 (args:=[.slice e7 s0 c8,iv a1,.slice Aa2 na2 K9]) (by kernel_rfl) ?_
 subst L8 bY6
 unfold bq4.f at heq
 obtain ⟨hn,heq⟩:=M1 heq
 obtain rfl:=Option.some.inj heq
 simp only [Bool.and_eq_true,decide_eq_true_eq] at hn
 obtain ⟨h0,h1,h2,h3⟩:=hn
 have h3:=room_le h3
 obtain ⟨I,rfl⟩:∃ I:Nat,a1=(I:Int):=⟨a1.toNat,by omega⟩
 have hI:I≤a0.length:=by omega
 have hbig:a0.length+a2.length≤140737490452480:=by
  have:(a0.length+a2.length)*1≤(a0.length+a2.length)*48:=Nat.mul_le_mul_left _ (by omega)
  omega
 have hw1:c5 ((a0.length:Int)+(a2.length:Int))=((a0.length+a2.length:Nat):Int):=by unfold c5; rw [IntKind.wrap_i64]; omega
 have hw2:c5 ((I:Int)+(a2.length:Int))=((I+a2.length:Nat):Int):=by unfold c5; rw [IntKind.wrap_i64]; omega
 have hw3:c5 (((a0.length+a2.length:Nat):Int) - (I:Int))=((a0.length+a2.length - I:Nat):Int):=by rw [show ((a0.length+a2.length:Nat):Int) - (I:Int)=((a0.length+a2.length - I:Nat):Int) by omega]; unfold c5; rw [IntKind.wrap_i64]; omega
 simp only [Int.toNat_natCast]
 refine An 1<|Rr<|Rd 1 [0,1,2] [(0,.slice e7 a0.length c8),(1,iv (I:Int)),(2,.slice Aa2 a2.length K9)]<|An 1<|Rr<|Rw' 3 [0,1,2] [] [.need ((0:Int)≤(I:Int)∧(I:Int)≤((a0.length:Nat):Int))] [(0,.slice e7 a0.length c8),(1,iv (I:Int)),(2,.slice Aa2 a2.length K9)] (fun w hh=>⟨h0,h1⟩)<|An 1<|Rr<|Rd 3 [0,1,2,7] [(0,.slice e7 a0.length c8),(1,iv (I:Int)),(2,.slice Aa2 a2.length K9),(7,iv (a2.length:Int))]<|An 2<|Rr<|Rd 2 [0,1,2,7,16] [(0,.slice e7 a0.length c8),(1,iv (I:Int)),(2,.slice Aa2 a2.length K9),(7,iv (a2.length:Int)),(16,.bool ((a2.length:Int) == 0))]<|Cf ((a2.length:Int) == 0) (beq_eq_false_iff_ne.2 (by omega))<|An 2<|Rr<|Rd 3 [0,1,2,7,8] [(0,.slice e7 a0.length c8),(1,iv (I:Int)),(2,.slice Aa2 a2.length K9),(7,iv (a2.length:Int)),(8,iv (a0.length:Int))]<|An 2<|Rr<|Rd 3 [0,1,2,7,8,22] [(0,.slice e7 a0.length c8),(1,iv (I:Int)),(2,.slice Aa2 a2.length K9),(7,iv (a2.length:Int)),(8,iv (a0.length:Int)),(22,.bool ((I:Int) == (a0.length:Int)))] ?_
 rcases y9 ((I:Int) == (a0.length:Int)) with hb | hb
 ·have hIn:I=a0.length:=by have:=eq_of_beq hb; omega
  have e:a0.take I++a2++a0.drop I=a0++a2:=by rw [hIn]; simp
  rw [e]
  refine Ct ((I:Int) == (a0.length:Int)) hb<|An 1<|Rr<|Rk 2 [23,24] [(23,.slice e7 a0.length c8),(24,.slice Aa2 a2.length K9)] ?_
  refine c6.e5 (j6.append (d:=25) (k:=0) (t:=23) (e:=47) (bytes:=48) (kd:=k5) (n:=a0.length) (m:=a2.length) (xs:=a0) (ys:=a2) (A:=e7) (B:=Aa2) (c:=c8) (cB:=K9) (by kernel_rfl) rfl rfl (by kernel_rfl) rfl I5 (fun w hh=>bv3.Y9 (hh.N1 1 rfl)) h3 (by omega)) ?_
  rintro _ _ _ _ ⟨A1,c1,r9,rfl,rfl,rfl,r8⟩
  refine Rd 4 [6] [(6,.slice A1 (a0++a2).length c1)] ?_
  refine b8.pick 2 [0] (cs':=r9::F) (by kernel_rfl) rfl ?_
  exact b8.done (by kernel_rfl) Tryz.func68 (v:=.slice A1 (a0++a2).length c1) (by kernel_rfl) ⟨A1,c1,r9,rfl,rfl,rfl,r8⟩
 ·have hIn:I<a0.length:=by have:=beq_eq_false_iff_ne.1 hb; omega
  have hx:a0≠[]:=by intro h; subst h; simp at hIn
  have hy:a2≠[]:=by intro h; subst h; simp at h2
  have hrl:(a0.take I++a2++a0.drop I).length=a0.length+a2.length:=by simp; omega
  rcases I5 with ⟨h,_⟩ | ⟨b,off,cells,rfl,rfl,k3,k4,aQ0,as1⟩
  ·exact absurd h hx
  rcases bv3 with ⟨h,_⟩ | ⟨vb,U5,bY8,rfl,rfl,aT0,aX6,q5,bY9⟩
  ·exact absurd h hy
  obtain ⟨af0,v1,v2,v3,v4⟩:=q9.toList bY9
  obtain ⟨ah5,d1,d2,d3,d4⟩:=q9.toList (q9.drop as1 I)
  have hsz:(k5).sz=3:=rfl
  have hdl:(a0.drop I).length=a0.length - I:=by simp
  rw [hdl] at d1
  rw [hsz] at v1 d1 d2 aQ0 q5
  refine Cf ((I:Int) == (a0.length:Int)) hb<|An 3<|Rr<|Rd 6 [0,1,2,7,8,31] [(0,.slice (some ⟨b,off,none⟩) a0.length c8),(1,iv (I:Int)),(2,.slice (some ⟨vb,U5,none⟩) a2.length K9),(7,iv (a2.length:Int)),(8,iv (a0.length:Int)),(31,.bool (decide ((c8:Int)<c5 ((a0.length:Int)+(a2.length:Int)))))] ?_
  rcases y9 (decide ((c8:Int)<c5 ((a0.length:Int)+(a2.length:Int)))) with hc | hc
  ·have hroom:c8<a0.length+a2.length:=by rw [hw1] at hc; have:=of_decide_eq_true hc; omega
   refine Ct (decide ((c8:Int)<c5 ((a0.length:Int)+(a2.length:Int)))) hc<|An 1<|Rr<|Rv 8 [0,1,2,7,34,39] [] [.need ((0:Int)≤(I:Int)∧(I:Int)≤((c8:Nat):Int))] [(0,.slice (some ⟨b,off,none⟩) a0.length c8),(1,iv (I:Int)),(2,.slice (some ⟨vb,U5,none⟩) a2.length K9),(7,iv (a2.length:Int)),(34,.slice (some ⟨b,off,none⟩) I c8),(39,iv (c5 (c5 ((a0.length:Int)+(a2.length:Int)) - (I:Int))))] (fun w hh=>⟨h0,by omega⟩) ?_
   have hzq:c5 (c5 ((a0.length:Int)+(a2.length:Int)) - (I:Int))=((a0.length+a2.length - I:Nat):Int):=by rw [hw1,hw3]
   have hrt:Kd.q9 k5 H cells off (a0.take I):=q9.take as1 I
   have htl:(a0.take I).length=I:=by simp; omega
   refine c6.e5 (j6.cg6 (dd:=40) (kd:=k5) (t:=23) (tn:=3) (e:=47) (bytes:=48) (q:=a0.length+a2.length - I) (A:=some ⟨b,off,none⟩) (a:=⟨b,off,none⟩) (c:=c8) (n:=I) (xs:=a0.take I) (by kernel_rfl) rfl hzq (by kernel_rfl) htl.symm (by kernel_rfl) (fun w hh hne=>⟨b,off,cells,47,(0,0),rfl,hh.N1 0 rfl,hrt⟩) (by omega) (by omega) (by rw [show I+(a0.length+a2.length - I)=a0.length+a2.length by omega]; exact h3) (by omega)) ?_
   rintro _ _ _ _ ⟨g,c',aF3,rfl,rfl,rfl,g1,g2,g3,g4⟩
   rw [hsz] at g3
   refine Rd 10 [0,1,2,7,9] [(0,.slice (some ⟨b,off,none⟩) a0.length c8),(1,iv (I:Int)),(2,.slice (some ⟨vb,U5,none⟩) a2.length K9),(7,iv (a2.length:Int)),(9,.slice (some ⟨g,0,none⟩) (I+(a0.length+a2.length - I)) c')]<|An 1<|Rr<|Rv 4 [0,1,2,7,9,43,44] [] [.need ((0:Int)≤(I:Int)∧(I:Int)≤((I+(a0.length+a2.length - I):Nat):Int))] [(0,.slice (some ⟨b,off,none⟩) a0.length c8),(1,iv (I:Int)),(2,.slice (some ⟨vb,U5,none⟩) a2.length K9),(7,iv (a2.length:Int)),(9,.slice (some ⟨g,0,none⟩) (I+(a0.length+a2.length - I)) c'),(43,.slice (K6 c' I 3 (some ⟨g,0,none⟩)) (I+(a0.length+a2.length - I) - I) (c' - I)),(44,.slice (some ⟨vb,U5,none⟩) a2.length K9)] (fun w hh=>⟨h0,by omega⟩) ?_
   refine c6.e5 (j6.aV8 (k:=0) (t:=23) (e:=47) (bytes:=48) (sz:=3) (A1:=K6 c' I 3 (some ⟨g,0,none⟩)) (aa3:=some ⟨vb,U5,none⟩) (dd:=some 45) (dc:=c' - I) (sc:=K9) (dl:=I+(a0.length+a2.length - I) - I) (sl:=a2.length) (b:=g) (o:=0+I*3) (a:=⟨vb,U5,none⟩) (cells:=aF3) (news:=af0) (by kernel_rfl) (ay6 (n:=I+1) (by omega) (by omega) rfl) rfl (by kernel_rfl) rfl (by rw [v1]; congr 1; simp only [Nat.min_def]; split <;> omega) (fun w hh j u hu=>by rw [add_plain]; exact aw4 (hh.N1 2 rfl) (v2 j u hu)) v3 (by rw [v1]; omega)) ?_
   rintro _ _ _ _ ⟨rfl,rfl,rfl⟩
   refine Rd 5 [0,1,2,7,9] [(0,.slice (some ⟨b,off,none⟩) a0.length c8),(1,iv (I:Int)),(2,.slice (some ⟨vb,U5,none⟩) a2.length K9),(7,iv (a2.length:Int)),(9,.slice (some ⟨g,0,none⟩) (I+(a0.length+a2.length - I)) c')]<|An 1 ?_
   refine b8.draw (fun w=>True) (fun w=>True) [3,3,3,3,3,3,3,3,0] (n:=9) (ls:=[false,false,false,false,false,false,false,false,false]) (by kernel_rfl) (by kernel_rfl) (by kernel_rfl) rfl ?_
   refine Dr [0,1,2,3,4,5,6,7] 1 (nb 9 255) [] [.need ((0:Int)≤c5 ((I:Int)+(a2.length:Int))∧c5 ((I:Int)+(a2.length:Int))≤((I+(a0.length+a2.length - I):Nat):Int)),.need ((0:Int)≤(I:Int)∧(I:Int)≤((a0.length:Nat):Int))] [(53,.slice (K6 c8 I 3 (some ⟨b,off,none⟩)) (a0.length - I) (c8 - I)),(52,iv (I:Int)),(51,.slice (some ⟨b,off,none⟩) a0.length c8),(50,.slice (K6 c' (c5 ((I:Int)+(a2.length:Int))).toNat 3 (some ⟨g,0,none⟩)) (I+(a0.length+a2.length - I) - (c5 ((I:Int)+(a2.length:Int))).toNat) (c' - (c5 ((I:Int)+(a2.length:Int))).toNat)),(49,iv (c5 ((I:Int)+(a2.length:Int)))),(48,iv (a2.length:Int)),(47,iv (I:Int)),(46,.slice (some ⟨g,0,none⟩) (I+(a0.length+a2.length - I)) c'),(0,.slice (some ⟨b,off,none⟩) a0.length c8),(1,iv (I:Int)),(2,.slice (some ⟨vb,U5,none⟩) a2.length K9),(7,iv (a2.length:Int)),(9,.slice (some ⟨g,0,none⟩) (I+(a0.length+a2.length - I)) c')] (fun w hh=>trivial) (fun w hh=>trivial) (fun w hh=>⟨by rw [hw2]; constructor <;> omega,h0,h1⟩) ?_
   refine o5.e5 (n:=0) (ls':=[true,true,true,true,true,true,true,true,true]) 8 (by kernel_rfl) rfl (j6.aV8 (k:=0) (t:=23) (e:=47) (bytes:=48) (sz:=3) (A1:=K6 c' (c5 ((I:Int)+(a2.length:Int))).toNat 3 (some ⟨g,0,none⟩)) (aa3:=K6 c8 I 3 (some ⟨b,off,none⟩)) (dd:=some 54) (dc:=c' - (c5 ((I:Int)+(a2.length:Int))).toNat) (sc:=c8 - I) (dl:=I+(a0.length+a2.length - I) - (c5 ((I:Int)+(a2.length:Int))).toNat) (sl:=a0.length - I) (b:=g) (o:=0+(I+a2.length)*3) (a:=⟨b,off+I*3,none⟩) (cells:=F4 aF3 (0+I*3) af0) (news:=ah5) (by kernel_rfl) (by rw [hw2]; exact ay6 (n:=I+a2.length+1) (by omega) (by omega) rfl) (ay6 hIn k3 rfl) (by kernel_rfl) rfl (by rw [d1,hw2]; congr 1; simp only [Nat.min_def,Int.toNat_natCast]; split <;> omega) (fun w hh j u hu=>by rw [add_plain]; exact aw4 (hh.N1 1 rfl) (d2 j u hu)) d3 (by rw [ah8,d1]; omega)) ?_
   rintro _ _ _ _ ⟨rfl,rfl,rfl⟩
   refine ⟨fun _ w hh=>⟨fun _=>trivial,fun _=>trivial,(fun h=>by cases h)⟩,?_⟩
   refine Kr [9] [(9,.slice (some ⟨g,0,none⟩) (I+(a0.length+a2.length - I)) c')] ?_
   refine o5.done (by kernel_rfl) ?_
   refine An 1<|Rr<|Rd 2 [6] [(6,.slice (some ⟨g,0,none⟩) (I+(a0.length+a2.length - I)) c')] ?_
   have r1:Kd.q9 k5 H (F4 aF3 (0+I*3) af0) 0 (a0.take I++a2):=by
    have:=q9.F4 g4 v4 (by rw [htl,hsz,v1]; omega)
    rwa [htl,hsz] at this
   have hl1:(a0.take I++a2).length=I+a2.length:=by rw [List.length_append,htl]
   have r2:Kd.q9 k5 H (F4 (F4 aF3 (0+I*3) af0) (0+(I+a2.length)*3) ah5) 0 (a0.take I++a2++a0.drop I):=by
    have:=q9.F4 r1 d4 (by rw [hl1,hsz,d1,ah8]; omega)
    rwa [hl1,hsz] at this
   have ho:b6 k5 47 H (some ⟨g,0,none⟩) c' (a0.take I++a2++a0.drop I) (some (g,.cells (F4 (F4 aF3 (0+I*3) af0) (0+(I+a2.length)*3) ah5) 47 (0,0))):=.inr ⟨g,0,_,rfl,rfl,by rw [hrl]; omega,g2,by rw [ah8,ah8,hsz]; exact g3,r2⟩
   refine b8.pick 3 [0] (cs':=some (g,.cells (F4 (F4 aF3 (0+I*3) af0) (0+(I+a2.length)*3) ah5) 47 (0,0))::F) (by kernel_rfl) rfl ?_
   exact b8.done (by kernel_rfl) Tryz.func68 (v:=.slice (some ⟨g,0,none⟩) (I+(a0.length+a2.length - I)) c') (by kernel_rfl) ⟨some ⟨g,0,none⟩,c',_,rfl,by rw [hrl,show I+(a0.length+a2.length - I)=a0.length+a2.length by omega],rfl,ho⟩
  ·have hroom:a0.length+a2.length≤c8:=by rw [hw1] at hc; have:=of_decide_eq_false hc; omega
   refine Cf (decide ((c8:Int)<c5 ((a0.length:Int)+(a2.length:Int)))) hc<|An 2<|Rr<|Rv 6 [0,1,2,7] [] [.need ((0:Int)≤c5 ((a0.length:Int)+(a2.length:Int))∧c5 ((a0.length:Int)+(a2.length:Int))≤((c8:Nat):Int))] [(0,.slice (some ⟨b,off,none⟩) (c5 ((a0.length:Int)+(a2.length:Int))).toNat c8),(1,iv (I:Int)),(2,.slice (some ⟨vb,U5,none⟩) a2.length K9),(7,iv (a2.length:Int))] (fun w hh=>by rw [hw1]; constructor <;> omega) ?_
   refine c6.bf5 (v':=.slice (some ⟨b,off,none⟩) (a0.length+a2.length) c8) (by rw [hw1]; rfl) ?_
   refine Dn<|An 2<|Rr<|Rv 6 [0,1,2,7,61,66] [] [.need ((0:Int)≤c5 ((I:Int)+(a2.length:Int))∧c5 ((I:Int)+(a2.length:Int))≤((a0.length+a2.length:Nat):Int))] [(0,.slice (some ⟨b,off,none⟩) (a0.length+a2.length) c8),(1,iv (I:Int)),(2,.slice (some ⟨vb,U5,none⟩) a2.length K9),(7,iv (a2.length:Int)),(61,.slice (some ⟨vb,U5,none⟩) a2.length K9),(66,.slice (K6 c8 (c5 ((I:Int)+(a2.length:Int))).toNat 3 (some ⟨b,off,none⟩)) (a0.length+a2.length - (c5 ((I:Int)+(a2.length:Int))).toNat) (c8 - (c5 ((I:Int)+(a2.length:Int))).toNat))] (fun w hh=>by rw [hw2]; constructor <;> omega) ?_
   have hsh:K6 c8 (c5 ((I:Int)+(a2.length:Int))).toNat 3 (some ⟨b,off,none⟩)=some ⟨b,off+(I+a2.length)*3,none⟩:=by rw [hw2]; exact ay6 (n:=a0.length+a2.length) (by omega) hroom rfl
   have hne:∀ w,Heap H w0 w (some (b,.cells cells 47 (0,0))::some (vb,.cells bY8 47 (0,0))::F)→vb≠b:=fun w hh=>hh.dif 1 0 _ _ rfl rfl (by omega)
   refine c6.e5 (j6.ext (d:=67) (g:=94) (args:=#[.slice (some ⟨vb,U5,none⟩) a2.length K9,.slice (K6 c8 (c5 ((I:Int)+(a2.length:Int))).toNat 3 (some ⟨b,off,none⟩)) (a0.length+a2.length - (c5 ((I:Int)+(a2.length:Int))).toNat) (c8 - (c5 ((I:Int)+(a2.length:Int))).toNat)]) (v:=.bool false) (by kernel_rfl) (fun w hh=>by rw [hsh]; exact cg8 (e:=4) Tryz.func94 (by kernel_rfl) (by kernel_rfl) (by kernel_rfl) (by kernel_rfl) (show au3 Tryz.prog 23 47 3 48=true by kernel_rfl) (hh.N1 1 rfl) (hh.N1 0 rfl) (hne w hh) (by omega))) ?_
   rintro _ _ _ _ ⟨rfl,rfl,rfl⟩
   refine Rd 8 [0,1,2,7,68] [(0,.slice (some ⟨b,off,none⟩) (a0.length+a2.length) c8),(1,iv (I:Int)),(2,.slice (some ⟨vb,U5,none⟩) a2.length K9),(7,iv (a2.length:Int)),(68,.bool true)]<|Ct true rfl<|An 1 ?_
   refine b8.draw (fun w=>True) (fun w=>True) [3,3,3,3,3,3,3,3,0] (n:=9) (ls:=[false,false,false,false,false,false,false,false,false]) (by kernel_rfl) (by kernel_rfl) (by kernel_rfl) rfl ?_
   refine Dr [0,1,2,3,4,5,6,7] 1 (nb 9 255) [] [.need ((0:Int)≤c5 ((I:Int)+(a2.length:Int))∧c5 ((I:Int)+(a2.length:Int))≤((a0.length+a2.length:Nat):Int)),.need ((0:Int)≤(I:Int)∧(I:Int)≤((a0.length+a2.length:Nat):Int))] [(76,.slice (K6 c8 I 3 (some ⟨b,off,none⟩)) (a0.length+a2.length - I) (c8 - I)),(75,iv (I:Int)),(74,.slice (some ⟨b,off,none⟩) (a0.length+a2.length) c8),(73,.slice (K6 c8 (c5 ((I:Int)+(a2.length:Int))).toNat 3 (some ⟨b,off,none⟩)) (a0.length+a2.length - (c5 ((I:Int)+(a2.length:Int))).toNat) (c8 - (c5 ((I:Int)+(a2.length:Int))).toNat)),(72,iv (c5 ((I:Int)+(a2.length:Int)))),(71,iv (a2.length:Int)),(70,iv (I:Int)),(69,.slice (some ⟨b,off,none⟩) (a0.length+a2.length) c8),(0,.slice (some ⟨b,off,none⟩) (a0.length+a2.length) c8),(1,iv (I:Int)),(2,.slice (some ⟨vb,U5,none⟩) a2.length K9),(7,iv (a2.length:Int)),(68,.bool true)] (fun w hh=>trivial) (fun w hh=>trivial) (fun w hh=>⟨by rw [hw2]; constructor <;> omega,h0,by omega⟩) ?_
   refine o5.e5 (n:=0) (ls':=[true,true,true,true,true,true,true,true,true]) 8 (by kernel_rfl) rfl (j6.aV8 (k:=0) (t:=23) (e:=47) (bytes:=48) (sz:=3) (A1:=K6 c8 (c5 ((I:Int)+(a2.length:Int))).toNat 3 (some ⟨b,off,none⟩)) (aa3:=K6 c8 I 3 (some ⟨b,off,none⟩)) (dd:=some 77) (dc:=c8 - (c5 ((I:Int)+(a2.length:Int))).toNat) (sc:=c8 - I) (dl:=a0.length+a2.length - (c5 ((I:Int)+(a2.length:Int))).toNat) (sl:=a0.length+a2.length - I) (b:=b) (o:=off+(I+a2.length)*3) (a:=⟨b,off+I*3,none⟩) (cells:=cells) (news:=ah5) (by kernel_rfl) hsh (ay6 hIn k3 rfl) (by kernel_rfl) rfl (by rw [d1,hw2]; congr 1; simp only [Nat.min_def,Int.toNat_natCast]; split <;> omega) (fun w hh j u hu=>by rw [add_plain]; exact aw4 (hh.N1 0 rfl) (d2 j u hu)) d3 (by rw [d1]; omega)) ?_
   rintro _ _ _ _ ⟨rfl,rfl,rfl⟩
   refine ⟨fun _ w hh=>⟨fun _=>trivial,fun _=>trivial,(fun h=>by cases h)⟩,?_⟩
   refine Kr [0,1,2] [(0,.slice (some ⟨b,off,none⟩) (a0.length+a2.length) c8),(1,iv (I:Int)),(2,.slice (some ⟨vb,U5,none⟩) a2.length K9)] ?_
   refine o5.done (by kernel_rfl) ?_
   refine An 1<|Rr<|Rv 4 [0,80,81] [] [.need ((0:Int)≤(I:Int)∧(I:Int)≤((a0.length+a2.length:Nat):Int))] [(0,.slice (some ⟨b,off,none⟩) (a0.length+a2.length) c8),(80,.slice (K6 c8 I 3 (some ⟨b,off,none⟩)) (a0.length+a2.length - I) (c8 - I)),(81,.slice (some ⟨vb,U5,none⟩) a2.length K9)] (fun w hh=>⟨h0,by omega⟩) ?_
   refine c6.e5 (j6.aV8 (k:=0) (t:=23) (e:=47) (bytes:=48) (sz:=3) (A1:=K6 c8 I 3 (some ⟨b,off,none⟩)) (aa3:=some ⟨vb,U5,none⟩) (dd:=some 82) (dc:=c8 - I) (sc:=K9) (dl:=a0.length+a2.length - I) (sl:=a2.length) (b:=b) (o:=off+I*3) (a:=⟨vb,U5,none⟩) (cells:=F4 cells (off+(I+a2.length)*3) ah5) (news:=af0) (by kernel_rfl) (ay6 hIn k3 rfl) rfl (by kernel_rfl) rfl (by rw [v1]; congr 1; simp only [Nat.min_def]; split <;> omega) (fun w hh j u hu=>by rw [add_plain]; exact aw4 (hh.N1 1 rfl) (v2 j u hu)) v3 (by rw [ah8,v1]; omega)) ?_
   rintro _ _ _ _ ⟨rfl,rfl,rfl⟩
   refine Rd 5 [0] [(0,.slice (some ⟨b,off,none⟩) (a0.length+a2.length) c8)]<|An 1<|Rr<|Rd 2 [6] [(6,.slice (some ⟨b,off,none⟩) (a0.length+a2.length) c8)] ?_
   have htl:(a0.take I).length=I:=by simp; omega
   have s1:Kd.q9 k5 H (F4 (F4 cells (off+(I+a2.length)*3) ah5) (off+I*3) af0) off (a0.take I):=q9.bb1 (q9.bb1 (q9.take as1 I) (by rw [d1]; omega) (by rw [htl,hsz]; omega)) (by rw [ah8,v1]; omega) (by rw [htl,hsz]; omega)
   have s2:Kd.q9 k5 H (F4 (F4 cells (off+(I+a2.length)*3) ah5) (off+I*3) af0) (off+I*3) a2:=q9.inw v4 (by rw [ah8,v1]; omega)
   have bZ1:Kd.q9 k5 H (F4 (F4 cells (off+(I+a2.length)*3) ah5) (off+I*3) af0) (off+(I+a2.length)*3) (a0.drop I):=q9.bb1 (q9.inw d4 (by rw [d1]; omega)) (by rw [ah8,v1]; omega) (by rw [v1]; omega)
   have hl1:(a0.take I++a2).length=I+a2.length:=by rw [List.length_append,htl]
   have r2:Kd.q9 k5 H (F4 (F4 cells (off+(I+a2.length)*3) ah5) (off+I*3) af0) off (a0.take I++a2++a0.drop I):=q9.glue (q9.glue s1 (by rw [htl,hsz]; exact s2)) (by rw [hl1,hsz]; exact bZ1)
   have ho:b6 k5 47 H (some ⟨b,off,none⟩) c8 (a0.take I++a2++a0.drop I) (some (b,.cells (F4 (F4 cells (off+(I+a2.length)*3) ah5) (off+I*3) af0) 47 (0,0))):=.inr ⟨b,off,_,rfl,rfl,by rw [hrl]; omega,k4,by rw [ah8,ah8,hsz]; exact aQ0,r2⟩
   refine b8.pick 2 [0] (cs':=some (b,.cells (F4 (F4 cells (off+(I+a2.length)*3) ah5) (off+I*3) af0) 47 (0,0))::F) (by kernel_rfl) rfl ?_
   exact b8.done (by kernel_rfl) Tryz.func68 (v:=.slice (some ⟨b,off,none⟩) (a0.length+a2.length) c8) (by kernel_rfl) ⟨some ⟨b,off,none⟩,c8,_,rfl,by rw [hrl],rfl,ho⟩
noncomputable def C67:Ctx:={ P:=Tryz.prog,f:=67,N:=33,c:=C1 Tryz.f67 }
def S67 (F:List Ch) (H0:Hp) (r:List Entry) (v:Value) (H:Hp) (cs:List Ch):Prop:=∃ (ad8:Option Addr) (c0:Nat) (J6:Ch),H0=H∧v=.slice ad8 r.length c0∧J6::F=cs∧b6 k5 47 H ad8 c0 r J6
theorem cz1 {a0:List Entry} {e7:Option Addr} {s0 c8:Nat} {ab2:Ch} {a1 a2:Int} {r:List Entry} (I5:b6 k5 47 H e7 c8 a0 ab2) (L8:s0=a0.length) (heq:bi4.f a0 a1 a2=some r):z7 Tryz.prog 67 #[.slice e7 s0 c8,iv a1,iv a2] H w0 (ab2::F) (S67 F H r):=by
 refine ba4 (F:=C67) Tryz.func67 (by kernel_rfl) Tryz.ntmps67 (args:=[.slice e7 s0 c8,iv a1,iv a2]) (by kernel_rfl) ?_
 subst L8
 unfold bi4.f at heq
 obtain ⟨hn,heq⟩:=M1 heq
 obtain rfl:=Option.some.inj heq
 simp only [Bool.and_eq_true,decide_eq_true_eq] at hn
 obtain ⟨h0,h1,h2,h3⟩:=hn
 have h3:=room_le h3
 obtain ⟨I,rfl⟩:∃ I:Nat,a1=(I:Int):=⟨a1.toNat,by omega⟩
 obtain ⟨J,rfl⟩:∃ J:Nat,a2=(J:Int):=⟨a2.toNat,by omega⟩
 have hcap:=I5.cap
 have hbig:a0.length≤140737490452480:=by
  have:(a0.length+0)*1≤(a0.length+0)*48:=Nat.mul_le_mul_left _ (by omega)
  omega
 simp only [Int.toNat_natCast]
 refine An 1<|Rr<|Rd 1 [0,1,2] [(0,.slice e7 a0.length c8),(1,iv (I:Int)),(2,iv (J:Int))]<|An 1<|Rr<|Rw' 6 [0,1,2] [] [.need ((0:Int)≤(I:Int)∧(I:Int)≤(J:Int)∧(J:Int)≤(a0.length:Int)∧(a0.length:Int)≤((c8:Nat):Int))] [(0,.slice e7 a0.length c8),(1,iv (I:Int)),(2,iv (J:Int))] (fun w hh=>⟨h0,h1,h2,by omega⟩)<|An 2<|Rr<|Rd 3 [0,1,2,16] [(0,.slice e7 a0.length c8),(1,iv (I:Int)),(2,iv (J:Int)),(16,.bool ((I:Int) == (J:Int)))] ?_
 rcases y9 ((I:Int) == (J:Int)) with hb | hb
 ·have hIJ:I=J:=by have:=eq_of_beq hb; omega
  have e:a0.take I++a0.drop J=a0:=by rw [hIJ]; exact List.take_append_drop J a0
  rw [e]
  refine Ct ((I:Int) == (J:Int)) hb<|An 1<|Rr<|Rd 2 [6] [(6,.slice e7 a0.length c8)] ?_
  exact b8.done (by kernel_rfl) Tryz.func67 (v:=.slice e7 a0.length c8) (by kernel_rfl) ⟨e7,c8,ab2,rfl,rfl,rfl,I5⟩
 ·have hIJ:I<J:=by have:=beq_eq_false_iff_ne.1 hb; omega
  have hx:a0≠[]:=by intro h; subst h; simp at h2; omega
  rcases I5 with ⟨h,_⟩ | ⟨b,off,cells,rfl,rfl,k3,k4,aQ0,as1⟩
  ·exact absurd h hx
  have hsz:(k5).sz=3:=rfl
  have htl:(a0.take I).length=I:=by simp; omega
  have hdl:(a0.drop J).length=a0.length - J:=by simp
  have hl:(a0.take I++a0.drop J).length=I+(a0.length - J):=by rw [List.length_append,htl,hdl]
  refine Cf ((I:Int) == (J:Int)) hb<|An 2<|Rr<|Rd 3 [0,1,2,7] [(0,.slice (some ⟨b,off,none⟩) a0.length c8),(1,iv (I:Int)),(2,iv (J:Int)),(7,iv (a0.length:Int))]<|An 1 ?_
  refine b8.draw (fun w=>True) (fun w=>True) [3,3,3,3,3,3,0,3] (n:=8) (ls:=[false,false,false,false,false,false,false,false]) (by kernel_rfl) (by kernel_rfl) (by kernel_rfl) rfl ?_
  refine Dr [0,1,2,3,4,5] 2 (nb 8 63) [] [.need ((0:Int)≤(I:Int)∧(I:Int)≤((c8:Nat):Int)),.need ((0:Int)≤(J:Int)∧(J:Int)≤((a0.length:Nat):Int))] [(25,.slice (K6 c8 J 3 (some ⟨b,off,none⟩)) (a0.length - J) (c8 - J)),(24,iv (J:Int)),(23,.slice (some ⟨b,off,none⟩) a0.length c8),(22,.slice (some ⟨b,off,none⟩) I c8),(21,iv (I:Int)),(20,.slice (some ⟨b,off,none⟩) a0.length c8),(0,.slice (some ⟨b,off,none⟩) a0.length c8),(1,iv (I:Int)),(2,iv (J:Int)),(7,iv (a0.length:Int))] (fun w hh=>trivial) (fun w hh=>trivial) (fun w hh=>⟨⟨h0,by omega⟩,by omega,h2⟩) ?_
  refine o5.e5 (n:=1) (ls':=[true,true,true,true,true,true,true,false]) 6 (by kernel_rfl) rfl (j6.cJ9 (dd:=26) (k:=0) (t:=23) (e:=47) (bytes:=48) (kd:=k5) (n:=I) (m:=a0.length - J) (xs:=a0.take I) (ys:=a0.drop J) (b:=b) (off:=off) (c:=c8) (cB:=c8 - J) (B:=K6 c8 J 3 (some ⟨b,off,none⟩)) (cells:=cells) (by kernel_rfl) htl.symm hdl.symm (by kernel_rfl) rfl aQ0 (q9.take as1 I) (fun _=>by unfold K6; split <;> simp) (fun w hh=>(b6.drop (.inr ⟨b,off,cells,rfl,rfl,k3,k4,aQ0,as1⟩:b6 k5 47 H (some ⟨b,off,none⟩) c8 a0 (some (b,.cells cells 47 (0,0)))) J (by omega)).Y9 (hh.N1 0 rfl)) (by omega)) ?_
  rintro _ _ _ _ ⟨news,rfl,rfl,rfl,g1,g2⟩
  refine ⟨fun _ w hh=>⟨fun _=>trivial,fun _=>trivial,(fun h=>by cases h)⟩,?_⟩
  refine Kr [26,7] [(26,.slice (some ⟨b,off,none⟩) (a0.take I++a0.drop J).length c8),(7,iv (a0.length:Int))]<|Dk [7] 0 (nb 8 255) [] [] [0,7] [(0,.slice (some ⟨b,off,none⟩) (a0.take I++a0.drop J).length c8),(7,iv (a0.length:Int))] (fun w hh=>trivial) (fun w hh=>trivial) (fun _ _=>trivial) ?_
  refine o5.done (by kernel_rfl) ?_
  refine An 1 ?_
  have hmul:(I+(a0.length - J))*3≤c8*3:=Nat.mul_le_mul_right _ (by omega)
  rw [hsz] at g1 aQ0
  rw [hdl] at g1
  have hll:(a0.drop (I+(a0.length - J))).length=a0.length - (I+(a0.length - J)):=by simp
  have r3:Kd.q9 k5 H (F4 cells (off+(a0.take I).length*(k5).sz) news) (off+(a0.take I++a0.drop J).length*3) (a0.drop (I+(a0.length - J))):=by
   rw [hl]
   exact q9.bb1 (q9.drop as1 (I+(a0.length - J))) (by rw [g1,htl,hsz]; omega) (by rw [g1,htl,hsz]; omega)
  have r4:=q9.glue g2 r3
  have hl4:(a0.take I++a0.drop J++a0.drop (I+(a0.length - J))).length=a0.length:=by rw [List.length_append,hl,hll]; omega
  have C9:b6 k5 47 H (some ⟨b,off,none⟩) c8 (a0.take I++a0.drop J++a0.drop (I+(a0.length - J))) (some (b,.cells (F4 cells (off+(a0.take I).length*(k5).sz) news) 47 (0,0))):=.inr ⟨b,off,_,rfl,rfl,by rw [hl4]; exact k3,k4,by rw [ah8,hsz]; exact aQ0,r4⟩
  refine Rr<|Rv 5 [0,31] [] [.need ((0:Int)≤((a0.take I++a0.drop J).length:Int)∧((a0.take I++a0.drop J).length:Int)≤(a0.length:Int)∧(a0.length:Int)≤((c8:Nat):Int))] [(0,.slice (some ⟨b,off,none⟩) (a0.take I++a0.drop J).length c8),(31,.slice (K6 c8 (a0.take I++a0.drop J).length 3 (some ⟨b,off,none⟩)) (a0.length - (a0.take I++a0.drop J).length) (c8 - (a0.take I++a0.drop J).length))] (fun w hh=>⟨by omega,by omega,by omega⟩) ?_
  refine c6.e5 (j6.clear (k:=0) (j:=(a0.take I++a0.drop J).length) (n:=a0.length - (a0.take I++a0.drop J).length) (t:=23) (e:=47) (bytes:=48) (kd:=k5) (A:=some ⟨b,off,none⟩) (aa3:=K6 c8 (a0.take I++a0.drop J).length 3 (some ⟨b,off,none⟩)) (c:=c8) (c2:=c8 - (a0.take I++a0.drop J).length) (xs:=a0.take I++a0.drop J++a0.drop (I+(a0.length - J))) (z:=(⟨ByteArray.empty,([]:List ByteArray),0⟩:Entry)) (zc:=#[.string ByteArray.empty,.slice none 0 0,iv 0]) (by kernel_rfl) (by rw [hl4]) (by kernel_rfl) (by kernel_rfl) (aT4 (Nat.le_refl _) Kd.Row.none) (by kernel_rfl) rfl C9 (by rw [hl4]; omega) (fun h b off hA=>ay6 h C9.cap hA)) ?_
  rintro _ _ _ _ ⟨O2,rfl,rfl,rfl,H7⟩
  have O4:=H7.take (a0.take I++a0.drop J).length
  rw [List.take_append_of_le_length (by simp),List.take_take,Nat.min_self,List.take_append_of_le_length (Nat.le_refl _),List.take_length] at O4
  refine Rd 6 [0] [(0,.slice (some ⟨b,off,none⟩) (a0.take I++a0.drop J).length c8)]<|An 1<|Rr<|Rd 2 [6] [(6,.slice (some ⟨b,off,none⟩) (a0.take I++a0.drop J).length c8)] ?_
  exact b8.done (by kernel_rfl) Tryz.func67 (v:=.slice (some ⟨b,off,none⟩) (a0.take I++a0.drop J).length c8) (by kernel_rfl) ⟨some ⟨b,off,none⟩,c8,O2,rfl,rfl,rfl,O4⟩
noncomputable def C46:Ctx:={ P:=Tryz.prog,f:=46,N:=116,c:=C1 Tryz.f46 }
def S46 (F:List Ch) (H0:Hp) (c9:Nat) (r:k6 × Cache) (v:Value) (H:Hp) (cs:List Ch):Prop:=∃ (Z8:Option Addr) (Z9:Nat) (aa0:Ch) (E7:Option Addr) (E8:Nat) (F1:Ch) (av6:Option Addr) (av7:Nat) (av8:Ch) (av9:Option Addr) (aw0:Nat) (aw1:Ch),v=.agg #[.bool r.1.x8,.slice Z8 r.1.x5.length Z9,.slice E7 r.1.x4.length E8]∧aa0::F1::some (c9,.cells #[iv r.2.Room,iv r.2.c4,.slice av6 r.2.U.length av7,.slice av9 r.2.Entries.length aw0] 25 (0,0))::av8::aw1::F=cs∧b6 Kd.string 9 H Z8 Z9 r.1.x5 aa0∧b6 Kd.string 9 H E7 E8 r.1.x4 F1∧b6 j7 44 H av6 av7 r.2.U av8∧b6 k5 47 H av9 aw0 r.2.Entries aw1
theorem M9.ad6 {r:k6 × Cache}:∀ (H:Hp) (c9:Nat) (a1:k7) (g2:Nat) (y2:Cache) (aa3:Option Addr) (c2:Nat) (B5:Ch) (y3:List ByteArray) (aa9:Option Addr) (y8:Nat) (G6:Ch) (g3:Nat) (o4:List Entry) (z8:Option Addr) (J1 z6:Nat) (ac3:Ch) (aU0:Int) ,b6 j7 44 H aa3 c2 y2.U B5→b6 Kd.string 9 H aa9 y8 y3 G6→b6 k5 47 H z8 z6 o4 ac3→J1=o4.length→M9.j1 a1 y2 y3 o4 aU0=some r→b8 C46 (S46 F H0 c9 r) H0 w0 [.c [1,1,1,1,1,1,1,0],.c [1,1,1,1,1,1,1,1]] [(0,pg c9 0),(4,pg g2 0),(6,pg g3 0),(7,iv aU0)] H ((some (g3,.cells #[.string a1.Key,.slice aa9 y3.length y8,iv a1.At] 47 (0,0)))::G6::(some (c9,.cells #[iv y2.Room,iv y2.c4,.slice aa3 y2.U.length c2,.slice z8 J1 z6] 25 (0,0)))::B5::ac3::(some (g2,.cells #[.bool false,.slice none 0 0,.slice none 0 0] 54 (0,0)))::F):=by
 intro H c9 a1 g2 y2 aa3 c2 B5 y3 aa9 y8 G6 g3 o4 z8 J1 z6 ac3 aU0 w4 H7 J4 ai9 heq
 subst ai9
 unfold M9.j1 at heq
 refine Sd 5 12 [0,2,3] [3,3,3,3,3,3,3,1,1,1,3,2]<|Zt [0,1,2,3,4,5,6] 5 ([bx 1 3]++C8 0) (Pk 6 [0,2,3,5])<|Ur 2 [1,0] ?_
 have hc4:=H7.cap
 refine o5.aD8 H7 (fun H hl hr4=>?_)
 have hle:=hl
 replace w4:=w4.mono hl
 replace J4:=J4.mono hl
 refine Dz 7 (j6.new (d:=111) (v:=fun g=>.slice (some ⟨g,0,none⟩) 1 1) (o:=fun g=>.cells #[.string a1.Key,.slice aa9 y3.length y8,iv a1.At] 47 (0,0)) (fun g=>by kernel_rfl)) ?_
 rintro _ _ _ _ ⟨g4,rfl,rfl,rfl⟩
 have K4:b6 k5 47 H (some ⟨g4,0,none⟩) 1 ([(⟨a1.Key,y3,a1.At⟩:Entry)]:List Entry) (some (g4,.cells #[.string a1.Key,.slice aa9 y3.length y8,iv a1.At] 47 (0,0))):=b6.lit (xs:=([(⟨a1.Key,y3,a1.At⟩:Entry)]:List Entry)) (by kernel_rfl) (Nat.le_of_ble_eq_true (by kernel_rfl)) (Kd.q9.one (aT4 hc4 hr4))
 refine ⟨fun _ w hh=>⟨(fun h=>by cases h),fun _=>(fun w hh=>(hh.le hle).pick 6 [1,2,3,5] (by kernel_rfl)) w hh,(fun h=>by cases h)⟩,?_⟩
 refine Ur 5 [4,0,1,2,3] ?_
 obtain ⟨A0,hy5,heq⟩:=bind_some heq
 refine Dz 8 (o9 112 (dn8 (a0:=o4) (a1:=aU0) (a2:=([(⟨a1.Key,y3,a1.At⟩:Entry)]:List Entry)) J4 rfl K4 rfl hy5)) ?_
 rintro _ _ _ _ ⟨_,rfl,af6,c7,S3,rfl,rfl,rfl,N0⟩
 refine ⟨fun _ w hh=>⟨(fun h=>by cases h),fun _=>(fun w hh=>(hh.le hle).pick 5 [1,2,3,4] (by kernel_rfl)) w hh,(fun h=>by cases h)⟩,?_⟩
 refine Dz 9 (j6.aw6 (d:=113) (v:=.pointer (some ⟨c9,0,none⟩)) (vs:=[]) (G8:=[]) (by kernel_rfl) (fun _ _=>trivial)) ?_
 rintro _ _ _ _ ⟨rfl,rfl,rfl⟩
 refine ⟨fun _ w hh=>⟨(fun h=>by cases h),fun _=>(fun w hh=>(hh.le hle).pick 5 [1,2,3,4] (by kernel_rfl)) w hh,(fun h=>by cases h)⟩,?_⟩
 refine Zt [10] 1 [] (fun w hh=>(hh.le hle).pick 5 [1,2,3,4] (by kernel_rfl)) ?_
 refine Dz 11 (j6.store (k:=2) (g:=c9) (off:=3) (v:=.slice af6 A0.length c7) (cells':=#[iv y2.Room,iv y2.c4,.slice aa3 y2.U.length c2,.slice af6 A0.length c7]) (by kernel_rfl) rfl (by kernel_rfl) (by kernel_rfl)) ?_
 rintro _ _ _ _ ⟨rfl,rfl,rfl⟩
 refine ⟨fun _ w hh=>⟨(fun h=>by cases h),(fun h=>absurd h (by decide)),(fun h=>by cases h)⟩,?_⟩
 refine o5.p6 ?_
 refine o5.done (by kernel_rfl) ?_
 refine Sa 1<|Zk 1 ?_
 refine c6.e5 (j6.store (k:=4) (g:=g2) (off:=0) (v:=.agg #[.bool true,.slice none 0 0,.slice none 0 0]) (cells':=#[.bool true,.slice none 0 0,.slice none 0 0]) (by kernel_rfl) rfl (by kernel_rfl) (by kernel_rfl)) ?_
 rintro _ _ _ _ ⟨rfl,rfl,rfl⟩
 refine c6.p6 ?_
 refine Dn<|b8.w5 ?_
 have aa4:b6 Kd.string 9 H none 0 ([]:List ByteArray) none:=b6.nil
 refine b8.w5 ?_
 have ae5:b6 Kd.string 9 H none 0 ([]:List ByteArray) none:=b6.nil
 obtain rfl:=Option.some.inj heq
 refine Up 7 [6,1,0,4,5,2] ?_
 exact b8.I3 1 (vs:=[.agg #[.bool true,.slice none 0 0,.slice none 0 0]]) (v:=.agg #[.bool true,.slice none 0 0,.slice none 0 0]) (by kernel_rfl) Tryz.func46 (fun w hh=>show G2 _ _ _ [.cell 4 54] _ from ⟨⟨⟨g2,0,none⟩,by kernel_rfl,F5 _ (vs:=[.bool true,.slice none 0 0,.slice none 0 0]) (r:=[]) (es:=[.load ⟨g2,0,none⟩ (.bool true),.load ⟨g2,1,none⟩ (.slice none 0 0),.load ⟨g2,2,none⟩ (.slice none 0 0)]) (by kernel_rfl) ⟨(hh.box 0 rfl rfl),(hh.box 0 rfl rfl),(hh.box 0 rfl rfl)⟩⟩,trivial⟩) rfl (cs':=none::none::(some (c9,.cells #[iv y2.Room,iv y2.c4,.slice aa3 y2.U.length c2,.slice af6 A0.length c7] 25 (0,0)))::B5::S3::F) rfl ⟨none,0,none,none,0,none,aa3,c2,B5,af6,c7,S3,rfl,rfl,aa4,ae5,w4,N0⟩
theorem M9.az5 {r:k6 × Cache} (j1:k7→Cache→(List ByteArray)→(List Entry)→Int→Option (k6 × Cache))
  (hj1:∀ (H:Hp) (c9:Nat) (a1:k7) (g2:Nat) (y2:Cache) (aa3:Option Addr) (c2:Nat) (B5:Ch) (y3:List ByteArray) (aa9:Option Addr) (y8:Nat) (G6:Ch) (g3:Nat) (o4:List Entry) (z8:Option Addr) (J1 z6:Nat) (ac3:Ch) (aU0:Int) ,b6 j7 44 H aa3 c2 y2.U B5→b6 Kd.string 9 H aa9 y8 y3 G6→b6 k5 47 H z8 z6 o4 ac3→J1=o4.length→j1 a1 y2 y3 o4 aU0=some r→b8 C46 (S46 F H0 c9 r) H0 w0 [.c [1,1,1,1,1,1,1,0],.c [1,1,1,1,1,1,1,1]] [(0,pg c9 0),(4,pg g2 0),(6,pg g3 0),(7,iv aU0)] H ((some (g3,.cells #[.string a1.Key,.slice aa9 y3.length y8,iv a1.At] 47 (0,0)))::G6::(some (c9,.cells #[iv y2.Room,iv y2.c4,.slice aa3 y2.U.length c2,.slice z8 J1 z6] 25 (0,0)))::B5::ac3::(some (g2,.cells #[.bool false,.slice none 0 0,.slice none 0 0] 54 (0,0)))::F)):∀ (H:Hp) (c9:Nat) (a1:k7) (n3:Option Addr) (n4 g1 g2:Nat) (y2:Cache) (aa3:Option Addr) (c2:Nat) (B5:Ch) (aa8:Option Addr) (c3:Nat) (E6:Ch) (y3:List ByteArray) (aa9:Option Addr) (y8:Nat) (G6:Ch) (g3:Nat) (aa1:Int) ,Rw Kd.string H F n3 a1.j9→a1.j9.length≤n4→b6 j7 44 H aa3 c2 y2.U B5→b6 k5 47 H aa8 c3 y2.Entries E6→b6 Kd.string 9 H aa9 y8 y3 G6→M9.e2 j1 a1 y2 y3 aa1=some r→b8 C46 (S46 F H0 c9 r) H0 w0 [.c [1,1,1,1,1,1,0,1,0,1,1,0],.c [1,1,1,1,1,1,0,1,0,1,1,1],.c [1,1,1,1,1,1,1]] [(0,pg c9 0),(3,pg g1 0),(4,pg g2 0),(6,pg g3 0),(9,iv aa1)] H ((some (g3,.cells #[.string a1.Key,.slice aa9 y3.length y8,iv a1.At] 47 (0,0)))::G6::(some (c9,.cells #[iv y2.Room,iv y2.c4,.slice aa3 y2.U.length c2,.slice aa8 y2.Entries.length c3] 25 (0,0)))::B5::E6::(some (g2,.cells #[.bool false,.slice none 0 0,.slice none 0 0] 54 (0,0)))::(some (g1,.cells #[iv a1.Kind,iv a1.At,.string a1.b7,.slice n3 a1.j9.length n4,.string a1.Key,iv a1.j4] 50 (0,0)))::F):=by
 intro H c9 a1 n3 n4 g1 g2 y2 aa3 c2 B5 aa8 c3 E6 y3 aa9 y8 G6 g3 aa1 u9 y6 w4 C9 H7 heq
 unfold M9.e2 at heq
 refine Sa 0<|Zv 8 [bx 2 3]<|Ug 5 [4,0,1,2,3] ?_
 obtain ⟨G0,hy6,heq⟩:=bind_some heq
 refine c6.e5 (o9 92 (cz1 (a0:=y2.Entries) (a1:=aa1) (a2:=c5 (aa1+1)) C9 rfl hy6)) ?_
 rintro _ _ _ _ ⟨_,rfl,A8,an2,ae6,rfl,rfl,rfl,ar7⟩
 refine Zk 11 ?_
 refine c6.e5 (j6.store (k:=3) (g:=c9) (off:=3) (v:=.slice A8 G0.length an2) (cells':=#[iv y2.Room,iv y2.c4,.slice aa3 y2.U.length c2,.slice A8 G0.length an2]) (by kernel_rfl) rfl (by kernel_rfl) (by kernel_rfl)) ?_
 rintro _ _ _ _ ⟨rfl,rfl,rfl⟩
 refine c6.p6 ?_
 refine Dn<|Sd 0 10 [] [3,3,3,3,3,0,3,3,3,3]<|Zr [0,1,2,3,4] 5 (C8 3++[bx 6 4]) (Pk 7 [0,1,2,3,4,5,6]) (Pk 7 [0,1,2,3,4,5,6]) ?_
 obtain ⟨W2,hy7,heq⟩:=bind_some heq
 refine Dz 5 (o9 101 (bZ8 (a0:=(⟨y2.Room,y2.c4,y2.U,G0⟩:Cache)) hy7 (w4.rw (.tail _ (.tail _ (.tail _ (.tail _ (.head _)))))) w4.cap rfl (ar7.rw (.head _)) ar7.cap rfl)) ?_
 rintro _ _ _ _ ⟨_,rfl,rfl,rfl,rfl⟩
 refine ⟨fun _ w hh=>⟨fun _=>(Pk 7 [0,1,2,3,4,5,6]) w hh,fun _=>(Pk 7 [0,1,2,3,4,5,6]) w hh,(fun h=>by cases h)⟩,?_⟩
 refine Zr [6,7,8,9] 0 [] (Pk 7 [0,1,2,3,4,5,6]) (Pk 7 [0,1,2,3,4,5,6]) ?_
 refine o5.done (by kernel_rfl) ?_
 refine An 1 ?_
 exact Gt 7 [1,2,3,4,0,5] (hj1 _ _ a1 _ y2 _ _ _ y3 _ _ _ _ G0 _ _ _ _ W2.1 w4 H7 ar7 rfl heq)
theorem M9.bv1 {r:k6 × Cache} (bl6:k7→Cache→(List ByteArray)→Int→Int→Option (k6 × Cache))
  (do2:∀ (H:Hp) (c9:Nat) (a1:k7) (n3:Option Addr) (n4 g1 g2:Nat) (y2:Cache) (aa3:Option Addr) (c2:Nat) (B5:Ch) (aa8:Option Addr) (c3:Nat) (E6:Ch) (y3:List ByteArray) (aa9:Option Addr) (y8:Nat) (G6:Ch) (g3:Nat) (aa1 v66:Int) ,Rw Kd.string H F n3 a1.j9→a1.j9.length≤n4→b6 j7 44 H aa3 c2 y2.U B5→b6 k5 47 H aa8 c3 y2.Entries E6→b6 Kd.string 9 H aa9 y8 y3 G6→bl6 a1 y2 y3 aa1 v66=some r→b8 C46 (S46 F H0 c9 r) H0 w0 [.c [1,1,1,1,1,1,0,1,0,1,0,1,0,0],.l [1,1,1,1,1,1,0,1,0,1,0,1,0,0],.b 0,.c [1,1,1,1,1,1,0,1,0,1,1],.c [1,1,1,1,1,1,1]] [(0,pg c9 0),(3,pg g1 0),(4,pg g2 0),(6,pg g3 0),(9,iv aa1),(64,.slice aa8 y2.Entries.length c3),(65,iv (y2.Entries.length:Int)),(66,iv v66)] H ((some (g3,.cells #[.string a1.Key,.slice aa9 y3.length y8,iv a1.At] 47 (0,0)))::G6::(some (c9,.cells #[iv y2.Room,iv y2.c4,.slice aa3 y2.U.length c2,.slice aa8 y2.Entries.length c3] 25 (0,0)))::B5::E6::(some (g2,.cells #[.bool false,.slice none 0 0,.slice none 0 0] 54 (0,0)))::(some (g1,.cells #[iv a1.Kind,iv a1.At,.string a1.b7,.slice n3 a1.j9.length n4,.string a1.Key,iv a1.j4] 50 (0,0)))::F)):∀ (H:Hp) (c9:Nat) (a1:k7) (n3:Option Addr) (n4 g1 g2:Nat) (y2:Cache) (aa3:Option Addr) (c2:Nat) (B5:Ch) (aa8:Option Addr) (c3:Nat) (E6:Ch) (y3:List ByteArray) (aa9:Option Addr) (y8:Nat) (G6:Ch) (g3:Nat) (v66 aa1:Int) ,Rw Kd.string H F n3 a1.j9→a1.j9.length≤n4→b6 j7 44 H aa3 c2 y2.U B5→b6 k5 47 H aa8 c3 y2.Entries E6→b6 Kd.string 9 H aa9 y8 y3 G6→M9.ap0 bl6 a1 y2 y3 v66 aa1=some r→b8 C46 (S46 F H0 c9 r) H0 w0 [.c [1,1,1,1,1,1,0,1,0,1,0,1,0,0,1,1,1],.l [1,1,1,1,1,1,0,1,0,1,0,1,0,0],.b 0,.c [1,1,1,1,1,1,0,1,0,1,1],.c [1,1,1,1,1,1,1]] [(0,pg c9 0),(3,pg g1 0),(4,pg g2 0),(6,pg g3 0),(9,iv aa1),(64,.slice aa8 y2.Entries.length c3),(65,iv (y2.Entries.length:Int)),(66,iv v66)] H ((some (g3,.cells #[.string a1.Key,.slice aa9 y3.length y8,iv a1.At] 47 (0,0)))::G6::(some (c9,.cells #[iv y2.Room,iv y2.c4,.slice aa3 y2.U.length c2,.slice aa8 y2.Entries.length c3] 25 (0,0)))::B5::E6::(some (g2,.cells #[.bool false,.slice none 0 0,.slice none 0 0] 54 (0,0)))::(some (g1,.cells #[iv a1.Kind,iv a1.At,.string a1.b7,.slice n3 a1.j9.length n4,.string a1.Key,iv a1.j4] 50 (0,0)))::F):=by
 intro H c9 a1 n3 n4 g1 g2 y2 aa3 c2 B5 aa8 c3 E6 y3 aa9 y8 G6 g3 v66 aa1 u9 y6 w4 C9 H7 heq
 unfold M9.ap0 at heq
 refine Sa 0<|Zd 2<|An 1 ?_
 exact Gt 0 [] (do2 _ _ a1 _ _ _ _ y2 _ _ _ _ _ _ y3 _ _ _ _ aa1 (c5 (v66+1)) u9 y6 w4 C9 H7 heq)
theorem M9.av4 {r:k6 × Cache} (e2:k7→Cache→(List ByteArray)→Int→Option (k6 × Cache))
  (he2:∀ (H:Hp) (c9:Nat) (a1:k7) (n3:Option Addr) (n4 g1 g2:Nat) (y2:Cache) (aa3:Option Addr) (c2:Nat) (B5:Ch) (aa8:Option Addr) (c3:Nat) (E6:Ch) (y3:List ByteArray) (aa9:Option Addr) (y8:Nat) (G6:Ch) (g3:Nat) (aa1:Int) ,Rw Kd.string H F n3 a1.j9→a1.j9.length≤n4→b6 j7 44 H aa3 c2 y2.U B5→b6 k5 47 H aa8 c3 y2.Entries E6→b6 Kd.string 9 H aa9 y8 y3 G6→e2 a1 y2 y3 aa1=some r→b8 C46 (S46 F H0 c9 r) H0 w0 [.c [1,1,1,1,1,1,0,1,0,1,1,0],.c [1,1,1,1,1,1,0,1,0,1,1,1],.c [1,1,1,1,1,1,1]] [(0,pg c9 0),(3,pg g1 0),(4,pg g2 0),(6,pg g3 0),(9,iv aa1)] H ((some (g3,.cells #[.string a1.Key,.slice aa9 y3.length y8,iv a1.At] 47 (0,0)))::G6::(some (c9,.cells #[iv y2.Room,iv y2.c4,.slice aa3 y2.U.length c2,.slice aa8 y2.Entries.length c3] 25 (0,0)))::B5::E6::(some (g2,.cells #[.bool false,.slice none 0 0,.slice none 0 0] 54 (0,0)))::(some (g1,.cells #[iv a1.Kind,iv a1.At,.string a1.b7,.slice n3 a1.j9.length n4,.string a1.Key,iv a1.j4] 50 (0,0)))::F)):∀ (k:Nat),∀ (H:Hp) (c9:Nat) (a1:k7) (n3:Option Addr) (n4 g1 g2:Nat) (y2:Cache) (aa3:Option Addr) (c2:Nat) (B5:Ch) (aa8:Option Addr) (c3:Nat) (E6:Ch) (y3:List ByteArray) (aa9:Option Addr) (y8:Nat) (G6:Ch) (g3:Nat) (aa1 v66:Int) ,Rw Kd.string H F n3 a1.j9→a1.j9.length≤n4→b6 j7 44 H aa3 c2 y2.U B5→b6 k5 47 H aa8 c3 y2.Entries E6→b6 Kd.string 9 H aa9 y8 y3 G6→M9.l3 e2 k a1 y2 y3 aa1 v66=some r→b8 C46 (S46 F H0 c9 r) H0 w0 [.c [1,1,1,1,1,1,0,1,0,1,0,1,0,0],.l [1,1,1,1,1,1,0,1,0,1,0,1,0,0],.b 0,.c [1,1,1,1,1,1,0,1,0,1,1],.c [1,1,1,1,1,1,1]] [(0,pg c9 0),(3,pg g1 0),(4,pg g2 0),(6,pg g3 0),(9,iv aa1),(64,.slice aa8 y2.Entries.length c3),(65,iv (y2.Entries.length:Int)),(66,iv v66)] H ((some (g3,.cells #[.string a1.Key,.slice aa9 y3.length y8,iv a1.At] 47 (0,0)))::G6::(some (c9,.cells #[iv y2.Room,iv y2.c4,.slice aa3 y2.U.length c2,.slice aa8 y2.Entries.length c3] 25 (0,0)))::B5::E6::(some (g2,.cells #[.bool false,.slice none 0 0,.slice none 0 0] 54 (0,0)))::(some (g1,.cells #[iv a1.Kind,iv a1.At,.string a1.b7,.slice n3 a1.j9.length n4,.string a1.Key,iv a1.j4] 50 (0,0)))::F):=by
 intro k
 induction k with
 | zero=>intro H c9 a1 n3 n4 g1 g2 y2 aa3 c2 B5 aa8 c3 E6 y3 aa9 y8 G6 g3 aa1 v66 u9 y6 w4 C9 H7 heq; exact nomatch (show (none:Option (k6 × Cache))=some r from heq)
 | succ k u0 =>
  intro H c9 a1 n3 n4 g1 g2 y2 aa3 c2 B5 aa8 c3 E6 y3 aa9 y8 G6 g3 aa1 v66 u9 y6 w4 C9 H7 heq
  rw [M9.l3] at heq
  refine Sa 1<|Zd 1<|An 1 ?_
  refine Cb heq ?_ ?_
  ·intro B3 heq
   refine Sa 4 ?_
   obtain ⟨x2,w6,heq⟩:=bind_some heq
   obtain ⟨W1,ae3,Q4,ad7⟩:=C9.get w6
   obtain ⟨an3,an4,rfl,hc5,hr5⟩:=Y7 Q4
   refine Zv 3 ([nx W1 w6]++els ad7 4) ?_
   refine c6.e5 (j6.new (d:=11) (v:=fun g=>.pointer (some ⟨g,0,none⟩)) (o:=fun g=>.cells #[.string ByteArray.empty,.slice none 0 0,iv 0] 47 (0,0)) (fun g=>by kernel_rfl)) ?_
   rintro _ _ _ _ ⟨g5,rfl,rfl,rfl⟩
   refine Zk 5 ?_
   refine c6.e5 (j6.store (k:=0) (g:=g5) (off:=0) (v:=.agg #[.string x2.Key,.slice an3 x2.Refs.length an4,iv x2.Used]) (cells':=#[.string x2.Key,.slice an3 x2.Refs.length an4,iv x2.Used]) (by kernel_rfl) rfl (by kernel_rfl) (by kernel_rfl)) ?_
   rintro _ _ _ _ ⟨rfl,rfl,rfl⟩
   refine c6.p6 ?_
   refine Dn<|An 1<|Sd 0 11 [] [3,3,3,3,3,3,3,3,3,3,3] ?_
   obtain ⟨x3,K8,heq⟩:=bind_some heq
   obtain ⟨ha4,af1,hK4,af9⟩:=C9.get K8
   obtain ⟨A10,c10,rfl,hc6,hr6⟩:=Y7 hK4
   refine Zr [0,1,2,3,4,5,6,7,8,9,10] 0 [bx 0 2,bx 3 3,nx ha4 K8,el af9 5 2] (Pk 8 [0,1,2,3,4,5,6,7]) (Pk 8 [0,1,2,3,4,5,6,7]) ?_
   refine o5.done (by kernel_rfl) ?_
   refine Cb heq ?_ ?_
   ·intro F2 heq
    refine Sa 0<|Zd 2<|An 1 ?_
    exact Gt 1 [] ((M9.bv1 (bl6:=(M9.l3 e2 k)) u0) _ _ a1 _ _ _ _ y2 _ _ _ _ _ _ y3 _ _ _ _ v66 v66 u9 y6 w4 C9 H7 heq)
   ·intro F2 heq
    refine An 2 ?_
    exact Gt 1 [] ((M9.bv1 (bl6:=(M9.l3 e2 k)) u0) _ _ a1 _ _ _ _ y2 _ _ _ _ _ _ y3 _ _ _ _ v66 aa1 u9 y6 w4 C9 H7 heq)
  ·intro B3 heq
   refine An 2 ?_
   exact Gt 0 [] (he2 _ _ a1 _ _ _ _ y2 _ _ _ _ _ _ y3 _ _ _ _ aa1 u9 y6 w4 C9 H7 heq)
theorem do3 {c9:Nat} {a0:Cache} {e6:Option Addr} {q2 e8:Nat} {s8:Ch} {e3:Option Addr} {p7 e4:Nat} {p5:Ch} {a1:k7} {n3:Option Addr} {J3 n4:Nat} {r:k6 × Cache} (heq:M9.f a0 a1=some r) (q6:b6 j7 44 H0 e6 e8 a0.U s8) (B9:q2=a0.U.length) (p9:b6 k5 47 H0 e3 e4 a0.Entries p5) (B4:p7=a0.Entries.length) (u9:Rw Kd.string H0 F n3 a1.j9) (y6:J3≤n4) (aa5:J3=a1.j9.length):z7 Tryz.prog 46 #[.pointer (some ⟨c9,0,none⟩),.agg #[iv a1.Kind,iv a1.At,.string a1.b7,.slice n3 J3 n4,.string a1.Key,iv a1.j4]] H0 w0 ((some (c9,.cells #[iv a0.Room,iv a0.c4,.slice e6 q2 e8,.slice e3 p7 e4] 25 (0,0)))::s8::p5::F) (S46 F H0 c9 r):=by
 refine Co C46 Tryz.func46 Tryz.ntmps46 ?_
 subst B9
 subst B4
 subst aa5
 unfold M9.f at heq
 suffices key:∀ (H:Hp),b6 j7 44 H e6 e8 a0.U s8→b6 k5 47 H e3 e4 a0.Entries p5→Rw Kd.string H F n3 a1.j9→b8 C46 (S46 F H0 c9 r) H0 w0 [.c []] (Z3 0 [.pointer (some ⟨c9,0,none⟩),.agg #[iv a1.Kind,iv a1.At,.string a1.b7,.slice n3 (a1.j9.length) n4,.string a1.Key,iv a1.j4]]) H ((some (c9,.cells #[iv a0.Room,iv a0.c4,.slice e6 (a0.U.length) e8,.slice e3 (a0.Entries.length) e4] 25 (0,0)))::s8::p5::F) from key H0 q6 p9 u9
 intro H q6 p9 u9
 refine Sa 1 ?_
 refine c6.e5 (j6.new (d:=3) (v:=fun g=>.pointer (some ⟨g,0,none⟩)) (o:=fun g=>.cells #[iv a1.Kind,iv a1.At,.string a1.b7,.slice n3 a1.j9.length n4,.string a1.Key,iv a1.j4] 50 (0,0)) (fun g=>by kernel_rfl)) ?_
 rintro _ _ _ _ ⟨g1,rfl,rfl,rfl⟩
 refine c6.e5 (j6.new (d:=4) (v:=fun g=>.pointer (some ⟨g,0,none⟩)) (o:=fun g=>.cells #[.bool false,.slice none 0 0,.slice none 0 0] 54 (0,0)) (fun g=>by kernel_rfl)) ?_
 rintro _ _ _ _ ⟨g2,rfl,rfl,rfl⟩
 refine Dn<|An 2<|Sd 0 7 [] [3,3,3,3,3,0,3]<|Zr [0,1,2,3,4] 2 (C8 2++[bx 1 3]) (Pk 5 [0,1,2,3,4]) (Pk 5 [0,1,2,3,4]) ?_
 obtain ⟨y1,hy1,heq⟩:=bind_some heq
 refine Dz 5 (o9 17 (bZ2 hy1 (q6.rw (.tail _ (.tail _ (.tail _ (.head _))))) q6.cap rfl (p9.rw (.tail _ (.tail _ (.tail _ (.tail _ (.head _)))))) p9.cap rfl (u9.wk (fun _ h=>(.tail _ (.tail _ (.tail _ (.tail _ (.tail _ h))))))) y6 rfl)) ?_
 rintro _ _ _ _ ⟨_,rfl,A1,c1,r9,rfl,rfl,rfl,r8⟩
 refine ⟨fun _ w hh=>⟨fun _=>(Pk 6 [1,2,3,4,5]) w hh,fun _=>(Pk 6 [1,2,3,4,5]) w hh,(fun h=>by cases h)⟩,?_⟩
 refine Zr [6] 0 [] (Pk 6 [1,2,3,4,5]) (Pk 5 [0,1,2,3,4]) ?_
 refine o5.done (by kernel_rfl) ?_
 refine Sa 1<|Zd 3 ?_
 refine Cb heq ?_ ?_
 ·intro o8 heq
  refine Sa 1<|Zk 2 ?_
  refine c6.e5 (j6.store (k:=1) (g:=g2) (off:=0) (v:=.agg #[.bool false,.slice A1 y1.length c1,.slice none 0 0]) (cells':=#[.bool false,.slice A1 y1.length c1,.slice none 0 0]) (by kernel_rfl) rfl (by kernel_rfl) (by kernel_rfl)) ?_
  rintro _ _ _ _ ⟨rfl,rfl,rfl⟩
  refine c6.p6 ?_
  refine Dn<|b8.w5 ?_
  have w8:b6 Kd.string 9 H none 0 ([]:List ByteArray) none:=b6.nil
  obtain rfl:=Option.some.inj heq
  refine Up 4 [2,1,0] ?_
  exact b8.I3 1 (vs:=[.agg #[.bool false,.slice A1 y1.length c1,.slice none 0 0]]) (v:=.agg #[.bool false,.slice A1 y1.length c1,.slice none 0 0]) (by kernel_rfl) Tryz.func46 (fun w hh=>show G2 _ _ _ [.cell 4 54] _ from ⟨⟨⟨g2,0,none⟩,by kernel_rfl,F5 _ (vs:=[.bool false,.slice A1 y1.length c1,.slice none 0 0]) (r:=[]) (es:=[.load ⟨g2,0,none⟩ (.bool false),.load ⟨g2,1,none⟩ (.slice A1 y1.length c1),.load ⟨g2,2,none⟩ (.slice none 0 0)]) (by kernel_rfl) ⟨(hh.box 0 rfl rfl),(hh.box 0 rfl rfl),(hh.box 0 rfl rfl)⟩⟩,trivial⟩) rfl (cs':=r9::none::(some (c9,.cells #[iv a0.Room,iv a0.c4,.slice e6 a0.U.length e8,.slice e3 a0.Entries.length e4] 25 (0,0)))::s8::p5::F) rfl ⟨A1,c1,r9,none,0,none,e6,e8,s8,e3,e4,p5,rfl,rfl,r8,w8,q6,p9⟩
 ·intro o8 heq
  refine Sa 2<|Zv 5 [bx 2 3,bx 2 1]<|Ug 6 [3,4,5,0,1,2] ?_
  obtain ⟨y2,hy2,heq⟩:=bind_some heq
  refine c6.e5 (o9 28 (bv4 hy2 q6 rfl p9 rfl (u9.wk (fun _ h=>(.tail _ (.tail _ (.tail _ h))))) y6 rfl)) ?_
  rintro _ _ _ _ ⟨_,rfl,aa3,c2,B5,aa8,c3,E6,rfl,rfl,rfl,w4,C9⟩
  refine Dn<|An 1<|Sd 0 10 [] [3,3,3,3,0,3,3,3,0,0]<|Zr [0,1,2,3,5,6] 4 [bx 5 4,bx 5 3,bx 5 1] (Pk 6 [0,1,2,3,4,5]) (Pk 6 [0,1,2,3,4,5])<|Kr [0,3,4,30,32,35] [(0,pg c9 0),(3,pg g1 0),(4,pg g2 0),(30,.string a1.Key),(32,.slice n3 a1.j9.length n4),(35,iv a1.At)] ?_
  refine X0.start [(8,6,none,.cells #[.string ByteArray.empty,.slice none 0 0,iv 0] 47 (0,0))] (n:=3) (by kernel_rfl) ?_
  refine X0.keep [0,3,4,30,32,35] (L':=[(0,pg c9 0),(3,pg g1 0),(4,pg g2 0),(30,.string a1.Key),(32,.slice n3 a1.j9.length n4),(35,iv a1.At)]) (by kernel_rfl) (by kernel_rfl) ?_
  obtain ⟨y3,hy3,heq⟩:=bind_some heq
  refine X0.cI5 (n:=2) (ls':=[true,true,true,true,true,true,true,false,false,false]) (by kernel_rfl) 4 ⟨fun E g=>by kernel_rfl,trivial⟩ (by kernel_rfl) (by kernel_rfl) rfl (fun w hh=>⟨(Pk 6 [0,1,2,3,4,5]) w hh,(Pk 6 [0,1,2,3,4,5]) w hh⟩) (fun fc1 fE1=>o9 33 (bH9 (a0:=a1.j9) (u9.wk (fun _ h=>(.tail _ (.tail _ (.tail _ (.tail _ (.tail _ (.tail _ (.tail _ h))))))))) y6 rfl hy3)) ?_
  rintro fc1 fE1
  rintro _ _ _ _ ⟨_,rfl,aa9,y8,G6,rfl,rfl,rfl,H7⟩
  refine ⟨fun _ w hh=>⟨fun _=>(Pk 8 [2,3,4,5,6,7]) w hh,fun _=>(Pk 8 [2,3,4,5,6,7]) w hh,(fun h=>by cases h)⟩,[(33,.slice aa9 y3.length y8),(0,pg c9 0),(3,pg g1 0),(4,pg g2 0),(30,.string a1.Key),(32,.slice n3 a1.j9.length n4),(35,iv a1.At)],G6::(some (c9,.cells #[iv y2.Room,iv y2.c4,.slice aa3 y2.U.length c2,.slice aa8 y2.Entries.length c3] 25 (0,0)))::B5::E6::r9::(some (g2,.cells #[.bool false,.slice none 0 0,.slice none 0 0] 54 (0,0)))::(some (g1,.cells #[iv a1.Kind,iv a1.At,.string a1.b7,.slice n3 a1.j9.length n4,.string a1.Key,iv a1.j4] 50 (0,0)))::F,rfl,(Pk 8 [1,0,2,3,4,5,6,7]),?_⟩
  refine X0.run [7] (m:=1) (ls':=[true,true,true,true,true,true,true,true,false,false]) (vs:=[]) (G8:=[]) (L':=[(36,.agg #[.string a1.Key,.slice aa9 y3.length y8,iv a1.At]),(33,.slice aa9 y3.length y8),(0,pg c9 0),(3,pg g1 0),(4,pg g2 0),(30,.string a1.Key),(32,.slice n3 a1.j9.length n4),(35,iv a1.At)]) (by kernel_rfl) (Pk 7 [1,2,3,4,5,6]) (Pk 6 [0,1,2,3,4,5]) (cI4 (fun E=>by kernel_rfl) (fun E=>by kernel_rfl)) (fun _ _=>trivial) (by kernel_rfl) ?_
  refine X0.keep [0,3,4,36] (L':=[(0,pg c9 0),(3,pg g1 0),(4,pg g2 0),(36,.agg #[.string a1.Key,.slice aa9 y3.length y8,iv a1.At])]) (by kernel_rfl) (by kernel_rfl) ?_
  refine X0.cI6 (n:=1) (ls':=[true,true,true,true,true,true,true,true,true,false]) (by kernel_rfl) ⟨fun E g=>by kernel_rfl,trivial⟩ (by kernel_rfl) (by kernel_rfl) rfl (fun w hh=>⟨(Pk 7 [1,2,3,4,5,6]) w hh,(Pk 7 [1,2,3,4,5,6]) w hh⟩) ?_
  intro g3
  refine Dz 9 (j6.store (k:=0) (g:=g3) (off:=0) (v:=.agg #[.string a1.Key,.slice aa9 y3.length y8,iv a1.At]) (cells':=#[.string a1.Key,.slice aa9 y3.length y8,iv a1.At]) (by kernel_rfl) rfl (by kernel_rfl) (by kernel_rfl)) ?_
  rintro _ _ _ _ ⟨rfl,rfl,rfl⟩
  refine ⟨fun _ w hh=>⟨fun _=>(Pk 8 [2,3,4,5,6,7]) w hh,fun _=>(Pk 8 [2,3,4,5,6,7]) w hh,(fun h=>by cases h)⟩,?_⟩
  refine o5.p6 ?_
  refine o5.done (by kernel_rfl) ?_
  refine An 1<|Sd 0 11 [] [3,3,3,3,3,0,3,3,3,3,3]<|Zr [0,1,2,3,4] 6 (C8 2++[bx 7 4]) (Pk 8 [0,1,2,3,4,5,6,7]) (Pk 8 [0,1,2,3,4,5,6,7]) ?_
  obtain ⟨y4,hy4,heq⟩:=bind_some heq
  refine Dz 5 (o9 43 (bZ8 hy4 (w4.rw (.tail _ (.tail _ (.tail _ (.head _))))) w4.cap rfl (C9.rw (.tail _ (.tail _ (.tail _ (.tail _ (.head _)))))) C9.cap rfl)) ?_
  rintro _ _ _ _ ⟨_,rfl,rfl,rfl,rfl⟩
  refine ⟨fun _ w hh=>⟨fun _=>(Pk 8 [0,1,2,3,4,5,6,7]) w hh,fun _=>(Pk 8 [0,1,2,3,4,5,6,7]) w hh,(fun h=>by cases h)⟩,?_⟩
  refine Zr [6,7,8,9,10] 0 [] (Pk 8 [0,1,2,3,4,5,6,7]) (Pk 8 [0,1,2,3,4,5,6,7]) ?_
  refine o5.done (by kernel_rfl) ?_
  refine Sa 2<|Zd 1 ?_
  refine Cb heq ?_ ?_
  ·intro s3 heq
   refine An 1<|Sd 0 8 [] [3,3,3,3,3,3,3,2] ?_
   obtain ⟨x1,hx1,heq⟩:=bind_some heq
   obtain ⟨A7,I1,B1,B2⟩:=C9.get hx1
   obtain ⟨G3,G4,rfl,hc1,I0⟩:=Y7 B1
   refine Zr [0,1,2,3,4,5,6] 1 ([bx 2 3]++C8 0++[nx A7 hx1]) (Pk 8 [0,1,2,3,4,5,6,7]) (Pk 8 [0,1,2,3,4,5,6,7])<|Ur 2 [1,0] ?_
   have N9:=H7.cap
   refine o5.aD8 H7 (fun H hl hr2=>?_)
   have hle:=hl
   replace w4:=w4.mono hl
   replace C9:=C9.mono hl
   obtain ⟨J2,T7,I8,J7⟩:=C9.get hx1
   obtain ⟨X6,X7,rfl,hc3,hr3⟩:=Y7 I8
   refine Dz 7 (j6.ab7 (a:=((H8 aa8).add (y4.1.toNat*3))) (k:=3) (kd:=k5) (c0:=[.string x1.Key,.slice X6 x1.Refs.length X7,iv x1.Used]) (x':=(⟨a1.Key,y3,a1.At⟩:Entry)) (o:=0) (ix:=y4.1) (v:=.agg #[.string a1.Key,.slice aa9 y3.length y8,iv a1.At]) (by kernel_rfl) rfl C9 hx1 (by kernel_rfl) J7 rfl (Nat.le_of_ble_eq_true (by kernel_rfl)) (aT4 N9 hr2)) ?_
   rintro _ _ _ _ ⟨O2,rfl,rfl,rfl,O4⟩
   have C4:y2.Entries.length=(y2.Entries.set y4.1.toNat (⟨a1.Key,y3,a1.At⟩:Entry)).length:=by rw [List.length_set]
   refine ⟨fun _ w hh=>⟨(fun h=>by cases h),(fun h=>absurd h (by decide)),(fun h=>by cases h)⟩,?_⟩
   refine o5.p6 ?_
   refine o5.done (by kernel_rfl) ?_
   refine Sa 1<|Zk 1 ?_
   refine c6.e5 (j6.store (k:=5) (g:=g2) (off:=0) (v:=.agg #[.bool true,.slice none 0 0,.slice none 0 0]) (cells':=#[.bool true,.slice none 0 0,.slice none 0 0]) (by kernel_rfl) rfl (by kernel_rfl) (by kernel_rfl)) ?_
   rintro _ _ _ _ ⟨rfl,rfl,rfl⟩
   refine c6.p6 ?_
   refine Dn<|b8.w5 ?_
   have O3:b6 Kd.string 9 H none 0 ([]:List ByteArray) none:=b6.nil
   refine b8.w5 ?_
   have R5:b6 Kd.string 9 H none 0 ([]:List ByteArray) none:=b6.nil
   obtain rfl:=Option.some.inj heq
   refine Up 9 [7,1,0,3,4,5] ?_
   exact b8.I3 1 (vs:=[.agg #[.bool true,.slice none 0 0,.slice none 0 0]]) (v:=.agg #[.bool true,.slice none 0 0,.slice none 0 0]) (by kernel_rfl) Tryz.func46 (fun w hh=>show G2 _ _ _ [.cell 4 54] _ from ⟨⟨⟨g2,0,none⟩,by kernel_rfl,F5 _ (vs:=[.bool true,.slice none 0 0,.slice none 0 0]) (r:=[]) (es:=[.load ⟨g2,0,none⟩ (.bool true),.load ⟨g2,1,none⟩ (.slice none 0 0),.load ⟨g2,2,none⟩ (.slice none 0 0)]) (by kernel_rfl) ⟨(hh.box 0 rfl rfl),(hh.box 0 rfl rfl),(hh.box 0 rfl rfl)⟩⟩,trivial⟩) rfl (cs':=none::none::(some (c9,.cells #[iv y2.Room,iv y2.c4,.slice aa3 y2.U.length c2,.slice aa8 y2.Entries.length c3] 25 (0,0)))::B5::O2::F) rfl ⟨none,0,none,none,0,none,aa3,c2,B5,aa8,c3,O2,(by first | rfl | exact congrArg (fun q=>Value.slice _ q _) C4 | (rw [C4]; done) | (simp only [← C4])),(by first | rfl | (rw [C4]; done) | (rw [C4]; rfl) | (simp only [List.length_set]; done) | (simp only [List.length_set]; rfl)),O3,R5,w4,O4⟩
  ·intro s3 heq
   refine Sa 3<|Zw 6 [bx 2 3] ?_
   refine Cb heq ?_ ?_
   ·intro x7 heq
    refine Sa 1<|Zd 1<|Sa 2<|Zw 6 [bx 2 3]<|An 2 ?_
    exact Gt 6 [0,1,2,3,4] (((M9.av4 (e2:=M9.e2 M9.j1) (M9.az5 (j1:=M9.j1) (M9.ad6))) n8) _ _ a1 _ _ _ _ y2 _ _ _ _ _ _ y3 _ _ _ _ 0 0 u9 y6 w4 C9 H7 heq)
   ·intro x7 heq
    refine An 2 ?_
    exact Gt 8 [0,1,2,3,4,6] ((M9.ad6) _ _ a1 _ y2 _ _ _ y3 _ _ _ _ y2.Entries _ _ _ _ y4.1 w4 H7 C9 rfl heq)
noncomputable def C47:Ctx:={ P:=Tryz.prog,f:=47,N:=65,c:=C1 Tryz.f47 }
def S47 (F:List Ch) (H0:Hp) (c9:Nat) (r:k6 × Cache) (v:Value) (H:Hp) (cs:List Ch):Prop:=∃ (Z8:Option Addr) (Z9:Nat) (aa0:Ch) (E7:Option Addr) (E8:Nat) (F1:Ch) (av6:Option Addr) (av7:Nat) (av8:Ch) (av9:Option Addr) (aw0:Nat) (aw1:Ch),H0=H∧v=.agg #[.bool r.1.x8,.slice Z8 r.1.x5.length Z9,.slice E7 r.1.x4.length E8]∧aa0::F1::some (c9,.cells #[iv r.2.Room,iv r.2.c4,.slice av6 r.2.U.length av7,.slice av9 r.2.Entries.length aw0] 25 (0,0))::av8::aw1::F=cs∧b6 Kd.string 9 H Z8 Z9 r.1.x5 aa0∧b6 Kd.string 9 H E7 E8 r.1.x4 F1∧b6 j7 44 H av6 av7 r.2.U av8∧b6 k5 47 H av9 aw0 r.2.Entries aw1
theorem do8 {c9:Nat} {a0:Cache} {e6:Option Addr} {q2 e8:Nat} {s8:Ch} {e3:Option Addr} {p7 e4:Nat} {p5:Ch} {a1:k7} {n3:Option Addr} {J3 n4:Nat} {r:k6 × Cache} (heq:bi3.f a0 a1=some r) (q6:b6 j7 44 H e6 e8 a0.U s8) (B9:q2=a0.U.length) (p9:b6 k5 47 H e3 e4 a0.Entries p5) (B4:p7=a0.Entries.length) (u9:Rw Kd.string H F n3 a1.j9) (y6:J3≤n4) (aa5:J3=a1.j9.length):z7 Tryz.prog 47 #[.pointer (some ⟨c9,0,none⟩),.agg #[iv a1.Kind,iv a1.At,.string a1.b7,.slice n3 J3 n4,.string a1.Key,iv a1.j4]] H w0 ((some (c9,.cells #[iv a0.Room,iv a0.c4,.slice e6 q2 e8,.slice e3 p7 e4] 25 (0,0)))::s8::p5::F) (S47 F H c9 r):=by
 refine Co C47 Tryz.func47 Tryz.ntmps47 ?_
 subst B9
 subst B4
 subst aa5
 unfold bi3.f at heq
 refine Sa 1 ?_
 refine c6.e5 (j6.new (d:=3) (v:=fun g=>.pointer (some ⟨g,0,none⟩)) (o:=fun g=>.cells #[iv a1.Kind,iv a1.At,.string a1.b7,.slice n3 a1.j9.length n4,.string a1.Key,iv a1.j4] 50 (0,0)) (fun g=>by kernel_rfl)) ?_
 rintro _ _ _ _ ⟨g1,rfl,rfl,rfl⟩
 refine c6.e5 (j6.new (d:=4) (v:=fun g=>.pointer (some ⟨g,0,none⟩)) (o:=fun g=>.cells #[.bool false,.slice none 0 0,.slice none 0 0] 54 (0,0)) (fun g=>by kernel_rfl)) ?_
 rintro _ _ _ _ ⟨g2,rfl,rfl,rfl⟩
 refine Dn<|An 1<|Sd 0 11 [] [3,3,3,3,3,0,3,3,3,3,3]<|Zr [0,1,2,3,4] 6 (C8 2++[bx 1 4]) (Pk 5 [0,1,2,3,4]) (Pk 5 [0,1,2,3,4]) ?_
 obtain ⟨y1,hy1,heq⟩:=bind_some heq
 refine Dz 5 (o9 15 (bZ8 hy1 (q6.rw (.tail _ (.tail _ (.tail _ (.head _))))) q6.cap rfl (p9.rw (.tail _ (.tail _ (.tail _ (.tail _ (.head _)))))) p9.cap rfl)) ?_
 rintro _ _ _ _ ⟨_,rfl,rfl,rfl,rfl⟩
 refine ⟨fun _ w hh=>⟨fun _=>(Pk 5 [0,1,2,3,4]) w hh,fun _=>(Pk 5 [0,1,2,3,4]) w hh,(fun h=>by cases h)⟩,?_⟩
 refine Zr [6,7,8,9,10] 0 [] (Pk 5 [0,1,2,3,4]) (Pk 5 [0,1,2,3,4]) ?_
 refine o5.done (by kernel_rfl) ?_
 refine Sa 2<|Zd 2 ?_
 refine Cb heq ?_ ?_
 ·intro o8 heq
  refine Sa 1<|Zk 1 ?_
  refine c6.e5 (j6.store (k:=0) (g:=g2) (off:=0) (v:=.agg #[.bool false,.slice none 0 0,.slice none 0 0]) (cells':=#[.bool false,.slice none 0 0,.slice none 0 0]) (by kernel_rfl) rfl (by kernel_rfl) (by kernel_rfl)) ?_
  rintro _ _ _ _ ⟨rfl,rfl,rfl⟩
  refine c6.p6 ?_
  refine Dn<|b8.w5 ?_
  have r8:b6 Kd.string 9 H none 0 ([]:List ByteArray) none:=b6.nil
  refine b8.w5 ?_
  have w8:b6 Kd.string 9 H none 0 ([]:List ByteArray) none:=b6.nil
  obtain rfl:=Option.some.inj heq
  refine Up 4 [2,1,0] ?_
  exact b8.I3 1 (vs:=[.agg #[.bool false,.slice none 0 0,.slice none 0 0]]) (v:=.agg #[.bool false,.slice none 0 0,.slice none 0 0]) (by kernel_rfl) Tryz.func47 (fun w hh=>show G2 _ _ _ [.cell 4 54] _ from ⟨⟨⟨g2,0,none⟩,by kernel_rfl,F5 _ (vs:=[.bool false,.slice none 0 0,.slice none 0 0]) (r:=[]) (es:=[.load ⟨g2,0,none⟩ (.bool false),.load ⟨g2,1,none⟩ (.slice none 0 0),.load ⟨g2,2,none⟩ (.slice none 0 0)]) (by kernel_rfl) ⟨(hh.box 0 rfl rfl),(hh.box 0 rfl rfl),(hh.box 0 rfl rfl)⟩⟩,trivial⟩) rfl (cs':=none::none::(some (c9,.cells #[iv a0.Room,iv a0.c4,.slice e6 a0.U.length e8,.slice e3 a0.Entries.length e4] 25 (0,0)))::s8::p5::F) rfl ⟨none,0,none,none,0,none,e6,e8,s8,e3,e4,p5,rfl,rfl,rfl,r8,w8,q6,p9⟩
 ·intro o8 heq
  refine Sa 2 ?_
  obtain ⟨x1,hx1,heq⟩:=bind_some heq
  obtain ⟨A7,I1,B1,B2⟩:=p9.get hx1
  obtain ⟨A1,c1,rfl,hc1,I0⟩:=Y7 B1
  refine Zw 9 [bx 2 3,nx A7 hx1,el B2 4 1]<|Sa 2<|Zv 4 (C8 2) ?_
  obtain ⟨y2,hy2,heq⟩:=bind_some heq
  refine c6.e5 (o9 33 (bZ2 hy2 (q6.rw (.tail _ (.tail _ (.tail _ (.head _))))) q6.cap rfl (p9.rw (.tail _ (.tail _ (.tail _ (.tail _ (.head _)))))) p9.cap rfl (Rw.of I0) hc1 rfl)) ?_
  rintro _ _ _ _ ⟨_,rfl,aa3,c2,r9,rfl,rfl,rfl,w4⟩
  refine Zd 6<|Sa 1<|Zd 3 ?_
  refine Cb heq ?_ ?_
  ·intro s3 heq
   refine Sa 1<|Zv 8 [bx 3 3]<|Ug 6 [5,0,1,2,3,4] ?_
   obtain ⟨y3,hy3,heq⟩:=bind_some heq
   refine c6.e5 (o9 45 (cz1 (a0:=a0.Entries) (a1:=y1.1) (a2:=c5 (y1.1+1)) p9 rfl hy3)) ?_
   rintro _ _ _ _ ⟨_,rfl,aa8,c3,B5,rfl,rfl,rfl,C9⟩
   refine Zk 11 ?_
   refine c6.e5 (j6.store (k:=4) (g:=c9) (off:=3) (v:=.slice aa8 y3.length c3) (cells':=#[iv a0.Room,iv a0.c4,.slice e6 a0.U.length e8,.slice aa8 y3.length c3]) (by kernel_rfl) rfl (by kernel_rfl) (by kernel_rfl)) ?_
   rintro _ _ _ _ ⟨rfl,rfl,rfl⟩
   refine c6.p6 ?_
   refine Dn<|Sa 1<|Zk 2 ?_
   refine c6.e5 (j6.store (k:=2) (g:=g2) (off:=0) (v:=.agg #[.bool false,.slice aa3 y2.length c2,.slice none 0 0]) (cells':=#[.bool false,.slice aa3 y2.length c2,.slice none 0 0]) (by kernel_rfl) rfl (by kernel_rfl) (by kernel_rfl)) ?_
   rintro _ _ _ _ ⟨rfl,rfl,rfl⟩
   refine c6.p6 ?_
   refine Dn<|b8.w5 ?_
   have H7:b6 Kd.string 9 H none 0 ([]:List ByteArray) none:=b6.nil
   obtain rfl:=Option.some.inj heq
   refine Up 7 [3,2,0,5,6,1] ?_
   exact b8.I3 1 (vs:=[.agg #[.bool false,.slice aa3 y2.length c2,.slice none 0 0]]) (v:=.agg #[.bool false,.slice aa3 y2.length c2,.slice none 0 0]) (by kernel_rfl) Tryz.func47 (fun w hh=>show G2 _ _ _ [.cell 4 54] _ from ⟨⟨⟨g2,0,none⟩,by kernel_rfl,F5 _ (vs:=[.bool false,.slice aa3 y2.length c2,.slice none 0 0]) (r:=[]) (es:=[.load ⟨g2,0,none⟩ (.bool false),.load ⟨g2,1,none⟩ (.slice aa3 y2.length c2),.load ⟨g2,2,none⟩ (.slice none 0 0)]) (by kernel_rfl) ⟨(hh.box 0 rfl rfl),(hh.box 0 rfl rfl),(hh.box 0 rfl rfl)⟩⟩,trivial⟩) rfl (cs':=r9::none::(some (c9,.cells #[iv a0.Room,iv a0.c4,.slice e6 a0.U.length e8,.slice aa8 y3.length c3] 25 (0,0)))::s8::B5::F) rfl ⟨aa3,c2,r9,none,0,none,e6,e8,s8,aa8,c3,B5,rfl,rfl,rfl,w4,H7,q6,C9⟩
  ·intro s3 heq
   refine An 2<|Sd 0 10 [] [3,3,3,3,3,3,3,0,3,2]<|Zr [0,1,2,3,4,5,6] 3 [bx 3 3,bx 2 1] (Pk 6 [0,1,2,3,4,5]) (Pk 6 [0,1,2,3,4,5]) ?_
   obtain ⟨x2,w6,heq⟩:=bind_some heq
   obtain ⟨J2,T7,I8,J7⟩:=p9.get w6
   obtain ⟨aa9,y8,rfl,N9,hr2⟩:=Y7 I8
   refine Dz 7 (j6.aw6 (d:=57) (v:=.pointer (some ((H8 e3).add (y1.1.toNat*3)))) (vs:=[]) (G8:=[.need (e3=some (H8 e3)∧(0:Int)≤y1.1∧y1.1<((a0.Entries.length:Nat):Int))]) (by kernel_rfl) (fun w hh=>⟨J2,(aa2 w6).1,(aa2 w6).2.1⟩)) ?_
   rintro _ _ _ _ ⟨rfl,rfl,rfl⟩
   refine ⟨fun _ w hh=>⟨fun _=>(Pk 6 [0,1,2,3,4,5]) w hh,fun _=>(Pk 6 [0,1,2,3,4,5]) w hh,(fun h=>by cases h)⟩,?_⟩
   refine Zr [8] 1 [] (Pk 6 [0,1,2,3,4,5]) (Pk 6 [0,1,2,3,4,5]) ?_
   obtain ⟨W1,ae3,Q4,ad7⟩:=p9.get w6
   obtain ⟨G3,G4,rfl,hc3,hr3⟩:=Y7 Q4
   refine Dz 9 (j6.ab7 (a:=(((H8 e3).add (y1.1.toNat*3)).add 2)) (k:=5) (kd:=k5) (c0:=[.string x2.Key,.slice G3 x2.Refs.length G4,iv x2.Used]) (x':=(⟨x2.Key,x2.Refs,a1.At⟩:Entry)) (o:=2) (ix:=y1.1) (v:=iv a1.At) (by kernel_rfl) rfl p9 w6 (by kernel_rfl) ad7 rfl (Nat.le_of_ble_eq_true (by kernel_rfl)) (aT4 hc3 hr3)) ?_
   rintro _ _ _ _ ⟨E6,rfl,rfl,rfl,O4⟩
   have C4:a0.Entries.length=(a0.Entries.set y1.1.toNat (⟨x2.Key,x2.Refs,a1.At⟩:Entry)).length:=by rw [List.length_set]
   refine ⟨fun _ w hh=>⟨(fun h=>by cases h),(fun h=>absurd h (by decide)),(fun h=>by cases h)⟩,?_⟩
   refine o5.p6 ?_
   refine o5.done (by kernel_rfl) ?_
   refine Sa 1<|Zv 4 [bx 2 1]<|Ug 6 [3,4,5,0,1,2] ?_
   obtain ⟨y4,hy4,heq⟩:=bind_some heq
   refine c6.e5 (o9 63 (bv4 (a0:=(⟨a0.Room,a0.c4,a0.U,(a0.Entries.set y1.1.toNat (⟨x2.Key,x2.Refs,a1.At⟩:Entry))⟩:Cache)) hy4 q6 rfl O4 C4 (Rw.of I0) hc1 rfl)) ?_
   rintro _ _ _ _ ⟨_,rfl,X6,X7,G6,af6,c7,O2,rfl,rfl,rfl,O3,R5⟩
   refine Dn<|Sa 1<|Zk 1 ?_
   refine c6.e5 (j6.store (k:=4) (g:=g2) (off:=0) (v:=.agg #[.bool true,.slice none 0 0,.slice none 0 0]) (cells':=#[.bool true,.slice none 0 0,.slice none 0 0]) (by kernel_rfl) rfl (by kernel_rfl) (by kernel_rfl)) ?_
   rintro _ _ _ _ ⟨rfl,rfl,rfl⟩
   refine c6.p6 ?_
   refine Dn<|b8.w5 ?_
   have K4:b6 Kd.string 9 H none 0 ([]:List ByteArray) none:=b6.nil
   refine b8.w5 ?_
   have N0:b6 Kd.string 9 H none 0 ([]:List ByteArray) none:=b6.nil
   obtain rfl:=Option.some.inj heq
   refine Up 8 [6,1,0,2,3,4] ?_
   exact b8.I3 1 (vs:=[.agg #[.bool true,.slice none 0 0,.slice none 0 0]]) (v:=.agg #[.bool true,.slice none 0 0,.slice none 0 0]) (by kernel_rfl) Tryz.func47 (fun w hh=>show G2 _ _ _ [.cell 4 54] _ from ⟨⟨⟨g2,0,none⟩,by kernel_rfl,F5 _ (vs:=[.bool true,.slice none 0 0,.slice none 0 0]) (r:=[]) (es:=[.load ⟨g2,0,none⟩ (.bool true),.load ⟨g2,1,none⟩ (.slice none 0 0),.load ⟨g2,2,none⟩ (.slice none 0 0)]) (by kernel_rfl) ⟨(hh.box 0 rfl rfl),(hh.box 0 rfl rfl),(hh.box 0 rfl rfl)⟩⟩,trivial⟩) rfl (cs':=none::none::(some (c9,.cells #[iv y4.Room,iv y4.c4,.slice X6 y4.U.length X7,.slice af6 y4.Entries.length c7] 25 (0,0)))::G6::O2::F) rfl ⟨none,0,none,none,0,none,X6,X7,G6,af6,c7,O2,rfl,rfl,rfl,K4,N0,O3,R5⟩
noncomputable def C28:Ctx:={ P:=Tryz.prog,f:=28,N:=114,c:=C1 Tryz.f28 }
def S28 (F:List Ch) (H0:Hp) (c9:Nat) (r:k6 × Int × Cache) (v:Value) (H:Hp) (cs:List Ch):Prop:=∃ (Z8:Option Addr) (Z9:Nat) (aa0:Ch) (E7:Option Addr) (E8:Nat) (F1:Ch) (ap5:Option Addr) (ap6:Nat) (ap7:Ch) (ap8:Option Addr) (ap9:Nat) (aq0:Ch),v=.tuple #[.agg #[.bool r.1.x8,.slice Z8 r.1.x5.length Z9,.slice E7 r.1.x4.length E8],iv r.2.1]∧aa0::F1::some (c9,.cells #[iv r.2.2.Room,iv r.2.2.c4,.slice ap5 r.2.2.U.length ap6,.slice ap8 r.2.2.Entries.length ap9] 25 (0,0))::ap7::aq0::F=cs∧b6 Kd.string 9 H Z8 Z9 r.1.x5 aa0∧b6 Kd.string 9 H E7 E8 r.1.x4 F1∧b6 j7 44 H ap5 ap6 r.2.2.U ap7∧b6 k5 47 H ap8 ap9 r.2.2.Entries aq0
theorem aj5.ad6 {r:k6 × Int × Cache}:∀ (H:Hp) (c9:Nat) (a0:Cache) (e6:Option Addr) (e8:Nat) (s8:Ch) (e3:Option Addr) (e4:Nat) (p5:Ch) (a1:k7) (n3:Option Addr) (n4 g1 g2:Nat) (y3:Int × Bool) (v72:Bool) ,b6 j7 44 H e6 e8 a0.U s8→b6 k5 47 H e3 e4 a0.Entries p5→Rw Kd.string H F n3 a1.j9→a1.j9.length≤n4→aj5.j1 a0 a1 y3 v72=some r→b8 C28 (S28 F H0 c9 r) H0 w0 [.c [1,1,1,1,0,1,0,1,1,1,1,1,1,1],.b 0,.c [1,1,1,1,1]] [(0,pg c9 0),(3,pg g1 0),(4,pg g2 0),(7,iv y3.1),(8,.bool y3.2),(34,iv a1.Kind),(72,.bool v72)] H ((some (g2,.cells #[.bool false,.slice none 0 0,.slice none 0 0] 54 (0,0)))::(some (g1,.cells #[iv a1.Kind,iv a1.At,.string a1.b7,.slice n3 a1.j9.length n4,.string a1.Key,iv a1.j4] 50 (0,0)))::(some (c9,.cells #[iv a0.Room,iv a0.c4,.slice e6 a0.U.length e8,.slice e3 a0.Entries.length e4] 25 (0,0)))::s8::p5::F):=by
 intro H c9 a0 e6 e8 s8 e3 e4 p5 a1 n3 n4 g1 g2 y3 v72 q6 p9 u9 y6 heq
 unfold aj5.j1 at heq
 refine Cb heq ?_ ?_
 ·intro M4 heq
  refine Sa 1<|Zv 2 (C8 1)<|Ug 5 [2,3,4,0,1] ?_
  obtain ⟨O5,hy8,heq⟩:=bind_some heq
  refine c6.e5 (o9 77 (dm9 hy8 q6 rfl p9 rfl (u9.wk (fun _ h=>(.tail _ (.tail _ h)))) y6 rfl)) ?_
  rintro _ _ _ _ ⟨_,rfl,A10,c10,bl7,A11,c11,bv8,A12,c12,bv9,A13,c13,bw0,rfl,rfl,rfl,aU1,bw1,bw2,bw3⟩
  refine Zk 5 ?_
  refine c6.e5 (j6.store (k:=5) (g:=g2) (off:=0) (v:=.agg #[.bool O5.1.x8,.slice A10 O5.1.x5.length c10,.slice A11 O5.1.x4.length c11]) (cells':=#[.bool O5.1.x8,.slice A10 O5.1.x5.length c10,.slice A11 O5.1.x4.length c11]) (by kernel_rfl) rfl (by kernel_rfl) (by kernel_rfl)) ?_
  rintro _ _ _ _ ⟨rfl,rfl,rfl⟩
  refine c6.p6 ?_
  refine Zd 7 ?_
  obtain rfl:=Option.some.inj heq
  refine Up 7 [5,0,1,2,3,4] ?_
  exact b8.I3 1 (vs:=[.agg #[.bool O5.1.x8,.slice A10 O5.1.x5.length c10,.slice A11 O5.1.x4.length c11],iv O5.2.1]) (v:=.tuple #[.agg #[.bool O5.1.x8,.slice A10 O5.1.x5.length c10,.slice A11 O5.1.x4.length c11],iv O5.2.1]) (by kernel_rfl) Tryz.func28 (fun w hh=>show G2 _ _ _ [.cell 4 54,.tmp 5] _ from ⟨⟨⟨g2,0,none⟩,by kernel_rfl,F5 _ (vs:=[.bool O5.1.x8,.slice A10 O5.1.x5.length c10,.slice A11 O5.1.x4.length c11]) (r:=[]) (es:=[.load ⟨g2,0,none⟩ (.bool O5.1.x8),.load ⟨g2,1,none⟩ (.slice A10 O5.1.x5.length c10),.load ⟨g2,2,none⟩ (.slice A11 O5.1.x4.length c11)]) (by kernel_rfl) ⟨(hh.box 0 rfl rfl),(hh.box 0 rfl rfl),(hh.box 0 rfl rfl)⟩⟩,(show lk _ _=some _ by kernel_rfl),trivial⟩) rfl (cs':=bl7::bv8::(some (c9,.cells #[iv O5.2.2.Room,iv O5.2.2.c4,.slice A12 O5.2.2.U.length c12,.slice A13 O5.2.2.Entries.length c13] 25 (0,0)))::bv9::bw0::F) rfl ⟨A10,c10,bl7,A11,c11,bv8,A12,c12,bv9,A13,c13,bw0,rfl,rfl,aU1,bw1,bw2,bw3⟩
 ·intro M4 heq
  refine Sa 1<|Zd 2 ?_
  refine Cb heq ?_ ?_
  ·intro M5 heq
   refine Sa 1<|Zv 2 (C8 1)<|Ug 5 [2,3,4,0,1] ?_
   obtain ⟨Q5,hy9,heq⟩:=bind_some heq
   refine c6.e5 (o9 84 (do3 hy9 q6 rfl p9 rfl (u9.wk (fun _ h=>(.tail _ (.tail _ h)))) y6 rfl)) ?_
   rintro _ H _ hl ⟨_,rfl,A14,c14,bw4,A15,c15,bw5,A16,c16,bw8,A17,c17,bw9,rfl,rfl,bx0,do9,dp0,dp1⟩
   replace q6:=q6.mono hl
   replace p9:=p9.mono hl
   replace u9:=u9.mono hl
   refine c6.e5 (j6.store (k:=5) (g:=g2) (off:=0) (v:=.agg #[.bool Q5.1.x8,.slice A14 Q5.1.x5.length c14,.slice A15 Q5.1.x4.length c15]) (cells':=#[.bool Q5.1.x8,.slice A14 Q5.1.x5.length c14,.slice A15 Q5.1.x4.length c15]) (by kernel_rfl) rfl (by kernel_rfl) (by kernel_rfl)) ?_
   rintro _ _ _ _ ⟨rfl,rfl,rfl⟩
   refine c6.p6 ?_
   refine Zd 5 ?_
   obtain rfl:=Option.some.inj heq
   refine Up 7 [5,0,1,2,3,4] ?_
   exact b8.I3 1 (vs:=[.agg #[.bool Q5.1.x8,.slice A14 Q5.1.x5.length c14,.slice A15 Q5.1.x4.length c15],iv 0]) (v:=.tuple #[.agg #[.bool Q5.1.x8,.slice A14 Q5.1.x5.length c14,.slice A15 Q5.1.x4.length c15],iv 0]) (by kernel_rfl) Tryz.func28 (fun w hh=>show G2 _ _ _ [.cell 4 54,.tmp 5] _ from ⟨⟨⟨g2,0,none⟩,by kernel_rfl,F5 _ (vs:=[.bool Q5.1.x8,.slice A14 Q5.1.x5.length c14,.slice A15 Q5.1.x4.length c15]) (r:=[]) (es:=[.load ⟨g2,0,none⟩ (.bool Q5.1.x8),.load ⟨g2,1,none⟩ (.slice A14 Q5.1.x5.length c14),.load ⟨g2,2,none⟩ (.slice A15 Q5.1.x4.length c15)]) (by kernel_rfl) ⟨(hh.box 0 rfl rfl),(hh.box 0 rfl rfl),(hh.box 0 rfl rfl)⟩⟩,(show lk _ _=some _ by kernel_rfl),trivial⟩) rfl (cs':=bw4::bw5::(some (c9,.cells #[iv Q5.2.Room,iv Q5.2.c4,.slice A16 Q5.2.U.length c16,.slice A17 Q5.2.Entries.length c17] 25 (0,0)))::bw8::bw9::F) rfl ⟨A14,c14,bw4,A15,c15,bw5,A16,c16,bw8,A17,c17,bw9,rfl,rfl,bx0,do9,dp0,dp1⟩
  ·intro M5 heq
   refine Sa 1<|Zd 2 ?_
   refine Cb heq ?_ ?_
   ·intro Y0 heq
    refine Sa 1<|Zv 2 (C8 1)<|Ug 5 [2,3,4,0,1] ?_
    obtain ⟨Q6,bd4,heq⟩:=bind_some heq
    refine c6.e5 (o9 89 (do8 bd4 q6 rfl p9 rfl (u9.wk (fun _ h=>(.tail _ (.tail _ h)))) y6 rfl)) ?_
    rintro _ _ _ _ ⟨_,rfl,A18,c18,bx1,A19,c19,bx2,A20,c20,bx5,A21,c21,cz5,rfl,rfl,rfl,dp2,dp3,dp4,dp5⟩
    refine c6.e5 (j6.store (k:=5) (g:=g2) (off:=0) (v:=.agg #[.bool Q6.1.x8,.slice A18 Q6.1.x5.length c18,.slice A19 Q6.1.x4.length c19]) (cells':=#[.bool Q6.1.x8,.slice A18 Q6.1.x5.length c18,.slice A19 Q6.1.x4.length c19]) (by kernel_rfl) rfl (by kernel_rfl) (by kernel_rfl)) ?_
    rintro _ _ _ _ ⟨rfl,rfl,rfl⟩
    refine c6.p6 ?_
    refine Zd 5 ?_
    obtain rfl:=Option.some.inj heq
    refine Up 7 [5,0,1,2,3,4] ?_
    exact b8.I3 1 (vs:=[.agg #[.bool Q6.1.x8,.slice A18 Q6.1.x5.length c18,.slice A19 Q6.1.x4.length c19],iv 0]) (v:=.tuple #[.agg #[.bool Q6.1.x8,.slice A18 Q6.1.x5.length c18,.slice A19 Q6.1.x4.length c19],iv 0]) (by kernel_rfl) Tryz.func28 (fun w hh=>show G2 _ _ _ [.cell 4 54,.tmp 5] _ from ⟨⟨⟨g2,0,none⟩,by kernel_rfl,F5 _ (vs:=[.bool Q6.1.x8,.slice A18 Q6.1.x5.length c18,.slice A19 Q6.1.x4.length c19]) (r:=[]) (es:=[.load ⟨g2,0,none⟩ (.bool Q6.1.x8),.load ⟨g2,1,none⟩ (.slice A18 Q6.1.x5.length c18),.load ⟨g2,2,none⟩ (.slice A19 Q6.1.x4.length c19)]) (by kernel_rfl) ⟨(hh.box 0 rfl rfl),(hh.box 0 rfl rfl),(hh.box 0 rfl rfl)⟩⟩,(show lk _ _=some _ by kernel_rfl),trivial⟩) rfl (cs':=bx1::bx2::(some (c9,.cells #[iv Q6.2.Room,iv Q6.2.c4,.slice A20 Q6.2.U.length c20,.slice A21 Q6.2.Entries.length c21] 25 (0,0)))::bx5::cz5::F) rfl ⟨A18,c18,bx1,A19,c19,bx2,A20,c20,bx5,A21,c21,cz5,rfl,rfl,dp2,dp3,dp4,dp5⟩
   ·intro Y0 heq
    refine An 4 ?_
    obtain ⟨t1,A9,heq⟩:=bind_some heq
    have K35:∀ (H:Hp),b6 j7 44 H e6 e8 a0.U s8→b6 k5 47 H e3 e4 a0.Entries p5→Rw Kd.string H F n3 a1.j9→b8 C28 (S28 F H0 c9 r) H0 w0 [.c [1,1,1,1,1,0,1],.c [1,1,1,1,1,1]] [(0,pg c9 0),(3,pg g1 0),(4,pg g2 0),(103,.bool t1)] H ((some (g2,.cells #[.bool false,.slice none 0 0,.slice none 0 0] 54 (0,0)))::(some (g1,.cells #[iv a1.Kind,iv a1.At,.string a1.b7,.slice n3 a1.j9.length n4,.string a1.Key,iv a1.j4] 50 (0,0)))::(some (c9,.cells #[iv a0.Room,iv a0.c4,.slice e6 a0.U.length e8,.slice e3 a0.Entries.length e4] 25 (0,0)))::s8::p5::F):=by
     intro H q6 p9 u9
     refine Cb heq ?_ ?_
     ·intro Y1 heq
      refine Sa 1<|Zk 1 ?_
      refine c6.e5 (j6.store (k:=0) (g:=g2) (off:=0) (v:=.agg #[.bool false,.slice none 0 0,.slice none 0 0]) (cells':=#[.bool false,.slice none 0 0,.slice none 0 0]) (by kernel_rfl) rfl (by kernel_rfl) (by kernel_rfl)) ?_
      rintro _ _ _ _ ⟨rfl,rfl,rfl⟩
      refine c6.p6 ?_
      refine Zd 3<|b8.w5 ?_
      have dp6:b6 Kd.string 9 H none 0 ([]:List ByteArray) none:=b6.nil
      refine b8.w5 ?_
      have dp7:b6 Kd.string 9 H none 0 ([]:List ByteArray) none:=b6.nil
      obtain rfl:=Option.some.inj heq
      refine Up 4 [2,1,0] ?_
      exact b8.I3 1 (vs:=[.agg #[.bool false,.slice none 0 0,.slice none 0 0],iv 0]) (v:=.tuple #[.agg #[.bool false,.slice none 0 0,.slice none 0 0],iv 0]) (by kernel_rfl) Tryz.func28 (fun w hh=>show G2 _ _ _ [.cell 4 54,.tmp 5] _ from ⟨⟨⟨g2,0,none⟩,by kernel_rfl,F5 _ (vs:=[.bool false,.slice none 0 0,.slice none 0 0]) (r:=[]) (es:=[.load ⟨g2,0,none⟩ (.bool false),.load ⟨g2,1,none⟩ (.slice none 0 0),.load ⟨g2,2,none⟩ (.slice none 0 0)]) (by kernel_rfl) ⟨(hh.box 0 rfl rfl),(hh.box 0 rfl rfl),(hh.box 0 rfl rfl)⟩⟩,(show lk _ _=some _ by kernel_rfl),trivial⟩) rfl (cs':=none::none::(some (c9,.cells #[iv a0.Room,iv a0.c4,.slice e6 a0.U.length e8,.slice e3 a0.Entries.length e4] 25 (0,0)))::s8::p5::F) rfl ⟨none,0,none,none,0,none,e6,e8,s8,e3,e4,p5,rfl,rfl,dp6,dp7,q6,p9⟩
     ·intro Y1 heq
      refine Sa 2<|Zv 3 [bx 1 2] ?_
      refine c6.e5 (j6.new (d:=108) (v:=fun g=>.slice (some ⟨g,0,none⟩) 1 1) (o:=fun g=>.cells #[.string a1.b7] 9 (0,0)) (fun g=>by kernel_rfl)) ?_
      rintro _ _ _ _ ⟨g4,rfl,rfl,rfl⟩
      have cz7:b6 Kd.string 9 H (some ⟨g4,0,none⟩) 1 ([a1.b7]:List ByteArray) (some (g4,.cells #[.string a1.b7] 9 (0,0))):=b6.lit (xs:=([a1.b7]:List ByteArray)) (by kernel_rfl) (Nat.le_of_ble_eq_true (by kernel_rfl)) (Kd.q9.scalars rfl)
      refine Ug 6 [3,4,5,0,1,2] ?_
      obtain ⟨y12,bX2,heq⟩:=bind_some heq
      refine c6.e5 (o9 109 (cy9 bX2 q6 rfl p9 rfl (cz7.rw (.head _)) cz7.cap rfl)) ?_
      rintro _ _ _ _ ⟨_,rfl,A22,c22,cA0,A23,c23,cA3,rfl,rfl,rfl,dp8,dp9⟩
      refine Dn<|Sa 1<|Zv 2 [bx 5 2] ?_
      refine c6.e5 (j6.new (d:=112) (v:=fun g=>.slice (some ⟨g,0,none⟩) 1 1) (o:=fun g=>.cells #[.string a1.b7] 9 (0,0)) (fun g=>by kernel_rfl)) ?_
      rintro _ _ _ _ ⟨g5,rfl,rfl,rfl⟩
      have dq0:b6 Kd.string 9 H (some ⟨g5,0,none⟩) 1 ([a1.b7]:List ByteArray) (some (g5,.cells #[.string a1.b7] 9 (0,0))):=b6.lit (xs:=([a1.b7]:List ByteArray)) (by kernel_rfl) (Nat.le_of_ble_eq_true (by kernel_rfl)) (Kd.q9.scalars rfl)
      refine Zk 4 ?_
      refine c6.e5 (j6.store (k:=5) (g:=g2) (off:=0) (v:=.agg #[.bool true,.slice none 0 0,.slice (some ⟨g5,0,none⟩) 1 1]) (cells':=#[.bool true,.slice none 0 0,.slice (some ⟨g5,0,none⟩) 1 1]) (by kernel_rfl) rfl (by kernel_rfl) (by kernel_rfl)) ?_
      rintro _ _ _ _ ⟨rfl,rfl,rfl⟩
      refine c6.p6 ?_
      refine Zd 6<|b8.w5 ?_
      have dq1:b6 Kd.string 9 H none 0 ([]:List ByteArray) none:=b6.nil
      obtain rfl:=Option.some.inj heq
      refine Up 8 [6,0,1,2,3,4] ?_
      exact b8.I3 1 (vs:=[.agg #[.bool true,.slice none 0 0,.slice (some ⟨g5,0,none⟩) 1 1],iv 0]) (v:=.tuple #[.agg #[.bool true,.slice none 0 0,.slice (some ⟨g5,0,none⟩) 1 1],iv 0]) (by kernel_rfl) Tryz.func28 (fun w hh=>show G2 _ _ _ [.cell 4 54,.tmp 5] _ from ⟨⟨⟨g2,0,none⟩,by kernel_rfl,F5 _ (vs:=[.bool true,.slice none 0 0,.slice (some ⟨g5,0,none⟩) 1 1]) (r:=[]) (es:=[.load ⟨g2,0,none⟩ (.bool true),.load ⟨g2,1,none⟩ (.slice none 0 0),.load ⟨g2,2,none⟩ (.slice (some ⟨g5,0,none⟩) 1 1)]) (by kernel_rfl) ⟨(hh.box 0 rfl rfl),(hh.box 0 rfl rfl),(hh.box 0 rfl rfl)⟩⟩,(show lk _ _=some _ by kernel_rfl),trivial⟩) rfl (cs':=none::(some (g5,.cells #[.string a1.b7] 9 (0,0)))::(some (c9,.cells #[iv y12.Room,iv y12.c4,.slice A22 y12.U.length c22,.slice A23 y12.Entries.length c23] 25 (0,0)))::cA0::cA3::F) rfl ⟨none,0,none,some ⟨g5,0,none⟩,1,(some (g5,.cells #[.string a1.b7] 9 (0,0))),A22,c22,cA0,A23,c23,cA3,rfl,rfl,dq1,dq0,dp8,dp9⟩
    replace heq:=A9
    refine Sd 0 14 [] [3,3,3,3,3,3,3,3,3,3,3,3,0,3]<|Zr [0,1,2] 11 [] (Pk 5 [0,1,2,3,4]) (Pk 5 [0,1,2,3,4]) ?_
    rcases y9 (!y3.2) with R6 | R6
    ·replace heq:=A5 R6 heq
     refine Zu 92 (congrArg Value.bool R6)<|Zr [3,4,5,6,7,8,9,10,11,12,13] 0 [] (Pk 5 [0,1,2,3,4]) (Pk 5 [0,1,2,3,4]) ?_
     obtain rfl:=Option.some.inj heq
     refine o5.done (by kernel_rfl) ?_
     exact Gt 0 [] (K35 _ q6 p9 u9)
    ·replace heq:=A6 R6 heq
     refine Zu 92 (congrArg Value.bool R6) ?_
     obtain ⟨x1,hx1,heq⟩:=bind_some heq
     obtain ⟨A7,I1,B1,B2⟩:=q6.get hx1
     obtain ⟨rfl⟩:=C6 B1
     refine Zr [3,4,5,6,7,8,9,10,11] 2 ([bx 2 2,nx A7 hx1]++els B2 3++[bx 1 1]) (Pk 5 [0,1,2,3,4]) (Pk 5 [0,1,2,3,4]) ?_
     obtain ⟨y11,bt0,heq⟩:=bind_some heq
     refine Dz 12 (o9 102 (cw6 bt0 )) ?_
     rintro _ _ _ _ ⟨_,rfl,rfl,rfl,rfl⟩
     refine ⟨fun _ w hh=>⟨fun _=>(Pk 5 [0,1,2,3,4]) w hh,fun _=>(Pk 5 [0,1,2,3,4]) w hh,(fun h=>by cases h)⟩,?_⟩
     refine Zr [13] 0 [] (Pk 5 [0,1,2,3,4]) (Pk 5 [0,1,2,3,4]) ?_
     obtain rfl:=Option.some.inj heq
     refine o5.done (by kernel_rfl) ?_
     exact Gt 0 [] (K35 _ q6 p9 u9)
theorem bW3 {c9:Nat} {a0:Cache} {e6:Option Addr} {q2 e8:Nat} {s8:Ch} {e3:Option Addr} {p7 e4:Nat} {p5:Ch} {a1:k7} {n3:Option Addr} {J3 n4:Nat} {r:k6 × Int × Cache} (heq:aj5.f a0 a1=some r) (q6:b6 j7 44 H0 e6 e8 a0.U s8) (B9:q2=a0.U.length) (p9:b6 k5 47 H0 e3 e4 a0.Entries p5) (B4:p7=a0.Entries.length) (u9:Rw Kd.string H0 F n3 a1.j9) (y6:J3≤n4) (aa5:J3=a1.j9.length):z7 Tryz.prog 28 #[.pointer (some ⟨c9,0,none⟩),.agg #[iv a1.Kind,iv a1.At,.string a1.b7,.slice n3 J3 n4,.string a1.Key,iv a1.j4]] H0 w0 ((some (c9,.cells #[iv a0.Room,iv a0.c4,.slice e6 q2 e8,.slice e3 p7 e4] 25 (0,0)))::s8::p5::F) (S28 F H0 c9 r):=by
 refine Co C28 Tryz.func28 Tryz.ntmps28 ?_
 subst B9
 subst B4
 subst aa5
 unfold aj5.f at heq
 suffices key:∀ (H:Hp),b6 j7 44 H e6 e8 a0.U s8→b6 k5 47 H e3 e4 a0.Entries p5→Rw Kd.string H F n3 a1.j9→b8 C28 (S28 F H0 c9 r) H0 w0 [.c []] (Z3 0 [.pointer (some ⟨c9,0,none⟩),.agg #[iv a1.Kind,iv a1.At,.string a1.b7,.slice n3 (a1.j9.length) n4,.string a1.Key,iv a1.j4]]) H ((some (c9,.cells #[iv a0.Room,iv a0.c4,.slice e6 (a0.U.length) e8,.slice e3 (a0.Entries.length) e4] 25 (0,0)))::s8::p5::F) from key H0 q6 p9 u9
 intro H q6 p9 u9
 refine Sa 1 ?_
 refine c6.e5 (j6.new (d:=3) (v:=fun g=>.pointer (some ⟨g,0,none⟩)) (o:=fun g=>.cells #[iv a1.Kind,iv a1.At,.string a1.b7,.slice n3 a1.j9.length n4,.string a1.Key,iv a1.j4] 50 (0,0)) (fun g=>by kernel_rfl)) ?_
 rintro _ _ _ _ ⟨g1,rfl,rfl,rfl⟩
 refine c6.e5 (j6.new (d:=4) (v:=fun g=>.pointer (some ⟨g,0,none⟩)) (o:=fun g=>.cells #[.bool false,.slice none 0 0,.slice none 0 0] 54 (0,0)) (fun g=>by kernel_rfl)) ?_
 rintro _ _ _ _ ⟨g2,rfl,rfl,rfl⟩
 refine Zd 3<|Sa 2<|Zv 1 (C8 1) ?_
 obtain ⟨y1,hy1,heq⟩:=bind_some heq
 refine c6.e5 (o9 11 (df4 hy1 (u9.wk (fun _ h=>(.tail _ (.tail _ (.tail _ (.tail _ (.tail _ h))))))) y6 rfl)) ?_
 rintro _ _ _ _ ⟨_,rfl,rfl,rfl,rfl⟩
 refine Zd 3<|Sa 1<|Zd 2 ?_
 refine Cb heq ?_ ?_
 ·intro o8 heq
  refine Sa 1<|Zk 2 ?_
  refine c6.e5 (j6.store (k:=0) (g:=g2) (off:=0) (v:=.agg #[.bool false,.slice none 0 0,.slice none 0 0]) (cells':=#[.bool false,.slice none 0 0,.slice none 0 0]) (by kernel_rfl) rfl (by kernel_rfl) (by kernel_rfl)) ?_
  rintro _ _ _ _ ⟨rfl,rfl,rfl⟩
  refine c6.p6 ?_
  refine Zd 4<|b8.w5 ?_
  have r8:b6 Kd.string 9 H none 0 ([]:List ByteArray) none:=b6.nil
  refine b8.w5 ?_
  have w8:b6 Kd.string 9 H none 0 ([]:List ByteArray) none:=b6.nil
  obtain rfl:=Option.some.inj heq
  refine Up 4 [2,1,0] ?_
  exact b8.I3 1 (vs:=[.agg #[.bool false,.slice none 0 0,.slice none 0 0],iv y1]) (v:=.tuple #[.agg #[.bool false,.slice none 0 0,.slice none 0 0],iv y1]) (by kernel_rfl) Tryz.func28 (fun w hh=>show G2 _ _ _ [.cell 4 54,.tmp 5] _ from ⟨⟨⟨g2,0,none⟩,by kernel_rfl,F5 _ (vs:=[.bool false,.slice none 0 0,.slice none 0 0]) (r:=[]) (es:=[.load ⟨g2,0,none⟩ (.bool false),.load ⟨g2,1,none⟩ (.slice none 0 0),.load ⟨g2,2,none⟩ (.slice none 0 0)]) (by kernel_rfl) ⟨(hh.box 0 rfl rfl),(hh.box 0 rfl rfl),(hh.box 0 rfl rfl)⟩⟩,(show lk _ _=some _ by kernel_rfl),trivial⟩) rfl (cs':=none::none::(some (c9,.cells #[iv a0.Room,iv a0.c4,.slice e6 a0.U.length e8,.slice e3 a0.Entries.length e4] 25 (0,0)))::s8::p5::F) rfl ⟨none,0,none,none,0,none,e6,e8,s8,e3,e4,p5,rfl,rfl,r8,w8,q6,p9⟩
 ·intro o8 heq
  refine An 3<|Sd 0 7 [] [3,3,3,3,3,0,3]<|Zr [0,1,2,3,4] 2 ([bx 1 1]++C8 2) (Pk 5 [0,1,2,3,4]) (Pk 5 [0,1,2,3,4]) ?_
  obtain ⟨y2,hy2,heq⟩:=bind_some heq
  refine Dz 5 (o9 21 (df6 hy2 (q6.rw (.tail _ (.tail _ (.tail _ (.head _))))) q6.cap rfl (p9.rw (.tail _ (.tail _ (.tail _ (.tail _ (.head _)))))) p9.cap rfl)) ?_
  rintro _ _ _ _ ⟨_,rfl,rfl,rfl,rfl⟩
  refine ⟨fun _ w hh=>⟨fun _=>(Pk 5 [0,1,2,3,4]) w hh,fun _=>(Pk 5 [0,1,2,3,4]) w hh,(fun h=>by cases h)⟩,?_⟩
  refine Zr [6] 0 [] (Pk 5 [0,1,2,3,4]) (Pk 5 [0,1,2,3,4]) ?_
  refine o5.done (by kernel_rfl) ?_
  refine Cb heq ?_ ?_
  ·intro s3 heq
   refine Sa 1<|Zk 1 ?_
   refine c6.e5 (j6.store (k:=0) (g:=g2) (off:=0) (v:=.agg #[.bool false,.slice none 0 0,.slice none 0 0]) (cells':=#[.bool false,.slice none 0 0,.slice none 0 0]) (by kernel_rfl) rfl (by kernel_rfl) (by kernel_rfl)) ?_
   rintro _ _ _ _ ⟨rfl,rfl,rfl⟩
   refine c6.p6 ?_
   refine Zd 3<|b8.w5 ?_
   have w4:b6 Kd.string 9 H none 0 ([]:List ByteArray) none:=b6.nil
   refine b8.w5 ?_
   have C9:b6 Kd.string 9 H none 0 ([]:List ByteArray) none:=b6.nil
   obtain rfl:=Option.some.inj heq
   refine Up 4 [2,1,0] ?_
   exact b8.I3 1 (vs:=[.agg #[.bool false,.slice none 0 0,.slice none 0 0],iv 11]) (v:=.tuple #[.agg #[.bool false,.slice none 0 0,.slice none 0 0],iv 11]) (by kernel_rfl) Tryz.func28 (fun w hh=>show G2 _ _ _ [.cell 4 54,.tmp 5] _ from ⟨⟨⟨g2,0,none⟩,by kernel_rfl,F5 _ (vs:=[.bool false,.slice none 0 0,.slice none 0 0]) (r:=[]) (es:=[.load ⟨g2,0,none⟩ (.bool false),.load ⟨g2,1,none⟩ (.slice none 0 0),.load ⟨g2,2,none⟩ (.slice none 0 0)]) (by kernel_rfl) ⟨(hh.box 0 rfl rfl),(hh.box 0 rfl rfl),(hh.box 0 rfl rfl)⟩⟩,(show lk _ _=some _ by kernel_rfl),trivial⟩) rfl (cs':=none::none::(some (c9,.cells #[iv a0.Room,iv a0.c4,.slice e6 a0.U.length e8,.slice e3 a0.Entries.length e4] 25 (0,0)))::s8::p5::F) rfl ⟨none,0,none,none,0,none,e6,e8,s8,e3,e4,p5,rfl,rfl,w4,C9,q6,p9⟩
  ·intro s3 heq
   refine An 2<|Sd 0 11 [] [3,3,3,3,3,0,3,3,3,3,3]<|Zr [0,1,2,3,4] 6 (C8 2++[bx 1 2]) (Pk 5 [0,1,2,3,4]) (Pk 5 [0,1,2,3,4]) ?_
   obtain ⟨y3,hy3,heq⟩:=bind_some heq
   refine Dz 5 (o9 30 (bk4 hy3 (q6.rw (.tail _ (.tail _ (.tail _ (.head _))))) q6.cap rfl (p9.rw (.tail _ (.tail _ (.tail _ (.tail _ (.head _)))))) p9.cap rfl)) ?_
   rintro _ _ _ _ ⟨_,rfl,rfl,rfl,rfl⟩
   refine ⟨fun _ w hh=>⟨fun _=>(Pk 5 [0,1,2,3,4]) w hh,fun _=>(Pk 5 [0,1,2,3,4]) w hh,(fun h=>by cases h)⟩,?_⟩
   refine Zr [6,7,8,9,10] 0 [] (Pk 5 [0,1,2,3,4]) (Pk 5 [0,1,2,3,4]) ?_
   refine o5.done (by kernel_rfl) ?_
   refine Sa 2<|Zw 2 [bx 1 0]<|Sa 2<|Zd 2 ?_
   refine Cb heq ?_ ?_
   ·intro x7 heq
    refine Sa 1<|Zv 2 (C8 1)<|Ug 5 [2,3,4,0,1] ?_
    obtain ⟨y4,hy4,heq⟩:=bind_some heq
    refine c6.e5 (o9 39 (dm8 hy4 q6 rfl p9 rfl (u9.wk (fun _ h=>(.tail _ (.tail _ h)))) y6 rfl)) ?_
    rintro _ _ _ _ ⟨_,rfl,A1,c1,r9,aa3,c2,B5,aa8,c3,E6,aa9,y8,G6,rfl,rfl,rfl,H7,O4,O3,R5⟩
    refine Zk 5 ?_
    refine c6.e5 (j6.store (k:=5) (g:=g2) (off:=0) (v:=.agg #[.bool y4.1.x8,.slice A1 y4.1.x5.length c1,.slice aa3 y4.1.x4.length c2]) (cells':=#[.bool y4.1.x8,.slice A1 y4.1.x5.length c1,.slice aa3 y4.1.x4.length c2]) (by kernel_rfl) rfl (by kernel_rfl) (by kernel_rfl)) ?_
    rintro _ _ _ _ ⟨rfl,rfl,rfl⟩
    refine c6.p6 ?_
    refine Zd 7 ?_
    obtain rfl:=Option.some.inj heq
    refine Up 7 [5,0,1,2,3,4] ?_
    exact b8.I3 1 (vs:=[.agg #[.bool y4.1.x8,.slice A1 y4.1.x5.length c1,.slice aa3 y4.1.x4.length c2],iv y4.2.1]) (v:=.tuple #[.agg #[.bool y4.1.x8,.slice A1 y4.1.x5.length c1,.slice aa3 y4.1.x4.length c2],iv y4.2.1]) (by kernel_rfl) Tryz.func28 (fun w hh=>show G2 _ _ _ [.cell 4 54,.tmp 5] _ from ⟨⟨⟨g2,0,none⟩,by kernel_rfl,F5 _ (vs:=[.bool y4.1.x8,.slice A1 y4.1.x5.length c1,.slice aa3 y4.1.x4.length c2]) (r:=[]) (es:=[.load ⟨g2,0,none⟩ (.bool y4.1.x8),.load ⟨g2,1,none⟩ (.slice A1 y4.1.x5.length c1),.load ⟨g2,2,none⟩ (.slice aa3 y4.1.x4.length c2)]) (by kernel_rfl) ⟨(hh.box 0 rfl rfl),(hh.box 0 rfl rfl),(hh.box 0 rfl rfl)⟩⟩,(show lk _ _=some _ by kernel_rfl),trivial⟩) rfl (cs':=r9::B5::(some (c9,.cells #[iv y4.2.2.Room,iv y4.2.2.c4,.slice aa8 y4.2.2.U.length c3,.slice aa9 y4.2.2.Entries.length y8] 25 (0,0)))::E6::G6::F) rfl ⟨A1,c1,r9,aa3,c2,B5,aa8,c3,E6,aa9,y8,G6,rfl,rfl,H7,O4,O3,R5⟩
   ·intro x7 heq
    refine Sa 1<|Zd 2 ?_
    refine Cb heq ?_ ?_
    ·intro B3 heq
     refine Sa 1<|Zv 3 [bx 1 2] ?_
     refine c6.e5 (j6.new (d:=47) (v:=fun g=>.slice (some ⟨g,0,none⟩) 1 1) (o:=fun g=>.cells #[.string a1.b7] 9 (0,0)) (fun g=>by kernel_rfl)) ?_
     rintro _ _ _ _ ⟨g3,rfl,rfl,rfl⟩
     have K4:b6 Kd.string 9 H (some ⟨g3,0,none⟩) 1 ([a1.b7]:List ByteArray) (some (g3,.cells #[.string a1.b7] 9 (0,0))):=b6.lit (xs:=([a1.b7]:List ByteArray)) (by kernel_rfl) (Nat.le_of_ble_eq_true (by kernel_rfl)) (Kd.q9.scalars rfl)
     refine Zv 6 [bx 2 1]<|Ug 6 [3,4,5,0,1,2] ?_
     obtain ⟨A0,hy5,heq⟩:=bind_some heq
     refine c6.e5 (o9 50 (bv4 hy5 q6 rfl p9 rfl (K4.rw (.head _)) K4.cap rfl)) ?_
     rintro _ _ _ _ ⟨_,rfl,G3,G4,O2,X6,X7,S3,rfl,rfl,rfl,N0,aa4⟩
     refine Dn<|Sa 1<|Zk 2 ?_
     refine c6.e5 (j6.store (k:=4) (g:=g2) (off:=0) (v:=.agg #[.bool y3.2,.slice none 0 0,.slice none 0 0]) (cells':=#[.bool y3.2,.slice none 0 0,.slice none 0 0]) (by kernel_rfl) rfl (by kernel_rfl) (by kernel_rfl)) ?_
     rintro _ _ _ _ ⟨rfl,rfl,rfl⟩
     refine c6.p6 ?_
     refine Zd 4<|b8.w5 ?_
     have ae5:b6 Kd.string 9 H none 0 ([]:List ByteArray) none:=b6.nil
     refine b8.w5 ?_
     have ar7:b6 Kd.string 9 H none 0 ([]:List ByteArray) none:=b6.nil
     obtain rfl:=Option.some.inj heq
     refine Up 8 [6,1,0,2,3,4] ?_
     exact b8.I3 1 (vs:=[.agg #[.bool y3.2,.slice none 0 0,.slice none 0 0],iv 0]) (v:=.tuple #[.agg #[.bool y3.2,.slice none 0 0,.slice none 0 0],iv 0]) (by kernel_rfl) Tryz.func28 (fun w hh=>show G2 _ _ _ [.cell 4 54,.tmp 5] _ from ⟨⟨⟨g2,0,none⟩,by kernel_rfl,F5 _ (vs:=[.bool y3.2,.slice none 0 0,.slice none 0 0]) (r:=[]) (es:=[.load ⟨g2,0,none⟩ (.bool y3.2),.load ⟨g2,1,none⟩ (.slice none 0 0),.load ⟨g2,2,none⟩ (.slice none 0 0)]) (by kernel_rfl) ⟨(hh.box 0 rfl rfl),(hh.box 0 rfl rfl),(hh.box 0 rfl rfl)⟩⟩,(show lk _ _=some _ by kernel_rfl),trivial⟩) rfl (cs':=none::none::(some (c9,.cells #[iv A0.Room,iv A0.c4,.slice G3 A0.U.length G4,.slice X6 A0.Entries.length X7] 25 (0,0)))::O2::S3::F) rfl ⟨none,0,none,none,0,none,G3,G4,O2,X6,X7,S3,rfl,rfl,ae5,ar7,N0,aa4⟩
    ·intro B3 heq
     refine Sa 1<|Zd 2 ?_
     refine Cb heq ?_ ?_
     ·intro F2 heq
      refine Sa 1<|Zv 5 [bx 1 3,bx 1 1]<|Ug 5 [2,3,4,0,1] ?_
      obtain ⟨G0,hy6,heq⟩:=bind_some heq
      refine c6.e5 (o9 60 (bv4 hy6 q6 rfl p9 rfl (u9.wk (fun _ h=>(.tail _ (.tail _ h)))) y6 rfl)) ?_
      rintro _ _ _ _ ⟨_,rfl,af6,c7,ae6,A8,an2,aj0,rfl,rfl,rfl,aA2,aA3⟩
      refine Dn<|An 1<|Sd 0 7 [] [3,3,3,3,3,0,3]<|Zr [0,1,2,3,4] 2 (C8 0++[bx 4 3]) (Pk 5 [0,1,2,3,4]) (Pk 5 [0,1,2,3,4]) ?_
      obtain ⟨W2,hy7,heq⟩:=bind_some heq
      refine Dz 5 (o9 66 (bZ2 hy7 (aA2.rw (.tail _ (.head _))) aA2.cap rfl (aA3.rw (.tail _ (.tail _ (.head _)))) aA3.cap rfl (u9.wk (fun _ h=>(.tail _ (.tail _ (.tail _ (.tail _ (.tail _ h))))))) y6 rfl)) ?_
      rintro _ _ _ _ ⟨_,rfl,an3,an4,af7,rfl,rfl,rfl,aF4⟩
      refine ⟨fun _ w hh=>⟨fun _=>(Pk 6 [1,2,3,4,5]) w hh,fun _=>(Pk 6 [1,2,3,4,5]) w hh,(fun h=>by cases h)⟩,?_⟩
      refine Zr [6] 0 [] (Pk 6 [1,2,3,4,5]) (Pk 5 [0,1,2,3,4]) ?_
      refine o5.done (by kernel_rfl) ?_
      refine Sa 1<|Zk 5 ?_
      refine c6.e5 (j6.store (k:=4) (g:=g2) (off:=0) (v:=.agg #[.bool ((W2.length:Int) == 0),.slice an3 W2.length an4,.slice none 0 0]) (cells':=#[.bool ((W2.length:Int) == 0),.slice an3 W2.length an4,.slice none 0 0]) (by kernel_rfl) rfl (by kernel_rfl) (by kernel_rfl)) ?_
      rintro _ _ _ _ ⟨rfl,rfl,rfl⟩
      refine c6.p6 ?_
      refine Zd 7<|b8.w5 ?_
      have aF5:b6 Kd.string 9 H none 0 ([]:List ByteArray) none:=b6.nil
      obtain rfl:=Option.some.inj heq
      refine Up 7 [5,1,0,2,3,4] ?_
      exact b8.I3 1 (vs:=[.agg #[.bool ((W2.length:Int) == 0),.slice an3 W2.length an4,.slice none 0 0],iv 0]) (v:=.tuple #[.agg #[.bool ((W2.length:Int) == 0),.slice an3 W2.length an4,.slice none 0 0],iv 0]) (by kernel_rfl) Tryz.func28 (fun w hh=>show G2 _ _ _ [.cell 4 54,.tmp 5] _ from ⟨⟨⟨g2,0,none⟩,by kernel_rfl,F5 _ (vs:=[.bool ((W2.length:Int) == 0),.slice an3 W2.length an4,.slice none 0 0]) (r:=[]) (es:=[.load ⟨g2,0,none⟩ (.bool ((W2.length:Int) == 0)),.load ⟨g2,1,none⟩ (.slice an3 W2.length an4),.load ⟨g2,2,none⟩ (.slice none 0 0)]) (by kernel_rfl) ⟨(hh.box 0 rfl rfl),(hh.box 0 rfl rfl),(hh.box 0 rfl rfl)⟩⟩,(show lk _ _=some _ by kernel_rfl),trivial⟩) rfl (cs':=af7::none::(some (c9,.cells #[iv G0.Room,iv G0.c4,.slice af6 G0.U.length c7,.slice A8 G0.Entries.length an2] 25 (0,0)))::ae6::aj0::F) rfl ⟨an3,an4,af7,none,0,none,af6,c7,ae6,A8,an2,aj0,rfl,rfl,aF4,aF5,aA2,aA3⟩
     ·intro F2 heq
      refine Sa 2<|Zd 2 ?_
      refine Cb heq ?_ ?_
      ·intro ak0 heq
       refine An 1 ?_
       exact Gt 0 [] ((aj5.ad6) _ _ a0 _ _ _ _ _ _ a1 _ _ _ _ y3 (a1.Kind == 4) q6 p9 u9 y6 heq)
      ·intro ak0 heq
       refine Sa 0<|Zd 2 ?_
       exact Gt 0 [] ((aj5.ad6) _ _ a0 _ _ _ _ _ _ a1 _ _ _ _ y3 (a1.Kind == 5) q6 p9 u9 y6 heq)
noncomputable def dq2:Ctx:={ P:=Tryz.prog,f:=19,N:=11,c:=C1 Tryz.f19 }
def dq3 (F:List Ch) (H0:Hp) (ga3:Nat) (r:(List k6)) (v:Value) (H:Hp) (cs:List Ch):Prop:=∃ (cA4:Option Addr) (cA5:Nat) (cA6:Ch),H0=H∧v=.tuple #[]∧some (ga3,.cells #[.slice cA4 r.length cA5] 29 (0,0))::cA6::F=cs∧b6 X9 54 H cA4 cA5 r cA6
theorem dq4 {a0:Cache} {e6:Option Addr} {q2 e8:Nat} {e3:Option Addr} {p7 e4:Nat} {a1:k7} {n3:Option Addr} {J3 n4:Nat} {a2:k6} {aC0:Option Addr} {aK9 aC1:Nat} {aC2:Option Addr} {aL0 aC3 ga3:Nat} {a3:List k6} {ca1:Option Addr} {cA7 ca2:Nat} {cA8:Ch} {r:(List k6)} (heq:bF8.f a0 a1 a2 a3=some r) (n9:Rw j7 H F e6 a0.U) (s7:q2≤e8) (B9:q2=a0.U.length) (l8:Rw k5 H F e3 a0.Entries) (q8:p7≤e4) (B4:p7=a0.Entries.length) (u9:Rw Kd.string H F n3 a1.j9) (y6:J3≤n4) (aa5:J3=a1.j9.length) (bW6:Kd.Row Kd.string H aC0 a2.x5) (bW7:aK9≤aC1) (bs4:aK9=a2.x5.length) (bW8:Kd.Row Kd.string H aC2 a2.x4) (bW9:aL0≤aC3) (bs5:aL0=a2.x4.length) (dq5:b6 X9 54 H ca1 ca2 a3 cA8) (dq6:cA7=a3.length):z7 Tryz.prog 19 #[.agg #[iv a0.Room,iv a0.c4,.slice e6 q2 e8,.slice e3 p7 e4],.agg #[iv a1.Kind,iv a1.At,.string a1.b7,.slice n3 J3 n4,.string a1.Key,iv a1.j4],.agg #[.bool a2.x8,.slice aC0 aK9 aC1,.slice aC2 aL0 aC3],.pointer (some ⟨ga3,0,none⟩)] H w0 ((some (ga3,.cells #[.slice ca1 cA7 ca2] 29 (0,0)))::cA8::F) (dq3 F H ga3 r):=by
 refine Co dq2 Tryz.func19 Tryz.ntmps19 ?_
 subst B9
 subst B4
 subst aa5
 subst bs4
 subst bs5
 subst dq6
 unfold bF8.f at heq
 refine Sa 1 ?_
 refine c6.e5 (j6.new (d:=4) (v:=fun g=>.pointer (some ⟨g,0,none⟩)) (o:=fun g=>.cells #[iv a0.Room,iv a0.c4,.slice e6 a0.U.length e8,.slice e3 a0.Entries.length e4] 25 (0,0)) (fun g=>by kernel_rfl)) ?_
 rintro _ _ _ _ ⟨g1,rfl,rfl,rfl⟩
 refine c6.e5 (j6.new (d:=5) (v:=fun g=>.pointer (some ⟨g,0,none⟩)) (o:=fun g=>.cells #[iv a1.Kind,iv a1.At,.string a1.b7,.slice n3 a1.j9.length n4,.string a1.Key,iv a1.j4] 50 (0,0)) (fun g=>by kernel_rfl)) ?_
 rintro _ _ _ _ ⟨g2,rfl,rfl,rfl⟩
 refine c6.e5 (j6.new (d:=6) (v:=fun g=>.pointer (some ⟨g,0,none⟩)) (o:=fun g=>.cells #[.bool a2.x8,.slice aC0 a2.x5.length aC1,.slice aC2 a2.x4.length aC3] 54 (0,0)) (fun g=>by kernel_rfl)) ?_
 rintro _ _ _ _ ⟨g3,rfl,rfl,rfl⟩
 refine Dn<|Sa 0<|Zv 2 ([bx 3 0]++C8 0) ?_
 refine c6.e5 (j6.new (d:=9) (v:=fun g=>.slice (some ⟨g,0,none⟩) 1 1) (o:=fun g=>.cells #[.bool a2.x8,.slice aC0 a2.x5.length aC1,.slice aC2 a2.x4.length aC3] 54 (0,0)) (fun g=>by kernel_rfl)) ?_
 rintro _ _ _ _ ⟨g4,rfl,rfl,rfl⟩
 have r8:b6 X9 54 H (some ⟨g4,0,none⟩) 1 ([a2]:List k6) (some (g4,.cells #[.bool a2.x8,.slice aC0 a2.x5.length aC1,.slice aC2 a2.x4.length aC3] 54 (0,0))):=b6.lit (xs:=([a2]:List k6)) (by kernel_rfl) (Nat.le_of_ble_eq_true (by kernel_rfl)) (Kd.q9.one (cv6 bW7 bW6 bW9 bW8))
 obtain ⟨C4,heq⟩:=M1 heq
 refine c6.e5 (j6.append (d:=10) (k:=5) (t:=29) (e:=54) (bytes:=56) (kd:=X9) (n:=a3.length) (m:=1) (xs:=a3) (ys:=([a2]:List k6)) (A:=ca1) (B:=(some ⟨g4,0,none⟩)) (c:=ca2) (cB:=1) (by kernel_rfl) rfl rfl (by kernel_rfl) rfl dq5 (fun w hh=>r8.Y9 (hh.N1 0 rfl)) (room_le C4) (by have:=room_le C4; omega)) ?_
 rintro _ _ _ _ ⟨A1,c1,r9,rfl,rfl,rfl,w8⟩
 refine c6.p6 ?_
 refine c6.e5 (j6.store (k:=4) (g:=ga3) (off:=0) (v:=.slice A1 ((a3++([a2]:List k6)).length) c1) (cells':=#[.slice A1 ((a3++([a2]:List k6)).length) c1]) (by kernel_rfl) rfl (by kernel_rfl) (by kernel_rfl)) ?_
 rintro _ _ _ _ ⟨rfl,rfl,rfl⟩
 refine c6.p6 ?_
 refine Dn ?_
 obtain rfl:=Option.some.inj heq
 refine Up 4 [] ?_
 exact b8.done (by kernel_rfl) Tryz.func19 (v:=.tuple #[]) (by kernel_rfl) ⟨A1,c1,r9,rfl,rfl,rfl,w8⟩
noncomputable def C18:Ctx:={ P:=Tryz.prog,f:=18,N:=47,c:=C1 Tryz.f18 }
def S18 (F:List Ch) (H0:Hp) (E1:Nat) (r:Cache × Int × (List k6)) (v:Value) (H:Hp) (cs:List Ch):Prop:=∃ (E7:Option Addr) (E8:Nat) (F1:Ch) (P7:Option Addr) (P8:Nat) (Q9:Ch) (cA9:Option Addr) (cB0:Nat) (cB1:Ch),v=.tuple #[.agg #[iv r.1.Room,iv r.1.c4,.slice E7 r.1.U.length E8,.slice P7 r.1.Entries.length P8],iv r.2.1]∧F1::Q9::some (E1,.cells #[.slice cA9 r.2.2.length cB0] 29 (0,0))::cB1::F=cs∧b6 j7 44 H E7 E8 r.1.U F1∧b6 k5 47 H P7 P8 r.1.Entries Q9∧b6 X9 54 H cA9 cB0 r.2.2 cB1
theorem al4.D7 {r:Cache × Int × (List k6)}:∀ (H:Hp) (E1 g1 g2:Nat) (I7:List k6) (aA8:Option Addr) (aM1 aA9:Nat) (aB0:Ch) (F6 F7:Int) (E2:List Blob) (L3:Option Addr) (X4 L4:Nat) (T0:Ch) (E3:List Entry) (L5:Option Addr) (X5 L6:Nat) (T3:Ch) ,b6 X9 54 H aA8 aA9 I7 aB0→aM1=I7.length→b6 j7 44 H L3 L4 E2 T0→X4=E2.length→b6 k5 47 H L5 L6 E3 T3→X5=E3.length→al4.e1 I7 F6 F7 E2 E3=some r→b8 C18 (S18 F H0 E1 r) H0 w0 [.c [1,1,1,1,1,0],.c [1,1,1,1,1,1]] [(2,.func (.func 19) #[] #[.pointer (some ⟨E1,0,none⟩)]),(3,pg g1 0),(6,pg g2 0)] H (T0::T3::(some (g2,.cells #[iv 0,iv 0,.slice none 0 0,.slice none 0 0] 25 (0,0)))::(some (g1,.cells #[iv F6,iv F7,.slice L3 X4 L4,.slice L5 X5 L6] 25 (0,0)))::(some (E1,.cells #[.slice aA8 aM1 aA9] 29 (0,0)))::aB0::F):=by
 intro H E1 g1 g2 I7 aA8 aM1 aA9 aB0 F6 F7 E2 L3 X4 L4 T0 E3 L5 X5 L6 T3 aI3 bK1 aj7 aB8 aj8 aB9 heq
 subst bK1
 subst aB8
 subst aB9
 unfold al4.e1 at heq
 refine Sa 0<|Zv 1 (C8 3) ?_
 refine c6.e5 (j6.store (k:=2) (g:=g2) (off:=0) (v:=.agg #[iv F6,iv F7,.slice L3 E2.length L4,.slice L5 E3.length L6]) (cells':=#[iv F6,iv F7,.slice L3 E2.length L4,.slice L5 E3.length L6]) (by kernel_rfl) rfl (by kernel_rfl) (by kernel_rfl)) ?_
 rintro _ _ _ _ ⟨rfl,rfl,rfl⟩
 refine c6.p6 ?_
 refine Zd 3 ?_
 obtain rfl:=Option.some.inj heq
 refine Up 4 [2,0,1] ?_
 exact b8.I3 1 (vs:=[.agg #[iv F6,iv F7,.slice L3 E2.length L4,.slice L5 E3.length L6],iv 0]) (v:=.tuple #[.agg #[iv F6,iv F7,.slice L3 E2.length L4,.slice L5 E3.length L6],iv 0]) (by kernel_rfl) Tryz.func18 (fun w hh=>show G2 _ _ _ [.cell 6 25,.tmp 7] _ from ⟨⟨⟨g2,0,none⟩,by kernel_rfl,F5 _ (vs:=[iv F6,iv F7,.slice L3 E2.length L4,.slice L5 E3.length L6]) (r:=[]) (es:=[.load ⟨g2,0,none⟩ (iv F6),.load ⟨g2,1,none⟩ (iv F7),.load ⟨g2,2,none⟩ (.slice L3 E2.length L4),.load ⟨g2,3,none⟩ (.slice L5 E3.length L6)]) (by kernel_rfl) ⟨(hh.box 0 rfl rfl),(hh.box 0 rfl rfl),(hh.box 0 rfl rfl),(hh.box 0 rfl rfl)⟩⟩,(show lk _ _=some _ by kernel_rfl),trivial⟩) rfl (cs':=T0::T3::(some (E1,.cells #[.slice aA8 I7.length aA9] 29 (0,0)))::aB0::F) rfl ⟨L3,L4,T0,L5,L6,T3,aA8,aA9,aB0,rfl,rfl,aj7,aj8,aI3⟩
theorem al4.F9 {r:Cache × Int × (List k6)} (e1:(List k6)→Int→Int→(List Blob)→(List Entry)→Option (Cache × Int × (List k6)))
  (D4:∀ (H:Hp) (E1 g1 g2:Nat) (I7:List k6) (aA8:Option Addr) (aM1 aA9:Nat) (aB0:Ch) (F6 F7:Int) (E2:List Blob) (L3:Option Addr) (X4 L4:Nat) (T0:Ch) (E3:List Entry) (L5:Option Addr) (X5 L6:Nat) (T3:Ch) ,b6 X9 54 H aA8 aA9 I7 aB0→aM1=I7.length→b6 j7 44 H L3 L4 E2 T0→X4=E2.length→b6 k5 47 H L5 L6 E3 T3→X5=E3.length→e1 I7 F6 F7 E2 E3=some r→b8 C18 (S18 F H0 E1 r) H0 w0 [.c [1,1,1,1,1,0],.c [1,1,1,1,1,1]] [(2,.func (.func 19) #[] #[.pointer (some ⟨E1,0,none⟩)]),(3,pg g1 0),(6,pg g2 0)] H (T0::T3::(some (g2,.cells #[iv 0,iv 0,.slice none 0 0,.slice none 0 0] 25 (0,0)))::(some (g1,.cells #[iv F6,iv F7,.slice L3 X4 L4,.slice L5 X5 L6] 25 (0,0)))::(some (E1,.cells #[.slice aA8 aM1 aA9] 29 (0,0)))::aB0::F)):∀ (k:Nat),∀ (H:Hp) (a1:List k7) (p8:Option Addr) (q7 E1 g1 g2:Nat) (I7:List k6) (aA8:Option Addr) (aM1 aA9:Nat) (aB0:Ch) (F6 F7:Int) (E2:List Blob) (L3:Option Addr) (X4 L4:Nat) (T0:Ch) (E3:List Entry) (L5:Option Addr) (X5 L6:Nat) (T3:Ch) (v27:Int) ,Rw O1 H F p8 a1→a1.length≤q7→b6 X9 54 H aA8 aA9 I7 aB0→aM1=I7.length→b6 j7 44 H L3 L4 E2 T0→X4=E2.length→b6 k5 47 H L5 L6 E3 T3→X5=E3.length→al4.l2 e1 k a1 I7 F6 F7 E2 E3 v27=some r→b8 C18 (S18 F H0 E1 r) H0 w0 [.c [1,1,1,1,0,1,0,0],.l [1,1,1,1,0,1,0,0],.b 0,.c [1,1,1,1,1]] [(2,.func (.func 19) #[] #[.pointer (some ⟨E1,0,none⟩)]),(3,pg g1 0),(6,pg g2 0),(25,.slice p8 a1.length q7),(26,iv (a1.length:Int)),(27,iv v27)] H (T0::T3::(some (g2,.cells #[iv 0,iv 0,.slice none 0 0,.slice none 0 0] 25 (0,0)))::(some (g1,.cells #[iv F6,iv F7,.slice L3 X4 L4,.slice L5 X5 L6] 25 (0,0)))::(some (E1,.cells #[.slice aA8 aM1 aA9] 29 (0,0)))::aB0::F):=by
 intro k
 induction k with
 | zero=>intro H a1 p8 q7 E1 g1 g2 I7 aA8 aM1 aA9 aB0 F6 F7 E2 L3 X4 L4 T0 E3 L5 X5 L6 T3 v27 p0 C5 aI3 bK1 aj7 aB8 aj8 aB9 heq; exact nomatch (show (none:Option (Cache × Int × (List k6)))=some r from heq)
 | succ k u0 =>
  intro H a1 p8 q7 E1 g1 g2 I7 aA8 aM1 aA9 aB0 F6 F7 E2 L3 X4 L4 T0 E3 L5 X5 L6 T3 v27 p0 C5 aI3 bK1 aj7 aB8 aj8 aB9 heq
  subst bK1
  subst aB8
  subst aB9
  rw [al4.l2] at heq
  refine Sa 1<|Zd 1<|An 1 ?_
  refine Cb heq ?_ ?_
  ·intro x7 heq
   refine Sa 4 ?_
   obtain ⟨x1,hx1,heq⟩:=bind_some heq
   obtain ⟨A7,I1,B1,B2⟩:=p0.get hx1
   obtain ⟨aa8,c3,rfl,hc1,I0⟩:=aT2 B1
   refine Zv 2 ([nx A7 hx1]++ers B2 6) ?_
   refine c6.e5 (j6.new (d:=10) (v:=fun g=>.pointer (some ⟨g,0,none⟩)) (o:=fun g=>.cells #[iv 0,iv 0,.string ByteArray.empty,.slice none 0 0,.string ByteArray.empty,iv 0] 50 (0,0)) (fun g=>by kernel_rfl)) ?_
   rintro _ _ _ _ ⟨g3,rfl,rfl,rfl⟩
   refine c6.e5 (j6.store (k:=0) (g:=g3) (off:=0) (v:=.agg #[iv x1.Kind,iv x1.At,.string x1.b7,.slice aa8 x1.j9.length c3,.string x1.Key,iv x1.j4]) (cells':=#[iv x1.Kind,iv x1.At,.string x1.b7,.slice aa8 x1.j9.length c3,.string x1.Key,iv x1.j4]) (by kernel_rfl) rfl (by kernel_rfl) (by kernel_rfl)) ?_
   rintro _ _ _ _ ⟨rfl,rfl,rfl⟩
   refine c6.p6 ?_
   refine Dn<|Sa 1<|Zv 1 (C8 0)<|Ug 5 [4,1,2,0,3] ?_
   obtain ⟨y3,hy3,heq⟩:=bind_some heq
   refine c6.e5 (o9 33 (bW3 (a0:=(⟨F6,F7,E2,E3⟩:Cache)) hy3 aj7 rfl aj8 rfl (Rw.of I0) hc1 rfl)) ?_
   rintro _ H _ hl ⟨_,rfl,aa9,y8,E6,G3,G4,G6,X6,X7,O2,af6,c7,S3,rfl,rfl,O3,R5,K4,N0⟩
   replace aI3:=aI3.mono hl
   replace aj7:=aj7.mono hl
   replace aj8:=aj8.mono hl
   replace I0:=I0.mono hl
   replace p0:=p0.mono hl
   refine Zk 5 ?_
   refine c6.e5 (j6.new (d:=11) (v:=fun g=>.pointer (some ⟨g,0,none⟩)) (o:=fun g=>.cells #[.bool false,.slice none 0 0,.slice none 0 0] 54 (0,0)) (fun g=>by kernel_rfl)) ?_
   rintro _ _ _ _ ⟨g4,rfl,rfl,rfl⟩
   refine c6.e5 (j6.store (k:=0) (g:=g4) (off:=0) (v:=.agg #[.bool y3.1.x8,.slice aa9 y3.1.x5.length y8,.slice G3 y3.1.x4.length G4]) (cells':=#[.bool y3.1.x8,.slice aa9 y3.1.x5.length y8,.slice G3 y3.1.x4.length G4]) (by kernel_rfl) rfl (by kernel_rfl) (by kernel_rfl)) ?_
   rintro _ _ _ _ ⟨rfl,rfl,rfl⟩
   refine c6.p6 ?_
   refine Zd 8<|Sa 2<|Zd 2 ?_
   refine Cb heq ?_ ?_
   ·intro B3 heq
    refine Sa 1<|Zk 2 ?_
    refine c6.e5 (j6.store (k:=7) (g:=g2) (off:=0) (v:=.agg #[iv 0,iv 0,.slice none 0 0,.slice none 0 0]) (cells':=#[iv 0,iv 0,.slice none 0 0,.slice none 0 0]) (by kernel_rfl) rfl (by kernel_rfl) (by kernel_rfl)) ?_
    rintro _ _ _ _ ⟨rfl,rfl,rfl⟩
    refine c6.p6 ?_
    refine Zd 4<|b8.w5 ?_
    have aa4:b6 j7 44 H none 0 ([]:List Blob) none:=b6.nil
    refine b8.w5 ?_
    have ae5:b6 k5 47 H none 0 ([]:List Entry) none:=b6.nil
    obtain rfl:=Option.some.inj heq
    refine Up 10 [9,1,0] ?_
    exact b8.I3 1 (vs:=[.agg #[iv 0,iv 0,.slice none 0 0,.slice none 0 0],iv y3.2.1]) (v:=.tuple #[.agg #[iv 0,iv 0,.slice none 0 0,.slice none 0 0],iv y3.2.1]) (by kernel_rfl) Tryz.func18 (fun w hh=>show G2 _ _ _ [.cell 6 25,.tmp 7] _ from ⟨⟨⟨g2,0,none⟩,by kernel_rfl,F5 _ (vs:=[iv 0,iv 0,.slice none 0 0,.slice none 0 0]) (r:=[]) (es:=[.load ⟨g2,0,none⟩ (iv 0),.load ⟨g2,1,none⟩ (iv 0),.load ⟨g2,2,none⟩ (.slice none 0 0),.load ⟨g2,3,none⟩ (.slice none 0 0)]) (by kernel_rfl) ⟨(hh.box 0 rfl rfl),(hh.box 0 rfl rfl),(hh.box 0 rfl rfl),(hh.box 0 rfl rfl)⟩⟩,(show lk _ _=some _ by kernel_rfl),trivial⟩) rfl (cs':=none::none::(some (E1,.cells #[.slice aA8 I7.length aA9] 29 (0,0)))::aB0::F) rfl ⟨none,0,none,none,0,none,aA8,aA9,aB0,rfl,rfl,aa4,ae5,aI3⟩
   ·intro B3 heq
    refine Sa 1<|Zv 4 (C8 3++C8 6++C8 0)<|Ug 2 [1,0] ?_
    have N9:=O3.cap
    refine Hs.aD8 O3 (fun H hl hr2=>?_)
    replace aI3:=aI3.mono hl
    replace K4:=K4.mono hl
    replace N0:=N0.mono hl
    replace p0:=p0.mono hl
    replace I0:=I0.mono hl
    replace R5:=R5.mono hl
    refine Ug 2 [1,0] ?_
    have hc3:=R5.cap
    refine Hs.aD8 R5 (fun H hl hr3=>?_)
    replace aI3:=aI3.mono hl
    replace K4:=K4.mono hl
    replace N0:=N0.mono hl
    replace p0:=p0.mono hl
    replace I0:=I0.mono hl
    replace hr2:=hr2.mono hl
    refine Ug 8 [6,7,0,1,2,3,4,5] ?_
    obtain ⟨y4,hy4,heq⟩:=bind_some heq
    refine c6.e5 (o9 44 (dq4 hy4 (K4.rw (.tail _ (.tail _ (.head _)))) K4.cap rfl (N0.rw (.tail _ (.tail _ (.tail _ (.head _))))) N0.cap rfl (Rw.of I0) hc1 rfl hr2 N9 rfl hr3 hc3 rfl aI3 rfl)) ?_
    rintro _ _ _ _ ⟨_,rfl,A8,an2,ae6,rfl,rfl,rfl,ar7⟩
    refine Dn<|Sa 1<|Zd 2<|An 1 ?_
    exact Gt 8 [4,5,7,3,0,1] (u0 _ a1 _ _ _ _ _ y4 _ _ _ _ y3.2.2.Room y3.2.2.c4 y3.2.2.U _ _ _ _ y3.2.2.Entries _ _ _ _ (c5 (v27+1)) p0 C5 ar7 rfl K4 rfl N0 rfl heq)
  ·intro x7 heq
   refine An 2 ?_
   exact Gt 0 [] (D4 _ _ _ _ I7 _ _ _ _ F6 F7 E2 _ _ _ _ E3 _ _ _ _ aI3 rfl aj7 rfl aj8 rfl heq)
theorem dq7 {a0:Cache} {e6:Option Addr} {q2 e8:Nat} {e3:Option Addr} {p7 e4:Nat} {a1:List k7} {p8:Option Addr} {G7 q7 E1:Nat} {Y4:List k6} {aY8:Option Addr} {cB2 aY9:Nat} {aZ0:Ch} {r:Cache × Int × (List k6)} (heq:al4.f a0 a1 Y4=some r) (n9:Rw j7 H0 F e6 a0.U) (s7:q2≤e8) (B9:q2=a0.U.length) (l8:Rw k5 H0 F e3 a0.Entries) (q8:p7≤e4) (B4:p7=a0.Entries.length) (p0:Rw O1 H0 F p8 a1) (C5:G7≤q7) (X8:G7=a1.length) (be6:b6 X9 54 H0 aY8 aY9 Y4 aZ0) (dq8:cB2=Y4.length):z7 Tryz.prog 18 #[.agg #[iv a0.Room,iv a0.c4,.slice e6 q2 e8,.slice e3 p7 e4],.slice p8 G7 q7,.func (.func 19) #[] #[.pointer (some ⟨E1,0,none⟩)]] H0 w0 ((some (E1,.cells #[.slice aY8 cB2 aY9] 29 (0,0)))::aZ0::F) (S18 F H0 E1 r):=by
 refine Co C18 Tryz.func18 Tryz.ntmps18 ?_
 subst B9
 subst B4
 subst X8
 subst dq8
 unfold al4.f at heq
 suffices key:∀ (H:Hp),Rw j7 H F e6 a0.U→Rw k5 H F e3 a0.Entries→Rw O1 H F p8 a1→b6 X9 54 H aY8 aY9 Y4 aZ0→b8 C18 (S18 F H0 E1 r) H0 w0 [.c []] (Z3 0 [.agg #[iv a0.Room,iv a0.c4,.slice e6 (a0.U.length) e8,.slice e3 (a0.Entries.length) e4],.slice p8 (a1.length) q7,.func (.func 19) #[] #[.pointer (some ⟨E1,0,none⟩)]]) H ((some (E1,.cells #[.slice aY8 (Y4.length) aY9] 29 (0,0)))::aZ0::F) from key H0 n9 l8 p0 be6
 intro H n9 l8 p0 be6
 refine Sa 1 ?_
 refine c6.e5 (j6.new (d:=3) (v:=fun g=>.pointer (some ⟨g,0,none⟩)) (o:=fun g=>.cells #[iv a0.Room,iv a0.c4,.slice e6 a0.U.length e8,.slice e3 a0.Entries.length e4] 25 (0,0)) (fun g=>by kernel_rfl)) ?_
 rintro _ _ _ _ ⟨g1,rfl,rfl,rfl⟩
 refine c6.e5 (j6.new (d:=6) (v:=fun g=>.pointer (some ⟨g,0,none⟩)) (o:=fun g=>.cells #[iv 0,iv 0,.slice none 0 0,.slice none 0 0] 25 (0,0)) (fun g=>by kernel_rfl)) ?_
 rintro _ _ _ _ ⟨g2,rfl,rfl,rfl⟩
 refine Zd 3<|Sa 2<|Zv 1 (C8 1) ?_
 obtain ⟨y1,hy1,heq⟩:=bind_some heq
 refine c6.e5 (o9 14 (bH4 hy1 (n9.wk (fun _ h=>(.tail _ (.tail _ (.tail _ (.tail _ h)))))) s7 rfl (l8.wk (fun _ h=>(.tail _ (.tail _ (.tail _ (.tail _ h)))))) q8 rfl)) ?_
 rintro _ _ _ _ ⟨_,rfl,rfl,rfl,rfl⟩
 refine Zd 3<|Sa 1<|Zd 2 ?_
 refine Cb heq ?_ ?_
 ·intro o8 heq
  refine Sa 1<|Zk 2 ?_
  refine c6.e5 (j6.store (k:=0) (g:=g2) (off:=0) (v:=.agg #[iv 0,iv 0,.slice none 0 0,.slice none 0 0]) (cells':=#[iv 0,iv 0,.slice none 0 0,.slice none 0 0]) (by kernel_rfl) rfl (by kernel_rfl) (by kernel_rfl)) ?_
  rintro _ _ _ _ ⟨rfl,rfl,rfl⟩
  refine c6.p6 ?_
  refine Zd 4<|b8.w5 ?_
  have r8:b6 j7 44 H none 0 ([]:List Blob) none:=b6.nil
  refine b8.w5 ?_
  have w8:b6 k5 47 H none 0 ([]:List Entry) none:=b6.nil
  obtain rfl:=Option.some.inj heq
  refine Up 4 [2,1,0] ?_
  exact b8.I3 1 (vs:=[.agg #[iv 0,iv 0,.slice none 0 0,.slice none 0 0],iv y1]) (v:=.tuple #[.agg #[iv 0,iv 0,.slice none 0 0,.slice none 0 0],iv y1]) (by kernel_rfl) Tryz.func18 (fun w hh=>show G2 _ _ _ [.cell 6 25,.tmp 7] _ from ⟨⟨⟨g2,0,none⟩,by kernel_rfl,F5 _ (vs:=[iv 0,iv 0,.slice none 0 0,.slice none 0 0]) (r:=[]) (es:=[.load ⟨g2,0,none⟩ (iv 0),.load ⟨g2,1,none⟩ (iv 0),.load ⟨g2,2,none⟩ (.slice none 0 0),.load ⟨g2,3,none⟩ (.slice none 0 0)]) (by kernel_rfl) ⟨(hh.box 0 rfl rfl),(hh.box 0 rfl rfl),(hh.box 0 rfl rfl),(hh.box 0 rfl rfl)⟩⟩,(show lk _ _=some _ by kernel_rfl),trivial⟩) rfl (cs':=none::none::(some (E1,.cells #[.slice aY8 Y4.length aY9] 29 (0,0)))::aZ0::F) rfl ⟨none,0,none,none,0,none,aY8,aY9,aZ0,rfl,rfl,r8,w8,be6⟩
 ·intro o8 heq
  refine Sa 3<|Zd 3 ?_
  refine Cb heq ?_ ?_
  ·intro s3 heq
   refine Sa 1<|Zk 1 ?_
   refine c6.e5 (j6.store (k:=0) (g:=g2) (off:=0) (v:=.agg #[iv 0,iv 0,.slice none 0 0,.slice none 0 0]) (cells':=#[iv 0,iv 0,.slice none 0 0,.slice none 0 0]) (by kernel_rfl) rfl (by kernel_rfl) (by kernel_rfl)) ?_
   rintro _ _ _ _ ⟨rfl,rfl,rfl⟩
   refine c6.p6 ?_
   refine Zd 3<|b8.w5 ?_
   have w4:b6 j7 44 H none 0 ([]:List Blob) none:=b6.nil
   refine b8.w5 ?_
   have C9:b6 k5 47 H none 0 ([]:List Entry) none:=b6.nil
   obtain rfl:=Option.some.inj heq
   refine Up 4 [2,1,0] ?_
   exact b8.I3 1 (vs:=[.agg #[iv 0,iv 0,.slice none 0 0,.slice none 0 0],iv 2]) (v:=.tuple #[.agg #[iv 0,iv 0,.slice none 0 0,.slice none 0 0],iv 2]) (by kernel_rfl) Tryz.func18 (fun w hh=>show G2 _ _ _ [.cell 6 25,.tmp 7] _ from ⟨⟨⟨g2,0,none⟩,by kernel_rfl,F5 _ (vs:=[iv 0,iv 0,.slice none 0 0,.slice none 0 0]) (r:=[]) (es:=[.load ⟨g2,0,none⟩ (iv 0),.load ⟨g2,1,none⟩ (iv 0),.load ⟨g2,2,none⟩ (.slice none 0 0),.load ⟨g2,3,none⟩ (.slice none 0 0)]) (by kernel_rfl) ⟨(hh.box 0 rfl rfl),(hh.box 0 rfl rfl),(hh.box 0 rfl rfl),(hh.box 0 rfl rfl)⟩⟩,(show lk _ _=some _ by kernel_rfl),trivial⟩) rfl (cs':=none::none::(some (E1,.cells #[.slice aY8 Y4.length aY9] 29 (0,0)))::aZ0::F) rfl ⟨none,0,none,none,0,none,aY8,aY9,aZ0,rfl,rfl,w4,C9,be6⟩
  ·intro s3 heq
   refine Sa 2<|Zv 1 (C8 1) ?_
   obtain ⟨y2,hy2,heq⟩:=bind_some heq
   refine c6.e5 (o9 24 (bW4 hy2 (n9.wk (fun _ h=>(.tail _ (.tail _ (.tail _ (.tail _ h)))))) s7 rfl (l8.wk (fun _ h=>(.tail _ (.tail _ (.tail _ (.tail _ h)))))) q8 rfl)) ?_
   rintro _ H _ hl ⟨_,rfl,A1,c1,r9,aa3,c2,B5,rfl,rfl,H7,O4⟩
   replace p0:=p0.mono hl
   replace be6:=be6.mono hl
   replace n9:=n9.mono hl
   replace l8:=l8.mono hl
   refine c6.e5 (j6.store (k:=3) (g:=g1) (off:=0) (v:=.agg #[iv y2.Room,iv y2.c4,.slice A1 y2.U.length c1,.slice aa3 y2.Entries.length c2]) (cells':=#[iv y2.Room,iv y2.c4,.slice A1 y2.U.length c1,.slice aa3 y2.Entries.length c2]) (by kernel_rfl) rfl (by kernel_rfl) (by kernel_rfl)) ?_
   rintro _ _ _ _ ⟨rfl,rfl,rfl⟩
   refine c6.p6 ?_
   refine Dn<|Sa 2<|Zd 3<|An 2 ?_
   exact Gt 0 [] (((al4.F9 (e1:=al4.e1) (al4.D7)) n8) _ a1 _ _ _ _ _ Y4 _ _ _ _ y2.Room y2.c4 y2.U _ _ _ _ y2.Entries _ _ _ _ 0 p0 C5 be6 rfl H7 rfl O4 rfl heq)
noncomputable def cB3:Ctx:={ P:=Tryz.prog,f:=6,N:=22,c:=C1 Tryz.f6 }
def cB4 (F:List Ch) (H0:Hp) (r:Cache × (List k6) × Int) (v:Value) (H:Hp) (cs:List Ch):Prop:=∃ (E7:Option Addr) (E8:Nat) (F1:Ch) (P7:Option Addr) (P8:Nat) (Q9:Ch) (A1:Option Addr) (c1:Nat) (r9:Ch),v=.tuple #[.agg #[iv r.1.Room,iv r.1.c4,.slice E7 r.1.U.length E8,.slice P7 r.1.Entries.length P8],.slice A1 r.2.1.length c1,iv r.2.2]∧F1::Q9::r9::F=cs∧b6 j7 44 H E7 E8 r.1.U F1∧b6 k5 47 H P7 P8 r.1.Entries Q9∧b6 X9 54 H A1 c1 r.2.1 r9
theorem dd4 {a0:Cache} {e6:Option Addr} {q2 e8:Nat} {e3:Option Addr} {p7 e4:Nat} {a1:List k7} {p8:Option Addr} {G7 q7:Nat} {r:Cache × (List k6) × Int} (heq:bc4.f a0 a1=some r) (n9:Rw j7 H0 F e6 a0.U) (s7:q2≤e8) (B9:q2=a0.U.length) (l8:Rw k5 H0 F e3 a0.Entries) (q8:p7≤e4) (B4:p7=a0.Entries.length) (p0:Rw O1 H0 F p8 a1) (C5:G7≤q7) (X8:G7=a1.length):z7 Tryz.prog 6 #[.agg #[iv a0.Room,iv a0.c4,.slice e6 q2 e8,.slice e3 p7 e4],.slice p8 G7 q7] H0 w0 (F) (cB4 F H0 r):=by
 refine Co cB3 Tryz.func6 Tryz.ntmps6 ?_
 subst B9
 subst B4
 subst X8
 unfold bc4.f at heq
 suffices key:∀ (H:Hp),Rw j7 H F e6 a0.U→Rw k5 H F e3 a0.Entries→Rw O1 H F p8 a1→b8 cB3 (cB4 F H0 r) H0 w0 [.c []] (Z3 0 [.agg #[iv a0.Room,iv a0.c4,.slice e6 (a0.U.length) e8,.slice e3 (a0.Entries.length) e4],.slice p8 (a1.length) q7]) H (F) from key H0 n9 l8 p0
 intro H n9 l8 p0
 refine Sa 1 ?_
 refine c6.e5 (j6.new (d:=2) (v:=fun g=>.pointer (some ⟨g,0,none⟩)) (o:=fun g=>.cells #[iv a0.Room,iv a0.c4,.slice e6 a0.U.length e8,.slice e3 a0.Entries.length e4] 25 (0,0)) (fun g=>by kernel_rfl)) ?_
 rintro _ _ _ _ ⟨g1,rfl,rfl,rfl⟩
 refine c6.e5 (j6.new (d:=4) (v:=fun g=>.pointer (some ⟨g,0,none⟩)) (o:=fun g=>.cells #[iv 0,iv 0,.slice none 0 0,.slice none 0 0] 25 (0,0)) (fun g=>by kernel_rfl)) ?_
 rintro _ _ _ _ ⟨g2,rfl,rfl,rfl⟩
 refine Zd 4<|Sa 1 ?_
 refine c6.e5 (j6.new (d:=7) (v:=fun g=>.pointer (some ⟨g,0,none⟩)) (o:=fun g=>.cells #[.slice none 0 0] 29 (0,0)) (fun g=>by kernel_rfl)) ?_
 rintro _ _ _ _ ⟨g3,rfl,rfl,rfl⟩
 refine Dn<|Sa 1<|Zv 3 (C8 2)<|c6.w5 ?_
 have r8:b6 X9 54 H none 0 ([]:List k6) none:=b6.nil
 refine Ug 2 [1,0] ?_
 obtain ⟨y1,hy1,heq⟩:=bind_some heq
 refine c6.e5 (o9 13 (dq7 hy1 (n9.wk (fun _ h=>(.tail _ (.tail _ h)))) s7 rfl (l8.wk (fun _ h=>(.tail _ (.tail _ h)))) q8 rfl (p0.wk (fun _ h=>(.tail _ (.tail _ h)))) C5 rfl r8 rfl)) ?_
 rintro _ H _ hl ⟨_,rfl,A1,c1,r9,aa3,c2,B5,aa8,c3,E6,rfl,rfl,w8,w4,C9⟩
 replace n9:=n9.mono hl
 replace l8:=l8.mono hl
 replace r8:=r8.mono hl
 replace p0:=p0.mono hl
 refine Zk 7 ?_
 refine c6.e5 (j6.store (k:=5) (g:=g1) (off:=0) (v:=.agg #[iv y1.1.Room,iv y1.1.c4,.slice A1 y1.1.U.length c1,.slice aa3 y1.1.Entries.length c2]) (cells':=#[iv y1.1.Room,iv y1.1.c4,.slice A1 y1.1.U.length c1,.slice aa3 y1.1.Entries.length c2]) (by kernel_rfl) rfl (by kernel_rfl) (by kernel_rfl)) ?_
 rintro _ _ _ _ ⟨rfl,rfl,rfl⟩
 refine c6.p6 ?_
 refine Zd 9<|Sa 2<|Zd 2 ?_
 refine Cb heq ?_ ?_
 ·intro o8 heq
  refine Sa 1<|Zk 2 ?_
  refine c6.e5 (j6.store (k:=4) (g:=g2) (off:=0) (v:=.agg #[iv 0,iv 0,.slice none 0 0,.slice none 0 0]) (cells':=#[iv 0,iv 0,.slice none 0 0,.slice none 0 0]) (by kernel_rfl) rfl (by kernel_rfl) (by kernel_rfl)) ?_
  rintro _ _ _ _ ⟨rfl,rfl,rfl⟩
  refine c6.p6 ?_
  refine Zd 5<|b8.w5 ?_
  have H7:b6 j7 44 H none 0 ([]:List Blob) none:=b6.nil
  refine b8.w5 ?_
  have O4:b6 k5 47 H none 0 ([]:List Entry) none:=b6.nil
  refine b8.w5 ?_
  have O3:b6 X9 54 H none 0 ([]:List k6) none:=b6.nil
  obtain rfl:=Option.some.inj heq
  refine Up 9 [7,2,1,0] ?_
  exact b8.I3 1 (vs:=[.agg #[iv 0,iv 0,.slice none 0 0,.slice none 0 0],.slice none 0 0,iv y1.2.1]) (v:=.tuple #[.agg #[iv 0,iv 0,.slice none 0 0,.slice none 0 0],.slice none 0 0,iv y1.2.1]) (by kernel_rfl) Tryz.func6 (fun w hh=>show G2 _ _ _ [.cell 4 25,.tmp 5,.tmp 6] _ from ⟨⟨⟨g2,0,none⟩,by kernel_rfl,F5 _ (vs:=[iv 0,iv 0,.slice none 0 0,.slice none 0 0]) (r:=[]) (es:=[.load ⟨g2,0,none⟩ (iv 0),.load ⟨g2,1,none⟩ (iv 0),.load ⟨g2,2,none⟩ (.slice none 0 0),.load ⟨g2,3,none⟩ (.slice none 0 0)]) (by kernel_rfl) ⟨(hh.box 0 rfl rfl),(hh.box 0 rfl rfl),(hh.box 0 rfl rfl),(hh.box 0 rfl rfl)⟩⟩,(show lk _ _=some _ by kernel_rfl),(show lk _ _=some _ by kernel_rfl),trivial⟩) rfl (cs':=none::none::none::F) rfl ⟨none,0,none,none,0,none,none,0,none,rfl,rfl,H7,O4,O3⟩
 ·intro o8 heq
  refine An 2<|Sd 5 5 [0,1,2,3] [3,3,1,3,3]<|Zr [0] 4 (C8 5) (Pk 6 [0,1,2,3,4,5]) (Pk 6 [0,1,2,3,5])<|Zt [1] 3 [bx 2 0] (Pk 6 [0,1,2,3,5]) ?_
  refine Dz 2 (j6.store (k:=4) (g:=g2) (off:=0) (v:=.agg #[iv y1.1.Room,iv y1.1.c4,.slice A1 y1.1.U.length c1,.slice aa3 y1.1.Entries.length c2]) (cells':=#[iv y1.1.Room,iv y1.1.c4,.slice A1 y1.1.U.length c1,.slice aa3 y1.1.Entries.length c2]) (by kernel_rfl) rfl (by kernel_rfl) (by kernel_rfl)) ?_
  rintro _ _ _ _ ⟨rfl,rfl,rfl⟩
  refine ⟨fun _ w hh=>⟨(fun h=>by cases h),fun _=>(Pk 6 [0,1,2,3,5]) w hh,(fun h=>by cases h)⟩,?_⟩
  refine o5.p6 ?_
  refine Zt [3,4] 0 [] (Pk 6 [0,1,2,3,5]) ?_
  refine o5.done (by kernel_rfl) ?_
  obtain rfl:=Option.some.inj heq
  refine Up 6 [4,0,1,3] ?_
  exact b8.I3 1 (vs:=[.agg #[iv y1.1.Room,iv y1.1.c4,.slice A1 y1.1.U.length c1,.slice aa3 y1.1.Entries.length c2],.slice aa8 y1.2.2.length c3,iv 0]) (v:=.tuple #[.agg #[iv y1.1.Room,iv y1.1.c4,.slice A1 y1.1.U.length c1,.slice aa3 y1.1.Entries.length c2],.slice aa8 y1.2.2.length c3,iv 0]) (by kernel_rfl) Tryz.func6 (fun w hh=>show G2 _ _ _ [.cell 4 25,.tmp 5,.tmp 6] _ from ⟨⟨⟨g2,0,none⟩,by kernel_rfl,F5 _ (vs:=[iv y1.1.Room,iv y1.1.c4,.slice A1 y1.1.U.length c1,.slice aa3 y1.1.Entries.length c2]) (r:=[]) (es:=[.load ⟨g2,0,none⟩ (iv y1.1.Room),.load ⟨g2,1,none⟩ (iv y1.1.c4),.load ⟨g2,2,none⟩ (.slice A1 y1.1.U.length c1),.load ⟨g2,3,none⟩ (.slice aa3 y1.1.Entries.length c2)]) (by kernel_rfl) ⟨(hh.box 0 rfl rfl),(hh.box 0 rfl rfl),(hh.box 0 rfl rfl),(hh.box 0 rfl rfl)⟩⟩,(show lk _ _=some _ by kernel_rfl),(show lk _ _=some _ by kernel_rfl),trivial⟩) rfl (cs':=r9::B5::E6::F) rfl ⟨A1,c1,r9,aa3,c2,B5,aa8,c3,E6,rfl,rfl,w8,w4,C9⟩
noncomputable def C50:Ctx:={ P:=Tryz.prog,f:=50,N:=15,c:=C1 Tryz.f50 }
def S50 (F:List Ch) (H0:Hp) (r:Bool) (v:Value) (H:Hp) (cs:List Ch):Prop:=H0=H∧v=.bool r∧F=cs
theorem aQ9 {a0 a1 a2:Int} {r:Bool} (heq:aB4.f a0 a1 a2=some r):z7 Tryz.prog 50 #[iv a0,iv a1,iv a2] H w0 (F) (S50 F H r):=by
 refine Co C50 Tryz.func50 Tryz.ntmps50 ?_
 unfold aB4.f at heq
 refine Sa 1<|Zd 1<|An 1 ?_
 obtain ⟨t1,A9,heq⟩:=bind_some heq
 have Z0:b8 C50 (S50 F H r) H w0 [.c [1,1]] [(6,.bool t1)] H (F):=by
  obtain rfl:=Option.some.inj heq
  exact b8.done (by kernel_rfl) Tryz.func50 (v:=.bool t1) (by kernel_rfl) ⟨rfl,rfl,rfl⟩
 replace heq:=A9
 refine Sa 0<|Zk 4 ?_
 rcases y9 (decide (a1≤a0)) with o8 | o8
 ·replace heq:=A5 o8 heq
  refine Zs 10 (congrArg Value.bool o8)<|Zk 9 ?_
  obtain rfl:=Option.some.inj heq
  refine Dn ?_
  exact Gt 0 [] (Z0)
 ·replace heq:=A6 o8 heq
  refine Zs 10 (congrArg Value.bool o8)<|Zk 9 ?_
  obtain rfl:=Option.some.inj heq
  refine Dn ?_
  exact Gt 0 [] (Z0)
noncomputable def C31:Ctx:={ P:=Tryz.prog,f:=31,N:=19,c:=C1 Tryz.f31 }
def S31 (F:List Ch) (H0:Hp) (r:Int) (v:Value) (H:Hp) (cs:List Ch):Prop:=H0=H∧v=iv r∧F=cs
theorem ag4.D7 {r:Int}:∀ (K2:Int) ,ag4.e1 K2=some r→b8 C31 (S31 F H r) H w0 [.c [1,1,1,0],.c [1,1,1,1]] [(3,iv K2)] H (F):=by
 intro K2  heq
 unfold ag4.e1 at heq
 refine Sa 0<|Zd 2 ?_
 obtain rfl:=Option.some.inj heq
 exact b8.done (by kernel_rfl) Tryz.func31 (v:=iv K2) (by kernel_rfl) ⟨rfl,rfl,rfl⟩
theorem ag4.F9 {r:Int} (e1:Int→Option Int)
  (D4:∀ (K2:Int) ,e1 K2=some r→b8 C31 (S31 F H r) H w0 [.c [1,1,1,0],.c [1,1,1,1]] [(3,iv K2)] H (F)):∀ (k:Nat),∀ (a0:List Blob) (e7:Option Addr) (c8:Nat) (K2 U0:Int) ,Rw j7 H F e7 a0→a0.length≤c8→ag4.l2 e1 k a0 K2 U0=some r→b8 C31 (S31 F H r) H w0 [.c [1,1,0,1,0,0],.l [1,1,0,1,0,0],.b 0,.c [1,1,1]] [(0,.slice e7 a0.length c8),(3,iv K2),(4,iv U0)] H (F):=by
 intro k
 induction k with
 | zero=>intro a0 e7 c8 K2 U0 B6 G9 heq; exact nomatch (show (none:Option Int)=some r from heq)
 | succ k u0 =>
  intro a0 e7 c8 K2 U0 B6 G9 heq
  rw [ag4.l2] at heq
  refine Sa 2<|Zd 4 ?_
  refine Cb heq ?_ ?_
  ·intro o8 heq
   refine Sa 3 ?_
   obtain ⟨x1,hx1,heq⟩:=bind_some heq
   obtain ⟨A7,I1,B1,B2⟩:=B6.get hx1
   obtain ⟨rfl⟩:=C6 B1
   refine Zw 8 [nx A7 hx1,er B2 0 1]<|Sa 1<|Zd 3<|An 1 ?_
   exact Gt 0 [] (u0 a0 _ _ (c5 (K2+x1.j4)) (c5 (U0+1)) B6 G9 heq)
  ·intro o8 heq
   refine An 2 ?_
   exact Gt 0 [] (D4 K2 heq)
theorem bK4 {a0:List Blob} {e7:Option Addr} {s0 c8:Nat} {r:Int} (heq:ag4.f a0=some r) (B6:Rw j7 H F e7 a0) (G9:s0≤c8) (L8:s0=a0.length):z7 Tryz.prog 31 #[.slice e7 s0 c8] H w0 (F) (S31 F H r):=by
 refine Co C31 Tryz.func31 Tryz.ntmps31 ?_
 subst L8
 unfold ag4.f at heq
 refine Sa 1<|Zd 1<|Sa 1<|Zd 1<|Sa 2<|Zd 1<|An 2 ?_
 exact Gt 0 [] (((ag4.F9 (e1:=ag4.e1) (ag4.D7)) n8) a0 _ _ 0 0 B6 G9 heq)
noncomputable def C51:Ctx:={ P:=Tryz.prog,f:=51,N:=36,c:=C1 Tryz.f51 }
def S51 (F:List Ch) (H0:Hp) (r:Bool) (v:Value) (H:Hp) (cs:List Ch):Prop:=H0=H∧v=.bool r∧F=cs
theorem ab9.D7 {r:Bool}:∀ (a0:ByteArray) ,ab9.e1 a0=some r→b8 C51 (S51 F H r) H w0 [.c [1,1,0],.c [1,1,1]] [(0,.string a0)] H (F):=by
 intro a0  heq
 unfold ab9.e1 at heq
 refine Sa 0<|Zd 4 ?_
 obtain rfl:=Option.some.inj heq
 exact b8.done (by kernel_rfl) Tryz.func51 (v:=.bool ((a0.size:Int) == 16)) (by kernel_rfl) ⟨rfl,rfl,rfl⟩
theorem ab9.F9 {r:Bool} (e1:ByteArray→Option Bool)
  (D4:∀ (a0:ByteArray) ,e1 a0=some r→b8 C51 (S51 F H r) H w0 [.c [1,1,0],.c [1,1,1]] [(0,.string a0)] H (F)):∀ (k:Nat),∀ (a0:ByteArray) (J8:Int) ,ab9.l2 e1 k a0 J8=some r→b8 C51 (S51 F H r) H w0 [.c [1,0,1,0,0],.l [1,0,1,0,0],.b 0,.c [1,1]] [(0,.string a0),(3,iv J8)] H (F):=by
 intro k
 induction k with
 | zero=>intro a0 J8  heq; exact nomatch (show (none:Option Bool)=some r from heq)
 | succ k u0 =>
  intro a0 J8  heq
  rw [ab9.l2] at heq
  refine Sa 2<|Zd 4 ?_
  refine Cb heq ?_ ?_
  ·intro o8 heq
   refine An 4 ?_
   obtain ⟨t1,A9,heq⟩:=bind_some heq
   have Z0:b8 C51 (S51 F H r) H w0 [.c [1,0,1,0,0,1,0,0,1],.b 1,.c [1,0,1,0,0,1,1],.l [1,0,1,0,0],.b 0,.c [1,1]] [(0,.string a0),(3,iv J8),(32,.bool t1)] H (F):=by
    refine Cb heq ?_ ?_
    ·intro M4 heq
     refine Sa 1<|Zd 1 ?_
     obtain rfl:=Option.some.inj heq
     exact b8.done (by kernel_rfl) Tryz.func51 (v:=.bool false) (by kernel_rfl) ⟨rfl,rfl,rfl⟩
    ·intro M4 heq
     refine Sa 2<|Zd 3<|An 1 ?_
     exact Gt 0 [] (u0 a0 (c5 (J8+1)) heq)
   replace heq:=A9
   refine Sa 0 ?_
   obtain ⟨C4,heq⟩:=M1 heq
   refine Zv 5 [n2 C4] ?_
   rcases y9 (decide (48≤(bt a0 J8))) with s3 | s3
   ·replace heq:=A5 s3 heq
    refine Zs 14 (congrArg Value.bool s3) ?_
    obtain ⟨hn2,heq⟩:=M1 heq
    refine Zv 11 [n2 hn2] ?_
    rcases y9 (decide ((bt a0 J8)≤57)) with x7 | x7
    ·replace heq:=A5 x7 heq
     refine Zs 20 (congrArg Value.bool x7)<|Zk 23 ?_
     obtain rfl:=Option.some.inj heq
     refine Dn ?_
     exact Gt 0 [] (Z0)
    ·replace heq:=A6 x7 heq
     refine Zs 20 (congrArg Value.bool x7) ?_
     obtain ⟨S9,heq⟩:=M1 heq
     refine Zv 16 [n2 S9] ?_
     rcases y9 (decide (97≤(bt a0 J8))) with B3 | B3
     ·replace heq:=A5 B3 heq
      refine Zs 25 (congrArg Value.bool B3) ?_
      obtain ⟨hn4,heq⟩:=M1 heq
      refine Zv 23 [n2 hn4] ?_
      obtain rfl:=Option.some.inj heq
      refine Dn ?_
      exact Gt 0 [] (Z0)
     ·replace heq:=A6 B3 heq
      refine Zs 25 (congrArg Value.bool B3)<|Zk 23 ?_
      obtain rfl:=Option.some.inj heq
      refine Dn ?_
      exact Gt 0 [] (Z0)
   ·replace heq:=A6 s3 heq
    refine Zs 14 (congrArg Value.bool s3) ?_
    obtain ⟨hn5,heq⟩:=M1 heq
    refine Zv 16 [n2 hn5] ?_
    rcases y9 (decide (97≤(bt a0 J8))) with F2 | F2
    ·replace heq:=A5 F2 heq
     refine Zs 25 (congrArg Value.bool F2) ?_
     obtain ⟨hn6,heq⟩:=M1 heq
     refine Zv 23 [n2 hn6] ?_
     obtain rfl:=Option.some.inj heq
     refine Dn ?_
     exact Gt 0 [] (Z0)
    ·replace heq:=A6 F2 heq
     refine Zs 25 (congrArg Value.bool F2)<|Zk 23 ?_
     obtain rfl:=Option.some.inj heq
     refine Dn ?_
     exact Gt 0 [] (Z0)
  ·intro o8 heq
   refine An 2 ?_
   exact Gt 0 [] (D4 a0 heq)
theorem bl8 {a0:ByteArray} {r:Bool} (heq:ab9.f a0=some r):z7 Tryz.prog 51 #[.string a0] H w0 (F) (S51 F H r):=by
 refine Co C51 Tryz.func51 Tryz.ntmps51 ?_
 unfold ab9.f at heq
 refine Sa 1<|Zd 1<|Sa 2<|Zd 1<|An 2 ?_
 exact Gt 0 [] (((ab9.F9 (e1:=ab9.e1) (ab9.D7)) n8) a0 0 heq)
noncomputable def C52:Ctx:={ P:=Tryz.prog,f:=52,N:=30,c:=C1 Tryz.f52 }
def S52 (F:List Ch) (H0:Hp) (r:Int) (v:Value) (H:Hp) (cs:List Ch):Prop:=H0=H∧v=iv r∧F=cs
theorem aj3.D7 {r:Int}:aj3.e1=some r→b8 C52 (S52 F H r) H w0 [.c [1,1,0],.c [1,1,1]] [] H (F):=by
 intro   heq
 unfold aj3.e1 at heq
 refine Sa 0<|Zd 1 ?_
 obtain rfl:=Option.some.inj heq
 exact b8.done (by kernel_rfl) Tryz.func52 (v:=iv 0) (by kernel_rfl) ⟨rfl,rfl,rfl⟩
theorem aj3.F9 {r:Int} (e1:Option Int)
  (D4:e1=some r→b8 C52 (S52 F H r) H w0 [.c [1,1,0],.c [1,1,1]] [] H (F)):∀ (k:Nat),∀ (a0:List ByteArray) (e7:Option Addr) (c8:Nat) (J8:Int) ,Rw Kd.string H F e7 a0→a0.length≤c8→aj3.l2 e1 k a0 J8=some r→b8 C52 (S52 F H r) H w0 [.c [1,0,1,0,0],.l [1,0,1,0,0],.b 0,.c [1,1]] [(0,.slice e7 a0.length c8),(3,iv J8)] H (F):=by
 intro k
 induction k with
 | zero=>intro a0 e7 c8 J8 B6 G9 heq; exact nomatch (show (none:Option Int)=some r from heq)
 | succ k u0 =>
  intro a0 e7 c8 J8 B6 G9 heq
  rw [aj3.l2] at heq
  refine Sa 2<|Zd 4 ?_
  refine Cb heq ?_ ?_
  ·intro o8 heq
   refine Sa 5 ?_
   obtain ⟨x1,hx1,heq⟩:=bind_some heq
   obtain ⟨A7,I1,B1,B2⟩:=B6.get hx1
   obtain rfl:I1=[.string x1]:=B1
   refine Zv 4 [nx A7 hx1,er B2 0 0] ?_
   obtain ⟨y1,hy1,heq⟩:=bind_some heq
   refine c6.e5 (o9 14 (bl8 hy1 )) ?_
   rintro _ _ _ _ ⟨_,rfl,rfl,rfl,rfl⟩
   refine Zd 6 ?_
   refine Cb heq ?_ ?_
   ·intro s3 heq
    refine Sa 1<|Zd 1 ?_
    obtain rfl:=Option.some.inj heq
    exact b8.done (by kernel_rfl) Tryz.func52 (v:=iv 3) (by kernel_rfl) ⟨rfl,rfl,rfl⟩
   ·intro s3 heq
    refine An 2 ?_
    obtain ⟨t1,A9,heq⟩:=bind_some heq
    have Z0:b8 C52 (S52 F H r) H w0 [.c [1,0,1,0,0,1,0,0,1,1],.b 1,.c [1,0,1,0,0,1,1],.l [1,0,1,0,0],.b 0,.c [1,1]] [(0,.slice e7 a0.length c8),(3,iv J8),(29,.bool t1)] H (F):=by
     refine Cb heq ?_ ?_
     ·intro B3 heq
      refine Sa 1<|Zd 1 ?_
      obtain rfl:=Option.some.inj heq
      exact b8.done (by kernel_rfl) Tryz.func52 (v:=iv 8) (by kernel_rfl) ⟨rfl,rfl,rfl⟩
     ·intro B3 heq
      refine Sa 2<|Zd 3<|An 1 ?_
      exact Gt 0 [] (u0 a0 _ _ (c5 (J8+1)) B6 G9 heq)
    replace heq:=A9
    refine Sd 0 14 [] [3,3,3,3,3,3,3,3,3,3,3,3,3,3]<|Zr [0,1,2] 11 [] (Pk 0 []) (Pk 0 []) ?_
    rcases y9 (decide (0<J8)) with x7 | x7
    ·replace heq:=A5 x7 heq
     refine Zu 18 (congrArg Value.bool x7) ?_
     obtain ⟨x2,w6,heq⟩:=bind_some heq
     obtain ⟨J2,T7,I8,J7⟩:=B6.get w6
     obtain rfl:T7=[.string x2]:=I8
     obtain ⟨x3,K8,heq⟩:=bind_some heq
     obtain ⟨W1,ae3,Q4,ad7⟩:=B6.get K8
     obtain rfl:ae3=[.string x3]:=Q4
     refine Zr [3,4,5,6,7,8,9,10,11,12,13] 0 [nx J2 w6,er J7 0 0,nx W1 K8,er ad7 0 0] (Pk 0 []) (Pk 0 []) ?_
     obtain rfl:=Option.some.inj heq
     refine o5.done (by kernel_rfl) ?_
     exact Gt 0 [] (Z0)
    ·replace heq:=A6 x7 heq
     refine Zu 18 (congrArg Value.bool x7)<|Zr [3,4,5,6,7,8,9,10,11,12,13] 0 [] (Pk 0 []) (Pk 0 []) ?_
     obtain rfl:=Option.some.inj heq
     refine o5.done (by kernel_rfl) ?_
     exact Gt 0 [] (Z0)
  ·intro o8 heq
   refine An 2 ?_
   exact Gt 0 [] (D4 heq)
theorem cB7 {a0:List ByteArray} {e7:Option Addr} {s0 c8:Nat} {r:Int} (heq:aj3.f a0=some r) (B6:Rw Kd.string H F e7 a0) (G9:s0≤c8) (L8:s0=a0.length):z7 Tryz.prog 52 #[.slice e7 s0 c8] H w0 (F) (S52 F H r):=by
 refine Co C52 Tryz.func52 Tryz.ntmps52 ?_
 subst L8
 unfold aj3.f at heq
 refine Sa 1<|Zd 1<|Sa 2<|Zd 1<|An 2 ?_
 exact Gt 0 [] (((aj3.F9 (e1:=aj3.e1) (aj3.D7)) n8) a0 _ _ 0 B6 G9 heq)
noncomputable def C29:Ctx:={ P:=Tryz.prog,f:=29,N:=128,c:=C1 Tryz.f29 }
def S29 (F:List Ch) (H0:Hp) (r:Int) (v:Value) (H:Hp) (cs:List Ch):Prop:=H0=H∧v=iv r∧F=cs
theorem Q1.az5 {r:Int}:Q1.e2=some r→b8 C29 (S29 F H r) H w0 [.c [1,1,1,1,1,1,1,0],.c [1,1,1,1,1,1,1,1]] [] H (F):=by
 intro   heq
 unfold Q1.e2 at heq
 refine Sa 0<|Zd 1 ?_
 obtain rfl:=Option.some.inj heq
 exact b8.done (by kernel_rfl) Tryz.func29 (v:=iv 0) (by kernel_rfl) ⟨rfl,rfl,rfl⟩
theorem Q1.av4 {r:Int} (e2:Option Int)
  (he2:e2=some r→b8 C29 (S29 F H r) H w0 [.c [1,1,1,1,1,1,1,0],.c [1,1,1,1,1,1,1,1]] [] H (F)):∀ (k:Nat),∀ (a0:Cache) (e6:Option Addr) (e8:Nat) (e3:Option Addr) (e4 g1:Nat) (n7:Int) ,Rw j7 H F e6 a0.U→a0.U.length≤e8→Rw k5 H F e3 a0.Entries→a0.Entries.length≤e4→Q1.l3 e2 k a0 n7=some r→b8 C29 (S29 F H r) H w0 [.c [1,1,1,1,1,1,0,1,0,0],.l [1,1,1,1,1,1,0,1,0,0],.b 2,.c [1,1,1,1,1,1,1]] [(1,pg g1 0),(5,iv n7)] H ((some (g1,.cells #[iv a0.Room,iv a0.c4,.slice e6 a0.U.length e8,.slice e3 a0.Entries.length e4] 25 (0,0)))::F):=by
 intro k
 induction k with
 | zero=>intro a0 e6 e8 e3 e4 g1 n7 n9 s7 l8 q8 heq; exact nomatch (show (none:Option Int)=some r from heq)
 | succ k u0 =>
  intro a0 e6 e8 e3 e4 g1 n7 n9 s7 l8 q8 heq
  rw [Q1.l3] at heq
  refine Sa 2<|Zw 5 [bx 0 3] ?_
  refine Cb heq ?_ ?_
  ·intro M4 heq
   refine Sa 4 ?_
   obtain ⟨x1,hx1,heq⟩:=bind_some heq
   obtain ⟨A7,I1,B1,B2⟩:=l8.get hx1
   obtain ⟨A1,c1,rfl,hc1,I0⟩:=Y7 B1
   refine Zv 5 ([bx 0 3,nx A7 hx1]++ers B2 1) ?_
   refine c6.e5 (j6.new (d:=6) (v:=fun g=>.pointer (some ⟨g,0,none⟩)) (o:=fun g=>.cells #[.string ByteArray.empty,.slice none 0 0,iv 0] 47 (0,0)) (fun g=>by kernel_rfl)) ?_
   rintro _ _ _ _ ⟨g2,rfl,rfl,rfl⟩
   refine c6.e5 (j6.store (k:=0) (g:=g2) (off:=0) (v:=.agg #[.string x1.Key,.slice A1 x1.Refs.length c1,iv x1.Used]) (cells':=#[.string x1.Key,.slice A1 x1.Refs.length c1,iv x1.Used]) (by kernel_rfl) rfl (by kernel_rfl) (by kernel_rfl)) ?_
   rintro _ _ _ _ ⟨rfl,rfl,rfl⟩
   refine c6.p6 ?_
   refine Dn<|Sa 2<|Zv 2 [bx 0 0] ?_
   obtain ⟨y4,hy4,heq⟩:=bind_some heq
   refine c6.e5 (o9 98 (bl8 hy4 )) ?_
   rintro _ _ _ _ ⟨_,rfl,rfl,rfl,rfl⟩
   refine Zd 4 ?_
   refine Cb heq ?_ ?_
   ·intro M5 heq
    refine Sa 1<|Zd 1 ?_
    obtain rfl:=Option.some.inj heq
    refine Up 2 [] ?_
    exact b8.done (by kernel_rfl) Tryz.func29 (v:=iv 3) (by kernel_rfl) ⟨rfl,rfl,rfl⟩
   ·intro M5 heq
    refine Sa 3<|Zw 4 [bx 0 1] ?_
    refine Cb heq ?_ ?_
    ·intro Y0 heq
     refine Sa 1<|Zd 1 ?_
     obtain rfl:=Option.some.inj heq
     refine Up 2 [] ?_
     exact b8.done (by kernel_rfl) Tryz.func29 (v:=iv 2) (by kernel_rfl) ⟨rfl,rfl,rfl⟩
    ·intro Y0 heq
     refine Sa 3<|Zv 2 [bx 0 1] ?_
     obtain ⟨A0,hy5,heq⟩:=bind_some heq
     refine c6.e5 (o9 106 (cB7 hy5 (Rw.of I0) hc1 rfl)) ?_
     rintro _ _ _ _ ⟨_,rfl,rfl,rfl,rfl⟩
     refine Zd 4<|Sa 1<|Zd 2 ?_
     refine Cb heq ?_ ?_
     ·intro R6 heq
      refine Sa 1<|Zd 2 ?_
      obtain rfl:=Option.some.inj heq
      refine Up 2 [] ?_
      exact b8.done (by kernel_rfl) Tryz.func29 (v:=iv A0) (by kernel_rfl) ⟨rfl,rfl,rfl⟩
     ·intro R6 heq
      refine Sa 3<|Zv 2 [bx 0 2] ?_
      obtain ⟨G0,hy6,heq⟩:=bind_some heq
      refine c6.e5 (o9 112 (aQ9 hy6 )) ?_
      rintro _ _ _ _ ⟨_,rfl,rfl,rfl,rfl⟩
      refine Zd 4 ?_
      refine Cb heq ?_ ?_
      ·intro Y1 heq
       refine Sa 1<|Zd 1 ?_
       obtain rfl:=Option.some.inj heq
       refine Up 2 [] ?_
       exact b8.done (by kernel_rfl) Tryz.func29 (v:=iv 1) (by kernel_rfl) ⟨rfl,rfl,rfl⟩
      ·intro Y1 heq
       refine An 2 ?_
       obtain ⟨t2,ht2,heq⟩:=bind_some heq
       have ah3:b8 C29 (S29 F H r) H w0 [.c [1,1,1,1,1,1,0,1,0,0,1,0,0,1,1,1,1,1,1],.b 3,.c [1,1,1,1,1,1,0,1,0,0,1,1],.l [1,1,1,1,1,1,0,1,0,0],.b 2,.c [1,1,1,1,1,1,1]] [(1,pg g1 0),(5,iv n7),(127,.bool t2)] H ((some (g1,.cells #[iv a0.Room,iv a0.c4,.slice e6 a0.U.length e8,.slice e3 a0.Entries.length e4] 25 (0,0)))::F):=by
        refine Cb heq ?_ ?_
        ·intro ao0 heq
         refine Sa 1<|Zd 1 ?_
         obtain rfl:=Option.some.inj heq
         refine Up 1 [] ?_
         exact b8.done (by kernel_rfl) Tryz.func29 (v:=iv 8) (by kernel_rfl) ⟨rfl,rfl,rfl⟩
        ·intro ao0 heq
         refine Sa 2<|Zd 3<|An 1 ?_
         exact Gt 0 [] (u0 a0 _ _ _ _ _ (c5 (n7+1)) n9 s7 l8 q8 heq)
       replace heq:=ht2
       refine Sd 0 14 [] [3,3,3,3,3,3,3,3,3,3,3,3,3,3]<|Zr [0,1,2] 11 [] (Pk 2 [0,1]) (Pk 2 [0,1]) ?_
       rcases y9 (decide (0<n7)) with ak0 | ak0
       ·replace heq:=A5 ak0 heq
        refine Zu 116 (congrArg Value.bool ak0) ?_
        obtain ⟨x2,w6,heq⟩:=bind_some heq
        obtain ⟨J2,T7,I8,J7⟩:=l8.get w6
        obtain ⟨aa3,c2,rfl,N9,hr2⟩:=Y7 I8
        refine Zr [3,4,5,6,7,8,9,10,11,12,13] 0 [bx 0 0,bx 1 3,nx J2 w6,er J7 2 0] (Pk 2 [0,1]) (Pk 2 [0,1]) ?_
        obtain rfl:=Option.some.inj heq
        refine o5.done (by kernel_rfl) ?_
        exact Gt 1 [] (ah3)
       ·replace heq:=A6 ak0 heq
        refine Zu 116 (congrArg Value.bool ak0)<|Zr [3,4,5,6,7,8,9,10,11,12,13] 0 [] (Pk 2 [0,1]) (Pk 2 [0,1]) ?_
        obtain rfl:=Option.some.inj heq
        refine o5.done (by kernel_rfl) ?_
        exact Gt 1 [] (ah3)
  ·intro M4 heq
   refine An 2 ?_
   exact Gt 1 [] (he2 heq)
theorem Q1.D7 {r:Int}:∀ (a0:Cache) (e6:Option Addr) (e8:Nat) (e3:Option Addr) (e4 g1:Nat) ,Rw j7 H F e6 a0.U→a0.U.length≤e8→Rw k5 H F e3 a0.Entries→a0.Entries.length≤e4→Q1.e1 a0=some r→b8 C29 (S29 F H r) H w0 [.c [1,1,1,1,0,0],.c [1,1,1,1,0,1],.c [1,1,1,1,1]] [(1,pg g1 0)] H ((some (g1,.cells #[iv a0.Room,iv a0.c4,.slice e6 a0.U.length e8,.slice e3 a0.Entries.length e4] 25 (0,0)))::F):=by
 intro a0 e6 e8 e3 e4 g1 n9 s7 l8 q8 heq
 unfold Q1.e1 at heq
 refine Sd 0 6 [] [3,3,0,3,3,3]<|Zr [0,1,3,4] 2 [bx 0 2,bx 0 0] (Pk 1 [0]) (Pk 1 [0]) ?_
 obtain ⟨y3,hy3,heq⟩:=bind_some heq
 refine Dz 2 (o9 76 (bK4 hy3 (n9.wk (fun _ h=>(.tail _ h))) s7 rfl)) ?_
 rintro _ _ _ _ ⟨_,rfl,rfl,rfl,rfl⟩
 refine ⟨fun _ w hh=>⟨fun _=>(Pk 1 [0]) w hh,fun _=>(Pk 1 [0]) w hh,(fun h=>by cases h)⟩,?_⟩
 refine Zr [5] 0 [] (Pk 1 [0]) (Pk 1 [0]) ?_
 refine o5.done (by kernel_rfl) ?_
 refine Cb heq ?_ ?_
 ·intro B3 heq
  refine Sa 1<|Zd 1 ?_
  obtain rfl:=Option.some.inj heq
  refine Up 1 [] ?_
  exact b8.done (by kernel_rfl) Tryz.func29 (v:=iv 16) (by kernel_rfl) ⟨rfl,rfl,rfl⟩
 ·intro B3 heq
  refine Sa 3<|Zw 4 [bx 0 3] ?_
  refine Cb heq ?_ ?_
  ·intro F2 heq
   refine Sa 1<|Zd 1 ?_
   obtain rfl:=Option.some.inj heq
   refine Up 1 [] ?_
   exact b8.done (by kernel_rfl) Tryz.func29 (v:=iv 2) (by kernel_rfl) ⟨rfl,rfl,rfl⟩
  ·intro F2 heq
   refine Sa 3<|Zd 1<|An 2 ?_
   exact Gt 0 [] (((Q1.av4 (e2:=Q1.e2) (Q1.az5)) n8) a0 _ _ _ _ _ 0 n9 s7 l8 q8 heq)
theorem Q1.aL6 {r:Int} (e1:Cache→Option Int)
  (D4:∀ (a0:Cache) (e6:Option Addr) (e8:Nat) (e3:Option Addr) (e4 g1:Nat) ,Rw j7 H F e6 a0.U→a0.U.length≤e8→Rw k5 H F e3 a0.Entries→a0.Entries.length≤e4→e1 a0=some r→b8 C29 (S29 F H r) H w0 [.c [1,1,1,1,0,0],.c [1,1,1,1,0,1],.c [1,1,1,1,1]] [(1,pg g1 0)] H ((some (g1,.cells #[iv a0.Room,iv a0.c4,.slice e6 a0.U.length e8,.slice e3 a0.Entries.length e4] 25 (0,0)))::F)):∀ (k:Nat),∀ (a0:Cache) (e6:Option Addr) (e8:Nat) (e3:Option Addr) (e4 g1:Nat) (J8:Int) ,Rw j7 H F e6 a0.U→a0.U.length≤e8→Rw k5 H F e3 a0.Entries→a0.Entries.length≤e4→Q1.l4 e1 k a0 J8=some r→b8 C29 (S29 F H r) H w0 [.c [1,1,1,0,1,0,0],.l [1,1,1,0,1,0,0],.b 0,.c [1,1,1,1]] [(1,pg g1 0),(3,iv J8)] H ((some (g1,.cells #[iv a0.Room,iv a0.c4,.slice e6 a0.U.length e8,.slice e3 a0.Entries.length e4] 25 (0,0)))::F):=by
 intro k
 induction k with
 | zero=>intro a0 e6 e8 e3 e4 g1 J8 n9 s7 l8 q8 heq; exact nomatch (show (none:Option Int)=some r from heq)
 | succ k u0 =>
  intro a0 e6 e8 e3 e4 g1 J8 n9 s7 l8 q8 heq
  rw [Q1.l4] at heq
  refine Sa 2<|Zw 5 [bx 0 2] ?_
  refine Cb heq ?_ ?_
  ·intro aE9 heq
   refine Sa 4 ?_
   obtain ⟨x3,K8,heq⟩:=bind_some heq
   obtain ⟨W1,ae3,Q4,ad7⟩:=n9.get K8
   obtain ⟨rfl⟩:=C6 Q4
   refine Zv 5 ([bx 0 2,nx W1 K8]++ers ad7 1) ?_
   refine c6.e5 (j6.new (d:=4) (v:=fun g=>.pointer (some ⟨g,0,none⟩)) (o:=fun g=>.cells #[.string ByteArray.empty,iv 0,iv 0,iv 0,iv 0] 44 (0,0)) (fun g=>by kernel_rfl)) ?_
   rintro _ _ _ _ ⟨g3,rfl,rfl,rfl⟩
   refine c6.e5 (j6.store (k:=0) (g:=g3) (off:=0) (v:=.agg #[.string x3.b7,iv x3.j4,iv x3.Used,iv x3.u6,iv x3.q4]) (cells':=#[.string x3.b7,iv x3.j4,iv x3.Used,iv x3.u6,iv x3.q4]) (by kernel_rfl) rfl (by kernel_rfl) (by kernel_rfl)) ?_
   rintro _ _ _ _ ⟨rfl,rfl,rfl⟩
   refine c6.p6 ?_
   refine Dn<|Sa 2<|Zv 2 [bx 0 0] ?_
   obtain ⟨W2,hy7,heq⟩:=bind_some heq
   refine c6.e5 (o9 36 (bl8 hy7 )) ?_
   rintro _ _ _ _ ⟨_,rfl,rfl,rfl,rfl⟩
   refine Zd 4 ?_
   refine Cb heq ?_ ?_
   ·intro an9 heq
    refine Sa 1<|Zd 1 ?_
    obtain rfl:=Option.some.inj heq
    refine Up 2 [] ?_
    exact b8.done (by kernel_rfl) Tryz.func29 (v:=iv 3) (by kernel_rfl) ⟨rfl,rfl,rfl⟩
   ·intro an9 heq
    refine An 3 ?_
    obtain ⟨t3,ht3,heq⟩:=bind_some heq
    have ai8:b8 C29 (S29 F H r) H w0 [.c [1,1,1,0,1,0,0,1,0,0,1,1,0,1],.c [1,1,1,0,1,0,0,1,0,0,1,1,1],.b 1,.c [1,1,1,0,1,0,0,1,1],.l [1,1,1,0,1,0,0],.b 0,.c [1,1,1,1]] [(1,pg g1 0),(3,iv J8),(4,pg g3 0),(59,.bool t3)] H ((some (g3,.cells #[.string x3.b7,iv x3.j4,iv x3.Used,iv x3.u6,iv x3.q4] 44 (0,0)))::(some (g1,.cells #[iv a0.Room,iv a0.c4,.slice e6 a0.U.length e8,.slice e3 a0.Entries.length e4] 25 (0,0)))::F):=by
     refine Cb heq ?_ ?_
     ·intro aF7 heq
      refine Sa 1<|Zd 1 ?_
      obtain rfl:=Option.some.inj heq
      refine Up 2 [] ?_
      exact b8.done (by kernel_rfl) Tryz.func29 (v:=iv 1) (by kernel_rfl) ⟨rfl,rfl,rfl⟩
     ·intro aF7 heq
      refine An 2 ?_
      obtain ⟨t4,ht4,heq⟩:=bind_some heq
      have aH8:b8 C29 (S29 F H r) H w0 [.c [1,1,1,0,1,0,0,1,0,0,1,1,1,1],.b 1,.c [1,1,1,0,1,0,0,1,1],.l [1,1,1,0,1,0,0],.b 0,.c [1,1,1,1]] [(1,pg g1 0),(3,iv J8),(73,.bool t4)] H ((some (g1,.cells #[iv a0.Room,iv a0.c4,.slice e6 a0.U.length e8,.slice e3 a0.Entries.length e4] 25 (0,0)))::F):=by
       refine Cb heq ?_ ?_
       ·intro aU2 heq
        refine Sa 1<|Zd 1 ?_
        obtain rfl:=Option.some.inj heq
        refine Up 1 [] ?_
        exact b8.done (by kernel_rfl) Tryz.func29 (v:=iv 8) (by kernel_rfl) ⟨rfl,rfl,rfl⟩
       ·intro aU2 heq
        refine Sa 2<|Zd 3<|An 1 ?_
        exact Gt 0 [] (u0 a0 _ _ _ _ _ (c5 (J8+1)) n9 s7 l8 q8 heq)
      replace heq:=ht4
      refine Sd 0 14 [] [3,3,3,3,3,3,3,3,3,3,3,3,3,3]<|Zr [0,1,2] 11 [] (Pk 2 [0,1]) (Pk 2 [0,1]) ?_
      rcases y9 (decide (0<J8)) with aF8 | aF8
      ·replace heq:=A5 aF8 heq
       refine Zu 62 (congrArg Value.bool aF8) ?_
       obtain ⟨C2,V1,heq⟩:=bind_some heq
       obtain ⟨ha4,af1,hK4,af9⟩:=n9.get V1
       obtain ⟨rfl⟩:=C6 hK4
       refine Zr [3,4,5,6,7,8,9,10,11,12,13] 0 [bx 0 0,bx 1 2,nx ha4 V1,er af9 2 0] (Pk 2 [0,1]) (Pk 2 [0,1]) ?_
       obtain rfl:=Option.some.inj heq
       refine o5.done (by kernel_rfl) ?_
       exact Gt 1 [] (aH8)
      ·replace heq:=A6 aF8 heq
       refine Zu 62 (congrArg Value.bool aF8)<|Zr [3,4,5,6,7,8,9,10,11,12,13] 0 [] (Pk 2 [0,1]) (Pk 2 [0,1]) ?_
       obtain rfl:=Option.some.inj heq
       refine o5.done (by kernel_rfl) ?_
       exact Gt 1 [] (aH8)
    replace heq:=ht3
    refine Sa 0<|Zv 2 [bx 0 1] ?_
    obtain ⟨O5,hy8,heq⟩:=bind_some heq
    refine c6.e5 (o9 40 (aQ9 hy8 )) ?_
    rintro _ _ _ _ ⟨_,rfl,rfl,rfl,rfl⟩
    refine Zk 5 ?_
    rcases y9 (!O5) with an7 | an7
    ·replace heq:=A5 an7 heq
     refine Zs 42 (congrArg Value.bool an7)<|Zk 22 ?_
     obtain rfl:=Option.some.inj heq
     refine Dn ?_
     exact Gt 0 [] (ai8)
    ·replace heq:=A6 an7 heq
     refine Zs 42 (congrArg Value.bool an7)<|Zv 7 [bx 0 2] ?_
     obtain ⟨Q5,hy9,heq⟩:=bind_some heq
     refine c6.e5 (o9 45 (aQ9 hy9 )) ?_
     rintro _ _ _ _ ⟨_,rfl,rfl,rfl,rfl⟩
     refine Zk 11 ?_
     rcases y9 (!Q5) with an8 | an8
     ·replace heq:=A5 an8 heq
      refine Zs 48 (congrArg Value.bool an8)<|Zk 22 ?_
      obtain rfl:=Option.some.inj heq
      refine Dn ?_
      exact Gt 0 [] (ai8)
     ·replace heq:=A6 an8 heq
      refine Zs 48 (congrArg Value.bool an8)<|Zv 13 [bx 0 3] ?_
      obtain ⟨Q6,bd4,heq⟩:=bind_some heq
      refine c6.e5 (o9 51 (aQ9 bd4 )) ?_
      rintro _ _ _ _ ⟨_,rfl,rfl,rfl,rfl⟩
      refine Zk 17 ?_
      rcases y9 (!Q6) with ar5 | ar5
      ·replace heq:=A5 ar5 heq
       refine Zs 54 (congrArg Value.bool ar5)<|Zk 22 ?_
       obtain rfl:=Option.some.inj heq
       refine Dn ?_
       exact Gt 0 [] (ai8)
      ·replace heq:=A6 ar5 heq
       refine Zs 54 (congrArg Value.bool ar5)<|Zv 19 [bx 0 4] ?_
       obtain ⟨y11,bt0,heq⟩:=bind_some heq
       refine c6.e5 (o9 57 (aQ9 bt0 )) ?_
       rintro _ _ _ _ ⟨_,rfl,rfl,rfl,rfl⟩
       refine Zk 22 ?_
       obtain rfl:=Option.some.inj heq
       refine Dn ?_
       exact Gt 0 [] (ai8)
  ·intro aE9 heq
   refine An 3 ?_
   exact Gt 0 [] (D4 a0 _ _ _ _ _ n9 s7 l8 q8 heq)
theorem dq9 {a0:Cache} {e6:Option Addr} {q2 e8:Nat} {e3:Option Addr} {p7 e4:Nat} {r:Int} (heq:Q1.f a0=some r) (n9:Rw j7 H F e6 a0.U) (s7:q2≤e8) (B9:q2=a0.U.length) (l8:Rw k5 H F e3 a0.Entries) (q8:p7≤e4) (B4:p7=a0.Entries.length):z7 Tryz.prog 29 #[.agg #[iv a0.Room,iv a0.c4,.slice e6 q2 e8,.slice e3 p7 e4]] H w0 (F) (S29 F H r):=by
 refine Co C29 Tryz.func29 Tryz.ntmps29 ?_
 subst B9
 subst B4
 unfold Q1.f at heq
 refine Sa 1 ?_
 refine c6.e5 (j6.new (d:=1) (v:=fun g=>.pointer (some ⟨g,0,none⟩)) (o:=fun g=>.cells #[iv a0.Room,iv a0.c4,.slice e6 a0.U.length e8,.slice e3 a0.Entries.length e4] 25 (0,0)) (fun g=>by kernel_rfl)) ?_
 rintro _ _ _ _ ⟨g1,rfl,rfl,rfl⟩
 refine Zd 2<|An 2 ?_
 obtain ⟨t1,A9,heq⟩:=bind_some heq
 have O0:b8 C29 (S29 F H r) H w0 [.c [1,0,1],.c [1,1]] [(1,pg g1 0),(17,.bool t1)] H ((some (g1,.cells #[iv a0.Room,iv a0.c4,.slice e6 a0.U.length e8,.slice e3 a0.Entries.length e4] 25 (0,0)))::F):=by
  refine Cb heq ?_ ?_
  ·intro s3 heq
   refine Sa 1<|Zd 1 ?_
   obtain rfl:=Option.some.inj heq
   refine Up 1 [] ?_
   exact b8.done (by kernel_rfl) Tryz.func29 (v:=iv 1) (by kernel_rfl) ⟨rfl,rfl,rfl⟩
  ·intro s3 heq
   refine Sa 3<|Zw 4 [bx 0 2] ?_
   refine Cb heq ?_ ?_
   ·intro x7 heq
    refine Sa 1<|Zd 1 ?_
    obtain rfl:=Option.some.inj heq
    refine Up 1 [] ?_
    exact b8.done (by kernel_rfl) Tryz.func29 (v:=iv 2) (by kernel_rfl) ⟨rfl,rfl,rfl⟩
   ·intro x7 heq
    refine Sa 3<|Zd 1<|An 2 ?_
    exact Gt 0 [] (((Q1.aL6 (e1:=Q1.e1) (Q1.D7)) n8) a0 _ _ _ _ _ 0 n9 s7 l8 q8 heq)
 replace heq:=A9
 refine Sa 0<|Zv 2 [bx 0 0] ?_
 obtain ⟨y1,hy1,heq⟩:=bind_some heq
 refine c6.e5 (o9 10 (aQ9 hy1 )) ?_
 rintro _ _ _ _ ⟨_,rfl,rfl,rfl,rfl⟩
 refine Zk 5 ?_
 rcases y9 (!y1) with o8 | o8
 ·replace heq:=A5 o8 heq
  refine Zs 12 (congrArg Value.bool o8)<|Zk 10 ?_
  obtain rfl:=Option.some.inj heq
  refine Dn ?_
  exact Gt 0 [] (O0)
 ·replace heq:=A6 o8 heq
  refine Zs 12 (congrArg Value.bool o8)<|Zv 7 [bx 0 1] ?_
  obtain ⟨y2,hy2,heq⟩:=bind_some heq
  refine c6.e5 (o9 15 (aQ9 hy2 )) ?_
  rintro _ _ _ _ ⟨_,rfl,rfl,rfl,rfl⟩
  refine Zk 10 ?_
  obtain rfl:=Option.some.inj heq
  refine Dn ?_
  exact Gt 0 [] (O0)
noncomputable def C30:Ctx:={ P:=Tryz.prog,f:=30,N:=63,c:=C1 Tryz.f30 }
def S30 (F:List Ch) (H0:Hp) (r:Cache) (v:Value) (H:Hp) (cs:List Ch):Prop:=∃ (g0:Nat) (E7:Option Addr) (E8:Nat) (F1:Ch) (P7:Option Addr) (P8:Nat) (Q9:Ch),v=.pointer (some ⟨g0,0,none⟩)∧some (g0,.cells #[iv r.Room,iv r.c4,.slice E7 r.U.length E8,.slice P7 r.Entries.length P8] 25 (0,0))::F1::Q9::F=cs∧b6 j7 44 H E7 E8 r.U F1∧b6 k5 47 H P7 P8 r.Entries Q9
theorem al6.D7 {r:Cache}:∀ (H:Hp) (a0:Cache) (g2:Nat) (A1:Option Addr) (c1:Nat) (r9:Ch) (ag1:List Entry) (aF9:Option Addr) (aM4 aG0:Nat) (aI4:Ch) ,b6 j7 44 H A1 c1 (([]:List Blob)++a0.U) r9→b6 k5 47 H aF9 aG0 ag1 aI4→aM4=ag1.length→al6.e1 a0 ag1=some r→b8 C30 (S30 F H0 r) H0 w0 [.c [1,1,1,1,0],.c [1,1,1,1,1]] [(3,pg g2 0)] H (aI4::r9::(some (g2,.cells #[iv a0.Room,iv a0.c4,.slice A1 ((([]:List Blob)++a0.U).length) c1,.slice aF9 aM4 aG0] 25 (0,0)))::F):=by
 intro H a0 g2 A1 c1 r9 ag1 aF9 aM4 aG0 aI4 w8 be7 bK5 heq
 subst bK5
 unfold al6.e1 at heq
 refine Sa 0<|Zd 2 ?_
 obtain rfl:=Option.some.inj heq
 refine Up 3 [2,1,0] ?_
 exact b8.done (by kernel_rfl) Tryz.func30 (v:=.pointer (some ⟨g2,0,none⟩)) (by kernel_rfl) ⟨g2,A1,c1,r9,aF9,aG0,aI4,rfl,rfl,w8,be7⟩
theorem al6.F9 {r:Cache} (e1:Cache→(List Entry)→Option Cache)
  (D4:∀ (H:Hp) (a0:Cache) (g2:Nat) (A1:Option Addr) (c1:Nat) (r9:Ch) (ag1:List Entry) (aF9:Option Addr) (aM4 aG0:Nat) (aI4:Ch) ,b6 j7 44 H A1 c1 (([]:List Blob)++a0.U) r9→b6 k5 47 H aF9 aG0 ag1 aI4→aM4=ag1.length→e1 a0 ag1=some r→b8 C30 (S30 F H0 r) H0 w0 [.c [1,1,1,1,0],.c [1,1,1,1,1]] [(3,pg g2 0)] H (aI4::r9::(some (g2,.cells #[iv a0.Room,iv a0.c4,.slice A1 ((([]:List Blob)++a0.U).length) c1,.slice aF9 aM4 aG0] 25 (0,0)))::F)):∀ (k:Nat),∀ (H:Hp) (a0:Cache) (e6:Option Addr) (e8:Nat) (e3:Option Addr) (e4 g1 g2:Nat) (A1:Option Addr) (c1:Nat) (r9:Ch) (ag1:List Entry) (aF9:Option Addr) (aM4 aG0:Nat) (aI4:Ch) (U0:Int) ,Rw j7 H F e6 a0.U→a0.U.length≤e8→Rw k5 H F e3 a0.Entries→a0.Entries.length≤e4→b6 j7 44 H A1 c1 (([]:List Blob)++a0.U) r9→b6 k5 47 H aF9 aG0 ag1 aI4→aM4=ag1.length→al6.l2 e1 k a0 ag1 U0=some r→b8 C30 (S30 F H0 r) H0 w0 [.c [1,1,1,0,1,0,0],.l [1,1,1,0,1,0,0],.b 0,.c [1,1,1,1]] [(1,pg g1 0),(3,pg g2 0),(4,iv U0)] H (aI4::r9::(some (g2,.cells #[iv a0.Room,iv a0.c4,.slice A1 ((([]:List Blob)++a0.U).length) c1,.slice aF9 aM4 aG0] 25 (0,0)))::(some (g1,.cells #[iv a0.Room,iv a0.c4,.slice e6 a0.U.length e8,.slice e3 a0.Entries.length e4] 25 (0,0)))::F):=by
 intro k
 induction k with
 | zero=>intro H a0 e6 e8 e3 e4 g1 g2 A1 c1 r9 ag1 aF9 aM4 aG0 aI4 U0 n9 s7 l8 q8 w8 be7 bK5 heq; exact nomatch (show (none:Option Cache)=some r from heq)
 | succ k u0 =>
  intro H a0 e6 e8 e3 e4 g1 g2 A1 c1 r9 ag1 aF9 aM4 aG0 aI4 U0 n9 s7 l8 q8 w8 be7 bK5 heq
  subst bK5
  rw [al6.l2] at heq
  refine Sa 2<|Zw 5 [bx 3 3] ?_
  refine Cb heq ?_ ?_
  ·intro o8 heq
   refine An 4<|Sd 0 15 [] [3,3,3,3,3,3,3,3,3,3,3,3,3,0,0] ?_
   obtain ⟨x1,hx1,heq⟩:=bind_some heq
   obtain ⟨A7,I1,B1,B2⟩:=l8.get hx1
   obtain ⟨aa3,c2,rfl,hc1,I0⟩:=Y7 B1
   refine Zr [0,1,2,3,4,5,6,7,8,9,10,11,12] 2 [bx 3 3,nx A7 hx1,er B2 4 0,bx 3 3,nx A7 hx1,er B2 4 2] (Pk 4 [0,1,2,3]) (Pk 4 [0,1,2,3]) ?_
   refine Dz 13 (j6.new (d:=5) (v:=fun g=>.pointer (some ⟨g,0,none⟩)) (o:=fun g=>.cells #[.string ByteArray.empty,.slice none 0 0,iv 0] 47 (0,0)) (fun g=>by kernel_rfl)) ?_
   rintro _ _ _ _ ⟨g3,rfl,rfl,rfl⟩
   refine ⟨fun _ w hh=>⟨fun _=>(Pk 5 [1,2,3,4]) w hh,fun _=>(Pk 5 [1,2,3,4]) w hh,(fun h=>by cases h)⟩,?_⟩
   refine Dz 14 (j6.store (k:=0) (g:=g3) (off:=0) (v:=.agg #[.string x1.Key,.slice none 0 0,iv x1.Used]) (cells':=#[.string x1.Key,.slice none 0 0,iv x1.Used]) (by kernel_rfl) rfl (by kernel_rfl) (by kernel_rfl)) ?_
   rintro _ _ _ _ ⟨rfl,rfl,rfl⟩
   refine ⟨fun _ w hh=>⟨fun _=>(Pk 5 [1,2,3,4]) w hh,fun _=>(Pk 5 [1,2,3,4]) w hh,(fun h=>by cases h)⟩,?_⟩
   refine o5.p6 ?_
   refine o5.done (by kernel_rfl) ?_
   refine An 1<|Sd 0 11 [] [3,3,3,3,3,3,3,3,0,3,2] ?_
   obtain ⟨x2,w6,heq⟩:=bind_some heq
   obtain ⟨J2,T7,I8,J7⟩:=l8.get w6
   obtain ⟨aa8,c3,rfl,N9,hr2⟩:=Y7 I8
   refine Zr [0,1,2,3,4,5,6,7] 3 [bx 0 1,bx 4 3,nx J2 w6,er J7 5 1] (Pk 5 [0,1,2,3,4]) (Pk 5 [0,1,2,3,4])<|o5.w5 ?_
   have w4:b6 Kd.string 9 H none 0 ([]:List ByteArray) none:=b6.nil
   obtain ⟨hn2,heq⟩:=M1 heq
   refine Dz 8 (j6.append (d:=50) (k:=0) (t:=45) (e:=9) (bytes:=16) (kd:=Kd.string) (n:=0) (m:=x2.Refs.length) (xs:=([]:List ByteArray)) (ys:=x2.Refs) (A:=none) (B:=aa8) (c:=0) (cB:=c3) (by kernel_rfl) rfl rfl (by kernel_rfl) rfl w4 (fun w hh=>(Rw.of (F:=F) hr2).Y9 (hh.drop 6)) (room_le hn2) (by have:=room_le hn2; omega)) ?_
   rintro _ _ _ _ ⟨aa9,y8,B5,rfl,rfl,rfl,C9⟩
   refine ⟨fun _ w hh=>⟨fun _=>(Pk 6 [1,2,3,4,5]) w hh,fun _=>(Pk 6 [1,2,3,4,5]) w hh,(fun h=>by cases h)⟩,?_⟩
   refine o5.p6 ?_
   refine Zr [9] 1 [] (Pk 6 [1,2,3,4,5]) (Pk 5 [0,1,2,3,4]) ?_
   refine Dz 10 (j6.store (k:=1) (g:=g3) (off:=1) (v:=.slice aa9 ((([]:List ByteArray)++x2.Refs).length) y8) (cells':=#[.string x1.Key,.slice aa9 ((([]:List ByteArray)++x2.Refs).length) y8,iv x1.Used]) (by kernel_rfl) rfl (by kernel_rfl) (by kernel_rfl)) ?_
   rintro _ _ _ _ ⟨rfl,rfl,rfl⟩
   refine ⟨fun _ w hh=>⟨(fun h=>by cases h),(fun h=>absurd h (by decide)),(fun h=>by cases h)⟩,?_⟩
   refine o5.p6 ?_
   refine o5.done (by kernel_rfl) ?_
   refine Sd 3 11 [1] [3,3,3,3,3,3,1,1,1,3,2]<|Zt [0,1,2,3,4,5] 5 ([bx 2 3]++C8 0) (Pk 6 [1,3,4,5]) ?_
   have hc3:=C9.cap
   refine o5.aD8 C9 (fun H hl hr3=>?_)
   have hle:=hl
   replace n9:=n9.mono hl
   replace l8:=l8.mono hl
   replace w8:=w8.mono hl
   replace be7:=be7.mono hl
   refine Dz 6 (j6.new (d:=58) (v:=fun g=>.slice (some ⟨g,0,none⟩) 1 1) (o:=fun g=>.cells #[.string x1.Key,.slice aa9 ((([]:List ByteArray)++x2.Refs).length) y8,iv x1.Used] 47 (0,0)) (fun g=>by kernel_rfl)) ?_
   rintro _ _ _ _ ⟨g4,rfl,rfl,rfl⟩
   have H7:b6 k5 47 H (some ⟨g4,0,none⟩) 1 ([(⟨x1.Key,(([]:List ByteArray)++x2.Refs),x1.Used⟩:Entry)]:List Entry) (some (g4,.cells #[.string x1.Key,.slice aa9 ((([]:List ByteArray)++x2.Refs).length) y8,iv x1.Used] 47 (0,0))):=b6.lit (xs:=([(⟨x1.Key,(([]:List ByteArray)++x2.Refs),x1.Used⟩:Entry)]:List Entry)) (by kernel_rfl) (Nat.le_of_ble_eq_true (by kernel_rfl)) (Kd.q9.one (aT4 hc3 hr3))
   refine ⟨fun _ w hh=>⟨(fun h=>by cases h),fun _=>(fun w hh=>(hh.le hle).pick 6 [1,3,4,5] (by kernel_rfl)) w hh,(fun h=>by cases h)⟩,?_⟩
   obtain ⟨S9,heq⟩:=M1 heq
   refine Dz 7 (j6.append (d:=59) (k:=2) (t:=23) (e:=47) (bytes:=48) (kd:=k5) (n:=ag1.length) (m:=1) (xs:=ag1) (ys:=([(⟨x1.Key,(([]:List ByteArray)++x2.Refs),x1.Used⟩:Entry)]:List Entry)) (A:=aF9) (B:=(some ⟨g4,0,none⟩)) (c:=aG0) (cB:=1) (by kernel_rfl) rfl rfl (by kernel_rfl) rfl be7 (fun w hh=>H7.Y9 (hh.N1 0 rfl)) (room_le S9) (by have:=room_le S9; omega)) ?_
   rintro _ _ _ _ ⟨G3,G4,E6,rfl,rfl,rfl,O4⟩
   refine ⟨fun _ w hh=>⟨(fun h=>by cases h),fun _=>(fun w hh=>(hh.le hle).pick 6 [1,3,4,5] (by kernel_rfl)) w hh,(fun h=>by cases h)⟩,?_⟩
   refine o5.p6 ?_
   refine Dz 8 (j6.aw6 (d:=60) (v:=.pointer (some ⟨g2,0,none⟩)) (vs:=[]) (G8:=[]) (by kernel_rfl) (fun _ _=>trivial)) ?_
   rintro _ _ _ _ ⟨rfl,rfl,rfl⟩
   refine ⟨fun _ w hh=>⟨(fun h=>by cases h),fun _=>(fun w hh=>(hh.le hle).pick 6 [1,3,4,5] (by kernel_rfl)) w hh,(fun h=>by cases h)⟩,?_⟩
   refine Zt [9] 1 [] (fun w hh=>(hh.le hle).pick 6 [1,3,4,5] (by kernel_rfl)) ?_
   refine Dz 10 (j6.store (k:=4) (g:=g2) (off:=3) (v:=.slice G3 ((ag1++([(⟨x1.Key,(([]:List ByteArray)++x2.Refs),x1.Used⟩:Entry)]:List Entry)).length) G4) (cells':=#[iv a0.Room,iv a0.c4,.slice A1 ((([]:List Blob)++a0.U).length) c1,.slice G3 ((ag1++([(⟨x1.Key,(([]:List ByteArray)++x2.Refs),x1.Used⟩:Entry)]:List Entry)).length) G4]) (by kernel_rfl) rfl (by kernel_rfl) (by kernel_rfl)) ?_
   rintro _ _ _ _ ⟨rfl,rfl,rfl⟩
   refine ⟨fun _ w hh=>⟨(fun h=>by cases h),(fun h=>absurd h (by decide)),(fun h=>by cases h)⟩,?_⟩
   refine o5.p6 ?_
   refine o5.done (by kernel_rfl) ?_
   refine Sa 1<|Zd 3<|An 1 ?_
   exact Gt 2 [] (u0 _ a0 _ _ _ _ _ _ _ _ _ (ag1++([(⟨x1.Key,(([]:List ByteArray)++x2.Refs),x1.Used⟩:Entry)]:List Entry)) _ _ _ _ (c5 (U0+1)) n9 s7 l8 q8 w8 O4 rfl heq)
  ·intro o8 heq
   refine An 2 ?_
   exact Gt 4 [0,1,2] (D4 _ a0 _ _ _ _ ag1 _ _ _ _ w8 be7 rfl heq)
theorem dr0 {a0:Cache} {e6:Option Addr} {q2 e8:Nat} {e3:Option Addr} {p7 e4:Nat} {r:Cache} (heq:al6.f a0=some r) (n9:Rw j7 H0 F e6 a0.U) (s7:q2≤e8) (B9:q2=a0.U.length) (l8:Rw k5 H0 F e3 a0.Entries) (q8:p7≤e4) (B4:p7=a0.Entries.length):z7 Tryz.prog 30 #[.agg #[iv a0.Room,iv a0.c4,.slice e6 q2 e8,.slice e3 p7 e4]] H0 w0 (F) (S30 F H0 r):=by
 refine Co C30 Tryz.func30 Tryz.ntmps30 ?_
 subst B9
 subst B4
 unfold al6.f at heq
 suffices key:∀ (H:Hp),Rw j7 H F e6 a0.U→Rw k5 H F e3 a0.Entries→b8 C30 (S30 F H0 r) H0 w0 [.c []] (Z3 0 [.agg #[iv a0.Room,iv a0.c4,.slice e6 (a0.U.length) e8,.slice e3 (a0.Entries.length) e4]]) H (F) from key H0 n9 l8
 intro H n9 l8
 refine Sa 1 ?_
 refine c6.e5 (j6.new (d:=1) (v:=fun g=>.pointer (some ⟨g,0,none⟩)) (o:=fun g=>.cells #[iv a0.Room,iv a0.c4,.slice e6 a0.U.length e8,.slice e3 a0.Entries.length e4] 25 (0,0)) (fun g=>by kernel_rfl)) ?_
 rintro _ _ _ _ ⟨g1,rfl,rfl,rfl⟩
 refine Zd 2<|Sa 1<|Zv 5 [bx 0 0,bx 0 1] ?_
 refine c6.e5 (j6.new (d:=11) (v:=fun g=>.pointer (some ⟨g,0,none⟩)) (o:=fun g=>.cells #[iv a0.Room,iv a0.c4,.slice none 0 0,.slice none 0 0] 25 (0,0)) (fun g=>by kernel_rfl)) ?_
 rintro _ _ _ _ ⟨g2,rfl,rfl,rfl⟩
 refine Zd 7<|An 1<|Sd 0 11 [] [3,3,3,3,3,3,3,0,0,3,2]<|Zr [0,1,2,3,4,5,6] 4 [bx 0 2,bx 1 2] (Pk 2 [0,1]) (Pk 2 [0,1])<|o5.w5 ?_
 have r8:b6 j7 44 H none 0 ([]:List Blob) none:=b6.nil
 obtain ⟨C4,heq⟩:=M1 heq
 refine Dz 7 (j6.append (d:=19) (k:=0) (t:=22) (e:=44) (bytes:=48) (kd:=j7) (n:=0) (m:=a0.U.length) (xs:=([]:List Blob)) (ys:=a0.U) (A:=none) (B:=e6) (c:=0) (cB:=e8) (by kernel_rfl) rfl rfl (by kernel_rfl) rfl r8 (fun w hh=>n9.Y9 (hh.drop 3)) (room_le C4) (by have:=room_le C4; omega)) ?_
 rintro _ _ _ _ ⟨A1,c1,r9,rfl,rfl,rfl,w8⟩
 refine ⟨fun _ w hh=>⟨fun _=>(Pk 3 [1,2]) w hh,fun _=>(Pk 3 [1,2]) w hh,(fun h=>by cases h)⟩,?_⟩
 refine o5.p6 ?_
 refine Dz 8 (j6.aw6 (d:=20) (v:=.pointer (some ⟨g2,0,none⟩)) (vs:=[]) (G8:=[]) (by kernel_rfl) (fun _ _=>trivial)) ?_
 rintro _ _ _ _ ⟨rfl,rfl,rfl⟩
 refine ⟨fun _ w hh=>⟨fun _=>(Pk 3 [1,2]) w hh,fun _=>(Pk 3 [1,2]) w hh,(fun h=>by cases h)⟩,?_⟩
 refine Zr [9] 1 [] (Pk 3 [1,2]) (Pk 2 [0,1]) ?_
 refine Dz 10 (j6.store (k:=1) (g:=g2) (off:=2) (v:=.slice A1 ((([]:List Blob)++a0.U).length) c1) (cells':=#[iv a0.Room,iv a0.c4,.slice A1 ((([]:List Blob)++a0.U).length) c1,.slice none 0 0]) (by kernel_rfl) rfl (by kernel_rfl) (by kernel_rfl)) ?_
 rintro _ _ _ _ ⟨rfl,rfl,rfl⟩
 refine ⟨fun _ w hh=>⟨(fun h=>by cases h),(fun h=>absurd h (by decide)),(fun h=>by cases h)⟩,?_⟩
 refine o5.p6 ?_
 refine o5.done (by kernel_rfl) ?_
 refine Sa 2<|Zd 1<|An 2<|b8.w5 ?_
 have O3:b6 k5 47 H none 0 ([]:List Entry) none:=b6.nil
 exact Gt 0 [] (((al6.F9 (e1:=al6.e1) (al6.D7)) n8) _ a0 _ _ _ _ _ _ _ _ _ ([]:List Entry) _ _ _ _ 0 n9 s7 l8 q8 w8 O3 rfl heq)
noncomputable def C71:Ctx:={ P:=Tryz.prog,f:=71,N:=48,c:=C1 Tryz.f71 }
def S71 (F:List Ch) (H0:Hp) (r:Bool) (v:Value) (H:Hp) (cs:List Ch):Prop:=H0=H∧v=.bool r∧F=cs
theorem am8.ad6 {r:Bool}:∀ (a0:k7) (e3:Option Addr) (e4 g1:Nat) (bl9 aZ1 aI5 aq1:Bool) ,Rw Kd.string H F e3 a0.j9→a0.j9.length≤e4→am8.j1 a0 bl9 aZ1 aI5 aq1=some r→b8 C71 (S71 F H r) H w0 [.c [1,1,1,0],.c [1,1,1,1]] [(1,pg g1 0),(3,.bool bl9),(4,.bool aZ1),(5,.bool aI5),(6,.bool aq1)] H ((some (g1,.cells #[iv a0.Kind,iv a0.At,.string a0.b7,.slice e3 a0.j9.length e4,.string a0.Key,iv a0.j4] 50 (0,0)))::F):=by
 intro a0 e3 e4 g1 bl9 aZ1 aI5 aq1 l8 q8 heq
 unfold am8.j1 at heq
 obtain ⟨t1,A9,heq⟩:=bind_some heq
 have O0:b8 C71 (S71 F H r) H w0 [.c [1,1,1,1]] [(2,.bool t1)] H (F):=by
  obtain rfl:=Option.some.inj heq
  exact b8.done (by kernel_rfl) Tryz.func71 (v:=.bool t1) (by kernel_rfl) ⟨rfl,rfl,rfl⟩
 replace heq:=A9
 refine Sa 0<|Zk 2 ?_
 rcases y9 (bl9) with o8 | o8
 ·replace heq:=A5 o8 heq
  refine Zs 18 (congrArg Value.bool o8)<|Zk 9 ?_
  rcases y9 (aZ1) with s3 | s3
  ·replace heq:=A5 s3 heq
   refine Zs 25 (congrArg Value.bool s3)<|Zk 18 ?_
   rcases y9 (aI5) with x7 | x7
   ·replace heq:=A5 x7 heq
    refine Zs 34 (congrArg Value.bool x7)<|Zk 26 ?_
    rcases y9 (aq1) with B3 | B3
    ·replace heq:=A5 B3 heq
     refine Zs 42 (congrArg Value.bool B3)<|Zk 32 ?_
     obtain rfl:=Option.some.inj heq
     refine Dn ?_
     exact Gt 1 [] (O0)
    ·replace heq:=A6 B3 heq
     refine Zs 42 (congrArg Value.bool B3)<|Zv 32 [bx 0 5] ?_
     obtain rfl:=Option.some.inj heq
     refine Dn ?_
     exact Gt 1 [] (O0)
   ·replace heq:=A6 x7 heq
    refine Zs 34 (congrArg Value.bool x7)<|Zv 24 [bx 0 4] ?_
    rcases y9 (p4 a0.Key ({ data:=#[] }:ByteArray)) with F2 | F2
    ·replace heq:=A5 F2 heq
     refine Zs 40 (congrArg Value.bool F2)<|Zk 26 ?_
     rcases y9 (aq1) with M4 | M4
     ·replace heq:=A5 M4 heq
      refine Zs 42 (congrArg Value.bool M4)<|Zk 32 ?_
      obtain rfl:=Option.some.inj heq
      refine Dn ?_
      exact Gt 1 [] (O0)
     ·replace heq:=A6 M4 heq
      refine Zs 42 (congrArg Value.bool M4)<|Zv 32 [bx 0 5] ?_
      obtain rfl:=Option.some.inj heq
      refine Dn ?_
      exact Gt 1 [] (O0)
    ·replace heq:=A6 F2 heq
     refine Zs 40 (congrArg Value.bool F2)<|Zk 32 ?_
     obtain rfl:=Option.some.inj heq
     refine Dn ?_
     exact Gt 1 [] (O0)
  ·replace heq:=A6 s3 heq
   refine Zs 25 (congrArg Value.bool s3)<|Zv 16 [bx 0 3] ?_
   rcases y9 ((a0.j9.length:Int) == 0) with M5 | M5
   ·replace heq:=A5 M5 heq
    refine Zs 32 (congrArg Value.bool M5)<|Zk 18 ?_
    rcases y9 (aI5) with Y0 | Y0
    ·replace heq:=A5 Y0 heq
     refine Zs 34 (congrArg Value.bool Y0)<|Zk 26 ?_
     rcases y9 (aq1) with R6 | R6
     ·replace heq:=A5 R6 heq
      refine Zs 42 (congrArg Value.bool R6)<|Zk 32 ?_
      obtain rfl:=Option.some.inj heq
      refine Dn ?_
      exact Gt 1 [] (O0)
     ·replace heq:=A6 R6 heq
      refine Zs 42 (congrArg Value.bool R6)<|Zv 32 [bx 0 5] ?_
      obtain rfl:=Option.some.inj heq
      refine Dn ?_
      exact Gt 1 [] (O0)
    ·replace heq:=A6 Y0 heq
     refine Zs 34 (congrArg Value.bool Y0)<|Zv 24 [bx 0 4] ?_
     rcases y9 (p4 a0.Key ({ data:=#[] }:ByteArray)) with Y1 | Y1
     ·replace heq:=A5 Y1 heq
      refine Zs 40 (congrArg Value.bool Y1)<|Zk 26 ?_
      rcases y9 (aq1) with ak0 | ak0
      ·replace heq:=A5 ak0 heq
       refine Zs 42 (congrArg Value.bool ak0)<|Zk 32 ?_
       obtain rfl:=Option.some.inj heq
       refine Dn ?_
       exact Gt 1 [] (O0)
      ·replace heq:=A6 ak0 heq
       refine Zs 42 (congrArg Value.bool ak0)<|Zv 32 [bx 0 5] ?_
       obtain rfl:=Option.some.inj heq
       refine Dn ?_
       exact Gt 1 [] (O0)
     ·replace heq:=A6 Y1 heq
      refine Zs 40 (congrArg Value.bool Y1)<|Zk 32 ?_
      obtain rfl:=Option.some.inj heq
      refine Dn ?_
      exact Gt 1 [] (O0)
   ·replace heq:=A6 M5 heq
    refine Zs 32 (congrArg Value.bool M5)<|Zk 32 ?_
    obtain rfl:=Option.some.inj heq
    refine Dn ?_
    exact Gt 1 [] (O0)
 ·replace heq:=A6 o8 heq
  refine Zs 18 (congrArg Value.bool o8)<|Zv 7 [bx 0 2] ?_
  rcases y9 (p4 a0.b7 ({ data:=#[] }:ByteArray)) with ao0 | ao0
  ·replace heq:=A5 ao0 heq
   refine Zs 23 (congrArg Value.bool ao0)<|Zk 9 ?_
   rcases y9 (aZ1) with aE9 | aE9
   ·replace heq:=A5 aE9 heq
    refine Zs 25 (congrArg Value.bool aE9)<|Zk 18 ?_
    rcases y9 (aI5) with an9 | an9
    ·replace heq:=A5 an9 heq
     refine Zs 34 (congrArg Value.bool an9)<|Zk 26 ?_
     rcases y9 (aq1) with an7 | an7
     ·replace heq:=A5 an7 heq
      refine Zs 42 (congrArg Value.bool an7)<|Zk 32 ?_
      obtain rfl:=Option.some.inj heq
      refine Dn ?_
      exact Gt 1 [] (O0)
     ·replace heq:=A6 an7 heq
      refine Zs 42 (congrArg Value.bool an7)<|Zv 32 [bx 0 5] ?_
      obtain rfl:=Option.some.inj heq
      refine Dn ?_
      exact Gt 1 [] (O0)
    ·replace heq:=A6 an9 heq
     refine Zs 34 (congrArg Value.bool an9)<|Zv 24 [bx 0 4] ?_
     rcases y9 (p4 a0.Key ({ data:=#[] }:ByteArray)) with an8 | an8
     ·replace heq:=A5 an8 heq
      refine Zs 40 (congrArg Value.bool an8)<|Zk 26 ?_
      rcases y9 (aq1) with ar5 | ar5
      ·replace heq:=A5 ar5 heq
       refine Zs 42 (congrArg Value.bool ar5)<|Zk 32 ?_
       obtain rfl:=Option.some.inj heq
       refine Dn ?_
       exact Gt 1 [] (O0)
      ·replace heq:=A6 ar5 heq
       refine Zs 42 (congrArg Value.bool ar5)<|Zv 32 [bx 0 5] ?_
       obtain rfl:=Option.some.inj heq
       refine Dn ?_
       exact Gt 1 [] (O0)
     ·replace heq:=A6 an8 heq
      refine Zs 40 (congrArg Value.bool an8)<|Zk 32 ?_
      obtain rfl:=Option.some.inj heq
      refine Dn ?_
      exact Gt 1 [] (O0)
   ·replace heq:=A6 aE9 heq
    refine Zs 25 (congrArg Value.bool aE9)<|Zv 16 [bx 0 3] ?_
    rcases y9 ((a0.j9.length:Int) == 0) with aF7 | aF7
    ·replace heq:=A5 aF7 heq
     refine Zs 32 (congrArg Value.bool aF7)<|Zk 18 ?_
     rcases y9 (aI5) with aF8 | aF8
     ·replace heq:=A5 aF8 heq
      refine Zs 34 (congrArg Value.bool aF8)<|Zk 26 ?_
      rcases y9 (aq1) with aU2 | aU2
      ·replace heq:=A5 aU2 heq
       refine Zs 42 (congrArg Value.bool aU2)<|Zk 32 ?_
       obtain rfl:=Option.some.inj heq
       refine Dn ?_
       exact Gt 1 [] (O0)
      ·replace heq:=A6 aU2 heq
       refine Zs 42 (congrArg Value.bool aU2)<|Zv 32 [bx 0 5] ?_
       obtain rfl:=Option.some.inj heq
       refine Dn ?_
       exact Gt 1 [] (O0)
     ·replace heq:=A6 aF8 heq
      refine Zs 34 (congrArg Value.bool aF8)<|Zv 24 [bx 0 4] ?_
      rcases y9 (p4 a0.Key ({ data:=#[] }:ByteArray)) with be8 | be8
      ·replace heq:=A5 be8 heq
       refine Zs 40 (congrArg Value.bool be8)<|Zk 26 ?_
       rcases y9 (aq1) with be9 | be9
       ·replace heq:=A5 be9 heq
        refine Zs 42 (congrArg Value.bool be9)<|Zk 32 ?_
        obtain rfl:=Option.some.inj heq
        refine Dn ?_
        exact Gt 1 [] (O0)
       ·replace heq:=A6 be9 heq
        refine Zs 42 (congrArg Value.bool be9)<|Zv 32 [bx 0 5] ?_
        obtain rfl:=Option.some.inj heq
        refine Dn ?_
        exact Gt 1 [] (O0)
      ·replace heq:=A6 be8 heq
       refine Zs 40 (congrArg Value.bool be8)<|Zk 32 ?_
       obtain rfl:=Option.some.inj heq
       refine Dn ?_
       exact Gt 1 [] (O0)
    ·replace heq:=A6 aF7 heq
     refine Zs 32 (congrArg Value.bool aF7)<|Zk 32 ?_
     obtain rfl:=Option.some.inj heq
     refine Dn ?_
     exact Gt 1 [] (O0)
  ·replace heq:=A6 ao0 heq
   refine Zs 23 (congrArg Value.bool ao0)<|Zk 32 ?_
   obtain rfl:=Option.some.inj heq
   refine Dn ?_
   exact Gt 1 [] (O0)
theorem dr1 {a0:k7} {e3:Option Addr} {p7 e4:Nat} {r:Bool} (heq:am8.f a0=some r) (l8:Rw Kd.string H F e3 a0.j9) (q8:p7≤e4) (B4:p7=a0.j9.length):z7 Tryz.prog 71 #[.agg #[iv a0.Kind,iv a0.At,.string a0.b7,.slice e3 p7 e4,.string a0.Key,iv a0.j4]] H w0 (F) (S71 F H r):=by
 refine Co C71 Tryz.func71 Tryz.ntmps71 ?_
 subst B4
 unfold am8.f at heq
 refine Sa 1 ?_
 refine c6.e5 (j6.new (d:=1) (v:=fun g=>.pointer (some ⟨g,0,none⟩)) (o:=fun g=>.cells #[iv a0.Kind,iv a0.At,.string a0.b7,.slice e3 a0.j9.length e4,.string a0.Key,iv a0.j4] 50 (0,0)) (fun g=>by kernel_rfl)) ?_
 rintro _ _ _ _ ⟨g1,rfl,rfl,rfl⟩
 refine Zd 2<|Sa 1<|Zd 4<|Sa 2<|Zw 2 [bx 0 0]<|Sa 2<|Zd 2 ?_
 refine Cb heq ?_ ?_
 ·intro ca5 heq
  refine Sa 0<|Zd 2<|An 2 ?_
  exact Gt 0 [] ((am8.ad6) a0 _ _ _ true false false true l8 q8 heq)
 ·intro ca5 heq
  refine Sa 1<|Zd 2 ?_
  refine Cb heq ?_ ?_
  ·intro dr2 heq
   refine Sa 0<|Zd 1<|An 2 ?_
   exact Gt 0 [] ((am8.ad6) a0 _ _ _ false true false false l8 q8 heq)
  ·intro dr2 heq
   refine Sa 1<|Zd 2 ?_
   refine Cb heq ?_ ?_
   ·intro dr3 heq
    refine Sa 0<|Zd 2<|An 2 ?_
    exact Gt 0 [] ((am8.ad6) a0 _ _ _ false true true false l8 q8 heq)
   ·intro dr3 heq
    refine Sa 1<|Zd 2 ?_
    refine Cb heq ?_ ?_
    ·intro dr4 heq
     refine Sa 0<|Zd 1<|An 2 ?_
     exact Gt 0 [] ((am8.ad6) a0 _ _ _ false false true false l8 q8 heq)
    ·intro dr4 heq
     refine Sa 0<|Zd 1<|An 2 ?_
     exact Gt 0 [] ((am8.ad6) a0 _ _ _ true false false false l8 q8 heq)
noncomputable def C72:Ctx:={ P:=Tryz.prog,f:=72,N:=26,c:=C1 Tryz.f72 }
def S72 (F:List Ch) (H0:Hp) (r:Int) (v:Value) (H:Hp) (cs:List Ch):Prop:=H0=H∧v=iv r∧F=cs
theorem V8.D7 {r:Int}:V8.e1=some r→b8 C72 (S72 F H r) H w0 [.c [1,1,0],.c [1,1,1]] [] H (F):=by
 intro   heq
 unfold V8.e1 at heq
 refine Sa 0<|Zd 1 ?_
 obtain rfl:=Option.some.inj heq
 exact b8.done (by kernel_rfl) Tryz.func72 (v:=iv (-1)) (by kernel_rfl) ⟨rfl,rfl,rfl⟩
theorem V8.F9 {r:Int} (e1:Option Int)
  (D4:e1=some r→b8 C72 (S72 F H r) H w0 [.c [1,1,0],.c [1,1,1]] [] H (F)):∀ (k:Nat),∀ (c9:Nat) (a0:Cache) (e6:Option Addr) (e8:Nat) (e3:Option Addr) (e4:Nat) (a1:ByteArray) (n7:Int) ,Rw j7 H F e6 a0.U→a0.U.length≤e8→Rw k5 H F e3 a0.Entries→a0.Entries.length≤e4→P3 H F c9 (.cells #[iv a0.Room,iv a0.c4,.slice e6 a0.U.length e8,.slice e3 a0.Entries.length e4] 25 (0,0))→V8.l2 e1 k a0 a1 n7=some r→b8 C72 (S72 F H r) H w0 [.c [1,0,1,0,0],.l [1,0,1,0,0],.b 0,.c [1,1]] [(0,pg c9 0),(1,.string a1),(5,iv n7)] H (F):=by
 intro k
 induction k with
 | zero=>intro c9 a0 e6 e8 e3 e4 a1 n7 n9 s7 l8 q8 K3 heq; exact nomatch (show (none:Option Int)=some r from heq)
 | succ k u0 =>
  intro c9 a0 e6 e8 e3 e4 a1 n7 n9 s7 l8 q8 K3 heq
  rw [V8.l2] at heq
  refine Sa 2<|Zw 7 [rb K3 0 2] ?_
  refine Cb heq ?_ ?_
  ·intro o8 heq
   refine Sa 4 ?_
   obtain ⟨x1,hx1,heq⟩:=bind_some heq
   obtain ⟨A7,I1,B1,B2⟩:=n9.get hx1
   obtain ⟨rfl⟩:=C6 B1
   refine Zw 10 [rb K3 0 2,nx A7 hx1,er B2 0 0] ?_
   refine Cb heq ?_ ?_
   ·intro s3 heq
    refine Sa 1<|Zd 2 ?_
    obtain rfl:=Option.some.inj heq
    exact b8.done (by kernel_rfl) Tryz.func72 (v:=iv n7) (by kernel_rfl) ⟨rfl,rfl,rfl⟩
   ·intro s3 heq
    refine Sa 2<|Zd 3<|An 1 ?_
    exact Gt 0 [] (u0 _ a0 _ _ _ _ a1 (c5 (n7+1)) n9 s7 l8 q8 K3 heq)
  ·intro o8 heq
   refine An 2 ?_
   exact Gt 0 [] (D4 heq)
theorem aU3 {c9:Nat} {a0:Cache} {e6:Option Addr} {q2 e8:Nat} {e3:Option Addr} {p7 e4:Nat} {a1:ByteArray} {r:Int} (heq:V8.f a0 a1=some r) (n9:Rw j7 H F e6 a0.U) (s7:q2≤e8) (B9:q2=a0.U.length) (l8:Rw k5 H F e3 a0.Entries) (q8:p7≤e4) (B4:p7=a0.Entries.length) (K3:P3 H F c9 (.cells #[iv a0.Room,iv a0.c4,.slice e6 q2 e8,.slice e3 p7 e4] 25 (0,0))):z7 Tryz.prog 72 #[.pointer (some ⟨c9,0,none⟩),.string a1] H w0 (F) (S72 F H r):=by
 refine Co C72 Tryz.func72 Tryz.ntmps72 ?_
 subst B9
 subst B4
 unfold V8.f at heq
 refine Sa 1<|Zd 1<|Sa 2<|Zd 1<|An 2 ?_
 exact Gt 0 [] (((V8.F9 (e1:=V8.e1) (V8.D7)) n8) _ a0 _ _ _ _ a1 0 n9 s7 l8 q8 K3 heq)
noncomputable def C53:Ctx:={ P:=Tryz.prog,f:=53,N:=156,c:=C1 Tryz.f53 }
def S53 (F:List Ch) (H0:Hp) (r:Int) (v:Value) (H:Hp) (cs:List Ch):Prop:=H0=H∧v=iv r∧F=cs
theorem Q0.az5 {r:Int}:∀ (c9:Nat) (a0:Cache) (e6:Option Addr) (e8:Nat) (e3:Option Addr) (e4:Nat) (a1:k7) (n3:Option Addr) (n4 g1:Nat) ,Rw j7 H F e6 a0.U→a0.U.length≤e8→Rw k5 H F e3 a0.Entries→a0.Entries.length≤e4→P3 H F c9 (.cells #[iv a0.Room,iv a0.c4,.slice e6 a0.U.length e8,.slice e3 a0.Entries.length e4] 25 (0,0))→Rw Kd.string H F n3 a1.j9→a1.j9.length≤n4→Q0.e2 a0 a1=some r→b8 C53 (S53 F H r) H w0 [.c [1,1,1,1,1,1,1,1,1,1,1,0,0],.c [1,1,1,1,1,1,1,1,1,1,1,0,1],.c [1,1,1,1,1,1,1,1,1,1,1,1]] [(0,pg c9 0),(3,pg g1 0)] H ((some (g1,.cells #[iv a1.Kind,iv a1.At,.string a1.b7,.slice n3 a1.j9.length n4,.string a1.Key,iv a1.j4] 50 (0,0)))::F):=by
 intro c9 a0 e6 e8 e3 e4 a1 n3 n4 g1 n9 s7 l8 q8 K3 u9 y6 heq
 unfold Q0.e2 at heq
 refine Sa 0<|Zv 3 [bx 0 2] ?_
 obtain ⟨Q5,hy9,heq⟩:=bind_some heq
 refine c6.e5 (o9 113 (aU3 hy9 (n9.wk (fun _ h=>(.tail _ h))) s7 rfl (l8.wk (fun _ h=>(.tail _ h))) q8 rfl (K3.wk (fun _ h=>(.tail _ h))))) ?_
 rintro _ _ _ _ ⟨_,rfl,rfl,rfl,rfl⟩
 refine Zd 5<|An 1 ?_
 obtain ⟨t5,ht5,heq⟩:=bind_some heq
 have ai8:b8 C53 (S53 F H r) H w0 [.c [1,1,1,1,1,1,1,1,1,1,1,0,1,1],.c [1,1,1,1,1,1,1,1,1,1,1,1]] [(0,pg c9 0),(3,pg g1 0),(133,.bool t5)] H ((some (g1,.cells #[iv a1.Kind,iv a1.At,.string a1.b7,.slice n3 a1.j9.length n4,.string a1.Key,iv a1.j4] 50 (0,0)))::F):=by
  refine Cb heq ?_ ?_
  ·intro an8 heq
   refine Sa 1<|Zd 1 ?_
   obtain rfl:=Option.some.inj heq
   refine Up 1 [] ?_
   exact b8.done (by kernel_rfl) Tryz.func53 (v:=iv 12) (by kernel_rfl) ⟨rfl,rfl,rfl⟩
  ·intro an8 heq
   refine Sa 3<|Zv 3 [bx 0 2] ?_
   obtain ⟨Q6,bd4,heq⟩:=bind_some heq
   refine c6.e5 (o9 137 (aU3 bd4 (n9.wk (fun _ h=>(.tail _ h))) s7 rfl (l8.wk (fun _ h=>(.tail _ h))) q8 rfl (K3.wk (fun _ h=>(.tail _ h))))) ?_
   rintro _ _ _ _ ⟨_,rfl,rfl,rfl,rfl⟩
   refine Zd 5<|An 1 ?_
   obtain ⟨t6,ht6,heq⟩:=bind_some heq
   have aH8:b8 C53 (S53 F H r) H w0 [.c [1,1,1,1,1,1,1,1,1,1,1,1,0,1,1],.c [1,1,1,1,1,1,1,1,1,1,1,1,1]] [(155,.bool t6)] H (F):=by
    refine Cb heq ?_ ?_
    ·intro aF8 heq
     refine Sa 1<|Zd 1 ?_
     obtain rfl:=Option.some.inj heq
     exact b8.done (by kernel_rfl) Tryz.func53 (v:=iv 16) (by kernel_rfl) ⟨rfl,rfl,rfl⟩
    ·intro aF8 heq
     refine Sa 2<|Zd 1 ?_
     obtain rfl:=Option.some.inj heq
     exact b8.done (by kernel_rfl) Tryz.func53 (v:=iv 0) (by kernel_rfl) ⟨rfl,rfl,rfl⟩
   replace heq:=ht6
   refine Sa 0<|Zv 4 [bx 0 0] ?_
   rcases y9 (a1.Kind == 4) with ar5 | ar5
   ·replace heq:=A5 ar5 heq
    refine Zs 141 (congrArg Value.bool ar5)<|Zk 8 ?_
    rcases y9 (decide (0≤Q6)) with aF7 | aF7
    ·replace heq:=A5 aF7 heq
     refine Zs 145 (congrArg Value.bool aF7) ?_
     obtain ⟨x2,w6,heq⟩:=bind_some heq
     obtain ⟨J2,T7,I8,J7⟩:=n9.get w6
     obtain ⟨rfl⟩:=C6 I8
     refine Zv 18 [rb K3 1 2,nx J2 w6,er J7 1 4] ?_
     obtain rfl:=Option.some.inj heq
     refine Dn ?_
     exact Gt 1 [] (aH8)
    ·replace heq:=A6 aF7 heq
     refine Zs 145 (congrArg Value.bool aF7)<|Zk 18 ?_
     obtain rfl:=Option.some.inj heq
     refine Dn ?_
     exact Gt 1 [] (aH8)
   ·replace heq:=A6 ar5 heq
    refine Zs 141 (congrArg Value.bool ar5)<|Zk 18 ?_
    obtain rfl:=Option.some.inj heq
    refine Dn ?_
    exact Gt 1 [] (aH8)
 replace heq:=ht5
 refine Sd 0 20 [] [3,3,3,3,3,3,3,3,3,3,3,3,3,3,3,3,3,3,3,3]<|Zr [0,1,2,3] 16 [bx 0 0] (Pk 1 [0]) (Pk 1 [0]) ?_
 rcases y9 (a1.Kind == 1) with an9 | an9
 ·replace heq:=A5 an9 heq
  refine Zu 117 (congrArg Value.bool an9)<|Zr [4,5,6,7] 12 [] (Pk 1 [0]) (Pk 1 [0]) ?_
  rcases y9 (decide (0≤Q5)) with an7 | an7
  ·replace heq:=A5 an7 heq
   refine Zu 121 (congrArg Value.bool an7) ?_
   obtain ⟨x1,hx1,heq⟩:=bind_some heq
   obtain ⟨A7,I1,B1,B2⟩:=n9.get hx1
   obtain ⟨rfl⟩:=C6 B1
   refine Zr [8,9,10,11,12,13,14,15,16,17,18,19] 0 [rb K3 1 2,nx A7 hx1,er B2 1 1,bx 0 5] (Pk 1 [0]) (Pk 1 [0]) ?_
   obtain rfl:=Option.some.inj heq
   refine o5.done (by kernel_rfl) ?_
   exact Gt 0 [] (ai8)
  ·replace heq:=A6 an7 heq
   refine Zu 121 (congrArg Value.bool an7)<|Zr [8,9,10,11,12,13,14,15,16,17,18,19] 0 [] (Pk 1 [0]) (Pk 1 [0]) ?_
   obtain rfl:=Option.some.inj heq
   refine o5.done (by kernel_rfl) ?_
   exact Gt 0 [] (ai8)
 ·replace heq:=A6 an9 heq
  refine Zu 117 (congrArg Value.bool an9)<|Zr [4,5,6,7,8,9,10,11,12,13,14,15,16,17,18,19] 0 [] (Pk 1 [0]) (Pk 1 [0]) ?_
  obtain rfl:=Option.some.inj heq
  refine o5.done (by kernel_rfl) ?_
  exact Gt 0 [] (ai8)
theorem Q0.av4 {r:Int} (e2:Cache→k7→Option Int)
  (he2:∀ (c9:Nat) (a0:Cache) (e6:Option Addr) (e8:Nat) (e3:Option Addr) (e4:Nat) (a1:k7) (n3:Option Addr) (n4 g1:Nat) ,Rw j7 H F e6 a0.U→a0.U.length≤e8→Rw k5 H F e3 a0.Entries→a0.Entries.length≤e4→P3 H F c9 (.cells #[iv a0.Room,iv a0.c4,.slice e6 a0.U.length e8,.slice e3 a0.Entries.length e4] 25 (0,0))→Rw Kd.string H F n3 a1.j9→a1.j9.length≤n4→e2 a0 a1=some r→b8 C53 (S53 F H r) H w0 [.c [1,1,1,1,1,1,1,1,1,1,1,0,0],.c [1,1,1,1,1,1,1,1,1,1,1,0,1],.c [1,1,1,1,1,1,1,1,1,1,1,1]] [(0,pg c9 0),(3,pg g1 0)] H ((some (g1,.cells #[iv a1.Kind,iv a1.At,.string a1.b7,.slice n3 a1.j9.length n4,.string a1.Key,iv a1.j4] 50 (0,0)))::F)):∀ (k:Nat),∀ (c9:Nat) (a0:Cache) (e6:Option Addr) (e8:Nat) (e3:Option Addr) (e4:Nat) (a1:k7) (n3:Option Addr) (n4 g1:Nat) (y5:Int) ,Rw j7 H F e6 a0.U→a0.U.length≤e8→Rw k5 H F e3 a0.Entries→a0.Entries.length≤e4→P3 H F c9 (.cells #[iv a0.Room,iv a0.c4,.slice e6 a0.U.length e8,.slice e3 a0.Entries.length e4] 25 (0,0))→Rw Kd.string H F n3 a1.j9→a1.j9.length≤n4→Q0.l3 e2 k a0 a1 y5=some r→b8 C53 (S53 F H r) H w0 [.c [1,1,1,1,1,1,1,1,1,1,0,1,0,0],.l [1,1,1,1,1,1,1,1,1,1,0,1,0,0],.b 2,.c [1,1,1,1,1,1,1,1,1,1,1]] [(0,pg c9 0),(3,pg g1 0),(9,iv y5)] H ((some (g1,.cells #[iv a1.Kind,iv a1.At,.string a1.b7,.slice n3 a1.j9.length n4,.string a1.Key,iv a1.j4] 50 (0,0)))::F):=by
 intro k
 induction k with
 | zero=>intro c9 a0 e6 e8 e3 e4 a1 n3 n4 g1 y5 n9 s7 l8 q8 K3 u9 y6 heq; exact nomatch (show (none:Option Int)=some r from heq)
 | succ k u0 =>
  intro c9 a0 e6 e8 e3 e4 a1 n3 n4 g1 y5 n9 s7 l8 q8 K3 u9 y6 heq
  rw [Q0.l3] at heq
  refine Sa 2<|Zw 7 [rb K3 1 3] ?_
  refine Cb heq ?_ ?_
  ·intro aU2 heq
   refine An 4<|Sd 0 11 [] [3,3,3,3,3,3,3,3,3,3,3] ?_
   obtain ⟨x3,K8,heq⟩:=bind_some heq
   obtain ⟨W1,ae3,Q4,ad7⟩:=l8.get K8
   obtain ⟨A1,c1,rfl,hc1,I0⟩:=Y7 Q4
   refine Zr [0,1,2,3,4,5,6,7,8,9,10] 0 [rb K3 1 3,nx W1 K8,er ad7 1 2,bx 0 1] (Pk 1 [0]) (Pk 1 [0]) ?_
   refine o5.done (by kernel_rfl) ?_
   refine Cb heq ?_ ?_
   ·intro be8 heq
    refine Sa 1<|Zd 1 ?_
    obtain rfl:=Option.some.inj heq
    refine Up 1 [] ?_
    exact b8.done (by kernel_rfl) Tryz.func53 (v:=iv 11) (by kernel_rfl) ⟨rfl,rfl,rfl⟩
   ·intro be8 heq
    refine Sa 2<|Zd 3<|An 1 ?_
    exact Gt 0 [] (u0 _ a0 _ _ _ _ a1 _ _ _ (c5 (y5+1)) n9 s7 l8 q8 K3 u9 y6 heq)
  ·intro aU2 heq
   refine An 3 ?_
   exact Gt 0 [] (he2 _ a0 _ _ _ _ a1 _ _ _ n9 s7 l8 q8 K3 u9 y6 heq)
theorem Q0.D7 {r:Int}:∀ (c9:Nat) (a0:Cache) (e6:Option Addr) (e8:Nat) (e3:Option Addr) (e4:Nat) (a1:k7) (n3:Option Addr) (n4 g1:Nat) ,Rw j7 H F e6 a0.U→a0.U.length≤e8→Rw k5 H F e3 a0.Entries→a0.Entries.length≤e4→P3 H F c9 (.cells #[iv a0.Room,iv a0.c4,.slice e6 a0.U.length e8,.slice e3 a0.Entries.length e4] 25 (0,0))→Rw Kd.string H F n3 a1.j9→a1.j9.length≤n4→Q0.e1 a0 a1=some r→b8 C53 (S53 F H r) H w0 [.c [1,1,1,1,1,1,1,1,1,1,0,0],.c [1,1,1,1,1,1,1,1,1,1,0,1],.c [1,1,1,1,1,1,1,1,1,1,1]] [(0,pg c9 0),(3,pg g1 0)] H ((some (g1,.cells #[iv a1.Kind,iv a1.At,.string a1.b7,.slice n3 a1.j9.length n4,.string a1.Key,iv a1.j4] 50 (0,0)))::F):=by
 intro c9 a0 e6 e8 e3 e4 a1 n3 n4 g1 n9 s7 l8 q8 K3 u9 y6 heq
 unfold Q0.e1 at heq
 refine Sa 0<|Zd 1<|An 2 ?_
 exact Gt 0 [] (((Q0.av4 (e2:=Q0.e2) (Q0.az5)) n8) _ a0 _ _ _ _ a1 _ _ _ 0 n9 s7 l8 q8 K3 u9 y6 heq)
theorem Q0.aL6 {r:Int} (e1:Cache→k7→Option Int)
  (D4:∀ (c9:Nat) (a0:Cache) (e6:Option Addr) (e8:Nat) (e3:Option Addr) (e4:Nat) (a1:k7) (n3:Option Addr) (n4 g1:Nat) ,Rw j7 H F e6 a0.U→a0.U.length≤e8→Rw k5 H F e3 a0.Entries→a0.Entries.length≤e4→P3 H F c9 (.cells #[iv a0.Room,iv a0.c4,.slice e6 a0.U.length e8,.slice e3 a0.Entries.length e4] 25 (0,0))→Rw Kd.string H F n3 a1.j9→a1.j9.length≤n4→e1 a0 a1=some r→b8 C53 (S53 F H r) H w0 [.c [1,1,1,1,1,1,1,1,1,1,0,0],.c [1,1,1,1,1,1,1,1,1,1,0,1],.c [1,1,1,1,1,1,1,1,1,1,1]] [(0,pg c9 0),(3,pg g1 0)] H ((some (g1,.cells #[iv a1.Kind,iv a1.At,.string a1.b7,.slice n3 a1.j9.length n4,.string a1.Key,iv a1.j4] 50 (0,0)))::F)):∀ (k:Nat),∀ (c9:Nat) (a0:Cache) (e6:Option Addr) (e8:Nat) (e3:Option Addr) (e4:Nat) (a1:k7) (n3:Option Addr) (n4 g1:Nat) (M3:Int) ,Rw j7 H F e6 a0.U→a0.U.length≤e8→Rw k5 H F e3 a0.Entries→a0.Entries.length≤e4→P3 H F c9 (.cells #[iv a0.Room,iv a0.c4,.slice e6 a0.U.length e8,.slice e3 a0.Entries.length e4] 25 (0,0))→Rw Kd.string H F n3 a1.j9→a1.j9.length≤n4→Q0.l4 e1 k a0 a1 M3=some r→b8 C53 (S53 F H r) H w0 [.c [1,1,1,1,1,1,1,1,1,0,1,0,0],.l [1,1,1,1,1,1,1,1,1,0,1,0,0],.b 0,.c [1,1,1,1,1,1,1,1,1,1]] [(0,pg c9 0),(3,pg g1 0),(8,iv M3)] H ((some (g1,.cells #[iv a1.Kind,iv a1.At,.string a1.b7,.slice n3 a1.j9.length n4,.string a1.Key,iv a1.j4] 50 (0,0)))::F):=by
 intro k
 induction k with
 | zero=>intro c9 a0 e6 e8 e3 e4 a1 n3 n4 g1 M3 n9 s7 l8 q8 K3 u9 y6 heq; exact nomatch (show (none:Option Int)=some r from heq)
 | succ k u0 =>
  intro c9 a0 e6 e8 e3 e4 a1 n3 n4 g1 M3 n9 s7 l8 q8 K3 u9 y6 heq
  rw [Q0.l4] at heq
  refine Sa 2<|Zw 7 [rb K3 1 2] ?_
  refine Cb heq ?_ ?_
  ·intro be9 heq
   refine An 4<|Sd 0 11 [] [3,3,3,3,3,3,3,3,3,3,3] ?_
   obtain ⟨C2,V1,heq⟩:=bind_some heq
   obtain ⟨ha4,af1,hK4,af9⟩:=n9.get V1
   obtain ⟨rfl⟩:=C6 hK4
   refine Zr [0,1,2,3,4,5,6,7,8,9,10] 0 [rb K3 1 2,nx ha4 V1,er af9 1 2,bx 0 1] (Pk 1 [0]) (Pk 1 [0]) ?_
   refine o5.done (by kernel_rfl) ?_
   refine Cb heq ?_ ?_
   ·intro ca5 heq
    refine Sa 1<|Zd 1 ?_
    obtain rfl:=Option.some.inj heq
    refine Up 1 [] ?_
    exact b8.done (by kernel_rfl) Tryz.func53 (v:=iv 11) (by kernel_rfl) ⟨rfl,rfl,rfl⟩
   ·intro ca5 heq
    refine Sa 2<|Zd 3<|An 1 ?_
    exact Gt 0 [] (u0 _ a0 _ _ _ _ a1 _ _ _ (c5 (M3+1)) n9 s7 l8 q8 K3 u9 y6 heq)
  ·intro be9 heq
   refine An 3 ?_
   exact Gt 0 [] (D4 _ a0 _ _ _ _ a1 _ _ _ n9 s7 l8 q8 K3 u9 y6 heq)
theorem dr5 {c9:Nat} {a0:Cache} {e6:Option Addr} {q2 e8:Nat} {e3:Option Addr} {p7 e4:Nat} {a1:k7} {n3:Option Addr} {J3 n4:Nat} {r:Int} (heq:Q0.f a0 a1=some r) (n9:Rw j7 H F e6 a0.U) (s7:q2≤e8) (B9:q2=a0.U.length) (l8:Rw k5 H F e3 a0.Entries) (q8:p7≤e4) (B4:p7=a0.Entries.length) (K3:P3 H F c9 (.cells #[iv a0.Room,iv a0.c4,.slice e6 q2 e8,.slice e3 p7 e4] 25 (0,0))) (u9:Rw Kd.string H F n3 a1.j9) (y6:J3≤n4) (aa5:J3=a1.j9.length):z7 Tryz.prog 53 #[.pointer (some ⟨c9,0,none⟩),.agg #[iv a1.Kind,iv a1.At,.string a1.b7,.slice n3 J3 n4,.string a1.Key,iv a1.j4]] H w0 (F) (S53 F H r):=by
 refine Co C53 Tryz.func53 Tryz.ntmps53 ?_
 subst B9
 subst B4
 subst aa5
 unfold Q0.f at heq
 refine Sa 1 ?_
 refine c6.e5 (j6.new (d:=3) (v:=fun g=>.pointer (some ⟨g,0,none⟩)) (o:=fun g=>.cells #[iv a1.Kind,iv a1.At,.string a1.b7,.slice n3 a1.j9.length n4,.string a1.Key,iv a1.j4] 50 (0,0)) (fun g=>by kernel_rfl)) ?_
 rintro _ _ _ _ ⟨g1,rfl,rfl,rfl⟩
 refine Zd 2<|Sa 2<|Zv 2 [bx 0 0] ?_
 obtain ⟨y1,hy1,heq⟩:=bind_some heq
 refine c6.e5 (o9 14 (aQ9 hy1 )) ?_
 rintro _ _ _ _ ⟨_,rfl,rfl,rfl,rfl⟩
 refine Zd 4 ?_
 refine Cb heq ?_ ?_
 ·intro o8 heq
  refine Sa 1<|Zd 1 ?_
  obtain rfl:=Option.some.inj heq
  refine Up 1 [] ?_
  exact b8.done (by kernel_rfl) Tryz.func53 (v:=iv 4) (by kernel_rfl) ⟨rfl,rfl,rfl⟩
 ·intro o8 heq
  refine Sa 3<|Zv 1 (C8 0) ?_
  obtain ⟨y2,hy2,heq⟩:=bind_some heq
  refine c6.e5 (o9 17 (dr1 hy2 (u9.wk (fun _ h=>(.tail _ h))) y6 rfl)) ?_
  rintro _ _ _ _ ⟨_,rfl,rfl,rfl,rfl⟩
  refine Zd 3 ?_
  refine Cb heq ?_ ?_
  ·intro s3 heq
   refine Sa 1<|Zd 1 ?_
   obtain rfl:=Option.some.inj heq
   refine Up 1 [] ?_
   exact b8.done (by kernel_rfl) Tryz.func53 (v:=iv 3) (by kernel_rfl) ⟨rfl,rfl,rfl⟩
  ·intro s3 heq
   refine An 2 ?_
   obtain ⟨t1,A9,heq⟩:=bind_some heq
   have O0:b8 C53 (S53 F H r) H w0 [.c [1,1,1,1]] [(0,pg c9 0),(3,pg g1 0),(5,.bool t1)] H ((some (g1,.cells #[iv a1.Kind,iv a1.At,.string a1.b7,.slice n3 a1.j9.length n4,.string a1.Key,iv a1.j4] 50 (0,0)))::F):=by
    refine An 1 ?_
    obtain ⟨t2,ht2,heq⟩:=bind_some heq
    have ap2:b8 C53 (S53 F H r) H w0 [.c [1,1,1,1,1]] [(0,pg c9 0),(3,pg g1 0),(5,.bool t1),(6,.bool t2)] H ((some (g1,.cells #[iv a1.Kind,iv a1.At,.string a1.b7,.slice n3 a1.j9.length n4,.string a1.Key,iv a1.j4] 50 (0,0)))::F):=by
     refine An 2 ?_
     obtain ⟨t3,ht3,heq⟩:=bind_some heq
     have ah3:b8 C53 (S53 F H r) H w0 [.c [1,1,1,1,1,0,1],.c [1,1,1,1,1,1]] [(0,pg c9 0),(3,pg g1 0),(49,.bool t3)] H ((some (g1,.cells #[iv a1.Kind,iv a1.At,.string a1.b7,.slice n3 a1.j9.length n4,.string a1.Key,iv a1.j4] 50 (0,0)))::F):=by
      refine Cb heq ?_ ?_
      ·intro R6 heq
       refine Sa 1<|Zd 1 ?_
       obtain rfl:=Option.some.inj heq
       refine Up 1 [] ?_
       exact b8.done (by kernel_rfl) Tryz.func53 (v:=iv 3) (by kernel_rfl) ⟨rfl,rfl,rfl⟩
      ·intro R6 heq
       refine Sa 3<|Zw 4 [bx 0 3] ?_
       refine Cb heq ?_ ?_
       ·intro Y1 heq
        refine Sa 1<|Zd 1 ?_
        obtain rfl:=Option.some.inj heq
        refine Up 1 [] ?_
        exact b8.done (by kernel_rfl) Tryz.func53 (v:=iv 2) (by kernel_rfl) ⟨rfl,rfl,rfl⟩
       ·intro Y1 heq
        refine Sa 3<|Zv 2 [bx 0 3] ?_
        obtain ⟨G0,hy6,heq⟩:=bind_some heq
        refine c6.e5 (o9 56 (cB7 hy6 (u9.wk (fun _ h=>(.tail _ h))) y6 rfl)) ?_
        rintro _ _ _ _ ⟨_,rfl,rfl,rfl,rfl⟩
        refine Zd 4<|Sa 1<|Zd 2 ?_
        refine Cb heq ?_ ?_
        ·intro ak0 heq
         refine Sa 1<|Zd 2 ?_
         obtain rfl:=Option.some.inj heq
         refine Up 1 [] ?_
         exact b8.done (by kernel_rfl) Tryz.func53 (v:=iv G0) (by kernel_rfl) ⟨rfl,rfl,rfl⟩
        ·intro ak0 heq
         refine An 3 ?_
         obtain ⟨t4,ht4,heq⟩:=bind_some heq
         have aL5:b8 C53 (S53 F H r) H w0 [.c [1,1,1,1,1,1,1,1,0,1],.c [1,1,1,1,1,1,1,1,1]] [(0,pg c9 0),(3,pg g1 0),(69,.bool t4)] H ((some (g1,.cells #[iv a1.Kind,iv a1.At,.string a1.b7,.slice n3 a1.j9.length n4,.string a1.Key,iv a1.j4] 50 (0,0)))::F):=by
          refine Cb heq ?_ ?_
          ·intro aE9 heq
           refine Sa 1<|Zd 1 ?_
           obtain rfl:=Option.some.inj heq
           refine Up 1 [] ?_
           exact b8.done (by kernel_rfl) Tryz.func53 (v:=iv 1) (by kernel_rfl) ⟨rfl,rfl,rfl⟩
          ·intro aE9 heq
           refine Sa 3<|Zd 1<|An 2 ?_
           exact Gt 0 [] (((Q0.aL6 (e1:=Q0.e1) (Q0.D7)) n8) _ a0 _ _ _ _ a1 _ _ _ 0 n9 s7 l8 q8 K3 u9 y6 heq)
         replace heq:=ht4
         refine Sa 0<|Zv 2 [bx 0 5] ?_
         obtain ⟨W2,hy7,heq⟩:=bind_some heq
         refine c6.e5 (o9 62 (aQ9 hy7 )) ?_
         rintro _ _ _ _ ⟨_,rfl,rfl,rfl,rfl⟩
         refine Zk 5 ?_
         rcases y9 (!W2) with ao0 | ao0
         ·replace heq:=A5 ao0 heq
          refine Zs 64 (congrArg Value.bool ao0)<|Zk 10 ?_
          obtain rfl:=Option.some.inj heq
          refine Dn ?_
          exact Gt 0 [] (aL5)
         ·replace heq:=A6 ao0 heq
          refine Zs 64 (congrArg Value.bool ao0)<|Zv 7 [bx 0 1] ?_
          obtain ⟨O5,hy8,heq⟩:=bind_some heq
          refine c6.e5 (o9 67 (aQ9 hy8 )) ?_
          rintro _ _ _ _ ⟨_,rfl,rfl,rfl,rfl⟩
          refine Zk 10 ?_
          obtain rfl:=Option.some.inj heq
          refine Dn ?_
          exact Gt 0 [] (aL5)
     replace heq:=ht3
     refine Sa 0<|Zk 2 ?_
     rcases y9 (t2) with F2 | F2
     ·replace heq:=A5 F2 heq
      refine Zs 35 (congrArg Value.bool F2)<|Zv 4 [bx 0 2] ?_
      obtain ⟨y3,hy3,heq⟩:=bind_some heq
      refine c6.e5 (o9 38 (bl8 hy3 )) ?_
      rintro _ _ _ _ ⟨_,rfl,rfl,rfl,rfl⟩
      refine Zk 8 ?_
      rcases y9 (!y3) with M4 | M4
      ·replace heq:=A5 M4 heq
       refine Zs 41 (congrArg Value.bool M4)<|Zk 16 ?_
       obtain rfl:=Option.some.inj heq
       refine Dn ?_
       exact Gt 0 [] (ah3)
      ·replace heq:=A6 M4 heq
       refine Zs 41 (congrArg Value.bool M4)<|Zk 10 ?_
       rcases y9 (t1) with M5 | M5
       ·replace heq:=A5 M5 heq
        refine Zs 43 (congrArg Value.bool M5)<|Zv 12 [bx 0 4] ?_
        obtain ⟨y4,hy4,heq⟩:=bind_some heq
        refine c6.e5 (o9 46 (bl8 hy4 )) ?_
        rintro _ _ _ _ ⟨_,rfl,rfl,rfl,rfl⟩
        refine Zk 16 ?_
        obtain rfl:=Option.some.inj heq
        refine Dn ?_
        exact Gt 0 [] (ah3)
       ·replace heq:=A6 M5 heq
        refine Zs 43 (congrArg Value.bool M5)<|Zk 16 ?_
        obtain rfl:=Option.some.inj heq
        refine Dn ?_
        exact Gt 0 [] (ah3)
     ·replace heq:=A6 F2 heq
      refine Zs 35 (congrArg Value.bool F2)<|Zk 10 ?_
      rcases y9 (t1) with Y0 | Y0
      ·replace heq:=A5 Y0 heq
       refine Zs 43 (congrArg Value.bool Y0)<|Zv 12 [bx 0 4] ?_
       obtain ⟨A0,hy5,heq⟩:=bind_some heq
       refine c6.e5 (o9 46 (bl8 hy5 )) ?_
       rintro _ _ _ _ ⟨_,rfl,rfl,rfl,rfl⟩
       refine Zk 16 ?_
       obtain rfl:=Option.some.inj heq
       refine Dn ?_
       exact Gt 0 [] (ah3)
      ·replace heq:=A6 Y0 heq
       refine Zs 43 (congrArg Value.bool Y0)<|Zk 16 ?_
       obtain rfl:=Option.some.inj heq
       refine Dn ?_
       exact Gt 0 [] (ah3)
    replace heq:=ht2
    refine Sa 0<|Zk 3 ?_
    rcases y9 (!t1) with B3 | B3
    ·replace heq:=A5 B3 heq
     refine Zs 29 (congrArg Value.bool B3)<|Zv 8 [bx 0 0] ?_
     obtain rfl:=Option.some.inj heq
     refine Dn ?_
     exact Gt 0 [] (ap2)
    ·replace heq:=A6 B3 heq
     refine Zs 29 (congrArg Value.bool B3)<|Zk 8 ?_
     obtain rfl:=Option.some.inj heq
     refine Dn ?_
     exact Gt 0 [] (ap2)
   replace heq:=A9
   refine Sa 0<|Zv 4 [bx 0 0] ?_
   rcases y9 (a1.Kind == 6) with x7 | x7
   ·replace heq:=A5 x7 heq
    refine Zs 22 (congrArg Value.bool x7)<|Zk 9 ?_
    obtain rfl:=Option.some.inj heq
    refine Dn ?_
    exact Gt 0 [] (O0)
   ·replace heq:=A6 x7 heq
    refine Zs 22 (congrArg Value.bool x7)<|Zv 9 [bx 0 0] ?_
    obtain rfl:=Option.some.inj heq
    refine Dn ?_
    exact Gt 0 [] (O0)
end Go.Proofs.YtiecpfnjmlidbaaGreatDoor
