/- What the machine's calls of these functions come to: just what the plain functions say. Written by program. -/
import Derived.Test.YtiecpfnjmlidbaaGreatDoorProg
import Derived.Test.YtiecpfnjmlidbaaGreatDoorKitXi
import Derived.Test.YtiecpfnjmlidbaaGreatDoorZD
import Derived.Test.YtiecpfnjmlidbaaGreatDoorShelf
import Derived.Test.YtiecpfnjmlidbaaGreatDoorZ3M3
set_option linter.unusedVariables false
set_option linter.unnecessarySimpa false
set_option linter.unusedSimpArgs false
set_option maxRecDepth 100000
set_option maxHeartbeats 1000000
namespace Go.Proofs.YtiecpfnjmlidbaaGreatDoor
open Go Go.RowKit Go.Proofs.YtiecpfnjmlidbaaGreatDoor.Kit
variable {w0 : World} {H0 H : Hp} {F : List Ch}
noncomputable def bs2:Ctx:={ P:=Tryz.prog,f:=18,N:=47,c:=C1 Tryz.f18 }
def bs3 (F:List Ch) (H0:Hp) (E1:Nat) (ae4:Nat) (r:Cache × Int × Int × Int) (v:Value) (H:Hp) (cs:List Ch):Prop:=∃ (E7:Option Addr) (E8:Nat) (F1:Ch) (P7:Option Addr) (P8:Nat) (Q9:Ch),v=.tuple #[.agg #[iv r.1.Room,iv r.1.c4,.slice E7 r.1.U.length E8,.slice P7 r.1.Entries.length P8],iv r.2.1]∧F1::Q9::some (E1,.cells #[iv r.2.2.1] 3 (0,0))::some (ae4,.cells #[iv r.2.2.2] 3 (0,0))::F=cs∧b6 j7 44 H E7 E8 r.1.U F1∧b6 k5 47 H P7 P8 r.1.Entries Q9
theorem al2.D7 {r:Cache × Int × Int × Int}:∀ (H:Hp) (E1 ae4 g1 g2:Nat) (I7 ap1 F6 F7:Int) (E2:List Blob) (L3:Option Addr) (X4 L4:Nat) (T0:Ch) (E3:List Entry) (L5:Option Addr) (X5 L6:Nat) (T3:Ch) ,b6 j7 44 H L3 L4 E2 T0→X4=E2.length→b6 k5 47 H L5 L6 E3 T3→X5=E3.length→al2.e1 I7 ap1 F6 F7 E2 E3=some r→b8 bs2 (bs3 F H0 E1 ae4 r) H0 w0 [.c [1,1,1,1,1,0],.c [1,1,1,1,1,1]] [(2,.func (.func 22) #[] #[.pointer (some ⟨E1,0,none⟩),.pointer (some ⟨ae4,0,none⟩)]),(3,pg g1 0),(6,pg g2 0)] H (T0::T3::(some (g2,.cells #[iv 0,iv 0,.slice none 0 0,.slice none 0 0] 25 (0,0)))::(some (g1,.cells #[iv F6,iv F7,.slice L3 X4 L4,.slice L5 X5 L6] 25 (0,0)))::(some (E1,.cells #[iv I7] 3 (0,0)))::(some (ae4,.cells #[iv ap1] 3 (0,0)))::F):=by
 intro H E1 ae4 g1 g2 I7 ap1 F6 F7 E2 L3 X4 L4 T0 E3 L5 X5 L6 T3 aj7 aB8 aj8 aB9 heq
 subst aB8
 subst aB9
 unfold al2.e1 at heq
 refine Sa 0<|Zv 1 (C8 3) ?_
 refine c6.e5 (j6.store (k:=2) (g:=g2) (off:=0) (v:=.agg #[iv F6,iv F7,.slice L3 E2.length L4,.slice L5 E3.length L6]) (cells':=#[iv F6,iv F7,.slice L3 E2.length L4,.slice L5 E3.length L6]) (by kernel_rfl) rfl (by kernel_rfl) (by kernel_rfl)) ?_
 rintro _ _ _ _ ⟨rfl,rfl,rfl⟩
 refine c6.p6 ?_
 refine Zd 3 ?_
 obtain rfl:=Option.some.inj heq
 refine Up 4 [2,0,1] ?_
 exact b8.I3 1 (vs:=[.agg #[iv F6,iv F7,.slice L3 E2.length L4,.slice L5 E3.length L6],iv 0]) (v:=.tuple #[.agg #[iv F6,iv F7,.slice L3 E2.length L4,.slice L5 E3.length L6],iv 0]) (by kernel_rfl) Tryz.func18 (fun w hh=>show G2 _ _ _ [.cell 6 25,.tmp 7] _ from ⟨⟨⟨g2,0,none⟩,by kernel_rfl,F5 _ (vs:=[iv F6,iv F7,.slice L3 E2.length L4,.slice L5 E3.length L6]) (r:=[]) (es:=[.load ⟨g2,0,none⟩ (iv F6),.load ⟨g2,1,none⟩ (iv F7),.load ⟨g2,2,none⟩ (.slice L3 E2.length L4),.load ⟨g2,3,none⟩ (.slice L5 E3.length L6)]) (by kernel_rfl) ⟨(hh.box 0 rfl rfl),(hh.box 0 rfl rfl),(hh.box 0 rfl rfl),(hh.box 0 rfl rfl)⟩⟩,(show lk _ _=some _ by kernel_rfl),trivial⟩) rfl (cs':=T0::T3::(some (E1,.cells #[iv I7] 3 (0,0)))::(some (ae4,.cells #[iv ap1] 3 (0,0)))::F) rfl ⟨L3,L4,T0,L5,L6,T3,rfl,rfl,aj7,aj8⟩
theorem al2.F9 {r:Cache × Int × Int × Int} (e1:Int→Int→Int→Int→(List Blob)→(List Entry)→Option (Cache × Int × Int × Int))
  (D4:∀ (H:Hp) (E1 ae4 g1 g2:Nat) (I7 ap1 F6 F7:Int) (E2:List Blob) (L3:Option Addr) (X4 L4:Nat) (T0:Ch) (E3:List Entry) (L5:Option Addr) (X5 L6:Nat) (T3:Ch) ,b6 j7 44 H L3 L4 E2 T0→X4=E2.length→b6 k5 47 H L5 L6 E3 T3→X5=E3.length→e1 I7 ap1 F6 F7 E2 E3=some r→b8 bs2 (bs3 F H0 E1 ae4 r) H0 w0 [.c [1,1,1,1,1,0],.c [1,1,1,1,1,1]] [(2,.func (.func 22) #[] #[.pointer (some ⟨E1,0,none⟩),.pointer (some ⟨ae4,0,none⟩)]),(3,pg g1 0),(6,pg g2 0)] H (T0::T3::(some (g2,.cells #[iv 0,iv 0,.slice none 0 0,.slice none 0 0] 25 (0,0)))::(some (g1,.cells #[iv F6,iv F7,.slice L3 X4 L4,.slice L5 X5 L6] 25 (0,0)))::(some (E1,.cells #[iv I7] 3 (0,0)))::(some (ae4,.cells #[iv ap1] 3 (0,0)))::F)):∀ (k:Nat),∀ (H:Hp) (a1:List k7) (p8:Option Addr) (q7 E1 ae4 g1 g2:Nat) (I7 ap1 F6 F7:Int) (E2:List Blob) (L3:Option Addr) (X4 L4:Nat) (T0:Ch) (E3:List Entry) (L5:Option Addr) (X5 L6:Nat) (T3:Ch) (v27:Int) ,Rw O1 H F p8 a1→a1.length≤q7→b6 j7 44 H L3 L4 E2 T0→X4=E2.length→b6 k5 47 H L5 L6 E3 T3→X5=E3.length→al2.l2 e1 k a1 I7 ap1 F6 F7 E2 E3 v27=some r→b8 bs2 (bs3 F H0 E1 ae4 r) H0 w0 [.c [1,1,1,1,0,1,0,0],.l [1,1,1,1,0,1,0,0],.b 0,.c [1,1,1,1,1]] [(2,.func (.func 22) #[] #[.pointer (some ⟨E1,0,none⟩),.pointer (some ⟨ae4,0,none⟩)]),(3,pg g1 0),(6,pg g2 0),(25,.slice p8 a1.length q7),(26,iv (a1.length:Int)),(27,iv v27)] H (T0::T3::(some (g2,.cells #[iv 0,iv 0,.slice none 0 0,.slice none 0 0] 25 (0,0)))::(some (g1,.cells #[iv F6,iv F7,.slice L3 X4 L4,.slice L5 X5 L6] 25 (0,0)))::(some (E1,.cells #[iv I7] 3 (0,0)))::(some (ae4,.cells #[iv ap1] 3 (0,0)))::F):=by
 intro k
 induction k with
 | zero=>intro H a1 p8 q7 E1 ae4 g1 g2 I7 ap1 F6 F7 E2 L3 X4 L4 T0 E3 L5 X5 L6 T3 v27 p0 C5 aj7 aB8 aj8 aB9 heq; exact nomatch (show (none:Option (Cache × Int × Int × Int))=some r from heq)
 | succ k u0 =>
  intro H a1 p8 q7 E1 ae4 g1 g2 I7 ap1 F6 F7 E2 L3 X4 L4 T0 E3 L5 X5 L6 T3 v27 p0 C5 aj7 aB8 aj8 aB9 heq
  subst aB8
  subst aB9
  rw [al2.l2] at heq
  refine Sa 1<|Zd 1<|An 1 ?_
  refine Cb heq ?_ ?_
  ·intro x7 heq
   refine Sa 4 ?_
   obtain ⟨x1,hx1,heq⟩:=bind_some heq
   obtain ⟨A7,I1,B1,B2⟩:=p0.get hx1
   obtain ⟨aa8,c3,rfl,hc1,I0⟩:=aT2 B1
   refine Zv 2 ([nx A7 hx1]++ers B2 6) ?_
   refine c6.e5 (j6.new (d:=10) (v:=fun g=>.pointer (some ⟨g,0,none⟩)) (o:=fun g=>.cells #[iv 0,iv 0,.string ByteArray.empty,.slice none 0 0,.string ByteArray.empty,iv 0] 50 (0,0)) (fun g=>by kernel_rfl)) ?_
   rintro _ _ _ _ ⟨g3,rfl,rfl,rfl⟩
   refine c6.e5 (j6.store (k:=0) (g:=g3) (off:=0) (v:=.agg #[iv x1.Kind,iv x1.At,.string x1.b7,.slice aa8 x1.j9.length c3,.string x1.Key,iv x1.j4]) (cells':=#[iv x1.Kind,iv x1.At,.string x1.b7,.slice aa8 x1.j9.length c3,.string x1.Key,iv x1.j4]) (by kernel_rfl) rfl (by kernel_rfl) (by kernel_rfl)) ?_
   rintro _ _ _ _ ⟨rfl,rfl,rfl⟩
   refine c6.p6 ?_
   refine Dn<|Sa 1<|Zv 1 (C8 0)<|Ug 5 [4,1,2,0,3] ?_
   obtain ⟨y3,hy3,heq⟩:=bind_some heq
   refine c6.e5 (o9 33 (bW3 (a0:=(⟨F6,F7,E2,E3⟩:Cache)) hy3 aj7 rfl aj8 rfl (Rw.of I0) hc1 rfl)) ?_
   rintro _ H _ hl ⟨_,rfl,aa9,y8,E6,G3,G4,G6,X6,X7,O2,af6,c7,S3,rfl,rfl,O3,R5,K4,N0⟩
   replace aj7:=aj7.mono hl
   replace aj8:=aj8.mono hl
   replace I0:=I0.mono hl
   replace p0:=p0.mono hl
   refine Zk 5 ?_
   refine c6.e5 (j6.new (d:=11) (v:=fun g=>.pointer (some ⟨g,0,none⟩)) (o:=fun g=>.cells #[.bool false,.slice none 0 0,.slice none 0 0] 54 (0,0)) (fun g=>by kernel_rfl)) ?_
   rintro _ _ _ _ ⟨g4,rfl,rfl,rfl⟩
   refine c6.e5 (j6.store (k:=0) (g:=g4) (off:=0) (v:=.agg #[.bool y3.1.x8,.slice aa9 y3.1.x5.length y8,.slice G3 y3.1.x4.length G4]) (cells':=#[.bool y3.1.x8,.slice aa9 y3.1.x5.length y8,.slice G3 y3.1.x4.length G4]) (by kernel_rfl) rfl (by kernel_rfl) (by kernel_rfl)) ?_
   rintro _ _ _ _ ⟨rfl,rfl,rfl⟩
   refine c6.p6 ?_
   refine Zd 8<|Sa 2<|Zd 2 ?_
   refine Cb heq ?_ ?_
   ·intro B3 heq
    refine Sa 1<|Zk 2 ?_
    refine c6.e5 (j6.store (k:=7) (g:=g2) (off:=0) (v:=.agg #[iv 0,iv 0,.slice none 0 0,.slice none 0 0]) (cells':=#[iv 0,iv 0,.slice none 0 0,.slice none 0 0]) (by kernel_rfl) rfl (by kernel_rfl) (by kernel_rfl)) ?_
    rintro _ _ _ _ ⟨rfl,rfl,rfl⟩
    refine c6.p6 ?_
    refine Zd 4<|b8.w5 ?_
    have aa4:b6 j7 44 H none 0 ([]:List Blob) none:=b6.nil
    refine b8.w5 ?_
    have ae5:b6 k5 47 H none 0 ([]:List Entry) none:=b6.nil
    obtain rfl:=Option.some.inj heq
    refine Up 10 [9,1,0] ?_
    exact b8.I3 1 (vs:=[.agg #[iv 0,iv 0,.slice none 0 0,.slice none 0 0],iv y3.2.1]) (v:=.tuple #[.agg #[iv 0,iv 0,.slice none 0 0,.slice none 0 0],iv y3.2.1]) (by kernel_rfl) Tryz.func18 (fun w hh=>show G2 _ _ _ [.cell 6 25,.tmp 7] _ from ⟨⟨⟨g2,0,none⟩,by kernel_rfl,F5 _ (vs:=[iv 0,iv 0,.slice none 0 0,.slice none 0 0]) (r:=[]) (es:=[.load ⟨g2,0,none⟩ (iv 0),.load ⟨g2,1,none⟩ (iv 0),.load ⟨g2,2,none⟩ (.slice none 0 0),.load ⟨g2,3,none⟩ (.slice none 0 0)]) (by kernel_rfl) ⟨(hh.box 0 rfl rfl),(hh.box 0 rfl rfl),(hh.box 0 rfl rfl),(hh.box 0 rfl rfl)⟩⟩,(show lk _ _=some _ by kernel_rfl),trivial⟩) rfl (cs':=none::none::(some (E1,.cells #[iv I7] 3 (0,0)))::(some (ae4,.cells #[iv ap1] 3 (0,0)))::F) rfl ⟨none,0,none,none,0,none,rfl,rfl,aa4,ae5⟩
   ·intro B3 heq
    refine Sa 1<|Zv 4 (C8 3++C8 6++C8 0)<|Ug 10 [8,9,0,1,2,3,4,5,6,7] ?_
    obtain ⟨y4,hy4,heq⟩:=bind_some heq
    refine c6.e5 (o9 44 (db7 hy4 (K4.rw (.tail _ (.tail _ (.tail _ (.tail _ (.head _)))))) K4.cap rfl (N0.rw (.tail _ (.tail _ (.tail _ (.tail _ (.tail _ (.head _))))))) N0.cap rfl (Rw.of I0) hc1 rfl (O3.rw (.tail _ (.head _))) O3.cap rfl (R5.rw (.tail _ (.tail _ (.head _)))) R5.cap rfl)) ?_
    rintro _ _ _ _ ⟨_,rfl,rfl,rfl,rfl⟩
    refine Dn<|Sa 1<|Zd 2<|An 1 ?_
    exact Gt 10 [6,7,9,5,0,1] (u0 _ a1 _ _ _ _ _ _ y4.1 y4.2 y3.2.2.Room y3.2.2.c4 y3.2.2.U _ _ _ _ y3.2.2.Entries _ _ _ _ (c5 (v27+1)) p0 C5 K4 rfl N0 rfl heq)
  ·intro x7 heq
   refine An 2 ?_
   exact Gt 0 [] (D4 _ _ _ _ _ I7 ap1 F6 F7 E2 _ _ _ _ E3 _ _ _ _ aj7 rfl aj8 rfl heq)
theorem db8 {a0:Cache} {e6:Option Addr} {q2 e8:Nat} {e3:Option Addr} {p7 e4:Nat} {a1:List k7} {p8:Option Addr} {G7 q7 E1:Nat} {Y4:Int} {ae4:Nat} {aP5:Int} {r:Cache × Int × Int × Int} (heq:al2.f a0 a1 Y4 aP5=some r) (n9:Rw j7 H0 F e6 a0.U) (s7:q2≤e8) (B9:q2=a0.U.length) (l8:Rw k5 H0 F e3 a0.Entries) (q8:p7≤e4) (B4:p7=a0.Entries.length) (p0:Rw O1 H0 F p8 a1) (C5:G7≤q7) (X8:G7=a1.length):z7 Tryz.prog 18 #[.agg #[iv a0.Room,iv a0.c4,.slice e6 q2 e8,.slice e3 p7 e4],.slice p8 G7 q7,.func (.func 22) #[] #[.pointer (some ⟨E1,0,none⟩),.pointer (some ⟨ae4,0,none⟩)]] H0 w0 ((some (E1,.cells #[iv Y4] 3 (0,0)))::(some (ae4,.cells #[iv aP5] 3 (0,0)))::F) (bs3 F H0 E1 ae4 r):=by
 refine Co bs2 Tryz.func18 Tryz.ntmps18 ?_
 subst B9
 subst B4
 subst X8
 unfold al2.f at heq
 suffices key:∀ (H:Hp),Rw j7 H F e6 a0.U→Rw k5 H F e3 a0.Entries→Rw O1 H F p8 a1→b8 bs2 (bs3 F H0 E1 ae4 r) H0 w0 [.c []] (Z3 0 [.agg #[iv a0.Room,iv a0.c4,.slice e6 (a0.U.length) e8,.slice e3 (a0.Entries.length) e4],.slice p8 (a1.length) q7,.func (.func 22) #[] #[.pointer (some ⟨E1,0,none⟩),.pointer (some ⟨ae4,0,none⟩)]]) H ((some (E1,.cells #[iv Y4] 3 (0,0)))::(some (ae4,.cells #[iv aP5] 3 (0,0)))::F) from key H0 n9 l8 p0
 intro H n9 l8 p0
 refine Sa 1 ?_
 refine c6.e5 (j6.new (d:=3) (v:=fun g=>.pointer (some ⟨g,0,none⟩)) (o:=fun g=>.cells #[iv a0.Room,iv a0.c4,.slice e6 a0.U.length e8,.slice e3 a0.Entries.length e4] 25 (0,0)) (fun g=>by kernel_rfl)) ?_
 rintro _ _ _ _ ⟨g1,rfl,rfl,rfl⟩
 refine c6.e5 (j6.new (d:=6) (v:=fun g=>.pointer (some ⟨g,0,none⟩)) (o:=fun g=>.cells #[iv 0,iv 0,.slice none 0 0,.slice none 0 0] 25 (0,0)) (fun g=>by kernel_rfl)) ?_
 rintro _ _ _ _ ⟨g2,rfl,rfl,rfl⟩
 refine Zd 3<|Sa 2<|Zv 1 (C8 1) ?_
 obtain ⟨y1,hy1,heq⟩:=bind_some heq
 refine c6.e5 (o9 14 (bH4 hy1 (n9.wk (fun _ h=>(.tail _ (.tail _ (.tail _ (.tail _ h)))))) s7 rfl (l8.wk (fun _ h=>(.tail _ (.tail _ (.tail _ (.tail _ h)))))) q8 rfl)) ?_
 rintro _ _ _ _ ⟨_,rfl,rfl,rfl,rfl⟩
 refine Zd 3<|Sa 1<|Zd 2 ?_
 refine Cb heq ?_ ?_
 ·intro o8 heq
  refine Sa 1<|Zk 2 ?_
  refine c6.e5 (j6.store (k:=0) (g:=g2) (off:=0) (v:=.agg #[iv 0,iv 0,.slice none 0 0,.slice none 0 0]) (cells':=#[iv 0,iv 0,.slice none 0 0,.slice none 0 0]) (by kernel_rfl) rfl (by kernel_rfl) (by kernel_rfl)) ?_
  rintro _ _ _ _ ⟨rfl,rfl,rfl⟩
  refine c6.p6 ?_
  refine Zd 4<|b8.w5 ?_
  have r8:b6 j7 44 H none 0 ([]:List Blob) none:=b6.nil
  refine b8.w5 ?_
  have w8:b6 k5 47 H none 0 ([]:List Entry) none:=b6.nil
  obtain rfl:=Option.some.inj heq
  refine Up 4 [2,1,0] ?_
  exact b8.I3 1 (vs:=[.agg #[iv 0,iv 0,.slice none 0 0,.slice none 0 0],iv y1]) (v:=.tuple #[.agg #[iv 0,iv 0,.slice none 0 0,.slice none 0 0],iv y1]) (by kernel_rfl) Tryz.func18 (fun w hh=>show G2 _ _ _ [.cell 6 25,.tmp 7] _ from ⟨⟨⟨g2,0,none⟩,by kernel_rfl,F5 _ (vs:=[iv 0,iv 0,.slice none 0 0,.slice none 0 0]) (r:=[]) (es:=[.load ⟨g2,0,none⟩ (iv 0),.load ⟨g2,1,none⟩ (iv 0),.load ⟨g2,2,none⟩ (.slice none 0 0),.load ⟨g2,3,none⟩ (.slice none 0 0)]) (by kernel_rfl) ⟨(hh.box 0 rfl rfl),(hh.box 0 rfl rfl),(hh.box 0 rfl rfl),(hh.box 0 rfl rfl)⟩⟩,(show lk _ _=some _ by kernel_rfl),trivial⟩) rfl (cs':=none::none::(some (E1,.cells #[iv Y4] 3 (0,0)))::(some (ae4,.cells #[iv aP5] 3 (0,0)))::F) rfl ⟨none,0,none,none,0,none,rfl,rfl,r8,w8⟩
 ·intro o8 heq
  refine Sa 3<|Zd 3 ?_
  refine Cb heq ?_ ?_
  ·intro s3 heq
   refine Sa 1<|Zk 1 ?_
   refine c6.e5 (j6.store (k:=0) (g:=g2) (off:=0) (v:=.agg #[iv 0,iv 0,.slice none 0 0,.slice none 0 0]) (cells':=#[iv 0,iv 0,.slice none 0 0,.slice none 0 0]) (by kernel_rfl) rfl (by kernel_rfl) (by kernel_rfl)) ?_
   rintro _ _ _ _ ⟨rfl,rfl,rfl⟩
   refine c6.p6 ?_
   refine Zd 3<|b8.w5 ?_
   have w4:b6 j7 44 H none 0 ([]:List Blob) none:=b6.nil
   refine b8.w5 ?_
   have C9:b6 k5 47 H none 0 ([]:List Entry) none:=b6.nil
   obtain rfl:=Option.some.inj heq
   refine Up 4 [2,1,0] ?_
   exact b8.I3 1 (vs:=[.agg #[iv 0,iv 0,.slice none 0 0,.slice none 0 0],iv 2]) (v:=.tuple #[.agg #[iv 0,iv 0,.slice none 0 0,.slice none 0 0],iv 2]) (by kernel_rfl) Tryz.func18 (fun w hh=>show G2 _ _ _ [.cell 6 25,.tmp 7] _ from ⟨⟨⟨g2,0,none⟩,by kernel_rfl,F5 _ (vs:=[iv 0,iv 0,.slice none 0 0,.slice none 0 0]) (r:=[]) (es:=[.load ⟨g2,0,none⟩ (iv 0),.load ⟨g2,1,none⟩ (iv 0),.load ⟨g2,2,none⟩ (.slice none 0 0),.load ⟨g2,3,none⟩ (.slice none 0 0)]) (by kernel_rfl) ⟨(hh.box 0 rfl rfl),(hh.box 0 rfl rfl),(hh.box 0 rfl rfl),(hh.box 0 rfl rfl)⟩⟩,(show lk _ _=some _ by kernel_rfl),trivial⟩) rfl (cs':=none::none::(some (E1,.cells #[iv Y4] 3 (0,0)))::(some (ae4,.cells #[iv aP5] 3 (0,0)))::F) rfl ⟨none,0,none,none,0,none,rfl,rfl,w4,C9⟩
  ·intro s3 heq
   refine Sa 2<|Zv 1 (C8 1) ?_
   obtain ⟨y2,hy2,heq⟩:=bind_some heq
   refine c6.e5 (o9 24 (bW4 hy2 (n9.wk (fun _ h=>(.tail _ (.tail _ (.tail _ (.tail _ h)))))) s7 rfl (l8.wk (fun _ h=>(.tail _ (.tail _ (.tail _ (.tail _ h)))))) q8 rfl)) ?_
   rintro _ H _ hl ⟨_,rfl,A1,c1,r9,aa3,c2,B5,rfl,rfl,H7,O4⟩
   replace p0:=p0.mono hl
   replace n9:=n9.mono hl
   replace l8:=l8.mono hl
   refine c6.e5 (j6.store (k:=3) (g:=g1) (off:=0) (v:=.agg #[iv y2.Room,iv y2.c4,.slice A1 y2.U.length c1,.slice aa3 y2.Entries.length c2]) (cells':=#[iv y2.Room,iv y2.c4,.slice A1 y2.U.length c1,.slice aa3 y2.Entries.length c2]) (by kernel_rfl) rfl (by kernel_rfl) (by kernel_rfl)) ?_
   rintro _ _ _ _ ⟨rfl,rfl,rfl⟩
   refine c6.p6 ?_
   refine Dn<|Sa 2<|Zd 3<|An 2 ?_
   exact Gt 0 [] (((al2.F9 (e1:=al2.e1) (al2.D7)) n8) _ a1 _ _ _ _ _ _ Y4 aP5 y2.Room y2.c4 y2.U _ _ _ _ y2.Entries _ _ _ _ 0 p0 C5 H7 rfl O4 rfl heq)
noncomputable def C10:Ctx:={ P:=Tryz.prog,f:=10,N:=23,c:=C1 Tryz.f10 }
def S10 (F:List Ch) (H0:Hp) (r:Int × Int × Int) (v:Value) (H:Hp) (cs:List Ch):Prop:=v=.tuple #[iv r.1,iv r.2.1,iv r.2.2]∧F=cs
theorem db9 {a0:Cache} {e6:Option Addr} {q2 e8:Nat} {e3:Option Addr} {p7 e4:Nat} {a1:List k7} {p8:Option Addr} {G7 q7:Nat} {r:Int × Int × Int} (heq:bi7.f a0 a1=some r) (n9:Rw j7 H0 F e6 a0.U) (s7:q2≤e8) (B9:q2=a0.U.length) (l8:Rw k5 H0 F e3 a0.Entries) (q8:p7≤e4) (B4:p7=a0.Entries.length) (p0:Rw O1 H0 F p8 a1) (C5:G7≤q7) (X8:G7=a1.length):z7 Tryz.prog 10 #[.agg #[iv a0.Room,iv a0.c4,.slice e6 q2 e8,.slice e3 p7 e4],.slice p8 G7 q7] H0 w0 (F) (S10 F H0 r):=by
 refine Co C10 Tryz.func10 Tryz.ntmps10 ?_
 subst B9
 subst B4
 subst X8
 unfold bi7.f at heq
 suffices key:∀ (H:Hp),Rw j7 H F e6 a0.U→Rw k5 H F e3 a0.Entries→Rw O1 H F p8 a1→b8 C10 (S10 F H0 r) H0 w0 [.c []] (Z3 0 [.agg #[iv a0.Room,iv a0.c4,.slice e6 (a0.U.length) e8,.slice e3 (a0.Entries.length) e4],.slice p8 (a1.length) q7]) H (F) from key H0 n9 l8 p0
 intro H n9 l8 p0
 refine Sa 1 ?_
 refine c6.e5 (j6.new (d:=2) (v:=fun g=>.pointer (some ⟨g,0,none⟩)) (o:=fun g=>.cells #[iv a0.Room,iv a0.c4,.slice e6 a0.U.length e8,.slice e3 a0.Entries.length e4] 25 (0,0)) (fun g=>by kernel_rfl)) ?_
 rintro _ _ _ _ ⟨g1,rfl,rfl,rfl⟩
 refine Zd 4<|Sa 1 ?_
 refine c6.e5 (j6.new (d:=7) (v:=fun g=>.pointer (some ⟨g,0,none⟩)) (o:=fun g=>.cells #[iv 0] 3 (0,0)) (fun g=>by kernel_rfl)) ?_
 rintro _ _ _ _ ⟨g2,rfl,rfl,rfl⟩
 refine c6.e5 (j6.new (d:=8) (v:=fun g=>.pointer (some ⟨g,0,none⟩)) (o:=fun g=>.cells #[iv 0] 3 (0,0)) (fun g=>by kernel_rfl)) ?_
 rintro _ _ _ _ ⟨g3,rfl,rfl,rfl⟩
 refine c6.e5 (j6.store (k:=1) (g:=g2) (off:=0) (v:=iv 0) (cells':=#[iv 0]) (by kernel_rfl) rfl (by kernel_rfl) (by kernel_rfl)) ?_
 rintro _ _ _ _ ⟨rfl,rfl,rfl⟩
 refine c6.p6 ?_
 refine c6.e5 (j6.store (k:=0) (g:=g3) (off:=0) (v:=iv 0) (cells':=#[iv 0]) (by kernel_rfl) rfl (by kernel_rfl) (by kernel_rfl)) ?_
 rintro _ _ _ _ ⟨rfl,rfl,rfl⟩
 refine c6.p6 ?_
 refine Dn<|Sa 1<|Zv 3 (C8 2) ?_
 obtain ⟨y1,hy1,heq⟩:=bind_some heq
 refine c6.e5 (o9 15 (db8 hy1 (n9.wk (fun _ h=>(.tail _ h))) s7 rfl (l8.wk (fun _ h=>(.tail _ h))) q8 rfl (p0.wk (fun _ h=>(.tail _ h))) C5 rfl)) ?_
 rintro _ H _ hl ⟨_,rfl,A1,c1,r9,aa3,c2,B5,rfl,rfl,r8,w8⟩
 replace n9:=n9.mono hl
 replace l8:=l8.mono hl
 replace p0:=p0.mono hl
 refine Zk 7 ?_
 refine c6.e5 (j6.new (d:=9) (v:=fun g=>.pointer (some ⟨g,0,none⟩)) (o:=fun g=>.cells #[iv 0,iv 0,.slice none 0 0,.slice none 0 0] 25 (0,0)) (fun g=>by kernel_rfl)) ?_
 rintro _ _ _ _ ⟨g4,rfl,rfl,rfl⟩
 refine c6.e5 (j6.store (k:=0) (g:=g4) (off:=0) (v:=.agg #[iv y1.1.Room,iv y1.1.c4,.slice A1 y1.1.U.length c1,.slice aa3 y1.1.Entries.length c2]) (cells':=#[iv y1.1.Room,iv y1.1.c4,.slice A1 y1.1.U.length c1,.slice aa3 y1.1.Entries.length c2]) (by kernel_rfl) rfl (by kernel_rfl) (by kernel_rfl)) ?_
 rintro _ _ _ _ ⟨rfl,rfl,rfl⟩
 refine c6.p6 ?_
 refine Zd 10<|Sa 2<|Zd 2 ?_
 refine Cb heq ?_ ?_
 ·intro o8 heq
  refine Sa 1<|Zd 4 ?_
  obtain rfl:=Option.some.inj heq
  refine Up 6 [] ?_
  exact b8.done (by kernel_rfl) Tryz.func10 (v:=.tuple #[iv 0,iv 0,iv y1.2.1]) (by kernel_rfl) ⟨rfl,rfl⟩
 ·intro o8 heq
  refine An 2<|Sd 0 5 [] [3,3,3,3,3]<|Zr [0,1,2,3,4] 0 [bx 4 0,bx 3 0] (Pk 6 [0,1,2,3,4,5]) (Pk 6 [0,1,2,3,4,5]) ?_
  refine o5.done (by kernel_rfl) ?_
  obtain rfl:=Option.some.inj heq
  refine Up 6 [] ?_
  exact b8.done (by kernel_rfl) Tryz.func10 (v:=.tuple #[iv y1.2.2.2,iv y1.2.2.1,iv 0]) (by kernel_rfl) ⟨rfl,rfl⟩
noncomputable def C11:Ctx:={ P:=Tryz.prog,f:=11,N:=56,c:=C1 Tryz.f11 }
def S11 (F:List Ch) (H0:Hp) (r:Int × Int × Int) (v:Value) (H:Hp) (cs:List Ch):Prop:=v=.tuple #[iv r.1,iv r.2.1,iv r.2.2]∧F=cs
theorem T9.D7 {r:Int × Int × Int}:∀ (H:Hp) (Y5 Y6:Int) ,T9.e1 Y5 Y6=some r→b8 C11 (S11 F H0 r) H0 w0 [.c [1,1,1,1,1,0],.c [1,1,1,1,1,1]] [(11,iv Y5),(12,iv Y6)] H (F):=by
 intro H Y5 Y6  heq
 unfold T9.e1 at heq
 refine Sa 0<|Zd 5 ?_
 obtain rfl:=Option.some.inj heq
 exact b8.done (by kernel_rfl) Tryz.func11 (v:=.tuple #[iv Y5,iv Y6,iv 0]) (by kernel_rfl) ⟨rfl,rfl⟩
theorem T9.ai7 {r:Int × Int × Int} (K5:(List k7)→((Bool × Cache) × (List k6) × Int × Int)→Int→Int→Int→Option (Int × Int × Int))
  (ax7:∀ (H:Hp) (a1:List k7) (p8:Option Addr) (q7:Nat) (y1:(Bool × Cache) × (List k6) × Int × Int) (aa8:Option Addr) (c3:Nat) (E6:Ch) (Y5 Y6 ah2:Int) ,Rw O1 H F p8 a1→a1.length≤q7→b6 X9 54 H aa8 c3 y1.2.1 E6→K5 a1 y1 Y5 Y6 ah2=some r→b8 C11 (S11 F H0 r) H0 w0 [.c [1,1,1,1,0,1,0,0],.l [1,1,1,1,0,1,0,0],.b 0,.c [1,1,1,1,1]] [(1,.slice p8 a1.length q7),(8,.slice aa8 y1.2.1.length c3),(11,iv Y5),(12,iv Y6),(13,iv ah2)] H (E6::F)):∀ (H:Hp) (a1:List k7) (p8:Option Addr) (q7:Nat) (y1:(Bool × Cache) × (List k6) × Int × Int) (aa8:Option Addr) (c3:Nat) (E6:Ch) (ah2 Y5 Y6:Int) ,Rw O1 H F p8 a1→a1.length≤q7→b6 X9 54 H aa8 c3 y1.2.1 E6→T9.j3 K5 a1 y1 ah2 Y5 Y6=some r→b8 C11 (S11 F H0 r) H0 w0 [.c [1,1,1,1,0,1,0,0,1,1],.l [1,1,1,1,0,1,0,0],.b 0,.c [1,1,1,1,1]] [(1,.slice p8 a1.length q7),(8,.slice aa8 y1.2.1.length c3),(11,iv Y5),(12,iv Y6),(13,iv ah2)] H (E6::F):=by
 intro H a1 p8 q7 y1 aa8 c3 E6 ah2 Y5 Y6 p0 C5 w4 heq
 unfold T9.j3 at heq
 refine Sa 0<|Zd 3<|An 1 ?_
 exact Gt 0 [] (ax7 _ a1 _ _ y1 _ _ _ Y5 Y6 (c5 (ah2+1)) p0 C5 w4 heq)
theorem T9.F9 {r:Int × Int × Int} (e1:Int→Int→Option (Int × Int × Int))
  (D4:∀ (H:Hp) (Y5 Y6:Int) ,e1 Y5 Y6=some r→b8 C11 (S11 F H0 r) H0 w0 [.c [1,1,1,1,1,0],.c [1,1,1,1,1,1]] [(11,iv Y5),(12,iv Y6)] H (F)):∀ (k:Nat),∀ (H:Hp) (a1:List k7) (p8:Option Addr) (q7:Nat) (y1:(Bool × Cache) × (List k6) × Int × Int) (aa8:Option Addr) (c3:Nat) (E6:Ch) (Y5 Y6 ah2:Int) ,Rw O1 H F p8 a1→a1.length≤q7→b6 X9 54 H aa8 c3 y1.2.1 E6→T9.l2 e1 k a1 y1 Y5 Y6 ah2=some r→b8 C11 (S11 F H0 r) H0 w0 [.c [1,1,1,1,0,1,0,0],.l [1,1,1,1,0,1,0,0],.b 0,.c [1,1,1,1,1]] [(1,.slice p8 a1.length q7),(8,.slice aa8 y1.2.1.length c3),(11,iv Y5),(12,iv Y6),(13,iv ah2)] H (E6::F):=by
 intro k
 induction k with
 | zero=>intro H a1 p8 q7 y1 aa8 c3 E6 Y5 Y6 ah2 p0 C5 w4 heq; exact nomatch (show (none:Option (Int × Int × Int))=some r from heq)
 | succ k u0 =>
  intro H a1 p8 q7 y1 aa8 c3 E6 Y5 Y6 ah2 p0 C5 w4 heq
  rw [T9.l2] at heq
  refine Sa 2<|Zd 4 ?_
  refine Cb heq ?_ ?_
  ·intro s3 heq
   refine An 4 ?_
   obtain ⟨t1,A9,heq⟩:=bind_some heq
   have ai8:∀ (H:Hp),Rw O1 H F p8 a1→b6 X9 54 H aa8 c3 y1.2.1 E6→b8 C11 (S11 F H0 r) H0 w0 [.c [1,1,1,1,0,1,0,0,1,0,0,1],.b 1,.c [1,1,1,1,0,1,0,0,1,1],.l [1,1,1,1,0,1,0,0],.b 0,.c [1,1,1,1,1]] [(1,.slice p8 a1.length q7),(8,.slice aa8 y1.2.1.length c3),(11,iv Y5),(12,iv Y6),(13,iv ah2),(44,.bool t1)] H (E6::F):=by
    intro H p0 w4
    refine Cb heq ?_ ?_
    ·intro B3 heq
     refine Sa 1<|Zd 3<|Sa 1 ?_
     obtain ⟨x2,w6,heq⟩:=bind_some heq
     obtain ⟨W1,ae3,Q4,ad7⟩:=w4.get w6
     obtain ⟨X6,X7,af6,c7,rfl,hc3,hr3,hc4,hr4⟩:=bd1 Q4
     refine Zw 5 [nx W1 w6,el ad7 0 0] ?_
     refine Cb heq ?_ ?_
     ·intro F2 heq
      refine Sa 0<|Zd 3<|An 1 ?_
      exact Gt 0 [] ((T9.ai7 (K5:=(T9.l2 e1 k)) u0) _ a1 _ _ y1 _ _ _ ah2 (c5 (Y5+1)) (c5 (Y6+1)) p0 C5 w4 heq)
     ·intro F2 heq
      refine An 2 ?_
      exact Gt 0 [] ((T9.ai7 (K5:=(T9.l2 e1 k)) u0) _ a1 _ _ y1 _ _ _ ah2 Y5 (c5 (Y6+1)) p0 C5 w4 heq)
    ·intro B3 heq
     refine An 2 ?_
     exact Gt 0 [] ((T9.ai7 (K5:=(T9.l2 e1 k)) u0) _ a1 _ _ y1 _ _ _ ah2 Y5 Y6 p0 C5 w4 heq)
   replace heq:=A9
   refine Sa 0 ?_
   obtain ⟨x1,hx1,heq⟩:=bind_some heq
   obtain ⟨A7,I1,B1,B2⟩:=p0.get hx1
   obtain ⟨aa9,y8,rfl,hc1,I0⟩:=aT2 B1
   refine Zv 7 [nx A7 hx1,er B2 1 0] ?_
   rcases y9 (x1.Kind == 2) with x7 | x7
   ·replace heq:=A5 x7 heq
    refine Zs 37 (congrArg Value.bool x7)<|Zk 14 ?_
    obtain rfl:=Option.some.inj heq
    refine Dn ?_
    exact Gt 0 [] (ai8 _ p0 w4)
   ·replace heq:=A6 x7 heq
    refine Zs 37 (congrArg Value.bool x7) ?_
    obtain ⟨J2,T7,I8,J7⟩:=p0.get hx1
    obtain ⟨G3,G4,rfl,N9,hr2⟩:=aT2 I8
    refine Zv 14 [nx J2 hx1,er J7 1 0] ?_
    obtain rfl:=Option.some.inj heq
    refine Dn ?_
    exact Gt 0 [] (ai8 _ p0 w4)
  ·intro s3 heq
   refine An 2 ?_
   exact Gt 1 [] (D4 _ Y5 Y6 heq)
theorem dc0 {a0:Cache} {e6:Option Addr} {q2 e8:Nat} {e3:Option Addr} {p7 e4:Nat} {a1:List k7} {p8:Option Addr} {G7 q7:Nat} {r:Int × Int × Int} (heq:T9.f a0 a1=some r) (n9:Rw j7 H0 F e6 a0.U) (s7:q2≤e8) (B9:q2=a0.U.length) (l8:Rw k5 H0 F e3 a0.Entries) (q8:p7≤e4) (B4:p7=a0.Entries.length) (p0:Rw O1 H0 F p8 a1) (C5:G7≤q7) (X8:G7=a1.length):z7 Tryz.prog 11 #[.agg #[iv a0.Room,iv a0.c4,.slice e6 q2 e8,.slice e3 p7 e4],.slice p8 G7 q7] H0 w0 (F) (S11 F H0 r):=by
 refine Co C11 Tryz.func11 Tryz.ntmps11 ?_
 subst B9
 subst B4
 subst X8
 unfold T9.f at heq
 suffices key:∀ (H:Hp),Rw j7 H F e6 a0.U→Rw k5 H F e3 a0.Entries→Rw O1 H F p8 a1→b8 C11 (S11 F H0 r) H0 w0 [.c []] (Z3 0 [.agg #[iv a0.Room,iv a0.c4,.slice e6 (a0.U.length) e8,.slice e3 (a0.Entries.length) e4],.slice p8 (a1.length) q7]) H (F) from key H0 n9 l8 p0
 intro H n9 l8 p0
 refine Sa 1 ?_
 refine c6.e5 (j6.new (d:=2) (v:=fun g=>.pointer (some ⟨g,0,none⟩)) (o:=fun g=>.cells #[iv a0.Room,iv a0.c4,.slice e6 a0.U.length e8,.slice e3 a0.Entries.length e4] 25 (0,0)) (fun g=>by kernel_rfl)) ?_
 rintro _ _ _ _ ⟨g1,rfl,rfl,rfl⟩
 refine Zd 4<|Sa 1<|Zv 2 (C8 0) ?_
 obtain ⟨y1,hy1,heq⟩:=bind_some heq
 refine c6.e5 (o9 17 (bW5 hy1 (n9.wk (fun _ h=>(.tail _ h))) s7 rfl (l8.wk (fun _ h=>(.tail _ h))) q8 rfl (p0.wk (fun _ h=>(.tail _ h))) C5 rfl)) ?_
 rintro _ H _ hl ⟨_,rfl,g2,A1,c1,r9,aa3,c2,B5,aa8,c3,E6,rfl,rfl,r8,w8,w4⟩
 replace p0:=p0.mono hl
 replace n9:=n9.mono hl
 replace l8:=l8.mono hl
 refine Zd 12<|Sa 2<|Zd 2 ?_
 refine Cb heq ?_ ?_
 ·intro o8 heq
  refine Sa 1<|Zd 4 ?_
  obtain rfl:=Option.some.inj heq
  refine Up 5 [] ?_
  exact b8.done (by kernel_rfl) Tryz.func11 (v:=.tuple #[iv 0,iv 0,iv y1.2.2.2]) (by kernel_rfl) ⟨rfl,rfl⟩
 ·intro o8 heq
  refine Sa 2<|Zd 2<|Sa 2<|Zd 1<|An 2 ?_
  exact Gt 5 [3] (((T9.F9 (e1:=T9.e1) (T9.D7)) n8) _ a1 _ _ y1 _ _ _ 0 0 0 p0 C5 w4 heq)
noncomputable def C24:Ctx:={ P:=Tryz.prog,f:=24,N:=11,c:=C1 Tryz.f24 }
def S24 (F:List Ch) (H0:Hp) (ga3:Nat) (r:Int) (v:Value) (H:Hp) (cs:List Ch):Prop:=H0=H∧v=.tuple #[]∧some (ga3,.cells #[iv r] 3 (0,0))::F=cs
theorem dc3 {a0:Cache} {e6:Option Addr} {q2 e8:Nat} {e3:Option Addr} {p7 e4:Nat} {a1:k7} {n3:Option Addr} {J3 n4:Nat} {a2:k6} {aC0:Option Addr} {aK9 aC1:Nat} {aC2:Option Addr} {aL0 aC3 ga3:Nat} {a3:Int} {r:Int} (heq:bF9.f a0 a1 a2 a3=some r) (n9:Rw j7 H F e6 a0.U) (s7:q2≤e8) (B9:q2=a0.U.length) (l8:Rw k5 H F e3 a0.Entries) (q8:p7≤e4) (B4:p7=a0.Entries.length) (u9:Rw Kd.string H F n3 a1.j9) (y6:J3≤n4) (aa5:J3=a1.j9.length) (bW6:Rw Kd.string H F aC0 a2.x5) (bW7:aK9≤aC1) (bs4:aK9=a2.x5.length) (bW8:Rw Kd.string H F aC2 a2.x4) (bW9:aL0≤aC3) (bs5:aL0=a2.x4.length):z7 Tryz.prog 24 #[.agg #[iv a0.Room,iv a0.c4,.slice e6 q2 e8,.slice e3 p7 e4],.agg #[iv a1.Kind,iv a1.At,.string a1.b7,.slice n3 J3 n4,.string a1.Key,iv a1.j4],.agg #[.bool a2.x8,.slice aC0 aK9 aC1,.slice aC2 aL0 aC3],.pointer (some ⟨ga3,0,none⟩)] H w0 ((some (ga3,.cells #[iv a3] 3 (0,0)))::F) (S24 F H ga3 r):=by
 refine Co C24 Tryz.func24 Tryz.ntmps24 ?_
 subst B9
 subst B4
 subst aa5
 subst bs4
 subst bs5
 unfold bF9.f at heq
 refine Sa 1 ?_
 refine c6.e5 (j6.new (d:=4) (v:=fun g=>.pointer (some ⟨g,0,none⟩)) (o:=fun g=>.cells #[iv a0.Room,iv a0.c4,.slice e6 a0.U.length e8,.slice e3 a0.Entries.length e4] 25 (0,0)) (fun g=>by kernel_rfl)) ?_
 rintro _ _ _ _ ⟨g1,rfl,rfl,rfl⟩
 refine c6.e5 (j6.new (d:=5) (v:=fun g=>.pointer (some ⟨g,0,none⟩)) (o:=fun g=>.cells #[iv a1.Kind,iv a1.At,.string a1.b7,.slice n3 a1.j9.length n4,.string a1.Key,iv a1.j4] 50 (0,0)) (fun g=>by kernel_rfl)) ?_
 rintro _ _ _ _ ⟨g2,rfl,rfl,rfl⟩
 refine c6.e5 (j6.new (d:=6) (v:=fun g=>.pointer (some ⟨g,0,none⟩)) (o:=fun g=>.cells #[.bool a2.x8,.slice aC0 a2.x5.length aC1,.slice aC2 a2.x4.length aC3] 54 (0,0)) (fun g=>by kernel_rfl)) ?_
 rintro _ _ _ _ ⟨g3,rfl,rfl,rfl⟩
 refine Dn<|Sd 0 5 [] [3,3,0,3,2]<|Zr [0,1] 3 ([bx 3 0]++C8 2) (Pk 4 [0,1,2,3]) (Pk 4 [0,1,2,3]) ?_
 obtain ⟨y1,hy1,heq⟩:=bind_some heq
 refine Dz 2 (o9 9 (bH5 hy1 (n9.wk (fun _ h=>(.tail _ (.tail _ (.tail _ (.tail _ h)))))) s7 rfl (l8.wk (fun _ h=>(.tail _ (.tail _ (.tail _ (.tail _ h)))))) q8 rfl)) ?_
 rintro _ _ _ _ ⟨_,rfl,rfl,rfl,rfl⟩
 refine ⟨fun _ w hh=>⟨fun _=>(Pk 4 [0,1,2,3]) w hh,fun _=>(Pk 4 [0,1,2,3]) w hh,(fun h=>by cases h)⟩,?_⟩
 refine Zr [3] 1 [] (Pk 4 [0,1,2,3]) (Pk 4 [0,1,2,3]) ?_
 refine Dz 4 (j6.store (k:=3) (g:=ga3) (off:=0) (v:=iv (max2 a3 y1)) (cells':=#[iv (max2 a3 y1)]) (by kernel_rfl) rfl (by kernel_rfl) (by kernel_rfl)) ?_
 rintro _ _ _ _ ⟨rfl,rfl,rfl⟩
 refine ⟨fun _ w hh=>⟨(fun h=>by cases h),(fun h=>absurd h (by decide)),(fun h=>by cases h)⟩,?_⟩
 refine o5.p6 ?_
 refine o5.done (by kernel_rfl) ?_
 obtain rfl:=Option.some.inj heq
 refine Up 3 [] ?_
 exact b8.done (by kernel_rfl) Tryz.func24 (v:=.tuple #[]) (by kernel_rfl) ⟨rfl,rfl,rfl⟩
noncomputable def bs6:Ctx:={ P:=Tryz.prog,f:=18,N:=47,c:=C1 Tryz.f18 }
def bs7 (F:List Ch) (H0:Hp) (E1:Nat) (r:Cache × Int × Int) (v:Value) (H:Hp) (cs:List Ch):Prop:=∃ (E7:Option Addr) (E8:Nat) (F1:Ch) (P7:Option Addr) (P8:Nat) (Q9:Ch),v=.tuple #[.agg #[iv r.1.Room,iv r.1.c4,.slice E7 r.1.U.length E8,.slice P7 r.1.Entries.length P8],iv r.2.1]∧F1::Q9::some (E1,.cells #[iv r.2.2] 3 (0,0))::F=cs∧b6 j7 44 H E7 E8 r.1.U F1∧b6 k5 47 H P7 P8 r.1.Entries Q9
theorem al3.D7 {r:Cache × Int × Int}:∀ (H:Hp) (E1 g1 g2:Nat) (I7 F6 F7:Int) (E2:List Blob) (L3:Option Addr) (X4 L4:Nat) (T0:Ch) (E3:List Entry) (L5:Option Addr) (X5 L6:Nat) (T3:Ch) ,b6 j7 44 H L3 L4 E2 T0→X4=E2.length→b6 k5 47 H L5 L6 E3 T3→X5=E3.length→al3.e1 I7 F6 F7 E2 E3=some r→b8 bs6 (bs7 F H0 E1 r) H0 w0 [.c [1,1,1,1,1,0],.c [1,1,1,1,1,1]] [(2,.func (.func 24) #[] #[.pointer (some ⟨E1,0,none⟩)]),(3,pg g1 0),(6,pg g2 0)] H (T0::T3::(some (g2,.cells #[iv 0,iv 0,.slice none 0 0,.slice none 0 0] 25 (0,0)))::(some (g1,.cells #[iv F6,iv F7,.slice L3 X4 L4,.slice L5 X5 L6] 25 (0,0)))::(some (E1,.cells #[iv I7] 3 (0,0)))::F):=by
 intro H E1 g1 g2 I7 F6 F7 E2 L3 X4 L4 T0 E3 L5 X5 L6 T3 aj7 aB8 aj8 aB9 heq
 subst aB8
 subst aB9
 unfold al3.e1 at heq
 refine Sa 0<|Zv 1 (C8 3) ?_
 refine c6.e5 (j6.store (k:=2) (g:=g2) (off:=0) (v:=.agg #[iv F6,iv F7,.slice L3 E2.length L4,.slice L5 E3.length L6]) (cells':=#[iv F6,iv F7,.slice L3 E2.length L4,.slice L5 E3.length L6]) (by kernel_rfl) rfl (by kernel_rfl) (by kernel_rfl)) ?_
 rintro _ _ _ _ ⟨rfl,rfl,rfl⟩
 refine c6.p6 ?_
 refine Zd 3 ?_
 obtain rfl:=Option.some.inj heq
 refine Up 4 [2,0,1] ?_
 exact b8.I3 1 (vs:=[.agg #[iv F6,iv F7,.slice L3 E2.length L4,.slice L5 E3.length L6],iv 0]) (v:=.tuple #[.agg #[iv F6,iv F7,.slice L3 E2.length L4,.slice L5 E3.length L6],iv 0]) (by kernel_rfl) Tryz.func18 (fun w hh=>show G2 _ _ _ [.cell 6 25,.tmp 7] _ from ⟨⟨⟨g2,0,none⟩,by kernel_rfl,F5 _ (vs:=[iv F6,iv F7,.slice L3 E2.length L4,.slice L5 E3.length L6]) (r:=[]) (es:=[.load ⟨g2,0,none⟩ (iv F6),.load ⟨g2,1,none⟩ (iv F7),.load ⟨g2,2,none⟩ (.slice L3 E2.length L4),.load ⟨g2,3,none⟩ (.slice L5 E3.length L6)]) (by kernel_rfl) ⟨(hh.box 0 rfl rfl),(hh.box 0 rfl rfl),(hh.box 0 rfl rfl),(hh.box 0 rfl rfl)⟩⟩,(show lk _ _=some _ by kernel_rfl),trivial⟩) rfl (cs':=T0::T3::(some (E1,.cells #[iv I7] 3 (0,0)))::F) rfl ⟨L3,L4,T0,L5,L6,T3,rfl,rfl,aj7,aj8⟩
theorem al3.F9 {r:Cache × Int × Int} (e1:Int→Int→Int→(List Blob)→(List Entry)→Option (Cache × Int × Int))
  (D4:∀ (H:Hp) (E1 g1 g2:Nat) (I7 F6 F7:Int) (E2:List Blob) (L3:Option Addr) (X4 L4:Nat) (T0:Ch) (E3:List Entry) (L5:Option Addr) (X5 L6:Nat) (T3:Ch) ,b6 j7 44 H L3 L4 E2 T0→X4=E2.length→b6 k5 47 H L5 L6 E3 T3→X5=E3.length→e1 I7 F6 F7 E2 E3=some r→b8 bs6 (bs7 F H0 E1 r) H0 w0 [.c [1,1,1,1,1,0],.c [1,1,1,1,1,1]] [(2,.func (.func 24) #[] #[.pointer (some ⟨E1,0,none⟩)]),(3,pg g1 0),(6,pg g2 0)] H (T0::T3::(some (g2,.cells #[iv 0,iv 0,.slice none 0 0,.slice none 0 0] 25 (0,0)))::(some (g1,.cells #[iv F6,iv F7,.slice L3 X4 L4,.slice L5 X5 L6] 25 (0,0)))::(some (E1,.cells #[iv I7] 3 (0,0)))::F)):∀ (k:Nat),∀ (H:Hp) (a1:List k7) (p8:Option Addr) (q7 E1 g1 g2:Nat) (I7 F6 F7:Int) (E2:List Blob) (L3:Option Addr) (X4 L4:Nat) (T0:Ch) (E3:List Entry) (L5:Option Addr) (X5 L6:Nat) (T3:Ch) (v27:Int) ,Rw O1 H F p8 a1→a1.length≤q7→b6 j7 44 H L3 L4 E2 T0→X4=E2.length→b6 k5 47 H L5 L6 E3 T3→X5=E3.length→al3.l2 e1 k a1 I7 F6 F7 E2 E3 v27=some r→b8 bs6 (bs7 F H0 E1 r) H0 w0 [.c [1,1,1,1,0,1,0,0],.l [1,1,1,1,0,1,0,0],.b 0,.c [1,1,1,1,1]] [(2,.func (.func 24) #[] #[.pointer (some ⟨E1,0,none⟩)]),(3,pg g1 0),(6,pg g2 0),(25,.slice p8 a1.length q7),(26,iv (a1.length:Int)),(27,iv v27)] H (T0::T3::(some (g2,.cells #[iv 0,iv 0,.slice none 0 0,.slice none 0 0] 25 (0,0)))::(some (g1,.cells #[iv F6,iv F7,.slice L3 X4 L4,.slice L5 X5 L6] 25 (0,0)))::(some (E1,.cells #[iv I7] 3 (0,0)))::F):=by
 intro k
 induction k with
 | zero=>intro H a1 p8 q7 E1 g1 g2 I7 F6 F7 E2 L3 X4 L4 T0 E3 L5 X5 L6 T3 v27 p0 C5 aj7 aB8 aj8 aB9 heq; exact nomatch (show (none:Option (Cache × Int × Int))=some r from heq)
 | succ k u0 =>
  intro H a1 p8 q7 E1 g1 g2 I7 F6 F7 E2 L3 X4 L4 T0 E3 L5 X5 L6 T3 v27 p0 C5 aj7 aB8 aj8 aB9 heq
  subst aB8
  subst aB9
  rw [al3.l2] at heq
  refine Sa 1<|Zd 1<|An 1 ?_
  refine Cb heq ?_ ?_
  ·intro x7 heq
   refine Sa 4 ?_
   obtain ⟨x1,hx1,heq⟩:=bind_some heq
   obtain ⟨A7,I1,B1,B2⟩:=p0.get hx1
   obtain ⟨aa8,c3,rfl,hc1,I0⟩:=aT2 B1
   refine Zv 2 ([nx A7 hx1]++ers B2 5) ?_
   refine c6.e5 (j6.new (d:=10) (v:=fun g=>.pointer (some ⟨g,0,none⟩)) (o:=fun g=>.cells #[iv 0,iv 0,.string ByteArray.empty,.slice none 0 0,.string ByteArray.empty,iv 0] 50 (0,0)) (fun g=>by kernel_rfl)) ?_
   rintro _ _ _ _ ⟨g3,rfl,rfl,rfl⟩
   refine c6.e5 (j6.store (k:=0) (g:=g3) (off:=0) (v:=.agg #[iv x1.Kind,iv x1.At,.string x1.b7,.slice aa8 x1.j9.length c3,.string x1.Key,iv x1.j4]) (cells':=#[iv x1.Kind,iv x1.At,.string x1.b7,.slice aa8 x1.j9.length c3,.string x1.Key,iv x1.j4]) (by kernel_rfl) rfl (by kernel_rfl) (by kernel_rfl)) ?_
   rintro _ _ _ _ ⟨rfl,rfl,rfl⟩
   refine c6.p6 ?_
   refine Dn<|Sa 1<|Zv 1 (C8 0)<|Ug 5 [4,1,2,0,3] ?_
   obtain ⟨y3,hy3,heq⟩:=bind_some heq
   refine c6.e5 (o9 33 (bW3 (a0:=(⟨F6,F7,E2,E3⟩:Cache)) hy3 aj7 rfl aj8 rfl (Rw.of I0) hc1 rfl)) ?_
   rintro _ H _ hl ⟨_,rfl,aa9,y8,E6,G3,G4,G6,X6,X7,O2,af6,c7,S3,rfl,rfl,O3,R5,K4,N0⟩
   replace aj7:=aj7.mono hl
   replace aj8:=aj8.mono hl
   replace I0:=I0.mono hl
   replace p0:=p0.mono hl
   refine Zk 5 ?_
   refine c6.e5 (j6.new (d:=11) (v:=fun g=>.pointer (some ⟨g,0,none⟩)) (o:=fun g=>.cells #[.bool false,.slice none 0 0,.slice none 0 0] 54 (0,0)) (fun g=>by kernel_rfl)) ?_
   rintro _ _ _ _ ⟨g4,rfl,rfl,rfl⟩
   refine c6.e5 (j6.store (k:=0) (g:=g4) (off:=0) (v:=.agg #[.bool y3.1.x8,.slice aa9 y3.1.x5.length y8,.slice G3 y3.1.x4.length G4]) (cells':=#[.bool y3.1.x8,.slice aa9 y3.1.x5.length y8,.slice G3 y3.1.x4.length G4]) (by kernel_rfl) rfl (by kernel_rfl) (by kernel_rfl)) ?_
   rintro _ _ _ _ ⟨rfl,rfl,rfl⟩
   refine c6.p6 ?_
   refine Zd 8<|Sa 2<|Zd 2 ?_
   refine Cb heq ?_ ?_
   ·intro B3 heq
    refine Sa 1<|Zk 2 ?_
    refine c6.e5 (j6.store (k:=7) (g:=g2) (off:=0) (v:=.agg #[iv 0,iv 0,.slice none 0 0,.slice none 0 0]) (cells':=#[iv 0,iv 0,.slice none 0 0,.slice none 0 0]) (by kernel_rfl) rfl (by kernel_rfl) (by kernel_rfl)) ?_
    rintro _ _ _ _ ⟨rfl,rfl,rfl⟩
    refine c6.p6 ?_
    refine Zd 4<|b8.w5 ?_
    have aa4:b6 j7 44 H none 0 ([]:List Blob) none:=b6.nil
    refine b8.w5 ?_
    have ae5:b6 k5 47 H none 0 ([]:List Entry) none:=b6.nil
    obtain rfl:=Option.some.inj heq
    refine Up 10 [9,1,0] ?_
    exact b8.I3 1 (vs:=[.agg #[iv 0,iv 0,.slice none 0 0,.slice none 0 0],iv y3.2.1]) (v:=.tuple #[.agg #[iv 0,iv 0,.slice none 0 0,.slice none 0 0],iv y3.2.1]) (by kernel_rfl) Tryz.func18 (fun w hh=>show G2 _ _ _ [.cell 6 25,.tmp 7] _ from ⟨⟨⟨g2,0,none⟩,by kernel_rfl,F5 _ (vs:=[iv 0,iv 0,.slice none 0 0,.slice none 0 0]) (r:=[]) (es:=[.load ⟨g2,0,none⟩ (iv 0),.load ⟨g2,1,none⟩ (iv 0),.load ⟨g2,2,none⟩ (.slice none 0 0),.load ⟨g2,3,none⟩ (.slice none 0 0)]) (by kernel_rfl) ⟨(hh.box 0 rfl rfl),(hh.box 0 rfl rfl),(hh.box 0 rfl rfl),(hh.box 0 rfl rfl)⟩⟩,(show lk _ _=some _ by kernel_rfl),trivial⟩) rfl (cs':=none::none::(some (E1,.cells #[iv I7] 3 (0,0)))::F) rfl ⟨none,0,none,none,0,none,rfl,rfl,aa4,ae5⟩
   ·intro B3 heq
    refine Sa 1<|Zv 4 (C8 3++C8 6++C8 0)<|Ug 9 [8,0,1,2,3,4,5,6,7] ?_
    obtain ⟨y4,hy4,heq⟩:=bind_some heq
    refine c6.e5 (o9 44 (dc3 hy4 (K4.rw (.tail _ (.tail _ (.tail _ (.tail _ (.head _)))))) K4.cap rfl (N0.rw (.tail _ (.tail _ (.tail _ (.tail _ (.tail _ (.head _))))))) N0.cap rfl (Rw.of I0) hc1 rfl (O3.rw (.tail _ (.head _))) O3.cap rfl (R5.rw (.tail _ (.tail _ (.head _)))) R5.cap rfl)) ?_
    rintro _ _ _ _ ⟨_,rfl,rfl,rfl,rfl⟩
    refine Dn<|Sa 1<|Zd 2<|An 1 ?_
    exact Gt 9 [5,6,8,4,0] (u0 _ a1 _ _ _ _ _ y4 y3.2.2.Room y3.2.2.c4 y3.2.2.U _ _ _ _ y3.2.2.Entries _ _ _ _ (c5 (v27+1)) p0 C5 K4 rfl N0 rfl heq)
  ·intro x7 heq
   refine An 2 ?_
   exact Gt 0 [] (D4 _ _ _ _ I7 F6 F7 E2 _ _ _ _ E3 _ _ _ _ aj7 rfl aj8 rfl heq)
theorem dc4 {a0:Cache} {e6:Option Addr} {q2 e8:Nat} {e3:Option Addr} {p7 e4:Nat} {a1:List k7} {p8:Option Addr} {G7 q7 E1:Nat} {Y4:Int} {r:Cache × Int × Int} (heq:al3.f a0 a1 Y4=some r) (n9:Rw j7 H0 F e6 a0.U) (s7:q2≤e8) (B9:q2=a0.U.length) (l8:Rw k5 H0 F e3 a0.Entries) (q8:p7≤e4) (B4:p7=a0.Entries.length) (p0:Rw O1 H0 F p8 a1) (C5:G7≤q7) (X8:G7=a1.length):z7 Tryz.prog 18 #[.agg #[iv a0.Room,iv a0.c4,.slice e6 q2 e8,.slice e3 p7 e4],.slice p8 G7 q7,.func (.func 24) #[] #[.pointer (some ⟨E1,0,none⟩)]] H0 w0 ((some (E1,.cells #[iv Y4] 3 (0,0)))::F) (bs7 F H0 E1 r):=by
 refine Co bs6 Tryz.func18 Tryz.ntmps18 ?_
 subst B9
 subst B4
 subst X8
 unfold al3.f at heq
 suffices key:∀ (H:Hp),Rw j7 H F e6 a0.U→Rw k5 H F e3 a0.Entries→Rw O1 H F p8 a1→b8 bs6 (bs7 F H0 E1 r) H0 w0 [.c []] (Z3 0 [.agg #[iv a0.Room,iv a0.c4,.slice e6 (a0.U.length) e8,.slice e3 (a0.Entries.length) e4],.slice p8 (a1.length) q7,.func (.func 24) #[] #[.pointer (some ⟨E1,0,none⟩)]]) H ((some (E1,.cells #[iv Y4] 3 (0,0)))::F) from key H0 n9 l8 p0
 intro H n9 l8 p0
 refine Sa 1 ?_
 refine c6.e5 (j6.new (d:=3) (v:=fun g=>.pointer (some ⟨g,0,none⟩)) (o:=fun g=>.cells #[iv a0.Room,iv a0.c4,.slice e6 a0.U.length e8,.slice e3 a0.Entries.length e4] 25 (0,0)) (fun g=>by kernel_rfl)) ?_
 rintro _ _ _ _ ⟨g1,rfl,rfl,rfl⟩
 refine c6.e5 (j6.new (d:=6) (v:=fun g=>.pointer (some ⟨g,0,none⟩)) (o:=fun g=>.cells #[iv 0,iv 0,.slice none 0 0,.slice none 0 0] 25 (0,0)) (fun g=>by kernel_rfl)) ?_
 rintro _ _ _ _ ⟨g2,rfl,rfl,rfl⟩
 refine Zd 3<|Sa 2<|Zv 1 (C8 1) ?_
 obtain ⟨y1,hy1,heq⟩:=bind_some heq
 refine c6.e5 (o9 14 (bH4 hy1 (n9.wk (fun _ h=>(.tail _ (.tail _ (.tail _ h))))) s7 rfl (l8.wk (fun _ h=>(.tail _ (.tail _ (.tail _ h))))) q8 rfl)) ?_
 rintro _ _ _ _ ⟨_,rfl,rfl,rfl,rfl⟩
 refine Zd 3<|Sa 1<|Zd 2 ?_
 refine Cb heq ?_ ?_
 ·intro o8 heq
  refine Sa 1<|Zk 2 ?_
  refine c6.e5 (j6.store (k:=0) (g:=g2) (off:=0) (v:=.agg #[iv 0,iv 0,.slice none 0 0,.slice none 0 0]) (cells':=#[iv 0,iv 0,.slice none 0 0,.slice none 0 0]) (by kernel_rfl) rfl (by kernel_rfl) (by kernel_rfl)) ?_
  rintro _ _ _ _ ⟨rfl,rfl,rfl⟩
  refine c6.p6 ?_
  refine Zd 4<|b8.w5 ?_
  have r8:b6 j7 44 H none 0 ([]:List Blob) none:=b6.nil
  refine b8.w5 ?_
  have w8:b6 k5 47 H none 0 ([]:List Entry) none:=b6.nil
  obtain rfl:=Option.some.inj heq
  refine Up 4 [2,1,0] ?_
  exact b8.I3 1 (vs:=[.agg #[iv 0,iv 0,.slice none 0 0,.slice none 0 0],iv y1]) (v:=.tuple #[.agg #[iv 0,iv 0,.slice none 0 0,.slice none 0 0],iv y1]) (by kernel_rfl) Tryz.func18 (fun w hh=>show G2 _ _ _ [.cell 6 25,.tmp 7] _ from ⟨⟨⟨g2,0,none⟩,by kernel_rfl,F5 _ (vs:=[iv 0,iv 0,.slice none 0 0,.slice none 0 0]) (r:=[]) (es:=[.load ⟨g2,0,none⟩ (iv 0),.load ⟨g2,1,none⟩ (iv 0),.load ⟨g2,2,none⟩ (.slice none 0 0),.load ⟨g2,3,none⟩ (.slice none 0 0)]) (by kernel_rfl) ⟨(hh.box 0 rfl rfl),(hh.box 0 rfl rfl),(hh.box 0 rfl rfl),(hh.box 0 rfl rfl)⟩⟩,(show lk _ _=some _ by kernel_rfl),trivial⟩) rfl (cs':=none::none::(some (E1,.cells #[iv Y4] 3 (0,0)))::F) rfl ⟨none,0,none,none,0,none,rfl,rfl,r8,w8⟩
 ·intro o8 heq
  refine Sa 3<|Zd 3 ?_
  refine Cb heq ?_ ?_
  ·intro s3 heq
   refine Sa 1<|Zk 1 ?_
   refine c6.e5 (j6.store (k:=0) (g:=g2) (off:=0) (v:=.agg #[iv 0,iv 0,.slice none 0 0,.slice none 0 0]) (cells':=#[iv 0,iv 0,.slice none 0 0,.slice none 0 0]) (by kernel_rfl) rfl (by kernel_rfl) (by kernel_rfl)) ?_
   rintro _ _ _ _ ⟨rfl,rfl,rfl⟩
   refine c6.p6 ?_
   refine Zd 3<|b8.w5 ?_
   have w4:b6 j7 44 H none 0 ([]:List Blob) none:=b6.nil
   refine b8.w5 ?_
   have C9:b6 k5 47 H none 0 ([]:List Entry) none:=b6.nil
   obtain rfl:=Option.some.inj heq
   refine Up 4 [2,1,0] ?_
   exact b8.I3 1 (vs:=[.agg #[iv 0,iv 0,.slice none 0 0,.slice none 0 0],iv 2]) (v:=.tuple #[.agg #[iv 0,iv 0,.slice none 0 0,.slice none 0 0],iv 2]) (by kernel_rfl) Tryz.func18 (fun w hh=>show G2 _ _ _ [.cell 6 25,.tmp 7] _ from ⟨⟨⟨g2,0,none⟩,by kernel_rfl,F5 _ (vs:=[iv 0,iv 0,.slice none 0 0,.slice none 0 0]) (r:=[]) (es:=[.load ⟨g2,0,none⟩ (iv 0),.load ⟨g2,1,none⟩ (iv 0),.load ⟨g2,2,none⟩ (.slice none 0 0),.load ⟨g2,3,none⟩ (.slice none 0 0)]) (by kernel_rfl) ⟨(hh.box 0 rfl rfl),(hh.box 0 rfl rfl),(hh.box 0 rfl rfl),(hh.box 0 rfl rfl)⟩⟩,(show lk _ _=some _ by kernel_rfl),trivial⟩) rfl (cs':=none::none::(some (E1,.cells #[iv Y4] 3 (0,0)))::F) rfl ⟨none,0,none,none,0,none,rfl,rfl,w4,C9⟩
  ·intro s3 heq
   refine Sa 2<|Zv 1 (C8 1) ?_
   obtain ⟨y2,hy2,heq⟩:=bind_some heq
   refine c6.e5 (o9 24 (bW4 hy2 (n9.wk (fun _ h=>(.tail _ (.tail _ (.tail _ h))))) s7 rfl (l8.wk (fun _ h=>(.tail _ (.tail _ (.tail _ h))))) q8 rfl)) ?_
   rintro _ H _ hl ⟨_,rfl,A1,c1,r9,aa3,c2,B5,rfl,rfl,H7,O4⟩
   replace p0:=p0.mono hl
   replace n9:=n9.mono hl
   replace l8:=l8.mono hl
   refine c6.e5 (j6.store (k:=3) (g:=g1) (off:=0) (v:=.agg #[iv y2.Room,iv y2.c4,.slice A1 y2.U.length c1,.slice aa3 y2.Entries.length c2]) (cells':=#[iv y2.Room,iv y2.c4,.slice A1 y2.U.length c1,.slice aa3 y2.Entries.length c2]) (by kernel_rfl) rfl (by kernel_rfl) (by kernel_rfl)) ?_
   rintro _ _ _ _ ⟨rfl,rfl,rfl⟩
   refine c6.p6 ?_
   refine Dn<|Sa 2<|Zd 3<|An 2 ?_
   exact Gt 0 [] (((al3.F9 (e1:=al3.e1) (al3.D7)) n8) _ a1 _ _ _ _ _ Y4 y2.Room y2.c4 y2.U _ _ _ _ y2.Entries _ _ _ _ 0 p0 C5 H7 rfl O4 rfl heq)
noncomputable def C12:Ctx:={ P:=Tryz.prog,f:=12,N:=22,c:=C1 Tryz.f12 }
def S12 (F:List Ch) (H0:Hp) (r:Int × Int) (v:Value) (H:Hp) (cs:List Ch):Prop:=v=.tuple #[iv r.1,iv r.2]∧F=cs
theorem dc5 {a0:Cache} {e6:Option Addr} {q2 e8:Nat} {e3:Option Addr} {p7 e4:Nat} {a1:List k7} {p8:Option Addr} {G7 q7:Nat} {r:Int × Int} (heq:bi8.f a0 a1=some r) (n9:Rw j7 H0 F e6 a0.U) (s7:q2≤e8) (B9:q2=a0.U.length) (l8:Rw k5 H0 F e3 a0.Entries) (q8:p7≤e4) (B4:p7=a0.Entries.length) (p0:Rw O1 H0 F p8 a1) (C5:G7≤q7) (X8:G7=a1.length):z7 Tryz.prog 12 #[.agg #[iv a0.Room,iv a0.c4,.slice e6 q2 e8,.slice e3 p7 e4],.slice p8 G7 q7] H0 w0 (F) (S12 F H0 r):=by
 refine Co C12 Tryz.func12 Tryz.ntmps12 ?_
 subst B9
 subst B4
 subst X8
 unfold bi8.f at heq
 suffices key:∀ (H:Hp),Rw j7 H F e6 a0.U→Rw k5 H F e3 a0.Entries→Rw O1 H F p8 a1→b8 C12 (S12 F H0 r) H0 w0 [.c []] (Z3 0 [.agg #[iv a0.Room,iv a0.c4,.slice e6 (a0.U.length) e8,.slice e3 (a0.Entries.length) e4],.slice p8 (a1.length) q7]) H (F) from key H0 n9 l8 p0
 intro H n9 l8 p0
 refine Sa 1 ?_
 refine c6.e5 (j6.new (d:=2) (v:=fun g=>.pointer (some ⟨g,0,none⟩)) (o:=fun g=>.cells #[iv a0.Room,iv a0.c4,.slice e6 a0.U.length e8,.slice e3 a0.Entries.length e4] 25 (0,0)) (fun g=>by kernel_rfl)) ?_
 rintro _ _ _ _ ⟨g1,rfl,rfl,rfl⟩
 refine Zd 3<|Sa 1<|Zv 1 (C8 0) ?_
 obtain ⟨y1,hy1,heq⟩:=bind_some heq
 refine c6.e5 (o9 10 (bH5 hy1 (n9.wk (fun _ h=>(.tail _ h))) s7 rfl (l8.wk (fun _ h=>(.tail _ h))) q8 rfl)) ?_
 rintro _ _ _ _ ⟨_,rfl,rfl,rfl,rfl⟩
 refine c6.e5 (j6.new (d:=6) (v:=fun g=>.pointer (some ⟨g,0,none⟩)) (o:=fun g=>.cells #[iv 0] 3 (0,0)) (fun g=>by kernel_rfl)) ?_
 rintro _ _ _ _ ⟨g2,rfl,rfl,rfl⟩
 refine c6.e5 (j6.store (k:=0) (g:=g2) (off:=0) (v:=iv y1) (cells':=#[iv y1]) (by kernel_rfl) rfl (by kernel_rfl) (by kernel_rfl)) ?_
 rintro _ _ _ _ ⟨rfl,rfl,rfl⟩
 refine c6.p6 ?_
 refine Dn<|Sa 1<|Zv 3 (C8 1) ?_
 obtain ⟨y2,hy2,heq⟩:=bind_some heq
 refine c6.e5 (o9 15 (dc4 hy2 (n9.wk (fun _ h=>(.tail _ h))) s7 rfl (l8.wk (fun _ h=>(.tail _ h))) q8 rfl (p0.wk (fun _ h=>(.tail _ h))) C5 rfl)) ?_
 rintro _ H _ hl ⟨_,rfl,A1,c1,r9,aa3,c2,B5,rfl,rfl,r8,w8⟩
 replace n9:=n9.mono hl
 replace l8:=l8.mono hl
 replace p0:=p0.mono hl
 refine Zk 7 ?_
 refine c6.e5 (j6.new (d:=7) (v:=fun g=>.pointer (some ⟨g,0,none⟩)) (o:=fun g=>.cells #[iv 0,iv 0,.slice none 0 0,.slice none 0 0] 25 (0,0)) (fun g=>by kernel_rfl)) ?_
 rintro _ _ _ _ ⟨g3,rfl,rfl,rfl⟩
 refine c6.e5 (j6.store (k:=0) (g:=g3) (off:=0) (v:=.agg #[iv y2.1.Room,iv y2.1.c4,.slice A1 y2.1.U.length c1,.slice aa3 y2.1.Entries.length c2]) (cells':=#[iv y2.1.Room,iv y2.1.c4,.slice A1 y2.1.U.length c1,.slice aa3 y2.1.Entries.length c2]) (by kernel_rfl) rfl (by kernel_rfl) (by kernel_rfl)) ?_
 rintro _ _ _ _ ⟨rfl,rfl,rfl⟩
 refine c6.p6 ?_
 refine Zd 10<|Sa 2<|Zd 2 ?_
 refine Cb heq ?_ ?_
 ·intro o8 heq
  refine Sa 1<|Zd 3 ?_
  obtain rfl:=Option.some.inj heq
  refine Up 5 [] ?_
  exact b8.done (by kernel_rfl) Tryz.func12 (v:=.tuple #[iv 0,iv y2.2.1]) (by kernel_rfl) ⟨rfl,rfl⟩
 ·intro o8 heq
  refine Sa 2<|Zw 3 [bx 3 0] ?_
  obtain rfl:=Option.some.inj heq
  refine Up 5 [] ?_
  exact b8.done (by kernel_rfl) Tryz.func12 (v:=.tuple #[iv y2.2.2,iv 0]) (by kernel_rfl) ⟨rfl,rfl⟩
noncomputable def C13:Ctx:={ P:=Tryz.prog,f:=13,N:=20,c:=C1 Tryz.f13 }
def S13 (F:List Ch) (H0:Hp) (r:Int × Int) (v:Value) (H:Hp) (cs:List Ch):Prop:=v=.tuple #[iv r.1,iv r.2]∧F=cs
theorem dc6 {a0:Cache} {e6:Option Addr} {q2 e8:Nat} {e3:Option Addr} {p7 e4:Nat} {a1:List k7} {p8:Option Addr} {G7 q7:Nat} {r:Int × Int} (heq:bH3.f a0 a1=some r) (n9:Rw j7 H0 F e6 a0.U) (s7:q2≤e8) (B9:q2=a0.U.length) (l8:Rw k5 H0 F e3 a0.Entries) (q8:p7≤e4) (B4:p7=a0.Entries.length) (p0:Rw O1 H0 F p8 a1) (C5:G7≤q7) (X8:G7=a1.length):z7 Tryz.prog 13 #[.agg #[iv a0.Room,iv a0.c4,.slice e6 q2 e8,.slice e3 p7 e4],.slice p8 G7 q7] H0 w0 (F) (S13 F H0 r):=by
 refine Co C13 Tryz.func13 Tryz.ntmps13 ?_
 subst B9
 subst B4
 subst X8
 unfold bH3.f at heq
 suffices key:∀ (H:Hp),Rw j7 H F e6 a0.U→Rw k5 H F e3 a0.Entries→Rw O1 H F p8 a1→b8 C13 (S13 F H0 r) H0 w0 [.c []] (Z3 0 [.agg #[iv a0.Room,iv a0.c4,.slice e6 (a0.U.length) e8,.slice e3 (a0.Entries.length) e4],.slice p8 (a1.length) q7]) H (F) from key H0 n9 l8 p0
 intro H n9 l8 p0
 refine Sa 1 ?_
 refine c6.e5 (j6.new (d:=2) (v:=fun g=>.pointer (some ⟨g,0,none⟩)) (o:=fun g=>.cells #[iv a0.Room,iv a0.c4,.slice e6 a0.U.length e8,.slice e3 a0.Entries.length e4] 25 (0,0)) (fun g=>by kernel_rfl)) ?_
 rintro _ _ _ _ ⟨g1,rfl,rfl,rfl⟩
 refine Zd 3<|Sa 1<|Zv 2 (C8 0) ?_
 obtain ⟨y1,hy1,heq⟩:=bind_some heq
 refine c6.e5 (o9 13 (bW5 hy1 (n9.wk (fun _ h=>(.tail _ h))) s7 rfl (l8.wk (fun _ h=>(.tail _ h))) q8 rfl (p0.wk (fun _ h=>(.tail _ h))) C5 rfl)) ?_
 rintro _ H _ hl ⟨_,rfl,g2,A1,c1,r9,aa3,c2,B5,aa8,c3,E6,rfl,rfl,r8,w8,w4⟩
 replace n9:=n9.mono hl
 replace l8:=l8.mono hl
 replace p0:=p0.mono hl
 refine Zd 12<|Sa 1<|Zd 4 ?_
 obtain rfl:=Option.some.inj heq
 refine Up 5 [] ?_
 exact b8.done (by kernel_rfl) Tryz.func13 (v:=.tuple #[iv y1.2.2.1,iv y1.2.2.2]) (by kernel_rfl) ⟨rfl,rfl⟩
noncomputable def C14:Ctx:={ P:=Tryz.prog,f:=14,N:=68,c:=C1 Tryz.f14 }
def S14 (F:List Ch) (H0:Hp) (r:Bool) (v:Value) (H:Hp) (cs:List Ch):Prop:=H0=H∧v=.bool r∧F=cs
theorem ai5.D7 {r:Bool}:ai5.e1=some r→b8 C14 (S14 F H r) H w0 [.c [1,1,1,0],.c [1,1,1,1]] [] H (F):=by
 intro   heq
 unfold ai5.e1 at heq
 refine Sa 0<|Zd 1 ?_
 obtain rfl:=Option.some.inj heq
 exact b8.done (by kernel_rfl) Tryz.func14 (v:=.bool true) (by kernel_rfl) ⟨rfl,rfl,rfl⟩
theorem ai5.F9 {r:Bool} (e1:Option Bool)
  (D4:e1=some r→b8 C14 (S14 F H r) H w0 [.c [1,1,1,0],.c [1,1,1,1]] [] H (F)):∀ (k:Nat),∀ (a0:List k7) (e7:Option Addr) (c8:Nat) (a1:List k7) (p8:Option Addr) (q7:Nat) (n7:Int) ,Rw O1 H F e7 a0→a0.length≤c8→Rw O1 H F p8 a1→a1.length≤q7→ai5.l2 e1 k a0 a1 n7=some r→b8 C14 (S14 F H r) H w0 [.c [1,1,0,1,0,0],.l [1,1,0,1,0,0],.b 0,.c [1,1,1]] [(0,.slice e7 a0.length c8),(1,.slice p8 a1.length q7),(5,iv n7)] H (F):=by
 intro k
 induction k with
 | zero=>intro a0 e7 c8 a1 p8 q7 n7 B6 G9 p0 C5 heq; exact nomatch (show (none:Option Bool)=some r from heq)
 | succ k u0 =>
  intro a0 e7 c8 a1 p8 q7 n7 B6 G9 p0 C5 heq
  rw [ai5.l2] at heq
  refine Sa 2<|Zd 4 ?_
  refine Cb heq ?_ ?_
  ·intro s3 heq
   refine An 4<|Sd 0 12 [] [3,3,3,3,3,3,3,3,0,0,0,0] ?_
   obtain ⟨x1,hx1,heq⟩:=bind_some heq
   obtain ⟨A7,I1,B1,B2⟩:=B6.get hx1
   obtain ⟨A1,c1,rfl,hc1,I0⟩:=aT2 B1
   obtain ⟨x2,w6,heq⟩:=bind_some heq
   obtain ⟨J2,T7,I8,J7⟩:=p0.get w6
   obtain ⟨aa3,c2,rfl,N9,hr2⟩:=aT2 I8
   refine Zr [0,1,2,3,4,5,6,7] 4 ([nx A7 hx1]++ers B2 0++[nx J2 w6]++ers J7 0) (Pk 0 []) (Pk 0 [])<|Kr [0,1,5,22,26] [(0,.slice e7 a0.length c8),(1,.slice p8 a1.length q7),(5,iv n7),(22,.agg #[iv x1.Kind,iv x1.At,.string x1.b7,.slice A1 x1.j9.length c1,.string x1.Key,iv x1.j4]),(26,.agg #[iv x2.Kind,iv x2.At,.string x2.b7,.slice aa3 x2.j9.length c2,.string x2.Key,iv x2.j4])] ?_
   refine X0.start [(8,6,none,.cells #[iv 0,iv 0,.string ByteArray.empty,.slice none 0 0,.string ByteArray.empty,iv 0] 50 (0,0)),(9,7,none,.cells #[iv 0,iv 0,.string ByteArray.empty,.slice none 0 0,.string ByteArray.empty,iv 0] 50 (0,0))] (n:=2) (by kernel_rfl) ?_
   refine X0.keep [0,1,5,22,26] (L':=[(0,.slice e7 a0.length c8),(1,.slice p8 a1.length q7),(5,iv n7),(22,.agg #[iv x1.Kind,iv x1.At,.string x1.b7,.slice A1 x1.j9.length c1,.string x1.Key,iv x1.j4]),(26,.agg #[iv x2.Kind,iv x2.At,.string x2.b7,.slice aa3 x2.j9.length c2,.string x2.Key,iv x2.j4])]) (by kernel_rfl) (by kernel_rfl) ?_
   refine X0.cI7 (n:=2) (ls':=[true,true,true,true,true,true,true,true,true,true,false,false]) (by kernel_rfl) ⟨fun E g=>by kernel_rfl,fun E g=>by kernel_rfl,trivial⟩ (by kernel_rfl) (by kernel_rfl) rfl (fun w hh=>⟨(Pk 0 []) w hh,(Pk 0 []) w hh⟩) ?_
   intro g1 g2
   refine Dz 10 (j6.store (k:=0) (g:=g1) (off:=0) (v:=.agg #[iv x1.Kind,iv x1.At,.string x1.b7,.slice A1 x1.j9.length c1,.string x1.Key,iv x1.j4]) (cells':=#[iv x1.Kind,iv x1.At,.string x1.b7,.slice A1 x1.j9.length c1,.string x1.Key,iv x1.j4]) (by kernel_rfl) rfl (by kernel_rfl) (by kernel_rfl)) ?_
   rintro _ _ _ _ ⟨rfl,rfl,rfl⟩
   refine ⟨fun _ w hh=>⟨fun _=>(Pk 2 []) w hh,fun _=>(Pk 2 []) w hh,(fun h=>by cases h)⟩,?_⟩
   refine o5.p6 ?_
   refine Dz 11 (j6.store (k:=1) (g:=g2) (off:=0) (v:=.agg #[iv x2.Kind,iv x2.At,.string x2.b7,.slice aa3 x2.j9.length c2,.string x2.Key,iv x2.j4]) (cells':=#[iv x2.Kind,iv x2.At,.string x2.b7,.slice aa3 x2.j9.length c2,.string x2.Key,iv x2.j4]) (by kernel_rfl) rfl (by kernel_rfl) (by kernel_rfl)) ?_
   rintro _ _ _ _ ⟨rfl,rfl,rfl⟩
   refine ⟨fun _ w hh=>⟨fun _=>(Pk 2 []) w hh,fun _=>(Pk 2 []) w hh,(fun h=>by cases h)⟩,?_⟩
   refine o5.p6 ?_
   refine o5.done (by kernel_rfl) ?_
   refine An 1 ?_
   obtain ⟨t1,A9,heq⟩:=bind_some heq
   have ap2:b8 C14 (S14 F H r) H w0 [.c [1,1,0,1,0,0,1,0,0,1,1],.b 1,.c [1,1,0,1,0,0,1,1],.l [1,1,0,1,0,0],.b 0,.c [1,1,1]] [(0,.slice e7 a0.length c8),(1,.slice p8 a1.length q7),(5,iv n7),(67,.bool t1)] H (F):=by
    refine Cb heq ?_ ?_
    ·intro Y0 heq
     refine Sa 1<|Zd 1 ?_
     obtain rfl:=Option.some.inj heq
     exact b8.done (by kernel_rfl) Tryz.func14 (v:=.bool false) (by kernel_rfl) ⟨rfl,rfl,rfl⟩
    ·intro Y0 heq
     refine Sa 2<|Zd 3<|An 1 ?_
     exact Gt 0 [] (u0 a0 _ _ a1 _ _ (c5 (n7+1)) B6 G9 p0 C5 heq)
   replace heq:=A9
   refine Sa 0<|Zv 6 [bx 0 0,bx 1 0] ?_
   rcases y9 (x1.Kind != x2.Kind) with x7 | x7
   ·replace heq:=A5 x7 heq
    refine Zs 32 (congrArg Value.bool x7)<|Zk 41 ?_
    obtain rfl:=Option.some.inj heq
    refine Dn ?_
    exact Gt 2 [] (ap2)
   ·replace heq:=A6 x7 heq
    refine Zs 32 (congrArg Value.bool x7)<|Zv 13 [bx 0 1,bx 1 1] ?_
    rcases y9 (x1.At != x2.At) with B3 | B3
    ·replace heq:=A5 B3 heq
     refine Zs 39 (congrArg Value.bool B3)<|Zk 41 ?_
     obtain rfl:=Option.some.inj heq
     refine Dn ?_
     exact Gt 2 [] (ap2)
    ·replace heq:=A6 B3 heq
     refine Zs 39 (congrArg Value.bool B3)<|Zv 20 [bx 0 2,bx 1 2] ?_
     rcases y9 (!p4 x1.b7 x2.b7) with F2 | F2
     ·replace heq:=A5 F2 heq
      refine Zs 46 (congrArg Value.bool F2)<|Zk 41 ?_
      obtain rfl:=Option.some.inj heq
      refine Dn ?_
      exact Gt 2 [] (ap2)
     ·replace heq:=A6 F2 heq
      refine Zs 46 (congrArg Value.bool F2)<|Zv 27 [bx 0 4,bx 1 4] ?_
      rcases y9 (!p4 x1.Key x2.Key) with M4 | M4
      ·replace heq:=A5 M4 heq
       refine Zs 53 (congrArg Value.bool M4)<|Zk 41 ?_
       obtain rfl:=Option.some.inj heq
       refine Dn ?_
       exact Gt 2 [] (ap2)
      ·replace heq:=A6 M4 heq
       refine Zs 53 (congrArg Value.bool M4)<|Zv 34 [bx 0 5,bx 1 5] ?_
       rcases y9 (x1.j4 != x2.j4) with M5 | M5
       ·replace heq:=A5 M5 heq
        refine Zs 60 (congrArg Value.bool M5)<|Zk 41 ?_
        obtain rfl:=Option.some.inj heq
        refine Dn ?_
        exact Gt 2 [] (ap2)
       ·replace heq:=A6 M5 heq
        refine Zs 60 (congrArg Value.bool M5)<|Zv 38 [bx 0 3,bx 1 3] ?_
        obtain ⟨y1,hy1,heq⟩:=bind_some heq
        refine c6.e5 (o9 65 (bH6 hy1 (Rw.of I0) hc1 rfl (Rw.of hr2) N9 rfl)) ?_
        rintro _ _ _ _ ⟨_,rfl,rfl,rfl,rfl⟩
        refine Zk 41 ?_
        obtain rfl:=Option.some.inj heq
        refine Dn ?_
        exact Gt 2 [] (ap2)
  ·intro s3 heq
   refine An 2 ?_
   exact Gt 0 [] (D4 heq)
theorem dc7 {a0:List k7} {e7:Option Addr} {s0 c8:Nat} {a1:List k7} {p8:Option Addr} {G7 q7:Nat} {r:Bool} (heq:ai5.f a0 a1=some r) (B6:Rw O1 H F e7 a0) (G9:s0≤c8) (L8:s0=a0.length) (p0:Rw O1 H F p8 a1) (C5:G7≤q7) (X8:G7=a1.length):z7 Tryz.prog 14 #[.slice e7 s0 c8,.slice p8 G7 q7] H w0 (F) (S14 F H r):=by
 refine Co C14 Tryz.func14 Tryz.ntmps14 ?_
 subst L8
 subst X8
 unfold ai5.f at heq
 refine Sa 1<|Zd 1<|Sa 2<|Zd 5 ?_
 refine Cb heq ?_ ?_
 ·intro o8 heq
  refine Sa 1<|Zd 1 ?_
  obtain rfl:=Option.some.inj heq
  exact b8.done (by kernel_rfl) Tryz.func14 (v:=.bool false) (by kernel_rfl) ⟨rfl,rfl,rfl⟩
 ·intro o8 heq
  refine Sa 3<|Zd 1<|An 2 ?_
  exact Gt 0 [] (((ai5.F9 (e1:=ai5.e1) (ai5.D7)) n8) a0 _ _ a1 _ _ 0 B6 G9 p0 C5 heq)
noncomputable def C25:Ctx:={ P:=Tryz.prog,f:=25,N:=18,c:=C1 Tryz.f25 }
def S25 (F:List Ch) (H0:Hp) (r:Cache × Int) (v:Value) (H:Hp) (cs:List Ch):Prop:=∃ (E7:Option Addr) (E8:Nat) (F1:Ch) (P7:Option Addr) (P8:Nat) (Q9:Ch),H0=H∧v=.tuple #[.agg #[iv r.1.Room,iv r.1.c4,.slice E7 r.1.U.length E8,.slice P7 r.1.Entries.length P8],iv r.2]∧F1::Q9::F=cs∧b6 j7 44 H E7 E8 r.1.U F1∧b6 k5 47 H P7 P8 r.1.Entries Q9
theorem dd0 {a0 a1:Int} {r:Cache × Int} (heq:bX0.f a0 a1=some r):z7 Tryz.prog 25 #[iv a0,iv a1] H w0 (F) (S25 F H r):=by
 refine Co C25 Tryz.func25 Tryz.ntmps25 ?_
 unfold bX0.f at heq
 refine Sa 1 ?_
 refine c6.e5 (j6.new (d:=4) (v:=fun g=>.pointer (some ⟨g,0,none⟩)) (o:=fun g=>.cells #[iv 0,iv 0,.slice none 0 0,.slice none 0 0] 25 (0,0)) (fun g=>by kernel_rfl)) ?_
 rintro _ _ _ _ ⟨g1,rfl,rfl,rfl⟩
 refine Zd 2<|Sa 1<|Zk 3 ?_
 refine c6.e5 (j6.new (d:=6) (v:=fun g=>.pointer (some ⟨g,0,none⟩)) (o:=fun g=>.cells #[iv 0,iv 0,.slice none 0 0,.slice none 0 0] 25 (0,0)) (fun g=>by kernel_rfl)) ?_
 rintro _ _ _ _ ⟨g2,rfl,rfl,rfl⟩
 refine c6.e5 (j6.store (k:=0) (g:=g2) (off:=0) (v:=.agg #[iv a0,iv a1,.slice none 0 0,.slice none 0 0]) (cells':=#[iv a0,iv a1,.slice none 0 0,.slice none 0 0]) (by kernel_rfl) rfl (by kernel_rfl) (by kernel_rfl)) ?_
 rintro _ _ _ _ ⟨rfl,rfl,rfl⟩
 refine c6.p6 ?_
 refine Dn<|Sa 2<|Zv 1 (C8 0) ?_
 obtain ⟨y1,hy1,heq⟩:=bind_some heq
 refine c6.e5 (o9 12 (bH4 (a0:=(⟨a0,a1,([]:List Blob),([]:List Entry)⟩:Cache)) hy1 (Rw.nil (A:=none)) (Nat.le_refl _) rfl (Rw.nil (A:=none)) (Nat.le_refl _) rfl)) ?_
 rintro _ _ _ _ ⟨_,rfl,rfl,rfl,rfl⟩
 refine Zd 3<|Sa 1<|Zd 2 ?_
 refine Cb heq ?_ ?_
 ·intro o8 heq
  refine Sa 1<|Zk 2 ?_
  refine c6.e5 (j6.store (k:=1) (g:=g1) (off:=0) (v:=.agg #[iv 0,iv 0,.slice none 0 0,.slice none 0 0]) (cells':=#[iv 0,iv 0,.slice none 0 0,.slice none 0 0]) (by kernel_rfl) rfl (by kernel_rfl) (by kernel_rfl)) ?_
  rintro _ _ _ _ ⟨rfl,rfl,rfl⟩
  refine c6.p6 ?_
  refine Zd 4<|b8.w5 ?_
  have r8:b6 j7 44 H none 0 ([]:List Blob) none:=b6.nil
  refine b8.w5 ?_
  have w8:b6 k5 47 H none 0 ([]:List Entry) none:=b6.nil
  obtain rfl:=Option.some.inj heq
  refine Up 4 [3,1,0] ?_
  exact b8.I3 1 (vs:=[.agg #[iv 0,iv 0,.slice none 0 0,.slice none 0 0],iv y1]) (v:=.tuple #[.agg #[iv 0,iv 0,.slice none 0 0,.slice none 0 0],iv y1]) (by kernel_rfl) Tryz.func25 (fun w hh=>show G2 _ _ _ [.cell 4 25,.tmp 5] _ from ⟨⟨⟨g1,0,none⟩,by kernel_rfl,F5 _ (vs:=[iv 0,iv 0,.slice none 0 0,.slice none 0 0]) (r:=[]) (es:=[.load ⟨g1,0,none⟩ (iv 0),.load ⟨g1,1,none⟩ (iv 0),.load ⟨g1,2,none⟩ (.slice none 0 0),.load ⟨g1,3,none⟩ (.slice none 0 0)]) (by kernel_rfl) ⟨(hh.box 0 rfl rfl),(hh.box 0 rfl rfl),(hh.box 0 rfl rfl),(hh.box 0 rfl rfl)⟩⟩,(show lk _ _=some _ by kernel_rfl),trivial⟩) rfl (cs':=none::none::F) rfl ⟨none,0,none,none,0,none,rfl,rfl,rfl,r8,w8⟩
 ·intro o8 heq
  refine Sa 2<|Zv 1 (C8 0) ?_
  refine c6.e5 (j6.store (k:=1) (g:=g1) (off:=0) (v:=.agg #[iv a0,iv a1,.slice none 0 0,.slice none 0 0]) (cells':=#[iv a0,iv a1,.slice none 0 0,.slice none 0 0]) (by kernel_rfl) rfl (by kernel_rfl) (by kernel_rfl)) ?_
  rintro _ _ _ _ ⟨rfl,rfl,rfl⟩
  refine c6.p6 ?_
  refine Zd 3<|b8.w5 ?_
  have w4:b6 j7 44 H none 0 ([]:List Blob) none:=b6.nil
  refine b8.w5 ?_
  have C9:b6 k5 47 H none 0 ([]:List Entry) none:=b6.nil
  obtain rfl:=Option.some.inj heq
  refine Up 4 [3,1,0] ?_
  exact b8.I3 1 (vs:=[.agg #[iv a0,iv a1,.slice none 0 0,.slice none 0 0],iv 0]) (v:=.tuple #[.agg #[iv a0,iv a1,.slice none 0 0,.slice none 0 0],iv 0]) (by kernel_rfl) Tryz.func25 (fun w hh=>show G2 _ _ _ [.cell 4 25,.tmp 5] _ from ⟨⟨⟨g1,0,none⟩,by kernel_rfl,F5 _ (vs:=[iv a0,iv a1,.slice none 0 0,.slice none 0 0]) (r:=[]) (es:=[.load ⟨g1,0,none⟩ (iv a0),.load ⟨g1,1,none⟩ (iv a1),.load ⟨g1,2,none⟩ (.slice none 0 0),.load ⟨g1,3,none⟩ (.slice none 0 0)]) (by kernel_rfl) ⟨(hh.box 0 rfl rfl),(hh.box 0 rfl rfl),(hh.box 0 rfl rfl),(hh.box 0 rfl rfl)⟩⟩,(show lk _ _=some _ by kernel_rfl),trivial⟩) rfl (cs':=none::none::F) rfl ⟨none,0,none,none,0,none,rfl,rfl,rfl,w4,C9⟩
noncomputable def C15:Ctx:={ P:=Tryz.prog,f:=15,N:=19,c:=C1 Tryz.f15 }
def S15 (F:List Ch) (H0:Hp) (r:Bool) (v:Value) (H:Hp) (cs:List Ch):Prop:=H0=H∧v=.bool r∧F=cs
theorem dd1 {r:Bool} (heq:bC7.f=some r):z7 Tryz.prog 15 (List.toArray []) H w0 (F) (S15 F H r):=by
 refine Co C15 Tryz.func15 Tryz.ntmps15 ?_
 unfold bC7.f at heq
 refine Sa 1<|Zd 1<|Sa 1 ?_
 obtain ⟨y1,hy1,heq⟩:=bind_some heq
 refine c6.e5 (o9 4 (dd0 hy1 )) ?_
 rintro _ _ _ _ ⟨_,rfl,A1,c1,r9,aa3,c2,B5,rfl,rfl,rfl,r8,w8⟩
 refine Zk 4 ?_
 refine c6.e5 (j6.new (d:=1) (v:=fun g=>.pointer (some ⟨g,0,none⟩)) (o:=fun g=>.cells #[iv 0,iv 0,.slice none 0 0,.slice none 0 0] 25 (0,0)) (fun g=>by kernel_rfl)) ?_
 rintro _ _ _ _ ⟨g1,rfl,rfl,rfl⟩
 refine c6.e5 (j6.store (k:=0) (g:=g1) (off:=0) (v:=.agg #[iv y1.1.Room,iv y1.1.c4,.slice A1 y1.1.U.length c1,.slice aa3 y1.1.Entries.length c2]) (cells':=#[iv y1.1.Room,iv y1.1.c4,.slice A1 y1.1.U.length c1,.slice aa3 y1.1.Entries.length c2]) (by kernel_rfl) rfl (by kernel_rfl) (by kernel_rfl)) ?_
 rintro _ _ _ _ ⟨rfl,rfl,rfl⟩
 refine c6.p6 ?_
 refine Zd 7<|An 1 ?_
 obtain ⟨t1,A9,heq⟩:=bind_some heq
 have ah3:b8 C15 (S15 F H r) H w0 [.c [1,1,1]] [(0,.bool t1)] H (F):=by
  obtain rfl:=Option.some.inj heq
  exact b8.done (by kernel_rfl) Tryz.func15 (v:=.bool t1) (by kernel_rfl) ⟨rfl,rfl,rfl⟩
 replace heq:=A9
 refine Sa 0<|Zk 3 ?_
 rcases y9 (y1.2 == 0) with o8 | o8
 ·replace heq:=A5 o8 heq
  refine Zs 9 (congrArg Value.bool o8)<|Zv 8 [bx 0 0] ?_
  rcases y9 (y1.1.Room == 5) with s3 | s3
  ·replace heq:=A5 s3 heq
   refine Zs 14 (congrArg Value.bool s3)<|Zv 13 [bx 0 1] ?_
   obtain rfl:=Option.some.inj heq
   refine Dn ?_
   exact Gt 3 [] (ah3)
  ·replace heq:=A6 s3 heq
   refine Zs 14 (congrArg Value.bool s3)<|Zk 13 ?_
   obtain rfl:=Option.some.inj heq
   refine Dn ?_
   exact Gt 3 [] (ah3)
 ·replace heq:=A6 o8 heq
  refine Zs 9 (congrArg Value.bool o8)<|Zk 13 ?_
  obtain rfl:=Option.some.inj heq
  refine Dn ?_
  exact Gt 3 [] (ah3)
noncomputable def bH7:Ctx:={ P:=Tryz.prog,f:=3,N:=116,c:=C1 Tryz.f3 }
def bH8 (F:List Ch) (H0:Hp) (r:Bool) (v:Value) (H:Hp) (cs:List Ch):Prop:=v=.bool r∧F=cs
theorem cN9 {a0:Cache} {e6:Option Addr} {q2 e8:Nat} {e3:Option Addr} {p7 e4:Nat} {a1:List k7} {p8:Option Addr} {G7 q7:Nat} {r:Bool} (heq:bH1.f a0 a1=some r) (n9:Rw j7 H0 F e6 a0.U) (s7:q2≤e8) (B9:q2=a0.U.length) (l8:Rw k5 H0 F e3 a0.Entries) (q8:p7≤e4) (B4:p7=a0.Entries.length) (p0:Rw O1 H0 F p8 a1) (C5:G7≤q7) (X8:G7=a1.length):z7 Tryz.prog 3 #[.agg #[iv a0.Room,iv a0.c4,.slice e6 q2 e8,.slice e3 p7 e4],.slice p8 G7 q7] H0 w0 (F) (bH8 F H0 r):=by
 refine Co bH7 Tryz.func3 Tryz.ntmps3 ?_
 subst B9
 subst B4
 subst X8
 unfold bH1.f at heq
 suffices key:∀ (H:Hp),Rw j7 H F e6 a0.U→Rw k5 H F e3 a0.Entries→Rw O1 H F p8 a1→b8 bH7 (bH8 F H0 r) H0 w0 [.c []] (Z3 0 [.agg #[iv a0.Room,iv a0.c4,.slice e6 (a0.U.length) e8,.slice e3 (a0.Entries.length) e4],.slice p8 (a1.length) q7]) H (F) from key H0 n9 l8 p0
 intro H n9 l8 p0
 refine Sa 1 ?_
 refine c6.e5 (j6.new (d:=2) (v:=fun g=>.pointer (some ⟨g,0,none⟩)) (o:=fun g=>.cells #[iv a0.Room,iv a0.c4,.slice e6 a0.U.length e8,.slice e3 a0.Entries.length e4] 25 (0,0)) (fun g=>by kernel_rfl)) ?_
 rintro _ _ _ _ ⟨g1,rfl,rfl,rfl⟩
 refine Zd 2<|Sa 1<|Zv 1 (C8 0) ?_
 obtain ⟨y1,hy1,heq⟩:=bind_some heq
 refine c6.e5 (o9 22 (dd2 hy1 (n9.wk (fun _ h=>(.tail _ h))) s7 rfl (l8.wk (fun _ h=>(.tail _ h))) q8 rfl)) ?_
 rintro _ H _ hl ⟨_,rfl,A1,c1,r9,aa3,c2,B5,rfl,rfl,r8,w8⟩
 replace p0:=p0.mono hl
 replace n9:=n9.mono hl
 replace l8:=l8.mono hl
 refine Zk 3 ?_
 obtain ⟨y2,hy2,heq⟩:=bind_some heq
 refine c6.e5 (o9 24 (dd3 hy2 (p0.wk (fun _ h=>(.tail _ (.tail _ (.tail _ h))))) C5 rfl)) ?_
 rintro _ H _ hl ⟨_,rfl,aa8,c3,E6,rfl,rfl,w4⟩
 replace p0:=p0.mono hl
 replace n9:=n9.mono hl
 replace l8:=l8.mono hl
 replace r8:=r8.mono hl
 replace w8:=w8.mono hl
 refine c6.e5 (j6.new (d:=5) (v:=fun g=>.pointer (some ⟨g,0,none⟩)) (o:=fun g=>.cells #[iv 0,iv 0,.slice none 0 0,.slice none 0 0] 25 (0,0)) (fun g=>by kernel_rfl)) ?_
 rintro _ _ _ _ ⟨g2,rfl,rfl,rfl⟩
 refine c6.e5 (j6.store (k:=0) (g:=g2) (off:=0) (v:=.agg #[iv y1.Room,iv y1.c4,.slice A1 y1.U.length c1,.slice aa3 y1.Entries.length c2]) (cells':=#[iv y1.Room,iv y1.c4,.slice A1 y1.U.length c1,.slice aa3 y1.Entries.length c2]) (by kernel_rfl) rfl (by kernel_rfl) (by kernel_rfl)) ?_
 rintro _ _ _ _ ⟨rfl,rfl,rfl⟩
 refine c6.p6 ?_
 refine Zd 7<|Sa 1<|Zv 2 (C8 4) ?_
 obtain ⟨y3,hy3,heq⟩:=bind_some heq
 refine c6.e5 (o9 28 (dd4 hy3 (n9.wk (fun _ h=>(.tail _ (.tail _ (.tail _ (.tail _ (.tail _ h))))))) s7 rfl (l8.wk (fun _ h=>(.tail _ (.tail _ (.tail _ (.tail _ (.tail _ h))))))) q8 rfl (p0.wk (fun _ h=>(.tail _ (.tail _ (.tail _ (.tail _ (.tail _ h))))))) C5 rfl)) ?_
 rintro _ H _ hl ⟨_,rfl,aa9,y8,G6,G3,G4,O2,X6,X7,S3,rfl,rfl,C9,H7,O4⟩
 replace p0:=p0.mono hl
 replace n9:=n9.mono hl
 replace l8:=l8.mono hl
 replace r8:=r8.mono hl
 replace w8:=w8.mono hl
 replace w4:=w4.mono hl
 refine Zk 7 ?_
 refine c6.e5 (j6.new (d:=7) (v:=fun g=>.pointer (some ⟨g,0,none⟩)) (o:=fun g=>.cells #[iv 0,iv 0,.slice none 0 0,.slice none 0 0] 25 (0,0)) (fun g=>by kernel_rfl)) ?_
 rintro _ _ _ _ ⟨g3,rfl,rfl,rfl⟩
 refine c6.e5 (j6.store (k:=0) (g:=g3) (off:=0) (v:=.agg #[iv y3.1.Room,iv y3.1.c4,.slice aa9 y3.1.U.length y8,.slice G3 y3.1.Entries.length G4]) (cells':=#[iv y3.1.Room,iv y3.1.c4,.slice aa9 y3.1.U.length y8,.slice G3 y3.1.Entries.length G4]) (by kernel_rfl) rfl (by kernel_rfl) (by kernel_rfl)) ?_
 rintro _ _ _ _ ⟨rfl,rfl,rfl⟩
 refine c6.p6 ?_
 refine Zd 11<|Sa 1<|Zv 2 (C8 4) ?_
 obtain ⟨y4,hy4,heq⟩:=bind_some heq
 refine c6.e5 (o9 35 (dd5 hy4 (r8.rw (.tail _ (.tail _ (.tail _ (.tail _ (.tail _ (.tail _ (.head _)))))))) r8.cap rfl (w8.rw (.tail _ (.tail _ (.tail _ (.tail _ (.tail _ (.tail _ (.tail _ (.head _))))))))) w8.cap rfl (w4.rw (.tail _ (.tail _ (.tail _ (.tail _ (.tail _ (.head _))))))) w4.cap rfl)) ?_
 rintro _ H _ hl ⟨_,rfl,af6,c7,ae6,A8,an2,aj0,an3,an4,af7,rfl,rfl,O3,R5,K4⟩
 replace p0:=p0.mono hl
 replace n9:=n9.mono hl
 replace l8:=l8.mono hl
 replace r8:=r8.mono hl
 replace w8:=w8.mono hl
 replace w4:=w4.mono hl
 replace C9:=C9.mono hl
 replace H7:=H7.mono hl
 replace O4:=O4.mono hl
 refine Zk 7 ?_
 refine c6.e5 (j6.new (d:=10) (v:=fun g=>.pointer (some ⟨g,0,none⟩)) (o:=fun g=>.cells #[iv 0,iv 0,.slice none 0 0,.slice none 0 0] 25 (0,0)) (fun g=>by kernel_rfl)) ?_
 rintro _ _ _ _ ⟨g4,rfl,rfl,rfl⟩
 refine c6.e5 (j6.store (k:=0) (g:=g4) (off:=0) (v:=.agg #[iv y4.1.Room,iv y4.1.c4,.slice af6 y4.1.U.length c7,.slice A8 y4.1.Entries.length an2]) (cells':=#[iv y4.1.Room,iv y4.1.c4,.slice af6 y4.1.U.length c7,.slice A8 y4.1.Entries.length an2]) (by kernel_rfl) rfl (by kernel_rfl) (by kernel_rfl)) ?_
 rintro _ _ _ _ ⟨rfl,rfl,rfl⟩
 refine c6.p6 ?_
 refine Zd 11<|An 2 ?_
 obtain ⟨t1,A9,heq⟩:=bind_some heq
 have K14:∀ (H:Hp),Rw j7 H F e6 a0.U→Rw k5 H F e3 a0.Entries→Rw O1 H F p8 a1→b6 j7 44 H A1 c1 y1.U r9→b6 k5 47 H aa3 c2 y1.Entries B5→b6 O1 50 H aa8 c3 y2 E6→b8 bH7 (bH8 F H0 r) H0 w0 [.c [1,1,1,1,0,1],.c [1,1,1,1,1]] [(1,.slice p8 a1.length q7),(2,pg g1 0),(5,pg g2 0),(6,.slice aa8 y2.length c3),(53,.bool t1)] H ((some (g2,.cells #[iv y1.Room,iv y1.c4,.slice A1 y1.U.length c1,.slice aa3 y1.Entries.length c2] 25 (0,0)))::E6::r9::B5::(some (g1,.cells #[iv a0.Room,iv a0.c4,.slice e6 a0.U.length e8,.slice e3 a0.Entries.length e4] 25 (0,0)))::F):=by
  intro H n9 l8 p0 r8 w8 w4
  refine Cb heq ?_ ?_
  ·intro x7 heq
   refine Sa 1<|Zd 1 ?_
   obtain rfl:=Option.some.inj heq
   refine Up 5 [] ?_
   exact b8.done (by kernel_rfl) Tryz.func3 (v:=.bool false) (by kernel_rfl) ⟨rfl,rfl⟩
  ·intro x7 heq
   refine Sa 2<|Zv 2 (C8 4) ?_
   obtain ⟨W2,hy7,heq⟩:=bind_some heq
   refine c6.e5 (o9 57 (db9 hy7 (n9.wk (fun _ h=>(.tail _ (.tail _ (.tail _ (.tail _ (.tail _ h))))))) s7 rfl (l8.wk (fun _ h=>(.tail _ (.tail _ (.tail _ (.tail _ (.tail _ h))))))) q8 rfl (p0.wk (fun _ h=>(.tail _ (.tail _ (.tail _ (.tail _ (.tail _ h))))))) C5 rfl)) ?_
   rintro _ H _ hl ⟨_,rfl,rfl,rfl⟩
   replace p0:=p0.mono hl
   replace n9:=n9.mono hl
   replace l8:=l8.mono hl
   replace r8:=r8.mono hl
   replace w8:=w8.mono hl
   replace w4:=w4.mono hl
   refine Zd 10<|Sa 1<|Zv 2 (C8 0) ?_
   obtain ⟨O5,hy8,heq⟩:=bind_some heq
   refine c6.e5 (o9 64 (dc0 hy8 (r8.rw (.tail _ (.tail _ (.head _)))) r8.cap rfl (w8.rw (.tail _ (.tail _ (.tail _ (.head _))))) w8.cap rfl (w4.rw (.tail _ (.head _))) w4.cap rfl)) ?_
   rintro _ H _ hl ⟨_,rfl,rfl,rfl⟩
   replace p0:=p0.mono hl
   replace n9:=n9.mono hl
   replace l8:=l8.mono hl
   replace r8:=r8.mono hl
   replace w8:=w8.mono hl
   replace w4:=w4.mono hl
   refine Zd 10<|Sa 1<|Zv 2 (C8 4) ?_
   obtain ⟨Q5,hy9,heq⟩:=bind_some heq
   refine c6.e5 (o9 71 (dc5 hy9 (n9.wk (fun _ h=>(.tail _ (.tail _ (.tail _ (.tail _ (.tail _ h))))))) s7 rfl (l8.wk (fun _ h=>(.tail _ (.tail _ (.tail _ (.tail _ (.tail _ h))))))) q8 rfl (p0.wk (fun _ h=>(.tail _ (.tail _ (.tail _ (.tail _ (.tail _ h))))))) C5 rfl)) ?_
   rintro _ H _ hl ⟨_,rfl,rfl,rfl⟩
   replace p0:=p0.mono hl
   replace n9:=n9.mono hl
   replace l8:=l8.mono hl
   replace r8:=r8.mono hl
   replace w8:=w8.mono hl
   replace w4:=w4.mono hl
   refine Zd 8<|Sa 1<|Zv 2 (C8 0) ?_
   obtain ⟨Q6,bd4,heq⟩:=bind_some heq
   refine c6.e5 (o9 77 (dc6 bd4 (r8.rw (.tail _ (.tail _ (.head _)))) r8.cap rfl (w8.rw (.tail _ (.tail _ (.tail _ (.head _))))) w8.cap rfl (w4.rw (.tail _ (.head _))) w4.cap rfl)) ?_
   rintro _ H _ hl ⟨_,rfl,rfl,rfl⟩
   replace p0:=p0.mono hl
   replace n9:=n9.mono hl
   replace l8:=l8.mono hl
   replace r8:=r8.mono hl
   replace w8:=w8.mono hl
   replace w4:=w4.mono hl
   refine Zd 8<|An 1 ?_
   obtain ⟨t2,ht2,heq⟩:=bind_some heq
   have K15:∀ (H:Hp),b8 bH7 (bH8 F H0 r) H0 w0 [.c [1,1,1,1,1,1,1,1,1,1]] [(4,.bool t2)] H (F):=by
    intro H
    obtain rfl:=Option.some.inj heq
    exact b8.done (by kernel_rfl) Tryz.func3 (v:=.bool t2) (by kernel_rfl) ⟨rfl,rfl⟩
   replace heq:=ht2
   refine Sa 0<|Zk 4 ?_
   rcases y9 (W2.1 == O5.1) with B3 | B3
   ·replace heq:=A5 B3 heq
    refine Zs 83 (congrArg Value.bool B3)<|Zk 9 ?_
    rcases y9 (W2.2.1 == O5.2.1) with F2 | F2
    ·replace heq:=A5 F2 heq
     refine Zs 88 (congrArg Value.bool F2)<|Zk 14 ?_
     rcases y9 (W2.2.2 == O5.2.2) with M4 | M4
     ·replace heq:=A5 M4 heq
      refine Zs 93 (congrArg Value.bool M4)<|Zk 19 ?_
      rcases y9 (Q5.1 == Q6.1) with M5 | M5
      ·replace heq:=A5 M5 heq
       refine Zs 98 (congrArg Value.bool M5)<|Zk 24 ?_
       rcases y9 (Q5.2 == Q6.2) with Y0 | Y0
       ·replace heq:=A5 Y0 heq
        refine Zs 103 (congrArg Value.bool Y0)<|Zv 26 (C8 4++C8 0) ?_
        obtain ⟨y11,bt0,heq⟩:=bind_some heq
        refine c6.e5 (o9 106 (cv4 bt0 (n9.wk (fun _ h=>(.tail _ (.tail _ (.tail _ (.tail _ (.tail _ h))))))) s7 rfl (l8.wk (fun _ h=>(.tail _ (.tail _ (.tail _ (.tail _ (.tail _ h))))))) q8 rfl (r8.rw (.tail _ (.tail _ (.head _)))) r8.cap rfl (w8.rw (.tail _ (.tail _ (.tail _ (.head _))))) w8.cap rfl)) ?_
        rintro _ _ _ _ ⟨_,rfl,rfl,rfl,rfl⟩
        refine Zk 29 ?_
        rcases y9 (y11) with R6 | R6
        ·replace heq:=A5 R6 heq
         refine Zs 108 (congrArg Value.bool R6)<|Zk 31 ?_
         obtain ⟨y12,bX2,heq⟩:=bind_some heq
         refine c6.e5 (o9 111 (dc7 bX2 (p0.wk (fun _ h=>(.tail _ (.tail _ (.tail _ (.tail _ (.tail _ h))))))) C5 rfl (w4.rw (.tail _ (.head _))) w4.cap rfl)) ?_
         rintro _ _ _ _ ⟨_,rfl,rfl,rfl,rfl⟩
         refine Zk 34 ?_
         rcases y9 (y12) with Y1 | Y1
         ·replace heq:=A5 Y1 heq
          refine Zs 113 (congrArg Value.bool Y1) ?_
          obtain ⟨y13,dd6,heq⟩:=bind_some heq
          refine c6.e5 (o9 114 (dd1 dd6 )) ?_
          rintro _ _ _ _ ⟨_,rfl,rfl,rfl,rfl⟩
          refine Zk 37 ?_
          obtain rfl:=Option.some.inj heq
          refine Dn ?_
          exact Gt 5 [] (K15 _)
         ·replace heq:=A6 Y1 heq
          refine Zs 113 (congrArg Value.bool Y1)<|Zk 37 ?_
          obtain rfl:=Option.some.inj heq
          refine Dn ?_
          exact Gt 5 [] (K15 _)
        ·replace heq:=A6 R6 heq
         refine Zs 108 (congrArg Value.bool R6)<|Zk 37 ?_
         obtain rfl:=Option.some.inj heq
         refine Dn ?_
         exact Gt 5 [] (K15 _)
       ·replace heq:=A6 Y0 heq
        refine Zs 103 (congrArg Value.bool Y0)<|Zk 37 ?_
        obtain rfl:=Option.some.inj heq
        refine Dn ?_
        exact Gt 5 [] (K15 _)
      ·replace heq:=A6 M5 heq
       refine Zs 98 (congrArg Value.bool M5)<|Zk 37 ?_
       obtain rfl:=Option.some.inj heq
       refine Dn ?_
       exact Gt 5 [] (K15 _)
     ·replace heq:=A6 M4 heq
      refine Zs 93 (congrArg Value.bool M4)<|Zk 37 ?_
      obtain rfl:=Option.some.inj heq
      refine Dn ?_
      exact Gt 5 [] (K15 _)
    ·replace heq:=A6 F2 heq
     refine Zs 88 (congrArg Value.bool F2)<|Zk 37 ?_
     obtain rfl:=Option.some.inj heq
     refine Dn ?_
     exact Gt 5 [] (K15 _)
   ·replace heq:=A6 B3 heq
    refine Zs 83 (congrArg Value.bool B3)<|Zk 37 ?_
    obtain rfl:=Option.some.inj heq
    refine Dn ?_
    exact Gt 5 [] (K15 _)
 replace heq:=A9
 refine Sa 0<|Zv 2 (C8 4++C8 0) ?_
 obtain ⟨A0,hy5,heq⟩:=bind_some heq
 refine c6.e5 (o9 41 (cv4 hy5 (C9.rw (.tail _ (.tail _ (.tail _ (.tail _ (.tail _ (.head _))))))) C9.cap rfl (H7.rw (.tail _ (.tail _ (.tail _ (.tail _ (.tail _ (.tail _ (.head _)))))))) H7.cap rfl (O3.rw (.tail _ (.head _))) O3.cap rfl (R5.rw (.tail _ (.tail _ (.head _)))) R5.cap rfl)) ?_
 rintro _ _ _ _ ⟨_,rfl,rfl,rfl,rfl⟩
 refine Zk 5 ?_
 rcases y9 (!A0) with o8 | o8
 ·replace heq:=A5 o8 heq
  refine Zs 43 (congrArg Value.bool o8)<|Zk 15 ?_
  obtain rfl:=Option.some.inj heq
  refine Dn ?_
  exact Gt 8 [] (K14 _ n9 l8 p0 r8 w8 w4)
 ·replace heq:=A6 o8 heq
  refine Zs 43 (congrArg Value.bool o8)<|Zk 7 ?_
  obtain ⟨G0,hy6,heq⟩:=bind_some heq
  refine c6.e5 (o9 46 (dd7 hy6 (O4.rw (.tail _ (.tail _ (.tail _ (.tail _ (.tail _ (.tail _ (.tail _ (.head _))))))))) O4.cap rfl (K4.rw (.tail _ (.tail _ (.tail _ (.head _))))) K4.cap rfl)) ?_
  rintro _ _ _ _ ⟨_,rfl,rfl,rfl,rfl⟩
  refine Zk 11 ?_
  rcases y9 (!G0) with s3 | s3
  ·replace heq:=A5 s3 heq
   refine Zs 49 (congrArg Value.bool s3)<|Zk 15 ?_
   obtain rfl:=Option.some.inj heq
   refine Dn ?_
   exact Gt 8 [] (K14 _ n9 l8 p0 r8 w8 w4)
  ·replace heq:=A6 s3 heq
   refine Zs 49 (congrArg Value.bool s3)<|Zk 15 ?_
   obtain rfl:=Option.some.inj heq
   refine Dn ?_
   exact Gt 8 [] (K14 _ n9 l8 p0 r8 w8 w4)
end Go.Proofs.YtiecpfnjmlidbaaGreatDoor
