/- What the machine's calls of these functions come to: just what the plain functions say. Written by program. -/
import Derived.Test.YtiecpfnjmlidbaaGreatDoorProg
import Derived.Test.YtiecpfnjmlidbaaGreatDoorKitXi
import Derived.Test.YtiecpfnjmlidbaaGreatDoorZD
import Derived.Test.YtiecpfnjmlidbaaGreatDoorShelf
set_option linter.unusedVariables false
set_option linter.unnecessarySimpa false
set_option linter.unusedSimpArgs false
set_option maxRecDepth 100000
set_option maxHeartbeats 1000000
namespace Go.Proofs.YtiecpfnjmlidbaaGreatDoor
open Go Go.RowKit Go.Proofs.YtiecpfnjmlidbaaGreatDoor.Kit
variable {w0 : World} {H0 H : Hp} {F : List Ch}
def j7:Kd Blob:=Kd.iso ((Kd.pair Kd.string (Kd.pair (Kd.int .i64) (Kd.pair (Kd.int .i64) (Kd.pair (Kd.int .i64) (Kd.int .i64)))))) (fun x=>(x.b7,x.j4,x.Used,x.u6,x.q4))
theorem C6 {H:Hp} {x:Blob} {c:List Value} (h:j7.K H x c):c=[.string x.b7,iv x.j4,iv x.Used,iv x.u6,iv x.q4]:=by
 obtain ⟨aK2,q0,rfl,g0,h0⟩:=h
 obtain rfl:aK2=[_]:=g0
 obtain ⟨p1,q1,rfl,g1,h1⟩:=h0
 obtain rfl:p1=[_]:=g1
 obtain ⟨p2,ae2,rfl,g2,h2⟩:=h1
 obtain rfl:p2=[_]:=g2
 obtain ⟨p3,aT0,rfl,g3,h3⟩:=h2
 obtain rfl:p3=[_]:=g3
 obtain rfl:aT0=[_]:=h3
 rfl
theorem af8 {H:Hp} {x:Blob}:j7.K H x [.string x.b7,iv x.j4,iv x.Used,iv x.u6,iv x.q4]:=⟨[.string x.b7],[iv x.j4,iv x.Used,iv x.u6,iv x.q4],rfl,rfl,⟨[iv x.j4],[iv x.Used,iv x.u6,iv x.q4],rfl,rfl,⟨[iv x.Used],[iv x.u6,iv x.q4],rfl,rfl,⟨[iv x.u6],[iv x.q4],rfl,rfl,rfl⟩⟩⟩⟩
def k5:Kd Entry:=Kd.iso ((Kd.pair Kd.string (Kd.pair (Kd.slice Kd.string) (Kd.int .i64)))) (fun x=>(x.Key,x.Refs,x.Used))
theorem Y7 {H:Hp} {x:Entry} {c:List Value} (h:k5.K H x c):∃ A1 c1,c=[.string x.Key,.slice A1 x.Refs.length c1,iv x.Used]∧x.Refs.length≤c1∧Kd.Row Kd.string H A1 x.Refs:=by
 obtain ⟨aK2,q0,rfl,g0,h0⟩:=h
 obtain rfl:aK2=[_]:=g0
 obtain ⟨p1,q1,rfl,g1,h1⟩:=h0
 obtain ⟨A1,c1,rfl,u1,v1⟩:=g1
 obtain rfl:q1=[_]:=h1
 exact ⟨A1,c1,rfl,u1,v1⟩
theorem aT4 {H:Hp} {x:Entry} {A1:Option Addr} {c1:Nat} (u1:x.Refs.length≤c1) (v1:Kd.Row Kd.string H A1 x.Refs):k5.K H x [.string x.Key,.slice A1 x.Refs.length c1,iv x.Used]:=⟨[.string x.Key],[.slice A1 x.Refs.length c1,iv x.Used],rfl,rfl,⟨[.slice A1 x.Refs.length c1],[iv x.Used],rfl,⟨A1,c1,rfl,u1,v1⟩,rfl⟩⟩
def bQ7:Kd Cache:=Kd.iso ((Kd.pair (Kd.int .i64) (Kd.pair (Kd.int .i64) (Kd.pair (Kd.slice j7) (Kd.slice k5))))) (fun x=>(x.Room,x.c4,x.U,x.Entries))
theorem cN4 {H:Hp} {x:Cache} {c:List Value} (h:bQ7.K H x c):∃ aa3 c2,∃ aa8 c3,c=[iv x.Room,iv x.c4,.slice aa3 x.U.length c2,.slice aa8 x.Entries.length c3]∧x.U.length≤c2∧Kd.Row j7 H aa3 x.U∧x.Entries.length≤c3∧Kd.Row k5 H aa8 x.Entries:=by
 obtain ⟨aK2,q0,rfl,g0,h0⟩:=h
 obtain rfl:aK2=[_]:=g0
 obtain ⟨p1,q1,rfl,g1,h1⟩:=h0
 obtain rfl:p1=[_]:=g1
 obtain ⟨p2,ae2,rfl,g2,h2⟩:=h1
 obtain ⟨aa3,c2,rfl,u2,v2⟩:=g2
 obtain ⟨aa8,c3,rfl,u3,v3⟩:=h2
 exact ⟨aa3,c2,aa8,c3,rfl,u2,v2,u3,v3⟩
theorem dw7 {H:Hp} {x:Cache} {aa3:Option Addr} {c2:Nat} {aa8:Option Addr} {c3:Nat} (u2:x.U.length≤c2) (v2:Kd.Row j7 H aa3 x.U) (u3:x.Entries.length≤c3) (v3:Kd.Row k5 H aa8 x.Entries):bQ7.K H x [iv x.Room,iv x.c4,.slice aa3 x.U.length c2,.slice aa8 x.Entries.length c3]:=⟨[iv x.Room],[iv x.c4,.slice aa3 x.U.length c2,.slice aa8 x.Entries.length c3],rfl,rfl,⟨[iv x.c4],[.slice aa3 x.U.length c2,.slice aa8 x.Entries.length c3],rfl,rfl,⟨[.slice aa3 x.U.length c2],[.slice aa8 x.Entries.length c3],rfl,⟨aa3,c2,rfl,u2,v2⟩,⟨aa8,c3,rfl,u3,v3⟩⟩⟩⟩
def O1:Kd k7:=Kd.iso ((Kd.pair (Kd.int .i64) (Kd.pair (Kd.int .i64) (Kd.pair Kd.string (Kd.pair (Kd.slice Kd.string) (Kd.pair Kd.string (Kd.int .i64))))))) (fun x=>(x.Kind,x.At,x.b7,x.j9,x.Key,x.j4))
theorem aT2 {H:Hp} {x:k7} {c:List Value} (h:O1.K H x c):∃ aa8 c3,c=[iv x.Kind,iv x.At,.string x.b7,.slice aa8 x.j9.length c3,.string x.Key,iv x.j4]∧x.j9.length≤c3∧Kd.Row Kd.string H aa8 x.j9:=by
 obtain ⟨aK2,q0,rfl,g0,h0⟩:=h
 obtain rfl:aK2=[_]:=g0
 obtain ⟨p1,q1,rfl,g1,h1⟩:=h0
 obtain rfl:p1=[_]:=g1
 obtain ⟨p2,ae2,rfl,g2,h2⟩:=h1
 obtain rfl:p2=[_]:=g2
 obtain ⟨p3,aT0,rfl,g3,h3⟩:=h2
 obtain ⟨aa8,c3,rfl,u3,v3⟩:=g3
 obtain ⟨aB7,aX6,rfl,g4,h4⟩:=h3
 obtain rfl:aB7=[_]:=g4
 obtain rfl:aX6=[_]:=h4
 exact ⟨aa8,c3,rfl,u3,v3⟩
theorem dd8 {H:Hp} {x:k7} {aa8:Option Addr} {c3:Nat} (u3:x.j9.length≤c3) (v3:Kd.Row Kd.string H aa8 x.j9):O1.K H x [iv x.Kind,iv x.At,.string x.b7,.slice aa8 x.j9.length c3,.string x.Key,iv x.j4]:=⟨[iv x.Kind],[iv x.At,.string x.b7,.slice aa8 x.j9.length c3,.string x.Key,iv x.j4],rfl,rfl,⟨[iv x.At],[.string x.b7,.slice aa8 x.j9.length c3,.string x.Key,iv x.j4],rfl,rfl,⟨[.string x.b7],[.slice aa8 x.j9.length c3,.string x.Key,iv x.j4],rfl,rfl,⟨[.slice aa8 x.j9.length c3],[.string x.Key,iv x.j4],rfl,⟨aa8,c3,rfl,u3,v3⟩,⟨[.string x.Key],[iv x.j4],rfl,rfl,rfl⟩⟩⟩⟩⟩
def X9:Kd k6:=Kd.iso ((Kd.pair Kd.bool (Kd.pair (Kd.slice Kd.string) (Kd.slice Kd.string)))) (fun x=>(x.x8,x.x5,x.x4))
theorem bd1 {H:Hp} {x:k6} {c:List Value} (h:X9.K H x c):∃ A1 c1,∃ aa3 c2,c=[.bool x.x8,.slice A1 x.x5.length c1,.slice aa3 x.x4.length c2]∧x.x5.length≤c1∧Kd.Row Kd.string H A1 x.x5∧x.x4.length≤c2∧Kd.Row Kd.string H aa3 x.x4:=by
 obtain ⟨aK2,q0,rfl,g0,h0⟩:=h
 obtain rfl:aK2=[_]:=g0
 obtain ⟨p1,q1,rfl,g1,h1⟩:=h0
 obtain ⟨A1,c1,rfl,u1,v1⟩:=g1
 obtain ⟨aa3,c2,rfl,u2,v2⟩:=h1
 exact ⟨A1,c1,aa3,c2,rfl,u1,v1,u2,v2⟩
theorem cv6 {H:Hp} {x:k6} {A1:Option Addr} {c1:Nat} {aa3:Option Addr} {c2:Nat} (u1:x.x5.length≤c1) (v1:Kd.Row Kd.string H A1 x.x5) (u2:x.x4.length≤c2) (v2:Kd.Row Kd.string H aa3 x.x4):X9.K H x [.bool x.x8,.slice A1 x.x5.length c1,.slice aa3 x.x4.length c2]:=⟨[.bool x.x8],[.slice A1 x.x5.length c1,.slice aa3 x.x4.length c2],rfl,rfl,⟨[.slice A1 x.x5.length c1],[.slice aa3 x.x4.length c2],rfl,⟨A1,c1,rfl,u1,v1⟩,⟨aa3,c2,rfl,u2,v2⟩⟩⟩
noncomputable def C16:Ctx:={ P:=Tryz.prog,f:=16,N:=8,c:=C1 Tryz.f16 }
def S16 (F:List Ch) (H0:Hp) (r:List Blob) (v:Value) (H:Hp) (cs:List Ch):Prop:=∃ (ad8:Option Addr) (c0:Nat) (J6:Ch),H0=H∧v=.slice ad8 r.length c0∧J6::F=cs∧b6 j7 44 H ad8 c0 r J6
theorem bX3 {a0:List Blob} {e7:Option Addr} {s0 c8:Nat} {r:List Blob} (B6:Rw j7 H F e7 a0) (G9:s0≤c8) (L8:s0=a0.length) (heq:bj4.f a0=some r):z7 Tryz.prog 16 #[.slice e7 s0 c8] H w0 F (S16 F H r):=by
 refine ba4 (F:=C16) Tryz.func16 (by kernel_rfl) Tryz.ntmps16 (args:=[.slice e7 s0 c8]) (by kernel_rfl) ?_
 subst L8
 unfold bj4.f at heq
 obtain ⟨hn,heq⟩:=M1 heq
 obtain rfl:=Option.some.inj heq
 refine Ra 1 [0] [.c [1]]<|Rd 1 [0] [(0,.slice e7 a0.length c8)]<|Ra 2 [1,0,0] [.c [1,0,1],.c [1,1]] ?_
 cases e7 with
 | none =>
  have h0:a0=[]:=by
   cases a0 with
   | nil=>rfl
   | cons x xs=>obtain ⟨b,off,cs,e,fr,hA,_⟩:=B6 (by simp); cases hA
  subst h0
  refine Rd 2 [4] [(4,.bool true)]<|Ct true rfl<|Ra 1 [1,0,1,0,0] [.c [1,0,1,0,1],.c [1,1]]<|Rd 1 [2] [(2,.slice none 0 0)]<|b8.w5 ?_
  exact b8.done (by kernel_rfl) Tryz.func16 (v:=.slice none ([]:List Blob).length 0) (by kernel_rfl) ⟨none,0,none,rfl,rfl,rfl,b6.nil⟩
 | some ad =>
  refine Rd 2 [0,4] [(0,.slice (some ad) a0.length c8),(4,.bool false)]<|Cf false rfl<|Ra 2 [1,1,0] [.c [1,1,1]] ?_
  refine c6.e5 (j6.new (d:=5) (v:=fun g=>.slice (some ⟨g,0,none⟩) 0 0) (o:=fun g=>.cells #[] 44 (0,0)) (fun g=>by kernel_rfl)) ?_
  rintro _ _ _ _ ⟨g,rfl,rfl,rfl⟩
  have ho:b6 j7 44 H (some ⟨g,0,none⟩) 0 ([]:List Blob) (some (g,.cells #[] 44 (0,0))):=.inr ⟨g,0,#[],rfl,rfl,by simp,by simp [maxLen],by simp,Kd.q9.nil⟩
  refine Rk 2 [5,6] [(5,.slice (some ⟨g,0,none⟩) 0 0),(6,.slice (some ad) a0.length c8)] ?_
  refine c6.e5 (j6.append (d:=7) (k:=0) (t:=22) (e:=44) (bytes:=48) (kd:=j7) (n:=0) (m:=a0.length) (xs:=([]:List Blob)) (ys:=a0) (A:=some ⟨g,0,none⟩) (B:=some ad) (c:=0) (cB:=c8) (by kernel_rfl) rfl rfl (by kernel_rfl) rfl ho (fun w hh=>B6.Y9 (hh.drop 1)) (room_le hn) (by have:=room_le hn; omega)) ?_
  rintro _ _ _ _ ⟨A1,c1,r9,rfl,rfl,rfl,r8⟩
  refine Rd 4 [2] [(2,.slice A1 (([]:List Blob)++a0).length c1)] ?_
  exact b8.done (by kernel_rfl) Tryz.func16 (v:=.slice A1 (([]:List Blob)++a0).length c1) (by kernel_rfl) ⟨A1,c1,r9,rfl,rfl,rfl,r8⟩
noncomputable def C17:Ctx:={ P:=Tryz.prog,f:=17,N:=8,c:=C1 Tryz.f17 }
def S17 (F:List Ch) (H0:Hp) (r:List ByteArray) (v:Value) (H:Hp) (cs:List Ch):Prop:=∃ (ad8:Option Addr) (c0:Nat) (J6:Ch),H0=H∧v=.slice ad8 r.length c0∧J6::F=cs∧b6 Kd.string 9 H ad8 c0 r J6
theorem bH9 {a0:List ByteArray} {e7:Option Addr} {s0 c8:Nat} {r:List ByteArray} (B6:Rw Kd.string H F e7 a0) (G9:s0≤c8) (L8:s0=a0.length) (heq:slices_Clone_string.f a0=some r):z7 Tryz.prog 17 #[.slice e7 s0 c8] H w0 F (S17 F H r):=by
 refine ba4 (F:=C17) Tryz.func17 (by kernel_rfl) Tryz.ntmps17 (args:=[.slice e7 s0 c8]) (by kernel_rfl) ?_
 subst L8
 unfold slices_Clone_string.f at heq
 obtain ⟨hn,heq⟩:=M1 heq
 obtain rfl:=Option.some.inj heq
 refine Ra 1 [0] [.c [1]]<|Rd 1 [0] [(0,.slice e7 a0.length c8)]<|Ra 2 [1,0,0] [.c [1,0,1],.c [1,1]] ?_
 cases e7 with
 | none =>
  have h0:a0=[]:=by
   cases a0 with
   | nil=>rfl
   | cons x xs=>obtain ⟨b,off,cs,e,fr,hA,_⟩:=B6 (by simp); cases hA
  subst h0
  refine Rd 2 [4] [(4,.bool true)]<|Ct true rfl<|Ra 1 [1,0,1,0,0] [.c [1,0,1,0,1],.c [1,1]]<|Rd 1 [2] [(2,.slice none 0 0)]<|b8.w5 ?_
  exact b8.done (by kernel_rfl) Tryz.func17 (v:=.slice none ([]:List ByteArray).length 0) (by kernel_rfl) ⟨none,0,none,rfl,rfl,rfl,b6.nil⟩
 | some ad =>
  refine Rd 2 [0,4] [(0,.slice (some ad) a0.length c8),(4,.bool false)]<|Cf false rfl<|Ra 2 [1,1,0] [.c [1,1,1]] ?_
  refine c6.e5 (j6.new (d:=5) (v:=fun g=>.slice (some ⟨g,0,none⟩) 0 0) (o:=fun g=>.cells #[] 9 (0,0)) (fun g=>by kernel_rfl)) ?_
  rintro _ _ _ _ ⟨g,rfl,rfl,rfl⟩
  have ho:b6 Kd.string 9 H (some ⟨g,0,none⟩) 0 ([]:List ByteArray) (some (g,.cells #[] 9 (0,0))):=.inr ⟨g,0,#[],rfl,rfl,by simp,by simp [maxLen],by simp,Kd.q9.nil⟩
  refine Rk 2 [5,6] [(5,.slice (some ⟨g,0,none⟩) 0 0),(6,.slice (some ad) a0.length c8)] ?_
  refine c6.e5 (j6.append (d:=7) (k:=0) (t:=45) (e:=9) (bytes:=16) (kd:=Kd.string) (n:=0) (m:=a0.length) (xs:=([]:List ByteArray)) (ys:=a0) (A:=some ⟨g,0,none⟩) (B:=some ad) (c:=0) (cB:=c8) (by kernel_rfl) rfl rfl (by kernel_rfl) rfl ho (fun w hh=>B6.Y9 (hh.drop 1)) (room_le hn) (by have:=room_le hn; omega)) ?_
  rintro _ _ _ _ ⟨A1,c1,r9,rfl,rfl,rfl,r8⟩
  refine Rd 4 [2] [(2,.slice A1 (([]:List ByteArray)++a0).length c1)] ?_
  exact b8.done (by kernel_rfl) Tryz.func17 (v:=.slice A1 (([]:List ByteArray)++a0).length c1) (by kernel_rfl) ⟨A1,c1,r9,rfl,rfl,rfl,r8⟩
noncomputable def bt1:Ctx:={ P:=Tryz.prog,f:=4,N:=33,c:=C1 Tryz.f4 }
def bt2 (F:List Ch) (H0:Hp) (r:Cache) (v:Value) (H:Hp) (cs:List Ch):Prop:=∃ (E7:Option Addr) (E8:Nat) (F1:Ch) (P7:Option Addr) (P8:Nat) (Q9:Ch),v=.agg #[iv r.Room,iv r.c4,.slice E7 r.U.length E8,.slice P7 r.Entries.length P8]∧F1::Q9::F=cs∧b6 j7 44 H E7 E8 r.U F1∧b6 k5 47 H P7 P8 r.Entries Q9
theorem al0.D7 {r:Cache}:∀ (H:Hp) (a0:Cache) (e3:Option Addr) (e4 g1 g2:Nat) (y1:List Blob) (A1:Option Addr) (c1:Nat) (r9:Ch) (Z7:List Entry) (an5:Option Addr) (aL2 an6:Nat) (aE7:Ch) ,Rw k5 H F e3 a0.Entries→a0.Entries.length≤e4→b6 j7 44 H A1 c1 y1 r9→b6 k5 47 H an5 an6 Z7 aE7→aL2=Z7.length→al0.e1 a0 y1 Z7=some r→b8 bt1 (bt2 F H0 r) H0 w0 [.c [1,1,1,1,0],.c [1,1,1,1,1]] [(1,pg g1 0),(2,pg g2 0),(3,.slice an5 aL2 an6)] H (aE7::r9::(some (g2,.cells #[iv 0,iv 0,.slice none 0 0,.slice none 0 0] 25 (0,0)))::(some (g1,.cells #[iv a0.Room,iv a0.c4,.slice A1 y1.length c1,.slice e3 a0.Entries.length e4] 25 (0,0)))::F):=by
 intro H a0 e3 e4 g1 g2 y1 A1 c1 r9 Z7 an5 aL2 an6 aE7 l8 q8 r8 bd5 bI0 heq
 subst bI0
 unfold al0.e1 at heq
 refine Sa 0<|Zk 2 ?_
 refine c6.e5 (j6.store (k:=3) (g:=g1) (off:=3) (v:=.slice an5 Z7.length an6) (cells':=#[iv a0.Room,iv a0.c4,.slice A1 y1.length c1,.slice an5 Z7.length an6]) (by kernel_rfl) rfl (by kernel_rfl) (by kernel_rfl)) ?_
 rintro _ _ _ _ ⟨rfl,rfl,rfl⟩
 refine c6.p6 ?_
 refine Dn<|Sa 1<|Zv 1 (C8 3) ?_
 refine c6.e5 (j6.store (k:=2) (g:=g2) (off:=0) (v:=.agg #[iv a0.Room,iv a0.c4,.slice A1 y1.length c1,.slice an5 Z7.length an6]) (cells':=#[iv a0.Room,iv a0.c4,.slice A1 y1.length c1,.slice an5 Z7.length an6]) (by kernel_rfl) rfl (by kernel_rfl) (by kernel_rfl)) ?_
 rintro _ _ _ _ ⟨rfl,rfl,rfl⟩
 refine c6.p6 ?_
 refine Dn ?_
 obtain rfl:=Option.some.inj heq
 refine Up 4 [2,1,0] ?_
 exact b8.I3 1 (vs:=[.agg #[iv a0.Room,iv a0.c4,.slice A1 y1.length c1,.slice an5 Z7.length an6]]) (v:=.agg #[iv a0.Room,iv a0.c4,.slice A1 y1.length c1,.slice an5 Z7.length an6]) (by kernel_rfl) Tryz.func4 (fun w hh=>show G2 _ _ _ [.cell 2 25] _ from ⟨⟨⟨g2,0,none⟩,by kernel_rfl,F5 _ (vs:=[iv a0.Room,iv a0.c4,.slice A1 y1.length c1,.slice an5 Z7.length an6]) (r:=[]) (es:=[.load ⟨g2,0,none⟩ (iv a0.Room),.load ⟨g2,1,none⟩ (iv a0.c4),.load ⟨g2,2,none⟩ (.slice A1 y1.length c1),.load ⟨g2,3,none⟩ (.slice an5 Z7.length an6)]) (by kernel_rfl) ⟨(hh.box 0 rfl rfl),(hh.box 0 rfl rfl),(hh.box 0 rfl rfl),(hh.box 0 rfl rfl)⟩⟩,trivial⟩) rfl (cs':=r9::aE7::F) rfl ⟨A1,c1,r9,an5,an6,aE7,rfl,rfl,r8,bd5⟩
theorem al0.F9 {r:Cache} (e1:Cache→(List Blob)→(List Entry)→Option Cache)
  (D4:∀ (H:Hp) (a0:Cache) (e3:Option Addr) (e4 g1 g2:Nat) (y1:List Blob) (A1:Option Addr) (c1:Nat) (r9:Ch) (Z7:List Entry) (an5:Option Addr) (aL2 an6:Nat) (aE7:Ch) ,Rw k5 H F e3 a0.Entries→a0.Entries.length≤e4→b6 j7 44 H A1 c1 y1 r9→b6 k5 47 H an5 an6 Z7 aE7→aL2=Z7.length→e1 a0 y1 Z7=some r→b8 bt1 (bt2 F H0 r) H0 w0 [.c [1,1,1,1,0],.c [1,1,1,1,1]] [(1,pg g1 0),(2,pg g2 0),(3,.slice an5 aL2 an6)] H (aE7::r9::(some (g2,.cells #[iv 0,iv 0,.slice none 0 0,.slice none 0 0] 25 (0,0)))::(some (g1,.cells #[iv a0.Room,iv a0.c4,.slice A1 y1.length c1,.slice e3 a0.Entries.length e4] 25 (0,0)))::F)):∀ (k:Nat),∀ (H:Hp) (a0:Cache) (e3:Option Addr) (e4 g1 g2:Nat) (y1:List Blob) (A1:Option Addr) (c1:Nat) (r9:Ch) (Z7:List Entry) (an5:Option Addr) (aL2 an6:Nat) (aE7:Ch) (U0:Int) ,Rw k5 H F e3 a0.Entries→a0.Entries.length≤e4→b6 j7 44 H A1 c1 y1 r9→b6 k5 47 H an5 an6 Z7 aE7→aL2=Z7.length→al0.l2 e1 k a0 y1 Z7 U0=some r→b8 bt1 (bt2 F H0 r) H0 w0 [.c [1,1,1,0,1,0,0],.l [1,1,1,0,1,0,0],.b 0,.c [1,1,1,1]] [(1,pg g1 0),(2,pg g2 0),(3,.slice an5 aL2 an6),(4,iv U0)] H (aE7::r9::(some (g2,.cells #[iv 0,iv 0,.slice none 0 0,.slice none 0 0] 25 (0,0)))::(some (g1,.cells #[iv a0.Room,iv a0.c4,.slice A1 y1.length c1,.slice e3 a0.Entries.length e4] 25 (0,0)))::F):=by
 intro k
 induction k with
 | zero=>intro H a0 e3 e4 g1 g2 y1 A1 c1 r9 Z7 an5 aL2 an6 aE7 U0 l8 q8 r8 bd5 bI0 heq; exact nomatch (show (none:Option Cache)=some r from heq)
 | succ k u0 =>
  intro H a0 e3 e4 g1 g2 y1 A1 c1 r9 Z7 an5 aL2 an6 aE7 U0 l8 q8 r8 bd5 bI0 heq
  subst bI0
  rw [al0.l2] at heq
  refine Sa 2<|Zw 5 [bx 3 3] ?_
  refine Cb heq ?_ ?_
  ·intro o8 heq
   refine Sa 4 ?_
   obtain ⟨x1,hx1,heq⟩:=bind_some heq
   obtain ⟨A7,I1,B1,B2⟩:=l8.get hx1
   obtain ⟨aa3,c2,rfl,hc1,I0⟩:=Y7 B1
   refine Zv 5 ([bx 3 3,nx A7 hx1]++ers B2 4) ?_
   refine c6.e5 (j6.new (d:=5) (v:=fun g=>.pointer (some ⟨g,0,none⟩)) (o:=fun g=>.cells #[.string ByteArray.empty,.slice none 0 0,iv 0] 47 (0,0)) (fun g=>by kernel_rfl)) ?_
   rintro _ _ _ _ ⟨g3,rfl,rfl,rfl⟩
   refine c6.e5 (j6.store (k:=0) (g:=g3) (off:=0) (v:=.agg #[.string x1.Key,.slice aa3 x1.Refs.length c2,iv x1.Used]) (cells':=#[.string x1.Key,.slice aa3 x1.Refs.length c2,iv x1.Used]) (by kernel_rfl) rfl (by kernel_rfl) (by kernel_rfl)) ?_
   rintro _ _ _ _ ⟨rfl,rfl,rfl⟩
   refine c6.p6 ?_
   refine Dn<|Sa 1<|Zv 2 [bx 0 1] ?_
   obtain ⟨y2,hy2,heq⟩:=bind_some heq
   refine c6.e5 (o9 24 (bH9 (a0:=x1.Refs) (Rw.of I0) hc1 rfl hy2)) ?_
   rintro _ _ _ _ ⟨_,rfl,aa8,c3,B5,rfl,rfl,rfl,w8⟩
   refine Zk 4 ?_
   refine c6.e5 (j6.store (k:=1) (g:=g3) (off:=1) (v:=.slice aa8 y2.length c3) (cells':=#[.string x1.Key,.slice aa8 y2.length c3,iv x1.Used]) (by kernel_rfl) rfl (by kernel_rfl) (by kernel_rfl)) ?_
   rintro _ _ _ _ ⟨rfl,rfl,rfl⟩
   refine c6.p6 ?_
   refine Dn<|Sa 0<|Zv 2 (C8 1) ?_
   have N9:=w8.cap
   refine Hs.aD8 w8 (fun H hl hr2=>?_)
   replace r8:=r8.mono hl
   replace l8:=l8.mono hl
   replace bd5:=bd5.mono hl
   refine c6.e5 (j6.new (d:=28) (v:=fun g=>.slice (some ⟨g,0,none⟩) 1 1) (o:=fun g=>.cells #[.string x1.Key,.slice aa8 y2.length c3,iv x1.Used] 47 (0,0)) (fun g=>by kernel_rfl)) ?_
   rintro _ _ _ _ ⟨g4,rfl,rfl,rfl⟩
   have w4:b6 k5 47 H (some ⟨g4,0,none⟩) 1 ([(⟨x1.Key,y2,x1.Used⟩:Entry)]:List Entry) (some (g4,.cells #[.string x1.Key,.slice aa8 y2.length c3,iv x1.Used] 47 (0,0))):=b6.lit (xs:=([(⟨x1.Key,y2,x1.Used⟩:Entry)]:List Entry)) (by kernel_rfl) (Nat.le_of_ble_eq_true (by kernel_rfl)) (Kd.q9.one (aT4 N9 hr2))
   obtain ⟨C4,heq⟩:=M1 heq
   refine c6.e5 (j6.append (d:=29) (k:=2) (t:=23) (e:=47) (bytes:=48) (kd:=k5) (n:=Z7.length) (m:=1) (xs:=Z7) (ys:=([(⟨x1.Key,y2,x1.Used⟩:Entry)]:List Entry)) (A:=an5) (B:=(some ⟨g4,0,none⟩)) (c:=an6) (cB:=1) (by kernel_rfl) rfl rfl (by kernel_rfl) rfl bd5 (fun w hh=>w4.Y9 (hh.N1 0 rfl)) (room_le C4) (by have:=room_le C4; omega)) ?_
   rintro _ _ _ _ ⟨aa9,y8,E6,rfl,rfl,rfl,C9⟩
   refine c6.p6 ?_
   refine Zd 5<|Sa 1<|Zd 3<|An 1 ?_
   exact Gt 2 [] (u0 _ a0 _ _ _ _ y1 _ _ _ (Z7++([(⟨x1.Key,y2,x1.Used⟩:Entry)]:List Entry)) _ _ _ _ (c5 (U0+1)) l8 q8 r8 C9 rfl heq)
  ·intro o8 heq
   refine An 2 ?_
   exact Gt 0 [] (D4 _ a0 _ _ _ _ y1 _ _ _ Z7 _ _ _ _ l8 q8 r8 bd5 rfl heq)
theorem dd2 {a0:Cache} {e6:Option Addr} {q2 e8:Nat} {e3:Option Addr} {p7 e4:Nat} {r:Cache} (heq:al0.f a0=some r) (n9:Rw j7 H0 F e6 a0.U) (s7:q2≤e8) (B9:q2=a0.U.length) (l8:Rw k5 H0 F e3 a0.Entries) (q8:p7≤e4) (B4:p7=a0.Entries.length):z7 Tryz.prog 4 #[.agg #[iv a0.Room,iv a0.c4,.slice e6 q2 e8,.slice e3 p7 e4]] H0 w0 (F) (bt2 F H0 r):=by
 refine Co bt1 Tryz.func4 Tryz.ntmps4 ?_
 subst B9
 subst B4
 unfold al0.f at heq
 suffices key:∀ (H:Hp),Rw j7 H F e6 a0.U→Rw k5 H F e3 a0.Entries→b8 bt1 (bt2 F H0 r) H0 w0 [.c []] (Z3 0 [.agg #[iv a0.Room,iv a0.c4,.slice e6 (a0.U.length) e8,.slice e3 (a0.Entries.length) e4]]) H (F) from key H0 n9 l8
 intro H n9 l8
 refine Sa 1 ?_
 refine c6.e5 (j6.new (d:=1) (v:=fun g=>.pointer (some ⟨g,0,none⟩)) (o:=fun g=>.cells #[iv a0.Room,iv a0.c4,.slice e6 a0.U.length e8,.slice e3 a0.Entries.length e4] 25 (0,0)) (fun g=>by kernel_rfl)) ?_
 rintro _ _ _ _ ⟨g1,rfl,rfl,rfl⟩
 refine c6.e5 (j6.new (d:=2) (v:=fun g=>.pointer (some ⟨g,0,none⟩)) (o:=fun g=>.cells #[iv 0,iv 0,.slice none 0 0,.slice none 0 0] 25 (0,0)) (fun g=>by kernel_rfl)) ?_
 rintro _ _ _ _ ⟨g2,rfl,rfl,rfl⟩
 refine Dn<|Sa 1<|Zv 2 [bx 1 2] ?_
 obtain ⟨y1,hy1,heq⟩:=bind_some heq
 refine c6.e5 (o9 8 (bX3 (a0:=a0.U) (n9.wk (fun _ h=>(.tail _ (.tail _ h)))) s7 rfl hy1)) ?_
 rintro _ _ _ _ ⟨_,rfl,A1,c1,r9,rfl,rfl,rfl,r8⟩
 refine Zk 4 ?_
 refine c6.e5 (j6.store (k:=2) (g:=g1) (off:=2) (v:=.slice A1 y1.length c1) (cells':=#[iv a0.Room,iv a0.c4,.slice A1 y1.length c1,.slice e3 a0.Entries.length e4]) (by kernel_rfl) rfl (by kernel_rfl) (by kernel_rfl)) ?_
 rintro _ _ _ _ ⟨rfl,rfl,rfl⟩
 refine c6.p6 ?_
 refine Dn<|Sa 1<|Zd 1<|Sa 2<|Zd 1<|An 2<|b8.w5 ?_
 have H7:b6 k5 47 H none 0 ([]:List Entry) none:=b6.nil
 exact Gt 0 [] (((al0.F9 (e1:=al0.e1) (al0.D7)) n8) _ a0 _ _ _ _ y1 _ _ _ ([]:List Entry) _ _ _ _ 0 l8 q8 r8 H7 rfl heq)
noncomputable def bt3:Ctx:={ P:=Tryz.prog,f:=5,N:=25,c:=C1 Tryz.f5 }
def S5 (F:List Ch) (H0:Hp) (r:(List k7)) (v:Value) (H:Hp) (cs:List Ch):Prop:=∃ (ad8:Option Addr) (c0:Nat) (J6:Ch),v=.slice ad8 r.length c0∧J6::F=cs∧b6 O1 50 H ad8 c0 r J6
theorem aj6.D7 {r:(List k7)}:∀ (H:Hp) (ah4:List k7) (aC4:Option Addr) (aL3 aC5:Nat) (aH7:Ch) ,b6 O1 50 H aC4 aC5 ah4 aH7→aL3=ah4.length→aj6.e1 ah4=some r→b8 bt3 (S5 F H0 r) H0 w0 [.c [1,1,1,0],.c [1,1,1,1]] [(3,.slice aC4 aL3 aC5)] H (aH7::F):=by
 intro H ah4 aC4 aL3 aC5 aH7 bd6 bI1 heq
 subst bI1
 unfold aj6.e1 at heq
 refine Sa 0<|Zd 2 ?_
 obtain rfl:=Option.some.inj heq
 exact b8.done (by kernel_rfl) Tryz.func5 (v:=.slice aC4 ah4.length aC5) (by kernel_rfl) ⟨aC4,aC5,aH7,rfl,rfl,bd6⟩
theorem aj6.F9 {r:(List k7)} (e1:(List k7)→Option (List k7))
  (D4:∀ (H:Hp) (ah4:List k7) (aC4:Option Addr) (aL3 aC5:Nat) (aH7:Ch) ,b6 O1 50 H aC4 aC5 ah4 aH7→aL3=ah4.length→e1 ah4=some r→b8 bt3 (S5 F H0 r) H0 w0 [.c [1,1,1,0],.c [1,1,1,1]] [(3,.slice aC4 aL3 aC5)] H (aH7::F)):∀ (k:Nat),∀ (H:Hp) (a0:List k7) (e7:Option Addr) (c8:Nat) (ah4:List k7) (aC4:Option Addr) (aL3 aC5:Nat) (aH7:Ch) (U0:Int) ,Rw O1 H F e7 a0→a0.length≤c8→b6 O1 50 H aC4 aC5 ah4 aH7→aL3=ah4.length→aj6.l2 e1 k a0 ah4 U0=some r→b8 bt3 (S5 F H0 r) H0 w0 [.c [1,1,0,1,0,0],.l [1,1,0,1,0,0],.b 0,.c [1,1,1]] [(0,.slice e7 a0.length c8),(3,.slice aC4 aL3 aC5),(4,iv U0)] H (aH7::F):=by
 intro k
 induction k with
 | zero=>intro H a0 e7 c8 ah4 aC4 aL3 aC5 aH7 U0 B6 G9 bd6 bI1 heq; exact nomatch (show (none:Option (List k7))=some r from heq)
 | succ k u0 =>
  intro H a0 e7 c8 ah4 aC4 aL3 aC5 aH7 U0 B6 G9 bd6 bI1 heq
  subst bI1
  rw [aj6.l2] at heq
  refine Sa 2<|Zd 4 ?_
  refine Cb heq ?_ ?_
  ·intro o8 heq
   refine Sa 4 ?_
   obtain ⟨x1,hx1,heq⟩:=bind_some heq
   obtain ⟨A7,I1,B1,B2⟩:=B6.get hx1
   obtain ⟨A1,c1,rfl,hc1,I0⟩:=aT2 B1
   refine Zv 4 ([nx A7 hx1]++ers B2 1) ?_
   refine c6.e5 (j6.new (d:=5) (v:=fun g=>.pointer (some ⟨g,0,none⟩)) (o:=fun g=>.cells #[iv 0,iv 0,.string ByteArray.empty,.slice none 0 0,.string ByteArray.empty,iv 0] 50 (0,0)) (fun g=>by kernel_rfl)) ?_
   rintro _ _ _ _ ⟨g1,rfl,rfl,rfl⟩
   refine c6.e5 (j6.store (k:=0) (g:=g1) (off:=0) (v:=.agg #[iv x1.Kind,iv x1.At,.string x1.b7,.slice A1 x1.j9.length c1,.string x1.Key,iv x1.j4]) (cells':=#[iv x1.Kind,iv x1.At,.string x1.b7,.slice A1 x1.j9.length c1,.string x1.Key,iv x1.j4]) (by kernel_rfl) rfl (by kernel_rfl) (by kernel_rfl)) ?_
   rintro _ _ _ _ ⟨rfl,rfl,rfl⟩
   refine c6.p6 ?_
   refine Dn<|Sa 1<|Zv 2 [bx 0 3] ?_
   obtain ⟨y1,hy1,heq⟩:=bind_some heq
   refine c6.e5 (o9 18 (bH9 (a0:=x1.j9) (Rw.of I0) hc1 rfl hy1)) ?_
   rintro _ _ _ _ ⟨_,rfl,aa3,c2,r9,rfl,rfl,rfl,r8⟩
   refine Zk 4 ?_
   refine c6.e5 (j6.store (k:=1) (g:=g1) (off:=3) (v:=.slice aa3 y1.length c2) (cells':=#[iv x1.Kind,iv x1.At,.string x1.b7,.slice aa3 y1.length c2,.string x1.Key,iv x1.j4]) (by kernel_rfl) rfl (by kernel_rfl) (by kernel_rfl)) ?_
   rintro _ _ _ _ ⟨rfl,rfl,rfl⟩
   refine c6.p6 ?_
   refine Dn<|Sa 0<|Zv 2 (C8 1) ?_
   have N9:=r8.cap
   refine Hs.aD8 r8 (fun H hl hr2=>?_)
   replace B6:=B6.mono hl
   replace bd6:=bd6.mono hl
   refine c6.e5 (j6.new (d:=22) (v:=fun g=>.slice (some ⟨g,0,none⟩) 1 1) (o:=fun g=>.cells #[iv x1.Kind,iv x1.At,.string x1.b7,.slice aa3 y1.length c2,.string x1.Key,iv x1.j4] 50 (0,0)) (fun g=>by kernel_rfl)) ?_
   rintro _ _ _ _ ⟨g2,rfl,rfl,rfl⟩
   have w8:b6 O1 50 H (some ⟨g2,0,none⟩) 1 ([(⟨x1.Kind,x1.At,x1.b7,y1,x1.Key,x1.j4⟩:k7)]:List k7) (some (g2,.cells #[iv x1.Kind,iv x1.At,.string x1.b7,.slice aa3 y1.length c2,.string x1.Key,iv x1.j4] 50 (0,0))):=b6.lit (xs:=([(⟨x1.Kind,x1.At,x1.b7,y1,x1.Key,x1.j4⟩:k7)]:List k7)) (by kernel_rfl) (Nat.le_of_ble_eq_true (by kernel_rfl)) (Kd.q9.one (dd8 N9 hr2))
   obtain ⟨C4,heq⟩:=M1 heq
   refine c6.e5 (j6.append (d:=23) (k:=2) (t:=26) (e:=50) (bytes:=80) (kd:=O1) (n:=ah4.length) (m:=1) (xs:=ah4) (ys:=([(⟨x1.Kind,x1.At,x1.b7,y1,x1.Key,x1.j4⟩:k7)]:List k7)) (A:=aC4) (B:=(some ⟨g2,0,none⟩)) (c:=aC5) (cB:=1) (by kernel_rfl) rfl rfl (by kernel_rfl) rfl bd6 (fun w hh=>w8.Y9 (hh.N1 0 rfl)) (room_le C4) (by have:=room_le C4; omega)) ?_
   rintro _ _ _ _ ⟨aa8,c3,B5,rfl,rfl,rfl,w4⟩
   refine c6.p6 ?_
   refine Zd 5<|Sa 1<|Zd 3<|An 1 ?_
   exact Gt 2 [] (u0 _ a0 _ _ (ah4++([(⟨x1.Kind,x1.At,x1.b7,y1,x1.Key,x1.j4⟩:k7)]:List k7)) _ _ _ _ (c5 (U0+1)) B6 G9 w4 rfl heq)
  ·intro o8 heq
   refine An 2 ?_
   exact Gt 0 [] (D4 _ ah4 _ _ _ _ bd6 rfl heq)
theorem dd3 {a0:List k7} {e7:Option Addr} {s0 c8:Nat} {r:(List k7)} (heq:aj6.f a0=some r) (B6:Rw O1 H0 F e7 a0) (G9:s0≤c8) (L8:s0=a0.length):z7 Tryz.prog 5 #[.slice e7 s0 c8] H0 w0 (F) (S5 F H0 r):=by
 refine Co bt3 Tryz.func5 Tryz.ntmps5 ?_
 subst L8
 unfold aj6.f at heq
 suffices key:∀ (H:Hp),Rw O1 H F e7 a0→b8 bt3 (S5 F H0 r) H0 w0 [.c []] (Z3 0 [.slice e7 (a0.length) c8]) H (F) from key H0 B6
 intro H B6
 refine Sa 1<|Zd 1<|Sa 1<|Zd 1<|Sa 2<|Zd 1<|An 2<|b8.w5 ?_
 have C9:b6 O1 50 H none 0 ([]:List k7) none:=b6.nil
 exact Gt 0 [] (((aj6.F9 (e1:=aj6.e1) (aj6.D7)) n8) _ a0 _ _ ([]:List k7) _ _ _ _ 0 B6 G9 C9 rfl heq)
noncomputable def C33:Ctx:={ P:=Tryz.prog,f:=33,N:=15,c:=C1 Tryz.f33 }
def S33 (F:List Ch) (H0:Hp) (r:Bool) (v:Value) (H:Hp) (cs:List Ch):Prop:=H0=H∧v=.bool r∧F=cs
theorem aY1 {a0 a1 a2:Int} {r:Bool} (heq:aH1.f a0 a1 a2=some r):z7 Tryz.prog 33 #[iv a0,iv a1,iv a2] H w0 (F) (S33 F H r):=by
 refine Co C33 Tryz.func33 Tryz.ntmps33 ?_
 unfold aH1.f at heq
 refine Sa 1<|Zd 1<|An 1 ?_
 obtain ⟨t1,A9,heq⟩:=bind_some heq
 have Z0:b8 C33 (S33 F H r) H w0 [.c [1,1]] [(6,.bool t1)] H (F):=by
  obtain rfl:=Option.some.inj heq
  exact b8.done (by kernel_rfl) Tryz.func33 (v:=.bool t1) (by kernel_rfl) ⟨rfl,rfl,rfl⟩
 replace heq:=A9
 refine Sa 0<|Zk 4 ?_
 rcases y9 (decide (a1≤a0)) with o8 | o8
 ·replace heq:=A5 o8 heq
  refine Zs 10 (congrArg Value.bool o8)<|Zk 9 ?_
  obtain rfl:=Option.some.inj heq
  refine Dn ?_
  exact Gt 0 [] (Z0)
 ·replace heq:=A6 o8 heq
  refine Zs 10 (congrArg Value.bool o8)<|Zk 9 ?_
  obtain rfl:=Option.some.inj heq
  refine Dn ?_
  exact Gt 0 [] (Z0)
def S59 (F:List Ch) (H0:Hp) (r:ByteArray) (v:Value) (H:Hp) (cs:List Ch):Prop:=H0=H∧v=.string r∧F=cs
theorem de4 {a0:ByteArray} {a1:ByteArray} {r:ByteArray} (heq:strings_Trim.f a0 a1=some r):z7 Tryz.prog 59 #[.string a0,.string a1] H w0 F (S59 F H r):=by
 intro w hh
 unfold strings_Trim.f at heq
 obtain ⟨hn,heq⟩:=M1 heq
 obtain rfl:=Option.some.inj heq
 refine (Shelf.Tryz.strings_Trim a0 a1 w (by simp at hn; exact hn.1) (by simp at hn; exact hn.2.1) (by have h:=hn; rw [Bool.and_eq_true,Bool.and_eq_true] at h; exact ascii_of_all h.2.2)).mono ?_
 rintro e w' ⟨rfl,hx⟩
 exact ⟨_,rfl,H,F,Le.refl H,hh.later hx,rfl,rfl,rfl⟩
noncomputable def C35:Ctx:={ P:=Tryz.prog,f:=35,N:=11,c:=C1 Tryz.f35 }
def S35 (F:List Ch) (H0:Hp) (r:Bool) (v:Value) (H:Hp) (cs:List Ch):Prop:=H0=H∧v=.bool r∧F=cs
theorem bt5 {a0:ByteArray} {r:Bool} (heq:aS0.f a0=some r):z7 Tryz.prog 35 #[.string a0] H w0 (F) (S35 F H r):=by
 refine Co C35 Tryz.func35 Tryz.ntmps35 ?_
 unfold aS0.f at heq
 refine Sa 1<|Zd 1<|An 1 ?_
 obtain ⟨t1,A9,heq⟩:=bind_some heq
 have Z0:b8 C35 (S35 F H r) H w0 [.c [1,1]] [(2,.bool t1)] H (F):=by
  obtain rfl:=Option.some.inj heq
  exact b8.done (by kernel_rfl) Tryz.func35 (v:=.bool t1) (by kernel_rfl) ⟨rfl,rfl,rfl⟩
 replace heq:=A9
 refine Sa 0<|Zk 4 ?_
 rcases y9 ((a0.size:Int) == 16) with o8 | o8
 ·replace heq:=A5 o8 heq
  refine Zs 6 (congrArg Value.bool o8)<|Zk 5 ?_
  obtain ⟨y1,hy1,heq⟩:=bind_some heq
  refine c6.e5 (o9 8 (de4 (a0:=a0) (a1:=({ data:=#[48,49,50,51,52,53,54,55,56,57,97,98,99,100,101,102] }:ByteArray))  hy1)) ?_
  rintro _ _ _ _ ⟨_,rfl,rfl,rfl,rfl⟩
  refine Zk 9 ?_
  obtain rfl:=Option.some.inj heq
  refine Dn ?_
  exact Gt 0 [] (Z0)
 ·replace heq:=A6 o8 heq
  refine Zs 6 (congrArg Value.bool o8)<|Zk 9 ?_
  obtain rfl:=Option.some.inj heq
  refine Dn ?_
  exact Gt 0 [] (Z0)
noncomputable def C37:Ctx:={ P:=Tryz.prog,f:=37,N:=5,c:=C1 Tryz.f37 }
def S37 (F:List Ch) (H0:Hp) (r:Bool) (v:Value) (H:Hp) (cs:List Ch):Prop:=H0=H∧v=.bool r∧F=cs
theorem bX4 {a0:Int} {r:Bool} (heq:aW0.f a0=some r):z7 Tryz.prog 37 #[iv a0] H w0 (F) (S37 F H r):=by
 refine Co C37 Tryz.func37 Tryz.ntmps37 ?_
 unfold aW0.f at heq
 refine Sa 1<|Zd 1<|Sa 1<|Zk 1 ?_
 obtain ⟨y1,hy1,heq⟩:=bind_some heq
 refine c6.e5 (o9 4 (aY1 hy1 )) ?_
 rintro _ _ _ _ ⟨_,rfl,rfl,rfl,rfl⟩
 refine Zd 3 ?_
 obtain rfl:=Option.some.inj heq
 exact b8.done (by kernel_rfl) Tryz.func37 (v:=.bool y1) (by kernel_rfl) ⟨rfl,rfl,rfl⟩
noncomputable def C34:Ctx:={ P:=Tryz.prog,f:=34,N:=68,c:=C1 Tryz.f34 }
def S34 (F:List Ch) (H0:Hp) (r:Int) (v:Value) (H:Hp) (cs:List Ch):Prop:=H0=H∧v=iv r∧F=cs
theorem ak9.D7 {r:Int}:∀ (a1 ap3:Int) ,ak9.e1 a1 ap3=some r→b8 C34 (S34 F H r) H w0 [.c [1,1,1,1,0,0],.c [1,1,1,1,0,1],.c [1,1,1,1,1]] [(1,iv a1),(5,iv ap3)] H (F):=by
 intro a1 ap3  heq
 unfold ak9.e1 at heq
 refine Sa 0<|Zd 3 ?_
 refine Cb heq ?_ ?_
 ·intro s3 heq
  refine Sa 1<|Zd 1 ?_
  obtain rfl:=Option.some.inj heq
  exact b8.done (by kernel_rfl) Tryz.func34 (v:=iv 16) (by kernel_rfl) ⟨rfl,rfl,rfl⟩
 ·intro s3 heq
  refine Sa 2<|Zd 1 ?_
  obtain rfl:=Option.some.inj heq
  exact b8.done (by kernel_rfl) Tryz.func34 (v:=iv 0) (by kernel_rfl) ⟨rfl,rfl,rfl⟩
theorem ak9.F9 {r:Int} (e1:Int→Int→Option Int)
  (D4:∀ (a1 ap3:Int) ,e1 a1 ap3=some r→b8 C34 (S34 F H r) H w0 [.c [1,1,1,1,0,0],.c [1,1,1,1,0,1],.c [1,1,1,1,1]] [(1,iv a1),(5,iv ap3)] H (F)):∀ (k:Nat),∀ (a0:List Blob) (e7:Option Addr) (c8:Nat) (a1 ap3 v13:Int) ,Rw j7 H F e7 a0→a0.length≤c8→ak9.l2 e1 k a0 a1 ap3 v13=some r→b8 C34 (S34 F H r) H w0 [.c [1,1,1,0,1,0,0],.l [1,1,1,0,1,0,0],.b 0,.c [1,1,1,1]] [(0,.slice e7 a0.length c8),(1,iv a1),(5,iv ap3),(11,.slice e7 a0.length c8),(12,iv (a0.length:Int)),(13,iv v13)] H (F):=by
 intro k
 induction k with
 | zero=>intro a0 e7 c8 a1 ap3 v13 B6 G9 heq; exact nomatch (show (none:Option Int)=some r from heq)
 | succ k u0 =>
  intro a0 e7 c8 a1 ap3 v13 B6 G9 heq
  rw [ak9.l2] at heq
  refine Sa 1<|Zd 1<|An 1 ?_
  refine Cb heq ?_ ?_
  ·intro x7 heq
   refine Sa 4 ?_
   obtain ⟨x1,hx1,heq⟩:=bind_some heq
   obtain ⟨A7,I1,B1,B2⟩:=B6.get hx1
   obtain ⟨rfl⟩:=C6 B1
   refine Zv 3 ([nx A7 hx1]++ers B2 0) ?_
   refine c6.e5 (j6.new (d:=7) (v:=fun g=>.pointer (some ⟨g,0,none⟩)) (o:=fun g=>.cells #[.string ByteArray.empty,iv 0,iv 0,iv 0,iv 0] 44 (0,0)) (fun g=>by kernel_rfl)) ?_
   rintro _ _ _ _ ⟨g1,rfl,rfl,rfl⟩
   refine Zk 5 ?_
   refine c6.e5 (j6.store (k:=0) (g:=g1) (off:=0) (v:=.agg #[.string x1.b7,iv x1.j4,iv x1.Used,iv x1.u6,iv x1.q4]) (cells':=#[.string x1.b7,iv x1.j4,iv x1.Used,iv x1.u6,iv x1.q4]) (by kernel_rfl) rfl (by kernel_rfl) (by kernel_rfl)) ?_
   rintro _ _ _ _ ⟨rfl,rfl,rfl⟩
   refine c6.p6 ?_
   refine Dn<|Sa 3<|Zv 2 [bx 0 0] ?_
   obtain ⟨y1,hy1,heq⟩:=bind_some heq
   refine c6.e5 (o9 21 (bt5 hy1 )) ?_
   rintro _ _ _ _ ⟨_,rfl,rfl,rfl,rfl⟩
   refine Zd 5 ?_
   refine Cb heq ?_ ?_
   ·intro B3 heq
    refine Sa 1<|Zd 1 ?_
    obtain rfl:=Option.some.inj heq
    refine Up 1 [] ?_
    exact b8.done (by kernel_rfl) Tryz.func34 (v:=iv 3) (by kernel_rfl) ⟨rfl,rfl,rfl⟩
   ·intro B3 heq
    refine An 1 ?_
    obtain ⟨t1,A9,heq⟩:=bind_some heq
    have O0:b8 C34 (S34 F H r) H w0 [.c [1,1,1,0,1,0,0,1,1,0,0,1,0,0,1,1,1],.b 2,.c [1,1,1,0,1,0,0,1,1,0,0,1,1],.b 1,.c [1,1,1,0,1,0,0,1,1,1],.l [1,1,1,0,1,0,0],.b 0,.c [1,1,1,1]] [(0,.slice e7 a0.length c8),(1,iv a1),(5,iv ap3),(6,iv v13),(7,pg g1 0),(11,.slice e7 a0.length c8),(12,iv (a0.length:Int)),(13,iv v13),(23,.bool t1)] H ((some (g1,.cells #[.string x1.b7,iv x1.j4,iv x1.Used,iv x1.u6,iv x1.q4] 44 (0,0)))::F):=by
     refine Cb heq ?_ ?_
     ·intro Y0 heq
      refine Sa 1<|Zd 1 ?_
      obtain rfl:=Option.some.inj heq
      refine Up 1 [] ?_
      exact b8.done (by kernel_rfl) Tryz.func34 (v:=iv 1) (by kernel_rfl) ⟨rfl,rfl,rfl⟩
     ·intro Y0 heq
      refine An 1 ?_
      obtain ⟨t2,ht2,heq⟩:=bind_some heq
      have ap2:b8 C34 (S34 F H r) H w0 [.c [1,1,1,0,1,0,0,1,1,0,0,1,0,0,1,1,1,1,1],.b 2,.c [1,1,1,0,1,0,0,1,1,0,0,1,1],.b 1,.c [1,1,1,0,1,0,0,1,1,1],.l [1,1,1,0,1,0,0],.b 0,.c [1,1,1,1]] [(0,.slice e7 a0.length c8),(1,iv a1),(5,iv ap3),(7,pg g1 0),(11,.slice e7 a0.length c8),(12,iv (a0.length:Int)),(13,iv v13),(46,.bool t2)] H ((some (g1,.cells #[.string x1.b7,iv x1.j4,iv x1.Used,iv x1.u6,iv x1.q4] 44 (0,0)))::F):=by
       refine Cb heq ?_ ?_
       ·intro Y1 heq
        refine Sa 1<|Zd 1 ?_
        obtain rfl:=Option.some.inj heq
        refine Up 1 [] ?_
        exact b8.done (by kernel_rfl) Tryz.func34 (v:=iv 8) (by kernel_rfl) ⟨rfl,rfl,rfl⟩
       ·intro Y1 heq
        refine Sa 2<|Zw 5 [bx 0 1]<|Sa 1<|Zd 2<|An 1 ?_
        exact Gt 1 [] (u0 a0 _ _ a1 (c5 (ap3+x1.j4)) (c5 (v13+1)) B6 G9 heq)
      replace heq:=ht2
      refine Sd 0 14 [] [3,3,3,3,3,3,3,3,3,3,3,3,3,3]<|Zr [0,1,2] 11 [] (Pk 1 [0]) (Pk 1 [0]) ?_
      rcases y9 (decide (0<v13)) with R6 | R6
      ·replace heq:=A5 R6 heq
       refine Zu 49 (congrArg Value.bool R6) ?_
       obtain ⟨x2,w6,heq⟩:=bind_some heq
       obtain ⟨J2,T7,I8,J7⟩:=B6.get w6
       obtain ⟨rfl⟩:=C6 I8
       refine Zr [3,4,5,6,7,8,9,10,11,12,13] 0 [bx 0 0,nx J2 w6,er J7 1 0] (Pk 1 [0]) (Pk 1 [0]) ?_
       obtain rfl:=Option.some.inj heq
       refine o5.done (by kernel_rfl) ?_
       exact Gt 0 [] (ap2)
      ·replace heq:=A6 R6 heq
       refine Zu 49 (congrArg Value.bool R6)<|Zr [3,4,5,6,7,8,9,10,11,12,13] 0 [] (Pk 1 [0]) (Pk 1 [0]) ?_
       obtain rfl:=Option.some.inj heq
       refine o5.done (by kernel_rfl) ?_
       exact Gt 0 [] (ap2)
    replace heq:=A9
    refine Sa 0<|Zv 2 [bx 0 1] ?_
    obtain ⟨y2,hy2,heq⟩:=bind_some heq
    refine c6.e5 (o9 26 (aY1 hy2 )) ?_
    rintro _ _ _ _ ⟨_,rfl,rfl,rfl,rfl⟩
    refine Zk 5 ?_
    rcases y9 (!y2) with F2 | F2
    ·replace heq:=A5 F2 heq
     refine Zs 28 (congrArg Value.bool F2)<|Zk 23 ?_
     obtain rfl:=Option.some.inj heq
     refine Dn ?_
     exact Gt 0 [] (O0)
    ·replace heq:=A6 F2 heq
     refine Zs 28 (congrArg Value.bool F2)<|Zv 7 [bx 0 2] ?_
     obtain ⟨y3,hy3,heq⟩:=bind_some heq
     refine c6.e5 (o9 31 (bX4 hy3 )) ?_
     rintro _ _ _ _ ⟨_,rfl,rfl,rfl,rfl⟩
     refine Zk 11 ?_
     rcases y9 (!y3) with M4 | M4
     ·replace heq:=A5 M4 heq
      refine Zs 34 (congrArg Value.bool M4)<|Zk 23 ?_
      obtain rfl:=Option.some.inj heq
      refine Dn ?_
      exact Gt 0 [] (O0)
     ·replace heq:=A6 M4 heq
      refine Zs 34 (congrArg Value.bool M4)<|Zv 13 [bx 0 3] ?_
      obtain ⟨y4,hy4,heq⟩:=bind_some heq
      refine c6.e5 (o9 37 (aY1 hy4 )) ?_
      rintro _ _ _ _ ⟨_,rfl,rfl,rfl,rfl⟩
      refine Zk 17 ?_
      rcases y9 (!y4) with M5 | M5
      ·replace heq:=A5 M5 heq
       refine Zs 40 (congrArg Value.bool M5)<|Zk 23 ?_
       obtain rfl:=Option.some.inj heq
       refine Dn ?_
       exact Gt 0 [] (O0)
      ·replace heq:=A6 M5 heq
       refine Zs 40 (congrArg Value.bool M5)<|Zv 19 [bx 0 4] ?_
       obtain ⟨A0,hy5,heq⟩:=bind_some heq
       refine c6.e5 (o9 43 (aY1 hy5 )) ?_
       rintro _ _ _ _ ⟨_,rfl,rfl,rfl,rfl⟩
       refine Zk 23 ?_
       obtain rfl:=Option.some.inj heq
       refine Dn ?_
       exact Gt 0 [] (O0)
  ·intro x7 heq
   refine An 3 ?_
   exact Gt 0 [] (D4 a1 ap3 heq)
theorem de7 {a0:List Blob} {e7:Option Addr} {s0 c8:Nat} {a1:Int} {r:Int} (heq:ak9.f a0 a1=some r) (B6:Rw j7 H F e7 a0) (G9:s0≤c8) (L8:s0=a0.length):z7 Tryz.prog 34 #[.slice e7 s0 c8,iv a1] H w0 (F) (S34 F H r):=by
 refine Co C34 Tryz.func34 Tryz.ntmps34 ?_
 subst L8
 unfold ak9.f at heq
 refine Sa 1<|Zd 1<|Sa 2<|Zd 3 ?_
 refine Cb heq ?_ ?_
 ·intro o8 heq
  refine Sa 1<|Zd 1 ?_
  obtain rfl:=Option.some.inj heq
  exact b8.done (by kernel_rfl) Tryz.func34 (v:=iv 2) (by kernel_rfl) ⟨rfl,rfl,rfl⟩
 ·intro o8 heq
  refine Sa 2<|Zd 1<|Sa 2<|Zd 3<|An 2 ?_
  exact Gt 0 [] (((ak9.F9 (e1:=ak9.e1) (ak9.D7)) n8) a0 _ _ a1 0 0 B6 G9 heq)
noncomputable def C36:Ctx:={ P:=Tryz.prog,f:=36,N:=33,c:=C1 Tryz.f36 }
def S36 (F:List Ch) (H0:Hp) (r:Int) (v:Value) (H:Hp) (cs:List Ch):Prop:=H0=H∧v=iv r∧F=cs
theorem aj2.D7 {r:Int}:aj2.e1=some r→b8 C36 (S36 F H r) H w0 [.c [1,1,1,0],.c [1,1,1,1]] [] H (F):=by
 intro   heq
 unfold aj2.e1 at heq
 refine Sa 0<|Zd 1 ?_
 obtain rfl:=Option.some.inj heq
 exact b8.done (by kernel_rfl) Tryz.func36 (v:=iv 0) (by kernel_rfl) ⟨rfl,rfl,rfl⟩
theorem aj2.F9 {r:Int} (e1:Option Int)
  (D4:e1=some r→b8 C36 (S36 F H r) H w0 [.c [1,1,1,0],.c [1,1,1,1]] [] H (F)):∀ (k:Nat),∀ (a0:List ByteArray) (e7:Option Addr) (c8:Nat) (v13:Int) ,Rw Kd.string H F e7 a0→a0.length≤c8→aj2.l2 e1 k a0 v13=some r→b8 C36 (S36 F H r) H w0 [.c [1,1,0,1,0,0],.l [1,1,0,1,0,0],.b 0,.c [1,1,1]] [(0,.slice e7 a0.length c8),(11,.slice e7 a0.length c8),(12,iv (a0.length:Int)),(13,iv v13)] H (F):=by
 intro k
 induction k with
 | zero=>intro a0 e7 c8 v13 B6 G9 heq; exact nomatch (show (none:Option Int)=some r from heq)
 | succ k u0 =>
  intro a0 e7 c8 v13 B6 G9 heq
  rw [aj2.l2] at heq
  refine Sa 1<|Zd 1<|An 1 ?_
  refine Cb heq ?_ ?_
  ·intro s3 heq
   refine Sa 4 ?_
   obtain ⟨x1,hx1,heq⟩:=bind_some heq
   obtain ⟨A7,I1,B1,B2⟩:=B6.get hx1
   obtain rfl:I1=[.string x1]:=B1
   refine Zw 5 [nx A7 hx1,er B2 0 0]<|Sa 2<|Zk 1 ?_
   obtain ⟨y1,hy1,heq⟩:=bind_some heq
   refine c6.e5 (o9 19 (bt5 hy1 )) ?_
   rintro _ _ _ _ ⟨_,rfl,rfl,rfl,rfl⟩
   refine Zd 3 ?_
   refine Cb heq ?_ ?_
   ·intro x7 heq
    refine Sa 1<|Zd 1 ?_
    obtain rfl:=Option.some.inj heq
    exact b8.done (by kernel_rfl) Tryz.func36 (v:=iv 3) (by kernel_rfl) ⟨rfl,rfl,rfl⟩
   ·intro x7 heq
    refine An 2 ?_
    obtain ⟨t1,A9,heq⟩:=bind_some heq
    have Z0:b8 C36 (S36 F H r) H w0 [.c [1,1,0,1,0,0,1,1,0,0,1,1,1],.b 1,.c [1,1,0,1,0,0,1,1,1],.l [1,1,0,1,0,0],.b 0,.c [1,1,1]] [(0,.slice e7 a0.length c8),(11,.slice e7 a0.length c8),(12,iv (a0.length:Int)),(13,iv v13),(31,.bool t1)] H (F):=by
     refine Cb heq ?_ ?_
     ·intro F2 heq
      refine Sa 1<|Zd 1 ?_
      obtain rfl:=Option.some.inj heq
      exact b8.done (by kernel_rfl) Tryz.func36 (v:=iv 8) (by kernel_rfl) ⟨rfl,rfl,rfl⟩
     ·intro F2 heq
      refine Sa 2<|Zd 2<|An 1 ?_
      exact Gt 0 [] (u0 a0 _ _ (c5 (v13+1)) B6 G9 heq)
    replace heq:=A9
    refine Sa 0<|Zk 3 ?_
    rcases y9 (decide (0<v13)) with B3 | B3
    ·replace heq:=A5 B3 heq
     refine Zs 23 (congrArg Value.bool B3) ?_
     obtain ⟨x2,w6,heq⟩:=bind_some heq
     obtain ⟨J2,T7,I8,J7⟩:=B6.get w6
     obtain rfl:T7=[.string x2]:=I8
     refine Zv 11 [nx J2 w6,er J7 0 0] ?_
     obtain rfl:=Option.some.inj heq
     refine Dn ?_
     exact Gt 0 [] (Z0)
    ·replace heq:=A6 B3 heq
     refine Zs 23 (congrArg Value.bool B3)<|Zk 11 ?_
     obtain rfl:=Option.some.inj heq
     refine Dn ?_
     exact Gt 0 [] (Z0)
  ·intro s3 heq
   refine An 2 ?_
   exact Gt 0 [] (D4 heq)
theorem cw1 {a0:List ByteArray} {e7:Option Addr} {s0 c8:Nat} {a1:Int} {r:Int} (heq:aj2.f a0 a1=some r) (B6:Rw Kd.string H F e7 a0) (G9:s0≤c8) (L8:s0=a0.length):z7 Tryz.prog 36 #[.slice e7 s0 c8,iv a1] H w0 (F) (S36 F H r):=by
 refine Co C36 Tryz.func36 Tryz.ntmps36 ?_
 subst L8
 unfold aj2.f at heq
 refine Sa 1<|Zd 1<|Sa 2<|Zd 4 ?_
 refine Cb heq ?_ ?_
 ·intro o8 heq
  refine Sa 1<|Zd 1 ?_
  obtain rfl:=Option.some.inj heq
  exact b8.done (by kernel_rfl) Tryz.func36 (v:=iv 2) (by kernel_rfl) ⟨rfl,rfl,rfl⟩
 ·intro o8 heq
  refine Sa 3<|Zd 3<|An 2 ?_
  exact Gt 0 [] (((aj2.F9 (e1:=aj2.e1) (aj2.D7)) n8) a0 _ _ 0 B6 G9 heq)
noncomputable def C26:Ctx:={ P:=Tryz.prog,f:=26,N:=66,c:=C1 Tryz.f26 }
def S26 (F:List Ch) (H0:Hp) (r:Int) (v:Value) (H:Hp) (cs:List Ch):Prop:=H0=H∧v=iv r∧F=cs
theorem ae1.D7 {r:Int}:ae1.e1=some r→b8 C26 (S26 F H r) H w0 [.c [1,1,1,1,1,0],.c [1,1,1,1,1,1]] [] H (F):=by
 intro   heq
 unfold ae1.e1 at heq
 refine Sa 0<|Zd 1 ?_
 obtain rfl:=Option.some.inj heq
 exact b8.done (by kernel_rfl) Tryz.func26 (v:=iv 0) (by kernel_rfl) ⟨rfl,rfl,rfl⟩
theorem ae1.F9 {r:Int} (e1:Option Int)
  (D4:e1=some r→b8 C26 (S26 F H r) H w0 [.c [1,1,1,1,1,0],.c [1,1,1,1,1,1]] [] H (F)):∀ (k:Nat),∀ (a0:Cache) (e6:Option Addr) (e8:Nat) (e3:Option Addr) (e4 g1:Nat) (v32:Int) ,Rw j7 H F e6 a0.U→a0.U.length≤e8→Rw k5 H F e3 a0.Entries→a0.Entries.length≤e4→ae1.l2 e1 k a0 v32=some r→b8 C26 (S26 F H r) H w0 [.c [1,1,1,1,0,1,0,0],.l [1,1,1,1,0,1,0,0],.b 0,.c [1,1,1,1,1]] [(1,pg g1 0),(30,.slice e3 a0.Entries.length e4),(31,iv (a0.Entries.length:Int)),(32,iv v32)] H ((some (g1,.cells #[iv a0.Room,iv a0.c4,.slice e6 a0.U.length e8,.slice e3 a0.Entries.length e4] 25 (0,0)))::F):=by
 intro k
 induction k with
 | zero=>intro a0 e6 e8 e3 e4 g1 v32 n9 s7 l8 q8 heq; exact nomatch (show (none:Option Int)=some r from heq)
 | succ k u0 =>
  intro a0 e6 e8 e3 e4 g1 v32 n9 s7 l8 q8 heq
  rw [ae1.l2] at heq
  refine Sa 1<|Zd 1<|An 1 ?_
  refine Cb heq ?_ ?_
  ·intro F2 heq
   refine Sa 4 ?_
   obtain ⟨x1,hx1,heq⟩:=bind_some heq
   obtain ⟨A7,I1,B1,B2⟩:=l8.get hx1
   obtain ⟨A1,c1,rfl,hc1,I0⟩:=Y7 B1
   refine Zv 3 ([nx A7 hx1]++ers B2 1) ?_
   refine c6.e5 (j6.new (d:=5) (v:=fun g=>.pointer (some ⟨g,0,none⟩)) (o:=fun g=>.cells #[.string ByteArray.empty,.slice none 0 0,iv 0] 47 (0,0)) (fun g=>by kernel_rfl)) ?_
   rintro _ _ _ _ ⟨g2,rfl,rfl,rfl⟩
   refine Zk 5 ?_
   refine c6.e5 (j6.store (k:=0) (g:=g2) (off:=0) (v:=.agg #[.string x1.Key,.slice A1 x1.Refs.length c1,iv x1.Used]) (cells':=#[.string x1.Key,.slice A1 x1.Refs.length c1,iv x1.Used]) (by kernel_rfl) rfl (by kernel_rfl) (by kernel_rfl)) ?_
   rintro _ _ _ _ ⟨rfl,rfl,rfl⟩
   refine c6.p6 ?_
   refine Dn<|Sa 2<|Zv 2 [bx 0 0] ?_
   obtain ⟨y4,hy4,heq⟩:=bind_some heq
   refine c6.e5 (o9 39 (bt5 hy4 )) ?_
   rintro _ _ _ _ ⟨_,rfl,rfl,rfl,rfl⟩
   refine Zd 4 ?_
   refine Cb heq ?_ ?_
   ·intro M4 heq
    refine Sa 1<|Zd 1 ?_
    obtain rfl:=Option.some.inj heq
    refine Up 2 [] ?_
    exact b8.done (by kernel_rfl) Tryz.func26 (v:=iv 3) (by kernel_rfl) ⟨rfl,rfl,rfl⟩
   ·intro M4 heq
    refine Sa 3<|Zv 2 [bx 0 1] ?_
    obtain ⟨A0,hy5,heq⟩:=bind_some heq
    refine c6.e5 (o9 43 (cw1 hy5 (Rw.of I0) hc1 rfl)) ?_
    rintro _ _ _ _ ⟨_,rfl,rfl,rfl,rfl⟩
    refine Zd 4<|Sa 1<|Zd 2 ?_
    refine Cb heq ?_ ?_
    ·intro M5 heq
     refine Sa 1<|Zd 2 ?_
     obtain rfl:=Option.some.inj heq
     refine Up 2 [] ?_
     exact b8.done (by kernel_rfl) Tryz.func26 (v:=iv A0) (by kernel_rfl) ⟨rfl,rfl,rfl⟩
    ·intro M5 heq
     refine Sa 3<|Zv 2 [bx 0 2] ?_
     obtain ⟨G0,hy6,heq⟩:=bind_some heq
     refine c6.e5 (o9 49 (bX4 hy6 )) ?_
     rintro _ _ _ _ ⟨_,rfl,rfl,rfl,rfl⟩
     refine Zd 4 ?_
     refine Cb heq ?_ ?_
     ·intro Y0 heq
      refine Sa 1<|Zd 1 ?_
      obtain rfl:=Option.some.inj heq
      refine Up 2 [] ?_
      exact b8.done (by kernel_rfl) Tryz.func26 (v:=iv 1) (by kernel_rfl) ⟨rfl,rfl,rfl⟩
     ·intro Y0 heq
      refine An 2 ?_
      obtain ⟨t2,ht2,heq⟩:=bind_some heq
      have ah3:b8 C26 (S26 F H r) H w0 [.c [1,1,1,1,0,1,0,0,1,1,0,0,1,1,1,1,1],.b 1,.c [1,1,1,1,0,1,0,0,1,1,1],.l [1,1,1,1,0,1,0,0],.b 0,.c [1,1,1,1,1]] [(1,pg g1 0),(30,.slice e3 a0.Entries.length e4),(31,iv (a0.Entries.length:Int)),(32,iv v32),(64,.bool t2)] H ((some (g1,.cells #[iv a0.Room,iv a0.c4,.slice e6 a0.U.length e8,.slice e3 a0.Entries.length e4] 25 (0,0)))::F):=by
       refine Cb heq ?_ ?_
       ·intro Y1 heq
        refine Sa 1<|Zd 1 ?_
        obtain rfl:=Option.some.inj heq
        refine Up 1 [] ?_
        exact b8.done (by kernel_rfl) Tryz.func26 (v:=iv 8) (by kernel_rfl) ⟨rfl,rfl,rfl⟩
       ·intro Y1 heq
        refine Sa 2<|Zd 2<|An 1 ?_
        exact Gt 0 [] (u0 a0 _ _ _ _ _ (c5 (v32+1)) n9 s7 l8 q8 heq)
      replace heq:=ht2
      refine Sd 0 14 [] [3,3,3,3,3,3,3,3,3,3,3,3,3,3]<|Zr [0,1,2] 11 [] (Pk 2 [0,1]) (Pk 2 [0,1]) ?_
      rcases y9 (decide (0<v32)) with R6 | R6
      ·replace heq:=A5 R6 heq
       refine Zu 53 (congrArg Value.bool R6) ?_
       obtain ⟨x2,w6,heq⟩:=bind_some heq
       obtain ⟨J2,T7,I8,J7⟩:=l8.get w6
       obtain ⟨aa3,c2,rfl,N9,hr2⟩:=Y7 I8
       refine Zr [3,4,5,6,7,8,9,10,11,12,13] 0 [bx 0 0,bx 1 3,nx J2 w6,er J7 2 0] (Pk 2 [0,1]) (Pk 2 [0,1]) ?_
       obtain rfl:=Option.some.inj heq
       refine o5.done (by kernel_rfl) ?_
       exact Gt 1 [] (ah3)
      ·replace heq:=A6 R6 heq
       refine Zu 53 (congrArg Value.bool R6)<|Zr [3,4,5,6,7,8,9,10,11,12,13] 0 [] (Pk 2 [0,1]) (Pk 2 [0,1]) ?_
       obtain rfl:=Option.some.inj heq
       refine o5.done (by kernel_rfl) ?_
       exact Gt 1 [] (ah3)
  ·intro F2 heq
   refine An 2 ?_
   exact Gt 1 [] (D4 heq)
theorem bH4 {a0:Cache} {e6:Option Addr} {q2 e8:Nat} {e3:Option Addr} {p7 e4:Nat} {r:Int} (heq:ae1.f a0=some r) (n9:Rw j7 H F e6 a0.U) (s7:q2≤e8) (B9:q2=a0.U.length) (l8:Rw k5 H F e3 a0.Entries) (q8:p7≤e4) (B4:p7=a0.Entries.length):z7 Tryz.prog 26 #[.agg #[iv a0.Room,iv a0.c4,.slice e6 q2 e8,.slice e3 p7 e4]] H w0 (F) (S26 F H r):=by
 refine Co C26 Tryz.func26 Tryz.ntmps26 ?_
 subst B9
 subst B4
 unfold ae1.f at heq
 refine Sa 1 ?_
 refine c6.e5 (j6.new (d:=1) (v:=fun g=>.pointer (some ⟨g,0,none⟩)) (o:=fun g=>.cells #[iv a0.Room,iv a0.c4,.slice e6 a0.U.length e8,.slice e3 a0.Entries.length e4] 25 (0,0)) (fun g=>by kernel_rfl)) ?_
 rintro _ _ _ _ ⟨g1,rfl,rfl,rfl⟩
 refine Zd 2<|An 2 ?_
 obtain ⟨t1,A9,heq⟩:=bind_some heq
 have O0:b8 C26 (S26 F H r) H w0 [.c [1,0,1],.c [1,1]] [(1,pg g1 0),(16,.bool t1)] H ((some (g1,.cells #[iv a0.Room,iv a0.c4,.slice e6 a0.U.length e8,.slice e3 a0.Entries.length e4] 25 (0,0)))::F):=by
  refine Cb heq ?_ ?_
  ·intro s3 heq
   refine Sa 1<|Zd 1 ?_
   obtain rfl:=Option.some.inj heq
   refine Up 1 [] ?_
   exact b8.done (by kernel_rfl) Tryz.func26 (v:=iv 1) (by kernel_rfl) ⟨rfl,rfl,rfl⟩
  ·intro s3 heq
   refine Sa 3<|Zv 4 [bx 0 2,bx 0 0] ?_
   obtain ⟨y3,hy3,heq⟩:=bind_some heq
   refine c6.e5 (o9 21 (de7 hy3 (n9.wk (fun _ h=>(.tail _ h))) s7 rfl)) ?_
   rintro _ _ _ _ ⟨_,rfl,rfl,rfl,rfl⟩
   refine Zd 6<|Sa 1<|Zd 2 ?_
   refine Cb heq ?_ ?_
   ·intro x7 heq
    refine Sa 1<|Zd 2 ?_
    obtain rfl:=Option.some.inj heq
    refine Up 1 [] ?_
    exact b8.done (by kernel_rfl) Tryz.func26 (v:=iv y3) (by kernel_rfl) ⟨rfl,rfl,rfl⟩
   ·intro x7 heq
    refine Sa 3<|Zw 4 [bx 0 3] ?_
    refine Cb heq ?_ ?_
    ·intro B3 heq
     refine Sa 1<|Zd 1 ?_
     obtain rfl:=Option.some.inj heq
     refine Up 1 [] ?_
     exact b8.done (by kernel_rfl) Tryz.func26 (v:=iv 2) (by kernel_rfl) ⟨rfl,rfl,rfl⟩
    ·intro B3 heq
     refine Sa 3<|Zw 4 [bx 0 3]<|An 2 ?_
     exact Gt 0 [] (((ae1.F9 (e1:=ae1.e1) (ae1.D7)) n8) a0 _ _ _ _ _ 0 n9 s7 l8 q8 heq)
 replace heq:=A9
 refine Sa 0<|Zv 2 [bx 0 0] ?_
 obtain ⟨y1,hy1,heq⟩:=bind_some heq
 refine c6.e5 (o9 9 (aY1 hy1 )) ?_
 rintro _ _ _ _ ⟨_,rfl,rfl,rfl,rfl⟩
 refine Zk 5 ?_
 rcases y9 (!y1) with o8 | o8
 ·replace heq:=A5 o8 heq
  refine Zs 11 (congrArg Value.bool o8)<|Zk 10 ?_
  obtain rfl:=Option.some.inj heq
  refine Dn ?_
  exact Gt 0 [] (O0)
 ·replace heq:=A6 o8 heq
  refine Zs 11 (congrArg Value.bool o8)<|Zv 7 [bx 0 1] ?_
  obtain ⟨y2,hy2,heq⟩:=bind_some heq
  refine c6.e5 (o9 14 (aY1 hy2 )) ?_
  rintro _ _ _ _ ⟨_,rfl,rfl,rfl,rfl⟩
  refine Zk 10 ?_
  obtain rfl:=Option.some.inj heq
  refine Dn ?_
  exact Gt 0 [] (O0)
noncomputable def C38:Ctx:={ P:=Tryz.prog,f:=38,N:=8,c:=C1 Tryz.f38 }
def S38 (F:List Ch) (H0:Hp) (r:List Entry) (v:Value) (H:Hp) (cs:List Ch):Prop:=∃ (ad8:Option Addr) (c0:Nat) (J6:Ch),H0=H∧v=.slice ad8 r.length c0∧J6::F=cs∧b6 k5 47 H ad8 c0 r J6
theorem df0 {a0:List Entry} {e7:Option Addr} {s0 c8:Nat} {r:List Entry} (B6:Rw k5 H F e7 a0) (G9:s0≤c8) (L8:s0=a0.length) (heq:bG5.f a0=some r):z7 Tryz.prog 38 #[.slice e7 s0 c8] H w0 F (S38 F H r):=by
 refine ba4 (F:=C38) Tryz.func38 (by kernel_rfl) Tryz.ntmps38 (args:=[.slice e7 s0 c8]) (by kernel_rfl) ?_
 subst L8
 unfold bG5.f at heq
 obtain ⟨hn,heq⟩:=M1 heq
 obtain rfl:=Option.some.inj heq
 refine Ra 1 [0] [.c [1]]<|Rd 1 [0] [(0,.slice e7 a0.length c8)]<|Ra 2 [1,0,0] [.c [1,0,1],.c [1,1]] ?_
 cases e7 with
 | none =>
  have h0:a0=[]:=by
   cases a0 with
   | nil=>rfl
   | cons x xs=>obtain ⟨b,off,cs,e,fr,hA,_⟩:=B6 (by simp); cases hA
  subst h0
  refine Rd 2 [4] [(4,.bool true)]<|Ct true rfl<|Ra 1 [1,0,1,0,0] [.c [1,0,1,0,1],.c [1,1]]<|Rd 1 [2] [(2,.slice none 0 0)]<|b8.w5 ?_
  exact b8.done (by kernel_rfl) Tryz.func38 (v:=.slice none ([]:List Entry).length 0) (by kernel_rfl) ⟨none,0,none,rfl,rfl,rfl,b6.nil⟩
 | some ad =>
  refine Rd 2 [0,4] [(0,.slice (some ad) a0.length c8),(4,.bool false)]<|Cf false rfl<|Ra 2 [1,1,0] [.c [1,1,1]] ?_
  refine c6.e5 (j6.new (d:=5) (v:=fun g=>.slice (some ⟨g,0,none⟩) 0 0) (o:=fun g=>.cells #[] 47 (0,0)) (fun g=>by kernel_rfl)) ?_
  rintro _ _ _ _ ⟨g,rfl,rfl,rfl⟩
  have ho:b6 k5 47 H (some ⟨g,0,none⟩) 0 ([]:List Entry) (some (g,.cells #[] 47 (0,0))):=.inr ⟨g,0,#[],rfl,rfl,by simp,by simp [maxLen],by simp,Kd.q9.nil⟩
  refine Rk 2 [5,6] [(5,.slice (some ⟨g,0,none⟩) 0 0),(6,.slice (some ad) a0.length c8)] ?_
  refine c6.e5 (j6.append (d:=7) (k:=0) (t:=23) (e:=47) (bytes:=48) (kd:=k5) (n:=0) (m:=a0.length) (xs:=([]:List Entry)) (ys:=a0) (A:=some ⟨g,0,none⟩) (B:=some ad) (c:=0) (cB:=c8) (by kernel_rfl) rfl rfl (by kernel_rfl) rfl ho (fun w hh=>B6.Y9 (hh.drop 1)) (room_le hn) (by have:=room_le hn; omega)) ?_
  rintro _ _ _ _ ⟨A1,c1,r9,rfl,rfl,rfl,r8⟩
  refine Rd 4 [2] [(2,.slice A1 (([]:List Entry)++a0).length c1)] ?_
  exact b8.done (by kernel_rfl) Tryz.func38 (v:=.slice A1 (([]:List Entry)++a0).length c1) (by kernel_rfl) ⟨A1,c1,r9,rfl,rfl,rfl,r8⟩
noncomputable def C27:Ctx:={ P:=Tryz.prog,f:=27,N:=32,c:=C1 Tryz.f27 }
def S27 (F:List Ch) (H0:Hp) (r:Cache) (v:Value) (H:Hp) (cs:List Ch):Prop:=∃ (E7:Option Addr) (E8:Nat) (F1:Ch) (P7:Option Addr) (P8:Nat) (Q9:Ch),v=.agg #[iv r.Room,iv r.c4,.slice E7 r.U.length E8,.slice P7 r.Entries.length P8]∧F1::Q9::F=cs∧b6 j7 44 H E7 E8 r.U F1∧b6 k5 47 H P7 P8 r.Entries Q9
theorem ag5.D7 {r:Cache}:∀ (H:Hp) (a0:Cache) (g1 g2:Nat) (y1:List Blob) (A1:Option Addr) (c1:Nat) (r9:Ch) (aa6:List Entry) (al7:Option Addr) (aL4 at1:Nat) (aE8:Ch) ,b6 j7 44 H A1 c1 y1 r9→b6 k5 47 H al7 at1 aa6 aE8→aL4=aa6.length→ag5.e1 a0 y1 aa6=some r→b8 C27 (S27 F H0 r) H0 w0 [.c [1,1,1,0],.c [1,1,1,1]] [(1,pg g1 0),(2,pg g2 0)] H (aE8::r9::(some (g2,.cells #[iv 0,iv 0,.slice none 0 0,.slice none 0 0] 25 (0,0)))::(some (g1,.cells #[iv a0.Room,iv a0.c4,.slice A1 y1.length c1,.slice al7 aL4 at1] 25 (0,0)))::F):=by
 intro H a0 g1 g2 y1 A1 c1 r9 aa6 al7 aL4 at1 aE8 r8 aP7 bI2 heq
 subst bI2
 unfold ag5.e1 at heq
 refine Sa 0<|Zv 1 (C8 3) ?_
 refine c6.e5 (j6.store (k:=2) (g:=g2) (off:=0) (v:=.agg #[iv a0.Room,iv a0.c4,.slice A1 y1.length c1,.slice al7 aa6.length at1]) (cells':=#[iv a0.Room,iv a0.c4,.slice A1 y1.length c1,.slice al7 aa6.length at1]) (by kernel_rfl) rfl (by kernel_rfl) (by kernel_rfl)) ?_
 rintro _ _ _ _ ⟨rfl,rfl,rfl⟩
 refine c6.p6 ?_
 refine Dn ?_
 obtain rfl:=Option.some.inj heq
 refine Up 4 [2,1,0] ?_
 exact b8.I3 1 (vs:=[.agg #[iv a0.Room,iv a0.c4,.slice A1 y1.length c1,.slice al7 aa6.length at1]]) (v:=.agg #[iv a0.Room,iv a0.c4,.slice A1 y1.length c1,.slice al7 aa6.length at1]) (by kernel_rfl) Tryz.func27 (fun w hh=>show G2 _ _ _ [.cell 2 25] _ from ⟨⟨⟨g2,0,none⟩,by kernel_rfl,F5 _ (vs:=[iv a0.Room,iv a0.c4,.slice A1 y1.length c1,.slice al7 aa6.length at1]) (r:=[]) (es:=[.load ⟨g2,0,none⟩ (iv a0.Room),.load ⟨g2,1,none⟩ (iv a0.c4),.load ⟨g2,2,none⟩ (.slice A1 y1.length c1),.load ⟨g2,3,none⟩ (.slice al7 aa6.length at1)]) (by kernel_rfl) ⟨(hh.box 0 rfl rfl),(hh.box 0 rfl rfl),(hh.box 0 rfl rfl),(hh.box 0 rfl rfl)⟩⟩,trivial⟩) rfl (cs':=r9::aE8::F) rfl ⟨A1,c1,r9,al7,at1,aE8,rfl,rfl,r8,aP7⟩
theorem ag5.F9 {r:Cache} (e1:Cache→(List Blob)→(List Entry)→Option Cache)
  (D4:∀ (H:Hp) (a0:Cache) (g1 g2:Nat) (y1:List Blob) (A1:Option Addr) (c1:Nat) (r9:Ch) (aa6:List Entry) (al7:Option Addr) (aL4 at1:Nat) (aE8:Ch) ,b6 j7 44 H A1 c1 y1 r9→b6 k5 47 H al7 at1 aa6 aE8→aL4=aa6.length→e1 a0 y1 aa6=some r→b8 C27 (S27 F H0 r) H0 w0 [.c [1,1,1,0],.c [1,1,1,1]] [(1,pg g1 0),(2,pg g2 0)] H (aE8::r9::(some (g2,.cells #[iv 0,iv 0,.slice none 0 0,.slice none 0 0] 25 (0,0)))::(some (g1,.cells #[iv a0.Room,iv a0.c4,.slice A1 y1.length c1,.slice al7 aL4 at1] 25 (0,0)))::F)):∀ (k:Nat),∀ (H:Hp) (a0:Cache) (g1 g2:Nat) (y1:List Blob) (A1:Option Addr) (c1:Nat) (r9:Ch) (y2 aa6:List Entry) (al7:Option Addr) (aL4 at1:Nat) (aE8:Ch) (v15:Int) ,b6 j7 44 H A1 c1 y1 r9→b6 k5 47 H al7 at1 aa6 aE8→aL4=aa6.length→ag5.l2 e1 k a0 y1 y2 aa6 v15=some r→b8 C27 (S27 F H0 r) H0 w0 [.c [1,1,0,1,0,0],.l [1,1,0,1,0,0],.b 0,.c [1,1,1]] [(1,pg g1 0),(2,pg g2 0),(14,iv (y2.length:Int)),(15,iv v15)] H (aE8::r9::(some (g2,.cells #[iv 0,iv 0,.slice none 0 0,.slice none 0 0] 25 (0,0)))::(some (g1,.cells #[iv a0.Room,iv a0.c4,.slice A1 y1.length c1,.slice al7 aL4 at1] 25 (0,0)))::F):=by
 intro k
 induction k with
 | zero=>intro H a0 g1 g2 y1 A1 c1 r9 y2 aa6 al7 aL4 at1 aE8 v15 r8 aP7 bI2 heq; exact nomatch (show (none:Option Cache)=some r from heq)
 | succ k u0 =>
  intro H a0 g1 g2 y1 A1 c1 r9 y2 aa6 al7 aL4 at1 aE8 v15 r8 aP7 bI2 heq
  subst bI2
  rw [ag5.l2] at heq
  refine Sa 1<|Zd 1<|An 1 ?_
  refine Cb heq ?_ ?_
  ·intro o8 heq
   refine Sa 4<|Zd 2<|Sd 0 13 [] [3,3,3,3,3,3,3,3,3,0,0,3,2] ?_
   obtain ⟨x1,hx1,heq⟩:=bind_some heq
   obtain ⟨A7,I1,B1,B2⟩:=aP7.get hx1
   obtain ⟨aa8,c3,rfl,hc1,I0⟩:=Y7 B1
   refine Zr [0,1,2,3,4,5,6,7,8] 4 [bx 3 3,bx 3 3,nx A7 hx1,el B2 0 1] (Pk 4 [0,1,2,3]) (Pk 4 [0,1,2,3]) ?_
   obtain ⟨y3,hy3,heq⟩:=bind_some heq
   refine Dz 9 (o9 27 (bH9 (a0:=x1.Refs) (Rw.of I0) hc1 rfl hy3)) ?_
   rintro _ _ _ _ ⟨_,rfl,aa9,y8,E6,rfl,rfl,rfl,w4⟩
   refine ⟨fun _ w hh=>⟨fun _=>(Pk 5 [1,2,3,4]) w hh,fun _=>(Pk 5 [1,2,3,4]) w hh,(fun h=>by cases h)⟩,?_⟩
   obtain ⟨J2,T7,I8,J7⟩:=aP7.get hx1
   obtain ⟨G3,G4,rfl,N9,hr2⟩:=Y7 I8
   refine Dz 10 (j6.aw6 (d:=28) (v:=.pointer (some ((H8 al7).add (v15.toNat*3)))) (vs:=[]) (G8:=[.need (al7=some (H8 al7)∧(0:Int)≤v15∧v15<((aa6.length:Nat):Int))]) (by kernel_rfl) (fun w hh=>⟨J2,(aa2 hx1).1,(aa2 hx1).2.1⟩)) ?_
   rintro _ _ _ _ ⟨rfl,rfl,rfl⟩
   refine ⟨fun _ w hh=>⟨fun _=>(Pk 5 [1,2,3,4]) w hh,fun _=>(Pk 5 [1,2,3,4]) w hh,(fun h=>by cases h)⟩,?_⟩
   refine Zr [11] 1 [] (Pk 5 [1,2,3,4]) (Pk 4 [0,1,2,3]) ?_
   have hc3:=w4.cap
   refine o5.aD8 w4 (fun H hl hr3=>?_)
   have hle:=hl
   replace r8:=r8.mono hl
   replace aP7:=aP7.mono hl
   obtain ⟨W1,ae3,Q4,ad7⟩:=aP7.get hx1
   obtain ⟨X6,X7,rfl,hc4,hr4⟩:=Y7 Q4
   refine Dz 12 (j6.ab7 (a:=(((H8 al7).add (v15.toNat*3)).add 1)) (k:=0) (kd:=k5) (c0:=[.string x1.Key,.slice X6 x1.Refs.length X7,iv x1.Used]) (x':=(⟨x1.Key,y3,x1.Used⟩:Entry)) (o:=1) (ix:=v15) (v:=.slice aa9 y3.length y8) (by kernel_rfl) rfl aP7 hx1 (by kernel_rfl) ad7 rfl (Nat.le_of_ble_eq_true (by kernel_rfl)) (aT4 hc3 hr3)) ?_
   rintro _ _ _ _ ⟨G6,rfl,rfl,rfl,C9⟩
   have C4:aa6.length=(aa6.set v15.toNat (⟨x1.Key,y3,x1.Used⟩:Entry)).length:=by rw [List.length_set]
   refine ⟨fun _ w hh=>⟨(fun h=>by cases h),(fun h=>absurd h (by decide)),(fun h=>by cases h)⟩,?_⟩
   refine o5.p6 ?_
   refine o5.done (by kernel_rfl) ?_
   refine Sa 1<|Zd 2<|An 1 ?_
   exact Gt 0 [] (u0 _ a0 _ _ y1 _ _ _ y2 (aa6.set v15.toNat (⟨x1.Key,y3,x1.Used⟩:Entry)) _ _ _ _ (c5 (v15+1)) r8 C9 C4 heq)
  ·intro o8 heq
   refine An 2 ?_
   exact Gt 0 [] (D4 _ a0 _ _ y1 _ _ _ aa6 _ _ _ _ r8 aP7 rfl heq)
theorem bW4 {a0:Cache} {e6:Option Addr} {q2 e8:Nat} {e3:Option Addr} {p7 e4:Nat} {r:Cache} (heq:ag5.f a0=some r) (n9:Rw j7 H0 F e6 a0.U) (s7:q2≤e8) (B9:q2=a0.U.length) (l8:Rw k5 H0 F e3 a0.Entries) (q8:p7≤e4) (B4:p7=a0.Entries.length):z7 Tryz.prog 27 #[.agg #[iv a0.Room,iv a0.c4,.slice e6 q2 e8,.slice e3 p7 e4]] H0 w0 (F) (S27 F H0 r):=by
 refine Co C27 Tryz.func27 Tryz.ntmps27 ?_
 subst B9
 subst B4
 unfold ag5.f at heq
 suffices key:∀ (H:Hp),Rw j7 H F e6 a0.U→Rw k5 H F e3 a0.Entries→b8 C27 (S27 F H0 r) H0 w0 [.c []] (Z3 0 [.agg #[iv a0.Room,iv a0.c4,.slice e6 (a0.U.length) e8,.slice e3 (a0.Entries.length) e4]]) H (F) from key H0 n9 l8
 intro H n9 l8
 refine Sa 1 ?_
 refine c6.e5 (j6.new (d:=1) (v:=fun g=>.pointer (some ⟨g,0,none⟩)) (o:=fun g=>.cells #[iv a0.Room,iv a0.c4,.slice e6 a0.U.length e8,.slice e3 a0.Entries.length e4] 25 (0,0)) (fun g=>by kernel_rfl)) ?_
 rintro _ _ _ _ ⟨g1,rfl,rfl,rfl⟩
 refine c6.e5 (j6.new (d:=2) (v:=fun g=>.pointer (some ⟨g,0,none⟩)) (o:=fun g=>.cells #[iv 0,iv 0,.slice none 0 0,.slice none 0 0] 25 (0,0)) (fun g=>by kernel_rfl)) ?_
 rintro _ _ _ _ ⟨g2,rfl,rfl,rfl⟩
 refine Dn<|An 1<|Sd 2 10 [0] [3,3,0,3,3,0,3,1,3,2]<|Zr [0,1,3,4] 6 [bx 1 2,bx 1 3] (Pk 2 [0,1]) (Pk 2 [0]) ?_
 obtain ⟨y1,hy1,heq⟩:=bind_some heq
 refine Dz 2 (o9 6 (bX3 (a0:=a0.U) (n9.wk (fun _ h=>(.tail _ (.tail _ h)))) s7 rfl hy1)) ?_
 rintro _ _ _ _ ⟨_,rfl,A1,c1,r9,rfl,rfl,rfl,r8⟩
 refine ⟨fun _ w hh=>⟨fun _=>(Pk 3 [1,2]) w hh,fun _=>(Pk 3 [1]) w hh,(fun h=>by cases h)⟩,?_⟩
 refine Zr [6] 4 [] (Pk 3 [1,2]) (Pk 2 [0]) ?_
 obtain ⟨y2,hy2,heq⟩:=bind_some heq
 refine Dz 5 (o9 9 (df0 (a0:=a0.Entries) (l8.wk (fun _ h=>(.tail _ (.tail _ (.tail _ h))))) q8 rfl hy2)) ?_
 rintro _ _ _ _ ⟨_,rfl,aa3,c2,B5,rfl,rfl,rfl,w8⟩
 refine ⟨fun _ w hh=>⟨fun _=>(Pk 4 [2,3]) w hh,fun _=>(Pk 4 [2]) w hh,(fun h=>by cases h)⟩,?_⟩
 refine Dz 7 (j6.store (k:=3) (g:=g1) (off:=2) (v:=.slice A1 y1.length c1) (cells':=#[iv a0.Room,iv a0.c4,.slice A1 y1.length c1,.slice e3 a0.Entries.length e4]) (by kernel_rfl) rfl (by kernel_rfl) (by kernel_rfl)) ?_
 rintro _ _ _ _ ⟨rfl,rfl,rfl⟩
 refine ⟨fun _ w hh=>⟨(fun h=>by cases h),fun _=>(Pk 4 [2]) w hh,(fun h=>by cases h)⟩,?_⟩
 refine o5.p6 ?_
 refine Zt [8] 1 [] (Pk 4 [2]) ?_
 refine Dz 9 (j6.store (k:=3) (g:=g1) (off:=3) (v:=.slice aa3 y2.length c2) (cells':=#[iv a0.Room,iv a0.c4,.slice A1 y1.length c1,.slice aa3 y2.length c2]) (by kernel_rfl) rfl (by kernel_rfl) (by kernel_rfl)) ?_
 rintro _ _ _ _ ⟨rfl,rfl,rfl⟩
 refine ⟨fun _ w hh=>⟨(fun h=>by cases h),(fun h=>absurd h (by decide)),(fun h=>by cases h)⟩,?_⟩
 refine o5.p6 ?_
 refine o5.done (by kernel_rfl) ?_
 refine Sa 2<|Zw 4 [bx 3 3]<|An 2 ?_
 exact Gt 0 [] (((ag5.F9 (e1:=ag5.e1) (ag5.D7)) n8) _ a0 _ _ y1 _ _ _ y2 y2 _ _ _ _ 0 r8 w8 rfl heq)
noncomputable def C60:Ctx:={ P:=Tryz.prog,f:=60,N:=15,c:=C1 Tryz.f60 }
def S60 (F:List Ch) (H0:Hp) (r:Bool × Bool × Bool × Bool) (v:Value) (H:Hp) (cs:List Ch):Prop:=H0=H∧v=.tuple #[.bool r.1,.bool r.2.1,.bool r.2.2.1,.bool r.2.2.2]∧F=cs
theorem df3 {a0:Int} {r:Bool × Bool × Bool × Bool} (heq:bq3.f a0=some r):z7 Tryz.prog 60 #[iv a0] H w0 (F) (S60 F H r):=by
 refine Co C60 Tryz.func60 Tryz.ntmps60 ?_
 unfold bq3.f at heq
 refine Sa 1<|Zd 4<|Sa 2<|Zd 1<|Sa 2<|Zd 2 ?_
 refine Cb heq ?_ ?_
 ·intro o8 heq
  refine Sa 1<|Zd 4 ?_
  obtain rfl:=Option.some.inj heq
  exact b8.done (by kernel_rfl) Tryz.func60 (v:=.tuple #[.bool true,.bool false,.bool false,.bool true]) (by kernel_rfl) ⟨rfl,rfl,rfl⟩
 ·intro o8 heq
  refine Sa 1<|Zd 2 ?_
  refine Cb heq ?_ ?_
  ·intro s3 heq
   refine Sa 1<|Zd 4 ?_
   obtain rfl:=Option.some.inj heq
   exact b8.done (by kernel_rfl) Tryz.func60 (v:=.tuple #[.bool false,.bool true,.bool false,.bool false]) (by kernel_rfl) ⟨rfl,rfl,rfl⟩
  ·intro s3 heq
   refine Sa 1<|Zd 2 ?_
   refine Cb heq ?_ ?_
   ·intro x7 heq
    refine Sa 1<|Zd 4 ?_
    obtain rfl:=Option.some.inj heq
    exact b8.done (by kernel_rfl) Tryz.func60 (v:=.tuple #[.bool false,.bool true,.bool true,.bool false]) (by kernel_rfl) ⟨rfl,rfl,rfl⟩
   ·intro x7 heq
    refine Sa 1<|Zd 2 ?_
    refine Cb heq ?_ ?_
    ·intro B3 heq
     refine Sa 1<|Zd 4 ?_
     obtain rfl:=Option.some.inj heq
     exact b8.done (by kernel_rfl) Tryz.func60 (v:=.tuple #[.bool false,.bool false,.bool true,.bool false]) (by kernel_rfl) ⟨rfl,rfl,rfl⟩
    ·intro B3 heq
     refine Sa 3<|Zd 4 ?_
     obtain rfl:=Option.some.inj heq
     exact b8.done (by kernel_rfl) Tryz.func60 (v:=.tuple #[.bool true,.bool false,.bool false,.bool false]) (by kernel_rfl) ⟨rfl,rfl,rfl⟩
noncomputable def C39:Ctx:={ P:=Tryz.prog,f:=39,N:=81,c:=C1 Tryz.f39 }
def S39 (F:List Ch) (H0:Hp) (r:Int) (v:Value) (H:Hp) (cs:List Ch):Prop:=H0=H∧v=iv r∧F=cs
theorem ac1.aY2 {r:Int}:∀ (a0:k7) (e3:Option Addr) (e4 g1:Nat) (v50:Bool) ,Rw Kd.string H F e3 a0.j9→a0.j9.length≤e4→ac1.j2 a0 v50=some r→b8 C39 (S39 F H r) H w0 [.c [1,1,1,0,0,1,1,1],.b 0,.c [1,1,1,1]] [(1,pg g1 0),(50,.bool v50)] H ((some (g1,.cells #[iv a0.Kind,iv a0.At,.string a0.b7,.slice e3 a0.j9.length e4,.string a0.Key,iv a0.j4] 50 (0,0)))::F):=by
 intro a0 e3 e4 g1 v50 l8 q8 heq
 unfold ac1.j2 at heq
 refine Cb heq ?_ ?_
 ·intro F2 heq
  refine Sa 1<|Zd 1 ?_
  obtain rfl:=Option.some.inj heq
  refine Up 1 [] ?_
  exact b8.done (by kernel_rfl) Tryz.func39 (v:=iv 3) (by kernel_rfl) ⟨rfl,rfl,rfl⟩
 ·intro F2 heq
  refine Sa 4<|Zv 2 [bx 0 3] ?_
  obtain ⟨y4,hy4,heq⟩:=bind_some heq
  refine c6.e5 (o9 67 (cw1 hy4 (l8.wk (fun _ h=>(.tail _ h))) q8 rfl)) ?_
  rintro _ _ _ _ ⟨_,rfl,rfl,rfl,rfl⟩
  refine Zd 4<|Sa 1<|Zd 2 ?_
  refine Cb heq ?_ ?_
  ·intro M4 heq
   refine Sa 1<|Zd 2 ?_
   obtain rfl:=Option.some.inj heq
   refine Up 1 [] ?_
   exact b8.done (by kernel_rfl) Tryz.func39 (v:=iv y4) (by kernel_rfl) ⟨rfl,rfl,rfl⟩
  ·intro M4 heq
   refine An 3 ?_
   obtain ⟨t3,ht3,heq⟩:=bind_some heq
   have ah3:b8 C39 (S39 F H r) H w0 [.c [1,1,1,1,1,0,1],.c [1,1,1,1,1,1]] [(80,.bool t3)] H (F):=by
    refine Cb heq ?_ ?_
    ·intro Y0 heq
     refine Sa 1<|Zd 1 ?_
     obtain rfl:=Option.some.inj heq
     exact b8.done (by kernel_rfl) Tryz.func39 (v:=iv 1) (by kernel_rfl) ⟨rfl,rfl,rfl⟩
    ·intro Y0 heq
     refine Sa 2<|Zd 1 ?_
     obtain rfl:=Option.some.inj heq
     exact b8.done (by kernel_rfl) Tryz.func39 (v:=iv 0) (by kernel_rfl) ⟨rfl,rfl,rfl⟩
   replace heq:=ht3
   refine Sa 0<|Zv 2 [bx 0 5] ?_
   obtain ⟨A0,hy5,heq⟩:=bind_some heq
   refine c6.e5 (o9 73 (aY1 hy5 )) ?_
   rintro _ _ _ _ ⟨_,rfl,rfl,rfl,rfl⟩
   refine Zk 5 ?_
   rcases y9 (!A0) with M5 | M5
   ·replace heq:=A5 M5 heq
    refine Zs 75 (congrArg Value.bool M5)<|Zk 10 ?_
    obtain rfl:=Option.some.inj heq
    refine Dn ?_
    exact Gt 1 [] (ah3)
   ·replace heq:=A6 M5 heq
    refine Zs 75 (congrArg Value.bool M5)<|Zv 7 [bx 0 1] ?_
    obtain ⟨G0,hy6,heq⟩:=bind_some heq
    refine c6.e5 (o9 78 (bX4 hy6 )) ?_
    rintro _ _ _ _ ⟨_,rfl,rfl,rfl,rfl⟩
    refine Zk 10 ?_
    obtain rfl:=Option.some.inj heq
    refine Dn ?_
    exact Gt 1 [] (ah3)
theorem ac1.ad6 {r:Int}:∀ (a0:k7) (e3:Option Addr) (e4 g1:Nat) (y2:Bool × Bool × Bool × Bool) (v20:Bool) ,Rw Kd.string H F e3 a0.j9→a0.j9.length≤e4→ac1.j1 a0 y2 v20=some r→b8 C39 (S39 F H r) H w0 [.c [1,1,1,0,0,1],.b 0,.c [1,1,1,1]] [(1,pg g1 0),(3,.bool y2.1),(5,.bool y2.2.2.1),(20,.bool v20)] H ((some (g1,.cells #[iv a0.Kind,iv a0.At,.string a0.b7,.slice e3 a0.j9.length e4,.string a0.Key,iv a0.j4] 50 (0,0)))::F):=by
 intro a0 e3 e4 g1 y2 v20 l8 q8 heq
 unfold ac1.j1 at heq
 refine Cb heq ?_ ?_
 ·intro x7 heq
  refine Sa 1<|Zd 1 ?_
  obtain rfl:=Option.some.inj heq
  refine Up 1 [] ?_
  exact b8.done (by kernel_rfl) Tryz.func39 (v:=iv 3) (by kernel_rfl) ⟨rfl,rfl,rfl⟩
 ·intro x7 heq
  refine An 2 ?_
  obtain ⟨t2,ht2,heq⟩:=bind_some heq
  have ap2:b8 C39 (S39 F H r) H w0 [.c [1,1,1,0,0,1,1,0,1],.c [1,1,1,0,0,1,1,1],.b 0,.c [1,1,1,1]] [(1,pg g1 0),(5,.bool y2.2.2.1),(50,.bool t2)] H ((some (g1,.cells #[iv a0.Kind,iv a0.At,.string a0.b7,.slice e3 a0.j9.length e4,.string a0.Key,iv a0.j4] 50 (0,0)))::F):=by
   refine Cb heq ?_ ?_
   ·intro R6 heq
    refine An 1 ?_
    exact Gt 0 [] ((ac1.aY2) a0 _ _ _ t2 l8 q8 heq)
   ·intro R6 heq
    obtain ⟨t4,ht4,heq⟩:=bind_some heq
    have aL5:b8 C39 (S39 F H r) H w0 [.c [1,1,1,0,0,1,1,1],.b 0,.c [1,1,1,1]] [(1,pg g1 0),(50,.bool t4)] H ((some (g1,.cells #[iv a0.Kind,iv a0.At,.string a0.b7,.slice e3 a0.j9.length e4,.string a0.Key,iv a0.j4] 50 (0,0)))::F):=by
     exact Gt 0 [] ((ac1.aY2) a0 _ _ _ t4 l8 q8 heq)
    replace heq:=ht4
    refine Sa 0<|Zk 2 ?_
    rcases y9 (y2.2.2.1) with Y1 | Y1
    ·replace heq:=A5 Y1 heq
     refine Zs 59 (congrArg Value.bool Y1)<|Zv 4 [bx 0 4] ?_
     obtain ⟨W2,hy7,heq⟩:=bind_some heq
     refine c6.e5 (o9 62 (bt5 hy7 )) ?_
     rintro _ _ _ _ ⟨_,rfl,rfl,rfl,rfl⟩
     refine Zk 8 ?_
     obtain rfl:=Option.some.inj heq
     refine Dn ?_
     exact Gt 0 [] (aL5)
    ·replace heq:=A6 Y1 heq
     refine Zs 59 (congrArg Value.bool Y1)<|Zk 8 ?_
     obtain rfl:=Option.some.inj heq
     refine Dn ?_
     exact Gt 0 [] (aL5)
  replace heq:=ht2
  refine Sa 0<|Zk 2 ?_
  rcases y9 (y2.1) with B3 | B3
  ·replace heq:=A5 B3 heq
   refine Zs 52 (congrArg Value.bool B3)<|Zv 4 [bx 0 2] ?_
   obtain ⟨y3,hy3,heq⟩:=bind_some heq
   refine c6.e5 (o9 55 (bt5 hy3 )) ?_
   rintro _ _ _ _ ⟨_,rfl,rfl,rfl,rfl⟩
   refine Zk 8 ?_
   obtain rfl:=Option.some.inj heq
   refine Dn ?_
   exact Gt 0 [] (ap2)
  ·replace heq:=A6 B3 heq
   refine Zs 52 (congrArg Value.bool B3)<|Zk 8 ?_
   obtain rfl:=Option.some.inj heq
   refine Dn ?_
   exact Gt 0 [] (ap2)
theorem df4 {a0:k7} {e3:Option Addr} {p7 e4:Nat} {r:Int} (heq:ac1.f a0=some r) (l8:Rw Kd.string H F e3 a0.j9) (q8:p7≤e4) (B4:p7=a0.j9.length):z7 Tryz.prog 39 #[.agg #[iv a0.Kind,iv a0.At,.string a0.b7,.slice e3 p7 e4,.string a0.Key,iv a0.j4]] H w0 (F) (S39 F H r):=by
 refine Co C39 Tryz.func39 Tryz.ntmps39 ?_
 subst B4
 unfold ac1.f at heq
 refine Sa 1 ?_
 refine c6.e5 (j6.new (d:=1) (v:=fun g=>.pointer (some ⟨g,0,none⟩)) (o:=fun g=>.cells #[iv a0.Kind,iv a0.At,.string a0.b7,.slice e3 a0.j9.length e4,.string a0.Key,iv a0.j4] 50 (0,0)) (fun g=>by kernel_rfl)) ?_
 rintro _ _ _ _ ⟨g1,rfl,rfl,rfl⟩
 refine Zd 2<|Sa 2<|Zv 2 [bx 0 0] ?_
 obtain ⟨y1,hy1,heq⟩:=bind_some heq
 refine c6.e5 (o9 10 (aY1 hy1 )) ?_
 rintro _ _ _ _ ⟨_,rfl,rfl,rfl,rfl⟩
 refine Zd 4 ?_
 refine Cb heq ?_ ?_
 ·intro o8 heq
  refine Sa 1<|Zd 1 ?_
  obtain rfl:=Option.some.inj heq
  refine Up 1 [] ?_
  exact b8.done (by kernel_rfl) Tryz.func39 (v:=iv 4) (by kernel_rfl) ⟨rfl,rfl,rfl⟩
 ·intro o8 heq
  refine Sa 2<|Zv 2 [bx 0 0] ?_
  obtain ⟨y2,hy2,heq⟩:=bind_some heq
  refine c6.e5 (o9 15 (df3 hy2 )) ?_
  rintro _ _ _ _ ⟨_,rfl,rfl,rfl,rfl⟩
  refine Zd 12<|An 4 ?_
  obtain ⟨t1,A9,heq⟩:=bind_some heq
  have O0:b8 C39 (S39 F H r) H w0 [.c [1,1,1,0,0,0,1],.c [1,1,1,0,0,1],.b 0,.c [1,1,1,1]] [(1,pg g1 0),(3,.bool y2.1),(4,.bool y2.2.1),(5,.bool y2.2.2.1),(6,.bool y2.2.2.2),(20,.bool t1)] H ((some (g1,.cells #[iv a0.Kind,iv a0.At,.string a0.b7,.slice e3 a0.j9.length e4,.string a0.Key,iv a0.j4] 50 (0,0)))::F):=by
   refine Cb heq ?_ ?_
   ·intro ak0 heq
    refine An 1 ?_
    exact Gt 0 [] ((ac1.ad6) a0 _ _ _ y2 t1 l8 q8 heq)
   ·intro ak0 heq
    refine An 1 ?_
    obtain ⟨t5,ht5,heq⟩:=bind_some heq
    have ai8:b8 C39 (S39 F H r) H w0 [.c [1,1,1,0,0,0,1,1,1],.c [1,1,1,0,0,1],.b 0,.c [1,1,1,1]] [(1,pg g1 0),(3,.bool y2.1),(5,.bool y2.2.2.1),(6,.bool y2.2.2.2),(20,.bool t5)] H ((some (g1,.cells #[iv a0.Kind,iv a0.At,.string a0.b7,.slice e3 a0.j9.length e4,.string a0.Key,iv a0.j4] 50 (0,0)))::F):=by
     refine Cb heq ?_ ?_
     ·intro aE9 heq
      refine An 1 ?_
      exact Gt 0 [] ((ac1.ad6) a0 _ _ _ y2 t5 l8 q8 heq)
     ·intro aE9 heq
      refine An 1 ?_
      obtain ⟨t6,ht6,heq⟩:=bind_some heq
      have aH8:b8 C39 (S39 F H r) H w0 [.c [1,1,1,0,0,0,1,1,1,1,1],.c [1,1,1,0,0,1],.b 0,.c [1,1,1,1]] [(1,pg g1 0),(3,.bool y2.1),(5,.bool y2.2.2.1),(6,.bool y2.2.2.2),(20,.bool t6)] H ((some (g1,.cells #[iv a0.Kind,iv a0.At,.string a0.b7,.slice e3 a0.j9.length e4,.string a0.Key,iv a0.j4] 50 (0,0)))::F):=by
       refine Cb heq ?_ ?_
       ·intro an7 heq
        refine An 1 ?_
        exact Gt 0 [] ((ac1.ad6) a0 _ _ _ y2 t6 l8 q8 heq)
       ·intro an7 heq
        obtain ⟨t7,ht7,heq⟩:=bind_some heq
        have bu2:b8 C39 (S39 F H r) H w0 [.c [1,1,1,0,0,1],.b 0,.c [1,1,1,1]] [(1,pg g1 0),(3,.bool y2.1),(5,.bool y2.2.2.1),(20,.bool t7)] H ((some (g1,.cells #[iv a0.Kind,iv a0.At,.string a0.b7,.slice e3 a0.j9.length e4,.string a0.Key,iv a0.j4] 50 (0,0)))::F):=by
         exact Gt 0 [] ((ac1.ad6) a0 _ _ _ y2 t7 l8 q8 heq)
        replace heq:=ht7
        refine Sa 0<|Zk 3 ?_
        rcases y9 (!y2.2.2.2) with an8 | an8
        ·replace heq:=A5 an8 heq
         refine Zs 45 (congrArg Value.bool an8)<|Zv 8 [bx 0 5] ?_
         obtain rfl:=Option.some.inj heq
         refine Dn ?_
         exact Gt 0 [] (bu2)
        ·replace heq:=A6 an8 heq
         refine Zs 45 (congrArg Value.bool an8)<|Zk 8 ?_
         obtain rfl:=Option.some.inj heq
         refine Dn ?_
         exact Gt 0 [] (bu2)
      replace heq:=ht6
      refine Sa 0<|Zk 3 ?_
      rcases y9 (!y2.2.2.1) with an9 | an9
      ·replace heq:=A5 an9 heq
       refine Zs 38 (congrArg Value.bool an9)<|Zv 8 [bx 0 4] ?_
       obtain rfl:=Option.some.inj heq
       refine Dn ?_
       exact Gt 0 [] (aH8)
      ·replace heq:=A6 an9 heq
       refine Zs 38 (congrArg Value.bool an9)<|Zk 8 ?_
       obtain rfl:=Option.some.inj heq
       refine Dn ?_
       exact Gt 0 [] (aH8)
    replace heq:=ht5
    refine Sa 0<|Zk 3 ?_
    rcases y9 (!y2.2.1) with ao0 | ao0
    ·replace heq:=A5 ao0 heq
     refine Zs 30 (congrArg Value.bool ao0)<|Zv 9 [bx 0 3] ?_
     obtain rfl:=Option.some.inj heq
     refine Dn ?_
     exact Gt 0 [] (ai8)
    ·replace heq:=A6 ao0 heq
     refine Zs 30 (congrArg Value.bool ao0)<|Zk 9 ?_
     obtain rfl:=Option.some.inj heq
     refine Dn ?_
     exact Gt 0 [] (ai8)
  replace heq:=A9
  refine Sa 0<|Zk 3 ?_
  rcases y9 (!y2.1) with s3 | s3
  ·replace heq:=A5 s3 heq
   refine Zs 23 (congrArg Value.bool s3)<|Zv 8 [bx 0 2] ?_
   obtain rfl:=Option.some.inj heq
   refine Dn ?_
   exact Gt 0 [] (O0)
  ·replace heq:=A6 s3 heq
   refine Zs 23 (congrArg Value.bool s3)<|Zk 8 ?_
   obtain rfl:=Option.some.inj heq
   refine Dn ?_
   exact Gt 0 [] (O0)
noncomputable def C40:Ctx:={ P:=Tryz.prog,f:=40,N:=33,c:=C1 Tryz.f40 }
def S40 (F:List Ch) (H0:Hp) (r:Int) (v:Value) (H:Hp) (cs:List Ch):Prop:=H0=H∧v=iv r∧F=cs
theorem S8.az5 {r:Int}:∀ (K2:Int) ,S8.e2 K2=some r→b8 C40 (S40 F H r) H w0 [.c [1,1,1,1,0],.c [1,1,1,1,1]] [(3,iv K2)] H (F):=by
 intro K2  heq
 unfold S8.e2 at heq
 refine Sa 0<|Zd 2 ?_
 obtain rfl:=Option.some.inj heq
 exact b8.done (by kernel_rfl) Tryz.func40 (v:=iv K2) (by kernel_rfl) ⟨rfl,rfl,rfl⟩
theorem S8.av4 {r:Int} (e2:Int→Option Int)
  (he2:∀ (K2:Int) ,e2 K2=some r→b8 C40 (S40 F H r) H w0 [.c [1,1,1,1,0],.c [1,1,1,1,1]] [(3,iv K2)] H (F)):∀ (k:Nat),∀ (a0:Cache) (e3:Option Addr) (e4:Nat) (K2 v23:Int) ,Rw k5 H F e3 a0.Entries→a0.Entries.length≤e4→S8.l3 e2 k a0 K2 v23=some r→b8 C40 (S40 F H r) H w0 [.c [1,1,1,0,1,0,0],.l [1,1,1,0,1,0,0],.b 2,.c [1,1,1,1]] [(3,iv K2),(21,.slice e3 a0.Entries.length e4),(22,iv (a0.Entries.length:Int)),(23,iv v23)] H (F):=by
 intro k
 induction k with
 | zero=>intro a0 e3 e4 K2 v23 l8 q8 heq; exact nomatch (show (none:Option Int)=some r from heq)
 | succ k u0 =>
  intro a0 e3 e4 K2 v23 l8 q8 heq
  rw [S8.l3] at heq
  refine Sa 1<|Zd 1<|An 1 ?_
  refine Cb heq ?_ ?_
  ·intro o8 heq
   refine Sa 4 ?_
   obtain ⟨x1,hx1,heq⟩:=bind_some heq
   obtain ⟨A7,I1,B1,B2⟩:=l8.get hx1
   obtain ⟨A1,c1,rfl,hc1,I0⟩:=Y7 B1
   refine Zv 2 ([nx A7 hx1]++ers B2 0) ?_
   refine c6.e5 (j6.new (d:=7) (v:=fun g=>.pointer (some ⟨g,0,none⟩)) (o:=fun g=>.cells #[.string ByteArray.empty,.slice none 0 0,iv 0] 47 (0,0)) (fun g=>by kernel_rfl)) ?_
   rintro _ _ _ _ ⟨g2,rfl,rfl,rfl⟩
   refine c6.e5 (j6.store (k:=0) (g:=g2) (off:=0) (v:=.agg #[.string x1.Key,.slice A1 x1.Refs.length c1,iv x1.Used]) (cells':=#[.string x1.Key,.slice A1 x1.Refs.length c1,iv x1.Used]) (by kernel_rfl) rfl (by kernel_rfl) (by kernel_rfl)) ?_
   rintro _ _ _ _ ⟨rfl,rfl,rfl⟩
   refine c6.p6 ?_
   refine Dn<|Sa 0<|Zw 5 [bx 0 2]<|Sa 1<|Zd 2<|An 1 ?_
   exact Gt 1 [] (u0 a0 _ _ (max2 K2 x1.Used) (c5 (v23+1)) l8 q8 heq)
  ·intro o8 heq
   refine An 2 ?_
   exact Gt 0 [] (he2 K2 heq)
theorem S8.D7 {r:Int}:∀ (a0:Cache) (e6:Option Addr) (e8:Nat) (e3:Option Addr) (e4 g1:Nat) (K2:Int) ,Rw j7 H F e6 a0.U→a0.U.length≤e8→Rw k5 H F e3 a0.Entries→a0.Entries.length≤e4→S8.e1 a0 K2=some r→b8 C40 (S40 F H r) H w0 [.c [1,1,1,0,0],.c [1,1,1,0,1],.c [1,1,1,1]] [(1,pg g1 0),(3,iv K2)] H ((some (g1,.cells #[iv a0.Room,iv a0.c4,.slice e6 a0.U.length e8,.slice e3 a0.Entries.length e4] 25 (0,0)))::F):=by
 intro a0 e6 e8 e3 e4 g1 K2 n9 s7 l8 q8 heq
 unfold S8.e1 at heq
 refine Sa 0<|Zw 4 [bx 0 3]<|An 2 ?_
 exact Gt 1 [] (((S8.av4 (e2:=S8.e2) (S8.az5)) n8) a0 _ _ K2 0 l8 q8 heq)
theorem S8.aL6 {r:Int} (e1:Cache→Int→Option Int)
  (D4:∀ (a0:Cache) (e6:Option Addr) (e8:Nat) (e3:Option Addr) (e4 g1:Nat) (K2:Int) ,Rw j7 H F e6 a0.U→a0.U.length≤e8→Rw k5 H F e3 a0.Entries→a0.Entries.length≤e4→e1 a0 K2=some r→b8 C40 (S40 F H r) H w0 [.c [1,1,1,0,0],.c [1,1,1,0,1],.c [1,1,1,1]] [(1,pg g1 0),(3,iv K2)] H ((some (g1,.cells #[iv a0.Room,iv a0.c4,.slice e6 a0.U.length e8,.slice e3 a0.Entries.length e4] 25 (0,0)))::F)):∀ (k:Nat),∀ (a0:Cache) (e6:Option Addr) (e8:Nat) (e3:Option Addr) (e4 g1:Nat) (K2 v11:Int) ,Rw j7 H F e6 a0.U→a0.U.length≤e8→Rw k5 H F e3 a0.Entries→a0.Entries.length≤e4→S8.l4 e1 k a0 K2 v11=some r→b8 C40 (S40 F H r) H w0 [.c [1,1,0,1,0,0],.l [1,1,0,1,0,0],.b 0,.c [1,1,1]] [(1,pg g1 0),(3,iv K2),(9,.slice e6 a0.U.length e8),(10,iv (a0.U.length:Int)),(11,iv v11)] H ((some (g1,.cells #[iv a0.Room,iv a0.c4,.slice e6 a0.U.length e8,.slice e3 a0.Entries.length e4] 25 (0,0)))::F):=by
 intro k
 induction k with
 | zero=>intro a0 e6 e8 e3 e4 g1 K2 v11 n9 s7 l8 q8 heq; exact nomatch (show (none:Option Int)=some r from heq)
 | succ k u0 =>
  intro a0 e6 e8 e3 e4 g1 K2 v11 n9 s7 l8 q8 heq
  rw [S8.l4] at heq
  refine Sa 1<|Zd 1<|An 1 ?_
  refine Cb heq ?_ ?_
  ·intro s3 heq
   refine Sa 4 ?_
   obtain ⟨x2,w6,heq⟩:=bind_some heq
   obtain ⟨J2,T7,I8,J7⟩:=n9.get w6
   obtain ⟨rfl⟩:=C6 I8
   refine Zv 2 ([nx J2 w6]++ers J7 1) ?_
   refine c6.e5 (j6.new (d:=5) (v:=fun g=>.pointer (some ⟨g,0,none⟩)) (o:=fun g=>.cells #[.string ByteArray.empty,iv 0,iv 0,iv 0,iv 0] 44 (0,0)) (fun g=>by kernel_rfl)) ?_
   rintro _ _ _ _ ⟨g3,rfl,rfl,rfl⟩
   refine c6.e5 (j6.store (k:=0) (g:=g3) (off:=0) (v:=.agg #[.string x2.b7,iv x2.j4,iv x2.Used,iv x2.u6,iv x2.q4]) (cells':=#[.string x2.b7,iv x2.j4,iv x2.Used,iv x2.u6,iv x2.q4]) (by kernel_rfl) rfl (by kernel_rfl) (by kernel_rfl)) ?_
   rintro _ _ _ _ ⟨rfl,rfl,rfl⟩
   refine c6.p6 ?_
   refine Dn<|Sa 0<|Zw 5 [bx 0 2]<|Sa 1<|Zd 2<|An 1 ?_
   exact Gt 1 [] (u0 a0 _ _ _ _ _ (max2 K2 x2.Used) (c5 (v11+1)) n9 s7 l8 q8 heq)
  ·intro s3 heq
   refine An 3 ?_
   exact Gt 0 [] (D4 a0 _ _ _ _ _ K2 n9 s7 l8 q8 heq)
theorem df6 {a0:Cache} {e6:Option Addr} {q2 e8:Nat} {e3:Option Addr} {p7 e4:Nat} {r:Int} (heq:S8.f a0=some r) (n9:Rw j7 H F e6 a0.U) (s7:q2≤e8) (B9:q2=a0.U.length) (l8:Rw k5 H F e3 a0.Entries) (q8:p7≤e4) (B4:p7=a0.Entries.length):z7 Tryz.prog 40 #[.agg #[iv a0.Room,iv a0.c4,.slice e6 q2 e8,.slice e3 p7 e4]] H w0 (F) (S40 F H r):=by
 refine Co C40 Tryz.func40 Tryz.ntmps40 ?_
 subst B9
 subst B4
 unfold S8.f at heq
 refine Sa 1 ?_
 refine c6.e5 (j6.new (d:=1) (v:=fun g=>.pointer (some ⟨g,0,none⟩)) (o:=fun g=>.cells #[iv a0.Room,iv a0.c4,.slice e6 a0.U.length e8,.slice e3 a0.Entries.length e4] 25 (0,0)) (fun g=>by kernel_rfl)) ?_
 rintro _ _ _ _ ⟨g1,rfl,rfl,rfl⟩
 refine Zd 2<|Sa 1<|Zd 1<|Sa 2<|Zw 4 [bx 0 2]<|An 2 ?_
 exact Gt 0 [] (((S8.aL6 (e1:=S8.e1) (S8.D7)) n8) a0 _ _ _ _ _ 0 0 n9 s7 l8 q8 heq)
def S63 (F:List Ch) (H0:Hp) (r:Int) (v:Value) (H:Hp) (cs:List Ch):Prop:=H0=H∧v=iv r∧F=cs
theorem cw2 {a0:ByteArray} {a1:ByteArray} {r:Int} (heq:strings_Compare.f a0 a1=some r):z7 Tryz.prog 63 #[.string a0,.string a1] H w0 F (S63 F H r):=by
 intro w hh
 unfold strings_Compare.f at heq
 obtain rfl:=Option.some.inj heq
 refine (Shelf.Tryz.strings_Compare a0 a1 w).mono ?_
 rintro e w' ⟨rfl,rfl⟩
 exact ⟨_,rfl,H,F,Le.refl H,hh,rfl,rfl,rfl⟩
noncomputable def C62:Ctx:={ P:=Tryz.prog,f:=62,N:=9,c:=C1 Tryz.f62 }
def S62 (F:List Ch) (H0:Hp) (r:Int) (v:Value) (H:Hp) (cs:List Ch):Prop:=H0=H∧v=iv r∧F=cs
theorem cw3 {a0:Blob} {a1:ByteArray} {r:Int} (heq:bp7.f a0 a1=some r):z7 Tryz.prog 62 #[.agg #[.string a0.b7,iv a0.j4,iv a0.Used,iv a0.u6,iv a0.q4],.string a1] H w0 (F) (S62 F H r):=by
 refine Co C62 Tryz.func62 Tryz.ntmps62 ?_
 unfold bp7.f at heq
 refine Sa 1 ?_
 refine c6.e5 (j6.new (d:=2) (v:=fun g=>.pointer (some ⟨g,0,none⟩)) (o:=fun g=>.cells #[.string a0.b7,iv a0.j4,iv a0.Used,iv a0.u6,iv a0.q4] 44 (0,0)) (fun g=>by kernel_rfl)) ?_
 rintro _ _ _ _ ⟨g1,rfl,rfl,rfl⟩
 refine Zd 2<|Sa 1<|Zv 3 [bx 0 0] ?_
 obtain ⟨y1,hy1,heq⟩:=bind_some heq
 refine c6.e5 (o9 8 (cw2 (a0:=a0.b7) (a1:=a1)  hy1)) ?_
 rintro _ _ _ _ ⟨_,rfl,rfl,rfl,rfl⟩
 refine Zd 5 ?_
 obtain rfl:=Option.some.inj heq
 refine Up 1 [] ?_
 exact b8.done (by kernel_rfl) Tryz.func62 (v:=iv y1) (by kernel_rfl) ⟨rfl,rfl,rfl⟩
noncomputable def C61:Ctx:={ P:=Tryz.prog,f:=61,N:=49,c:=C1 Tryz.f61 }
def S61 (F:List Ch) (H0:Hp) (r:Int × Bool) (v:Value) (H:Hp) (cs:List Ch):Prop:=H0=H∧v=.tuple #[iv r.1,.bool r.2]∧F=cs
theorem ai2.D7 {r:Int × Bool}:∀ (a0:List Blob) (e7:Option Addr) (c8:Nat) (a1:ByteArray) (y5:Int) ,Rw j7 H F e7 a0→a0.length≤c8→ai2.e1 a0 a1 y5=some r→b8 C61 (S61 F H r) H w0 [.c [1,1,1,1,0],.c [1,1,1,1,1]] [(0,.slice e7 a0.length c8),(1,.string a1),(2,.func (.func 62) #[] #[]),(8,iv (a0.length:Int)),(9,iv y5)] H (F):=by
 intro a0 e7 c8 a1 y5 B6 G9 heq
 unfold ai2.e1 at heq
 obtain ⟨t1,A9,heq⟩:=bind_some heq
 have Z0:b8 C61 (S61 F H r) H w0 [.c [1,1,1,1,1]] [(6,iv y5),(7,.bool t1)] H (F):=by
  obtain rfl:=Option.some.inj heq
  exact b8.done (by kernel_rfl) Tryz.func61 (v:=.tuple #[iv y5,.bool t1]) (by kernel_rfl) ⟨rfl,rfl,rfl⟩
 replace heq:=A9
 refine Sa 0<|Zk 5 ?_
 rcases y9 (decide (y5<(a0.length:Int))) with o8 | o8
 ·replace heq:=A5 o8 heq
  refine Zs 39 (congrArg Value.bool o8) ?_
  obtain ⟨x1,hx1,heq⟩:=bind_some heq
  obtain ⟨A7,I1,B1,B2⟩:=B6.get hx1
  obtain ⟨rfl⟩:=C6 B1
  refine Zv 11 ([nx A7 hx1]++ers B2 0) ?_
  obtain ⟨y1,hy1,heq⟩:=bind_some heq
  refine c6.e5 (o9 46 (cw3 hy1 )) ?_
  rintro _ _ _ _ ⟨_,rfl,rfl,rfl,rfl⟩
  refine Zk 16 ?_
  obtain rfl:=Option.some.inj heq
  refine Dn ?_
  exact Gt 0 [] (Z0)
 ·replace heq:=A6 o8 heq
  refine Zs 39 (congrArg Value.bool o8)<|Zk 16 ?_
  obtain rfl:=Option.some.inj heq
  refine Dn ?_
  exact Gt 0 [] (Z0)
theorem ai2.F9 {r:Int × Bool} (e1:(List Blob)→ByteArray→Int→Option (Int × Bool))
  (D4:∀ (a0:List Blob) (e7:Option Addr) (c8:Nat) (a1:ByteArray) (y5:Int) ,Rw j7 H F e7 a0→a0.length≤c8→e1 a0 a1 y5=some r→b8 C61 (S61 F H r) H w0 [.c [1,1,1,1,0],.c [1,1,1,1,1]] [(0,.slice e7 a0.length c8),(1,.string a1),(2,.func (.func 62) #[] #[]),(8,iv (a0.length:Int)),(9,iv y5)] H (F)):∀ (k:Nat),∀ (a0:List Blob) (e7:Option Addr) (c8:Nat) (a1:ByteArray) (y5 ae7:Int) ,Rw j7 H F e7 a0→a0.length≤c8→ai2.l2 e1 k a0 a1 y5 ae7=some r→b8 C61 (S61 F H r) H w0 [.c [1,1,1,0,0,0],.l [1,1,1,0,0,0],.b 0,.c [1,1,1,1]] [(0,.slice e7 a0.length c8),(1,.string a1),(2,.func (.func 62) #[] #[]),(8,iv (a0.length:Int)),(9,iv y5),(10,iv ae7)] H (F):=by
 intro k
 induction k with
 | zero=>intro a0 e7 c8 a1 y5 ae7 B6 G9 heq; exact nomatch (show (none:Option (Int × Bool))=some r from heq)
 | succ k u0 =>
  intro a0 e7 c8 a1 y5 ae7 B6 G9 heq
  rw [ai2.l2] at heq
  refine Sa 2<|Zd 3 ?_
  refine Cb heq ?_ ?_
  ·intro s3 heq
   refine Sa 3<|Zw 7 [⟨.need ((0:Int)≤1),fun w hh=>(show (0:Int)≤1 by decide)⟩]<|Sa 1 ?_
   obtain ⟨x2,w6,heq⟩:=bind_some heq
   obtain ⟨J2,T7,I8,J7⟩:=B6.get w6
   obtain ⟨rfl⟩:=C6 I8
   refine Zv 6 ([nx J2 w6]++ers J7 0) ?_
   obtain ⟨y2,hy2,heq⟩:=bind_some heq
   refine c6.e5 (o9 30 (cw3 hy2 )) ?_
   rintro _ _ _ _ ⟨_,rfl,rfl,rfl,rfl⟩
   refine Zd 8 ?_
   refine Cb heq ?_ ?_
   ·intro x7 heq
    refine Sa 0<|Zd 3<|An 2 ?_
    exact Gt 0 [] (u0 a0 _ _ a1 (c5 ((c5 (F8 .u64 (IntKind.wrap .u64 (c5 (y5+ae7))) 1))+1)) ae7 B6 G9 heq)
   ·intro x7 heq
    refine Sa 0<|Zd 2<|An 2 ?_
    exact Gt 0 [] (u0 a0 _ _ a1 y5 (c5 (F8 .u64 (IntKind.wrap .u64 (c5 (y5+ae7))) 1)) B6 G9 heq)
  ·intro s3 heq
   refine An 2 ?_
   exact Gt 0 [] (D4 a0 _ _ a1 y5 B6 G9 heq)
theorem dg0 {a0:List Blob} {e7:Option Addr} {s0 c8:Nat} {a1:ByteArray} {r:Int × Bool} (heq:ai2.f a0 a1=some r) (B6:Rw j7 H F e7 a0) (G9:s0≤c8) (L8:s0=a0.length):z7 Tryz.prog 61 #[.slice e7 s0 c8,.string a1,.func (.func 62) #[] #[]] H w0 (F) (S61 F H r):=by
 refine Co C61 Tryz.func61 Tryz.ntmps61 ?_
 subst L8
 unfold ai2.f at heq
 refine Sa 1<|Zd 2<|Sa 1<|Zd 3<|Sa 1<|Zd 3<|An 3 ?_
 exact Gt 0 [] (((ai2.F9 (e1:=ai2.e1) (ai2.D7)) n8) a0 _ _ a1 0 (a0.length:Int) B6 G9 heq)
noncomputable def C41:Ctx:={ P:=Tryz.prog,f:=41,N:=12,c:=C1 Tryz.f41 }
def S41 (F:List Ch) (H0:Hp) (r:Int × Bool) (v:Value) (H:Hp) (cs:List Ch):Prop:=H0=H∧v=.tuple #[iv r.1,.bool r.2]∧F=cs
theorem bk4 {a0:Cache} {e6:Option Addr} {q2 e8:Nat} {e3:Option Addr} {p7 e4:Nat} {a1:ByteArray} {r:Int × Bool} (heq:aE1.f a0 a1=some r) (n9:Rw j7 H F e6 a0.U) (s7:q2≤e8) (B9:q2=a0.U.length) (l8:Rw k5 H F e3 a0.Entries) (q8:p7≤e4) (B4:p7=a0.Entries.length):z7 Tryz.prog 41 #[.agg #[iv a0.Room,iv a0.c4,.slice e6 q2 e8,.slice e3 p7 e4],.string a1] H w0 (F) (S41 F H r):=by
 refine Co C41 Tryz.func41 Tryz.ntmps41 ?_
 subst B9
 subst B4
 unfold aE1.f at heq
 refine Sa 1 ?_
 refine c6.e5 (j6.new (d:=2) (v:=fun g=>.pointer (some ⟨g,0,none⟩)) (o:=fun g=>.cells #[iv a0.Room,iv a0.c4,.slice e6 a0.U.length e8,.slice e3 a0.Entries.length e4] 25 (0,0)) (fun g=>by kernel_rfl)) ?_
 rintro _ _ _ _ ⟨g1,rfl,rfl,rfl⟩
 refine Zd 3<|Sa 1<|Zv 3 [bx 0 2] ?_
 obtain ⟨y1,hy1,heq⟩:=bind_some heq
 refine c6.e5 (o9 9 (dg0 hy1 (n9.wk (fun _ h=>(.tail _ h))) s7 rfl)) ?_
 rintro _ _ _ _ ⟨_,rfl,rfl,rfl,rfl⟩
 refine Zd 8 ?_
 obtain rfl:=Option.some.inj heq
 refine Up 1 [] ?_
 exact b8.done (by kernel_rfl) Tryz.func41 (v:=.tuple #[iv y1.1,.bool y1.2]) (by kernel_rfl) ⟨rfl,rfl,rfl⟩
noncomputable def C48:Ctx:={ P:=Tryz.prog,f:=48,N:=14,c:=C1 Tryz.f48 }
def S48 (F:List Ch) (H0:Hp) (r:Bool) (v:Value) (H:Hp) (cs:List Ch):Prop:=H0=H∧v=.bool r∧F=cs
theorem cw6 {a0:Blob} {a1:Int} {r:Bool} (heq:bh9.f a0 a1=some r):z7 Tryz.prog 48 #[.agg #[.string a0.b7,iv a0.j4,iv a0.Used,iv a0.u6,iv a0.q4],iv a1] H w0 (F) (S48 F H r):=by
 refine Co C48 Tryz.func48 Tryz.ntmps48 ?_
 unfold bh9.f at heq
 refine Sa 1 ?_
 refine c6.e5 (j6.new (d:=2) (v:=fun g=>.pointer (some ⟨g,0,none⟩)) (o:=fun g=>.cells #[.string a0.b7,iv a0.j4,iv a0.Used,iv a0.u6,iv a0.q4] 44 (0,0)) (fun g=>by kernel_rfl)) ?_
 rintro _ _ _ _ ⟨g1,rfl,rfl,rfl⟩
 refine Zd 2<|An 1 ?_
 obtain ⟨t1,A9,heq⟩:=bind_some heq
 have O0:b8 C48 (S48 F H r) H w0 [.c [1,1]] [(4,.bool t1)] H (F):=by
  obtain rfl:=Option.some.inj heq
  exact b8.done (by kernel_rfl) Tryz.func48 (v:=.bool t1) (by kernel_rfl) ⟨rfl,rfl,rfl⟩
 replace heq:=A9
 refine Sa 0<|Zv 4 [bx 0 4] ?_
 rcases y9 (decide (0<a0.q4)) with o8 | o8
 ·replace heq:=A5 o8 heq
  refine Zs 8 (congrArg Value.bool o8)<|Zk 10 ?_
  obtain rfl:=Option.some.inj heq
  refine Dn ?_
  exact Gt 1 [] (O0)
 ·replace heq:=A6 o8 heq
  refine Zs 8 (congrArg Value.bool o8)<|Zv 10 [bx 0 3] ?_
  obtain rfl:=Option.some.inj heq
  refine Dn ?_
  exact Gt 1 [] (O0)
noncomputable def dg3:Ctx:={ P:=Tryz.prog,f:=103,N:=7,c:=C1 Tryz.f103 }
def dg4 (F:List Ch) (H0:Hp) (r:Bool) (v:Value) (H:Hp) (cs:List Ch):Prop:=H0=H∧v=.bool r∧F=cs
theorem cw7 {a0:Blob} {ga1:Nat} {a1:Int} {r:Bool} (heq:bi9.f a0 a1=some r) (bX7:P3 H F ga1 (.cells #[iv a1] 3 (0,0))):z7 Tryz.prog 103 #[.agg #[.string a0.b7,iv a0.j4,iv a0.Used,iv a0.u6,iv a0.q4],.pointer (some ⟨ga1,0,none⟩)] H w0 (F) (dg4 F H r):=by
 refine Co dg3 Tryz.func103 Tryz.ntmps103 ?_
 unfold bi9.f at heq
 refine Sa 1 ?_
 refine c6.e5 (j6.new (d:=2) (v:=fun g=>.pointer (some ⟨g,0,none⟩)) (o:=fun g=>.cells #[.string a0.b7,iv a0.j4,iv a0.Used,iv a0.u6,iv a0.q4] 44 (0,0)) (fun g=>by kernel_rfl)) ?_
 rintro _ _ _ _ ⟨g1,rfl,rfl,rfl⟩
 refine Zd 2<|Sa 1<|Zv 2 (C8 0++[rb bX7 1 0]) ?_
 obtain ⟨y1,hy1,heq⟩:=bind_some heq
 refine c6.e5 (o9 6 (cw6 hy1 )) ?_
 rintro _ _ _ _ ⟨_,rfl,rfl,rfl,rfl⟩
 refine Zd 4 ?_
 obtain rfl:=Option.some.inj heq
 refine Up 1 [] ?_
 exact b8.done (by kernel_rfl) Tryz.func103 (v:=.bool y1) (by kernel_rfl) ⟨rfl,rfl,rfl⟩
noncomputable def C96:Ctx:={ P:=Tryz.prog,f:=96,N:=19,c:=C1 Tryz.f96 }
def S96 (F:List Ch) (H0:Hp) (r:Int) (v:Value) (H:Hp) (cs:List Ch):Prop:=H0=H∧v=iv r∧F=cs
theorem al5.D7 {r:Int}:al5.e1=some r→b8 C96 (S96 F H r) H w0 [.c [1,1,0],.c [1,1,1]] [] H (F):=by
 intro   heq
 unfold al5.e1 at heq
 refine Sa 0<|Zd 1 ?_
 obtain rfl:=Option.some.inj heq
 exact b8.done (by kernel_rfl) Tryz.func96 (v:=iv (-1)) (by kernel_rfl) ⟨rfl,rfl,rfl⟩
theorem al5.F9 {r:Int} (e1:Option Int)
  (D4:e1=some r→b8 C96 (S96 F H r) H w0 [.c [1,1,0],.c [1,1,1]] [] H (F)):∀ (k:Nat),∀ (a0:List Blob) (e7:Option Addr) (c8 Q7:Nat) (D9 v8:Int) ,Rw j7 H F e7 a0→a0.length≤c8→P3 H F Q7 (.cells #[iv D9] 3 (0,0))→al5.l2 e1 k a0 D9 v8=some r→b8 C96 (S96 F H r) H w0 [.c [1,0,1,0,0],.l [1,0,1,0,0],.b 0,.c [1,1]] [(0,.slice e7 a0.length c8),(1,.func (.func 103) #[] #[.pointer (some ⟨Q7,0,none⟩)]),(7,iv (a0.length:Int)),(8,iv v8)] H (F):=by
 intro k
 induction k with
 | zero=>intro a0 e7 c8 Q7 D9 v8 B6 G9 aa7 heq; exact nomatch (show (none:Option Int)=some r from heq)
 | succ k u0 =>
  intro a0 e7 c8 Q7 D9 v8 B6 G9 aa7 heq
  rw [al5.l2] at heq
  refine Sa 1<|Zd 1<|An 1 ?_
  refine Cb heq ?_ ?_
  ·intro o8 heq
   refine Sa 4<|Zd 2<|Sa 1 ?_
   obtain ⟨x1,hx1,heq⟩:=bind_some heq
   obtain ⟨A7,I1,B1,B2⟩:=B6.get hx1
   obtain ⟨rfl⟩:=C6 B1
   refine Zv 5 ([nx A7 hx1]++ers B2 0) ?_
   obtain ⟨y1,hy1,heq⟩:=bind_some heq
   refine c6.e5 (o9 16 (cw7 hy1 aa7)) ?_
   rintro _ _ _ _ ⟨_,rfl,rfl,rfl,rfl⟩
   refine Dn ?_
   refine Cb heq ?_ ?_
   ·intro s3 heq
    refine Sa 1<|Zd 2 ?_
    obtain rfl:=Option.some.inj heq
    exact b8.done (by kernel_rfl) Tryz.func96 (v:=iv v8) (by kernel_rfl) ⟨rfl,rfl,rfl⟩
   ·intro s3 heq
    refine Sa 2<|Zd 2<|An 1 ?_
    exact Gt 0 [] (u0 a0 _ _ _ D9 (c5 (v8+1)) B6 G9 aa7 heq)
  ·intro o8 heq
   refine An 2 ?_
   exact Gt 0 [] (D4 heq)
theorem dg5 {a0:List Blob} {e7:Option Addr} {s0 c8 Q7:Nat} {D9:Int} {r:Int} (heq:al5.f a0 D9=some r) (B6:Rw j7 H F e7 a0) (G9:s0≤c8) (L8:s0=a0.length) (aa7:P3 H F Q7 (.cells #[iv D9] 3 (0,0))):z7 Tryz.prog 96 #[.slice e7 s0 c8,.func (.func 103) #[] #[.pointer (some ⟨Q7,0,none⟩)]] H w0 (F) (S96 F H r):=by
 refine Co C96 Tryz.func96 Tryz.ntmps96 ?_
 subst L8
 unfold al5.f at heq
 refine Sa 1<|Zd 1<|Sa 2<|Zd 3<|An 2 ?_
 exact Gt 0 [] (((al5.F9 (e1:=al5.e1) (al5.D7)) n8) a0 _ _ _ D9 0 B6 G9 aa7 heq)
noncomputable def C69:Ctx:={ P:=Tryz.prog,f:=69,N:=42,c:=C1 Tryz.f69 }
def S69 (F:List Ch) (H0:Hp) (r:(List Blob)) (v:Value) (H:Hp) (cs:List Ch):Prop:=∃ (ad8:Option Addr) (c0:Nat) (J6:Ch),H0=H∧v=.slice ad8 r.length c0∧J6::F=cs∧b6 j7 44 H ad8 c0 r J6
theorem X3.D7 {r:(List Blob)}:∀ (z1:List Blob) (P1:Option Addr) (W3 N4:Nat) (W4:Ch) (n7:Int) ,b6 j7 44 H P1 N4 z1 W4→W3=z1.length→X3.e1 z1 n7=some r→b8 C69 (S69 F H r) H w0 [.c [1,1,1,1,0],.c [1,1,1,1,1]] [(0,.slice P1 W3 N4),(5,iv n7)] H (W4::F):=by
 intro z1 P1 W3 N4 W4 n7 ac6 aF0 heq
 subst aF0
 unfold X3.e1 at heq
 refine Sa 0 ?_
 obtain ⟨hn2,heq⟩:=M1 heq
 have C4:z1.length - n7.toNat=(z1.drop n7.toNat).length:=by have h1:=O6 hn2; have h3:=trivial; (try simp); (try omega)
 have r8:=ac6.drop n7.toNat (by have h2:=ac6.cap; have h3:=trivial; have h1:=O6 hn2; omega)
 refine Zv 3 [⟨.need ((0:Int)≤n7∧n7≤((z1.length:Nat):Int)),fun w hh=>(O6 hn2)⟩] ?_
 refine c6.e5 (j6.clear (k:=0) (j:=n7.toNat) (n:=z1.length - n7.toNat) (t:=22) (e:=44) (bytes:=48) (kd:=j7) (A:=P1) (aa3:=(K6 N4 n7.toNat 5 P1)) (c:=N4) (c2:=(N4 - n7.toNat)) (xs:=z1) (z:=(⟨ByteArray.empty,0,0,0,0⟩:Blob)) (zc:=#[.string ByteArray.empty,iv 0,iv 0,iv 0,iv 0]) (by kernel_rfl) (by have h3:=trivial; omega) (by kernel_rfl) (by kernel_rfl) af8 (by kernel_rfl) rfl ac6 (by have h1:=O6 hn2; have h3:=trivial; omega) (fun h b off hA=>ay6 h ac6.cap hA)) ?_
 rintro _ _ _ _ ⟨r9,rfl,rfl,rfl,w8⟩
 have S9:z1.length=(z1.take n7.toNat++List.replicate (z1.length - n7.toNat) (⟨ByteArray.empty,0,0,0,0⟩:Blob)).length:=by have h1:=O6 hn2; have h3:=trivial; simp; omega
 refine c6.p6 ?_
 refine Dn<|Sa 1 ?_
 obtain ⟨hn5,heq⟩:=M1 heq
 have hn4:n7.toNat=((z1.take n7.toNat++List.replicate (z1.length - n7.toNat) (⟨ByteArray.empty,0,0,0,0⟩:Blob)).take n7.toNat).length:=by have h1:=O6 hn5; have h3:=S9; (try simp); (try omega)
 have w4:=w8.take n7.toNat
 refine Zw 4 [⟨.need ((0:Int)≤n7∧n7≤((N4:Nat):Int)),fun w hh=>⟨(O6 hn5).1,(by have h1:=(O6 hn5).2; have h2:=(show z1.length≤N4 from by have:=w8.cap; have:=S9; omega); have h3:=S9; omega)⟩⟩] ?_
 obtain rfl:=Option.some.inj heq
 exact b8.done (by kernel_rfl) Tryz.func69 (v:=.slice P1 n7.toNat N4) (by kernel_rfl) ⟨P1,N4,r9,rfl,(by first | rfl | exact congrArg (fun q=>Value.slice _ q _) hn4 | (rw [hn4]; done) | (simp only [← hn4])),(by first | rfl | (rw [hn4]; done) | (rw [hn4]; rfl) | (simp only [List.length_set]; done) | (simp only [List.length_set]; rfl)),w4⟩
theorem X3.ai7 {r:(List Blob)} (K5:Int→(List Blob)→Int→Int→Option (List Blob))
  (ax7:∀ (Q7:Nat) (D9:Int) (z1:List Blob) (P1:Option Addr) (W3 N4:Nat) (W4:Ch) (n7 R7:Int) ,P3 H F Q7 (.cells #[iv D9] 3 (0,0))→b6 j7 44 H P1 N4 z1 W4→W3=z1.length→K5 D9 z1 n7 R7=some r→b8 C69 (S69 F H r) H w0 [.c [1,1,1,0,1,0,0],.l [1,1,1,0,1,0,0],.b 0,.c [1,1,1,1]] [(0,.slice P1 W3 N4),(1,.func (.func 103) #[] #[.pointer (some ⟨Q7,0,none⟩)]),(5,iv n7),(6,iv R7)] H (W4::F)):∀ (Q7:Nat) (D9 R7:Int) (z1:List Blob) (P1:Option Addr) (W3 N4:Nat) (W4:Ch) (n7:Int) ,P3 H F Q7 (.cells #[iv D9] 3 (0,0))→b6 j7 44 H P1 N4 z1 W4→W3=z1.length→X3.j3 K5 D9 R7 z1 n7=some r→b8 C69 (S69 F H r) H w0 [.c [1,1,1,0,1,0,0,1,1],.l [1,1,1,0,1,0,0],.b 0,.c [1,1,1,1]] [(0,.slice P1 W3 N4),(1,.func (.func 103) #[] #[.pointer (some ⟨Q7,0,none⟩)]),(5,iv n7),(6,iv R7)] H (W4::F):=by
 intro Q7 D9 R7 z1 P1 W3 N4 W4 n7 aa7 ac6 aF0 heq
 subst aF0
 unfold X3.j3 at heq
 refine Sa 0<|Zd 3<|An 1 ?_
 exact Gt 0 [] (ax7 _ D9 z1 _ _ _ _ n7 (c5 (R7+1)) aa7 ac6 rfl heq)
theorem X3.F9 {r:(List Blob)} (e1:(List Blob)→Int→Option (List Blob))
  (D4:∀ (z1:List Blob) (P1:Option Addr) (W3 N4:Nat) (W4:Ch) (n7:Int) ,b6 j7 44 H P1 N4 z1 W4→W3=z1.length→e1 z1 n7=some r→b8 C69 (S69 F H r) H w0 [.c [1,1,1,1,0],.c [1,1,1,1,1]] [(0,.slice P1 W3 N4),(5,iv n7)] H (W4::F)):∀ (k:Nat),∀ (Q7:Nat) (D9:Int) (z1:List Blob) (P1:Option Addr) (W3 N4:Nat) (W4:Ch) (n7 R7:Int) ,P3 H F Q7 (.cells #[iv D9] 3 (0,0))→b6 j7 44 H P1 N4 z1 W4→W3=z1.length→X3.l2 e1 k D9 z1 n7 R7=some r→b8 C69 (S69 F H r) H w0 [.c [1,1,1,0,1,0,0],.l [1,1,1,0,1,0,0],.b 0,.c [1,1,1,1]] [(0,.slice P1 W3 N4),(1,.func (.func 103) #[] #[.pointer (some ⟨Q7,0,none⟩)]),(5,iv n7),(6,iv R7)] H (W4::F):=by
 intro k
 induction k with
 | zero=>intro Q7 D9 z1 P1 W3 N4 W4 n7 R7 aa7 ac6 aF0 heq; exact nomatch (show (none:Option (List Blob))=some r from heq)
 | succ k u0 =>
  intro Q7 D9 z1 P1 W3 N4 W4 n7 R7 aa7 ac6 aF0 heq
  subst aF0
  rw [X3.l2] at heq
  refine Sa 2<|Zd 4 ?_
  refine Cb heq ?_ ?_
  ·intro s3 heq
   refine Sa 4 ?_
   obtain ⟨x1,hx1,heq⟩:=bind_some heq
   obtain ⟨A7,I1,B1,B2⟩:=ac6.get hx1
   obtain ⟨rfl⟩:=C6 B1
   refine Zv 4 ([nx A7 hx1]++els B2 0) ?_
   refine c6.e5 (j6.new (d:=7) (v:=fun g=>.pointer (some ⟨g,0,none⟩)) (o:=fun g=>.cells #[.string ByteArray.empty,iv 0,iv 0,iv 0,iv 0] 44 (0,0)) (fun g=>by kernel_rfl)) ?_
   rintro _ _ _ _ ⟨g1,rfl,rfl,rfl⟩
   refine c6.e5 (j6.store (k:=0) (g:=g1) (off:=0) (v:=.agg #[.string x1.b7,iv x1.j4,iv x1.Used,iv x1.u6,iv x1.q4]) (cells':=#[.string x1.b7,iv x1.j4,iv x1.Used,iv x1.u6,iv x1.q4]) (by kernel_rfl) rfl (by kernel_rfl) (by kernel_rfl)) ?_
   rintro _ _ _ _ ⟨rfl,rfl,rfl⟩
   refine c6.p6 ?_
   refine Dn<|Sa 1<|Zv 2 (C8 0) ?_
   obtain ⟨y2,hy2,heq⟩:=bind_some heq
   refine c6.e5 (o9 28 (cw7 hy2 (aa7.wk (fun _ h=>(.tail _ (.tail _ h)))))) ?_
   rintro _ _ _ _ ⟨_,rfl,rfl,rfl,rfl⟩
   refine Zd 4 ?_
   refine Cb heq ?_ ?_
   ·intro x7 heq
    refine Sa 1 ?_
    obtain ⟨x2,w6,heq⟩:=bind_some heq
    obtain ⟨J2,T7,I8,J7⟩:=ac6.get w6
    obtain ⟨rfl⟩:=C6 I8
    refine Zv 4 (C8 0++[nx J2 w6]) ?_
    obtain ⟨W1,ae3,Q4,ad7⟩:=ac6.get w6
    obtain ⟨rfl⟩:=C6 Q4
    refine c6.e5 (j6.ab7 (a:=((H8 P1).add (n7.toNat*5))) (k:=1) (kd:=j7) (c0:=[.string x2.b7,iv x2.j4,iv x2.Used,iv x2.u6,iv x2.q4]) (x':=x1) (o:=0) (ix:=n7) (v:=.agg #[.string x1.b7,iv x1.j4,iv x1.Used,iv x1.u6,iv x1.q4]) (by kernel_rfl) rfl ac6 w6 (by kernel_rfl) ad7 rfl (Nat.le_of_ble_eq_true (by kernel_rfl)) af8) ?_
    rintro _ _ _ _ ⟨B5,rfl,rfl,rfl,C9⟩
    have hn6:z1.length=(z1.set n7.toNat x1).length:=by rw [List.length_set]
    refine c6.p6 ?_
    refine Dn<|Sa 0<|Zd 3<|An 1 ?_
    exact Gt 1 [] ((X3.ai7 (K5:=(X3.l2 e1 k)) u0) _ D9 R7 (z1.set n7.toNat x1) _ _ _ _ (c5 (n7+1)) aa7 C9 hn6 heq)
   ·intro x7 heq
    refine An 2 ?_
    exact Gt 1 [] ((X3.ai7 (K5:=(X3.l2 e1 k)) u0) _ D9 R7 z1 _ _ _ _ n7 aa7 ac6 rfl heq)
  ·intro s3 heq
   refine An 2 ?_
   exact Gt 0 [] (D4 z1 _ _ _ _ n7 ac6 rfl heq)
theorem dg6 {a0:List Blob} {e7:Option Addr} {s0 c8:Nat} {ab2:Ch} {Q7:Nat} {D9:Int} {r:(List Blob)} (heq:X3.f a0 D9=some r) (I5:b6 j7 44 H e7 c8 a0 ab2) (L8:s0=a0.length) (aa7:P3 H F Q7 (.cells #[iv D9] 3 (0,0))):z7 Tryz.prog 69 #[.slice e7 s0 c8,.func (.func 103) #[] #[.pointer (some ⟨Q7,0,none⟩)]] H w0 (ab2::F) (S69 F H r):=by
 refine Co C69 Tryz.func69 Tryz.ntmps69 ?_
 subst L8
 unfold X3.f at heq
 refine Sa 1<|Zd 1<|Sa 1<|Zk 2 ?_
 obtain ⟨y1,hy1,heq⟩:=bind_some heq
 refine c6.e5 (o9 10 (dg5 hy1 (I5.rw (.head _)) I5.cap rfl (aa7.wk (fun _ h=>(.tail _ h))))) ?_
 rintro _ _ _ _ ⟨_,rfl,rfl,rfl,rfl⟩
 refine Zd 4<|Sa 2<|Zd 2 ?_
 refine Cb heq ?_ ?_
 ·intro o8 heq
  refine Sa 1<|Zd 2 ?_
  obtain rfl:=Option.some.inj heq
  exact b8.done (by kernel_rfl) Tryz.func69 (v:=.slice e7 a0.length c8) (by kernel_rfl) ⟨e7,c8,ab2,rfl,rfl,rfl,I5⟩
 ·intro o8 heq
  refine Sa 3<|Zd 3<|An 2 ?_
  exact Gt 0 [] (((X3.F9 (e1:=X3.e1) (X3.D7)) n8) _ D9 a0 _ _ _ _ y1 (c5 (y1+1)) aa7 I5 rfl heq)
noncomputable def dg7:Ctx:={ P:=Tryz.prog,f:=113,N:=6,c:=C1 Tryz.f113 }
def dg8 (F:List Ch) (H0:Hp) (r:Bool) (v:Value) (H:Hp) (cs:List Ch):Prop:=H0=H∧v=.bool r∧F=cs
theorem cw8 {a0:Int} {r:Bool} (heq:cmp_isNaN_int.f a0=some r):z7 Tryz.prog 113 #[iv a0] H w0 (F) (dg8 F H r):=by
 refine Co dg7 Tryz.func113 Tryz.ntmps113 ?_
 unfold cmp_isNaN_int.f at heq
 refine Sa 1<|Zd 1<|Sa 1<|Zd 4 ?_
 obtain rfl:=Option.some.inj heq
 exact b8.done (by kernel_rfl) Tryz.func113 (v:=.bool (a0 != a0)) (by kernel_rfl) ⟨rfl,rfl,rfl⟩
noncomputable def dg9:Ctx:={ P:=Tryz.prog,f:=106,N:=20,c:=C1 Tryz.f106 }
def dh0 (F:List Ch) (H0:Hp) (r:Int) (v:Value) (H:Hp) (cs:List Ch):Prop:=H0=H∧v=iv r∧F=cs
theorem dh1 {a0 a1:Int} {r:Int} (heq:bH0.f a0 a1=some r):z7 Tryz.prog 106 #[iv a0,iv a1] H w0 (F) (dh0 F H r):=by
 refine Co dg9 Tryz.func106 Tryz.ntmps106 ?_
 unfold bH0.f at heq
 refine Sa 1<|Zd 1<|Sa 1<|Zk 1 ?_
 obtain ⟨y1,hy1,heq⟩:=bind_some heq
 refine c6.e5 (o9 8 (cw8 hy1 )) ?_
 rintro _ _ _ _ ⟨_,rfl,rfl,rfl,rfl⟩
 refine Zd 3<|Sa 1<|Zk 1 ?_
 obtain ⟨y2,hy2,heq⟩:=bind_some heq
 refine c6.e5 (o9 10 (cw8 hy2 )) ?_
 rintro _ _ _ _ ⟨_,rfl,rfl,rfl,rfl⟩
 refine Zd 3<|Sa 2<|Zd 1 ?_
 refine Cb heq ?_ ?_
 ·intro o8 heq
  refine Sa 2<|Zd 1 ?_
  refine Cb heq ?_ ?_
  ·intro s3 heq
   refine Sa 1<|Zd 1 ?_
   obtain rfl:=Option.some.inj heq
   exact b8.done (by kernel_rfl) Tryz.func106 (v:=iv 0) (by kernel_rfl) ⟨rfl,rfl,rfl⟩
  ·intro s3 heq
   refine Sa 2<|Zd 1 ?_
   obtain rfl:=Option.some.inj heq
   exact b8.done (by kernel_rfl) Tryz.func106 (v:=iv (-1)) (by kernel_rfl) ⟨rfl,rfl,rfl⟩
 ·intro o8 heq
  refine Sa 3<|Zd 1 ?_
  refine Cb heq ?_ ?_
  ·intro x7 heq
   refine Sa 1<|Zd 1 ?_
   obtain rfl:=Option.some.inj heq
   exact b8.done (by kernel_rfl) Tryz.func106 (v:=iv 1) (by kernel_rfl) ⟨rfl,rfl,rfl⟩
  ·intro x7 heq
   refine Sa 3<|Zd 3 ?_
   refine Cb heq ?_ ?_
   ·intro B3 heq
    refine Sa 1<|Zd 1 ?_
    obtain rfl:=Option.some.inj heq
    exact b8.done (by kernel_rfl) Tryz.func106 (v:=iv (-1)) (by kernel_rfl) ⟨rfl,rfl,rfl⟩
   ·intro B3 heq
    refine Sa 3<|Zd 3 ?_
    refine Cb heq ?_ ?_
    ·intro F2 heq
     refine Sa 1<|Zd 1 ?_
     obtain rfl:=Option.some.inj heq
     exact b8.done (by kernel_rfl) Tryz.func106 (v:=iv 1) (by kernel_rfl) ⟨rfl,rfl,rfl⟩
    ·intro F2 heq
     refine Sa 2<|Zd 1 ?_
     obtain rfl:=Option.some.inj heq
     exact b8.done (by kernel_rfl) Tryz.func106 (v:=iv 0) (by kernel_rfl) ⟨rfl,rfl,rfl⟩
noncomputable def dh2:Ctx:={ P:=Tryz.prog,f:=105,N:=10,c:=C1 Tryz.f105 }
def dh3 (F:List Ch) (H0:Hp) (r:Int) (v:Value) (H:Hp) (cs:List Ch):Prop:=H0=H∧v=iv r∧F=cs
theorem bI5 {a0 a1:Blob} {r:Int} (heq:aX4.f a0 a1=some r):z7 Tryz.prog 105 #[.agg #[.string a0.b7,iv a0.j4,iv a0.Used,iv a0.u6,iv a0.q4],.agg #[.string a1.b7,iv a1.j4,iv a1.Used,iv a1.u6,iv a1.q4]] H w0 (F) (dh3 F H r):=by
 refine Co dh2 Tryz.func105 Tryz.ntmps105 ?_
 unfold aX4.f at heq
 refine Sa 1 ?_
 refine c6.e5 (j6.new (d:=2) (v:=fun g=>.pointer (some ⟨g,0,none⟩)) (o:=fun g=>.cells #[.string a0.b7,iv a0.j4,iv a0.Used,iv a0.u6,iv a0.q4] 44 (0,0)) (fun g=>by kernel_rfl)) ?_
 rintro _ _ _ _ ⟨g1,rfl,rfl,rfl⟩
 refine c6.e5 (j6.new (d:=3) (v:=fun g=>.pointer (some ⟨g,0,none⟩)) (o:=fun g=>.cells #[.string a1.b7,iv a1.j4,iv a1.Used,iv a1.u6,iv a1.q4] 44 (0,0)) (fun g=>by kernel_rfl)) ?_
 rintro _ _ _ _ ⟨g2,rfl,rfl,rfl⟩
 refine Zd 3<|Sa 1<|Zv 4 [bx 1 2,bx 0 2] ?_
 obtain ⟨y1,hy1,heq⟩:=bind_some heq
 refine c6.e5 (o9 9 (dh1 hy1 )) ?_
 rintro _ _ _ _ ⟨_,rfl,rfl,rfl,rfl⟩
 refine Zd 6 ?_
 obtain rfl:=Option.some.inj heq
 refine Up 2 [] ?_
 exact b8.done (by kernel_rfl) Tryz.func105 (v:=iv y1) (by kernel_rfl) ⟨rfl,rfl,rfl⟩
noncomputable def aY3:Ctx:={ P:=Tryz.prog,f:=120,N:=53,c:=C1 Tryz.f120 }
def aY4 (F:List Ch) (H0:Hp) (e7:Option Addr) (c8:Nat) (q3:Nat) (r:(List Blob)) (v:Value) (H:Hp) (cs:List Ch):Prop:=∃ (J6:Ch),H0=H∧v=.tuple #[]∧J6::F=cs∧b6 j7 44 H e7 c8 r J6∧q3=r.length
theorem U4.az5 {r:(List Blob)} (al8:Int→Int→(List Blob)→Int→Option (List Blob))
  (bk7:∀ (e7:Option Addr) (c8 q3:Nat) (a1 a2:Int) (o3:List Blob) (ab0:Ch) (y7:Nat) (M3:Int) ,y7=o3.length→q3=y7→b6 j7 44 H e7 c8 o3 ab0→al8 a1 a2 o3 M3=some r→b8 aY3 (aY4 F H e7 c8 q3 r) H w0 [.c [1,0,0],.l [1,0,0],.b 0] [(0,.slice e7 y7 c8),(1,iv a1),(2,iv a2),(3,.func (.func 105) #[] #[]),(8,iv M3)] H (ab0::F)):∀ (e7:Option Addr) (c8 q3:Nat) (a1 a2 M3:Int) (o3:List Blob) (ab0:Ch) (y7:Nat) ,y7=o3.length→q3=y7→b6 j7 44 H e7 c8 o3 ab0→U4.e2 al8 a1 a2 M3 o3=some r→b8 aY3 (aY4 F H e7 c8 q3 r) H w0 [.c [1,0,0,1,1],.l [1,0,0],.b 0] [(0,.slice e7 y7 c8),(1,iv a1),(2,iv a2),(3,.func (.func 105) #[] #[]),(8,iv M3)] H (ab0::F):=by
 intro e7 c8 q3 a1 a2 M3 o3 ab0 y7 U1 L9 G1 heq
 subst U1
 unfold U4.e2 at heq
 refine Sa 0<|Zd 3<|An 1 ?_
 exact Gt 0 [] (bk7 _ _ _ a1 a2 o3 _ _ (c5 (M3+1)) rfl L9 G1 heq)
theorem U4.av4 {r:(List Blob)} (e2:Int→Int→Int→(List Blob)→Option (List Blob))
  (he2:∀ (e7:Option Addr) (c8 q3:Nat) (a1 a2 M3:Int) (o3:List Blob) (ab0:Ch) (y7:Nat) ,y7=o3.length→q3=y7→b6 j7 44 H e7 c8 o3 ab0→e2 a1 a2 M3 o3=some r→b8 aY3 (aY4 F H e7 c8 q3 r) H w0 [.c [1,0,0,1,1],.l [1,0,0],.b 0] [(0,.slice e7 y7 c8),(1,iv a1),(2,iv a2),(3,.func (.func 105) #[] #[]),(8,iv M3)] H (ab0::F)):∀ (k:Nat),∀ (e7:Option Addr) (c8 q3:Nat) (a1 a2 M3:Int) (o3:List Blob) (ab0:Ch) (y7:Nat) (ae8:Int) ,y7=o3.length→q3=y7→b6 j7 44 H e7 c8 o3 ab0→U4.l3 e2 k a1 a2 M3 o3 ae8=some r→b8 aY3 (aY4 F H e7 c8 q3 r) H w0 [.c [1,0,0,1,0,0,1,0,0],.l [1,0,0,1,0,0,1,0,0],.b 2,.b 1,.c [1,0,0,1,1],.l [1,0,0],.b 0] [(0,.slice e7 y7 c8),(1,iv a1),(2,iv a2),(3,.func (.func 105) #[] #[]),(8,iv M3),(9,iv ae8)] H (ab0::F):=by
 intro k
 induction k with
 | zero=>intro e7 c8 q3 a1 a2 M3 o3 ab0 y7 ae8 U1 L9 G1 heq; exact nomatch (show (none:Option (List Blob))=some r from heq)
 | succ k u0 =>
  intro e7 c8 q3 a1 a2 M3 o3 ab0 y7 ae8 U1 L9 G1 heq
  subst U1
  rw [U4.l3] at heq
  refine An 2 ?_
  obtain ⟨t1,A9,heq⟩:=bind_some heq
  have aL5:b8 aY3 (aY4 F H e7 c8 q3 r) H w0 [.c [1,0,0,1,0,0,1,0,0,0,1],.c [1,0,0,1,0,0,1,0,0,1],.l [1,0,0,1,0,0,1,0,0],.b 2,.b 1,.c [1,0,0,1,1],.l [1,0,0],.b 0] [(0,.slice e7 o3.length c8),(1,iv a1),(2,iv a2),(3,.func (.func 105) #[] #[]),(8,iv M3),(9,iv ae8),(34,.bool t1)] H (ab0::F):=by
   refine Cb heq ?_ ?_
   ·intro x7 heq
    refine An 3<|Sd 1 18 [] [3,3,3,3,3,3,3,3,3,3,3,3,3,3,3,1,3,2]<|Zr [0,1] 16 [] (Pk 1 [0]) (Pk 1 [])<|Zt [2,3,4] 13 [] (Pk 1 []) ?_
    obtain ⟨x3,K8,heq⟩:=bind_some heq
    obtain ⟨W1,ae3,Q4,ad7⟩:=G1.get K8
    obtain ⟨rfl⟩:=C6 Q4
    refine Zr [5,6,7,8,9] 8 ([nx W1 K8]++els ad7 0) (Pk 1 [0]) (Pk 1 []) ?_
    obtain ⟨C2,V1,heq⟩:=bind_some heq
    obtain ⟨ha4,af1,hK4,af9⟩:=G1.get V1
    obtain ⟨rfl⟩:=C6 hK4
    refine Zt [10,11,12] 5 [nx ha4 V1] (Pk 1 []) ?_
    obtain ⟨ha5,ah1,hK5,aC6⟩:=G1.get V1
    obtain ⟨rfl⟩:=C6 hK5
    refine Zr [13,14] 3 (els aC6 0++[nx ha5 V1]) (Pk 1 [0]) (Pk 1 []) ?_
    obtain ⟨ha6,ai0,hK6,ar4⟩:=G1.get V1
    obtain ⟨rfl⟩:=C6 hK6
    refine Dz 15 (j6.ab7 (a:=((H8 e7).add (ae8.toNat*5))) (k:=0) (kd:=j7) (c0:=[.string C2.b7,iv C2.j4,iv C2.Used,iv C2.u6,iv C2.q4]) (x':=x3) (o:=0) (ix:=ae8) (v:=.agg #[.string x3.b7,iv x3.j4,iv x3.Used,iv x3.u6,iv x3.q4]) (by kernel_rfl) rfl G1 V1 (by kernel_rfl) ar4 rfl (Nat.le_of_ble_eq_true (by kernel_rfl)) af8) ?_
    rintro _ _ _ _ ⟨r9,rfl,rfl,rfl,r8⟩
    have C4:o3.length=(o3.set ae8.toNat x3).length:=by rw [List.length_set]
    refine ⟨fun _ w hh=>⟨(fun h=>by cases h),fun _=>(Pk 1 []) w hh,(fun h=>by cases h)⟩,?_⟩
    refine o5.p6 ?_
    obtain ⟨J5,hx5,heq⟩:=bind_some heq
    obtain ⟨ha7,aj9,hK7,bk9⟩:=r8.get hx5
    obtain ⟨rfl⟩:=C6 hK7
    refine Zt [16] 1 [ny ha7 hx5 (show o3.length=_ from C4)] (Pk 1 []) ?_
    obtain ⟨ha8,ak1,hK8,be2⟩:=r8.get hx5
    obtain ⟨rfl⟩:=C6 hK8
    refine Dz 17 (j6.ab7 (a:=((H8 e7).add ((c5 (ae8 - 1)).toNat*5))) (k:=0) (kd:=j7) (c0:=[.string J5.b7,iv J5.j4,iv J5.Used,iv J5.u6,iv J5.q4]) (x':=C2) (o:=0) (ix:=(c5 (ae8 - 1))) (v:=.agg #[.string C2.b7,iv C2.j4,iv C2.Used,iv C2.u6,iv C2.q4]) (by kernel_rfl) rfl r8 hx5 (by kernel_rfl) be2 rfl (Nat.le_of_ble_eq_true (by kernel_rfl)) af8) ?_
    rintro _ _ _ _ ⟨B5,rfl,rfl,rfl,w8⟩
    have hn2:o3.length=((o3.set ae8.toNat x3).set (c5 (ae8 - 1)).toNat C2).length:=by rw [List.length_set]; exact C4
    refine ⟨fun _ w hh=>⟨(fun h=>by cases h),(fun h=>absurd h (by decide)),(fun h=>by cases h)⟩,?_⟩
    refine o5.p6 ?_
    refine o5.done (by kernel_rfl) ?_
    refine Sa 1<|Zd 3<|An 1 ?_
    exact Gt 0 [] (u0 _ _ _ a1 a2 M3 ((o3.set ae8.toNat x3).set (c5 (ae8 - 1)).toNat C2) _ _ (c5 (ae8 - 1)) hn2 L9 w8 heq)
   ·intro x7 heq
    refine An 2 ?_
    exact Gt 0 [] (he2 _ _ _ a1 a2 M3 o3 _ _ rfl L9 G1 heq)
  replace heq:=A9
  refine Sd 0 17 [] [3,3,3,3,3,3,3,3,3,3,3,3,3,3,0,3,3]<|Zr [0,1,2,3] 13 [] (Pk 1 [0]) (Pk 1 [0]) ?_
  rcases y9 (decide (a1<ae8)) with s3 | s3
  ·replace heq:=A5 s3 heq
   refine Zu 21 (congrArg Value.bool s3) ?_
   obtain ⟨x1,hx1,heq⟩:=bind_some heq
   obtain ⟨A7,I1,B1,B2⟩:=G1.get hx1
   obtain ⟨rfl⟩:=C6 B1
   obtain ⟨x2,w6,heq⟩:=bind_some heq
   obtain ⟨J2,T7,I8,J7⟩:=G1.get w6
   obtain ⟨rfl⟩:=C6 I8
   refine Zr [4,5,6,7,8,9,10,11,12,13] 3 ([nx A7 hx1]++els B2 0++[nx J2 w6]++els J7 0) (Pk 1 [0]) (Pk 1 [0]) ?_
   obtain ⟨y1,hy1,heq⟩:=bind_some heq
   refine Dz 14 (o9 32 (bI5 hy1 )) ?_
   rintro _ _ _ _ ⟨_,rfl,rfl,rfl,rfl⟩
   refine ⟨fun _ w hh=>⟨fun _=>(Pk 1 [0]) w hh,fun _=>(Pk 1 [0]) w hh,(fun h=>by cases h)⟩,?_⟩
   refine Zr [15,16] 0 [] (Pk 1 [0]) (Pk 1 [0]) ?_
   obtain rfl:=Option.some.inj heq
   refine o5.done (by kernel_rfl) ?_
   exact Gt 0 [] (aL5)
  ·replace heq:=A6 s3 heq
   refine Zu 21 (congrArg Value.bool s3)<|Zr [4,5,6,7,8,9,10,11,12,13,14,15,16] 0 [] (Pk 1 [0]) (Pk 1 [0]) ?_
   obtain rfl:=Option.some.inj heq
   refine o5.done (by kernel_rfl) ?_
   exact Gt 0 [] (aL5)
theorem U4.bu7 {r:(List Blob)}:∀ (k:Nat),∀ (e7:Option Addr) (c8 q3:Nat) (a1 a2:Int) (o3:List Blob) (ab0:Ch) (y7:Nat) (M3:Int) ,y7=o3.length→q3=y7→b6 j7 44 H e7 c8 o3 ab0→U4.l1 k a1 a2 o3 M3=some r→b8 aY3 (aY4 F H e7 c8 q3 r) H w0 [.c [1,0,0],.l [1,0,0],.b 0] [(0,.slice e7 y7 c8),(1,iv a1),(2,iv a2),(3,.func (.func 105) #[] #[]),(8,iv M3)] H (ab0::F):=by
 intro k
 induction k with
 | zero=>intro e7 c8 q3 a1 a2 o3 ab0 y7 M3 U1 L9 G1 heq; exact nomatch (show (none:Option (List Blob))=some r from heq)
 | succ k u0 =>
  intro e7 c8 q3 a1 a2 o3 ab0 y7 M3 U1 L9 G1 heq
  subst U1
  rw [U4.l1] at heq
  refine Sa 2<|Zd 3 ?_
  refine Cb heq ?_ ?_
  ·intro o8 heq
   refine Sa 4<|Zd 2<|An 2 ?_
   exact Gt 0 [] (((U4.av4 (e2:=U4.e2 ((U4.l1 k))) (U4.az5 (al8:=(U4.l1 k)) u0)) n8) _ _ _ a1 a2 M3 o3 _ _ M3 rfl L9 G1 heq)
  ·intro o8 heq
   refine An 1 ?_
   obtain rfl:=Option.some.inj heq
   exact b8.done (by kernel_rfl) Tryz.func120 (v:=.tuple #[]) (by kernel_rfl) ⟨ab0,rfl,rfl,rfl,G1,(L9.trans rfl)⟩
theorem cw9 {a0:List Blob} {e7:Option Addr} {s0 c8:Nat} {ab2:Ch} {a1 a2:Int} {r:(List Blob)} (heq:U4.f a0 a1 a2=some r) (I5:b6 j7 44 H e7 c8 a0 ab2) (L8:s0=a0.length):z7 Tryz.prog 120 #[.slice e7 s0 c8,iv a1,iv a2,.func (.func 105) #[] #[]] H w0 (ab2::F) (aY4 F H e7 c8 s0 r):=by
 refine Co aY3 Tryz.func120 Tryz.ntmps120 ?_
 suffices aL8:∀ (q3:Nat),q3=s0→b8 aY3 (aY4 F H e7 c8 q3 r) H w0 [.c []] (Z3 0 [.slice e7 s0 c8,iv a1,iv a2,.func (.func 105) #[] #[]]) H (ab2::F) from aL8 s0 rfl
 intro q3 V2
 subst L8
 unfold U4.f at heq
 refine Sa 1<|Zd 3<|An 2 ?_
 exact Gt 0 [] (((U4.bu7) n8) _ _ _ a1 a2 a0 _ _ (c5 (a1+1)) rfl V2 I5 heq)
noncomputable def bY0:Ctx:={ P:=Tryz.prog,f:=125,N:=38,c:=C1 Tryz.f125 }
def bY1 (F:List Ch) (H0:Hp) (e7:Option Addr) (c8:Nat) (q3:Nat) (r:(List Blob)) (v:Value) (H:Hp) (cs:List Ch):Prop:=∃ (J6:Ch),H0=H∧v=.tuple #[]∧J6::F=cs∧b6 j7 44 H e7 c8 r J6∧q3=r.length
theorem av0.bu7 {r:(List Blob)}:∀ (k:Nat),∀ (e7:Option Addr) (c8 q3:Nat) (a1 a2 a3:Int) (o3:List Blob) (ab0:Ch) (y7:Nat) (D5:Int) ,y7=o3.length→q3=y7→b6 j7 44 H e7 c8 o3 ab0→av0.l1 k a1 a2 a3 o3 D5=some r→b8 bY0 (bY1 F H e7 c8 q3 r) H w0 [.c [1,0,0],.l [1,0,0],.b 0] [(0,.slice e7 y7 c8),(1,iv a1),(2,iv a2),(3,iv a3),(10,iv D5)] H (ab0::F):=by
 intro k
 induction k with
 | zero=>intro e7 c8 q3 a1 a2 a3 o3 ab0 y7 D5 U1 L9 G1 heq; exact nomatch (show (none:Option (List Blob))=some r from heq)
 | succ k u0 =>
  intro e7 c8 q3 a1 a2 a3 o3 ab0 y7 D5 U1 L9 G1 heq
  subst U1
  rw [av0.l1] at heq
  refine Sa 2<|Zd 3 ?_
  refine Cb heq ?_ ?_
  ·intro o8 heq
   refine An 3<|Sd 1 24 [] [3,3,3,3,3,3,3,3,3,3,3,3,3,3,3,3,3,3,3,3,3,1,3,2]<|Zr [0,1,2,3] 20 [] (Pk 1 [0]) (Pk 1 [])<|Zt [4,5,6,7] 16 [] (Pk 1 []) ?_
   obtain ⟨x1,hx1,heq⟩:=bind_some heq
   obtain ⟨A7,I1,B1,B2⟩:=G1.get hx1
   obtain ⟨rfl⟩:=C6 B1
   refine Zr [8,9,10,11,12,13] 10 ([nx A7 hx1]++els B2 0) (Pk 1 [0]) (Pk 1 []) ?_
   obtain ⟨x2,w6,heq⟩:=bind_some heq
   obtain ⟨J2,T7,I8,J7⟩:=G1.get w6
   obtain ⟨rfl⟩:=C6 I8
   refine Zt [14,15,16,17,18] 5 [nx J2 w6] (Pk 1 []) ?_
   obtain ⟨W1,ae3,Q4,ad7⟩:=G1.get w6
   obtain ⟨rfl⟩:=C6 Q4
   refine Zr [19,20] 3 (els ad7 0++[nx W1 w6]) (Pk 1 [0]) (Pk 1 []) ?_
   obtain ⟨ha4,af1,hK4,af9⟩:=G1.get w6
   obtain ⟨rfl⟩:=C6 hK4
   refine Dz 21 (j6.ab7 (a:=((H8 e7).add ((c5 (a1+D5)).toNat*5))) (k:=0) (kd:=j7) (c0:=[.string x2.b7,iv x2.j4,iv x2.Used,iv x2.u6,iv x2.q4]) (x':=x1) (o:=0) (ix:=(c5 (a1+D5))) (v:=.agg #[.string x1.b7,iv x1.j4,iv x1.Used,iv x1.u6,iv x1.q4]) (by kernel_rfl) rfl G1 w6 (by kernel_rfl) af9 rfl (Nat.le_of_ble_eq_true (by kernel_rfl)) af8) ?_
   rintro _ _ _ _ ⟨r9,rfl,rfl,rfl,r8⟩
   have C4:o3.length=(o3.set (c5 (a1+D5)).toNat x1).length:=by rw [List.length_set]
   refine ⟨fun _ w hh=>⟨(fun h=>by cases h),fun _=>(Pk 1 []) w hh,(fun h=>by cases h)⟩,?_⟩
   refine o5.p6 ?_
   obtain ⟨x3,K8,heq⟩:=bind_some heq
   obtain ⟨ha5,ah1,hK5,aC6⟩:=r8.get K8
   obtain ⟨rfl⟩:=C6 hK5
   refine Zt [22] 1 [ny ha5 K8 (show o3.length=_ from C4)] (Pk 1 []) ?_
   obtain ⟨ha6,ai0,hK6,ar4⟩:=r8.get K8
   obtain ⟨rfl⟩:=C6 hK6
   refine Dz 23 (j6.ab7 (a:=((H8 e7).add ((c5 (a2+D5)).toNat*5))) (k:=0) (kd:=j7) (c0:=[.string x3.b7,iv x3.j4,iv x3.Used,iv x3.u6,iv x3.q4]) (x':=x2) (o:=0) (ix:=(c5 (a2+D5))) (v:=.agg #[.string x2.b7,iv x2.j4,iv x2.Used,iv x2.u6,iv x2.q4]) (by kernel_rfl) rfl r8 K8 (by kernel_rfl) ar4 rfl (Nat.le_of_ble_eq_true (by kernel_rfl)) af8) ?_
   rintro _ _ _ _ ⟨B5,rfl,rfl,rfl,w8⟩
   have hn2:o3.length=((o3.set (c5 (a1+D5)).toNat x1).set (c5 (a2+D5)).toNat x2).length:=by rw [List.length_set]; exact C4
   refine ⟨fun _ w hh=>⟨(fun h=>by cases h),(fun h=>absurd h (by decide)),(fun h=>by cases h)⟩,?_⟩
   refine o5.p6 ?_
   refine o5.done (by kernel_rfl) ?_
   refine Sa 1<|Zd 3<|An 1 ?_
   exact Gt 0 [] (u0 _ _ _ a1 a2 a3 ((o3.set (c5 (a1+D5)).toNat x1).set (c5 (a2+D5)).toNat x2) _ _ (c5 (D5+1)) hn2 L9 w8 heq)
  ·intro o8 heq
   refine An 1 ?_
   obtain rfl:=Option.some.inj heq
   exact b8.done (by kernel_rfl) Tryz.func125 (v:=.tuple #[]) (by kernel_rfl) ⟨ab0,rfl,rfl,rfl,G1,(L9.trans rfl)⟩
theorem bY2 {a0:List Blob} {e7:Option Addr} {s0 c8:Nat} {ab2:Ch} {a1 a2 a3:Int} {r:(List Blob)} (heq:av0.f a0 a1 a2 a3=some r) (I5:b6 j7 44 H e7 c8 a0 ab2) (L8:s0=a0.length):z7 Tryz.prog 125 #[.slice e7 s0 c8,iv a1,iv a2,iv a3,.func (.func 105) #[] #[]] H w0 (ab2::F) (bY1 F H e7 c8 s0 r):=by
 refine Co bY0 Tryz.func125 Tryz.ntmps125 ?_
 suffices aL8:∀ (q3:Nat),q3=s0→b8 bY0 (bY1 F H e7 c8 q3 r) H w0 [.c []] (Z3 0 [.slice e7 s0 c8,iv a1,iv a2,iv a3,.func (.func 105) #[] #[]]) H (ab2::F) from aL8 s0 rfl
 intro q3 V2
 subst L8
 unfold av0.f at heq
 refine Sa 1<|Zd 1<|An 2 ?_
 exact Gt 0 [] (((av0.bu7) n8) _ _ _ a1 a2 a3 a0 _ _ 0 rfl V2 I5 heq)
noncomputable def bu8:Ctx:={ P:=Tryz.prog,f:=123,N:=58,c:=C1 Tryz.f123 }
def bu9 (F:List Ch) (H0:Hp) (e7:Option Addr) (c8:Nat) (q3:Nat) (r:(List Blob)) (v:Value) (H:Hp) (cs:List Ch):Prop:=∃ (J6:Ch),H0=H∧v=.tuple #[]∧J6::F=cs∧b6 j7 44 H e7 c8 r J6∧q3=r.length
theorem ai6.D7 {r:(List Blob)}:∀ (e7:Option Addr) (c8 q3:Nat) (a2:Int) (o3:List Blob) (ab0:Ch) (y7:Nat) (D5:Int) ,y7=o3.length→q3=y7→b6 j7 44 H e7 c8 o3 ab0→ai6.e1 a2 o3 D5=some r→b8 bu8 (bu9 F H e7 c8 q3 r) H w0 [.c [1,1,1]] [(0,.slice e7 y7 c8),(2,iv a2),(4,.func (.func 105) #[] #[]),(10,iv D5)] H (ab0::F):=by
 intro e7 c8 q3 a2 o3 ab0 y7 D5 U1 L9 G1 heq
 subst U1
 unfold ai6.e1 at heq
 refine Sa 0<|Zk 7 ?_
 obtain ⟨y1,hy1,heq⟩:=bind_some heq
 refine c6.e5 (o9 57 (bY2 hy1 G1 rfl)) ?_
 rintro _ _ _ _ ⟨_,rfl,r9,rfl,rfl,rfl,r8,C4⟩
 refine Dn ?_
 obtain rfl:=Option.some.inj heq
 exact b8.done (by kernel_rfl) Tryz.func123 (v:=.tuple #[]) (by kernel_rfl) ⟨r9,rfl,rfl,rfl,r8,(L9.trans C4)⟩
theorem ai6.F9 {r:(List Blob)} (e1:Int→(List Blob)→Int→Option (List Blob))
  (D4:∀ (e7:Option Addr) (c8 q3:Nat) (a2:Int) (o3:List Blob) (ab0:Ch) (y7:Nat) (D5:Int) ,y7=o3.length→q3=y7→b6 j7 44 H e7 c8 o3 ab0→e1 a2 o3 D5=some r→b8 bu8 (bu9 F H e7 c8 q3 r) H w0 [.c [1,1,1]] [(0,.slice e7 y7 c8),(2,iv a2),(4,.func (.func 105) #[] #[]),(10,iv D5)] H (ab0::F)):∀ (k:Nat),∀ (e7:Option Addr) (c8 q3:Nat) (a2:Int) (o3:List Blob) (ab0:Ch) (y7:Nat) (D5 ac7:Int) ,y7=o3.length→q3=y7→b6 j7 44 H e7 c8 o3 ab0→ai6.l2 e1 k a2 o3 D5 ac7=some r→b8 bu8 (bu9 F H e7 c8 q3 r) H w0 [.c [1,1,0,0,0],.l [1,1,0,0,0],.b 0,.c [1,1,1]] [(0,.slice e7 y7 c8),(2,iv a2),(4,.func (.func 105) #[] #[]),(10,iv D5),(11,iv ac7)] H (ab0::F):=by
 intro k
 induction k with
 | zero=>intro e7 c8 q3 a2 o3 ab0 y7 D5 ac7 U1 L9 G1 heq; exact nomatch (show (none:Option (List Blob))=some r from heq)
 | succ k u0 =>
  intro e7 c8 q3 a2 o3 ab0 y7 D5 ac7 U1 L9 G1 heq
  subst U1
  rw [ai6.l2] at heq
  refine Sa 2<|Zd 3 ?_
  refine Cb heq ?_ ?_
  ·intro o8 heq
   refine Sa 3<|Zd 3 ?_
   refine Cb heq ?_ ?_
   ·intro s3 heq
    refine Sa 1<|Zk 7 ?_
    obtain ⟨y2,hy2,heq⟩:=bind_some heq
    refine c6.e5 (o9 31 (bY2 hy2 G1 rfl)) ?_
    rintro _ _ _ _ ⟨_,rfl,B5,rfl,rfl,rfl,w8,hn2⟩
    refine Dn<|Sa 0<|Zd 4<|An 2 ?_
    exact Gt 0 [] (u0 _ _ _ a2 y2 _ _ (c5 (D5 - ac7)) ac7 hn2 L9 w8 heq)
   ·intro s3 heq
    refine Sa 1<|Zk 11 ?_
    obtain ⟨y3,hy3,heq⟩:=bind_some heq
    refine c6.e5 (o9 46 (bY2 hy3 G1 rfl)) ?_
    rintro _ _ _ _ ⟨_,rfl,E6,rfl,rfl,rfl,w4,S9⟩
    refine Dn<|Sa 0<|Zd 4<|An 2 ?_
    exact Gt 0 [] (u0 _ _ _ a2 y3 _ _ D5 (c5 (ac7 - D5)) S9 L9 w4 heq)
  ·intro o8 heq
   refine An 1 ?_
   exact Gt 0 [] (D4 _ _ _ a2 o3 _ _ D5 rfl L9 G1 heq)
theorem dh4 {a0:List Blob} {e7:Option Addr} {s0 c8:Nat} {ab2:Ch} {a1 a2 a3:Int} {r:(List Blob)} (heq:ai6.f a0 a1 a2 a3=some r) (I5:b6 j7 44 H e7 c8 a0 ab2) (L8:s0=a0.length):z7 Tryz.prog 123 #[.slice e7 s0 c8,iv a1,iv a2,iv a3,.func (.func 105) #[] #[]] H w0 (ab2::F) (bu9 F H e7 c8 s0 r):=by
 refine Co bu8 Tryz.func123 Tryz.ntmps123 ?_
 suffices aL8:∀ (q3:Nat),q3=s0→b8 bu8 (bu9 F H e7 c8 q3 r) H w0 [.c []] (Z3 0 [.slice e7 s0 c8,iv a1,iv a2,iv a3,.func (.func 105) #[] #[]]) H (ab2::F) from aL8 s0 rfl
 intro q3 V2
 subst L8
 unfold ai6.f at heq
 refine Sa 1<|Zd 4<|Sa 1<|Zd 4<|An 3 ?_
 exact Gt 0 [] (((ai6.F9 (e1:=ai6.e1) (ai6.D7)) n8) _ _ _ a2 a0 _ _ (c5 (a2 - a1)) (c5 (a3 - a2)) rfl V2 I5 heq)
noncomputable def ap4:Ctx:={ P:=Tryz.prog,f:=121,N:=220,c:=C1 Tryz.f121 }
def ae9 (F:List Ch) (H0:Hp) (e7:Option Addr) (c8:Nat) (q3:Nat) (r:(List Blob)) (v:Value) (H:Hp) (cs:List Ch):Prop:=∃ (J6:Ch),H0=H∧v=.tuple #[]∧J6::F=cs∧b6 j7 44 H e7 c8 r J6∧q3=r.length
theorem s6.F9 {r:(List Blob)}:∀ (k:Nat),∀ (e7:Option Addr) (c8 q3:Nat) (D5:Int) (o3:List Blob) (ab0:Ch) (y7:Nat) (ak3:Int) ,y7=o3.length→q3=y7→b6 j7 44 H e7 c8 o3 ab0→s6.l2 k D5 o3 ak3=some r→b8 ap4 (ae9 F H e7 c8 q3 r) H w0 [.c [0,1,0,1,1,1,0,1,0,0],.l [0,1,0,1,1,1,0,1,0,0],.b 2,.c [0,1,0,1,1,1,1],.c [1]] [(0,.slice e7 y7 c8),(10,iv D5),(13,iv ak3)] H (ab0::F):=by
 intro k
 induction k with
 | zero=>intro e7 c8 q3 D5 o3 ab0 y7 ak3 U1 L9 G1 heq; exact nomatch (show (none:Option (List Blob))=some r from heq)
 | succ k u0 =>
  intro e7 c8 q3 D5 o3 ab0 y7 ak3 U1 L9 G1 heq
  subst U1
  rw [s6.l2] at heq
  refine Sa 2<|Zd 4 ?_
  refine Cb heq ?_ ?_
  ·intro s3 heq
   refine An 3<|Sd 1 18 [] [3,3,3,3,3,3,3,3,3,3,3,3,3,3,3,1,3,2]<|Zr [0,1] 16 [] (Pk 1 [0]) (Pk 1 [])<|Zt [2,3,4] 13 [] (Pk 1 []) ?_
   obtain ⟨x1,hx1,heq⟩:=bind_some heq
   obtain ⟨A7,I1,B1,B2⟩:=G1.get hx1
   obtain ⟨rfl⟩:=C6 B1
   refine Zr [5,6,7,8,9] 8 ([nx A7 hx1]++els B2 0) (Pk 1 [0]) (Pk 1 []) ?_
   obtain ⟨x2,w6,heq⟩:=bind_some heq
   obtain ⟨J2,T7,I8,J7⟩:=G1.get w6
   obtain ⟨rfl⟩:=C6 I8
   refine Zt [10,11,12] 5 [nx J2 w6] (Pk 1 []) ?_
   obtain ⟨W1,ae3,Q4,ad7⟩:=G1.get w6
   obtain ⟨rfl⟩:=C6 Q4
   refine Zr [13,14] 3 (els ad7 0++[nx W1 w6]) (Pk 1 [0]) (Pk 1 []) ?_
   obtain ⟨ha4,af1,hK4,af9⟩:=G1.get w6
   obtain ⟨rfl⟩:=C6 hK4
   refine Dz 15 (j6.ab7 (a:=((H8 e7).add (ak3.toNat*5))) (k:=0) (kd:=j7) (c0:=[.string x2.b7,iv x2.j4,iv x2.Used,iv x2.u6,iv x2.q4]) (x':=x1) (o:=0) (ix:=ak3) (v:=.agg #[.string x1.b7,iv x1.j4,iv x1.Used,iv x1.u6,iv x1.q4]) (by kernel_rfl) rfl G1 w6 (by kernel_rfl) af9 rfl (Nat.le_of_ble_eq_true (by kernel_rfl)) af8) ?_
   rintro _ _ _ _ ⟨r9,rfl,rfl,rfl,r8⟩
   have C4:o3.length=(o3.set ak3.toNat x1).length:=by rw [List.length_set]
   refine ⟨fun _ w hh=>⟨(fun h=>by cases h),fun _=>(Pk 1 []) w hh,(fun h=>by cases h)⟩,?_⟩
   refine o5.p6 ?_
   obtain ⟨x3,K8,heq⟩:=bind_some heq
   obtain ⟨ha5,ah1,hK5,aC6⟩:=r8.get K8
   obtain ⟨rfl⟩:=C6 hK5
   refine Zt [16] 1 [ny ha5 K8 (show o3.length=_ from C4)] (Pk 1 []) ?_
   obtain ⟨ha6,ai0,hK6,ar4⟩:=r8.get K8
   obtain ⟨rfl⟩:=C6 hK6
   refine Dz 17 (j6.ab7 (a:=((H8 e7).add ((c5 (ak3+1)).toNat*5))) (k:=0) (kd:=j7) (c0:=[.string x3.b7,iv x3.j4,iv x3.Used,iv x3.u6,iv x3.q4]) (x':=x2) (o:=0) (ix:=(c5 (ak3+1))) (v:=.agg #[.string x2.b7,iv x2.j4,iv x2.Used,iv x2.u6,iv x2.q4]) (by kernel_rfl) rfl r8 K8 (by kernel_rfl) ar4 rfl (Nat.le_of_ble_eq_true (by kernel_rfl)) af8) ?_
   rintro _ _ _ _ ⟨B5,rfl,rfl,rfl,w8⟩
   have hn2:o3.length=((o3.set ak3.toNat x1).set (c5 (ak3+1)).toNat x2).length:=by rw [List.length_set]; exact C4
   refine ⟨fun _ w hh=>⟨(fun h=>by cases h),(fun h=>absurd h (by decide)),(fun h=>by cases h)⟩,?_⟩
   refine o5.p6 ?_
   refine o5.done (by kernel_rfl) ?_
   refine Sa 1<|Zd 3<|An 1 ?_
   exact Gt 0 [] (u0 _ _ _ D5 ((o3.set ak3.toNat x1).set (c5 (ak3+1)).toNat x2) _ _ (c5 (ak3+1)) hn2 L9 w8 heq)
  ·intro s3 heq
   refine An 1 ?_
   obtain rfl:=Option.some.inj heq
   exact b8.done (by kernel_rfl) Tryz.func121 (v:=.tuple #[]) (by kernel_rfl) ⟨ab0,rfl,rfl,rfl,G1,(L9.trans rfl)⟩
theorem s6.D7 {r:(List Blob)}:∀ (a0:List Blob) (e7:Option Addr) (c8:Nat) (ab2:Ch) (q3:Nat) (a1 D5:Int) ,b6 j7 44 H e7 c8 a0 ab2→q3=a0.length→s6.e1 a0 a1 D5=some r→b8 ap4 (ae9 F H e7 c8 q3 r) H w0 [.c [0,1,0,1,1,1,0,0],.c [0,1,0,1,1,1,0,1],.c [0,1,0,1,1,1,1],.c [1]] [(0,.slice e7 a0.length c8),(1,iv a1),(10,iv D5)] H (ab2::F):=by
 intro a0 e7 c8 ab2 q3 a1 D5 I5 V2 heq
 unfold s6.e1 at heq
 refine Sa 0<|Zd 2<|An 2 ?_
 exact Gt 0 [] (((s6.F9) n8) _ _ _ D5 a0 _ _ a1 rfl V2 I5 heq)
theorem s6.av4 {r:(List Blob)} (e1:(List Blob)→Int→Int→Option (List Blob))
  (D4:∀ (a0:List Blob) (e7:Option Addr) (c8:Nat) (ab2:Ch) (q3:Nat) (a1 D5:Int) ,b6 j7 44 H e7 c8 a0 ab2→q3=a0.length→e1 a0 a1 D5=some r→b8 ap4 (ae9 F H e7 c8 q3 r) H w0 [.c [0,1,0,1,1,1,0,0],.c [0,1,0,1,1,1,0,1],.c [0,1,0,1,1,1,1],.c [1]] [(0,.slice e7 a0.length c8),(1,iv a1),(10,iv D5)] H (ab2::F)):∀ (k:Nat),∀ (a0:List Blob) (e7:Option Addr) (c8:Nat) (ab2:Ch) (q3:Nat) (a1 D5 ac7:Int) ,b6 j7 44 H e7 c8 a0 ab2→q3=a0.length→s6.l3 e1 k a0 a1 D5 ac7=some r→b8 ap4 (ae9 F H e7 c8 q3 r) H w0 [.c [0,1,0,1,1,0,0,0],.l [0,1,0,1,1,0,0,0],.b 0,.c [0,1,0,1,1,1],.c [1]] [(0,.slice e7 a0.length c8),(1,iv a1),(4,.func (.func 105) #[] #[]),(10,iv D5),(11,iv ac7)] H (ab2::F):=by
 intro k
 induction k with
 | zero=>intro a0 e7 c8 ab2 q3 a1 D5 ac7 I5 V2 heq; exact nomatch (show (none:Option (List Blob))=some r from heq)
 | succ k u0 =>
  intro a0 e7 c8 ab2 q3 a1 D5 ac7 I5 V2 heq
  rw [s6.l3] at heq
  refine Sa 2<|Zd 3 ?_
  refine Cb heq ?_ ?_
  ·intro x7 heq
   refine Sa 3<|Zw 7 [⟨.need ((0:Int)≤1),fun w hh=>(show (0:Int)≤1 by decide)⟩]<|An 1<|Sd 0 11 [] [3,3,3,3,3,3,3,3,3,0,3] ?_
   obtain ⟨C2,V1,heq⟩:=bind_some heq
   obtain ⟨ha7,aj9,hK7,bk9⟩:=I5.get V1
   obtain ⟨rfl⟩:=C6 hK7
   obtain ⟨J5,hx5,heq⟩:=bind_some heq
   obtain ⟨ha8,ak1,hK8,be2⟩:=I5.get hx5
   obtain ⟨rfl⟩:=C6 hK8
   refine Zr [0,1,2,3,4,5,6,7,8] 2 ([nx ha7 V1]++els bk9 0++[nx ha8 hx5]++els be2 0) (Pk 1 [0]) (Pk 1 [0]) ?_
   obtain ⟨y1,hy1,heq⟩:=bind_some heq
   refine Dz 9 (o9 49 (bI5 hy1 )) ?_
   rintro _ _ _ _ ⟨_,rfl,rfl,rfl,rfl⟩
   refine ⟨fun _ w hh=>⟨fun _=>(Pk 1 [0]) w hh,fun _=>(Pk 1 [0]) w hh,(fun h=>by cases h)⟩,?_⟩
   refine Zr [10] 0 [] (Pk 1 [0]) (Pk 1 [0]) ?_
   refine o5.done (by kernel_rfl) ?_
   refine Cb heq ?_ ?_
   ·intro B3 heq
    refine Sa 0<|Zd 3<|An 2 ?_
    exact Gt 0 [] (u0 a0 _ _ _ _ a1 (c5 ((c5 (F8 .u64 (IntKind.wrap .u64 (c5 (D5+ac7))) 1))+1)) ac7 I5 V2 heq)
   ·intro B3 heq
    refine Sa 0<|Zd 2<|An 2 ?_
    exact Gt 0 [] (u0 a0 _ _ _ _ a1 D5 (c5 (F8 .u64 (IntKind.wrap .u64 (c5 (D5+ac7))) 1)) I5 V2 heq)
  ·intro x7 heq
   refine An 3 ?_
   exact Gt 0 [] (D4 a0 _ _ _ _ a1 D5 I5 V2 heq)
theorem s6.bv0 {r:(List Blob)}:∀ (k:Nat),∀ (e7:Option Addr) (c8 q3:Nat) (Y8:Int) (o3:List Blob) (ab0:Ch) (y7:Nat) (ak4:Int) ,y7=o3.length→q3=y7→b6 j7 44 H e7 c8 o3 ab0→s6.l5 k Y8 o3 ak4=some r→b8 ap4 (ae9 F H e7 c8 q3 r) H w0 [.c [1,0,1,0,1,1,1,0,1,0,0],.l [1,0,1,0,1,1,1,0,1,0,0],.b 6,.c [1,0,1,0,1,1,1,1],.c [1,1]] [(0,.slice e7 y7 c8),(14,iv Y8),(17,iv ak4)] H (ab0::F):=by
 intro k
 induction k with
 | zero=>intro e7 c8 q3 Y8 o3 ab0 y7 ak4 U1 L9 G1 heq; exact nomatch (show (none:Option (List Blob))=some r from heq)
 | succ k u0 =>
  intro e7 c8 q3 Y8 o3 ab0 y7 ak4 U1 L9 G1 heq
  subst U1
  rw [s6.l5] at heq
  refine Sa 2<|Zd 3 ?_
  refine Cb heq ?_ ?_
  ·intro M4 heq
   refine An 3<|Sd 1 18 [] [3,3,3,3,3,3,3,3,3,3,3,3,3,3,3,1,3,2]<|Zr [0,1] 16 [] (Pk 1 [0]) (Pk 1 [])<|Zt [2,3,4] 13 [] (Pk 1 []) ?_
   obtain ⟨x6,hx6,heq⟩:=bind_some heq
   obtain ⟨ha9,dw8,hK9,dh7⟩:=G1.get hx6
   obtain ⟨rfl⟩:=C6 hK9
   refine Zr [5,6,7,8,9] 8 ([nx ha9 hx6]++els dh7 0) (Pk 1 [0]) (Pk 1 []) ?_
   obtain ⟨az9,hx7,heq⟩:=bind_some heq
   obtain ⟨dh8,dw9,dh9,dx0⟩:=G1.get hx7
   obtain ⟨rfl⟩:=C6 dh9
   refine Zt [10,11,12] 5 [nx dh8 hx7] (Pk 1 []) ?_
   obtain ⟨di0,dx1,di1,di2⟩:=G1.get hx7
   obtain ⟨rfl⟩:=C6 di1
   refine Zr [13,14] 3 (els di2 0++[nx di0 hx7]) (Pk 1 [0]) (Pk 1 []) ?_
   obtain ⟨dx2,dx3,di3,di4⟩:=G1.get hx7
   obtain ⟨rfl⟩:=C6 di3
   refine Dz 15 (j6.ab7 (a:=((H8 e7).add (ak4.toNat*5))) (k:=0) (kd:=j7) (c0:=[.string az9.b7,iv az9.j4,iv az9.Used,iv az9.u6,iv az9.q4]) (x':=x6) (o:=0) (ix:=ak4) (v:=.agg #[.string x6.b7,iv x6.j4,iv x6.Used,iv x6.u6,iv x6.q4]) (by kernel_rfl) rfl G1 hx7 (by kernel_rfl) di4 rfl (Nat.le_of_ble_eq_true (by kernel_rfl)) af8) ?_
   rintro _ _ _ _ ⟨E6,rfl,rfl,rfl,w4⟩
   have S9:o3.length=(o3.set ak4.toNat x6).length:=by rw [List.length_set]
   refine ⟨fun _ w hh=>⟨(fun h=>by cases h),fun _=>(Pk 1 []) w hh,(fun h=>by cases h)⟩,?_⟩
   refine o5.p6 ?_
   obtain ⟨bl1,hx8,heq⟩:=bind_some heq
   obtain ⟨di5,dx4,di6,dx5⟩:=w4.get hx8
   obtain ⟨rfl⟩:=C6 di6
   refine Zt [16] 1 [ny di5 hx8 (show o3.length=_ from S9)] (Pk 1 []) ?_
   obtain ⟨dx6,dx7,di7,di8⟩:=w4.get hx8
   obtain ⟨rfl⟩:=C6 di7
   refine Dz 17 (j6.ab7 (a:=((H8 e7).add ((c5 (ak4 - 1)).toNat*5))) (k:=0) (kd:=j7) (c0:=[.string bl1.b7,iv bl1.j4,iv bl1.Used,iv bl1.u6,iv bl1.q4]) (x':=az9) (o:=0) (ix:=(c5 (ak4 - 1))) (v:=.agg #[.string az9.b7,iv az9.j4,iv az9.Used,iv az9.u6,iv az9.q4]) (by kernel_rfl) rfl w4 hx8 (by kernel_rfl) di8 rfl (Nat.le_of_ble_eq_true (by kernel_rfl)) af8) ?_
   rintro _ _ _ _ ⟨G6,rfl,rfl,rfl,C9⟩
   have hn4:o3.length=((o3.set ak4.toNat x6).set (c5 (ak4 - 1)).toNat az9).length:=by rw [List.length_set]; exact S9
   refine ⟨fun _ w hh=>⟨(fun h=>by cases h),(fun h=>absurd h (by decide)),(fun h=>by cases h)⟩,?_⟩
   refine o5.p6 ?_
   refine o5.done (by kernel_rfl) ?_
   refine Sa 1<|Zd 3<|An 1 ?_
   exact Gt 0 [] (u0 _ _ _ Y8 ((o3.set ak4.toNat x6).set (c5 (ak4 - 1)).toNat az9) _ _ (c5 (ak4 - 1)) hn4 L9 C9 heq)
  ·intro M4 heq
   refine An 1 ?_
   obtain rfl:=Option.some.inj heq
   exact b8.done (by kernel_rfl) Tryz.func121 (v:=.tuple #[]) (by kernel_rfl) ⟨ab0,rfl,rfl,rfl,G1,(L9.trans rfl)⟩
theorem s6.bY3 {r:(List Blob)}:∀ (a0:List Blob) (e7:Option Addr) (c8:Nat) (ab2:Ch) (q3:Nat) (a2 Y8:Int) ,b6 j7 44 H e7 c8 a0 ab2→q3=a0.length→s6.S2 a0 a2 Y8=some r→b8 ap4 (ae9 F H e7 c8 q3 r) H w0 [.c [1,0,1,0,1,1,1,0,0],.c [1,0,1,0,1,1,1,0,1],.c [1,0,1,0,1,1,1,1],.c [1,1]] [(0,.slice e7 a0.length c8),(2,iv a2),(14,iv Y8)] H (ab2::F):=by
 intro a0 e7 c8 ab2 q3 a2 Y8 I5 V2 heq
 unfold s6.S2 at heq
 refine Sa 0<|Zd 2<|An 2 ?_
 exact Gt 0 [] (((s6.bv0) n8) _ _ _ Y8 a0 _ _ a2 rfl V2 I5 heq)
theorem s6.bY4 {r:(List Blob)} (S2:(List Blob)→Int→Int→Option (List Blob))
  (he4:∀ (a0:List Blob) (e7:Option Addr) (c8:Nat) (ab2:Ch) (q3:Nat) (a2 Y8:Int) ,b6 j7 44 H e7 c8 a0 ab2→q3=a0.length→S2 a0 a2 Y8=some r→b8 ap4 (ae9 F H e7 c8 q3 r) H w0 [.c [1,0,1,0,1,1,1,0,0],.c [1,0,1,0,1,1,1,0,1],.c [1,0,1,0,1,1,1,1],.c [1,1]] [(0,.slice e7 a0.length c8),(2,iv a2),(14,iv Y8)] H (ab2::F)):∀ (k:Nat),∀ (a0:List Blob) (e7:Option Addr) (c8:Nat) (ab2:Ch) (q3:Nat) (a2 Y8 aF1:Int) ,b6 j7 44 H e7 c8 a0 ab2→q3=a0.length→s6.l6 S2 k a0 a2 Y8 aF1=some r→b8 ap4 (ae9 F H e7 c8 q3 r) H w0 [.c [1,0,1,0,1,1,0,0,0],.l [1,0,1,0,1,1,0,0,0],.b 4,.c [1,0,1,0,1,1,1],.c [1,1]] [(0,.slice e7 a0.length c8),(2,iv a2),(4,.func (.func 105) #[] #[]),(14,iv Y8),(15,iv aF1)] H (ab2::F):=by
 intro k
 induction k with
 | zero=>intro a0 e7 c8 ab2 q3 a2 Y8 aF1 I5 V2 heq; exact nomatch (show (none:Option (List Blob))=some r from heq)
 | succ k u0 =>
  intro a0 e7 c8 ab2 q3 a2 Y8 aF1 I5 V2 heq
  rw [s6.l6] at heq
  refine Sa 2<|Zd 3 ?_
  refine Cb heq ?_ ?_
  ·intro M5 heq
   refine Sa 3<|Zw 7 [⟨.need ((0:Int)≤1),fun w hh=>(show (0:Int)≤1 by decide)⟩]<|An 1<|Sd 0 12 [] [3,3,3,3,3,3,3,3,3,0,3,3] ?_
   obtain ⟨cx0,hx9,heq⟩:=bind_some heq
   obtain ⟨di9,dx8,dj0,dj1⟩:=I5.get hx9
   obtain ⟨rfl⟩:=C6 dj0
   obtain ⟨x10,cx3,heq⟩:=bind_some heq
   obtain ⟨dj2,dx9,dj3,dj4⟩:=I5.get cx3
   obtain ⟨rfl⟩:=C6 dj3
   refine Zr [0,1,2,3,4,5,6,7,8] 3 ([nx di9 hx9]++els dj1 0++[nx dj2 cx3]++els dj4 0) (Pk 1 [0]) (Pk 1 [0]) ?_
   obtain ⟨y2,hy2,heq⟩:=bind_some heq
   refine Dz 9 (o9 101 (bI5 hy2 )) ?_
   rintro _ _ _ _ ⟨_,rfl,rfl,rfl,rfl⟩
   refine ⟨fun _ w hh=>⟨fun _=>(Pk 1 [0]) w hh,fun _=>(Pk 1 [0]) w hh,(fun h=>by cases h)⟩,?_⟩
   refine Zr [10,11] 0 [] (Pk 1 [0]) (Pk 1 [0]) ?_
   refine o5.done (by kernel_rfl) ?_
   refine Cb heq ?_ ?_
   ·intro Y0 heq
    refine Sa 0<|Zd 3<|An 2 ?_
    exact Gt 0 [] (u0 a0 _ _ _ _ a2 (c5 ((c5 (F8 .u64 (IntKind.wrap .u64 (c5 (Y8+aF1))) 1))+1)) aF1 I5 V2 heq)
   ·intro Y0 heq
    refine Sa 0<|Zd 2<|An 2 ?_
    exact Gt 0 [] (u0 a0 _ _ _ _ a2 Y8 (c5 (F8 .u64 (IntKind.wrap .u64 (c5 (Y8+aF1))) 1)) I5 V2 heq)
  ·intro M5 heq
   refine An 3 ?_
   exact Gt 0 [] (he4 a0 _ _ _ _ a2 Y8 I5 V2 heq)
theorem s6.cx4 {r:(List Blob)}:∀ (e7:Option Addr) (c8 q3:Nat) (o3:List Blob) (ab0:Ch) (y7:Nat) ,y7=o3.length→q3=y7→b6 j7 44 H e7 c8 o3 ab0→s6.j11 o3=some r→b8 ap4 (ae9 F H e7 c8 q3 r) H w0 [] [(0,.slice e7 y7 c8)] H (ab0::F):=by
 intro e7 c8 q3 o3 ab0 y7 U1 L9 G1 heq
 subst U1
 unfold s6.j11 at heq
 obtain rfl:=Option.some.inj heq
 exact b8.done (by kernel_rfl) Tryz.func121 (v:=.tuple #[]) (by kernel_rfl) ⟨ab0,rfl,rfl,rfl,G1,(L9.trans rfl)⟩
theorem s6.cx5 {r:(List Blob)} (N6:(List Blob)→Int→Int→Int→Option (List Blob))
  (aF2:∀ {H:Hp} {F:List Ch} {a0:List Blob} {e7:Option Addr} {s0:Nat} {c8:Nat} {ab2:Ch} {a1:Int} {a2:Int} {a3:Int} {r:(List Blob)},b6 j7 44 H e7 c8 a0 ab2→s0=a0.length→N6 a0 a1 a2 a3=some r→z7 Tryz.prog 121 #[.slice e7 s0 c8,iv a1,iv a2,iv a3,.func (.func 105) #[] #[]] H w0 (ab2::F) (ae9 F H e7 c8 s0 r)):∀ (e7:Option Addr) (c8 q3:Nat) (a1 a2 a3 H6:Int) (o3:List Blob) (ab0:Ch) (y7:Nat) ,y7=o3.length→q3=y7→b6 j7 44 H e7 c8 o3 ab0→s6.j10 N6 a1 a2 a3 H6 o3=some r→b8 ap4 (ae9 F H e7 c8 q3 r) H w0 [.c [1,1,1,1,1,1,1,1,1,1,1,0],.c [1,1,1,1,1,1,1,1,1,1,1,1]] [(0,.slice e7 y7 c8),(3,iv a3),(4,.func (.func 105) #[] #[]),(18,iv (c5 (F8 .u64 (IntKind.wrap .u64 (c5 (a1+a3))) 1))),(24,iv (c5 ((c5 ((c5 (F8 .u64 (IntKind.wrap .u64 (c5 (a1+a3))) 1))+a2)) - H6)))] H (ab0::F):=by
 intro e7 c8 q3 a1 a2 a3 H6 o3 ab0 y7 U1 L9 G1 heq
 subst U1
 unfold s6.j10 at heq
 obtain ⟨t3,ht3,heq⟩:=bind_some heq
 have bu2:b8 ap4 (ae9 F H e7 c8 q3 r) H w0 [.c [1,1,1,1,1,1,1,1,1,1,1,1]] [(0,.slice e7 o3.length c8),(3,iv a3),(4,.func (.func 105) #[] #[]),(18,iv (c5 (F8 .u64 (IntKind.wrap .u64 (c5 (a1+a3))) 1))),(24,iv (c5 ((c5 ((c5 (F8 .u64 (IntKind.wrap .u64 (c5 (a1+a3))) 1))+a2)) - H6))),(213,.bool t3)] H (ab0::F):=by
  refine Cb heq ?_ ?_
  ·intro ao0 heq
   refine Sa 0<|Zk 5 ?_
   obtain ⟨y3,hy3,heq⟩:=bind_some heq
   refine c6.e5 (o9 219 (aF2 (a0:=o3) (a1:=c5 (F8 .u64 (IntKind.wrap .u64 (c5 (a1+a3))) 1)) (a2:=c5 ((c5 ((c5 (F8 .u64 (IntKind.wrap .u64 (c5 (a1+a3))) 1))+a2)) - H6)) (a3:=a3) G1 rfl hy3)) ?_
   rintro _ _ _ _ ⟨_,rfl,O2,rfl,rfl,rfl,H7,hn5⟩
   refine Dn ?_
   exact Gt 0 [] ((s6.cx4) _ _ _ y3 _ _ hn5 L9 H7 heq)
  ·intro ao0 heq
   refine An 1 ?_
   exact Gt 0 [] ((s6.cx4) _ _ _ o3 _ _ rfl L9 G1 heq)
 replace heq:=ht3
 refine Sa 0<|Zk 4 ?_
 rcases y9 (decide ((c5 (F8 .u64 (IntKind.wrap .u64 (c5 (a1+a3))) 1))<(c5 ((c5 ((c5 (F8 .u64 (IntKind.wrap .u64 (c5 (a1+a3))) 1))+a2)) - H6)))) with ak0 | ak0
 ·replace heq:=A5 ak0 heq
  refine Zs 209 (congrArg Value.bool ak0)<|Zk 8 ?_
  obtain rfl:=Option.some.inj heq
  refine Dn ?_
  exact Gt 0 [] (bu2)
 ·replace heq:=A6 ak0 heq
  refine Zs 209 (congrArg Value.bool ak0)<|Zk 8 ?_
  obtain rfl:=Option.some.inj heq
  refine Dn ?_
  exact Gt 0 [] (bu2)
theorem s6.cx6 {r:(List Blob)} (N6:(List Blob)→Int→Int→Int→Option (List Blob))
  (aF2:∀ {H:Hp} {F:List Ch} {a0:List Blob} {e7:Option Addr} {s0:Nat} {c8:Nat} {ab2:Ch} {a1:Int} {a2:Int} {a3:Int} {r:(List Blob)},b6 j7 44 H e7 c8 a0 ab2→s0=a0.length→N6 a0 a1 a2 a3=some r→z7 Tryz.prog 121 #[.slice e7 s0 c8,iv a1,iv a2,iv a3,.func (.func 105) #[] #[]] H w0 (ab2::F) (ae9 F H e7 c8 s0 r)):∀ (e7:Option Addr) (c8 q3:Nat) (a1 a2 a3 H6:Int) (o3:List Blob) (ab0:Ch) (y7:Nat) ,y7=o3.length→q3=y7→b6 j7 44 H e7 c8 o3 ab0→s6.bj6 N6 a1 a2 a3 H6 o3=some r→b8 ap4 (ae9 F H e7 c8 q3 r) H w0 [.c [1,1,1,1,1,1,1,1,1,1,0,0],.c [1,1,1,1,1,1,1,1,1,1,0,1],.c [1,1,1,1,1,1,1,1,1,1,1]] [(0,.slice e7 y7 c8),(1,iv a1),(3,iv a3),(4,.func (.func 105) #[] #[]),(18,iv (c5 (F8 .u64 (IntKind.wrap .u64 (c5 (a1+a3))) 1))),(20,iv H6),(24,iv (c5 ((c5 ((c5 (F8 .u64 (IntKind.wrap .u64 (c5 (a1+a3))) 1))+a2)) - H6)))] H (ab0::F):=by
 intro e7 c8 q3 a1 a2 a3 H6 o3 ab0 y7 U1 L9 G1 heq
 subst U1
 unfold s6.bj6 at heq
 obtain ⟨t2,ht2,heq⟩:=bind_some heq
 have ai8:b8 ap4 (ae9 F H e7 c8 q3 r) H w0 [.c [1,1,1,1,1,1,1,1,1,1,0,1],.c [1,1,1,1,1,1,1,1,1,1,1]] [(0,.slice e7 o3.length c8),(1,iv a1),(3,iv a3),(4,.func (.func 105) #[] #[]),(18,iv (c5 (F8 .u64 (IntKind.wrap .u64 (c5 (a1+a3))) 1))),(20,iv H6),(24,iv (c5 ((c5 ((c5 (F8 .u64 (IntKind.wrap .u64 (c5 (a1+a3))) 1))+a2)) - H6))),(199,.bool t2)] H (ab0::F):=by
  refine Cb heq ?_ ?_
  ·intro aE9 heq
   refine Sa 0<|Zk 5 ?_
   obtain ⟨y4,hy4,heq⟩:=bind_some heq
   refine c6.e5 (o9 205 (aF2 (a0:=o3) (a1:=a1) (a2:=H6) (a3:=c5 (F8 .u64 (IntKind.wrap .u64 (c5 (a1+a3))) 1)) G1 rfl hy4)) ?_
   rintro _ _ _ _ ⟨_,rfl,S3,rfl,rfl,rfl,O4,hn6⟩
   refine Dn<|An 1 ?_
   exact Gt 0 [] ((s6.cx5 (N6:=N6) aF2) _ _ _ a1 a2 a3 H6 y4 _ _ hn6 L9 O4 heq)
  ·intro aE9 heq
   refine An 2 ?_
   exact Gt 0 [] ((s6.cx5 (N6:=N6) aF2) _ _ _ a1 a2 a3 H6 o3 _ _ rfl L9 G1 heq)
 replace heq:=ht2
 refine Sa 0<|Zk 4 ?_
 rcases y9 (decide (a1<H6)) with Y1 | Y1
 ·replace heq:=A5 Y1 heq
  refine Zs 195 (congrArg Value.bool Y1)<|Zk 8 ?_
  obtain rfl:=Option.some.inj heq
  refine Dn ?_
  exact Gt 0 [] (ai8)
 ·replace heq:=A6 Y1 heq
  refine Zs 195 (congrArg Value.bool Y1)<|Zk 8 ?_
  obtain rfl:=Option.some.inj heq
  refine Dn ?_
  exact Gt 0 [] (ai8)
theorem s6.dj5 {r:(List Blob)} (N6:(List Blob)→Int→Int→Int→Option (List Blob))
  (aF2:∀ {H:Hp} {F:List Ch} {a0:List Blob} {e7:Option Addr} {s0:Nat} {c8:Nat} {ab2:Ch} {a1:Int} {a2:Int} {a3:Int} {r:(List Blob)},b6 j7 44 H e7 c8 a0 ab2→s0=a0.length→N6 a0 a1 a2 a3=some r→z7 Tryz.prog 121 #[.slice e7 s0 c8,iv a1,iv a2,iv a3,.func (.func 105) #[] #[]] H w0 (ab2::F) (ae9 F H e7 c8 s0 r)):∀ (a0:List Blob) (e7:Option Addr) (c8:Nat) (ab2:Ch) (q3:Nat) (a1 a2 a3 H6:Int) ,b6 j7 44 H e7 c8 a0 ab2→q3=a0.length→s6.am7 N6 a0 a1 a2 a3 H6=some r→b8 ap4 (ae9 F H e7 c8 q3 r) H w0 [.c [1,1,1,1,1,1,1,1,0],.c [1,1,1,1,1,1,1,1,1]] [(0,.slice e7 a0.length c8),(1,iv a1),(2,iv a2),(3,iv a3),(4,.func (.func 105) #[] #[]),(18,iv (c5 (F8 .u64 (IntKind.wrap .u64 (c5 (a1+a3))) 1))),(19,iv (c5 ((c5 (F8 .u64 (IntKind.wrap .u64 (c5 (a1+a3))) 1))+a2))),(20,iv H6)] H (ab2::F):=by
 intro a0 e7 c8 ab2 q3 a1 a2 a3 H6 I5 V2 heq
 unfold s6.am7 at heq
 refine Sa 0<|Zd 4<|An 2 ?_
 obtain ⟨t1,A9,heq⟩:=bind_some heq
 have ah3:b8 ap4 (ae9 F H e7 c8 q3 r) H w0 [.c [1,1,1,1,1,1,1,1,1,0,1],.c [1,1,1,1,1,1,1,1,1,1]] [(0,.slice e7 a0.length c8),(1,iv a1),(2,iv a2),(3,iv a3),(4,.func (.func 105) #[] #[]),(18,iv (c5 (F8 .u64 (IntKind.wrap .u64 (c5 (a1+a3))) 1))),(20,iv H6),(24,iv (c5 ((c5 ((c5 (F8 .u64 (IntKind.wrap .u64 (c5 (a1+a3))) 1))+a2)) - H6))),(185,.bool t1)] H (ab2::F):=by
  refine Cb heq ?_ ?_
  ·intro an9 heq
   refine Sa 0<|Zk 5 ?_
   obtain ⟨A0,hy5,heq⟩:=bind_some heq
   refine c6.e5 (o9 191 (dh4 hy5 I5 rfl)) ?_
   rintro _ _ _ _ ⟨_,rfl,ae6,rfl,rfl,rfl,O3,hn7⟩
   refine Dn<|An 2 ?_
   exact Gt 0 [] ((s6.cx6 (N6:=N6) aF2) _ _ _ a1 a2 a3 H6 A0 _ _ hn7 V2 O3 heq)
  ·intro an9 heq
   refine An 3 ?_
   exact Gt 0 [] ((s6.cx6 (N6:=N6) aF2) _ _ _ a1 a2 a3 H6 a0 _ _ rfl V2 I5 heq)
 replace heq:=A9
 refine Sa 0<|Zk 4 ?_
 rcases y9 (decide (H6<a2)) with R6 | R6
 ·replace heq:=A5 R6 heq
  refine Zs 181 (congrArg Value.bool R6)<|Zk 8 ?_
  obtain rfl:=Option.some.inj heq
  refine Dn ?_
  exact Gt 0 [] (ah3)
 ·replace heq:=A6 R6 heq
  refine Zs 181 (congrArg Value.bool R6)<|Zk 8 ?_
  obtain rfl:=Option.some.inj heq
  refine Dn ?_
  exact Gt 0 [] (ah3)
theorem s6.dj6 {r:(List Blob)} (am7:(List Blob)→Int→Int→Int→Int→Option (List Blob))
  (he8:∀ (a0:List Blob) (e7:Option Addr) (c8:Nat) (ab2:Ch) (q3:Nat) (a1 a2 a3 H6:Int) ,b6 j7 44 H e7 c8 a0 ab2→q3=a0.length→am7 a0 a1 a2 a3 H6=some r→b8 ap4 (ae9 F H e7 c8 q3 r) H w0 [.c [1,1,1,1,1,1,1,1,0],.c [1,1,1,1,1,1,1,1,1]] [(0,.slice e7 a0.length c8),(1,iv a1),(2,iv a2),(3,iv a3),(4,.func (.func 105) #[] #[]),(18,iv (c5 (F8 .u64 (IntKind.wrap .u64 (c5 (a1+a3))) 1))),(19,iv (c5 ((c5 (F8 .u64 (IntKind.wrap .u64 (c5 (a1+a3))) 1))+a2))),(20,iv H6)] H (ab2::F)):∀ (k:Nat),∀ (a0:List Blob) (e7:Option Addr) (c8:Nat) (ab2:Ch) (q3:Nat) (a1 a2 a3 H6 ao1:Int) ,b6 j7 44 H e7 c8 a0 ab2→q3=a0.length→s6.l12 am7 k a0 a1 a2 a3 H6 ao1=some r→b8 ap4 (ae9 F H e7 c8 q3 r) H w0 [.c [1,1,1,1,1,1,1,0,0,0],.l [1,1,1,1,1,1,1,0,0,0],.b 8,.c [1,1,1,1,1,1,1,1]] [(0,.slice e7 a0.length c8),(1,iv a1),(2,iv a2),(3,iv a3),(4,.func (.func 105) #[] #[]),(18,iv (c5 (F8 .u64 (IntKind.wrap .u64 (c5 (a1+a3))) 1))),(19,iv (c5 ((c5 (F8 .u64 (IntKind.wrap .u64 (c5 (a1+a3))) 1))+a2))),(20,iv H6),(21,iv ao1),(22,iv (c5 ((c5 ((c5 (F8 .u64 (IntKind.wrap .u64 (c5 (a1+a3))) 1))+a2)) - 1)))] H (ab2::F):=by
 intro k
 induction k with
 | zero=>intro a0 e7 c8 ab2 q3 a1 a2 a3 H6 ao1 I5 V2 heq; exact nomatch (show (none:Option (List Blob))=some r from heq)
 | succ k u0 =>
  intro a0 e7 c8 ab2 q3 a1 a2 a3 H6 ao1 I5 V2 heq
  rw [s6.l12] at heq
  refine Sa 2<|Zd 3 ?_
  refine Cb heq ?_ ?_
  ·intro an7 heq
   refine Sa 3<|Zw 7 [⟨.need ((0:Int)≤1),fun w hh=>(show (0:Int)≤1 by decide)⟩]<|An 1<|Sd 0 14 [] [3,3,3,3,3,3,3,3,3,3,3,0,3,3] ?_
   obtain ⟨x11,cx8,heq⟩:=bind_some heq
   obtain ⟨dj8,dy0,dj9,dk0⟩:=I5.get cx8
   obtain ⟨rfl⟩:=C6 dj9
   obtain ⟨x12,cy0,heq⟩:=bind_some heq
   obtain ⟨dk1,dy1,dk2,dk3⟩:=I5.get cy0
   obtain ⟨rfl⟩:=C6 dk2
   refine Zr [0,1,2,3,4,5,6,7,8,9,10] 3 ([nx dj8 cx8]++els dk0 0++[nx dk1 cy0]++els dk3 0) (Pk 1 [0]) (Pk 1 [0]) ?_
   obtain ⟨G0,hy6,heq⟩:=bind_some heq
   refine Dz 11 (o9 169 (bI5 hy6 )) ?_
   rintro _ _ _ _ ⟨_,rfl,rfl,rfl,rfl⟩
   refine ⟨fun _ w hh=>⟨fun _=>(Pk 1 [0]) w hh,fun _=>(Pk 1 [0]) w hh,(fun h=>by cases h)⟩,?_⟩
   refine Zr [12,13] 0 [] (Pk 1 [0]) (Pk 1 [0]) ?_
   refine o5.done (by kernel_rfl) ?_
   refine Cb heq ?_ ?_
   ·intro an8 heq
    refine Sa 0<|Zd 3<|An 2 ?_
    exact Gt 0 [] (u0 a0 _ _ _ _ a1 a2 a3 (c5 ((c5 (F8 .u64 (IntKind.wrap .u64 (c5 (H6+ao1))) 1))+1)) ao1 I5 V2 heq)
   ·intro an8 heq
    refine Sa 0<|Zd 2<|An 2 ?_
    exact Gt 0 [] (u0 a0 _ _ _ _ a1 a2 a3 H6 (c5 (F8 .u64 (IntKind.wrap .u64 (c5 (H6+ao1))) 1)) I5 V2 heq)
  ·intro an7 heq
   refine An 2 ?_
   exact Gt 0 [] (he8 a0 _ _ _ _ a1 a2 a3 H6 I5 V2 heq)
theorem s6.cy1 {r:(List Blob)} (N6:(List Blob)→Int→Int→Int→Option (List Blob))
  (aF2:∀ {H:Hp} {F:List Ch} {a0:List Blob} {e7:Option Addr} {s0:Nat} {c8:Nat} {ab2:Ch} {a1:Int} {a2:Int} {a3:Int} {r:(List Blob)},b6 j7 44 H e7 c8 a0 ab2→s0=a0.length→N6 a0 a1 a2 a3=some r→z7 Tryz.prog 121 #[.slice e7 s0 c8,iv a1,iv a2,iv a3,.func (.func 105) #[] #[]] H w0 (ab2::F) (ae9 F H e7 c8 s0 r)):∀ (a0:List Blob) (e7:Option Addr) (c8:Nat) (ab2:Ch) (q3:Nat) (a1 a2 a3 H6 ao1:Int) ,b6 j7 44 H e7 c8 a0 ab2→q3=a0.length→s6.bj7 N6 a0 a1 a2 a3 H6 ao1=some r→b8 ap4 (ae9 F H e7 c8 q3 r) H w0 [.c [1,1,1,1,1,1,0],.c [1,1,1,1,1,1,1]] [(0,.slice e7 a0.length c8),(1,iv a1),(2,iv a2),(3,iv a3),(4,.func (.func 105) #[] #[]),(18,iv (c5 (F8 .u64 (IntKind.wrap .u64 (c5 (a1+a3))) 1))),(19,iv (c5 ((c5 (F8 .u64 (IntKind.wrap .u64 (c5 (a1+a3))) 1))+a2))),(20,iv H6),(21,iv ao1)] H (ab2::F):=by
 intro a0 e7 c8 ab2 q3 a1 a2 a3 H6 ao1 I5 V2 heq
 unfold s6.bj7 at heq
 refine Sa 0<|Zd 3<|An 3 ?_
 exact Gt 0 [] (((s6.dj6 (am7:=s6.am7 N6) (s6.dj5 (N6:=N6) aF2)) n8) a0 _ _ _ _ a1 a2 a3 H6 ao1 I5 V2 heq)
theorem dk4 {N6:(List Blob)→Int→Int→Int→Option (List Blob)} (aF2:∀ {H:Hp} {F:List Ch} {a0:List Blob} {e7:Option Addr} {s0:Nat} {c8:Nat} {ab2:Ch} {a1:Int} {a2:Int} {a3:Int} {r:(List Blob)},b6 j7 44 H e7 c8 a0 ab2→s0=a0.length→N6 a0 a1 a2 a3=some r→z7 Tryz.prog 121 #[.slice e7 s0 c8,iv a1,iv a2,iv a3,.func (.func 105) #[] #[]] H w0 (ab2::F) (ae9 F H e7 c8 s0 r)) {H:Hp} {F:List Ch} {a0:List Blob} {e7:Option Addr} {s0 c8:Nat} {ab2:Ch} {a1 a2 a3:Int} {r:(List Blob)} (heq:s6.g N6 a0 a1 a2 a3=some r) (I5:b6 j7 44 H e7 c8 a0 ab2) (L8:s0=a0.length):z7 Tryz.prog 121 #[.slice e7 s0 c8,iv a1,iv a2,iv a3,.func (.func 105) #[] #[]] H w0 (ab2::F) (ae9 F H e7 c8 s0 r):=by
 refine Co ap4 Tryz.func121 Tryz.ntmps121 ?_
 suffices aL8:∀ (q3:Nat),q3=s0→b8 ap4 (ae9 F H e7 c8 q3 r) H w0 [.c []] (Z3 0 [.slice e7 s0 c8,iv a1,iv a2,iv a3,.func (.func 105) #[] #[]]) H (ab2::F) from aL8 s0 rfl
 intro q3 V2
 subst L8
 unfold s6.g at heq
 refine Sa 2<|Zd 4 ?_
 refine Cb heq ?_ ?_
 ·intro o8 heq
  refine Sa 1<|Zd 2<|Sa 1<|Zd 2<|An 3 ?_
  exact Gt 0 [] (((s6.av4 (e1:=s6.e1) (s6.D7)) n8) a0 _ _ _ _ a1 a2 a3 I5 V2 heq)
 ·intro o8 heq
  refine Sa 3<|Zd 4 ?_
  refine Cb heq ?_ ?_
  ·intro F2 heq
   refine Sa 1<|Zd 2<|Sa 1<|Zd 2<|An 3 ?_
   exact Gt 0 [] (((s6.bY4 (S2:=s6.S2) (s6.bY3)) n8) a0 _ _ _ _ a2 a1 a2 I5 V2 heq)
  ·intro F2 heq
   refine Sa 2<|Zw 7 [⟨.need ((0:Int)≤1),fun w hh=>(show (0:Int)≤1 by decide)⟩]<|Sa 1<|Zd 4<|Sa 1<|Zd 2<|Sa 2<|Zd 3 ?_
   refine Cb heq ?_ ?_
   ·intro ar5 heq
    refine Sa 1<|Zd 4<|Sa 0<|Zd 2<|An 1 ?_
    exact Gt 0 [] ((s6.cy1 (N6:=N6) aF2) a0 _ _ _ _ a1 a2 a3 (c5 ((c5 ((c5 (F8 .u64 (IntKind.wrap .u64 (c5 (a1+a3))) 1))+a2)) - a3)) (c5 (F8 .u64 (IntKind.wrap .u64 (c5 (a1+a3))) 1)) I5 V2 heq)
   ·intro ar5 heq
    refine Sa 1<|Zd 2<|Sa 0<|Zd 2<|An 1 ?_
    exact Gt 0 [] ((s6.cy1 (N6:=N6) aF2) a0 _ _ _ _ a1 a2 a3 a1 a2 I5 V2 heq)
theorem dk5:∀ (k:Nat),∀ {H:Hp} {F:List Ch} {a0:List Blob} {e7:Option Addr} {s0:Nat} {c8:Nat} {ab2:Ch} {a1:Int} {a2:Int} {a3:Int} {r:(List Blob)},b6 j7 44 H e7 c8 a0 ab2→s0=a0.length→s6.fk k a0 a1 a2 a3=some r→z7 Tryz.prog 121 #[.slice e7 s0 c8,iv a1,iv a2,iv a3,.func (.func 105) #[] #[]] H w0 (ab2::F) (ae9 F H e7 c8 s0 r):=by
 intro k
 induction k with
 | zero=>intro H F a0 e7 s0 c8 ab2 a1 a2 a3 r h0_ h1_ heq; cases heq
 | succ k ih =>
  intro H F a0 e7 s0 c8 ab2 a1 a2 a3 r h0_ h1_ heq
  exact dk4 (N6:=s6.fk k) ih heq h0_ h1_
theorem cy4 {a0:List Blob} {e7:Option Addr} {s0 c8:Nat} {ab2:Ch} {a1 a2 a3:Int} {r:(List Blob)} (heq:s6.f a0 a1 a2 a3=some r) (I5:b6 j7 44 H e7 c8 a0 ab2) (L8:s0=a0.length):z7 Tryz.prog 121 #[.slice e7 s0 c8,iv a1,iv a2,iv a3,.func (.func 105) #[] #[]] H w0 (ab2::F) (ae9 F H e7 c8 s0 r):=by
 exact dk5 n8 I5 L8 heq
noncomputable def aH9:Ctx:={ P:=Tryz.prog,f:=112,N:=63,c:=C1 Tryz.f112 }
def aI0 (F:List Ch) (H0:Hp) (e7:Option Addr) (c8:Nat) (q3:Nat) (r:(List Blob)) (v:Value) (H:Hp) (cs:List Ch):Prop:=∃ (J6:Ch),H0=H∧v=.tuple #[]∧J6::F=cs∧b6 j7 44 H e7 c8 r J6∧q3=r.length
theorem I4.bv1 {r:(List Blob)} (K5:Int→(List Blob)→Int→Option (List Blob))
  (ax7:∀ (e7:Option Addr) (c8 q3:Nat) (a1:Int) (o3:List Blob) (ab0:Ch) (y7:Nat) (N7:Int) ,y7=o3.length→q3=y7→b6 j7 44 H e7 c8 o3 ab0→K5 a1 o3 N7=some r→b8 aH9 (aI0 F H e7 c8 q3 r) H w0 [.c [1,1,1,1,0,0],.l [1,1,1,1,0,0],.b 2] [(0,.slice e7 y7 c8),(1,iv a1),(2,.func (.func 105) #[] #[]),(6,iv N7)] H (ab0::F)):∀ (e7:Option Addr) (c8 q3:Nat) (a1 N7:Int) (o3:List Blob) (ab0:Ch) (y7:Nat) ,y7=o3.length→q3=y7→b6 j7 44 H e7 c8 o3 ab0→I4.ap0 K5 a1 N7 o3=some r→b8 aH9 (aI0 F H e7 c8 q3 r) H w0 [.c [1,1,1,1,0,0,1,0,1,1,1],.b 3,.l [1,1,1,1,0,0],.b 2] [(0,.slice e7 y7 c8),(1,iv a1),(2,.func (.func 105) #[] #[]),(6,iv N7)] H (ab0::F):=by
 intro e7 c8 q3 a1 N7 o3 ab0 y7 U1 L9 G1 heq
 subst U1
 unfold I4.ap0 at heq
 refine Sa 0<|Zd 3<|An 2 ?_
 exact Gt 0 [] (ax7 _ _ _ a1 o3 _ _ (c5 (N7*2)) rfl L9 G1 heq)
theorem I4.dk6 {r:(List Blob)} (K5:Int→(List Blob)→Int→Option (List Blob))
  (ax7:∀ (e7:Option Addr) (c8 q3:Nat) (a1:Int) (o3:List Blob) (ab0:Ch) (y7:Nat) (N7:Int) ,y7=o3.length→q3=y7→b6 j7 44 H e7 c8 o3 ab0→K5 a1 o3 N7=some r→b8 aH9 (aI0 F H e7 c8 q3 r) H w0 [.c [1,1,1,1,0,0],.l [1,1,1,1,0,0],.b 2] [(0,.slice e7 y7 c8),(1,iv a1),(2,.func (.func 105) #[] #[]),(6,iv N7)] H (ab0::F)):∀ (e7:Option Addr) (c8 q3:Nat) (a1:Int) (o3:List Blob) (ab0:Ch) (N7 V3:Int) ,q3=o3.length→b6 j7 44 H e7 c8 o3 ab0→I4.S7 K5 a1 o3 N7 V3=some r→b8 aH9 (aI0 F H e7 c8 q3 r) H w0 [.c [1,1,1,1,0,0,1,0,1,1,0,0],.c [1,1,1,1,0,0,1,0,1,1,0,1],.c [1,1,1,1,0,0,1,0,1,1,1],.b 3,.l [1,1,1,1,0,0],.b 2] [(0,.slice e7 o3.length c8),(1,iv a1),(2,.func (.func 105) #[] #[]),(6,iv N7),(7,iv V3)] H (ab0::F):=by
 intro e7 c8 q3 a1 o3 ab0 N7 V3 L9 G1 heq
 unfold I4.S7 at heq
 refine Sa 0<|Zd 4<|Sa 1<|Zd 3 ?_
 refine Cb heq ?_ ?_
 ·intro s3 heq
  refine Sa 0<|Zk 5 ?_
  obtain ⟨y2,hy2,heq⟩:=bind_some heq
  refine c6.e5 (o9 60 (cy4 hy2 G1 rfl)) ?_
  rintro _ _ _ _ ⟨_,rfl,B5,rfl,rfl,rfl,w8,hn2⟩
  refine Dn ?_
  exact Gt 0 [] ((I4.bv1 (K5:=K5) ax7) _ _ _ a1 N7 y2 _ _ hn2 L9 w8 heq)
 ·intro s3 heq
  refine An 1 ?_
  exact Gt 0 [] ((I4.bv1 (K5:=K5) ax7) _ _ _ a1 N7 o3 _ _ rfl L9 G1 heq)
theorem I4.bv0 {r:(List Blob)} (S7:Int→(List Blob)→Int→Int→Option (List Blob))
  (he3:∀ (e7:Option Addr) (c8 q3:Nat) (a1:Int) (o3:List Blob) (ab0:Ch) (N7 V3:Int) ,q3=o3.length→b6 j7 44 H e7 c8 o3 ab0→S7 a1 o3 N7 V3=some r→b8 aH9 (aI0 F H e7 c8 q3 r) H w0 [.c [1,1,1,1,0,0,1,0,1,1,0,0],.c [1,1,1,1,0,0,1,0,1,1,0,1],.c [1,1,1,1,0,0,1,0,1,1,1],.b 3,.l [1,1,1,1,0,0],.b 2] [(0,.slice e7 o3.length c8),(1,iv a1),(2,.func (.func 105) #[] #[]),(6,iv N7),(7,iv V3)] H (ab0::F)):∀ (k:Nat),∀ (e7:Option Addr) (c8 q3:Nat) (a1 N7:Int) (o3:List Blob) (ab0:Ch) (y7:Nat) (V3 ak5:Int) ,y7=o3.length→q3=y7→b6 j7 44 H e7 c8 o3 ab0→I4.l5 S7 k a1 N7 o3 V3 ak5=some r→b8 aH9 (aI0 F H e7 c8 q3 r) H w0 [.c [1,1,1,1,0,0,1,0,1,0,0,0],.l [1,1,1,1,0,0,1,0,1,0,0,0],.b 4,.c [1,1,1,1,0,0,1,0,1,1],.b 3,.l [1,1,1,1,0,0],.b 2] [(0,.slice e7 y7 c8),(1,iv a1),(2,.func (.func 105) #[] #[]),(6,iv N7),(7,iv V3),(8,iv ak5)] H (ab0::F):=by
 intro k
 induction k with
 | zero=>intro e7 c8 q3 a1 N7 o3 ab0 y7 V3 ak5 U1 L9 G1 heq; exact nomatch (show (none:Option (List Blob))=some r from heq)
 | succ k u0 =>
  intro e7 c8 q3 a1 N7 o3 ab0 y7 V3 ak5 U1 L9 G1 heq
  subst U1
  rw [I4.l5] at heq
  refine Sa 2<|Zd 3 ?_
  refine Cb heq ?_ ?_
  ·intro x7 heq
   refine Sa 3<|Zk 7 ?_
   obtain ⟨y3,hy3,heq⟩:=bind_some heq
   refine c6.e5 (o9 43 (cy4 hy3 G1 rfl)) ?_
   rintro _ _ _ _ ⟨_,rfl,E6,rfl,rfl,rfl,w4,S9⟩
   refine Dn<|Sa 1<|Zd 2<|Sa 0<|Zd 5<|An 2 ?_
   exact Gt 0 [] (u0 _ _ _ a1 N7 y3 _ _ ak5 (c5 (ak5+(c5 (2*N7)))) S9 L9 w4 heq)
  ·intro x7 heq
   refine An 3 ?_
   exact Gt 0 [] (he3 _ _ _ a1 o3 _ N7 V3 L9 G1 heq)
theorem I4.F9 {r:(List Blob)}:∀ (k:Nat),∀ (e7:Option Addr) (c8 q3:Nat) (a1:Int) (o3:List Blob) (ab0:Ch) (y7:Nat) (N7:Int) ,y7=o3.length→q3=y7→b6 j7 44 H e7 c8 o3 ab0→I4.l2 k a1 o3 N7=some r→b8 aH9 (aI0 F H e7 c8 q3 r) H w0 [.c [1,1,1,1,0,0],.l [1,1,1,1,0,0],.b 2] [(0,.slice e7 y7 c8),(1,iv a1),(2,.func (.func 105) #[] #[]),(6,iv N7)] H (ab0::F):=by
 intro k
 induction k with
 | zero=>intro e7 c8 q3 a1 o3 ab0 y7 N7 U1 L9 G1 heq; exact nomatch (show (none:Option (List Blob))=some r from heq)
 | succ k u0 =>
  intro e7 c8 q3 a1 o3 ab0 y7 N7 U1 L9 G1 heq
  subst U1
  rw [I4.l2] at heq
  refine Sa 2<|Zd 3 ?_
  refine Cb heq ?_ ?_
  ·intro o8 heq
   refine Sa 3<|Zd 4<|An 3 ?_
   exact Gt 0 [] (((I4.bv0 (S7:=I4.S7 ((I4.l2 k))) (I4.dk6 (K5:=(I4.l2 k)) u0)) n8) _ _ _ a1 N7 o3 _ _ 0 (c5 (2*N7)) rfl L9 G1 heq)
  ·intro o8 heq
   refine An 1 ?_
   obtain rfl:=Option.some.inj heq
   exact b8.done (by kernel_rfl) Tryz.func112 (v:=.tuple #[]) (by kernel_rfl) ⟨ab0,rfl,rfl,rfl,G1,(L9.trans rfl)⟩
theorem I4.D7 {r:(List Blob)}:∀ (e7:Option Addr) (c8 q3:Nat) (a1:Int) (o3:List Blob) (ab0:Ch) (y7:Nat) (V3:Int) ,y7=o3.length→q3=y7→b6 j7 44 H e7 c8 o3 ab0→I4.e1 a1 o3 V3=some r→b8 aH9 (aI0 F H e7 c8 q3 r) H w0 [.c [1,1,1,0],.c [1,1,1,1]] [(0,.slice e7 y7 c8),(1,iv a1),(2,.func (.func 105) #[] #[]),(6,iv 20),(7,iv V3)] H (ab0::F):=by
 intro e7 c8 q3 a1 o3 ab0 y7 V3 U1 L9 G1 heq
 subst U1
 unfold I4.e1 at heq
 refine Sa 0<|Zk 4 ?_
 obtain ⟨y1,hy1,heq⟩:=bind_some heq
 refine c6.e5 (o9 27 (cw9 hy1 G1 rfl)) ?_
 rintro _ _ _ _ ⟨_,rfl,r9,rfl,rfl,rfl,r8,C4⟩
 refine Dn<|An 2 ?_
 exact Gt 0 [] (((I4.F9) n8) _ _ _ a1 y1 _ _ 20 C4 L9 r8 heq)
theorem I4.bY4 {r:(List Blob)} (e1:Int→(List Blob)→Int→Option (List Blob))
  (D4:∀ (e7:Option Addr) (c8 q3:Nat) (a1:Int) (o3:List Blob) (ab0:Ch) (y7:Nat) (V3:Int) ,y7=o3.length→q3=y7→b6 j7 44 H e7 c8 o3 ab0→e1 a1 o3 V3=some r→b8 aH9 (aI0 F H e7 c8 q3 r) H w0 [.c [1,1,1,0],.c [1,1,1,1]] [(0,.slice e7 y7 c8),(1,iv a1),(2,.func (.func 105) #[] #[]),(6,iv 20),(7,iv V3)] H (ab0::F)):∀ (k:Nat),∀ (e7:Option Addr) (c8 q3:Nat) (a1:Int) (o3:List Blob) (ab0:Ch) (y7:Nat) (V3 ak5:Int) ,y7=o3.length→q3=y7→b6 j7 44 H e7 c8 o3 ab0→I4.l6 e1 k a1 o3 V3 ak5=some r→b8 aH9 (aI0 F H e7 c8 q3 r) H w0 [.c [1,1,0,0,0],.l [1,1,0,0,0],.b 0,.c [1,1,1]] [(0,.slice e7 y7 c8),(1,iv a1),(2,.func (.func 105) #[] #[]),(6,iv 20),(7,iv V3),(8,iv ak5)] H (ab0::F):=by
 intro k
 induction k with
 | zero=>intro e7 c8 q3 a1 o3 ab0 y7 V3 ak5 U1 L9 G1 heq; exact nomatch (show (none:Option (List Blob))=some r from heq)
 | succ k u0 =>
  intro e7 c8 q3 a1 o3 ab0 y7 V3 ak5 U1 L9 G1 heq
  subst U1
  rw [I4.l6] at heq
  refine Sa 2<|Zd 3 ?_
  refine Cb heq ?_ ?_
  ·intro B3 heq
   refine Sa 3<|Zk 4 ?_
   obtain ⟨y4,hy4,heq⟩:=bind_some heq
   refine c6.e5 (o9 18 (cw9 hy4 G1 rfl)) ?_
   rintro _ _ _ _ ⟨_,rfl,G6,rfl,rfl,rfl,C9,hn4⟩
   refine Dn<|Sa 1<|Zd 2<|Sa 0<|Zd 4<|An 2 ?_
   exact Gt 0 [] (u0 _ _ _ a1 y4 _ _ ak5 (c5 (ak5+20)) hn4 L9 C9 heq)
  ·intro B3 heq
   refine An 2 ?_
   exact Gt 0 [] (D4 _ _ _ a1 o3 _ _ V3 rfl L9 G1 heq)
theorem dk8 {a0:List Blob} {e7:Option Addr} {s0 c8:Nat} {ab2:Ch} {a1:Int} {r:(List Blob)} (heq:I4.f a0 a1=some r) (I5:b6 j7 44 H e7 c8 a0 ab2) (L8:s0=a0.length):z7 Tryz.prog 112 #[.slice e7 s0 c8,iv a1,.func (.func 105) #[] #[]] H w0 (ab2::F) (aI0 F H e7 c8 s0 r):=by
 refine Co aH9 Tryz.func112 Tryz.ntmps112 ?_
 suffices aL8:∀ (q3:Nat),q3=s0→b8 aH9 (aI0 F H e7 c8 q3 r) H w0 [.c []] (Z3 0 [.slice e7 s0 c8,iv a1,.func (.func 105) #[] #[]]) H (ab2::F) from aL8 s0 rfl
 intro q3 V2
 subst L8
 unfold I4.f at heq
 refine Sa 1<|Zd 1<|Sa 1<|Zd 3<|An 3 ?_
 exact Gt 0 [] (((I4.bY4 (e1:=I4.e1) (I4.D7)) n8) _ _ _ a1 a0 _ _ 0 20 rfl V2 I5 heq)
noncomputable def cy5:Ctx:={ P:=Tryz.prog,f:=104,N:=9,c:=C1 Tryz.f104 }
def cy6 (F:List Ch) (H0:Hp) (e7:Option Addr) (c8:Nat) (q3:Nat) (r:(List Blob)) (v:Value) (H:Hp) (cs:List Ch):Prop:=∃ (J6:Ch),H0=H∧v=.tuple #[]∧J6::F=cs∧b6 j7 44 H e7 c8 r J6∧q3=r.length
theorem dk9 {a0:List Blob} {e7:Option Addr} {s0 c8:Nat} {ab2:Ch} {r:(List Blob)} (heq:bs1.f a0=some r) (I5:b6 j7 44 H e7 c8 a0 ab2) (L8:s0=a0.length):z7 Tryz.prog 104 #[.slice e7 s0 c8,.func (.func 105) #[] #[]] H w0 (ab2::F) (cy6 F H e7 c8 s0 r):=by
 refine Co cy5 Tryz.func104 Tryz.ntmps104 ?_
 suffices aL8:∀ (q3:Nat),q3=s0→b8 cy5 (cy6 F H e7 c8 q3 r) H w0 [.c []] (Z3 0 [.slice e7 s0 c8,.func (.func 105) #[] #[]]) H (ab2::F) from aL8 s0 rfl
 intro q3 V2
 subst L8
 unfold bs1.f at heq
 refine Sa 0<|Zk 4 ?_
 obtain ⟨y1,hy1,heq⟩:=bind_some heq
 refine c6.e5 (o9 8 (dk8 hy1 I5 rfl)) ?_
 rintro _ _ _ _ ⟨_,rfl,r9,rfl,rfl,rfl,r8,C4⟩
 refine Dn ?_
 obtain rfl:=Option.some.inj heq
 exact b8.done (by kernel_rfl) Tryz.func104 (v:=.tuple #[]) (by kernel_rfl) ⟨r9,rfl,rfl,rfl,r8,(V2.trans C4)⟩
noncomputable def C88:Ctx:={ P:=Tryz.prog,f:=88,N:=14,c:=C1 Tryz.f88 }
def S88 (F:List Ch) (H0:Hp) (r:(List Blob)) (v:Value) (H:Hp) (cs:List Ch):Prop:=∃ (ad8:Option Addr) (c0:Nat) (J6:Ch),H0=H∧v=.slice ad8 r.length c0∧J6::F=cs∧b6 j7 44 H ad8 c0 r J6
theorem dl2 {a0:Cache} {e6:Option Addr} {q2 e8:Nat} {e3:Option Addr} {p7 e4:Nat} {a1:Int} {r:(List Blob)} (heq:bj1.f a0 a1=some r) (n9:Rw j7 H F e6 a0.U) (s7:q2≤e8) (B9:q2=a0.U.length) (l8:Rw k5 H F e3 a0.Entries) (q8:p7≤e4) (B4:p7=a0.Entries.length):z7 Tryz.prog 88 #[.agg #[iv a0.Room,iv a0.c4,.slice e6 q2 e8,.slice e3 p7 e4],iv a1] H w0 (F) (S88 F H r):=by
 refine Co C88 Tryz.func88 Tryz.ntmps88 ?_
 subst B9
 subst B4
 unfold bj1.f at heq
 refine Sa 1 ?_
 refine c6.e5 (j6.new (d:=2) (v:=fun g=>.pointer (some ⟨g,0,none⟩)) (o:=fun g=>.cells #[iv a0.Room,iv a0.c4,.slice e6 a0.U.length e8,.slice e3 a0.Entries.length e4] 25 (0,0)) (fun g=>by kernel_rfl)) ?_
 rintro _ _ _ _ ⟨g1,rfl,rfl,rfl⟩
 refine c6.e5 (j6.new (d:=3) (v:=fun g=>.pointer (some ⟨g,0,none⟩)) (o:=fun g=>.cells #[iv a1] 3 (0,0)) (fun g=>by kernel_rfl)) ?_
 rintro _ _ _ _ ⟨g2,rfl,rfl,rfl⟩
 refine Zd 3<|Sa 1<|Zv 2 [bx 1 2] ?_
 obtain ⟨y1,hy1,heq⟩:=bind_some heq
 refine c6.e5 (o9 8 (bX3 (a0:=a0.U) (n9.wk (fun _ h=>(.tail _ (.tail _ h)))) s7 rfl hy1)) ?_
 rintro _ _ _ _ ⟨_,rfl,A1,c1,r9,rfl,rfl,rfl,r8⟩
 refine Zk 4 ?_
 obtain ⟨y2,hy2,heq⟩:=bind_some heq
 refine c6.e5 (o9 10 (dg6 hy2 r8 rfl (.inr (.head _)))) ?_
 rintro _ _ _ _ ⟨_,rfl,aa3,c2,B5,rfl,rfl,rfl,w8⟩
 refine Zd 6<|Sa 1<|Zk 1 ?_
 obtain ⟨y3,hy3,heq⟩:=bind_some heq
 refine c6.e5 (o9 12 (dk9 hy3 w8 rfl)) ?_
 rintro _ _ _ _ ⟨_,rfl,E6,rfl,rfl,rfl,w4,C4⟩
 refine Dn<|Sa 1<|Zd 2 ?_
 obtain rfl:=Option.some.inj heq
 refine Up 3 [0] ?_
 exact b8.done (by kernel_rfl) Tryz.func88 (v:=.slice aa3 y2.length c2) (by kernel_rfl) ⟨aa3,c2,E6,rfl,(by first | rfl | exact congrArg (fun q=>Value.slice _ q _) C4 | (rw [C4]; done) | (simp only [← C4])),(by first | rfl | (rw [C4]; done) | (rw [C4]; rfl) | (simp only [List.length_set]; done) | (simp only [List.length_set]; rfl)),w4⟩
noncomputable def C23:Ctx:={ P:=Tryz.prog,f:=23,N:=19,c:=C1 Tryz.f23 }
def S23 (F:List Ch) (H0:Hp) (r:Int) (v:Value) (H:Hp) (cs:List Ch):Prop:=H0=H∧v=iv r∧F=cs
theorem ac0.D7 {r:Int}:∀ (ar6:Int) ,ac0.e1 ar6=some r→b8 C23 (S23 F H r) H w0 [.c [1,1,1,0],.c [1,1,1,1]] [(3,iv ar6)] H (F):=by
 intro ar6  heq
 unfold ac0.e1 at heq
 refine Sa 0<|Zd 2 ?_
 obtain rfl:=Option.some.inj heq
 exact b8.done (by kernel_rfl) Tryz.func23 (v:=iv ar6) (by kernel_rfl) ⟨rfl,rfl,rfl⟩
theorem ac0.F9 {r:Int} (e1:Int→Option Int)
  (D4:∀ (ar6:Int) ,e1 ar6=some r→b8 C23 (S23 F H r) H w0 [.c [1,1,1,0],.c [1,1,1,1]] [(3,iv ar6)] H (F)):∀ (k:Nat),∀ (a0:Cache) (e6:Option Addr) (e8:Nat) (ar6 v9:Int) ,Rw j7 H F e6 a0.U→a0.U.length≤e8→ac0.l2 e1 k a0 ar6 v9=some r→b8 C23 (S23 F H r) H w0 [.c [1,1,0,1,0,0],.l [1,1,0,1,0,0],.b 0,.c [1,1,1]] [(3,iv ar6),(7,.slice e6 a0.U.length e8),(8,iv (a0.U.length:Int)),(9,iv v9)] H (F):=by
 intro k
 induction k with
 | zero=>intro a0 e6 e8 ar6 v9 n9 s7 heq; exact nomatch (show (none:Option Int)=some r from heq)
 | succ k u0 =>
  intro a0 e6 e8 ar6 v9 n9 s7 heq
  rw [ac0.l2] at heq
  refine Sa 1<|Zd 1<|An 1 ?_
  refine Cb heq ?_ ?_
  ·intro o8 heq
   refine Sa 4 ?_
   obtain ⟨x1,hx1,heq⟩:=bind_some heq
   obtain ⟨A7,I1,B1,B2⟩:=n9.get hx1
   obtain ⟨rfl⟩:=C6 B1
   refine Zv 2 ([nx A7 hx1]++ers B2 0) ?_
   refine c6.e5 (j6.new (d:=5) (v:=fun g=>.pointer (some ⟨g,0,none⟩)) (o:=fun g=>.cells #[.string ByteArray.empty,iv 0,iv 0,iv 0,iv 0] 44 (0,0)) (fun g=>by kernel_rfl)) ?_
   rintro _ _ _ _ ⟨g2,rfl,rfl,rfl⟩
   refine c6.e5 (j6.store (k:=0) (g:=g2) (off:=0) (v:=.agg #[.string x1.b7,iv x1.j4,iv x1.Used,iv x1.u6,iv x1.q4]) (cells':=#[.string x1.b7,iv x1.j4,iv x1.Used,iv x1.u6,iv x1.q4]) (by kernel_rfl) rfl (by kernel_rfl) (by kernel_rfl)) ?_
   rintro _ _ _ _ ⟨rfl,rfl,rfl⟩
   refine c6.p6 ?_
   refine Dn<|Sa 0<|Zw 5 [bx 0 1]<|Sa 1<|Zd 2<|An 1 ?_
   exact Gt 1 [] (u0 a0 _ _ (c5 (ar6+x1.j4)) (c5 (v9+1)) n9 s7 heq)
  ·intro o8 heq
   refine An 2 ?_
   exact Gt 0 [] (D4 ar6 heq)
theorem bH5 {a0:Cache} {e6:Option Addr} {q2 e8:Nat} {e3:Option Addr} {p7 e4:Nat} {r:Int} (heq:ac0.f a0=some r) (n9:Rw j7 H F e6 a0.U) (s7:q2≤e8) (B9:q2=a0.U.length) (l8:Rw k5 H F e3 a0.Entries) (q8:p7≤e4) (B4:p7=a0.Entries.length):z7 Tryz.prog 23 #[.agg #[iv a0.Room,iv a0.c4,.slice e6 q2 e8,.slice e3 p7 e4]] H w0 (F) (S23 F H r):=by
 refine Co C23 Tryz.func23 Tryz.ntmps23 ?_
 subst B9
 subst B4
 unfold ac0.f at heq
 refine Sa 1 ?_
 refine c6.e5 (j6.new (d:=1) (v:=fun g=>.pointer (some ⟨g,0,none⟩)) (o:=fun g=>.cells #[iv a0.Room,iv a0.c4,.slice e6 a0.U.length e8,.slice e3 a0.Entries.length e4] 25 (0,0)) (fun g=>by kernel_rfl)) ?_
 rintro _ _ _ _ ⟨g1,rfl,rfl,rfl⟩
 refine Zd 2<|Sa 1<|Zd 1<|Sa 2<|Zw 4 [bx 0 2]<|An 2 ?_
 exact Gt 1 [] (((ac0.F9 (e1:=ac0.e1) (ac0.D7)) n8) a0 _ _ 0 0 n9 s7 heq)
noncomputable def C89:Ctx:={ P:=Tryz.prog,f:=89,N:=6,c:=C1 Tryz.f89 }
def S89 (F:List Ch) (H0:Hp) (r:Int) (v:Value) (H:Hp) (cs:List Ch):Prop:=H0=H∧v=iv r∧F=cs
theorem dl5 {a0:List Blob} {e7:Option Addr} {s0 c8:Nat} {r:Int} (heq:bG2.f a0=some r) (B6:Rw j7 H F e7 a0) (G9:s0≤c8) (L8:s0=a0.length):z7 Tryz.prog 89 #[.slice e7 s0 c8] H w0 (F) (S89 F H r):=by
 refine Co C89 Tryz.func89 Tryz.ntmps89 ?_
 subst L8
 unfold bG2.f at heq
 refine Sa 1<|Zd 1<|Sa 1<|Zk 2 ?_
 obtain ⟨y1,hy1,heq⟩:=bind_some heq
 refine c6.e5 (o9 5 (bH5 (a0:=(⟨0,0,a0,([]:List Entry)⟩:Cache)) hy1 B6 G9 rfl (Rw.nil (A:=none)) (Nat.le_refl _) rfl)) ?_
 rintro _ _ _ _ ⟨_,rfl,rfl,rfl,rfl⟩
 refine Zd 4 ?_
 obtain rfl:=Option.some.inj heq
 exact b8.done (by kernel_rfl) Tryz.func89 (v:=iv y1) (by kernel_rfl) ⟨rfl,rfl,rfl⟩
noncomputable def C70:Ctx:={ P:=Tryz.prog,f:=70,N:=8,c:=C1 Tryz.f70 }
def S70 (F:List Ch) (H0:Hp) (r:Bool) (v:Value) (H:Hp) (cs:List Ch):Prop:=H0=H∧v=.bool r∧F=cs
theorem cy7 {a0:Blob} {ga1:Nat} {a1:List (ByteArray × Bool)} {cy8:Option Nat} {r:Bool} (heq:bp8.f a0 a1=some r) (dl8:Mw Value.string Kd.bool false H F cy8 a1) (bX7:P3 H F ga1 (.cells #[.map cy8] 94 (0,0))):z7 Tryz.prog 70 #[.agg #[.string a0.b7,iv a0.j4,iv a0.Used,iv a0.u6,iv a0.q4],.pointer (some ⟨ga1,0,none⟩)] H w0 (F) (S70 F H r):=by
 refine Co C70 Tryz.func70 Tryz.ntmps70 ?_
 unfold bp8.f at heq
 refine Sa 1 ?_
 refine c6.e5 (j6.new (d:=2) (v:=fun g=>.pointer (some ⟨g,0,none⟩)) (o:=fun g=>.cells #[.string a0.b7,iv a0.j4,iv a0.Used,iv a0.u6,iv a0.q4] 44 (0,0)) (fun g=>by kernel_rfl)) ?_
 rintro _ _ _ _ ⟨g1,rfl,rfl,rfl⟩
 refine Zd 2<|Sa 1<|Zv 3 [rb bX7 1 0,bx 0 0] ?_
 refine c6.e5 (j6.lookup (d:=7) (t:=94) (m:=a1) (k:=a0.b7) (z:=.bool false) (zc:=[.bool false]) (z0:=false) (ok:=false) (kd:=Kd.bool) (ag:=false) (by kernel_rfl) (as0.string Tryz.underlying9) rfl rfl (fun w hh=>dl8.on (hh.drop 1))) ?_
 rintro _ _ _ _ ⟨dl9,rfl,rfl,rfl,B2⟩
 obtain rfl:dl9=[.bool (aq3 a1 a0.b7 false)]:=B2
 refine c6.bf5 (v':=.bool (aq3 a1 a0.b7 false)) rfl ?_
 refine Zd 5 ?_
 obtain rfl:=Option.some.inj heq
 refine Up 1 [] ?_
 exact b8.done (by kernel_rfl) Tryz.func70 (v:=.bool (aq3 a1 a0.b7 false)) (by kernel_rfl) ⟨rfl,rfl,rfl⟩
noncomputable def bJ1:Ctx:={ P:=Tryz.prog,f:=96,N:=19,c:=C1 Tryz.f96 }
def bJ2 (F:List Ch) (H0:Hp) (r:Int) (v:Value) (H:Hp) (cs:List Ch):Prop:=H0=H∧v=iv r∧F=cs
theorem ao9.D7 {r:Int}:ao9.e1=some r→b8 bJ1 (bJ2 F H r) H w0 [.c [1,1,0],.c [1,1,1]] [] H (F):=by
 intro   heq
 unfold ao9.e1 at heq
 refine Sa 0<|Zd 1 ?_
 obtain rfl:=Option.some.inj heq
 exact b8.done (by kernel_rfl) Tryz.func96 (v:=iv (-1)) (by kernel_rfl) ⟨rfl,rfl,rfl⟩
theorem ao9.F9 {r:Int} (e1:Option Int)
  (D4:e1=some r→b8 bJ1 (bJ2 F H r) H w0 [.c [1,1,0],.c [1,1,1]] [] H (F)):∀ (k:Nat),∀ (a0:List Blob) (e7:Option Addr) (c8 Q7:Nat) (D9:List (ByteArray × Bool)) (al9:Option Nat) (v8:Int) ,Rw j7 H F e7 a0→a0.length≤c8→Mw Value.string Kd.bool false H F al9 D9→P3 H F Q7 (.cells #[.map al9] 94 (0,0))→ao9.l2 e1 k a0 D9 v8=some r→b8 bJ1 (bJ2 F H r) H w0 [.c [1,0,1,0,0],.l [1,0,1,0,0],.b 0,.c [1,1]] [(0,.slice e7 a0.length c8),(1,.func (.func 70) #[] #[.pointer (some ⟨Q7,0,none⟩)]),(7,iv (a0.length:Int)),(8,iv v8)] H (F):=by
 intro k
 induction k with
 | zero=>intro a0 e7 c8 Q7 D9 al9 v8 B6 G9 aA0 aa7 heq; exact nomatch (show (none:Option Int)=some r from heq)
 | succ k u0 =>
  intro a0 e7 c8 Q7 D9 al9 v8 B6 G9 aA0 aa7 heq
  rw [ao9.l2] at heq
  refine Sa 1<|Zd 1<|An 1 ?_
  refine Cb heq ?_ ?_
  ·intro o8 heq
   refine Sa 4<|Zd 2<|Sa 1 ?_
   obtain ⟨x1,hx1,heq⟩:=bind_some heq
   obtain ⟨A7,I1,B1,B2⟩:=B6.get hx1
   obtain ⟨rfl⟩:=C6 B1
   refine Zv 5 ([nx A7 hx1]++ers B2 0) ?_
   obtain ⟨y1,hy1,heq⟩:=bind_some heq
   refine c6.e5 (o9 16 (cy7 hy1 aA0 aa7)) ?_
   rintro _ _ _ _ ⟨_,rfl,rfl,rfl,rfl⟩
   refine Dn ?_
   refine Cb heq ?_ ?_
   ·intro s3 heq
    refine Sa 1<|Zd 2 ?_
    obtain rfl:=Option.some.inj heq
    exact b8.done (by kernel_rfl) Tryz.func96 (v:=iv v8) (by kernel_rfl) ⟨rfl,rfl,rfl⟩
   ·intro s3 heq
    refine Sa 2<|Zd 2<|An 1 ?_
    exact Gt 0 [] (u0 a0 _ _ _ D9 _ (c5 (v8+1)) B6 G9 aA0 aa7 heq)
  ·intro o8 heq
   refine An 2 ?_
   exact Gt 0 [] (D4 heq)
theorem dm0 {a0:List Blob} {e7:Option Addr} {s0 c8 Q7:Nat} {D9:List (ByteArray × Bool)} {al9:Option Nat} {r:Int} (heq:ao9.f a0 D9=some r) (B6:Rw j7 H F e7 a0) (G9:s0≤c8) (L8:s0=a0.length) (aA0:Mw Value.string Kd.bool false H F al9 D9) (aa7:P3 H F Q7 (.cells #[.map al9] 94 (0,0))):z7 Tryz.prog 96 #[.slice e7 s0 c8,.func (.func 70) #[] #[.pointer (some ⟨Q7,0,none⟩)]] H w0 (F) (bJ2 F H r):=by
 refine Co bJ1 Tryz.func96 Tryz.ntmps96 ?_
 subst L8
 unfold ao9.f at heq
 refine Sa 1<|Zd 1<|Sa 2<|Zd 3<|An 2 ?_
 exact Gt 0 [] (((ao9.F9 (e1:=ao9.e1) (ao9.D7)) n8) a0 _ _ _ D9 _ 0 B6 G9 aA0 aa7 heq)
noncomputable def bl2:Ctx:={ P:=Tryz.prog,f:=69,N:=42,c:=C1 Tryz.f69 }
def bl3 (F:List Ch) (H0:Hp) (r:(List Blob)) (v:Value) (H:Hp) (cs:List Ch):Prop:=∃ (ad8:Option Addr) (c0:Nat) (J6:Ch),H0=H∧v=.slice ad8 r.length c0∧J6::F=cs∧b6 j7 44 H ad8 c0 r J6
theorem X1.D7 {r:(List Blob)}:∀ (z1:List Blob) (P1:Option Addr) (W3 N4:Nat) (W4:Ch) (n7:Int) ,b6 j7 44 H P1 N4 z1 W4→W3=z1.length→X1.e1 z1 n7=some r→b8 bl2 (bl3 F H r) H w0 [.c [1,1,1,1,0],.c [1,1,1,1,1]] [(0,.slice P1 W3 N4),(5,iv n7)] H (W4::F):=by
 intro z1 P1 W3 N4 W4 n7 ac6 aF0 heq
 subst aF0
 unfold X1.e1 at heq
 refine Sa 0 ?_
 obtain ⟨hn2,heq⟩:=M1 heq
 have C4:z1.length - n7.toNat=(z1.drop n7.toNat).length:=by have h1:=O6 hn2; have h3:=trivial; (try simp); (try omega)
 have r8:=ac6.drop n7.toNat (by have h2:=ac6.cap; have h3:=trivial; have h1:=O6 hn2; omega)
 refine Zv 3 [⟨.need ((0:Int)≤n7∧n7≤((z1.length:Nat):Int)),fun w hh=>(O6 hn2)⟩] ?_
 refine c6.e5 (j6.clear (k:=0) (j:=n7.toNat) (n:=z1.length - n7.toNat) (t:=22) (e:=44) (bytes:=48) (kd:=j7) (A:=P1) (aa3:=(K6 N4 n7.toNat 5 P1)) (c:=N4) (c2:=(N4 - n7.toNat)) (xs:=z1) (z:=(⟨ByteArray.empty,0,0,0,0⟩:Blob)) (zc:=#[.string ByteArray.empty,iv 0,iv 0,iv 0,iv 0]) (by kernel_rfl) (by have h3:=trivial; omega) (by kernel_rfl) (by kernel_rfl) af8 (by kernel_rfl) rfl ac6 (by have h1:=O6 hn2; have h3:=trivial; omega) (fun h b off hA=>ay6 h ac6.cap hA)) ?_
 rintro _ _ _ _ ⟨r9,rfl,rfl,rfl,w8⟩
 have S9:z1.length=(z1.take n7.toNat++List.replicate (z1.length - n7.toNat) (⟨ByteArray.empty,0,0,0,0⟩:Blob)).length:=by have h1:=O6 hn2; have h3:=trivial; simp; omega
 refine c6.p6 ?_
 refine Dn<|Sa 1 ?_
 obtain ⟨hn5,heq⟩:=M1 heq
 have hn4:n7.toNat=((z1.take n7.toNat++List.replicate (z1.length - n7.toNat) (⟨ByteArray.empty,0,0,0,0⟩:Blob)).take n7.toNat).length:=by have h1:=O6 hn5; have h3:=S9; (try simp); (try omega)
 have w4:=w8.take n7.toNat
 refine Zw 4 [⟨.need ((0:Int)≤n7∧n7≤((N4:Nat):Int)),fun w hh=>⟨(O6 hn5).1,(by have h1:=(O6 hn5).2; have h2:=(show z1.length≤N4 from by have:=w8.cap; have:=S9; omega); have h3:=S9; omega)⟩⟩] ?_
 obtain rfl:=Option.some.inj heq
 exact b8.done (by kernel_rfl) Tryz.func69 (v:=.slice P1 n7.toNat N4) (by kernel_rfl) ⟨P1,N4,r9,rfl,(by first | rfl | exact congrArg (fun q=>Value.slice _ q _) hn4 | (rw [hn4]; done) | (simp only [← hn4])),(by first | rfl | (rw [hn4]; done) | (rw [hn4]; rfl) | (simp only [List.length_set]; done) | (simp only [List.length_set]; rfl)),w4⟩
theorem X1.ai7 {r:(List Blob)} (K5:(List (ByteArray × Bool))→(List Blob)→Int→Int→Option (List Blob))
  (ax7:∀ (Q7:Nat) (D9:List (ByteArray × Bool)) (al9:Option Nat) (z1:List Blob) (P1:Option Addr) (W3 N4:Nat) (W4:Ch) (n7 R7:Int) ,Mw Value.string Kd.bool false H F al9 D9→P3 H F Q7 (.cells #[.map al9] 94 (0,0))→b6 j7 44 H P1 N4 z1 W4→W3=z1.length→K5 D9 z1 n7 R7=some r→b8 bl2 (bl3 F H r) H w0 [.c [1,1,1,0,1,0,0],.l [1,1,1,0,1,0,0],.b 0,.c [1,1,1,1]] [(0,.slice P1 W3 N4),(1,.func (.func 70) #[] #[.pointer (some ⟨Q7,0,none⟩)]),(5,iv n7),(6,iv R7)] H (W4::F)):∀ (Q7:Nat) (D9:List (ByteArray × Bool)) (al9:Option Nat) (R7:Int) (z1:List Blob) (P1:Option Addr) (W3 N4:Nat) (W4:Ch) (n7:Int) ,Mw Value.string Kd.bool false H F al9 D9→P3 H F Q7 (.cells #[.map al9] 94 (0,0))→b6 j7 44 H P1 N4 z1 W4→W3=z1.length→X1.j3 K5 D9 R7 z1 n7=some r→b8 bl2 (bl3 F H r) H w0 [.c [1,1,1,0,1,0,0,1,1],.l [1,1,1,0,1,0,0],.b 0,.c [1,1,1,1]] [(0,.slice P1 W3 N4),(1,.func (.func 70) #[] #[.pointer (some ⟨Q7,0,none⟩)]),(5,iv n7),(6,iv R7)] H (W4::F):=by
 intro Q7 D9 al9 R7 z1 P1 W3 N4 W4 n7 aA0 aa7 ac6 aF0 heq
 subst aF0
 unfold X1.j3 at heq
 refine Sa 0<|Zd 3<|An 1 ?_
 exact Gt 0 [] (ax7 _ D9 _ z1 _ _ _ _ n7 (c5 (R7+1)) aA0 aa7 ac6 rfl heq)
theorem X1.F9 {r:(List Blob)} (e1:(List Blob)→Int→Option (List Blob))
  (D4:∀ (z1:List Blob) (P1:Option Addr) (W3 N4:Nat) (W4:Ch) (n7:Int) ,b6 j7 44 H P1 N4 z1 W4→W3=z1.length→e1 z1 n7=some r→b8 bl2 (bl3 F H r) H w0 [.c [1,1,1,1,0],.c [1,1,1,1,1]] [(0,.slice P1 W3 N4),(5,iv n7)] H (W4::F)):∀ (k:Nat),∀ (Q7:Nat) (D9:List (ByteArray × Bool)) (al9:Option Nat) (z1:List Blob) (P1:Option Addr) (W3 N4:Nat) (W4:Ch) (n7 R7:Int) ,Mw Value.string Kd.bool false H F al9 D9→P3 H F Q7 (.cells #[.map al9] 94 (0,0))→b6 j7 44 H P1 N4 z1 W4→W3=z1.length→X1.l2 e1 k D9 z1 n7 R7=some r→b8 bl2 (bl3 F H r) H w0 [.c [1,1,1,0,1,0,0],.l [1,1,1,0,1,0,0],.b 0,.c [1,1,1,1]] [(0,.slice P1 W3 N4),(1,.func (.func 70) #[] #[.pointer (some ⟨Q7,0,none⟩)]),(5,iv n7),(6,iv R7)] H (W4::F):=by
 intro k
 induction k with
 | zero=>intro Q7 D9 al9 z1 P1 W3 N4 W4 n7 R7 aA0 aa7 ac6 aF0 heq; exact nomatch (show (none:Option (List Blob))=some r from heq)
 | succ k u0 =>
  intro Q7 D9 al9 z1 P1 W3 N4 W4 n7 R7 aA0 aa7 ac6 aF0 heq
  subst aF0
  rw [X1.l2] at heq
  refine Sa 2<|Zd 4 ?_
  refine Cb heq ?_ ?_
  ·intro s3 heq
   refine Sa 4 ?_
   obtain ⟨x1,hx1,heq⟩:=bind_some heq
   obtain ⟨A7,I1,B1,B2⟩:=ac6.get hx1
   obtain ⟨rfl⟩:=C6 B1
   refine Zv 4 ([nx A7 hx1]++els B2 0) ?_
   refine c6.e5 (j6.new (d:=7) (v:=fun g=>.pointer (some ⟨g,0,none⟩)) (o:=fun g=>.cells #[.string ByteArray.empty,iv 0,iv 0,iv 0,iv 0] 44 (0,0)) (fun g=>by kernel_rfl)) ?_
   rintro _ _ _ _ ⟨g1,rfl,rfl,rfl⟩
   refine c6.e5 (j6.store (k:=0) (g:=g1) (off:=0) (v:=.agg #[.string x1.b7,iv x1.j4,iv x1.Used,iv x1.u6,iv x1.q4]) (cells':=#[.string x1.b7,iv x1.j4,iv x1.Used,iv x1.u6,iv x1.q4]) (by kernel_rfl) rfl (by kernel_rfl) (by kernel_rfl)) ?_
   rintro _ _ _ _ ⟨rfl,rfl,rfl⟩
   refine c6.p6 ?_
   refine Dn<|Sa 1<|Zv 2 (C8 0) ?_
   obtain ⟨y2,hy2,heq⟩:=bind_some heq
   refine c6.e5 (o9 28 (cy7 hy2 (aA0.wk (fun _ h=>(.tail _ (.tail _ h)))) (aa7.wk (fun _ h=>(.tail _ (.tail _ h)))))) ?_
   rintro _ _ _ _ ⟨_,rfl,rfl,rfl,rfl⟩
   refine Zd 4 ?_
   refine Cb heq ?_ ?_
   ·intro x7 heq
    refine Sa 1 ?_
    obtain ⟨x2,w6,heq⟩:=bind_some heq
    obtain ⟨J2,T7,I8,J7⟩:=ac6.get w6
    obtain ⟨rfl⟩:=C6 I8
    refine Zv 4 (C8 0++[nx J2 w6]) ?_
    obtain ⟨W1,ae3,Q4,ad7⟩:=ac6.get w6
    obtain ⟨rfl⟩:=C6 Q4
    refine c6.e5 (j6.ab7 (a:=((H8 P1).add (n7.toNat*5))) (k:=1) (kd:=j7) (c0:=[.string x2.b7,iv x2.j4,iv x2.Used,iv x2.u6,iv x2.q4]) (x':=x1) (o:=0) (ix:=n7) (v:=.agg #[.string x1.b7,iv x1.j4,iv x1.Used,iv x1.u6,iv x1.q4]) (by kernel_rfl) rfl ac6 w6 (by kernel_rfl) ad7 rfl (Nat.le_of_ble_eq_true (by kernel_rfl)) af8) ?_
    rintro _ _ _ _ ⟨B5,rfl,rfl,rfl,C9⟩
    have hn6:z1.length=(z1.set n7.toNat x1).length:=by rw [List.length_set]
    refine c6.p6 ?_
    refine Dn<|Sa 0<|Zd 3<|An 1 ?_
    exact Gt 1 [] ((X1.ai7 (K5:=(X1.l2 e1 k)) u0) _ D9 _ R7 (z1.set n7.toNat x1) _ _ _ _ (c5 (n7+1)) aA0 aa7 C9 hn6 heq)
   ·intro x7 heq
    refine An 2 ?_
    exact Gt 1 [] ((X1.ai7 (K5:=(X1.l2 e1 k)) u0) _ D9 _ R7 z1 _ _ _ _ n7 aA0 aa7 ac6 rfl heq)
  ·intro s3 heq
   refine An 2 ?_
   exact Gt 0 [] (D4 z1 _ _ _ _ n7 ac6 rfl heq)
theorem dm1 {a0:List Blob} {e7:Option Addr} {s0 c8:Nat} {ab2:Ch} {Q7:Nat} {D9:List (ByteArray × Bool)} {al9:Option Nat} {r:(List Blob)} (heq:X1.f a0 D9=some r) (I5:b6 j7 44 H e7 c8 a0 ab2) (L8:s0=a0.length) (aA0:Mw Value.string Kd.bool false H F al9 D9) (aa7:P3 H F Q7 (.cells #[.map al9] 94 (0,0))):z7 Tryz.prog 69 #[.slice e7 s0 c8,.func (.func 70) #[] #[.pointer (some ⟨Q7,0,none⟩)]] H w0 (ab2::F) (bl3 F H r):=by
 refine Co bl2 Tryz.func69 Tryz.ntmps69 ?_
 subst L8
 unfold X1.f at heq
 refine Sa 1<|Zd 1<|Sa 1<|Zk 2 ?_
 obtain ⟨y1,hy1,heq⟩:=bind_some heq
 refine c6.e5 (o9 10 (dm0 hy1 (I5.rw (.head _)) I5.cap rfl (aA0.wk (fun _ h=>(.tail _ h))) (aa7.wk (fun _ h=>(.tail _ h))))) ?_
 rintro _ _ _ _ ⟨_,rfl,rfl,rfl,rfl⟩
 refine Zd 4<|Sa 2<|Zd 2 ?_
 refine Cb heq ?_ ?_
 ·intro o8 heq
  refine Sa 1<|Zd 2 ?_
  obtain rfl:=Option.some.inj heq
  exact b8.done (by kernel_rfl) Tryz.func69 (v:=.slice e7 a0.length c8) (by kernel_rfl) ⟨e7,c8,ab2,rfl,rfl,rfl,I5⟩
 ·intro o8 heq
  refine Sa 3<|Zd 3<|An 2 ?_
  exact Gt 0 [] (((X1.F9 (e1:=X1.e1) (X1.D7)) n8) _ D9 _ a0 _ _ _ _ y1 (c5 (y1+1)) aA0 aa7 I5 rfl heq)
noncomputable def C65:Ctx:={ P:=Tryz.prog,f:=65,N:=95,c:=C1 Tryz.f65 }
def S65 (F:List Ch) (H0:Hp) (r:List Blob) (v:Value) (H:Hp) (cs:List Ch):Prop:=∃ (ad8:Option Addr) (c0:Nat) (J6:Ch),H0=H∧v=.slice ad8 r.length c0∧J6::F=cs∧b6 j7 44 H ad8 c0 r J6
theorem dm4 {a0:List Blob} {e7:Option Addr} {s0 c8:Nat} {ab2:Ch} {a1:Int} {a2:List Blob} {Aa2:Option Addr} {na2 K9:Nat} {bv2:Ch} {r:List Blob} (I5:b6 j7 44 H e7 c8 a0 ab2) (L8:s0=a0.length) (bv3:b6 j7 44 H Aa2 K9 a2 bv2) (bY6:na2=a2.length) (heq:bE6.f a0 a1 a2=some r):z7 Tryz.prog 65 #[.slice e7 s0 c8,iv a1,.slice Aa2 na2 K9] H w0 (ab2::bv2::F) (S65 F H r):=by
 refine ba4 (F:=C65) Tryz.func65 (by kernel_rfl) Tryz.ntmps65 (args:=[.slice e7 s0 c8,iv a1,.slice Aa2 na2 K9]) (by kernel_rfl) ?_
 subst L8 bY6
 unfold bE6.f at heq
 obtain ⟨hn,heq⟩:=M1 heq
 obtain rfl:=Option.some.inj heq
 simp only [Bool.and_eq_true,decide_eq_true_eq] at hn
 obtain ⟨h0,h1,h2,h3⟩:=hn
 have h3:=room_le h3
 obtain ⟨I,rfl⟩:∃ I:Nat,a1=(I:Int):=⟨a1.toNat,by omega⟩
 have hI:I≤a0.length:=by omega
 have hbig:a0.length+a2.length≤140737490452480:=by
  have:(a0.length+a2.length)*1≤(a0.length+a2.length)*48:=Nat.mul_le_mul_left _ (by omega)
  omega
 have hw1:c5 ((a0.length:Int)+(a2.length:Int))=((a0.length+a2.length:Nat):Int):=by unfold c5; rw [IntKind.wrap_i64]; omega
 have hw2:c5 ((I:Int)+(a2.length:Int))=((I+a2.length:Nat):Int):=by unfold c5; rw [IntKind.wrap_i64]; omega
 have hw3:c5 (((a0.length+a2.length:Nat):Int) - (I:Int))=((a0.length+a2.length - I:Nat):Int):=by rw [show ((a0.length+a2.length:Nat):Int) - (I:Int)=((a0.length+a2.length - I:Nat):Int) by omega]; unfold c5; rw [IntKind.wrap_i64]; omega
 simp only [Int.toNat_natCast]
 refine An 1<|Rr<|Rd 1 [0,1,2] [(0,.slice e7 a0.length c8),(1,iv (I:Int)),(2,.slice Aa2 a2.length K9)]<|An 1<|Rr<|Rw' 3 [0,1,2] [] [.need ((0:Int)≤(I:Int)∧(I:Int)≤((a0.length:Nat):Int))] [(0,.slice e7 a0.length c8),(1,iv (I:Int)),(2,.slice Aa2 a2.length K9)] (fun w hh=>⟨h0,h1⟩)<|An 1<|Rr<|Rd 3 [0,1,2,7] [(0,.slice e7 a0.length c8),(1,iv (I:Int)),(2,.slice Aa2 a2.length K9),(7,iv (a2.length:Int))]<|An 2<|Rr<|Rd 2 [0,1,2,7,16] [(0,.slice e7 a0.length c8),(1,iv (I:Int)),(2,.slice Aa2 a2.length K9),(7,iv (a2.length:Int)),(16,.bool ((a2.length:Int) == 0))]<|Cf ((a2.length:Int) == 0) (beq_eq_false_iff_ne.2 (by omega))<|An 2<|Rr<|Rd 3 [0,1,2,7,8] [(0,.slice e7 a0.length c8),(1,iv (I:Int)),(2,.slice Aa2 a2.length K9),(7,iv (a2.length:Int)),(8,iv (a0.length:Int))]<|An 2<|Rr<|Rd 3 [0,1,2,7,8,22] [(0,.slice e7 a0.length c8),(1,iv (I:Int)),(2,.slice Aa2 a2.length K9),(7,iv (a2.length:Int)),(8,iv (a0.length:Int)),(22,.bool ((I:Int) == (a0.length:Int)))] ?_
 rcases y9 ((I:Int) == (a0.length:Int)) with hb | hb
 ·have hIn:I=a0.length:=by have:=eq_of_beq hb; omega
  have e:a0.take I++a2++a0.drop I=a0++a2:=by rw [hIn]; simp
  rw [e]
  refine Ct ((I:Int) == (a0.length:Int)) hb<|An 1<|Rr<|Rk 2 [23,24] [(23,.slice e7 a0.length c8),(24,.slice Aa2 a2.length K9)] ?_
  refine c6.e5 (j6.append (d:=25) (k:=0) (t:=22) (e:=44) (bytes:=48) (kd:=j7) (n:=a0.length) (m:=a2.length) (xs:=a0) (ys:=a2) (A:=e7) (B:=Aa2) (c:=c8) (cB:=K9) (by kernel_rfl) rfl rfl (by kernel_rfl) rfl I5 (fun w hh=>bv3.Y9 (hh.N1 1 rfl)) h3 (by omega)) ?_
  rintro _ _ _ _ ⟨A1,c1,r9,rfl,rfl,rfl,r8⟩
  refine Rd 4 [6] [(6,.slice A1 (a0++a2).length c1)] ?_
  refine b8.pick 2 [0] (cs':=r9::F) (by kernel_rfl) rfl ?_
  exact b8.done (by kernel_rfl) Tryz.func65 (v:=.slice A1 (a0++a2).length c1) (by kernel_rfl) ⟨A1,c1,r9,rfl,rfl,rfl,r8⟩
 ·have hIn:I<a0.length:=by have:=beq_eq_false_iff_ne.1 hb; omega
  have hx:a0≠[]:=by intro h; subst h; simp at hIn
  have hy:a2≠[]:=by intro h; subst h; simp at h2
  have hrl:(a0.take I++a2++a0.drop I).length=a0.length+a2.length:=by simp; omega
  rcases I5 with ⟨h,_⟩ | ⟨b,off,cells,rfl,rfl,k3,k4,aQ0,as1⟩
  ·exact absurd h hx
  rcases bv3 with ⟨h,_⟩ | ⟨vb,U5,bY8,rfl,rfl,aT0,aX6,q5,bY9⟩
  ·exact absurd h hy
  obtain ⟨af0,v1,v2,v3,v4⟩:=q9.toList bY9
  obtain ⟨ah5,d1,d2,d3,d4⟩:=q9.toList (q9.drop as1 I)
  have hsz:(j7).sz=5:=rfl
  have hdl:(a0.drop I).length=a0.length - I:=by simp
  rw [hdl] at d1
  rw [hsz] at v1 d1 d2 aQ0 q5
  refine Cf ((I:Int) == (a0.length:Int)) hb<|An 3<|Rr<|Rd 6 [0,1,2,7,8,31] [(0,.slice (some ⟨b,off,none⟩) a0.length c8),(1,iv (I:Int)),(2,.slice (some ⟨vb,U5,none⟩) a2.length K9),(7,iv (a2.length:Int)),(8,iv (a0.length:Int)),(31,.bool (decide ((c8:Int)<c5 ((a0.length:Int)+(a2.length:Int)))))] ?_
  rcases y9 (decide ((c8:Int)<c5 ((a0.length:Int)+(a2.length:Int)))) with hc | hc
  ·have hroom:c8<a0.length+a2.length:=by rw [hw1] at hc; have:=of_decide_eq_true hc; omega
   refine Ct (decide ((c8:Int)<c5 ((a0.length:Int)+(a2.length:Int)))) hc<|An 1<|Rr<|Rv 8 [0,1,2,7,34,39] [] [.need ((0:Int)≤(I:Int)∧(I:Int)≤((c8:Nat):Int))] [(0,.slice (some ⟨b,off,none⟩) a0.length c8),(1,iv (I:Int)),(2,.slice (some ⟨vb,U5,none⟩) a2.length K9),(7,iv (a2.length:Int)),(34,.slice (some ⟨b,off,none⟩) I c8),(39,iv (c5 (c5 ((a0.length:Int)+(a2.length:Int)) - (I:Int))))] (fun w hh=>⟨h0,by omega⟩) ?_
   have hzq:c5 (c5 ((a0.length:Int)+(a2.length:Int)) - (I:Int))=((a0.length+a2.length - I:Nat):Int):=by rw [hw1,hw3]
   have hrt:Kd.q9 j7 H cells off (a0.take I):=q9.take as1 I
   have htl:(a0.take I).length=I:=by simp; omega
   refine c6.e5 (j6.cg6 (dd:=40) (kd:=j7) (t:=22) (tn:=3) (e:=44) (bytes:=48) (q:=a0.length+a2.length - I) (A:=some ⟨b,off,none⟩) (a:=⟨b,off,none⟩) (c:=c8) (n:=I) (xs:=a0.take I) (by kernel_rfl) rfl hzq (by kernel_rfl) htl.symm (by kernel_rfl) (fun w hh hne=>⟨b,off,cells,44,(0,0),rfl,hh.N1 0 rfl,hrt⟩) (by omega) (by omega) (by rw [show I+(a0.length+a2.length - I)=a0.length+a2.length by omega]; exact h3) (by omega)) ?_
   rintro _ _ _ _ ⟨g,c',aF3,rfl,rfl,rfl,g1,g2,g3,g4⟩
   rw [hsz] at g3
   refine Rd 10 [0,1,2,7,9] [(0,.slice (some ⟨b,off,none⟩) a0.length c8),(1,iv (I:Int)),(2,.slice (some ⟨vb,U5,none⟩) a2.length K9),(7,iv (a2.length:Int)),(9,.slice (some ⟨g,0,none⟩) (I+(a0.length+a2.length - I)) c')]<|An 1<|Rr<|Rv 4 [0,1,2,7,9,43,44] [] [.need ((0:Int)≤(I:Int)∧(I:Int)≤((I+(a0.length+a2.length - I):Nat):Int))] [(0,.slice (some ⟨b,off,none⟩) a0.length c8),(1,iv (I:Int)),(2,.slice (some ⟨vb,U5,none⟩) a2.length K9),(7,iv (a2.length:Int)),(9,.slice (some ⟨g,0,none⟩) (I+(a0.length+a2.length - I)) c'),(43,.slice (K6 c' I 5 (some ⟨g,0,none⟩)) (I+(a0.length+a2.length - I) - I) (c' - I)),(44,.slice (some ⟨vb,U5,none⟩) a2.length K9)] (fun w hh=>⟨h0,by omega⟩) ?_
   refine c6.e5 (j6.aV8 (k:=0) (t:=22) (e:=44) (bytes:=48) (sz:=5) (A1:=K6 c' I 5 (some ⟨g,0,none⟩)) (aa3:=some ⟨vb,U5,none⟩) (dd:=some 45) (dc:=c' - I) (sc:=K9) (dl:=I+(a0.length+a2.length - I) - I) (sl:=a2.length) (b:=g) (o:=0+I*5) (a:=⟨vb,U5,none⟩) (cells:=aF3) (news:=af0) (by kernel_rfl) (ay6 (n:=I+1) (by omega) (by omega) rfl) rfl (by kernel_rfl) rfl (by rw [v1]; congr 1; simp only [Nat.min_def]; split <;> omega) (fun w hh j u hu=>by rw [add_plain]; exact aw4 (hh.N1 2 rfl) (v2 j u hu)) v3 (by rw [v1]; omega)) ?_
   rintro _ _ _ _ ⟨rfl,rfl,rfl⟩
   refine Rd 5 [0,1,2,7,9] [(0,.slice (some ⟨b,off,none⟩) a0.length c8),(1,iv (I:Int)),(2,.slice (some ⟨vb,U5,none⟩) a2.length K9),(7,iv (a2.length:Int)),(9,.slice (some ⟨g,0,none⟩) (I+(a0.length+a2.length - I)) c')]<|An 1 ?_
   refine b8.draw (fun w=>True) (fun w=>True) [3,3,3,3,3,3,3,3,0] (n:=9) (ls:=[false,false,false,false,false,false,false,false,false]) (by kernel_rfl) (by kernel_rfl) (by kernel_rfl) rfl ?_
   refine Dr [0,1,2,3,4,5,6,7] 1 (nb 9 255) [] [.need ((0:Int)≤c5 ((I:Int)+(a2.length:Int))∧c5 ((I:Int)+(a2.length:Int))≤((I+(a0.length+a2.length - I):Nat):Int)),.need ((0:Int)≤(I:Int)∧(I:Int)≤((a0.length:Nat):Int))] [(53,.slice (K6 c8 I 5 (some ⟨b,off,none⟩)) (a0.length - I) (c8 - I)),(52,iv (I:Int)),(51,.slice (some ⟨b,off,none⟩) a0.length c8),(50,.slice (K6 c' (c5 ((I:Int)+(a2.length:Int))).toNat 5 (some ⟨g,0,none⟩)) (I+(a0.length+a2.length - I) - (c5 ((I:Int)+(a2.length:Int))).toNat) (c' - (c5 ((I:Int)+(a2.length:Int))).toNat)),(49,iv (c5 ((I:Int)+(a2.length:Int)))),(48,iv (a2.length:Int)),(47,iv (I:Int)),(46,.slice (some ⟨g,0,none⟩) (I+(a0.length+a2.length - I)) c'),(0,.slice (some ⟨b,off,none⟩) a0.length c8),(1,iv (I:Int)),(2,.slice (some ⟨vb,U5,none⟩) a2.length K9),(7,iv (a2.length:Int)),(9,.slice (some ⟨g,0,none⟩) (I+(a0.length+a2.length - I)) c')] (fun w hh=>trivial) (fun w hh=>trivial) (fun w hh=>⟨by rw [hw2]; constructor <;> omega,h0,h1⟩) ?_
   refine o5.e5 (n:=0) (ls':=[true,true,true,true,true,true,true,true,true]) 8 (by kernel_rfl) rfl (j6.aV8 (k:=0) (t:=22) (e:=44) (bytes:=48) (sz:=5) (A1:=K6 c' (c5 ((I:Int)+(a2.length:Int))).toNat 5 (some ⟨g,0,none⟩)) (aa3:=K6 c8 I 5 (some ⟨b,off,none⟩)) (dd:=some 54) (dc:=c' - (c5 ((I:Int)+(a2.length:Int))).toNat) (sc:=c8 - I) (dl:=I+(a0.length+a2.length - I) - (c5 ((I:Int)+(a2.length:Int))).toNat) (sl:=a0.length - I) (b:=g) (o:=0+(I+a2.length)*5) (a:=⟨b,off+I*5,none⟩) (cells:=F4 aF3 (0+I*5) af0) (news:=ah5) (by kernel_rfl) (by rw [hw2]; exact ay6 (n:=I+a2.length+1) (by omega) (by omega) rfl) (ay6 hIn k3 rfl) (by kernel_rfl) rfl (by rw [d1,hw2]; congr 1; simp only [Nat.min_def,Int.toNat_natCast]; split <;> omega) (fun w hh j u hu=>by rw [add_plain]; exact aw4 (hh.N1 1 rfl) (d2 j u hu)) d3 (by rw [ah8,d1]; omega)) ?_
   rintro _ _ _ _ ⟨rfl,rfl,rfl⟩
   refine ⟨fun _ w hh=>⟨fun _=>trivial,fun _=>trivial,(fun h=>by cases h)⟩,?_⟩
   refine Kr [9] [(9,.slice (some ⟨g,0,none⟩) (I+(a0.length+a2.length - I)) c')] ?_
   refine o5.done (by kernel_rfl) ?_
   refine An 1<|Rr<|Rd 2 [6] [(6,.slice (some ⟨g,0,none⟩) (I+(a0.length+a2.length - I)) c')] ?_
   have r1:Kd.q9 j7 H (F4 aF3 (0+I*5) af0) 0 (a0.take I++a2):=by
    have:=q9.F4 g4 v4 (by rw [htl,hsz,v1]; omega)
    rwa [htl,hsz] at this
   have hl1:(a0.take I++a2).length=I+a2.length:=by rw [List.length_append,htl]
   have r2:Kd.q9 j7 H (F4 (F4 aF3 (0+I*5) af0) (0+(I+a2.length)*5) ah5) 0 (a0.take I++a2++a0.drop I):=by
    have:=q9.F4 r1 d4 (by rw [hl1,hsz,d1,ah8]; omega)
    rwa [hl1,hsz] at this
   have ho:b6 j7 44 H (some ⟨g,0,none⟩) c' (a0.take I++a2++a0.drop I) (some (g,.cells (F4 (F4 aF3 (0+I*5) af0) (0+(I+a2.length)*5) ah5) 44 (0,0))):=.inr ⟨g,0,_,rfl,rfl,by rw [hrl]; omega,g2,by rw [ah8,ah8,hsz]; exact g3,r2⟩
   refine b8.pick 3 [0] (cs':=some (g,.cells (F4 (F4 aF3 (0+I*5) af0) (0+(I+a2.length)*5) ah5) 44 (0,0))::F) (by kernel_rfl) rfl ?_
   exact b8.done (by kernel_rfl) Tryz.func65 (v:=.slice (some ⟨g,0,none⟩) (I+(a0.length+a2.length - I)) c') (by kernel_rfl) ⟨some ⟨g,0,none⟩,c',_,rfl,by rw [hrl,show I+(a0.length+a2.length - I)=a0.length+a2.length by omega],rfl,ho⟩
  ·have hroom:a0.length+a2.length≤c8:=by rw [hw1] at hc; have:=of_decide_eq_false hc; omega
   refine Cf (decide ((c8:Int)<c5 ((a0.length:Int)+(a2.length:Int)))) hc<|An 2<|Rr<|Rv 6 [0,1,2,7] [] [.need ((0:Int)≤c5 ((a0.length:Int)+(a2.length:Int))∧c5 ((a0.length:Int)+(a2.length:Int))≤((c8:Nat):Int))] [(0,.slice (some ⟨b,off,none⟩) (c5 ((a0.length:Int)+(a2.length:Int))).toNat c8),(1,iv (I:Int)),(2,.slice (some ⟨vb,U5,none⟩) a2.length K9),(7,iv (a2.length:Int))] (fun w hh=>by rw [hw1]; constructor <;> omega) ?_
   refine c6.bf5 (v':=.slice (some ⟨b,off,none⟩) (a0.length+a2.length) c8) (by rw [hw1]; rfl) ?_
   refine Dn<|An 2<|Rr<|Rv 6 [0,1,2,7,61,66] [] [.need ((0:Int)≤c5 ((I:Int)+(a2.length:Int))∧c5 ((I:Int)+(a2.length:Int))≤((a0.length+a2.length:Nat):Int))] [(0,.slice (some ⟨b,off,none⟩) (a0.length+a2.length) c8),(1,iv (I:Int)),(2,.slice (some ⟨vb,U5,none⟩) a2.length K9),(7,iv (a2.length:Int)),(61,.slice (some ⟨vb,U5,none⟩) a2.length K9),(66,.slice (K6 c8 (c5 ((I:Int)+(a2.length:Int))).toNat 5 (some ⟨b,off,none⟩)) (a0.length+a2.length - (c5 ((I:Int)+(a2.length:Int))).toNat) (c8 - (c5 ((I:Int)+(a2.length:Int))).toNat))] (fun w hh=>by rw [hw2]; constructor <;> omega) ?_
   have hsh:K6 c8 (c5 ((I:Int)+(a2.length:Int))).toNat 5 (some ⟨b,off,none⟩)=some ⟨b,off+(I+a2.length)*5,none⟩:=by rw [hw2]; exact ay6 (n:=a0.length+a2.length) (by omega) hroom rfl
   have hne:∀ w,Heap H w0 w (some (b,.cells cells 44 (0,0))::some (vb,.cells bY8 44 (0,0))::F)→vb≠b:=fun w hh=>hh.dif 1 0 _ _ rfl rfl (by omega)
   refine c6.e5 (j6.ext (d:=67) (g:=90) (args:=#[.slice (some ⟨vb,U5,none⟩) a2.length K9,.slice (K6 c8 (c5 ((I:Int)+(a2.length:Int))).toNat 5 (some ⟨b,off,none⟩)) (a0.length+a2.length - (c5 ((I:Int)+(a2.length:Int))).toNat) (c8 - (c5 ((I:Int)+(a2.length:Int))).toNat)]) (v:=.bool false) (by kernel_rfl) (fun w hh=>by rw [hsh]; exact cg8 (e:=4) Tryz.func90 (by kernel_rfl) (by kernel_rfl) (by kernel_rfl) (by kernel_rfl) (show au3 Tryz.prog 22 44 5 48=true by kernel_rfl) (hh.N1 1 rfl) (hh.N1 0 rfl) (hne w hh) (by omega))) ?_
   rintro _ _ _ _ ⟨rfl,rfl,rfl⟩
   refine Rd 8 [0,1,2,7,68] [(0,.slice (some ⟨b,off,none⟩) (a0.length+a2.length) c8),(1,iv (I:Int)),(2,.slice (some ⟨vb,U5,none⟩) a2.length K9),(7,iv (a2.length:Int)),(68,.bool true)]<|Ct true rfl<|An 1 ?_
   refine b8.draw (fun w=>True) (fun w=>True) [3,3,3,3,3,3,3,3,0] (n:=9) (ls:=[false,false,false,false,false,false,false,false,false]) (by kernel_rfl) (by kernel_rfl) (by kernel_rfl) rfl ?_
   refine Dr [0,1,2,3,4,5,6,7] 1 (nb 9 255) [] [.need ((0:Int)≤c5 ((I:Int)+(a2.length:Int))∧c5 ((I:Int)+(a2.length:Int))≤((a0.length+a2.length:Nat):Int)),.need ((0:Int)≤(I:Int)∧(I:Int)≤((a0.length+a2.length:Nat):Int))] [(76,.slice (K6 c8 I 5 (some ⟨b,off,none⟩)) (a0.length+a2.length - I) (c8 - I)),(75,iv (I:Int)),(74,.slice (some ⟨b,off,none⟩) (a0.length+a2.length) c8),(73,.slice (K6 c8 (c5 ((I:Int)+(a2.length:Int))).toNat 5 (some ⟨b,off,none⟩)) (a0.length+a2.length - (c5 ((I:Int)+(a2.length:Int))).toNat) (c8 - (c5 ((I:Int)+(a2.length:Int))).toNat)),(72,iv (c5 ((I:Int)+(a2.length:Int)))),(71,iv (a2.length:Int)),(70,iv (I:Int)),(69,.slice (some ⟨b,off,none⟩) (a0.length+a2.length) c8),(0,.slice (some ⟨b,off,none⟩) (a0.length+a2.length) c8),(1,iv (I:Int)),(2,.slice (some ⟨vb,U5,none⟩) a2.length K9),(7,iv (a2.length:Int)),(68,.bool true)] (fun w hh=>trivial) (fun w hh=>trivial) (fun w hh=>⟨by rw [hw2]; constructor <;> omega,h0,by omega⟩) ?_
   refine o5.e5 (n:=0) (ls':=[true,true,true,true,true,true,true,true,true]) 8 (by kernel_rfl) rfl (j6.aV8 (k:=0) (t:=22) (e:=44) (bytes:=48) (sz:=5) (A1:=K6 c8 (c5 ((I:Int)+(a2.length:Int))).toNat 5 (some ⟨b,off,none⟩)) (aa3:=K6 c8 I 5 (some ⟨b,off,none⟩)) (dd:=some 77) (dc:=c8 - (c5 ((I:Int)+(a2.length:Int))).toNat) (sc:=c8 - I) (dl:=a0.length+a2.length - (c5 ((I:Int)+(a2.length:Int))).toNat) (sl:=a0.length+a2.length - I) (b:=b) (o:=off+(I+a2.length)*5) (a:=⟨b,off+I*5,none⟩) (cells:=cells) (news:=ah5) (by kernel_rfl) hsh (ay6 hIn k3 rfl) (by kernel_rfl) rfl (by rw [d1,hw2]; congr 1; simp only [Nat.min_def,Int.toNat_natCast]; split <;> omega) (fun w hh j u hu=>by rw [add_plain]; exact aw4 (hh.N1 0 rfl) (d2 j u hu)) d3 (by rw [d1]; omega)) ?_
   rintro _ _ _ _ ⟨rfl,rfl,rfl⟩
   refine ⟨fun _ w hh=>⟨fun _=>trivial,fun _=>trivial,(fun h=>by cases h)⟩,?_⟩
   refine Kr [0,1,2] [(0,.slice (some ⟨b,off,none⟩) (a0.length+a2.length) c8),(1,iv (I:Int)),(2,.slice (some ⟨vb,U5,none⟩) a2.length K9)] ?_
   refine o5.done (by kernel_rfl) ?_
   refine An 1<|Rr<|Rv 4 [0,80,81] [] [.need ((0:Int)≤(I:Int)∧(I:Int)≤((a0.length+a2.length:Nat):Int))] [(0,.slice (some ⟨b,off,none⟩) (a0.length+a2.length) c8),(80,.slice (K6 c8 I 5 (some ⟨b,off,none⟩)) (a0.length+a2.length - I) (c8 - I)),(81,.slice (some ⟨vb,U5,none⟩) a2.length K9)] (fun w hh=>⟨h0,by omega⟩) ?_
   refine c6.e5 (j6.aV8 (k:=0) (t:=22) (e:=44) (bytes:=48) (sz:=5) (A1:=K6 c8 I 5 (some ⟨b,off,none⟩)) (aa3:=some ⟨vb,U5,none⟩) (dd:=some 82) (dc:=c8 - I) (sc:=K9) (dl:=a0.length+a2.length - I) (sl:=a2.length) (b:=b) (o:=off+I*5) (a:=⟨vb,U5,none⟩) (cells:=F4 cells (off+(I+a2.length)*5) ah5) (news:=af0) (by kernel_rfl) (ay6 hIn k3 rfl) rfl (by kernel_rfl) rfl (by rw [v1]; congr 1; simp only [Nat.min_def]; split <;> omega) (fun w hh j u hu=>by rw [add_plain]; exact aw4 (hh.N1 1 rfl) (v2 j u hu)) v3 (by rw [ah8,v1]; omega)) ?_
   rintro _ _ _ _ ⟨rfl,rfl,rfl⟩
   refine Rd 5 [0] [(0,.slice (some ⟨b,off,none⟩) (a0.length+a2.length) c8)]<|An 1<|Rr<|Rd 2 [6] [(6,.slice (some ⟨b,off,none⟩) (a0.length+a2.length) c8)] ?_
   have htl:(a0.take I).length=I:=by simp; omega
   have s1:Kd.q9 j7 H (F4 (F4 cells (off+(I+a2.length)*5) ah5) (off+I*5) af0) off (a0.take I):=q9.bb1 (q9.bb1 (q9.take as1 I) (by rw [d1]; omega) (by rw [htl,hsz]; omega)) (by rw [ah8,v1]; omega) (by rw [htl,hsz]; omega)
   have s2:Kd.q9 j7 H (F4 (F4 cells (off+(I+a2.length)*5) ah5) (off+I*5) af0) (off+I*5) a2:=q9.inw v4 (by rw [ah8,v1]; omega)
   have bZ1:Kd.q9 j7 H (F4 (F4 cells (off+(I+a2.length)*5) ah5) (off+I*5) af0) (off+(I+a2.length)*5) (a0.drop I):=q9.bb1 (q9.inw d4 (by rw [d1]; omega)) (by rw [ah8,v1]; omega) (by rw [v1]; omega)
   have hl1:(a0.take I++a2).length=I+a2.length:=by rw [List.length_append,htl]
   have r2:Kd.q9 j7 H (F4 (F4 cells (off+(I+a2.length)*5) ah5) (off+I*5) af0) off (a0.take I++a2++a0.drop I):=q9.glue (q9.glue s1 (by rw [htl,hsz]; exact s2)) (by rw [hl1,hsz]; exact bZ1)
   have ho:b6 j7 44 H (some ⟨b,off,none⟩) c8 (a0.take I++a2++a0.drop I) (some (b,.cells (F4 (F4 cells (off+(I+a2.length)*5) ah5) (off+I*5) af0) 44 (0,0))):=.inr ⟨b,off,_,rfl,rfl,by rw [hrl]; omega,k4,by rw [ah8,ah8,hsz]; exact aQ0,r2⟩
   refine b8.pick 2 [0] (cs':=some (b,.cells (F4 (F4 cells (off+(I+a2.length)*5) ah5) (off+I*5) af0) 44 (0,0))::F) (by kernel_rfl) rfl ?_
   exact b8.done (by kernel_rfl) Tryz.func65 (v:=.slice (some ⟨b,off,none⟩) (a0.length+a2.length) c8) (by kernel_rfl) ⟨some ⟨b,off,none⟩,c8,_,rfl,by rw [hrl],rfl,ho⟩
noncomputable def aY5:Ctx:={ P:=Tryz.prog,f:=43,N:=67,c:=C1 Tryz.f43 }
def aY6 (F:List Ch) (H0:Hp) (c9:Nat) (r:Cache) (v:Value) (H:Hp) (cs:List Ch):Prop:=∃ (E7:Option Addr) (E8:Nat) (F1:Ch) (P7:Option Addr) (P8:Nat) (Q9:Ch),H0=H∧v=.tuple #[]∧some (c9,.cells #[iv r.Room,iv r.c4,.slice E7 r.U.length E8,.slice P7 r.Entries.length P8] 25 (0,0))::F1::Q9::F=cs∧b6 j7 44 H E7 E8 r.U F1∧b6 k5 47 H P7 P8 r.Entries Q9
theorem R4.ai7 {r:Cache} (al8:Cache→(List ByteArray)→Int→Bool→Bool→(List Blob)→Int→Option Cache)
  (bk7:∀ (c9:Nat) (a0:Cache) (e3:Option Addr) (e4:Nat) (p5:Ch) (a1:List ByteArray) (p8:Option Addr) (q7:Nat) (a2:Int) (a3 a4:Bool) (k9:List Blob) (s4:Option Addr) (C7 u5:Nat) (u7:Ch) (Y2:Int) ,b6 k5 47 H e3 e4 a0.Entries p5→Rw Kd.string H F p8 a1→a1.length≤q7→b6 j7 44 H s4 u5 k9 u7→C7=k9.length→al8 a0 a1 a2 a3 a4 k9 Y2=some r→b8 aY5 (aY6 F H c9 r) H w0 [.c [1,0,0],.l [1,0,0],.b 0] [(0,pg c9 0),(2,iv a2),(3,.bool a3),(4,.bool a4),(14,.slice p8 a1.length q7),(15,iv (a1.length:Int)),(16,iv Y2)] H ((some (c9,.cells #[iv a0.Room,iv a0.c4,.slice s4 C7 u5,.slice e3 a0.Entries.length e4] 25 (0,0)))::u7::p5::F)):∀ (c9:Nat) (a0:Cache) (e3:Option Addr) (e4:Nat) (p5:Ch) (a1:List ByteArray) (p8:Option Addr) (q7:Nat) (a2:Int) (a3 a4:Bool) (Y2:Int) (k9:List Blob) (s4:Option Addr) (C7 u5:Nat) (u7:Ch) ,b6 k5 47 H e3 e4 a0.Entries p5→Rw Kd.string H F p8 a1→a1.length≤q7→b6 j7 44 H s4 u5 k9 u7→C7=k9.length→R4.j3 al8 a0 a1 a2 a3 a4 Y2 k9=some r→b8 aY5 (aY6 F H c9 r) H w0 [.c [1,0,0,1,1,1],.l [1,0,0],.b 0] [(0,pg c9 0),(2,iv a2),(3,.bool a3),(4,.bool a4),(14,.slice p8 a1.length q7),(15,iv (a1.length:Int)),(16,iv Y2)] H ((some (c9,.cells #[iv a0.Room,iv a0.c4,.slice s4 C7 u5,.slice e3 a0.Entries.length e4] 25 (0,0)))::u7::p5::F):=by
 intro c9 a0 e3 e4 p5 a1 p8 q7 a2 a3 a4 Y2 k9 s4 C7 u5 u7 p9 p0 C5 D3 W9 heq
 subst W9
 unfold R4.j3 at heq
 refine Sa 0<|Zd 2<|An 1 ?_
 exact Gt 0 [] (bk7 _ a0 _ _ _ a1 _ _ a2 a3 a4 k9 _ _ _ _ (c5 (Y2+1)) p9 p0 C5 D3 rfl heq)
theorem R4.aY2 {r:Cache} (al8:Cache→(List ByteArray)→Int→Bool→Bool→(List Blob)→Int→Option Cache)
  (bk7:∀ (c9:Nat) (a0:Cache) (e3:Option Addr) (e4:Nat) (p5:Ch) (a1:List ByteArray) (p8:Option Addr) (q7:Nat) (a2:Int) (a3 a4:Bool) (k9:List Blob) (s4:Option Addr) (C7 u5:Nat) (u7:Ch) (Y2:Int) ,b6 k5 47 H e3 e4 a0.Entries p5→Rw Kd.string H F p8 a1→a1.length≤q7→b6 j7 44 H s4 u5 k9 u7→C7=k9.length→al8 a0 a1 a2 a3 a4 k9 Y2=some r→b8 aY5 (aY6 F H c9 r) H w0 [.c [1,0,0],.l [1,0,0],.b 0] [(0,pg c9 0),(2,iv a2),(3,.bool a3),(4,.bool a4),(14,.slice p8 a1.length q7),(15,iv (a1.length:Int)),(16,iv Y2)] H ((some (c9,.cells #[iv a0.Room,iv a0.c4,.slice s4 C7 u5,.slice e3 a0.Entries.length e4] 25 (0,0)))::u7::p5::F)):∀ (c9:Nat) (a0:Cache) (e3:Option Addr) (e4:Nat) (p5:Ch) (a1:List ByteArray) (p8:Option Addr) (q7:Nat) (a2:Int) (a3 a4:Bool) (Y2:Int) (y1:Int × Bool) (k9:List Blob) (s4:Option Addr) (C7 u5:Nat) (u7:Ch) ,b6 k5 47 H e3 e4 a0.Entries p5→Rw Kd.string H F p8 a1→a1.length≤q7→b6 j7 44 H s4 u5 k9 u7→C7=k9.length→R4.j2 al8 a0 a1 a2 a3 a4 Y2 y1 k9=some r→b8 aY5 (aY6 F H c9 r) H w0 [.c [1,0,0,1,1,0,0,1,1,1,0],.c [1,0,0,1,1,0,0,1,1,1,1],.b 1,.c [1,0,0,1,1,1],.l [1,0,0],.b 0] [(0,pg c9 0),(2,iv a2),(3,.bool a3),(4,.bool a4),(12,iv y1.1),(13,.bool y1.2),(14,.slice p8 a1.length q7),(15,iv (a1.length:Int)),(16,iv Y2)] H ((some (c9,.cells #[iv a0.Room,iv a0.c4,.slice s4 C7 u5,.slice e3 a0.Entries.length e4] 25 (0,0)))::u7::p5::F):=by
 intro c9 a0 e3 e4 p5 a1 p8 q7 a2 a3 a4 Y2 y1 k9 s4 C7 u5 u7 p9 p0 C5 D3 W9 heq
 subst W9
 unfold R4.j2 at heq
 obtain ⟨t2,ht2,heq⟩:=bind_some heq
 have aH8:b8 aY5 (aY6 F H c9 r) H w0 [.c [1,0,0,1,1,0,0,1,1,1,1],.b 1,.c [1,0,0,1,1,1],.l [1,0,0],.b 0] [(0,pg c9 0),(2,iv a2),(3,.bool a3),(4,.bool a4),(12,iv y1.1),(14,.slice p8 a1.length q7),(15,iv (a1.length:Int)),(16,iv Y2),(43,.bool t2)] H ((some (c9,.cells #[iv a0.Room,iv a0.c4,.slice s4 k9.length u5,.slice e3 a0.Entries.length e4] 25 (0,0)))::u7::p5::F):=by
  refine Cb heq ?_ ?_
  ·intro B3 heq
   refine Sd 0 23 [] [3,3,3,3,3,3,3,3,3,3,3,3,3,3,3,3,3,3,3,3,0,3,2] ?_
   obtain ⟨x2,w6,heq⟩:=bind_some heq
   obtain ⟨J2,T7,I8,J7⟩:=D3.get w6
   obtain ⟨rfl⟩:=C6 I8
   refine Zr [0,1,2,3,4,5,6,7,8,9,10,11,12,13,14,15,16,17,18,19] 3 [bx 0 2,bx 0 2,nx J2 w6,el J7 1 3,bx 0 1] (Pk 3 [0,1,2]) (Pk 3 [0,1,2]) ?_
   obtain ⟨W1,ae3,Q4,ad7⟩:=D3.get w6
   obtain ⟨rfl⟩:=C6 Q4
   refine Dz 20 (j6.aw6 (d:=64) (v:=.pointer (some ((H8 s4).add (y1.1.toNat*5)))) (vs:=[]) (G8:=[.need (s4=some (H8 s4)∧(0:Int)≤y1.1∧y1.1<((k9.length:Nat):Int))]) (by kernel_rfl) (fun w hh=>⟨W1,(aa2 w6).1,(aa2 w6).2.1⟩)) ?_
   rintro _ _ _ _ ⟨rfl,rfl,rfl⟩
   refine ⟨fun _ w hh=>⟨fun _=>(Pk 3 [0,1,2]) w hh,fun _=>(Pk 3 [0,1,2]) w hh,(fun h=>by cases h)⟩,?_⟩
   refine Zr [21] 1 [] (Pk 3 [0,1,2]) (Pk 3 [0,1,2]) ?_
   obtain ⟨ha4,af1,hK4,af9⟩:=D3.get w6
   obtain ⟨rfl⟩:=C6 hK4
   refine Dz 22 (j6.ab7 (a:=(((H8 s4).add (y1.1.toNat*5)).add 3)) (k:=1) (kd:=j7) (c0:=[.string x2.b7,iv x2.j4,iv x2.Used,iv x2.u6,iv x2.q4]) (x':=(⟨x2.b7,x2.j4,x2.Used,max2 x2.u6 (c5 (a2+a0.c4)),x2.q4⟩:Blob)) (o:=3) (ix:=y1.1) (v:=iv (max2 x2.u6 (c5 (a2+a0.c4)))) (by kernel_rfl) rfl D3 w6 (by kernel_rfl) af9 rfl (Nat.le_of_ble_eq_true (by kernel_rfl)) af8) ?_
   rintro _ _ _ _ ⟨r9,rfl,rfl,rfl,r8⟩
   have C4:k9.length=(k9.set y1.1.toNat (⟨x2.b7,x2.j4,x2.Used,max2 x2.u6 (c5 (a2+a0.c4)),x2.q4⟩:Blob)).length:=by rw [List.length_set]
   refine ⟨fun _ w hh=>⟨(fun h=>by cases h),(fun h=>absurd h (by decide)),(fun h=>by cases h)⟩,?_⟩
   refine o5.p6 ?_
   refine o5.done (by kernel_rfl) ?_
   refine An 1 ?_
   exact Gt 0 [] ((R4.ai7 (al8:=al8) bk7) _ a0 _ _ _ a1 _ _ a2 a3 a4 Y2 (k9.set y1.1.toNat (⟨x2.b7,x2.j4,x2.Used,max2 x2.u6 (c5 (a2+a0.c4)),x2.q4⟩:Blob)) _ _ _ _ p9 p0 C5 r8 C4 heq)
  ·intro B3 heq
   refine An 2 ?_
   exact Gt 0 [] ((R4.ai7 (al8:=al8) bk7) _ a0 _ _ _ a1 _ _ a2 a3 a4 Y2 k9 _ _ _ _ p9 p0 C5 D3 rfl heq)
 replace heq:=ht2
 refine Sa 0<|Zk 2 ?_
 rcases y9 (y1.2) with x7 | x7
 ·replace heq:=A5 x7 heq
  refine Zs 41 (congrArg Value.bool x7)<|Zk 4 ?_
  obtain rfl:=Option.some.inj heq
  refine Dn ?_
  exact Gt 0 [] (aH8)
 ·replace heq:=A6 x7 heq
  refine Zs 41 (congrArg Value.bool x7)<|Zk 4 ?_
  obtain rfl:=Option.some.inj heq
  refine Dn ?_
  exact Gt 0 [] (aH8)
theorem R4.bu7 {r:Cache}:∀ (k:Nat),∀ (c9:Nat) (a0:Cache) (e3:Option Addr) (e4:Nat) (p5:Ch) (a1:List ByteArray) (p8:Option Addr) (q7:Nat) (a2:Int) (a3 a4:Bool) (k9:List Blob) (s4:Option Addr) (C7 u5:Nat) (u7:Ch) (Y2:Int) ,b6 k5 47 H e3 e4 a0.Entries p5→Rw Kd.string H F p8 a1→a1.length≤q7→b6 j7 44 H s4 u5 k9 u7→C7=k9.length→R4.l1 k a0 a1 a2 a3 a4 k9 Y2=some r→b8 aY5 (aY6 F H c9 r) H w0 [.c [1,0,0],.l [1,0,0],.b 0] [(0,pg c9 0),(2,iv a2),(3,.bool a3),(4,.bool a4),(14,.slice p8 a1.length q7),(15,iv (a1.length:Int)),(16,iv Y2)] H ((some (c9,.cells #[iv a0.Room,iv a0.c4,.slice s4 C7 u5,.slice e3 a0.Entries.length e4] 25 (0,0)))::u7::p5::F):=by
 intro k
 induction k with
 | zero=>intro c9 a0 e3 e4 p5 a1 p8 q7 a2 a3 a4 k9 s4 C7 u5 u7 Y2 p9 p0 C5 D3 W9 heq; exact nomatch (show (none:Option Cache)=some r from heq)
 | succ k u0 =>
  intro c9 a0 e3 e4 p5 a1 p8 q7 a2 a3 a4 k9 s4 C7 u5 u7 Y2 p9 p0 C5 D3 W9 heq
  subst W9
  rw [R4.l1] at heq
  refine Sa 1<|Zd 1<|An 1 ?_
  refine Cb heq ?_ ?_
  ·intro o8 heq
   refine Sa 4 ?_
   obtain ⟨x1,hx1,heq⟩:=bind_some heq
   obtain ⟨A7,I1,B1,B2⟩:=p0.get hx1
   obtain rfl:I1=[.string x1]:=B1
   refine Zw 3 [nx A7 hx1,er B2 3 0]<|Sa 1<|Zv 4 (C8 0) ?_
   obtain ⟨y1,hy1,heq⟩:=bind_some heq
   refine c6.e5 (o9 25 (bk4 (a0:=(⟨a0.Room,a0.c4,k9,a0.Entries⟩:Cache)) hy1 (D3.rw (.tail _ (.head _))) D3.cap rfl (p9.rw (.tail _ (.tail _ (.head _)))) p9.cap rfl)) ?_
   rintro _ _ _ _ ⟨_,rfl,rfl,rfl,rfl⟩
   refine Zd 10<|An 2 ?_
   obtain ⟨t1,A9,heq⟩:=bind_some heq
   have aL5:b8 aY5 (aY6 F H c9 r) H w0 [.c [1,0,0,1,1,0,0,1,1,0,1],.c [1,0,0,1,1,0,0,1,1,1],.b 1,.c [1,0,0,1,1,1],.l [1,0,0],.b 0] [(0,pg c9 0),(2,iv a2),(3,.bool a3),(4,.bool a4),(12,iv y1.1),(13,.bool y1.2),(14,.slice p8 a1.length q7),(15,iv (a1.length:Int)),(16,iv Y2),(31,.bool t1)] H ((some (c9,.cells #[iv a0.Room,iv a0.c4,.slice s4 k9.length u5,.slice e3 a0.Entries.length e4] 25 (0,0)))::u7::p5::F):=by
    refine Cb heq ?_ ?_
    ·intro F2 heq
     refine Sa 0 ?_
     obtain ⟨x3,K8,heq⟩:=bind_some heq
     obtain ⟨ha5,ah1,hK5,aC6⟩:=D3.get K8
     obtain ⟨rfl⟩:=C6 hK5
     refine Zv 8 [bx 0 2,nx ha5 K8] ?_
     obtain ⟨ha6,ai0,hK6,ar4⟩:=D3.get K8
     obtain ⟨rfl⟩:=C6 hK6
     refine c6.e5 (j6.ab7 (a:=(((H8 s4).add (y1.1.toNat*5)).add 2)) (k:=1) (kd:=j7) (c0:=[.string x3.b7,iv x3.j4,iv x3.Used,iv x3.u6,iv x3.q4]) (x':=(⟨x3.b7,x3.j4,a2,x3.u6,x3.q4⟩:Blob)) (o:=2) (ix:=y1.1) (v:=iv a2) (by kernel_rfl) rfl D3 K8 (by kernel_rfl) ar4 rfl (Nat.le_of_ble_eq_true (by kernel_rfl)) af8) ?_
     rintro _ _ _ _ ⟨B5,rfl,rfl,rfl,w8⟩
     have hn2:k9.length=(k9.set y1.1.toNat (⟨x3.b7,x3.j4,a2,x3.u6,x3.q4⟩:Blob)).length:=by rw [List.length_set]
     refine c6.p6 ?_
     refine Dn<|An 1 ?_
     exact Gt 0 [] ((R4.aY2 (al8:=(R4.l1 k)) u0) _ a0 _ _ _ a1 _ _ a2 a3 a4 Y2 y1 (k9.set y1.1.toNat (⟨x3.b7,x3.j4,a2,x3.u6,x3.q4⟩:Blob)) _ _ _ _ p9 p0 C5 w8 hn2 heq)
    ·intro F2 heq
     refine An 2 ?_
     exact Gt 0 [] ((R4.aY2 (al8:=(R4.l1 k)) u0) _ a0 _ _ _ a1 _ _ a2 a3 a4 Y2 y1 k9 _ _ _ _ p9 p0 C5 D3 rfl heq)
   replace heq:=A9
   refine Sa 0<|Zk 2 ?_
   rcases y9 (y1.2) with s3 | s3
   ·replace heq:=A5 s3 heq
    refine Zs 29 (congrArg Value.bool s3)<|Zk 4 ?_
    obtain rfl:=Option.some.inj heq
    refine Dn ?_
    exact Gt 0 [] (aL5)
   ·replace heq:=A6 s3 heq
    refine Zs 29 (congrArg Value.bool s3)<|Zk 4 ?_
    obtain rfl:=Option.some.inj heq
    refine Dn ?_
    exact Gt 0 [] (aL5)
  ·intro o8 heq
   refine An 1 ?_
   obtain rfl:=Option.some.inj heq
   exact b8.done (by kernel_rfl) Tryz.func43 (v:=.tuple #[]) (by kernel_rfl) ⟨s4,u5,u7,e3,e4,p5,rfl,rfl,rfl,D3,p9⟩
theorem bv4 {c9:Nat} {a0:Cache} {e6:Option Addr} {q2 e8:Nat} {s8:Ch} {e3:Option Addr} {p7 e4:Nat} {p5:Ch} {a1:List ByteArray} {p8:Option Addr} {G7 q7:Nat} {a2:Int} {a3 a4:Bool} {r:Cache} (heq:R4.f a0 a1 a2 a3 a4=some r) (q6:b6 j7 44 H e6 e8 a0.U s8) (B9:q2=a0.U.length) (p9:b6 k5 47 H e3 e4 a0.Entries p5) (B4:p7=a0.Entries.length) (p0:Rw Kd.string H F p8 a1) (C5:G7≤q7) (X8:G7=a1.length):z7 Tryz.prog 43 #[.pointer (some ⟨c9,0,none⟩),.slice p8 G7 q7,iv a2,.bool a3,.bool a4] H w0 ((some (c9,.cells #[iv a0.Room,iv a0.c4,.slice e6 q2 e8,.slice e3 p7 e4] 25 (0,0)))::s8::p5::F) (aY6 F H c9 r):=by
 refine Co aY5 Tryz.func43 Tryz.ntmps43 ?_
 subst B9
 subst B4
 subst X8
 unfold R4.f at heq
 refine Sa 1<|Zd 3<|An 2 ?_
 exact Gt 0 [] (((R4.bu7) n8) _ a0 _ _ _ a1 _ _ a2 a3 a4 a0.U _ _ _ _ 0 p9 p0 C5 q6 rfl heq)
noncomputable def bJ3:Ctx:={ P:=Tryz.prog,f:=49,N:=26,c:=C1 Tryz.f49 }
def bJ4 (F:List Ch) (H0:Hp) (c9:Nat) (r:Cache) (v:Value) (H:Hp) (cs:List Ch):Prop:=∃ (E7:Option Addr) (E8:Nat) (F1:Ch) (P7:Option Addr) (P8:Nat) (Q9:Ch),H0=H∧v=.tuple #[]∧some (c9,.cells #[iv r.Room,iv r.c4,.slice E7 r.U.length E8,.slice P7 r.Entries.length P8] 25 (0,0))::F1::Q9::F=cs∧b6 j7 44 H E7 E8 r.U F1∧b6 k5 47 H P7 P8 r.Entries Q9
theorem af3.D7 {r:Cache}:∀ (c9:Nat) (a0:Cache) (e6:Option Addr) (e8:Nat) (s8:Ch) (e3:Option Addr) (e4:Nat) (p5:Ch) (g2:Nat) (at5:List (ByteArray × Bool)) (aL9:Nat) (aM0:Ch) ,b6 j7 44 H e6 e8 a0.U s8→b6 k5 47 H e3 e4 a0.Entries p5→aw7 Value.string Kd.bool false H aL9 at5 aM0→af3.e1 a0 at5=some r→b8 bJ3 (bJ4 F H c9 r) H w0 [.c [1,1]] [(0,pg c9 0),(4,pg g2 0)] H ((some (g2,.cells #[.map (some aL9)] 94 (0,0)))::aM0::(some (c9,.cells #[iv a0.Room,iv a0.c4,.slice e6 a0.U.length e8,.slice e3 a0.Entries.length e4] 25 (0,0)))::s8::p5::F):=by
 intro c9 a0 e6 e8 s8 e3 e4 p5 g2 at5 aL9 aM0 q6 p9 bv5 heq
 unfold af3.e1 at heq
 refine Sa 0<|Zv 6 [bx 2 2]<|Ug 4 [3,0,1,2] ?_
 obtain ⟨y1,hy1,heq⟩:=bind_some heq
 refine c6.e5 (o9 23 (dm1 hy1 q6 rfl (bv5.mw (.tail _ (.head _))) (.inr (.head _)))) ?_
 rintro _ _ _ _ ⟨_,rfl,A1,c1,r9,rfl,rfl,rfl,w8⟩
 refine Zk 9 ?_
 refine c6.e5 (j6.store (k:=3) (g:=c9) (off:=2) (v:=.slice A1 y1.length c1) (cells':=#[iv a0.Room,iv a0.c4,.slice A1 y1.length c1,.slice e3 a0.Entries.length e4]) (by kernel_rfl) rfl (by kernel_rfl) (by kernel_rfl)) ?_
 rintro _ _ _ _ ⟨rfl,rfl,rfl⟩
 refine c6.p6 ?_
 refine Dn ?_
 obtain rfl:=Option.some.inj heq
 refine Up 4 [3,0] ?_
 exact b8.done (by kernel_rfl) Tryz.func49 (v:=.tuple #[]) (by kernel_rfl) ⟨A1,c1,r9,e3,e4,p5,rfl,rfl,rfl,w8,p9⟩
theorem af3.F9 {r:Cache} (e1:Cache→(List (ByteArray × Bool))→Option Cache)
  (D4:∀ (c9:Nat) (a0:Cache) (e6:Option Addr) (e8:Nat) (s8:Ch) (e3:Option Addr) (e4:Nat) (p5:Ch) (g2:Nat) (at5:List (ByteArray × Bool)) (aL9:Nat) (aM0:Ch) ,b6 j7 44 H e6 e8 a0.U s8→b6 k5 47 H e3 e4 a0.Entries p5→aw7 Value.string Kd.bool false H aL9 at5 aM0→e1 a0 at5=some r→b8 bJ3 (bJ4 F H c9 r) H w0 [.c [1,1]] [(0,pg c9 0),(4,pg g2 0)] H ((some (g2,.cells #[.map (some aL9)] 94 (0,0)))::aM0::(some (c9,.cells #[iv a0.Room,iv a0.c4,.slice e6 a0.U.length e8,.slice e3 a0.Entries.length e4] 25 (0,0)))::s8::p5::F)):∀ (k:Nat),∀ (c9:Nat) (a0:Cache) (e6:Option Addr) (e8:Nat) (s8:Ch) (e3:Option Addr) (e4:Nat) (p5:Ch) (a1:List ByteArray) (p8:Option Addr) (q7 g2:Nat) (at5:List (ByteArray × Bool)) (aL9:Nat) (aM0:Ch) (v10:Int) ,b6 j7 44 H e6 e8 a0.U s8→b6 k5 47 H e3 e4 a0.Entries p5→Rw Kd.string H F p8 a1→a1.length≤q7→aw7 Value.string Kd.bool false H aL9 at5 aM0→af3.l2 e1 k a0 a1 at5 v10=some r→b8 bJ3 (bJ4 F H c9 r) H w0 [.c [1,0,1,0,0],.l [1,0,1,0,0],.b 0,.c [1,1]] [(0,pg c9 0),(4,pg g2 0),(8,.slice p8 a1.length q7),(9,iv (a1.length:Int)),(10,iv v10)] H ((some (g2,.cells #[.map (some aL9)] 94 (0,0)))::aM0::(some (c9,.cells #[iv a0.Room,iv a0.c4,.slice e6 a0.U.length e8,.slice e3 a0.Entries.length e4] 25 (0,0)))::s8::p5::F):=by
 intro k
 induction k with
 | zero=>intro c9 a0 e6 e8 s8 e3 e4 p5 a1 p8 q7 g2 at5 aL9 aM0 v10 q6 p9 p0 C5 bv5 heq; exact nomatch (show (none:Option Cache)=some r from heq)
 | succ k u0 =>
  intro c9 a0 e6 e8 s8 e3 e4 p5 a1 p8 q7 g2 at5 aL9 aM0 v10 q6 p9 p0 C5 bv5 heq
  rw [af3.l2] at heq
  refine Sa 1<|Zd 1<|An 1 ?_
  refine Cb heq ?_ ?_
  ·intro o8 heq
   refine Sa 4 ?_
   obtain ⟨x1,hx1,heq⟩:=bind_some heq
   obtain ⟨A7,I1,B1,B2⟩:=p0.get hx1
   obtain rfl:I1=[.string x1]:=B1
   refine Zw 3 [nx A7 hx1,er B2 5 0]<|Sa 0<|Zv 2 [bx 0 0] ?_
   refine c6.e5 (j6.mapUpdate (kk:=1) (cv:=[.bool true]) (k:=x1) (v:=true) (by kernel_rfl) (as0.string Tryz.underlying9) rfl rfl rfl bv5) ?_
   rintro _ _ _ _ ⟨B5,rfl,rfl,rfl,w4⟩
   refine c6.p6 ?_
   refine Dn<|Sa 1<|Zd 2<|An 1 ?_
   exact Gt 0 [] (u0 _ a0 _ _ _ _ _ _ a1 _ _ _ (ao5 at5 x1 true) _ _ (c5 (v10+1)) q6 p9 p0 C5 w4 heq)
  ·intro o8 heq
   refine An 1 ?_
   exact Gt 0 [] (D4 _ a0 _ _ _ _ _ _ _ at5 _ _ q6 p9 bv5 heq)
theorem cy9 {c9:Nat} {a0:Cache} {e6:Option Addr} {q2 e8:Nat} {s8:Ch} {e3:Option Addr} {p7 e4:Nat} {p5:Ch} {a1:List ByteArray} {p8:Option Addr} {G7 q7:Nat} {r:Cache} (heq:af3.f a0 a1=some r) (q6:b6 j7 44 H e6 e8 a0.U s8) (B9:q2=a0.U.length) (p9:b6 k5 47 H e3 e4 a0.Entries p5) (B4:p7=a0.Entries.length) (p0:Rw Kd.string H F p8 a1) (C5:G7≤q7) (X8:G7=a1.length):z7 Tryz.prog 49 #[.pointer (some ⟨c9,0,none⟩),.slice p8 G7 q7] H w0 ((some (c9,.cells #[iv a0.Room,iv a0.c4,.slice e6 q2 e8,.slice e3 p7 e4] 25 (0,0)))::s8::p5::F) (bJ4 F H c9 r):=by
 refine Co bJ3 Tryz.func49 Tryz.ntmps49 ?_
 subst B9
 subst B4
 subst X8
 unfold af3.f at heq
 refine Sa 1 ?_
 refine c6.e5 (j6.new (d:=7) (v:=fun g=>.map (some g)) (o:=fun g=>.map #[] 0) (fun g=>by kernel_rfl)) ?_
 rintro _ _ _ _ ⟨g1,rfl,rfl,rfl⟩
 have r8:aw7 Value.string Kd.bool false H g1 ([]:List (ByteArray × Bool)) (some (g1,.map #[] 0)):=aw7.made
 refine c6.e5 (j6.new (d:=4) (v:=fun g=>.pointer (some ⟨g,0,none⟩)) (o:=fun g=>.cells #[.map none] 94 (0,0)) (fun g=>by kernel_rfl)) ?_
 rintro _ _ _ _ ⟨g2,rfl,rfl,rfl⟩
 refine c6.e5 (j6.store (k:=0) (g:=g2) (off:=0) (v:=.map (some g1)) (cells':=#[.map (some g1)]) (by kernel_rfl) rfl (by kernel_rfl) (by kernel_rfl)) ?_
 rintro _ _ _ _ ⟨rfl,rfl,rfl⟩
 refine c6.p6 ?_
 refine Dn<|Sa 2<|Zd 3<|An 2 ?_
 exact Gt 0 [] (((af3.F9 (e1:=af3.e1) (af3.D7)) n8) _ a0 _ _ _ _ _ _ a1 _ _ _ ([]:List (ByteArray × Bool)) _ _ 0 q6 p9 p0 C5 r8 heq)
noncomputable def bJ5:Ctx:={ P:=Tryz.prog,f:=64,N:=50,c:=C1 Tryz.f64 }
def bJ6 (F:List Ch) (H0:Hp) (c9:Nat) (r:(List ByteArray) × Bool × Cache) (v:Value) (H:Hp) (cs:List Ch):Prop:=∃ (ad8:Option Addr) (c0:Nat) (J6:Ch) (ap5:Option Addr) (ap6:Nat) (ap7:Ch) (ap8:Option Addr) (ap9:Nat) (aq0:Ch),H0=H∧v=.tuple #[.slice ad8 r.1.length c0,.bool r.2.1]∧J6::some (c9,.cells #[iv r.2.2.Room,iv r.2.2.c4,.slice ap5 r.2.2.U.length ap6,.slice ap8 r.2.2.Entries.length ap9] 25 (0,0))::ap7::aq0::F=cs∧b6 Kd.string 9 H ad8 c0 r.1 J6∧b6 j7 44 H ap5 ap6 r.2.2.U ap7∧b6 k5 47 H ap8 ap9 r.2.2.Entries aq0
theorem af4.D7 {r:(List ByteArray) × Bool × Cache}:∀ (c9:Nat) (a0:Cache) (e6:Option Addr) (e8:Nat) (s8:Ch) (e3:Option Addr) (e4:Nat) (p5:Ch) (M0:List ByteArray) (ab3:Option Addr) (ak7 ab4:Nat) (ag0:Ch) ,b6 j7 44 H e6 e8 a0.U s8→b6 k5 47 H e3 e4 a0.Entries p5→b6 Kd.string 9 H ab3 ab4 M0 ag0→ak7=M0.length→af4.e1 a0 M0=some r→b8 bJ5 (bJ6 F H c9 r) H w0 [.c [1,1,1,1,1,1,0],.c [1,1,1,1,1,1,1]] [(0,pg c9 0),(10,.slice ab3 ak7 ab4)] H (ag0::(some (c9,.cells #[iv a0.Room,iv a0.c4,.slice e6 a0.U.length e8,.slice e3 a0.Entries.length e4] 25 (0,0)))::s8::p5::F):=by
 intro c9 a0 e6 e8 s8 e3 e4 p5 M0 ab3 ak7 ab4 ag0 q6 p9 aC7 aT7 heq
 subst aT7
 unfold af4.e1 at heq
 refine Sa 0<|Zk 2<|Ug 4 [1,2,3,0] ?_
 obtain ⟨y4,hy4,heq⟩:=bind_some heq
 refine c6.e5 (o9 48 (cy9 hy4 q6 rfl p9 rfl (aC7.rw (.head _)) aC7.cap rfl)) ?_
 rintro _ _ _ _ ⟨_,rfl,aa3,c2,B5,aa8,c3,E6,rfl,rfl,rfl,w4,C9⟩
 refine Dn<|Sa 1<|Zd 3 ?_
 obtain rfl:=Option.some.inj heq
 refine Up 4 [3,0,1,2] ?_
 exact b8.done (by kernel_rfl) Tryz.func64 (v:=.tuple #[.slice ab3 M0.length ab4,.bool true]) (by kernel_rfl) ⟨ab3,ab4,ag0,aa3,c2,B5,aa8,c3,E6,rfl,rfl,rfl,aC7,w4,C9⟩
theorem af4.F9 {r:(List ByteArray) × Bool × Cache} (e1:Cache→(List ByteArray)→Option ((List ByteArray) × Bool × Cache))
  (D4:∀ (c9:Nat) (a0:Cache) (e6:Option Addr) (e8:Nat) (s8:Ch) (e3:Option Addr) (e4:Nat) (p5:Ch) (M0:List ByteArray) (ab3:Option Addr) (ak7 ab4:Nat) (ag0:Ch) ,b6 j7 44 H e6 e8 a0.U s8→b6 k5 47 H e3 e4 a0.Entries p5→b6 Kd.string 9 H ab3 ab4 M0 ag0→ak7=M0.length→e1 a0 M0=some r→b8 bJ5 (bJ6 F H c9 r) H w0 [.c [1,1,1,1,1,1,0],.c [1,1,1,1,1,1,1]] [(0,pg c9 0),(10,.slice ab3 ak7 ab4)] H (ag0::(some (c9,.cells #[iv a0.Room,iv a0.c4,.slice e6 a0.U.length e8,.slice e3 a0.Entries.length e4] 25 (0,0)))::s8::p5::F)):∀ (k:Nat),∀ (c9:Nat) (a0:Cache) (e6:Option Addr) (e8:Nat) (s8:Ch) (e3:Option Addr) (e4:Nat) (p5:Ch) (y1:(List Blob)) (A1:Option Addr) (c1:Nat) (r9:Ch) (aY7:Int) (M0:List ByteArray) (ab3:Option Addr) (ak7 ab4:Nat) (ag0:Ch) (v30:Int) ,b6 j7 44 H e6 e8 a0.U s8→b6 k5 47 H e3 e4 a0.Entries p5→b6 j7 44 H A1 c1 y1 r9→b6 Kd.string 9 H ab3 ab4 M0 ag0→ak7=M0.length→af4.l2 e1 k a0 y1 aY7 M0 v30=some r→b8 bJ5 (bJ6 F H c9 r) H w0 [.c [1,1,1,1,1,0,1,0,0],.l [1,1,1,1,1,0,1,0,0],.b 0,.c [1,1,1,1,1,1]] [(0,pg c9 0),(9,iv aY7),(10,.slice ab3 ak7 ab4),(28,.slice A1 y1.length c1),(29,iv (y1.length:Int)),(30,iv v30)] H (ag0::r9::(some (c9,.cells #[iv a0.Room,iv a0.c4,.slice e6 a0.U.length e8,.slice e3 a0.Entries.length e4] 25 (0,0)))::s8::p5::F):=by
 intro k
 induction k with
 | zero=>intro c9 a0 e6 e8 s8 e3 e4 p5 y1 A1 c1 r9 aY7 M0 ab3 ak7 ab4 ag0 v30 q6 p9 r8 aC7 aT7 heq; exact nomatch (show (none:Option ((List ByteArray) × Bool × Cache))=some r from heq)
 | succ k u0 =>
  intro c9 a0 e6 e8 s8 e3 e4 p5 y1 A1 c1 r9 aY7 M0 ab3 ak7 ab4 ag0 v30 q6 p9 r8 aC7 aT7 heq
  subst aT7
  rw [af4.l2] at heq
  refine Sa 1<|Zd 1<|An 1 ?_
  refine Cb heq ?_ ?_
  ·intro s3 heq
   refine Sa 4 ?_
   obtain ⟨x1,hx1,heq⟩:=bind_some heq
   obtain ⟨A7,I1,B1,B2⟩:=r8.get hx1
   obtain ⟨rfl⟩:=C6 B1
   refine Zv 2 ([nx A7 hx1]++els B2 1) ?_
   refine c6.e5 (j6.new (d:=12) (v:=fun g=>.pointer (some ⟨g,0,none⟩)) (o:=fun g=>.cells #[.string ByteArray.empty,iv 0,iv 0,iv 0,iv 0] 44 (0,0)) (fun g=>by kernel_rfl)) ?_
   rintro _ _ _ _ ⟨g1,rfl,rfl,rfl⟩
   refine c6.e5 (j6.store (k:=0) (g:=g1) (off:=0) (v:=.agg #[.string x1.b7,iv x1.j4,iv x1.Used,iv x1.u6,iv x1.q4]) (cells':=#[.string x1.b7,iv x1.j4,iv x1.Used,iv x1.u6,iv x1.q4]) (by kernel_rfl) rfl (by kernel_rfl) (by kernel_rfl)) ?_
   rintro _ _ _ _ ⟨rfl,rfl,rfl⟩
   refine c6.p6 ?_
   refine Dn<|Sa 2<|Zd 2 ?_
   refine Cb heq ?_ ?_
   ·intro x7 heq
    refine An 2 ?_
    exact Gt 3 [1] (D4 _ a0 _ _ _ _ _ _ M0 _ _ _ _ q6 p9 aC7 rfl heq)
   ·intro x7 heq
    refine Sa 2<|Zw 5 [bx 0 1]<|Sa 0<|Zv 3 [bx 0 0] ?_
    refine c6.e5 (j6.new (d:=43) (v:=fun g=>.slice (some ⟨g,0,none⟩) 1 1) (o:=fun g=>.cells #[.string x1.b7] 9 (0,0)) (fun g=>by kernel_rfl)) ?_
    rintro _ _ _ _ ⟨g2,rfl,rfl,rfl⟩
    have H7:b6 Kd.string 9 H (some ⟨g2,0,none⟩) 1 ([x1.b7]:List ByteArray) (some (g2,.cells #[.string x1.b7] 9 (0,0))):=b6.lit (xs:=([x1.b7]:List ByteArray)) (by kernel_rfl) (Nat.le_of_ble_eq_true (by kernel_rfl)) (Kd.q9.scalars rfl)
    obtain ⟨C4,heq⟩:=M1 heq
    refine c6.e5 (j6.append (d:=44) (k:=2) (t:=45) (e:=9) (bytes:=16) (kd:=Kd.string) (n:=M0.length) (m:=1) (xs:=M0) (ys:=([x1.b7]:List ByteArray)) (A:=ab3) (B:=(some ⟨g2,0,none⟩)) (c:=ab4) (cB:=1) (by kernel_rfl) rfl rfl (by kernel_rfl) rfl aC7 (fun w hh=>H7.Y9 (hh.N1 0 rfl)) (room_le C4) (by have:=room_le C4; omega)) ?_
    rintro _ _ _ _ ⟨aa9,y8,G6,rfl,rfl,rfl,O4⟩
    refine c6.p6 ?_
    refine Zd 6<|Sa 1<|Zd 2<|An 1 ?_
    exact Gt 2 [] (u0 _ a0 _ _ _ _ _ _ y1 _ _ _ (c5 (aY7 - x1.j4)) (M0++([x1.b7]:List ByteArray)) _ _ _ _ (c5 (v30+1)) q6 p9 r8 O4 rfl heq)
  ·intro s3 heq
   refine An 2 ?_
   exact Gt 2 [0] (D4 _ a0 _ _ _ _ _ _ M0 _ _ _ _ q6 p9 aC7 rfl heq)
theorem dm5 {c9:Nat} {a0:Cache} {e6:Option Addr} {q2 e8:Nat} {s8:Ch} {e3:Option Addr} {p7 e4:Nat} {p5:Ch} {a1 a2:Int} {r:(List ByteArray) × Bool × Cache} (heq:af4.f a0 a1 a2=some r) (q6:b6 j7 44 H e6 e8 a0.U s8) (B9:q2=a0.U.length) (p9:b6 k5 47 H e3 e4 a0.Entries p5) (B4:p7=a0.Entries.length):z7 Tryz.prog 64 #[.pointer (some ⟨c9,0,none⟩),iv a1,iv a2] H w0 ((some (c9,.cells #[iv a0.Room,iv a0.c4,.slice e6 q2 e8,.slice e3 p7 e4] 25 (0,0)))::s8::p5::F) (bJ6 F H c9 r):=by
 refine Co bJ5 Tryz.func64 Tryz.ntmps64 ?_
 subst B9
 subst B4
 unfold af4.f at heq
 refine Sa 1<|Zd 2<|Sa 1<|Zv 4 (C8 0) ?_
 obtain ⟨y1,hy1,heq⟩:=bind_some heq
 refine c6.e5 (o9 17 (dl2 hy1 (q6.rw (.tail _ (.head _))) q6.cap rfl (p9.rw (.tail _ (.tail _ (.head _)))) p9.cap rfl)) ?_
 rintro _ _ _ _ ⟨_,rfl,A1,c1,r9,rfl,rfl,rfl,r8⟩
 refine Zd 6<|Sa 1<|Zv 3 (C8 1) ?_
 obtain ⟨y2,hy2,heq⟩:=bind_some heq
 refine c6.e5 (o9 21 (bH5 hy2 (q6.rw (.tail _ (.tail _ (.head _)))) q6.cap rfl (p9.rw (.tail _ (.tail _ (.tail _ (.head _))))) p9.cap rfl)) ?_
 rintro _ _ _ _ ⟨_,rfl,rfl,rfl,rfl⟩
 refine Zd 7<|Sa 2<|Zk 2 ?_
 obtain ⟨y3,hy3,heq⟩:=bind_some heq
 refine c6.e5 (o9 26 (dl5 hy3 (r8.rw (.head _)) r8.cap rfl)) ?_
 rintro _ _ _ _ ⟨_,rfl,rfl,rfl,rfl⟩
 refine Zd 4 ?_
 refine Cb heq ?_ ?_
 ·intro o8 heq
  refine Sa 1<|Zd 2<|b8.w5 ?_
  have w8:b6 Kd.string 9 H none 0 ([]:List ByteArray) none:=b6.nil
  obtain rfl:=Option.some.inj heq
  refine Up 2 [0] ?_
  exact b8.done (by kernel_rfl) Tryz.func64 (v:=.tuple #[.slice none 0 0,.bool false]) (by kernel_rfl) ⟨none,0,none,e6,e8,s8,e3,e4,p5,rfl,rfl,rfl,w8,q6,p9⟩
 ·intro o8 heq
  refine Sa 2<|Zd 1<|Sa 2<|Zd 3<|An 2<|b8.w5 ?_
  have O3:b6 Kd.string 9 H none 0 ([]:List ByteArray) none:=b6.nil
  exact Gt 0 [] (((af4.F9 (e1:=af4.e1) (af4.D7)) n8) _ a0 _ _ _ _ _ _ y1 _ _ _ (c5 (y2 - a1)) ([]:List ByteArray) _ _ _ _ 0 q6 p9 r8 O3 rfl heq)
end Go.Proofs.YtiecpfnjmlidbaaGreatDoor
