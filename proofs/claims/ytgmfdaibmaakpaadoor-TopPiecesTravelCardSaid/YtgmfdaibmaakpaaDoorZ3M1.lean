/- What the machine's calls of these functions come to: just what the plain functions say. Written by program. -/
import Derived.Test.YtgmfdaibmaakpaaDoorProg
import Derived.Test.YtgmfdaibmaakpaaDoorKitX
import Derived.Test.YtgmfdaibmaakpaaDoorZD
import Derived.Test.YtgmfdaibmaakpaaDoorShelf
import Derived.Test.YtgmfdaibmaakpaaDoorKitBs
set_option linter.unusedVariables false
set_option linter.unnecessarySimpa false
set_option linter.unusedSimpArgs false
set_option maxRecDepth 100000
set_option maxHeartbeats 1000000
namespace Go.Proofs.YtgmfdaibmaakpaaDoor
open Go Go.RowKit Go.Proofs.YtgmfdaibmaakpaaDoor.Kit
def kPair:Kd Pair:=Kd.iso ((Kd.pair Kd.string Kd.string)) (fun x=>(x.Name,x.Value))
theorem kPair_open {H:Hp} {x:Pair} {c:List Value} (h:kPair.K H x c):c=[.string x.Name,.string x.Value]:=by
 obtain ⟨p0,q0,rfl,g0,h0⟩:=h
 obtain rfl:p0=[_]:=g0
 obtain rfl:q0=[_]:=h0
 rfl
theorem kPair_mk {H:Hp} {x:Pair}:kPair.K H x [.string x.Name,.string x.Value]:=⟨[.string x.Name],[.string x.Value],rfl,rfl,rfl⟩
def kSpan:Kd Span:=Kd.iso ((Kd.pair (Kd.int .i64) (Kd.int .i64))) (fun x=>(x.From,x.To))
theorem kSpan_open {H:Hp} {x:Span} {c:List Value} (h:kSpan.K H x c):c=[iv x.From,iv x.To]:=by
 obtain ⟨p0,q0,rfl,g0,h0⟩:=h
 obtain rfl:p0=[_]:=g0
 obtain rfl:q0=[_]:=h0
 rfl
theorem kSpan_mk {H:Hp} {x:Span}:kSpan.K H x [iv x.From,iv x.To]:=⟨[iv x.From],[iv x.To],rfl,rfl,rfl⟩
def kWorker:Kd Worker:=Kd.iso ((Kd.pair Kd.string (Kd.pair (Kd.slice kPair) (Kd.pair (Kd.int .i64) (Kd.pair (Kd.int .i64) (Kd.pair (Kd.int .i64) (Kd.pair (Kd.int .i64) (Kd.slice kSpan)))))))) (fun x=>(x.Name,x.Has,x.Slots,x.Speed,x.From,x.To,x.Stands))
theorem kWorker_open {H:Hp} {x:Worker} {c:List Value} (h:kWorker.K H x c):∃ A1 c1,∃ A6 c6,c=[.string x.Name,.slice A1 x.Has.length c1,iv x.Slots,iv x.Speed,iv x.From,iv x.To,.slice A6 x.Stands.length c6]∧x.Has.length≤c1∧Kd.Row kPair H A1 x.Has∧x.Stands.length≤c6∧Kd.Row kSpan H A6 x.Stands:=by
 obtain ⟨p0,q0,rfl,g0,h0⟩:=h
 obtain rfl:p0=[_]:=g0
 obtain ⟨p1,q1,rfl,g1,h1⟩:=h0
 obtain ⟨A1,c1,rfl,u1,v1⟩:=g1
 obtain ⟨p2,q2,rfl,g2,h2⟩:=h1
 obtain rfl:p2=[_]:=g2
 obtain ⟨p3,q3,rfl,g3,h3⟩:=h2
 obtain rfl:p3=[_]:=g3
 obtain ⟨p4,q4,rfl,g4,h4⟩:=h3
 obtain rfl:p4=[_]:=g4
 obtain ⟨p5,q5,rfl,g5,h5⟩:=h4
 obtain rfl:p5=[_]:=g5
 obtain ⟨A6,c6,rfl,u6,v6⟩:=h5
 exact ⟨A1,c1,A6,c6,rfl,u1,v1,u6,v6⟩
theorem kWorker_mk {H:Hp} {x:Worker} {A1:Option Addr} {c1:Nat} {A6:Option Addr} {c6:Nat} (u1:x.Has.length≤c1) (v1:Kd.Row kPair H A1 x.Has) (u6:x.Stands.length≤c6) (v6:Kd.Row kSpan H A6 x.Stands):kWorker.K H x [.string x.Name,.slice A1 x.Has.length c1,iv x.Slots,iv x.Speed,iv x.From,iv x.To,.slice A6 x.Stands.length c6]:=⟨[.string x.Name],[.slice A1 x.Has.length c1,iv x.Slots,iv x.Speed,iv x.From,iv x.To,.slice A6 x.Stands.length c6],rfl,rfl,⟨[.slice A1 x.Has.length c1],[iv x.Slots,iv x.Speed,iv x.From,iv x.To,.slice A6 x.Stands.length c6],rfl,⟨A1,c1,rfl,u1,v1⟩,⟨[iv x.Slots],[iv x.Speed,iv x.From,iv x.To,.slice A6 x.Stands.length c6],rfl,rfl,⟨[iv x.Speed],[iv x.From,iv x.To,.slice A6 x.Stands.length c6],rfl,rfl,⟨[iv x.From],[iv x.To,.slice A6 x.Stands.length c6],rfl,rfl,⟨[iv x.To],[.slice A6 x.Stands.length c6],rfl,rfl,⟨A6,c6,rfl,u6,v6⟩⟩⟩⟩⟩⟩⟩
noncomputable def C12:Ctx:={ P:=Tryd.prog,f:=12,N:=84,c:=bodyOf Tryd.f12 }
def S12 (F:List Ch) (H0:Hp) (r:(List Int)) (v:Value) (H:Hp) (cs:List Ch):Prop:=∃ (A0:Option Addr) (c0:Nat) (ch0:Ch),H0=H∧v=.slice A0 r.length c0∧ch0::F=cs∧SlOwn (Kd.int .i64) 3 H A0 c0 r ch0
theorem blob_cut.j3_c {w0:World} {H:Hp} {F:List Ch} {r:(List Int)}:∀ (v_out10:List Int) (Av_out10:Option Addr) (nv_out10:Nat) (cv_out10:Nat) (chv_out10:Ch) ,SlOwn (Kd.int .i64) 3 H Av_out10 cv_out10 v_out10 chv_out10→nv_out10=v_out10.length→blob_cut.j3 v_out10=some r→RunH C12 (S12 F H r) H w0 [.c [1,1,1,1,1,1,1,0],.c [1,1,1,1,1,1,1,1]] [(10,.slice Av_out10 nv_out10 cv_out10)] H (chv_out10::F):=by
 intro v_out10 Av_out10 nv_out10 cv_out10 chv_out10 hov_out10 hnv_out10 heq
 subst hnv_out10
 unfold blob_cut.j3 at heq
 refine Rr<|Rd 2 [8] [(8,.slice Av_out10 v_out10.length cv_out10)] ?_
 obtain rfl:=Option.some.inj heq
 exact RunH.done (by kernel_rfl) Tryd.func12 (v:=.slice Av_out10 v_out10.length cv_out10) (by kernel_rfl) ⟨Av_out10,cv_out10,chv_out10,rfl,rfl,rfl,hov_out10⟩
theorem blob_cut.e2_c {w0:World} {H:Hp} {F:List Ch} {r:(List Int)}:∀ (a0:List Int) (Aa0:Option Addr) (ca0:Nat) (v_out10:List Int) (Av_out10:Option Addr) (nv_out10:Nat) (cv_out10:Nat) (chv_out10:Ch) (v_from12:Int) ,Rw (Kd.int .u8) H F Aa0 a0→a0.length≤ca0→SlOwn (Kd.int .i64) 3 H Av_out10 cv_out10 v_out10 chv_out10→nv_out10=v_out10.length→blob_cut.e2 a0 v_out10 v_from12=some r→RunH C12 (S12 F H r) H w0 [.c [1,1,1,1,1,1,0,0],.c [1,1,1,1,1,1,0,1],.c [1,1,1,1,1,1,1]] [(0,.slice Aa0 a0.length ca0),(10,.slice Av_out10 nv_out10 cv_out10),(12,iv v_from12)] H (chv_out10::F):=by
 intro a0 Aa0 ca0 v_out10 Av_out10 nv_out10 cv_out10 chv_out10 v_from12 hra0 hca0 hov_out10 hnv_out10 heq
 subst hnv_out10
 unfold blob_cut.e2 at heq
 refine Rr<|Rd 4 [0,10,12,75] [(0,.slice Aa0 a0.length ca0),(10,.slice Av_out10 v_out10.length cv_out10),(12,iv v_from12),(75,.bool (decide (v_from12<(a0.length:Int))))] ?_
 rcases bool_cases (decide (v_from12<(a0.length:Int))) with hb1 | hb1
 ·replace heq:=bif_true hb1 heq
  refine Ct (decide (v_from12<(a0.length:Int))) hb1<|Rr<|Rk 5 [76,80] [(76,.slice Av_out10 v_out10.length cv_out10),(80,iv (w64 ((a0.length:Int) - v_from12)))] ?_
  refine RgH.does (DoesH.new (d:=81) (v:=fun g=>.slice (some ⟨g,0,none⟩) 1 1) (o:=fun g=>.cells #[iv (w64 ((a0.length:Int) - v_from12))] 3 (0,0)) (fun g=>by kernel_rfl)) ?_
  rintro _ _ _ _ ⟨g1,rfl,rfl,rfl⟩
  have ho1:SlOwn (Kd.int .i64) 3 H (some ⟨g1,0,none⟩) 1 ([w64 ((a0.length:Int) - v_from12)]:List Int) (some (g1,.cells #[iv (w64 ((a0.length:Int) - v_from12))] 3 (0,0))):=SlOwn.lit (xs:=([w64 ((a0.length:Int) - v_from12)]:List Int)) (by kernel_rfl) (Nat.le_of_ble_eq_true (by kernel_rfl)) (Kd.Rep.scalars rfl)
  obtain ⟨hn1,heq⟩:=guard?_some heq
  refine RgH.does (DoesH.append (d:=82) (k:=1) (t:=23) (e:=3) (bytes:=8) (kd:=(Kd.int .i64)) (n:=v_out10.length) (m:=1) (xs:=v_out10) (ys:=([w64 ((a0.length:Int) - v_from12)]:List Int)) (A:=Av_out10) (B:=(some ⟨g1,0,none⟩)) (c:=cv_out10) (cB:=1) (by kernel_rfl) rfl rfl (by kernel_rfl) rfl hov_out10 (fun w hh=>ho1.rdb (hh.chin 0 rfl)) (room_le hn1) (by have:=room_le hn1; omega)) ?_
  rintro _ _ _ _ ⟨A1,c1,ch1,rfl,rfl,rfl,ho2⟩
  refine Rd 8 [10] [(10,.slice A1 ((v_out10++([w64 ((a0.length:Int) - v_from12)]:List Int)).length) c1)]<|Ad 1 [.c [1,1,1,1,1,1,1,0],.c [1,1,1,1,1,1,1,1]]<|Kp [10] [(10,.slice A1 ((v_out10++([w64 ((a0.length:Int) - v_from12)]:List Int)).length) c1)] ?_
  refine RunH.pick 2 [1] (cs':=ch1::F) (by kernel_rfl) rfl ?_
  exact (blob_cut.j3_c) (v_out10++([w64 ((a0.length:Int) - v_from12)]:List Int)) _ _ _ _ ho2 rfl heq
 ·replace heq:=bif_false hb1 heq
  refine Cf (decide (v_from12<(a0.length:Int))) hb1<|Ad 2 [.c [1,1,1,1,1,1,1,0],.c [1,1,1,1,1,1,1,1]]<|Kp [10] [(10,.slice Av_out10 v_out10.length cv_out10)] ?_
  exact (blob_cut.j3_c) v_out10 _ _ _ _ hov_out10 rfl heq
theorem blob_cut.j6_c {w0:World} {H:Hp} {F:List Ch} {r:(List Int)} (backl4:(List Int)→Int→Int→Int→Int→(List Int)→Int→Int→Int→Option (List Int))
  (hbackl4:∀ (a0:List Int) (Aa0:Option Addr) (ca0:Nat) (a1:Int) (a2:Int) (a3:Int) (v_power9:Int) (v_out10:List Int) (Av_out10:Option Addr) (nv_out10:Nat) (cv_out10:Nat) (chv_out10:Ch) (v_h11:Int) (v_from12:Int) (v23:Int) ,Rw (Kd.int .u8) H F Aa0 a0→a0.length≤ca0→SlOwn (Kd.int .i64) 3 H Av_out10 cv_out10 v_out10 chv_out10→nv_out10=v_out10.length→backl4 a0 a1 a2 a3 v_power9 v_out10 v_h11 v_from12 v23=some r→RunH C12 (S12 F H r) H w0 [.c [1,1,1,1,1,0,1,0,0],.l [1,1,1,1,1,0,1,0,0],.b 2,.c [1,1,1,1,1,1]] [(0,.slice Aa0 a0.length ca0),(1,iv a1),(2,iv a2),(3,iv a3),(9,.int .u32 v_power9),(10,.slice Av_out10 nv_out10 cv_out10),(11,.int .u32 v_h11),(12,iv v_from12),(21,.slice Aa0 a0.length ca0),(22,iv (a0.length:Int)),(23,iv v23)] H (chv_out10::F)):∀ (a0:List Int) (Aa0:Option Addr) (ca0:Nat) (a1:Int) (a2:Int) (a3:Int) (v_power9:Int) (v23:Int) (x1:Int) (v_h11:Int) (v_out10:List Int) (Av_out10:Option Addr) (nv_out10:Nat) (cv_out10:Nat) (chv_out10:Ch) (v_from12:Int) ,Rw (Kd.int .u8) H F Aa0 a0→a0.length≤ca0→SlOwn (Kd.int .i64) 3 H Av_out10 cv_out10 v_out10 chv_out10→nv_out10=v_out10.length→blob_cut.j6 backl4 a0 a1 a2 a3 v_power9 v23 x1 v_h11 v_out10 v_from12=some r→RunH C12 (S12 F H r) H w0 [.c [1,1,1,1,1,0,1,0,0,1,1,1],.l [1,1,1,1,1,0,1,0,0],.b 2,.c [1,1,1,1,1,1]] [(0,.slice Aa0 a0.length ca0),(1,iv a1),(2,iv a2),(3,iv a3),(9,.int .u32 v_power9),(10,.slice Av_out10 nv_out10 cv_out10),(11,.int .u32 (IntKind.wrap .u32 ((IntKind.wrap .u32 (31*v_h11))+(IntKind.wrap .u32 x1)))),(12,iv v_from12),(21,.slice Aa0 a0.length ca0),(22,iv (a0.length:Int)),(23,iv v23)] H (chv_out10::F):=by
 intro a0 Aa0 ca0 a1 a2 a3 v_power9 v23 x1 v_h11 v_out10 Av_out10 nv_out10 cv_out10 chv_out10 v_from12 hra0 hca0 hov_out10 hnv_out10 heq
 subst hnv_out10
 unfold blob_cut.j6 at heq
 refine Rr<|Rd 2 [0,1,2,3,9,10,11,12,21,22,23] [(0,.slice Aa0 a0.length ca0),(1,iv a1),(2,iv a2),(3,iv a3),(9,.int .u32 v_power9),(10,.slice Av_out10 v_out10.length cv_out10),(11,.int .u32 (IntKind.wrap .u32 ((IntKind.wrap .u32 (31*v_h11))+(IntKind.wrap .u32 x1)))),(12,iv v_from12),(21,.slice Aa0 a0.length ca0),(22,iv (a0.length:Int)),(23,iv (w64 (v23+1)))]<|Ad 1 [.c [1,1,1,1,1,0,1,0,0],.l [1,1,1,1,1,0,1,0,0],.b 2,.c [1,1,1,1,1,1]]<|Kp [0,1,2,3,9,10,11,12,21,22,23] [(0,.slice Aa0 a0.length ca0),(1,iv a1),(2,iv a2),(3,iv a3),(9,.int .u32 v_power9),(10,.slice Av_out10 v_out10.length cv_out10),(11,.int .u32 (IntKind.wrap .u32 ((IntKind.wrap .u32 (31*v_h11))+(IntKind.wrap .u32 x1)))),(12,iv v_from12),(21,.slice Aa0 a0.length ca0),(22,iv (a0.length:Int)),(23,iv (w64 (v23+1)))] ?_
 exact hbackl4 a0 _ _ a1 a2 a3 v_power9 v_out10 _ _ _ _ (IntKind.wrap .u32 ((IntKind.wrap .u32 (31*v_h11))+(IntKind.wrap .u32 x1))) v_from12 (w64 (v23+1)) hra0 hca0 hov_out10 rfl heq
theorem blob_cut.j5_c {w0:World} {H:Hp} {F:List Ch} {r:(List Int)} (backl4:(List Int)→Int→Int→Int→Int→(List Int)→Int→Int→Int→Option (List Int))
  (hbackl4:∀ (a0:List Int) (Aa0:Option Addr) (ca0:Nat) (a1:Int) (a2:Int) (a3:Int) (v_power9:Int) (v_out10:List Int) (Av_out10:Option Addr) (nv_out10:Nat) (cv_out10:Nat) (chv_out10:Ch) (v_h11:Int) (v_from12:Int) (v23:Int) ,Rw (Kd.int .u8) H F Aa0 a0→a0.length≤ca0→SlOwn (Kd.int .i64) 3 H Av_out10 cv_out10 v_out10 chv_out10→nv_out10=v_out10.length→backl4 a0 a1 a2 a3 v_power9 v_out10 v_h11 v_from12 v23=some r→RunH C12 (S12 F H r) H w0 [.c [1,1,1,1,1,0,1,0,0],.l [1,1,1,1,1,0,1,0,0],.b 2,.c [1,1,1,1,1,1]] [(0,.slice Aa0 a0.length ca0),(1,iv a1),(2,iv a2),(3,iv a3),(9,.int .u32 v_power9),(10,.slice Av_out10 nv_out10 cv_out10),(11,.int .u32 v_h11),(12,iv v_from12),(21,.slice Aa0 a0.length ca0),(22,iv (a0.length:Int)),(23,iv v23)] H (chv_out10::F)):∀ (a0:List Int) (Aa0:Option Addr) (ca0:Nat) (a1:Int) (a2:Int) (a3:Int) (v_power9:Int) (v_out10:List Int) (Av_out10:Option Addr) (cv_out10:Nat) (chv_out10:Ch) (v_from12:Int) (v23:Int) (x1:Int) (v_h11:Int) ,Rw (Kd.int .u8) H F Aa0 a0→a0.length≤ca0→SlOwn (Kd.int .i64) 3 H Av_out10 cv_out10 v_out10 chv_out10→blob_cut.j5 backl4 a0 a1 a2 a3 v_power9 v_out10 v_from12 v23 x1 v_h11=some r→RunH C12 (S12 F H r) H w0 [.c [1,1,1,1,1,0,1,0,0,1,1,0,0,1,1,0],.c [1,1,1,1,1,0,1,0,0,1,1,0,0,1,1,1],.b 3,.c [1,1,1,1,1,0,1,0,0,1,1,1],.l [1,1,1,1,1,0,1,0,0],.b 2,.c [1,1,1,1,1,1]] [(0,.slice Aa0 a0.length ca0),(1,iv a1),(2,iv a2),(3,iv a3),(9,.int .u32 v_power9),(10,.slice Av_out10 v_out10.length cv_out10),(11,.int .u32 v_h11),(12,iv v_from12),(13,iv v23),(14,.int .u8 x1),(21,.slice Aa0 a0.length ca0),(22,iv (a0.length:Int)),(23,iv v23)] H (chv_out10::F):=by
 intro a0 Aa0 ca0 a1 a2 a3 v_power9 v_out10 Av_out10 cv_out10 chv_out10 v_from12 v23 x1 v_h11 hra0 hca0 hov_out10 heq
 unfold blob_cut.j5 at heq
 refine Rr<|Rd 6 [0,1,2,3,9,10,11,12,13,21,22,23] [(0,.slice Aa0 a0.length ca0),(1,iv a1),(2,iv a2),(3,iv a3),(9,.int .u32 v_power9),(10,.slice Av_out10 v_out10.length cv_out10),(11,.int .u32 (IntKind.wrap .u32 ((IntKind.wrap .u32 (31*v_h11))+(IntKind.wrap .u32 x1)))),(12,iv v_from12),(13,iv v23),(21,.slice Aa0 a0.length ca0),(22,iv (a0.length:Int)),(23,iv v23)]<|Ra 1 [1,1,1,1,1,0,1,0,0,1,1,0,0,1,1,1,0] [.c [1,1,1,1,1,0,1,0,0,1,1,0,0,1,1,1,1],.b 3,.c [1,1,1,1,1,0,1,0,0,1,1,1],.l [1,1,1,1,1,0,1,0,0],.b 2,.c [1,1,1,1,1,1]]<|Rd 5 [0,1,2,3,9,10,11,12,13,15,21,22,23] [(0,.slice Aa0 a0.length ca0),(1,iv a1),(2,iv a2),(3,iv a3),(9,.int .u32 v_power9),(10,.slice Av_out10 v_out10.length cv_out10),(11,.int .u32 (IntKind.wrap .u32 ((IntKind.wrap .u32 (31*v_h11))+(IntKind.wrap .u32 x1)))),(12,iv v_from12),(13,iv v23),(15,iv (w64 ((w64 (v23+1)) - v_from12))),(21,.slice Aa0 a0.length ca0),(22,iv (a0.length:Int)),(23,iv v23)]<|Ad 1 [.c [1,1,1,1,1,0,1,0,0,1,1,0,0,1,1,1,1,0],.c [1,1,1,1,1,0,1,0,0,1,1,0,0,1,1,1,1,1],.b 3,.c [1,1,1,1,1,0,1,0,0,1,1,1],.l [1,1,1,1,1,0,1,0,0],.b 2,.c [1,1,1,1,1,1]] ?_
 obtain ⟨t1,ht1,heq⟩:=bind_some heq
 have K5:RunH C12 (S12 F H r) H w0 [.c [1,1,1,1,1,0,1,0,0,1,1,0,0,1,1,1,1,1],.b 3,.c [1,1,1,1,1,0,1,0,0,1,1,1],.l [1,1,1,1,1,0,1,0,0],.b 2,.c [1,1,1,1,1,1]] [(0,.slice Aa0 a0.length ca0),(1,iv a1),(2,iv a2),(3,iv a3),(9,.int .u32 v_power9),(10,.slice Av_out10 v_out10.length cv_out10),(11,.int .u32 (IntKind.wrap .u32 ((IntKind.wrap .u32 (31*v_h11))+(IntKind.wrap .u32 x1)))),(12,iv v_from12),(13,iv v23),(15,iv (w64 ((w64 (v23+1)) - v_from12))),(21,.slice Aa0 a0.length ca0),(22,iv (a0.length:Int)),(23,iv v23),(64,.bool t1)] H (chv_out10::F):=by
  rcases bool_cases (t1) with hb5 | hb5
  ·replace heq:=bif_true hb5 heq
   refine Ct t1 hb5<|Rr<|Rk 2 [0,1,2,3,9,11,13,21,22,23,65,66] [(0,.slice Aa0 a0.length ca0),(1,iv a1),(2,iv a2),(3,iv a3),(9,.int .u32 v_power9),(11,.int .u32 (IntKind.wrap .u32 ((IntKind.wrap .u32 (31*v_h11))+(IntKind.wrap .u32 x1)))),(13,iv v23),(21,.slice Aa0 a0.length ca0),(22,iv (a0.length:Int)),(23,iv v23),(65,.slice Av_out10 v_out10.length cv_out10),(66,iv (w64 ((w64 (v23+1)) - v_from12)))] ?_
   refine RgH.does (DoesH.new (d:=67) (v:=fun g=>.slice (some ⟨g,0,none⟩) 1 1) (o:=fun g=>.cells #[iv (w64 ((w64 (v23+1)) - v_from12))] 3 (0,0)) (fun g=>by kernel_rfl)) ?_
   rintro _ _ _ _ ⟨g2,rfl,rfl,rfl⟩
   have ho3:SlOwn (Kd.int .i64) 3 H (some ⟨g2,0,none⟩) 1 ([w64 ((w64 (v23+1)) - v_from12)]:List Int) (some (g2,.cells #[iv (w64 ((w64 (v23+1)) - v_from12))] 3 (0,0))):=SlOwn.lit (xs:=([w64 ((w64 (v23+1)) - v_from12)]:List Int)) (by kernel_rfl) (Nat.le_of_ble_eq_true (by kernel_rfl)) (Kd.Rep.scalars rfl)
   obtain ⟨hn3,heq⟩:=guard?_some heq
   refine RgH.does (DoesH.append (d:=68) (k:=1) (t:=23) (e:=3) (bytes:=8) (kd:=(Kd.int .i64)) (n:=v_out10.length) (m:=1) (xs:=v_out10) (ys:=([w64 ((w64 (v23+1)) - v_from12)]:List Int)) (A:=Av_out10) (B:=(some ⟨g2,0,none⟩)) (c:=cv_out10) (cB:=1) (by kernel_rfl) rfl rfl (by kernel_rfl) rfl hov_out10 (fun w hh=>ho3.rdb (hh.chin 0 rfl)) (room_le hn3) (by have:=room_le hn3; omega)) ?_
   rintro _ _ _ _ ⟨A2,c2,ch2,rfl,rfl,rfl,ho4⟩
   refine Rd 8 [0,1,2,3,9,10,11,12,21,22,23] [(0,.slice Aa0 a0.length ca0),(1,iv a1),(2,iv a2),(3,iv a3),(9,.int .u32 v_power9),(10,.slice A2 ((v_out10++([w64 ((w64 (v23+1)) - v_from12)]:List Int)).length) c2),(11,.int .u32 (IntKind.wrap .u32 ((IntKind.wrap .u32 (31*v_h11))+(IntKind.wrap .u32 x1)))),(12,iv (w64 (v23+1))),(21,.slice Aa0 a0.length ca0),(22,iv (a0.length:Int)),(23,iv v23)]<|Ad 1 [.c [1,1,1,1,1,0,1,0,0,1,1,1],.l [1,1,1,1,1,0,1,0,0],.b 2,.c [1,1,1,1,1,1]]<|Kp [0,1,2,3,9,10,11,12,21,22,23] [(0,.slice Aa0 a0.length ca0),(1,iv a1),(2,iv a2),(3,iv a3),(9,.int .u32 v_power9),(10,.slice A2 ((v_out10++([w64 ((w64 (v23+1)) - v_from12)]:List Int)).length) c2),(11,.int .u32 (IntKind.wrap .u32 ((IntKind.wrap .u32 (31*v_h11))+(IntKind.wrap .u32 x1)))),(12,iv (w64 (v23+1))),(21,.slice Aa0 a0.length ca0),(22,iv (a0.length:Int)),(23,iv v23)] ?_
   refine RunH.pick 2 [1] (cs':=ch2::F) (by kernel_rfl) rfl ?_
   exact (blob_cut.j6_c (backl4:=backl4) hbackl4) a0 _ _ a1 a2 a3 v_power9 v23 x1 v_h11 (v_out10++([w64 ((w64 (v23+1)) - v_from12)]:List Int)) _ _ _ _ (w64 (v23+1)) hra0 hca0 ho4 rfl heq
  ·replace heq:=bif_false hb5 heq
   refine Cf t1 hb5<|Ad 2 [.c [1,1,1,1,1,0,1,0,0,1,1,1],.l [1,1,1,1,1,0,1,0,0],.b 2,.c [1,1,1,1,1,1]]<|Kp [0,1,2,3,9,10,11,12,21,22,23] [(0,.slice Aa0 a0.length ca0),(1,iv a1),(2,iv a2),(3,iv a3),(9,.int .u32 v_power9),(10,.slice Av_out10 v_out10.length cv_out10),(11,.int .u32 (IntKind.wrap .u32 ((IntKind.wrap .u32 (31*v_h11))+(IntKind.wrap .u32 x1)))),(12,iv v_from12),(21,.slice Aa0 a0.length ca0),(22,iv (a0.length:Int)),(23,iv v23)] ?_
   exact (blob_cut.j6_c (backl4:=backl4) hbackl4) a0 _ _ a1 a2 a3 v_power9 v23 x1 v_h11 v_out10 _ _ _ _ v_from12 hra0 hca0 hov_out10 rfl heq
 replace heq:=ht1
 refine Rr<|Rk 4 [52,0,1,2,3,9,10,11,12,13,15,21,22,23] [(52,.bool (decide (a1≤(w64 ((w64 (v23+1)) - v_from12))))),(0,.slice Aa0 a0.length ca0),(1,iv a1),(2,iv a2),(3,iv a3),(9,.int .u32 v_power9),(10,.slice Av_out10 v_out10.length cv_out10),(11,.int .u32 (IntKind.wrap .u32 ((IntKind.wrap .u32 (31*v_h11))+(IntKind.wrap .u32 x1)))),(12,iv v_from12),(13,iv v23),(15,iv (w64 ((w64 (v23+1)) - v_from12))),(21,.slice Aa0 a0.length ca0),(22,iv (a0.length:Int)),(23,iv v23)] ?_
 rcases bool_cases (decide (a1≤(w64 ((w64 (v23+1)) - v_from12)))) with hb3 | hb3
 ·replace heq:=bif_true hb3 heq
  refine RgH.val1 (v':=.bool true) (congrArg Value.bool hb3) ?_
  obtain ⟨hn2,heq⟩:=guard?_some heq
  refine Rv 12 [60,0,1,2,3,9,10,11,12,13,15,21,22,23] [] [.need ((0:Int)≤a2)] [(60,.bool ((iAnd .u32 (IntKind.wrap .u32 ((IntKind.wrap .u32 (31*v_h11))+(IntKind.wrap .u32 x1))) (IntKind.wrap .u32 ((iShl .u32 1 a2) - 1))) == 0)),(0,.slice Aa0 a0.length ca0),(1,iv a1),(2,iv a2),(3,iv a3),(9,.int .u32 v_power9),(10,.slice Av_out10 v_out10.length cv_out10),(11,.int .u32 (IntKind.wrap .u32 ((IntKind.wrap .u32 (31*v_h11))+(IntKind.wrap .u32 x1)))),(12,iv v_from12),(13,iv v23),(15,iv (w64 ((w64 (v23+1)) - v_from12))),(21,.slice Aa0 a0.length ca0),(22,iv (a0.length:Int)),(23,iv v23)] (fun w hh=>(of_decide_eq_true hn2:(0:Int)≤a2)) ?_
  rcases bool_cases ((iAnd .u32 (IntKind.wrap .u32 ((IntKind.wrap .u32 (31*v_h11))+(IntKind.wrap .u32 x1))) (IntKind.wrap .u32 ((iShl .u32 1 a2) - 1))) == 0) with hb4 | hb4
  ·replace heq:=bif_true hb4 heq
   refine RgH.val1 (v':=.bool true) (congrArg Value.bool hb4) ?_
   refine Rk 16 [0,1,2,3,9,10,11,12,13,15,21,22,23,64] [(0,.slice Aa0 a0.length ca0),(1,iv a1),(2,iv a2),(3,iv a3),(9,.int .u32 v_power9),(10,.slice Av_out10 v_out10.length cv_out10),(11,.int .u32 (IntKind.wrap .u32 ((IntKind.wrap .u32 (31*v_h11))+(IntKind.wrap .u32 x1)))),(12,iv v_from12),(13,iv v23),(15,iv (w64 ((w64 (v23+1)) - v_from12))),(21,.slice Aa0 a0.length ca0),(22,iv (a0.length:Int)),(23,iv v23),(64,.bool true)] ?_
   obtain rfl:=Option.some.inj heq
   refine Kg [0,1,2,3,9,10,11,12,13,15,21,22,23,64] [(0,.slice Aa0 a0.length ca0),(1,iv a1),(2,iv a2),(3,iv a3),(9,.int .u32 v_power9),(10,.slice Av_out10 v_out10.length cv_out10),(11,.int .u32 (IntKind.wrap .u32 ((IntKind.wrap .u32 (31*v_h11))+(IntKind.wrap .u32 x1)))),(12,iv v_from12),(13,iv v23),(15,iv (w64 ((w64 (v23+1)) - v_from12))),(21,.slice Aa0 a0.length ca0),(22,iv (a0.length:Int)),(23,iv v23),(64,.bool true)]<|Dn ?_
   exact K5
  ·replace heq:=bif_false hb4 heq
   refine RgH.val1 (v':=.bool false) (congrArg Value.bool hb4) ?_
   refine Rk 16 [0,1,2,3,9,10,11,12,13,15,21,22,23,64] [(0,.slice Aa0 a0.length ca0),(1,iv a1),(2,iv a2),(3,iv a3),(9,.int .u32 v_power9),(10,.slice Av_out10 v_out10.length cv_out10),(11,.int .u32 (IntKind.wrap .u32 ((IntKind.wrap .u32 (31*v_h11))+(IntKind.wrap .u32 x1)))),(12,iv v_from12),(13,iv v23),(15,iv (w64 ((w64 (v23+1)) - v_from12))),(21,.slice Aa0 a0.length ca0),(22,iv (a0.length:Int)),(23,iv v23),(64,.bool (decide (a3≤(w64 ((w64 (v23+1)) - v_from12)))))] ?_
   obtain rfl:=Option.some.inj heq
   refine Kg [0,1,2,3,9,10,11,12,13,15,21,22,23,64] [(0,.slice Aa0 a0.length ca0),(1,iv a1),(2,iv a2),(3,iv a3),(9,.int .u32 v_power9),(10,.slice Av_out10 v_out10.length cv_out10),(11,.int .u32 (IntKind.wrap .u32 ((IntKind.wrap .u32 (31*v_h11))+(IntKind.wrap .u32 x1)))),(12,iv v_from12),(13,iv v23),(15,iv (w64 ((w64 (v23+1)) - v_from12))),(21,.slice Aa0 a0.length ca0),(22,iv (a0.length:Int)),(23,iv v23),(64,.bool (decide (a3≤(w64 ((w64 (v23+1)) - v_from12)))))]<|Dn ?_
   exact K5
 ·replace heq:=bif_false hb3 heq
  refine RgH.val1 (v':=.bool false) (congrArg Value.bool hb3) ?_
  refine Rk 16 [0,1,2,3,9,10,11,12,13,15,21,22,23,64] [(0,.slice Aa0 a0.length ca0),(1,iv a1),(2,iv a2),(3,iv a3),(9,.int .u32 v_power9),(10,.slice Av_out10 v_out10.length cv_out10),(11,.int .u32 (IntKind.wrap .u32 ((IntKind.wrap .u32 (31*v_h11))+(IntKind.wrap .u32 x1)))),(12,iv v_from12),(13,iv v23),(15,iv (w64 ((w64 (v23+1)) - v_from12))),(21,.slice Aa0 a0.length ca0),(22,iv (a0.length:Int)),(23,iv v23),(64,.bool (decide (a3≤(w64 ((w64 (v23+1)) - v_from12)))))] ?_
  obtain rfl:=Option.some.inj heq
  refine Kg [0,1,2,3,9,10,11,12,13,15,21,22,23,64] [(0,.slice Aa0 a0.length ca0),(1,iv a1),(2,iv a2),(3,iv a3),(9,.int .u32 v_power9),(10,.slice Av_out10 v_out10.length cv_out10),(11,.int .u32 (IntKind.wrap .u32 ((IntKind.wrap .u32 (31*v_h11))+(IntKind.wrap .u32 x1)))),(12,iv v_from12),(13,iv v23),(15,iv (w64 ((w64 (v23+1)) - v_from12))),(21,.slice Aa0 a0.length ca0),(22,iv (a0.length:Int)),(23,iv v23),(64,.bool (decide (a3≤(w64 ((w64 (v23+1)) - v_from12)))))]<|Dn ?_
  exact K5
theorem blob_cut.l4_c {w0:World} {H:Hp} {F:List Ch} {r:(List Int)} (e2:(List Int)→(List Int)→Int→Option (List Int))
  (he2:∀ (a0:List Int) (Aa0:Option Addr) (ca0:Nat) (v_out10:List Int) (Av_out10:Option Addr) (nv_out10:Nat) (cv_out10:Nat) (chv_out10:Ch) (v_from12:Int) ,Rw (Kd.int .u8) H F Aa0 a0→a0.length≤ca0→SlOwn (Kd.int .i64) 3 H Av_out10 cv_out10 v_out10 chv_out10→nv_out10=v_out10.length→e2 a0 v_out10 v_from12=some r→RunH C12 (S12 F H r) H w0 [.c [1,1,1,1,1,1,0,0],.c [1,1,1,1,1,1,0,1],.c [1,1,1,1,1,1,1]] [(0,.slice Aa0 a0.length ca0),(10,.slice Av_out10 nv_out10 cv_out10),(12,iv v_from12)] H (chv_out10::F)):∀ (k:Nat),∀ (a0:List Int) (Aa0:Option Addr) (ca0:Nat) (a1:Int) (a2:Int) (a3:Int) (v_power9:Int) (v_out10:List Int) (Av_out10:Option Addr) (nv_out10:Nat) (cv_out10:Nat) (chv_out10:Ch) (v_h11:Int) (v_from12:Int) (v23:Int) ,Rw (Kd.int .u8) H F Aa0 a0→a0.length≤ca0→SlOwn (Kd.int .i64) 3 H Av_out10 cv_out10 v_out10 chv_out10→nv_out10=v_out10.length→blob_cut.l4 e2 k a0 a1 a2 a3 v_power9 v_out10 v_h11 v_from12 v23=some r→RunH C12 (S12 F H r) H w0 [.c [1,1,1,1,1,0,1,0,0],.l [1,1,1,1,1,0,1,0,0],.b 2,.c [1,1,1,1,1,1]] [(0,.slice Aa0 a0.length ca0),(1,iv a1),(2,iv a2),(3,iv a3),(9,.int .u32 v_power9),(10,.slice Av_out10 nv_out10 cv_out10),(11,.int .u32 v_h11),(12,iv v_from12),(21,.slice Aa0 a0.length ca0),(22,iv (a0.length:Int)),(23,iv v23)] H (chv_out10::F):=by
 intro k
 induction k with
 | zero=>intro a0 Aa0 ca0 a1 a2 a3 v_power9 v_out10 Av_out10 nv_out10 cv_out10 chv_out10 v_h11 v_from12 v23 hra0 hca0 hov_out10 hnv_out10 heq; exact nomatch (show (none:Option (List Int))=some r from heq)
 | succ k ihk =>
  intro a0 Aa0 ca0 a1 a2 a3 v_power9 v_out10 Av_out10 nv_out10 cv_out10 chv_out10 v_h11 v_from12 v23 hra0 hca0 hov_out10 hnv_out10 heq
  subst hnv_out10
  rw [blob_cut.l4] at heq
  refine Ra 1 [1,1,1,1,1,0,1,0,0,0] [.c [1,1,1,1,1,0,1,0,0,1],.l [1,1,1,1,1,0,1,0,0],.b 2,.c [1,1,1,1,1,1]]<|Rd 1 [0,1,2,3,9,10,11,12,21,22,23,24] [(0,.slice Aa0 a0.length ca0),(1,iv a1),(2,iv a2),(3,iv a3),(9,.int .u32 v_power9),(10,.slice Av_out10 v_out10.length cv_out10),(11,.int .u32 v_h11),(12,iv v_from12),(21,.slice Aa0 a0.length ca0),(22,iv (a0.length:Int)),(23,iv v23),(24,.bool (decide (v23<(a0.length:Int))))]<|Ad 1 [.c [1,1,1,1,1,0,1,0,0,1,0],.c [1,1,1,1,1,0,1,0,0,1,1],.l [1,1,1,1,1,0,1,0,0],.b 2,.c [1,1,1,1,1,1]] ?_
  rcases bool_cases (decide (v23<(a0.length:Int))) with hb2 | hb2
  ·replace heq:=bif_true hb2 heq
   refine Ct (decide (v23<(a0.length:Int))) hb2<|Ra 4 [1,1,1,1,1,0,1,0,0,1,1,0,0,0] [.c [1,1,1,1,1,0,1,0,0,1,1,0,0,1],.b 3,.c [1,1,1,1,1,0,1,0,0,1,1,1],.l [1,1,1,1,1,0,1,0,0],.b 2,.c [1,1,1,1,1,1]] ?_
   obtain ⟨x1,hx1,heq⟩:=bind_some heq
   obtain ⟨ha1,cs1,hK1,hcc1⟩:=hra0.get hx1
   obtain rfl:cs1=[.int .u8 x1]:=hK1
   refine Rw' 5 [0,1,2,3,9,10,11,12,13,14,21,22,23] [.int .u8 x1] [.need (Aa0=some (adr Aa0)∧(0:Int)≤v23∧v23<((a0.length:Nat):Int)),.load ((adr Aa0).add (v23.toNat*1)) (.int .u8 x1)] [(0,.slice Aa0 a0.length ca0),(1,iv a1),(2,iv a2),(3,iv a3),(9,.int .u32 v_power9),(10,.slice Av_out10 v_out10.length cv_out10),(11,.int .u32 v_h11),(12,iv v_from12),(13,iv v23),(14,.int .u8 x1),(21,.slice Aa0 a0.length ca0),(22,iv (a0.length:Int)),(23,iv v23)] (fun w hh=>⟨⟨ha1,(at?_some hx1).1,(at?_some hx1).2.1⟩,(hcc1 _ _ (hh.drop 1) 0 _ rfl)⟩)<|Ra 2 [1,1,1,1,1,0,1,0,0,1,1,0,0,1,0,0] [.c [1,1,1,1,1,0,1,0,0,1,1,0,0,1,0,1],.c [1,1,1,1,1,0,1,0,0,1,1,0,0,1,1],.b 3,.c [1,1,1,1,1,0,1,0,0,1,1,1],.l [1,1,1,1,1,0,1,0,0],.b 2,.c [1,1,1,1,1,1]]<|Rd 2 [0,1,2,3,9,10,11,12,13,14,21,22,23,29] [(0,.slice Aa0 a0.length ca0),(1,iv a1),(2,iv a2),(3,iv a3),(9,.int .u32 v_power9),(10,.slice Av_out10 v_out10.length cv_out10),(11,.int .u32 v_h11),(12,iv v_from12),(13,iv v23),(14,.int .u8 x1),(21,.slice Aa0 a0.length ca0),(22,iv (a0.length:Int)),(23,iv v23),(29,.bool (decide (16≤v23)))] ?_
   rcases bool_cases (decide (16≤v23)) with hb6 | hb6
   ·replace heq:=bif_true hb6 heq
    refine Ct (decide (16≤v23)) hb6<|Rr ?_
    obtain ⟨x2,hx2,heq⟩:=bind_some heq
    obtain ⟨ha2,cs2,hK2,hcc2⟩:=hra0.get hx2
    obtain rfl:cs2=[.int .u8 x2]:=hK2
    refine Rw' 11 [0,1,2,3,9,10,11,12,13,14,21,22,23] [.int .u8 x2] [.need (Aa0=some (adr Aa0)∧(0:Int)≤(w64 (v23 - 16))∧(w64 (v23 - 16))<((a0.length:Nat):Int)),.load ((adr Aa0).add ((w64 (v23 - 16)).toNat*1)) (.int .u8 x2)] [(0,.slice Aa0 a0.length ca0),(1,iv a1),(2,iv a2),(3,iv a3),(9,.int .u32 v_power9),(10,.slice Av_out10 v_out10.length cv_out10),(11,.int .u32 (IntKind.wrap .u32 (v_h11 - (IntKind.wrap .u32 (v_power9*(IntKind.wrap .u32 x2)))))),(12,iv v_from12),(13,iv v23),(14,.int .u8 x1),(21,.slice Aa0 a0.length ca0),(22,iv (a0.length:Int)),(23,iv v23)] (fun w hh=>⟨⟨ha2,(at?_some hx2).1,(at?_some hx2).2.1⟩,(hcc2 _ _ (hh.drop 1) 0 _ rfl)⟩)<|Ad 1 [.c [1,1,1,1,1,0,1,0,0,1,1,0,0,1,1,0],.c [1,1,1,1,1,0,1,0,0,1,1,0,0,1,1,1],.b 3,.c [1,1,1,1,1,0,1,0,0,1,1,1],.l [1,1,1,1,1,0,1,0,0],.b 2,.c [1,1,1,1,1,1]]<|Kp [0,1,2,3,9,10,11,12,13,14,21,22,23] [(0,.slice Aa0 a0.length ca0),(1,iv a1),(2,iv a2),(3,iv a3),(9,.int .u32 v_power9),(10,.slice Av_out10 v_out10.length cv_out10),(11,.int .u32 (IntKind.wrap .u32 (v_h11 - (IntKind.wrap .u32 (v_power9*(IntKind.wrap .u32 x2)))))),(12,iv v_from12),(13,iv v23),(14,.int .u8 x1),(21,.slice Aa0 a0.length ca0),(22,iv (a0.length:Int)),(23,iv v23)] ?_
    exact (blob_cut.j5_c (backl4:=(blob_cut.l4 e2 k)) ihk) a0 _ _ a1 a2 a3 v_power9 v_out10 _ _ _ v_from12 v23 x1 (IntKind.wrap .u32 (v_h11 - (IntKind.wrap .u32 (v_power9*(IntKind.wrap .u32 x2))))) hra0 hca0 hov_out10 heq
   ·replace heq:=bif_false hb6 heq
    refine Cf (decide (16≤v23)) hb6<|Ad 2 [.c [1,1,1,1,1,0,1,0,0,1,1,0,0,1,1,0],.c [1,1,1,1,1,0,1,0,0,1,1,0,0,1,1,1],.b 3,.c [1,1,1,1,1,0,1,0,0,1,1,1],.l [1,1,1,1,1,0,1,0,0],.b 2,.c [1,1,1,1,1,1]]<|Kp [0,1,2,3,9,10,11,12,13,14,21,22,23] [(0,.slice Aa0 a0.length ca0),(1,iv a1),(2,iv a2),(3,iv a3),(9,.int .u32 v_power9),(10,.slice Av_out10 v_out10.length cv_out10),(11,.int .u32 v_h11),(12,iv v_from12),(13,iv v23),(14,.int .u8 x1),(21,.slice Aa0 a0.length ca0),(22,iv (a0.length:Int)),(23,iv v23)] ?_
    exact (blob_cut.j5_c (backl4:=(blob_cut.l4 e2 k)) ihk) a0 _ _ a1 a2 a3 v_power9 v_out10 _ _ _ v_from12 v23 x1 v_h11 hra0 hca0 hov_out10 heq
  ·replace heq:=bif_false hb2 heq
   refine Cf (decide (v23<(a0.length:Int))) hb2<|Ad 3 [.c [1,1,1,1,1,1,0,0],.c [1,1,1,1,1,1,0,1],.c [1,1,1,1,1,1,1]]<|Kp [0,10,12] [(0,.slice Aa0 a0.length ca0),(10,.slice Av_out10 v_out10.length cv_out10),(12,iv v_from12)] ?_
   exact he2 a0 _ _ v_out10 _ _ _ _ v_from12 hra0 hca0 hov_out10 rfl heq
theorem blob_cut.e1_c {w0:World} {H:Hp} {F:List Ch} {r:(List Int)}:∀ (a0:List Int) (Aa0:Option Addr) (ca0:Nat) (a1:Int) (a2:Int) (a3:Int) (v_power9:Int) ,Rw (Kd.int .u8) H F Aa0 a0→a0.length≤ca0→blob_cut.e1 a0 a1 a2 a3 v_power9=some r→RunH C12 (S12 F H r) H w0 [.c [1,1,1,0],.c [1,1,1,1]] [(0,.slice Aa0 a0.length ca0),(1,iv a1),(2,iv a2),(3,iv a3),(9,.int .u32 v_power9)] H (F):=by
 intro a0 Aa0 ca0 a1 a2 a3 v_power9 hra0 hca0 heq
 unfold blob_cut.e1 at heq
 refine Rr<|Rd 1 [0,1,2,3,9,10] [(0,.slice Aa0 a0.length ca0),(1,iv a1),(2,iv a2),(3,iv a3),(9,.int .u32 v_power9),(10,.slice none 0 0)]<|Ra 1 [1,1,1,1,0] [.c [1,1,1,1,1]]<|Rd 2 [0,1,2,3,9,10,11,12] [(0,.slice Aa0 a0.length ca0),(1,iv a1),(2,iv a2),(3,iv a3),(9,.int .u32 v_power9),(10,.slice none 0 0),(11,.int .u32 0),(12,iv 0)]<|Ra 2 [1,1,1,1,1,0,0] [.c [1,1,1,1,1,0,1],.c [1,1,1,1,1,1]]<|Rd 3 [0,1,2,3,9,10,11,12,21,22,23] [(0,.slice Aa0 a0.length ca0),(1,iv a1),(2,iv a2),(3,iv a3),(9,.int .u32 v_power9),(10,.slice none 0 0),(11,.int .u32 0),(12,iv 0),(21,.slice Aa0 a0.length ca0),(22,iv (a0.length:Int)),(23,iv 0)]<|Ad 2 [.c [1,1,1,1,1,0,1,0,0],.l [1,1,1,1,1,0,1,0,0],.b 2,.c [1,1,1,1,1,1]]<|RunH.nilc ?_
 have ho5:SlOwn (Kd.int .i64) 3 H none 0 ([]:List Int) none:=SlOwn.nil
 refine Kp [0,1,2,3,9,10,11,12,21,22,23] [(0,.slice Aa0 a0.length ca0),(1,iv a1),(2,iv a2),(3,iv a3),(9,.int .u32 v_power9),(10,.slice none 0 0),(11,.int .u32 0),(12,iv 0),(21,.slice Aa0 a0.length ca0),(22,iv (a0.length:Int)),(23,iv 0)] ?_
 exact ((blob_cut.l4_c (e2:=blob_cut.e2) (blob_cut.e2_c)) big) a0 _ _ a1 a2 a3 v_power9 ([]:List Int) _ _ _ _ 0 0 0 hra0 hca0 ho5 rfl heq
theorem blob_cut.l7_c {w0:World} {H:Hp} {F:List Ch} {r:(List Int)} (e1:(List Int)→Int→Int→Int→Int→Option (List Int))
  (he1:∀ (a0:List Int) (Aa0:Option Addr) (ca0:Nat) (a1:Int) (a2:Int) (a3:Int) (v_power9:Int) ,Rw (Kd.int .u8) H F Aa0 a0→a0.length≤ca0→e1 a0 a1 a2 a3 v_power9=some r→RunH C12 (S12 F H r) H w0 [.c [1,1,1,0],.c [1,1,1,1]] [(0,.slice Aa0 a0.length ca0),(1,iv a1),(2,iv a2),(3,iv a3),(9,.int .u32 v_power9)] H (F)):∀ (k:Nat),∀ (a0:List Int) (Aa0:Option Addr) (ca0:Nat) (a1:Int) (a2:Int) (a3:Int) (v_power9:Int) (v16:Int) ,Rw (Kd.int .u8) H F Aa0 a0→a0.length≤ca0→blob_cut.l7 e1 k a0 a1 a2 a3 v_power9 v16=some r→RunH C12 (S12 F H r) H w0 [.c [1,1,0,1,0,0],.l [1,1,0,1,0,0],.b 0,.c [1,1,1]] [(0,.slice Aa0 a0.length ca0),(1,iv a1),(2,iv a2),(3,iv a3),(9,.int .u32 v_power9),(16,iv v16)] H (F):=by
 intro k
 induction k with
 | zero=>intro a0 Aa0 ca0 a1 a2 a3 v_power9 v16 hra0 hca0 heq; exact nomatch (show (none:Option (List Int))=some r from heq)
 | succ k ihk =>
  intro a0 Aa0 ca0 a1 a2 a3 v_power9 v16 hra0 hca0 heq
  rw [blob_cut.l7] at heq
  refine Ra 1 [1,1,0,1,0,0,0] [.c [1,1,0,1,0,0,1],.l [1,1,0,1,0,0],.b 0,.c [1,1,1]]<|Rd 1 [0,1,2,3,9,16,17] [(0,.slice Aa0 a0.length ca0),(1,iv a1),(2,iv a2),(3,iv a3),(9,.int .u32 v_power9),(16,iv v16),(17,.bool (decide (v16<15)))]<|Ad 1 [.c [1,1,0,1,0,0,1,0],.c [1,1,0,1,0,0,1,1],.l [1,1,0,1,0,0],.b 0,.c [1,1,1]] ?_
  rcases bool_cases (decide (v16<15)) with hb7 | hb7
  ·replace heq:=bif_true hb7 heq
   refine Ct (decide (v16<15)) hb7<|Ra 3 [1,1,0,1,0,0,1,1,0,0] [.b 1,.c [1,1,0,1,0,0,1,1,1],.l [1,1,0,1,0,0],.b 0,.c [1,1,1]]<|Rd 3 [0,1,2,3,9,16] [(0,.slice Aa0 a0.length ca0),(1,iv a1),(2,iv a2),(3,iv a3),(9,.int .u32 (IntKind.wrap .u32 (v_power9*31))),(16,iv v16)]<|Ra 1 [1,1,0,1,0,0,1,1,1] [.l [1,1,0,1,0,0],.b 0,.c [1,1,1]]<|Rd 2 [0,1,2,3,9,16] [(0,.slice Aa0 a0.length ca0),(1,iv a1),(2,iv a2),(3,iv a3),(9,.int .u32 (IntKind.wrap .u32 (v_power9*31))),(16,iv (w64 (v16+1)))]<|Ad 1 [.c [1,1,0,1,0,0],.l [1,1,0,1,0,0],.b 0,.c [1,1,1]]<|Kp [0,1,2,3,9,16] [(0,.slice Aa0 a0.length ca0),(1,iv a1),(2,iv a2),(3,iv a3),(9,.int .u32 (IntKind.wrap .u32 (v_power9*31))),(16,iv (w64 (v16+1)))] ?_
   exact ihk a0 _ _ a1 a2 a3 (IntKind.wrap .u32 (v_power9*31)) (w64 (v16+1)) hra0 hca0 heq
  ·replace heq:=bif_false hb7 heq
   refine Cf (decide (v16<15)) hb7<|Ad 2 [.c [1,1,1,0],.c [1,1,1,1]]<|Kp [0,1,2,3,9] [(0,.slice Aa0 a0.length ca0),(1,iv a1),(2,iv a2),(3,iv a3),(9,.int .u32 v_power9)] ?_
   exact he1 a0 _ _ a1 a2 a3 v_power9 hra0 hca0 heq
theorem blob_cut_c {w0:World} {H:Hp} {F:List Ch} {a0:List Int} {Aa0:Option Addr} {na0:Nat} {ca0:Nat} {a1:Int} {a2:Int} {a3:Int} {r:(List Int)} (hra0:Rw (Kd.int .u8) H F Aa0 a0) (hca0:na0≤ca0) (hna0:na0=a0.length) (heq:blob_cut.f a0 a1 a2 a3=some r):CallsH Tryd.prog 12 #[.slice Aa0 na0 ca0,iv a1,iv a2,iv a3] H w0 (F) (S12 F H r):=by
 refine calls_of_runH (F:=C12) Tryd.func12 (by kernel_rfl) Tryd.ntmps12 (args:=[.slice Aa0 na0 ca0,iv a1,iv a2,iv a3]) (by kernel_rfl) ?_
 subst hna0
 unfold blob_cut.f at heq
 refine Ra 1 [0] [.c [1]]<|Rd 1 [0,1,2,3] [(0,.slice Aa0 a0.length ca0),(1,iv a1),(2,iv a2),(3,iv a3)]<|Ra 1 [1,0] [.c [1,1]]<|Rd 1 [0,1,2,3,9] [(0,.slice Aa0 a0.length ca0),(1,iv a1),(2,iv a2),(3,iv a3),(9,.int .u32 1)]<|Ra 2 [1,1,0,0] [.c [1,1,0,1],.c [1,1,1]]<|Rd 1 [0,1,2,3,9,16] [(0,.slice Aa0 a0.length ca0),(1,iv a1),(2,iv a2),(3,iv a3),(9,.int .u32 1),(16,iv 0)]<|Ad 2 [.c [1,1,0,1,0,0],.l [1,1,0,1,0,0],.b 0,.c [1,1,1]]<|Kp [0,1,2,3,9,16] [(0,.slice Aa0 a0.length ca0),(1,iv a1),(2,iv a2),(3,iv a3),(9,.int .u32 1),(16,iv 0)] ?_
 exact ((blob_cut.l7_c (e1:=blob_cut.e1) (blob_cut.e1_c)) big) a0 _ _ a1 a2 a3 1 0 hra0 hca0 heq
noncomputable def C4:Ctx:={ P:=Tryd.prog,f:=4,N:=42,c:=bodyOf Tryd.f4 }
def S4 (F:List Ch) (H0:Hp) (r:(List Int) × Int) (v:Value) (H:Hp) (cs:List Ch):Prop:=∃ (A0:Option Addr) (c0:Nat) (ch0:Ch),H0=H∧v=.tuple #[.slice A0 r.1.length c0,iv r.2]∧ch0::F=cs∧SlOwn (Kd.int .i64) 3 H A0 c0 r.1 ch0
theorem blob_Pieces_c {w0:World} {H:Hp} {F:List Ch} {a0:List Int} {Aa0:Option Addr} {na0:Nat} {ca0:Nat} {a1:Int} {a2:Int} {a3:Int} {r:(List Int) × Int} (hra0:Rw (Kd.int .u8) H F Aa0 a0) (hca0:na0≤ca0) (hna0:na0=a0.length) (heq:blob_Pieces.f a0 a1 a2 a3=some r):CallsH Tryd.prog 4 #[.slice Aa0 na0 ca0,iv a1,iv a2,iv a3] H w0 (F) (S4 F H r):=by
 refine calls_of_runH (F:=C4) Tryd.func4 (by kernel_rfl) Tryd.ntmps4 (args:=[.slice Aa0 na0 ca0,iv a1,iv a2,iv a3]) (by kernel_rfl) ?_
 subst hna0
 unfold blob_Pieces.f at heq
 refine Ra 1 [0] [.c [1]]<|Rd 2 [0,1,2,3] [(0,.slice Aa0 a0.length ca0),(1,iv a1),(2,iv a2),(3,iv a3)]<|Ra 2 [1,0,0] [.c [1,0,1],.c [1,1]]<|Rd 3 [0,1,2,3,13] [(0,.slice Aa0 a0.length ca0),(1,iv a1),(2,iv a2),(3,iv a3),(13,.bool (decide (2000000<(a0.length:Int))))] ?_
 rcases bool_cases (decide (2000000<(a0.length:Int))) with hb1 | hb1
 ·replace heq:=bif_true hb1 heq
  refine Ct (decide (2000000<(a0.length:Int))) hb1<|Ra 1 [1,0,1,0,0] [.c [1,0,1,0,1],.c [1,1]]<|Rd 2 [8,9] [(8,.slice none 0 0),(9,iv 2)]<|RunH.nilc ?_
  have ho1:SlOwn (Kd.int .i64) 3 H none 0 ([]:List Int) none:=SlOwn.nil
  obtain rfl:=Option.some.inj heq
  exact RunH.done (by kernel_rfl) Tryd.func4 (v:=.tuple #[.slice none 0 0,iv 2]) (by kernel_rfl) ⟨none,0,none,rfl,rfl,rfl,ho1⟩
 ·replace heq:=bif_false hb1 heq
  refine Cf (decide (2000000<(a0.length:Int))) hb1<|Ad 3 [.c [1,1,0,0],.c [1,1,0,1],.c [1,1,1]] ?_
  obtain ⟨t1,ht1,heq⟩:=bind_some heq
  have K2:RunH C4 (S4 F H r) H w0 [.c [1,1,0,1],.c [1,1,1]] [(0,.slice Aa0 a0.length ca0),(1,iv a1),(2,iv a2),(3,iv a3),(32,.bool t1)] H (F):=by
   rcases bool_cases (t1) with hb6 | hb6
   ·replace heq:=bif_true hb6 heq
    refine Ct t1 hb6<|Ra 1 [1,1,0,1,0,0] [.c [1,1,0,1,0,1],.c [1,1,1]]<|Rd 2 [8,9] [(8,.slice none 0 0),(9,iv 1)]<|RunH.nilc ?_
    have ho2:SlOwn (Kd.int .i64) 3 H none 0 ([]:List Int) none:=SlOwn.nil
    obtain rfl:=Option.some.inj heq
    exact RunH.done (by kernel_rfl) Tryd.func4 (v:=.tuple #[.slice none 0 0,iv 1]) (by kernel_rfl) ⟨none,0,none,rfl,rfl,rfl,ho2⟩
   ·replace heq:=bif_false hb6 heq
    refine Cf t1 hb6<|Ra 2 [1,1,1,0] [.c [1,1,1,1]]<|Rk 4 [33,34,35,36] [(33,.slice Aa0 a0.length ca0),(34,iv a1),(35,iv a2),(36,iv a3)] ?_
    obtain ⟨y1,hy1,heq⟩:=bind_some heq
    refine RgH.does (DoesH.call (d:=37) (g:=12) (args:=#[.slice Aa0 a0.length ca0,iv a1,iv a2,iv a3]) (by kernel_rfl) (blob_cut_c (a0:=a0) (a1:=a1) (a2:=a2) (a3:=a3) hra0 hca0 rfl hy1)) ?_
    rintro _ _ _ _ ⟨_,rfl,A1,c1,ch1,rfl,rfl,rfl,ho3⟩
    refine Rd 6 [10] [(10,.slice A1 y1.length c1)]<|Ra 2 [1,1,1,1,0,0] [.c [1,1,1,1,0,1],.c [1,1,1,1,1]]<|Rd 3 [10,40] [(10,.slice A1 y1.length c1),(40,.bool (decide (20000<(y1.length:Int))))] ?_
    rcases bool_cases (decide (20000<(y1.length:Int))) with hb7 | hb7
    ·replace heq:=bif_true hb7 heq
     refine Ct (decide (20000<(y1.length:Int))) hb7<|Ra 1 [1,1,1,1,0,1,0,0] [.c [1,1,1,1,0,1,0,1],.c [1,1,1,1,1]]<|Rd 2 [8,9] [(8,.slice none 0 0),(9,iv 2)]<|RunH.nilc ?_
     have ho4:SlOwn (Kd.int .i64) 3 H none 0 ([]:List Int) none:=SlOwn.nil
     obtain rfl:=Option.some.inj heq
     refine RunH.pick 2 [0] (cs':=none::F) (by kernel_rfl) rfl ?_
     exact RunH.done (by kernel_rfl) Tryd.func4 (v:=.tuple #[.slice none 0 0,iv 2]) (by kernel_rfl) ⟨none,0,none,rfl,rfl,rfl,ho4⟩
    ·replace heq:=bif_false hb7 heq
     refine Cf (decide (20000<(y1.length:Int))) hb7<|Ra 2 [1,1,1,1,1,0] [.c [1,1,1,1,1,1]]<|Rd 3 [8,9] [(8,.slice A1 y1.length c1),(9,iv 0)] ?_
     obtain rfl:=Option.some.inj heq
     exact RunH.done (by kernel_rfl) Tryd.func4 (v:=.tuple #[.slice A1 y1.length c1,iv 0]) (by kernel_rfl) ⟨A1,c1,ch1,rfl,rfl,rfl,ho3⟩
  replace heq:=ht1
  refine Rr<|Rk 3 [16,0,1,2,3] [(16,.bool (decide (a1<1))),(0,.slice Aa0 a0.length ca0),(1,iv a1),(2,iv a2),(3,iv a3)] ?_
  rcases bool_cases (decide (a1<1)) with hb2 | hb2
  ·replace heq:=bif_true hb2 heq
   refine RgH.val1 (v':=.bool true) (congrArg Value.bool hb2) ?_
   refine Rk 19 [0,1,2,3,32] [(0,.slice Aa0 a0.length ca0),(1,iv a1),(2,iv a2),(3,iv a3),(32,.bool true)] ?_
   obtain rfl:=Option.some.inj heq
   refine Kg [0,1,2,3,32] [(0,.slice Aa0 a0.length ca0),(1,iv a1),(2,iv a2),(3,iv a3),(32,.bool true)]<|Dn ?_
   exact K2
  ·replace heq:=bif_false hb2 heq
   refine RgH.val1 (v':=.bool false) (congrArg Value.bool hb2) ?_
   refine Rk 8 [21,0,1,2,3] [(21,.bool (decide (a3<a1))),(0,.slice Aa0 a0.length ca0),(1,iv a1),(2,iv a2),(3,iv a3)] ?_
   rcases bool_cases (decide (a3<a1)) with hb3 | hb3
   ·replace heq:=bif_true hb3 heq
    refine RgH.val1 (v':=.bool true) (congrArg Value.bool hb3) ?_
    refine Rk 19 [0,1,2,3,32] [(0,.slice Aa0 a0.length ca0),(1,iv a1),(2,iv a2),(3,iv a3),(32,.bool true)] ?_
    obtain rfl:=Option.some.inj heq
    refine Kg [0,1,2,3,32] [(0,.slice Aa0 a0.length ca0),(1,iv a1),(2,iv a2),(3,iv a3),(32,.bool true)]<|Dn ?_
    exact K2
   ·replace heq:=bif_false hb3 heq
    refine RgH.val1 (v':=.bool false) (congrArg Value.bool hb3) ?_
    refine Rk 12 [25,0,1,2,3] [(25,.bool (decide (a2<0))),(0,.slice Aa0 a0.length ca0),(1,iv a1),(2,iv a2),(3,iv a3)] ?_
    rcases bool_cases (decide (a2<0)) with hb4 | hb4
    ·replace heq:=bif_true hb4 heq
     refine RgH.val1 (v':=.bool true) (congrArg Value.bool hb4) ?_
     refine Rk 19 [0,1,2,3,32] [(0,.slice Aa0 a0.length ca0),(1,iv a1),(2,iv a2),(3,iv a3),(32,.bool true)] ?_
     obtain rfl:=Option.some.inj heq
     refine Kg [0,1,2,3,32] [(0,.slice Aa0 a0.length ca0),(1,iv a1),(2,iv a2),(3,iv a3),(32,.bool true)]<|Dn ?_
     exact K2
    ·replace heq:=bif_false hb4 heq
     refine RgH.val1 (v':=.bool false) (congrArg Value.bool hb4) ?_
     refine Rk 16 [29,0,1,2,3] [(29,.bool (decide (20<a2))),(0,.slice Aa0 a0.length ca0),(1,iv a1),(2,iv a2),(3,iv a3)] ?_
     rcases bool_cases (decide (20<a2)) with hb5 | hb5
     ·replace heq:=bif_true hb5 heq
      refine RgH.val1 (v':=.bool true) (congrArg Value.bool hb5) ?_
      refine Rk 19 [0,1,2,3,32] [(0,.slice Aa0 a0.length ca0),(1,iv a1),(2,iv a2),(3,iv a3),(32,.bool true)] ?_
      obtain rfl:=Option.some.inj heq
      refine Kg [0,1,2,3,32] [(0,.slice Aa0 a0.length ca0),(1,iv a1),(2,iv a2),(3,iv a3),(32,.bool true)]<|Dn ?_
      exact K2
     ·replace heq:=bif_false hb5 heq
      refine RgH.val1 (v':=.bool false) (congrArg Value.bool hb5) ?_
      refine Rk 19 [0,1,2,3,32] [(0,.slice Aa0 a0.length ca0),(1,iv a1),(2,iv a2),(3,iv a3),(32,.bool (decide (100000<a3)))] ?_
      obtain rfl:=Option.some.inj heq
      refine Kg [0,1,2,3,32] [(0,.slice Aa0 a0.length ca0),(1,iv a1),(2,iv a2),(3,iv a3),(32,.bool (decide (100000<a3)))]<|Dn ?_
      exact K2
def S26 (F:List Ch) (H0:Hp) (r:ByteArray) (v:Value) (H:Hp) (cs:List Ch):Prop:=H0=H∧v=.string r∧F=cs
theorem strings_Trim_c {w0:World} {H:Hp} {F:List Ch} {a0:ByteArray} {a1:ByteArray} {r:ByteArray} (heq:strings_Trim.f a0 a1=some r):CallsH Tryd.prog 26 #[.string a0,.string a1] H w0 F (S26 F H r):=by
 intro w hh
 unfold strings_Trim.f at heq
 obtain ⟨hn,heq⟩:=guard?_some heq
 obtain rfl:=Option.some.inj heq
 refine (Shelf.Tryd.strings_Trim a0 a1 w (by simp at hn; exact hn.1) (by simp at hn; exact hn.2.1) (by have h:=hn; rw [Bool.and_eq_true,Bool.and_eq_true] at h; exact ascii_of_all h.2.2)).mono ?_
 rintro e w' ⟨rfl,hx⟩
 exact ⟨_,rfl,H,F,Le.refl H,hh.later hx,rfl,rfl,rfl⟩
noncomputable def C22:Ctx:={ P:=Tryd.prog,f:=22,N:=24,c:=bodyOf Tryd.f22 }
def S22 (F:List Ch) (H0:Hp) (r:Bool) (v:Value) (H:Hp) (cs:List Ch):Prop:=H0=H∧v=.bool r∧F=cs
theorem config_IsWord_c {w0:World} {H:Hp} {F:List Ch} {a0:ByteArray} {r:Bool} (heq:config_IsWord.f a0=some r):CallsH Tryd.prog 22 #[.string a0] H w0 (F) (S22 F H r):=by
 refine calls_of_runH (F:=C22) Tryd.func22 (by kernel_rfl) Tryd.ntmps22 (args:=[.string a0]) (by kernel_rfl) ?_
 unfold config_IsWord.f at heq
 refine Ra 1 [0] [.c [1]]<|Rd 1 [0] [(0,.string a0)]<|Ad 2 [.c [1,0,0],.c [1,0,1],.c [1,1]] ?_
 obtain ⟨t1,ht1,heq⟩:=bind_some heq
 have K1:RunH C22 (S22 F H r) H w0 [.c [1,0,1],.c [1,1]] [(0,.string a0),(20,.bool t1)] H (F):=by
  rcases bool_cases (t1) with hb4 | hb4
  ·replace heq:=bif_true hb4 heq
   refine Ct t1 hb4<|Ra 1 [1,0,1,0,0] [.c [1,0,1,0,1],.c [1,1]]<|Rd 1 [2] [(2,.bool false)] ?_
   obtain rfl:=Option.some.inj heq
   exact RunH.done (by kernel_rfl) Tryd.func22 (v:=.bool false) (by kernel_rfl) ⟨rfl,rfl,rfl⟩
  ·replace heq:=bif_false hb4 heq
   refine Cf t1 hb4<|Ra 2 [1,1,0] [.c [1,1,1]]<|Rk 1 [21] [(21,.string a0)] ?_
   obtain ⟨y1,hy1,heq⟩:=bind_some heq
   refine RgH.does (DoesH.call (d:=22) (g:=26) (args:=#[.string a0,.string ({ data:=#[97,98,99,100,101,102,103,104,105,106,107,108,109,110,111,112,113,114,115,116,117,118,119,120,121,122,48,49,50,51,52,53,54,55,56,57,95,45] }:ByteArray)]) (by kernel_rfl) (strings_Trim_c (a0:=a0) (a1:=({ data:=#[97,98,99,100,101,102,103,104,105,106,107,108,109,110,111,112,113,114,115,116,117,118,119,120,121,122,48,49,50,51,52,53,54,55,56,57,95,45] }:ByteArray))  hy1)) ?_
   rintro _ _ _ _ ⟨_,rfl,rfl,rfl,rfl⟩
   refine Rd 4 [2] [(2,.bool (sEq y1 ({ data:=#[] }:ByteArray)))] ?_
   obtain rfl:=Option.some.inj heq
   exact RunH.done (by kernel_rfl) Tryd.func22 (v:=.bool (sEq y1 ({ data:=#[] }:ByteArray))) (by kernel_rfl) ⟨rfl,rfl,rfl⟩
 replace heq:=ht1
 refine Rr<|Rk 4 [6,0] [(6,.bool (decide ((a0.size:Int)<1))),(0,.string a0)] ?_
 rcases bool_cases (decide ((a0.size:Int)<1)) with hb1 | hb1
 ·replace heq:=bif_true hb1 heq
  refine RgH.val1 (v':=.bool true) (congrArg Value.bool hb1) ?_
  refine Rk 18 [0,20] [(0,.string a0),(20,.bool true)] ?_
  obtain rfl:=Option.some.inj heq
  refine Kg [0,20] [(0,.string a0),(20,.bool true)]<|Dn ?_
  exact K1
 ·replace heq:=bif_false hb1 heq
  refine RgH.val1 (v':=.bool false) (congrArg Value.bool hb1) ?_
  refine Rk 9 [11,0] [(11,.bool (decide (40<(a0.size:Int)))),(0,.string a0)] ?_
  rcases bool_cases (decide (40<(a0.size:Int))) with hb2 | hb2
  ·replace heq:=bif_true hb2 heq
   refine RgH.val1 (v':=.bool true) (congrArg Value.bool hb2) ?_
   refine Rk 18 [0,20] [(0,.string a0),(20,.bool true)] ?_
   obtain rfl:=Option.some.inj heq
   refine Kg [0,20] [(0,.string a0),(20,.bool true)]<|Dn ?_
   exact K1
  ·replace heq:=bif_false hb2 heq
   refine RgH.val1 (v':=.bool false) (congrArg Value.bool hb2) ?_
   obtain ⟨hn1,heq⟩:=guard?_some heq
   refine Rv 14 [16,0] [] [.need ((0:Int)≤0∧0<(a0.size:Int))] [(16,.bool (decide ((bt a0 0)<97))),(0,.string a0)] (fun w hh=>(both_of hn1)) ?_
   rcases bool_cases (decide ((bt a0 0)<97)) with hb3 | hb3
   ·replace heq:=bif_true hb3 heq
    refine RgH.val1 (v':=.bool true) (congrArg Value.bool hb3) ?_
    refine Rk 18 [0,20] [(0,.string a0),(20,.bool true)] ?_
    obtain rfl:=Option.some.inj heq
    refine Kg [0,20] [(0,.string a0),(20,.bool true)]<|Dn ?_
    exact K1
   ·replace heq:=bif_false hb3 heq
    refine RgH.val1 (v':=.bool false) (congrArg Value.bool hb3) ?_
    obtain ⟨hn2,heq⟩:=guard?_some heq
    refine Rv 18 [0,20] [] [.need ((0:Int)≤0∧0<(a0.size:Int))] [(0,.string a0),(20,.bool (decide (122<(bt a0 0))))] (fun w hh=>(both_of hn2)) ?_
    obtain rfl:=Option.some.inj heq
    refine Kg [0,20] [(0,.string a0),(20,.bool (decide (122<(bt a0 0))))]<|Dn ?_
    exact K1
noncomputable def C23:Ctx:={ P:=Tryd.prog,f:=23,N:=40,c:=bodyOf Tryd.f23 }
def S23 (F:List Ch) (H0:Hp) (r:Int) (v:Value) (H:Hp) (cs:List Ch):Prop:=H0=H∧v=iv r∧F=cs
theorem config_CheckPairs.e1_c {w0:World} {H:Hp} {F:List Ch} {r:Int}:config_CheckPairs.e1=some r→RunH C23 (S23 F H r) H w0 [.c [1,1,1,0],.c [1,1,1,1]] [] H (F):=by
 intro   heq
 unfold config_CheckPairs.e1 at heq
 refine Rr<|Rd 1 [2] [(2,iv 0)] ?_
 obtain rfl:=Option.some.inj heq
 exact RunH.done (by kernel_rfl) Tryd.func23 (v:=iv 0) (by kernel_rfl) ⟨rfl,rfl,rfl⟩
theorem config_CheckPairs.l2_c {w0:World} {H:Hp} {F:List Ch} {r:Int} (e1:Option Int)
  (he1:e1=some r→RunH C23 (S23 F H r) H w0 [.c [1,1,1,0],.c [1,1,1,1]] [] H (F)):∀ (k:Nat),∀ (a0:List Pair) (Aa0:Option Addr) (ca0:Nat) (v10:Int) ,Rw kPair H F Aa0 a0→a0.length≤ca0→config_CheckPairs.l2 e1 k a0 v10=some r→RunH C23 (S23 F H r) H w0 [.c [1,1,0,1,0,0],.l [1,1,0,1,0,0],.b 0,.c [1,1,1]] [(0,.slice Aa0 a0.length ca0),(8,.slice Aa0 a0.length ca0),(9,iv (a0.length:Int)),(10,iv v10)] H (F):=by
 intro k
 induction k with
 | zero=>intro a0 Aa0 ca0 v10 hra0 hca0 heq; exact nomatch (show (none:Option Int)=some r from heq)
 | succ k ihk =>
  intro a0 Aa0 ca0 v10 hra0 hca0 heq
  rw [config_CheckPairs.l2] at heq
  refine Ra 1 [1,1,0,1,0,0,0] [.c [1,1,0,1,0,0,1],.l [1,1,0,1,0,0],.b 0,.c [1,1,1]]<|Rd 1 [0,8,9,10,11] [(0,.slice Aa0 a0.length ca0),(8,.slice Aa0 a0.length ca0),(9,iv (a0.length:Int)),(10,iv v10),(11,.bool (decide (v10<(a0.length:Int))))]<|Ad 1 [.c [1,1,0,1,0,0,1,0],.c [1,1,0,1,0,0,1,1],.l [1,1,0,1,0,0],.b 0,.c [1,1,1]] ?_
  rcases bool_cases (decide (v10<(a0.length:Int))) with hb2 | hb2
  ·replace heq:=bif_true hb2 heq
   refine Ct (decide (v10<(a0.length:Int))) hb2<|Ra 4 [1,1,0,1,0,0,1,1,0,0,0] [.c [1,1,0,1,0,0,1,1,0,0,1],.b 1,.c [1,1,0,1,0,0,1,1,1],.l [1,1,0,1,0,0],.b 0,.c [1,1,1]] ?_
   obtain ⟨x1,hx1,heq⟩:=bind_some heq
   obtain ⟨ha1,cs1,hK1,hcc1⟩:=hra0.get hx1
   obtain ⟨rfl⟩:=kPair_open hK1
   refine Rv 3 [0,8,9,10,12,14] [.string x1.Name,.string x1.Value] [.need (Aa0=some (adr Aa0)∧(0:Int)≤v10∧v10<((a0.length:Nat):Int)),.load (((adr Aa0).add (v10.toNat*2)).add 0) (.string x1.Name),.load (((adr Aa0).add (v10.toNat*2)).add 1) (.string x1.Value)] [(0,.slice Aa0 a0.length ca0),(8,.slice Aa0 a0.length ca0),(9,iv (a0.length:Int)),(10,iv v10),(12,iv v10),(14,.agg #[.string x1.Name,.string x1.Value])] (fun w hh=>⟨⟨ha1,(at?_some hx1).1,(at?_some hx1).2.1⟩,(hcc1 _ _ (hh.drop 0) 0 _ rfl),(hcc1 _ _ (hh.drop 0) 1 _ rfl)⟩) ?_
   refine RgH.does (DoesH.new (d:=4) (v:=fun g=>.pointer (some ⟨g,0,none⟩)) (o:=fun g=>.cells #[.string ByteArray.empty,.string ByteArray.empty] 63 (0,0)) (fun g=>by kernel_rfl)) ?_
   rintro _ _ _ _ ⟨g1,rfl,rfl,rfl⟩
   refine Rk 5 [0,3,4,8,9,10,14] [(0,.slice Aa0 a0.length ca0),(3,iv v10),(4,pg g1 0),(8,.slice Aa0 a0.length ca0),(9,iv (a0.length:Int)),(10,iv v10),(14,.agg #[.string x1.Name,.string x1.Value])] ?_
   refine RgH.does (DoesH.store (k:=0) (g:=g1) (off:=0) (v:=.agg #[.string x1.Name,.string x1.Value]) (cells':=#[.string x1.Name,.string x1.Value]) (by kernel_rfl) rfl (by kernel_rfl) (by kernel_rfl)) ?_
   rintro _ _ _ _ ⟨rfl,rfl,rfl⟩
   refine Dn<|Ra 2 [1,1,0,1,0,0,1,1,0,0,1,0,0] [.c [1,1,0,1,0,0,1,1,0,0,1,0,1],.b 2,.b 1,.c [1,1,0,1,0,0,1,1,1],.l [1,1,0,1,0,0],.b 0,.c [1,1,1]]<|Rv 2 [0,3,4,8,9,10,17] [.string x1.Name] [.load ⟨g1,0,none⟩ (.string x1.Name)] [(0,.slice Aa0 a0.length ca0),(3,iv v10),(4,pg g1 0),(8,.slice Aa0 a0.length ca0),(9,iv (a0.length:Int)),(10,iv v10),(17,.string x1.Name)] (fun w hh=>(hh.box 0 rfl rfl)) ?_
   obtain ⟨y1,hy1,heq⟩:=bind_some heq
   refine RgH.does (DoesH.call (d:=18) (g:=22) (args:=#[.string x1.Name]) (by kernel_rfl) (config_IsWord_c (a0:=x1.Name)  hy1)) ?_
   rintro _ _ _ _ ⟨_,rfl,rfl,rfl,rfl⟩
   refine Rd 5 [0,3,4,8,9,10,15] [(0,.slice Aa0 a0.length ca0),(3,iv v10),(4,pg g1 0),(8,.slice Aa0 a0.length ca0),(9,iv (a0.length:Int)),(10,iv v10),(15,.bool (!y1))] ?_
   rcases bool_cases (!y1) with hb3 | hb3
   ·replace heq:=bif_true hb3 heq
    refine Ct (!y1) hb3<|Ra 1 [1,1,0,1,0,0,1,1,0,0,1,0,1,0,0] [.c [1,1,0,1,0,0,1,1,0,0,1,0,1,0,1],.b 2,.b 1,.c [1,1,0,1,0,0,1,1,1],.l [1,1,0,1,0,0],.b 0,.c [1,1,1]]<|Rd 1 [2] [(2,iv 5)] ?_
    obtain rfl:=Option.some.inj heq
    refine RunH.pick 1 [] (cs':=F) (by kernel_rfl) rfl ?_
    exact RunH.done (by kernel_rfl) Tryd.func23 (v:=iv 5) (by kernel_rfl) ⟨rfl,rfl,rfl⟩
   ·replace heq:=bif_false hb3 heq
    refine Cf (!y1) hb3<|Ra 1 [1,1,0,1,0,0,1,1,0,0,1,0,1,1,0] [.c [1,1,0,1,0,0,1,1,0,0,1,0,1,1,1],.b 2,.b 1,.c [1,1,0,1,0,0,1,1,1],.l [1,1,0,1,0,0],.b 0,.c [1,1,1]]<|Rv 2 [0,3,4,8,9,10,22] [.string x1.Value] [.load ⟨g1,1,none⟩ (.string x1.Value)] [(0,.slice Aa0 a0.length ca0),(3,iv v10),(4,pg g1 0),(8,.slice Aa0 a0.length ca0),(9,iv (a0.length:Int)),(10,iv v10),(22,.string x1.Value)] (fun w hh=>(hh.box 0 rfl rfl)) ?_
    obtain ⟨y2,hy2,heq⟩:=bind_some heq
    refine RgH.does (DoesH.call (d:=23) (g:=22) (args:=#[.string x1.Value]) (by kernel_rfl) (config_IsWord_c (a0:=x1.Value)  hy2)) ?_
    rintro _ _ _ _ ⟨_,rfl,rfl,rfl,rfl⟩
    refine Rd 5 [0,3,4,8,9,10,20] [(0,.slice Aa0 a0.length ca0),(3,iv v10),(4,pg g1 0),(8,.slice Aa0 a0.length ca0),(9,iv (a0.length:Int)),(10,iv v10),(20,.bool (!y2))] ?_
    rcases bool_cases (!y2) with hb4 | hb4
    ·replace heq:=bif_true hb4 heq
     refine Ct (!y2) hb4<|Ra 1 [1,1,0,1,0,0,1,1,0,0,1,0,1,1,1,0,0] [.c [1,1,0,1,0,0,1,1,0,0,1,0,1,1,1,0,1],.b 2,.b 1,.c [1,1,0,1,0,0,1,1,1],.l [1,1,0,1,0,0],.b 0,.c [1,1,1]]<|Rd 1 [2] [(2,iv 1)] ?_
     obtain rfl:=Option.some.inj heq
     refine RunH.pick 1 [] (cs':=F) (by kernel_rfl) rfl ?_
     exact RunH.done (by kernel_rfl) Tryd.func23 (v:=iv 1) (by kernel_rfl) ⟨rfl,rfl,rfl⟩
    ·replace heq:=bif_false hb4 heq
     refine Cf (!y2) hb4<|Ad 1 [.c [1,1,0,1,0,0,1,1,0,0,1,0,1,1,1,1,0],.c [1,1,0,1,0,0,1,1,0,0,1,0,1,1,1,1,1],.b 2,.b 1,.c [1,1,0,1,0,0,1,1,1],.l [1,1,0,1,0,0],.b 0,.c [1,1,1]] ?_
     obtain ⟨t1,ht1,heq⟩:=bind_some heq
     have K2:RunH C23 (S23 F H r) H w0 [.c [1,1,0,1,0,0,1,1,0,0,1,0,1,1,1,1,1],.b 2,.b 1,.c [1,1,0,1,0,0,1,1,1],.l [1,1,0,1,0,0],.b 0,.c [1,1,1]] [(0,.slice Aa0 a0.length ca0),(8,.slice Aa0 a0.length ca0),(9,iv (a0.length:Int)),(10,iv v10),(25,.bool t1)] H (F):=by
      rcases bool_cases (t1) with hb6 | hb6
      ·replace heq:=bif_true hb6 heq
       refine Ct t1 hb6<|Ra 1 [1,1,0,1,0,0,1,1,0,0,1,0,1,1,1,1,1,0,0] [.c [1,1,0,1,0,0,1,1,0,0,1,0,1,1,1,1,1,0,1],.b 2,.b 1,.c [1,1,0,1,0,0,1,1,1],.l [1,1,0,1,0,0],.b 0,.c [1,1,1]]<|Rd 1 [2] [(2,iv 8)] ?_
       obtain rfl:=Option.some.inj heq
       exact RunH.done (by kernel_rfl) Tryd.func23 (v:=iv 8) (by kernel_rfl) ⟨rfl,rfl,rfl⟩
      ·replace heq:=bif_false hb6 heq
       refine Cf t1 hb6<|Ra 3 [1,1,0,1,0,0,1,1,1] [.l [1,1,0,1,0,0],.b 0,.c [1,1,1]]<|Rd 2 [0,8,9,10] [(0,.slice Aa0 a0.length ca0),(8,.slice Aa0 a0.length ca0),(9,iv (a0.length:Int)),(10,iv (w64 (v10+1)))]<|Ad 1 [.c [1,1,0,1,0,0],.l [1,1,0,1,0,0],.b 0,.c [1,1,1]]<|Kp [0,8,9,10] [(0,.slice Aa0 a0.length ca0),(8,.slice Aa0 a0.length ca0),(9,iv (a0.length:Int)),(10,iv (w64 (v10+1)))] ?_
       exact ihk a0 _ _ (w64 (v10+1)) hra0 hca0 heq
     replace heq:=ht1
     refine Kp [0,3,4,8,9,10] [(0,.slice Aa0 a0.length ca0),(3,iv v10),(4,pg g1 0),(8,.slice Aa0 a0.length ca0),(9,iv (a0.length:Int)),(10,iv v10)] ?_
     refine RunH.draw (fun w=>Heap H w0 w ((some (g1,.cells #[.string x1.Name,.string x1.Value] 63 (0,0)))::F)) (fun w=>Heap H w0 w ((some (g1,.cells #[.string x1.Name,.string x1.Value] 63 (0,0)))::F)) [3,3,3,3,3,3,3,3,3,3,3,3,3,3] (n:=14) (ls:=[false,false,false,false,false,false,false,false,false,false,false,false,false,false]) (by kernel_rfl) (by kernel_rfl) (by kernel_rfl) rfl ?_
     refine Dk [0,1,2] 11 (nb 14 7) [] [] [28,0,3,4,8,9,10] [(28,.bool (decide (0<v10))),(0,.slice Aa0 a0.length ca0),(3,iv v10),(4,pg g1 0),(8,.slice Aa0 a0.length ca0),(9,iv (a0.length:Int)),(10,iv v10)] (Pk 1 [0]) (Pk 1 [0]) (fun _ _=>trivial) ?_
     rcases bool_cases (decide (0<v10)) with hb5 | hb5
     ·replace heq:=bif_true hb5 heq
      refine DrH.val1 (v':=.bool true) (congrArg Value.bool hb5) ?_
      obtain ⟨x2,hx2,heq⟩:=bind_some heq
      obtain ⟨ha2,cs2,hK2,hcc2⟩:=hra0.get hx2
      obtain ⟨rfl⟩:=kPair_open hK2
      refine Dk [3,4,5,6,7,8,9,10,11,12,13] 0 (nb 14 16383) [.string x1.Name,.string x2.Name] [.load ⟨g1,0,none⟩ (.string x1.Name),.need (Aa0=some (adr Aa0)∧(0:Int)≤(w64 (v10 - 1))∧(w64 (v10 - 1))<((a0.length:Nat):Int)),.load (((adr Aa0).add ((w64 (v10 - 1)).toNat*2)).add 0) (.string x2.Name)] [0,8,9,10,25] [(0,.slice Aa0 a0.length ca0),(8,.slice Aa0 a0.length ca0),(9,iv (a0.length:Int)),(10,iv v10),(25,.bool (sLt x1.Name x2.Name||sEq x1.Name x2.Name))] (Pk 1 [0]) (Pk 1 [0]) (fun w hh=>⟨(hh.box 0 rfl rfl),⟨ha2,(at?_some hx2).1,(at?_some hx2).2.1⟩,(hcc2 _ _ (hh.drop 1) 0 _ rfl)⟩) ?_
      obtain rfl:=Option.some.inj heq
      refine Kr [0,8,9,10,25] [(0,.slice Aa0 a0.length ca0),(8,.slice Aa0 a0.length ca0),(9,iv (a0.length:Int)),(10,iv v10),(25,.bool (sLt x1.Name x2.Name||sEq x1.Name x2.Name))] ?_
      refine DrH.pick 1 [] (cs':=F) (by kernel_rfl) rfl ?_
      refine DrH.done (by kernel_rfl) ?_
      exact K2
     ·replace heq:=bif_false hb5 heq
      refine DrH.val1 (v':=.bool false) (congrArg Value.bool hb5) ?_
      refine Dk [3,4,5,6,7,8,9,10,11,12,13] 0 (nb 14 16383) [] [] [0,8,9,10,25] [(0,.slice Aa0 a0.length ca0),(8,.slice Aa0 a0.length ca0),(9,iv (a0.length:Int)),(10,iv v10),(25,.bool false)] (Pk 1 [0]) (Pk 1 [0]) (fun _ _=>trivial) ?_
      obtain rfl:=Option.some.inj heq
      refine Kr [0,8,9,10,25] [(0,.slice Aa0 a0.length ca0),(8,.slice Aa0 a0.length ca0),(9,iv (a0.length:Int)),(10,iv v10),(25,.bool false)] ?_
      refine DrH.pick 1 [] (cs':=F) (by kernel_rfl) rfl ?_
      refine DrH.done (by kernel_rfl) ?_
      exact K2
  ·replace heq:=bif_false hb2 heq
   refine Cf (decide (v10<(a0.length:Int))) hb2<|Ad 2 [.c [1,1,1,0],.c [1,1,1,1]]<|Kp [] [] ?_
   exact he1 heq
theorem config_CheckPairs_c {w0:World} {H:Hp} {F:List Ch} {a0:List Pair} {Aa0:Option Addr} {na0:Nat} {ca0:Nat} {r:Int} (hra0:Rw kPair H F Aa0 a0) (hca0:na0≤ca0) (hna0:na0=a0.length) (heq:config_CheckPairs.f a0=some r):CallsH Tryd.prog 23 #[.slice Aa0 na0 ca0] H w0 (F) (S23 F H r):=by
 refine calls_of_runH (F:=C23) Tryd.func23 (by kernel_rfl) Tryd.ntmps23 (args:=[.slice Aa0 na0 ca0]) (by kernel_rfl) ?_
 subst hna0
 unfold config_CheckPairs.f at heq
 refine Ra 1 [0] [.c [1]]<|Rd 1 [0] [(0,.slice Aa0 a0.length ca0)]<|Ra 2 [1,0,0] [.c [1,0,1],.c [1,1]]<|Rd 3 [0,7] [(0,.slice Aa0 a0.length ca0),(7,.bool (decide (30<(a0.length:Int))))] ?_
 rcases bool_cases (decide (30<(a0.length:Int))) with hb1 | hb1
 ·replace heq:=bif_true hb1 heq
  refine Ct (decide (30<(a0.length:Int))) hb1<|Ra 1 [1,0,1,0,0] [.c [1,0,1,0,1],.c [1,1]]<|Rd 1 [2] [(2,iv 2)] ?_
  obtain rfl:=Option.some.inj heq
  exact RunH.done (by kernel_rfl) Tryd.func23 (v:=iv 2) (by kernel_rfl) ⟨rfl,rfl,rfl⟩
 ·replace heq:=bif_false hb1 heq
  refine Cf (decide (30<(a0.length:Int))) hb1<|Ra 3 [1,1,0,0] [.c [1,1,0,1],.c [1,1,1]]<|Rd 3 [0,8,9,10] [(0,.slice Aa0 a0.length ca0),(8,.slice Aa0 a0.length ca0),(9,iv (a0.length:Int)),(10,iv 0)]<|Ad 2 [.c [1,1,0,1,0,0],.l [1,1,0,1,0,0],.b 0,.c [1,1,1]]<|Kp [0,8,9,10] [(0,.slice Aa0 a0.length ca0),(8,.slice Aa0 a0.length ca0),(9,iv (a0.length:Int)),(10,iv 0)] ?_
  exact ((config_CheckPairs.l2_c (e1:=config_CheckPairs.e1) (config_CheckPairs.e1_c)) big) a0 _ _ 0 hra0 hca0 heq
noncomputable def C21:Ctx:={ P:=Tryd.prog,f:=21,N:=15,c:=bodyOf Tryd.f21 }
def S21 (F:List Ch) (H0:Hp) (r:Bool) (v:Value) (H:Hp) (cs:List Ch):Prop:=H0=H∧v=.bool r∧F=cs
theorem workers_within_c {w0:World} {H:Hp} {F:List Ch} {a0:Int} {a1:Int} {a2:Int} {r:Bool} (heq:workers_within.f a0 a1 a2=some r):CallsH Tryd.prog 21 #[iv a0,iv a1,iv a2] H w0 (F) (S21 F H r):=by
 refine calls_of_runH (F:=C21) Tryd.func21 (by kernel_rfl) Tryd.ntmps21 (args:=[iv a0,iv a1,iv a2]) (by kernel_rfl) ?_
 unfold workers_within.f at heq
 refine Ra 1 [0] [.c [1]]<|Rd 1 [0,1,2] [(0,iv a0),(1,iv a1),(2,iv a2)]<|Ad 1 [.c [1,0],.c [1,1]] ?_
 obtain ⟨t1,ht1,heq⟩:=bind_some heq
 have K1:RunH C21 (S21 F H r) H w0 [.c [1,1]] [(6,.bool t1)] H (F):=by
  obtain rfl:=Option.some.inj heq
  exact RunH.done (by kernel_rfl) Tryd.func21 (v:=.bool t1) (by kernel_rfl) ⟨rfl,rfl,rfl⟩
 replace heq:=ht1
 refine Rr<|Rk 4 [10,0,2] [(10,.bool (decide (a1≤a0))),(0,iv a0),(2,iv a2)] ?_
 rcases bool_cases (decide (a1≤a0)) with hb1 | hb1
 ·replace heq:=bif_true hb1 heq
  refine RgH.val1 (v':=.bool true) (congrArg Value.bool hb1) ?_
  refine Rk 9 [6] [(6,.bool (decide (a0≤a2)))] ?_
  obtain rfl:=Option.some.inj heq
  refine Kg [6] [(6,.bool (decide (a0≤a2)))]<|Dn ?_
  exact K1
 ·replace heq:=bif_false hb1 heq
  refine RgH.val1 (v':=.bool false) (congrArg Value.bool hb1) ?_
  refine Rk 9 [6] [(6,.bool false)] ?_
  obtain rfl:=Option.some.inj heq
  refine Kg [6] [(6,.bool false)]<|Dn ?_
  exact K1
noncomputable def C24:Ctx:={ P:=Tryd.prog,f:=24,N:=5,c:=bodyOf Tryd.f24 }
def S24 (F:List Ch) (H0:Hp) (r:Bool) (v:Value) (H:Hp) (cs:List Ch):Prop:=H0=H∧v=.bool r∧F=cs
theorem workers_isMoment_c {w0:World} {H:Hp} {F:List Ch} {a0:Int} {r:Bool} (heq:workers_isMoment.f a0=some r):CallsH Tryd.prog 24 #[iv a0] H w0 (F) (S24 F H r):=by
 refine calls_of_runH (F:=C24) Tryd.func24 (by kernel_rfl) Tryd.ntmps24 (args:=[iv a0]) (by kernel_rfl) ?_
 unfold workers_isMoment.f at heq
 refine Ra 1 [0] [.c [1]]<|Rd 1 [0] [(0,iv a0)]<|Ra 1 [1,0] [.c [1,1]]<|Rk 1 [3] [(3,iv a0)] ?_
 obtain ⟨y1,hy1,heq⟩:=bind_some heq
 refine RgH.does (DoesH.call (d:=4) (g:=21) (args:=#[iv a0,iv 0,iv 1000000000]) (by kernel_rfl) (workers_within_c (a0:=a0) (a1:=0) (a2:=1000000000)  hy1)) ?_
 rintro _ _ _ _ ⟨_,rfl,rfl,rfl,rfl⟩
 refine Rd 3 [2] [(2,.bool y1)] ?_
 obtain rfl:=Option.some.inj heq
 exact RunH.done (by kernel_rfl) Tryd.func24 (v:=.bool y1) (by kernel_rfl) ⟨rfl,rfl,rfl⟩
noncomputable def C25:Ctx:={ P:=Tryd.prog,f:=25,N:=46,c:=bodyOf Tryd.f25 }
def S25 (F:List Ch) (H0:Hp) (r:Int) (v:Value) (H:Hp) (cs:List Ch):Prop:=H0=H∧v=iv r∧F=cs
theorem workers_checkStands.e1_c {w0:World} {H:Hp} {F:List Ch} {r:Int}:workers_checkStands.e1=some r→RunH C25 (S25 F H r) H w0 [.c [1,1,1,0],.c [1,1,1,1]] [] H (F):=by
 intro   heq
 unfold workers_checkStands.e1 at heq
 refine Rr<|Rd 1 [2] [(2,iv 0)] ?_
 obtain rfl:=Option.some.inj heq
 exact RunH.done (by kernel_rfl) Tryd.func25 (v:=iv 0) (by kernel_rfl) ⟨rfl,rfl,rfl⟩
theorem workers_checkStands.l2_c {w0:World} {H:Hp} {F:List Ch} {r:Int} (e1:Option Int)
  (he1:e1=some r→RunH C25 (S25 F H r) H w0 [.c [1,1,1,0],.c [1,1,1,1]] [] H (F)):∀ (k:Nat),∀ (a0:List Span) (Aa0:Option Addr) (ca0:Nat) (v10:Int) ,Rw kSpan H F Aa0 a0→a0.length≤ca0→workers_checkStands.l2 e1 k a0 v10=some r→RunH C25 (S25 F H r) H w0 [.c [1,1,0,1,0,0],.l [1,1,0,1,0,0],.b 0,.c [1,1,1]] [(0,.slice Aa0 a0.length ca0),(8,.slice Aa0 a0.length ca0),(9,iv (a0.length:Int)),(10,iv v10)] H (F):=by
 intro k
 induction k with
 | zero=>intro a0 Aa0 ca0 v10 hra0 hca0 heq; exact nomatch (show (none:Option Int)=some r from heq)
 | succ k ihk =>
  intro a0 Aa0 ca0 v10 hra0 hca0 heq
  rw [workers_checkStands.l2] at heq
  refine Ra 1 [1,1,0,1,0,0,0] [.c [1,1,0,1,0,0,1],.l [1,1,0,1,0,0],.b 0,.c [1,1,1]]<|Rd 1 [0,8,9,10,11] [(0,.slice Aa0 a0.length ca0),(8,.slice Aa0 a0.length ca0),(9,iv (a0.length:Int)),(10,iv v10),(11,.bool (decide (v10<(a0.length:Int))))]<|Ad 1 [.c [1,1,0,1,0,0,1,0],.c [1,1,0,1,0,0,1,1],.l [1,1,0,1,0,0],.b 0,.c [1,1,1]] ?_
  rcases bool_cases (decide (v10<(a0.length:Int))) with hb2 | hb2
  ·replace heq:=bif_true hb2 heq
   refine Ct (decide (v10<(a0.length:Int))) hb2<|Ra 4 [1,1,0,1,0,0,1,1,0,0,0] [.c [1,1,0,1,0,0,1,1,0,0,1],.b 1,.c [1,1,0,1,0,0,1,1,1],.l [1,1,0,1,0,0],.b 0,.c [1,1,1]] ?_
   obtain ⟨x1,hx1,heq⟩:=bind_some heq
   obtain ⟨ha1,cs1,hK1,hcc1⟩:=hra0.get hx1
   obtain ⟨rfl⟩:=kSpan_open hK1
   refine Rv 3 [0,8,9,10,12,14] [iv x1.From,iv x1.To] [.need (Aa0=some (adr Aa0)∧(0:Int)≤v10∧v10<((a0.length:Nat):Int)),.load (((adr Aa0).add (v10.toNat*2)).add 0) (iv x1.From),.load (((adr Aa0).add (v10.toNat*2)).add 1) (iv x1.To)] [(0,.slice Aa0 a0.length ca0),(8,.slice Aa0 a0.length ca0),(9,iv (a0.length:Int)),(10,iv v10),(12,iv v10),(14,.agg #[iv x1.From,iv x1.To])] (fun w hh=>⟨⟨ha1,(at?_some hx1).1,(at?_some hx1).2.1⟩,(hcc1 _ _ (hh.drop 0) 0 _ rfl),(hcc1 _ _ (hh.drop 0) 1 _ rfl)⟩) ?_
   refine RgH.does (DoesH.new (d:=4) (v:=fun g=>.pointer (some ⟨g,0,none⟩)) (o:=fun g=>.cells #[iv 0,iv 0] 65 (0,0)) (fun g=>by kernel_rfl)) ?_
   rintro _ _ _ _ ⟨g1,rfl,rfl,rfl⟩
   refine Rk 5 [0,3,4,8,9,10,14] [(0,.slice Aa0 a0.length ca0),(3,iv v10),(4,pg g1 0),(8,.slice Aa0 a0.length ca0),(9,iv (a0.length:Int)),(10,iv v10),(14,.agg #[iv x1.From,iv x1.To])] ?_
   refine RgH.does (DoesH.store (k:=0) (g:=g1) (off:=0) (v:=.agg #[iv x1.From,iv x1.To]) (cells':=#[iv x1.From,iv x1.To]) (by kernel_rfl) rfl (by kernel_rfl) (by kernel_rfl)) ?_
   rintro _ _ _ _ ⟨rfl,rfl,rfl⟩
   refine Dn<|Ad 2 [.c [1,1,0,1,0,0,1,1,0,0,1,0,0],.c [1,1,0,1,0,0,1,1,0,0,1,0,1],.c [1,1,0,1,0,0,1,1,0,0,1,1],.b 1,.c [1,1,0,1,0,0,1,1,1],.l [1,1,0,1,0,0],.b 0,.c [1,1,1]] ?_
   obtain ⟨t1,ht1,heq⟩:=bind_some heq
   have K2:RunH C25 (S25 F H r) H w0 [.c [1,1,0,1,0,0,1,1,0,0,1,0,1],.c [1,1,0,1,0,0,1,1,0,0,1,1],.b 1,.c [1,1,0,1,0,0,1,1,1],.l [1,1,0,1,0,0],.b 0,.c [1,1,1]] [(0,.slice Aa0 a0.length ca0),(3,iv v10),(4,pg g1 0),(8,.slice Aa0 a0.length ca0),(9,iv (a0.length:Int)),(10,iv v10),(24,.bool t1)] H ((some (g1,.cells #[iv x1.From,iv x1.To] 65 (0,0)))::F):=by
    rcases bool_cases (t1) with hb4 | hb4
    ·replace heq:=bif_true hb4 heq
     refine Ct t1 hb4<|Ra 1 [1,1,0,1,0,0,1,1,0,0,1,0,1,0,0] [.c [1,1,0,1,0,0,1,1,0,0,1,0,1,0,1],.c [1,1,0,1,0,0,1,1,0,0,1,1],.b 1,.c [1,1,0,1,0,0,1,1,1],.l [1,1,0,1,0,0],.b 0,.c [1,1,1]]<|Rd 1 [2] [(2,iv 1)] ?_
     obtain rfl:=Option.some.inj heq
     refine RunH.pick 1 [] (cs':=F) (by kernel_rfl) rfl ?_
     exact RunH.done (by kernel_rfl) Tryd.func25 (v:=iv 1) (by kernel_rfl) ⟨rfl,rfl,rfl⟩
    ·replace heq:=bif_false hb4 heq
     refine Cf t1 hb4<|Ad 2 [.c [1,1,0,1,0,0,1,1,0,0,1,1,0],.c [1,1,0,1,0,0,1,1,0,0,1,1,1],.b 1,.c [1,1,0,1,0,0,1,1,1],.l [1,1,0,1,0,0],.b 0,.c [1,1,1]] ?_
     obtain ⟨t2,ht2,heq⟩:=bind_some heq
     have K3:RunH C25 (S25 F H r) H w0 [.c [1,1,0,1,0,0,1,1,0,0,1,1,1],.b 1,.c [1,1,0,1,0,0,1,1,1],.l [1,1,0,1,0,0],.b 0,.c [1,1,1]] [(0,.slice Aa0 a0.length ca0),(8,.slice Aa0 a0.length ca0),(9,iv (a0.length:Int)),(10,iv v10),(44,.bool t2)] H (F):=by
      rcases bool_cases (t2) with hb7 | hb7
      ·replace heq:=bif_true hb7 heq
       refine Ct t2 hb7<|Ra 1 [1,1,0,1,0,0,1,1,0,0,1,1,1,0,0] [.c [1,1,0,1,0,0,1,1,0,0,1,1,1,0,1],.b 1,.c [1,1,0,1,0,0,1,1,1],.l [1,1,0,1,0,0],.b 0,.c [1,1,1]]<|Rd 1 [2] [(2,iv 8)] ?_
       obtain rfl:=Option.some.inj heq
       exact RunH.done (by kernel_rfl) Tryd.func25 (v:=iv 8) (by kernel_rfl) ⟨rfl,rfl,rfl⟩
      ·replace heq:=bif_false hb7 heq
       refine Cf t2 hb7<|Ra 2 [1,1,0,1,0,0,1,1,1] [.l [1,1,0,1,0,0],.b 0,.c [1,1,1]]<|Rd 2 [0,8,9,10] [(0,.slice Aa0 a0.length ca0),(8,.slice Aa0 a0.length ca0),(9,iv (a0.length:Int)),(10,iv (w64 (v10+1)))]<|Ad 1 [.c [1,1,0,1,0,0],.l [1,1,0,1,0,0],.b 0,.c [1,1,1]]<|Kp [0,8,9,10] [(0,.slice Aa0 a0.length ca0),(8,.slice Aa0 a0.length ca0),(9,iv (a0.length:Int)),(10,iv (w64 (v10+1)))] ?_
       exact ihk a0 _ _ (w64 (v10+1)) hra0 hca0 heq
     replace heq:=ht2
     refine Kp [0,3,4,8,9,10] [(0,.slice Aa0 a0.length ca0),(3,iv v10),(4,pg g1 0),(8,.slice Aa0 a0.length ca0),(9,iv (a0.length:Int)),(10,iv v10)] ?_
     refine RunH.draw (fun w=>Heap H w0 w ((some (g1,.cells #[iv x1.From,iv x1.To] 65 (0,0)))::F)) (fun w=>Heap H w0 w ((some (g1,.cells #[iv x1.From,iv x1.To] 65 (0,0)))::F)) [3,3,3,3,3,3,3,3,3,3,3,3,3,3,3,3,3,3,3,3] (n:=20) (ls:=[false,false,false,false,false,false,false,false,false,false,false,false,false,false,false,false,false,false,false,false]) (by kernel_rfl) (by kernel_rfl) (by kernel_rfl) rfl ?_
     refine Dk [0,1,2,3,4,5] 14 (nb 20 63) [iv x1.To,iv x1.From] [.load ⟨g1,1,none⟩ (iv x1.To),.load ⟨g1,0,none⟩ (iv x1.From)] [30,0,3,4,8,9,10] [(30,.bool (decide (x1.To≤x1.From))),(0,.slice Aa0 a0.length ca0),(3,iv v10),(4,pg g1 0),(8,.slice Aa0 a0.length ca0),(9,iv (a0.length:Int)),(10,iv v10)] (Pk 1 [0]) (Pk 1 [0]) (fun w hh=>⟨(hh.box 0 rfl rfl),(hh.box 0 rfl rfl)⟩) ?_
     rcases bool_cases (decide (x1.To≤x1.From)) with hb5 | hb5
     ·replace heq:=bif_true hb5 heq
      refine DrH.val1 (v':=.bool true) (congrArg Value.bool hb5) ?_
      refine Dk [6,7,8,9,10,11,12,13,14,15,16,17,18,19] 0 (nb 20 1048575) [] [] [0,8,9,10,44] [(0,.slice Aa0 a0.length ca0),(8,.slice Aa0 a0.length ca0),(9,iv (a0.length:Int)),(10,iv v10),(44,.bool true)] (Pk 1 [0]) (Pk 1 [0]) (fun _ _=>trivial) ?_
      obtain rfl:=Option.some.inj heq
      refine Kr [0,8,9,10,44] [(0,.slice Aa0 a0.length ca0),(8,.slice Aa0 a0.length ca0),(9,iv (a0.length:Int)),(10,iv v10),(44,.bool true)] ?_
      refine DrH.pick 1 [] (cs':=F) (by kernel_rfl) rfl ?_
      refine DrH.done (by kernel_rfl) ?_
      exact K3
     ·replace heq:=bif_false hb5 heq
      refine DrH.val1 (v':=.bool false) (congrArg Value.bool hb5) ?_
      refine Dk [6,7,8] 11 (nb 20 511) [] [] [33,0,3,4,8,9,10,30] [(33,.bool (decide (0<v10))),(0,.slice Aa0 a0.length ca0),(3,iv v10),(4,pg g1 0),(8,.slice Aa0 a0.length ca0),(9,iv (a0.length:Int)),(10,iv v10),(30,.bool false)] (Pk 1 [0]) (Pk 1 [0]) (fun _ _=>trivial) ?_
      rcases bool_cases (decide (0<v10)) with hb6 | hb6
      ·replace heq:=bif_true hb6 heq
       refine DrH.val1 (v':=.bool true) (congrArg Value.bool hb6) ?_
       obtain ⟨x2,hx2,heq⟩:=bind_some heq
       obtain ⟨ha2,cs2,hK2,hcc2⟩:=hra0.get hx2
       obtain ⟨rfl⟩:=kSpan_open hK2
       refine Dk [9,10,11,12,13,14,15,16,17,18,19] 0 (nb 20 1048575) [iv x1.From,iv x2.To] [.load ⟨g1,0,none⟩ (iv x1.From),.need (Aa0=some (adr Aa0)∧(0:Int)≤(w64 (v10 - 1))∧(w64 (v10 - 1))<((a0.length:Nat):Int)),.load (((adr Aa0).add ((w64 (v10 - 1)).toNat*2)).add 1) (iv x2.To)] [0,8,9,10,44] [(0,.slice Aa0 a0.length ca0),(8,.slice Aa0 a0.length ca0),(9,iv (a0.length:Int)),(10,iv v10),(44,.bool (decide (x1.From<x2.To)))] (Pk 1 [0]) (Pk 1 [0]) (fun w hh=>⟨(hh.box 0 rfl rfl),⟨ha2,(at?_some hx2).1,(at?_some hx2).2.1⟩,(hcc2 _ _ (hh.drop 1) 1 _ rfl)⟩) ?_
       obtain rfl:=Option.some.inj heq
       refine Kr [0,8,9,10,44] [(0,.slice Aa0 a0.length ca0),(8,.slice Aa0 a0.length ca0),(9,iv (a0.length:Int)),(10,iv v10),(44,.bool (decide (x1.From<x2.To)))] ?_
       refine DrH.pick 1 [] (cs':=F) (by kernel_rfl) rfl ?_
       refine DrH.done (by kernel_rfl) ?_
       exact K3
      ·replace heq:=bif_false hb6 heq
       refine DrH.val1 (v':=.bool false) (congrArg Value.bool hb6) ?_
       refine Dk [9,10,11,12,13,14,15,16,17,18,19] 0 (nb 20 1048575) [] [] [0,8,9,10,44] [(0,.slice Aa0 a0.length ca0),(8,.slice Aa0 a0.length ca0),(9,iv (a0.length:Int)),(10,iv v10),(44,.bool false)] (Pk 1 [0]) (Pk 1 [0]) (fun _ _=>trivial) ?_
       obtain rfl:=Option.some.inj heq
       refine Kr [0,8,9,10,44] [(0,.slice Aa0 a0.length ca0),(8,.slice Aa0 a0.length ca0),(9,iv (a0.length:Int)),(10,iv v10),(44,.bool false)] ?_
       refine DrH.pick 1 [] (cs':=F) (by kernel_rfl) rfl ?_
       refine DrH.done (by kernel_rfl) ?_
       exact K3
   replace heq:=ht1
   refine Rr<|Rv 2 [0,3,4,8,9,10,16] [iv x1.From] [.load ⟨g1,0,none⟩ (iv x1.From)] [(0,.slice Aa0 a0.length ca0),(3,iv v10),(4,pg g1 0),(8,.slice Aa0 a0.length ca0),(9,iv (a0.length:Int)),(10,iv v10),(16,iv x1.From)] (fun w hh=>(hh.box 0 rfl rfl)) ?_
   obtain ⟨y1,hy1,heq⟩:=bind_some heq
   refine RgH.does (DoesH.call (d:=17) (g:=24) (args:=#[iv x1.From]) (by kernel_rfl) (workers_isMoment_c (a0:=x1.From)  hy1)) ?_
   rintro _ _ _ _ ⟨_,rfl,rfl,rfl,rfl⟩
   refine Rk 5 [19,0,3,4,8,9,10] [(19,.bool (!y1)),(0,.slice Aa0 a0.length ca0),(3,iv v10),(4,pg g1 0),(8,.slice Aa0 a0.length ca0),(9,iv (a0.length:Int)),(10,iv v10)] ?_
   rcases bool_cases (!y1) with hb3 | hb3
   ·replace heq:=bif_true hb3 heq
    refine RgH.val1 (v':=.bool true) (congrArg Value.bool hb3) ?_
    refine Rk 10 [0,3,4,8,9,10,24] [(0,.slice Aa0 a0.length ca0),(3,iv v10),(4,pg g1 0),(8,.slice Aa0 a0.length ca0),(9,iv (a0.length:Int)),(10,iv v10),(24,.bool true)] ?_
    obtain rfl:=Option.some.inj heq
    refine Kg [0,3,4,8,9,10,24] [(0,.slice Aa0 a0.length ca0),(3,iv v10),(4,pg g1 0),(8,.slice Aa0 a0.length ca0),(9,iv (a0.length:Int)),(10,iv v10),(24,.bool true)]<|Dn ?_
    exact K2
   ·replace heq:=bif_false hb3 heq
    refine RgH.val1 (v':=.bool false) (congrArg Value.bool hb3) ?_
    refine Rv 7 [0,3,4,8,9,10,19,21] [iv x1.To] [.load ⟨g1,1,none⟩ (iv x1.To)] [(0,.slice Aa0 a0.length ca0),(3,iv v10),(4,pg g1 0),(8,.slice Aa0 a0.length ca0),(9,iv (a0.length:Int)),(10,iv v10),(19,.bool false),(21,iv x1.To)] (fun w hh=>(hh.box 0 rfl rfl)) ?_
    obtain ⟨y2,hy2,heq⟩:=bind_some heq
    refine RgH.does (DoesH.call (d:=22) (g:=24) (args:=#[iv x1.To]) (by kernel_rfl) (workers_isMoment_c (a0:=x1.To)  hy2)) ?_
    rintro _ _ _ _ ⟨_,rfl,rfl,rfl,rfl⟩
    refine Rk 10 [0,3,4,8,9,10,24] [(0,.slice Aa0 a0.length ca0),(3,iv v10),(4,pg g1 0),(8,.slice Aa0 a0.length ca0),(9,iv (a0.length:Int)),(10,iv v10),(24,.bool (!y2))] ?_
    obtain rfl:=Option.some.inj heq
    refine Kg [0,3,4,8,9,10,24] [(0,.slice Aa0 a0.length ca0),(3,iv v10),(4,pg g1 0),(8,.slice Aa0 a0.length ca0),(9,iv (a0.length:Int)),(10,iv v10),(24,.bool (!y2))]<|Dn ?_
    exact K2
  ·replace heq:=bif_false hb2 heq
   refine Cf (decide (v10<(a0.length:Int))) hb2<|Ad 2 [.c [1,1,1,0],.c [1,1,1,1]]<|Kp [] [] ?_
   exact he1 heq
theorem workers_checkStands_c {w0:World} {H:Hp} {F:List Ch} {a0:List Span} {Aa0:Option Addr} {na0:Nat} {ca0:Nat} {r:Int} (hra0:Rw kSpan H F Aa0 a0) (hca0:na0≤ca0) (hna0:na0=a0.length) (heq:workers_checkStands.f a0=some r):CallsH Tryd.prog 25 #[.slice Aa0 na0 ca0] H w0 (F) (S25 F H r):=by
 refine calls_of_runH (F:=C25) Tryd.func25 (by kernel_rfl) Tryd.ntmps25 (args:=[.slice Aa0 na0 ca0]) (by kernel_rfl) ?_
 subst hna0
 unfold workers_checkStands.f at heq
 refine Ra 1 [0] [.c [1]]<|Rd 1 [0] [(0,.slice Aa0 a0.length ca0)]<|Ra 2 [1,0,0] [.c [1,0,1],.c [1,1]]<|Rd 3 [0,7] [(0,.slice Aa0 a0.length ca0),(7,.bool (decide (20<(a0.length:Int))))] ?_
 rcases bool_cases (decide (20<(a0.length:Int))) with hb1 | hb1
 ·replace heq:=bif_true hb1 heq
  refine Ct (decide (20<(a0.length:Int))) hb1<|Ra 1 [1,0,1,0,0] [.c [1,0,1,0,1],.c [1,1]]<|Rd 1 [2] [(2,iv 2)] ?_
  obtain rfl:=Option.some.inj heq
  exact RunH.done (by kernel_rfl) Tryd.func25 (v:=iv 2) (by kernel_rfl) ⟨rfl,rfl,rfl⟩
 ·replace heq:=bif_false hb1 heq
  refine Cf (decide (20<(a0.length:Int))) hb1<|Ra 3 [1,1,0,0] [.c [1,1,0,1],.c [1,1,1]]<|Rd 3 [0,8,9,10] [(0,.slice Aa0 a0.length ca0),(8,.slice Aa0 a0.length ca0),(9,iv (a0.length:Int)),(10,iv 0)]<|Ad 2 [.c [1,1,0,1,0,0],.l [1,1,0,1,0,0],.b 0,.c [1,1,1]]<|Kp [0,8,9,10] [(0,.slice Aa0 a0.length ca0),(8,.slice Aa0 a0.length ca0),(9,iv (a0.length:Int)),(10,iv 0)] ?_
  exact ((workers_checkStands.l2_c (e1:=workers_checkStands.e1) (workers_checkStands.e1_c)) big) a0 _ _ 0 hra0 hca0 heq
noncomputable def C20:Ctx:={ P:=Tryd.prog,f:=20,N:=44,c:=bodyOf Tryd.f20 }
def S20 (F:List Ch) (H0:Hp) (r:Int) (v:Value) (H:Hp) (cs:List Ch):Prop:=H0=H∧v=iv r∧F=cs
theorem workers_checkWorker_c {w0:World} {H:Hp} {F:List Ch} {a0:Worker} {Aa0_1:Option Addr} {na0_1:Nat} {ca0_1:Nat} {Aa0_6:Option Addr} {na0_6:Nat} {ca0_6:Nat} {r:Int} (hra0_1:Rw kPair H F Aa0_1 a0.Has) (hca0_1:na0_1≤ca0_1) (hna0_1:na0_1=a0.Has.length) (hra0_6:Rw kSpan H F Aa0_6 a0.Stands) (hca0_6:na0_6≤ca0_6) (hna0_6:na0_6=a0.Stands.length) (heq:workers_checkWorker.f a0=some r):CallsH Tryd.prog 20 #[.agg #[.string a0.Name,.slice Aa0_1 na0_1 ca0_1,iv a0.Slots,iv a0.Speed,iv a0.From,iv a0.To,.slice Aa0_6 na0_6 ca0_6]] H w0 (F) (S20 F H r):=by
 refine calls_of_runH (F:=C20) Tryd.func20 (by kernel_rfl) Tryd.ntmps20 (args:=[.agg #[.string a0.Name,.slice Aa0_1 na0_1 ca0_1,iv a0.Slots,iv a0.Speed,iv a0.From,iv a0.To,.slice Aa0_6 na0_6 ca0_6]]) (by kernel_rfl) ?_
 subst hna0_1
 subst hna0_6
 unfold workers_checkWorker.f at heq
 refine Ra 1 [0] [.c [1]] ?_
 refine RgH.does (DoesH.new (d:=1) (v:=fun g=>.pointer (some ⟨g,0,none⟩)) (o:=fun g=>.cells #[.string a0.Name,.slice Aa0_1 a0.Has.length ca0_1,iv a0.Slots,iv a0.Speed,iv a0.From,iv a0.To,.slice Aa0_6 a0.Stands.length ca0_6] 44 (0,0)) (fun g=>by kernel_rfl)) ?_
 rintro _ _ _ _ ⟨g1,rfl,rfl,rfl⟩
 refine Rd 2 [1] [(1,pg g1 0)]<|Ra 2 [1,0,0] [.c [1,0,1],.c [1,1]]<|Rv 2 [1,5] [.string a0.Name] [.load ⟨g1,0,none⟩ (.string a0.Name)] [(1,pg g1 0),(5,.string a0.Name)] (fun w hh=>(hh.box 0 rfl rfl)) ?_
 obtain ⟨y1,hy1,heq⟩:=bind_some heq
 refine RgH.does (DoesH.call (d:=6) (g:=22) (args:=#[.string a0.Name]) (by kernel_rfl) (config_IsWord_c (a0:=a0.Name)  hy1)) ?_
 rintro _ _ _ _ ⟨_,rfl,rfl,rfl,rfl⟩
 refine Rd 4 [1,7] [(1,pg g1 0),(7,.bool (!y1))] ?_
 rcases bool_cases (!y1) with hb1 | hb1
 ·replace heq:=bif_true hb1 heq
  refine Ct (!y1) hb1<|Ra 1 [1,0,1,0,0] [.c [1,0,1,0,1],.c [1,1]]<|Rd 1 [2] [(2,iv 5)] ?_
  obtain rfl:=Option.some.inj heq
  refine RunH.pick 1 [] (cs':=F) (by kernel_rfl) rfl ?_
  exact RunH.done (by kernel_rfl) Tryd.func20 (v:=iv 5) (by kernel_rfl) ⟨rfl,rfl,rfl⟩
 ·replace heq:=bif_false hb1 heq
  refine Cf (!y1) hb1<|Ra 3 [1,1,0,0] [.c [1,1,0,1],.c [1,1,1]]<|Rv 2 [1,9] [.slice Aa0_1 a0.Has.length ca0_1] [.load ⟨g1,1,none⟩ (.slice Aa0_1 a0.Has.length ca0_1)] [(1,pg g1 0),(9,.slice Aa0_1 a0.Has.length ca0_1)] (fun w hh=>(hh.box 0 rfl rfl)) ?_
  obtain ⟨y2,hy2,heq⟩:=bind_some heq
  refine RgH.does (DoesH.call (d:=10) (g:=23) (args:=#[.slice Aa0_1 a0.Has.length ca0_1]) (by kernel_rfl) (config_CheckPairs_c (a0:=a0.Has) (hra0_1.wk (fun _ h=>(.tail _ h))) hca0_1 rfl hy2)) ?_
  rintro _ _ _ _ ⟨_,rfl,rfl,rfl,rfl⟩
  refine Rd 4 [1,3] [(1,pg g1 0),(3,iv y2)]<|Ra 1 [1,1,0,1,0] [.c [1,1,0,1,1],.c [1,1,1]]<|Rd 2 [1,3,12] [(1,pg g1 0),(3,iv y2),(12,.bool (y2 != 0))] ?_
  rcases bool_cases (y2 != 0) with hb2 | hb2
  ·replace heq:=bif_true hb2 heq
   refine Ct (y2 != 0) hb2<|Ra 1 [1,1,0,1,1,0,0] [.c [1,1,0,1,1,0,1],.c [1,1,1]]<|Rd 2 [2] [(2,iv y2)] ?_
   obtain rfl:=Option.some.inj heq
   refine RunH.pick 1 [] (cs':=F) (by kernel_rfl) rfl ?_
   exact RunH.done (by kernel_rfl) Tryd.func20 (v:=iv y2) (by kernel_rfl) ⟨rfl,rfl,rfl⟩
  ·replace heq:=bif_false hb2 heq
   refine Cf (y2 != 0) hb2<|Ad 3 [.c [1,1,1,0,0],.c [1,1,1,0,1],.c [1,1,1,1]] ?_
   obtain ⟨t1,ht1,heq⟩:=bind_some heq
   have K2:RunH C20 (S20 F H r) H w0 [.c [1,1,1,0,1],.c [1,1,1,1]] [(1,pg g1 0),(35,.bool t1)] H ((some (g1,.cells #[.string a0.Name,.slice Aa0_1 a0.Has.length ca0_1,iv a0.Slots,iv a0.Speed,iv a0.From,iv a0.To,.slice Aa0_6 a0.Stands.length ca0_6] 44 (0,0)))::F):=by
    rcases bool_cases (t1) with hb6 | hb6
    ·replace heq:=bif_true hb6 heq
     refine Ct t1 hb6<|Ra 1 [1,1,1,0,1,0,0] [.c [1,1,1,0,1,0,1],.c [1,1,1,1]]<|Rd 1 [2] [(2,iv 1)] ?_
     obtain rfl:=Option.some.inj heq
     refine RunH.pick 1 [] (cs':=F) (by kernel_rfl) rfl ?_
     exact RunH.done (by kernel_rfl) Tryd.func20 (v:=iv 1) (by kernel_rfl) ⟨rfl,rfl,rfl⟩
    ·replace heq:=bif_false hb6 heq
     refine Cf t1 hb6<|Ra 3 [1,1,1,1,0,0] [.c [1,1,1,1,0,1],.c [1,1,1,1,1]]<|Rw' 5 [1,40] [iv a0.To,iv a0.From] [.load ⟨g1,5,none⟩ (iv a0.To),.load ⟨g1,4,none⟩ (iv a0.From)] [(1,pg g1 0),(40,.bool (decide (a0.To≤a0.From)))] (fun w hh=>⟨(hh.box 0 rfl rfl),(hh.box 0 rfl rfl)⟩) ?_
     rcases bool_cases (decide (a0.To≤a0.From)) with hb7 | hb7
     ·replace heq:=bif_true hb7 heq
      refine Ct (decide (a0.To≤a0.From)) hb7<|Ra 1 [1,1,1,1,0,1,0,0] [.c [1,1,1,1,0,1,0,1],.c [1,1,1,1,1]]<|Rd 1 [2] [(2,iv 8)] ?_
      obtain rfl:=Option.some.inj heq
      refine RunH.pick 1 [] (cs':=F) (by kernel_rfl) rfl ?_
      exact RunH.done (by kernel_rfl) Tryd.func20 (v:=iv 8) (by kernel_rfl) ⟨rfl,rfl,rfl⟩
     ·replace heq:=bif_false hb7 heq
      refine Cf (decide (a0.To≤a0.From)) hb7<|Ra 2 [1,1,1,1,1,0] [.c [1,1,1,1,1,1]]<|Rv 2 [42] [.slice Aa0_6 a0.Stands.length ca0_6] [.load ⟨g1,6,none⟩ (.slice Aa0_6 a0.Stands.length ca0_6)] [(42,.slice Aa0_6 a0.Stands.length ca0_6)] (fun w hh=>(hh.box 0 rfl rfl)) ?_
      obtain ⟨y7,hy7,heq⟩:=bind_some heq
      refine RgH.does (DoesH.call (d:=43) (g:=25) (args:=#[.slice Aa0_6 a0.Stands.length ca0_6]) (by kernel_rfl) (workers_checkStands_c (a0:=a0.Stands) (hra0_6.wk (fun _ h=>(.tail _ h))) hca0_6 rfl hy7)) ?_
      rintro _ _ _ _ ⟨_,rfl,rfl,rfl,rfl⟩
      refine Rd 4 [2] [(2,iv y7)] ?_
      obtain rfl:=Option.some.inj heq
      refine RunH.pick 1 [] (cs':=F) (by kernel_rfl) rfl ?_
      exact RunH.done (by kernel_rfl) Tryd.func20 (v:=iv y7) (by kernel_rfl) ⟨rfl,rfl,rfl⟩
   replace heq:=ht1
   refine Rr<|Rv 2 [1,15] [iv a0.Slots] [.load ⟨g1,2,none⟩ (iv a0.Slots)] [(1,pg g1 0),(15,iv a0.Slots)] (fun w hh=>(hh.box 0 rfl rfl)) ?_
   obtain ⟨y3,hy3,heq⟩:=bind_some heq
   refine RgH.does (DoesH.call (d:=16) (g:=21) (args:=#[iv a0.Slots,iv 1,iv 20]) (by kernel_rfl) (workers_within_c (a0:=a0.Slots) (a1:=1) (a2:=20)  hy3)) ?_
   rintro _ _ _ _ ⟨_,rfl,rfl,rfl,rfl⟩
   refine Rk 5 [18,1] [(18,.bool (!y3)),(1,pg g1 0)] ?_
   rcases bool_cases (!y3) with hb3 | hb3
   ·replace heq:=bif_true hb3 heq
    refine RgH.val1 (v':=.bool true) (congrArg Value.bool hb3) ?_
    refine Rk 22 [1,35] [(1,pg g1 0),(35,.bool true)] ?_
    obtain rfl:=Option.some.inj heq
    refine Kg [1,35] [(1,pg g1 0),(35,.bool true)]<|Dn ?_
    exact K2
   ·replace heq:=bif_false hb3 heq
    refine RgH.val1 (v':=.bool false) (congrArg Value.bool hb3) ?_
    refine Rv 7 [1,18,20] [iv a0.Speed] [.load ⟨g1,3,none⟩ (iv a0.Speed)] [(1,pg g1 0),(18,.bool false),(20,iv a0.Speed)] (fun w hh=>(hh.box 0 rfl rfl)) ?_
    obtain ⟨y4,hy4,heq⟩:=bind_some heq
    refine RgH.does (DoesH.call (d:=21) (g:=21) (args:=#[iv a0.Speed,iv 1,iv 1000]) (by kernel_rfl) (workers_within_c (a0:=a0.Speed) (a1:=1) (a2:=1000)  hy4)) ?_
    rintro _ _ _ _ ⟨_,rfl,rfl,rfl,rfl⟩
    refine Rk 11 [24,1] [(24,.bool (!y4)),(1,pg g1 0)] ?_
    rcases bool_cases (!y4) with hb4 | hb4
    ·replace heq:=bif_true hb4 heq
     refine RgH.val1 (v':=.bool true) (congrArg Value.bool hb4) ?_
     refine Rk 22 [1,35] [(1,pg g1 0),(35,.bool true)] ?_
     obtain rfl:=Option.some.inj heq
     refine Kg [1,35] [(1,pg g1 0),(35,.bool true)]<|Dn ?_
     exact K2
    ·replace heq:=bif_false hb4 heq
     refine RgH.val1 (v':=.bool false) (congrArg Value.bool hb4) ?_
     refine Rv 13 [1,24,26] [iv a0.From] [.load ⟨g1,4,none⟩ (iv a0.From)] [(1,pg g1 0),(24,.bool false),(26,iv a0.From)] (fun w hh=>(hh.box 0 rfl rfl)) ?_
     obtain ⟨y5,hy5,heq⟩:=bind_some heq
     refine RgH.does (DoesH.call (d:=27) (g:=24) (args:=#[iv a0.From]) (by kernel_rfl) (workers_isMoment_c (a0:=a0.From)  hy5)) ?_
     rintro _ _ _ _ ⟨_,rfl,rfl,rfl,rfl⟩
     refine Rk 17 [30,1] [(30,.bool (!y5)),(1,pg g1 0)] ?_
     rcases bool_cases (!y5) with hb5 | hb5
     ·replace heq:=bif_true hb5 heq
      refine RgH.val1 (v':=.bool true) (congrArg Value.bool hb5) ?_
      refine Rk 22 [1,35] [(1,pg g1 0),(35,.bool true)] ?_
      obtain rfl:=Option.some.inj heq
      refine Kg [1,35] [(1,pg g1 0),(35,.bool true)]<|Dn ?_
      exact K2
     ·replace heq:=bif_false hb5 heq
      refine RgH.val1 (v':=.bool false) (congrArg Value.bool hb5) ?_
      refine Rv 19 [1,30,32] [iv a0.To] [.load ⟨g1,5,none⟩ (iv a0.To)] [(1,pg g1 0),(30,.bool false),(32,iv a0.To)] (fun w hh=>(hh.box 0 rfl rfl)) ?_
      obtain ⟨y6,hy6,heq⟩:=bind_some heq
      refine RgH.does (DoesH.call (d:=33) (g:=24) (args:=#[iv a0.To]) (by kernel_rfl) (workers_isMoment_c (a0:=a0.To)  hy6)) ?_
      rintro _ _ _ _ ⟨_,rfl,rfl,rfl,rfl⟩
      refine Rk 22 [1,35] [(1,pg g1 0),(35,.bool (!y6))] ?_
      obtain rfl:=Option.some.inj heq
      refine Kg [1,35] [(1,pg g1 0),(35,.bool (!y6))]<|Dn ?_
      exact K2
noncomputable def C17:Ctx:={ P:=Tryd.prog,f:=17,N:=14,c:=bodyOf Tryd.f17 }
def S17 (F:List Ch) (H0:Hp) (r:Int) (v:Value) (H:Hp) (cs:List Ch):Prop:=H0=H∧v=iv r∧F=cs
theorem workers_checkSize_c {w0:World} {H:Hp} {F:List Ch} {a0:Worker} {Aa0_1:Option Addr} {na0_1:Nat} {ca0_1:Nat} {Aa0_6:Option Addr} {na0_6:Nat} {ca0_6:Nat} {a1:Int} {r:Int} (hra0_1:Rw kPair H F Aa0_1 a0.Has) (hca0_1:na0_1≤ca0_1) (hna0_1:na0_1=a0.Has.length) (hra0_6:Rw kSpan H F Aa0_6 a0.Stands) (hca0_6:na0_6≤ca0_6) (hna0_6:na0_6=a0.Stands.length) (heq:workers_checkSize.f a0 a1=some r):CallsH Tryd.prog 17 #[.agg #[.string a0.Name,.slice Aa0_1 na0_1 ca0_1,iv a0.Slots,iv a0.Speed,iv a0.From,iv a0.To,.slice Aa0_6 na0_6 ca0_6],iv a1] H w0 (F) (S17 F H r):=by
 refine calls_of_runH (F:=C17) Tryd.func17 (by kernel_rfl) Tryd.ntmps17 (args:=[.agg #[.string a0.Name,.slice Aa0_1 na0_1 ca0_1,iv a0.Slots,iv a0.Speed,iv a0.From,iv a0.To,.slice Aa0_6 na0_6 ca0_6],iv a1]) (by kernel_rfl) ?_
 subst hna0_1
 subst hna0_6
 unfold workers_checkSize.f at heq
 refine Ra 1 [0] [.c [1]] ?_
 refine RgH.does (DoesH.new (d:=2) (v:=fun g=>.pointer (some ⟨g,0,none⟩)) (o:=fun g=>.cells #[.string a0.Name,.slice Aa0_1 a0.Has.length ca0_1,iv a0.Slots,iv a0.Speed,iv a0.From,iv a0.To,.slice Aa0_6 a0.Stands.length ca0_6] 44 (0,0)) (fun g=>by kernel_rfl)) ?_
 rintro _ _ _ _ ⟨g1,rfl,rfl,rfl⟩
 refine Rd 2 [1,2] [(1,iv a1),(2,pg g1 0)]<|Ra 2 [1,0,0] [.c [1,0,1],.c [1,1]]<|Rv 1 [1,6] [.string a0.Name,.slice Aa0_1 a0.Has.length ca0_1,iv a0.Slots,iv a0.Speed,iv a0.From,iv a0.To,.slice Aa0_6 a0.Stands.length ca0_6] [.load ⟨g1,0,none⟩ (.string a0.Name),.load ⟨g1,1,none⟩ (.slice Aa0_1 a0.Has.length ca0_1),.load ⟨g1,2,none⟩ (iv a0.Slots),.load ⟨g1,3,none⟩ (iv a0.Speed),.load ⟨g1,4,none⟩ (iv a0.From),.load ⟨g1,5,none⟩ (iv a0.To),.load ⟨g1,6,none⟩ (.slice Aa0_6 a0.Stands.length ca0_6)] [(1,iv a1),(6,.agg #[.string a0.Name,.slice Aa0_1 a0.Has.length ca0_1,iv a0.Slots,iv a0.Speed,iv a0.From,iv a0.To,.slice Aa0_6 a0.Stands.length ca0_6])] (fun w hh=>⟨(hh.box 0 rfl rfl),(hh.box 0 rfl rfl),(hh.box 0 rfl rfl),(hh.box 0 rfl rfl),(hh.box 0 rfl rfl),(hh.box 0 rfl rfl),(hh.box 0 rfl rfl)⟩) ?_
 obtain ⟨y1,hy1,heq⟩:=bind_some heq
 refine RgH.does (DoesH.call (d:=7) (g:=20) (args:=#[.agg #[.string a0.Name,.slice Aa0_1 a0.Has.length ca0_1,iv a0.Slots,iv a0.Speed,iv a0.From,iv a0.To,.slice Aa0_6 a0.Stands.length ca0_6]]) (by kernel_rfl) (workers_checkWorker_c (a0:=a0) (hra0_1.wk (fun _ h=>(.tail _ h))) hca0_1 rfl (hra0_6.wk (fun _ h=>(.tail _ h))) hca0_6 rfl hy1)) ?_
 rintro _ _ _ _ ⟨_,rfl,rfl,rfl,rfl⟩
 refine Rd 3 [1,5] [(1,iv a1),(5,iv y1)]<|Ra 1 [1,0,1,0] [.c [1,0,1,1],.c [1,1]]<|Rd 2 [1,5,9] [(1,iv a1),(5,iv y1),(9,.bool (y1 != 0))] ?_
 rcases bool_cases (y1 != 0) with hb1 | hb1
 ·replace heq:=bif_true hb1 heq
  refine Ct (y1 != 0) hb1<|Ra 1 [1,0,1,1,0,0] [.c [1,0,1,1,0,1],.c [1,1]]<|Rd 2 [4] [(4,iv y1)] ?_
  obtain rfl:=Option.some.inj heq
  refine RunH.pick 1 [] (cs':=F) (by kernel_rfl) rfl ?_
  exact RunH.done (by kernel_rfl) Tryd.func17 (v:=iv y1) (by kernel_rfl) ⟨rfl,rfl,rfl⟩
 ·replace heq:=bif_false hb1 heq
  refine Cf (y1 != 0) hb1<|Ra 3 [1,1,0,0] [.c [1,1,0,1],.c [1,1,1]]<|Rk 1 [11] [(11,iv a1)] ?_
  obtain ⟨y2,hy2,heq⟩:=bind_some heq
  refine RgH.does (DoesH.call (d:=12) (g:=21) (args:=#[iv a1,iv 1,iv 1000000]) (by kernel_rfl) (workers_within_c (a0:=a1) (a1:=1) (a2:=1000000)  hy2)) ?_
  rintro _ _ _ _ ⟨_,rfl,rfl,rfl,rfl⟩
  refine Rd 3 [13] [(13,.bool (!y2))] ?_
  rcases bool_cases (!y2) with hb2 | hb2
  ·replace heq:=bif_true hb2 heq
   refine Ct (!y2) hb2<|Ra 1 [1,1,0,1,0,0] [.c [1,1,0,1,0,1],.c [1,1,1]]<|Rd 1 [4] [(4,iv 1)] ?_
   obtain rfl:=Option.some.inj heq
   refine RunH.pick 1 [] (cs':=F) (by kernel_rfl) rfl ?_
   exact RunH.done (by kernel_rfl) Tryd.func17 (v:=iv 1) (by kernel_rfl) ⟨rfl,rfl,rfl⟩
  ·replace heq:=bif_false hb2 heq
   refine Cf (!y2) hb2<|Ra 2 [1,1,1,0] [.c [1,1,1,1]]<|Rd 1 [4] [(4,iv 0)] ?_
   obtain rfl:=Option.some.inj heq
   refine RunH.pick 1 [] (cs':=F) (by kernel_rfl) rfl ?_
   exact RunH.done (by kernel_rfl) Tryd.func17 (v:=iv 0) (by kernel_rfl) ⟨rfl,rfl,rfl⟩
noncomputable def C18:Ctx:={ P:=Tryd.prog,f:=18,N:=13,c:=bodyOf Tryd.f18 }
def S18 (F:List Ch) (H0:Hp) (r:Int) (v:Value) (H:Hp) (cs:List Ch):Prop:=H0=H∧v=iv r∧F=cs
theorem workers_seconds_c {w0:World} {H:Hp} {F:List Ch} {a0:Worker} {Aa0_1:Option Addr} {na0_1:Nat} {ca0_1:Nat} {Aa0_6:Option Addr} {na0_6:Nat} {ca0_6:Nat} {a1:Int} {r:Int} (hra0_1:Rw kPair H F Aa0_1 a0.Has) (hca0_1:na0_1≤ca0_1) (hna0_1:na0_1=a0.Has.length) (hra0_6:Rw kSpan H F Aa0_6 a0.Stands) (hca0_6:na0_6≤ca0_6) (hna0_6:na0_6=a0.Stands.length) (heq:workers_seconds.f a0 a1=some r):CallsH Tryd.prog 18 #[.agg #[.string a0.Name,.slice Aa0_1 na0_1 ca0_1,iv a0.Slots,iv a0.Speed,iv a0.From,iv a0.To,.slice Aa0_6 na0_6 ca0_6],iv a1] H w0 (F) (S18 F H r):=by
 refine calls_of_runH (F:=C18) Tryd.func18 (by kernel_rfl) Tryd.ntmps18 (args:=[.agg #[.string a0.Name,.slice Aa0_1 na0_1 ca0_1,iv a0.Slots,iv a0.Speed,iv a0.From,iv a0.To,.slice Aa0_6 na0_6 ca0_6],iv a1]) (by kernel_rfl) ?_
 subst hna0_1
 subst hna0_6
 unfold workers_seconds.f at heq
 refine Ra 1 [0] [.c [1]] ?_
 refine RgH.does (DoesH.new (d:=2) (v:=fun g=>.pointer (some ⟨g,0,none⟩)) (o:=fun g=>.cells #[.string a0.Name,.slice Aa0_1 a0.Has.length ca0_1,iv a0.Slots,iv a0.Speed,iv a0.From,iv a0.To,.slice Aa0_6 a0.Stands.length ca0_6] 44 (0,0)) (fun g=>by kernel_rfl)) ?_
 rintro _ _ _ _ ⟨g1,rfl,rfl,rfl⟩
 refine Rd 2 [1,2] [(1,iv a1),(2,pg g1 0)]<|Ra 1 [1,0] [.c [1,1]] ?_
 obtain ⟨hn1,heq⟩:=guard?_some heq
 refine Rw' 9 [4] [iv a0.Speed,iv a0.Speed] [.load ⟨g1,3,none⟩ (iv a0.Speed),.load ⟨g1,3,none⟩ (iv a0.Speed),.need (a0.Speed≠(0:Int))] [(4,iv (w64 ((w64 ((w64 (a1+a0.Speed)) - 1)).tdiv a0.Speed)))] (fun w hh=>⟨(hh.box 0 rfl rfl),(hh.box 0 rfl rfl),(ne_of_bne hn1)⟩) ?_
 obtain rfl:=Option.some.inj heq
 refine RunH.pick 1 [] (cs':=F) (by kernel_rfl) rfl ?_
 exact RunH.done (by kernel_rfl) Tryd.func18 (v:=iv (w64 ((w64 ((w64 (a1+a0.Speed)) - 1)).tdiv a0.Speed))) (by kernel_rfl) ⟨rfl,rfl,rfl⟩
noncomputable def C13:Ctx:={ P:=Tryd.prog,f:=13,N:=16,c:=bodyOf Tryd.f13 }
def S13 (F:List Ch) (H0:Hp) (r:Int × Int) (v:Value) (H:Hp) (cs:List Ch):Prop:=H0=H∧v=.tuple #[iv r.1,iv r.2]∧F=cs
theorem workers_Seconds_c {w0:World} {H:Hp} {F:List Ch} {a0:Worker} {Aa0_1:Option Addr} {na0_1:Nat} {ca0_1:Nat} {Aa0_6:Option Addr} {na0_6:Nat} {ca0_6:Nat} {a1:Int} {r:Int × Int} (hra0_1:Rw kPair H F Aa0_1 a0.Has) (hca0_1:na0_1≤ca0_1) (hna0_1:na0_1=a0.Has.length) (hra0_6:Rw kSpan H F Aa0_6 a0.Stands) (hca0_6:na0_6≤ca0_6) (hna0_6:na0_6=a0.Stands.length) (heq:workers_Seconds.f a0 a1=some r):CallsH Tryd.prog 13 #[.agg #[.string a0.Name,.slice Aa0_1 na0_1 ca0_1,iv a0.Slots,iv a0.Speed,iv a0.From,iv a0.To,.slice Aa0_6 na0_6 ca0_6],iv a1] H w0 (F) (S13 F H r):=by
 refine calls_of_runH (F:=C13) Tryd.func13 (by kernel_rfl) Tryd.ntmps13 (args:=[.agg #[.string a0.Name,.slice Aa0_1 na0_1 ca0_1,iv a0.Slots,iv a0.Speed,iv a0.From,iv a0.To,.slice Aa0_6 na0_6 ca0_6],iv a1]) (by kernel_rfl) ?_
 subst hna0_1
 subst hna0_6
 unfold workers_Seconds.f at heq
 refine Ra 1 [0] [.c [1]] ?_
 refine RgH.does (DoesH.new (d:=2) (v:=fun g=>.pointer (some ⟨g,0,none⟩)) (o:=fun g=>.cells #[.string a0.Name,.slice Aa0_1 a0.Has.length ca0_1,iv a0.Slots,iv a0.Speed,iv a0.From,iv a0.To,.slice Aa0_6 a0.Stands.length ca0_6] 44 (0,0)) (fun g=>by kernel_rfl)) ?_
 rintro _ _ _ _ ⟨g1,rfl,rfl,rfl⟩
 refine Rd 3 [1,2] [(1,iv a1),(2,pg g1 0)]<|Ra 2 [1,0,0] [.c [1,0,1],.c [1,1]]<|Rv 2 [1,2,7,8] [.string a0.Name,.slice Aa0_1 a0.Has.length ca0_1,iv a0.Slots,iv a0.Speed,iv a0.From,iv a0.To,.slice Aa0_6 a0.Stands.length ca0_6] [.load ⟨g1,0,none⟩ (.string a0.Name),.load ⟨g1,1,none⟩ (.slice Aa0_1 a0.Has.length ca0_1),.load ⟨g1,2,none⟩ (iv a0.Slots),.load ⟨g1,3,none⟩ (iv a0.Speed),.load ⟨g1,4,none⟩ (iv a0.From),.load ⟨g1,5,none⟩ (iv a0.To),.load ⟨g1,6,none⟩ (.slice Aa0_6 a0.Stands.length ca0_6)] [(1,iv a1),(2,pg g1 0),(7,.agg #[.string a0.Name,.slice Aa0_1 a0.Has.length ca0_1,iv a0.Slots,iv a0.Speed,iv a0.From,iv a0.To,.slice Aa0_6 a0.Stands.length ca0_6]),(8,iv a1)] (fun w hh=>⟨(hh.box 0 rfl rfl),(hh.box 0 rfl rfl),(hh.box 0 rfl rfl),(hh.box 0 rfl rfl),(hh.box 0 rfl rfl),(hh.box 0 rfl rfl),(hh.box 0 rfl rfl)⟩) ?_
 obtain ⟨y1,hy1,heq⟩:=bind_some heq
 refine RgH.does (DoesH.call (d:=9) (g:=17) (args:=#[.agg #[.string a0.Name,.slice Aa0_1 a0.Has.length ca0_1,iv a0.Slots,iv a0.Speed,iv a0.From,iv a0.To,.slice Aa0_6 a0.Stands.length ca0_6],iv a1]) (by kernel_rfl) (workers_checkSize_c (a0:=a0) (a1:=a1) (hra0_1.wk (fun _ h=>(.tail _ h))) hca0_1 rfl (hra0_6.wk (fun _ h=>(.tail _ h))) hca0_6 rfl hy1)) ?_
 rintro _ _ _ _ ⟨_,rfl,rfl,rfl,rfl⟩
 refine Rd 4 [1,2,6] [(1,iv a1),(2,pg g1 0),(6,iv y1)]<|Ra 1 [1,0,1,0] [.c [1,0,1,1],.c [1,1]]<|Rd 2 [1,2,6,11] [(1,iv a1),(2,pg g1 0),(6,iv y1),(11,.bool (y1 != 0))] ?_
 rcases bool_cases (y1 != 0) with hb1 | hb1
 ·replace heq:=bif_true hb1 heq
  refine Ct (y1 != 0) hb1<|Ra 1 [1,0,1,1,0,0] [.c [1,0,1,1,0,1],.c [1,1]]<|Rd 3 [4,5] [(4,iv 0),(5,iv y1)] ?_
  obtain rfl:=Option.some.inj heq
  refine RunH.pick 1 [] (cs':=F) (by kernel_rfl) rfl ?_
  exact RunH.done (by kernel_rfl) Tryd.func13 (v:=.tuple #[iv 0,iv y1]) (by kernel_rfl) ⟨rfl,rfl,rfl⟩
 ·replace heq:=bif_false hb1 heq
  refine Cf (y1 != 0) hb1<|Ra 2 [1,1,0] [.c [1,1,1]]<|Rv 2 [13,14] [.string a0.Name,.slice Aa0_1 a0.Has.length ca0_1,iv a0.Slots,iv a0.Speed,iv a0.From,iv a0.To,.slice Aa0_6 a0.Stands.length ca0_6] [.load ⟨g1,0,none⟩ (.string a0.Name),.load ⟨g1,1,none⟩ (.slice Aa0_1 a0.Has.length ca0_1),.load ⟨g1,2,none⟩ (iv a0.Slots),.load ⟨g1,3,none⟩ (iv a0.Speed),.load ⟨g1,4,none⟩ (iv a0.From),.load ⟨g1,5,none⟩ (iv a0.To),.load ⟨g1,6,none⟩ (.slice Aa0_6 a0.Stands.length ca0_6)] [(13,.agg #[.string a0.Name,.slice Aa0_1 a0.Has.length ca0_1,iv a0.Slots,iv a0.Speed,iv a0.From,iv a0.To,.slice Aa0_6 a0.Stands.length ca0_6]),(14,iv a1)] (fun w hh=>⟨(hh.box 0 rfl rfl),(hh.box 0 rfl rfl),(hh.box 0 rfl rfl),(hh.box 0 rfl rfl),(hh.box 0 rfl rfl),(hh.box 0 rfl rfl),(hh.box 0 rfl rfl)⟩) ?_
  obtain ⟨y2,hy2,heq⟩:=bind_some heq
  refine RgH.does (DoesH.call (d:=15) (g:=18) (args:=#[.agg #[.string a0.Name,.slice Aa0_1 a0.Has.length ca0_1,iv a0.Slots,iv a0.Speed,iv a0.From,iv a0.To,.slice Aa0_6 a0.Stands.length ca0_6],iv a1]) (by kernel_rfl) (workers_seconds_c (a0:=a0) (a1:=a1) (hra0_1.wk (fun _ h=>(.tail _ h))) hca0_1 rfl (hra0_6.wk (fun _ h=>(.tail _ h))) hca0_6 rfl hy2)) ?_
  rintro _ _ _ _ ⟨_,rfl,rfl,rfl,rfl⟩
  refine Rd 5 [4,5] [(4,iv y2),(5,iv 0)] ?_
  obtain rfl:=Option.some.inj heq
  refine RunH.pick 1 [] (cs':=F) (by kernel_rfl) rfl ?_
  exact RunH.done (by kernel_rfl) Tryd.func13 (v:=.tuple #[iv y2,iv 0]) (by kernel_rfl) ⟨rfl,rfl,rfl⟩
noncomputable def C14:Ctx:={ P:=Tryd.prog,f:=14,N:=38,c:=bodyOf Tryd.f14 }
def S14 (F:List Ch) (H0:Hp) (r:ByteArray) (v:Value) (H:Hp) (cs:List Ch):Prop:=H0=H∧v=.string r∧F=cs
theorem blob_Digest.e2_c {w0:World} {H:Hp} {F:List Ch} {r:ByteArray}:∀ (v_out6:List Int) (Av_out6:Option Addr) (nv_out6:Nat) (cv_out6:Nat) (chv_out6:Ch) ,SlOwn (Kd.int .u8) 5 H Av_out6 cv_out6 v_out6 chv_out6→nv_out6=v_out6.length→blob_Digest.e2 v_out6=some r→RunH C14 (S14 F H r) H w0 [.c [1,1,1,1,1,0],.c [1,1,1,1,1,1]] [(6,.slice Av_out6 nv_out6 cv_out6)] H (chv_out6::F):=by
 intro v_out6 Av_out6 nv_out6 cv_out6 chv_out6 hov_out6 hnv_out6 heq
 subst hnv_out6
 unfold blob_Digest.e2 at heq
 refine Rr<|Rk 1 [36] [(36,.slice Av_out6 v_out6.length cv_out6)] ?_
 refine RgH.does (DoesH.bytesStr (d:=37) (c:=cv_out6) (xs:=v_out6) (by kernel_rfl) rfl (fun w hh=>hov_out6.rdb (hh.chin 0 rfl))) ?_
 rintro _ _ _ _ ⟨rfl,rfl,rfl⟩
 refine Rd 3 [2] [(2,.string (strN v_out6))] ?_
 obtain rfl:=Option.some.inj heq
 refine RunH.pick 1 [] (cs':=F) (by kernel_rfl) rfl ?_
 exact RunH.done (by kernel_rfl) Tryd.func14 (v:=.string (strN v_out6)) (by kernel_rfl) ⟨rfl,rfl,rfl⟩
theorem blob_Digest.l3_c {w0:World} {H:Hp} {F:List Ch} {r:ByteArray} (e2:(List Int)→Option ByteArray)
  (he2:∀ (v_out6:List Int) (Av_out6:Option Addr) (nv_out6:Nat) (cv_out6:Nat) (chv_out6:Ch) ,SlOwn (Kd.int .u8) 5 H Av_out6 cv_out6 v_out6 chv_out6→nv_out6=v_out6.length→e2 v_out6=some r→RunH C14 (S14 F H r) H w0 [.c [1,1,1,1,1,0],.c [1,1,1,1,1,1]] [(6,.slice Av_out6 nv_out6 cv_out6)] H (chv_out6::F)):∀ (k:Nat),∀ (v_n3:Int) (v_out6:List Int) (Av_out6:Option Addr) (nv_out6:Nat) (cv_out6:Nat) (chv_out6:Ch) (v23:Int) ,SlOwn (Kd.int .u8) 5 H Av_out6 cv_out6 v_out6 chv_out6→nv_out6=v_out6.length→blob_Digest.l3 e2 k v_n3 v_out6 v23=some r→RunH C14 (S14 F H r) H w0 [.c [1,1,1,1,0,1,0,0],.l [1,1,1,1,0,1,0,0],.b 2,.c [1,1,1,1,1]] [(3,.int .u64 v_n3),(6,.slice Av_out6 nv_out6 cv_out6),(22,iv ((List.replicate 16 (0)).length:Int)),(23,iv v23)] H (chv_out6::F):=by
 intro k
 induction k with
 | zero=>intro v_n3 v_out6 Av_out6 nv_out6 cv_out6 chv_out6 v23 hov_out6 hnv_out6 heq; exact nomatch (show (none:Option ByteArray)=some r from heq)
 | succ k ihk =>
  intro v_n3 v_out6 Av_out6 nv_out6 cv_out6 chv_out6 v23 hov_out6 hnv_out6 heq
  subst hnv_out6
  rw [blob_Digest.l3] at heq
  refine Ra 1 [1,1,1,1,0,1,0,0,0] [.c [1,1,1,1,0,1,0,0,1],.l [1,1,1,1,0,1,0,0],.b 2,.c [1,1,1,1,1]]<|Rd 1 [3,6,22,23,24] [(3,.int .u64 v_n3),(6,.slice Av_out6 v_out6.length cv_out6),(22,iv ((List.replicate 16 (0)).length:Int)),(23,iv v23),(24,.bool (decide (v23<((List.replicate 16 (0)).length:Int))))]<|Ad 1 [.c [1,1,1,1,0,1,0,0,1,0],.c [1,1,1,1,0,1,0,0,1,1],.l [1,1,1,1,0,1,0,0],.b 2,.c [1,1,1,1,1]] ?_
  rcases bool_cases (decide (v23<((List.replicate 16 (0)).length:Int))) with hb1 | hb1
  ·replace heq:=bif_true hb1 heq
   refine Ct (decide (v23<((List.replicate 16 (0)).length:Int))) hb1<|Ra 4 [1,1,1,1,0,1,0,0,1,1,0,0,0] [.c [1,1,1,1,0,1,0,0,1,1,0,0,1],.b 3,.c [1,1,1,1,0,1,0,0,1,1,1],.l [1,1,1,1,0,1,0,0],.b 2,.c [1,1,1,1,1]]<|Rd 2 [3,6,7,22,23] [(3,.int .u64 v_n3),(6,.slice Av_out6 v_out6.length cv_out6),(7,iv v23),(22,iv ((List.replicate 16 (0)).length:Int)),(23,iv v23)]<|Ra 1 [1,1,1,1,0,1,0,0,1,1,0,0,1,0] [.c [1,1,1,1,0,1,0,0,1,1,0,0,1,1],.b 3,.c [1,1,1,1,0,1,0,0,1,1,1],.l [1,1,1,1,0,1,0,0],.b 2,.c [1,1,1,1,1]] ?_
   obtain ⟨hn2,heq⟩:=guard?_some heq
   obtain ⟨x1,hx1,heq⟩:=bind_some heq
   obtain ⟨ha1,cs1,hK1,hcc1⟩:=hov_out6.get hx1
   obtain rfl:cs1=[.int .u8 x1]:=hK1
   refine Rv 7 [3,6,22,23,31,32] [] [.need ((0:Int)≤(iAnd .u64 v_n3 15)∧(iAnd .u64 v_n3 15)<(({ data:=#[48,49,50,51,52,53,54,55,56,57,97,98,99,100,101,102] }:ByteArray).size:Int)),.need (Av_out6=some (adr Av_out6)∧(0:Int)≤(w64 (15 - v23))∧(w64 (15 - v23))<((v_out6.length:Nat):Int))] [(3,.int .u64 v_n3),(6,.slice Av_out6 v_out6.length cv_out6),(22,iv ((List.replicate 16 (0)).length:Int)),(23,iv v23),(31,.int .u8 (bt ({ data:=#[48,49,50,51,52,53,54,55,56,57,97,98,99,100,101,102] }:ByteArray) (iAnd .u64 v_n3 15))),(32,.pointer (some ((adr Av_out6).add ((w64 (15 - v23)).toNat*1))))] (fun w hh=>⟨(both_of hn2),⟨ha1,(at?_some hx1).1,(at?_some hx1).2.1⟩⟩) ?_
   obtain ⟨ha2,cs2,hK2,hcc2⟩:=hov_out6.get hx1
   obtain rfl:cs2=[.int .u8 x1]:=hK2
   refine RgH.does (DoesH.storeEl (a:=((adr Av_out6).add ((w64 (15 - v23)).toNat*1))) (k:=0) (kd:=(Kd.int .u8)) (c0:=[.int .u8 x1]) (x':=(bt ({ data:=#[48,49,50,51,52,53,54,55,56,57,97,98,99,100,101,102] }:ByteArray) (iAnd .u64 v_n3 15))) (o:=0) (ix:=(w64 (15 - v23))) (v:=.int .u8 (bt ({ data:=#[48,49,50,51,52,53,54,55,56,57,97,98,99,100,101,102] }:ByteArray) (iAnd .u64 v_n3 15))) (by kernel_rfl) rfl hov_out6 hx1 (by kernel_rfl) hcc2 rfl (Nat.le_of_ble_eq_true (by kernel_rfl)) rfl) ?_
   rintro _ _ _ _ ⟨ch2,rfl,rfl,rfl,ho2⟩
   have hn3:v_out6.length=(v_out6.set (w64 (15 - v23)).toNat (bt ({ data:=#[48,49,50,51,52,53,54,55,56,57,97,98,99,100,101,102] }:ByteArray) (iAnd .u64 v_n3 15))).length:=by rw [List.length_set]
   refine Dn<|Rr<|Rw' 3 [3,6,22,23] [] [.need ((0:Int)≤4)] [(3,.int .u64 (iShr .u64 v_n3 4)),(6,.slice Av_out6 v_out6.length cv_out6),(22,iv ((List.replicate 16 (0)).length:Int)),(23,iv v23)] (fun w hh=>(show (0:Int)≤4 by decide))<|Ra 1 [1,1,1,1,0,1,0,0,1,1,1] [.l [1,1,1,1,0,1,0,0],.b 2,.c [1,1,1,1,1]]<|Rd 2 [3,6,22,23] [(3,.int .u64 (iShr .u64 v_n3 4)),(6,.slice Av_out6 v_out6.length cv_out6),(22,iv ((List.replicate 16 (0)).length:Int)),(23,iv (w64 (v23+1)))]<|Ad 1 [.c [1,1,1,1,0,1,0,0],.l [1,1,1,1,0,1,0,0],.b 2,.c [1,1,1,1,1]]<|Kp [3,6,22,23] [(3,.int .u64 (iShr .u64 v_n3 4)),(6,.slice Av_out6 v_out6.length cv_out6),(22,iv ((List.replicate 16 (0)).length:Int)),(23,iv (w64 (v23+1)))] ?_
   exact ihk (iShr .u64 v_n3 4) (v_out6.set (w64 (15 - v23)).toNat (bt ({ data:=#[48,49,50,51,52,53,54,55,56,57,97,98,99,100,101,102] }:ByteArray) (iAnd .u64 v_n3 15))) _ _ _ _ (w64 (v23+1)) ho2 hn3 heq
  ·replace heq:=bif_false hb1 heq
   refine Cf (decide (v23<((List.replicate 16 (0)).length:Int))) hb1<|Ad 2 [.c [1,1,1,1,1,0],.c [1,1,1,1,1,1]]<|Kp [6] [(6,.slice Av_out6 v_out6.length cv_out6)] ?_
   exact he2 v_out6 _ _ _ _ hov_out6 rfl heq
theorem blob_Digest.e1_c {w0:World} {H:Hp} {F:List Ch} {r:ByteArray}:∀ (v_n3:Int) ,blob_Digest.e1 v_n3=some r→RunH C14 (S14 F H r) H w0 [.c [1,1,1,0],.c [1,1,1,1]] [(3,.int .u64 v_n3)] H (F):=by
 intro v_n3  heq
 unfold blob_Digest.e1 at heq
 refine Rr ?_
 obtain ⟨hn1,heq⟩:=guard?_some heq
 simp only [Bool.and_eq_true,decide_eq_true_eq] at hn1
 refine RgH.does (DoesH.makeSlice (d:=20) (e:=5) (bytes:=1) (kd:=(Kd.int .u8)) (zc:=#[.int .u8 0]) (z:=0) (n:=16) (by kernel_rfl) hn1.1 (by have:=room_le hn1.2; simpa using this) (by have:=room_le hn1.2; simp at this; omega) rfl (by decide)) ?_
 rintro _ _ _ _ ⟨g1,ch1,rfl,rfl,rfl,ho1⟩
 refine Rd 2 [3,6] [(3,.int .u64 v_n3),(6,.slice (some ⟨g1,0,none⟩) ((List.replicate 16 (0)).length) 16)]<|Ra 2 [1,1,1,1,0,0] [.c [1,1,1,1,0,1],.c [1,1,1,1,1]]<|Rd 3 [3,6,22,23] [(3,.int .u64 v_n3),(6,.slice (some ⟨g1,0,none⟩) ((List.replicate 16 (0)).length) 16),(22,iv ((List.replicate 16 (0)).length:Int)),(23,iv 0)]<|Ad 2 [.c [1,1,1,1,0,1,0,0],.l [1,1,1,1,0,1,0,0],.b 2,.c [1,1,1,1,1]]<|Kp [3,6,22,23] [(3,.int .u64 v_n3),(6,.slice (some ⟨g1,0,none⟩) ((List.replicate 16 (0)).length) 16),(22,iv ((List.replicate 16 (0)).length:Int)),(23,iv 0)] ?_
 exact ((blob_Digest.l3_c (e2:=blob_Digest.e2) (blob_Digest.e2_c)) big) v_n3 (List.replicate 16 (0)) _ _ _ _ 0 ho1 rfl heq
theorem blob_Digest.l4_c {w0:World} {H:Hp} {F:List Ch} {r:ByteArray} (e1:Int→Option ByteArray)
  (he1:∀ (v_n3:Int) ,e1 v_n3=some r→RunH C14 (S14 F H r) H w0 [.c [1,1,1,0],.c [1,1,1,1]] [(3,.int .u64 v_n3)] H (F)):∀ (k:Nat),∀ (a0:List Int) (Aa0:Option Addr) (ca0:Nat) (v_n3:Int) (v10:Int) ,Rw (Kd.int .u8) H F Aa0 a0→a0.length≤ca0→blob_Digest.l4 e1 k a0 v_n3 v10=some r→RunH C14 (S14 F H r) H w0 [.c [1,1,0,1,0,0],.l [1,1,0,1,0,0],.b 0,.c [1,1,1]] [(3,.int .u64 v_n3),(8,.slice Aa0 a0.length ca0),(9,iv (a0.length:Int)),(10,iv v10)] H (F):=by
 intro k
 induction k with
 | zero=>intro a0 Aa0 ca0 v_n3 v10 hra0 hca0 heq; exact nomatch (show (none:Option ByteArray)=some r from heq)
 | succ k ihk =>
  intro a0 Aa0 ca0 v_n3 v10 hra0 hca0 heq
  rw [blob_Digest.l4] at heq
  refine Ra 1 [1,1,0,1,0,0,0] [.c [1,1,0,1,0,0,1],.l [1,1,0,1,0,0],.b 0,.c [1,1,1]]<|Rd 1 [3,8,9,10,11] [(3,.int .u64 v_n3),(8,.slice Aa0 a0.length ca0),(9,iv (a0.length:Int)),(10,iv v10),(11,.bool (decide (v10<(a0.length:Int))))]<|Ad 1 [.c [1,1,0,1,0,0,1,0],.c [1,1,0,1,0,0,1,1],.l [1,1,0,1,0,0],.b 0,.c [1,1,1]] ?_
  rcases bool_cases (decide (v10<(a0.length:Int))) with hb2 | hb2
  ·replace heq:=bif_true hb2 heq
   refine Ct (decide (v10<(a0.length:Int))) hb2<|Ra 4 [1,1,0,1,0,0,1,1,0,0,0] [.c [1,1,0,1,0,0,1,1,0,0,1],.b 1,.c [1,1,0,1,0,0,1,1,1],.l [1,1,0,1,0,0],.b 0,.c [1,1,1]] ?_
   obtain ⟨x2,hx2,heq⟩:=bind_some heq
   obtain ⟨ha3,cs3,hK3,hcc3⟩:=hra0.get hx2
   obtain rfl:cs3=[.int .u8 x2]:=hK3
   refine Rw' 3 [3,5,8,9,10] [.int .u8 x2] [.need (Aa0=some (adr Aa0)∧(0:Int)≤v10∧v10<((a0.length:Nat):Int)),.load ((adr Aa0).add (v10.toNat*1)) (.int .u8 x2)] [(3,.int .u64 v_n3),(5,.int .u8 x2),(8,.slice Aa0 a0.length ca0),(9,iv (a0.length:Int)),(10,iv v10)] (fun w hh=>⟨⟨ha3,(at?_some hx2).1,(at?_some hx2).2.1⟩,(hcc3 _ _ (hh.drop 0) 0 _ rfl)⟩)<|Rr<|Rd 6 [3,8,9,10] [(3,.int .u64 (IntKind.wrap .u64 ((iXor .u64 v_n3 (IntKind.wrap .u64 x2))*1099511628211))),(8,.slice Aa0 a0.length ca0),(9,iv (a0.length:Int)),(10,iv v10)]<|Ra 1 [1,1,0,1,0,0,1,1,1] [.l [1,1,0,1,0,0],.b 0,.c [1,1,1]]<|Rd 2 [3,8,9,10] [(3,.int .u64 (IntKind.wrap .u64 ((iXor .u64 v_n3 (IntKind.wrap .u64 x2))*1099511628211))),(8,.slice Aa0 a0.length ca0),(9,iv (a0.length:Int)),(10,iv (w64 (v10+1)))]<|Ad 1 [.c [1,1,0,1,0,0],.l [1,1,0,1,0,0],.b 0,.c [1,1,1]]<|Kp [3,8,9,10] [(3,.int .u64 (IntKind.wrap .u64 ((iXor .u64 v_n3 (IntKind.wrap .u64 x2))*1099511628211))),(8,.slice Aa0 a0.length ca0),(9,iv (a0.length:Int)),(10,iv (w64 (v10+1)))] ?_
   exact ihk a0 _ _ (IntKind.wrap .u64 ((iXor .u64 v_n3 (IntKind.wrap .u64 x2))*1099511628211)) (w64 (v10+1)) hra0 hca0 heq
  ·replace heq:=bif_false hb2 heq
   refine Cf (decide (v10<(a0.length:Int))) hb2<|Ad 2 [.c [1,1,1,0],.c [1,1,1,1]]<|Kp [3] [(3,.int .u64 v_n3)] ?_
   exact he1 v_n3 heq
theorem blob_Digest_c {w0:World} {H:Hp} {F:List Ch} {a0:List Int} {Aa0:Option Addr} {na0:Nat} {ca0:Nat} {r:ByteArray} (hra0:Rw (Kd.int .u8) H F Aa0 a0) (hca0:na0≤ca0) (hna0:na0=a0.length) (heq:blob_Digest.f a0=some r):CallsH Tryd.prog 14 #[.slice Aa0 na0 ca0] H w0 (F) (S14 F H r):=by
 refine calls_of_runH (F:=C14) Tryd.func14 (by kernel_rfl) Tryd.ntmps14 (args:=[.slice Aa0 na0 ca0]) (by kernel_rfl) ?_
 subst hna0
 unfold blob_Digest.f at heq
 refine Ra 1 [0] [.c [1]]<|Rd 1 [0] [(0,.slice Aa0 a0.length ca0)]<|Ra 1 [1,0] [.c [1,1]]<|Rd 1 [0,3] [(0,.slice Aa0 a0.length ca0),(3,.int .u64 14695981039346656037)]<|Ra 2 [1,1,0,0] [.c [1,1,0,1],.c [1,1,1]]<|Rd 3 [3,8,9,10] [(3,.int .u64 14695981039346656037),(8,.slice Aa0 a0.length ca0),(9,iv (a0.length:Int)),(10,iv 0)]<|Ad 2 [.c [1,1,0,1,0,0],.l [1,1,0,1,0,0],.b 0,.c [1,1,1]]<|Kp [3,8,9,10] [(3,.int .u64 14695981039346656037),(8,.slice Aa0 a0.length ca0),(9,iv (a0.length:Int)),(10,iv 0)] ?_
 exact ((blob_Digest.l4_c (e1:=blob_Digest.e1) (blob_Digest.e1_c)) big) a0 _ _ 14695981039346656037 0 hra0 hca0 heq
noncomputable def C5:Ctx:={ P:=Tryd.prog,f:=5,N:=18,c:=bodyOf Tryd.f5 }
def S5 (F:List Ch) (H0:Hp) (r:Bool) (v:Value) (H:Hp) (cs:List Ch):Prop:=H0=H∧v=.bool r∧F=cs
theorem smithyardtop_alive_c {w0:World} {H:Hp} {F:List Ch} {r:Bool} (heq:smithyardtop_alive.f=some r):CallsH Tryd.prog 5 (List.toArray []) H w0 (F) (S5 F H r):=by
 refine calls_of_runH (F:=C5) Tryd.func5 (by kernel_rfl) Tryd.ntmps5 (args:=[]) (by kernel_rfl) ?_
 unfold smithyardtop_alive.f at heq
 refine Ra 1 [0] [.c [1]]<|Rd 1 [] []<|Ra 1 [1,0] [.c [1,1]]<|Rk 1 [4] [(4,.agg #[.string ({ data:=#[97] }:ByteArray),.slice none 0 0,iv 1,iv 2,iv 0,iv 1,.slice none 0 0])] ?_
 obtain ⟨y1,hy1,heq⟩:=bind_some heq
 refine RgH.does (DoesH.call (d:=5) (g:=13) (args:=#[.agg #[.string ({ data:=#[97] }:ByteArray),.slice none 0 0,iv 1,iv 2,iv 0,iv 1,.slice none 0 0],iv 3]) (by kernel_rfl) (workers_Seconds_c (a0:=(⟨({ data:=#[97] }:ByteArray),([]:List Pair),1,2,0,1,([]:List Span)⟩:Worker)) (a1:=3) Rw.nil (Nat.le_refl _) rfl Rw.nil (Nat.le_refl _) rfl hy1)) ?_
 rintro _ _ _ _ ⟨_,rfl,rfl,rfl,rfl⟩
 refine Rd 7 [1,2] [(1,iv y1.1),(2,iv y1.2)]<|Ad 1 [.c [1,1,0],.c [1,1,1]] ?_
 obtain ⟨t1,ht1,heq⟩:=bind_some heq
 have K1:RunH C5 (S5 F H r) H w0 [.c [1,1,1]] [(0,.bool t1)] H (F):=by
  obtain rfl:=Option.some.inj heq
  exact RunH.done (by kernel_rfl) Tryd.func5 (v:=.bool t1) (by kernel_rfl) ⟨rfl,rfl,rfl⟩
 replace heq:=ht1
 refine Rr<|Rk 3 [10,1] [(10,.bool (y1.2 == 0)),(1,iv y1.1)] ?_
 rcases bool_cases (y1.2 == 0) with hb1 | hb1
 ·replace heq:=bif_true hb1 heq
  refine RgH.val1 (v':=.bool true) (congrArg Value.bool hb1) ?_
  refine Rk 7 [14] [(14,.bool (y1.1 == 2))] ?_
  rcases bool_cases (y1.1 == 2) with hb2 | hb2
  ·replace heq:=bif_true hb2 heq
   refine RgH.val1 (v':=.bool true) (congrArg Value.bool hb2) ?_
   obtain ⟨y2,hy2,heq⟩:=bind_some heq
   refine RgH.does (DoesH.call (d:=15) (g:=14) (args:=#[.slice none 0 0]) (by kernel_rfl) (blob_Digest_c (a0:=([]:List Int)) Rw.nil (Nat.le_refl _) rfl hy2)) ?_
   rintro _ _ _ _ ⟨_,rfl,rfl,rfl,rfl⟩
   refine Rk 11 [0] [(0,.bool (sEq y2 ({ data:=#[99,98,102,50,57,99,101,52,56,52,50,50,50,51,50,53] }:ByteArray)))] ?_
   obtain rfl:=Option.some.inj heq
   refine Kg [0] [(0,.bool (sEq y2 ({ data:=#[99,98,102,50,57,99,101,52,56,52,50,50,50,51,50,53] }:ByteArray)))]<|Dn ?_
   exact K1
  ·replace heq:=bif_false hb2 heq
   refine RgH.val1 (v':=.bool false) (congrArg Value.bool hb2) ?_
   refine Rk 11 [0] [(0,.bool false)] ?_
   obtain rfl:=Option.some.inj heq
   refine Kg [0] [(0,.bool false)]<|Dn ?_
   exact K1
 ·replace heq:=bif_false hb1 heq
  refine RgH.val1 (v':=.bool false) (congrArg Value.bool hb1) ?_
  refine Rk 11 [0] [(0,.bool false)] ?_
  obtain rfl:=Option.some.inj heq
  refine Kg [0] [(0,.bool false)]<|Dn ?_
  exact K1
noncomputable def C6:Ctx:={ P:=Tryd.prog,f:=6,N:=30,c:=bodyOf Tryd.f6 }
def S6 (F:List Ch) (H0:Hp) (r:(List (List Int))) (v:Value) (H:Hp) (cs:List Ch):Prop:=∃ (A0:Option Addr) (c0:Nat) (ch0:Ch),H0=H∧v=.slice A0 r.length c0∧ch0::F=cs∧SlOwn (Kd.slice (Kd.int .u8)) 22 H A0 c0 r ch0
theorem smithyardtop_cutInto.e1_c {w0:World} {H:Hp} {F:List Ch} {r:(List (List Int))}:∀ (v_out5:List (List Int)) (Av_out5:Option Addr) (nv_out5:Nat) (cv_out5:Nat) (chv_out5:Ch) ,SlOwn (Kd.slice (Kd.int .u8)) 22 H Av_out5 cv_out5 v_out5 chv_out5→nv_out5=v_out5.length→smithyardtop_cutInto.e1 v_out5=some r→RunH C6 (S6 F H r) H w0 [.c [1,1,1,0],.c [1,1,1,1]] [(5,.slice Av_out5 nv_out5 cv_out5)] H (chv_out5::F):=by
 intro v_out5 Av_out5 nv_out5 cv_out5 chv_out5 hov_out5 hnv_out5 heq
 subst hnv_out5
 unfold smithyardtop_cutInto.e1 at heq
 refine Rr<|Rd 2 [4] [(4,.slice Av_out5 v_out5.length cv_out5)] ?_
 obtain rfl:=Option.some.inj heq
 exact RunH.done (by kernel_rfl) Tryd.func6 (v:=.slice Av_out5 v_out5.length cv_out5) (by kernel_rfl) ⟨Av_out5,cv_out5,chv_out5,rfl,rfl,rfl,hov_out5⟩
theorem smithyardtop_cutInto.l2_c {w0:World} {H:Hp} {F:List Ch} {r:(List (List Int))} (e1:(List (List Int))→Option (List (List Int)))
  (he1:∀ (v_out5:List (List Int)) (Av_out5:Option Addr) (nv_out5:Nat) (cv_out5:Nat) (chv_out5:Ch) ,SlOwn (Kd.slice (Kd.int .u8)) 22 H Av_out5 cv_out5 v_out5 chv_out5→nv_out5=v_out5.length→e1 v_out5=some r→RunH C6 (S6 F H r) H w0 [.c [1,1,1,0],.c [1,1,1,1]] [(5,.slice Av_out5 nv_out5 cv_out5)] H (chv_out5::F)):∀ (k:Nat),∀ (a1:List Int) (Aa1:Option Addr) (ca1:Nat) (v_b0:List Int) (Av_b0:Option Addr) (nv_b0:Nat) (cv_b0:Nat) (v_out5:List (List Int)) (Av_out5:Option Addr) (nv_out5:Nat) (cv_out5:Nat) (chv_out5:Ch) (v10:Int) ,Rw (Kd.int .i64) H F Aa1 a1→a1.length≤ca1→Kd.Row (Kd.int .u8) H Av_b0 v_b0→nv_b0≤cv_b0→nv_b0=v_b0.length→SlOwn (Kd.slice (Kd.int .u8)) 22 H Av_out5 cv_out5 v_out5 chv_out5→nv_out5=v_out5.length→smithyardtop_cutInto.l2 e1 k a1 v_b0 v_out5 v10=some r→RunH C6 (S6 F H r) H w0 [.c [1,1,0,1,0,0],.l [1,1,0,1,0,0],.b 0,.c [1,1,1]] [(0,.slice Av_b0 nv_b0 cv_b0),(5,.slice Av_out5 nv_out5 cv_out5),(8,.slice Aa1 a1.length ca1),(9,iv (a1.length:Int)),(10,iv v10)] H (chv_out5::F):=by
 intro k
 induction k with
 | zero=>intro a1 Aa1 ca1 v_b0 Av_b0 nv_b0 cv_b0 v_out5 Av_out5 nv_out5 cv_out5 chv_out5 v10 hra1 hca1 hrv_b0 hcv_b0 hnv_b0 hov_out5 hnv_out5 heq; exact nomatch (show (none:Option (List (List Int)))=some r from heq)
 | succ k ihk =>
  intro a1 Aa1 ca1 v_b0 Av_b0 nv_b0 cv_b0 v_out5 Av_out5 nv_out5 cv_out5 chv_out5 v10 hra1 hca1 hrv_b0 hcv_b0 hnv_b0 hov_out5 hnv_out5 heq
  subst hnv_b0
  subst hnv_out5
  rw [smithyardtop_cutInto.l2] at heq
  refine Ra 1 [1,1,0,1,0,0,0] [.c [1,1,0,1,0,0,1],.l [1,1,0,1,0,0],.b 0,.c [1,1,1]]<|Rd 1 [0,5,8,9,10,11] [(0,.slice Av_b0 v_b0.length cv_b0),(5,.slice Av_out5 v_out5.length cv_out5),(8,.slice Aa1 a1.length ca1),(9,iv (a1.length:Int)),(10,iv v10),(11,.bool (decide (v10<(a1.length:Int))))]<|Ad 1 [.c [1,1,0,1,0,0,1,0],.c [1,1,0,1,0,0,1,1],.l [1,1,0,1,0,0],.b 0,.c [1,1,1]] ?_
  rcases bool_cases (decide (v10<(a1.length:Int))) with hb1 | hb1
  ·replace heq:=bif_true hb1 heq
   refine Ct (decide (v10<(a1.length:Int))) hb1<|Ra 4 [1,1,0,1,0,0,1,1,0,0,0] [.c [1,1,0,1,0,0,1,1,0,0,1],.b 1,.c [1,1,0,1,0,0,1,1,1],.l [1,1,0,1,0,0],.b 0,.c [1,1,1]] ?_
   obtain ⟨x1,hx1,heq⟩:=bind_some heq
   obtain ⟨ha1,cs1,hK1,hcc1⟩:=hra1.get hx1
   obtain rfl:cs1=[iv x1]:=hK1
   refine Rw' 3 [0,5,7,8,9,10] [iv x1] [.need (Aa1=some (adr Aa1)∧(0:Int)≤v10∧v10<((a1.length:Nat):Int)),.load ((adr Aa1).add (v10.toNat*1)) (iv x1)] [(0,.slice Av_b0 v_b0.length cv_b0),(5,.slice Av_out5 v_out5.length cv_out5),(7,iv x1),(8,.slice Aa1 a1.length ca1),(9,iv (a1.length:Int)),(10,iv v10)] (fun w hh=>⟨⟨ha1,(at?_some hx1).1,(at?_some hx1).2.1⟩,(hcc1 _ _ (hh.drop 1) 0 _ rfl)⟩)<|Ra 1 [1,1,0,1,0,0,1,1,0,0,1,0] [.c [1,1,0,1,0,0,1,1,0,0,1,1],.b 1,.c [1,1,0,1,0,0,1,1,1],.l [1,1,0,1,0,0],.b 0,.c [1,1,1]]<|Rd 6 [0,5,7,8,9,10] [(0,.slice Av_b0 v_b0.length cv_b0),(5,.slice Av_out5 v_out5.length cv_out5),(7,iv (max2 0 (min2 x1 (v_b0.length:Int)))),(8,.slice Aa1 a1.length ca1),(9,iv (a1.length:Int)),(10,iv v10)]<|Ra 1 [1,1,0,1,0,0,1,1,0,0,1,1,0] [.c [1,1,0,1,0,0,1,1,0,0,1,1,1],.b 1,.c [1,1,0,1,0,0,1,1,1],.l [1,1,0,1,0,0],.b 0,.c [1,1,1]] ?_
   obtain ⟨hn2,heq⟩:=guard?_some heq
   have hn1:(max2 0 (min2 x1 (v_b0.length:Int))).toNat=(v_b0.take (max2 0 (min2 x1 (v_b0.length:Int))).toNat).length:=by have h1:=both_of hn2; have h3:=trivial; (try simp); (try omega)
   have hr1:=Kd.Row.take hrv_b0 (max2 0 (min2 x1 (v_b0.length:Int))).toNat
   have hc1:(max2 0 (min2 x1 (v_b0.length:Int))).toNat≤cv_b0:=by have h2:=hcv_b0; have h1:=both_of hn2; omega
   refine Rv 4 [0,7,8,9,10,19,22] [] [.need ((0:Int)≤(max2 0 (min2 x1 (v_b0.length:Int)))∧(max2 0 (min2 x1 (v_b0.length:Int)))≤((cv_b0:Nat):Int))] [(0,.slice Av_b0 v_b0.length cv_b0),(7,iv (max2 0 (min2 x1 (v_b0.length:Int)))),(8,.slice Aa1 a1.length ca1),(9,iv (a1.length:Int)),(10,iv v10),(19,.slice Av_out5 v_out5.length cv_out5),(22,.slice Av_b0 ((max2 0 (min2 x1 (v_b0.length:Int))).toNat) cv_b0)] (fun w hh=>⟨(both_of hn2).1,(by have h1:=(both_of hn2).2; have h2:=hcv_b0; have h3:=trivial; omega)⟩) ?_
   refine RgH.does (DoesH.new (d:=23) (v:=fun g=>.slice (some ⟨g,0,none⟩) 1 1) (o:=fun g=>.cells #[.slice Av_b0 ((max2 0 (min2 x1 (v_b0.length:Int))).toNat) cv_b0] 22 (0,0)) (fun g=>by kernel_rfl)) ?_
   rintro _ _ _ _ ⟨g1,rfl,rfl,rfl⟩
   have ho1:SlOwn (Kd.slice (Kd.int .u8)) 22 H (some ⟨g1,0,none⟩) 1 ([(v_b0.take (max2 0 (min2 x1 (v_b0.length:Int))).toNat)]:List (List Int)) (some (g1,.cells #[.slice Av_b0 ((max2 0 (min2 x1 (v_b0.length:Int))).toNat) cv_b0] 22 (0,0))):=SlOwn.lit (xs:=([(v_b0.take (max2 0 (min2 x1 (v_b0.length:Int))).toNat)]:List (List Int))) (by kernel_rfl) (Nat.le_of_ble_eq_true (by kernel_rfl)) (Kd.Rep.one ⟨Av_b0,cv_b0,(by rw [← hn1]),(by rw [← hn1]; exact hc1),hr1⟩)
   obtain ⟨hn3,heq⟩:=guard?_some heq
   refine RgH.does (DoesH.append (d:=24) (k:=1) (t:=28) (e:=22) (bytes:=24) (kd:=(Kd.slice (Kd.int .u8))) (n:=v_out5.length) (m:=1) (xs:=v_out5) (ys:=([(v_b0.take (max2 0 (min2 x1 (v_b0.length:Int))).toNat)]:List (List Int))) (A:=Av_out5) (B:=(some ⟨g1,0,none⟩)) (c:=cv_out5) (cB:=1) (by kernel_rfl) rfl rfl (by kernel_rfl) rfl hov_out5 (fun w hh=>ho1.rdb (hh.chin 0 rfl)) (room_le hn3) (by have:=room_le hn3; omega)) ?_
   rintro _ _ _ _ ⟨A1,c1,ch1,rfl,rfl,rfl,ho2⟩
   refine Rd 7 [0,5,7,8,9,10] [(0,.slice Av_b0 v_b0.length cv_b0),(5,.slice A1 ((v_out5++([(v_b0.take (max2 0 (min2 x1 (v_b0.length:Int))).toNat)]:List (List Int))).length) c1),(7,iv (max2 0 (min2 x1 (v_b0.length:Int)))),(8,.slice Aa1 a1.length ca1),(9,iv (a1.length:Int)),(10,iv v10)]<|Rr ?_
   obtain ⟨hn5,heq⟩:=guard?_some heq
   have hn4:v_b0.length - (max2 0 (min2 x1 (v_b0.length:Int))).toNat=(v_b0.drop (max2 0 (min2 x1 (v_b0.length:Int))).toNat).length:=by have h1:=both_of hn5; have h3:=trivial; (try simp); (try omega)
   have hr2:=Kd.Row.drop hrv_b0 (max2 0 (min2 x1 (v_b0.length:Int))).toNat cv_b0 (by have h2:=hcv_b0; have h3:=trivial; omega)
   have hc2:v_b0.length - (max2 0 (min2 x1 (v_b0.length:Int))).toNat≤cv_b0 - (max2 0 (min2 x1 (v_b0.length:Int))).toNat:=by have h2:=hcv_b0; have h1:=both_of hn5; omega
   refine Rw' 4 [0,5,8,9,10] [] [.need ((0:Int)≤(max2 0 (min2 x1 (v_b0.length:Int)))∧(max2 0 (min2 x1 (v_b0.length:Int)))≤((v_b0.length:Nat):Int))] [(0,.slice (shiftA cv_b0 (max2 0 (min2 x1 (v_b0.length:Int))).toNat 1 Av_b0) (v_b0.length - (max2 0 (min2 x1 (v_b0.length:Int))).toNat) (cv_b0 - (max2 0 (min2 x1 (v_b0.length:Int))).toNat)),(5,.slice A1 ((v_out5++([(v_b0.take (max2 0 (min2 x1 (v_b0.length:Int))).toNat)]:List (List Int))).length) c1),(8,.slice Aa1 a1.length ca1),(9,iv (a1.length:Int)),(10,iv v10)] (fun w hh=>(both_of hn5))<|Ra 1 [1,1,0,1,0,0,1,1,1] [.l [1,1,0,1,0,0],.b 0,.c [1,1,1]]<|Rd 2 [0,5,8,9,10] [(0,.slice (shiftA cv_b0 (max2 0 (min2 x1 (v_b0.length:Int))).toNat 1 Av_b0) (v_b0.length - (max2 0 (min2 x1 (v_b0.length:Int))).toNat) (cv_b0 - (max2 0 (min2 x1 (v_b0.length:Int))).toNat)),(5,.slice A1 ((v_out5++([(v_b0.take (max2 0 (min2 x1 (v_b0.length:Int))).toNat)]:List (List Int))).length) c1),(8,.slice Aa1 a1.length ca1),(9,iv (a1.length:Int)),(10,iv (w64 (v10+1)))]<|Ad 1 [.c [1,1,0,1,0,0],.l [1,1,0,1,0,0],.b 0,.c [1,1,1]]<|Kp [0,5,8,9,10] [(0,.slice (shiftA cv_b0 (max2 0 (min2 x1 (v_b0.length:Int))).toNat 1 Av_b0) (v_b0.length - (max2 0 (min2 x1 (v_b0.length:Int))).toNat) (cv_b0 - (max2 0 (min2 x1 (v_b0.length:Int))).toNat)),(5,.slice A1 ((v_out5++([(v_b0.take (max2 0 (min2 x1 (v_b0.length:Int))).toNat)]:List (List Int))).length) c1),(8,.slice Aa1 a1.length ca1),(9,iv (a1.length:Int)),(10,iv (w64 (v10+1)))] ?_
   refine RunH.pick 2 [1] (cs':=ch1::F) (by kernel_rfl) rfl ?_
   exact ihk a1 _ _ (v_b0.drop (max2 0 (min2 x1 (v_b0.length:Int))).toNat) _ _ _ (v_out5++([(v_b0.take (max2 0 (min2 x1 (v_b0.length:Int))).toNat)]:List (List Int))) _ _ _ _ (w64 (v10+1)) hra1 hca1 hr2 hc2 hn4 ho2 rfl heq
  ·replace heq:=bif_false hb1 heq
   refine Cf (decide (v10<(a1.length:Int))) hb1<|Ad 2 [.c [1,1,1,0],.c [1,1,1,1]]<|Kp [5] [(5,.slice Av_out5 v_out5.length cv_out5)] ?_
   exact he1 v_out5 _ _ _ _ hov_out5 rfl heq
theorem smithyardtop_cutInto_c {w0:World} {H:Hp} {F:List Ch} {a0:List Int} {Aa0:Option Addr} {na0:Nat} {ca0:Nat} {a1:List Int} {Aa1:Option Addr} {na1:Nat} {ca1:Nat} {r:(List (List Int))} (hra0:Kd.Row (Kd.int .u8) H Aa0 a0) (hca0:na0≤ca0) (hna0:na0=a0.length) (hra1:Rw (Kd.int .i64) H F Aa1 a1) (hca1:na1≤ca1) (hna1:na1=a1.length) (heq:smithyardtop_cutInto.f a0 a1=some r):CallsH Tryd.prog 6 #[.slice Aa0 na0 ca0,.slice Aa1 na1 ca1] H w0 (F) (S6 F H r):=by
 refine calls_of_runH (F:=C6) Tryd.func6 (by kernel_rfl) Tryd.ntmps6 (args:=[.slice Aa0 na0 ca0,.slice Aa1 na1 ca1]) (by kernel_rfl) ?_
 subst hna0
 subst hna1
 unfold smithyardtop_cutInto.f at heq
 refine Ra 1 [0] [.c [1]]<|Rd 1 [0,1] [(0,.slice Aa0 a0.length ca0),(1,.slice Aa1 a1.length ca1)]<|Ra 1 [1,0] [.c [1,1]]<|Rd 1 [0,1,5] [(0,.slice Aa0 a0.length ca0),(1,.slice Aa1 a1.length ca1),(5,.slice none 0 0)]<|Ra 2 [1,1,0,0] [.c [1,1,0,1],.c [1,1,1]]<|Rd 3 [0,5,8,9,10] [(0,.slice Aa0 a0.length ca0),(5,.slice none 0 0),(8,.slice Aa1 a1.length ca1),(9,iv (a1.length:Int)),(10,iv 0)]<|Ad 2 [.c [1,1,0,1,0,0],.l [1,1,0,1,0,0],.b 0,.c [1,1,1]]<|RunH.nilc ?_
 have ho3:SlOwn (Kd.slice (Kd.int .u8)) 22 H none 0 ([]:List (List Int)) none:=SlOwn.nil
 refine Kp [0,5,8,9,10] [(0,.slice Aa0 a0.length ca0),(5,.slice none 0 0),(8,.slice Aa1 a1.length ca1),(9,iv (a1.length:Int)),(10,iv 0)] ?_
 exact ((smithyardtop_cutInto.l2_c (e1:=smithyardtop_cutInto.e1) (smithyardtop_cutInto.e1_c)) big) a1 _ _ a0 _ _ _ ([]:List (List Int)) _ _ _ _ 0 hra1 hca1 hra0 hca0 rfl ho3 rfl heq
noncomputable def C15:Ctx:={ P:=Tryd.prog,f:=15,N:=24,c:=bodyOf Tryd.f15 }
def S15 (F:List Ch) (H0:Hp) (r:Int) (v:Value) (H:Hp) (cs:List Ch):Prop:=H0=H∧v=iv r∧F=cs
theorem wire_checkPieces.e1_c {w0:World} {H:Hp} {F:List Ch} {r:Int}:∀ (a0:List (List Int)) (Aa0:Option Addr) (ca0:Nat) (v_sum3:Int) ,Rw (Kd.slice (Kd.int .u8)) H F Aa0 a0→a0.length≤ca0→wire_checkPieces.e1 a0 v_sum3=some r→RunH C15 (S15 F H r) H w0 [.c [1,1,1,0,0],.c [1,1,1,0,1],.c [1,1,1,1]] [(0,.slice Aa0 a0.length ca0),(3,iv v_sum3)] H (F):=by
 intro a0 Aa0 ca0 v_sum3 hra0 hca0 heq
 unfold wire_checkPieces.e1 at heq
 obtain ⟨t1,ht1,heq⟩:=bind_some heq
 have K1:RunH C15 (S15 F H r) H w0 [.c [1,1,1,0,1],.c [1,1,1,1]] [(23,.bool t1)] H (F):=by
  rcases bool_cases (t1) with hb2 | hb2
  ·replace heq:=bif_true hb2 heq
   refine Ct t1 hb2<|Ra 1 [1,1,1,0,1,0,0] [.c [1,1,1,0,1,0,1],.c [1,1,1,1]]<|Rd 1 [2] [(2,iv 2)] ?_
   obtain rfl:=Option.some.inj heq
   exact RunH.done (by kernel_rfl) Tryd.func15 (v:=iv 2) (by kernel_rfl) ⟨rfl,rfl,rfl⟩
  ·replace heq:=bif_false hb2 heq
   refine Cf t1 hb2<|Ra 2 [1,1,1,1,0] [.c [1,1,1,1,1]]<|Rd 1 [2] [(2,iv 0)] ?_
   obtain rfl:=Option.some.inj heq
   exact RunH.done (by kernel_rfl) Tryd.func15 (v:=iv 0) (by kernel_rfl) ⟨rfl,rfl,rfl⟩
 replace heq:=ht1
 refine Rr<|Rk 4 [20,3] [(20,.bool (decide (20000<(a0.length:Int)))),(3,iv v_sum3)] ?_
 rcases bool_cases (decide (20000<(a0.length:Int))) with hb1 | hb1
 ·replace heq:=bif_true hb1 heq
  refine RgH.val1 (v':=.bool true) (congrArg Value.bool hb1) ?_
  refine Rk 7 [23] [(23,.bool true)] ?_
  obtain rfl:=Option.some.inj heq
  refine Kg [23] [(23,.bool true)]<|Dn ?_
  exact K1
 ·replace heq:=bif_false hb1 heq
  refine RgH.val1 (v':=.bool false) (congrArg Value.bool hb1) ?_
  refine Rk 7 [23] [(23,.bool (decide (2000000<v_sum3)))] ?_
  obtain rfl:=Option.some.inj heq
  refine Kg [23] [(23,.bool (decide (2000000<v_sum3)))]<|Dn ?_
  exact K1
theorem wire_checkPieces.l2_c {w0:World} {H:Hp} {F:List Ch} {r:Int} (e1:(List (List Int))→Int→Option Int)
  (he1:∀ (a0:List (List Int)) (Aa0:Option Addr) (ca0:Nat) (v_sum3:Int) ,Rw (Kd.slice (Kd.int .u8)) H F Aa0 a0→a0.length≤ca0→e1 a0 v_sum3=some r→RunH C15 (S15 F H r) H w0 [.c [1,1,1,0,0],.c [1,1,1,0,1],.c [1,1,1,1]] [(0,.slice Aa0 a0.length ca0),(3,iv v_sum3)] H (F)):∀ (k:Nat),∀ (a0:List (List Int)) (Aa0:Option Addr) (ca0:Nat) (v_sum3:Int) (v8:Int) ,Rw (Kd.slice (Kd.int .u8)) H F Aa0 a0→a0.length≤ca0→wire_checkPieces.l2 e1 k a0 v_sum3 v8=some r→RunH C15 (S15 F H r) H w0 [.c [1,1,0,1,0,0],.l [1,1,0,1,0,0],.b 0,.c [1,1,1]] [(0,.slice Aa0 a0.length ca0),(3,iv v_sum3),(6,.slice Aa0 a0.length ca0),(7,iv (a0.length:Int)),(8,iv v8)] H (F):=by
 intro k
 induction k with
 | zero=>intro a0 Aa0 ca0 v_sum3 v8 hra0 hca0 heq; exact nomatch (show (none:Option Int)=some r from heq)
 | succ k ihk =>
  intro a0 Aa0 ca0 v_sum3 v8 hra0 hca0 heq
  rw [wire_checkPieces.l2] at heq
  refine Ra 1 [1,1,0,1,0,0,0] [.c [1,1,0,1,0,0,1],.l [1,1,0,1,0,0],.b 0,.c [1,1,1]]<|Rd 1 [0,3,6,7,8,9] [(0,.slice Aa0 a0.length ca0),(3,iv v_sum3),(6,.slice Aa0 a0.length ca0),(7,iv (a0.length:Int)),(8,iv v8),(9,.bool (decide (v8<(a0.length:Int))))]<|Ad 1 [.c [1,1,0,1,0,0,1,0],.c [1,1,0,1,0,0,1,1],.l [1,1,0,1,0,0],.b 0,.c [1,1,1]] ?_
  rcases bool_cases (decide (v8<(a0.length:Int))) with hb3 | hb3
  ·replace heq:=bif_true hb3 heq
   refine Ct (decide (v8<(a0.length:Int))) hb3<|Ra 4 [1,1,0,1,0,0,1,1,0,0,0] [.c [1,1,0,1,0,0,1,1,0,0,1],.b 1,.c [1,1,0,1,0,0,1,1,1],.l [1,1,0,1,0,0],.b 0,.c [1,1,1]] ?_
   obtain ⟨x1,hx1,heq⟩:=bind_some heq
   obtain ⟨ha1,cs1,hK1,hcc1⟩:=hra0.get hx1
   obtain ⟨A1,c1,rfl,hc1,hr1⟩:=hK1
   refine Rw' 3 [0,3,5,6,7,8] [.slice A1 x1.length c1] [.need (Aa0=some (adr Aa0)∧(0:Int)≤v8∧v8<((a0.length:Nat):Int)),.load ((adr Aa0).add (v8.toNat*1)) (.slice A1 x1.length c1)] [(0,.slice Aa0 a0.length ca0),(3,iv v_sum3),(5,.slice A1 x1.length c1),(6,.slice Aa0 a0.length ca0),(7,iv (a0.length:Int)),(8,iv v8)] (fun w hh=>⟨⟨ha1,(at?_some hx1).1,(at?_some hx1).2.1⟩,(hcc1 _ _ (hh.drop 0) 0 _ rfl)⟩)<|Rr<|Rd 5 [0,3,6,7,8] [(0,.slice Aa0 a0.length ca0),(3,iv (w64 (v_sum3+(x1.length:Int)))),(6,.slice Aa0 a0.length ca0),(7,iv (a0.length:Int)),(8,iv v8)]<|Ra 1 [1,1,0,1,0,0,1,1,1] [.l [1,1,0,1,0,0],.b 0,.c [1,1,1]]<|Rd 2 [0,3,6,7,8] [(0,.slice Aa0 a0.length ca0),(3,iv (w64 (v_sum3+(x1.length:Int)))),(6,.slice Aa0 a0.length ca0),(7,iv (a0.length:Int)),(8,iv (w64 (v8+1)))]<|Ad 1 [.c [1,1,0,1,0,0],.l [1,1,0,1,0,0],.b 0,.c [1,1,1]]<|Kp [0,3,6,7,8] [(0,.slice Aa0 a0.length ca0),(3,iv (w64 (v_sum3+(x1.length:Int)))),(6,.slice Aa0 a0.length ca0),(7,iv (a0.length:Int)),(8,iv (w64 (v8+1)))] ?_
   exact ihk a0 _ _ (w64 (v_sum3+(x1.length:Int))) (w64 (v8+1)) hra0 hca0 heq
  ·replace heq:=bif_false hb3 heq
   refine Cf (decide (v8<(a0.length:Int))) hb3<|Ad 3 [.c [1,1,1,0,0],.c [1,1,1,0,1],.c [1,1,1,1]]<|Kp [0,3] [(0,.slice Aa0 a0.length ca0),(3,iv v_sum3)] ?_
   exact he1 a0 _ _ v_sum3 hra0 hca0 heq
theorem wire_checkPieces_c {w0:World} {H:Hp} {F:List Ch} {a0:List (List Int)} {Aa0:Option Addr} {na0:Nat} {ca0:Nat} {r:Int} (hra0:Rw (Kd.slice (Kd.int .u8)) H F Aa0 a0) (hca0:na0≤ca0) (hna0:na0=a0.length) (heq:wire_checkPieces.f a0=some r):CallsH Tryd.prog 15 #[.slice Aa0 na0 ca0] H w0 (F) (S15 F H r):=by
 refine calls_of_runH (F:=C15) Tryd.func15 (by kernel_rfl) Tryd.ntmps15 (args:=[.slice Aa0 na0 ca0]) (by kernel_rfl) ?_
 subst hna0
 unfold wire_checkPieces.f at heq
 refine Ra 1 [0] [.c [1]]<|Rd 1 [0] [(0,.slice Aa0 a0.length ca0)]<|Ra 1 [1,0] [.c [1,1]]<|Rd 1 [0,3] [(0,.slice Aa0 a0.length ca0),(3,iv 0)]<|Ra 2 [1,1,0,0] [.c [1,1,0,1],.c [1,1,1]]<|Rd 3 [0,3,6,7,8] [(0,.slice Aa0 a0.length ca0),(3,iv 0),(6,.slice Aa0 a0.length ca0),(7,iv (a0.length:Int)),(8,iv 0)]<|Ad 2 [.c [1,1,0,1,0,0],.l [1,1,0,1,0,0],.b 0,.c [1,1,1]]<|Kp [0,3,6,7,8] [(0,.slice Aa0 a0.length ca0),(3,iv 0),(6,.slice Aa0 a0.length ca0),(7,iv (a0.length:Int)),(8,iv 0)] ?_
 exact ((wire_checkPieces.l2_c (e1:=wire_checkPieces.e1) (wire_checkPieces.e1_c)) big) a0 _ _ 0 0 hra0 hca0 heq
noncomputable def C7:Ctx:={ P:=Tryd.prog,f:=7,N:=63,c:=bodyOf Tryd.f7 }
def S7 (F:List Ch) (H0:Hp) (r:(List Int) × Int × Int) (v:Value) (H:Hp) (cs:List Ch):Prop:=∃ (A0:Option Addr) (c0:Nat) (ch0:Ch),H0=H∧v=.tuple #[.slice A0 r.1.length c0,iv r.2.1,iv r.2.2]∧ch0::F=cs∧SlOwn (Kd.int .i64) 3 H A0 c0 r.1 ch0
theorem wire_Fresh.e2_c {w0:World} {H:Hp} {F:List Ch} {r:(List Int) × Int × Int}:∀ (v_out12:List Int) (Av_out12:Option Addr) (nv_out12:Nat) (cv_out12:Nat) (chv_out12:Ch) (v_sum13:Int) ,SlOwn (Kd.int .i64) 3 H Av_out12 cv_out12 v_out12 chv_out12→nv_out12=v_out12.length→wire_Fresh.e2 v_out12 v_sum13=some r→RunH C7 (S7 F H r) H w0 [.c [1,1,1,1,1,1,1,1,0],.c [1,1,1,1,1,1,1,1,1]] [(12,.slice Av_out12 nv_out12 cv_out12),(13,iv v_sum13)] H (chv_out12::F):=by
 intro v_out12 Av_out12 nv_out12 cv_out12 chv_out12 v_sum13 hov_out12 hnv_out12 heq
 subst hnv_out12
 unfold wire_Fresh.e2 at heq
 refine Rr<|Rd 5 [4,5,6] [(4,.slice Av_out12 v_out12.length cv_out12),(5,iv v_sum13),(6,iv 0)] ?_
 obtain rfl:=Option.some.inj heq
 exact RunH.done (by kernel_rfl) Tryd.func7 (v:=.tuple #[.slice Av_out12 v_out12.length cv_out12,iv v_sum13,iv 0]) (by kernel_rfl) ⟨Av_out12,cv_out12,chv_out12,rfl,rfl,rfl,hov_out12⟩
theorem wire_Fresh.j4_c {w0:World} {H:Hp} {F:List Ch} {r:(List Int) × Int × Int} (backl3:(List (List Int))→(List (ByteArray × Bool))→(List Int)→Int→Int→Option ((List Int) × Int × Int))
  (hbackl3:∀ (a1:List (List Int)) (Aa1:Option Addr) (ca1:Nat) (v_has9:List (ByteArray × Bool)) (gv_has9:Nat) (chv_has9:Ch) (v_out12:List Int) (Av_out12:Option Addr) (nv_out12:Nat) (cv_out12:Nat) (chv_out12:Ch) (v_sum13:Int) (v39:Int) ,Rw (Kd.slice (Kd.int .u8)) H F Aa1 a1→a1.length≤ca1→MpOwn Value.string Kd.bool false H gv_has9 v_has9 chv_has9→SlOwn (Kd.int .i64) 3 H Av_out12 cv_out12 v_out12 chv_out12→nv_out12=v_out12.length→backl3 a1 v_has9 v_out12 v_sum13 v39=some r→RunH C7 (S7 F H r) H w0 [.c [1,1,1,1,1,1,1,0,1,0,0],.l [1,1,1,1,1,1,1,0,1,0,0],.b 2,.c [1,1,1,1,1,1,1,1]] [(9,.map (some gv_has9)),(12,.slice Av_out12 nv_out12 cv_out12),(13,iv v_sum13),(37,.slice Aa1 a1.length ca1),(38,iv (a1.length:Int)),(39,iv v39)] H (chv_out12::chv_has9::F)):∀ (a1:List (List Int)) (Aa1:Option Addr) (ca1:Nat) (v39:Int) (v_has9:List (ByteArray × Bool)) (gv_has9:Nat) (chv_has9:Ch) (v_out12:List Int) (Av_out12:Option Addr) (nv_out12:Nat) (cv_out12:Nat) (chv_out12:Ch) (v_sum13:Int) ,Rw (Kd.slice (Kd.int .u8)) H F Aa1 a1→a1.length≤ca1→MpOwn Value.string Kd.bool false H gv_has9 v_has9 chv_has9→SlOwn (Kd.int .i64) 3 H Av_out12 cv_out12 v_out12 chv_out12→nv_out12=v_out12.length→wire_Fresh.j4 backl3 a1 v39 v_has9 v_out12 v_sum13=some r→RunH C7 (S7 F H r) H w0 [.c [1,1,1,1,1,1,1,0,1,0,0,1,1,1],.l [1,1,1,1,1,1,1,0,1,0,0],.b 2,.c [1,1,1,1,1,1,1,1]] [(9,.map (some gv_has9)),(12,.slice Av_out12 nv_out12 cv_out12),(13,iv v_sum13),(37,.slice Aa1 a1.length ca1),(38,iv (a1.length:Int)),(39,iv v39)] H (chv_out12::chv_has9::F):=by
 intro a1 Aa1 ca1 v39 v_has9 gv_has9 chv_has9 v_out12 Av_out12 nv_out12 cv_out12 chv_out12 v_sum13 hra1 hca1 hov_has9 hov_out12 hnv_out12 heq
 subst hnv_out12
 unfold wire_Fresh.j4 at heq
 refine Rr<|Rd 2 [9,12,13,37,38,39] [(9,.map (some gv_has9)),(12,.slice Av_out12 v_out12.length cv_out12),(13,iv v_sum13),(37,.slice Aa1 a1.length ca1),(38,iv (a1.length:Int)),(39,iv (w64 (v39+1)))]<|Ad 1 [.c [1,1,1,1,1,1,1,0,1,0,0],.l [1,1,1,1,1,1,1,0,1,0,0],.b 2,.c [1,1,1,1,1,1,1,1]]<|Kp [9,12,13,37,38,39] [(9,.map (some gv_has9)),(12,.slice Av_out12 v_out12.length cv_out12),(13,iv v_sum13),(37,.slice Aa1 a1.length ca1),(38,iv (a1.length:Int)),(39,iv (w64 (v39+1)))] ?_
 exact hbackl3 a1 _ _ v_has9 _ _ v_out12 _ _ _ _ v_sum13 (w64 (v39+1)) hra1 hca1 hov_has9 hov_out12 rfl heq
theorem wire_Fresh.l3_c {w0:World} {H:Hp} {F:List Ch} {r:(List Int) × Int × Int} (e2:(List Int)→Int→Option ((List Int) × Int × Int))
  (he2:∀ (v_out12:List Int) (Av_out12:Option Addr) (nv_out12:Nat) (cv_out12:Nat) (chv_out12:Ch) (v_sum13:Int) ,SlOwn (Kd.int .i64) 3 H Av_out12 cv_out12 v_out12 chv_out12→nv_out12=v_out12.length→e2 v_out12 v_sum13=some r→RunH C7 (S7 F H r) H w0 [.c [1,1,1,1,1,1,1,1,0],.c [1,1,1,1,1,1,1,1,1]] [(12,.slice Av_out12 nv_out12 cv_out12),(13,iv v_sum13)] H (chv_out12::F)):∀ (k:Nat),∀ (a1:List (List Int)) (Aa1:Option Addr) (ca1:Nat) (v_has9:List (ByteArray × Bool)) (gv_has9:Nat) (chv_has9:Ch) (v_out12:List Int) (Av_out12:Option Addr) (nv_out12:Nat) (cv_out12:Nat) (chv_out12:Ch) (v_sum13:Int) (v39:Int) ,Rw (Kd.slice (Kd.int .u8)) H F Aa1 a1→a1.length≤ca1→MpOwn Value.string Kd.bool false H gv_has9 v_has9 chv_has9→SlOwn (Kd.int .i64) 3 H Av_out12 cv_out12 v_out12 chv_out12→nv_out12=v_out12.length→wire_Fresh.l3 e2 k a1 v_has9 v_out12 v_sum13 v39=some r→RunH C7 (S7 F H r) H w0 [.c [1,1,1,1,1,1,1,0,1,0,0],.l [1,1,1,1,1,1,1,0,1,0,0],.b 2,.c [1,1,1,1,1,1,1,1]] [(9,.map (some gv_has9)),(12,.slice Av_out12 nv_out12 cv_out12),(13,iv v_sum13),(37,.slice Aa1 a1.length ca1),(38,iv (a1.length:Int)),(39,iv v39)] H (chv_out12::chv_has9::F):=by
 intro k
 induction k with
 | zero=>intro a1 Aa1 ca1 v_has9 gv_has9 chv_has9 v_out12 Av_out12 nv_out12 cv_out12 chv_out12 v_sum13 v39 hra1 hca1 hov_has9 hov_out12 hnv_out12 heq; exact nomatch (show (none:Option ((List Int) × Int × Int))=some r from heq)
 | succ k ihk =>
  intro a1 Aa1 ca1 v_has9 gv_has9 chv_has9 v_out12 Av_out12 nv_out12 cv_out12 chv_out12 v_sum13 v39 hra1 hca1 hov_has9 hov_out12 hnv_out12 heq
  subst hnv_out12
  rw [wire_Fresh.l3] at heq
  refine Ra 1 [1,1,1,1,1,1,1,0,1,0,0,0] [.c [1,1,1,1,1,1,1,0,1,0,0,1],.l [1,1,1,1,1,1,1,0,1,0,0],.b 2,.c [1,1,1,1,1,1,1,1]]<|Rd 1 [9,12,13,37,38,39,40] [(9,.map (some gv_has9)),(12,.slice Av_out12 v_out12.length cv_out12),(13,iv v_sum13),(37,.slice Aa1 a1.length ca1),(38,iv (a1.length:Int)),(39,iv v39),(40,.bool (decide (v39<(a1.length:Int))))]<|Ad 1 [.c [1,1,1,1,1,1,1,0,1,0,0,1,0],.c [1,1,1,1,1,1,1,0,1,0,0,1,1],.l [1,1,1,1,1,1,1,0,1,0,0],.b 2,.c [1,1,1,1,1,1,1,1]] ?_
  rcases bool_cases (decide (v39<(a1.length:Int))) with hb3 | hb3
  ·replace heq:=bif_true hb3 heq
   refine Ct (decide (v39<(a1.length:Int))) hb3<|Ra 4 [1,1,1,1,1,1,1,0,1,0,0,1,1,0,0,0] [.c [1,1,1,1,1,1,1,0,1,0,0,1,1,0,0,1],.b 3,.c [1,1,1,1,1,1,1,0,1,0,0,1,1,1],.l [1,1,1,1,1,1,1,0,1,0,0],.b 2,.c [1,1,1,1,1,1,1,1]] ?_
   obtain ⟨x1,hx1,heq⟩:=bind_some heq
   obtain ⟨ha1,cs1,hK1,hcc1⟩:=hra1.get hx1
   obtain ⟨A1,c1,rfl,hc1,hr1⟩:=hK1
   refine Rw' 5 [9,12,13,14,15,37,38,39] [.slice A1 x1.length c1] [.need (Aa1=some (adr Aa1)∧(0:Int)≤v39∧v39<((a1.length:Nat):Int)),.load ((adr Aa1).add (v39.toNat*1)) (.slice A1 x1.length c1)] [(9,.map (some gv_has9)),(12,.slice Av_out12 v_out12.length cv_out12),(13,iv v_sum13),(14,iv v39),(15,.slice A1 x1.length c1),(37,.slice Aa1 a1.length ca1),(38,iv (a1.length:Int)),(39,iv v39)] (fun w hh=>⟨⟨ha1,(at?_some hx1).1,(at?_some hx1).2.1⟩,(hcc1 _ _ (hh.drop 2) 0 _ rfl)⟩)<|Ra 1 [1,1,1,1,1,1,1,0,1,0,0,1,1,0,0,1,0] [.c [1,1,1,1,1,1,1,0,1,0,0,1,1,0,0,1,1],.b 3,.c [1,1,1,1,1,1,1,0,1,0,0,1,1,1],.l [1,1,1,1,1,1,1,0,1,0,0],.b 2,.c [1,1,1,1,1,1,1,1]]<|Rk 2 [9,12,13,14,15,37,38,39,44,45] [(9,.map (some gv_has9)),(12,.slice Av_out12 v_out12.length cv_out12),(13,iv v_sum13),(14,iv v39),(15,.slice A1 x1.length c1),(37,.slice Aa1 a1.length ca1),(38,iv (a1.length:Int)),(39,iv v39),(44,.map (some gv_has9)),(45,.slice A1 x1.length c1)] ?_
   refine RgH.does (DoesH.bytesStr (d:=46) (c:=c1) (xs:=x1) (by kernel_rfl) rfl (fun w hh=>(Rw.of (F:=F) hr1).rdb (hh.drop 2))) ?_
   rintro _ _ _ _ ⟨rfl,rfl,rfl⟩
   refine RgH.does (DoesH.lookup (d:=47) (t:=47) (m:=v_has9) (k:=(strN x1)) (z:=.bool false) (zc:=[.bool false]) (z0:=false) (ok:=false) (kd:=Kd.bool) (ag:=false) (by kernel_rfl) (KyAt.string Tryd.underlying9) rfl rfl (fun w hh=>hov_has9.on (hh.chin 1 rfl))) ?_
   rintro _ _ _ _ ⟨cc1,rfl,rfl,rfl,hcc2⟩
   obtain rfl:cc1=[.bool (mgetD v_has9 (strN x1) false)]:=hcc2
   refine RgH.val1 (v':=.bool (mgetD v_has9 (strN x1) false)) rfl ?_
   refine Rd 5 [9,12,13,14,15,37,38,39,48] [(9,.map (some gv_has9)),(12,.slice Av_out12 v_out12.length cv_out12),(13,iv v_sum13),(14,iv v39),(15,.slice A1 x1.length c1),(37,.slice Aa1 a1.length ca1),(38,iv (a1.length:Int)),(39,iv v39),(48,.bool (!(mgetD v_has9 (strN x1) false)))] ?_
   rcases bool_cases (!(mgetD v_has9 (strN x1) false)) with hb4 | hb4
   ·replace heq:=bif_true hb4 heq
    refine Ct (!(mgetD v_has9 (strN x1) false)) hb4<|Ra 1 [1,1,1,1,1,1,1,0,1,0,0,1,1,0,0,1,1,0,0] [.c [1,1,1,1,1,1,1,0,1,0,0,1,1,0,0,1,1,0,1],.b 3,.c [1,1,1,1,1,1,1,0,1,0,0,1,1,1],.l [1,1,1,1,1,1,1,0,1,0,0],.b 2,.c [1,1,1,1,1,1,1,1]]<|Rk 2 [9,12,13,14,15,37,38,39,49,50] [(9,.map (some gv_has9)),(12,.slice Av_out12 v_out12.length cv_out12),(13,iv v_sum13),(14,iv v39),(15,.slice A1 x1.length c1),(37,.slice Aa1 a1.length ca1),(38,iv (a1.length:Int)),(39,iv v39),(49,.map (some gv_has9)),(50,.slice A1 x1.length c1)] ?_
    refine RgH.does (DoesH.bytesStr (d:=51) (c:=c1) (xs:=x1) (by kernel_rfl) rfl (fun w hh=>(Rw.of (F:=F) hr1).rdb (hh.drop 2))) ?_
    rintro _ _ _ _ ⟨rfl,rfl,rfl⟩
    refine RgH.does (DoesH.mapUpdate (kk:=1) (cv:=[.bool true]) (k:=(strN x1)) (v:=true) (by kernel_rfl) (KyAt.string Tryd.underlying9) rfl rfl rfl hov_has9) ?_
    rintro _ _ _ _ ⟨ch1,rfl,rfl,rfl,ho4⟩
    refine Dn<|Rr<|Rk 2 [9,13,15,37,38,39,52,53] [(9,.map (some gv_has9)),(13,iv v_sum13),(15,.slice A1 x1.length c1),(37,.slice Aa1 a1.length ca1),(38,iv (a1.length:Int)),(39,iv v39),(52,.slice Av_out12 v_out12.length cv_out12),(53,iv v39)] ?_
    refine RgH.does (DoesH.new (d:=54) (v:=fun g=>.slice (some ⟨g,0,none⟩) 1 1) (o:=fun g=>.cells #[iv v39] 3 (0,0)) (fun g=>by kernel_rfl)) ?_
    rintro _ _ _ _ ⟨g2,rfl,rfl,rfl⟩
    have ho5:SlOwn (Kd.int .i64) 3 H (some ⟨g2,0,none⟩) 1 ([v39]:List Int) (some (g2,.cells #[iv v39] 3 (0,0))):=SlOwn.lit (xs:=([v39]:List Int)) (by kernel_rfl) (Nat.le_of_ble_eq_true (by kernel_rfl)) (Kd.Rep.scalars rfl)
    obtain ⟨hn1,heq⟩:=guard?_some heq
    refine RgH.does (DoesH.append (d:=55) (k:=1) (t:=23) (e:=3) (bytes:=8) (kd:=(Kd.int .i64)) (n:=v_out12.length) (m:=1) (xs:=v_out12) (ys:=([v39]:List Int)) (A:=Av_out12) (B:=(some ⟨g2,0,none⟩)) (c:=cv_out12) (cB:=1) (by kernel_rfl) rfl rfl (by kernel_rfl) rfl hov_out12 (fun w hh=>ho5.rdb (hh.chin 0 rfl)) (room_le hn1) (by have:=room_le hn1; omega)) ?_
    rintro _ _ _ _ ⟨A2,c2,ch2,rfl,rfl,rfl,ho6⟩
    refine Rd 10 [9,12,13,37,38,39] [(9,.map (some gv_has9)),(12,.slice A2 ((v_out12++([v39]:List Int)).length) c2),(13,iv (w64 (v_sum13+(x1.length:Int)))),(37,.slice Aa1 a1.length ca1),(38,iv (a1.length:Int)),(39,iv v39)]<|Ad 1 [.c [1,1,1,1,1,1,1,0,1,0,0,1,1,1],.l [1,1,1,1,1,1,1,0,1,0,0],.b 2,.c [1,1,1,1,1,1,1,1]]<|Kp [9,12,13,37,38,39] [(9,.map (some gv_has9)),(12,.slice A2 ((v_out12++([v39]:List Int)).length) c2),(13,iv (w64 (v_sum13+(x1.length:Int)))),(37,.slice Aa1 a1.length ca1),(38,iv (a1.length:Int)),(39,iv v39)] ?_
    refine RunH.pick 3 [1,2] (cs':=ch2::ch1::F) (by kernel_rfl) rfl ?_
    exact (wire_Fresh.j4_c (backl3:=(wire_Fresh.l3 e2 k)) ihk) a1 _ _ v39 (mput v_has9 (strN x1) true) _ _ (v_out12++([v39]:List Int)) _ _ _ _ (w64 (v_sum13+(x1.length:Int))) hra1 hca1 ho4 ho6 rfl heq
   ·replace heq:=bif_false hb4 heq
    refine Cf (!(mgetD v_has9 (strN x1) false)) hb4<|Ad 2 [.c [1,1,1,1,1,1,1,0,1,0,0,1,1,1],.l [1,1,1,1,1,1,1,0,1,0,0],.b 2,.c [1,1,1,1,1,1,1,1]]<|Kp [9,12,13,37,38,39] [(9,.map (some gv_has9)),(12,.slice Av_out12 v_out12.length cv_out12),(13,iv v_sum13),(37,.slice Aa1 a1.length ca1),(38,iv (a1.length:Int)),(39,iv v39)] ?_
    exact (wire_Fresh.j4_c (backl3:=(wire_Fresh.l3 e2 k)) ihk) a1 _ _ v39 v_has9 _ _ v_out12 _ _ _ _ v_sum13 hra1 hca1 hov_has9 hov_out12 rfl heq
  ·replace heq:=bif_false hb3 heq
   refine Cf (decide (v39<(a1.length:Int))) hb3<|Ad 2 [.c [1,1,1,1,1,1,1,1,0],.c [1,1,1,1,1,1,1,1,1]]<|Kp [12,13] [(12,.slice Av_out12 v_out12.length cv_out12),(13,iv v_sum13)] ?_
   refine RunH.pick 2 [0] (cs':=chv_out12::F) (by kernel_rfl) rfl ?_
   exact he2 v_out12 _ _ _ _ v_sum13 hov_out12 rfl heq
theorem wire_Fresh.e1_c {w0:World} {H:Hp} {F:List Ch} {r:(List Int) × Int × Int}:∀ (a1:List (List Int)) (Aa1:Option Addr) (ca1:Nat) (v_has9:List (ByteArray × Bool)) (gv_has9:Nat) (chv_has9:Ch) ,Rw (Kd.slice (Kd.int .u8)) H F Aa1 a1→a1.length≤ca1→MpOwn Value.string Kd.bool false H gv_has9 v_has9 chv_has9→wire_Fresh.e1 a1 v_has9=some r→RunH C7 (S7 F H r) H w0 [.c [1,1,1,1,1,0],.c [1,1,1,1,1,1]] [(1,.slice Aa1 a1.length ca1),(9,.map (some gv_has9))] H (chv_has9::F):=by
 intro a1 Aa1 ca1 v_has9 gv_has9 chv_has9 hra1 hca1 hov_has9 heq
 unfold wire_Fresh.e1 at heq
 refine Rr<|Rd 1 [1,9,12] [(1,.slice Aa1 a1.length ca1),(9,.map (some gv_has9)),(12,.slice none 0 0)]<|Ra 1 [1,1,1,1,1,1,0] [.c [1,1,1,1,1,1,1]]<|Rd 1 [1,9,12,13] [(1,.slice Aa1 a1.length ca1),(9,.map (some gv_has9)),(12,.slice none 0 0),(13,iv 0)]<|Ra 2 [1,1,1,1,1,1,1,0,0] [.c [1,1,1,1,1,1,1,0,1],.c [1,1,1,1,1,1,1,1]]<|Rd 3 [9,12,13,37,38,39] [(9,.map (some gv_has9)),(12,.slice none 0 0),(13,iv 0),(37,.slice Aa1 a1.length ca1),(38,iv (a1.length:Int)),(39,iv 0)]<|Ad 2 [.c [1,1,1,1,1,1,1,0,1,0,0],.l [1,1,1,1,1,1,1,0,1,0,0],.b 2,.c [1,1,1,1,1,1,1,1]]<|RunH.nilc ?_
 have ho7:SlOwn (Kd.int .i64) 3 H none 0 ([]:List Int) none:=SlOwn.nil
 refine Kp [9,12,13,37,38,39] [(9,.map (some gv_has9)),(12,.slice none 0 0),(13,iv 0),(37,.slice Aa1 a1.length ca1),(38,iv (a1.length:Int)),(39,iv 0)] ?_
 exact ((wire_Fresh.l3_c (e2:=wire_Fresh.e2) (wire_Fresh.e2_c)) big) a1 _ _ v_has9 _ _ ([]:List Int) _ _ _ _ 0 0 hra1 hca1 hov_has9 ho7 rfl heq
theorem wire_Fresh.l5_c {w0:World} {H:Hp} {F:List Ch} {r:(List Int) × Int × Int} (e1:(List (List Int))→(List (ByteArray × Bool))→Option ((List Int) × Int × Int))
  (he1:∀ (a1:List (List Int)) (Aa1:Option Addr) (ca1:Nat) (v_has9:List (ByteArray × Bool)) (gv_has9:Nat) (chv_has9:Ch) ,Rw (Kd.slice (Kd.int .u8)) H F Aa1 a1→a1.length≤ca1→MpOwn Value.string Kd.bool false H gv_has9 v_has9 chv_has9→e1 a1 v_has9=some r→RunH C7 (S7 F H r) H w0 [.c [1,1,1,1,1,0],.c [1,1,1,1,1,1]] [(1,.slice Aa1 a1.length ca1),(9,.map (some gv_has9))] H (chv_has9::F)):∀ (k:Nat),∀ (a0:List (List Int)) (Aa0:Option Addr) (ca0:Nat) (a1:List (List Int)) (Aa1:Option Addr) (ca1:Nat) (v_has9:List (ByteArray × Bool)) (gv_has9:Nat) (chv_has9:Ch) (v29:Int) ,Rw (Kd.slice (Kd.int .u8)) H F Aa0 a0→a0.length≤ca0→Rw (Kd.slice (Kd.int .u8)) H F Aa1 a1→a1.length≤ca1→MpOwn Value.string Kd.bool false H gv_has9 v_has9 chv_has9→wire_Fresh.l5 e1 k a0 a1 v_has9 v29=some r→RunH C7 (S7 F H r) H w0 [.c [1,1,1,1,0,1,0,0],.l [1,1,1,1,0,1,0,0],.b 0,.c [1,1,1,1,1]] [(1,.slice Aa1 a1.length ca1),(9,.map (some gv_has9)),(27,.slice Aa0 a0.length ca0),(28,iv (a0.length:Int)),(29,iv v29)] H (chv_has9::F):=by
 intro k
 induction k with
 | zero=>intro a0 Aa0 ca0 a1 Aa1 ca1 v_has9 gv_has9 chv_has9 v29 hra0 hca0 hra1 hca1 hov_has9 heq; exact nomatch (show (none:Option ((List Int) × Int × Int))=some r from heq)
 | succ k ihk =>
  intro a0 Aa0 ca0 a1 Aa1 ca1 v_has9 gv_has9 chv_has9 v29 hra0 hca0 hra1 hca1 hov_has9 heq
  rw [wire_Fresh.l5] at heq
  refine Ra 1 [1,1,1,1,0,1,0,0,0] [.c [1,1,1,1,0,1,0,0,1],.l [1,1,1,1,0,1,0,0],.b 0,.c [1,1,1,1,1]]<|Rd 1 [1,9,27,28,29,30] [(1,.slice Aa1 a1.length ca1),(9,.map (some gv_has9)),(27,.slice Aa0 a0.length ca0),(28,iv (a0.length:Int)),(29,iv v29),(30,.bool (decide (v29<(a0.length:Int))))]<|Ad 1 [.c [1,1,1,1,0,1,0,0,1,0],.c [1,1,1,1,0,1,0,0,1,1],.l [1,1,1,1,0,1,0,0],.b 0,.c [1,1,1,1,1]] ?_
  rcases bool_cases (decide (v29<(a0.length:Int))) with hb5 | hb5
  ·replace heq:=bif_true hb5 heq
   refine Ct (decide (v29<(a0.length:Int))) hb5<|Ra 4 [1,1,1,1,0,1,0,0,1,1,0,0,0] [.c [1,1,1,1,0,1,0,0,1,1,0,0,1],.b 1,.c [1,1,1,1,0,1,0,0,1,1,1],.l [1,1,1,1,0,1,0,0],.b 0,.c [1,1,1,1,1]] ?_
   obtain ⟨x2,hx2,heq⟩:=bind_some heq
   obtain ⟨ha2,cs2,hK2,hcc3⟩:=hra0.get hx2
   obtain ⟨A3,c3,rfl,hc2,hr2⟩:=hK2
   refine Rw' 3 [1,9,11,27,28,29] [.slice A3 x2.length c3] [.need (Aa0=some (adr Aa0)∧(0:Int)≤v29∧v29<((a0.length:Nat):Int)),.load ((adr Aa0).add (v29.toNat*1)) (.slice A3 x2.length c3)] [(1,.slice Aa1 a1.length ca1),(9,.map (some gv_has9)),(11,.slice A3 x2.length c3),(27,.slice Aa0 a0.length ca0),(28,iv (a0.length:Int)),(29,iv v29)] (fun w hh=>⟨⟨ha2,(at?_some hx2).1,(at?_some hx2).2.1⟩,(hcc3 _ _ (hh.drop 1) 0 _ rfl)⟩)<|Rr<|Rk 2 [1,9,27,28,29,33,34] [(1,.slice Aa1 a1.length ca1),(9,.map (some gv_has9)),(27,.slice Aa0 a0.length ca0),(28,iv (a0.length:Int)),(29,iv v29),(33,.map (some gv_has9)),(34,.slice A3 x2.length c3)] ?_
   refine RgH.does (DoesH.bytesStr (d:=35) (c:=c3) (xs:=x2) (by kernel_rfl) rfl (fun w hh=>(Rw.of (F:=F) hr2).rdb (hh.drop 1))) ?_
   rintro _ _ _ _ ⟨rfl,rfl,rfl⟩
   refine RgH.does (DoesH.mapUpdate (kk:=0) (cv:=[.bool true]) (k:=(strN x2)) (v:=true) (by kernel_rfl) (KyAt.string Tryd.underlying9) rfl rfl rfl hov_has9) ?_
   rintro _ _ _ _ ⟨ch3,rfl,rfl,rfl,ho8⟩
   refine Dn<|Ra 1 [1,1,1,1,0,1,0,0,1,1,1] [.l [1,1,1,1,0,1,0,0],.b 0,.c [1,1,1,1,1]]<|Rd 2 [1,9,27,28,29] [(1,.slice Aa1 a1.length ca1),(9,.map (some gv_has9)),(27,.slice Aa0 a0.length ca0),(28,iv (a0.length:Int)),(29,iv (w64 (v29+1)))]<|Ad 1 [.c [1,1,1,1,0,1,0,0],.l [1,1,1,1,0,1,0,0],.b 0,.c [1,1,1,1,1]]<|Kp [1,9,27,28,29] [(1,.slice Aa1 a1.length ca1),(9,.map (some gv_has9)),(27,.slice Aa0 a0.length ca0),(28,iv (a0.length:Int)),(29,iv (w64 (v29+1)))] ?_
   exact ihk a0 _ _ a1 _ _ (mput v_has9 (strN x2) true) _ _ (w64 (v29+1)) hra0 hca0 hra1 hca1 ho8 heq
  ·replace heq:=bif_false hb5 heq
   refine Cf (decide (v29<(a0.length:Int))) hb5<|Ad 2 [.c [1,1,1,1,1,0],.c [1,1,1,1,1,1]]<|Kp [1,9] [(1,.slice Aa1 a1.length ca1),(9,.map (some gv_has9))] ?_
   exact he1 a1 _ _ v_has9 _ _ hra1 hca1 hov_has9 heq
theorem wire_Fresh_c {w0:World} {H:Hp} {F:List Ch} {a0:List (List Int)} {Aa0:Option Addr} {na0:Nat} {ca0:Nat} {a1:List (List Int)} {Aa1:Option Addr} {na1:Nat} {ca1:Nat} {r:(List Int) × Int × Int} (hra0:Rw (Kd.slice (Kd.int .u8)) H F Aa0 a0) (hca0:na0≤ca0) (hna0:na0=a0.length) (hra1:Rw (Kd.slice (Kd.int .u8)) H F Aa1 a1) (hca1:na1≤ca1) (hna1:na1=a1.length) (heq:wire_Fresh.f a0 a1=some r):CallsH Tryd.prog 7 #[.slice Aa0 na0 ca0,.slice Aa1 na1 ca1] H w0 (F) (S7 F H r):=by
 refine calls_of_runH (F:=C7) Tryd.func7 (by kernel_rfl) Tryd.ntmps7 (args:=[.slice Aa0 na0 ca0,.slice Aa1 na1 ca1]) (by kernel_rfl) ?_
 subst hna0
 subst hna1
 unfold wire_Fresh.f at heq
 refine Ra 1 [0] [.c [1]]<|Rd 3 [0,1] [(0,.slice Aa0 a0.length ca0),(1,.slice Aa1 a1.length ca1)]<|Ra 2 [1,0,0] [.c [1,0,1],.c [1,1]]<|Rk 1 [0,1,16] [(0,.slice Aa0 a0.length ca0),(1,.slice Aa1 a1.length ca1),(16,.slice Aa0 a0.length ca0)] ?_
 obtain ⟨y1,hy1,heq⟩:=bind_some heq
 refine RgH.does (DoesH.call (d:=17) (g:=15) (args:=#[.slice Aa0 a0.length ca0]) (by kernel_rfl) (wire_checkPieces_c (a0:=a0) hra0 hca0 rfl hy1)) ?_
 rintro _ _ _ _ ⟨_,rfl,rfl,rfl,rfl⟩
 refine Rd 3 [0,1,7] [(0,.slice Aa0 a0.length ca0),(1,.slice Aa1 a1.length ca1),(7,iv y1)]<|Ra 1 [1,0,1,0] [.c [1,0,1,1],.c [1,1]]<|Rd 2 [0,1,7,19] [(0,.slice Aa0 a0.length ca0),(1,.slice Aa1 a1.length ca1),(7,iv y1),(19,.bool (y1 != 0))] ?_
 rcases bool_cases (y1 != 0) with hb1 | hb1
 ·replace heq:=bif_true hb1 heq
  refine Ct (y1 != 0) hb1<|Ra 1 [1,0,1,1,0,0] [.c [1,0,1,1,0,1],.c [1,1]]<|Rd 4 [4,5,6] [(4,.slice none 0 0),(5,iv 0),(6,iv y1)]<|RunH.nilc ?_
  have ho1:SlOwn (Kd.int .i64) 3 H none 0 ([]:List Int) none:=SlOwn.nil
  obtain rfl:=Option.some.inj heq
  exact RunH.done (by kernel_rfl) Tryd.func7 (v:=.tuple #[.slice none 0 0,iv 0,iv y1]) (by kernel_rfl) ⟨none,0,none,rfl,rfl,rfl,ho1⟩
 ·replace heq:=bif_false hb1 heq
  refine Cf (y1 != 0) hb1<|Ra 3 [1,1,0,0] [.c [1,1,0,1],.c [1,1,1]]<|Rk 1 [0,1,21] [(0,.slice Aa0 a0.length ca0),(1,.slice Aa1 a1.length ca1),(21,.slice Aa1 a1.length ca1)] ?_
  obtain ⟨y2,hy2,heq⟩:=bind_some heq
  refine RgH.does (DoesH.call (d:=22) (g:=15) (args:=#[.slice Aa1 a1.length ca1]) (by kernel_rfl) (wire_checkPieces_c (a0:=a1) hra1 hca1 rfl hy2)) ?_
  rintro _ _ _ _ ⟨_,rfl,rfl,rfl,rfl⟩
  refine Rd 3 [0,1,8] [(0,.slice Aa0 a0.length ca0),(1,.slice Aa1 a1.length ca1),(8,iv y2)]<|Ra 1 [1,1,0,1,0] [.c [1,1,0,1,1],.c [1,1,1]]<|Rd 2 [0,1,8,24] [(0,.slice Aa0 a0.length ca0),(1,.slice Aa1 a1.length ca1),(8,iv y2),(24,.bool (y2 != 0))] ?_
  rcases bool_cases (y2 != 0) with hb2 | hb2
  ·replace heq:=bif_true hb2 heq
   refine Ct (y2 != 0) hb2<|Ra 1 [1,1,0,1,1,0,0] [.c [1,1,0,1,1,0,1],.c [1,1,1]]<|Rd 4 [4,5,6] [(4,.slice none 0 0),(5,iv 0),(6,iv y2)]<|RunH.nilc ?_
   have ho2:SlOwn (Kd.int .i64) 3 H none 0 ([]:List Int) none:=SlOwn.nil
   obtain rfl:=Option.some.inj heq
   exact RunH.done (by kernel_rfl) Tryd.func7 (v:=.tuple #[.slice none 0 0,iv 0,iv y2]) (by kernel_rfl) ⟨none,0,none,rfl,rfl,rfl,ho2⟩
  ·replace heq:=bif_false hb2 heq
   refine Cf (y2 != 0) hb2<|Ra 2 [1,1,1,0] [.c [1,1,1,1]] ?_
   refine RgH.does (DoesH.new (d:=26) (v:=fun g=>.map (some g)) (o:=fun g=>.map #[] 0) (fun g=>by kernel_rfl)) ?_
   rintro _ _ _ _ ⟨g1,rfl,rfl,rfl⟩
   have ho3:MpOwn Value.string Kd.bool false H g1 ([]:List (ByteArray × Bool)) (some (g1,.map #[] 0)):=MpOwn.made
   refine Rd 2 [0,1,9] [(0,.slice Aa0 a0.length ca0),(1,.slice Aa1 a1.length ca1),(9,.map (some g1))]<|Ra 2 [1,1,1,1,0,0] [.c [1,1,1,1,0,1],.c [1,1,1,1,1]]<|Rd 3 [1,9,27,28,29] [(1,.slice Aa1 a1.length ca1),(9,.map (some g1)),(27,.slice Aa0 a0.length ca0),(28,iv (a0.length:Int)),(29,iv 0)]<|Ad 2 [.c [1,1,1,1,0,1,0,0],.l [1,1,1,1,0,1,0,0],.b 0,.c [1,1,1,1,1]]<|Kp [1,9,27,28,29] [(1,.slice Aa1 a1.length ca1),(9,.map (some g1)),(27,.slice Aa0 a0.length ca0),(28,iv (a0.length:Int)),(29,iv 0)] ?_
   exact ((wire_Fresh.l5_c (e1:=wire_Fresh.e1) (wire_Fresh.e1_c)) big) a0 _ _ a1 _ _ ([]:List (ByteArray × Bool)) _ _ 0 hra0 hca0 hra1 hca1 ho3 heq
noncomputable def C8:Ctx:={ P:=Tryd.prog,f:=8,N:=79,c:=bodyOf Tryd.f8 }
def S8 (F:List Ch) (H0:Hp) (r:Int × Int) (v:Value) (H:Hp) (cs:List Ch):Prop:=H0=H∧v=.tuple #[iv r.1,iv r.2]∧F=cs
theorem blob_Shared.e2_c {w0:World} {H:Hp} {F:List Ch} {r:Int × Int}:∀ (v_sum18:Int) ,blob_Shared.e2 v_sum18=some r→RunH C8 (S8 F H r) H w0 [.c [1,1,1,1,1,1,1,1,1,0],.c [1,1,1,1,1,1,1,1,1,1]] [(18,iv v_sum18)] H (F):=by
 intro v_sum18  heq
 unfold blob_Shared.e2 at heq
 refine Rr<|Rd 3 [10,11] [(10,iv v_sum18),(11,iv 0)] ?_
 obtain rfl:=Option.some.inj heq
 exact RunH.done (by kernel_rfl) Tryd.func8 (v:=.tuple #[iv v_sum18,iv 0]) (by kernel_rfl) ⟨rfl,rfl,rfl⟩
theorem blob_Shared.j4_c {w0:World} {H:Hp} {F:List Ch} {r:Int × Int} (backl3:((List Int) × Int)→(List (ByteArray × Bool))→(List Int)→Int→Int→Option (Int × Int))
  (hbackl3:∀ (y2:(List Int) × Int) (A2:Option Addr) (c2:Nat) (ch2:Ch) (v_has15:List (ByteArray × Bool)) (gv_has15:Nat) (chv_has15:Ch) (v_b1:List Int) (Av_b1:Option Addr) (nv_b1:Nat) (cv_b1:Nat) (v_sum18:Int) (v61:Int) ,SlOwn (Kd.int .i64) 3 H A2 c2 y2.1 ch2→MpOwn Value.string Kd.bool false H gv_has15 v_has15 chv_has15→Rw (Kd.int .u8) H F Av_b1 v_b1→nv_b1≤cv_b1→nv_b1=v_b1.length→backl3 y2 v_has15 v_b1 v_sum18 v61=some r→RunH C8 (S8 F H r) H w0 [.c [1,1,1,1,1,1,1,1,0,1,0,0],.l [1,1,1,1,1,1,1,1,0,1,0,0],.b 2,.c [1,1,1,1,1,1,1,1,1]] [(1,.slice Av_b1 nv_b1 cv_b1),(15,.map (some gv_has15)),(18,iv v_sum18),(59,.slice A2 y2.1.length c2),(60,iv (y2.1.length:Int)),(61,iv v61)] H (chv_has15::ch2::F)):∀ (y2:(List Int) × Int) (A2:Option Addr) (c2:Nat) (ch2:Ch) (v_has15:List (ByteArray × Bool)) (gv_has15:Nat) (chv_has15:Ch) (v_b1:List Int) (Av_b1:Option Addr) (cv_b1:Nat) (v61:Int) (x1:Int) (v_sum18:Int) ,SlOwn (Kd.int .i64) 3 H A2 c2 y2.1 ch2→MpOwn Value.string Kd.bool false H gv_has15 v_has15 chv_has15→Rw (Kd.int .u8) H F Av_b1 v_b1→v_b1.length≤cv_b1→blob_Shared.j4 backl3 y2 v_has15 v_b1 v61 x1 v_sum18=some r→RunH C8 (S8 F H r) H w0 [.c [1,1,1,1,1,1,1,1,0,1,0,0,1,1,0,0,1,1],.b 3,.c [1,1,1,1,1,1,1,1,0,1,0,0,1,1,1],.l [1,1,1,1,1,1,1,1,0,1,0,0],.b 2,.c [1,1,1,1,1,1,1,1,1]] [(1,.slice Av_b1 v_b1.length cv_b1),(15,.map (some gv_has15)),(18,iv v_sum18),(20,iv x1),(59,.slice A2 y2.1.length c2),(60,iv (y2.1.length:Int)),(61,iv v61)] H (chv_has15::ch2::F):=by
 intro y2 A2 c2 ch2 v_has15 gv_has15 chv_has15 v_b1 Av_b1 cv_b1 v61 x1 v_sum18 ho2 hov_has15 hrv_b1 hcv_b1 heq
 unfold blob_Shared.j4 at heq
 refine Rr ?_
 obtain ⟨hn4,heq⟩:=guard?_some heq
 have hn3:v_b1.length - x1.toNat=(v_b1.drop x1.toNat).length:=by have h1:=both_of hn4; have h3:=trivial; (try simp); (try omega)
 have hr2:=Rw.drop hrv_b1 x1.toNat cv_b1 (by have h2:=hcv_b1; have h3:=trivial; omega)
 have hc2:v_b1.length - x1.toNat≤cv_b1 - x1.toNat:=by have h2:=hcv_b1; have h1:=both_of hn4; omega
 refine Rw' 4 [1,15,18,59,60,61] [] [.need ((0:Int)≤x1∧x1≤((v_b1.length:Nat):Int))] [(1,.slice (shiftA cv_b1 x1.toNat 1 Av_b1) (v_b1.length - x1.toNat) (cv_b1 - x1.toNat)),(15,.map (some gv_has15)),(18,iv v_sum18),(59,.slice A2 y2.1.length c2),(60,iv (y2.1.length:Int)),(61,iv v61)] (fun w hh=>(both_of hn4))<|Ra 1 [1,1,1,1,1,1,1,1,0,1,0,0,1,1,1] [.l [1,1,1,1,1,1,1,1,0,1,0,0],.b 2,.c [1,1,1,1,1,1,1,1,1]]<|Rd 2 [1,15,18,59,60,61] [(1,.slice (shiftA cv_b1 x1.toNat 1 Av_b1) (v_b1.length - x1.toNat) (cv_b1 - x1.toNat)),(15,.map (some gv_has15)),(18,iv v_sum18),(59,.slice A2 y2.1.length c2),(60,iv (y2.1.length:Int)),(61,iv (w64 (v61+1)))]<|Ad 1 [.c [1,1,1,1,1,1,1,1,0,1,0,0],.l [1,1,1,1,1,1,1,1,0,1,0,0],.b 2,.c [1,1,1,1,1,1,1,1,1]]<|Kp [1,15,18,59,60,61] [(1,.slice (shiftA cv_b1 x1.toNat 1 Av_b1) (v_b1.length - x1.toNat) (cv_b1 - x1.toNat)),(15,.map (some gv_has15)),(18,iv v_sum18),(59,.slice A2 y2.1.length c2),(60,iv (y2.1.length:Int)),(61,iv (w64 (v61+1)))] ?_
 exact hbackl3 y2 _ _ _ v_has15 _ _ (v_b1.drop x1.toNat) _ _ _ v_sum18 (w64 (v61+1)) ho2 hov_has15 hr2 hc2 hn3 heq
theorem blob_Shared.l3_c {w0:World} {H:Hp} {F:List Ch} {r:Int × Int} (e2:Int→Option (Int × Int))
  (he2:∀ (v_sum18:Int) ,e2 v_sum18=some r→RunH C8 (S8 F H r) H w0 [.c [1,1,1,1,1,1,1,1,1,0],.c [1,1,1,1,1,1,1,1,1,1]] [(18,iv v_sum18)] H (F)):∀ (k:Nat),∀ (y2:(List Int) × Int) (A2:Option Addr) (c2:Nat) (ch2:Ch) (v_has15:List (ByteArray × Bool)) (gv_has15:Nat) (chv_has15:Ch) (v_b1:List Int) (Av_b1:Option Addr) (nv_b1:Nat) (cv_b1:Nat) (v_sum18:Int) (v61:Int) ,SlOwn (Kd.int .i64) 3 H A2 c2 y2.1 ch2→MpOwn Value.string Kd.bool false H gv_has15 v_has15 chv_has15→Rw (Kd.int .u8) H F Av_b1 v_b1→nv_b1≤cv_b1→nv_b1=v_b1.length→blob_Shared.l3 e2 k y2 v_has15 v_b1 v_sum18 v61=some r→RunH C8 (S8 F H r) H w0 [.c [1,1,1,1,1,1,1,1,0,1,0,0],.l [1,1,1,1,1,1,1,1,0,1,0,0],.b 2,.c [1,1,1,1,1,1,1,1,1]] [(1,.slice Av_b1 nv_b1 cv_b1),(15,.map (some gv_has15)),(18,iv v_sum18),(59,.slice A2 y2.1.length c2),(60,iv (y2.1.length:Int)),(61,iv v61)] H (chv_has15::ch2::F):=by
 intro k
 induction k with
 | zero=>intro y2 A2 c2 ch2 v_has15 gv_has15 chv_has15 v_b1 Av_b1 nv_b1 cv_b1 v_sum18 v61 ho2 hov_has15 hrv_b1 hcv_b1 hnv_b1 heq; exact nomatch (show (none:Option (Int × Int))=some r from heq)
 | succ k ihk =>
  intro y2 A2 c2 ch2 v_has15 gv_has15 chv_has15 v_b1 Av_b1 nv_b1 cv_b1 v_sum18 v61 ho2 hov_has15 hrv_b1 hcv_b1 hnv_b1 heq
  subst hnv_b1
  rw [blob_Shared.l3] at heq
  refine Ra 1 [1,1,1,1,1,1,1,1,0,1,0,0,0] [.c [1,1,1,1,1,1,1,1,0,1,0,0,1],.l [1,1,1,1,1,1,1,1,0,1,0,0],.b 2,.c [1,1,1,1,1,1,1,1,1]]<|Rd 1 [1,15,18,59,60,61,62] [(1,.slice Av_b1 v_b1.length cv_b1),(15,.map (some gv_has15)),(18,iv v_sum18),(59,.slice A2 y2.1.length c2),(60,iv (y2.1.length:Int)),(61,iv v61),(62,.bool (decide (v61<(y2.1.length:Int))))]<|Ad 1 [.c [1,1,1,1,1,1,1,1,0,1,0,0,1,0],.c [1,1,1,1,1,1,1,1,0,1,0,0,1,1],.l [1,1,1,1,1,1,1,1,0,1,0,0],.b 2,.c [1,1,1,1,1,1,1,1,1]] ?_
  rcases bool_cases (decide (v61<(y2.1.length:Int))) with hb3 | hb3
  ·replace heq:=bif_true hb3 heq
   refine Ct (decide (v61<(y2.1.length:Int))) hb3<|Ra 4 [1,1,1,1,1,1,1,1,0,1,0,0,1,1,0,0,0] [.c [1,1,1,1,1,1,1,1,0,1,0,0,1,1,0,0,1],.b 3,.c [1,1,1,1,1,1,1,1,0,1,0,0,1,1,1],.l [1,1,1,1,1,1,1,1,0,1,0,0],.b 2,.c [1,1,1,1,1,1,1,1,1]] ?_
   obtain ⟨x1,hx1,heq⟩:=bind_some heq
   obtain ⟨ha1,cs1,hK1,hcc1⟩:=ho2.get hx1
   obtain rfl:cs1=[iv x1]:=hK1
   refine Rw' 3 [1,15,18,20,59,60,61] [iv x1] [.need (A2=some (adr A2)∧(0:Int)≤v61∧v61<((y2.1.length:Nat):Int)),.load ((adr A2).add (v61.toNat*1)) (iv x1)] [(1,.slice Av_b1 v_b1.length cv_b1),(15,.map (some gv_has15)),(18,iv v_sum18),(20,iv x1),(59,.slice A2 y2.1.length c2),(60,iv (y2.1.length:Int)),(61,iv v61)] (fun w hh=>⟨⟨ha1,(at?_some hx1).1,(at?_some hx1).2.1⟩,(hcc1 _ (hh.chin 1 rfl) 0 _ rfl)⟩)<|Ra 2 [1,1,1,1,1,1,1,1,0,1,0,0,1,1,0,0,1,0,0] [.c [1,1,1,1,1,1,1,1,0,1,0,0,1,1,0,0,1,0,1],.c [1,1,1,1,1,1,1,1,0,1,0,0,1,1,0,0,1,1],.b 3,.c [1,1,1,1,1,1,1,1,0,1,0,0,1,1,1],.l [1,1,1,1,1,1,1,1,0,1,0,0],.b 2,.c [1,1,1,1,1,1,1,1,1]] ?_
   obtain ⟨hn2,heq⟩:=guard?_some heq
   have hn1:x1.toNat=(v_b1.take x1.toNat).length:=by have h1:=both_of hn2; have h3:=trivial; (try simp); (try omega)
   have hr1:=Rw.take hrv_b1 x1.toNat
   have hc1:x1.toNat≤cv_b1:=by have h2:=hcv_b1; have h1:=both_of hn2; omega
   refine Rv 4 [1,15,18,20,59,60,61,65,68] [] [.need ((0:Int)≤x1∧x1≤((cv_b1:Nat):Int))] [(1,.slice Av_b1 v_b1.length cv_b1),(15,.map (some gv_has15)),(18,iv v_sum18),(20,iv x1),(59,.slice A2 y2.1.length c2),(60,iv (y2.1.length:Int)),(61,iv v61),(65,.map (some gv_has15)),(68,.slice Av_b1 x1.toNat cv_b1)] (fun w hh=>⟨(both_of hn2).1,(by have h1:=(both_of hn2).2; have h2:=hcv_b1; have h3:=trivial; omega)⟩) ?_
   refine RgH.does (DoesH.bytesStr (d:=69) (c:=cv_b1) (xs:=(v_b1.take x1.toNat)) (by kernel_rfl) hn1 (fun w hh=>hr1.rdb (hh.drop 2))) ?_
   rintro _ _ _ _ ⟨rfl,rfl,rfl⟩
   refine RgH.does (DoesH.lookup (d:=70) (t:=47) (m:=v_has15) (k:=(strN (v_b1.take x1.toNat))) (z:=.bool false) (zc:=[.bool false]) (z0:=false) (ok:=false) (kd:=Kd.bool) (ag:=false) (by kernel_rfl) (KyAt.string Tryd.underlying9) rfl rfl (fun w hh=>hov_has15.on (hh.chin 0 rfl))) ?_
   rintro _ _ _ _ ⟨cc1,rfl,rfl,rfl,hcc2⟩
   obtain rfl:cc1=[.bool (mgetD v_has15 (strN (v_b1.take x1.toNat)) false)]:=hcc2
   refine RgH.val1 (v':=.bool (mgetD v_has15 (strN (v_b1.take x1.toNat)) false)) rfl ?_
   refine Dn ?_
   rcases bool_cases (mgetD v_has15 (strN (v_b1.take x1.toNat)) false) with hb4 | hb4
   ·replace heq:=bif_true hb4 heq
    refine Ct (mgetD v_has15 (strN (v_b1.take x1.toNat)) false) hb4<|Rr<|Rd 4 [1,15,18,20,59,60,61] [(1,.slice Av_b1 v_b1.length cv_b1),(15,.map (some gv_has15)),(18,iv (w64 (v_sum18+x1))),(20,iv x1),(59,.slice A2 y2.1.length c2),(60,iv (y2.1.length:Int)),(61,iv v61)]<|Kp [1,15,18,20,59,60,61] [(1,.slice Av_b1 v_b1.length cv_b1),(15,.map (some gv_has15)),(18,iv (w64 (v_sum18+x1))),(20,iv x1),(59,.slice A2 y2.1.length c2),(60,iv (y2.1.length:Int)),(61,iv v61)] ?_
    exact (blob_Shared.j4_c (backl3:=(blob_Shared.l3 e2 k)) ihk) y2 _ _ _ v_has15 _ _ v_b1 _ _ v61 x1 (w64 (v_sum18+x1)) ho2 hov_has15 hrv_b1 hcv_b1 heq
   ·replace heq:=bif_false hb4 heq
    refine Cf (mgetD v_has15 (strN (v_b1.take x1.toNat)) false) hb4<|Ad 1 [.c [1,1,1,1,1,1,1,1,0,1,0,0,1,1,0,0,1,1],.b 3,.c [1,1,1,1,1,1,1,1,0,1,0,0,1,1,1],.l [1,1,1,1,1,1,1,1,0,1,0,0],.b 2,.c [1,1,1,1,1,1,1,1,1]]<|Kp [1,15,18,20,59,60,61] [(1,.slice Av_b1 v_b1.length cv_b1),(15,.map (some gv_has15)),(18,iv v_sum18),(20,iv x1),(59,.slice A2 y2.1.length c2),(60,iv (y2.1.length:Int)),(61,iv v61)] ?_
    exact (blob_Shared.j4_c (backl3:=(blob_Shared.l3 e2 k)) ihk) y2 _ _ _ v_has15 _ _ v_b1 _ _ v61 x1 v_sum18 ho2 hov_has15 hrv_b1 hcv_b1 heq
  ·replace heq:=bif_false hb3 heq
   refine Cf (decide (v61<(y2.1.length:Int))) hb3<|Ad 2 [.c [1,1,1,1,1,1,1,1,1,0],.c [1,1,1,1,1,1,1,1,1,1]]<|Kp [18] [(18,iv v_sum18)] ?_
   refine RunH.pick 2 [] (cs':=F) (by kernel_rfl) rfl ?_
   exact he2 v_sum18 heq
theorem blob_Shared.e1_c {w0:World} {H:Hp} {F:List Ch} {r:Int × Int}:∀ (a1:List Int) (Aa1:Option Addr) (ca1:Nat) (y2:(List Int) × Int) (A2:Option Addr) (c2:Nat) (ch2:Ch) (v_has15:List (ByteArray × Bool)) (gv_has15:Nat) (chv_has15:Ch) ,Rw (Kd.int .u8) H F Aa1 a1→a1.length≤ca1→SlOwn (Kd.int .i64) 3 H A2 c2 y2.1 ch2→MpOwn Value.string Kd.bool false H gv_has15 v_has15 chv_has15→blob_Shared.e1 a1 y2 v_has15=some r→RunH C8 (S8 F H r) H w0 [.c [1,1,1,1,1,1,1,0],.c [1,1,1,1,1,1,1,1]] [(1,.slice Aa1 a1.length ca1),(14,.slice A2 y2.1.length c2),(15,.map (some gv_has15))] H (chv_has15::ch2::F):=by
 intro a1 Aa1 ca1 y2 A2 c2 ch2 v_has15 gv_has15 chv_has15 hra1 hca1 ho2 hov_has15 heq
 unfold blob_Shared.e1 at heq
 refine Rr<|Rd 1 [1,14,15,18] [(1,.slice Aa1 a1.length ca1),(14,.slice A2 y2.1.length c2),(15,.map (some gv_has15)),(18,iv 0)]<|Ra 2 [1,1,1,1,1,1,1,1,0,0] [.c [1,1,1,1,1,1,1,1,0,1],.c [1,1,1,1,1,1,1,1,1]]<|Rd 3 [1,15,18,59,60,61] [(1,.slice Aa1 a1.length ca1),(15,.map (some gv_has15)),(18,iv 0),(59,.slice A2 y2.1.length c2),(60,iv (y2.1.length:Int)),(61,iv 0)]<|Ad 2 [.c [1,1,1,1,1,1,1,1,0,1,0,0],.l [1,1,1,1,1,1,1,1,0,1,0,0],.b 2,.c [1,1,1,1,1,1,1,1,1]]<|Kp [1,15,18,59,60,61] [(1,.slice Aa1 a1.length ca1),(15,.map (some gv_has15)),(18,iv 0),(59,.slice A2 y2.1.length c2),(60,iv (y2.1.length:Int)),(61,iv 0)] ?_
 exact ((blob_Shared.l3_c (e2:=blob_Shared.e2) (blob_Shared.e2_c)) big) y2 _ _ _ v_has15 _ _ a1 _ _ _ 0 0 ho2 hov_has15 hra1 hca1 rfl heq
theorem blob_Shared.l5_c {w0:World} {H:Hp} {F:List Ch} {r:Int × Int} (e1:(List Int)→((List Int) × Int)→(List (ByteArray × Bool))→Option (Int × Int))
  (he1:∀ (a1:List Int) (Aa1:Option Addr) (ca1:Nat) (y2:(List Int) × Int) (A2:Option Addr) (c2:Nat) (ch2:Ch) (v_has15:List (ByteArray × Bool)) (gv_has15:Nat) (chv_has15:Ch) ,Rw (Kd.int .u8) H F Aa1 a1→a1.length≤ca1→SlOwn (Kd.int .i64) 3 H A2 c2 y2.1 ch2→MpOwn Value.string Kd.bool false H gv_has15 v_has15 chv_has15→e1 a1 y2 v_has15=some r→RunH C8 (S8 F H r) H w0 [.c [1,1,1,1,1,1,1,0],.c [1,1,1,1,1,1,1,1]] [(1,.slice Aa1 a1.length ca1),(14,.slice A2 y2.1.length c2),(15,.map (some gv_has15))] H (chv_has15::ch2::F)):∀ (k:Nat),∀ (a1:List Int) (Aa1:Option Addr) (ca1:Nat) (y1:(List Int) × Int) (A1:Option Addr) (c1:Nat) (ch1:Ch) (y2:(List Int) × Int) (A2:Option Addr) (c2:Nat) (ch2:Ch) (v_a0:List Int) (Av_a0:Option Addr) (nv_a0:Nat) (cv_a0:Nat) (v_has15:List (ByteArray × Bool)) (gv_has15:Nat) (chv_has15:Ch) (v46:Int) ,Rw (Kd.int .u8) H F Aa1 a1→a1.length≤ca1→SlOwn (Kd.int .i64) 3 H A1 c1 y1.1 ch1→SlOwn (Kd.int .i64) 3 H A2 c2 y2.1 ch2→Rw (Kd.int .u8) H F Av_a0 v_a0→nv_a0≤cv_a0→nv_a0=v_a0.length→MpOwn Value.string Kd.bool false H gv_has15 v_has15 chv_has15→blob_Shared.l5 e1 k a1 y1 y2 v_a0 v_has15 v46=some r→RunH C8 (S8 F H r) H w0 [.c [1,1,1,1,1,1,0,1,0,0],.l [1,1,1,1,1,1,0,1,0,0],.b 0,.c [1,1,1,1,1,1,1]] [(0,.slice Av_a0 nv_a0 cv_a0),(1,.slice Aa1 a1.length ca1),(14,.slice A2 y2.1.length c2),(15,.map (some gv_has15)),(44,.slice A1 y1.1.length c1),(45,iv (y1.1.length:Int)),(46,iv v46)] H (chv_has15::ch2::ch1::F):=by
 intro k
 induction k with
 | zero=>intro a1 Aa1 ca1 y1 A1 c1 ch1 y2 A2 c2 ch2 v_a0 Av_a0 nv_a0 cv_a0 v_has15 gv_has15 chv_has15 v46 hra1 hca1 ho1 ho2 hrv_a0 hcv_a0 hnv_a0 hov_has15 heq; exact nomatch (show (none:Option (Int × Int))=some r from heq)
 | succ k ihk =>
  intro a1 Aa1 ca1 y1 A1 c1 ch1 y2 A2 c2 ch2 v_a0 Av_a0 nv_a0 cv_a0 v_has15 gv_has15 chv_has15 v46 hra1 hca1 ho1 ho2 hrv_a0 hcv_a0 hnv_a0 hov_has15 heq
  subst hnv_a0
  rw [blob_Shared.l5] at heq
  refine Ra 1 [1,1,1,1,1,1,0,1,0,0,0] [.c [1,1,1,1,1,1,0,1,0,0,1],.l [1,1,1,1,1,1,0,1,0,0],.b 0,.c [1,1,1,1,1,1,1]]<|Rd 1 [0,1,14,15,44,45,46,47] [(0,.slice Av_a0 v_a0.length cv_a0),(1,.slice Aa1 a1.length ca1),(14,.slice A2 y2.1.length c2),(15,.map (some gv_has15)),(44,.slice A1 y1.1.length c1),(45,iv (y1.1.length:Int)),(46,iv v46),(47,.bool (decide (v46<(y1.1.length:Int))))]<|Ad 1 [.c [1,1,1,1,1,1,0,1,0,0,1,0],.c [1,1,1,1,1,1,0,1,0,0,1,1],.l [1,1,1,1,1,1,0,1,0,0],.b 0,.c [1,1,1,1,1,1,1]] ?_
  rcases bool_cases (decide (v46<(y1.1.length:Int))) with hb5 | hb5
  ·replace heq:=bif_true hb5 heq
   refine Ct (decide (v46<(y1.1.length:Int))) hb5<|Ra 4 [1,1,1,1,1,1,0,1,0,0,1,1,0,0,0] [.c [1,1,1,1,1,1,0,1,0,0,1,1,0,0,1],.b 1,.c [1,1,1,1,1,1,0,1,0,0,1,1,1],.l [1,1,1,1,1,1,0,1,0,0],.b 0,.c [1,1,1,1,1,1,1]] ?_
   obtain ⟨x2,hx2,heq⟩:=bind_some heq
   obtain ⟨ha2,cs2,hK2,hcc3⟩:=ho1.get hx2
   obtain rfl:cs2=[iv x2]:=hK2
   refine Rw' 3 [0,1,14,15,17,44,45,46] [iv x2] [.need (A1=some (adr A1)∧(0:Int)≤v46∧v46<((y1.1.length:Nat):Int)),.load ((adr A1).add (v46.toNat*1)) (iv x2)] [(0,.slice Av_a0 v_a0.length cv_a0),(1,.slice Aa1 a1.length ca1),(14,.slice A2 y2.1.length c2),(15,.map (some gv_has15)),(17,iv x2),(44,.slice A1 y1.1.length c1),(45,iv (y1.1.length:Int)),(46,iv v46)] (fun w hh=>⟨⟨ha2,(at?_some hx2).1,(at?_some hx2).2.1⟩,(hcc3 _ (hh.chin 2 rfl) 0 _ rfl)⟩)<|Ra 1 [1,1,1,1,1,1,0,1,0,0,1,1,0,0,1,0] [.c [1,1,1,1,1,1,0,1,0,0,1,1,0,0,1,1],.b 1,.c [1,1,1,1,1,1,0,1,0,0,1,1,1],.l [1,1,1,1,1,1,0,1,0,0],.b 0,.c [1,1,1,1,1,1,1]] ?_
   obtain ⟨hn6,heq⟩:=guard?_some heq
   have hn5:x2.toNat=(v_a0.take x2.toNat).length:=by have h1:=both_of hn6; have h3:=trivial; (try simp); (try omega)
   have hr3:=Rw.take hrv_a0 x2.toNat
   have hc3:x2.toNat≤cv_a0:=by have h2:=hcv_a0; have h1:=both_of hn6; omega
   refine Rv 4 [0,1,14,15,17,44,45,46,50,53] [] [.need ((0:Int)≤x2∧x2≤((cv_a0:Nat):Int))] [(0,.slice Av_a0 v_a0.length cv_a0),(1,.slice Aa1 a1.length ca1),(14,.slice A2 y2.1.length c2),(15,.map (some gv_has15)),(17,iv x2),(44,.slice A1 y1.1.length c1),(45,iv (y1.1.length:Int)),(46,iv v46),(50,.map (some gv_has15)),(53,.slice Av_a0 x2.toNat cv_a0)] (fun w hh=>⟨(both_of hn6).1,(by have h1:=(both_of hn6).2; have h2:=hcv_a0; have h3:=trivial; omega)⟩) ?_
   refine RgH.does (DoesH.bytesStr (d:=54) (c:=cv_a0) (xs:=(v_a0.take x2.toNat)) (by kernel_rfl) hn5 (fun w hh=>hr3.rdb (hh.drop 3))) ?_
   rintro _ _ _ _ ⟨rfl,rfl,rfl⟩
   refine RgH.does (DoesH.mapUpdate (kk:=0) (cv:=[.bool true]) (k:=(strN (v_a0.take x2.toNat))) (v:=true) (by kernel_rfl) (KyAt.string Tryd.underlying9) rfl rfl rfl hov_has15) ?_
   rintro _ _ _ _ ⟨ch3,rfl,rfl,rfl,ho4⟩
   refine Dn<|Rr ?_
   obtain ⟨hn8,heq⟩:=guard?_some heq
   have hn7:v_a0.length - x2.toNat=(v_a0.drop x2.toNat).length:=by have h1:=both_of hn8; have h3:=trivial; (try simp); (try omega)
   have hr4:=Rw.drop hrv_a0 x2.toNat cv_a0 (by have h2:=hcv_a0; have h3:=trivial; omega)
   have hc4:v_a0.length - x2.toNat≤cv_a0 - x2.toNat:=by have h2:=hcv_a0; have h1:=both_of hn8; omega
   refine Rw' 4 [0,1,14,15,44,45,46] [] [.need ((0:Int)≤x2∧x2≤((v_a0.length:Nat):Int))] [(0,.slice (shiftA cv_a0 x2.toNat 1 Av_a0) (v_a0.length - x2.toNat) (cv_a0 - x2.toNat)),(1,.slice Aa1 a1.length ca1),(14,.slice A2 y2.1.length c2),(15,.map (some gv_has15)),(44,.slice A1 y1.1.length c1),(45,iv (y1.1.length:Int)),(46,iv v46)] (fun w hh=>(both_of hn8))<|Ra 1 [1,1,1,1,1,1,0,1,0,0,1,1,1] [.l [1,1,1,1,1,1,0,1,0,0],.b 0,.c [1,1,1,1,1,1,1]]<|Rd 2 [0,1,14,15,44,45,46] [(0,.slice (shiftA cv_a0 x2.toNat 1 Av_a0) (v_a0.length - x2.toNat) (cv_a0 - x2.toNat)),(1,.slice Aa1 a1.length ca1),(14,.slice A2 y2.1.length c2),(15,.map (some gv_has15)),(44,.slice A1 y1.1.length c1),(45,iv (y1.1.length:Int)),(46,iv (w64 (v46+1)))]<|Ad 1 [.c [1,1,1,1,1,1,0,1,0,0],.l [1,1,1,1,1,1,0,1,0,0],.b 0,.c [1,1,1,1,1,1,1]]<|Kp [0,1,14,15,44,45,46] [(0,.slice (shiftA cv_a0 x2.toNat 1 Av_a0) (v_a0.length - x2.toNat) (cv_a0 - x2.toNat)),(1,.slice Aa1 a1.length ca1),(14,.slice A2 y2.1.length c2),(15,.map (some gv_has15)),(44,.slice A1 y1.1.length c1),(45,iv (y1.1.length:Int)),(46,iv (w64 (v46+1)))] ?_
   exact ihk a1 _ _ y1 _ _ _ y2 _ _ _ (v_a0.drop x2.toNat) _ _ _ (mput v_has15 (strN (v_a0.take x2.toNat)) true) _ _ (w64 (v46+1)) hra1 hca1 ho1 ho2 hr4 hc4 hn7 ho4 heq
  ·replace heq:=bif_false hb5 heq
   refine Cf (decide (v46<(y1.1.length:Int))) hb5<|Ad 2 [.c [1,1,1,1,1,1,1,0],.c [1,1,1,1,1,1,1,1]]<|Kp [1,14,15] [(1,.slice Aa1 a1.length ca1),(14,.slice A2 y2.1.length c2),(15,.map (some gv_has15))] ?_
   refine RunH.pick 3 [0,1] (cs':=chv_has15::ch2::F) (by kernel_rfl) rfl ?_
   exact he1 a1 _ _ y2 _ _ _ v_has15 _ _ hra1 hca1 ho2 hov_has15 heq
theorem blob_Shared_c {w0:World} {H:Hp} {F:List Ch} {a0:List Int} {Aa0:Option Addr} {na0:Nat} {ca0:Nat} {a1:List Int} {Aa1:Option Addr} {na1:Nat} {ca1:Nat} {a2:Int} {a3:Int} {a4:Int} {r:Int × Int} (hra0:Rw (Kd.int .u8) H F Aa0 a0) (hca0:na0≤ca0) (hna0:na0=a0.length) (hra1:Rw (Kd.int .u8) H F Aa1 a1) (hca1:na1≤ca1) (hna1:na1=a1.length) (heq:blob_Shared.f a0 a1 a2 a3 a4=some r):CallsH Tryd.prog 8 #[.slice Aa0 na0 ca0,.slice Aa1 na1 ca1,iv a2,iv a3,iv a4] H w0 (F) (S8 F H r):=by
 refine calls_of_runH (F:=C8) Tryd.func8 (by kernel_rfl) Tryd.ntmps8 (args:=[.slice Aa0 na0 ca0,.slice Aa1 na1 ca1,iv a2,iv a3,iv a4]) (by kernel_rfl) ?_
 subst hna0
 subst hna1
 unfold blob_Shared.f at heq
 refine Ra 1 [0] [.c [1]]<|Rd 2 [0,1,2,3,4] [(0,.slice Aa0 a0.length ca0),(1,.slice Aa1 a1.length ca1),(2,iv a2),(3,iv a3),(4,iv a4)]<|Ra 1 [1,0] [.c [1,1]]<|Rk 4 [0,1,2,3,4,22,23,24,25] [(0,.slice Aa0 a0.length ca0),(1,.slice Aa1 a1.length ca1),(2,iv a2),(3,iv a3),(4,iv a4),(22,.slice Aa0 a0.length ca0),(23,iv a2),(24,iv a3),(25,iv a4)] ?_
 obtain ⟨y1,hy1,heq⟩:=bind_some heq
 refine RgH.does (DoesH.call (d:=26) (g:=4) (args:=#[.slice Aa0 a0.length ca0,iv a2,iv a3,iv a4]) (by kernel_rfl) (blob_Pieces_c (a0:=a0) (a1:=a2) (a2:=a3) (a3:=a4) hra0 hca0 rfl hy1)) ?_
 rintro _ _ _ _ ⟨_,rfl,A1,c1,ch1,rfl,rfl,rfl,ho1⟩
 refine Rd 10 [0,1,2,3,4,12,13] [(0,.slice Aa0 a0.length ca0),(1,.slice Aa1 a1.length ca1),(2,iv a2),(3,iv a3),(4,iv a4),(12,.slice A1 y1.1.length c1),(13,iv y1.2)]<|Ra 2 [1,1,0,0] [.c [1,1,0,1],.c [1,1,1]]<|Rd 2 [0,1,2,3,4,12,13,30] [(0,.slice Aa0 a0.length ca0),(1,.slice Aa1 a1.length ca1),(2,iv a2),(3,iv a3),(4,iv a4),(12,.slice A1 y1.1.length c1),(13,iv y1.2),(30,.bool (y1.2 != 0))] ?_
 rcases bool_cases (y1.2 != 0) with hb1 | hb1
 ·replace heq:=bif_true hb1 heq
  refine Ct (y1.2 != 0) hb1<|Ra 1 [1,1,0,1,0,0] [.c [1,1,0,1,0,1],.c [1,1,1]]<|Rd 3 [10,11] [(10,iv 0),(11,iv y1.2)] ?_
  obtain rfl:=Option.some.inj heq
  refine RunH.pick 1 [] (cs':=F) (by kernel_rfl) rfl ?_
  exact RunH.done (by kernel_rfl) Tryd.func8 (v:=.tuple #[iv 0,iv y1.2]) (by kernel_rfl) ⟨rfl,rfl,rfl⟩
 ·replace heq:=bif_false hb1 heq
  refine Cf (y1.2 != 0) hb1<|Ra 2 [1,1,1,0] [.c [1,1,1,1]]<|Rk 4 [0,1,12,33,34,35,36] [(0,.slice Aa0 a0.length ca0),(1,.slice Aa1 a1.length ca1),(12,.slice A1 y1.1.length c1),(33,.slice Aa1 a1.length ca1),(34,iv a2),(35,iv a3),(36,iv a4)] ?_
  obtain ⟨y2,hy2,heq⟩:=bind_some heq
  refine RgH.does (DoesH.call (d:=37) (g:=4) (args:=#[.slice Aa1 a1.length ca1,iv a2,iv a3,iv a4]) (by kernel_rfl) (blob_Pieces_c (a0:=a1) (a1:=a2) (a2:=a3) (a3:=a4) (hra1.wk (fun _ h=>(.tail _ h))) hca1 rfl hy2)) ?_
  rintro _ _ _ _ ⟨_,rfl,A2,c2,ch2,rfl,rfl,rfl,ho2⟩
  refine Rd 10 [0,1,12,13,14] [(0,.slice Aa0 a0.length ca0),(1,.slice Aa1 a1.length ca1),(12,.slice A1 y1.1.length c1),(13,iv y2.2),(14,.slice A2 y2.1.length c2)]<|Ra 2 [1,1,1,1,0,0] [.c [1,1,1,1,0,1],.c [1,1,1,1,1]]<|Rd 2 [0,1,12,13,14,41] [(0,.slice Aa0 a0.length ca0),(1,.slice Aa1 a1.length ca1),(12,.slice A1 y1.1.length c1),(13,iv y2.2),(14,.slice A2 y2.1.length c2),(41,.bool (y2.2 != 0))] ?_
  rcases bool_cases (y2.2 != 0) with hb2 | hb2
  ·replace heq:=bif_true hb2 heq
   refine Ct (y2.2 != 0) hb2<|Ra 1 [1,1,1,1,0,1,0,0] [.c [1,1,1,1,0,1,0,1],.c [1,1,1,1,1]]<|Rd 3 [10,11] [(10,iv 0),(11,iv y2.2)] ?_
   obtain rfl:=Option.some.inj heq
   refine RunH.pick 2 [] (cs':=F) (by kernel_rfl) rfl ?_
   exact RunH.done (by kernel_rfl) Tryd.func8 (v:=.tuple #[iv 0,iv y2.2]) (by kernel_rfl) ⟨rfl,rfl,rfl⟩
  ·replace heq:=bif_false hb2 heq
   refine Cf (y2.2 != 0) hb2<|Ra 2 [1,1,1,1,1,0] [.c [1,1,1,1,1,1]] ?_
   refine RgH.does (DoesH.new (d:=43) (v:=fun g=>.map (some g)) (o:=fun g=>.map #[] 0) (fun g=>by kernel_rfl)) ?_
   rintro _ _ _ _ ⟨g1,rfl,rfl,rfl⟩
   have ho3:MpOwn Value.string Kd.bool false H g1 ([]:List (ByteArray × Bool)) (some (g1,.map #[] 0)):=MpOwn.made
   refine Rd 2 [0,1,12,14,15] [(0,.slice Aa0 a0.length ca0),(1,.slice Aa1 a1.length ca1),(12,.slice A1 y1.1.length c1),(14,.slice A2 y2.1.length c2),(15,.map (some g1))]<|Ra 2 [1,1,1,1,1,1,0,0] [.c [1,1,1,1,1,1,0,1],.c [1,1,1,1,1,1,1]]<|Rd 3 [0,1,14,15,44,45,46] [(0,.slice Aa0 a0.length ca0),(1,.slice Aa1 a1.length ca1),(14,.slice A2 y2.1.length c2),(15,.map (some g1)),(44,.slice A1 y1.1.length c1),(45,iv (y1.1.length:Int)),(46,iv 0)]<|Ad 2 [.c [1,1,1,1,1,1,0,1,0,0],.l [1,1,1,1,1,1,0,1,0,0],.b 0,.c [1,1,1,1,1,1,1]]<|Kp [0,1,14,15,44,45,46] [(0,.slice Aa0 a0.length ca0),(1,.slice Aa1 a1.length ca1),(14,.slice A2 y2.1.length c2),(15,.map (some g1)),(44,.slice A1 y1.1.length c1),(45,iv (y1.1.length:Int)),(46,iv 0)] ?_
   exact ((blob_Shared.l5_c (e1:=blob_Shared.e1) (blob_Shared.e1_c)) big) a1 _ _ y1 _ _ _ y2 _ _ _ a0 _ _ _ ([]:List (ByteArray × Bool)) _ _ 0 hra1 hca1 ho1 ho2 hra0 hca0 rfl ho3 heq
noncomputable def C9:Ctx:={ P:=Tryd.prog,f:=9,N:=8,c:=bodyOf Tryd.f9 }
def S9 (F:List Ch) (H0:Hp) (r:List (List Int)) (v:Value) (H:Hp) (cs:List Ch):Prop:=∃ (A0:Option Addr) (c0:Nat) (ch0:Ch),H0=H∧v=.slice A0 r.length c0∧ch0::F=cs∧SlOwn (Kd.slice (Kd.int .u8)) 22 H A0 c0 r ch0
theorem slices_Clone_byte_c {w0:World} {H:Hp} {F:List Ch} {a0:List (List Int)} {Aa0:Option Addr} {na0 ca0:Nat} {r:List (List Int)} (hra0:Rw (Kd.slice (Kd.int .u8)) H F Aa0 a0) (hca0:na0≤ca0) (hna0:na0=a0.length) (heq:slices_Clone_byte.f a0=some r):CallsH Tryd.prog 9 #[.slice Aa0 na0 ca0] H w0 F (S9 F H r):=by
 refine calls_of_runH (F:=C9) Tryd.func9 (by kernel_rfl) Tryd.ntmps9 (args:=[.slice Aa0 na0 ca0]) (by kernel_rfl) ?_
 subst hna0
 unfold slices_Clone_byte.f at heq
 obtain ⟨hn,heq⟩:=guard?_some heq
 obtain rfl:=Option.some.inj heq
 refine Ra 1 [0] [.c [1]]<|Rd 1 [0] [(0,.slice Aa0 a0.length ca0)]<|Ra 2 [1,0,0] [.c [1,0,1],.c [1,1]] ?_
 cases Aa0 with
 | none =>
  have h0:a0=[]:=by
   cases a0 with
   | nil=>rfl
   | cons x xs=>obtain ⟨b,off,cs,e,fr,hA,_⟩:=hra0 (by simp); cases hA
  subst h0
  refine Rd 2 [4] [(4,.bool true)]<|Ct true rfl<|Ra 1 [1,0,1,0,0] [.c [1,0,1,0,1],.c [1,1]]<|Rd 1 [2] [(2,.slice none 0 0)]<|RunH.nilc ?_
  exact RunH.done (by kernel_rfl) Tryd.func9 (v:=.slice none ([]:List (List Int)).length 0) (by kernel_rfl) ⟨none,0,none,rfl,rfl,rfl,SlOwn.nil⟩
 | some ad =>
  refine Rd 2 [0,4] [(0,.slice (some ad) a0.length ca0),(4,.bool false)]<|Cf false rfl<|Ra 2 [1,1,0] [.c [1,1,1]] ?_
  refine RgH.does (DoesH.new (d:=5) (v:=fun g=>.slice (some ⟨g,0,none⟩) 0 0) (o:=fun g=>.cells #[] 22 (0,0)) (fun g=>by kernel_rfl)) ?_
  rintro _ _ _ _ ⟨g,rfl,rfl,rfl⟩
  have ho:SlOwn (Kd.slice (Kd.int .u8)) 22 H (some ⟨g,0,none⟩) 0 ([]:List (List Int)) (some (g,.cells #[] 22 (0,0))):=.inr ⟨g,0,#[],rfl,rfl,by simp,by simp [maxLen],by simp,Kd.Rep.nil⟩
  refine Rk 2 [5,6] [(5,.slice (some ⟨g,0,none⟩) 0 0),(6,.slice (some ad) a0.length ca0)] ?_
  refine RgH.does (DoesH.append (d:=7) (k:=0) (t:=28) (e:=22) (bytes:=24) (kd:=(Kd.slice (Kd.int .u8))) (n:=0) (m:=a0.length) (xs:=([]:List (List Int))) (ys:=a0) (A:=some ⟨g,0,none⟩) (B:=some ad) (c:=0) (cB:=ca0) (by kernel_rfl) rfl rfl (by kernel_rfl) rfl ho (fun w hh=>hra0.rdb (hh.drop 1)) (room_le hn) (by have:=room_le hn; omega)) ?_
  rintro _ _ _ _ ⟨A1,c1,ch1,rfl,rfl,rfl,ho1⟩
  refine Rd 4 [2] [(2,.slice A1 (([]:List (List Int))++a0).length c1)] ?_
  exact RunH.done (by kernel_rfl) Tryd.func9 (v:=.slice A1 (([]:List (List Int))++a0).length c1) (by kernel_rfl) ⟨A1,c1,ch1,rfl,rfl,rfl,ho1⟩
noncomputable def C19:Ctx:={ P:=Tryd.prog,f:=19,N:=27,c:=bodyOf Tryd.f19 }
def S19 (F:List Ch) (H0:Hp) (r:List Int) (v:Value) (H:Hp) (cs:List Ch):Prop:=∃ (A0:Option Addr) (c0:Nat) (ch0:Ch),H0=H∧v=.slice A0 r.length c0∧ch0::F=cs∧SlOwn (Kd.int .u8) 5 H A0 c0 r ch0
theorem slices_Grow_byte_c {w0:World} {H:Hp} {F:List Ch} {a0:List Int} {a1:Int} {r:List Int} (heq:slices_Grow_byte.f a0 a1=some r):CallsH Tryd.prog 19 #[.slice none 0 0,iv a1] H w0 F (S19 F H r):=by
 refine calls_of_runH (F:=C19) Tryd.func19 (by kernel_rfl) Tryd.ntmps19 (args:=[.slice none 0 0,iv a1]) (by kernel_rfl) ?_
 unfold slices_Grow_byte.f at heq
 obtain ⟨hn,heq⟩:=guard?_some heq
 obtain rfl:=Option.some.inj heq
 simp only [Bool.and_eq_true,decide_eq_true_eq] at hn
 obtain ⟨_,h0,h3⟩:=hn
 have h3:=room_le h3
 obtain ⟨I,rfl⟩:∃ I:Nat,a1=(I:Int):=⟨a1.toNat,by omega⟩
 rw [Int.toNat_natCast,Nat.zero_add] at h3
 have hbig:I≤140737490452480:=by
  have:I*1≤I*1:=Nat.mul_le_mul_left _ (by omega)
  omega
 have hw:w64 ((I:Int) - w64 ((0:Int) - (0:Int)))=(I:Int):=by
  have e1:w64 ((0:Int) - (0:Int))=0:=by unfold w64; rw [IntKind.wrap_i64]; omega
  rw [e1,Int.sub_zero]; unfold w64; rw [IntKind.wrap_i64]; omega
 refine Ra 1 [0] [.c [1]]<|Rd 1 [0,1] [(0,.slice none 0 0),(1,iv (I:Int))]<|Ra 2 [1,0,0] [.c [1,0,1],.c [1,1]]<|Rd 2 [0,1,6] [(0,.slice none 0 0),(1,iv (I:Int)),(6,.bool (decide ((I:Int)<0)))]<|Cf (decide ((I:Int)<0)) (decide_eq_false (by omega))<|Ra 3 [1,1,0,0] [.c [1,1,0,1],.c [1,1,1]]<|Rd 8 [1,0] [(1,iv (w64 ((I:Int) - w64 ((0:Int) - (0:Int))))),(0,.slice none 0 0)]<|Ra 1 [1,1,0,1,0] [.c [1,1,0,1,1],.c [1,1,1]]<|Rd 2 [0,1,16] [(0,.slice none 0 0),(1,iv (w64 ((I:Int) - w64 ((0:Int) - (0:Int))))),(16,.bool (decide ((0:Int)<w64 ((I:Int) - w64 ((0:Int) - (0:Int))))))] ?_
 rcases bool_cases (decide ((0:Int)<w64 ((I:Int) - w64 ((0:Int) - (0:Int))))) with hb | hb
 ·have hI:0<I:=by have:=of_decide_eq_true hb; rw [hw] at this; omega
  refine Ct (decide ((0:Int)<w64 ((I:Int) - w64 ((0:Int) - (0:Int))))) hb<|Rr<|Rv 5 [0,20,21] [] [.need ((0:Int)≤((0:Nat):Int)∧((0:Nat):Int)≤((0:Nat):Int))] [(0,.slice none 0 0),(20,.slice none 0 0),(21,iv (w64 ((I:Int) - w64 ((0:Int) - (0:Int)))))] (fun w hh=>⟨by omega,by omega⟩) ?_
  refine RgH.does (DoesH.appendZeros0 (dd:=22) (kd:=(Kd.int .u8)) (t:=22) (tn:=3) (e:=5) (bytes:=1) (q:=I) (by kernel_rfl) hw (by kernel_rfl) (by kernel_rfl) hI h3 (by omega)) ?_
  rintro _ _ _ _ ⟨g,c',cells,rfl,rfl,rfl,ho⟩
  refine Rw' 10 [0] [] [.need ((0:Int)≤((0:Nat):Int)∧((0:Nat):Int)≤((c':Nat):Int))] [(0,.slice (some ⟨g,0,none⟩) 0 c')] (fun w hh=>⟨by omega,by omega⟩)<|Ra 1 [1,1,1,0] [.c [1,1,1,1]]<|Rd 2 [4] [(4,.slice (some ⟨g,0,none⟩) 0 c')] ?_
  exact RunH.done (by kernel_rfl) Tryd.func19 (v:=.slice (some ⟨g,0,none⟩) ([]:List Int).length c') (by kernel_rfl) ⟨some ⟨g,0,none⟩,c',_,rfl,rfl,rfl,ho⟩
 ·refine Cf (decide ((0:Int)<w64 ((I:Int) - w64 ((0:Int) - (0:Int))))) hb<|Ra 2 [1,1,1,0] [.c [1,1,1,1]]<|Rd 2 [4] [(4,.slice none 0 0)]<|RunH.nilc ?_
  exact RunH.done (by kernel_rfl) Tryd.func19 (v:=.slice none ([]:List Int).length 0) (by kernel_rfl) ⟨none,0,none,rfl,rfl,rfl,SlOwn.nil⟩
noncomputable def C16:Ctx:={ P:=Tryd.prog,f:=16,N:=36,c:=bodyOf Tryd.f16 }
def S16 (F:List Ch) (H0:Hp) (r:(List Int)) (v:Value) (H:Hp) (cs:List Ch):Prop:=∃ (A0:Option Addr) (c0:Nat) (ch0:Ch),H0=H∧v=.slice A0 r.length c0∧ch0::F=cs∧SlOwn (Kd.int .u8) 5 H A0 c0 r ch0
theorem slices_Concat_byte.e2_c {w0:World} {H:Hp} {F:List Ch} {r:(List Int)}:∀ (v_newslice6:List Int) (Av_newslice6:Option Addr) (nv_newslice6:Nat) (cv_newslice6:Nat) (chv_newslice6:Ch) ,SlOwn (Kd.int .u8) 5 H Av_newslice6 cv_newslice6 v_newslice6 chv_newslice6→nv_newslice6=v_newslice6.length→slices_Concat_byte.e2 v_newslice6=some r→RunH C16 (S16 F H r) H w0 [.c [1,1,1,1,1,0],.c [1,1,1,1,1,1]] [(6,.slice Av_newslice6 nv_newslice6 cv_newslice6)] H (chv_newslice6::F):=by
 intro v_newslice6 Av_newslice6 nv_newslice6 cv_newslice6 chv_newslice6 hov_newslice6 hnv_newslice6 heq
 subst hnv_newslice6
 unfold slices_Concat_byte.e2 at heq
 refine Rr<|Rd 2 [2] [(2,.slice Av_newslice6 v_newslice6.length cv_newslice6)] ?_
 obtain rfl:=Option.some.inj heq
 exact RunH.done (by kernel_rfl) Tryd.func16 (v:=.slice Av_newslice6 v_newslice6.length cv_newslice6) (by kernel_rfl) ⟨Av_newslice6,cv_newslice6,chv_newslice6,rfl,rfl,rfl,hov_newslice6⟩
theorem slices_Concat_byte.l3_c {w0:World} {H:Hp} {F:List Ch} {r:(List Int)} (e2:(List Int)→Option (List Int))
  (he2:∀ (v_newslice6:List Int) (Av_newslice6:Option Addr) (nv_newslice6:Nat) (cv_newslice6:Nat) (chv_newslice6:Ch) ,SlOwn (Kd.int .u8) 5 H Av_newslice6 cv_newslice6 v_newslice6 chv_newslice6→nv_newslice6=v_newslice6.length→e2 v_newslice6=some r→RunH C16 (S16 F H r) H w0 [.c [1,1,1,1,1,0],.c [1,1,1,1,1,1]] [(6,.slice Av_newslice6 nv_newslice6 cv_newslice6)] H (chv_newslice6::F)):∀ (k:Nat),∀ (a0:List (List Int)) (Aa0:Option Addr) (ca0:Nat) (v_newslice6:List Int) (Av_newslice6:Option Addr) (nv_newslice6:Nat) (cv_newslice6:Nat) (chv_newslice6:Ch) (v27:Int) ,Rw (Kd.slice (Kd.int .u8)) H F Aa0 a0→a0.length≤ca0→SlOwn (Kd.int .u8) 5 H Av_newslice6 cv_newslice6 v_newslice6 chv_newslice6→nv_newslice6=v_newslice6.length→slices_Concat_byte.l3 e2 k a0 v_newslice6 v27=some r→RunH C16 (S16 F H r) H w0 [.c [1,1,1,1,0,1,0,0],.l [1,1,1,1,0,1,0,0],.b 2,.c [1,1,1,1,1]] [(6,.slice Av_newslice6 nv_newslice6 cv_newslice6),(25,.slice Aa0 a0.length ca0),(26,iv (a0.length:Int)),(27,iv v27)] H (chv_newslice6::F):=by
 intro k
 induction k with
 | zero=>intro a0 Aa0 ca0 v_newslice6 Av_newslice6 nv_newslice6 cv_newslice6 chv_newslice6 v27 hra0 hca0 hov_newslice6 hnv_newslice6 heq; exact nomatch (show (none:Option (List Int))=some r from heq)
 | succ k ihk =>
  intro a0 Aa0 ca0 v_newslice6 Av_newslice6 nv_newslice6 cv_newslice6 chv_newslice6 v27 hra0 hca0 hov_newslice6 hnv_newslice6 heq
  subst hnv_newslice6
  rw [slices_Concat_byte.l3] at heq
  refine Ra 1 [1,1,1,1,0,1,0,0,0] [.c [1,1,1,1,0,1,0,0,1],.l [1,1,1,1,0,1,0,0],.b 2,.c [1,1,1,1,1]]<|Rd 1 [6,25,26,27,28] [(6,.slice Av_newslice6 v_newslice6.length cv_newslice6),(25,.slice Aa0 a0.length ca0),(26,iv (a0.length:Int)),(27,iv v27),(28,.bool (decide (v27<(a0.length:Int))))]<|Ad 1 [.c [1,1,1,1,0,1,0,0,1,0],.c [1,1,1,1,0,1,0,0,1,1],.l [1,1,1,1,0,1,0,0],.b 2,.c [1,1,1,1,1]] ?_
  rcases bool_cases (decide (v27<(a0.length:Int))) with hb1 | hb1
  ·replace heq:=bif_true hb1 heq
   refine Ct (decide (v27<(a0.length:Int))) hb1<|Ra 4 [1,1,1,1,0,1,0,0,1,1,0,0,0] [.c [1,1,1,1,0,1,0,0,1,1,0,0,1],.b 3,.c [1,1,1,1,0,1,0,0,1,1,1],.l [1,1,1,1,0,1,0,0],.b 2,.c [1,1,1,1,1]] ?_
   obtain ⟨x1,hx1,heq⟩:=bind_some heq
   obtain ⟨ha1,cs1,hK1,hcc1⟩:=hra0.get hx1
   obtain ⟨A2,c2,rfl,hc1,hr1⟩:=hK1
   refine Rw' 3 [6,8,25,26,27] [.slice A2 x1.length c2] [.need (Aa0=some (adr Aa0)∧(0:Int)≤v27∧v27<((a0.length:Nat):Int)),.load ((adr Aa0).add (v27.toNat*1)) (.slice A2 x1.length c2)] [(6,.slice Av_newslice6 v_newslice6.length cv_newslice6),(8,.slice A2 x1.length c2),(25,.slice Aa0 a0.length ca0),(26,iv (a0.length:Int)),(27,iv v27)] (fun w hh=>⟨⟨ha1,(at?_some hx1).1,(at?_some hx1).2.1⟩,(hcc1 _ _ (hh.drop 1) 0 _ rfl)⟩)<|Rr<|Rk 2 [25,26,27,31,32] [(25,.slice Aa0 a0.length ca0),(26,iv (a0.length:Int)),(27,iv v27),(31,.slice Av_newslice6 v_newslice6.length cv_newslice6),(32,.slice A2 x1.length c2)] ?_
   obtain ⟨hn1,heq⟩:=guard?_some heq
   refine RgH.does (DoesH.append (d:=33) (k:=0) (t:=22) (e:=5) (bytes:=1) (kd:=(Kd.int .u8)) (n:=v_newslice6.length) (m:=x1.length) (xs:=v_newslice6) (ys:=x1) (A:=Av_newslice6) (B:=A2) (c:=cv_newslice6) (cB:=c2) (by kernel_rfl) rfl rfl (by kernel_rfl) rfl hov_newslice6 (fun w hh=>(Rw.of (F:=F) hr1).rdb (hh.drop 1)) (room_le hn1) (by have:=room_le hn1; omega)) ?_
   rintro _ _ _ _ ⟨A3,c3,ch2,rfl,rfl,rfl,ho2⟩
   refine Rd 4 [6,25,26,27] [(6,.slice A3 ((v_newslice6++x1).length) c3),(25,.slice Aa0 a0.length ca0),(26,iv (a0.length:Int)),(27,iv v27)]<|Ra 1 [1,1,1,1,0,1,0,0,1,1,1] [.l [1,1,1,1,0,1,0,0],.b 2,.c [1,1,1,1,1]]<|Rd 2 [6,25,26,27] [(6,.slice A3 ((v_newslice6++x1).length) c3),(25,.slice Aa0 a0.length ca0),(26,iv (a0.length:Int)),(27,iv (w64 (v27+1)))]<|Ad 1 [.c [1,1,1,1,0,1,0,0],.l [1,1,1,1,0,1,0,0],.b 2,.c [1,1,1,1,1]]<|Kp [6,25,26,27] [(6,.slice A3 ((v_newslice6++x1).length) c3),(25,.slice Aa0 a0.length ca0),(26,iv (a0.length:Int)),(27,iv (w64 (v27+1)))] ?_
   exact ihk a0 _ _ (v_newslice6++x1) _ _ _ _ (w64 (v27+1)) hra0 hca0 ho2 rfl heq
  ·replace heq:=bif_false hb1 heq
   refine Cf (decide (v27<(a0.length:Int))) hb1<|Ad 2 [.c [1,1,1,1,1,0],.c [1,1,1,1,1,1]]<|Kp [6] [(6,.slice Av_newslice6 v_newslice6.length cv_newslice6)] ?_
   exact he2 v_newslice6 _ _ _ _ hov_newslice6 rfl heq
theorem slices_Concat_byte.e1_c {w0:World} {H:Hp} {F:List Ch} {r:(List Int)}:∀ (a0:List (List Int)) (Aa0:Option Addr) (ca0:Nat) (v_size3:Int) ,Rw (Kd.slice (Kd.int .u8)) H F Aa0 a0→a0.length≤ca0→slices_Concat_byte.e1 a0 v_size3=some r→RunH C16 (S16 F H r) H w0 [.c [1,1,1,0],.c [1,1,1,1]] [(0,.slice Aa0 a0.length ca0),(3,iv v_size3)] H (F):=by
 intro a0 Aa0 ca0 v_size3 hra0 hca0 heq
 unfold slices_Concat_byte.e1 at heq
 refine Rr<|Rk 1 [0,23] [(0,.slice Aa0 a0.length ca0),(23,iv v_size3)] ?_
 obtain ⟨y1,hy1,heq⟩:=bind_some heq
 refine RgH.does (DoesH.call (d:=24) (g:=19) (args:=#[.slice none 0 0,iv v_size3]) (by kernel_rfl) (slices_Grow_byte_c (a0:=([]:List Int)) (a1:=v_size3)  hy1)) ?_
 rintro _ _ _ _ ⟨_,rfl,A1,c1,ch1,rfl,rfl,rfl,ho1⟩
 refine Rd 3 [0,6] [(0,.slice Aa0 a0.length ca0),(6,.slice A1 y1.length c1)]<|Ra 2 [1,1,1,1,0,0] [.c [1,1,1,1,0,1],.c [1,1,1,1,1]]<|Rd 3 [6,25,26,27] [(6,.slice A1 y1.length c1),(25,.slice Aa0 a0.length ca0),(26,iv (a0.length:Int)),(27,iv 0)]<|Ad 2 [.c [1,1,1,1,0,1,0,0],.l [1,1,1,1,0,1,0,0],.b 2,.c [1,1,1,1,1]]<|Kp [6,25,26,27] [(6,.slice A1 y1.length c1),(25,.slice Aa0 a0.length ca0),(26,iv (a0.length:Int)),(27,iv 0)] ?_
 exact ((slices_Concat_byte.l3_c (e2:=slices_Concat_byte.e2) (slices_Concat_byte.e2_c)) big) a0 _ _ y1 _ _ _ _ 0 hra0 hca0 ho1 rfl heq
theorem slices_Concat_byte.j5_c {w0:World} {H:Hp} {F:List Ch} {r:(List Int)} (backl4:(List (List Int))→Int→Int→Option (List Int))
  (hbackl4:∀ (a0:List (List Int)) (Aa0:Option Addr) (ca0:Nat) (v_size3:Int) (v11:Int) ,Rw (Kd.slice (Kd.int .u8)) H F Aa0 a0→a0.length≤ca0→backl4 a0 v_size3 v11=some r→RunH C16 (S16 F H r) H w0 [.c [1,1,0,1,0,0],.l [1,1,0,1,0,0],.b 0,.c [1,1,1]] [(0,.slice Aa0 a0.length ca0),(3,iv v_size3),(9,.slice Aa0 a0.length ca0),(10,iv (a0.length:Int)),(11,iv v11)] H (F)):∀ (a0:List (List Int)) (Aa0:Option Addr) (ca0:Nat) (v_size3:Int) (v11:Int) (x2:List Int) ,Rw (Kd.slice (Kd.int .u8)) H F Aa0 a0→a0.length≤ca0→slices_Concat_byte.j5 backl4 a0 v_size3 v11 x2=some r→RunH C16 (S16 F H r) H w0 [.c [1,1,0,1,0,0,1,1,1],.l [1,1,0,1,0,0],.b 0,.c [1,1,1]] [(0,.slice Aa0 a0.length ca0),(3,iv (w64 (v_size3+(x2.length:Int)))),(9,.slice Aa0 a0.length ca0),(10,iv (a0.length:Int)),(11,iv v11)] H (F):=by
 intro a0 Aa0 ca0 v_size3 v11 x2 hra0 hca0 heq
 unfold slices_Concat_byte.j5 at heq
 refine Rr<|Rd 2 [0,3,9,10,11] [(0,.slice Aa0 a0.length ca0),(3,iv (w64 (v_size3+(x2.length:Int)))),(9,.slice Aa0 a0.length ca0),(10,iv (a0.length:Int)),(11,iv (w64 (v11+1)))]<|Ad 1 [.c [1,1,0,1,0,0],.l [1,1,0,1,0,0],.b 0,.c [1,1,1]]<|Kp [0,3,9,10,11] [(0,.slice Aa0 a0.length ca0),(3,iv (w64 (v_size3+(x2.length:Int)))),(9,.slice Aa0 a0.length ca0),(10,iv (a0.length:Int)),(11,iv (w64 (v11+1)))] ?_
 exact hbackl4 a0 _ _ (w64 (v_size3+(x2.length:Int))) (w64 (v11+1)) hra0 hca0 heq
theorem slices_Concat_byte.l4_c {w0:World} {H:Hp} {F:List Ch} {r:(List Int)} (e1:(List (List Int))→Int→Option (List Int))
  (he1:∀ (a0:List (List Int)) (Aa0:Option Addr) (ca0:Nat) (v_size3:Int) ,Rw (Kd.slice (Kd.int .u8)) H F Aa0 a0→a0.length≤ca0→e1 a0 v_size3=some r→RunH C16 (S16 F H r) H w0 [.c [1,1,1,0],.c [1,1,1,1]] [(0,.slice Aa0 a0.length ca0),(3,iv v_size3)] H (F)):∀ (k:Nat),∀ (a0:List (List Int)) (Aa0:Option Addr) (ca0:Nat) (v_size3:Int) (v11:Int) ,Rw (Kd.slice (Kd.int .u8)) H F Aa0 a0→a0.length≤ca0→slices_Concat_byte.l4 e1 k a0 v_size3 v11=some r→RunH C16 (S16 F H r) H w0 [.c [1,1,0,1,0,0],.l [1,1,0,1,0,0],.b 0,.c [1,1,1]] [(0,.slice Aa0 a0.length ca0),(3,iv v_size3),(9,.slice Aa0 a0.length ca0),(10,iv (a0.length:Int)),(11,iv v11)] H (F):=by
 intro k
 induction k with
 | zero=>intro a0 Aa0 ca0 v_size3 v11 hra0 hca0 heq; exact nomatch (show (none:Option (List Int))=some r from heq)
 | succ k ihk =>
  intro a0 Aa0 ca0 v_size3 v11 hra0 hca0 heq
  rw [slices_Concat_byte.l4] at heq
  refine Ra 1 [1,1,0,1,0,0,0] [.c [1,1,0,1,0,0,1],.l [1,1,0,1,0,0],.b 0,.c [1,1,1]]<|Rd 1 [0,3,9,10,11,12] [(0,.slice Aa0 a0.length ca0),(3,iv v_size3),(9,.slice Aa0 a0.length ca0),(10,iv (a0.length:Int)),(11,iv v11),(12,.bool (decide (v11<(a0.length:Int))))]<|Ad 1 [.c [1,1,0,1,0,0,1,0],.c [1,1,0,1,0,0,1,1],.l [1,1,0,1,0,0],.b 0,.c [1,1,1]] ?_
  rcases bool_cases (decide (v11<(a0.length:Int))) with hb2 | hb2
  ·replace heq:=bif_true hb2 heq
   refine Ct (decide (v11<(a0.length:Int))) hb2<|Ra 4 [1,1,0,1,0,0,1,1,0,0,0] [.c [1,1,0,1,0,0,1,1,0,0,1],.b 1,.c [1,1,0,1,0,0,1,1,1],.l [1,1,0,1,0,0],.b 0,.c [1,1,1]] ?_
   obtain ⟨x2,hx2,heq⟩:=bind_some heq
   obtain ⟨ha2,cs2,hK2,hcc2⟩:=hra0.get hx2
   obtain ⟨A4,c4,rfl,hc2,hr2⟩:=hK2
   refine Rw' 3 [0,3,5,9,10,11] [.slice A4 x2.length c4] [.need (Aa0=some (adr Aa0)∧(0:Int)≤v11∧v11<((a0.length:Nat):Int)),.load ((adr Aa0).add (v11.toNat*1)) (.slice A4 x2.length c4)] [(0,.slice Aa0 a0.length ca0),(3,iv v_size3),(5,.slice A4 x2.length c4),(9,.slice Aa0 a0.length ca0),(10,iv (a0.length:Int)),(11,iv v11)] (fun w hh=>⟨⟨ha2,(at?_some hx2).1,(at?_some hx2).2.1⟩,(hcc2 _ _ (hh.drop 0) 0 _ rfl)⟩)<|Ra 1 [1,1,0,1,0,0,1,1,0,0,1,0] [.c [1,1,0,1,0,0,1,1,0,0,1,1],.b 1,.c [1,1,0,1,0,0,1,1,1],.l [1,1,0,1,0,0],.b 0,.c [1,1,1]]<|Rd 5 [0,3,9,10,11] [(0,.slice Aa0 a0.length ca0),(3,iv (w64 (v_size3+(x2.length:Int)))),(9,.slice Aa0 a0.length ca0),(10,iv (a0.length:Int)),(11,iv v11)]<|Ra 1 [1,1,0,1,0,0,1,1,0,0,1,1,0] [.c [1,1,0,1,0,0,1,1,0,0,1,1,1],.b 1,.c [1,1,0,1,0,0,1,1,1],.l [1,1,0,1,0,0],.b 0,.c [1,1,1]]<|Rd 2 [0,3,9,10,11,20] [(0,.slice Aa0 a0.length ca0),(3,iv (w64 (v_size3+(x2.length:Int)))),(9,.slice Aa0 a0.length ca0),(10,iv (a0.length:Int)),(11,iv v11),(20,.bool (decide ((w64 (v_size3+(x2.length:Int)))<0)))] ?_
   rcases bool_cases (decide ((w64 (v_size3+(x2.length:Int)))<0)) with hb3 | hb3
   ·replace heq:=bif_true hb3 heq
    refine Ct (decide ((w64 (v_size3+(x2.length:Int)))<0)) hb3 ?_
    cases heq
   ·replace heq:=bif_false hb3 heq
    refine Cf (decide ((w64 (v_size3+(x2.length:Int)))<0)) hb3<|Ad 2 [.c [1,1,0,1,0,0,1,1,1],.l [1,1,0,1,0,0],.b 0,.c [1,1,1]]<|Kp [0,3,9,10,11] [(0,.slice Aa0 a0.length ca0),(3,iv (w64 (v_size3+(x2.length:Int)))),(9,.slice Aa0 a0.length ca0),(10,iv (a0.length:Int)),(11,iv v11)] ?_
    exact (slices_Concat_byte.j5_c (backl4:=(slices_Concat_byte.l4 e1 k)) ihk) a0 _ _ v_size3 v11 x2 hra0 hca0 heq
  ·replace heq:=bif_false hb2 heq
   refine Cf (decide (v11<(a0.length:Int))) hb2<|Ad 2 [.c [1,1,1,0],.c [1,1,1,1]]<|Kp [0,3] [(0,.slice Aa0 a0.length ca0),(3,iv v_size3)] ?_
   exact he1 a0 _ _ v_size3 hra0 hca0 heq
theorem slices_Concat_byte_c {w0:World} {H:Hp} {F:List Ch} {a0:List (List Int)} {Aa0:Option Addr} {na0:Nat} {ca0:Nat} {r:(List Int)} (hra0:Rw (Kd.slice (Kd.int .u8)) H F Aa0 a0) (hca0:na0≤ca0) (hna0:na0=a0.length) (heq:slices_Concat_byte.f a0=some r):CallsH Tryd.prog 16 #[.slice Aa0 na0 ca0] H w0 (F) (S16 F H r):=by
 refine calls_of_runH (F:=C16) Tryd.func16 (by kernel_rfl) Tryd.ntmps16 (args:=[.slice Aa0 na0 ca0]) (by kernel_rfl) ?_
 subst hna0
 unfold slices_Concat_byte.f at heq
 refine Ra 1 [0] [.c [1]]<|Rd 1 [0] [(0,.slice Aa0 a0.length ca0)]<|Ra 1 [1,0] [.c [1,1]]<|Rd 1 [0,3] [(0,.slice Aa0 a0.length ca0),(3,iv 0)]<|Ra 2 [1,1,0,0] [.c [1,1,0,1],.c [1,1,1]]<|Rd 3 [0,3,9,10,11] [(0,.slice Aa0 a0.length ca0),(3,iv 0),(9,.slice Aa0 a0.length ca0),(10,iv (a0.length:Int)),(11,iv 0)]<|Ad 2 [.c [1,1,0,1,0,0],.l [1,1,0,1,0,0],.b 0,.c [1,1,1]]<|Kp [0,3,9,10,11] [(0,.slice Aa0 a0.length ca0),(3,iv 0),(9,.slice Aa0 a0.length ca0),(10,iv (a0.length:Int)),(11,iv 0)] ?_
 exact ((slices_Concat_byte.l4_c (e1:=slices_Concat_byte.e1) (slices_Concat_byte.e1_c)) big) a0 _ _ 0 0 hra0 hca0 heq
noncomputable def C11:Ctx:={ P:=Tryd.prog,f:=11,N:=25,c:=bodyOf Tryd.f11 }
def S11 (F:List Ch) (H0:Hp) (r:(List Int) × Int) (v:Value) (H:Hp) (cs:List Ch):Prop:=∃ (A0:Option Addr) (c0:Nat) (ch0:Ch),H0=H∧v=.tuple #[.slice A0 r.1.length c0,iv r.2]∧ch0::F=cs∧SlOwn (Kd.int .u8) 5 H A0 c0 r.1 ch0
theorem blob_Together.e1_c {w0:World} {H:Hp} {F:List Ch} {r:(List Int) × Int}:∀ (a0:List (List Int)) (Aa0:Option Addr) (ca0:Nat) (v_total4:Int) ,Rw (Kd.slice (Kd.int .u8)) H F Aa0 a0→a0.length≤ca0→blob_Together.e1 a0 v_total4=some r→RunH C11 (S11 F H r) H w0 [.c [1,1,1,1,0,0],.c [1,1,1,1,0,1],.c [1,1,1,1,1]] [(0,.slice Aa0 a0.length ca0),(4,iv v_total4)] H (F):=by
 intro a0 Aa0 ca0 v_total4 hra0 hca0 heq
 unfold blob_Together.e1 at heq
 refine Rr<|Rd 2 [0,22] [(0,.slice Aa0 a0.length ca0),(22,.bool (decide (2000000<v_total4)))] ?_
 rcases bool_cases (decide (2000000<v_total4)) with hb2 | hb2
 ·replace heq:=bif_true hb2 heq
  refine Ct (decide (2000000<v_total4)) hb2<|Ra 1 [1,1,1,1,0,1,0,0] [.c [1,1,1,1,0,1,0,1],.c [1,1,1,1,1]]<|Rd 2 [2,3] [(2,.slice none 0 0),(3,iv 2)]<|RunH.nilc ?_
  have ho2:SlOwn (Kd.int .u8) 5 H none 0 ([]:List Int) none:=SlOwn.nil
  obtain rfl:=Option.some.inj heq
  exact RunH.done (by kernel_rfl) Tryd.func11 (v:=.tuple #[.slice none 0 0,iv 2]) (by kernel_rfl) ⟨none,0,none,rfl,rfl,rfl,ho2⟩
 ·replace heq:=bif_false hb2 heq
  refine Cf (decide (2000000<v_total4)) hb2<|Ra 2 [1,1,1,1,1,0] [.c [1,1,1,1,1,1]]<|Rk 1 [23] [(23,.slice Aa0 a0.length ca0)] ?_
  obtain ⟨y1,hy1,heq⟩:=bind_some heq
  refine RgH.does (DoesH.call (d:=24) (g:=16) (args:=#[.slice Aa0 a0.length ca0]) (by kernel_rfl) (slices_Concat_byte_c (a0:=a0) hra0 hca0 rfl hy1)) ?_
  rintro _ _ _ _ ⟨_,rfl,A1,c1,ch1,rfl,rfl,rfl,ho3⟩
  refine Rd 4 [2,3] [(2,.slice A1 y1.length c1),(3,iv 0)] ?_
  obtain rfl:=Option.some.inj heq
  exact RunH.done (by kernel_rfl) Tryd.func11 (v:=.tuple #[.slice A1 y1.length c1,iv 0]) (by kernel_rfl) ⟨A1,c1,ch1,rfl,rfl,rfl,ho3⟩
theorem blob_Together.l2_c {w0:World} {H:Hp} {F:List Ch} {r:(List Int) × Int} (e1:(List (List Int))→Int→Option ((List Int) × Int))
  (he1:∀ (a0:List (List Int)) (Aa0:Option Addr) (ca0:Nat) (v_total4:Int) ,Rw (Kd.slice (Kd.int .u8)) H F Aa0 a0→a0.length≤ca0→e1 a0 v_total4=some r→RunH C11 (S11 F H r) H w0 [.c [1,1,1,1,0,0],.c [1,1,1,1,0,1],.c [1,1,1,1,1]] [(0,.slice Aa0 a0.length ca0),(4,iv v_total4)] H (F)):∀ (k:Nat),∀ (a0:List (List Int)) (Aa0:Option Addr) (ca0:Nat) (v_total4:Int) (v12:Int) ,Rw (Kd.slice (Kd.int .u8)) H F Aa0 a0→a0.length≤ca0→blob_Together.l2 e1 k a0 v_total4 v12=some r→RunH C11 (S11 F H r) H w0 [.c [1,1,1,0,1,0,0],.l [1,1,1,0,1,0,0],.b 0,.c [1,1,1,1]] [(0,.slice Aa0 a0.length ca0),(4,iv v_total4),(10,.slice Aa0 a0.length ca0),(11,iv (a0.length:Int)),(12,iv v12)] H (F):=by
 intro k
 induction k with
 | zero=>intro a0 Aa0 ca0 v_total4 v12 hra0 hca0 heq; exact nomatch (show (none:Option ((List Int) × Int))=some r from heq)
 | succ k ihk =>
  intro a0 Aa0 ca0 v_total4 v12 hra0 hca0 heq
  rw [blob_Together.l2] at heq
  refine Ra 1 [1,1,1,0,1,0,0,0] [.c [1,1,1,0,1,0,0,1],.l [1,1,1,0,1,0,0],.b 0,.c [1,1,1,1]]<|Rd 1 [0,4,10,11,12,13] [(0,.slice Aa0 a0.length ca0),(4,iv v_total4),(10,.slice Aa0 a0.length ca0),(11,iv (a0.length:Int)),(12,iv v12),(13,.bool (decide (v12<(a0.length:Int))))]<|Ad 1 [.c [1,1,1,0,1,0,0,1,0],.c [1,1,1,0,1,0,0,1,1],.l [1,1,1,0,1,0,0],.b 0,.c [1,1,1,1]] ?_
  rcases bool_cases (decide (v12<(a0.length:Int))) with hb3 | hb3
  ·replace heq:=bif_true hb3 heq
   refine Ct (decide (v12<(a0.length:Int))) hb3<|Ra 4 [1,1,1,0,1,0,0,1,1,0,0,0] [.c [1,1,1,0,1,0,0,1,1,0,0,1],.b 1,.c [1,1,1,0,1,0,0,1,1,1],.l [1,1,1,0,1,0,0],.b 0,.c [1,1,1,1]] ?_
   obtain ⟨x1,hx1,heq⟩:=bind_some heq
   obtain ⟨ha1,cs1,hK1,hcc1⟩:=hra0.get hx1
   obtain ⟨A2,c2,rfl,hc1,hr1⟩:=hK1
   refine Rw' 3 [0,4,6,10,11,12] [.slice A2 x1.length c2] [.need (Aa0=some (adr Aa0)∧(0:Int)≤v12∧v12<((a0.length:Nat):Int)),.load ((adr Aa0).add (v12.toNat*1)) (.slice A2 x1.length c2)] [(0,.slice Aa0 a0.length ca0),(4,iv v_total4),(6,.slice A2 x1.length c2),(10,.slice Aa0 a0.length ca0),(11,iv (a0.length:Int)),(12,iv v12)] (fun w hh=>⟨⟨ha1,(at?_some hx1).1,(at?_some hx1).2.1⟩,(hcc1 _ _ (hh.drop 0) 0 _ rfl)⟩)<|Rr<|Rd 5 [0,4,10,11,12] [(0,.slice Aa0 a0.length ca0),(4,iv (w64 (v_total4+(x1.length:Int)))),(10,.slice Aa0 a0.length ca0),(11,iv (a0.length:Int)),(12,iv v12)]<|Ra 1 [1,1,1,0,1,0,0,1,1,1] [.l [1,1,1,0,1,0,0],.b 0,.c [1,1,1,1]]<|Rd 2 [0,4,10,11,12] [(0,.slice Aa0 a0.length ca0),(4,iv (w64 (v_total4+(x1.length:Int)))),(10,.slice Aa0 a0.length ca0),(11,iv (a0.length:Int)),(12,iv (w64 (v12+1)))]<|Ad 1 [.c [1,1,1,0,1,0,0],.l [1,1,1,0,1,0,0],.b 0,.c [1,1,1,1]]<|Kp [0,4,10,11,12] [(0,.slice Aa0 a0.length ca0),(4,iv (w64 (v_total4+(x1.length:Int)))),(10,.slice Aa0 a0.length ca0),(11,iv (a0.length:Int)),(12,iv (w64 (v12+1)))] ?_
   exact ihk a0 _ _ (w64 (v_total4+(x1.length:Int))) (w64 (v12+1)) hra0 hca0 heq
  ·replace heq:=bif_false hb3 heq
   refine Cf (decide (v12<(a0.length:Int))) hb3<|Ad 3 [.c [1,1,1,1,0,0],.c [1,1,1,1,0,1],.c [1,1,1,1,1]]<|Kp [0,4] [(0,.slice Aa0 a0.length ca0),(4,iv v_total4)] ?_
   exact he1 a0 _ _ v_total4 hra0 hca0 heq
theorem blob_Together_c {w0:World} {H:Hp} {F:List Ch} {a0:List (List Int)} {Aa0:Option Addr} {na0:Nat} {ca0:Nat} {r:(List Int) × Int} (hra0:Rw (Kd.slice (Kd.int .u8)) H F Aa0 a0) (hca0:na0≤ca0) (hna0:na0=a0.length) (heq:blob_Together.f a0=some r):CallsH Tryd.prog 11 #[.slice Aa0 na0 ca0] H w0 (F) (S11 F H r):=by
 refine calls_of_runH (F:=C11) Tryd.func11 (by kernel_rfl) Tryd.ntmps11 (args:=[.slice Aa0 na0 ca0]) (by kernel_rfl) ?_
 subst hna0
 unfold blob_Together.f at heq
 refine Ra 1 [0] [.c [1]]<|Rd 2 [0] [(0,.slice Aa0 a0.length ca0)]<|Ra 2 [1,0,0] [.c [1,0,1],.c [1,1]]<|Rd 3 [0,9] [(0,.slice Aa0 a0.length ca0),(9,.bool (decide (20000<(a0.length:Int))))] ?_
 rcases bool_cases (decide (20000<(a0.length:Int))) with hb1 | hb1
 ·replace heq:=bif_true hb1 heq
  refine Ct (decide (20000<(a0.length:Int))) hb1<|Ra 1 [1,0,1,0,0] [.c [1,0,1,0,1],.c [1,1]]<|Rd 2 [2,3] [(2,.slice none 0 0),(3,iv 2)]<|RunH.nilc ?_
  have ho1:SlOwn (Kd.int .u8) 5 H none 0 ([]:List Int) none:=SlOwn.nil
  obtain rfl:=Option.some.inj heq
  exact RunH.done (by kernel_rfl) Tryd.func11 (v:=.tuple #[.slice none 0 0,iv 2]) (by kernel_rfl) ⟨none,0,none,rfl,rfl,rfl,ho1⟩
 ·replace heq:=bif_false hb1 heq
  refine Cf (decide (20000<(a0.length:Int))) hb1<|Ra 2 [1,1,0] [.c [1,1,1]]<|Rd 1 [0,4] [(0,.slice Aa0 a0.length ca0),(4,iv 0)]<|Ra 2 [1,1,1,0,0] [.c [1,1,1,0,1],.c [1,1,1,1]]<|Rd 3 [0,4,10,11,12] [(0,.slice Aa0 a0.length ca0),(4,iv 0),(10,.slice Aa0 a0.length ca0),(11,iv (a0.length:Int)),(12,iv 0)]<|Ad 2 [.c [1,1,1,0,1,0,0],.l [1,1,1,0,1,0,0],.b 0,.c [1,1,1,1]]<|Kp [0,4,10,11,12] [(0,.slice Aa0 a0.length ca0),(4,iv 0),(10,.slice Aa0 a0.length ca0),(11,iv (a0.length:Int)),(12,iv 0)] ?_
  exact ((blob_Together.l2_c (e1:=blob_Together.e1) (blob_Together.e1_c)) big) a0 _ _ 0 0 hra0 hca0 heq
noncomputable def C10:Ctx:={ P:=Tryd.prog,f:=10,N:=26,c:=bodyOf Tryd.f10 }
def S10 (F:List Ch) (H0:Hp) (r:Bool) (v:Value) (H:Hp) (cs:List Ch):Prop:=H0=H∧v=.bool r∧F=cs
theorem slices_Equal_byte.e1_c {w0:World} {H:Hp} {F:List Ch} {r:Bool}:slices_Equal_byte.e1=some r→RunH C10 (S10 F H r) H w0 [.c [1,1,1,0],.c [1,1,1,1]] [] H (F):=by
 intro   heq
 unfold slices_Equal_byte.e1 at heq
 refine Rr<|Rd 1 [4] [(4,.bool true)] ?_
 obtain rfl:=Option.some.inj heq
 exact RunH.done (by kernel_rfl) Tryd.func10 (v:=.bool true) (by kernel_rfl) ⟨rfl,rfl,rfl⟩
theorem slices_Equal_byte.l2_c {w0:World} {H:Hp} {F:List Ch} {r:Bool} (e1:Option Bool)
  (he1:e1=some r→RunH C10 (S10 F H r) H w0 [.c [1,1,1,0],.c [1,1,1,1]] [] H (F)):∀ (k:Nat),∀ (a0:List Int) (Aa0:Option Addr) (ca0:Nat) (a1:List Int) (Aa1:Option Addr) (ca1:Nat) (v13:Int) ,Rw (Kd.int .u8) H F Aa0 a0→a0.length≤ca0→Rw (Kd.int .u8) H F Aa1 a1→a1.length≤ca1→slices_Equal_byte.l2 e1 k a0 a1 v13=some r→RunH C10 (S10 F H r) H w0 [.c [1,1,0,1,0,0],.l [1,1,0,1,0,0],.b 0,.c [1,1,1]] [(0,.slice Aa0 a0.length ca0),(1,.slice Aa1 a1.length ca1),(12,iv (a0.length:Int)),(13,iv v13)] H (F):=by
 intro k
 induction k with
 | zero=>intro a0 Aa0 ca0 a1 Aa1 ca1 v13 hra0 hca0 hra1 hca1 heq; exact nomatch (show (none:Option Bool)=some r from heq)
 | succ k ihk =>
  intro a0 Aa0 ca0 a1 Aa1 ca1 v13 hra0 hca0 hra1 hca1 heq
  rw [slices_Equal_byte.l2] at heq
  refine Ra 1 [1,1,0,1,0,0,0] [.c [1,1,0,1,0,0,1],.l [1,1,0,1,0,0],.b 0,.c [1,1,1]]<|Rd 1 [0,1,12,13,14] [(0,.slice Aa0 a0.length ca0),(1,.slice Aa1 a1.length ca1),(12,iv (a0.length:Int)),(13,iv v13),(14,.bool (decide (v13<(a0.length:Int))))]<|Ad 1 [.c [1,1,0,1,0,0,1,0],.c [1,1,0,1,0,0,1,1],.l [1,1,0,1,0,0],.b 0,.c [1,1,1]] ?_
  rcases bool_cases (decide (v13<(a0.length:Int))) with hb2 | hb2
  ·replace heq:=bif_true hb2 heq
   refine Ct (decide (v13<(a0.length:Int))) hb2<|Ra 4 [1,1,0,1,0,0,1,1,0,0,0] [.c [1,1,0,1,0,0,1,1,0,0,1],.b 1,.c [1,1,0,1,0,0,1,1,1],.l [1,1,0,1,0,0],.b 0,.c [1,1,1]]<|Rd 2 [0,1,5,12,13] [(0,.slice Aa0 a0.length ca0),(1,.slice Aa1 a1.length ca1),(5,iv v13),(12,iv (a0.length:Int)),(13,iv v13)]<|Ad 1 [.c [1,1,0,1,0,0,1,1,0,0,1,0],.c [1,1,0,1,0,0,1,1,0,0,1,1],.b 1,.c [1,1,0,1,0,0,1,1,1],.l [1,1,0,1,0,0],.b 0,.c [1,1,1]]<|Kp [0,1,5,12,13] [(0,.slice Aa0 a0.length ca0),(1,.slice Aa1 a1.length ca1),(5,iv v13),(12,iv (a0.length:Int)),(13,iv v13)] ?_
   refine RunH.draw (fun w=>Heap H w0 w (F)) (fun w=>Heap H w0 w (F)) [3,3,3,3,3,3,3,3,3] (n:=9) (ls:=[false,false,false,false,false,false,false,false,false]) (by kernel_rfl) (by kernel_rfl) (by kernel_rfl) rfl ?_
   obtain ⟨x1,hx1,heq⟩:=bind_some heq
   obtain ⟨ha1,cs1,hK1,hcc1⟩:=hra0.get hx1
   obtain rfl:cs1=[.int .u8 x1]:=hK1
   obtain ⟨x2,hx2,heq⟩:=bind_some heq
   obtain ⟨ha2,cs2,hK2,hcc2⟩:=hra1.get hx2
   obtain rfl:cs2=[.int .u8 x2]:=hK2
   refine Dk [0,1,2,3,4,5,6,7,8] 0 (nb 9 511) [.int .u8 x1,.int .u8 x2] [.need (Aa0=some (adr Aa0)∧(0:Int)≤v13∧v13<((a0.length:Nat):Int)),.load ((adr Aa0).add (v13.toNat*1)) (.int .u8 x1),.need (Aa1=some (adr Aa1)∧(0:Int)≤v13∧v13<((a1.length:Nat):Int)),.load ((adr Aa1).add (v13.toNat*1)) (.int .u8 x2)] [0,1,12,13,24] [(0,.slice Aa0 a0.length ca0),(1,.slice Aa1 a1.length ca1),(12,iv (a0.length:Int)),(13,iv v13),(24,.bool (x1 != x2))] (Pk 0 []) (Pk 0 []) (fun w hh=>⟨⟨ha1,(at?_some hx1).1,(at?_some hx1).2.1⟩,(hcc1 _ _ (hh.drop 0) 0 _ rfl),⟨ha2,(at?_some hx2).1,(at?_some hx2).2.1⟩,(hcc2 _ _ (hh.drop 0) 0 _ rfl)⟩) ?_
   refine DrH.done (by kernel_rfl) ?_
   rcases bool_cases (x1 != x2) with hb3 | hb3
   ·replace heq:=bif_true hb3 heq
    refine Ct (x1 != x2) hb3<|Ra 1 [1,1,0,1,0,0,1,1,0,0,1,1,0,0] [.c [1,1,0,1,0,0,1,1,0,0,1,1,0,1],.b 1,.c [1,1,0,1,0,0,1,1,1],.l [1,1,0,1,0,0],.b 0,.c [1,1,1]]<|Rd 1 [4] [(4,.bool false)] ?_
    obtain rfl:=Option.some.inj heq
    exact RunH.done (by kernel_rfl) Tryd.func10 (v:=.bool false) (by kernel_rfl) ⟨rfl,rfl,rfl⟩
   ·replace heq:=bif_false hb3 heq
    refine Cf (x1 != x2) hb3<|Ra 2 [1,1,0,1,0,0,1,1,1] [.l [1,1,0,1,0,0],.b 0,.c [1,1,1]]<|Rd 2 [0,1,12,13] [(0,.slice Aa0 a0.length ca0),(1,.slice Aa1 a1.length ca1),(12,iv (a0.length:Int)),(13,iv (w64 (v13+1)))]<|Ad 1 [.c [1,1,0,1,0,0],.l [1,1,0,1,0,0],.b 0,.c [1,1,1]]<|Kp [0,1,12,13] [(0,.slice Aa0 a0.length ca0),(1,.slice Aa1 a1.length ca1),(12,iv (a0.length:Int)),(13,iv (w64 (v13+1)))] ?_
    exact ihk a0 _ _ a1 _ _ (w64 (v13+1)) hra0 hca0 hra1 hca1 heq
  ·replace heq:=bif_false hb2 heq
   refine Cf (decide (v13<(a0.length:Int))) hb2<|Ad 2 [.c [1,1,1,0],.c [1,1,1,1]]<|Kp [] [] ?_
   exact he1 heq
theorem slices_Equal_byte_c {w0:World} {H:Hp} {F:List Ch} {a0:List Int} {Aa0:Option Addr} {na0:Nat} {ca0:Nat} {a1:List Int} {Aa1:Option Addr} {na1:Nat} {ca1:Nat} {r:Bool} (hra0:Rw (Kd.int .u8) H F Aa0 a0) (hca0:na0≤ca0) (hna0:na0=a0.length) (hra1:Rw (Kd.int .u8) H F Aa1 a1) (hca1:na1≤ca1) (hna1:na1=a1.length) (heq:slices_Equal_byte.f a0 a1=some r):CallsH Tryd.prog 10 #[.slice Aa0 na0 ca0,.slice Aa1 na1 ca1] H w0 (F) (S10 F H r):=by
 refine calls_of_runH (F:=C10) Tryd.func10 (by kernel_rfl) Tryd.ntmps10 (args:=[.slice Aa0 na0 ca0,.slice Aa1 na1 ca1]) (by kernel_rfl) ?_
 subst hna0
 subst hna1
 unfold slices_Equal_byte.f at heq
 refine Ra 1 [0] [.c [1]]<|Rd 1 [0,1] [(0,.slice Aa0 a0.length ca0),(1,.slice Aa1 a1.length ca1)]<|Ra 2 [1,0,0] [.c [1,0,1],.c [1,1]]<|Rd 5 [0,1,10] [(0,.slice Aa0 a0.length ca0),(1,.slice Aa1 a1.length ca1),(10,.bool ((a0.length:Int) != (a1.length:Int)))] ?_
 rcases bool_cases ((a0.length:Int) != (a1.length:Int)) with hb1 | hb1
 ·replace heq:=bif_true hb1 heq
  refine Ct ((a0.length:Int) != (a1.length:Int)) hb1<|Ra 1 [1,0,1,0,0] [.c [1,0,1,0,1],.c [1,1]]<|Rd 1 [4] [(4,.bool false)] ?_
  obtain rfl:=Option.some.inj heq
  exact RunH.done (by kernel_rfl) Tryd.func10 (v:=.bool false) (by kernel_rfl) ⟨rfl,rfl,rfl⟩
 ·replace heq:=bif_false hb1 heq
  refine Cf ((a0.length:Int) != (a1.length:Int)) hb1<|Ra 3 [1,1,0,0] [.c [1,1,0,1],.c [1,1,1]]<|Rd 3 [0,1,12,13] [(0,.slice Aa0 a0.length ca0),(1,.slice Aa1 a1.length ca1),(12,iv (a0.length:Int)),(13,iv 0)]<|Ad 2 [.c [1,1,0,1,0,0],.l [1,1,0,1,0,0],.b 0,.c [1,1,1]]<|Kp [0,1,12,13] [(0,.slice Aa0 a0.length ca0),(1,.slice Aa1 a1.length ca1),(12,iv (a0.length:Int)),(13,iv 0)] ?_
  exact ((slices_Equal_byte.l2_c (e1:=slices_Equal_byte.e1) (slices_Equal_byte.e1_c)) big) a0 _ _ a1 _ _ 0 hra0 hca0 hra1 hca1 heq
end Go.Proofs.YtgmfdaibmaakpaaDoor
