/- What the machine's calls of these functions come to: just what the plain functions say. Written by program. -/
import Derived.Test.YtgmfdaibmaakpaaDoorProg
import Derived.Test.YtgmfdaibmaakpaaDoorKitX
import Derived.Test.YtgmfdaibmaakpaaDoorZD
import Derived.Test.YtgmfdaibmaakpaaDoorShelf
import Derived.Test.YtgmfdaibmaakpaaDoorKitBs
import Derived.Test.YtgmfdaibmaakpaaDoorZ3M1
set_option linter.unusedVariables false
set_option linter.unnecessarySimpa false
set_option linter.unusedSimpArgs false
set_option maxRecDepth 100000
set_option maxHeartbeats 1000000
namespace Go.Proofs.YtgmfdaibmaakpaaDoor
open Go Go.RowKit Go.Proofs.YtgmfdaibmaakpaaDoor.Kit
noncomputable def C3:Ctx:={ P:=Tryd.prog,f:=3,N:=158,c:=bodyOf Tryd.f3 }
def S3 (F:List Ch) (H0:Hp) (r:Bool) (v:Value) (H:Hp) (cs:List Ch):Prop:=H0=H∧v=.bool r∧F=cs
theorem smithyardtop_TopPiecesTravel.e2_c {w0:World} {H:Hp} {F:List Ch} {r:Bool}:∀ (a1:List Int) (Aa1:Option Addr) (ca1:Nat) (y6:(List (List Int))) (A4:Option Addr) (c4:Nat) (ch4:Ch) ,Kd.Row (Kd.int .u8) H Aa1 a1→a1.length≤ca1→SlOwn (Kd.slice (Kd.int .u8)) 22 H A4 c4 y6 ch4→smithyardtop_TopPiecesTravel.e2 a1 y6=some r→RunH C3 (S3 F H r) H w0 [.c [1,1,1,1,1,1,1,1,1,1,1,0],.c [1,1,1,1,1,1,1,1,1,1,1,1]] [(1,.slice Aa1 a1.length ca1),(16,.slice A4 y6.length c4)] H (ch4::F):=by
 intro a1 Aa1 ca1 y6 A4 c4 ch4 hra1 hca1 ho4 heq
 unfold smithyardtop_TopPiecesTravel.e2 at heq
 refine Rr<|Rk 1 [1,144] [(1,.slice Aa1 a1.length ca1),(144,.slice A4 y6.length c4)] ?_
 obtain ⟨y10,hy10,heq⟩:=bind_some heq
 refine RgH.does (DoesH.call (d:=145) (g:=11) (args:=#[.slice A4 y6.length c4]) (by kernel_rfl) (blob_Together_c (a0:=y6) (ho4.rw (.head _)) ho4.cap rfl hy10)) ?_
 rintro _ _ _ _ ⟨_,rfl,A7,c7,ch7,rfl,rfl,rfl,ho7⟩
 refine Rd 7 [1,12,28] [(1,.slice Aa1 a1.length ca1),(12,iv y10.2),(28,.slice A7 y10.1.length c7)]<|Ad 1 [.c [1,1,1,1,1,1,1,1,1,1,1,1,0],.c [1,1,1,1,1,1,1,1,1,1,1,1,1]] ?_
 obtain ⟨t4,ht4,heq⟩:=bind_some heq
 have K12:RunH C3 (S3 F H r) H w0 [.c [1,1,1,1,1,1,1,1,1,1,1,1,1]] [(10,.bool t4)] H (F):=by
  obtain rfl:=Option.some.inj heq
  exact RunH.done (by kernel_rfl) Tryd.func3 (v:=.bool t4) (by kernel_rfl) ⟨rfl,rfl,rfl⟩
 replace heq:=ht4
 refine Rr<|Rk 3 [150,1,28] [(150,.bool (y10.2 == 0)),(1,.slice Aa1 a1.length ca1),(28,.slice A7 y10.1.length c7)] ?_
 rcases bool_cases (y10.2 == 0) with hb8 | hb8
 ·replace heq:=bif_true hb8 heq
  refine RgH.val1 (v':=.bool true) (congrArg Value.bool hb8) ?_
  refine Rk 5 [150,151,152] [(150,.bool true),(151,.slice A7 y10.1.length c7),(152,.slice Aa1 a1.length ca1)] ?_
  obtain ⟨y11,hy11,heq⟩:=bind_some heq
  refine RgH.does (DoesH.call (d:=153) (g:=10) (args:=#[.slice A7 y10.1.length c7,.slice Aa1 a1.length ca1]) (by kernel_rfl) (slices_Equal_byte_c (a0:=y10.1) (a1:=a1) (ho7.rw (.head _)) ho7.cap rfl (Rw.of hra1) hca1 rfl hy11)) ?_
  rintro _ _ _ _ ⟨_,rfl,rfl,rfl,rfl⟩
  refine Rk 8 [155] [(155,.bool y11)] ?_
  rcases bool_cases (y11) with hb9 | hb9
  ·replace heq:=bif_true hb9 heq
   refine RgH.val1 (v':=.bool true) (congrArg Value.bool hb9) ?_
   obtain ⟨y12,hy12,heq⟩:=bind_some heq
   refine RgH.does (DoesH.call (d:=156) (g:=5) (args:=(List.toArray [])) (by kernel_rfl) (smithyardtop_alive_c  hy12)) ?_
   rintro _ _ _ _ ⟨_,rfl,rfl,rfl,rfl⟩
   refine Rk 11 [10] [(10,.bool y12)] ?_
   obtain rfl:=Option.some.inj heq
   refine Kg [10] [(10,.bool y12)] ?_
   refine RgH.pick 2 [] (cs':=F) (by kernel_rfl) rfl ?_
   refine Dn ?_
   exact K12
  ·replace heq:=bif_false hb9 heq
   refine RgH.val1 (v':=.bool false) (congrArg Value.bool hb9) ?_
   refine Rk 11 [10] [(10,.bool false)] ?_
   obtain rfl:=Option.some.inj heq
   refine Kg [10] [(10,.bool false)] ?_
   refine RgH.pick 2 [] (cs':=F) (by kernel_rfl) rfl ?_
   refine Dn ?_
   exact K12
 ·replace heq:=bif_false hb8 heq
  refine RgH.val1 (v':=.bool false) (congrArg Value.bool hb8) ?_
  refine Rk 11 [10] [(10,.bool false)] ?_
  obtain rfl:=Option.some.inj heq
  refine Kg [10] [(10,.bool false)] ?_
  refine RgH.pick 2 [] (cs':=F) (by kernel_rfl) rfl ?_
  refine Dn ?_
  exact K12
theorem smithyardtop_TopPiecesTravel.e4_c {w0:World} {H:Hp} {F:List Ch} {r:Bool} (backl3:(List Int)→(List (List Int))→(List (List Int))→Int→Option Bool)
  (hbackl3:∀ (a1:List Int) (Aa1:Option Addr) (ca1:Nat) (y6:(List (List Int))) (A4:Option Addr) (c4:Nat) (ch4:Ch) (v_have20:List (List Int)) (Av_have20:Option Addr) (cv_have20:Nat) (chv_have20:Ch) (v123:Int) ,Kd.Row (Kd.int .u8) H Aa1 a1→a1.length≤ca1→SlOwn (Kd.slice (Kd.int .u8)) 22 H A4 c4 y6 ch4→SlOwn (Kd.slice (Kd.int .u8)) 22 H Av_have20 cv_have20 v_have20 chv_have20→backl3 a1 y6 v_have20 v123=some r→RunH C3 (S3 F H r) H w0 [.c [1,1,1,1,1,1,1,1,1,1,0,1,0,0],.l [1,1,1,1,1,1,1,1,1,1,0,1,0,0],.b 2,.c [1,1,1,1,1,1,1,1,1,1,1]] [(1,.slice Aa1 a1.length ca1),(16,.slice A4 y6.length c4),(20,.slice Av_have20 v_have20.length cv_have20),(121,.slice A4 y6.length c4),(122,iv (y6.length:Int)),(123,iv v123)] H (chv_have20::ch4::F)):∀ (a1:List Int) (Aa1:Option Addr) (ca1:Nat) (y6:(List (List Int))) (A4:Option Addr) (c4:Nat) (ch4:Ch) (v_have20:List (List Int)) (Av_have20:Option Addr) (cv_have20:Nat) (chv_have20:Ch) (v123:Int) (v_found25:Bool) ,Kd.Row (Kd.int .u8) H Aa1 a1→a1.length≤ca1→SlOwn (Kd.slice (Kd.int .u8)) 22 H A4 c4 y6 ch4→SlOwn (Kd.slice (Kd.int .u8)) 22 H Av_have20 cv_have20 v_have20 chv_have20→smithyardtop_TopPiecesTravel.e4 backl3 a1 y6 v_have20 v123 v_found25=some r→RunH C3 (S3 F H r) H w0 [.c [1,1,1,1,1,1,1,1,1,1,0,1,0,0,1,1,0,0,1,1,1,0],.c [1,1,1,1,1,1,1,1,1,1,0,1,0,0,1,1,0,0,1,1,1,1],.b 3,.c [1,1,1,1,1,1,1,1,1,1,0,1,0,0,1,1,1],.l [1,1,1,1,1,1,1,1,1,1,0,1,0,0],.b 2,.c [1,1,1,1,1,1,1,1,1,1,1]] [(1,.slice Aa1 a1.length ca1),(16,.slice A4 y6.length c4),(20,.slice Av_have20 v_have20.length cv_have20),(25,.bool v_found25),(121,.slice A4 y6.length c4),(122,iv (y6.length:Int)),(123,iv v123)] H (chv_have20::ch4::F):=by
 intro a1 Aa1 ca1 y6 A4 c4 ch4 v_have20 Av_have20 cv_have20 chv_have20 v123 v_found25 hra1 hca1 ho4 hov_have20 heq
 unfold smithyardtop_TopPiecesTravel.e4 at heq
 refine Rr<|Rd 2 [1,16,20,121,122,123,141] [(1,.slice Aa1 a1.length ca1),(16,.slice A4 y6.length c4),(20,.slice Av_have20 v_have20.length cv_have20),(121,.slice A4 y6.length c4),(122,iv (y6.length:Int)),(123,iv v123),(141,.bool (!v_found25))] ?_
 rcases bool_cases (!v_found25) with hb11 | hb11
 ·replace heq:=bif_true hb11 heq
  refine Ct (!v_found25) hb11<|Ra 1 [1,1,1,1,1,1,1,1,1,1,0,1,0,0,1,1,0,0,1,1,1,1,0,0] [.c [1,1,1,1,1,1,1,1,1,1,0,1,0,0,1,1,0,0,1,1,1,1,0,1],.b 3,.c [1,1,1,1,1,1,1,1,1,1,0,1,0,0,1,1,1],.l [1,1,1,1,1,1,1,1,1,1,0,1,0,0],.b 2,.c [1,1,1,1,1,1,1,1,1,1,1]]<|Rd 1 [10] [(10,.bool false)] ?_
  obtain rfl:=Option.some.inj heq
  refine RunH.pick 2 [] (cs':=F) (by kernel_rfl) rfl ?_
  exact RunH.done (by kernel_rfl) Tryd.func3 (v:=.bool false) (by kernel_rfl) ⟨rfl,rfl,rfl⟩
 ·replace heq:=bif_false hb11 heq
  refine Cf (!v_found25) hb11<|Ra 2 [1,1,1,1,1,1,1,1,1,1,0,1,0,0,1,1,1] [.l [1,1,1,1,1,1,1,1,1,1,0,1,0,0],.b 2,.c [1,1,1,1,1,1,1,1,1,1,1]]<|Rd 2 [1,16,20,121,122,123] [(1,.slice Aa1 a1.length ca1),(16,.slice A4 y6.length c4),(20,.slice Av_have20 v_have20.length cv_have20),(121,.slice A4 y6.length c4),(122,iv (y6.length:Int)),(123,iv (w64 (v123+1)))]<|Ad 1 [.c [1,1,1,1,1,1,1,1,1,1,0,1,0,0],.l [1,1,1,1,1,1,1,1,1,1,0,1,0,0],.b 2,.c [1,1,1,1,1,1,1,1,1,1,1]]<|Kp [1,16,20,121,122,123] [(1,.slice Aa1 a1.length ca1),(16,.slice A4 y6.length c4),(20,.slice Av_have20 v_have20.length cv_have20),(121,.slice A4 y6.length c4),(122,iv (y6.length:Int)),(123,iv (w64 (v123+1)))] ?_
  exact hbackl3 a1 _ _ y6 _ _ _ v_have20 _ _ _ (w64 (v123+1)) hra1 hca1 ho4 hov_have20 heq
theorem smithyardtop_TopPiecesTravel.l5_c {w0:World} {H:Hp} {F:List Ch} {r:Bool} (e4:(List Int)→(List (List Int))→(List (List Int))→Int→Bool→Option Bool)
  (he4:∀ (a1:List Int) (Aa1:Option Addr) (ca1:Nat) (y6:(List (List Int))) (A4:Option Addr) (c4:Nat) (ch4:Ch) (v_have20:List (List Int)) (Av_have20:Option Addr) (cv_have20:Nat) (chv_have20:Ch) (v123:Int) (v_found25:Bool) ,Kd.Row (Kd.int .u8) H Aa1 a1→a1.length≤ca1→SlOwn (Kd.slice (Kd.int .u8)) 22 H A4 c4 y6 ch4→SlOwn (Kd.slice (Kd.int .u8)) 22 H Av_have20 cv_have20 v_have20 chv_have20→e4 a1 y6 v_have20 v123 v_found25=some r→RunH C3 (S3 F H r) H w0 [.c [1,1,1,1,1,1,1,1,1,1,0,1,0,0,1,1,0,0,1,1,1,0],.c [1,1,1,1,1,1,1,1,1,1,0,1,0,0,1,1,0,0,1,1,1,1],.b 3,.c [1,1,1,1,1,1,1,1,1,1,0,1,0,0,1,1,1],.l [1,1,1,1,1,1,1,1,1,1,0,1,0,0],.b 2,.c [1,1,1,1,1,1,1,1,1,1,1]] [(1,.slice Aa1 a1.length ca1),(16,.slice A4 y6.length c4),(20,.slice Av_have20 v_have20.length cv_have20),(25,.bool v_found25),(121,.slice A4 y6.length c4),(122,iv (y6.length:Int)),(123,iv v123)] H (chv_have20::ch4::F)):∀ (k:Nat),∀ (a1:List Int) (Aa1:Option Addr) (ca1:Nat) (y6:(List (List Int))) (A4:Option Addr) (c4:Nat) (ch4:Ch) (v_have20:List (List Int)) (Av_have20:Option Addr) (cv_have20:Nat) (chv_have20:Ch) (v123:Int) (x1:List Int) (A8:Option Addr) (c8:Nat) (v_found25:Bool) (v129:Int) ,Kd.Row (Kd.int .u8) H Aa1 a1→a1.length≤ca1→SlOwn (Kd.slice (Kd.int .u8)) 22 H A4 c4 y6 ch4→SlOwn (Kd.slice (Kd.int .u8)) 22 H Av_have20 cv_have20 v_have20 chv_have20→Kd.Row (Kd.int .u8) H A8 x1→x1.length≤c8→smithyardtop_TopPiecesTravel.l5 e4 k a1 y6 v_have20 v123 x1 v_found25 v129=some r→RunH C3 (S3 F H r) H w0 [.c [1,1,1,1,1,1,1,1,1,1,0,1,0,0,1,1,0,0,1,1,0,1,0,0],.l [1,1,1,1,1,1,1,1,1,1,0,1,0,0,1,1,0,0,1,1,0,1,0,0],.b 4,.c [1,1,1,1,1,1,1,1,1,1,0,1,0,0,1,1,0,0,1,1,1],.b 3,.c [1,1,1,1,1,1,1,1,1,1,0,1,0,0,1,1,1],.l [1,1,1,1,1,1,1,1,1,1,0,1,0,0],.b 2,.c [1,1,1,1,1,1,1,1,1,1,1]] [(1,.slice Aa1 a1.length ca1),(16,.slice A4 y6.length c4),(20,.slice Av_have20 v_have20.length cv_have20),(24,.slice A8 x1.length c8),(25,.bool v_found25),(121,.slice A4 y6.length c4),(122,iv (y6.length:Int)),(123,iv v123),(127,.slice Av_have20 v_have20.length cv_have20),(128,iv (v_have20.length:Int)),(129,iv v129)] H (chv_have20::ch4::F):=by
 intro k
 induction k with
 | zero=>intro a1 Aa1 ca1 y6 A4 c4 ch4 v_have20 Av_have20 cv_have20 chv_have20 v123 x1 A8 c8 v_found25 v129 hra1 hca1 ho4 hov_have20 hr1 hc1 heq; exact nomatch (show (none:Option Bool)=some r from heq)
 | succ k ihk =>
  intro a1 Aa1 ca1 y6 A4 c4 ch4 v_have20 Av_have20 cv_have20 chv_have20 v123 x1 A8 c8 v_found25 v129 hra1 hca1 ho4 hov_have20 hr1 hc1 heq
  rw [smithyardtop_TopPiecesTravel.l5] at heq
  refine Ra 1 [1,1,1,1,1,1,1,1,1,1,0,1,0,0,1,1,0,0,1,1,0,1,0,0,0] [.c [1,1,1,1,1,1,1,1,1,1,0,1,0,0,1,1,0,0,1,1,0,1,0,0,1],.l [1,1,1,1,1,1,1,1,1,1,0,1,0,0,1,1,0,0,1,1,0,1,0,0],.b 4,.c [1,1,1,1,1,1,1,1,1,1,0,1,0,0,1,1,0,0,1,1,1],.b 3,.c [1,1,1,1,1,1,1,1,1,1,0,1,0,0,1,1,1],.l [1,1,1,1,1,1,1,1,1,1,0,1,0,0],.b 2,.c [1,1,1,1,1,1,1,1,1,1,1]]<|Rd 1 [1,16,20,24,25,121,122,123,127,128,129,130] [(1,.slice Aa1 a1.length ca1),(16,.slice A4 y6.length c4),(20,.slice Av_have20 v_have20.length cv_have20),(24,.slice A8 x1.length c8),(25,.bool v_found25),(121,.slice A4 y6.length c4),(122,iv (y6.length:Int)),(123,iv v123),(127,.slice Av_have20 v_have20.length cv_have20),(128,iv (v_have20.length:Int)),(129,iv v129),(130,.bool (decide (v129<(v_have20.length:Int))))]<|Ad 1 [.c [1,1,1,1,1,1,1,1,1,1,0,1,0,0,1,1,0,0,1,1,0,1,0,0,1,0],.c [1,1,1,1,1,1,1,1,1,1,0,1,0,0,1,1,0,0,1,1,0,1,0,0,1,1],.l [1,1,1,1,1,1,1,1,1,1,0,1,0,0,1,1,0,0,1,1,0,1,0,0],.b 4,.c [1,1,1,1,1,1,1,1,1,1,0,1,0,0,1,1,0,0,1,1,1],.b 3,.c [1,1,1,1,1,1,1,1,1,1,0,1,0,0,1,1,1],.l [1,1,1,1,1,1,1,1,1,1,0,1,0,0],.b 2,.c [1,1,1,1,1,1,1,1,1,1,1]] ?_
  rcases bool_cases (decide (v129<(v_have20.length:Int))) with hb12 | hb12
  ·replace heq:=bif_true hb12 heq
   refine Ct (decide (v129<(v_have20.length:Int))) hb12<|Ra 4 [1,1,1,1,1,1,1,1,1,1,0,1,0,0,1,1,0,0,1,1,0,1,0,0,1,1,0,0,0] [.c [1,1,1,1,1,1,1,1,1,1,0,1,0,0,1,1,0,0,1,1,0,1,0,0,1,1,0,0,1],.b 5,.c [1,1,1,1,1,1,1,1,1,1,0,1,0,0,1,1,0,0,1,1,0,1,0,0,1,1,1],.l [1,1,1,1,1,1,1,1,1,1,0,1,0,0,1,1,0,0,1,1,0,1,0,0],.b 4,.c [1,1,1,1,1,1,1,1,1,1,0,1,0,0,1,1,0,0,1,1,1],.b 3,.c [1,1,1,1,1,1,1,1,1,1,0,1,0,0,1,1,1],.l [1,1,1,1,1,1,1,1,1,1,0,1,0,0],.b 2,.c [1,1,1,1,1,1,1,1,1,1,1]] ?_
   obtain ⟨x2,hx2,heq⟩:=bind_some heq
   obtain ⟨ha2,cs2,hK2,hcc2⟩:=hov_have20.get hx2
   obtain ⟨A9,c9,rfl,hc2,hr2⟩:=hK2
   refine Rw' 3 [1,16,20,24,25,27,121,122,123,127,128,129] [.slice A9 x2.length c9] [.need (Av_have20=some (adr Av_have20)∧(0:Int)≤v129∧v129<((v_have20.length:Nat):Int)),.load ((adr Av_have20).add (v129.toNat*1)) (.slice A9 x2.length c9)] [(1,.slice Aa1 a1.length ca1),(16,.slice A4 y6.length c4),(20,.slice Av_have20 v_have20.length cv_have20),(24,.slice A8 x1.length c8),(25,.bool v_found25),(27,.slice A9 x2.length c9),(121,.slice A4 y6.length c4),(122,iv (y6.length:Int)),(123,iv v123),(127,.slice Av_have20 v_have20.length cv_have20),(128,iv (v_have20.length:Int)),(129,iv v129)] (fun w hh=>⟨⟨ha2,(at?_some hx2).1,(at?_some hx2).2.1⟩,(hcc2 _ (hh.chin 0 rfl) 0 _ rfl)⟩) ?_
   obtain ⟨t5,ht5,heq⟩:=bind_some heq
   have K13:RunH C3 (S3 F H r) H w0 [.b 5,.c [1,1,1,1,1,1,1,1,1,1,0,1,0,0,1,1,0,0,1,1,0,1,0,0,1,1,1],.l [1,1,1,1,1,1,1,1,1,1,0,1,0,0,1,1,0,0,1,1,0,1,0,0],.b 4,.c [1,1,1,1,1,1,1,1,1,1,0,1,0,0,1,1,0,0,1,1,1],.b 3,.c [1,1,1,1,1,1,1,1,1,1,0,1,0,0,1,1,1],.l [1,1,1,1,1,1,1,1,1,1,0,1,0,0],.b 2,.c [1,1,1,1,1,1,1,1,1,1,1]] [(1,.slice Aa1 a1.length ca1),(16,.slice A4 y6.length c4),(20,.slice Av_have20 v_have20.length cv_have20),(24,.slice A8 x1.length c8),(25,.bool t5),(121,.slice A4 y6.length c4),(122,iv (y6.length:Int)),(123,iv v123),(127,.slice Av_have20 v_have20.length cv_have20),(128,iv (v_have20.length:Int)),(129,iv v129)] H (chv_have20::ch4::F):=by
    refine Ra 1 [1,1,1,1,1,1,1,1,1,1,0,1,0,0,1,1,0,0,1,1,0,1,0,0,1,1,1] [.l [1,1,1,1,1,1,1,1,1,1,0,1,0,0,1,1,0,0,1,1,0,1,0,0],.b 4,.c [1,1,1,1,1,1,1,1,1,1,0,1,0,0,1,1,0,0,1,1,1],.b 3,.c [1,1,1,1,1,1,1,1,1,1,0,1,0,0,1,1,1],.l [1,1,1,1,1,1,1,1,1,1,0,1,0,0],.b 2,.c [1,1,1,1,1,1,1,1,1,1,1]]<|Rd 2 [1,16,20,24,25,121,122,123,127,128,129] [(1,.slice Aa1 a1.length ca1),(16,.slice A4 y6.length c4),(20,.slice Av_have20 v_have20.length cv_have20),(24,.slice A8 x1.length c8),(25,.bool t5),(121,.slice A4 y6.length c4),(122,iv (y6.length:Int)),(123,iv v123),(127,.slice Av_have20 v_have20.length cv_have20),(128,iv (v_have20.length:Int)),(129,iv (w64 (v129+1)))]<|Ad 1 [.c [1,1,1,1,1,1,1,1,1,1,0,1,0,0,1,1,0,0,1,1,0,1,0,0],.l [1,1,1,1,1,1,1,1,1,1,0,1,0,0,1,1,0,0,1,1,0,1,0,0],.b 4,.c [1,1,1,1,1,1,1,1,1,1,0,1,0,0,1,1,0,0,1,1,1],.b 3,.c [1,1,1,1,1,1,1,1,1,1,0,1,0,0,1,1,1],.l [1,1,1,1,1,1,1,1,1,1,0,1,0,0],.b 2,.c [1,1,1,1,1,1,1,1,1,1,1]]<|Kp [1,16,20,24,25,121,122,123,127,128,129] [(1,.slice Aa1 a1.length ca1),(16,.slice A4 y6.length c4),(20,.slice Av_have20 v_have20.length cv_have20),(24,.slice A8 x1.length c8),(25,.bool t5),(121,.slice A4 y6.length c4),(122,iv (y6.length:Int)),(123,iv v123),(127,.slice Av_have20 v_have20.length cv_have20),(128,iv (v_have20.length:Int)),(129,iv (w64 (v129+1)))] ?_
    exact ihk a1 _ _ y6 _ _ _ v_have20 _ _ _ v123 x1 _ _ t5 (w64 (v129+1)) hra1 hca1 ho4 hov_have20 hr1 hc1 heq
   replace heq:=ht5
   refine Rr<|Rk 2 [134,1,16,20,24,27,121,122,123,127,128,129] [(134,.bool v_found25),(1,.slice Aa1 a1.length ca1),(16,.slice A4 y6.length c4),(20,.slice Av_have20 v_have20.length cv_have20),(24,.slice A8 x1.length c8),(27,.slice A9 x2.length c9),(121,.slice A4 y6.length c4),(122,iv (y6.length:Int)),(123,iv v123),(127,.slice Av_have20 v_have20.length cv_have20),(128,iv (v_have20.length:Int)),(129,iv v129)] ?_
   rcases bool_cases (v_found25) with hb13 | hb13
   ·replace heq:=bif_true hb13 heq
    refine RgH.val1 (v':=.bool true) (congrArg Value.bool hb13) ?_
    refine Rk 7 [1,16,20,24,25,121,122,123,127,128,129] [(1,.slice Aa1 a1.length ca1),(16,.slice A4 y6.length c4),(20,.slice Av_have20 v_have20.length cv_have20),(24,.slice A8 x1.length c8),(25,.bool true),(121,.slice A4 y6.length c4),(122,iv (y6.length:Int)),(123,iv v123),(127,.slice Av_have20 v_have20.length cv_have20),(128,iv (v_have20.length:Int)),(129,iv v129)] ?_
    obtain rfl:=Option.some.inj heq
    refine Kg [1,16,20,24,25,121,122,123,127,128,129] [(1,.slice Aa1 a1.length ca1),(16,.slice A4 y6.length c4),(20,.slice Av_have20 v_have20.length cv_have20),(24,.slice A8 x1.length c8),(25,.bool true),(121,.slice A4 y6.length c4),(122,iv (y6.length:Int)),(123,iv v123),(127,.slice Av_have20 v_have20.length cv_have20),(128,iv (v_have20.length:Int)),(129,iv v129)]<|Dn ?_
    exact K13
   ·replace heq:=bif_false hb13 heq
    refine RgH.val1 (v':=.bool false) (congrArg Value.bool hb13) ?_
    refine Rk 4 [1,16,20,24,121,122,123,127,128,129,134,135,136] [(1,.slice Aa1 a1.length ca1),(16,.slice A4 y6.length c4),(20,.slice Av_have20 v_have20.length cv_have20),(24,.slice A8 x1.length c8),(121,.slice A4 y6.length c4),(122,iv (y6.length:Int)),(123,iv v123),(127,.slice Av_have20 v_have20.length cv_have20),(128,iv (v_have20.length:Int)),(129,iv v129),(134,.bool false),(135,.slice A9 x2.length c9),(136,.slice A8 x1.length c8)] ?_
    obtain ⟨y13,hy13,heq⟩:=bind_some heq
    refine RgH.does (DoesH.call (d:=137) (g:=10) (args:=#[.slice A9 x2.length c9,.slice A8 x1.length c8]) (by kernel_rfl) (slices_Equal_byte_c (a0:=x2) (a1:=x1) (Rw.of hr2) hc2 rfl (Rw.of hr1) hc1 rfl hy13)) ?_
    rintro _ _ _ _ ⟨_,rfl,rfl,rfl,rfl⟩
    refine Rk 7 [1,16,20,24,25,121,122,123,127,128,129] [(1,.slice Aa1 a1.length ca1),(16,.slice A4 y6.length c4),(20,.slice Av_have20 v_have20.length cv_have20),(24,.slice A8 x1.length c8),(25,.bool y13),(121,.slice A4 y6.length c4),(122,iv (y6.length:Int)),(123,iv v123),(127,.slice Av_have20 v_have20.length cv_have20),(128,iv (v_have20.length:Int)),(129,iv v129)] ?_
    obtain rfl:=Option.some.inj heq
    refine Kg [1,16,20,24,25,121,122,123,127,128,129] [(1,.slice Aa1 a1.length ca1),(16,.slice A4 y6.length c4),(20,.slice Av_have20 v_have20.length cv_have20),(24,.slice A8 x1.length c8),(25,.bool y13),(121,.slice A4 y6.length c4),(122,iv (y6.length:Int)),(123,iv v123),(127,.slice Av_have20 v_have20.length cv_have20),(128,iv (v_have20.length:Int)),(129,iv v129)]<|Dn ?_
    exact K13
  ·replace heq:=bif_false hb12 heq
   refine Cf (decide (v129<(v_have20.length:Int))) hb12<|Ad 2 [.c [1,1,1,1,1,1,1,1,1,1,0,1,0,0,1,1,0,0,1,1,1,0],.c [1,1,1,1,1,1,1,1,1,1,0,1,0,0,1,1,0,0,1,1,1,1],.b 3,.c [1,1,1,1,1,1,1,1,1,1,0,1,0,0,1,1,1],.l [1,1,1,1,1,1,1,1,1,1,0,1,0,0],.b 2,.c [1,1,1,1,1,1,1,1,1,1,1]]<|Kp [1,16,20,25,121,122,123] [(1,.slice Aa1 a1.length ca1),(16,.slice A4 y6.length c4),(20,.slice Av_have20 v_have20.length cv_have20),(25,.bool v_found25),(121,.slice A4 y6.length c4),(122,iv (y6.length:Int)),(123,iv v123)] ?_
   exact he4 a1 _ _ y6 _ _ _ v_have20 _ _ _ v123 v_found25 hra1 hca1 ho4 hov_have20 heq
theorem smithyardtop_TopPiecesTravel.l3_c {w0:World} {H:Hp} {F:List Ch} {r:Bool} (e2:(List Int)→(List (List Int))→Option Bool)
  (he2:∀ (a1:List Int) (Aa1:Option Addr) (ca1:Nat) (y6:(List (List Int))) (A4:Option Addr) (c4:Nat) (ch4:Ch) ,Kd.Row (Kd.int .u8) H Aa1 a1→a1.length≤ca1→SlOwn (Kd.slice (Kd.int .u8)) 22 H A4 c4 y6 ch4→e2 a1 y6=some r→RunH C3 (S3 F H r) H w0 [.c [1,1,1,1,1,1,1,1,1,1,1,0],.c [1,1,1,1,1,1,1,1,1,1,1,1]] [(1,.slice Aa1 a1.length ca1),(16,.slice A4 y6.length c4)] H (ch4::F)):∀ (k:Nat),∀ (a1:List Int) (Aa1:Option Addr) (ca1:Nat) (y6:(List (List Int))) (A4:Option Addr) (c4:Nat) (ch4:Ch) (v_have20:List (List Int)) (Av_have20:Option Addr) (cv_have20:Nat) (chv_have20:Ch) (v123:Int) ,Kd.Row (Kd.int .u8) H Aa1 a1→a1.length≤ca1→SlOwn (Kd.slice (Kd.int .u8)) 22 H A4 c4 y6 ch4→SlOwn (Kd.slice (Kd.int .u8)) 22 H Av_have20 cv_have20 v_have20 chv_have20→smithyardtop_TopPiecesTravel.l3 e2 k a1 y6 v_have20 v123=some r→RunH C3 (S3 F H r) H w0 [.c [1,1,1,1,1,1,1,1,1,1,0,1,0,0],.l [1,1,1,1,1,1,1,1,1,1,0,1,0,0],.b 2,.c [1,1,1,1,1,1,1,1,1,1,1]] [(1,.slice Aa1 a1.length ca1),(16,.slice A4 y6.length c4),(20,.slice Av_have20 v_have20.length cv_have20),(121,.slice A4 y6.length c4),(122,iv (y6.length:Int)),(123,iv v123)] H (chv_have20::ch4::F):=by
 intro k
 induction k with
 | zero=>intro a1 Aa1 ca1 y6 A4 c4 ch4 v_have20 Av_have20 cv_have20 chv_have20 v123 hra1 hca1 ho4 hov_have20 heq; exact nomatch (show (none:Option Bool)=some r from heq)
 | succ k ihk =>
  intro a1 Aa1 ca1 y6 A4 c4 ch4 v_have20 Av_have20 cv_have20 chv_have20 v123 hra1 hca1 ho4 hov_have20 heq
  rw [smithyardtop_TopPiecesTravel.l3] at heq
  refine Ra 1 [1,1,1,1,1,1,1,1,1,1,0,1,0,0,0] [.c [1,1,1,1,1,1,1,1,1,1,0,1,0,0,1],.l [1,1,1,1,1,1,1,1,1,1,0,1,0,0],.b 2,.c [1,1,1,1,1,1,1,1,1,1,1]]<|Rd 1 [1,16,20,121,122,123,124] [(1,.slice Aa1 a1.length ca1),(16,.slice A4 y6.length c4),(20,.slice Av_have20 v_have20.length cv_have20),(121,.slice A4 y6.length c4),(122,iv (y6.length:Int)),(123,iv v123),(124,.bool (decide (v123<(y6.length:Int))))]<|Ad 1 [.c [1,1,1,1,1,1,1,1,1,1,0,1,0,0,1,0],.c [1,1,1,1,1,1,1,1,1,1,0,1,0,0,1,1],.l [1,1,1,1,1,1,1,1,1,1,0,1,0,0],.b 2,.c [1,1,1,1,1,1,1,1,1,1,1]] ?_
  rcases bool_cases (decide (v123<(y6.length:Int))) with hb10 | hb10
  ·replace heq:=bif_true hb10 heq
   refine Ct (decide (v123<(y6.length:Int))) hb10<|Ra 4 [1,1,1,1,1,1,1,1,1,1,0,1,0,0,1,1,0,0,0] [.c [1,1,1,1,1,1,1,1,1,1,0,1,0,0,1,1,0,0,1],.b 3,.c [1,1,1,1,1,1,1,1,1,1,0,1,0,0,1,1,1],.l [1,1,1,1,1,1,1,1,1,1,0,1,0,0],.b 2,.c [1,1,1,1,1,1,1,1,1,1,1]] ?_
   obtain ⟨x1,hx1,heq⟩:=bind_some heq
   obtain ⟨ha1,cs1,hK1,hcc1⟩:=ho4.get hx1
   obtain ⟨A8,c8,rfl,hc1,hr1⟩:=hK1
   refine Rw' 3 [1,16,20,24,121,122,123] [.slice A8 x1.length c8] [.need (A4=some (adr A4)∧(0:Int)≤v123∧v123<((y6.length:Nat):Int)),.load ((adr A4).add (v123.toNat*1)) (.slice A8 x1.length c8)] [(1,.slice Aa1 a1.length ca1),(16,.slice A4 y6.length c4),(20,.slice Av_have20 v_have20.length cv_have20),(24,.slice A8 x1.length c8),(121,.slice A4 y6.length c4),(122,iv (y6.length:Int)),(123,iv v123)] (fun w hh=>⟨⟨ha1,(at?_some hx1).1,(at?_some hx1).2.1⟩,(hcc1 _ (hh.chin 1 rfl) 0 _ rfl)⟩)<|Ra 1 [1,1,1,1,1,1,1,1,1,1,0,1,0,0,1,1,0,0,1,0] [.c [1,1,1,1,1,1,1,1,1,1,0,1,0,0,1,1,0,0,1,1],.b 3,.c [1,1,1,1,1,1,1,1,1,1,0,1,0,0,1,1,1],.l [1,1,1,1,1,1,1,1,1,1,0,1,0,0],.b 2,.c [1,1,1,1,1,1,1,1,1,1,1]]<|Rd 1 [1,16,20,24,25,121,122,123] [(1,.slice Aa1 a1.length ca1),(16,.slice A4 y6.length c4),(20,.slice Av_have20 v_have20.length cv_have20),(24,.slice A8 x1.length c8),(25,.bool false),(121,.slice A4 y6.length c4),(122,iv (y6.length:Int)),(123,iv v123)]<|Ra 2 [1,1,1,1,1,1,1,1,1,1,0,1,0,0,1,1,0,0,1,1,0,0] [.c [1,1,1,1,1,1,1,1,1,1,0,1,0,0,1,1,0,0,1,1,0,1],.c [1,1,1,1,1,1,1,1,1,1,0,1,0,0,1,1,0,0,1,1,1],.b 3,.c [1,1,1,1,1,1,1,1,1,1,0,1,0,0,1,1,1],.l [1,1,1,1,1,1,1,1,1,1,0,1,0,0],.b 2,.c [1,1,1,1,1,1,1,1,1,1,1]]<|Rd 3 [1,16,20,24,25,121,122,123,127,128,129] [(1,.slice Aa1 a1.length ca1),(16,.slice A4 y6.length c4),(20,.slice Av_have20 v_have20.length cv_have20),(24,.slice A8 x1.length c8),(25,.bool false),(121,.slice A4 y6.length c4),(122,iv (y6.length:Int)),(123,iv v123),(127,.slice Av_have20 v_have20.length cv_have20),(128,iv (v_have20.length:Int)),(129,iv 0)]<|Ad 2 [.c [1,1,1,1,1,1,1,1,1,1,0,1,0,0,1,1,0,0,1,1,0,1,0,0],.l [1,1,1,1,1,1,1,1,1,1,0,1,0,0,1,1,0,0,1,1,0,1,0,0],.b 4,.c [1,1,1,1,1,1,1,1,1,1,0,1,0,0,1,1,0,0,1,1,1],.b 3,.c [1,1,1,1,1,1,1,1,1,1,0,1,0,0,1,1,1],.l [1,1,1,1,1,1,1,1,1,1,0,1,0,0],.b 2,.c [1,1,1,1,1,1,1,1,1,1,1]]<|Kp [1,16,20,24,25,121,122,123,127,128,129] [(1,.slice Aa1 a1.length ca1),(16,.slice A4 y6.length c4),(20,.slice Av_have20 v_have20.length cv_have20),(24,.slice A8 x1.length c8),(25,.bool false),(121,.slice A4 y6.length c4),(122,iv (y6.length:Int)),(123,iv v123),(127,.slice Av_have20 v_have20.length cv_have20),(128,iv (v_have20.length:Int)),(129,iv 0)] ?_
   exact ((smithyardtop_TopPiecesTravel.l5_c (e4:=smithyardtop_TopPiecesTravel.e4 ((smithyardtop_TopPiecesTravel.l3 e2 k))) (smithyardtop_TopPiecesTravel.e4_c (backl3:=(smithyardtop_TopPiecesTravel.l3 e2 k)) ihk)) big) a1 _ _ y6 _ _ _ v_have20 _ _ _ v123 x1 _ _ false 0 hra1 hca1 ho4 hov_have20 hr1 hc1 heq
  ·replace heq:=bif_false hb10 heq
   refine Cf (decide (v123<(y6.length:Int))) hb10<|Ad 2 [.c [1,1,1,1,1,1,1,1,1,1,1,0],.c [1,1,1,1,1,1,1,1,1,1,1,1]]<|Kp [1,16] [(1,.slice Aa1 a1.length ca1),(16,.slice A4 y6.length c4)] ?_
   refine RunH.pick 2 [1] (cs':=ch4::F) (by kernel_rfl) rfl ?_
   exact he2 a1 _ _ y6 _ _ _ hra1 hca1 ho4 heq
theorem smithyardtop_TopPiecesTravel.e1_c {w0:World} {H:Hp} {F:List Ch} {r:Bool}:∀ (a1:List Int) (Aa1:Option Addr) (ca1:Nat) (y6:(List (List Int))) (A4:Option Addr) (c4:Nat) (ch4:Ch) (v_have20:List (List Int)) (Av_have20:Option Addr) (nv_have20:Nat) (cv_have20:Nat) (chv_have20:Ch) ,Kd.Row (Kd.int .u8) H Aa1 a1→a1.length≤ca1→SlOwn (Kd.slice (Kd.int .u8)) 22 H A4 c4 y6 ch4→SlOwn (Kd.slice (Kd.int .u8)) 22 H Av_have20 cv_have20 v_have20 chv_have20→nv_have20=v_have20.length→smithyardtop_TopPiecesTravel.e1 a1 y6 v_have20=some r→RunH C3 (S3 F H r) H w0 [.c [1,1,1,1,1,1,1,1,1,1,0,0],.c [1,1,1,1,1,1,1,1,1,1,0,1],.c [1,1,1,1,1,1,1,1,1,1,1]] [(1,.slice Aa1 a1.length ca1),(16,.slice A4 y6.length c4),(20,.slice Av_have20 nv_have20 cv_have20)] H (chv_have20::ch4::F):=by
 intro a1 Aa1 ca1 y6 A4 c4 ch4 v_have20 Av_have20 nv_have20 cv_have20 chv_have20 hra1 hca1 ho4 hov_have20 hnv_have20 heq
 subst hnv_have20
 unfold smithyardtop_TopPiecesTravel.e1 at heq
 refine Rr<|Rd 3 [1,16,20,121,122,123] [(1,.slice Aa1 a1.length ca1),(16,.slice A4 y6.length c4),(20,.slice Av_have20 v_have20.length cv_have20),(121,.slice A4 y6.length c4),(122,iv (y6.length:Int)),(123,iv 0)]<|Ad 2 [.c [1,1,1,1,1,1,1,1,1,1,0,1,0,0],.l [1,1,1,1,1,1,1,1,1,1,0,1,0,0],.b 2,.c [1,1,1,1,1,1,1,1,1,1,1]]<|Kp [1,16,20,121,122,123] [(1,.slice Aa1 a1.length ca1),(16,.slice A4 y6.length c4),(20,.slice Av_have20 v_have20.length cv_have20),(121,.slice A4 y6.length c4),(122,iv (y6.length:Int)),(123,iv 0)] ?_
 exact ((smithyardtop_TopPiecesTravel.l3_c (e2:=smithyardtop_TopPiecesTravel.e2) (smithyardtop_TopPiecesTravel.e2_c)) big) a1 _ _ y6 _ _ _ v_have20 _ _ _ 0 hra1 hca1 ho4 hov_have20 heq
theorem smithyardtop_TopPiecesTravel.l6_c {w0:World} {H:Hp} {F:List Ch} {r:Bool} (e1:(List Int)→(List (List Int))→(List (List Int))→Option Bool)
  (he1:∀ (a1:List Int) (Aa1:Option Addr) (ca1:Nat) (y6:(List (List Int))) (A4:Option Addr) (c4:Nat) (ch4:Ch) (v_have20:List (List Int)) (Av_have20:Option Addr) (nv_have20:Nat) (cv_have20:Nat) (chv_have20:Ch) ,Kd.Row (Kd.int .u8) H Aa1 a1→a1.length≤ca1→SlOwn (Kd.slice (Kd.int .u8)) 22 H A4 c4 y6 ch4→SlOwn (Kd.slice (Kd.int .u8)) 22 H Av_have20 cv_have20 v_have20 chv_have20→nv_have20=v_have20.length→e1 a1 y6 v_have20=some r→RunH C3 (S3 F H r) H w0 [.c [1,1,1,1,1,1,1,1,1,1,0,0],.c [1,1,1,1,1,1,1,1,1,1,0,1],.c [1,1,1,1,1,1,1,1,1,1,1]] [(1,.slice Aa1 a1.length ca1),(16,.slice A4 y6.length c4),(20,.slice Av_have20 nv_have20 cv_have20)] H (chv_have20::ch4::F)):∀ (k:Nat),∀ (a1:List Int) (Aa1:Option Addr) (ca1:Nat) (y6:(List (List Int))) (A4:Option Addr) (c4:Nat) (ch4:Ch) (y7:(List Int) × Int × Int) (A5:Option Addr) (c5:Nat) (ch5:Ch) (v_have20:List (List Int)) (Av_have20:Option Addr) (nv_have20:Nat) (cv_have20:Nat) (chv_have20:Ch) (v101:Int) ,Kd.Row (Kd.int .u8) H Aa1 a1→a1.length≤ca1→SlOwn (Kd.slice (Kd.int .u8)) 22 H A4 c4 y6 ch4→SlOwn (Kd.int .i64) 3 H A5 c5 y7.1 ch5→SlOwn (Kd.slice (Kd.int .u8)) 22 H Av_have20 cv_have20 v_have20 chv_have20→nv_have20=v_have20.length→smithyardtop_TopPiecesTravel.l6 e1 k a1 y6 y7 v_have20 v101=some r→RunH C3 (S3 F H r) H w0 [.c [1,1,1,1,1,1,1,1,1,0,1,0,0],.l [1,1,1,1,1,1,1,1,1,0,1,0,0],.b 0,.c [1,1,1,1,1,1,1,1,1,1]] [(1,.slice Aa1 a1.length ca1),(16,.slice A4 y6.length c4),(20,.slice Av_have20 nv_have20 cv_have20),(99,.slice A5 y7.1.length c5),(100,iv (y7.1.length:Int)),(101,iv v101)] H (chv_have20::ch5::ch4::F):=by
 intro k
 induction k with
 | zero=>intro a1 Aa1 ca1 y6 A4 c4 ch4 y7 A5 c5 ch5 v_have20 Av_have20 nv_have20 cv_have20 chv_have20 v101 hra1 hca1 ho4 ho5 hov_have20 hnv_have20 heq; exact nomatch (show (none:Option Bool)=some r from heq)
 | succ k ihk =>
  intro a1 Aa1 ca1 y6 A4 c4 ch4 y7 A5 c5 ch5 v_have20 Av_have20 nv_have20 cv_have20 chv_have20 v101 hra1 hca1 ho4 ho5 hov_have20 hnv_have20 heq
  subst hnv_have20
  rw [smithyardtop_TopPiecesTravel.l6] at heq
  refine Ra 1 [1,1,1,1,1,1,1,1,1,0,1,0,0,0] [.c [1,1,1,1,1,1,1,1,1,0,1,0,0,1],.l [1,1,1,1,1,1,1,1,1,0,1,0,0],.b 0,.c [1,1,1,1,1,1,1,1,1,1]]<|Rd 1 [1,16,20,99,100,101,102] [(1,.slice Aa1 a1.length ca1),(16,.slice A4 y6.length c4),(20,.slice Av_have20 v_have20.length cv_have20),(99,.slice A5 y7.1.length c5),(100,iv (y7.1.length:Int)),(101,iv v101),(102,.bool (decide (v101<(y7.1.length:Int))))]<|Ad 1 [.c [1,1,1,1,1,1,1,1,1,0,1,0,0,1,0],.c [1,1,1,1,1,1,1,1,1,0,1,0,0,1,1],.l [1,1,1,1,1,1,1,1,1,0,1,0,0],.b 0,.c [1,1,1,1,1,1,1,1,1,1]] ?_
  rcases bool_cases (decide (v101<(y7.1.length:Int))) with hb14 | hb14
  ·replace heq:=bif_true hb14 heq
   refine Ct (decide (v101<(y7.1.length:Int))) hb14<|Ra 4 [1,1,1,1,1,1,1,1,1,0,1,0,0,1,1,0,0,0] [.c [1,1,1,1,1,1,1,1,1,0,1,0,0,1,1,0,0,1],.b 1,.c [1,1,1,1,1,1,1,1,1,0,1,0,0,1,1,1],.l [1,1,1,1,1,1,1,1,1,0,1,0,0],.b 0,.c [1,1,1,1,1,1,1,1,1,1]] ?_
   obtain ⟨x3,hx3,heq⟩:=bind_some heq
   obtain ⟨ha3,cs3,hK3,hcc3⟩:=ho5.get hx3
   obtain rfl:cs3=[iv x3]:=hK3
   refine Rw' 3 [1,16,20,22,99,100,101] [iv x3] [.need (A5=some (adr A5)∧(0:Int)≤v101∧v101<((y7.1.length:Nat):Int)),.load ((adr A5).add (v101.toNat*1)) (iv x3)] [(1,.slice Aa1 a1.length ca1),(16,.slice A4 y6.length c4),(20,.slice Av_have20 v_have20.length cv_have20),(22,iv x3),(99,.slice A5 y7.1.length c5),(100,iv (y7.1.length:Int)),(101,iv v101)] (fun w hh=>⟨⟨ha3,(at?_some hx3).1,(at?_some hx3).2.1⟩,(hcc3 _ (hh.chin 1 rfl) 0 _ rfl)⟩)<|Ad 2 [.c [1,1,1,1,1,1,1,1,1,0,1,0,0,1,1,0,0,1,0,0],.c [1,1,1,1,1,1,1,1,1,0,1,0,0,1,1,0,0,1,0,1],.c [1,1,1,1,1,1,1,1,1,0,1,0,0,1,1,0,0,1,1],.b 1,.c [1,1,1,1,1,1,1,1,1,0,1,0,0,1,1,1],.l [1,1,1,1,1,1,1,1,1,0,1,0,0],.b 0,.c [1,1,1,1,1,1,1,1,1,1]] ?_
   obtain ⟨t6,ht6,heq⟩:=bind_some heq
   have K15:RunH C3 (S3 F H r) H w0 [.c [1,1,1,1,1,1,1,1,1,0,1,0,0,1,1,0,0,1,0,1],.c [1,1,1,1,1,1,1,1,1,0,1,0,0,1,1,0,0,1,1],.b 1,.c [1,1,1,1,1,1,1,1,1,0,1,0,0,1,1,1],.l [1,1,1,1,1,1,1,1,1,0,1,0,0],.b 0,.c [1,1,1,1,1,1,1,1,1,1]] [(1,.slice Aa1 a1.length ca1),(16,.slice A4 y6.length c4),(20,.slice Av_have20 v_have20.length cv_have20),(22,iv x3),(99,.slice A5 y7.1.length c5),(100,iv (y7.1.length:Int)),(101,iv v101),(112,.bool t6)] H (chv_have20::ch5::ch4::F):=by
    rcases bool_cases (t6) with hb16 | hb16
    ·replace heq:=bif_true hb16 heq
     refine Ct t6 hb16<|Ra 1 [1,1,1,1,1,1,1,1,1,0,1,0,0,1,1,0,0,1,0,1,0,0] [.c [1,1,1,1,1,1,1,1,1,0,1,0,0,1,1,0,0,1,0,1,0,1],.c [1,1,1,1,1,1,1,1,1,0,1,0,0,1,1,0,0,1,1],.b 1,.c [1,1,1,1,1,1,1,1,1,0,1,0,0,1,1,1],.l [1,1,1,1,1,1,1,1,1,0,1,0,0],.b 0,.c [1,1,1,1,1,1,1,1,1,1]]<|Rd 1 [10] [(10,.bool false)] ?_
     obtain rfl:=Option.some.inj heq
     refine RunH.pick 3 [] (cs':=F) (by kernel_rfl) rfl ?_
     exact RunH.done (by kernel_rfl) Tryd.func3 (v:=.bool false) (by kernel_rfl) ⟨rfl,rfl,rfl⟩
    ·replace heq:=bif_false hb16 heq
     refine Cf t6 hb16<|Ra 1 [1,1,1,1,1,1,1,1,1,0,1,0,0,1,1,0,0,1,1] [.b 1,.c [1,1,1,1,1,1,1,1,1,0,1,0,0,1,1,1],.l [1,1,1,1,1,1,1,1,1,0,1,0,0],.b 0,.c [1,1,1,1,1,1,1,1,1,1]] ?_
     obtain ⟨x4,hx4,heq⟩:=bind_some heq
     obtain ⟨ha4,cs4,hK4,hcc4⟩:=ho4.get hx4
     obtain ⟨A10,c10,rfl,hc3,hr3⟩:=hK4
     refine Rv 5 [1,16,99,100,101,113,117] [.slice A10 x4.length c10] [.need (A4=some (adr A4)∧(0:Int)≤x3∧x3<((y6.length:Nat):Int)),.load ((adr A4).add (x3.toNat*1)) (.slice A10 x4.length c10)] [(1,.slice Aa1 a1.length ca1),(16,.slice A4 y6.length c4),(99,.slice A5 y7.1.length c5),(100,iv (y7.1.length:Int)),(101,iv v101),(113,.slice Av_have20 v_have20.length cv_have20),(117,.slice A10 x4.length c10)] (fun w hh=>⟨⟨ha4,(at?_some hx4).1,(at?_some hx4).2.1⟩,(hcc4 _ (hh.chin 2 rfl) 0 _ rfl)⟩) ?_
     refine RgH.does (DoesH.new (d:=118) (v:=fun g=>.slice (some ⟨g,0,none⟩) 1 1) (o:=fun g=>.cells #[.slice A10 x4.length c10] 22 (0,0)) (fun g=>by kernel_rfl)) ?_
     rintro _ _ _ _ ⟨g1,rfl,rfl,rfl⟩
     have ho8:SlOwn (Kd.slice (Kd.int .u8)) 22 H (some ⟨g1,0,none⟩) 1 ([x4]:List (List Int)) (some (g1,.cells #[.slice A10 x4.length c10] 22 (0,0))):=SlOwn.lit (xs:=([x4]:List (List Int))) (by kernel_rfl) (Nat.le_of_ble_eq_true (by kernel_rfl)) (Kd.Rep.oneS hc3 hr3)
     obtain ⟨hn1,heq⟩:=guard?_some heq
     refine RgH.does (DoesH.append (d:=119) (k:=1) (t:=28) (e:=22) (bytes:=24) (kd:=(Kd.slice (Kd.int .u8))) (n:=v_have20.length) (m:=1) (xs:=v_have20) (ys:=([x4]:List (List Int))) (A:=Av_have20) (B:=(some ⟨g1,0,none⟩)) (c:=cv_have20) (cB:=1) (by kernel_rfl) rfl rfl (by kernel_rfl) rfl hov_have20 (fun w hh=>ho8.rdb (hh.chin 0 rfl)) (room_le hn1) (by have:=room_le hn1; omega)) ?_
     rintro _ _ _ _ ⟨A11,c11,ch8,rfl,rfl,rfl,ho9⟩
     refine Rd 8 [1,16,20,99,100,101] [(1,.slice Aa1 a1.length ca1),(16,.slice A4 y6.length c4),(20,.slice A11 ((v_have20++([x4]:List (List Int))).length) c11),(99,.slice A5 y7.1.length c5),(100,iv (y7.1.length:Int)),(101,iv v101)]<|Ra 1 [1,1,1,1,1,1,1,1,1,0,1,0,0,1,1,1] [.l [1,1,1,1,1,1,1,1,1,0,1,0,0],.b 0,.c [1,1,1,1,1,1,1,1,1,1]]<|Rd 2 [1,16,20,99,100,101] [(1,.slice Aa1 a1.length ca1),(16,.slice A4 y6.length c4),(20,.slice A11 ((v_have20++([x4]:List (List Int))).length) c11),(99,.slice A5 y7.1.length c5),(100,iv (y7.1.length:Int)),(101,iv (w64 (v101+1)))]<|Ad 1 [.c [1,1,1,1,1,1,1,1,1,0,1,0,0],.l [1,1,1,1,1,1,1,1,1,0,1,0,0],.b 0,.c [1,1,1,1,1,1,1,1,1,1]]<|Kp [1,16,20,99,100,101] [(1,.slice Aa1 a1.length ca1),(16,.slice A4 y6.length c4),(20,.slice A11 ((v_have20++([x4]:List (List Int))).length) c11),(99,.slice A5 y7.1.length c5),(100,iv (y7.1.length:Int)),(101,iv (w64 (v101+1)))] ?_
     refine RunH.pick 4 [1,2,3] (cs':=ch8::ch5::ch4::F) (by kernel_rfl) rfl ?_
     exact ihk a1 _ _ y6 _ _ _ y7 _ _ _ (v_have20++([x4]:List (List Int))) _ _ _ _ (w64 (v101+1)) hra1 hca1 ho4 ho5 ho9 rfl heq
   replace heq:=ht6
   refine Rr<|Rk 3 [107,1,16,20,22,99,100,101] [(107,.bool (decide (x3<0))),(1,.slice Aa1 a1.length ca1),(16,.slice A4 y6.length c4),(20,.slice Av_have20 v_have20.length cv_have20),(22,iv x3),(99,.slice A5 y7.1.length c5),(100,iv (y7.1.length:Int)),(101,iv v101)] ?_
   rcases bool_cases (decide (x3<0)) with hb15 | hb15
   ·replace heq:=bif_true hb15 heq
    refine RgH.val1 (v':=.bool true) (congrArg Value.bool hb15) ?_
    refine Rk 8 [1,16,20,22,99,100,101,112] [(1,.slice Aa1 a1.length ca1),(16,.slice A4 y6.length c4),(20,.slice Av_have20 v_have20.length cv_have20),(22,iv x3),(99,.slice A5 y7.1.length c5),(100,iv (y7.1.length:Int)),(101,iv v101),(112,.bool true)] ?_
    obtain rfl:=Option.some.inj heq
    refine Kg [1,16,20,22,99,100,101,112] [(1,.slice Aa1 a1.length ca1),(16,.slice A4 y6.length c4),(20,.slice Av_have20 v_have20.length cv_have20),(22,iv x3),(99,.slice A5 y7.1.length c5),(100,iv (y7.1.length:Int)),(101,iv v101),(112,.bool true)]<|Dn ?_
    exact K15
   ·replace heq:=bif_false hb15 heq
    refine RgH.val1 (v':=.bool false) (congrArg Value.bool hb15) ?_
    refine Rk 8 [1,16,20,22,99,100,101,112] [(1,.slice Aa1 a1.length ca1),(16,.slice A4 y6.length c4),(20,.slice Av_have20 v_have20.length cv_have20),(22,iv x3),(99,.slice A5 y7.1.length c5),(100,iv (y7.1.length:Int)),(101,iv v101),(112,.bool (decide ((y6.length:Int)≤x3)))] ?_
    obtain rfl:=Option.some.inj heq
    refine Kg [1,16,20,22,99,100,101,112] [(1,.slice Aa1 a1.length ca1),(16,.slice A4 y6.length c4),(20,.slice Av_have20 v_have20.length cv_have20),(22,iv x3),(99,.slice A5 y7.1.length c5),(100,iv (y7.1.length:Int)),(101,iv v101),(112,.bool (decide ((y6.length:Int)≤x3)))]<|Dn ?_
    exact K15
  ·replace heq:=bif_false hb14 heq
   refine Cf (decide (v101<(y7.1.length:Int))) hb14<|Ad 3 [.c [1,1,1,1,1,1,1,1,1,1,0,0],.c [1,1,1,1,1,1,1,1,1,1,0,1],.c [1,1,1,1,1,1,1,1,1,1,1]]<|Kp [1,16,20] [(1,.slice Aa1 a1.length ca1),(16,.slice A4 y6.length c4),(20,.slice Av_have20 v_have20.length cv_have20)] ?_
   refine RunH.pick 3 [0,2] (cs':=chv_have20::ch4::F) (by kernel_rfl) rfl ?_
   exact he1 a1 _ _ y6 _ _ _ v_have20 _ _ _ _ hra1 hca1 ho4 hov_have20 rfl heq
theorem smithyardtop_TopPiecesTravel_c {w0:World} {H:Hp} {F:List Ch} {a0:List Int} {Aa0:Option Addr} {na0:Nat} {ca0:Nat} {a1:List Int} {Aa1:Option Addr} {na1:Nat} {ca1:Nat} {a2:Int} {a3:Int} {a4:Int} {r:Bool} (hra0:Kd.Row (Kd.int .u8) H Aa0 a0) (hca0:na0≤ca0) (hna0:na0=a0.length) (hra1:Kd.Row (Kd.int .u8) H Aa1 a1) (hca1:na1≤ca1) (hna1:na1=a1.length) (heq:smithyardtop_TopPiecesTravel.f a0 a1 a2 a3 a4=some r):CallsH Tryd.prog 3 #[.slice Aa0 na0 ca0,.slice Aa1 na1 ca1,iv a2,iv a3,iv a4] H w0 (F) (S3 F H r):=by
 refine calls_of_runH (F:=C3) Tryd.func3 (by kernel_rfl) Tryd.ntmps3 (args:=[.slice Aa0 na0 ca0,.slice Aa1 na1 ca1,iv a2,iv a3,iv a4]) (by kernel_rfl) ?_
 subst hna0
 subst hna1
 unfold smithyardtop_TopPiecesTravel.f at heq
 refine Ra 1 [0] [.c [1]]<|Rd 1 [0,1,2,3,4] [(0,.slice Aa0 a0.length ca0),(1,.slice Aa1 a1.length ca1),(2,iv a2),(3,iv a3),(4,iv a4)]<|Ra 1 [1,0] [.c [1,1]]<|Rk 4 [0,1,2,3,4,30,31,32,33] [(0,.slice Aa0 a0.length ca0),(1,.slice Aa1 a1.length ca1),(2,iv a2),(3,iv a3),(4,iv a4),(30,.slice Aa0 a0.length ca0),(31,iv a2),(32,iv a3),(33,iv a4)] ?_
 obtain ⟨y1,hy1,heq⟩:=bind_some heq
 refine RgH.does (DoesH.call (d:=34) (g:=4) (args:=#[.slice Aa0 a0.length ca0,iv a2,iv a3,iv a4]) (by kernel_rfl) (blob_Pieces_c (a0:=a0) (a1:=a2) (a2:=a3) (a3:=a4) (Rw.of hra0) hca0 rfl hy1)) ?_
 rintro _ _ _ _ ⟨_,rfl,A1,c1,ch1,rfl,rfl,rfl,ho1⟩
 refine Rd 10 [0,1,2,3,4,11,12] [(0,.slice Aa0 a0.length ca0),(1,.slice Aa1 a1.length ca1),(2,iv a2),(3,iv a3),(4,iv a4),(11,.slice A1 y1.1.length c1),(12,iv y1.2)]<|Ra 1 [1,1,0] [.c [1,1,1]]<|Rk 4 [0,1,2,3,4,11,12,38,39,40,41] [(0,.slice Aa0 a0.length ca0),(1,.slice Aa1 a1.length ca1),(2,iv a2),(3,iv a3),(4,iv a4),(11,.slice A1 y1.1.length c1),(12,iv y1.2),(38,.slice Aa1 a1.length ca1),(39,iv a2),(40,iv a3),(41,iv a4)] ?_
 obtain ⟨y2,hy2,heq⟩:=bind_some heq
 refine RgH.does (DoesH.call (d:=42) (g:=4) (args:=#[.slice Aa1 a1.length ca1,iv a2,iv a3,iv a4]) (by kernel_rfl) (blob_Pieces_c (a0:=a1) (a1:=a2) (a2:=a3) (a3:=a4) (Rw.of hra1) hca1 rfl hy2)) ?_
 rintro _ _ _ _ ⟨_,rfl,A2,c2,ch2,rfl,rfl,rfl,ho2⟩
 refine Rd 10 [0,1,2,3,4,11,12,13,14] [(0,.slice Aa0 a0.length ca0),(1,.slice Aa1 a1.length ca1),(2,iv a2),(3,iv a3),(4,iv a4),(11,.slice A1 y1.1.length c1),(12,iv y1.2),(13,.slice A2 y2.1.length c2),(14,iv y2.2)]<|Ad 2 [.c [1,1,1,0,0],.c [1,1,1,0,1],.c [1,1,1,1]] ?_
 obtain ⟨t1,ht1,heq⟩:=bind_some heq
 have K3:RunH C3 (S3 F H r) H w0 [.c [1,1,1,0,1],.c [1,1,1,1]] [(0,.slice Aa0 a0.length ca0),(1,.slice Aa1 a1.length ca1),(2,iv a2),(3,iv a3),(4,iv a4),(11,.slice A1 y1.1.length c1),(12,iv y1.2),(13,.slice A2 y2.1.length c2),(50,.bool t1)] H (ch2::ch1::F):=by
  rcases bool_cases (t1) with hb2 | hb2
  ·replace heq:=bif_true hb2 heq
   refine Ct t1 hb2<|Ad 1 [.c [1,1,1,0,1,0,0],.c [1,1,1,0,1,0,1],.c [1,1,1,1]] ?_
   obtain ⟨t2,ht2,heq⟩:=bind_some heq
   have K4:RunH C3 (S3 F H r) H w0 [.c [1,1,1,0,1,0,1],.c [1,1,1,1]] [(10,.bool t2)] H (F):=by
    obtain rfl:=Option.some.inj heq
    exact RunH.done (by kernel_rfl) Tryd.func3 (v:=.bool t2) (by kernel_rfl) ⟨rfl,rfl,rfl⟩
   replace heq:=ht2
   refine Rr<|Rk 3 [53,11] [(53,.bool (y1.2 == 0)),(11,.slice A1 y1.1.length c1)] ?_
   rcases bool_cases (y1.2 == 0) with hb3 | hb3
   ·replace heq:=bif_true hb3 heq
    refine RgH.val1 (v':=.bool true) (congrArg Value.bool hb3) ?_
    refine Rk 8 [58] [(58,.bool true)] ?_
    obtain ⟨y3,hy3,heq⟩:=bind_some heq
    refine RgH.does (DoesH.call (d:=59) (g:=5) (args:=(List.toArray [])) (by kernel_rfl) (smithyardtop_alive_c  hy3)) ?_
    rintro _ _ _ _ ⟨_,rfl,rfl,rfl,rfl⟩
    refine Rk 11 [10] [(10,.bool y3)] ?_
    obtain rfl:=Option.some.inj heq
    refine Kg [10] [(10,.bool y3)] ?_
    refine RgH.pick 2 [] (cs':=F) (by kernel_rfl) rfl ?_
    refine Dn ?_
    exact K4
   ·replace heq:=bif_false hb3 heq
    refine RgH.val1 (v':=.bool false) (congrArg Value.bool hb3) ?_
    refine Rk 8 [58] [(58,.bool ((y1.1.length:Int) == 0))] ?_
    rcases bool_cases ((y1.1.length:Int) == 0) with hb4 | hb4
    ·replace heq:=bif_true hb4 heq
     refine RgH.val1 (v':=.bool true) (congrArg Value.bool hb4) ?_
     obtain ⟨y4,hy4,heq⟩:=bind_some heq
     refine RgH.does (DoesH.call (d:=59) (g:=5) (args:=(List.toArray [])) (by kernel_rfl) (smithyardtop_alive_c  hy4)) ?_
     rintro _ _ _ _ ⟨_,rfl,rfl,rfl,rfl⟩
     refine Rk 11 [10] [(10,.bool y4)] ?_
     obtain rfl:=Option.some.inj heq
     refine Kg [10] [(10,.bool y4)] ?_
     refine RgH.pick 2 [] (cs':=F) (by kernel_rfl) rfl ?_
     refine Dn ?_
     exact K4
    ·replace heq:=bif_false hb4 heq
     refine RgH.val1 (v':=.bool false) (congrArg Value.bool hb4) ?_
     refine Rk 11 [10] [(10,.bool false)] ?_
     obtain rfl:=Option.some.inj heq
     refine Kg [10] [(10,.bool false)] ?_
     refine RgH.pick 2 [] (cs':=F) (by kernel_rfl) rfl ?_
     refine Dn ?_
     exact K4
  ·replace heq:=bif_false hb2 heq
   refine Cf t1 hb2<|Ra 2 [1,1,1,1,0] [.c [1,1,1,1,1]]<|Rk 2 [0,1,2,3,4,13,61,62] [(0,.slice Aa0 a0.length ca0),(1,.slice Aa1 a1.length ca1),(2,iv a2),(3,iv a3),(4,iv a4),(13,.slice A2 y2.1.length c2),(61,.slice Aa0 a0.length ca0),(62,.slice A1 y1.1.length c1)] ?_
   obtain ⟨y5,hy5,heq⟩:=bind_some heq
   refine RgH.does (DoesH.call (d:=63) (g:=6) (args:=#[.slice Aa0 a0.length ca0,.slice A1 y1.1.length c1]) (by kernel_rfl) (smithyardtop_cutInto_c (a0:=a0) (a1:=y1.1) hra0 hca0 rfl (ho1.rw (.tail _ (.head _))) ho1.cap rfl hy5)) ?_
   rintro _ _ _ _ ⟨_,rfl,A3,c3,ch3,rfl,rfl,rfl,ho3⟩
   refine Rk 5 [0,1,2,3,4,63,64,65] [(0,.slice Aa0 a0.length ca0),(1,.slice Aa1 a1.length ca1),(2,iv a2),(3,iv a3),(4,iv a4),(63,.slice A3 y5.length c3),(64,.slice Aa1 a1.length ca1),(65,.slice A2 y2.1.length c2)] ?_
   obtain ⟨y6,hy6,heq⟩:=bind_some heq
   refine RgH.does (DoesH.call (d:=66) (g:=6) (args:=#[.slice Aa1 a1.length ca1,.slice A2 y2.1.length c2]) (by kernel_rfl) (smithyardtop_cutInto_c (a0:=a1) (a1:=y2.1) hra1 hca1 rfl (ho2.rw (.tail _ (.head _))) ho2.cap rfl hy6)) ?_
   rintro _ _ _ _ ⟨_,rfl,A4,c4,ch4,rfl,rfl,rfl,ho4⟩
   refine Rd 8 [0,1,2,3,4,15,16] [(0,.slice Aa0 a0.length ca0),(1,.slice Aa1 a1.length ca1),(2,iv a2),(3,iv a3),(4,iv a4),(15,.slice A3 y5.length c3),(16,.slice A4 y6.length c4)]<|Ra 1 [1,1,1,1,1,0] [.c [1,1,1,1,1,1]]<|Rk 2 [0,1,2,3,4,15,16,68,69] [(0,.slice Aa0 a0.length ca0),(1,.slice Aa1 a1.length ca1),(2,iv a2),(3,iv a3),(4,iv a4),(15,.slice A3 y5.length c3),(16,.slice A4 y6.length c4),(68,.slice A3 y5.length c3),(69,.slice A4 y6.length c4)] ?_
   obtain ⟨y7,hy7,heq⟩:=bind_some heq
   refine RgH.does (DoesH.call (d:=70) (g:=7) (args:=#[.slice A3 y5.length c3,.slice A4 y6.length c4]) (by kernel_rfl) (wire_Fresh_c (a0:=y5) (a1:=y6) (ho3.rw (.tail _ (.head _))) ho3.cap rfl (ho4.rw (.head _)) ho4.cap rfl hy7)) ?_
   rintro _ _ _ _ ⟨_,rfl,A5,c5,ch5,rfl,rfl,rfl,ho5⟩
   refine Rd 10 [0,1,2,3,4,12,15,16,17,18] [(0,.slice Aa0 a0.length ca0),(1,.slice Aa1 a1.length ca1),(2,iv a2),(3,iv a3),(4,iv a4),(12,iv y7.2.2),(15,.slice A3 y5.length c3),(16,.slice A4 y6.length c4),(17,.slice A5 y7.1.length c5),(18,iv y7.2.1)]<|Ra 1 [1,1,1,1,1,1,0] [.c [1,1,1,1,1,1,1]]<|Rk 5 [1,12,15,16,17,18,75,76,77,78,79] [(1,.slice Aa1 a1.length ca1),(12,iv y7.2.2),(15,.slice A3 y5.length c3),(16,.slice A4 y6.length c4),(17,.slice A5 y7.1.length c5),(18,iv y7.2.1),(75,.slice Aa0 a0.length ca0),(76,.slice Aa1 a1.length ca1),(77,iv a2),(78,iv a3),(79,iv a4)] ?_
   obtain ⟨y8,hy8,heq⟩:=bind_some heq
   refine RgH.does (DoesH.call (d:=80) (g:=8) (args:=#[.slice Aa0 a0.length ca0,.slice Aa1 a1.length ca1,iv a2,iv a3,iv a4]) (by kernel_rfl) (blob_Shared_c (a0:=a0) (a1:=a1) (a2:=a2) (a3:=a3) (a4:=a4) (Rw.of hra0) hca0 rfl (Rw.of hra1) hca1 rfl hy8)) ?_
   rintro _ _ _ _ ⟨_,rfl,rfl,rfl,rfl⟩
   refine Rd 11 [1,12,14,15,16,17,18,19] [(1,.slice Aa1 a1.length ca1),(12,iv y7.2.2),(14,iv y8.2),(15,.slice A3 y5.length c3),(16,.slice A4 y6.length c4),(17,.slice A5 y7.1.length c5),(18,iv y7.2.1),(19,iv y8.1)]<|Ad 2 [.c [1,1,1,1,1,1,1,0,0],.c [1,1,1,1,1,1,1,0,1],.c [1,1,1,1,1,1,1,1]] ?_
   obtain ⟨t3,ht3,heq⟩:=bind_some heq
   have K8:RunH C3 (S3 F H r) H w0 [.c [1,1,1,1,1,1,1,0,1],.c [1,1,1,1,1,1,1,1]] [(1,.slice Aa1 a1.length ca1),(15,.slice A3 y5.length c3),(16,.slice A4 y6.length c4),(17,.slice A5 y7.1.length c5),(96,.bool t3)] H (ch5::ch4::ch3::F):=by
    rcases bool_cases (t3) with hb7 | hb7
    ·replace heq:=bif_true hb7 heq
     refine Ct t3 hb7<|Ra 1 [1,1,1,1,1,1,1,0,1,0,0] [.c [1,1,1,1,1,1,1,0,1,0,1],.c [1,1,1,1,1,1,1,1]]<|Rd 1 [10] [(10,.bool false)] ?_
     obtain rfl:=Option.some.inj heq
     refine RunH.pick 3 [] (cs':=F) (by kernel_rfl) rfl ?_
     exact RunH.done (by kernel_rfl) Tryd.func3 (v:=.bool false) (by kernel_rfl) ⟨rfl,rfl,rfl⟩
    ·replace heq:=bif_false hb7 heq
     refine Cf t3 hb7<|Ra 2 [1,1,1,1,1,1,1,1,0] [.c [1,1,1,1,1,1,1,1,1]]<|Rk 1 [1,16,17,97] [(1,.slice Aa1 a1.length ca1),(16,.slice A4 y6.length c4),(17,.slice A5 y7.1.length c5),(97,.slice A3 y5.length c3)] ?_
     obtain ⟨y9,hy9,heq⟩:=bind_some heq
     refine RgH.does (DoesH.call (d:=98) (g:=9) (args:=#[.slice A3 y5.length c3]) (by kernel_rfl) (slices_Clone_byte_c (a0:=y5) (ho3.rw (.tail _ (.tail _ (.head _)))) ho3.cap rfl hy9)) ?_
     rintro _ _ _ _ ⟨_,rfl,A6,c6,ch6,rfl,rfl,rfl,ho6⟩
     refine Rd 3 [1,16,17,20] [(1,.slice Aa1 a1.length ca1),(16,.slice A4 y6.length c4),(17,.slice A5 y7.1.length c5),(20,.slice A6 y9.length c6)]<|Ra 2 [1,1,1,1,1,1,1,1,1,0,0] [.c [1,1,1,1,1,1,1,1,1,0,1],.c [1,1,1,1,1,1,1,1,1,1]]<|Rd 3 [1,16,20,99,100,101] [(1,.slice Aa1 a1.length ca1),(16,.slice A4 y6.length c4),(20,.slice A6 y9.length c6),(99,.slice A5 y7.1.length c5),(100,iv (y7.1.length:Int)),(101,iv 0)]<|Ad 2 [.c [1,1,1,1,1,1,1,1,1,0,1,0,0],.l [1,1,1,1,1,1,1,1,1,0,1,0,0],.b 0,.c [1,1,1,1,1,1,1,1,1,1]]<|Kp [1,16,20,99,100,101] [(1,.slice Aa1 a1.length ca1),(16,.slice A4 y6.length c4),(20,.slice A6 y9.length c6),(99,.slice A5 y7.1.length c5),(100,iv (y7.1.length:Int)),(101,iv 0)] ?_
     refine RunH.pick 4 [0,1,2] (cs':=ch6::ch5::ch4::F) (by kernel_rfl) rfl ?_
     exact ((smithyardtop_TopPiecesTravel.l6_c (e1:=smithyardtop_TopPiecesTravel.e1) (smithyardtop_TopPiecesTravel.e1_c)) big) a1 _ _ y6 _ _ _ y7 _ _ _ y9 _ _ _ _ 0 hra1 hca1 ho4 ho5 ho6 rfl heq
   replace heq:=ht3
   refine Rr<|Rk 3 [85,1,14,15,16,17,18,19] [(85,.bool (y7.2.2 != 0)),(1,.slice Aa1 a1.length ca1),(14,iv y8.2),(15,.slice A3 y5.length c3),(16,.slice A4 y6.length c4),(17,.slice A5 y7.1.length c5),(18,iv y7.2.1),(19,iv y8.1)] ?_
   rcases bool_cases (y7.2.2 != 0) with hb5 | hb5
   ·replace heq:=bif_true hb5 heq
    refine RgH.val1 (v':=.bool true) (congrArg Value.bool hb5) ?_
    refine Rk 14 [1,15,16,17,96] [(1,.slice Aa1 a1.length ca1),(15,.slice A3 y5.length c3),(16,.slice A4 y6.length c4),(17,.slice A5 y7.1.length c5),(96,.bool true)] ?_
    obtain rfl:=Option.some.inj heq
    refine Kg [1,15,16,17,96] [(1,.slice Aa1 a1.length ca1),(15,.slice A3 y5.length c3),(16,.slice A4 y6.length c4),(17,.slice A5 y7.1.length c5),(96,.bool true)] ?_
    refine RgH.pick 5 [0,1,2] (cs':=ch5::ch4::ch3::F) (by kernel_rfl) rfl ?_
    refine Dn ?_
    exact K8
   ·replace heq:=bif_false hb5 heq
    refine RgH.val1 (v':=.bool false) (congrArg Value.bool hb5) ?_
    refine Rk 7 [89,1,15,16,17,18,19] [(89,.bool (y8.2 != 0)),(1,.slice Aa1 a1.length ca1),(15,.slice A3 y5.length c3),(16,.slice A4 y6.length c4),(17,.slice A5 y7.1.length c5),(18,iv y7.2.1),(19,iv y8.1)] ?_
    rcases bool_cases (y8.2 != 0) with hb6 | hb6
    ·replace heq:=bif_true hb6 heq
     refine RgH.val1 (v':=.bool true) (congrArg Value.bool hb6) ?_
     refine Rk 14 [1,15,16,17,96] [(1,.slice Aa1 a1.length ca1),(15,.slice A3 y5.length c3),(16,.slice A4 y6.length c4),(17,.slice A5 y7.1.length c5),(96,.bool true)] ?_
     obtain rfl:=Option.some.inj heq
     refine Kg [1,15,16,17,96] [(1,.slice Aa1 a1.length ca1),(15,.slice A3 y5.length c3),(16,.slice A4 y6.length c4),(17,.slice A5 y7.1.length c5),(96,.bool true)] ?_
     refine RgH.pick 5 [0,1,2] (cs':=ch5::ch4::ch3::F) (by kernel_rfl) rfl ?_
     refine Dn ?_
     exact K8
    ·replace heq:=bif_false hb6 heq
     refine RgH.val1 (v':=.bool false) (congrArg Value.bool hb6) ?_
     refine Rk 14 [1,15,16,17,96] [(1,.slice Aa1 a1.length ca1),(15,.slice A3 y5.length c3),(16,.slice A4 y6.length c4),(17,.slice A5 y7.1.length c5),(96,.bool (decide ((w64 ((a1.length:Int) - y8.1))<y7.2.1)))] ?_
     obtain rfl:=Option.some.inj heq
     refine Kg [1,15,16,17,96] [(1,.slice Aa1 a1.length ca1),(15,.slice A3 y5.length c3),(16,.slice A4 y6.length c4),(17,.slice A5 y7.1.length c5),(96,.bool (decide ((w64 ((a1.length:Int) - y8.1))<y7.2.1)))] ?_
     refine RgH.pick 5 [0,1,2] (cs':=ch5::ch4::ch3::F) (by kernel_rfl) rfl ?_
     refine Dn ?_
     exact K8
 replace heq:=ht1
 refine Rr<|Rk 3 [47,0,1,2,3,4,11,12,13,14] [(47,.bool (y1.2 != 0)),(0,.slice Aa0 a0.length ca0),(1,.slice Aa1 a1.length ca1),(2,iv a2),(3,iv a3),(4,iv a4),(11,.slice A1 y1.1.length c1),(12,iv y1.2),(13,.slice A2 y2.1.length c2),(14,iv y2.2)] ?_
 rcases bool_cases (y1.2 != 0) with hb1 | hb1
 ·replace heq:=bif_true hb1 heq
  refine RgH.val1 (v':=.bool true) (congrArg Value.bool hb1) ?_
  refine Rk 6 [0,1,2,3,4,11,12,13,50] [(0,.slice Aa0 a0.length ca0),(1,.slice Aa1 a1.length ca1),(2,iv a2),(3,iv a3),(4,iv a4),(11,.slice A1 y1.1.length c1),(12,iv y1.2),(13,.slice A2 y2.1.length c2),(50,.bool true)] ?_
  obtain rfl:=Option.some.inj heq
  refine Kg [0,1,2,3,4,11,12,13,50] [(0,.slice Aa0 a0.length ca0),(1,.slice Aa1 a1.length ca1),(2,iv a2),(3,iv a3),(4,iv a4),(11,.slice A1 y1.1.length c1),(12,iv y1.2),(13,.slice A2 y2.1.length c2),(50,.bool true)]<|Dn ?_
  exact K3
 ·replace heq:=bif_false hb1 heq
  refine RgH.val1 (v':=.bool false) (congrArg Value.bool hb1) ?_
  refine Rk 6 [0,1,2,3,4,11,12,13,50] [(0,.slice Aa0 a0.length ca0),(1,.slice Aa1 a1.length ca1),(2,iv a2),(3,iv a3),(4,iv a4),(11,.slice A1 y1.1.length c1),(12,iv y1.2),(13,.slice A2 y2.1.length c2),(50,.bool (y2.2 != 0))] ?_
  obtain rfl:=Option.some.inj heq
  refine Kg [0,1,2,3,4,11,12,13,50] [(0,.slice Aa0 a0.length ca0),(1,.slice Aa1 a1.length ca1),(2,iv a2),(3,iv a3),(4,iv a4),(11,.slice A1 y1.1.length c1),(12,iv y1.2),(13,.slice A2 y2.1.length c2),(50,.bool (y2.2 != 0))]<|Dn ?_
  exact K3
end Go.Proofs.YtgmfdaibmaakpaaDoor
