/- What the machine's calls of these functions come to: just what the plain functions say. Written by program. -/
import Derived.Test.YtedkdnhhohcocaaDoorProg
import Derived.Test.YtedkdnhhohcocaaDoorKitXi
import Derived.Test.YtedkdnhhohcocaaDoorKitW
import Derived.Test.YtedkdnhhohcocaaDoorZD
import Derived.Test.YtedkdnhhohcocaaDoorShelf
import Derived.Test.YtedkdnhhohcocaaDoorKitNs
import Derived.Test.YtedkdnhhohcocaaDoorKitY
import Derived.Test.YtedkdnhhohcocaaDoorZ3M1
set_option linter.unusedVariables false
set_option linter.unnecessarySimpa false
set_option linter.unusedSimpArgs false
set_option maxRecDepth 100000
set_option maxHeartbeats 1000000
namespace Go.Proofs.YtedkdnhhohcocaaDoor
open Go Go.RowKit Go.Proofs.YtedkdnhhohcocaaDoor.Kit
variable {w0 : World} {H0 H : Hp} {F : List Ch}
noncomputable def C11:Ctx:={ P:=Tryd.prog,f:=11,N:=82,c:=bodyOf Tryd.f11 }
def S11 (F:List Ch) (H0:Hp) (r:Int × Int) (v:Value) (H:Hp) (cs:List Ch):Prop:=H0=H∧v=.tuple #[iv r.1,iv r.2]∧F=cs
theorem trials_Longest.e2_c [GlobI 0 w0] {r:Int × Int}:∀ (a0:Test) (Aa0_1:Option Addr) (ca0_1 g1:Nat) (v_seen8:List (ByteArray × Bool)) (gv_seen8:Nat) (chv_seen8:Ch) (v_most11:Int) ,Rw kTestCase H F Aa0_1 a0.Cases→a0.Cases.length≤ca0_1→MpOwn Value.string Kd.bool false H gv_seen8 v_seen8 chv_seen8→trials_Longest.e2 a0 v_seen8 v_most11=some r→RunH C11 (S11 F H r) H w0 [.c [1,1,1,1,1,1,1,0,0],.c [1,1,1,1,1,1,1,0,1],.c [1,1,1,1,1,1,1,1]] [(2,pg g1 0),(8,.map (some gv_seen8)),(11,iv v_most11)] H (chv_seen8::(some (g1,.cells #[.string a0.Name,.slice Aa0_1 a0.Cases.length ca0_1] 24 (0,0)))::F):=by
 intro a0 Aa0_1 ca0_1 g1 v_seen8 gv_seen8 chv_seen8 v_most11 hra0_1 hca0_1 hov_seen8 heq
 unfold trials_Longest.e2 at heq
 refine Sa 0<|Zk 1 ?_
 refine RgH.does (DoesH.mapLen (d:=76) (m:=v_seen8) (by kernel_rfl) (fun w hh=>hov_seen8.on (hh.chin 0 rfl))) ?_
 rintro _ _ _ _ ⟨rfl,rfl,rfl⟩
 refine Zw 6 [bx 1 1] ?_
 refine Cb heq ?_ ?_
 ·intro hb3 heq
  refine Sa 1<|Zd 2 ?_
  obtain rfl:=Option.some.inj heq
  refine Up 2 [] ?_
  exact RunH.done (by kernel_rfl) Tryd.func11 (v:=.tuple #[iv 0,iv 12]) (by kernel_rfl) ⟨rfl,rfl,rfl⟩
 ·intro hb3 heq
  refine Sa 2<|Zd 3 ?_
  obtain rfl:=Option.some.inj heq
  refine Up 2 [] ?_
  exact RunH.done (by kernel_rfl) Tryd.func11 (v:=.tuple #[iv v_most11,iv 0]) (by kernel_rfl) ⟨rfl,rfl,rfl⟩
theorem trials_Longest.e4_c [GlobI 0 w0] {r:Int × Int} (backl3:Test→(List (List ByteArray))→(List (ByteArray × Int))→(List (ByteArray × Bool))→Int→Int→Option (Int × Int))
  (hbackl3:∀ (a0:Test) (Aa0_1:Option Addr) (ca0_1:Nat) (a1:List (List ByteArray)) (Aa1:Option Addr) (ca1 g1:Nat) (v_took7:List (ByteArray × Int)) (gv_took7:Nat) (chv_took7:Ch) (v_seen8:List (ByteArray × Bool)) (gv_seen8:Nat) (chv_seen8:Ch) (v_most11 v44:Int) ,Rw kTestCase H F Aa0_1 a0.Cases→a0.Cases.length≤ca0_1→Rw (Kd.slice Kd.string) H F Aa1 a1→a1.length≤ca1→MpOwn Value.string (Kd.int .i64) false H gv_took7 v_took7 chv_took7→MpOwn Value.string Kd.bool false H gv_seen8 v_seen8 chv_seen8→backl3 a0 a1 v_took7 v_seen8 v_most11 v44=some r→RunH C11 (S11 F H r) H w0 [.c [1,1,1,1,1,1,0,1,0,0],.l [1,1,1,1,1,1,0,1,0,0],.b 2,.c [1,1,1,1,1,1,1]] [(2,pg g1 0),(7,.map (some gv_took7)),(8,.map (some gv_seen8)),(11,iv v_most11),(42,.slice Aa1 a1.length ca1),(43,iv (a1.length:Int)),(44,iv v44)] H (chv_seen8::chv_took7::(some (g1,.cells #[.string a0.Name,.slice Aa0_1 a0.Cases.length ca0_1] 24 (0,0)))::F)):∀ (a0:Test) (Aa0_1:Option Addr) (ca0_1:Nat) (a1:List (List ByteArray)) (Aa1:Option Addr) (ca1 g1:Nat) (v_took7:List (ByteArray × Int)) (gv_took7:Nat) (chv_took7:Ch) (v_most11 v44:Int) (v_seen8:List (ByteArray × Bool)) (gv_seen8:Nat) (chv_seen8:Ch) (v_sum14:Int) ,Rw kTestCase H F Aa0_1 a0.Cases→a0.Cases.length≤ca0_1→Rw (Kd.slice Kd.string) H F Aa1 a1→a1.length≤ca1→MpOwn Value.string (Kd.int .i64) false H gv_took7 v_took7 chv_took7→MpOwn Value.string Kd.bool false H gv_seen8 v_seen8 chv_seen8→trials_Longest.e4 backl3 a0 a1 v_took7 v_most11 v44 v_seen8 v_sum14=some r→RunH C11 (S11 F H r) H w0 [.c [1,1,1,1,1,1,0,1,0,0,1,1,0,0,1,1,1],.b 3,.c [1,1,1,1,1,1,0,1,0,0,1,1,1],.l [1,1,1,1,1,1,0,1,0,0],.b 2,.c [1,1,1,1,1,1,1]] [(2,pg g1 0),(7,.map (some gv_took7)),(8,.map (some gv_seen8)),(11,iv v_most11),(14,iv v_sum14),(42,.slice Aa1 a1.length ca1),(43,iv (a1.length:Int)),(44,iv v44)] H (chv_seen8::chv_took7::(some (g1,.cells #[.string a0.Name,.slice Aa0_1 a0.Cases.length ca0_1] 24 (0,0)))::F):=by
 intro a0 Aa0_1 ca0_1 a1 Aa1 ca1 g1 v_took7 gv_took7 chv_took7 v_most11 v44 v_seen8 gv_seen8 chv_seen8 v_sum14 hra0_1 hca0_1 hra1 hca1 hov_took7 hov_seen8 heq
 unfold trials_Longest.e4 at heq
 refine Sa 0<|Zd 4<|Sa 1<|Zd 2<|An 1 ?_
 exact Gt 0 [] (hbackl3 a0 _ _ a1 _ _ _ v_took7 _ _ v_seen8 _ _ (max2 v_most11 v_sum14) (w64 (v44+1)) hra0_1 hca0_1 hra1 hca1 hov_took7 hov_seen8 heq)
theorem trials_Longest.l5_c [GlobI 0 w0] {r:Int × Int} (e4:Test→(List (List ByteArray))→(List (ByteArray × Int))→Int→Int→(List (ByteArray × Bool))→Int→Option (Int × Int))
  (he4:∀ (a0:Test) (Aa0_1:Option Addr) (ca0_1:Nat) (a1:List (List ByteArray)) (Aa1:Option Addr) (ca1 g1:Nat) (v_took7:List (ByteArray × Int)) (gv_took7:Nat) (chv_took7:Ch) (v_most11 v44:Int) (v_seen8:List (ByteArray × Bool)) (gv_seen8:Nat) (chv_seen8:Ch) (v_sum14:Int) ,Rw kTestCase H F Aa0_1 a0.Cases→a0.Cases.length≤ca0_1→Rw (Kd.slice Kd.string) H F Aa1 a1→a1.length≤ca1→MpOwn Value.string (Kd.int .i64) false H gv_took7 v_took7 chv_took7→MpOwn Value.string Kd.bool false H gv_seen8 v_seen8 chv_seen8→e4 a0 a1 v_took7 v_most11 v44 v_seen8 v_sum14=some r→RunH C11 (S11 F H r) H w0 [.c [1,1,1,1,1,1,0,1,0,0,1,1,0,0,1,1,1],.b 3,.c [1,1,1,1,1,1,0,1,0,0,1,1,1],.l [1,1,1,1,1,1,0,1,0,0],.b 2,.c [1,1,1,1,1,1,1]] [(2,pg g1 0),(7,.map (some gv_took7)),(8,.map (some gv_seen8)),(11,iv v_most11),(14,iv v_sum14),(42,.slice Aa1 a1.length ca1),(43,iv (a1.length:Int)),(44,iv v44)] H (chv_seen8::chv_took7::(some (g1,.cells #[.string a0.Name,.slice Aa0_1 a0.Cases.length ca0_1] 24 (0,0)))::F)):∀ (k:Nat),∀ (a0:Test) (Aa0_1:Option Addr) (ca0_1:Nat) (a1:List (List ByteArray)) (Aa1:Option Addr) (ca1 g1:Nat) (v_took7:List (ByteArray × Int)) (gv_took7:Nat) (chv_took7:Ch) (v_most11 v44:Int) (x1:List ByteArray) (A1:Option Addr) (c1:Nat) (v_seen8:List (ByteArray × Bool)) (gv_seen8:Nat) (chv_seen8:Ch) (v_sum14 v50:Int) ,Rw kTestCase H F Aa0_1 a0.Cases→a0.Cases.length≤ca0_1→Rw (Kd.slice Kd.string) H F Aa1 a1→a1.length≤ca1→MpOwn Value.string (Kd.int .i64) false H gv_took7 v_took7 chv_took7→Kd.Row Kd.string H A1 x1→x1.length≤c1→MpOwn Value.string Kd.bool false H gv_seen8 v_seen8 chv_seen8→trials_Longest.l5 e4 k a0 a1 v_took7 v_most11 v44 x1 v_seen8 v_sum14 v50=some r→RunH C11 (S11 F H r) H w0 [.c [1,1,1,1,1,1,0,1,0,0,1,1,0,0,1,1,0,1,0,0],.l [1,1,1,1,1,1,0,1,0,0,1,1,0,0,1,1,0,1,0,0],.b 4,.c [1,1,1,1,1,1,0,1,0,0,1,1,0,0,1,1,1],.b 3,.c [1,1,1,1,1,1,0,1,0,0,1,1,1],.l [1,1,1,1,1,1,0,1,0,0],.b 2,.c [1,1,1,1,1,1,1]] [(2,pg g1 0),(7,.map (some gv_took7)),(8,.map (some gv_seen8)),(11,iv v_most11),(14,iv v_sum14),(42,.slice Aa1 a1.length ca1),(43,iv (a1.length:Int)),(44,iv v44),(48,.slice A1 x1.length c1),(49,iv (x1.length:Int)),(50,iv v50)] H (chv_seen8::chv_took7::(some (g1,.cells #[.string a0.Name,.slice Aa0_1 a0.Cases.length ca0_1] 24 (0,0)))::F):=by
 intro k
 induction k with
 | zero=>intro a0 Aa0_1 ca0_1 a1 Aa1 ca1 g1 v_took7 gv_took7 chv_took7 v_most11 v44 x1 A1 c1 v_seen8 gv_seen8 chv_seen8 v_sum14 v50 hra0_1 hca0_1 hra1 hca1 hov_took7 hr1 hc1 hov_seen8 heq; exact nomatch (show (none:Option (Int × Int))=some r from heq)
 | succ k ihk =>
  intro a0 Aa0_1 ca0_1 a1 Aa1 ca1 g1 v_took7 gv_took7 chv_took7 v_most11 v44 x1 A1 c1 v_seen8 gv_seen8 chv_seen8 v_sum14 v50 hra0_1 hca0_1 hra1 hca1 hov_took7 hr1 hc1 hov_seen8 heq
  rw [trials_Longest.l5] at heq
  refine Sa 1<|Zd 1<|An 1 ?_
  refine Cb heq ?_ ?_
  ·intro hb5 heq
   refine Sa 4 ?_
   obtain ⟨x2,hx2,heq⟩:=bind_some heq
   obtain ⟨ha2,cs2,hK2,hcc2⟩:=(Rw.of (F:=F) hr1).get hx2
   obtain rfl:cs2=[.string x2]:=hK2
   refine Zw 3 [nx ha2 hx2,er hcc2 3 0]<|Sa 1<|Zk 2 ?_
   refine RgH.does (DoesH.lookup (d:=57) (t:=54) (m:=v_took7) (k:=x2) (z:=iv 0) (zc:=[iv 0]) (z0:=0) (ok:=true) (kd:=(Kd.int .i64)) (ag:=false) (by kernel_rfl) (KyAt.string Tryd.underlying9) rfl rfl (fun w hh=>hov_took7.on (hh.chin 1 rfl))) ?_
   rintro _ _ _ _ ⟨cc1,rfl,rfl,rfl,hcc3⟩
   obtain rfl:cc1=[iv (mgetD v_took7 x2 0)]:=hcc3
   refine RgH.val1 (v':=.tuple #[iv (mgetD v_took7 x2 0),.bool (mhas v_took7 x2)]) rfl ?_
   refine Zd 8<|Sa 2<|Zd 2 ?_
   refine Cb heq ?_ ?_
   ·intro hb6 heq
    refine Sa 1<|Zd 2 ?_
    obtain rfl:=Option.some.inj heq
    refine Up 3 [] ?_
    exact RunH.done (by kernel_rfl) Tryd.func11 (v:=.tuple #[iv 0,iv 9]) (by kernel_rfl) ⟨rfl,rfl,rfl⟩
   ·intro hb6 heq
    refine Sa 3<|Zk 2 ?_
    refine RgH.does (DoesH.lookup (d:=64) (t:=55) (m:=v_seen8) (k:=x2) (z:=.bool false) (zc:=[.bool false]) (z0:=false) (ok:=false) (kd:=Kd.bool) (ag:=false) (by kernel_rfl) (KyAt.string Tryd.underlying9) rfl rfl (fun w hh=>hov_seen8.on (hh.chin 0 rfl))) ?_
    rintro _ _ _ _ ⟨cc2,rfl,rfl,rfl,hcc4⟩
    obtain rfl:cc2=[.bool (mgetD v_seen8 x2 false)]:=hcc4
    refine RgH.val1 (v':=.bool (mgetD v_seen8 x2 false)) rfl ?_
    refine Dn ?_
    refine Cb heq ?_ ?_
    ·intro hb7 heq
     refine Sa 1<|Zd 2 ?_
     obtain rfl:=Option.some.inj heq
     refine Up 3 [] ?_
     exact RunH.done (by kernel_rfl) Tryd.func11 (v:=.tuple #[iv 0,iv 7]) (by kernel_rfl) ⟨rfl,rfl,rfl⟩
    ·intro hb7 heq
     refine Sa 2<|Zk 2 ?_
     refine RgH.does (DoesH.mapUpdate (kk:=0) (cv:=[.bool true]) (k:=x2) (v:=true) (by kernel_rfl) (KyAt.string Tryd.underlying9) rfl rfl rfl hov_seen8) ?_
     rintro _ _ _ _ ⟨ch1,rfl,rfl,rfl,ho3⟩
     refine RgH.nrm ?_
     refine Dn<|Sa 0<|Zd 4<|Sa 1<|Zd 2<|An 1 ?_
     exact Gt 0 [] (ihk a0 _ _ a1 _ _ _ v_took7 _ _ v_most11 v44 x1 _ _ (mput v_seen8 x2 true) _ _ (w64 (v_sum14+(mgetD v_took7 x2 0))) (w64 (v50+1)) hra0_1 hca0_1 hra1 hca1 hov_took7 hr1 hc1 ho3 heq)
  ·intro hb5 heq
   refine An 1 ?_
   exact Gt 0 [] (he4 a0 _ _ a1 _ _ _ v_took7 _ _ v_most11 v44 v_seen8 _ _ v_sum14 hra0_1 hca0_1 hra1 hca1 hov_took7 hov_seen8 heq)
theorem trials_Longest.l3_c [GlobI 0 w0] {r:Int × Int} (e2:Test→(List (ByteArray × Bool))→Int→Option (Int × Int))
  (he2:∀ (a0:Test) (Aa0_1:Option Addr) (ca0_1 g1:Nat) (v_seen8:List (ByteArray × Bool)) (gv_seen8:Nat) (chv_seen8:Ch) (v_most11:Int) ,Rw kTestCase H F Aa0_1 a0.Cases→a0.Cases.length≤ca0_1→MpOwn Value.string Kd.bool false H gv_seen8 v_seen8 chv_seen8→e2 a0 v_seen8 v_most11=some r→RunH C11 (S11 F H r) H w0 [.c [1,1,1,1,1,1,1,0,0],.c [1,1,1,1,1,1,1,0,1],.c [1,1,1,1,1,1,1,1]] [(2,pg g1 0),(8,.map (some gv_seen8)),(11,iv v_most11)] H (chv_seen8::(some (g1,.cells #[.string a0.Name,.slice Aa0_1 a0.Cases.length ca0_1] 24 (0,0)))::F)):∀ (k:Nat),∀ (a0:Test) (Aa0_1:Option Addr) (ca0_1:Nat) (a1:List (List ByteArray)) (Aa1:Option Addr) (ca1 g1:Nat) (v_took7:List (ByteArray × Int)) (gv_took7:Nat) (chv_took7:Ch) (v_seen8:List (ByteArray × Bool)) (gv_seen8:Nat) (chv_seen8:Ch) (v_most11 v44:Int) ,Rw kTestCase H F Aa0_1 a0.Cases→a0.Cases.length≤ca0_1→Rw (Kd.slice Kd.string) H F Aa1 a1→a1.length≤ca1→MpOwn Value.string (Kd.int .i64) false H gv_took7 v_took7 chv_took7→MpOwn Value.string Kd.bool false H gv_seen8 v_seen8 chv_seen8→trials_Longest.l3 e2 k a0 a1 v_took7 v_seen8 v_most11 v44=some r→RunH C11 (S11 F H r) H w0 [.c [1,1,1,1,1,1,0,1,0,0],.l [1,1,1,1,1,1,0,1,0,0],.b 2,.c [1,1,1,1,1,1,1]] [(2,pg g1 0),(7,.map (some gv_took7)),(8,.map (some gv_seen8)),(11,iv v_most11),(42,.slice Aa1 a1.length ca1),(43,iv (a1.length:Int)),(44,iv v44)] H (chv_seen8::chv_took7::(some (g1,.cells #[.string a0.Name,.slice Aa0_1 a0.Cases.length ca0_1] 24 (0,0)))::F):=by
 intro k
 induction k with
 | zero=>intro a0 Aa0_1 ca0_1 a1 Aa1 ca1 g1 v_took7 gv_took7 chv_took7 v_seen8 gv_seen8 chv_seen8 v_most11 v44 hra0_1 hca0_1 hra1 hca1 hov_took7 hov_seen8 heq; exact nomatch (show (none:Option (Int × Int))=some r from heq)
 | succ k ihk =>
  intro a0 Aa0_1 ca0_1 a1 Aa1 ca1 g1 v_took7 gv_took7 chv_took7 v_seen8 gv_seen8 chv_seen8 v_most11 v44 hra0_1 hca0_1 hra1 hca1 hov_took7 hov_seen8 heq
  rw [trials_Longest.l3] at heq
  refine Sa 1<|Zd 1<|An 1 ?_
  refine Cb heq ?_ ?_
  ·intro hb4 heq
   refine Sa 4 ?_
   obtain ⟨x1,hx1,heq⟩:=bind_some heq
   obtain ⟨ha1,cs1,hK1,hcc1⟩:=hra1.get hx1
   obtain ⟨A1,c1,rfl,hc1,hr1⟩:=hK1
   refine Zw 3 [nx ha1 hx1,er hcc1 3 0]<|Sa 1<|Zd 1<|Sa 2<|Zd 3<|An 2 ?_
   exact Gt 0 [] (((trials_Longest.l5_c (e4:=trials_Longest.e4 ((trials_Longest.l3 e2 k))) (trials_Longest.e4_c (backl3:=(trials_Longest.l3 e2 k)) ihk)) big) a0 _ _ a1 _ _ _ v_took7 _ _ v_most11 v44 x1 _ _ v_seen8 _ _ 0 0 hra0_1 hca0_1 hra1 hca1 hov_took7 hr1 hc1 hov_seen8 heq)
  ·intro hb4 heq
   refine An 3 ?_
   exact Gt 2 [0] (he2 a0 _ _ _ v_seen8 _ _ v_most11 hra0_1 hca0_1 hov_seen8 heq)
theorem trials_Longest.e1_c [GlobI 0 w0] {r:Int × Int}:∀ (a0:Test) (Aa0_1:Option Addr) (ca0_1:Nat) (a1:List (List ByteArray)) (Aa1:Option Addr) (ca1 g1 g3:Nat) (v_took7:List (ByteArray × Int)) (gv_took7:Nat) (chv_took7:Ch) ,Rw kTestCase H F Aa0_1 a0.Cases→a0.Cases.length≤ca0_1→Rw (Kd.slice Kd.string) H F Aa1 a1→a1.length≤ca1→MpOwn Value.string Kd.bool false H g3 ([]:List (ByteArray × Bool)) (some (g3,.map #[] 0))→MpOwn Value.string (Kd.int .i64) false H gv_took7 v_took7 chv_took7→trials_Longest.e1 a0 a1 v_took7=some r→RunH C11 (S11 F H r) H w0 [.c [1,1,1,1,1,0],.c [1,1,1,1,1,1]] [(1,.slice Aa1 a1.length ca1),(2,pg g1 0),(7,.map (some gv_took7)),(8,.map (some g3))] H ((some (g3,.map #[] 0))::chv_took7::(some (g1,.cells #[.string a0.Name,.slice Aa0_1 a0.Cases.length ca0_1] 24 (0,0)))::F):=by
 intro a0 Aa0_1 ca0_1 a1 Aa1 ca1 g1 g3 v_took7 gv_took7 chv_took7 hra0_1 hca0_1 hra1 hca1 ho2 hov_took7 heq
 unfold trials_Longest.e1 at heq
 refine Sa 0<|Zd 1<|Sa 2<|Zd 3<|An 2 ?_
 exact Gt 0 [] (((trials_Longest.l3_c (e2:=trials_Longest.e2) (trials_Longest.e2_c)) big) a0 _ _ a1 _ _ _ v_took7 _ _ ([]:List (ByteArray × Bool)) _ _ 0 0 hra0_1 hca0_1 hra1 hca1 hov_took7 ho2 heq)
theorem trials_Longest.l6_c [GlobI 0 w0] {r:Int × Int} (e1:Test→(List (List ByteArray))→(List (ByteArray × Int))→Option (Int × Int))
  (he1:∀ (a0:Test) (Aa0_1:Option Addr) (ca0_1:Nat) (a1:List (List ByteArray)) (Aa1:Option Addr) (ca1 g1 g3:Nat) (v_took7:List (ByteArray × Int)) (gv_took7:Nat) (chv_took7:Ch) ,Rw kTestCase H F Aa0_1 a0.Cases→a0.Cases.length≤ca0_1→Rw (Kd.slice Kd.string) H F Aa1 a1→a1.length≤ca1→MpOwn Value.string Kd.bool false H g3 ([]:List (ByteArray × Bool)) (some (g3,.map #[] 0))→MpOwn Value.string (Kd.int .i64) false H gv_took7 v_took7 chv_took7→e1 a0 a1 v_took7=some r→RunH C11 (S11 F H r) H w0 [.c [1,1,1,1,1,0],.c [1,1,1,1,1,1]] [(1,.slice Aa1 a1.length ca1),(2,pg g1 0),(7,.map (some gv_took7)),(8,.map (some g3))] H ((some (g3,.map #[] 0))::chv_took7::(some (g1,.cells #[.string a0.Name,.slice Aa0_1 a0.Cases.length ca0_1] 24 (0,0)))::F)):∀ (k:Nat),∀ (a0:Test) (Aa0_1:Option Addr) (ca0_1:Nat) (a1:List (List ByteArray)) (Aa1:Option Addr) (ca1 g1 g3:Nat) (v_took7:List (ByteArray × Int)) (gv_took7:Nat) (chv_took7:Ch) (v32:Int) ,Rw kTestCase H F Aa0_1 a0.Cases→a0.Cases.length≤ca0_1→Rw (Kd.slice Kd.string) H F Aa1 a1→a1.length≤ca1→MpOwn Value.string Kd.bool false H g3 ([]:List (ByteArray × Bool)) (some (g3,.map #[] 0))→MpOwn Value.string (Kd.int .i64) false H gv_took7 v_took7 chv_took7→trials_Longest.l6 e1 k a0 a1 v_took7 v32=some r→RunH C11 (S11 F H r) H w0 [.c [1,1,1,1,0,1,0,0],.l [1,1,1,1,0,1,0,0],.b 0,.c [1,1,1,1,1]] [(1,.slice Aa1 a1.length ca1),(2,pg g1 0),(7,.map (some gv_took7)),(8,.map (some g3)),(30,.slice Aa0_1 a0.Cases.length ca0_1),(31,iv (a0.Cases.length:Int)),(32,iv v32)] H ((some (g3,.map #[] 0))::chv_took7::(some (g1,.cells #[.string a0.Name,.slice Aa0_1 a0.Cases.length ca0_1] 24 (0,0)))::F):=by
 intro k
 induction k with
 | zero=>intro a0 Aa0_1 ca0_1 a1 Aa1 ca1 g1 g3 v_took7 gv_took7 chv_took7 v32 hra0_1 hca0_1 hra1 hca1 ho2 hov_took7 heq; exact nomatch (show (none:Option (Int × Int))=some r from heq)
 | succ k ihk =>
  intro a0 Aa0_1 ca0_1 a1 Aa1 ca1 g1 g3 v_took7 gv_took7 chv_took7 v32 hra0_1 hca0_1 hra1 hca1 ho2 hov_took7 heq
  rw [trials_Longest.l6] at heq
  refine Sa 1<|Zd 1<|An 1 ?_
  refine Cb heq ?_ ?_
  ·intro hb8 heq
   refine Sa 4 ?_
   obtain ⟨x3,hx3,heq⟩:=bind_some heq
   obtain ⟨ha3,cs3,hK3,hcc5⟩:=hra0_1.get hx3
   obtain ⟨rfl⟩:=kTestCase_open hK3
   refine Zv 2 ([nx ha3 hx3]++ers hcc5 3) ?_
   refine RgH.does (DoesH.new (d:=10) (v:=fun g=>.pointer (some ⟨g,0,none⟩)) (o:=fun g=>.cells #[.string ByteArray.empty,iv 0] 40 (0,0)) (fun g=>by kernel_rfl)) ?_
   rintro _ _ _ _ ⟨g4,rfl,rfl,rfl⟩
   refine RgH.does (DoesH.store (k:=0) (g:=g4) (off:=0) (v:=.agg #[.string x3.Name,iv x3.Seconds]) (cells':=#[.string x3.Name,iv x3.Seconds]) (by kernel_rfl) rfl (by kernel_rfl) (by kernel_rfl)) ?_
   rintro _ _ _ _ ⟨rfl,rfl,rfl⟩
   refine RgH.nrm ?_
   refine Dn<|Sa 0<|Zv 5 [bx 0 0,bx 0 1] ?_
   refine RgH.does (DoesH.mapUpdate (kk:=2) (cv:=[iv x3.Seconds]) (k:=x3.Name) (v:=x3.Seconds) (by kernel_rfl) (KyAt.string Tryd.underlying9) rfl rfl rfl hov_took7) ?_
   rintro _ _ _ _ ⟨ch2,rfl,rfl,rfl,ho4⟩
   refine RgH.nrm ?_
   refine Dn<|Sa 1<|Zd 2<|An 1 ?_
   exact Gt 1 [] (ihk a0 _ _ a1 _ _ _ _ (mput v_took7 x3.Name x3.Seconds) _ _ (w64 (v32+1)) hra0_1 hca0_1 hra1 hca1 ho2 ho4 heq)
  ·intro hb8 heq
   refine An 2 ?_
   exact Gt 0 [] (he1 a0 _ _ a1 _ _ _ _ v_took7 _ _ hra0_1 hca0_1 hra1 hca1 ho2 hov_took7 heq)
theorem trials_Longest_c [GlobI 0 w0] {a0:Test} {Aa0_1:Option Addr} {na0_1 ca0_1:Nat} {a1:List (List ByteArray)} {Aa1:Option Addr} {na1 ca1:Nat} {r:Int × Int} (heq:trials_Longest.f a0 a1=some r) (hra0_1:Rw kTestCase H F Aa0_1 a0.Cases) (hca0_1:na0_1≤ca0_1) (hna0_1:na0_1=a0.Cases.length) (hra1:Rw (Kd.slice Kd.string) H F Aa1 a1) (hca1:na1≤ca1) (hna1:na1=a1.length):CallsH Tryd.prog 11 #[.agg #[.string a0.Name,.slice Aa0_1 na0_1 ca0_1],.slice Aa1 na1 ca1] H w0 (F) (S11 F H r):=by
 refine Co C11 Tryd.func11 Tryd.ntmps11 ?_
 subst hna0_1
 subst hna1
 unfold trials_Longest.f at heq
 refine Sa 1 ?_
 refine RgH.does (DoesH.new (d:=2) (v:=fun g=>.pointer (some ⟨g,0,none⟩)) (o:=fun g=>.cells #[.string a0.Name,.slice Aa0_1 a0.Cases.length ca0_1] 24 (0,0)) (fun g=>by kernel_rfl)) ?_
 rintro _ _ _ _ ⟨g1,rfl,rfl,rfl⟩
 refine Zd 3<|Sa 2<|Zv 1 (bxs 0) ?_
 obtain ⟨y1,hy1,heq⟩:=bind_some heq
 refine RgH.does (cal 20 (trials_CheckTest_c hy1 (hra0_1.wk (fun _ h=>(.tail _ h))) hca0_1 rfl)) ?_
 rintro _ _ _ _ ⟨_,rfl,rfl,rfl,rfl⟩
 refine Zd 3<|Sa 1<|Zd 2 ?_
 refine Cb heq ?_ ?_
 ·intro hb1 heq
  refine Sa 1<|Zd 3 ?_
  obtain rfl:=Option.some.inj heq
  refine Up 1 [] ?_
  exact RunH.done (by kernel_rfl) Tryd.func11 (v:=.tuple #[iv 0,iv y1]) (by kernel_rfl) ⟨rfl,rfl,rfl⟩
 ·intro hb1 heq
  refine Sa 3<|Zd 3 ?_
  refine Cb heq ?_ ?_
  ·intro hb2 heq
   refine Sa 1<|Zd 2 ?_
   obtain rfl:=Option.some.inj heq
   refine Up 1 [] ?_
   exact RunH.done (by kernel_rfl) Tryd.func11 (v:=.tuple #[iv 0,iv 2]) (by kernel_rfl) ⟨rfl,rfl,rfl⟩
  ·intro hb2 heq
   refine Sa 2 ?_
   refine RgH.does (DoesH.new (d:=27) (v:=fun g=>.map (some g)) (o:=fun g=>.map #[] 0) (fun g=>by kernel_rfl)) ?_
   rintro _ _ _ _ ⟨g2,rfl,rfl,rfl⟩
   have ho1:MpOwn Value.string (Kd.int .i64) false H g2 ([]:List (ByteArray × Int)) (some (g2,.map #[] 0)):=MpOwn.made
   refine RgH.does (DoesH.new (d:=28) (v:=fun g=>.map (some g)) (o:=fun g=>.map #[] 0) (fun g=>by kernel_rfl)) ?_
   rintro _ _ _ _ ⟨g3,rfl,rfl,rfl⟩
   have ho2:MpOwn Value.string Kd.bool false H g3 ([]:List (ByteArray × Bool)) (some (g3,.map #[] 0)):=MpOwn.made
   refine Zd 4<|Sa 2<|Zw 4 [bx 2 1]<|An 2 ?_
   exact Gt 0 [] (((trials_Longest.l6_c (e1:=trials_Longest.e1) (trials_Longest.e1_c)) big) a0 _ _ a1 _ _ _ _ ([]:List (ByteArray × Int)) _ _ 0 hra0_1 hca0_1 hra1 hca1 ho2 ho1 heq)
noncomputable def C45:Ctx:={ P:=Tryd.prog,f:=45,N:=19,c:=bodyOf Tryd.f45 }
def S45 (F:List Ch) (H0:Hp) (r:Int) (v:Value) (H:Hp) (cs:List Ch):Prop:=H0=H∧v=iv r∧F=cs
theorem slices_Index_bool.e1_c [GlobI 0 w0] {r:Int}:slices_Index_bool.e1=some r→RunH C45 (S45 F H r) H w0 [.c [1,1,0],.c [1,1,1]] [] H (F):=by
 intro   heq
 unfold slices_Index_bool.e1 at heq
 refine Sa 0<|Zd 1 ?_
 obtain rfl:=Option.some.inj heq
 exact RunH.done (by kernel_rfl) Tryd.func45 (v:=iv (-1)) (by kernel_rfl) ⟨rfl,rfl,rfl⟩
theorem slices_Index_bool.l2_c [GlobI 0 w0] {r:Int} (e1:Option Int)
  (he1:e1=some r→RunH C45 (S45 F H r) H w0 [.c [1,1,0],.c [1,1,1]] [] H (F)):∀ (k:Nat),∀ (a0:List Bool) (Aa0:Option Addr) (ca0:Nat) (a1:Bool) (v8:Int) ,Rw Kd.bool H F Aa0 a0→a0.length≤ca0→slices_Index_bool.l2 e1 k a0 a1 v8=some r→RunH C45 (S45 F H r) H w0 [.c [1,0,1,0,0],.l [1,0,1,0,0],.b 0,.c [1,1]] [(0,.slice Aa0 a0.length ca0),(1,.bool a1),(7,iv (a0.length:Int)),(8,iv v8)] H (F):=by
 intro k
 induction k with
 | zero=>intro a0 Aa0 ca0 a1 v8 hra0 hca0 heq; exact nomatch (show (none:Option Int)=some r from heq)
 | succ k ihk =>
  intro a0 Aa0 ca0 a1 v8 hra0 hca0 heq
  rw [slices_Index_bool.l2] at heq
  refine Sa 1<|Zd 1<|An 1 ?_
  refine Cb heq ?_ ?_
  ·intro hb1 heq
   refine Sa 4<|Zd 2<|Sa 1 ?_
   obtain ⟨x1,hx1,heq⟩:=bind_some heq
   obtain ⟨ha1,cs1,hK1,hcc1⟩:=hra0.get hx1
   obtain rfl:cs1=[.bool x1]:=hK1
   refine Zw 6 [nx ha1 hx1,er hcc1 0 0] ?_
   refine Cb heq ?_ ?_
   ·intro hb2 heq
    refine Sa 1<|Zd 2 ?_
    obtain rfl:=Option.some.inj heq
    exact RunH.done (by kernel_rfl) Tryd.func45 (v:=iv v8) (by kernel_rfl) ⟨rfl,rfl,rfl⟩
   ·intro hb2 heq
    refine Sa 2<|Zd 2<|An 1 ?_
    exact Gt 0 [] (ihk a0 _ _ a1 (w64 (v8+1)) hra0 hca0 heq)
  ·intro hb1 heq
   refine An 2 ?_
   exact Gt 0 [] (he1 heq)
theorem slices_Index_bool_c [GlobI 0 w0] {a0:List Bool} {Aa0:Option Addr} {na0 ca0:Nat} {a1:Bool} {r:Int} (heq:slices_Index_bool.f a0 a1=some r) (hra0:Rw Kd.bool H F Aa0 a0) (hca0:na0≤ca0) (hna0:na0=a0.length):CallsH Tryd.prog 45 #[.slice Aa0 na0 ca0,.bool a1] H w0 (F) (S45 F H r):=by
 refine Co C45 Tryd.func45 Tryd.ntmps45 ?_
 subst hna0
 unfold slices_Index_bool.f at heq
 refine Sa 1<|Zd 1<|Sa 2<|Zd 3<|An 2 ?_
 exact Gt 0 [] (((slices_Index_bool.l2_c (e1:=slices_Index_bool.e1) (slices_Index_bool.e1_c)) big) a0 _ _ a1 0 hra0 hca0 heq)
noncomputable def C32:Ctx:={ P:=Tryd.prog,f:=32,N:=9,c:=bodyOf Tryd.f32 }
def S32 (F:List Ch) (H0:Hp) (r:Bool) (v:Value) (H:Hp) (cs:List Ch):Prop:=H0=H∧v=.bool r∧F=cs
theorem slices_Contains_bool_c [GlobI 0 w0] {a0:List Bool} {Aa0:Option Addr} {na0 ca0:Nat} {a1:Bool} {r:Bool} (heq:slices_Contains_bool.f a0 a1=some r) (hra0:Rw Kd.bool H F Aa0 a0) (hca0:na0≤ca0) (hna0:na0=a0.length):CallsH Tryd.prog 32 #[.slice Aa0 na0 ca0,.bool a1] H w0 (F) (S32 F H r):=by
 refine Co C32 Tryd.func32 Tryd.ntmps32 ?_
 subst hna0
 unfold slices_Contains_bool.f at heq
 refine Sa 1<|Zd 1<|Sa 1<|Zk 2 ?_
 obtain ⟨y1,hy1,heq⟩:=bind_some heq
 refine RgH.does (cal 7 (slices_Index_bool_c hy1 hra0 hca0 rfl)) ?_
 rintro _ _ _ _ ⟨_,rfl,rfl,rfl,rfl⟩
 refine Zd 5 ?_
 obtain rfl:=Option.some.inj heq
 exact RunH.done (by kernel_rfl) Tryd.func32 (v:=.bool (decide (0≤y1))) (by kernel_rfl) ⟨rfl,rfl,rfl⟩
noncomputable def C31:Ctx:={ P:=Tryd.prog,f:=31,N:=21,c:=bodyOf Tryd.f31 }
def S31 (F:List Ch) (H0:Hp) (r:Int) (v:Value) (H:Hp) (cs:List Ch):Prop:=H0=H∧v=iv r∧F=cs
theorem smithyardref10_caseOf.e1_c [GlobI 0 w0] {r:Int}:smithyardref10_caseOf.e1=some r→RunH C31 (S31 F H r) H w0 [.c [1,1,0],.c [1,1,1]] [] H (F):=by
 intro   heq
 unfold smithyardref10_caseOf.e1 at heq
 refine Sa 0<|Zd 1 ?_
 obtain rfl:=Option.some.inj heq
 exact RunH.done (by kernel_rfl) Tryd.func31 (v:=iv (-1)) (by kernel_rfl) ⟨rfl,rfl,rfl⟩
theorem smithyardref10_caseOf.l2_c [GlobI 0 w0] {r:Int} (e1:Option Int)
  (he1:e1=some r→RunH C31 (S31 F H r) H w0 [.c [1,1,0],.c [1,1,1]] [] H (F)):∀ (k:Nat),∀ (a0:Test) (Aa0_1:Option Addr) (ca0_1:Nat) (a1:ByteArray) (v10:Int) ,Rw kTestCase H F Aa0_1 a0.Cases→a0.Cases.length≤ca0_1→smithyardref10_caseOf.l2 e1 k a0 a1 v10=some r→RunH C31 (S31 F H r) H w0 [.c [1,0,1,0,0],.l [1,0,1,0,0],.b 0,.c [1,1]] [(1,.string a1),(8,.slice Aa0_1 a0.Cases.length ca0_1),(9,iv (a0.Cases.length:Int)),(10,iv v10)] H (F):=by
 intro k
 induction k with
 | zero=>intro a0 Aa0_1 ca0_1 a1 v10 hra0_1 hca0_1 heq; exact nomatch (show (none:Option Int)=some r from heq)
 | succ k ihk =>
  intro a0 Aa0_1 ca0_1 a1 v10 hra0_1 hca0_1 heq
  rw [smithyardref10_caseOf.l2] at heq
  refine Sa 1<|Zd 1<|An 1 ?_
  refine Cb heq ?_ ?_
  ·intro hb1 heq
   refine Sa 4 ?_
   obtain ⟨x1,hx1,heq⟩:=bind_some heq
   obtain ⟨ha1,cs1,hK1,hcc1⟩:=hra0_1.get hx1
   obtain ⟨rfl⟩:=kTestCase_open hK1
   refine Zv 3 ([nx ha1 hx1]++ers hcc1 0) ?_
   refine RgH.does (DoesH.new (d:=6) (v:=fun g=>.pointer (some ⟨g,0,none⟩)) (o:=fun g=>.cells #[.string ByteArray.empty,iv 0] 40 (0,0)) (fun g=>by kernel_rfl)) ?_
   rintro _ _ _ _ ⟨g2,rfl,rfl,rfl⟩
   refine Zk 5 ?_
   refine RgH.does (DoesH.store (k:=0) (g:=g2) (off:=0) (v:=.agg #[.string x1.Name,iv x1.Seconds]) (cells':=#[.string x1.Name,iv x1.Seconds]) (by kernel_rfl) rfl (by kernel_rfl) (by kernel_rfl)) ?_
   rintro _ _ _ _ ⟨rfl,rfl,rfl⟩
   refine RgH.nrm ?_
   refine Dn<|Sa 1<|Zw 4 [bx 0 0] ?_
   refine Cb heq ?_ ?_
   ·intro hb2 heq
    refine Sa 1<|Zd 2 ?_
    obtain rfl:=Option.some.inj heq
    refine Up 1 [] ?_
    exact RunH.done (by kernel_rfl) Tryd.func31 (v:=iv v10) (by kernel_rfl) ⟨rfl,rfl,rfl⟩
   ·intro hb2 heq
    refine Sa 2<|Zd 2<|An 1 ?_
    exact Gt 1 [] (ihk a0 _ _ a1 (w64 (v10+1)) hra0_1 hca0_1 heq)
  ·intro hb1 heq
   refine An 2 ?_
   exact Gt 0 [] (he1 heq)
theorem smithyardref10_caseOf_c [GlobI 0 w0] {a0:Test} {Aa0_1:Option Addr} {na0_1 ca0_1:Nat} {a1:ByteArray} {r:Int} (heq:smithyardref10_caseOf.f a0 a1=some r) (hra0_1:Rw kTestCase H F Aa0_1 a0.Cases) (hca0_1:na0_1≤ca0_1) (hna0_1:na0_1=a0.Cases.length):CallsH Tryd.prog 31 #[.agg #[.string a0.Name,.slice Aa0_1 na0_1 ca0_1],.string a1] H w0 (F) (S31 F H r):=by
 refine Co C31 Tryd.func31 Tryd.ntmps31 ?_
 subst hna0_1
 unfold smithyardref10_caseOf.f at heq
 refine Sa 1 ?_
 refine RgH.does (DoesH.new (d:=2) (v:=fun g=>.pointer (some ⟨g,0,none⟩)) (o:=fun g=>.cells #[.string a0.Name,.slice Aa0_1 a0.Cases.length ca0_1] 24 (0,0)) (fun g=>by kernel_rfl)) ?_
 rintro _ _ _ _ ⟨g1,rfl,rfl,rfl⟩
 refine Zd 2<|Sa 2<|Zw 4 [bx 0 1]<|An 2 ?_
 exact Gt 1 [] (((smithyardref10_caseOf.l2_c (e1:=smithyardref10_caseOf.e1) (smithyardref10_caseOf.e1_c)) big) a0 _ _ a1 0 hra0_1 hca0_1 heq)
noncomputable def C12:Ctx:={ P:=Tryd.prog,f:=12,N:=67,c:=bodyOf Tryd.f12 }
def S12 (F:List Ch) (H0:Hp) (r:Int × Int) (v:Value) (H:Hp) (cs:List Ch):Prop:=H0=H∧v=.tuple #[iv r.1,iv r.2]∧F=cs
theorem smithyardref10_Longest.e1_c [GlobI 0 w0] {r:Int × Int}:∀ (v_seen7:List Bool) (Av_seen7:Option Addr) (nv_seen7 cv_seen7:Nat) (chv_seen7:Ch) (v_most8:Int) ,SlOwn Kd.bool 4 H Av_seen7 cv_seen7 v_seen7 chv_seen7→nv_seen7=v_seen7.length→smithyardref10_Longest.e1 v_seen7 v_most8=some r→RunH C12 (S12 F H r) H w0 [.c [1,1,1,1,1,1,0,0],.c [1,1,1,1,1,1,0,1],.c [1,1,1,1,1,1,1]] [(7,.slice Av_seen7 nv_seen7 cv_seen7),(8,iv v_most8)] H (chv_seen7::F):=by
 intro v_seen7 Av_seen7 nv_seen7 cv_seen7 chv_seen7 v_most8 hov_seen7 hnv_seen7 heq
 subst hnv_seen7
 unfold smithyardref10_Longest.e1 at heq
 refine Sa 0<|Zk 1 ?_
 obtain ⟨y2,hy2,heq⟩:=bind_some heq
 refine RgH.does (cal 65 (slices_Contains_bool_c hy2 (hov_seen7.rw (.head _)) hov_seen7.cap rfl)) ?_
 rintro _ _ _ _ ⟨_,rfl,rfl,rfl,rfl⟩
 refine Dn ?_
 refine Cb heq ?_ ?_
 ·intro hb3 heq
  refine Sa 1<|Zd 2 ?_
  obtain rfl:=Option.some.inj heq
  refine Up 1 [] ?_
  exact RunH.done (by kernel_rfl) Tryd.func12 (v:=.tuple #[iv 0,iv 12]) (by kernel_rfl) ⟨rfl,rfl,rfl⟩
 ·intro hb3 heq
  refine Sa 2<|Zd 3 ?_
  obtain rfl:=Option.some.inj heq
  refine Up 1 [] ?_
  exact RunH.done (by kernel_rfl) Tryd.func12 (v:=.tuple #[iv v_most8,iv 0]) (by kernel_rfl) ⟨rfl,rfl,rfl⟩
theorem smithyardref10_Longest.e3_c [GlobI 0 w0] {r:Int × Int} (backl2:Test→(List (List ByteArray))→(List Bool)→Int→Int→Option (Int × Int))
  (hbackl2:∀ (a0:Test) (Aa0_1:Option Addr) (ca0_1:Nat) (a1:List (List ByteArray)) (Aa1:Option Addr) (ca1 g1:Nat) (v_seen7:List Bool) (Av_seen7:Option Addr) (nv_seen7 cv_seen7:Nat) (chv_seen7:Ch) (v_most8 v29:Int) ,Rw kTestCase H F Aa0_1 a0.Cases→a0.Cases.length≤ca0_1→Rw (Kd.slice Kd.string) H F Aa1 a1→a1.length≤ca1→SlOwn Kd.bool 4 H Av_seen7 cv_seen7 v_seen7 chv_seen7→nv_seen7=v_seen7.length→backl2 a0 a1 v_seen7 v_most8 v29=some r→RunH C12 (S12 F H r) H w0 [.c [1,1,1,1,1,0,1,0,0],.l [1,1,1,1,1,0,1,0,0],.b 0,.c [1,1,1,1,1,1]] [(2,pg g1 0),(7,.slice Av_seen7 nv_seen7 cv_seen7),(8,iv v_most8),(27,.slice Aa1 a1.length ca1),(28,iv (a1.length:Int)),(29,iv v29)] H (chv_seen7::(some (g1,.cells #[.string a0.Name,.slice Aa0_1 a0.Cases.length ca0_1] 24 (0,0)))::F)):∀ (a0:Test) (Aa0_1:Option Addr) (ca0_1:Nat) (a1:List (List ByteArray)) (Aa1:Option Addr) (ca1 g1:Nat) (v_most8 v29:Int) (v_seen7:List Bool) (Av_seen7:Option Addr) (nv_seen7 cv_seen7:Nat) (chv_seen7:Ch) (v_sum11:Int) ,Rw kTestCase H F Aa0_1 a0.Cases→a0.Cases.length≤ca0_1→Rw (Kd.slice Kd.string) H F Aa1 a1→a1.length≤ca1→SlOwn Kd.bool 4 H Av_seen7 cv_seen7 v_seen7 chv_seen7→nv_seen7=v_seen7.length→smithyardref10_Longest.e3 backl2 a0 a1 v_most8 v29 v_seen7 v_sum11=some r→RunH C12 (S12 F H r) H w0 [.c [1,1,1,1,1,0,1,0,0,1,1,0,0,1,1,1],.b 1,.c [1,1,1,1,1,0,1,0,0,1,1,1],.l [1,1,1,1,1,0,1,0,0],.b 0,.c [1,1,1,1,1,1]] [(2,pg g1 0),(7,.slice Av_seen7 nv_seen7 cv_seen7),(8,iv v_most8),(11,iv v_sum11),(27,.slice Aa1 a1.length ca1),(28,iv (a1.length:Int)),(29,iv v29)] H (chv_seen7::(some (g1,.cells #[.string a0.Name,.slice Aa0_1 a0.Cases.length ca0_1] 24 (0,0)))::F):=by
 intro a0 Aa0_1 ca0_1 a1 Aa1 ca1 g1 v_most8 v29 v_seen7 Av_seen7 nv_seen7 cv_seen7 chv_seen7 v_sum11 hra0_1 hca0_1 hra1 hca1 hov_seen7 hnv_seen7 heq
 subst hnv_seen7
 unfold smithyardref10_Longest.e3 at heq
 refine Sa 0<|Zd 4<|Sa 1<|Zd 2<|An 1 ?_
 exact Gt 0 [] (hbackl2 a0 _ _ a1 _ _ _ v_seen7 _ _ _ _ (max2 v_most8 v_sum11) (w64 (v29+1)) hra0_1 hca0_1 hra1 hca1 hov_seen7 rfl heq)
theorem smithyardref10_Longest.l4_c [GlobI 0 w0] {r:Int × Int} (e3:Test→(List (List ByteArray))→Int→Int→(List Bool)→Int→Option (Int × Int))
  (he3:∀ (a0:Test) (Aa0_1:Option Addr) (ca0_1:Nat) (a1:List (List ByteArray)) (Aa1:Option Addr) (ca1 g1:Nat) (v_most8 v29:Int) (v_seen7:List Bool) (Av_seen7:Option Addr) (nv_seen7 cv_seen7:Nat) (chv_seen7:Ch) (v_sum11:Int) ,Rw kTestCase H F Aa0_1 a0.Cases→a0.Cases.length≤ca0_1→Rw (Kd.slice Kd.string) H F Aa1 a1→a1.length≤ca1→SlOwn Kd.bool 4 H Av_seen7 cv_seen7 v_seen7 chv_seen7→nv_seen7=v_seen7.length→e3 a0 a1 v_most8 v29 v_seen7 v_sum11=some r→RunH C12 (S12 F H r) H w0 [.c [1,1,1,1,1,0,1,0,0,1,1,0,0,1,1,1],.b 1,.c [1,1,1,1,1,0,1,0,0,1,1,1],.l [1,1,1,1,1,0,1,0,0],.b 0,.c [1,1,1,1,1,1]] [(2,pg g1 0),(7,.slice Av_seen7 nv_seen7 cv_seen7),(8,iv v_most8),(11,iv v_sum11),(27,.slice Aa1 a1.length ca1),(28,iv (a1.length:Int)),(29,iv v29)] H (chv_seen7::(some (g1,.cells #[.string a0.Name,.slice Aa0_1 a0.Cases.length ca0_1] 24 (0,0)))::F)):∀ (k:Nat),∀ (a0:Test) (Aa0_1:Option Addr) (ca0_1:Nat) (a1:List (List ByteArray)) (Aa1:Option Addr) (ca1 g1:Nat) (v_most8 v29:Int) (x1:List ByteArray) (A1:Option Addr) (c1:Nat) (v_seen7:List Bool) (Av_seen7:Option Addr) (nv_seen7 cv_seen7:Nat) (chv_seen7:Ch) (v_sum11 v35:Int) ,Rw kTestCase H F Aa0_1 a0.Cases→a0.Cases.length≤ca0_1→Rw (Kd.slice Kd.string) H F Aa1 a1→a1.length≤ca1→Kd.Row Kd.string H A1 x1→x1.length≤c1→SlOwn Kd.bool 4 H Av_seen7 cv_seen7 v_seen7 chv_seen7→nv_seen7=v_seen7.length→smithyardref10_Longest.l4 e3 k a0 a1 v_most8 v29 x1 v_seen7 v_sum11 v35=some r→RunH C12 (S12 F H r) H w0 [.c [1,1,1,1,1,0,1,0,0,1,1,0,0,1,1,0,1,0,0],.l [1,1,1,1,1,0,1,0,0,1,1,0,0,1,1,0,1,0,0],.b 2,.c [1,1,1,1,1,0,1,0,0,1,1,0,0,1,1,1],.b 1,.c [1,1,1,1,1,0,1,0,0,1,1,1],.l [1,1,1,1,1,0,1,0,0],.b 0,.c [1,1,1,1,1,1]] [(2,pg g1 0),(7,.slice Av_seen7 nv_seen7 cv_seen7),(8,iv v_most8),(11,iv v_sum11),(27,.slice Aa1 a1.length ca1),(28,iv (a1.length:Int)),(29,iv v29),(33,.slice A1 x1.length c1),(34,iv (x1.length:Int)),(35,iv v35)] H (chv_seen7::(some (g1,.cells #[.string a0.Name,.slice Aa0_1 a0.Cases.length ca0_1] 24 (0,0)))::F):=by
 intro k
 induction k with
 | zero=>intro a0 Aa0_1 ca0_1 a1 Aa1 ca1 g1 v_most8 v29 x1 A1 c1 v_seen7 Av_seen7 nv_seen7 cv_seen7 chv_seen7 v_sum11 v35 hra0_1 hca0_1 hra1 hca1 hr1 hc1 hov_seen7 hnv_seen7 heq; exact nomatch (show (none:Option (Int × Int))=some r from heq)
 | succ k ihk =>
  intro a0 Aa0_1 ca0_1 a1 Aa1 ca1 g1 v_most8 v29 x1 A1 c1 v_seen7 Av_seen7 nv_seen7 cv_seen7 chv_seen7 v_sum11 v35 hra0_1 hca0_1 hra1 hca1 hr1 hc1 hov_seen7 hnv_seen7 heq
  subst hnv_seen7
  rw [smithyardref10_Longest.l4] at heq
  refine Sa 1<|Zd 1<|An 1 ?_
  refine Cb heq ?_ ?_
  ·intro hb5 heq
   refine Sa 4 ?_
   obtain ⟨x2,hx2,heq⟩:=bind_some heq
   obtain ⟨ha2,cs2,hK2,hcc2⟩:=(Rw.of (F:=F) hr1).get hx2
   obtain rfl:cs2=[.string x2]:=hK2
   refine Zw 3 [nx ha2 hx2,er hcc2 2 0]<|Sa 1<|Zv 2 (bxs 1) ?_
   obtain ⟨y3,hy3,heq⟩:=bind_some heq
   refine RgH.does (cal 41 (smithyardref10_caseOf_c hy3 (hra0_1.wk (fun _ h=>(.tail _ (.tail _ h)))) hca0_1 rfl)) ?_
   rintro _ _ _ _ ⟨_,rfl,rfl,rfl,rfl⟩
   refine Zd 4<|Sa 2<|Zd 2 ?_
   refine Cb heq ?_ ?_
   ·intro hb6 heq
    refine Sa 1<|Zd 2 ?_
    obtain rfl:=Option.some.inj heq
    refine Up 2 [] ?_
    exact RunH.done (by kernel_rfl) Tryd.func12 (v:=.tuple #[iv 0,iv 9]) (by kernel_rfl) ⟨rfl,rfl,rfl⟩
   ·intro hb6 heq
    refine Sa 3 ?_
    obtain ⟨x3,hx3,heq⟩:=bind_some heq
    obtain ⟨ha3,cs3,hK3,hcc3⟩:=hov_seen7.get hx3
    obtain rfl:cs3=[.bool x3]:=hK3
    refine Zw 4 [nx ha3 hx3,el hcc3 0 0] ?_
    refine Cb heq ?_ ?_
    ·intro hb7 heq
     refine Sa 1<|Zd 2 ?_
     obtain rfl:=Option.some.inj heq
     refine Up 2 [] ?_
     exact RunH.done (by kernel_rfl) Tryd.func12 (v:=.tuple #[iv 0,iv 7]) (by kernel_rfl) ⟨rfl,rfl,rfl⟩
    ·intro hb7 heq
     refine Sa 1 ?_
     obtain ⟨x4,hx4,heq⟩:=bind_some heq
     obtain ⟨ha4,cs4,hK4,hcc4⟩:=hra0_1.get hx4
     obtain ⟨rfl⟩:=kTestCase_open hK4
     obtain ⟨x5,hx5,heq⟩:=bind_some heq
     obtain ⟨ha5,cs5,hK5,hcc5⟩:=hov_seen7.get hx5
     obtain rfl:cs5=[.bool x5]:=hK5
     refine Zv 11 [bx 1 1,nx ha4 hx4,er hcc4 2 1,nx ha5 hx5] ?_
     obtain ⟨ha6,cs6,hK6,hcc6⟩:=hov_seen7.get hx5
     obtain rfl:cs6=[.bool x5]:=hK6
     refine RgH.does (DoesH.storeEl (a:=((adr Av_seen7).add (y3.toNat*1))) (k:=0) (kd:=Kd.bool) (c0:=[.bool x5]) (x':=true) (o:=0) (ix:=y3) (v:=.bool true) (by kernel_rfl) rfl hov_seen7 hx5 (by kernel_rfl) hcc6 rfl (Nat.le_of_ble_eq_true (by kernel_rfl)) rfl) ?_
     rintro _ _ _ _ ⟨ch2,rfl,rfl,rfl,ho2⟩
     have hn2:v_seen7.length=(v_seen7.set y3.toNat true).length:=by rw [List.length_set]
     refine RgH.nrm ?_
     refine Zd 13<|Sa 1<|Zd 2<|An 1 ?_
     exact Gt 0 [] (ihk a0 _ _ a1 _ _ _ v_most8 v29 x1 _ _ (v_seen7.set y3.toNat true) _ _ _ _ (w64 (v_sum11+x4.Seconds)) (w64 (v35+1)) hra0_1 hca0_1 hra1 hca1 hr1 hc1 ho2 hn2 heq)
  ·intro hb5 heq
   refine An 1 ?_
   exact Gt 0 [] (he3 a0 _ _ a1 _ _ _ v_most8 v29 v_seen7 _ _ _ _ v_sum11 hra0_1 hca0_1 hra1 hca1 hov_seen7 rfl heq)
theorem smithyardref10_Longest.l2_c [GlobI 0 w0] {r:Int × Int} (e1:(List Bool)→Int→Option (Int × Int))
  (he1:∀ (v_seen7:List Bool) (Av_seen7:Option Addr) (nv_seen7 cv_seen7:Nat) (chv_seen7:Ch) (v_most8:Int) ,SlOwn Kd.bool 4 H Av_seen7 cv_seen7 v_seen7 chv_seen7→nv_seen7=v_seen7.length→e1 v_seen7 v_most8=some r→RunH C12 (S12 F H r) H w0 [.c [1,1,1,1,1,1,0,0],.c [1,1,1,1,1,1,0,1],.c [1,1,1,1,1,1,1]] [(7,.slice Av_seen7 nv_seen7 cv_seen7),(8,iv v_most8)] H (chv_seen7::F)):∀ (k:Nat),∀ (a0:Test) (Aa0_1:Option Addr) (ca0_1:Nat) (a1:List (List ByteArray)) (Aa1:Option Addr) (ca1 g1:Nat) (v_seen7:List Bool) (Av_seen7:Option Addr) (nv_seen7 cv_seen7:Nat) (chv_seen7:Ch) (v_most8 v29:Int) ,Rw kTestCase H F Aa0_1 a0.Cases→a0.Cases.length≤ca0_1→Rw (Kd.slice Kd.string) H F Aa1 a1→a1.length≤ca1→SlOwn Kd.bool 4 H Av_seen7 cv_seen7 v_seen7 chv_seen7→nv_seen7=v_seen7.length→smithyardref10_Longest.l2 e1 k a0 a1 v_seen7 v_most8 v29=some r→RunH C12 (S12 F H r) H w0 [.c [1,1,1,1,1,0,1,0,0],.l [1,1,1,1,1,0,1,0,0],.b 0,.c [1,1,1,1,1,1]] [(2,pg g1 0),(7,.slice Av_seen7 nv_seen7 cv_seen7),(8,iv v_most8),(27,.slice Aa1 a1.length ca1),(28,iv (a1.length:Int)),(29,iv v29)] H (chv_seen7::(some (g1,.cells #[.string a0.Name,.slice Aa0_1 a0.Cases.length ca0_1] 24 (0,0)))::F):=by
 intro k
 induction k with
 | zero=>intro a0 Aa0_1 ca0_1 a1 Aa1 ca1 g1 v_seen7 Av_seen7 nv_seen7 cv_seen7 chv_seen7 v_most8 v29 hra0_1 hca0_1 hra1 hca1 hov_seen7 hnv_seen7 heq; exact nomatch (show (none:Option (Int × Int))=some r from heq)
 | succ k ihk =>
  intro a0 Aa0_1 ca0_1 a1 Aa1 ca1 g1 v_seen7 Av_seen7 nv_seen7 cv_seen7 chv_seen7 v_most8 v29 hra0_1 hca0_1 hra1 hca1 hov_seen7 hnv_seen7 heq
  subst hnv_seen7
  rw [smithyardref10_Longest.l2] at heq
  refine Sa 1<|Zd 1<|An 1 ?_
  refine Cb heq ?_ ?_
  ·intro hb4 heq
   refine Sa 4 ?_
   obtain ⟨x1,hx1,heq⟩:=bind_some heq
   obtain ⟨ha1,cs1,hK1,hcc1⟩:=hra1.get hx1
   obtain ⟨A1,c1,rfl,hc1,hr1⟩:=hK1
   refine Zw 3 [nx ha1 hx1,er hcc1 2 0]<|Sa 1<|Zd 1<|Sa 2<|Zd 3<|An 2 ?_
   exact Gt 0 [] (((smithyardref10_Longest.l4_c (e3:=smithyardref10_Longest.e3 ((smithyardref10_Longest.l2 e1 k))) (smithyardref10_Longest.e3_c (backl2:=(smithyardref10_Longest.l2 e1 k)) ihk)) big) a0 _ _ a1 _ _ _ v_most8 v29 x1 _ _ v_seen7 _ _ _ _ 0 0 hra0_1 hca0_1 hra1 hca1 hr1 hc1 hov_seen7 rfl heq)
  ·intro hb4 heq
   refine An 3 ?_
   exact Gt 2 [0] (he1 v_seen7 _ _ _ _ v_most8 hov_seen7 rfl heq)
theorem smithyardref10_Longest_c [GlobI 0 w0] {a0:Test} {Aa0_1:Option Addr} {na0_1 ca0_1:Nat} {a1:List (List ByteArray)} {Aa1:Option Addr} {na1 ca1:Nat} {r:Int × Int} (heq:smithyardref10_Longest.f a0 a1=some r) (hra0_1:Rw kTestCase H F Aa0_1 a0.Cases) (hca0_1:na0_1≤ca0_1) (hna0_1:na0_1=a0.Cases.length) (hra1:Rw (Kd.slice Kd.string) H F Aa1 a1) (hca1:na1≤ca1) (hna1:na1=a1.length):CallsH Tryd.prog 12 #[.agg #[.string a0.Name,.slice Aa0_1 na0_1 ca0_1],.slice Aa1 na1 ca1] H w0 (F) (S12 F H r):=by
 refine Co C12 Tryd.func12 Tryd.ntmps12 ?_
 subst hna0_1
 subst hna1
 unfold smithyardref10_Longest.f at heq
 refine Sa 1 ?_
 refine RgH.does (DoesH.new (d:=2) (v:=fun g=>.pointer (some ⟨g,0,none⟩)) (o:=fun g=>.cells #[.string a0.Name,.slice Aa0_1 a0.Cases.length ca0_1] 24 (0,0)) (fun g=>by kernel_rfl)) ?_
 rintro _ _ _ _ ⟨g1,rfl,rfl,rfl⟩
 refine Zd 3<|Sa 2<|Zv 1 (bxs 0) ?_
 obtain ⟨y1,hy1,heq⟩:=bind_some heq
 refine RgH.does (cal 16 (smithyardref10_CheckTest_c hy1 (hra0_1.wk (fun _ h=>(.tail _ h))) hca0_1 rfl)) ?_
 rintro _ _ _ _ ⟨_,rfl,rfl,rfl,rfl⟩
 refine Zd 3<|Sa 1<|Zd 2 ?_
 refine Cb heq ?_ ?_
 ·intro hb1 heq
  refine Sa 1<|Zd 3 ?_
  obtain rfl:=Option.some.inj heq
  refine Up 1 [] ?_
  exact RunH.done (by kernel_rfl) Tryd.func12 (v:=.tuple #[iv 0,iv y1]) (by kernel_rfl) ⟨rfl,rfl,rfl⟩
 ·intro hb1 heq
  refine Sa 3<|Zd 3 ?_
  refine Cb heq ?_ ?_
  ·intro hb2 heq
   refine Sa 1<|Zd 2 ?_
   obtain rfl:=Option.some.inj heq
   refine Up 1 [] ?_
   exact RunH.done (by kernel_rfl) Tryd.func12 (v:=.tuple #[iv 0,iv 2]) (by kernel_rfl) ⟨rfl,rfl,rfl⟩
  ·intro hb2 heq
   refine Sa 2<|Zv 3 [bx 0 1] ?_
   obtain ⟨hn1,heq⟩:=guard?_some heq
   simp only [Bool.and_eq_true,decide_eq_true_eq] at hn1
   refine RgH.does (DoesH.makeSlice (d:=26) (e:=4) (bytes:=1) (kd:=Kd.bool) (zc:=#[.bool false]) (z:=false) (n:=(a0.Cases.length:Int)) (by kernel_rfl) hn1.1 (by have:=room_le hn1.2; simpa using this) (by have:=room_le hn1.2; simp at this; omega) rfl (by decide)) ?_
   rintro _ _ _ _ ⟨g2,ch1,rfl,rfl,rfl,ho1⟩
   refine Zd 5<|Sa 1<|Zd 1<|Sa 2<|Zd 3<|An 2 ?_
   exact Gt 0 [] (((smithyardref10_Longest.l2_c (e1:=smithyardref10_Longest.e1) (smithyardref10_Longest.e1_c)) big) a0 _ _ a1 _ _ _ (List.replicate (a0.Cases.length:Int).toNat (false)) _ _ _ _ 0 0 hra0_1 hca0_1 hra1 hca1 ho1 rfl heq)
noncomputable def C33:Ctx:={ P:=Tryd.prog,f:=33,N:=26,c:=bodyOf Tryd.f33 }
def S33 (F:List Ch) (H0:Hp) (r:Bool) (v:Value) (H:Hp) (cs:List Ch):Prop:=H0=H∧v=.bool r∧F=cs
theorem slices_Equal_TestCase.e1_c [GlobI 0 w0] {r:Bool}:slices_Equal_TestCase.e1=some r→RunH C33 (S33 F H r) H w0 [.c [1,1,1,0],.c [1,1,1,1]] [] H (F):=by
 intro   heq
 unfold slices_Equal_TestCase.e1 at heq
 refine Sa 0<|Zd 1 ?_
 obtain rfl:=Option.some.inj heq
 exact RunH.done (by kernel_rfl) Tryd.func33 (v:=.bool true) (by kernel_rfl) ⟨rfl,rfl,rfl⟩
theorem slices_Equal_TestCase.l2_c [GlobI 0 w0] {r:Bool} (e1:Option Bool)
  (he1:e1=some r→RunH C33 (S33 F H r) H w0 [.c [1,1,1,0],.c [1,1,1,1]] [] H (F)):∀ (k:Nat),∀ (a0:List TestCase) (Aa0:Option Addr) (ca0:Nat) (a1:List TestCase) (Aa1:Option Addr) (ca1:Nat) (v13:Int) ,Rw kTestCase H F Aa0 a0→a0.length≤ca0→Rw kTestCase H F Aa1 a1→a1.length≤ca1→slices_Equal_TestCase.l2 e1 k a0 a1 v13=some r→RunH C33 (S33 F H r) H w0 [.c [1,1,0,1,0,0],.l [1,1,0,1,0,0],.b 0,.c [1,1,1]] [(0,.slice Aa0 a0.length ca0),(1,.slice Aa1 a1.length ca1),(12,iv (a0.length:Int)),(13,iv v13)] H (F):=by
 intro k
 induction k with
 | zero=>intro a0 Aa0 ca0 a1 Aa1 ca1 v13 hra0 hca0 hra1 hca1 heq; exact nomatch (show (none:Option Bool)=some r from heq)
 | succ k ihk =>
  intro a0 Aa0 ca0 a1 Aa1 ca1 v13 hra0 hca0 hra1 hca1 heq
  rw [slices_Equal_TestCase.l2] at heq
  refine Sa 1<|Zd 1<|An 1 ?_
  refine Cb heq ?_ ?_
  ·intro hb2 heq
   refine Sa 4<|Zd 2<|An 1<|Sd 0 9 [] [3,3,3,3,3,3,3,3,3] ?_
   obtain ⟨x1,hx1,heq⟩:=bind_some heq
   obtain ⟨ha1,cs1,hK1,hcc1⟩:=hra0.get hx1
   obtain ⟨rfl⟩:=kTestCase_open hK1
   obtain ⟨x2,hx2,heq⟩:=bind_some heq
   obtain ⟨ha2,cs2,hK2,hcc2⟩:=hra1.get hx2
   obtain ⟨rfl⟩:=kTestCase_open hK2
   refine Zr [0,1,2,3,4,5,6,7,8] 0 ([nx ha1 hx1]++ers hcc1 0++[nx ha2 hx2]++ers hcc2 0) (Pk 0 []) (Pk 0 []) ?_
   refine DrH.done (by kernel_rfl) ?_
   refine Cb heq ?_ ?_
   ·intro hb3 heq
    refine Sa 1<|Zd 1 ?_
    obtain rfl:=Option.some.inj heq
    exact RunH.done (by kernel_rfl) Tryd.func33 (v:=.bool false) (by kernel_rfl) ⟨rfl,rfl,rfl⟩
   ·intro hb3 heq
    refine Sa 2<|Zd 2<|An 1 ?_
    exact Gt 0 [] (ihk a0 _ _ a1 _ _ (w64 (v13+1)) hra0 hca0 hra1 hca1 heq)
  ·intro hb2 heq
   refine An 2 ?_
   exact Gt 0 [] (he1 heq)
theorem slices_Equal_TestCase_c [GlobI 0 w0] {a0:List TestCase} {Aa0:Option Addr} {na0 ca0:Nat} {a1:List TestCase} {Aa1:Option Addr} {na1 ca1:Nat} {r:Bool} (heq:slices_Equal_TestCase.f a0 a1=some r) (hra0:Rw kTestCase H F Aa0 a0) (hca0:na0≤ca0) (hna0:na0=a0.length) (hra1:Rw kTestCase H F Aa1 a1) (hca1:na1≤ca1) (hna1:na1=a1.length):CallsH Tryd.prog 33 #[.slice Aa0 na0 ca0,.slice Aa1 na1 ca1] H w0 (F) (S33 F H r):=by
 refine Co C33 Tryd.func33 Tryd.ntmps33 ?_
 subst hna0
 subst hna1
 unfold slices_Equal_TestCase.f at heq
 refine Sa 1<|Zd 1<|Sa 2<|Zd 5 ?_
 refine Cb heq ?_ ?_
 ·intro hb1 heq
  refine Sa 1<|Zd 1 ?_
  obtain rfl:=Option.some.inj heq
  exact RunH.done (by kernel_rfl) Tryd.func33 (v:=.bool false) (by kernel_rfl) ⟨rfl,rfl,rfl⟩
 ·intro hb1 heq
  refine Sa 3<|Zd 3<|An 2 ?_
  exact Gt 0 [] (((slices_Equal_TestCase.l2_c (e1:=slices_Equal_TestCase.e1) (slices_Equal_TestCase.e1_c)) big) a0 _ _ a1 _ _ 0 hra0 hca0 hra1 hca1 heq)
noncomputable def C13:Ctx:={ P:=Tryd.prog,f:=13,N:=17,c:=bodyOf Tryd.f13 }
def S13 (F:List Ch) (H0:Hp) (r:Bool) (v:Value) (H:Hp) (cs:List Ch):Prop:=H0=H∧v=.bool r∧F=cs
theorem smithyardref10_SameTest_c [GlobI 0 w0] {a0:Test} {Aa0_1:Option Addr} {na0_1 ca0_1:Nat} {a1:Test} {Aa1_1:Option Addr} {na1_1 ca1_1:Nat} {r:Bool} (heq:smithyardref10_SameTest.f a0 a1=some r) (hra0_1:Rw kTestCase H F Aa0_1 a0.Cases) (hca0_1:na0_1≤ca0_1) (hna0_1:na0_1=a0.Cases.length) (hra1_1:Rw kTestCase H F Aa1_1 a1.Cases) (hca1_1:na1_1≤ca1_1) (hna1_1:na1_1=a1.Cases.length):CallsH Tryd.prog 13 #[.agg #[.string a0.Name,.slice Aa0_1 na0_1 ca0_1],.agg #[.string a1.Name,.slice Aa1_1 na1_1 ca1_1]] H w0 (F) (S13 F H r):=by
 refine Co C13 Tryd.func13 Tryd.ntmps13 ?_
 subst hna0_1
 subst hna1_1
 unfold smithyardref10_SameTest.f at heq
 refine Sa 1 ?_
 refine RgH.does (DoesH.new (d:=2) (v:=fun g=>.pointer (some ⟨g,0,none⟩)) (o:=fun g=>.cells #[.string a0.Name,.slice Aa0_1 a0.Cases.length ca0_1] 24 (0,0)) (fun g=>by kernel_rfl)) ?_
 rintro _ _ _ _ ⟨g1,rfl,rfl,rfl⟩
 refine RgH.does (DoesH.new (d:=3) (v:=fun g=>.pointer (some ⟨g,0,none⟩)) (o:=fun g=>.cells #[.string a1.Name,.slice Aa1_1 a1.Cases.length ca1_1] 24 (0,0)) (fun g=>by kernel_rfl)) ?_
 rintro _ _ _ _ ⟨g2,rfl,rfl,rfl⟩
 refine Zd 3<|An 1 ?_
 obtain ⟨t1,ht1,heq⟩:=bind_some heq
 have K3:RunH C13 (S13 F H r) H w0 [.c [1,1]] [(4,.bool t1)] H (F):=by
  obtain rfl:=Option.some.inj heq
  exact RunH.done (by kernel_rfl) Tryd.func13 (v:=.bool t1) (by kernel_rfl) ⟨rfl,rfl,rfl⟩
 replace heq:=ht1
 refine Sa 0<|Zv 6 [bx 1 0,bx 0 0] ?_
 rcases bool_cases (sEq a0.Name a1.Name) with hb1 | hb1
 ·replace heq:=bif_true hb1 heq
  refine Zs 10 (congrArg Value.bool hb1)<|Zv 10 [bx 1 1,bx 0 1] ?_
  obtain ⟨y1,hy1,heq⟩:=bind_some heq
  refine RgH.does (cal 15 (slices_Equal_TestCase_c hy1 (hra0_1.wk (fun _ h=>(.tail _ (.tail _ h)))) hca0_1 rfl (hra1_1.wk (fun _ h=>(.tail _ (.tail _ h)))) hca1_1 rfl)) ?_
  rintro _ _ _ _ ⟨_,rfl,rfl,rfl,rfl⟩
  refine Zk 13 ?_
  obtain rfl:=Option.some.inj heq
  refine Dn ?_
  exact Gt 2 [] (K3)
 ·replace heq:=bif_false hb1 heq
  refine Zs 10 (congrArg Value.bool hb1)<|Zk 13 ?_
  obtain rfl:=Option.some.inj heq
  refine Dn ?_
  exact Gt 2 [] (K3)
noncomputable def C34:Ctx:={ P:=Tryd.prog,f:=34,N:=64,c:=bodyOf Tryd.f34 }
def S34 (F:List Ch) (H0:Hp) (r:Int × Int × Int) (v:Value) (H:Hp) (cs:List Ch):Prop:=H0=H∧v=.tuple #[iv r.1,iv r.2.1,iv r.2.2]∧F=cs
theorem trials_Tried.e1_c [GlobI 0 w0] {r:Int × Int × Int}:∀ (a0:Int) ,trials_Tried.e1 a0=some r→RunH C34 (S34 F H r) H w0 [.c [1,1,1,1,1,0],.c [1,1,1,1,1,1]] [(0,iv a0)] H (F):=by
 intro a0  heq
 unfold trials_Tried.e1 at heq
 refine Sa 0<|Zd 4 ?_
 obtain rfl:=Option.some.inj heq
 exact RunH.done (by kernel_rfl) Tryd.func34 (v:=.tuple #[iv 3,iv a0,iv 0]) (by kernel_rfl) ⟨rfl,rfl,rfl⟩
theorem trials_Tried.j3_c [GlobI 0 w0] {r:Int × Int × Int} (backl2:Int→Int→(List Bool)→Int→Int→Option (Int × Int × Int))
  (hbackl2:∀ (a0 a1:Int) (a2:List Bool) (Aa2:Option Addr) (ca2:Nat) (v_passed9 v28:Int) ,Rw Kd.bool H F Aa2 a2→a2.length≤ca2→backl2 a0 a1 a2 v_passed9 v28=some r→RunH C34 (S34 F H r) H w0 [.c [1,1,1,1,0,1,0,0],.l [1,1,1,1,0,1,0,0],.b 0,.c [1,1,1,1,1]] [(0,iv a0),(1,iv a1),(9,iv v_passed9),(26,.slice Aa2 a2.length ca2),(27,iv (a2.length:Int)),(28,iv v28)] H (F)):∀ (a0 a1:Int) (a2:List Bool) (Aa2:Option Addr) (ca2:Nat) (v28 v_passed9:Int) ,Rw Kd.bool H F Aa2 a2→a2.length≤ca2→trials_Tried.j3 backl2 a0 a1 a2 v28 v_passed9=some r→RunH C34 (S34 F H r) H w0 [.c [1,1,1,1,0,1,0,0,1,1,0,0,1,1,0],.c [1,1,1,1,0,1,0,0,1,1,0,0,1,1,1],.b 1,.c [1,1,1,1,0,1,0,0,1,1,1],.l [1,1,1,1,0,1,0,0],.b 0,.c [1,1,1,1,1]] [(0,iv a0),(1,iv a1),(9,iv v_passed9),(10,iv v28),(26,.slice Aa2 a2.length ca2),(27,iv (a2.length:Int)),(28,iv v28)] H (F):=by
 intro a0 a1 a2 Aa2 ca2 v28 v_passed9 hra2 hca2 heq
 unfold trials_Tried.j3 at heq
 refine Sa 0<|Zd 3<|An 2 ?_
 obtain ⟨t2,ht2,heq⟩:=bind_some heq
 have K2:RunH C34 (S34 F H r) H w0 [.c [1,1,1,1,0,1,0,0,1,1,0,0,1,1,1,0,1],.b 2,.b 1,.c [1,1,1,1,0,1,0,0,1,1,1],.l [1,1,1,1,0,1,0,0],.b 0,.c [1,1,1,1,1]] [(0,iv a0),(1,iv a1),(9,iv v_passed9),(12,iv (w64 (v28+1))),(26,.slice Aa2 a2.length ca2),(27,iv (a2.length:Int)),(28,iv v28),(38,.bool t2)] H (F):=by
  refine Cb heq ?_ ?_
  ·intro hb6 heq
   refine Sa 1<|Zd 4 ?_
   obtain rfl:=Option.some.inj heq
   exact RunH.done (by kernel_rfl) Tryd.func34 (v:=.tuple #[iv 2,iv (w64 (v28+1)),iv 0]) (by kernel_rfl) ⟨rfl,rfl,rfl⟩
  ·intro hb6 heq
   refine Sa 1<|Zd 4 ?_
   refine Cb heq ?_ ?_
   ·intro hb7 heq
    refine Sa 1<|Zd 4 ?_
    obtain rfl:=Option.some.inj heq
    exact RunH.done (by kernel_rfl) Tryd.func34 (v:=.tuple #[iv 4,iv (w64 (v28+1)),iv 0]) (by kernel_rfl) ⟨rfl,rfl,rfl⟩
   ·intro hb7 heq
    refine Sa 1<|Zd 8 ?_
    refine Cb heq ?_ ?_
    ·intro hb8 heq
     refine Sa 1<|Zd 4 ?_
     obtain rfl:=Option.some.inj heq
     exact RunH.done (by kernel_rfl) Tryd.func34 (v:=.tuple #[iv 3,iv (w64 (v28+1)),iv 0]) (by kernel_rfl) ⟨rfl,rfl,rfl⟩
    ·intro hb8 heq
     refine Sa 3<|Zd 2<|An 1 ?_
     exact Gt 0 [] (hbackl2 a0 a1 a2 _ _ v_passed9 (w64 (v28+1)) hra2 hca2 heq)
 replace heq:=ht2
 refine Sa 0<|Zk 4 ?_
 rcases bool_cases (v_passed9 == a1) with hb5 | hb5
 ·replace heq:=bif_true hb5 heq
  refine Zs 42 (congrArg Value.bool hb5)<|Zk 9 ?_
  obtain rfl:=Option.some.inj heq
  refine Dn ?_
  exact Gt 0 [] (K2)
 ·replace heq:=bif_false hb5 heq
  refine Zs 42 (congrArg Value.bool hb5)<|Zk 9 ?_
  obtain rfl:=Option.some.inj heq
  refine Dn ?_
  exact Gt 0 [] (K2)
theorem trials_Tried.l2_c [GlobI 0 w0] {r:Int × Int × Int} (e1:Int→Option (Int × Int × Int))
  (he1:∀ (a0:Int) ,e1 a0=some r→RunH C34 (S34 F H r) H w0 [.c [1,1,1,1,1,0],.c [1,1,1,1,1,1]] [(0,iv a0)] H (F)):∀ (k:Nat),∀ (a0 a1:Int) (a2:List Bool) (Aa2:Option Addr) (ca2:Nat) (v_passed9 v28:Int) ,Rw Kd.bool H F Aa2 a2→a2.length≤ca2→trials_Tried.l2 e1 k a0 a1 a2 v_passed9 v28=some r→RunH C34 (S34 F H r) H w0 [.c [1,1,1,1,0,1,0,0],.l [1,1,1,1,0,1,0,0],.b 0,.c [1,1,1,1,1]] [(0,iv a0),(1,iv a1),(9,iv v_passed9),(26,.slice Aa2 a2.length ca2),(27,iv (a2.length:Int)),(28,iv v28)] H (F):=by
 intro k
 induction k with
 | zero=>intro a0 a1 a2 Aa2 ca2 v_passed9 v28 hra2 hca2 heq; exact nomatch (show (none:Option (Int × Int × Int))=some r from heq)
 | succ k ihk =>
  intro a0 a1 a2 Aa2 ca2 v_passed9 v28 hra2 hca2 heq
  rw [trials_Tried.l2] at heq
  refine Sa 1<|Zd 1<|An 1 ?_
  refine Cb heq ?_ ?_
  ·intro hb4 heq
   refine Sa 4 ?_
   obtain ⟨x1,hx1,heq⟩:=bind_some heq
   obtain ⟨ha1,cs1,hK1,hcc1⟩:=hra2.get hx1
   obtain rfl:cs1=[.bool x1]:=hK1
   refine Zw 5 [nx ha1 hx1,er hcc1 0 0]<|Sa 2<|Zd 1 ?_
   refine Cb heq ?_ ?_
   ·intro hb9 heq
    refine Sa 0<|Zd 3<|An 1 ?_
    exact Gt 0 [] ((trials_Tried.j3_c (backl2:=(trials_Tried.l2 e1 k)) ihk) a0 a1 a2 _ _ v28 (w64 (v_passed9+1)) hra2 hca2 heq)
   ·intro hb9 heq
    refine An 2 ?_
    exact Gt 0 [] ((trials_Tried.j3_c (backl2:=(trials_Tried.l2 e1 k)) ihk) a0 a1 a2 _ _ v28 v_passed9 hra2 hca2 heq)
  ·intro hb4 heq
   refine An 2 ?_
   exact Gt 0 [] (he1 a0 heq)
theorem trials_Tried_c [GlobI 0 w0] {a0 a1:Int} {a2:List Bool} {Aa2:Option Addr} {na2 ca2:Nat} {r:Int × Int × Int} (heq:trials_Tried.f a0 a1 a2=some r) (hra2:Rw Kd.bool H F Aa2 a2) (hca2:na2≤ca2) (hna2:na2=a2.length):CallsH Tryd.prog 34 #[iv a0,iv a1,.slice Aa2 na2 ca2] H w0 (F) (S34 F H r):=by
 refine Co C34 Tryd.func34 Tryd.ntmps34 ?_
 subst hna2
 unfold trials_Tried.f at heq
 refine Sa 1<|Zd 3<|An 2 ?_
 obtain ⟨t1,ht1,heq⟩:=bind_some heq
 have K1:RunH C34 (S34 F H r) H w0 [.c [1,0,1],.c [1,1]] [(0,iv a0),(1,iv a1),(2,.slice Aa2 a2.length ca2),(21,.bool t1)] H (F):=by
  refine Cb heq ?_ ?_
  ·intro hb2 heq
   refine Sa 1<|Zd 3 ?_
   obtain rfl:=Option.some.inj heq
   exact RunH.done (by kernel_rfl) Tryd.func34 (v:=.tuple #[iv 0,iv 0,iv 1]) (by kernel_rfl) ⟨rfl,rfl,rfl⟩
  ·intro hb2 heq
   refine Sa 3<|Zd 4 ?_
   refine Cb heq ?_ ?_
   ·intro hb3 heq
    refine Sa 1<|Zd 3 ?_
    obtain rfl:=Option.some.inj heq
    exact RunH.done (by kernel_rfl) Tryd.func34 (v:=.tuple #[iv 0,iv 0,iv 3]) (by kernel_rfl) ⟨rfl,rfl,rfl⟩
   ·intro hb3 heq
    refine Sa 2<|Zd 1<|Sa 2<|Zd 3<|An 2 ?_
    exact Gt 0 [] (((trials_Tried.l2_c (e1:=trials_Tried.e1) (trials_Tried.e1_c)) big) a0 a1 a2 _ _ 0 0 hra2 hca2 heq)
 replace heq:=ht1
 refine Sa 0<|Zk 1 ?_
 obtain ⟨y1,hy1,heq⟩:=bind_some heq
 refine RgH.does (cal 14 (trials_within_c hy1 )) ?_
 rintro _ _ _ _ ⟨_,rfl,rfl,rfl,rfl⟩
 refine Zk 4 ?_
 rcases bool_cases (!y1) with hb1 | hb1
 ·replace heq:=bif_true hb1 heq
  refine Zs 16 (congrArg Value.bool hb1)<|Zk 9 ?_
  obtain rfl:=Option.some.inj heq
  refine Dn ?_
  exact Gt 0 [] (K1)
 ·replace heq:=bif_false hb1 heq
  refine Zs 16 (congrArg Value.bool hb1)<|Zk 6 ?_
  obtain ⟨y2,hy2,heq⟩:=bind_some heq
  refine RgH.does (cal 19 (trials_within_c hy2 )) ?_
  rintro _ _ _ _ ⟨_,rfl,rfl,rfl,rfl⟩
  refine Zk 9 ?_
  obtain rfl:=Option.some.inj heq
  refine Dn ?_
  exact Gt 0 [] (K1)
noncomputable def C14:Ctx:={ P:=Tryd.prog,f:=14,N:=20,c:=bodyOf Tryd.f14 }
def S14 (F:List Ch) (H0:Hp) (r:Bool) (v:Value) (H:Hp) (cs:List Ch):Prop:=H0=H∧v=.bool r∧F=cs
theorem smithyardlaw10_awake_c [GlobI 0 w0] {r:Bool} (heq:smithyardlaw10_awake.f=some r):CallsH Tryd.prog 14 (List.toArray []) H w0 (F) (S14 F H r):=by
 refine Co C14 Tryd.func14 Tryd.ntmps14 ?_
 unfold smithyardlaw10_awake.f at heq
 refine Sa 1<|Zd 1<|Sa 1 ?_
 refine RgH.does (DoesH.new (d:=5) (v:=fun g=>.slice (some ⟨g,0,none⟩) 3 3) (o:=fun g=>.cells #[.bool false,.bool true,.bool true] 4 (0,0)) (fun g=>by kernel_rfl)) ?_
 rintro _ _ _ _ ⟨g1,rfl,rfl,rfl⟩
 have ho1:SlOwn Kd.bool 4 H (some ⟨g1,0,none⟩) 3 ([false,true,true]:List Bool) (some (g1,.cells #[.bool false,.bool true,.bool true] 4 (0,0))):=SlOwn.lit (xs:=([false,true,true]:List Bool)) (by kernel_rfl) (Nat.le_of_ble_eq_true (by kernel_rfl)) (Kd.Rep.scalars rfl)
 obtain ⟨y1,hy1,heq⟩:=bind_some heq
 refine RgH.does (cal 6 (trials_Tried_c hy1 (ho1.rw (.head _)) ho1.cap rfl)) ?_
 rintro _ _ _ _ ⟨_,rfl,rfl,rfl,rfl⟩
 refine Zd 9<|An 1 ?_
 obtain ⟨t1,ht1,heq⟩:=bind_some heq
 have K2:RunH C14 (S14 F H r) H w0 [.c [1,1,1]] [(0,.bool t1)] H (F):=by
  obtain rfl:=Option.some.inj heq
  exact RunH.done (by kernel_rfl) Tryd.func14 (v:=.bool t1) (by kernel_rfl) ⟨rfl,rfl,rfl⟩
 replace heq:=ht1
 refine Sa 0<|Zk 3 ?_
 rcases bool_cases (y1.2.2 == 0) with hb1 | hb1
 ·replace heq:=bif_true hb1 heq
  refine Zs 12 (congrArg Value.bool hb1)<|Zk 7 ?_
  rcases bool_cases (y1.1 == 4) with hb2 | hb2
  ·replace heq:=bif_true hb2 heq
   refine Zs 16 (congrArg Value.bool hb2)<|Zk 11 ?_
   obtain rfl:=Option.some.inj heq
   refine Dn ?_
   exact Gt 1 [] (K2)
  ·replace heq:=bif_false hb2 heq
   refine Zs 16 (congrArg Value.bool hb2)<|Zk 11 ?_
   obtain rfl:=Option.some.inj heq
   refine Dn ?_
   exact Gt 1 [] (K2)
 ·replace heq:=bif_false hb1 heq
  refine Zs 12 (congrArg Value.bool hb1)<|Zk 11 ?_
  obtain rfl:=Option.some.inj heq
  refine Dn ?_
  exact Gt 1 [] (K2)
noncomputable def C3:Ctx:={ P:=Tryd.prog,f:=3,N:=80,c:=bodyOf Tryd.f3 }
def S3 (F:List Ch) (H0:Hp) (r:Bool) (v:Value) (H:Hp) (cs:List Ch):Prop:=v=.bool r∧F=cs
theorem smithyardlaw10_TrialsShardsMatchSpec_c [GlobI 0 w0] {a0:Test} {Aa0_1:Option Addr} {na0_1 ca0_1:Nat} {a1:Int} {a2:List (List ByteArray)} {Aa2:Option Addr} {na2 ca2:Nat} {r:Bool} (heq:smithyardlaw10_TrialsShardsMatchSpec.f a0 a1 a2=some r) (hra0_1:Rw kTestCase H0 F Aa0_1 a0.Cases) (hca0_1:na0_1≤ca0_1) (hna0_1:na0_1=a0.Cases.length) (hra2:Rw (Kd.slice Kd.string) H0 F Aa2 a2) (hca2:na2≤ca2) (hna2:na2=a2.length):CallsH Tryd.prog 3 #[.agg #[.string a0.Name,.slice Aa0_1 na0_1 ca0_1],iv a1,.slice Aa2 na2 ca2] H0 w0 (F) (S3 F H0 r):=by
 refine Co C3 Tryd.func3 Tryd.ntmps3 ?_
 subst hna0_1
 subst hna2
 unfold smithyardlaw10_TrialsShardsMatchSpec.f at heq
 suffices key:∀ (H:Hp),Rw kTestCase H F Aa0_1 a0.Cases→Rw (Kd.slice Kd.string) H F Aa2 a2→RunH C3 (S3 F H0 r) H0 w0 [.c []] (argL 0 [.agg #[.string a0.Name,.slice Aa0_1 (a0.Cases.length) ca0_1],iv a1,.slice Aa2 (a2.length) ca2]) H (F) from key H0 hra0_1 hra2
 intro H hra0_1 hra2
 refine Sa 1 ?_
 refine RgH.does (DoesH.new (d:=3) (v:=fun g=>.pointer (some ⟨g,0,none⟩)) (o:=fun g=>.cells #[.string a0.Name,.slice Aa0_1 a0.Cases.length ca0_1] 24 (0,0)) (fun g=>by kernel_rfl)) ?_
 rintro _ _ _ _ ⟨g1,rfl,rfl,rfl⟩
 refine Zd 2<|Sa 1<|Zv 1 (bxs 0) ?_
 obtain ⟨y1,hy1,heq⟩:=bind_some heq
 refine RgH.does (cal 16 (smithyardref10_CopyTest_c hy1 (hra0_1.wk (fun _ h=>(.tail _ h))) hca0_1 rfl)) ?_
 rintro _ _ _ _ ⟨_,rfl,A1,c1,ch1,rfl,rfl,rfl,ho1⟩
 refine Zk 3 ?_
 obtain ⟨y2,hy2,heq⟩:=bind_some heq
 refine RgH.does (cal 18 (smithyardref10_CopyRows_c hy2 (hra2.wk (fun _ h=>(.tail _ (.tail _ h)))) hca2 rfl)) ?_
 rintro _ H _ hl ⟨_,rfl,A2,c2,ch2,rfl,rfl,ho2⟩
 replace hra2:=hra2.mono hl
 replace hra0_1:=hra0_1.mono hl
 replace ho1:=ho1.mono hl
 refine RgH.does (DoesH.new (d:=7) (v:=fun g=>.pointer (some ⟨g,0,none⟩)) (o:=fun g=>.cells #[.string ByteArray.empty,.slice none 0 0] 24 (0,0)) (fun g=>by kernel_rfl)) ?_
 rintro _ _ _ _ ⟨g2,rfl,rfl,rfl⟩
 refine RgH.does (DoesH.store (k:=0) (g:=g2) (off:=0) (v:=.agg #[.string y1.Name,.slice A1 y1.Cases.length c1]) (cells':=#[.string y1.Name,.slice A1 y1.Cases.length c1]) (by kernel_rfl) rfl (by kernel_rfl) (by kernel_rfl)) ?_
 rintro _ _ _ _ ⟨rfl,rfl,rfl⟩
 refine RgH.nrm ?_
 refine Zd 7<|Sa 1<|Zv 2 (bxs 3) ?_
 obtain ⟨y3,hy3,heq⟩:=bind_some heq
 refine RgH.does (cal 22 (trials_Shards_c hy3 (hra0_1.wk (fun _ h=>(.tail _ (.tail _ (.tail _ (.tail _ h)))))) hca0_1 rfl)) ?_
 rintro _ H _ hl ⟨_,rfl,A3,c3,ch3,rfl,rfl,ho3⟩
 replace hra2:=hra2.mono hl
 replace hra0_1:=hra0_1.mono hl
 replace ho1:=ho1.mono hl
 replace ho2:=ho2.mono hl
 refine Zd 8<|Sa 1<|Zv 2 (bxs 1) ?_
 obtain ⟨y4,hy4,heq⟩:=bind_some heq
 refine RgH.does (cal 28 (smithyardref10_Shards_c hy4 (ho1.rw (.tail _ (.tail _ (.tail _ (.head _))))) ho1.cap rfl)) ?_
 rintro _ H _ hl ⟨_,rfl,A4,c4,ch4,rfl,rfl,ho4⟩
 replace hra2:=hra2.mono hl
 replace hra0_1:=hra0_1.mono hl
 replace ho1:=ho1.mono hl
 replace ho2:=ho2.mono hl
 replace ho3:=ho3.mono hl
 refine Zd 8<|An 2 ?_
 obtain ⟨t1,ht1,heq⟩:=bind_some heq
 have K7:∀ (H:Hp),Rw kTestCase H F Aa0_1 a0.Cases→Rw (Kd.slice Kd.string) H F Aa2 a2→SlOwn kTestCase 40 H A1 c1 y1.Cases ch1→SlOwn (Kd.slice Kd.string) 41 H A2 c2 y2 ch2→RunH C3 (S3 F H0 r) H0 w0 [.c [1,1,1,1,0,1],.c [1,1,1,1,1]] [(2,.slice Aa2 a2.length ca2),(3,pg g1 0),(7,pg g2 0),(8,.slice A2 y2.length c2),(46,.bool t1)] H ((some (g2,.cells #[.string y1.Name,.slice A1 y1.Cases.length c1] 24 (0,0)))::ch2::ch1::(some (g1,.cells #[.string a0.Name,.slice Aa0_1 a0.Cases.length ca0_1] 24 (0,0)))::F):=by
  intro H hra0_1 hra2 ho1 ho2
  refine Cb heq ?_ ?_
  ·intro hb3 heq
   refine Sa 1<|Zd 1 ?_
   obtain rfl:=Option.some.inj heq
   refine Up 4 [] ?_
   exact RunH.done (by kernel_rfl) Tryd.func3 (v:=.bool false) (by kernel_rfl) ⟨rfl,rfl⟩
  ·intro hb3 heq
   refine Sa 2<|Zv 2 (bxs 3) ?_
   obtain ⟨y8,hy8,heq⟩:=bind_some heq
   refine RgH.does (cal 50 (trials_Longest_c hy8 (hra0_1.wk (fun _ h=>(.tail _ (.tail _ (.tail _ (.tail _ h)))))) hca0_1 rfl (hra2.wk (fun _ h=>(.tail _ (.tail _ (.tail _ (.tail _ h)))))) hca2 rfl)) ?_
   rintro _ _ _ _ ⟨_,rfl,rfl,rfl,rfl⟩
   refine Zd 8<|Sa 1<|Zv 2 (bxs 0) ?_
   obtain ⟨y9,hy9,heq⟩:=bind_some heq
   refine RgH.does (cal 56 (smithyardref10_Longest_c hy9 (ho1.rw (.tail _ (.tail _ (.head _)))) ho1.cap rfl (ho2.rw (.tail _ (.head _))) ho2.cap rfl)) ?_
   rintro _ _ _ _ ⟨_,rfl,rfl,rfl,rfl⟩
   refine Zd 8<|An 1 ?_
   obtain ⟨t2,ht2,heq⟩:=bind_some heq
   have K8:∀ (H:Hp),RunH C3 (S3 F H0 r) H0 w0 [.c [1,1,1,1,1,1,1,1]] [(6,.bool t2)] H (F):=by
    intro H
    obtain rfl:=Option.some.inj heq
    exact RunH.done (by kernel_rfl) Tryd.func3 (v:=.bool t2) (by kernel_rfl) ⟨rfl,rfl⟩
   replace heq:=ht2
   refine Sa 0<|Zk 4 ?_
   rcases bool_cases (y8.2 == y9.2) with hb4 | hb4
   ·replace heq:=bif_true hb4 heq
    refine Zs 62 (congrArg Value.bool hb4)<|Zk 9 ?_
    rcases bool_cases (y8.1 == y9.1) with hb5 | hb5
    ·replace heq:=bif_true hb5 heq
     refine Zs 67 (congrArg Value.bool hb5)<|Zv 11 (bxs 3++bxs 0) ?_
     obtain ⟨y10,hy10,heq⟩:=bind_some heq
     refine RgH.does (cal 70 (smithyardref10_SameTest_c hy10 (hra0_1.wk (fun _ h=>(.tail _ (.tail _ (.tail _ (.tail _ h)))))) hca0_1 rfl (ho1.rw (.tail _ (.tail _ (.head _)))) ho1.cap rfl)) ?_
     rintro _ _ _ _ ⟨_,rfl,rfl,rfl,rfl⟩
     refine Zk 14 ?_
     rcases bool_cases (y10) with hb6 | hb6
     ·replace heq:=bif_true hb6 heq
      refine Zs 72 (congrArg Value.bool hb6)<|Zk 16 ?_
      obtain ⟨y11,hy11,heq⟩:=bind_some heq
      refine RgH.does (cal 75 (smithyardref10_SameRows_c hy11 (hra2.wk (fun _ h=>(.tail _ (.tail _ (.tail _ (.tail _ h)))))) hca2 rfl (ho2.rw (.tail _ (.head _))) ho2.cap rfl)) ?_
      rintro _ _ _ _ ⟨_,rfl,rfl,rfl,rfl⟩
      refine Zk 19 ?_
      rcases bool_cases (y11) with hb7 | hb7
      ·replace heq:=bif_true hb7 heq
       refine Zs 77 (congrArg Value.bool hb7) ?_
       obtain ⟨y12,hy12,heq⟩:=bind_some heq
       refine RgH.does (cal 78 (smithyardlaw10_awake_c hy12 )) ?_
       rintro _ _ _ _ ⟨_,rfl,rfl,rfl,rfl⟩
       refine Zk 22 ?_
       obtain rfl:=Option.some.inj heq
       refine Dn ?_
       exact Gt 4 [] (K8 _)
      ·replace heq:=bif_false hb7 heq
       refine Zs 77 (congrArg Value.bool hb7)<|Zk 22 ?_
       obtain rfl:=Option.some.inj heq
       refine Dn ?_
       exact Gt 4 [] (K8 _)
     ·replace heq:=bif_false hb6 heq
      refine Zs 72 (congrArg Value.bool hb6)<|Zk 22 ?_
      obtain rfl:=Option.some.inj heq
      refine Dn ?_
      exact Gt 4 [] (K8 _)
    ·replace heq:=bif_false hb5 heq
     refine Zs 67 (congrArg Value.bool hb5)<|Zk 22 ?_
     obtain rfl:=Option.some.inj heq
     refine Dn ?_
     exact Gt 4 [] (K8 _)
   ·replace heq:=bif_false hb4 heq
    refine Zs 62 (congrArg Value.bool hb4)<|Zk 22 ?_
    obtain rfl:=Option.some.inj heq
    refine Dn ?_
    exact Gt 4 [] (K8 _)
 replace heq:=ht1
 refine Sd 0 16 [] [3,0,3,0,3,3,3,3,3,3,3,3,3,0,3,3]<|Zr [0,2] 14 (bxs 5++bxs 2) (Pk 6 [0,1,2,3,4,5]) (Pk 6 [0,1,2,3,4,5]) ?_
 obtain ⟨y5,hy5,heq⟩:=bind_some heq
 refine Dz 1 (cal 32 (trials_CheckTest_c hy5 (hra0_1.wk (fun _ h=>(.tail _ (.tail _ (.tail _ (.tail _ (.tail _ (.tail _ h)))))))) hca0_1 rfl)) ?_
 rintro _ _ _ _ ⟨_,rfl,rfl,rfl,rfl⟩
 refine ⟨fun _ w hh=>⟨fun _=>(Pk 6 [0,1,2,3,4,5]) w hh,fun _=>(Pk 6 [0,1,2,3,4,5]) w hh,(fun h=>by cases h)⟩,?_⟩
 obtain ⟨y6,hy6,heq⟩:=bind_some heq
 refine Dz 3 (cal 34 (smithyardref10_CheckTest_c hy6 (ho1.rw (.tail _ (.tail _ (.tail _ (.tail _ (.head _)))))) ho1.cap rfl)) ?_
 rintro _ _ _ _ ⟨_,rfl,rfl,rfl,rfl⟩
 refine ⟨fun _ w hh=>⟨fun _=>(Pk 6 [0,1,2,3,4,5]) w hh,fun _=>(Pk 6 [0,1,2,3,4,5]) w hh,(fun h=>by cases h)⟩,?_⟩
 refine Zr [4,5] 10 [] (Pk 6 [0,1,2,3,4,5]) (Pk 6 [0,1,2,3,4,5]) ?_
 rcases bool_cases (y5 != y6) with hb1 | hb1
 ·replace heq:=bif_true hb1 heq
  refine Zu 36 (congrArg Value.bool hb1)<|Zr [6,7,8,9,10,11,12,13,14,15] 0 [] (Pk 6 [0,1,2,3,4,5]) (Pk 6 [0,1,2,3,4,5]) ?_
  obtain rfl:=Option.some.inj heq
  refine DrH.done (by kernel_rfl) ?_
  exact Gt 2 [] (K7 _ hra0_1 hra2 ho1 ho2)
 ·replace heq:=bif_false hb1 heq
  refine Zu 36 (congrArg Value.bool hb1)<|Zr [6,7,8,9,10] 5 [] (Pk 6 [0,1,2,3,4,5]) (Pk 6 [0,1,2,3,4,5]) ?_
  rcases bool_cases (y3.2 != y4.2) with hb2 | hb2
  ·replace heq:=bif_true hb2 heq
   refine Zu 41 (congrArg Value.bool hb2)<|Zr [11,12,13,14,15] 0 [] (Pk 6 [0,1,2,3,4,5]) (Pk 6 [0,1,2,3,4,5]) ?_
   obtain rfl:=Option.some.inj heq
   refine DrH.done (by kernel_rfl) ?_
   exact Gt 2 [] (K7 _ hra0_1 hra2 ho1 ho2)
  ·replace heq:=bif_false hb2 heq
   refine Zu 41 (congrArg Value.bool hb2)<|Zr [11,12] 3 [] (Pk 6 [0,1,2,3,4,5]) (Pk 6 [0,1,2,3,4,5]) ?_
   obtain ⟨y7,hy7,heq⟩:=bind_some heq
   refine Dz 13 (cal 44 (smithyardref10_SameRows_c hy7 (ho3.rw (.tail _ (.head _))) ho3.cap rfl (ho4.rw (.head _)) ho4.cap rfl)) ?_
   rintro _ _ _ _ ⟨_,rfl,rfl,rfl,rfl⟩
   refine ⟨fun _ w hh=>⟨fun _=>(Pk 6 [0,1,2,3,4,5]) w hh,fun _=>(Pk 6 [0,1,2,3,4,5]) w hh,(fun h=>by cases h)⟩,?_⟩
   refine Zr [14,15] 0 [] (Pk 6 [0,1,2,3,4,5]) (Pk 6 [0,1,2,3,4,5]) ?_
   obtain rfl:=Option.some.inj heq
   refine DrH.done (by kernel_rfl) ?_
   exact Gt 2 [] (K7 _ hra0_1 hra2 ho1 ho2)
end Go.Proofs.YtedkdnhhohcocaaDoor
