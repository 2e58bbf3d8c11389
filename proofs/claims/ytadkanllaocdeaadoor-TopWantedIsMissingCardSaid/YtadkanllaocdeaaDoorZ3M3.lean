/- What the machine's calls of these functions come to: just what the plain functions say. Written by program. -/
import Derived.Test.YtadkanllaocdeaaDoorProg
import Derived.Test.YtadkanllaocdeaaDoorKitX
import Derived.Test.YtadkanllaocdeaaDoorZD
import Derived.Test.YtadkanllaocdeaaDoorShelf
import Derived.Test.YtadkanllaocdeaaDoorKitBs
import Derived.Test.YtadkanllaocdeaaDoorZ3M2
set_option linter.unusedVariables false
set_option linter.unnecessarySimpa false
set_option linter.unusedSimpArgs false
set_option maxRecDepth 100000
set_option maxHeartbeats 1000000
namespace Go.Proofs.YtadkanllaocdeaaDoor
open Go Go.RowKit Go.Proofs.YtadkanllaocdeaaDoor.Kit
noncomputable def C27:Ctx:={ P:=Tryd.prog,f:=27,N:=30,c:=bodyOf Tryd.f27 }
def S27 (F:List Ch) (H0:Hp) (r:(List ByteArray)) (v:Value) (H:Hp) (cs:List Ch):Prop:=∃ (A0:Option Addr) (c0:Nat) (ch0:Ch),H0=H∧v=.slice A0 r.length c0∧ch0::F=cs∧SlOwn Kd.string 9 H A0 c0 r ch0
theorem cache_missing.e1_c {w0:World} {H:Hp} {F:List Ch} {r:(List ByteArray)}:∀ (v_out5:List ByteArray) (Av_out5:Option Addr) (nv_out5:Nat) (cv_out5:Nat) (chv_out5:Ch) ,SlOwn Kd.string 9 H Av_out5 cv_out5 v_out5 chv_out5→nv_out5=v_out5.length→cache_missing.e1 v_out5=some r→RunH C27 (S27 F H r) H w0 [.c [1,1,1,0],.c [1,1,1,1]] [(5,.slice Av_out5 nv_out5 cv_out5)] H (chv_out5::F):=by
 intro v_out5 Av_out5 nv_out5 cv_out5 chv_out5 hov_out5 hnv_out5 heq
 subst hnv_out5
 unfold cache_missing.e1 at heq
 refine Rr<|Rd 2 [4] [(4,.slice Av_out5 v_out5.length cv_out5)] ?_
 obtain rfl:=Option.some.inj heq
 exact RunH.done (by kernel_rfl) Tryd.func27 (v:=.slice Av_out5 v_out5.length cv_out5) (by kernel_rfl) ⟨Av_out5,cv_out5,chv_out5,rfl,rfl,rfl,hov_out5⟩
theorem cache_missing.j3_c {w0:World} {H:Hp} {F:List Ch} {r:(List ByteArray)} (backl2:Cache→(List ByteArray)→(List ByteArray)→Int→Option (List ByteArray))
  (hbackl2:∀ (a0:Cache) (Aa0_2:Option Addr) (ca0_2:Nat) (Aa0_3:Option Addr) (ca0_3:Nat) (a1:List ByteArray) (Aa1:Option Addr) (ca1:Nat) (g1:Nat) (v_out5:List ByteArray) (Av_out5:Option Addr) (nv_out5:Nat) (cv_out5:Nat) (chv_out5:Ch) (v12:Int) ,Rw kBlob H F Aa0_2 a0.Blobs→a0.Blobs.length≤ca0_2→Rw kEntry H F Aa0_3 a0.Entries→a0.Entries.length≤ca0_3→Rw Kd.string H F Aa1 a1→a1.length≤ca1→SlOwn Kd.string 9 H Av_out5 cv_out5 v_out5 chv_out5→nv_out5=v_out5.length→backl2 a0 a1 v_out5 v12=some r→RunH C27 (S27 F H r) H w0 [.c [1,1,0,1,0,0],.l [1,1,0,1,0,0],.b 0,.c [1,1,1]] [(2,pg g1 0),(5,.slice Av_out5 nv_out5 cv_out5),(10,.slice Aa1 a1.length ca1),(11,iv (a1.length:Int)),(12,iv v12)] H (chv_out5::(some (g1,.cells #[iv a0.Room,iv a0.Lease,.slice Aa0_2 a0.Blobs.length ca0_2,.slice Aa0_3 a0.Entries.length ca0_3] 25 (0,0)))::F)):∀ (a0:Cache) (Aa0_2:Option Addr) (ca0_2:Nat) (Aa0_3:Option Addr) (ca0_3:Nat) (a1:List ByteArray) (Aa1:Option Addr) (ca1:Nat) (g1:Nat) (v12:Int) (v_out5:List ByteArray) (Av_out5:Option Addr) (nv_out5:Nat) (cv_out5:Nat) (chv_out5:Ch) ,Rw kBlob H F Aa0_2 a0.Blobs→a0.Blobs.length≤ca0_2→Rw kEntry H F Aa0_3 a0.Entries→a0.Entries.length≤ca0_3→Rw Kd.string H F Aa1 a1→a1.length≤ca1→SlOwn Kd.string 9 H Av_out5 cv_out5 v_out5 chv_out5→nv_out5=v_out5.length→cache_missing.j3 backl2 a0 a1 v12 v_out5=some r→RunH C27 (S27 F H r) H w0 [.c [1,1,0,1,0,0,1,1,1],.l [1,1,0,1,0,0],.b 0,.c [1,1,1]] [(2,pg g1 0),(5,.slice Av_out5 nv_out5 cv_out5),(10,.slice Aa1 a1.length ca1),(11,iv (a1.length:Int)),(12,iv v12)] H (chv_out5::(some (g1,.cells #[iv a0.Room,iv a0.Lease,.slice Aa0_2 a0.Blobs.length ca0_2,.slice Aa0_3 a0.Entries.length ca0_3] 25 (0,0)))::F):=by
 intro a0 Aa0_2 ca0_2 Aa0_3 ca0_3 a1 Aa1 ca1 g1 v12 v_out5 Av_out5 nv_out5 cv_out5 chv_out5 hra0_2 hca0_2 hra0_3 hca0_3 hra1 hca1 hov_out5 hnv_out5 heq
 subst hnv_out5
 unfold cache_missing.j3 at heq
 refine Rr<|Rd 2 [2,5,10,11,12] [(2,pg g1 0),(5,.slice Av_out5 v_out5.length cv_out5),(10,.slice Aa1 a1.length ca1),(11,iv (a1.length:Int)),(12,iv (w64 (v12+1)))]<|Ad 1 [.c [1,1,0,1,0,0],.l [1,1,0,1,0,0],.b 0,.c [1,1,1]]<|Kp [2,5,10,11,12] [(2,pg g1 0),(5,.slice Av_out5 v_out5.length cv_out5),(10,.slice Aa1 a1.length ca1),(11,iv (a1.length:Int)),(12,iv (w64 (v12+1)))] ?_
 exact hbackl2 a0 _ _ _ _ a1 _ _ _ v_out5 _ _ _ _ (w64 (v12+1)) hra0_2 hca0_2 hra0_3 hca0_3 hra1 hca1 hov_out5 rfl heq
theorem cache_missing.l2_c {w0:World} {H:Hp} {F:List Ch} {r:(List ByteArray)} (e1:(List ByteArray)→Option (List ByteArray))
  (he1:∀ (v_out5:List ByteArray) (Av_out5:Option Addr) (nv_out5:Nat) (cv_out5:Nat) (chv_out5:Ch) ,SlOwn Kd.string 9 H Av_out5 cv_out5 v_out5 chv_out5→nv_out5=v_out5.length→e1 v_out5=some r→RunH C27 (S27 F H r) H w0 [.c [1,1,1,0],.c [1,1,1,1]] [(5,.slice Av_out5 nv_out5 cv_out5)] H (chv_out5::F)):∀ (k:Nat),∀ (a0:Cache) (Aa0_2:Option Addr) (ca0_2:Nat) (Aa0_3:Option Addr) (ca0_3:Nat) (a1:List ByteArray) (Aa1:Option Addr) (ca1:Nat) (g1:Nat) (v_out5:List ByteArray) (Av_out5:Option Addr) (nv_out5:Nat) (cv_out5:Nat) (chv_out5:Ch) (v12:Int) ,Rw kBlob H F Aa0_2 a0.Blobs→a0.Blobs.length≤ca0_2→Rw kEntry H F Aa0_3 a0.Entries→a0.Entries.length≤ca0_3→Rw Kd.string H F Aa1 a1→a1.length≤ca1→SlOwn Kd.string 9 H Av_out5 cv_out5 v_out5 chv_out5→nv_out5=v_out5.length→cache_missing.l2 e1 k a0 a1 v_out5 v12=some r→RunH C27 (S27 F H r) H w0 [.c [1,1,0,1,0,0],.l [1,1,0,1,0,0],.b 0,.c [1,1,1]] [(2,pg g1 0),(5,.slice Av_out5 nv_out5 cv_out5),(10,.slice Aa1 a1.length ca1),(11,iv (a1.length:Int)),(12,iv v12)] H (chv_out5::(some (g1,.cells #[iv a0.Room,iv a0.Lease,.slice Aa0_2 a0.Blobs.length ca0_2,.slice Aa0_3 a0.Entries.length ca0_3] 25 (0,0)))::F):=by
 intro k
 induction k with
 | zero=>intro a0 Aa0_2 ca0_2 Aa0_3 ca0_3 a1 Aa1 ca1 g1 v_out5 Av_out5 nv_out5 cv_out5 chv_out5 v12 hra0_2 hca0_2 hra0_3 hca0_3 hra1 hca1 hov_out5 hnv_out5 heq; exact nomatch (show (none:Option (List ByteArray))=some r from heq)
 | succ k ihk =>
  intro a0 Aa0_2 ca0_2 Aa0_3 ca0_3 a1 Aa1 ca1 g1 v_out5 Av_out5 nv_out5 cv_out5 chv_out5 v12 hra0_2 hca0_2 hra0_3 hca0_3 hra1 hca1 hov_out5 hnv_out5 heq
  subst hnv_out5
  rw [cache_missing.l2] at heq
  refine Ra 1 [1,1,0,1,0,0,0] [.c [1,1,0,1,0,0,1],.l [1,1,0,1,0,0],.b 0,.c [1,1,1]]<|Rd 1 [2,5,10,11,12,13] [(2,pg g1 0),(5,.slice Av_out5 v_out5.length cv_out5),(10,.slice Aa1 a1.length ca1),(11,iv (a1.length:Int)),(12,iv v12),(13,.bool (decide (v12<(a1.length:Int))))]<|Ad 1 [.c [1,1,0,1,0,0,1,0],.c [1,1,0,1,0,0,1,1],.l [1,1,0,1,0,0],.b 0,.c [1,1,1]] ?_
  rcases bool_cases (decide (v12<(a1.length:Int))) with hb1 | hb1
  ·replace heq:=bif_true hb1 heq
   refine Ct (decide (v12<(a1.length:Int))) hb1<|Ra 4 [1,1,0,1,0,0,1,1,0,0,0] [.c [1,1,0,1,0,0,1,1,0,0,1],.b 1,.c [1,1,0,1,0,0,1,1,1],.l [1,1,0,1,0,0],.b 0,.c [1,1,1]] ?_
   obtain ⟨x1,hx1,heq⟩:=bind_some heq
   obtain ⟨ha1,cs1,hK1,hcc1⟩:=hra1.get hx1
   obtain rfl:cs1=[.string x1]:=hK1
   refine Rw' 3 [2,5,7,10,11,12] [.string x1] [.need (Aa1=some (adr Aa1)∧(0:Int)≤v12∧v12<((a1.length:Nat):Int)),.load ((adr Aa1).add (v12.toNat*1)) (.string x1)] [(2,pg g1 0),(5,.slice Av_out5 v_out5.length cv_out5),(7,.string x1),(10,.slice Aa1 a1.length ca1),(11,iv (a1.length:Int)),(12,iv v12)] (fun w hh=>⟨⟨ha1,(at?_some hx1).1,(at?_some hx1).2.1⟩,(hcc1 _ _ (hh.drop 2) 0 _ rfl)⟩)<|Ra 1 [1,1,0,1,0,0,1,1,0,0,1,0] [.c [1,1,0,1,0,0,1,1,0,0,1,1],.b 1,.c [1,1,0,1,0,0,1,1,1],.l [1,1,0,1,0,0],.b 0,.c [1,1,1]]<|Rv 2 [2,5,7,10,11,12,17,18] [iv a0.Room,iv a0.Lease,.slice Aa0_2 a0.Blobs.length ca0_2,.slice Aa0_3 a0.Entries.length ca0_3] [.load ⟨g1,0,none⟩ (iv a0.Room),.load ⟨g1,1,none⟩ (iv a0.Lease),.load ⟨g1,2,none⟩ (.slice Aa0_2 a0.Blobs.length ca0_2),.load ⟨g1,3,none⟩ (.slice Aa0_3 a0.Entries.length ca0_3)] [(2,pg g1 0),(5,.slice Av_out5 v_out5.length cv_out5),(7,.string x1),(10,.slice Aa1 a1.length ca1),(11,iv (a1.length:Int)),(12,iv v12),(17,.agg #[iv a0.Room,iv a0.Lease,.slice Aa0_2 a0.Blobs.length ca0_2,.slice Aa0_3 a0.Entries.length ca0_3]),(18,.string x1)] (fun w hh=>⟨(hh.box 1 rfl rfl),(hh.box 1 rfl rfl),(hh.box 1 rfl rfl),(hh.box 1 rfl rfl)⟩) ?_
   obtain ⟨y1,hy1,heq⟩:=bind_some heq
   refine RgH.does (DoesH.call (d:=19) (g:=24) (args:=#[.agg #[iv a0.Room,iv a0.Lease,.slice Aa0_2 a0.Blobs.length ca0_2,.slice Aa0_3 a0.Entries.length ca0_3],.string x1]) (by kernel_rfl) (cache_find_c (a0:=a0) (a1:=x1) (hra0_2.wk (fun _ h=>(.tail _ (.tail _ h)))) hca0_2 rfl (hra0_3.wk (fun _ h=>(.tail _ (.tail _ h)))) hca0_3 rfl hy1)) ?_
   rintro _ _ _ _ ⟨_,rfl,rfl,rfl,rfl⟩
   refine Rd 8 [2,5,7,9,10,11,12] [(2,pg g1 0),(5,.slice Av_out5 v_out5.length cv_out5),(7,.string x1),(9,.bool y1.2),(10,.slice Aa1 a1.length ca1),(11,iv (a1.length:Int)),(12,iv v12)]<|Ra 1 [1,1,0,1,0,0,1,1,0,0,1,1,0] [.c [1,1,0,1,0,0,1,1,0,0,1,1,1],.b 1,.c [1,1,0,1,0,0,1,1,1],.l [1,1,0,1,0,0],.b 0,.c [1,1,1]]<|Rd 2 [2,5,7,10,11,12,23] [(2,pg g1 0),(5,.slice Av_out5 v_out5.length cv_out5),(7,.string x1),(10,.slice Aa1 a1.length ca1),(11,iv (a1.length:Int)),(12,iv v12),(23,.bool (!y1.2))] ?_
   rcases bool_cases (!y1.2) with hb2 | hb2
   ·replace heq:=bif_true hb2 heq
    refine Ct (!y1.2) hb2<|Rr<|Rk 2 [2,10,11,12,24,25] [(2,pg g1 0),(10,.slice Aa1 a1.length ca1),(11,iv (a1.length:Int)),(12,iv v12),(24,.slice Av_out5 v_out5.length cv_out5),(25,.string x1)] ?_
    refine RgH.does (DoesH.new (d:=26) (v:=fun g=>.slice (some ⟨g,0,none⟩) 1 1) (o:=fun g=>.cells #[.string x1] 9 (0,0)) (fun g=>by kernel_rfl)) ?_
    rintro _ _ _ _ ⟨g2,rfl,rfl,rfl⟩
    have ho1:SlOwn Kd.string 9 H (some ⟨g2,0,none⟩) 1 ([x1]:List ByteArray) (some (g2,.cells #[.string x1] 9 (0,0))):=SlOwn.lit (xs:=([x1]:List ByteArray)) (by kernel_rfl) (Nat.le_of_ble_eq_true (by kernel_rfl)) (Kd.Rep.scalars rfl)
    obtain ⟨hn1,heq⟩:=guard?_some heq
    refine RgH.does (DoesH.append (d:=27) (k:=1) (t:=27) (e:=9) (bytes:=16) (kd:=Kd.string) (n:=v_out5.length) (m:=1) (xs:=v_out5) (ys:=([x1]:List ByteArray)) (A:=Av_out5) (B:=(some ⟨g2,0,none⟩)) (c:=cv_out5) (cB:=1) (by kernel_rfl) rfl rfl (by kernel_rfl) rfl hov_out5 (fun w hh=>ho1.rdb (hh.chin 0 rfl)) (room_le hn1) (by have:=room_le hn1; omega)) ?_
    rintro _ _ _ _ ⟨A1,c1,ch1,rfl,rfl,rfl,ho2⟩
    refine Rd 5 [2,5,10,11,12] [(2,pg g1 0),(5,.slice A1 ((v_out5++([x1]:List ByteArray)).length) c1),(10,.slice Aa1 a1.length ca1),(11,iv (a1.length:Int)),(12,iv v12)]<|Ad 1 [.c [1,1,0,1,0,0,1,1,1],.l [1,1,0,1,0,0],.b 0,.c [1,1,1]]<|Kp [2,5,10,11,12] [(2,pg g1 0),(5,.slice A1 ((v_out5++([x1]:List ByteArray)).length) c1),(10,.slice Aa1 a1.length ca1),(11,iv (a1.length:Int)),(12,iv v12)] ?_
    refine RunH.pick 3 [1,2] (cs':=ch1::(some (g1,.cells #[iv a0.Room,iv a0.Lease,.slice Aa0_2 a0.Blobs.length ca0_2,.slice Aa0_3 a0.Entries.length ca0_3] 25 (0,0)))::F) (by kernel_rfl) rfl ?_
    exact (cache_missing.j3_c (backl2:=(cache_missing.l2 e1 k)) ihk) a0 _ _ _ _ a1 _ _ _ v12 (v_out5++([x1]:List ByteArray)) _ _ _ _ hra0_2 hca0_2 hra0_3 hca0_3 hra1 hca1 ho2 rfl heq
   ·replace heq:=bif_false hb2 heq
    refine Cf (!y1.2) hb2<|Ad 2 [.c [1,1,0,1,0,0,1,1,1],.l [1,1,0,1,0,0],.b 0,.c [1,1,1]]<|Kp [2,5,10,11,12] [(2,pg g1 0),(5,.slice Av_out5 v_out5.length cv_out5),(10,.slice Aa1 a1.length ca1),(11,iv (a1.length:Int)),(12,iv v12)] ?_
    exact (cache_missing.j3_c (backl2:=(cache_missing.l2 e1 k)) ihk) a0 _ _ _ _ a1 _ _ _ v12 v_out5 _ _ _ _ hra0_2 hca0_2 hra0_3 hca0_3 hra1 hca1 hov_out5 rfl heq
  ·replace heq:=bif_false hb1 heq
   refine Cf (decide (v12<(a1.length:Int))) hb1<|Ad 2 [.c [1,1,1,0],.c [1,1,1,1]]<|Kp [5] [(5,.slice Av_out5 v_out5.length cv_out5)] ?_
   refine RunH.pick 2 [0] (cs':=chv_out5::F) (by kernel_rfl) rfl ?_
   exact he1 v_out5 _ _ _ _ hov_out5 rfl heq
theorem cache_missing_c {w0:World} {H:Hp} {F:List Ch} {a0:Cache} {Aa0_2:Option Addr} {na0_2:Nat} {ca0_2:Nat} {Aa0_3:Option Addr} {na0_3:Nat} {ca0_3:Nat} {a1:List ByteArray} {Aa1:Option Addr} {na1:Nat} {ca1:Nat} {r:(List ByteArray)} (hra0_2:Rw kBlob H F Aa0_2 a0.Blobs) (hca0_2:na0_2≤ca0_2) (hna0_2:na0_2=a0.Blobs.length) (hra0_3:Rw kEntry H F Aa0_3 a0.Entries) (hca0_3:na0_3≤ca0_3) (hna0_3:na0_3=a0.Entries.length) (hra1:Rw Kd.string H F Aa1 a1) (hca1:na1≤ca1) (hna1:na1=a1.length) (heq:cache_missing.f a0 a1=some r):CallsH Tryd.prog 27 #[.agg #[iv a0.Room,iv a0.Lease,.slice Aa0_2 na0_2 ca0_2,.slice Aa0_3 na0_3 ca0_3],.slice Aa1 na1 ca1] H w0 (F) (S27 F H r):=by
 refine calls_of_runH (F:=C27) Tryd.func27 (by kernel_rfl) Tryd.ntmps27 (args:=[.agg #[iv a0.Room,iv a0.Lease,.slice Aa0_2 na0_2 ca0_2,.slice Aa0_3 na0_3 ca0_3],.slice Aa1 na1 ca1]) (by kernel_rfl) ?_
 subst hna0_2
 subst hna0_3
 subst hna1
 unfold cache_missing.f at heq
 refine Ra 1 [0] [.c [1]] ?_
 refine RgH.does (DoesH.new (d:=2) (v:=fun g=>.pointer (some ⟨g,0,none⟩)) (o:=fun g=>.cells #[iv a0.Room,iv a0.Lease,.slice Aa0_2 a0.Blobs.length ca0_2,.slice Aa0_3 a0.Entries.length ca0_3] 25 (0,0)) (fun g=>by kernel_rfl)) ?_
 rintro _ _ _ _ ⟨g1,rfl,rfl,rfl⟩
 refine Rd 2 [1,2] [(1,.slice Aa1 a1.length ca1),(2,pg g1 0)]<|Ra 1 [1,0] [.c [1,1]]<|Rd 1 [1,2,5] [(1,.slice Aa1 a1.length ca1),(2,pg g1 0),(5,.slice none 0 0)]<|Ra 2 [1,1,0,0] [.c [1,1,0,1],.c [1,1,1]]<|Rd 3 [2,5,10,11,12] [(2,pg g1 0),(5,.slice none 0 0),(10,.slice Aa1 a1.length ca1),(11,iv (a1.length:Int)),(12,iv 0)]<|Ad 2 [.c [1,1,0,1,0,0],.l [1,1,0,1,0,0],.b 0,.c [1,1,1]]<|RunH.nilc ?_
 have ho3:SlOwn Kd.string 9 H none 0 ([]:List ByteArray) none:=SlOwn.nil
 refine Kp [2,5,10,11,12] [(2,pg g1 0),(5,.slice none 0 0),(10,.slice Aa1 a1.length ca1),(11,iv (a1.length:Int)),(12,iv 0)] ?_
 exact ((cache_missing.l2_c (e1:=cache_missing.e1) (cache_missing.e1_c)) big) a0 _ _ _ _ a1 _ _ _ ([]:List ByteArray) _ _ _ _ 0 hra0_2 hca0_2 hra0_3 hca0_3 hra1 hca1 ho3 rfl heq
noncomputable def C28:Ctx:={ P:=Tryd.prog,f:=28,N:=75,c:=bodyOf Tryd.f28 }
def S28 (F:List Ch) (H0:Hp) (ga0:Nat) (r:CacheAnswer × Int × Cache) (v:Value) (H:Hp) (cs:List Ch):Prop:=∃ (A0_1:Option Addr) (c0_1:Nat) (ch0_1:Ch) (A0_2:Option Addr) (c0_2:Nat) (ch0_2:Ch) (A2_2:Option Addr) (c2_2:Nat) (ch2_2:Ch) (A2_3:Option Addr) (c2_3:Nat) (ch2_3:Ch),H0=H∧v=.tuple #[.agg #[.bool r.1.Done,.slice A0_1 r.1.Missing.length c0_1,.slice A0_2 r.1.Gone.length c0_2],iv r.2.1]∧ch0_1::ch0_2::some (ga0,.cells #[iv r.2.2.Room,iv r.2.2.Lease,.slice A2_2 r.2.2.Blobs.length c2_2,.slice A2_3 r.2.2.Entries.length c2_3] 25 (0,0))::ch2_2::ch2_3::F=cs∧SlOwn Kd.string 9 H A0_1 c0_1 r.1.Missing ch0_1∧SlOwn Kd.string 9 H A0_2 c0_2 r.1.Gone ch0_2∧SlOwn kBlob 29 H A2_2 c2_2 r.2.2.Blobs ch2_2∧SlOwn kEntry 57 H A2_3 c2_3 r.2.2.Entries ch2_3
theorem cache_pin.j1_c {w0:World} {H:Hp} {F:List Ch} {r:CacheAnswer × Int × Cache}:∀ (ga0:Nat) (a0:Cache) (Aa0_3:Option Addr) (ca0_3:Nat) (cha0_3:Ch) (g2:Nat) (v_c0_2:List Blob) (Av_c0_2:Option Addr) (nv_c0_2:Nat) (cv_c0_2:Nat) (chv_c0_2:Ch) ,SlOwn kEntry 57 H Aa0_3 ca0_3 a0.Entries cha0_3→SlOwn kBlob 29 H Av_c0_2 cv_c0_2 v_c0_2 chv_c0_2→nv_c0_2=v_c0_2.length→cache_pin.j1 a0 v_c0_2=some r→RunH C28 (S28 F H ga0 r) H w0 [.c [1,1,1,0],.c [1,1,1,1]] [(0,pg ga0 0),(4,pg g2 0)] H ((some (g2,.cells #[.bool false,.slice none 0 0,.slice none 0 0] 36 (0,0)))::(some (ga0,.cells #[iv a0.Room,iv a0.Lease,.slice Av_c0_2 nv_c0_2 cv_c0_2,.slice Aa0_3 a0.Entries.length ca0_3] 25 (0,0)))::chv_c0_2::cha0_3::F):=by
 intro ga0 a0 Aa0_3 ca0_3 cha0_3 g2 v_c0_2 Av_c0_2 nv_c0_2 cv_c0_2 chv_c0_2 hoa0_3 hov_c0_2 hnv_c0_2 heq
 subst hnv_c0_2
 unfold cache_pin.j1 at heq
 refine Rr<|Rk 1 [0,4,74] [(0,pg ga0 0),(4,pg g2 0),(74,.agg #[.bool true,.slice none 0 0,.slice none 0 0])] ?_
 refine RgH.does (DoesH.store (k:=0) (g:=g2) (off:=0) (v:=.agg #[.bool true,.slice none 0 0,.slice none 0 0]) (cells':=#[.bool true,.slice none 0 0,.slice none 0 0]) (by kernel_rfl) rfl (by kernel_rfl) (by kernel_rfl)) ?_
 rintro _ _ _ _ ⟨rfl,rfl,rfl⟩
 refine Rd 3 [0,4,5] [(0,pg ga0 0),(4,pg g2 0),(5,iv 0)]<|RunH.nilc ?_
 have ho3:SlOwn Kd.string 9 H none 0 ([]:List ByteArray) none:=SlOwn.nil
 refine RunH.nilc ?_
 have ho4:SlOwn Kd.string 9 H none 0 ([]:List ByteArray) none:=SlOwn.nil
 obtain rfl:=Option.some.inj heq
 refine RunH.pick 6 [2,1,0,3,4,5] (cs':=(some (g2,.cells #[.bool true,.slice none 0 0,.slice none 0 0] 36 (0,0)))::none::none::(some (ga0,.cells #[iv a0.Room,iv a0.Lease,.slice Av_c0_2 v_c0_2.length cv_c0_2,.slice Aa0_3 a0.Entries.length ca0_3] 25 (0,0)))::chv_c0_2::cha0_3::F) (by kernel_rfl) rfl ?_
 exact RunH.doneM' 1 (vs:=[.agg #[.bool true,.slice none 0 0,.slice none 0 0],iv 0]) (v:=.tuple #[.agg #[.bool true,.slice none 0 0,.slice none 0 0],iv 0]) (by kernel_rfl) Tryd.func28 (fun w hh=>show ResAll _ _ _ [.cell 4 36,.tmp 5] _ from ⟨⟨⟨g2,0,none⟩,by kernel_rfl,trS_run _ (vs:=[.bool true,.slice none 0 0,.slice none 0 0]) (r:=[]) (es:=[.load ⟨g2,0,none⟩ (.bool true),.load ⟨g2,1,none⟩ (.slice none 0 0),.load ⟨g2,2,none⟩ (.slice none 0 0)]) (by kernel_rfl) ⟨(hh.box 0 rfl rfl),(hh.box 0 rfl rfl),(hh.box 0 rfl rfl)⟩⟩,(show lk _ _=some _ by kernel_rfl),trivial⟩) rfl (cs':=none::none::(some (ga0,.cells #[iv a0.Room,iv a0.Lease,.slice Av_c0_2 v_c0_2.length cv_c0_2,.slice Aa0_3 a0.Entries.length ca0_3] 25 (0,0)))::chv_c0_2::cha0_3::F) rfl ⟨none,0,none,none,0,none,Av_c0_2,cv_c0_2,chv_c0_2,Aa0_3,ca0_3,cha0_3,rfl,rfl,rfl,ho3,ho4,hov_c0_2,hoa0_3⟩
theorem cache_pin_c {w0:World} {H:Hp} {F:List Ch} {ga0:Nat} {a0:Cache} {Aa0_2:Option Addr} {na0_2:Nat} {ca0_2:Nat} {cha0_2:Ch} {Aa0_3:Option Addr} {na0_3:Nat} {ca0_3:Nat} {cha0_3:Ch} {a1:CacheEvent} {Aa1_3:Option Addr} {na1_3:Nat} {ca1_3:Nat} {r:CacheAnswer × Int × Cache} (hoa0_2:SlOwn kBlob 29 H Aa0_2 ca0_2 a0.Blobs cha0_2) (hna0_2:na0_2=a0.Blobs.length) (hoa0_3:SlOwn kEntry 57 H Aa0_3 ca0_3 a0.Entries cha0_3) (hna0_3:na0_3=a0.Entries.length) (hra1_3:Rw Kd.string H F Aa1_3 a1.Digests) (hca1_3:na1_3≤ca1_3) (hna1_3:na1_3=a1.Digests.length) (heq:cache_pin.f a0 a1=some r):CallsH Tryd.prog 28 #[.pointer (some ⟨ga0,0,none⟩),.agg #[iv a1.Kind,iv a1.At,.string a1.Digest,.slice Aa1_3 na1_3 ca1_3,.string a1.Key,iv a1.Size]] H w0 ((some (ga0,.cells #[iv a0.Room,iv a0.Lease,.slice Aa0_2 na0_2 ca0_2,.slice Aa0_3 na0_3 ca0_3] 25 (0,0)))::cha0_2::cha0_3::F) (S28 F H ga0 r):=by
 refine calls_of_runH (F:=C28) Tryd.func28 (by kernel_rfl) Tryd.ntmps28 (args:=[.pointer (some ⟨ga0,0,none⟩),.agg #[iv a1.Kind,iv a1.At,.string a1.Digest,.slice Aa1_3 na1_3 ca1_3,.string a1.Key,iv a1.Size]]) (by kernel_rfl) ?_
 subst hna0_2
 subst hna0_3
 subst hna1_3
 unfold cache_pin.f at heq
 refine Ra 1 [0] [.c [1]] ?_
 refine RgH.does (DoesH.new (d:=3) (v:=fun g=>.pointer (some ⟨g,0,none⟩)) (o:=fun g=>.cells #[iv a1.Kind,iv a1.At,.string a1.Digest,.slice Aa1_3 a1.Digests.length ca1_3,.string a1.Key,iv a1.Size] 40 (0,0)) (fun g=>by kernel_rfl)) ?_
 rintro _ _ _ _ ⟨g1,rfl,rfl,rfl⟩
 refine RgH.does (DoesH.new (d:=4) (v:=fun g=>.pointer (some ⟨g,0,none⟩)) (o:=fun g=>.cells #[.bool false,.slice none 0 0,.slice none 0 0] 36 (0,0)) (fun g=>by kernel_rfl)) ?_
 rintro _ _ _ _ ⟨g2,rfl,rfl,rfl⟩
 refine Rd 3 [0,3,4] [(0,pg ga0 0),(3,pg g1 0),(4,pg g2 0)]<|Ad 1 [.c [1,0],.c [1,1]]<|Kp [0,3,4] [(0,pg ga0 0),(3,pg g1 0),(4,pg g2 0)] ?_
 refine RunH.draw (fun w=>Heap H w0 w ((some (g2,.cells #[.bool false,.slice none 0 0,.slice none 0 0] 36 (0,0)))::(some (g1,.cells #[iv a1.Kind,iv a1.At,.string a1.Digest,.slice Aa1_3 a1.Digests.length ca1_3,.string a1.Key,iv a1.Size] 40 (0,0)))::(some (ga0,.cells #[iv a0.Room,iv a0.Lease,.slice Aa0_2 a0.Blobs.length ca0_2,.slice Aa0_3 a0.Entries.length ca0_3] 25 (0,0)))::cha0_2::cha0_3::F)) (fun w=>Heap H w0 w ((some (g2,.cells #[.bool false,.slice none 0 0,.slice none 0 0] 36 (0,0)))::(some (g1,.cells #[iv a1.Kind,iv a1.At,.string a1.Digest,.slice Aa1_3 a1.Digests.length ca1_3,.string a1.Key,iv a1.Size] 40 (0,0)))::(some (ga0,.cells #[iv a0.Room,iv a0.Lease,.slice Aa0_2 a0.Blobs.length ca0_2,.slice Aa0_3 a0.Entries.length ca0_3] 25 (0,0)))::cha0_2::cha0_3::F)) [3,3,3,3,3,0,3,3,3,3,3] (n:=11) (ls:=[false,false,false,false,false,false,false,false,false,false,false]) (by kernel_rfl) (by kernel_rfl) (by kernel_rfl) rfl ?_
 refine Dk [0,1,2,3,4] 6 (nb 11 31) [iv a0.Room,iv a0.Lease,.slice Aa0_2 a0.Blobs.length ca0_2,.slice Aa0_3 a0.Entries.length ca0_3,.string a1.Digest] [.load ⟨ga0,0,none⟩ (iv a0.Room),.load ⟨ga0,1,none⟩ (iv a0.Lease),.load ⟨ga0,2,none⟩ (.slice Aa0_2 a0.Blobs.length ca0_2),.load ⟨ga0,3,none⟩ (.slice Aa0_3 a0.Entries.length ca0_3),.load ⟨g1,2,none⟩ (.string a1.Digest)] [0,3,4,11,13] [(0,pg ga0 0),(3,pg g1 0),(4,pg g2 0),(11,.agg #[iv a0.Room,iv a0.Lease,.slice Aa0_2 a0.Blobs.length ca0_2,.slice Aa0_3 a0.Entries.length ca0_3]),(13,.string a1.Digest)] (Pk 5 [0,1,2,3,4]) (Pk 5 [0,1,2,3,4]) (fun w hh=>⟨(hh.box 2 rfl rfl),(hh.box 2 rfl rfl),(hh.box 2 rfl rfl),(hh.box 2 rfl rfl),(hh.box 1 rfl rfl)⟩) ?_
 obtain ⟨y1,hy1,heq⟩:=bind_some heq
 refine DrH.does (n:=5) (ls':=[true,true,true,true,true,true,false,false,false,false,false]) 5 (by kernel_rfl) rfl (DoesH.call (d:=14) (g:=24) (args:=#[.agg #[iv a0.Room,iv a0.Lease,.slice Aa0_2 a0.Blobs.length ca0_2,.slice Aa0_3 a0.Entries.length ca0_3],.string a1.Digest]) (by kernel_rfl) (cache_find_c (a0:=(⟨a0.Room,a0.Lease,a0.Blobs,a0.Entries⟩:Cache)) (a1:=a1.Digest) (hoa0_2.rw (.tail _ (.tail _ (.tail _ (.head _))))) hoa0_2.cap rfl (hoa0_3.rw (.tail _ (.tail _ (.tail _ (.tail _ (.head _)))))) hoa0_3.cap rfl hy1)) ?_
 rintro _ _ _ _ ⟨_,rfl,rfl,rfl,rfl⟩
 refine ⟨fun _ w hh=>⟨fun _=>(Pk 5 [0,1,2,3,4]) w hh,fun _=>(Pk 5 [0,1,2,3,4]) w hh,(fun h=>by cases h)⟩,?_⟩
 refine Dk [6,7,8,9,10] 0 (nb 11 2047) [] [] [0,3,4,6,7] [(0,pg ga0 0),(3,pg g1 0),(4,pg g2 0),(6,iv y1.1),(7,.bool y1.2)] (Pk 5 [0,1,2,3,4]) (Pk 5 [0,1,2,3,4]) (fun _ _=>trivial) ?_
 refine DrH.done (by kernel_rfl) ?_
 refine Ad 3 [.c [1,1,0,0,0],.c [1,1,0,0,1],.b 0,.c [1,1,1]] ?_
 obtain ⟨t1,ht1,heq⟩:=bind_some heq
 have K6:RunH C28 (S28 F H ga0 r) H w0 [.c [1,1,0,0,1],.b 0,.c [1,1,1]] [(0,pg ga0 0),(3,pg g1 0),(4,pg g2 0),(6,iv y1.1),(28,.bool t1)] H ((some (g2,.cells #[.bool false,.slice none 0 0,.slice none 0 0] 36 (0,0)))::(some (g1,.cells #[iv a1.Kind,iv a1.At,.string a1.Digest,.slice Aa1_3 a1.Digests.length ca1_3,.string a1.Key,iv a1.Size] 40 (0,0)))::(some (ga0,.cells #[iv a0.Room,iv a0.Lease,.slice Aa0_2 a0.Blobs.length ca0_2,.slice Aa0_3 a0.Entries.length ca0_3] 25 (0,0)))::cha0_2::cha0_3::F):=by
  rcases bool_cases (t1) with hb3 | hb3
  ·replace heq:=bif_true hb3 heq
   refine Ct t1 hb3<|Ra 1 [1,1,0,0,1,0,0] [.c [1,1,0,0,1,0,1],.b 0,.c [1,1,1]]<|Rk 1 [0,4,47] [(0,pg ga0 0),(4,pg g2 0),(47,.agg #[.bool false,.slice none 0 0,.slice none 0 0])] ?_
   refine RgH.does (DoesH.store (k:=0) (g:=g2) (off:=0) (v:=.agg #[.bool false,.slice none 0 0,.slice none 0 0]) (cells':=#[.bool false,.slice none 0 0,.slice none 0 0]) (by kernel_rfl) rfl (by kernel_rfl) (by kernel_rfl)) ?_
   rintro _ _ _ _ ⟨rfl,rfl,rfl⟩
   refine Rd 3 [0,4,5] [(0,pg ga0 0),(4,pg g2 0),(5,iv 0)]<|RunH.nilc ?_
   have ho1:SlOwn Kd.string 9 H none 0 ([]:List ByteArray) none:=SlOwn.nil
   refine RunH.nilc ?_
   have ho2:SlOwn Kd.string 9 H none 0 ([]:List ByteArray) none:=SlOwn.nil
   obtain rfl:=Option.some.inj heq
   refine RunH.pick 7 [2,1,0,4,5,6] (cs':=(some (g2,.cells #[.bool false,.slice none 0 0,.slice none 0 0] 36 (0,0)))::none::none::(some (ga0,.cells #[iv a0.Room,iv a0.Lease,.slice Aa0_2 a0.Blobs.length ca0_2,.slice Aa0_3 a0.Entries.length ca0_3] 25 (0,0)))::cha0_2::cha0_3::F) (by kernel_rfl) rfl ?_
   exact RunH.doneM' 1 (vs:=[.agg #[.bool false,.slice none 0 0,.slice none 0 0],iv 0]) (v:=.tuple #[.agg #[.bool false,.slice none 0 0,.slice none 0 0],iv 0]) (by kernel_rfl) Tryd.func28 (fun w hh=>show ResAll _ _ _ [.cell 4 36,.tmp 5] _ from ⟨⟨⟨g2,0,none⟩,by kernel_rfl,trS_run _ (vs:=[.bool false,.slice none 0 0,.slice none 0 0]) (r:=[]) (es:=[.load ⟨g2,0,none⟩ (.bool false),.load ⟨g2,1,none⟩ (.slice none 0 0),.load ⟨g2,2,none⟩ (.slice none 0 0)]) (by kernel_rfl) ⟨(hh.box 0 rfl rfl),(hh.box 0 rfl rfl),(hh.box 0 rfl rfl)⟩⟩,(show lk _ _=some _ by kernel_rfl),trivial⟩) rfl (cs':=none::none::(some (ga0,.cells #[iv a0.Room,iv a0.Lease,.slice Aa0_2 a0.Blobs.length ca0_2,.slice Aa0_3 a0.Entries.length ca0_3] 25 (0,0)))::cha0_2::cha0_3::F) rfl ⟨none,0,none,none,0,none,Aa0_2,ca0_2,cha0_2,Aa0_3,ca0_3,cha0_3,rfl,rfl,rfl,ho1,ho2,hoa0_2,hoa0_3⟩
  ·replace heq:=bif_false hb3 heq
   refine Cf t1 hb3<|Ra 1 [1,1,0,0,1,1,0] [.c [1,1,0,0,1,1,1],.b 0,.c [1,1,1]]<|Rw' 4 [0,4,6,48] [iv a1.Kind] [.load ⟨g1,0,none⟩ (iv a1.Kind)] [(0,pg ga0 0),(4,pg g2 0),(6,iv y1.1),(48,.bool (a1.Kind == 5))] (fun w hh=>(hh.box 1 rfl rfl)) ?_
   rcases bool_cases (a1.Kind == 5) with hb4 | hb4
   ·replace heq:=bif_true hb4 heq
    refine Ct (a1.Kind == 5) hb4<|Rr ?_
    obtain ⟨x2,hx2,heq⟩:=bind_some heq
    obtain ⟨ha2,cs2,hK2,hcc2⟩:=hoa0_2.get hx2
    obtain ⟨rfl⟩:=kBlob_open hK2
    refine Rv 11 [0,4,60,62] [.slice Aa0_2 a0.Blobs.length ca0_2,iv x2.Pins] [.load ⟨ga0,2,none⟩ (.slice Aa0_2 a0.Blobs.length ca0_2),.need (Aa0_2=some (adr Aa0_2)∧(0:Int)≤y1.1∧y1.1<((a0.Blobs.length:Nat):Int)),.load (((adr Aa0_2).add (y1.1.toNat*5)).add 4) (iv x2.Pins),.need (Aa0_2=some (adr Aa0_2)∧(0:Int)≤y1.1∧y1.1<((a0.Blobs.length:Nat):Int))] [(0,pg ga0 0),(4,pg g2 0),(60,iv (w64 (x2.Pins - 1))),(62,.pointer (some (((adr Aa0_2).add (y1.1.toNat*5)).add 4)))] (fun w hh=>⟨(hh.box 2 rfl rfl),⟨ha2,(at?_some hx2).1,(at?_some hx2).2.1⟩,(hcc2 _ (hh.chin 3 rfl) 4 _ rfl),⟨ha2,(at?_some hx2).1,(at?_some hx2).2.1⟩⟩) ?_
    obtain ⟨ha3,cs3,hK3,hcc3⟩:=hoa0_2.get hx2
    obtain ⟨rfl⟩:=kBlob_open hK3
    refine RgH.does (DoesH.storeEl (a:=(((adr Aa0_2).add (y1.1.toNat*5)).add 4)) (k:=3) (kd:=kBlob) (c0:=[.string x2.Digest,iv x2.Size,iv x2.Used,iv x2.Until,iv x2.Pins]) (x':=(⟨x2.Digest,x2.Size,x2.Used,x2.Until,w64 (x2.Pins - 1)⟩:Blob)) (o:=4) (ix:=y1.1) (v:=iv (w64 (x2.Pins - 1))) (by kernel_rfl) rfl hoa0_2 hx2 (by kernel_rfl) hcc3 rfl (Nat.le_of_ble_eq_true (by kernel_rfl)) kBlob_mk) ?_
    rintro _ _ _ _ ⟨ch1,rfl,rfl,rfl,ho5⟩
    have hn1:a0.Blobs.length=(a0.Blobs.set y1.1.toNat (⟨x2.Digest,x2.Size,x2.Used,x2.Until,w64 (x2.Pins - 1)⟩:Blob)).length:=by rw [List.length_set]
    refine Dn<|Ad 2 [.c [1,1,1,0],.c [1,1,1,1]]<|Kp [0,4] [(0,pg ga0 0),(4,pg g2 0)] ?_
    refine RunH.pick 5 [0,2,3,4] (cs':=(some (g2,.cells #[.bool false,.slice none 0 0,.slice none 0 0] 36 (0,0)))::(some (ga0,.cells #[iv a0.Room,iv a0.Lease,.slice Aa0_2 a0.Blobs.length ca0_2,.slice Aa0_3 a0.Entries.length ca0_3] 25 (0,0)))::ch1::cha0_3::F) (by kernel_rfl) rfl ?_
    exact (cache_pin.j1_c) _ a0 _ _ _ _ (a0.Blobs.set y1.1.toNat (⟨x2.Digest,x2.Size,x2.Used,x2.Until,w64 (x2.Pins - 1)⟩:Blob)) _ _ _ _ hoa0_3 ho5 hn1 heq
   ·replace heq:=bif_false hb4 heq
    refine Cf (a1.Kind == 5) hb4<|Ra 1 [1,1,0,0,1,1,1,1,0] [.c [1,1,0,0,1,1,1,1,1],.b 0,.c [1,1,1]] ?_
    obtain ⟨x3,hx3,heq⟩:=bind_some heq
    obtain ⟨ha4,cs4,hK4,hcc4⟩:=hoa0_2.get hx3
    obtain ⟨rfl⟩:=kBlob_open hK4
    refine Rw' 10 [0,4,6,63] [.slice Aa0_2 a0.Blobs.length ca0_2,iv x3.Pins] [.load ⟨ga0,2,none⟩ (.slice Aa0_2 a0.Blobs.length ca0_2),.need (Aa0_2=some (adr Aa0_2)∧(0:Int)≤y1.1∧y1.1<((a0.Blobs.length:Nat):Int)),.load (((adr Aa0_2).add (y1.1.toNat*5)).add 4) (iv x3.Pins)] [(0,pg ga0 0),(4,pg g2 0),(6,iv y1.1),(63,.bool (decide (3000≤x3.Pins)))] (fun w hh=>⟨(hh.box 2 rfl rfl),⟨ha4,(at?_some hx3).1,(at?_some hx3).2.1⟩,(hcc4 _ (hh.chin 3 rfl) 4 _ rfl)⟩) ?_
    rcases bool_cases (decide (3000≤x3.Pins)) with hb5 | hb5
    ·replace heq:=bif_true hb5 heq
     refine Ct (decide (3000≤x3.Pins)) hb5<|Ra 1 [1,1,0,0,1,1,1,1,1,0,0] [.c [1,1,0,0,1,1,1,1,1,0,1],.b 0,.c [1,1,1]]<|Rk 1 [0,4,73] [(0,pg ga0 0),(4,pg g2 0),(73,.agg #[.bool false,.slice none 0 0,.slice none 0 0])] ?_
     refine RgH.does (DoesH.store (k:=0) (g:=g2) (off:=0) (v:=.agg #[.bool false,.slice none 0 0,.slice none 0 0]) (cells':=#[.bool false,.slice none 0 0,.slice none 0 0]) (by kernel_rfl) rfl (by kernel_rfl) (by kernel_rfl)) ?_
     rintro _ _ _ _ ⟨rfl,rfl,rfl⟩
     refine Rd 3 [0,4,5] [(0,pg ga0 0),(4,pg g2 0),(5,iv 16)]<|RunH.nilc ?_
     have ho6:SlOwn Kd.string 9 H none 0 ([]:List ByteArray) none:=SlOwn.nil
     refine RunH.nilc ?_
     have ho7:SlOwn Kd.string 9 H none 0 ([]:List ByteArray) none:=SlOwn.nil
     obtain rfl:=Option.some.inj heq
     refine RunH.pick 7 [2,1,0,4,5,6] (cs':=(some (g2,.cells #[.bool false,.slice none 0 0,.slice none 0 0] 36 (0,0)))::none::none::(some (ga0,.cells #[iv a0.Room,iv a0.Lease,.slice Aa0_2 a0.Blobs.length ca0_2,.slice Aa0_3 a0.Entries.length ca0_3] 25 (0,0)))::cha0_2::cha0_3::F) (by kernel_rfl) rfl ?_
     exact RunH.doneM' 1 (vs:=[.agg #[.bool false,.slice none 0 0,.slice none 0 0],iv 16]) (v:=.tuple #[.agg #[.bool false,.slice none 0 0,.slice none 0 0],iv 16]) (by kernel_rfl) Tryd.func28 (fun w hh=>show ResAll _ _ _ [.cell 4 36,.tmp 5] _ from ⟨⟨⟨g2,0,none⟩,by kernel_rfl,trS_run _ (vs:=[.bool false,.slice none 0 0,.slice none 0 0]) (r:=[]) (es:=[.load ⟨g2,0,none⟩ (.bool false),.load ⟨g2,1,none⟩ (.slice none 0 0),.load ⟨g2,2,none⟩ (.slice none 0 0)]) (by kernel_rfl) ⟨(hh.box 0 rfl rfl),(hh.box 0 rfl rfl),(hh.box 0 rfl rfl)⟩⟩,(show lk _ _=some _ by kernel_rfl),trivial⟩) rfl (cs':=none::none::(some (ga0,.cells #[iv a0.Room,iv a0.Lease,.slice Aa0_2 a0.Blobs.length ca0_2,.slice Aa0_3 a0.Entries.length ca0_3] 25 (0,0)))::cha0_2::cha0_3::F) rfl ⟨none,0,none,none,0,none,Aa0_2,ca0_2,cha0_2,Aa0_3,ca0_3,cha0_3,rfl,rfl,rfl,ho6,ho7,hoa0_2,hoa0_3⟩
    ·replace heq:=bif_false hb5 heq
     refine Cf (decide (3000≤x3.Pins)) hb5<|Rr ?_
     obtain ⟨x4,hx4,heq⟩:=bind_some heq
     obtain ⟨ha5,cs5,hK5,hcc5⟩:=hoa0_2.get hx4
     obtain ⟨rfl⟩:=kBlob_open hK5
     refine Rv 11 [0,4,25,27] [.slice Aa0_2 a0.Blobs.length ca0_2,iv x4.Pins] [.load ⟨ga0,2,none⟩ (.slice Aa0_2 a0.Blobs.length ca0_2),.need (Aa0_2=some (adr Aa0_2)∧(0:Int)≤y1.1∧y1.1<((a0.Blobs.length:Nat):Int)),.load (((adr Aa0_2).add (y1.1.toNat*5)).add 4) (iv x4.Pins),.need (Aa0_2=some (adr Aa0_2)∧(0:Int)≤y1.1∧y1.1<((a0.Blobs.length:Nat):Int))] [(0,pg ga0 0),(4,pg g2 0),(25,iv (w64 (x4.Pins+1))),(27,.pointer (some (((adr Aa0_2).add (y1.1.toNat*5)).add 4)))] (fun w hh=>⟨(hh.box 2 rfl rfl),⟨ha5,(at?_some hx4).1,(at?_some hx4).2.1⟩,(hcc5 _ (hh.chin 3 rfl) 4 _ rfl),⟨ha5,(at?_some hx4).1,(at?_some hx4).2.1⟩⟩) ?_
     obtain ⟨ha6,cs6,hK6,hcc6⟩:=hoa0_2.get hx4
     obtain ⟨rfl⟩:=kBlob_open hK6
     refine RgH.does (DoesH.storeEl (a:=(((adr Aa0_2).add (y1.1.toNat*5)).add 4)) (k:=3) (kd:=kBlob) (c0:=[.string x4.Digest,iv x4.Size,iv x4.Used,iv x4.Until,iv x4.Pins]) (x':=(⟨x4.Digest,x4.Size,x4.Used,x4.Until,w64 (x4.Pins+1)⟩:Blob)) (o:=4) (ix:=y1.1) (v:=iv (w64 (x4.Pins+1))) (by kernel_rfl) rfl hoa0_2 hx4 (by kernel_rfl) hcc6 rfl (Nat.le_of_ble_eq_true (by kernel_rfl)) kBlob_mk) ?_
     rintro _ _ _ _ ⟨ch2,rfl,rfl,rfl,ho8⟩
     have hn2:a0.Blobs.length=(a0.Blobs.set y1.1.toNat (⟨x4.Digest,x4.Size,x4.Used,x4.Until,w64 (x4.Pins+1)⟩:Blob)).length:=by rw [List.length_set]
     refine Dn<|Ad 2 [.c [1,1,1,0],.c [1,1,1,1]]<|Kp [0,4] [(0,pg ga0 0),(4,pg g2 0)] ?_
     refine RunH.pick 5 [0,2,3,4] (cs':=(some (g2,.cells #[.bool false,.slice none 0 0,.slice none 0 0] 36 (0,0)))::(some (ga0,.cells #[iv a0.Room,iv a0.Lease,.slice Aa0_2 a0.Blobs.length ca0_2,.slice Aa0_3 a0.Entries.length ca0_3] 25 (0,0)))::ch2::cha0_3::F) (by kernel_rfl) rfl ?_
     exact (cache_pin.j1_c) _ a0 _ _ _ _ (a0.Blobs.set y1.1.toNat (⟨x4.Digest,x4.Size,x4.Used,x4.Until,w64 (x4.Pins+1)⟩:Blob)) _ _ _ _ hoa0_3 ho8 hn2 heq
 replace heq:=ht1
 refine Rr<|Rk 3 [31,0,3,4,6] [(31,.bool (!y1.2)),(0,pg ga0 0),(3,pg g1 0),(4,pg g2 0),(6,iv y1.1)] ?_
 rcases bool_cases (!y1.2) with hb1 | hb1
 ·replace heq:=bif_true hb1 heq
  refine RgH.val1 (v':=.bool true) (congrArg Value.bool hb1) ?_
  refine Rk 19 [0,3,4,6,28] [(0,pg ga0 0),(3,pg g1 0),(4,pg g2 0),(6,iv y1.1),(28,.bool true)] ?_
  obtain rfl:=Option.some.inj heq
  refine Kg [0,3,4,6,28] [(0,pg ga0 0),(3,pg g1 0),(4,pg g2 0),(6,iv y1.1),(28,.bool true)]<|Dn ?_
  exact K6
 ·replace heq:=bif_false hb1 heq
  refine RgH.val1 (v':=.bool false) (congrArg Value.bool hb1) ?_
  refine Rv 7 [35,0,3,4,6,31] [iv a1.Kind] [.load ⟨g1,0,none⟩ (iv a1.Kind)] [(35,.bool (a1.Kind == 5)),(0,pg ga0 0),(3,pg g1 0),(4,pg g2 0),(6,iv y1.1),(31,.bool false)] (fun w hh=>(hh.box 1 rfl rfl)) ?_
  rcases bool_cases (a1.Kind == 5) with hb2 | hb2
  ·replace heq:=bif_true hb2 heq
   refine RgH.val1 (v':=.bool true) (congrArg Value.bool hb2) ?_
   obtain ⟨x1,hx1,heq⟩:=bind_some heq
   obtain ⟨ha1,cs1,hK1,hcc1⟩:=hoa0_2.get hx1
   obtain ⟨rfl⟩:=kBlob_open hK1
   refine Rv 19 [0,3,4,6,28] [.slice Aa0_2 a0.Blobs.length ca0_2,iv x1.Pins] [.load ⟨ga0,2,none⟩ (.slice Aa0_2 a0.Blobs.length ca0_2),.need (Aa0_2=some (adr Aa0_2)∧(0:Int)≤y1.1∧y1.1<((a0.Blobs.length:Nat):Int)),.load (((adr Aa0_2).add (y1.1.toNat*5)).add 4) (iv x1.Pins)] [(0,pg ga0 0),(3,pg g1 0),(4,pg g2 0),(6,iv y1.1),(28,.bool (x1.Pins == 0))] (fun w hh=>⟨(hh.box 2 rfl rfl),⟨ha1,(at?_some hx1).1,(at?_some hx1).2.1⟩,(hcc1 _ (hh.chin 3 rfl) 4 _ rfl)⟩) ?_
   obtain rfl:=Option.some.inj heq
   refine Kg [0,3,4,6,28] [(0,pg ga0 0),(3,pg g1 0),(4,pg g2 0),(6,iv y1.1),(28,.bool (x1.Pins == 0))]<|Dn ?_
   exact K6
  ·replace heq:=bif_false hb2 heq
   refine RgH.val1 (v':=.bool false) (congrArg Value.bool hb2) ?_
   refine Rk 19 [0,3,4,6,28] [(0,pg ga0 0),(3,pg g1 0),(4,pg g2 0),(6,iv y1.1),(28,.bool false)] ?_
   obtain rfl:=Option.some.inj heq
   refine Kg [0,3,4,6,28] [(0,pg ga0 0),(3,pg g1 0),(4,pg g2 0),(6,iv y1.1),(28,.bool false)]<|Dn ?_
   exact K6
noncomputable def C62:Ctx:={ P:=Tryd.prog,f:=62,N:=9,c:=bodyOf Tryd.f62 }
def S62 (F:List Ch) (H0:Hp) (r:Int) (v:Value) (H:Hp) (cs:List Ch):Prop:=H0=H∧v=iv r∧F=cs
theorem cache_entryAt_1_c {w0:World} {H:Hp} {F:List Ch} {a0:Entry} {Aa0_1:Option Addr} {na0_1:Nat} {ca0_1:Nat} {a1:ByteArray} {r:Int} (hra0_1:Rw Kd.string H F Aa0_1 a0.Refs) (hca0_1:na0_1≤ca0_1) (hna0_1:na0_1=a0.Refs.length) (heq:cache_entryAt_1.f a0 a1=some r):CallsH Tryd.prog 62 #[.agg #[.string a0.Key,.slice Aa0_1 na0_1 ca0_1,iv a0.Used],.string a1] H w0 (F) (S62 F H r):=by
 refine calls_of_runH (F:=C62) Tryd.func62 (by kernel_rfl) Tryd.ntmps62 (args:=[.agg #[.string a0.Key,.slice Aa0_1 na0_1 ca0_1,iv a0.Used],.string a1]) (by kernel_rfl) ?_
 subst hna0_1
 unfold cache_entryAt_1.f at heq
 refine Ra 1 [0] [.c [1]] ?_
 refine RgH.does (DoesH.new (d:=2) (v:=fun g=>.pointer (some ⟨g,0,none⟩)) (o:=fun g=>.cells #[.string a0.Key,.slice Aa0_1 a0.Refs.length ca0_1,iv a0.Used] 57 (0,0)) (fun g=>by kernel_rfl)) ?_
 rintro _ _ _ _ ⟨g1,rfl,rfl,rfl⟩
 refine Rd 2 [1,2] [(1,.string a1),(2,pg g1 0)]<|Ra 1 [1,0] [.c [1,1]]<|Rv 3 [6,7] [.string a0.Key] [.load ⟨g1,0,none⟩ (.string a0.Key)] [(6,.string a0.Key),(7,.string a1)] (fun w hh=>(hh.box 0 rfl rfl)) ?_
 obtain ⟨y1,hy1,heq⟩:=bind_some heq
 refine RgH.does (DoesH.call (d:=8) (g:=43) (args:=#[.string a0.Key,.string a1]) (by kernel_rfl) (strings_Compare_c (a0:=a0.Key) (a1:=a1)  hy1)) ?_
 rintro _ _ _ _ ⟨_,rfl,rfl,rfl,rfl⟩
 refine Rd 5 [4] [(4,iv y1)] ?_
 obtain rfl:=Option.some.inj heq
 refine RunH.pick 1 [] (cs':=F) (by kernel_rfl) rfl ?_
 exact RunH.done (by kernel_rfl) Tryd.func62 (v:=iv y1) (by kernel_rfl) ⟨rfl,rfl,rfl⟩
noncomputable def C61:Ctx:={ P:=Tryd.prog,f:=61,N:=49,c:=bodyOf Tryd.f61 }
def S61 (F:List Ch) (H0:Hp) (r:Int × Bool) (v:Value) (H:Hp) (cs:List Ch):Prop:=H0=H∧v=.tuple #[iv r.1,.bool r.2]∧F=cs
theorem slices_BinarySearchFunc_Entry_string.e1_c {w0:World} {H:Hp} {F:List Ch} {r:Int × Bool}:∀ (a0:List Entry) (Aa0:Option Addr) (ca0:Nat) (a1:ByteArray) (v_i9:Int) ,Rw kEntry H F Aa0 a0→a0.length≤ca0→slices_BinarySearchFunc_Entry_string.e1 a0 a1 v_i9=some r→RunH C61 (S61 F H r) H w0 [.c [1,1,1,1,0],.c [1,1,1,1,1]] [(0,.slice Aa0 a0.length ca0),(1,.string a1),(2,.func (.func 62) #[] #[]),(8,iv (a0.length:Int)),(9,iv v_i9)] H (F):=by
 intro a0 Aa0 ca0 a1 v_i9 hra0 hca0 heq
 unfold slices_BinarySearchFunc_Entry_string.e1 at heq
 obtain ⟨t1,ht1,heq⟩:=bind_some heq
 have K1:RunH C61 (S61 F H r) H w0 [.c [1,1,1,1,1]] [(6,iv v_i9),(7,.bool t1)] H (F):=by
  obtain rfl:=Option.some.inj heq
  exact RunH.done (by kernel_rfl) Tryd.func61 (v:=.tuple #[iv v_i9,.bool t1]) (by kernel_rfl) ⟨rfl,rfl,rfl⟩
 replace heq:=ht1
 refine Rr<|Rk 5 [39,0,1,2,9,35] [(39,.bool (decide (v_i9<(a0.length:Int)))),(0,.slice Aa0 a0.length ca0),(1,.string a1),(2,.func (.func 62) #[] #[]),(9,iv v_i9),(35,iv v_i9)] ?_
 rcases bool_cases (decide (v_i9<(a0.length:Int))) with hb1 | hb1
 ·replace heq:=bif_true hb1 heq
  refine RgH.val1 (v':=.bool true) (congrArg Value.bool hb1) ?_
  obtain ⟨x1,hx1,heq⟩:=bind_some heq
  obtain ⟨ha1,cs1,hK1,hcc1⟩:=hra0.get hx1
  obtain ⟨A1,c1,rfl,hc1,hr1⟩:=kEntry_open hK1
  refine Rv 11 [35,39,40,44,45] [.string x1.Key,.slice A1 x1.Refs.length c1,iv x1.Used] [.need (Aa0=some (adr Aa0)∧(0:Int)≤v_i9∧v_i9<((a0.length:Nat):Int)),.load (((adr Aa0).add (v_i9.toNat*3)).add 0) (.string x1.Key),.load (((adr Aa0).add (v_i9.toNat*3)).add 1) (.slice A1 x1.Refs.length c1),.load (((adr Aa0).add (v_i9.toNat*3)).add 2) (iv x1.Used)] [(35,iv v_i9),(39,.bool true),(40,.func (.func 62) #[] #[]),(44,.agg #[.string x1.Key,.slice A1 x1.Refs.length c1,iv x1.Used]),(45,.string a1)] (fun w hh=>⟨⟨ha1,(at?_some hx1).1,(at?_some hx1).2.1⟩,(hcc1 _ _ (hh.drop 0) 0 _ rfl),(hcc1 _ _ (hh.drop 0) 1 _ rfl),(hcc1 _ _ (hh.drop 0) 2 _ rfl)⟩) ?_
  obtain ⟨y1,hy1,heq⟩:=bind_some heq
  refine RgH.does (DoesH.call (d:=46) (g:=62) (args:=#[.agg #[.string x1.Key,.slice A1 x1.Refs.length c1,iv x1.Used],.string a1]) (by kernel_rfl) (cache_entryAt_1_c (a0:=x1) (a1:=a1) (Rw.of hr1) hc1 rfl hy1)) ?_
  rintro _ _ _ _ ⟨_,rfl,rfl,rfl,rfl⟩
  refine Rk 16 [6,7] [(6,iv v_i9),(7,.bool (y1 == 0))] ?_
  obtain rfl:=Option.some.inj heq
  refine Kg [6,7] [(6,iv v_i9),(7,.bool (y1 == 0))]<|Dn ?_
  exact K1
 ·replace heq:=bif_false hb1 heq
  refine RgH.val1 (v':=.bool false) (congrArg Value.bool hb1) ?_
  refine Rk 16 [6,7] [(6,iv v_i9),(7,.bool false)] ?_
  obtain rfl:=Option.some.inj heq
  refine Kg [6,7] [(6,iv v_i9),(7,.bool false)]<|Dn ?_
  exact K1
theorem slices_BinarySearchFunc_Entry_string.l2_c {w0:World} {H:Hp} {F:List Ch} {r:Int × Bool} (e1:(List Entry)→ByteArray→Int→Option (Int × Bool))
  (he1:∀ (a0:List Entry) (Aa0:Option Addr) (ca0:Nat) (a1:ByteArray) (v_i9:Int) ,Rw kEntry H F Aa0 a0→a0.length≤ca0→e1 a0 a1 v_i9=some r→RunH C61 (S61 F H r) H w0 [.c [1,1,1,1,0],.c [1,1,1,1,1]] [(0,.slice Aa0 a0.length ca0),(1,.string a1),(2,.func (.func 62) #[] #[]),(8,iv (a0.length:Int)),(9,iv v_i9)] H (F)):∀ (k:Nat),∀ (a0:List Entry) (Aa0:Option Addr) (ca0:Nat) (a1:ByteArray) (v_i9:Int) (v_j10:Int) ,Rw kEntry H F Aa0 a0→a0.length≤ca0→slices_BinarySearchFunc_Entry_string.l2 e1 k a0 a1 v_i9 v_j10=some r→RunH C61 (S61 F H r) H w0 [.c [1,1,1,0,0,0],.l [1,1,1,0,0,0],.b 0,.c [1,1,1,1]] [(0,.slice Aa0 a0.length ca0),(1,.string a1),(2,.func (.func 62) #[] #[]),(8,iv (a0.length:Int)),(9,iv v_i9),(10,iv v_j10)] H (F):=by
 intro k
 induction k with
 | zero=>intro a0 Aa0 ca0 a1 v_i9 v_j10 hra0 hca0 heq; exact nomatch (show (none:Option (Int × Bool))=some r from heq)
 | succ k ihk =>
  intro a0 Aa0 ca0 a1 v_i9 v_j10 hra0 hca0 heq
  rw [slices_BinarySearchFunc_Entry_string.l2] at heq
  refine Ra 2 [1,1,1,0,0,0,0,0] [.c [1,1,1,0,0,0,0,1],.c [1,1,1,0,0,0,1],.l [1,1,1,0,0,0],.b 0,.c [1,1,1,1]]<|Rd 3 [0,1,2,8,9,10,17] [(0,.slice Aa0 a0.length ca0),(1,.string a1),(2,.func (.func 62) #[] #[]),(8,iv (a0.length:Int)),(9,iv v_i9),(10,iv v_j10),(17,.bool (decide (v_i9<v_j10)))] ?_
  rcases bool_cases (decide (v_i9<v_j10)) with hb2 | hb2
  ·replace heq:=bif_true hb2 heq
   refine Ct (decide (v_i9<v_j10)) hb2<|Ra 3 [1,1,1,0,0,0,1,0,0] [.c [1,1,1,0,0,0,1,0,1],.b 1,.l [1,1,1,0,0,0],.b 0,.c [1,1,1,1]]<|Rw' 7 [0,1,2,8,9,10,11] [] [.need ((0:Int)≤1)] [(0,.slice Aa0 a0.length ca0),(1,.string a1),(2,.func (.func 62) #[] #[]),(8,iv (a0.length:Int)),(9,iv v_i9),(10,iv v_j10),(11,iv (w64 (iShr .u64 (IntKind.wrap .u64 (w64 (v_i9+v_j10))) 1)))] (fun w hh=>(show (0:Int)≤1 by decide))<|Ra 1 [1,1,1,0,0,0,1,0,1,0] [.c [1,1,1,0,0,0,1,0,1,1],.b 1,.l [1,1,1,0,0,0],.b 0,.c [1,1,1,1]] ?_
   obtain ⟨x2,hx2,heq⟩:=bind_some heq
   obtain ⟨ha2,cs2,hK2,hcc2⟩:=hra0.get hx2
   obtain ⟨A2,c2,rfl,hc2,hr2⟩:=kEntry_open hK2
   refine Rv 6 [0,1,2,8,9,10,11,24,28,29] [.string x2.Key,.slice A2 x2.Refs.length c2,iv x2.Used] [.need (Aa0=some (adr Aa0)∧(0:Int)≤(w64 (iShr .u64 (IntKind.wrap .u64 (w64 (v_i9+v_j10))) 1))∧(w64 (iShr .u64 (IntKind.wrap .u64 (w64 (v_i9+v_j10))) 1))<((a0.length:Nat):Int)),.load (((adr Aa0).add ((w64 (iShr .u64 (IntKind.wrap .u64 (w64 (v_i9+v_j10))) 1)).toNat*3)).add 0) (.string x2.Key),.load (((adr Aa0).add ((w64 (iShr .u64 (IntKind.wrap .u64 (w64 (v_i9+v_j10))) 1)).toNat*3)).add 1) (.slice A2 x2.Refs.length c2),.load (((adr Aa0).add ((w64 (iShr .u64 (IntKind.wrap .u64 (w64 (v_i9+v_j10))) 1)).toNat*3)).add 2) (iv x2.Used)] [(0,.slice Aa0 a0.length ca0),(1,.string a1),(2,.func (.func 62) #[] #[]),(8,iv (a0.length:Int)),(9,iv v_i9),(10,iv v_j10),(11,iv (w64 (iShr .u64 (IntKind.wrap .u64 (w64 (v_i9+v_j10))) 1))),(24,.func (.func 62) #[] #[]),(28,.agg #[.string x2.Key,.slice A2 x2.Refs.length c2,iv x2.Used]),(29,.string a1)] (fun w hh=>⟨⟨ha2,(at?_some hx2).1,(at?_some hx2).2.1⟩,(hcc2 _ _ (hh.drop 0) 0 _ rfl),(hcc2 _ _ (hh.drop 0) 1 _ rfl),(hcc2 _ _ (hh.drop 0) 2 _ rfl)⟩) ?_
   obtain ⟨y2,hy2,heq⟩:=bind_some heq
   refine RgH.does (DoesH.call (d:=30) (g:=62) (args:=#[.agg #[.string x2.Key,.slice A2 x2.Refs.length c2,iv x2.Used],.string a1]) (by kernel_rfl) (cache_entryAt_1_c (a0:=x2) (a1:=a1) (Rw.of hr2) hc2 rfl hy2)) ?_
   rintro _ _ _ _ ⟨_,rfl,rfl,rfl,rfl⟩
   refine Rd 8 [0,1,2,8,9,10,11,31] [(0,.slice Aa0 a0.length ca0),(1,.string a1),(2,.func (.func 62) #[] #[]),(8,iv (a0.length:Int)),(9,iv v_i9),(10,iv v_j10),(11,iv (w64 (iShr .u64 (IntKind.wrap .u64 (w64 (v_i9+v_j10))) 1))),(31,.bool (decide (y2<0)))] ?_
   rcases bool_cases (decide (y2<0)) with hb3 | hb3
   ·replace heq:=bif_true hb3 heq
    refine Ct (decide (y2<0)) hb3<|Rr<|Rd 3 [0,1,2,8,9,10] [(0,.slice Aa0 a0.length ca0),(1,.string a1),(2,.func (.func 62) #[] #[]),(8,iv (a0.length:Int)),(9,iv (w64 ((w64 (iShr .u64 (IntKind.wrap .u64 (w64 (v_i9+v_j10))) 1))+1))),(10,iv v_j10)]<|Ad 2 [.c [1,1,1,0,0,0],.l [1,1,1,0,0,0],.b 0,.c [1,1,1,1]]<|Kp [0,1,2,8,9,10] [(0,.slice Aa0 a0.length ca0),(1,.string a1),(2,.func (.func 62) #[] #[]),(8,iv (a0.length:Int)),(9,iv (w64 ((w64 (iShr .u64 (IntKind.wrap .u64 (w64 (v_i9+v_j10))) 1))+1))),(10,iv v_j10)] ?_
    exact ihk a0 _ _ a1 (w64 ((w64 (iShr .u64 (IntKind.wrap .u64 (w64 (v_i9+v_j10))) 1))+1)) v_j10 hra0 hca0 heq
   ·replace heq:=bif_false hb3 heq
    refine Cf (decide (y2<0)) hb3<|Rr<|Rd 2 [0,1,2,8,9,10] [(0,.slice Aa0 a0.length ca0),(1,.string a1),(2,.func (.func 62) #[] #[]),(8,iv (a0.length:Int)),(9,iv v_i9),(10,iv (w64 (iShr .u64 (IntKind.wrap .u64 (w64 (v_i9+v_j10))) 1)))]<|Ad 2 [.c [1,1,1,0,0,0],.l [1,1,1,0,0,0],.b 0,.c [1,1,1,1]]<|Kp [0,1,2,8,9,10] [(0,.slice Aa0 a0.length ca0),(1,.string a1),(2,.func (.func 62) #[] #[]),(8,iv (a0.length:Int)),(9,iv v_i9),(10,iv (w64 (iShr .u64 (IntKind.wrap .u64 (w64 (v_i9+v_j10))) 1)))] ?_
    exact ihk a0 _ _ a1 v_i9 (w64 (iShr .u64 (IntKind.wrap .u64 (w64 (v_i9+v_j10))) 1)) hra0 hca0 heq
  ·replace heq:=bif_false hb2 heq
   refine Cf (decide (v_i9<v_j10)) hb2<|Ad 2 [.c [1,1,1,1,0],.c [1,1,1,1,1]]<|Kp [0,1,2,8,9] [(0,.slice Aa0 a0.length ca0),(1,.string a1),(2,.func (.func 62) #[] #[]),(8,iv (a0.length:Int)),(9,iv v_i9)] ?_
   exact he1 a0 _ _ a1 v_i9 hra0 hca0 heq
theorem slices_BinarySearchFunc_Entry_string_c {w0:World} {H:Hp} {F:List Ch} {a0:List Entry} {Aa0:Option Addr} {na0:Nat} {ca0:Nat} {a1:ByteArray} {r:Int × Bool} (hra0:Rw kEntry H F Aa0 a0) (hca0:na0≤ca0) (hna0:na0=a0.length) (heq:slices_BinarySearchFunc_Entry_string.f a0 a1=some r):CallsH Tryd.prog 61 #[.slice Aa0 na0 ca0,.string a1,.func (.func 62) #[] #[]] H w0 (F) (S61 F H r):=by
 refine calls_of_runH (F:=C61) Tryd.func61 (by kernel_rfl) Tryd.ntmps61 (args:=[.slice Aa0 na0 ca0,.string a1,.func (.func 62) #[] #[]]) (by kernel_rfl) ?_
 subst hna0
 unfold slices_BinarySearchFunc_Entry_string.f at heq
 refine Ra 1 [0] [.c [1]]<|Rd 2 [0,1,2] [(0,.slice Aa0 a0.length ca0),(1,.string a1),(2,.func (.func 62) #[] #[])]<|Ra 1 [1,0] [.c [1,1]]<|Rd 3 [0,1,2,8] [(0,.slice Aa0 a0.length ca0),(1,.string a1),(2,.func (.func 62) #[] #[]),(8,iv (a0.length:Int))]<|Ra 1 [1,1,0] [.c [1,1,1]]<|Rd 3 [0,1,2,8,9,10] [(0,.slice Aa0 a0.length ca0),(1,.string a1),(2,.func (.func 62) #[] #[]),(8,iv (a0.length:Int)),(9,iv 0),(10,iv (a0.length:Int))]<|Ad 3 [.c [1,1,1,0,0,0],.l [1,1,1,0,0,0],.b 0,.c [1,1,1,1]]<|Kp [0,1,2,8,9,10] [(0,.slice Aa0 a0.length ca0),(1,.string a1),(2,.func (.func 62) #[] #[]),(8,iv (a0.length:Int)),(9,iv 0),(10,iv (a0.length:Int))] ?_
 exact ((slices_BinarySearchFunc_Entry_string.l2_c (e1:=slices_BinarySearchFunc_Entry_string.e1) (slices_BinarySearchFunc_Entry_string.e1_c)) big) a0 _ _ a1 0 (a0.length:Int) hra0 hca0 heq
noncomputable def C46:Ctx:={ P:=Tryd.prog,f:=46,N:=12,c:=bodyOf Tryd.f46 }
def S46 (F:List Ch) (H0:Hp) (r:Int × Bool) (v:Value) (H:Hp) (cs:List Ch):Prop:=H0=H∧v=.tuple #[iv r.1,.bool r.2]∧F=cs
theorem cache_entryAt_c {w0:World} {H:Hp} {F:List Ch} {a0:Cache} {Aa0_2:Option Addr} {na0_2:Nat} {ca0_2:Nat} {Aa0_3:Option Addr} {na0_3:Nat} {ca0_3:Nat} {a1:ByteArray} {r:Int × Bool} (hra0_2:Rw kBlob H F Aa0_2 a0.Blobs) (hca0_2:na0_2≤ca0_2) (hna0_2:na0_2=a0.Blobs.length) (hra0_3:Rw kEntry H F Aa0_3 a0.Entries) (hca0_3:na0_3≤ca0_3) (hna0_3:na0_3=a0.Entries.length) (heq:cache_entryAt.f a0 a1=some r):CallsH Tryd.prog 46 #[.agg #[iv a0.Room,iv a0.Lease,.slice Aa0_2 na0_2 ca0_2,.slice Aa0_3 na0_3 ca0_3],.string a1] H w0 (F) (S46 F H r):=by
 refine calls_of_runH (F:=C46) Tryd.func46 (by kernel_rfl) Tryd.ntmps46 (args:=[.agg #[iv a0.Room,iv a0.Lease,.slice Aa0_2 na0_2 ca0_2,.slice Aa0_3 na0_3 ca0_3],.string a1]) (by kernel_rfl) ?_
 subst hna0_2
 subst hna0_3
 unfold cache_entryAt.f at heq
 refine Ra 1 [0] [.c [1]] ?_
 refine RgH.does (DoesH.new (d:=2) (v:=fun g=>.pointer (some ⟨g,0,none⟩)) (o:=fun g=>.cells #[iv a0.Room,iv a0.Lease,.slice Aa0_2 a0.Blobs.length ca0_2,.slice Aa0_3 a0.Entries.length ca0_3] 25 (0,0)) (fun g=>by kernel_rfl)) ?_
 rintro _ _ _ _ ⟨g1,rfl,rfl,rfl⟩
 refine Rd 3 [1,2] [(1,.string a1),(2,pg g1 0)]<|Ra 1 [1,0] [.c [1,1]]<|Rv 3 [7,8] [.slice Aa0_3 a0.Entries.length ca0_3] [.load ⟨g1,3,none⟩ (.slice Aa0_3 a0.Entries.length ca0_3)] [(7,.slice Aa0_3 a0.Entries.length ca0_3),(8,.string a1)] (fun w hh=>(hh.box 0 rfl rfl)) ?_
 obtain ⟨y1,hy1,heq⟩:=bind_some heq
 refine RgH.does (DoesH.call (d:=9) (g:=61) (args:=#[.slice Aa0_3 a0.Entries.length ca0_3,.string a1,.func (.func 62) #[] #[]]) (by kernel_rfl) (slices_BinarySearchFunc_Entry_string_c (a0:=a0.Entries) (a1:=a1) (hra0_3.wk (fun _ h=>(.tail _ h))) hca0_3 rfl hy1)) ?_
 rintro _ _ _ _ ⟨_,rfl,rfl,rfl,rfl⟩
 refine Rd 8 [4,5] [(4,iv y1.1),(5,.bool y1.2)] ?_
 obtain rfl:=Option.some.inj heq
 refine RunH.pick 1 [] (cs':=F) (by kernel_rfl) rfl ?_
 exact RunH.done (by kernel_rfl) Tryd.func46 (v:=.tuple #[iv y1.1,.bool y1.2]) (by kernel_rfl) ⟨rfl,rfl,rfl⟩
noncomputable def C48:Ctx:={ P:=Tryd.prog,f:=48,N:=95,c:=bodyOf Tryd.f48 }
def S48 (F:List Ch) (H0:Hp) (r:List Entry) (v:Value) (H:Hp) (cs:List Ch):Prop:=∃ (A0:Option Addr) (c0:Nat) (ch0:Ch),H0=H∧v=.slice A0 r.length c0∧ch0::F=cs∧SlOwn kEntry 57 H A0 c0 r ch0
theorem slices_Insert_Entry_c {w0:World} {H:Hp} {F:List Ch} {a0:List Entry} {Aa0:Option Addr} {na0 ca0:Nat} {cha0:Ch} {a1:Int} {a2:List Entry} {Aa2:Option Addr} {na2 ca2:Nat} {cha2:Ch} {r:List Entry} (hoa0:SlOwn kEntry 57 H Aa0 ca0 a0 cha0) (hna0:na0=a0.length) (hoa2:SlOwn kEntry 57 H Aa2 ca2 a2 cha2) (hna2:na2=a2.length) (heq:slices_Insert_Entry.f a0 a1 a2=some r):CallsH Tryd.prog 48 #[.slice Aa0 na0 ca0,iv a1,.slice Aa2 na2 ca2] H w0 (cha0::cha2::F) (S48 F H r):=by
 refine calls_of_runH (F:=C48) Tryd.func48 (by kernel_rfl) Tryd.ntmps48 (args:=[.slice Aa0 na0 ca0,iv a1,.slice Aa2 na2 ca2]) (by kernel_rfl) ?_
 subst hna0 hna2
 unfold slices_Insert_Entry.f at heq
 obtain ⟨hn,heq⟩:=guard?_some heq
 obtain rfl:=Option.some.inj heq
 simp only [Bool.and_eq_true,decide_eq_true_eq] at hn
 obtain ⟨h0,h1,h2,h3⟩:=hn
 have h3:=room_le h3
 obtain ⟨I,rfl⟩:∃ I:Nat,a1=(I:Int):=⟨a1.toNat,by omega⟩
 have hI:I≤a0.length:=by omega
 have hbig:a0.length+a2.length≤140737490452480:=by
  have:(a0.length+a2.length)*1≤(a0.length+a2.length)*48:=Nat.mul_le_mul_left _ (by omega)
  omega
 have hw1:w64 ((a0.length:Int)+(a2.length:Int))=((a0.length+a2.length:Nat):Int):=by unfold w64; rw [IntKind.wrap_i64]; omega
 have hw2:w64 ((I:Int)+(a2.length:Int))=((I+a2.length:Nat):Int):=by unfold w64; rw [IntKind.wrap_i64]; omega
 have hw3:w64 (((a0.length+a2.length:Nat):Int) - (I:Int))=((a0.length+a2.length - I:Nat):Int):=by rw [show ((a0.length+a2.length:Nat):Int) - (I:Int)=((a0.length+a2.length - I:Nat):Int) by omega]; unfold w64; rw [IntKind.wrap_i64]; omega
 simp only [Int.toNat_natCast]
 refine Ra 1 [0] [.c [1]]<|Rd 1 [0,1,2] [(0,.slice Aa0 a0.length ca0),(1,iv (I:Int)),(2,.slice Aa2 a2.length ca2)]<|Ra 1 [1,0] [.c [1,1]]<|Rw' 3 [0,1,2] [] [.need ((0:Int)≤(I:Int)∧(I:Int)≤((a0.length:Nat):Int))] [(0,.slice Aa0 a0.length ca0),(1,iv (I:Int)),(2,.slice Aa2 a2.length ca2)] (fun w hh=>⟨h0,h1⟩)<|Ra 1 [1,1,0] [.c [1,1,1]]<|Rd 3 [0,1,2,7] [(0,.slice Aa0 a0.length ca0),(1,iv (I:Int)),(2,.slice Aa2 a2.length ca2),(7,iv (a2.length:Int))]<|Ra 2 [1,1,1,0,0] [.c [1,1,1,0,1],.c [1,1,1,1]]<|Rd 2 [0,1,2,7,16] [(0,.slice Aa0 a0.length ca0),(1,iv (I:Int)),(2,.slice Aa2 a2.length ca2),(7,iv (a2.length:Int)),(16,.bool ((a2.length:Int) == 0))]<|Cf ((a2.length:Int) == 0) (beq_eq_false_iff_ne.2 (by omega))<|Ra 2 [1,1,1,1,0] [.c [1,1,1,1,1]]<|Rd 3 [0,1,2,7,8] [(0,.slice Aa0 a0.length ca0),(1,iv (I:Int)),(2,.slice Aa2 a2.length ca2),(7,iv (a2.length:Int)),(8,iv (a0.length:Int))]<|Ra 2 [1,1,1,1,1,0,0] [.c [1,1,1,1,1,0,1],.c [1,1,1,1,1,1]]<|Rd 3 [0,1,2,7,8,22] [(0,.slice Aa0 a0.length ca0),(1,iv (I:Int)),(2,.slice Aa2 a2.length ca2),(7,iv (a2.length:Int)),(8,iv (a0.length:Int)),(22,.bool ((I:Int) == (a0.length:Int)))] ?_
 rcases bool_cases ((I:Int) == (a0.length:Int)) with hb | hb
 ·have hIn:I=a0.length:=by have:=eq_of_beq hb; omega
  have e:a0.take I++a2++a0.drop I=a0++a2:=by rw [hIn]; simp
  rw [e]
  refine Ct ((I:Int) == (a0.length:Int)) hb<|Ra 1 [1,1,1,1,1,0,1,0,0] [.c [1,1,1,1,1,0,1,0,1],.c [1,1,1,1,1,1]]<|Rk 2 [23,24] [(23,.slice Aa0 a0.length ca0),(24,.slice Aa2 a2.length ca2)] ?_
  refine RgH.does (DoesH.append (d:=25) (k:=0) (t:=23) (e:=57) (bytes:=48) (kd:=kEntry) (n:=a0.length) (m:=a2.length) (xs:=a0) (ys:=a2) (A:=Aa0) (B:=Aa2) (c:=ca0) (cB:=ca2) (by kernel_rfl) rfl rfl (by kernel_rfl) rfl hoa0 (fun w hh=>hoa2.rdb (hh.chin 1 rfl)) h3 (by omega)) ?_
  rintro _ _ _ _ ⟨A1,c1,ch1,rfl,rfl,rfl,ho1⟩
  refine Rd 4 [6] [(6,.slice A1 (a0++a2).length c1)] ?_
  refine RunH.pick 2 [0] (cs':=ch1::F) (by kernel_rfl) rfl ?_
  exact RunH.done (by kernel_rfl) Tryd.func48 (v:=.slice A1 (a0++a2).length c1) (by kernel_rfl) ⟨A1,c1,ch1,rfl,rfl,rfl,ho1⟩
 ·have hIn:I<a0.length:=by have:=beq_eq_false_iff_ne.1 hb; omega
  have hx:a0≠[]:=by intro h; subst h; simp at hIn
  have hy:a2≠[]:=by intro h; subst h; simp at h2
  have hrl:(a0.take I++a2++a0.drop I).length=a0.length+a2.length:=by simp; omega
  rcases hoa0 with ⟨h,_⟩ | ⟨b,off,cells,rfl,rfl,k3,k4,k5,k6⟩
  ·exact absurd h hx
  rcases hoa2 with ⟨h,_⟩ | ⟨vb,voff,vcells,rfl,rfl,q3,q4,q5,q6⟩
  ·exact absurd h hy
  obtain ⟨newsV,v1,v2,v3,v4⟩:=Rep.toList q6
  obtain ⟨newsD,d1,d2,d3,d4⟩:=Rep.toList (Rep.drop k6 I)
  have hsz:(kEntry).sz=3:=rfl
  have hdl:(a0.drop I).length=a0.length - I:=by simp
  rw [hdl] at d1
  rw [hsz] at v1 d1 d2 k5 q5
  refine Cf ((I:Int) == (a0.length:Int)) hb<|Ra 3 [1,1,1,1,1,1,0,0] [.c [1,1,1,1,1,1,0,1],.c [1,1,1,1,1,1,1]]<|Rd 6 [0,1,2,7,8,31] [(0,.slice (some ⟨b,off,none⟩) a0.length ca0),(1,iv (I:Int)),(2,.slice (some ⟨vb,voff,none⟩) a2.length ca2),(7,iv (a2.length:Int)),(8,iv (a0.length:Int)),(31,.bool (decide ((ca0:Int)<w64 ((a0.length:Int)+(a2.length:Int)))))] ?_
  rcases bool_cases (decide ((ca0:Int)<w64 ((a0.length:Int)+(a2.length:Int)))) with hc | hc
  ·have hroom:ca0<a0.length+a2.length:=by rw [hw1] at hc; have:=of_decide_eq_true hc; omega
   refine Ct (decide ((ca0:Int)<w64 ((a0.length:Int)+(a2.length:Int)))) hc<|Ra 1 [1,1,1,1,1,1,0,1,0,0] [.c [1,1,1,1,1,1,0,1,0,1],.c [1,1,1,1,1,1,1]]<|Rv 8 [0,1,2,7,34,39] [] [.need ((0:Int)≤(I:Int)∧(I:Int)≤((ca0:Nat):Int))] [(0,.slice (some ⟨b,off,none⟩) a0.length ca0),(1,iv (I:Int)),(2,.slice (some ⟨vb,voff,none⟩) a2.length ca2),(7,iv (a2.length:Int)),(34,.slice (some ⟨b,off,none⟩) I ca0),(39,iv (w64 (w64 ((a0.length:Int)+(a2.length:Int)) - (I:Int))))] (fun w hh=>⟨h0,by omega⟩) ?_
   have hzq:w64 (w64 ((a0.length:Int)+(a2.length:Int)) - (I:Int))=((a0.length+a2.length - I:Nat):Int):=by rw [hw1,hw3]
   have hrt:Kd.Rep kEntry H cells off (a0.take I):=Rep.take k6 I
   have htl:(a0.take I).length=I:=by simp; omega
   refine RgH.does (DoesH.appendZeros (dd:=40) (kd:=kEntry) (t:=23) (tn:=3) (e:=57) (bytes:=48) (q:=a0.length+a2.length - I) (A:=some ⟨b,off,none⟩) (a:=⟨b,off,none⟩) (c:=ca0) (n:=I) (xs:=a0.take I) (by kernel_rfl) rfl hzq (by kernel_rfl) htl.symm (by kernel_rfl) (fun w hh hne=>⟨b,off,cells,57,(0,0),rfl,hh.chin 0 rfl,hrt⟩) (by omega) (by omega) (by rw [show I+(a0.length+a2.length - I)=a0.length+a2.length by omega]; exact h3) (by omega)) ?_
   rintro _ _ _ _ ⟨g,c',cells2,rfl,rfl,rfl,g1,g2,g3,g4⟩
   rw [hsz] at g3
   refine Rd 10 [0,1,2,7,9] [(0,.slice (some ⟨b,off,none⟩) a0.length ca0),(1,iv (I:Int)),(2,.slice (some ⟨vb,voff,none⟩) a2.length ca2),(7,iv (a2.length:Int)),(9,.slice (some ⟨g,0,none⟩) (I+(a0.length+a2.length - I)) c')]<|Ra 1 [1,1,1,1,1,1,0,1,0,1,0] [.c [1,1,1,1,1,1,0,1,0,1,1],.c [1,1,1,1,1,1,1]]<|Rv 4 [0,1,2,7,9,43,44] [] [.need ((0:Int)≤(I:Int)∧(I:Int)≤((I+(a0.length+a2.length - I):Nat):Int))] [(0,.slice (some ⟨b,off,none⟩) a0.length ca0),(1,iv (I:Int)),(2,.slice (some ⟨vb,voff,none⟩) a2.length ca2),(7,iv (a2.length:Int)),(9,.slice (some ⟨g,0,none⟩) (I+(a0.length+a2.length - I)) c'),(43,.slice (shiftA c' I 3 (some ⟨g,0,none⟩)) (I+(a0.length+a2.length - I) - I) (c' - I)),(44,.slice (some ⟨vb,voff,none⟩) a2.length ca2)] (fun w hh=>⟨h0,by omega⟩) ?_
   refine RgH.does (DoesH.copyRaw (k:=0) (t:=23) (e:=57) (bytes:=48) (sz:=3) (A1:=shiftA c' I 3 (some ⟨g,0,none⟩)) (A2:=some ⟨vb,voff,none⟩) (dd:=some 45) (dc:=c' - I) (sc:=ca2) (dl:=I+(a0.length+a2.length - I) - I) (sl:=a2.length) (b:=g) (o:=0+I*3) (a:=⟨vb,voff,none⟩) (cells:=cells2) (news:=newsV) (by kernel_rfl) (shiftA_at (n:=I+1) (by omega) (by omega) rfl) rfl (by kernel_rfl) rfl (by rw [v1]; congr 1; simp only [Nat.min_def]; split <;> omega) (fun w hh j u hu=>by rw [add_plain]; exact blk_cell (hh.chin 2 rfl) (v2 j u hu)) v3 (by rw [v1]; omega)) ?_
   rintro _ _ _ _ ⟨rfl,rfl,rfl⟩
   refine Rd 5 [0,1,2,7,9] [(0,.slice (some ⟨b,off,none⟩) a0.length ca0),(1,iv (I:Int)),(2,.slice (some ⟨vb,voff,none⟩) a2.length ca2),(7,iv (a2.length:Int)),(9,.slice (some ⟨g,0,none⟩) (I+(a0.length+a2.length - I)) c')]<|Ad 1 [.c [1,1,1,1,1,1,0,1,0,1,1,0],.c [1,1,1,1,1,1,0,1,0,1,1,1],.c [1,1,1,1,1,1,1]] ?_
   refine RunH.draw (fun w=>True) (fun w=>True) [3,3,3,3,3,3,3,3,0] (n:=9) (ls:=[false,false,false,false,false,false,false,false,false]) (by kernel_rfl) (by kernel_rfl) (by kernel_rfl) rfl ?_
   refine Dr [0,1,2,3,4,5,6,7] 1 (nb 9 255) [] [.need ((0:Int)≤w64 ((I:Int)+(a2.length:Int))∧w64 ((I:Int)+(a2.length:Int))≤((I+(a0.length+a2.length - I):Nat):Int)),.need ((0:Int)≤(I:Int)∧(I:Int)≤((a0.length:Nat):Int))] [(53,.slice (shiftA ca0 I 3 (some ⟨b,off,none⟩)) (a0.length - I) (ca0 - I)),(52,iv (I:Int)),(51,.slice (some ⟨b,off,none⟩) a0.length ca0),(50,.slice (shiftA c' (w64 ((I:Int)+(a2.length:Int))).toNat 3 (some ⟨g,0,none⟩)) (I+(a0.length+a2.length - I) - (w64 ((I:Int)+(a2.length:Int))).toNat) (c' - (w64 ((I:Int)+(a2.length:Int))).toNat)),(49,iv (w64 ((I:Int)+(a2.length:Int)))),(48,iv (a2.length:Int)),(47,iv (I:Int)),(46,.slice (some ⟨g,0,none⟩) (I+(a0.length+a2.length - I)) c'),(0,.slice (some ⟨b,off,none⟩) a0.length ca0),(1,iv (I:Int)),(2,.slice (some ⟨vb,voff,none⟩) a2.length ca2),(7,iv (a2.length:Int)),(9,.slice (some ⟨g,0,none⟩) (I+(a0.length+a2.length - I)) c')] (fun w hh=>trivial) (fun w hh=>trivial) (fun w hh=>⟨by rw [hw2]; constructor <;> omega,h0,h1⟩) ?_
   refine DrH.does (n:=0) (ls':=[true,true,true,true,true,true,true,true,true]) 8 (by kernel_rfl) rfl (DoesH.copyRaw (k:=0) (t:=23) (e:=57) (bytes:=48) (sz:=3) (A1:=shiftA c' (w64 ((I:Int)+(a2.length:Int))).toNat 3 (some ⟨g,0,none⟩)) (A2:=shiftA ca0 I 3 (some ⟨b,off,none⟩)) (dd:=some 54) (dc:=c' - (w64 ((I:Int)+(a2.length:Int))).toNat) (sc:=ca0 - I) (dl:=I+(a0.length+a2.length - I) - (w64 ((I:Int)+(a2.length:Int))).toNat) (sl:=a0.length - I) (b:=g) (o:=0+(I+a2.length)*3) (a:=⟨b,off+I*3,none⟩) (cells:=owr cells2 (0+I*3) newsV) (news:=newsD) (by kernel_rfl) (by rw [hw2]; exact shiftA_at (n:=I+a2.length+1) (by omega) (by omega) rfl) (shiftA_at hIn k3 rfl) (by kernel_rfl) rfl (by rw [d1,hw2]; congr 1; simp only [Nat.min_def,Int.toNat_natCast]; split <;> omega) (fun w hh j u hu=>by rw [add_plain]; exact blk_cell (hh.chin 1 rfl) (d2 j u hu)) d3 (by rw [owr_size,d1]; omega)) ?_
   rintro _ _ _ _ ⟨rfl,rfl,rfl⟩
   refine ⟨fun _ w hh=>⟨fun _=>trivial,fun _=>trivial,(fun h=>by cases h)⟩,?_⟩
   refine Kr [9] [(9,.slice (some ⟨g,0,none⟩) (I+(a0.length+a2.length - I)) c')] ?_
   refine DrH.done (by kernel_rfl) ?_
   refine Ra 1 [1,1,1,1,1,1,0,1,0,1,1,1,0] [.c [1,1,1,1,1,1,0,1,0,1,1,1,1],.c [1,1,1,1,1,1,1]]<|Rd 2 [6] [(6,.slice (some ⟨g,0,none⟩) (I+(a0.length+a2.length - I)) c')] ?_
   have r1:Kd.Rep kEntry H (owr cells2 (0+I*3) newsV) 0 (a0.take I++a2):=by
    have:=Rep.owr g4 v4 (by rw [htl,hsz,v1]; omega)
    rwa [htl,hsz] at this
   have hl1:(a0.take I++a2).length=I+a2.length:=by rw [List.length_append,htl]
   have r2:Kd.Rep kEntry H (owr (owr cells2 (0+I*3) newsV) (0+(I+a2.length)*3) newsD) 0 (a0.take I++a2++a0.drop I):=by
    have:=Rep.owr r1 d4 (by rw [hl1,hsz,d1,owr_size]; omega)
    rwa [hl1,hsz] at this
   have ho:SlOwn kEntry 57 H (some ⟨g,0,none⟩) c' (a0.take I++a2++a0.drop I) (some (g,.cells (owr (owr cells2 (0+I*3) newsV) (0+(I+a2.length)*3) newsD) 57 (0,0))):=.inr ⟨g,0,_,rfl,rfl,by rw [hrl]; omega,g2,by rw [owr_size,owr_size,hsz]; exact g3,r2⟩
   refine RunH.pick 3 [0] (cs':=some (g,.cells (owr (owr cells2 (0+I*3) newsV) (0+(I+a2.length)*3) newsD) 57 (0,0))::F) (by kernel_rfl) rfl ?_
   exact RunH.done (by kernel_rfl) Tryd.func48 (v:=.slice (some ⟨g,0,none⟩) (I+(a0.length+a2.length - I)) c') (by kernel_rfl) ⟨some ⟨g,0,none⟩,c',_,rfl,by rw [hrl,show I+(a0.length+a2.length - I)=a0.length+a2.length by omega],rfl,ho⟩
  ·have hroom:a0.length+a2.length≤ca0:=by rw [hw1] at hc; have:=of_decide_eq_false hc; omega
   refine Cf (decide ((ca0:Int)<w64 ((a0.length:Int)+(a2.length:Int)))) hc<|Ra 2 [1,1,1,1,1,1,1,0] [.c [1,1,1,1,1,1,1,1]]<|Rv 6 [0,1,2,7] [] [.need ((0:Int)≤w64 ((a0.length:Int)+(a2.length:Int))∧w64 ((a0.length:Int)+(a2.length:Int))≤((ca0:Nat):Int))] [(0,.slice (some ⟨b,off,none⟩) (w64 ((a0.length:Int)+(a2.length:Int))).toNat ca0),(1,iv (I:Int)),(2,.slice (some ⟨vb,voff,none⟩) a2.length ca2),(7,iv (a2.length:Int))] (fun w hh=>by rw [hw1]; constructor <;> omega) ?_
   refine RgH.val1 (v':=.slice (some ⟨b,off,none⟩) (a0.length+a2.length) ca0) (by rw [hw1]; rfl) ?_
   refine Dn<|Ra 2 [1,1,1,1,1,1,1,1,0,0] [.c [1,1,1,1,1,1,1,1,0,1],.c [1,1,1,1,1,1,1,1,1]]<|Rv 6 [0,1,2,7,61,66] [] [.need ((0:Int)≤w64 ((I:Int)+(a2.length:Int))∧w64 ((I:Int)+(a2.length:Int))≤((a0.length+a2.length:Nat):Int))] [(0,.slice (some ⟨b,off,none⟩) (a0.length+a2.length) ca0),(1,iv (I:Int)),(2,.slice (some ⟨vb,voff,none⟩) a2.length ca2),(7,iv (a2.length:Int)),(61,.slice (some ⟨vb,voff,none⟩) a2.length ca2),(66,.slice (shiftA ca0 (w64 ((I:Int)+(a2.length:Int))).toNat 3 (some ⟨b,off,none⟩)) (a0.length+a2.length - (w64 ((I:Int)+(a2.length:Int))).toNat) (ca0 - (w64 ((I:Int)+(a2.length:Int))).toNat))] (fun w hh=>by rw [hw2]; constructor <;> omega) ?_
   have hsh:shiftA ca0 (w64 ((I:Int)+(a2.length:Int))).toNat 3 (some ⟨b,off,none⟩)=some ⟨b,off+(I+a2.length)*3,none⟩:=by rw [hw2]; exact shiftA_at (n:=a0.length+a2.length) (by omega) hroom rfl
   have hne:∀ w,Heap H w0 w (some (b,.cells cells 57 (0,0))::some (vb,.cells vcells 57 (0,0))::F)→vb≠b:=fun w hh=>hh.dif 1 0 _ _ rfl rfl (by omega)
   refine RgH.does (DoesH.ext (d:=67) (g:=63) (args:=#[.slice (some ⟨vb,voff,none⟩) a2.length ca2,.slice (shiftA ca0 (w64 ((I:Int)+(a2.length:Int))).toNat 3 (some ⟨b,off,none⟩)) (a0.length+a2.length - (w64 ((I:Int)+(a2.length:Int))).toNat) (ca0 - (w64 ((I:Int)+(a2.length:Int))).toNat)]) (v:=.bool false) (by kernel_rfl) (fun w hh=>by rw [hsh]; exact run_overlaps_own (e:=4) Tryd.func63 (by kernel_rfl) (by kernel_rfl) (by kernel_rfl) (by kernel_rfl) (show elemOk Tryd.prog 23 57 3 48=true by kernel_rfl) (hh.chin 1 rfl) (hh.chin 0 rfl) (hne w hh) (by omega))) ?_
   rintro _ _ _ _ ⟨rfl,rfl,rfl⟩
   refine Rd 8 [0,1,2,7,68] [(0,.slice (some ⟨b,off,none⟩) (a0.length+a2.length) ca0),(1,iv (I:Int)),(2,.slice (some ⟨vb,voff,none⟩) a2.length ca2),(7,iv (a2.length:Int)),(68,.bool true)]<|Ct true rfl<|Ad 1 [.c [1,1,1,1,1,1,1,1,0,1,0,0],.c [1,1,1,1,1,1,1,1,0,1,0,1],.c [1,1,1,1,1,1,1,1,1]] ?_
   refine RunH.draw (fun w=>True) (fun w=>True) [3,3,3,3,3,3,3,3,0] (n:=9) (ls:=[false,false,false,false,false,false,false,false,false]) (by kernel_rfl) (by kernel_rfl) (by kernel_rfl) rfl ?_
   refine Dr [0,1,2,3,4,5,6,7] 1 (nb 9 255) [] [.need ((0:Int)≤w64 ((I:Int)+(a2.length:Int))∧w64 ((I:Int)+(a2.length:Int))≤((a0.length+a2.length:Nat):Int)),.need ((0:Int)≤(I:Int)∧(I:Int)≤((a0.length+a2.length:Nat):Int))] [(76,.slice (shiftA ca0 I 3 (some ⟨b,off,none⟩)) (a0.length+a2.length - I) (ca0 - I)),(75,iv (I:Int)),(74,.slice (some ⟨b,off,none⟩) (a0.length+a2.length) ca0),(73,.slice (shiftA ca0 (w64 ((I:Int)+(a2.length:Int))).toNat 3 (some ⟨b,off,none⟩)) (a0.length+a2.length - (w64 ((I:Int)+(a2.length:Int))).toNat) (ca0 - (w64 ((I:Int)+(a2.length:Int))).toNat)),(72,iv (w64 ((I:Int)+(a2.length:Int)))),(71,iv (a2.length:Int)),(70,iv (I:Int)),(69,.slice (some ⟨b,off,none⟩) (a0.length+a2.length) ca0),(0,.slice (some ⟨b,off,none⟩) (a0.length+a2.length) ca0),(1,iv (I:Int)),(2,.slice (some ⟨vb,voff,none⟩) a2.length ca2),(7,iv (a2.length:Int)),(68,.bool true)] (fun w hh=>trivial) (fun w hh=>trivial) (fun w hh=>⟨by rw [hw2]; constructor <;> omega,h0,by omega⟩) ?_
   refine DrH.does (n:=0) (ls':=[true,true,true,true,true,true,true,true,true]) 8 (by kernel_rfl) rfl (DoesH.copyRaw (k:=0) (t:=23) (e:=57) (bytes:=48) (sz:=3) (A1:=shiftA ca0 (w64 ((I:Int)+(a2.length:Int))).toNat 3 (some ⟨b,off,none⟩)) (A2:=shiftA ca0 I 3 (some ⟨b,off,none⟩)) (dd:=some 77) (dc:=ca0 - (w64 ((I:Int)+(a2.length:Int))).toNat) (sc:=ca0 - I) (dl:=a0.length+a2.length - (w64 ((I:Int)+(a2.length:Int))).toNat) (sl:=a0.length+a2.length - I) (b:=b) (o:=off+(I+a2.length)*3) (a:=⟨b,off+I*3,none⟩) (cells:=cells) (news:=newsD) (by kernel_rfl) hsh (shiftA_at hIn k3 rfl) (by kernel_rfl) rfl (by rw [d1,hw2]; congr 1; simp only [Nat.min_def,Int.toNat_natCast]; split <;> omega) (fun w hh j u hu=>by rw [add_plain]; exact blk_cell (hh.chin 0 rfl) (d2 j u hu)) d3 (by rw [d1]; omega)) ?_
   rintro _ _ _ _ ⟨rfl,rfl,rfl⟩
   refine ⟨fun _ w hh=>⟨fun _=>trivial,fun _=>trivial,(fun h=>by cases h)⟩,?_⟩
   refine Kr [0,1,2] [(0,.slice (some ⟨b,off,none⟩) (a0.length+a2.length) ca0),(1,iv (I:Int)),(2,.slice (some ⟨vb,voff,none⟩) a2.length ca2)] ?_
   refine DrH.done (by kernel_rfl) ?_
   refine Ra 1 [1,1,1,1,1,1,1,1,0,1,0,1,0] [.c [1,1,1,1,1,1,1,1,0,1,0,1,1],.c [1,1,1,1,1,1,1,1,1]]<|Rv 4 [0,80,81] [] [.need ((0:Int)≤(I:Int)∧(I:Int)≤((a0.length+a2.length:Nat):Int))] [(0,.slice (some ⟨b,off,none⟩) (a0.length+a2.length) ca0),(80,.slice (shiftA ca0 I 3 (some ⟨b,off,none⟩)) (a0.length+a2.length - I) (ca0 - I)),(81,.slice (some ⟨vb,voff,none⟩) a2.length ca2)] (fun w hh=>⟨h0,by omega⟩) ?_
   refine RgH.does (DoesH.copyRaw (k:=0) (t:=23) (e:=57) (bytes:=48) (sz:=3) (A1:=shiftA ca0 I 3 (some ⟨b,off,none⟩)) (A2:=some ⟨vb,voff,none⟩) (dd:=some 82) (dc:=ca0 - I) (sc:=ca2) (dl:=a0.length+a2.length - I) (sl:=a2.length) (b:=b) (o:=off+I*3) (a:=⟨vb,voff,none⟩) (cells:=owr cells (off+(I+a2.length)*3) newsD) (news:=newsV) (by kernel_rfl) (shiftA_at hIn k3 rfl) rfl (by kernel_rfl) rfl (by rw [v1]; congr 1; simp only [Nat.min_def]; split <;> omega) (fun w hh j u hu=>by rw [add_plain]; exact blk_cell (hh.chin 1 rfl) (v2 j u hu)) v3 (by rw [owr_size,v1]; omega)) ?_
   rintro _ _ _ _ ⟨rfl,rfl,rfl⟩
   refine Rd 5 [0] [(0,.slice (some ⟨b,off,none⟩) (a0.length+a2.length) ca0)]<|Ra 1 [1,1,1,1,1,1,1,1,0,1,0,1,1,0] [.c [1,1,1,1,1,1,1,1,0,1,0,1,1,1],.c [1,1,1,1,1,1,1,1,1]]<|Rd 2 [6] [(6,.slice (some ⟨b,off,none⟩) (a0.length+a2.length) ca0)] ?_
   have htl:(a0.take I).length=I:=by simp; omega
   have s1:Kd.Rep kEntry H (owr (owr cells (off+(I+a2.length)*3) newsD) (off+I*3) newsV) off (a0.take I):=Rep.outw (Rep.outw (Rep.take k6 I) (by rw [d1]; omega) (by rw [htl,hsz]; omega)) (by rw [owr_size,v1]; omega) (by rw [htl,hsz]; omega)
   have s2:Kd.Rep kEntry H (owr (owr cells (off+(I+a2.length)*3) newsD) (off+I*3) newsV) (off+I*3) a2:=Rep.inw v4 (by rw [owr_size,v1]; omega)
   have s3:Kd.Rep kEntry H (owr (owr cells (off+(I+a2.length)*3) newsD) (off+I*3) newsV) (off+(I+a2.length)*3) (a0.drop I):=Rep.outw (Rep.inw d4 (by rw [d1]; omega)) (by rw [owr_size,v1]; omega) (by rw [v1]; omega)
   have hl1:(a0.take I++a2).length=I+a2.length:=by rw [List.length_append,htl]
   have r2:Kd.Rep kEntry H (owr (owr cells (off+(I+a2.length)*3) newsD) (off+I*3) newsV) off (a0.take I++a2++a0.drop I):=Rep.glue (Rep.glue s1 (by rw [htl,hsz]; exact s2)) (by rw [hl1,hsz]; exact s3)
   have ho:SlOwn kEntry 57 H (some ⟨b,off,none⟩) ca0 (a0.take I++a2++a0.drop I) (some (b,.cells (owr (owr cells (off+(I+a2.length)*3) newsD) (off+I*3) newsV) 57 (0,0))):=.inr ⟨b,off,_,rfl,rfl,by rw [hrl]; omega,k4,by rw [owr_size,owr_size,hsz]; exact k5,r2⟩
   refine RunH.pick 2 [0] (cs':=some (b,.cells (owr (owr cells (off+(I+a2.length)*3) newsD) (off+I*3) newsV) 57 (0,0))::F) (by kernel_rfl) rfl ?_
   exact RunH.done (by kernel_rfl) Tryd.func48 (v:=.slice (some ⟨b,off,none⟩) (a0.length+a2.length) ca0) (by kernel_rfl) ⟨some ⟨b,off,none⟩,ca0,_,rfl,by rw [hrl],rfl,ho⟩
noncomputable def C47:Ctx:={ P:=Tryd.prog,f:=47,N:=33,c:=bodyOf Tryd.f47 }
def S47 (F:List Ch) (H0:Hp) (r:List Entry) (v:Value) (H:Hp) (cs:List Ch):Prop:=∃ (A0:Option Addr) (c0:Nat) (ch0:Ch),H0=H∧v=.slice A0 r.length c0∧ch0::F=cs∧SlOwn kEntry 57 H A0 c0 r ch0
theorem slices_Delete_Entry_c {w0:World} {H:Hp} {F:List Ch} {a0:List Entry} {Aa0:Option Addr} {na0 ca0:Nat} {cha0:Ch} {a1 a2:Int} {r:List Entry} (hoa0:SlOwn kEntry 57 H Aa0 ca0 a0 cha0) (hna0:na0=a0.length) (heq:slices_Delete_Entry.f a0 a1 a2=some r):CallsH Tryd.prog 47 #[.slice Aa0 na0 ca0,iv a1,iv a2] H w0 (cha0::F) (S47 F H r):=by
 refine calls_of_runH (F:=C47) Tryd.func47 (by kernel_rfl) Tryd.ntmps47 (args:=[.slice Aa0 na0 ca0,iv a1,iv a2]) (by kernel_rfl) ?_
 subst hna0
 unfold slices_Delete_Entry.f at heq
 obtain ⟨hn,heq⟩:=guard?_some heq
 obtain rfl:=Option.some.inj heq
 simp only [Bool.and_eq_true,decide_eq_true_eq] at hn
 obtain ⟨h0,h1,h2,h3⟩:=hn
 have h3:=room_le h3
 obtain ⟨I,rfl⟩:∃ I:Nat,a1=(I:Int):=⟨a1.toNat,by omega⟩
 obtain ⟨J,rfl⟩:∃ J:Nat,a2=(J:Int):=⟨a2.toNat,by omega⟩
 have hcap:=hoa0.cap
 have hbig:a0.length≤140737490452480:=by
  have:(a0.length+0)*1≤(a0.length+0)*48:=Nat.mul_le_mul_left _ (by omega)
  omega
 simp only [Int.toNat_natCast]
 refine Ra 1 [0] [.c [1]]<|Rd 1 [0,1,2] [(0,.slice Aa0 a0.length ca0),(1,iv (I:Int)),(2,iv (J:Int))]<|Ra 1 [1,0] [.c [1,1]]<|Rw' 6 [0,1,2] [] [.need ((0:Int)≤(I:Int)∧(I:Int)≤(J:Int)∧(J:Int)≤(a0.length:Int)∧(a0.length:Int)≤((ca0:Nat):Int))] [(0,.slice Aa0 a0.length ca0),(1,iv (I:Int)),(2,iv (J:Int))] (fun w hh=>⟨h0,h1,h2,by omega⟩)<|Ra 2 [1,1,0,0] [.c [1,1,0,1],.c [1,1,1]]<|Rd 3 [0,1,2,16] [(0,.slice Aa0 a0.length ca0),(1,iv (I:Int)),(2,iv (J:Int)),(16,.bool ((I:Int) == (J:Int)))] ?_
 rcases bool_cases ((I:Int) == (J:Int)) with hb | hb
 ·have hIJ:I=J:=by have:=eq_of_beq hb; omega
  have e:a0.take I++a0.drop J=a0:=by rw [hIJ]; exact List.take_append_drop J a0
  rw [e]
  refine Ct ((I:Int) == (J:Int)) hb<|Ra 1 [1,1,0,1,0,0] [.c [1,1,0,1,0,1],.c [1,1,1]]<|Rd 2 [6] [(6,.slice Aa0 a0.length ca0)] ?_
  exact RunH.done (by kernel_rfl) Tryd.func47 (v:=.slice Aa0 a0.length ca0) (by kernel_rfl) ⟨Aa0,ca0,cha0,rfl,rfl,rfl,hoa0⟩
 ·have hIJ:I<J:=by have:=beq_eq_false_iff_ne.1 hb; omega
  have hx:a0≠[]:=by intro h; subst h; simp at h2; omega
  rcases hoa0 with ⟨h,_⟩ | ⟨b,off,cells,rfl,rfl,k3,k4,k5,k6⟩
  ·exact absurd h hx
  have hsz:(kEntry).sz=3:=rfl
  have htl:(a0.take I).length=I:=by simp; omega
  have hdl:(a0.drop J).length=a0.length - J:=by simp
  have hl:(a0.take I++a0.drop J).length=I+(a0.length - J):=by rw [List.length_append,htl,hdl]
  refine Cf ((I:Int) == (J:Int)) hb<|Ra 2 [1,1,1,0] [.c [1,1,1,1]]<|Rd 3 [0,1,2,7] [(0,.slice (some ⟨b,off,none⟩) a0.length ca0),(1,iv (I:Int)),(2,iv (J:Int)),(7,iv (a0.length:Int))]<|Ad 1 [.c [1,1,1,1,0],.c [1,1,1,1,1]] ?_
  refine RunH.draw (fun w=>True) (fun w=>True) [3,3,3,3,3,3,0,3] (n:=8) (ls:=[false,false,false,false,false,false,false,false]) (by kernel_rfl) (by kernel_rfl) (by kernel_rfl) rfl ?_
  refine Dr [0,1,2,3,4,5] 2 (nb 8 63) [] [.need ((0:Int)≤(I:Int)∧(I:Int)≤((ca0:Nat):Int)),.need ((0:Int)≤(J:Int)∧(J:Int)≤((a0.length:Nat):Int))] [(25,.slice (shiftA ca0 J 3 (some ⟨b,off,none⟩)) (a0.length - J) (ca0 - J)),(24,iv (J:Int)),(23,.slice (some ⟨b,off,none⟩) a0.length ca0),(22,.slice (some ⟨b,off,none⟩) I ca0),(21,iv (I:Int)),(20,.slice (some ⟨b,off,none⟩) a0.length ca0),(0,.slice (some ⟨b,off,none⟩) a0.length ca0),(1,iv (I:Int)),(2,iv (J:Int)),(7,iv (a0.length:Int))] (fun w hh=>trivial) (fun w hh=>trivial) (fun w hh=>⟨⟨h0,by omega⟩,by omega,h2⟩) ?_
  refine DrH.does (n:=1) (ls':=[true,true,true,true,true,true,true,false]) 6 (by kernel_rfl) rfl (DoesH.appendRoom (dd:=26) (k:=0) (t:=23) (e:=57) (bytes:=48) (kd:=kEntry) (n:=I) (m:=a0.length - J) (xs:=a0.take I) (ys:=a0.drop J) (b:=b) (off:=off) (c:=ca0) (cB:=ca0 - J) (B:=shiftA ca0 J 3 (some ⟨b,off,none⟩)) (cells:=cells) (by kernel_rfl) htl.symm hdl.symm (by kernel_rfl) rfl k5 (Rep.take k6 I) (fun _=>by unfold shiftA; split <;> simp) (fun w hh=>(SlOwn.drop (.inr ⟨b,off,cells,rfl,rfl,k3,k4,k5,k6⟩:SlOwn kEntry 57 H (some ⟨b,off,none⟩) ca0 a0 (some (b,.cells cells 57 (0,0)))) J (by omega)).rdb (hh.chin 0 rfl)) (by omega)) ?_
  rintro _ _ _ _ ⟨news,rfl,rfl,rfl,g1,g2⟩
  refine ⟨fun _ w hh=>⟨fun _=>trivial,fun _=>trivial,(fun h=>by cases h)⟩,?_⟩
  refine Kr [26,7] [(26,.slice (some ⟨b,off,none⟩) (a0.take I++a0.drop J).length ca0),(7,iv (a0.length:Int))]<|Dk [7] 0 (nb 8 255) [] [] [0,7] [(0,.slice (some ⟨b,off,none⟩) (a0.take I++a0.drop J).length ca0),(7,iv (a0.length:Int))] (fun w hh=>trivial) (fun w hh=>trivial) (fun _ _=>trivial) ?_
  refine DrH.done (by kernel_rfl) ?_
  refine Ad 1 [.c [1,1,1,1,1,0],.c [1,1,1,1,1,1]] ?_
  have hmul:(I+(a0.length - J))*3≤ca0*3:=Nat.mul_le_mul_right _ (by omega)
  rw [hsz] at g1 k5
  rw [hdl] at g1
  have hll:(a0.drop (I+(a0.length - J))).length=a0.length - (I+(a0.length - J)):=by simp
  have r3:Kd.Rep kEntry H (owr cells (off+(a0.take I).length*(kEntry).sz) news) (off+(a0.take I++a0.drop J).length*3) (a0.drop (I+(a0.length - J))):=by
   rw [hl]
   exact Rep.outw (Rep.drop k6 (I+(a0.length - J))) (by rw [g1,htl,hsz]; omega) (by rw [g1,htl,hsz]; omega)
  have r4:=Rep.glue g2 r3
  have hl4:(a0.take I++a0.drop J++a0.drop (I+(a0.length - J))).length=a0.length:=by rw [List.length_append,hl,hll]; omega
  have ho4:SlOwn kEntry 57 H (some ⟨b,off,none⟩) ca0 (a0.take I++a0.drop J++a0.drop (I+(a0.length - J))) (some (b,.cells (owr cells (off+(a0.take I).length*(kEntry).sz) news) 57 (0,0))):=.inr ⟨b,off,_,rfl,rfl,by rw [hl4]; exact k3,k4,by rw [owr_size,hsz]; exact k5,r4⟩
  refine Rr<|Rv 5 [0,31] [] [.need ((0:Int)≤((a0.take I++a0.drop J).length:Int)∧((a0.take I++a0.drop J).length:Int)≤(a0.length:Int)∧(a0.length:Int)≤((ca0:Nat):Int))] [(0,.slice (some ⟨b,off,none⟩) (a0.take I++a0.drop J).length ca0),(31,.slice (shiftA ca0 (a0.take I++a0.drop J).length 3 (some ⟨b,off,none⟩)) (a0.length - (a0.take I++a0.drop J).length) (ca0 - (a0.take I++a0.drop J).length))] (fun w hh=>⟨by omega,by omega,by omega⟩) ?_
  refine RgH.does (DoesH.clear (k:=0) (j:=(a0.take I++a0.drop J).length) (n:=a0.length - (a0.take I++a0.drop J).length) (t:=23) (e:=57) (bytes:=48) (kd:=kEntry) (A:=some ⟨b,off,none⟩) (A2:=shiftA ca0 (a0.take I++a0.drop J).length 3 (some ⟨b,off,none⟩)) (c:=ca0) (c2:=ca0 - (a0.take I++a0.drop J).length) (xs:=a0.take I++a0.drop J++a0.drop (I+(a0.length - J))) (z:=(⟨ByteArray.empty,([]:List ByteArray),0⟩:Entry)) (zc:=#[.string ByteArray.empty,.slice none 0 0,iv 0]) (by kernel_rfl) (by rw [hl4]) (by kernel_rfl) (by kernel_rfl) (kEntry_mk (Nat.le_refl _) Kd.Row.none) (by kernel_rfl) rfl ho4 (by rw [hl4]; omega) (fun h b off hA=>shiftA_at h ho4.cap hA)) ?_
  rintro _ _ _ _ ⟨ch5,rfl,rfl,rfl,ho5⟩
  have ho6:=ho5.take (a0.take I++a0.drop J).length
  rw [List.take_append_of_le_length (by simp),List.take_take,Nat.min_self,List.take_append_of_le_length (Nat.le_refl _),List.take_length] at ho6
  refine Rd 6 [0] [(0,.slice (some ⟨b,off,none⟩) (a0.take I++a0.drop J).length ca0)]<|Ra 1 [1,1,1,1,1,1,0] [.c [1,1,1,1,1,1,1]]<|Rd 2 [6] [(6,.slice (some ⟨b,off,none⟩) (a0.take I++a0.drop J).length ca0)] ?_
  exact RunH.done (by kernel_rfl) Tryd.func47 (v:=.slice (some ⟨b,off,none⟩) (a0.take I++a0.drop J).length ca0) (by kernel_rfl) ⟨some ⟨b,off,none⟩,ca0,ch5,rfl,rfl,rfl,ho6⟩
noncomputable def C29:Ctx:={ P:=Tryd.prog,f:=29,N:=116,c:=bodyOf Tryd.f29 }
def S29 (F:List Ch) (H0:Hp) (ga0:Nat) (r:CacheAnswer × Cache) (v:Value) (H:Hp) (cs:List Ch):Prop:=∃ (A0_1:Option Addr) (c0_1:Nat) (ch0_1:Ch) (A0_2:Option Addr) (c0_2:Nat) (ch0_2:Ch) (A1_2:Option Addr) (c1_2:Nat) (ch1_2:Ch) (A1_3:Option Addr) (c1_3:Nat) (ch1_3:Ch),v=.agg #[.bool r.1.Done,.slice A0_1 r.1.Missing.length c0_1,.slice A0_2 r.1.Gone.length c0_2]∧ch0_1::ch0_2::some (ga0,.cells #[iv r.2.Room,iv r.2.Lease,.slice A1_2 r.2.Blobs.length c1_2,.slice A1_3 r.2.Entries.length c1_3] 25 (0,0))::ch1_2::ch1_3::F=cs∧SlOwn Kd.string 9 H A0_1 c0_1 r.1.Missing ch0_1∧SlOwn Kd.string 9 H A0_2 c0_2 r.1.Gone ch0_2∧SlOwn kBlob 29 H A1_2 c1_2 r.2.Blobs ch1_2∧SlOwn kEntry 57 H A1_3 c1_3 r.2.Entries ch1_3
theorem cache_store.j1_c {w0:World} {H0:Hp} {F:List Ch} {r:CacheAnswer × Cache}:∀ (H:Hp) (ga0:Nat) (a1:CacheEvent) (g2:Nat) (y2:Cache) (A2:Option Addr) (c2:Nat) (ch2:Ch) (y3:List ByteArray) (A4:Option Addr) (c4:Nat) (ch4:Ch) (g3:Nat) (v_c0_3:List Entry) (Av_c0_3:Option Addr) (nv_c0_3:Nat) (cv_c0_3:Nat) (chv_c0_3:Ch) (v_k7:Int) ,SlOwn kBlob 29 H A2 c2 y2.Blobs ch2→SlOwn Kd.string 9 H A4 c4 y3 ch4→SlOwn kEntry 57 H Av_c0_3 cv_c0_3 v_c0_3 chv_c0_3→nv_c0_3=v_c0_3.length→cache_store.j1 a1 y2 y3 v_c0_3 v_k7=some r→RunH C29 (S29 F H0 ga0 r) H0 w0 [.c [1,1,1,1,1,1,1,0],.c [1,1,1,1,1,1,1,1]] [(0,pg ga0 0),(4,pg g2 0),(6,pg g3 0),(7,iv v_k7)] H ((some (g3,.cells #[.string a1.Key,.slice A4 y3.length c4,iv a1.At] 57 (0,0)))::ch4::(some (ga0,.cells #[iv y2.Room,iv y2.Lease,.slice A2 y2.Blobs.length c2,.slice Av_c0_3 nv_c0_3 cv_c0_3] 25 (0,0)))::ch2::chv_c0_3::(some (g2,.cells #[.bool false,.slice none 0 0,.slice none 0 0] 36 (0,0)))::F):=by
 intro H ga0 a1 g2 y2 A2 c2 ch2 y3 A4 c4 ch4 g3 v_c0_3 Av_c0_3 nv_c0_3 cv_c0_3 chv_c0_3 v_k7 ho3 ho5 hov_c0_3 hnv_c0_3 heq
 subst hnv_c0_3
 unfold cache_store.j1 at heq
 refine Kp [0,4,6,7] [(0,pg ga0 0),(4,pg g2 0),(6,pg g3 0),(7,iv v_k7)] ?_
 refine RunH.draw (fun w=>Heap H w0 w ((some (g3,.cells #[.string a1.Key,.slice A4 y3.length c4,iv a1.At] 57 (0,0)))::ch4::(some (ga0,.cells #[iv y2.Room,iv y2.Lease,.slice A2 y2.Blobs.length c2,.slice Av_c0_3 v_c0_3.length cv_c0_3] 25 (0,0)))::ch2::chv_c0_3::(some (g2,.cells #[.bool false,.slice none 0 0,.slice none 0 0] 36 (0,0)))::F)) (fun w=>Heap H w0 w ((some (g3,.cells #[.string a1.Key,.slice A4 y3.length c4,iv a1.At] 57 (0,0)))::(some (ga0,.cells #[iv y2.Room,iv y2.Lease,.slice A2 y2.Blobs.length c2,.slice Av_c0_3 v_c0_3.length cv_c0_3] 25 (0,0)))::ch2::(some (g2,.cells #[.bool false,.slice none 0 0,.slice none 0 0] 36 (0,0)))::F)) [3,3,3,3,3,3,3,1,1,1,3,2] (n:=12) (ls:=[false,false,false,false,false,false,false,false,false,false,false,false]) (by kernel_rfl) (by kernel_rfl) (by kernel_rfl) rfl ?_
 refine De [0,1,2,3,4,5,6] 5 (nb 12 127) [.slice Av_c0_3 v_c0_3.length cv_c0_3,.string a1.Key,.slice A4 y3.length c4,iv a1.At] [.load ⟨ga0,3,none⟩ (.slice Av_c0_3 v_c0_3.length cv_c0_3),.load ⟨g3,0,none⟩ (.string a1.Key),.load ⟨g3,1,none⟩ (.slice A4 y3.length c4),.load ⟨g3,2,none⟩ (iv a1.At)] [0,4,104,108,109,110] [(0,pg ga0 0),(4,pg g2 0),(104,pg ga0 0),(108,.slice Av_c0_3 v_c0_3.length cv_c0_3),(109,iv v_k7),(110,.agg #[.string a1.Key,.slice A4 y3.length c4,iv a1.At])] (Pk 6 [0,2,3,5]) (fun w hh=>⟨(hh.box 1 rfl rfl),(hh.box 0 rfl rfl),(hh.box 0 rfl rfl),(hh.box 0 rfl rfl)⟩) ?_
 refine DrH.pick 6 [1,0,2,3,4,5] (cs':=ch4::(some (g3,.cells #[.string a1.Key,.slice A4 y3.length c4,iv a1.At] 57 (0,0)))::(some (ga0,.cells #[iv y2.Room,iv y2.Lease,.slice A2 y2.Blobs.length c2,.slice Av_c0_3 v_c0_3.length cv_c0_3] 25 (0,0)))::ch2::chv_c0_3::(some (g2,.cells #[.bool false,.slice none 0 0,.slice none 0 0] 36 (0,0)))::F) (by kernel_rfl) rfl ?_
 have hc4:=ho5.cap
 refine DrH.freezeS ho5 (fun H hl hr4=>?_)
 have hle:=hl
 replace ho3:=ho3.mono hl
 replace hov_c0_3:=hov_c0_3.mono hl
 refine DrH.does (n:=4) (ls':=[true,true,true,true,true,true,true,true,false,false,false,false]) 7 (by kernel_rfl) rfl (DoesH.new (d:=111) (v:=fun g=>.slice (some ⟨g,0,none⟩) 1 1) (o:=fun g=>.cells #[.string a1.Key,.slice A4 y3.length c4,iv a1.At] 57 (0,0)) (fun g=>by kernel_rfl)) ?_
 rintro _ _ _ _ ⟨g4,rfl,rfl,rfl⟩
 have ho9:SlOwn kEntry 57 H (some ⟨g4,0,none⟩) 1 ([(⟨a1.Key,y3,a1.At⟩:Entry)]:List Entry) (some (g4,.cells #[.string a1.Key,.slice A4 y3.length c4,iv a1.At] 57 (0,0))):=SlOwn.lit (xs:=([(⟨a1.Key,y3,a1.At⟩:Entry)]:List Entry)) (by kernel_rfl) (Nat.le_of_ble_eq_true (by kernel_rfl)) (Kd.Rep.one (kEntry_mk hc4 hr4))
 refine ⟨fun _ w hh=>⟨(fun h=>by cases h),fun _=>(fun w hh=>(hh.le hle).pick 6 [1,2,3,5] (by kernel_rfl)) w hh,(fun h=>by cases h)⟩,?_⟩
 refine Kr [0,4,104,108,109,111] [(0,pg ga0 0),(4,pg g2 0),(104,pg ga0 0),(108,.slice Av_c0_3 v_c0_3.length cv_c0_3),(109,iv v_k7),(111,.slice (some ⟨g4,0,none⟩) 1 1)] ?_
 refine DrH.pick 6 [4,0,1,2,3,5] (cs':=chv_c0_3::(some (g4,.cells #[.string a1.Key,.slice A4 y3.length c4,iv a1.At] 57 (0,0)))::(some (g3,.cells #[.string a1.Key,.slice A4 y3.length c4,iv a1.At] 57 (0,0)))::(some (ga0,.cells #[iv y2.Room,iv y2.Lease,.slice A2 y2.Blobs.length c2,.slice Av_c0_3 v_c0_3.length cv_c0_3] 25 (0,0)))::ch2::(some (g2,.cells #[.bool false,.slice none 0 0,.slice none 0 0] 36 (0,0)))::F) (by kernel_rfl) rfl ?_
 obtain ⟨y5,hy5,heq⟩:=bind_some heq
 refine DrH.does (n:=3) (ls':=[true,true,true,true,true,true,true,true,true,false,false,false]) 8 (by kernel_rfl) rfl (DoesH.call (d:=112) (g:=48) (args:=#[.slice Av_c0_3 v_c0_3.length cv_c0_3,iv v_k7,.slice (some ⟨g4,0,none⟩) 1 1]) (by kernel_rfl) (slices_Insert_Entry_c (a0:=v_c0_3) (a1:=v_k7) (a2:=([(⟨a1.Key,y3,a1.At⟩:Entry)]:List Entry)) hov_c0_3 rfl ho9 rfl hy5)) ?_
 rintro _ _ _ _ ⟨_,rfl,A7,c7,ch6,rfl,rfl,rfl,ho10⟩
 refine ⟨fun _ w hh=>⟨(fun h=>by cases h),fun _=>(fun w hh=>(hh.le hle).pick 5 [1,2,3,4] (by kernel_rfl)) w hh,(fun h=>by cases h)⟩,?_⟩
 refine Kr [112,0,4,104,109] [(112,.slice A7 y5.length c7),(0,pg ga0 0),(4,pg g2 0),(104,pg ga0 0),(109,iv v_k7)]<|Kr [0,4,104,112] [(0,pg ga0 0),(4,pg g2 0),(104,pg ga0 0),(112,.slice A7 y5.length c7)] ?_
 refine DrH.does (n:=2) (ls':=[true,true,true,true,true,true,true,true,true,true,false,false]) 9 (by kernel_rfl) rfl (DoesH.pureop (d:=113) (v:=.pointer (some ⟨ga0,0,none⟩)) (vs:=[]) (evs:=[]) (by kernel_rfl) (fun _ _=>trivial)) ?_
 rintro _ _ _ _ ⟨rfl,rfl,rfl⟩
 refine ⟨fun _ w hh=>⟨(fun h=>by cases h),fun _=>(fun w hh=>(hh.le hle).pick 5 [1,2,3,4] (by kernel_rfl)) w hh,(fun h=>by cases h)⟩,?_⟩
 refine De [10] 1 (nb 12 2047) [] [] [0,4,112,114] [(0,pg ga0 0),(4,pg g2 0),(112,.slice A7 y5.length c7),(114,pg ga0 3)] (fun w hh=>(hh.le hle).pick 5 [1,2,3,4] (by kernel_rfl)) (fun _ _=>trivial) ?_
 refine DrH.does (n:=0) (ls':=[true,true,true,true,true,true,true,true,true,true,true,true]) 11 (by kernel_rfl) rfl (DoesH.store (k:=2) (g:=ga0) (off:=3) (v:=.slice A7 y5.length c7) (cells':=#[iv y2.Room,iv y2.Lease,.slice A2 y2.Blobs.length c2,.slice A7 y5.length c7]) (by kernel_rfl) rfl (by kernel_rfl) (by kernel_rfl)) ?_
 rintro _ _ _ _ ⟨rfl,rfl,rfl⟩
 refine ⟨fun _ w hh=>⟨(fun h=>by cases h),(fun h=>absurd h (by decide)),(fun h=>by cases h)⟩,?_⟩
 refine Kr [0,4] [(0,pg ga0 0),(4,pg g2 0)] ?_
 refine DrH.done (by kernel_rfl) ?_
 refine Ra 1 [1,1,1,1,1,1,1,1,0] [.c [1,1,1,1,1,1,1,1,1]]<|Rk 1 [0,4,115] [(0,pg ga0 0),(4,pg g2 0),(115,.agg #[.bool true,.slice none 0 0,.slice none 0 0])] ?_
 refine RgH.does (DoesH.store (k:=4) (g:=g2) (off:=0) (v:=.agg #[.bool true,.slice none 0 0,.slice none 0 0]) (cells':=#[.bool true,.slice none 0 0,.slice none 0 0]) (by kernel_rfl) rfl (by kernel_rfl) (by kernel_rfl)) ?_
 rintro _ _ _ _ ⟨rfl,rfl,rfl⟩
 refine Dn<|RunH.nilc ?_
 have ho11:SlOwn Kd.string 9 H none 0 ([]:List ByteArray) none:=SlOwn.nil
 refine RunH.nilc ?_
 have ho12:SlOwn Kd.string 9 H none 0 ([]:List ByteArray) none:=SlOwn.nil
 obtain rfl:=Option.some.inj heq
 refine RunH.pick 7 [6,1,0,4,5,2] (cs':=(some (g2,.cells #[.bool true,.slice none 0 0,.slice none 0 0] 36 (0,0)))::none::none::(some (ga0,.cells #[iv y2.Room,iv y2.Lease,.slice A2 y2.Blobs.length c2,.slice A7 y5.length c7] 25 (0,0)))::ch2::ch6::F) (by kernel_rfl) rfl ?_
 exact RunH.doneM' 1 (vs:=[.agg #[.bool true,.slice none 0 0,.slice none 0 0]]) (v:=.agg #[.bool true,.slice none 0 0,.slice none 0 0]) (by kernel_rfl) Tryd.func29 (fun w hh=>show ResAll _ _ _ [.cell 4 36] _ from ⟨⟨⟨g2,0,none⟩,by kernel_rfl,trS_run _ (vs:=[.bool true,.slice none 0 0,.slice none 0 0]) (r:=[]) (es:=[.load ⟨g2,0,none⟩ (.bool true),.load ⟨g2,1,none⟩ (.slice none 0 0),.load ⟨g2,2,none⟩ (.slice none 0 0)]) (by kernel_rfl) ⟨(hh.box 0 rfl rfl),(hh.box 0 rfl rfl),(hh.box 0 rfl rfl)⟩⟩,trivial⟩) rfl (cs':=none::none::(some (ga0,.cells #[iv y2.Room,iv y2.Lease,.slice A2 y2.Blobs.length c2,.slice A7 y5.length c7] 25 (0,0)))::ch2::ch6::F) rfl ⟨none,0,none,none,0,none,A2,c2,ch2,A7,c7,ch6,rfl,rfl,ho11,ho12,ho3,ho10⟩
theorem cache_store.e2_c {w0:World} {H0:Hp} {F:List Ch} {r:CacheAnswer × Cache} (j1:CacheEvent→Cache→(List ByteArray)→(List Entry)→Int→Option (CacheAnswer × Cache))
  (hj1:∀ (H:Hp) (ga0:Nat) (a1:CacheEvent) (g2:Nat) (y2:Cache) (A2:Option Addr) (c2:Nat) (ch2:Ch) (y3:List ByteArray) (A4:Option Addr) (c4:Nat) (ch4:Ch) (g3:Nat) (v_c0_3:List Entry) (Av_c0_3:Option Addr) (nv_c0_3:Nat) (cv_c0_3:Nat) (chv_c0_3:Ch) (v_k7:Int) ,SlOwn kBlob 29 H A2 c2 y2.Blobs ch2→SlOwn Kd.string 9 H A4 c4 y3 ch4→SlOwn kEntry 57 H Av_c0_3 cv_c0_3 v_c0_3 chv_c0_3→nv_c0_3=v_c0_3.length→j1 a1 y2 y3 v_c0_3 v_k7=some r→RunH C29 (S29 F H0 ga0 r) H0 w0 [.c [1,1,1,1,1,1,1,0],.c [1,1,1,1,1,1,1,1]] [(0,pg ga0 0),(4,pg g2 0),(6,pg g3 0),(7,iv v_k7)] H ((some (g3,.cells #[.string a1.Key,.slice A4 y3.length c4,iv a1.At] 57 (0,0)))::ch4::(some (ga0,.cells #[iv y2.Room,iv y2.Lease,.slice A2 y2.Blobs.length c2,.slice Av_c0_3 nv_c0_3 cv_c0_3] 25 (0,0)))::ch2::chv_c0_3::(some (g2,.cells #[.bool false,.slice none 0 0,.slice none 0 0] 36 (0,0)))::F)):∀ (H:Hp) (ga0:Nat) (a1:CacheEvent) (Aa1_3:Option Addr) (ca1_3:Nat) (g1:Nat) (g2:Nat) (y2:Cache) (A2:Option Addr) (c2:Nat) (ch2:Ch) (A3:Option Addr) (c3:Nat) (ch3:Ch) (y3:List ByteArray) (A4:Option Addr) (c4:Nat) (ch4:Ch) (g3:Nat) (v_least9:Int) ,Rw Kd.string H F Aa1_3 a1.Digests→a1.Digests.length≤ca1_3→SlOwn kBlob 29 H A2 c2 y2.Blobs ch2→SlOwn kEntry 57 H A3 c3 y2.Entries ch3→SlOwn Kd.string 9 H A4 c4 y3 ch4→cache_store.e2 j1 a1 y2 y3 v_least9=some r→RunH C29 (S29 F H0 ga0 r) H0 w0 [.c [1,1,1,1,1,1,0,1,0,1,1,0],.c [1,1,1,1,1,1,0,1,0,1,1,1],.c [1,1,1,1,1,1,1]] [(0,pg ga0 0),(3,pg g1 0),(4,pg g2 0),(6,pg g3 0),(9,iv v_least9)] H ((some (g3,.cells #[.string a1.Key,.slice A4 y3.length c4,iv a1.At] 57 (0,0)))::ch4::(some (ga0,.cells #[iv y2.Room,iv y2.Lease,.slice A2 y2.Blobs.length c2,.slice A3 y2.Entries.length c3] 25 (0,0)))::ch2::ch3::(some (g2,.cells #[.bool false,.slice none 0 0,.slice none 0 0] 36 (0,0)))::(some (g1,.cells #[iv a1.Kind,iv a1.At,.string a1.Digest,.slice Aa1_3 a1.Digests.length ca1_3,.string a1.Key,iv a1.Size] 40 (0,0)))::F):=by
 intro H ga0 a1 Aa1_3 ca1_3 g1 g2 y2 A2 c2 ch2 A3 c3 ch3 y3 A4 c4 ch4 g3 v_least9 hra1_3 hca1_3 ho3 ho4 ho5 heq
 unfold cache_store.e2 at heq
 refine Rr<|Rv 8 [0,3,4,6,84,88,89,91] [.slice A3 y2.Entries.length c3] [.load ⟨ga0,3,none⟩ (.slice A3 y2.Entries.length c3)] [(0,pg ga0 0),(3,pg g1 0),(4,pg g2 0),(6,pg g3 0),(84,pg ga0 0),(88,.slice A3 y2.Entries.length c3),(89,iv v_least9),(91,iv (w64 (v_least9+1)))] (fun w hh=>(hh.box 2 rfl rfl)) ?_
 refine RgH.pick 7 [4,0,1,2,3,5,6] (cs':=ch3::(some (g3,.cells #[.string a1.Key,.slice A4 y3.length c4,iv a1.At] 57 (0,0)))::ch4::(some (ga0,.cells #[iv y2.Room,iv y2.Lease,.slice A2 y2.Blobs.length c2,.slice A3 y2.Entries.length c3] 25 (0,0)))::ch2::(some (g2,.cells #[.bool false,.slice none 0 0,.slice none 0 0] 36 (0,0)))::(some (g1,.cells #[iv a1.Kind,iv a1.At,.string a1.Digest,.slice Aa1_3 a1.Digests.length ca1_3,.string a1.Key,iv a1.Size] 40 (0,0)))::F) (by kernel_rfl) rfl ?_
 obtain ⟨y6,hy6,heq⟩:=bind_some heq
 refine RgH.does (DoesH.call (d:=92) (g:=47) (args:=#[.slice A3 y2.Entries.length c3,iv v_least9,iv (w64 (v_least9+1))]) (by kernel_rfl) (slices_Delete_Entry_c (a0:=y2.Entries) (a1:=v_least9) (a2:=w64 (v_least9+1)) ho4 rfl hy6)) ?_
 rintro _ _ _ _ ⟨_,rfl,A8,c8,ch7,rfl,rfl,rfl,ho13⟩
 refine Rk 11 [0,3,4,6,92,94] [(0,pg ga0 0),(3,pg g1 0),(4,pg g2 0),(6,pg g3 0),(92,.slice A8 y6.length c8),(94,pg ga0 3)] ?_
 refine RgH.does (DoesH.store (k:=3) (g:=ga0) (off:=3) (v:=.slice A8 y6.length c8) (cells':=#[iv y2.Room,iv y2.Lease,.slice A2 y2.Blobs.length c2,.slice A8 y6.length c8]) (by kernel_rfl) rfl (by kernel_rfl) (by kernel_rfl)) ?_
 rintro _ _ _ _ ⟨rfl,rfl,rfl⟩
 refine Dn<|Kp [0,3,4,6] [(0,pg ga0 0),(3,pg g1 0),(4,pg g2 0),(6,pg g3 0)] ?_
 refine RunH.draw (fun w=>Heap H w0 w (ch7::(some (g3,.cells #[.string a1.Key,.slice A4 y3.length c4,iv a1.At] 57 (0,0)))::ch4::(some (ga0,.cells #[iv y2.Room,iv y2.Lease,.slice A2 y2.Blobs.length c2,.slice A8 y6.length c8] 25 (0,0)))::ch2::(some (g2,.cells #[.bool false,.slice none 0 0,.slice none 0 0] 36 (0,0)))::(some (g1,.cells #[iv a1.Kind,iv a1.At,.string a1.Digest,.slice Aa1_3 a1.Digests.length ca1_3,.string a1.Key,iv a1.Size] 40 (0,0)))::F)) (fun w=>Heap H w0 w (ch7::(some (g3,.cells #[.string a1.Key,.slice A4 y3.length c4,iv a1.At] 57 (0,0)))::ch4::(some (ga0,.cells #[iv y2.Room,iv y2.Lease,.slice A2 y2.Blobs.length c2,.slice A8 y6.length c8] 25 (0,0)))::ch2::(some (g2,.cells #[.bool false,.slice none 0 0,.slice none 0 0] 36 (0,0)))::(some (g1,.cells #[iv a1.Kind,iv a1.At,.string a1.Digest,.slice Aa1_3 a1.Digests.length ca1_3,.string a1.Key,iv a1.Size] 40 (0,0)))::F)) [3,3,3,3,3,0,3,3,3,3] (n:=10) (ls:=[false,false,false,false,false,false,false,false,false,false]) (by kernel_rfl) (by kernel_rfl) (by kernel_rfl) rfl ?_
 refine Dk [0,1,2,3,4] 5 (nb 10 31) [iv y2.Room,iv y2.Lease,.slice A2 y2.Blobs.length c2,.slice A8 y6.length c8,.string a1.Key] [.load ⟨ga0,0,none⟩ (iv y2.Room),.load ⟨ga0,1,none⟩ (iv y2.Lease),.load ⟨ga0,2,none⟩ (.slice A2 y2.Blobs.length c2),.load ⟨ga0,3,none⟩ (.slice A8 y6.length c8),.load ⟨g1,4,none⟩ (.string a1.Key)] [0,4,6,98,100] [(0,pg ga0 0),(4,pg g2 0),(6,pg g3 0),(98,.agg #[iv y2.Room,iv y2.Lease,.slice A2 y2.Blobs.length c2,.slice A8 y6.length c8]),(100,.string a1.Key)] (Pk 7 [0,1,2,3,4,5,6]) (Pk 7 [0,1,2,3,4,5,6]) (fun w hh=>⟨(hh.box 3 rfl rfl),(hh.box 3 rfl rfl),(hh.box 3 rfl rfl),(hh.box 3 rfl rfl),(hh.box 6 rfl rfl)⟩) ?_
 obtain ⟨y7,hy7,heq⟩:=bind_some heq
 refine DrH.does (n:=4) (ls':=[true,true,true,true,true,true,false,false,false,false]) 5 (by kernel_rfl) rfl (DoesH.call (d:=101) (g:=46) (args:=#[.agg #[iv y2.Room,iv y2.Lease,.slice A2 y2.Blobs.length c2,.slice A8 y6.length c8],.string a1.Key]) (by kernel_rfl) (cache_entryAt_c (a0:=(⟨y2.Room,y2.Lease,y2.Blobs,y6⟩:Cache)) (a1:=a1.Key) (ho3.rw (.tail _ (.tail _ (.tail _ (.tail _ (.head _)))))) ho3.cap rfl (ho13.rw (.head _)) ho13.cap rfl hy7)) ?_
 rintro _ _ _ _ ⟨_,rfl,rfl,rfl,rfl⟩
 refine ⟨fun _ w hh=>⟨fun _=>(Pk 7 [0,1,2,3,4,5,6]) w hh,fun _=>(Pk 7 [0,1,2,3,4,5,6]) w hh,(fun h=>by cases h)⟩,?_⟩
 refine Dk [6,7,8,9] 0 (nb 10 1023) [] [] [0,4,6,7] [(0,pg ga0 0),(4,pg g2 0),(6,pg g3 0),(7,iv y7.1)] (Pk 7 [0,1,2,3,4,5,6]) (Pk 7 [0,1,2,3,4,5,6]) (fun _ _=>trivial) ?_
 refine DrH.done (by kernel_rfl) ?_
 refine Ad 1 [.c [1,1,1,1,1,1,1,0],.c [1,1,1,1,1,1,1,1]]<|Kp [0,4,6,7] [(0,pg ga0 0),(4,pg g2 0),(6,pg g3 0),(7,iv y7.1)] ?_
 refine RunH.pick 7 [1,2,3,4,0,5] (cs':=(some (g3,.cells #[.string a1.Key,.slice A4 y3.length c4,iv a1.At] 57 (0,0)))::ch4::(some (ga0,.cells #[iv y2.Room,iv y2.Lease,.slice A2 y2.Blobs.length c2,.slice A8 y6.length c8] 25 (0,0)))::ch2::ch7::(some (g2,.cells #[.bool false,.slice none 0 0,.slice none 0 0] 36 (0,0)))::F) (by kernel_rfl) rfl ?_
 exact hj1 _ _ a1 _ y2 _ _ _ y3 _ _ _ _ y6 _ _ _ _ y7.1 ho3 ho5 ho13 rfl heq
theorem cache_store.j4_c {w0:World} {H0:Hp} {F:List Ch} {r:CacheAnswer × Cache} (backl3:CacheEvent→Cache→(List ByteArray)→Int→Int→Option (CacheAnswer × Cache))
  (hbackl3:∀ (H:Hp) (ga0:Nat) (a1:CacheEvent) (Aa1_3:Option Addr) (ca1_3:Nat) (g1:Nat) (g2:Nat) (y2:Cache) (A2:Option Addr) (c2:Nat) (ch2:Ch) (A3:Option Addr) (c3:Nat) (ch3:Ch) (y3:List ByteArray) (A4:Option Addr) (c4:Nat) (ch4:Ch) (g3:Nat) (v_least9:Int) (v66:Int) ,Rw Kd.string H F Aa1_3 a1.Digests→a1.Digests.length≤ca1_3→SlOwn kBlob 29 H A2 c2 y2.Blobs ch2→SlOwn kEntry 57 H A3 c3 y2.Entries ch3→SlOwn Kd.string 9 H A4 c4 y3 ch4→backl3 a1 y2 y3 v_least9 v66=some r→RunH C29 (S29 F H0 ga0 r) H0 w0 [.c [1,1,1,1,1,1,0,1,0,1,0,1,0,0],.l [1,1,1,1,1,1,0,1,0,1,0,1,0,0],.b 0,.c [1,1,1,1,1,1,0,1,0,1,1],.c [1,1,1,1,1,1,1]] [(0,pg ga0 0),(3,pg g1 0),(4,pg g2 0),(6,pg g3 0),(9,iv v_least9),(64,.slice A3 y2.Entries.length c3),(65,iv (y2.Entries.length:Int)),(66,iv v66)] H ((some (g3,.cells #[.string a1.Key,.slice A4 y3.length c4,iv a1.At] 57 (0,0)))::ch4::(some (ga0,.cells #[iv y2.Room,iv y2.Lease,.slice A2 y2.Blobs.length c2,.slice A3 y2.Entries.length c3] 25 (0,0)))::ch2::ch3::(some (g2,.cells #[.bool false,.slice none 0 0,.slice none 0 0] 36 (0,0)))::(some (g1,.cells #[iv a1.Kind,iv a1.At,.string a1.Digest,.slice Aa1_3 a1.Digests.length ca1_3,.string a1.Key,iv a1.Size] 40 (0,0)))::F)):∀ (H:Hp) (ga0:Nat) (a1:CacheEvent) (Aa1_3:Option Addr) (ca1_3:Nat) (g1:Nat) (g2:Nat) (y2:Cache) (A2:Option Addr) (c2:Nat) (ch2:Ch) (A3:Option Addr) (c3:Nat) (ch3:Ch) (y3:List ByteArray) (A4:Option Addr) (c4:Nat) (ch4:Ch) (g3:Nat) (v66:Int) (v_least9:Int) ,Rw Kd.string H F Aa1_3 a1.Digests→a1.Digests.length≤ca1_3→SlOwn kBlob 29 H A2 c2 y2.Blobs ch2→SlOwn kEntry 57 H A3 c3 y2.Entries ch3→SlOwn Kd.string 9 H A4 c4 y3 ch4→cache_store.j4 backl3 a1 y2 y3 v66 v_least9=some r→RunH C29 (S29 F H0 ga0 r) H0 w0 [.c [1,1,1,1,1,1,0,1,0,1,0,1,0,0,1,1,1],.l [1,1,1,1,1,1,0,1,0,1,0,1,0,0],.b 0,.c [1,1,1,1,1,1,0,1,0,1,1],.c [1,1,1,1,1,1,1]] [(0,pg ga0 0),(3,pg g1 0),(4,pg g2 0),(6,pg g3 0),(9,iv v_least9),(64,.slice A3 y2.Entries.length c3),(65,iv (y2.Entries.length:Int)),(66,iv v66)] H ((some (g3,.cells #[.string a1.Key,.slice A4 y3.length c4,iv a1.At] 57 (0,0)))::ch4::(some (ga0,.cells #[iv y2.Room,iv y2.Lease,.slice A2 y2.Blobs.length c2,.slice A3 y2.Entries.length c3] 25 (0,0)))::ch2::ch3::(some (g2,.cells #[.bool false,.slice none 0 0,.slice none 0 0] 36 (0,0)))::(some (g1,.cells #[iv a1.Kind,iv a1.At,.string a1.Digest,.slice Aa1_3 a1.Digests.length ca1_3,.string a1.Key,iv a1.Size] 40 (0,0)))::F):=by
 intro H ga0 a1 Aa1_3 ca1_3 g1 g2 y2 A2 c2 ch2 A3 c3 ch3 y3 A4 c4 ch4 g3 v66 v_least9 hra1_3 hca1_3 ho3 ho4 ho5 heq
 unfold cache_store.j4 at heq
 refine Rr<|Rd 2 [0,3,4,6,9,64,65,66] [(0,pg ga0 0),(3,pg g1 0),(4,pg g2 0),(6,pg g3 0),(9,iv v_least9),(64,.slice A3 y2.Entries.length c3),(65,iv (y2.Entries.length:Int)),(66,iv (w64 (v66+1)))]<|Ad 1 [.c [1,1,1,1,1,1,0,1,0,1,0,1,0,0],.l [1,1,1,1,1,1,0,1,0,1,0,1,0,0],.b 0,.c [1,1,1,1,1,1,0,1,0,1,1],.c [1,1,1,1,1,1,1]]<|Kp [0,3,4,6,9,64,65,66] [(0,pg ga0 0),(3,pg g1 0),(4,pg g2 0),(6,pg g3 0),(9,iv v_least9),(64,.slice A3 y2.Entries.length c3),(65,iv (y2.Entries.length:Int)),(66,iv (w64 (v66+1)))] ?_
 exact hbackl3 _ _ a1 _ _ _ _ y2 _ _ _ _ _ _ y3 _ _ _ _ v_least9 (w64 (v66+1)) hra1_3 hca1_3 ho3 ho4 ho5 heq
theorem cache_store.l3_c {w0:World} {H0:Hp} {F:List Ch} {r:CacheAnswer × Cache} (e2:CacheEvent→Cache→(List ByteArray)→Int→Option (CacheAnswer × Cache))
  (he2:∀ (H:Hp) (ga0:Nat) (a1:CacheEvent) (Aa1_3:Option Addr) (ca1_3:Nat) (g1:Nat) (g2:Nat) (y2:Cache) (A2:Option Addr) (c2:Nat) (ch2:Ch) (A3:Option Addr) (c3:Nat) (ch3:Ch) (y3:List ByteArray) (A4:Option Addr) (c4:Nat) (ch4:Ch) (g3:Nat) (v_least9:Int) ,Rw Kd.string H F Aa1_3 a1.Digests→a1.Digests.length≤ca1_3→SlOwn kBlob 29 H A2 c2 y2.Blobs ch2→SlOwn kEntry 57 H A3 c3 y2.Entries ch3→SlOwn Kd.string 9 H A4 c4 y3 ch4→e2 a1 y2 y3 v_least9=some r→RunH C29 (S29 F H0 ga0 r) H0 w0 [.c [1,1,1,1,1,1,0,1,0,1,1,0],.c [1,1,1,1,1,1,0,1,0,1,1,1],.c [1,1,1,1,1,1,1]] [(0,pg ga0 0),(3,pg g1 0),(4,pg g2 0),(6,pg g3 0),(9,iv v_least9)] H ((some (g3,.cells #[.string a1.Key,.slice A4 y3.length c4,iv a1.At] 57 (0,0)))::ch4::(some (ga0,.cells #[iv y2.Room,iv y2.Lease,.slice A2 y2.Blobs.length c2,.slice A3 y2.Entries.length c3] 25 (0,0)))::ch2::ch3::(some (g2,.cells #[.bool false,.slice none 0 0,.slice none 0 0] 36 (0,0)))::(some (g1,.cells #[iv a1.Kind,iv a1.At,.string a1.Digest,.slice Aa1_3 a1.Digests.length ca1_3,.string a1.Key,iv a1.Size] 40 (0,0)))::F)):∀ (k:Nat),∀ (H:Hp) (ga0:Nat) (a1:CacheEvent) (Aa1_3:Option Addr) (ca1_3:Nat) (g1:Nat) (g2:Nat) (y2:Cache) (A2:Option Addr) (c2:Nat) (ch2:Ch) (A3:Option Addr) (c3:Nat) (ch3:Ch) (y3:List ByteArray) (A4:Option Addr) (c4:Nat) (ch4:Ch) (g3:Nat) (v_least9:Int) (v66:Int) ,Rw Kd.string H F Aa1_3 a1.Digests→a1.Digests.length≤ca1_3→SlOwn kBlob 29 H A2 c2 y2.Blobs ch2→SlOwn kEntry 57 H A3 c3 y2.Entries ch3→SlOwn Kd.string 9 H A4 c4 y3 ch4→cache_store.l3 e2 k a1 y2 y3 v_least9 v66=some r→RunH C29 (S29 F H0 ga0 r) H0 w0 [.c [1,1,1,1,1,1,0,1,0,1,0,1,0,0],.l [1,1,1,1,1,1,0,1,0,1,0,1,0,0],.b 0,.c [1,1,1,1,1,1,0,1,0,1,1],.c [1,1,1,1,1,1,1]] [(0,pg ga0 0),(3,pg g1 0),(4,pg g2 0),(6,pg g3 0),(9,iv v_least9),(64,.slice A3 y2.Entries.length c3),(65,iv (y2.Entries.length:Int)),(66,iv v66)] H ((some (g3,.cells #[.string a1.Key,.slice A4 y3.length c4,iv a1.At] 57 (0,0)))::ch4::(some (ga0,.cells #[iv y2.Room,iv y2.Lease,.slice A2 y2.Blobs.length c2,.slice A3 y2.Entries.length c3] 25 (0,0)))::ch2::ch3::(some (g2,.cells #[.bool false,.slice none 0 0,.slice none 0 0] 36 (0,0)))::(some (g1,.cells #[iv a1.Kind,iv a1.At,.string a1.Digest,.slice Aa1_3 a1.Digests.length ca1_3,.string a1.Key,iv a1.Size] 40 (0,0)))::F):=by
 intro k
 induction k with
 | zero=>intro H ga0 a1 Aa1_3 ca1_3 g1 g2 y2 A2 c2 ch2 A3 c3 ch3 y3 A4 c4 ch4 g3 v_least9 v66 hra1_3 hca1_3 ho3 ho4 ho5 heq; exact nomatch (show (none:Option (CacheAnswer × Cache))=some r from heq)
 | succ k ihk =>
  intro H ga0 a1 Aa1_3 ca1_3 g1 g2 y2 A2 c2 ch2 A3 c3 ch3 y3 A4 c4 ch4 g3 v_least9 v66 hra1_3 hca1_3 ho3 ho4 ho5 heq
  rw [cache_store.l3] at heq
  refine Ra 1 [1,1,1,1,1,1,0,1,0,1,0,1,0,0,0] [.c [1,1,1,1,1,1,0,1,0,1,0,1,0,0,1],.l [1,1,1,1,1,1,0,1,0,1,0,1,0,0],.b 0,.c [1,1,1,1,1,1,0,1,0,1,1],.c [1,1,1,1,1,1,1]]<|Rd 1 [0,3,4,6,9,64,65,66,67] [(0,pg ga0 0),(3,pg g1 0),(4,pg g2 0),(6,pg g3 0),(9,iv v_least9),(64,.slice A3 y2.Entries.length c3),(65,iv (y2.Entries.length:Int)),(66,iv v66),(67,.bool (decide (v66<(y2.Entries.length:Int))))]<|Ad 1 [.c [1,1,1,1,1,1,0,1,0,1,0,1,0,0,1,0],.c [1,1,1,1,1,1,0,1,0,1,0,1,0,0,1,1],.l [1,1,1,1,1,1,0,1,0,1,0,1,0,0],.b 0,.c [1,1,1,1,1,1,0,1,0,1,1],.c [1,1,1,1,1,1,1]] ?_
  rcases bool_cases (decide (v66<(y2.Entries.length:Int))) with hb4 | hb4
  ·replace heq:=bif_true hb4 heq
   refine Ct (decide (v66<(y2.Entries.length:Int))) hb4<|Ra 4 [1,1,1,1,1,1,0,1,0,1,0,1,0,0,1,1,0,0,0] [.c [1,1,1,1,1,1,0,1,0,1,0,1,0,0,1,1,0,0,1],.b 1,.c [1,1,1,1,1,1,0,1,0,1,0,1,0,0,1,1,1],.l [1,1,1,1,1,1,0,1,0,1,0,1,0,0],.b 0,.c [1,1,1,1,1,1,0,1,0,1,1],.c [1,1,1,1,1,1,1]] ?_
   obtain ⟨x2,hx2,heq⟩:=bind_some heq
   obtain ⟨ha3,cs3,hK3,hcc3⟩:=ho4.get hx2
   obtain ⟨A9,c9,rfl,hc5,hr5⟩:=kEntry_open hK3
   refine Rv 3 [0,3,4,6,9,64,65,66,68,70] [.string x2.Key,.slice A9 x2.Refs.length c9,iv x2.Used] [.need (A3=some (adr A3)∧(0:Int)≤v66∧v66<((y2.Entries.length:Nat):Int)),.load (((adr A3).add (v66.toNat*3)).add 0) (.string x2.Key),.load (((adr A3).add (v66.toNat*3)).add 1) (.slice A9 x2.Refs.length c9),.load (((adr A3).add (v66.toNat*3)).add 2) (iv x2.Used)] [(0,pg ga0 0),(3,pg g1 0),(4,pg g2 0),(6,pg g3 0),(9,iv v_least9),(64,.slice A3 y2.Entries.length c3),(65,iv (y2.Entries.length:Int)),(66,iv v66),(68,iv v66),(70,.agg #[.string x2.Key,.slice A9 x2.Refs.length c9,iv x2.Used])] (fun w hh=>⟨⟨ha3,(at?_some hx2).1,(at?_some hx2).2.1⟩,(hcc3 _ (hh.chin 4 rfl) 0 _ rfl),(hcc3 _ (hh.chin 4 rfl) 1 _ rfl),(hcc3 _ (hh.chin 4 rfl) 2 _ rfl)⟩) ?_
   refine RgH.does (DoesH.new (d:=11) (v:=fun g=>.pointer (some ⟨g,0,none⟩)) (o:=fun g=>.cells #[.string ByteArray.empty,.slice none 0 0,iv 0] 57 (0,0)) (fun g=>by kernel_rfl)) ?_
   rintro _ _ _ _ ⟨g5,rfl,rfl,rfl⟩
   refine Rk 5 [0,3,4,6,9,10,11,64,65,66,70] [(0,pg ga0 0),(3,pg g1 0),(4,pg g2 0),(6,pg g3 0),(9,iv v_least9),(10,iv v66),(11,pg g5 0),(64,.slice A3 y2.Entries.length c3),(65,iv (y2.Entries.length:Int)),(66,iv v66),(70,.agg #[.string x2.Key,.slice A9 x2.Refs.length c9,iv x2.Used])] ?_
   refine RgH.does (DoesH.store (k:=0) (g:=g5) (off:=0) (v:=.agg #[.string x2.Key,.slice A9 x2.Refs.length c9,iv x2.Used]) (cells':=#[.string x2.Key,.slice A9 x2.Refs.length c9,iv x2.Used]) (by kernel_rfl) rfl (by kernel_rfl) (by kernel_rfl)) ?_
   rintro _ _ _ _ ⟨rfl,rfl,rfl⟩
   refine Dn<|Ad 1 [.c [1,1,1,1,1,1,0,1,0,1,0,1,0,0,1,1,0,0,1,0],.c [1,1,1,1,1,1,0,1,0,1,0,1,0,0,1,1,0,0,1,1],.b 1,.c [1,1,1,1,1,1,0,1,0,1,0,1,0,0,1,1,1],.l [1,1,1,1,1,1,0,1,0,1,0,1,0,0],.b 0,.c [1,1,1,1,1,1,0,1,0,1,1],.c [1,1,1,1,1,1,1]]<|Kp [0,3,4,6,9,10,11,64,65,66] [(0,pg ga0 0),(3,pg g1 0),(4,pg g2 0),(6,pg g3 0),(9,iv v_least9),(10,iv v66),(11,pg g5 0),(64,.slice A3 y2.Entries.length c3),(65,iv (y2.Entries.length:Int)),(66,iv v66)] ?_
   refine RunH.draw (fun w=>Heap H w0 w ((some (g5,.cells #[.string x2.Key,.slice A9 x2.Refs.length c9,iv x2.Used] 57 (0,0)))::(some (g3,.cells #[.string a1.Key,.slice A4 y3.length c4,iv a1.At] 57 (0,0)))::ch4::(some (ga0,.cells #[iv y2.Room,iv y2.Lease,.slice A2 y2.Blobs.length c2,.slice A3 y2.Entries.length c3] 25 (0,0)))::ch2::ch3::(some (g2,.cells #[.bool false,.slice none 0 0,.slice none 0 0] 36 (0,0)))::(some (g1,.cells #[iv a1.Kind,iv a1.At,.string a1.Digest,.slice Aa1_3 a1.Digests.length ca1_3,.string a1.Key,iv a1.Size] 40 (0,0)))::F)) (fun w=>Heap H w0 w ((some (g5,.cells #[.string x2.Key,.slice A9 x2.Refs.length c9,iv x2.Used] 57 (0,0)))::(some (g3,.cells #[.string a1.Key,.slice A4 y3.length c4,iv a1.At] 57 (0,0)))::ch4::(some (ga0,.cells #[iv y2.Room,iv y2.Lease,.slice A2 y2.Blobs.length c2,.slice A3 y2.Entries.length c3] 25 (0,0)))::ch2::ch3::(some (g2,.cells #[.bool false,.slice none 0 0,.slice none 0 0] 36 (0,0)))::(some (g1,.cells #[iv a1.Kind,iv a1.At,.string a1.Digest,.slice Aa1_3 a1.Digests.length ca1_3,.string a1.Key,iv a1.Size] 40 (0,0)))::F)) [3,3,3,3,3,3,3,3,3,3,3] (n:=11) (ls:=[false,false,false,false,false,false,false,false,false,false,false]) (by kernel_rfl) (by kernel_rfl) (by kernel_rfl) rfl ?_
   obtain ⟨x3,hx3,heq⟩:=bind_some heq
   obtain ⟨ha4,cs4,hK4,hcc4⟩:=ho4.get hx3
   obtain ⟨A10,c10,rfl,hc6,hr6⟩:=kEntry_open hK4
   refine Dk [0,1,2,3,4,5,6,7,8,9,10] 0 (nb 11 2047) [iv x2.Used,.slice A3 y2.Entries.length c3,iv x3.Used] [.load ⟨g5,2,none⟩ (iv x2.Used),.load ⟨ga0,3,none⟩ (.slice A3 y2.Entries.length c3),.need (A3=some (adr A3)∧(0:Int)≤v_least9∧v_least9<((y2.Entries.length:Nat):Int)),.load (((adr A3).add (v_least9.toNat*3)).add 2) (iv x3.Used)] [0,3,4,6,9,10,64,65,66,81] [(0,pg ga0 0),(3,pg g1 0),(4,pg g2 0),(6,pg g3 0),(9,iv v_least9),(10,iv v66),(64,.slice A3 y2.Entries.length c3),(65,iv (y2.Entries.length:Int)),(66,iv v66),(81,.bool (decide (x2.Used<x3.Used)))] (Pk 8 [0,1,2,3,4,5,6,7]) (Pk 8 [0,1,2,3,4,5,6,7]) (fun w hh=>⟨(hh.box 0 rfl rfl),(hh.box 3 rfl rfl),⟨ha4,(at?_some hx3).1,(at?_some hx3).2.1⟩,(hcc4 _ (hh.chin 5 rfl) 2 _ rfl)⟩) ?_
   refine DrH.done (by kernel_rfl) ?_
   rcases bool_cases (decide (x2.Used<x3.Used)) with hb5 | hb5
   ·replace heq:=bif_true hb5 heq
    refine Ct (decide (x2.Used<x3.Used)) hb5<|Rr<|Rd 2 [0,3,4,6,9,64,65,66] [(0,pg ga0 0),(3,pg g1 0),(4,pg g2 0),(6,pg g3 0),(9,iv v66),(64,.slice A3 y2.Entries.length c3),(65,iv (y2.Entries.length:Int)),(66,iv v66)]<|Ad 1 [.c [1,1,1,1,1,1,0,1,0,1,0,1,0,0,1,1,1],.l [1,1,1,1,1,1,0,1,0,1,0,1,0,0],.b 0,.c [1,1,1,1,1,1,0,1,0,1,1],.c [1,1,1,1,1,1,1]]<|Kp [0,3,4,6,9,64,65,66] [(0,pg ga0 0),(3,pg g1 0),(4,pg g2 0),(6,pg g3 0),(9,iv v66),(64,.slice A3 y2.Entries.length c3),(65,iv (y2.Entries.length:Int)),(66,iv v66)] ?_
    refine RunH.pick 8 [1,2,3,4,5,6,7] (cs':=(some (g3,.cells #[.string a1.Key,.slice A4 y3.length c4,iv a1.At] 57 (0,0)))::ch4::(some (ga0,.cells #[iv y2.Room,iv y2.Lease,.slice A2 y2.Blobs.length c2,.slice A3 y2.Entries.length c3] 25 (0,0)))::ch2::ch3::(some (g2,.cells #[.bool false,.slice none 0 0,.slice none 0 0] 36 (0,0)))::(some (g1,.cells #[iv a1.Kind,iv a1.At,.string a1.Digest,.slice Aa1_3 a1.Digests.length ca1_3,.string a1.Key,iv a1.Size] 40 (0,0)))::F) (by kernel_rfl) rfl ?_
    exact (cache_store.j4_c (backl3:=(cache_store.l3 e2 k)) ihk) _ _ a1 _ _ _ _ y2 _ _ _ _ _ _ y3 _ _ _ _ v66 v66 hra1_3 hca1_3 ho3 ho4 ho5 heq
   ·replace heq:=bif_false hb5 heq
    refine Cf (decide (x2.Used<x3.Used)) hb5<|Ad 2 [.c [1,1,1,1,1,1,0,1,0,1,0,1,0,0,1,1,1],.l [1,1,1,1,1,1,0,1,0,1,0,1,0,0],.b 0,.c [1,1,1,1,1,1,0,1,0,1,1],.c [1,1,1,1,1,1,1]]<|Kp [0,3,4,6,9,64,65,66] [(0,pg ga0 0),(3,pg g1 0),(4,pg g2 0),(6,pg g3 0),(9,iv v_least9),(64,.slice A3 y2.Entries.length c3),(65,iv (y2.Entries.length:Int)),(66,iv v66)] ?_
    refine RunH.pick 8 [1,2,3,4,5,6,7] (cs':=(some (g3,.cells #[.string a1.Key,.slice A4 y3.length c4,iv a1.At] 57 (0,0)))::ch4::(some (ga0,.cells #[iv y2.Room,iv y2.Lease,.slice A2 y2.Blobs.length c2,.slice A3 y2.Entries.length c3] 25 (0,0)))::ch2::ch3::(some (g2,.cells #[.bool false,.slice none 0 0,.slice none 0 0] 36 (0,0)))::(some (g1,.cells #[iv a1.Kind,iv a1.At,.string a1.Digest,.slice Aa1_3 a1.Digests.length ca1_3,.string a1.Key,iv a1.Size] 40 (0,0)))::F) (by kernel_rfl) rfl ?_
    exact (cache_store.j4_c (backl3:=(cache_store.l3 e2 k)) ihk) _ _ a1 _ _ _ _ y2 _ _ _ _ _ _ y3 _ _ _ _ v66 v_least9 hra1_3 hca1_3 ho3 ho4 ho5 heq
  ·replace heq:=bif_false hb4 heq
   refine Cf (decide (v66<(y2.Entries.length:Int))) hb4<|Ad 2 [.c [1,1,1,1,1,1,0,1,0,1,1,0],.c [1,1,1,1,1,1,0,1,0,1,1,1],.c [1,1,1,1,1,1,1]]<|Kp [0,3,4,6,9] [(0,pg ga0 0),(3,pg g1 0),(4,pg g2 0),(6,pg g3 0),(9,iv v_least9)] ?_
   exact he2 _ _ a1 _ _ _ _ y2 _ _ _ _ _ _ y3 _ _ _ _ v_least9 hra1_3 hca1_3 ho3 ho4 ho5 heq
theorem cache_store_c {w0:World} {H0:Hp} {F:List Ch} {ga0:Nat} {a0:Cache} {Aa0_2:Option Addr} {na0_2:Nat} {ca0_2:Nat} {cha0_2:Ch} {Aa0_3:Option Addr} {na0_3:Nat} {ca0_3:Nat} {cha0_3:Ch} {a1:CacheEvent} {Aa1_3:Option Addr} {na1_3:Nat} {ca1_3:Nat} {r:CacheAnswer × Cache} (hoa0_2:SlOwn kBlob 29 H0 Aa0_2 ca0_2 a0.Blobs cha0_2) (hna0_2:na0_2=a0.Blobs.length) (hoa0_3:SlOwn kEntry 57 H0 Aa0_3 ca0_3 a0.Entries cha0_3) (hna0_3:na0_3=a0.Entries.length) (hra1_3:Rw Kd.string H0 F Aa1_3 a1.Digests) (hca1_3:na1_3≤ca1_3) (hna1_3:na1_3=a1.Digests.length) (heq:cache_store.f a0 a1=some r):CallsH Tryd.prog 29 #[.pointer (some ⟨ga0,0,none⟩),.agg #[iv a1.Kind,iv a1.At,.string a1.Digest,.slice Aa1_3 na1_3 ca1_3,.string a1.Key,iv a1.Size]] H0 w0 ((some (ga0,.cells #[iv a0.Room,iv a0.Lease,.slice Aa0_2 na0_2 ca0_2,.slice Aa0_3 na0_3 ca0_3] 25 (0,0)))::cha0_2::cha0_3::F) (S29 F H0 ga0 r):=by
 refine calls_of_runH (F:=C29) Tryd.func29 (by kernel_rfl) Tryd.ntmps29 (args:=[.pointer (some ⟨ga0,0,none⟩),.agg #[iv a1.Kind,iv a1.At,.string a1.Digest,.slice Aa1_3 na1_3 ca1_3,.string a1.Key,iv a1.Size]]) (by kernel_rfl) ?_
 subst hna0_2
 subst hna0_3
 subst hna1_3
 unfold cache_store.f at heq
 suffices key:∀ (H:Hp),SlOwn kBlob 29 H Aa0_2 ca0_2 a0.Blobs cha0_2→SlOwn kEntry 57 H Aa0_3 ca0_3 a0.Entries cha0_3→Rw Kd.string H F Aa1_3 a1.Digests→RunH C29 (S29 F H0 ga0 r) H0 w0 [.c []] (argL 0 [.pointer (some ⟨ga0,0,none⟩),.agg #[iv a1.Kind,iv a1.At,.string a1.Digest,.slice Aa1_3 (a1.Digests.length) ca1_3,.string a1.Key,iv a1.Size]]) H ((some (ga0,.cells #[iv a0.Room,iv a0.Lease,.slice Aa0_2 (a0.Blobs.length) ca0_2,.slice Aa0_3 (a0.Entries.length) ca0_3] 25 (0,0)))::cha0_2::cha0_3::F) from key H0 hoa0_2 hoa0_3 hra1_3
 intro H hoa0_2 hoa0_3 hra1_3
 refine Ra 1 [0] [.c [1]] ?_
 refine RgH.does (DoesH.new (d:=3) (v:=fun g=>.pointer (some ⟨g,0,none⟩)) (o:=fun g=>.cells #[iv a1.Kind,iv a1.At,.string a1.Digest,.slice Aa1_3 a1.Digests.length ca1_3,.string a1.Key,iv a1.Size] 40 (0,0)) (fun g=>by kernel_rfl)) ?_
 rintro _ _ _ _ ⟨g1,rfl,rfl,rfl⟩
 refine RgH.does (DoesH.new (d:=4) (v:=fun g=>.pointer (some ⟨g,0,none⟩)) (o:=fun g=>.cells #[.bool false,.slice none 0 0,.slice none 0 0] 36 (0,0)) (fun g=>by kernel_rfl)) ?_
 rintro _ _ _ _ ⟨g2,rfl,rfl,rfl⟩
 refine Dn<|Ad 2 [.c [1,0,0],.c [1,0,1],.c [1,1]]<|Kp [0,3,4] [(0,pg ga0 0),(3,pg g1 0),(4,pg g2 0)] ?_
 refine RunH.draw (fun w=>Heap H w0 w ((some (g2,.cells #[.bool false,.slice none 0 0,.slice none 0 0] 36 (0,0)))::(some (g1,.cells #[iv a1.Kind,iv a1.At,.string a1.Digest,.slice Aa1_3 a1.Digests.length ca1_3,.string a1.Key,iv a1.Size] 40 (0,0)))::(some (ga0,.cells #[iv a0.Room,iv a0.Lease,.slice Aa0_2 a0.Blobs.length ca0_2,.slice Aa0_3 a0.Entries.length ca0_3] 25 (0,0)))::cha0_2::cha0_3::F)) (fun w=>Heap H w0 w ((some (g2,.cells #[.bool false,.slice none 0 0,.slice none 0 0] 36 (0,0)))::(some (g1,.cells #[iv a1.Kind,iv a1.At,.string a1.Digest,.slice Aa1_3 a1.Digests.length ca1_3,.string a1.Key,iv a1.Size] 40 (0,0)))::(some (ga0,.cells #[iv a0.Room,iv a0.Lease,.slice Aa0_2 a0.Blobs.length ca0_2,.slice Aa0_3 a0.Entries.length ca0_3] 25 (0,0)))::cha0_2::cha0_3::F)) [3,3,3,3,3,0,3] (n:=7) (ls:=[false,false,false,false,false,false,false]) (by kernel_rfl) (by kernel_rfl) (by kernel_rfl) rfl ?_
 refine Dk [0,1,2,3,4] 2 (nb 7 31) [iv a0.Room,iv a0.Lease,.slice Aa0_2 a0.Blobs.length ca0_2,.slice Aa0_3 a0.Entries.length ca0_3,.slice Aa1_3 a1.Digests.length ca1_3] [.load ⟨ga0,0,none⟩ (iv a0.Room),.load ⟨ga0,1,none⟩ (iv a0.Lease),.load ⟨ga0,2,none⟩ (.slice Aa0_2 a0.Blobs.length ca0_2),.load ⟨ga0,3,none⟩ (.slice Aa0_3 a0.Entries.length ca0_3),.load ⟨g1,3,none⟩ (.slice Aa1_3 a1.Digests.length ca1_3)] [0,3,4,14,16] [(0,pg ga0 0),(3,pg g1 0),(4,pg g2 0),(14,.agg #[iv a0.Room,iv a0.Lease,.slice Aa0_2 a0.Blobs.length ca0_2,.slice Aa0_3 a0.Entries.length ca0_3]),(16,.slice Aa1_3 a1.Digests.length ca1_3)] (Pk 5 [0,1,2,3,4]) (Pk 5 [0,1,2,3,4]) (fun w hh=>⟨(hh.box 2 rfl rfl),(hh.box 2 rfl rfl),(hh.box 2 rfl rfl),(hh.box 2 rfl rfl),(hh.box 1 rfl rfl)⟩) ?_
 obtain ⟨y1,hy1,heq⟩:=bind_some heq
 refine DrH.does (n:=1) (ls':=[true,true,true,true,true,true,false]) 5 (by kernel_rfl) rfl (DoesH.call (d:=17) (g:=27) (args:=#[.agg #[iv a0.Room,iv a0.Lease,.slice Aa0_2 a0.Blobs.length ca0_2,.slice Aa0_3 a0.Entries.length ca0_3],.slice Aa1_3 a1.Digests.length ca1_3]) (by kernel_rfl) (cache_missing_c (a0:=(⟨a0.Room,a0.Lease,a0.Blobs,a0.Entries⟩:Cache)) (a1:=a1.Digests) (hoa0_2.rw (.tail _ (.tail _ (.tail _ (.head _))))) hoa0_2.cap rfl (hoa0_3.rw (.tail _ (.tail _ (.tail _ (.tail _ (.head _)))))) hoa0_3.cap rfl (hra1_3.wk (fun _ h=>(.tail _ (.tail _ (.tail _ (.tail _ (.tail _ h))))))) hca1_3 rfl hy1)) ?_
 rintro _ _ _ _ ⟨_,rfl,A1,c1,ch1,rfl,rfl,rfl,ho1⟩
 refine ⟨fun _ w hh=>⟨fun _=>(Pk 6 [1,2,3,4,5]) w hh,fun _=>(Pk 6 [1,2,3,4,5]) w hh,(fun h=>by cases h)⟩,?_⟩
 refine Dk [6] 0 (nb 7 127) [] [] [0,3,4,5] [(0,pg ga0 0),(3,pg g1 0),(4,pg g2 0),(5,.slice A1 y1.length c1)] (Pk 6 [1,2,3,4,5]) (Pk 5 [0,1,2,3,4]) (fun _ _=>trivial) ?_
 refine DrH.done (by kernel_rfl) ?_
 refine Ra 1 [1,0,1,0] [.c [1,0,1,1],.c [1,1]]<|Rd 3 [0,3,4,5,20] [(0,pg ga0 0),(3,pg g1 0),(4,pg g2 0),(5,.slice A1 y1.length c1),(20,.bool (decide (0<(y1.length:Int))))] ?_
 rcases bool_cases (decide (0<(y1.length:Int))) with hb1 | hb1
 ·replace heq:=bif_true hb1 heq
  refine Ct (decide (0<(y1.length:Int))) hb1<|Ra 1 [1,0,1,1,0,0] [.c [1,0,1,1,0,1],.c [1,1]]<|Rk 2 [0,4,22] [(0,pg ga0 0),(4,pg g2 0),(22,.agg #[.bool false,.slice A1 y1.length c1,.slice none 0 0])] ?_
  refine RgH.does (DoesH.store (k:=1) (g:=g2) (off:=0) (v:=.agg #[.bool false,.slice A1 y1.length c1,.slice none 0 0]) (cells':=#[.bool false,.slice A1 y1.length c1,.slice none 0 0]) (by kernel_rfl) rfl (by kernel_rfl) (by kernel_rfl)) ?_
  rintro _ _ _ _ ⟨rfl,rfl,rfl⟩
  refine Dn<|RunH.nilc ?_
  have ho2:SlOwn Kd.string 9 H none 0 ([]:List ByteArray) none:=SlOwn.nil
  obtain rfl:=Option.some.inj heq
  refine RunH.pick 7 [2,1,0,4,5,6] (cs':=(some (g2,.cells #[.bool false,.slice A1 y1.length c1,.slice none 0 0] 36 (0,0)))::ch1::none::(some (ga0,.cells #[iv a0.Room,iv a0.Lease,.slice Aa0_2 a0.Blobs.length ca0_2,.slice Aa0_3 a0.Entries.length ca0_3] 25 (0,0)))::cha0_2::cha0_3::F) (by kernel_rfl) rfl ?_
  exact RunH.doneM' 1 (vs:=[.agg #[.bool false,.slice A1 y1.length c1,.slice none 0 0]]) (v:=.agg #[.bool false,.slice A1 y1.length c1,.slice none 0 0]) (by kernel_rfl) Tryd.func29 (fun w hh=>show ResAll _ _ _ [.cell 4 36] _ from ⟨⟨⟨g2,0,none⟩,by kernel_rfl,trS_run _ (vs:=[.bool false,.slice A1 y1.length c1,.slice none 0 0]) (r:=[]) (es:=[.load ⟨g2,0,none⟩ (.bool false),.load ⟨g2,1,none⟩ (.slice A1 y1.length c1),.load ⟨g2,2,none⟩ (.slice none 0 0)]) (by kernel_rfl) ⟨(hh.box 0 rfl rfl),(hh.box 0 rfl rfl),(hh.box 0 rfl rfl)⟩⟩,trivial⟩) rfl (cs':=ch1::none::(some (ga0,.cells #[iv a0.Room,iv a0.Lease,.slice Aa0_2 a0.Blobs.length ca0_2,.slice Aa0_3 a0.Entries.length ca0_3] 25 (0,0)))::cha0_2::cha0_3::F) rfl ⟨A1,c1,ch1,none,0,none,Aa0_2,ca0_2,cha0_2,Aa0_3,ca0_3,cha0_3,rfl,rfl,ho1,ho2,hoa0_2,hoa0_3⟩
 ·replace heq:=bif_false hb1 heq
  refine Cf (decide (0<(y1.length:Int))) hb1<|Ra 2 [1,1,0] [.c [1,1,1]]<|Rv 5 [0,3,4,23,25,27] [.slice Aa1_3 a1.Digests.length ca1_3,iv a1.At] [.load ⟨g1,3,none⟩ (.slice Aa1_3 a1.Digests.length ca1_3),.load ⟨g1,1,none⟩ (iv a1.At)] [(0,pg ga0 0),(3,pg g1 0),(4,pg g2 0),(23,pg ga0 0),(25,.slice Aa1_3 a1.Digests.length ca1_3),(27,iv a1.At)] (fun w hh=>⟨(hh.box 2 rfl rfl),(hh.box 2 rfl rfl)⟩) ?_
  refine RgH.pick 6 [3,4,5,0,1,2] (cs':=(some (ga0,.cells #[iv a0.Room,iv a0.Lease,.slice Aa0_2 a0.Blobs.length ca0_2,.slice Aa0_3 a0.Entries.length ca0_3] 25 (0,0)))::cha0_2::cha0_3::ch1::(some (g2,.cells #[.bool false,.slice none 0 0,.slice none 0 0] 36 (0,0)))::(some (g1,.cells #[iv a1.Kind,iv a1.At,.string a1.Digest,.slice Aa1_3 a1.Digests.length ca1_3,.string a1.Key,iv a1.Size] 40 (0,0)))::F) (by kernel_rfl) rfl ?_
  obtain ⟨y2,hy2,heq⟩:=bind_some heq
  refine RgH.does (DoesH.call (d:=28) (g:=26) (args:=#[.pointer (some ⟨ga0,0,none⟩),.slice Aa1_3 a1.Digests.length ca1_3,iv a1.At,.bool true,.bool false]) (by kernel_rfl) (cache_touch_3_c (a0:=(⟨a0.Room,a0.Lease,a0.Blobs,a0.Entries⟩:Cache)) (a1:=a1.Digests) (a2:=a1.At) (a3:=true) (a4:=false) hoa0_2 rfl hoa0_3 rfl (hra1_3.wk (fun _ h=>(.tail _ (.tail _ (.tail _ h))))) hca1_3 rfl hy2)) ?_
  rintro _ _ _ _ ⟨_,rfl,A2,c2,ch2,A3,c3,ch3,rfl,rfl,rfl,ho3,ho4⟩
  refine Dn<|Ad 1 [.c [1,1,1,0],.c [1,1,1,1]]<|Kp [0,3,4] [(0,pg ga0 0),(3,pg g1 0),(4,pg g2 0)] ?_
  refine RunH.draw (fun w=>Heap H w0 w ((some (ga0,.cells #[iv y2.Room,iv y2.Lease,.slice A2 y2.Blobs.length c2,.slice A3 y2.Entries.length c3] 25 (0,0)))::ch2::ch3::ch1::(some (g2,.cells #[.bool false,.slice none 0 0,.slice none 0 0] 36 (0,0)))::(some (g1,.cells #[iv a1.Kind,iv a1.At,.string a1.Digest,.slice Aa1_3 a1.Digests.length ca1_3,.string a1.Key,iv a1.Size] 40 (0,0)))::F)) (fun w=>Heap H w0 w ((some (ga0,.cells #[iv y2.Room,iv y2.Lease,.slice A2 y2.Blobs.length c2,.slice A3 y2.Entries.length c3] 25 (0,0)))::ch2::ch3::ch1::(some (g2,.cells #[.bool false,.slice none 0 0,.slice none 0 0] 36 (0,0)))::(some (g1,.cells #[iv a1.Kind,iv a1.At,.string a1.Digest,.slice Aa1_3 a1.Digests.length ca1_3,.string a1.Key,iv a1.Size] 40 (0,0)))::F)) [3,3,3,3,0,3,3,3,0,0] (n:=10) (ls:=[false,false,false,false,false,false,false,false,false,false]) (by kernel_rfl) (by kernel_rfl) (by kernel_rfl) rfl ?_
  refine Dk [0,1,2,3,5,6] 4 (nb 10 111) [.string a1.Key,.slice Aa1_3 a1.Digests.length ca1_3,iv a1.At] [.load ⟨g1,4,none⟩ (.string a1.Key),.load ⟨g1,3,none⟩ (.slice Aa1_3 a1.Digests.length ca1_3),.load ⟨g1,1,none⟩ (iv a1.At)] [0,3,4,30,32,35] [(0,pg ga0 0),(3,pg g1 0),(4,pg g2 0),(30,.string a1.Key),(32,.slice Aa1_3 a1.Digests.length ca1_3),(35,iv a1.At)] (Pk 6 [0,1,2,3,4,5]) (Pk 6 [0,1,2,3,4,5]) (fun w hh=>⟨(hh.box 5 rfl rfl),(hh.box 5 rfl rfl),(hh.box 5 rfl rfl)⟩) ?_
  refine DrF.start [(8,6,none,.cells #[.string ByteArray.empty,.slice none 0 0,iv 0] 57 (0,0))] (n:=3) (by kernel_rfl) ?_
  refine DrF.keep [0,3,4,30,32,35] (L':=[(0,pg ga0 0),(3,pg g1 0),(4,pg g2 0),(30,.string a1.Key),(32,.slice Aa1_3 a1.Digests.length ca1_3),(35,iv a1.At)]) (by kernel_rfl) (by kernel_rfl) ?_
  obtain ⟨y3,hy3,heq⟩:=bind_some heq
  refine DrF.does1 (n:=2) (ls':=[true,true,true,true,true,true,true,false,false,false]) (by kernel_rfl) 4 ⟨fun E g=>by kernel_rfl,trivial⟩ (by kernel_rfl) (by kernel_rfl) rfl (fun w hh=>⟨(Pk 6 [0,1,2,3,4,5]) w hh,(Pk 6 [0,1,2,3,4,5]) w hh⟩) (fun fc1 fE1=>DoesH.call (d:=33) (g:=21) (args:=#[.slice Aa1_3 a1.Digests.length ca1_3]) (by kernel_rfl) (slices_Clone_string_c (a0:=a1.Digests) (hra1_3.wk (fun _ h=>(.tail _ (.tail _ (.tail _ (.tail _ (.tail _ (.tail _ (.tail _ h))))))))) hca1_3 rfl hy3)) ?_
  rintro fc1 fE1
  rintro _ _ _ _ ⟨_,rfl,A4,c4,ch4,rfl,rfl,rfl,ho5⟩
  refine ⟨fun _ w hh=>⟨fun _=>(Pk 8 [2,3,4,5,6,7]) w hh,fun _=>(Pk 8 [2,3,4,5,6,7]) w hh,(fun h=>by cases h)⟩,[(33,.slice A4 y3.length c4),(0,pg ga0 0),(3,pg g1 0),(4,pg g2 0),(30,.string a1.Key),(32,.slice Aa1_3 a1.Digests.length ca1_3),(35,iv a1.At)],ch4::(some (ga0,.cells #[iv y2.Room,iv y2.Lease,.slice A2 y2.Blobs.length c2,.slice A3 y2.Entries.length c3] 25 (0,0)))::ch2::ch3::ch1::(some (g2,.cells #[.bool false,.slice none 0 0,.slice none 0 0] 36 (0,0)))::(some (g1,.cells #[iv a1.Kind,iv a1.At,.string a1.Digest,.slice Aa1_3 a1.Digests.length ca1_3,.string a1.Key,iv a1.Size] 40 (0,0)))::F,rfl,(Pk 8 [1,0,2,3,4,5,6,7]),?_⟩
  refine DrF.run [7] (m:=1) (ls':=[true,true,true,true,true,true,true,true,false,false]) (vs:=[]) (evs:=[]) (L':=[(36,.agg #[.string a1.Key,.slice A4 y3.length c4,iv a1.At]),(33,.slice A4 y3.length c4),(0,pg ga0 0),(3,pg g1 0),(4,pg g2 0),(30,.string a1.Key),(32,.slice Aa1_3 a1.Digests.length ca1_3),(35,iv a1.At)]) (by kernel_rfl) (Pk 7 [1,2,3,4,5,6]) (Pk 6 [0,1,2,3,4,5]) (pats1 (fun E=>by kernel_rfl) (fun E=>by kernel_rfl)) (fun _ _=>trivial) (by kernel_rfl) ?_
  refine DrF.keep [0,3,4,36] (L':=[(0,pg ga0 0),(3,pg g1 0),(4,pg g2 0),(36,.agg #[.string a1.Key,.slice A4 y3.length c4,iv a1.At])]) (by kernel_rfl) (by kernel_rfl) ?_
  refine DrF.close1 (n:=1) (ls':=[true,true,true,true,true,true,true,true,true,false]) (by kernel_rfl) ⟨fun E g=>by kernel_rfl,trivial⟩ (by kernel_rfl) (by kernel_rfl) rfl (fun w hh=>⟨(Pk 7 [1,2,3,4,5,6]) w hh,(Pk 7 [1,2,3,4,5,6]) w hh⟩) ?_
  intro g3
  refine Kr [0,3,4,6,36] [(0,pg ga0 0),(3,pg g1 0),(4,pg g2 0),(6,pg g3 0),(36,.agg #[.string a1.Key,.slice A4 y3.length c4,iv a1.At])] ?_
  refine DrH.does (n:=0) (ls':=[true,true,true,true,true,true,true,true,true,true]) 9 (by kernel_rfl) rfl (DoesH.store (k:=0) (g:=g3) (off:=0) (v:=.agg #[.string a1.Key,.slice A4 y3.length c4,iv a1.At]) (cells':=#[.string a1.Key,.slice A4 y3.length c4,iv a1.At]) (by kernel_rfl) rfl (by kernel_rfl) (by kernel_rfl)) ?_
  rintro _ _ _ _ ⟨rfl,rfl,rfl⟩
  refine ⟨fun _ w hh=>⟨fun _=>(Pk 8 [2,3,4,5,6,7]) w hh,fun _=>(Pk 8 [2,3,4,5,6,7]) w hh,(fun h=>by cases h)⟩,?_⟩
  refine Kr [0,3,4,6] [(0,pg ga0 0),(3,pg g1 0),(4,pg g2 0),(6,pg g3 0)] ?_
  refine DrH.done (by kernel_rfl) ?_
  refine Ad 1 [.c [1,1,1,1,0],.c [1,1,1,1,1]]<|Kp [0,3,4,6] [(0,pg ga0 0),(3,pg g1 0),(4,pg g2 0),(6,pg g3 0)] ?_
  refine RunH.draw (fun w=>Heap H w0 w ((some (g3,.cells #[.string a1.Key,.slice A4 y3.length c4,iv a1.At] 57 (0,0)))::ch4::(some (ga0,.cells #[iv y2.Room,iv y2.Lease,.slice A2 y2.Blobs.length c2,.slice A3 y2.Entries.length c3] 25 (0,0)))::ch2::ch3::ch1::(some (g2,.cells #[.bool false,.slice none 0 0,.slice none 0 0] 36 (0,0)))::(some (g1,.cells #[iv a1.Kind,iv a1.At,.string a1.Digest,.slice Aa1_3 a1.Digests.length ca1_3,.string a1.Key,iv a1.Size] 40 (0,0)))::F)) (fun w=>Heap H w0 w ((some (g3,.cells #[.string a1.Key,.slice A4 y3.length c4,iv a1.At] 57 (0,0)))::ch4::(some (ga0,.cells #[iv y2.Room,iv y2.Lease,.slice A2 y2.Blobs.length c2,.slice A3 y2.Entries.length c3] 25 (0,0)))::ch2::ch3::ch1::(some (g2,.cells #[.bool false,.slice none 0 0,.slice none 0 0] 36 (0,0)))::(some (g1,.cells #[iv a1.Kind,iv a1.At,.string a1.Digest,.slice Aa1_3 a1.Digests.length ca1_3,.string a1.Key,iv a1.Size] 40 (0,0)))::F)) [3,3,3,3,3,0,3,3,3,3,3] (n:=11) (ls:=[false,false,false,false,false,false,false,false,false,false,false]) (by kernel_rfl) (by kernel_rfl) (by kernel_rfl) rfl ?_
  refine Dk [0,1,2,3,4] 6 (nb 11 31) [iv y2.Room,iv y2.Lease,.slice A2 y2.Blobs.length c2,.slice A3 y2.Entries.length c3,.string a1.Key] [.load ⟨ga0,0,none⟩ (iv y2.Room),.load ⟨ga0,1,none⟩ (iv y2.Lease),.load ⟨ga0,2,none⟩ (.slice A2 y2.Blobs.length c2),.load ⟨ga0,3,none⟩ (.slice A3 y2.Entries.length c3),.load ⟨g1,4,none⟩ (.string a1.Key)] [0,3,4,6,40,42] [(0,pg ga0 0),(3,pg g1 0),(4,pg g2 0),(6,pg g3 0),(40,.agg #[iv y2.Room,iv y2.Lease,.slice A2 y2.Blobs.length c2,.slice A3 y2.Entries.length c3]),(42,.string a1.Key)] (Pk 8 [0,1,2,3,4,5,6,7]) (Pk 8 [0,1,2,3,4,5,6,7]) (fun w hh=>⟨(hh.box 2 rfl rfl),(hh.box 2 rfl rfl),(hh.box 2 rfl rfl),(hh.box 2 rfl rfl),(hh.box 7 rfl rfl)⟩) ?_
  obtain ⟨y4,hy4,heq⟩:=bind_some heq
  refine DrH.does (n:=5) (ls':=[true,true,true,true,true,true,false,false,false,false,false]) 5 (by kernel_rfl) rfl (DoesH.call (d:=43) (g:=46) (args:=#[.agg #[iv y2.Room,iv y2.Lease,.slice A2 y2.Blobs.length c2,.slice A3 y2.Entries.length c3],.string a1.Key]) (by kernel_rfl) (cache_entryAt_c (a0:=(⟨y2.Room,y2.Lease,y2.Blobs,y2.Entries⟩:Cache)) (a1:=a1.Key) (ho3.rw (.tail _ (.tail _ (.tail _ (.head _))))) ho3.cap rfl (ho4.rw (.tail _ (.tail _ (.tail _ (.tail _ (.head _)))))) ho4.cap rfl hy4)) ?_
  rintro _ _ _ _ ⟨_,rfl,rfl,rfl,rfl⟩
  refine ⟨fun _ w hh=>⟨fun _=>(Pk 8 [0,1,2,3,4,5,6,7]) w hh,fun _=>(Pk 8 [0,1,2,3,4,5,6,7]) w hh,(fun h=>by cases h)⟩,?_⟩
  refine Dk [6,7,8,9,10] 0 (nb 11 2047) [] [] [0,3,4,6,7,8] [(0,pg ga0 0),(3,pg g1 0),(4,pg g2 0),(6,pg g3 0),(7,iv y4.1),(8,.bool y4.2)] (Pk 8 [0,1,2,3,4,5,6,7]) (Pk 8 [0,1,2,3,4,5,6,7]) (fun _ _=>trivial) ?_
  refine DrH.done (by kernel_rfl) ?_
  refine Ra 2 [1,1,1,1,1,0,0] [.c [1,1,1,1,1,0,1],.c [1,1,1,1,1,1]]<|Rd 1 [0,3,4,6,7,46] [(0,pg ga0 0),(3,pg g1 0),(4,pg g2 0),(6,pg g3 0),(7,iv y4.1),(46,.bool y4.2)] ?_
  rcases bool_cases (y4.2) with hb2 | hb2
  ·replace heq:=bif_true hb2 heq
   refine Ct y4.2 hb2<|Ad 1 [.c [1,1,1,1,1,0,1,0,0],.c [1,1,1,1,1,0,1,0,1],.c [1,1,1,1,1,1]]<|Kp [0,4,6,7] [(0,pg ga0 0),(4,pg g2 0),(6,pg g3 0),(7,iv y4.1)] ?_
   refine RunH.draw (fun w=>Heap H w0 w ((some (g3,.cells #[.string a1.Key,.slice A4 y3.length c4,iv a1.At] 57 (0,0)))::ch4::(some (ga0,.cells #[iv y2.Room,iv y2.Lease,.slice A2 y2.Blobs.length c2,.slice A3 y2.Entries.length c3] 25 (0,0)))::ch2::ch3::ch1::(some (g2,.cells #[.bool false,.slice none 0 0,.slice none 0 0] 36 (0,0)))::(some (g1,.cells #[iv a1.Kind,iv a1.At,.string a1.Digest,.slice Aa1_3 a1.Digests.length ca1_3,.string a1.Key,iv a1.Size] 40 (0,0)))::F)) (fun w=>Heap H w0 w ((some (g3,.cells #[.string a1.Key,.slice A4 y3.length c4,iv a1.At] 57 (0,0)))::ch4::(some (ga0,.cells #[iv y2.Room,iv y2.Lease,.slice A2 y2.Blobs.length c2,.slice A3 y2.Entries.length c3] 25 (0,0)))::ch2::ch3::ch1::(some (g2,.cells #[.bool false,.slice none 0 0,.slice none 0 0] 36 (0,0)))::(some (g1,.cells #[iv a1.Kind,iv a1.At,.string a1.Digest,.slice Aa1_3 a1.Digests.length ca1_3,.string a1.Key,iv a1.Size] 40 (0,0)))::F)) [3,3,3,3,3,3,3,2] (n:=8) (ls:=[false,false,false,false,false,false,false,false]) (by kernel_rfl) (by kernel_rfl) (by kernel_rfl) rfl ?_
   obtain ⟨x1,hx1,heq⟩:=bind_some heq
   obtain ⟨ha1,cs1,hK1,hcc1⟩:=ho4.get hx1
   obtain ⟨A5,c5,rfl,hc1,hr1⟩:=kEntry_open hK1
   refine Dk [0,1,2,3,4,5,6] 1 (nb 8 127) [.slice A3 y2.Entries.length c3,.string a1.Key,.slice A4 y3.length c4,iv a1.At] [.load ⟨ga0,3,none⟩ (.slice A3 y2.Entries.length c3),.load ⟨g3,0,none⟩ (.string a1.Key),.load ⟨g3,1,none⟩ (.slice A4 y3.length c4),.load ⟨g3,2,none⟩ (iv a1.At),.need (A3=some (adr A3)∧(0:Int)≤y4.1∧y4.1<((y2.Entries.length:Nat):Int))] [0,4,52,53] [(0,pg ga0 0),(4,pg g2 0),(52,.agg #[.string a1.Key,.slice A4 y3.length c4,iv a1.At]),(53,.pointer (some ((adr A3).add (y4.1.toNat*3))))] (Pk 8 [0,1,2,3,4,5,6,7]) (Pk 8 [0,1,2,3,4,5,6,7]) (fun w hh=>⟨(hh.box 2 rfl rfl),(hh.box 0 rfl rfl),(hh.box 0 rfl rfl),(hh.box 0 rfl rfl),⟨ha1,(at?_some hx1).1,(at?_some hx1).2.1⟩⟩) ?_
   refine DrH.pick 8 [1,0,2,3,4,5,6,7] (cs':=ch4::(some (g3,.cells #[.string a1.Key,.slice A4 y3.length c4,iv a1.At] 57 (0,0)))::(some (ga0,.cells #[iv y2.Room,iv y2.Lease,.slice A2 y2.Blobs.length c2,.slice A3 y2.Entries.length c3] 25 (0,0)))::ch2::ch3::ch1::(some (g2,.cells #[.bool false,.slice none 0 0,.slice none 0 0] 36 (0,0)))::(some (g1,.cells #[iv a1.Kind,iv a1.At,.string a1.Digest,.slice Aa1_3 a1.Digests.length ca1_3,.string a1.Key,iv a1.Size] 40 (0,0)))::F) (by kernel_rfl) rfl ?_
   have hc2:=ho5.cap
   refine DrH.freezeS ho5 (fun H hl hr2=>?_)
   have hle:=hl
   replace ho3:=ho3.mono hl
   replace ho4:=ho4.mono hl
   obtain ⟨ha2,cs2,hK2,hcc2⟩:=ho4.get hx1
   obtain ⟨A6,c6,rfl,hc3,hr3⟩:=kEntry_open hK2
   refine DrH.does (n:=0) (ls':=[true,true,true,true,true,true,true,true]) 7 (by kernel_rfl) rfl (DoesH.storeEl (a:=((adr A3).add (y4.1.toNat*3))) (k:=3) (kd:=kEntry) (c0:=[.string x1.Key,.slice A6 x1.Refs.length c6,iv x1.Used]) (x':=(⟨a1.Key,y3,a1.At⟩:Entry)) (o:=0) (ix:=y4.1) (v:=.agg #[.string a1.Key,.slice A4 y3.length c4,iv a1.At]) (by kernel_rfl) rfl ho4 hx1 (by kernel_rfl) hcc2 rfl (Nat.le_of_ble_eq_true (by kernel_rfl)) (kEntry_mk hc2 hr2)) ?_
   rintro _ _ _ _ ⟨ch5,rfl,rfl,rfl,ho6⟩
   have hn1:y2.Entries.length=(y2.Entries.set y4.1.toNat (⟨a1.Key,y3,a1.At⟩:Entry)).length:=by rw [List.length_set]
   refine ⟨fun _ w hh=>⟨(fun h=>by cases h),(fun h=>absurd h (by decide)),(fun h=>by cases h)⟩,?_⟩
   refine Kr [0,4] [(0,pg ga0 0),(4,pg g2 0)] ?_
   refine DrH.done (by kernel_rfl) ?_
   refine Ra 1 [1,1,1,1,1,0,1,0,1,0] [.c [1,1,1,1,1,0,1,0,1,1],.c [1,1,1,1,1,1]]<|Rk 1 [0,4,54] [(0,pg ga0 0),(4,pg g2 0),(54,.agg #[.bool true,.slice none 0 0,.slice none 0 0])] ?_
   refine RgH.does (DoesH.store (k:=5) (g:=g2) (off:=0) (v:=.agg #[.bool true,.slice none 0 0,.slice none 0 0]) (cells':=#[.bool true,.slice none 0 0,.slice none 0 0]) (by kernel_rfl) rfl (by kernel_rfl) (by kernel_rfl)) ?_
   rintro _ _ _ _ ⟨rfl,rfl,rfl⟩
   refine Dn<|RunH.nilc ?_
   have ho7:SlOwn Kd.string 9 H none 0 ([]:List ByteArray) none:=SlOwn.nil
   refine RunH.nilc ?_
   have ho8:SlOwn Kd.string 9 H none 0 ([]:List ByteArray) none:=SlOwn.nil
   obtain rfl:=Option.some.inj heq
   refine RunH.pick 9 [7,1,0,3,4,5] (cs':=(some (g2,.cells #[.bool true,.slice none 0 0,.slice none 0 0] 36 (0,0)))::none::none::(some (ga0,.cells #[iv y2.Room,iv y2.Lease,.slice A2 y2.Blobs.length c2,.slice A3 y2.Entries.length c3] 25 (0,0)))::ch2::ch5::F) (by kernel_rfl) rfl ?_
   exact RunH.doneM' 1 (vs:=[.agg #[.bool true,.slice none 0 0,.slice none 0 0]]) (v:=.agg #[.bool true,.slice none 0 0,.slice none 0 0]) (by kernel_rfl) Tryd.func29 (fun w hh=>show ResAll _ _ _ [.cell 4 36] _ from ⟨⟨⟨g2,0,none⟩,by kernel_rfl,trS_run _ (vs:=[.bool true,.slice none 0 0,.slice none 0 0]) (r:=[]) (es:=[.load ⟨g2,0,none⟩ (.bool true),.load ⟨g2,1,none⟩ (.slice none 0 0),.load ⟨g2,2,none⟩ (.slice none 0 0)]) (by kernel_rfl) ⟨(hh.box 0 rfl rfl),(hh.box 0 rfl rfl),(hh.box 0 rfl rfl)⟩⟩,trivial⟩) rfl (cs':=none::none::(some (ga0,.cells #[iv y2.Room,iv y2.Lease,.slice A2 y2.Blobs.length c2,.slice A3 y2.Entries.length c3] 25 (0,0)))::ch2::ch5::F) rfl ⟨none,0,none,none,0,none,A2,c2,ch2,A3,c3,ch5,(by first | rfl | exact congrArg (fun q=>Value.slice _ q _) hn1 | (rw [hn1]; done) | (simp only [← hn1])),(by first | rfl | (rw [hn1]; done) | (rw [hn1]; rfl) | (simp only [List.length_set]; done) | (simp only [List.length_set]; rfl)),ho7,ho8,ho3,ho6⟩
  ·replace heq:=bif_false hb2 heq
   refine Cf y4.2 hb2<|Ra 3 [1,1,1,1,1,1,0,0] [.c [1,1,1,1,1,1,0,1],.c [1,1,1,1,1,1,1]]<|Rw' 6 [0,3,4,6,7,60] [.slice A3 y2.Entries.length c3] [.load ⟨ga0,3,none⟩ (.slice A3 y2.Entries.length c3)] [(0,pg ga0 0),(3,pg g1 0),(4,pg g2 0),(6,pg g3 0),(7,iv y4.1),(60,.bool (decide (1000≤(y2.Entries.length:Int))))] (fun w hh=>(hh.box 2 rfl rfl)) ?_
   rcases bool_cases (decide (1000≤(y2.Entries.length:Int))) with hb3 | hb3
   ·replace heq:=bif_true hb3 heq
    refine Ct (decide (1000≤(y2.Entries.length:Int))) hb3<|Ra 1 [1,1,1,1,1,1,0,1,0,0] [.c [1,1,1,1,1,1,0,1,0,1],.c [1,1,1,1,1,1,1]]<|Rd 1 [0,3,4,6,9] [(0,pg ga0 0),(3,pg g1 0),(4,pg g2 0),(6,pg g3 0),(9,iv 0)]<|Ra 2 [1,1,1,1,1,1,0,1,0,1,0,0] [.c [1,1,1,1,1,1,0,1,0,1,0,1],.c [1,1,1,1,1,1,0,1,0,1,1],.c [1,1,1,1,1,1,1]]<|Rw' 6 [0,3,4,6,9,64,65,66] [.slice A3 y2.Entries.length c3] [.load ⟨ga0,3,none⟩ (.slice A3 y2.Entries.length c3)] [(0,pg ga0 0),(3,pg g1 0),(4,pg g2 0),(6,pg g3 0),(9,iv 0),(64,.slice A3 y2.Entries.length c3),(65,iv (y2.Entries.length:Int)),(66,iv 0)] (fun w hh=>(hh.box 2 rfl rfl))<|Ad 2 [.c [1,1,1,1,1,1,0,1,0,1,0,1,0,0],.l [1,1,1,1,1,1,0,1,0,1,0,1,0,0],.b 0,.c [1,1,1,1,1,1,0,1,0,1,1],.c [1,1,1,1,1,1,1]]<|Kp [0,3,4,6,9,64,65,66] [(0,pg ga0 0),(3,pg g1 0),(4,pg g2 0),(6,pg g3 0),(9,iv 0),(64,.slice A3 y2.Entries.length c3),(65,iv (y2.Entries.length:Int)),(66,iv 0)] ?_
    refine RunH.pick 8 [0,1,2,3,4,6,7] (cs':=(some (g3,.cells #[.string a1.Key,.slice A4 y3.length c4,iv a1.At] 57 (0,0)))::ch4::(some (ga0,.cells #[iv y2.Room,iv y2.Lease,.slice A2 y2.Blobs.length c2,.slice A3 y2.Entries.length c3] 25 (0,0)))::ch2::ch3::(some (g2,.cells #[.bool false,.slice none 0 0,.slice none 0 0] 36 (0,0)))::(some (g1,.cells #[iv a1.Kind,iv a1.At,.string a1.Digest,.slice Aa1_3 a1.Digests.length ca1_3,.string a1.Key,iv a1.Size] 40 (0,0)))::F) (by kernel_rfl) rfl ?_
    exact ((cache_store.l3_c (e2:=cache_store.e2 cache_store.j1) (cache_store.e2_c (j1:=cache_store.j1) (cache_store.j1_c))) big) _ _ a1 _ _ _ _ y2 _ _ _ _ _ _ y3 _ _ _ _ 0 0 hra1_3 hca1_3 ho3 ho4 ho5 heq
   ·replace heq:=bif_false hb3 heq
    refine Cf (decide (1000≤(y2.Entries.length:Int))) hb3<|Ad 2 [.c [1,1,1,1,1,1,1,0],.c [1,1,1,1,1,1,1,1]]<|Kp [0,4,6,7] [(0,pg ga0 0),(4,pg g2 0),(6,pg g3 0),(7,iv y4.1)] ?_
    refine RunH.pick 8 [0,1,2,3,4,6] (cs':=(some (g3,.cells #[.string a1.Key,.slice A4 y3.length c4,iv a1.At] 57 (0,0)))::ch4::(some (ga0,.cells #[iv y2.Room,iv y2.Lease,.slice A2 y2.Blobs.length c2,.slice A3 y2.Entries.length c3] 25 (0,0)))::ch2::ch3::(some (g2,.cells #[.bool false,.slice none 0 0,.slice none 0 0] 36 (0,0)))::F) (by kernel_rfl) rfl ?_
    exact (cache_store.j1_c) _ _ a1 _ y2 _ _ _ y3 _ _ _ _ y2.Entries _ _ _ _ y4.1 ho3 ho5 ho4 rfl heq
noncomputable def C30:Ctx:={ P:=Tryd.prog,f:=30,N:=65,c:=bodyOf Tryd.f30 }
def S30 (F:List Ch) (H0:Hp) (ga0:Nat) (r:CacheAnswer × Cache) (v:Value) (H:Hp) (cs:List Ch):Prop:=∃ (A0_1:Option Addr) (c0_1:Nat) (ch0_1:Ch) (A0_2:Option Addr) (c0_2:Nat) (ch0_2:Ch) (A1_2:Option Addr) (c1_2:Nat) (ch1_2:Ch) (A1_3:Option Addr) (c1_3:Nat) (ch1_3:Ch),H0=H∧v=.agg #[.bool r.1.Done,.slice A0_1 r.1.Missing.length c0_1,.slice A0_2 r.1.Gone.length c0_2]∧ch0_1::ch0_2::some (ga0,.cells #[iv r.2.Room,iv r.2.Lease,.slice A1_2 r.2.Blobs.length c1_2,.slice A1_3 r.2.Entries.length c1_3] 25 (0,0))::ch1_2::ch1_3::F=cs∧SlOwn Kd.string 9 H A0_1 c0_1 r.1.Missing ch0_1∧SlOwn Kd.string 9 H A0_2 c0_2 r.1.Gone ch0_2∧SlOwn kBlob 29 H A1_2 c1_2 r.2.Blobs ch1_2∧SlOwn kEntry 57 H A1_3 c1_3 r.2.Entries ch1_3
theorem cache_search_c {w0:World} {H:Hp} {F:List Ch} {ga0:Nat} {a0:Cache} {Aa0_2:Option Addr} {na0_2:Nat} {ca0_2:Nat} {cha0_2:Ch} {Aa0_3:Option Addr} {na0_3:Nat} {ca0_3:Nat} {cha0_3:Ch} {a1:CacheEvent} {Aa1_3:Option Addr} {na1_3:Nat} {ca1_3:Nat} {r:CacheAnswer × Cache} (hoa0_2:SlOwn kBlob 29 H Aa0_2 ca0_2 a0.Blobs cha0_2) (hna0_2:na0_2=a0.Blobs.length) (hoa0_3:SlOwn kEntry 57 H Aa0_3 ca0_3 a0.Entries cha0_3) (hna0_3:na0_3=a0.Entries.length) (hra1_3:Rw Kd.string H F Aa1_3 a1.Digests) (hca1_3:na1_3≤ca1_3) (hna1_3:na1_3=a1.Digests.length) (heq:cache_search.f a0 a1=some r):CallsH Tryd.prog 30 #[.pointer (some ⟨ga0,0,none⟩),.agg #[iv a1.Kind,iv a1.At,.string a1.Digest,.slice Aa1_3 na1_3 ca1_3,.string a1.Key,iv a1.Size]] H w0 ((some (ga0,.cells #[iv a0.Room,iv a0.Lease,.slice Aa0_2 na0_2 ca0_2,.slice Aa0_3 na0_3 ca0_3] 25 (0,0)))::cha0_2::cha0_3::F) (S30 F H ga0 r):=by
 refine calls_of_runH (F:=C30) Tryd.func30 (by kernel_rfl) Tryd.ntmps30 (args:=[.pointer (some ⟨ga0,0,none⟩),.agg #[iv a1.Kind,iv a1.At,.string a1.Digest,.slice Aa1_3 na1_3 ca1_3,.string a1.Key,iv a1.Size]]) (by kernel_rfl) ?_
 subst hna0_2
 subst hna0_3
 subst hna1_3
 unfold cache_search.f at heq
 refine Ra 1 [0] [.c [1]] ?_
 refine RgH.does (DoesH.new (d:=3) (v:=fun g=>.pointer (some ⟨g,0,none⟩)) (o:=fun g=>.cells #[iv a1.Kind,iv a1.At,.string a1.Digest,.slice Aa1_3 a1.Digests.length ca1_3,.string a1.Key,iv a1.Size] 40 (0,0)) (fun g=>by kernel_rfl)) ?_
 rintro _ _ _ _ ⟨g1,rfl,rfl,rfl⟩
 refine RgH.does (DoesH.new (d:=4) (v:=fun g=>.pointer (some ⟨g,0,none⟩)) (o:=fun g=>.cells #[.bool false,.slice none 0 0,.slice none 0 0] 36 (0,0)) (fun g=>by kernel_rfl)) ?_
 rintro _ _ _ _ ⟨g2,rfl,rfl,rfl⟩
 refine Dn<|Ad 1 [.c [1,0],.c [1,1]]<|Kp [0,3,4] [(0,pg ga0 0),(3,pg g1 0),(4,pg g2 0)] ?_
 refine RunH.draw (fun w=>Heap H w0 w ((some (g2,.cells #[.bool false,.slice none 0 0,.slice none 0 0] 36 (0,0)))::(some (g1,.cells #[iv a1.Kind,iv a1.At,.string a1.Digest,.slice Aa1_3 a1.Digests.length ca1_3,.string a1.Key,iv a1.Size] 40 (0,0)))::(some (ga0,.cells #[iv a0.Room,iv a0.Lease,.slice Aa0_2 a0.Blobs.length ca0_2,.slice Aa0_3 a0.Entries.length ca0_3] 25 (0,0)))::cha0_2::cha0_3::F)) (fun w=>Heap H w0 w ((some (g2,.cells #[.bool false,.slice none 0 0,.slice none 0 0] 36 (0,0)))::(some (g1,.cells #[iv a1.Kind,iv a1.At,.string a1.Digest,.slice Aa1_3 a1.Digests.length ca1_3,.string a1.Key,iv a1.Size] 40 (0,0)))::(some (ga0,.cells #[iv a0.Room,iv a0.Lease,.slice Aa0_2 a0.Blobs.length ca0_2,.slice Aa0_3 a0.Entries.length ca0_3] 25 (0,0)))::cha0_2::cha0_3::F)) [3,3,3,3,3,0,3,3,3,3,3] (n:=11) (ls:=[false,false,false,false,false,false,false,false,false,false,false]) (by kernel_rfl) (by kernel_rfl) (by kernel_rfl) rfl ?_
 refine Dk [0,1,2,3,4] 6 (nb 11 31) [iv a0.Room,iv a0.Lease,.slice Aa0_2 a0.Blobs.length ca0_2,.slice Aa0_3 a0.Entries.length ca0_3,.string a1.Key] [.load ⟨ga0,0,none⟩ (iv a0.Room),.load ⟨ga0,1,none⟩ (iv a0.Lease),.load ⟨ga0,2,none⟩ (.slice Aa0_2 a0.Blobs.length ca0_2),.load ⟨ga0,3,none⟩ (.slice Aa0_3 a0.Entries.length ca0_3),.load ⟨g1,4,none⟩ (.string a1.Key)] [0,3,4,12,14] [(0,pg ga0 0),(3,pg g1 0),(4,pg g2 0),(12,.agg #[iv a0.Room,iv a0.Lease,.slice Aa0_2 a0.Blobs.length ca0_2,.slice Aa0_3 a0.Entries.length ca0_3]),(14,.string a1.Key)] (Pk 5 [0,1,2,3,4]) (Pk 5 [0,1,2,3,4]) (fun w hh=>⟨(hh.box 2 rfl rfl),(hh.box 2 rfl rfl),(hh.box 2 rfl rfl),(hh.box 2 rfl rfl),(hh.box 1 rfl rfl)⟩) ?_
 obtain ⟨y1,hy1,heq⟩:=bind_some heq
 refine DrH.does (n:=5) (ls':=[true,true,true,true,true,true,false,false,false,false,false]) 5 (by kernel_rfl) rfl (DoesH.call (d:=15) (g:=46) (args:=#[.agg #[iv a0.Room,iv a0.Lease,.slice Aa0_2 a0.Blobs.length ca0_2,.slice Aa0_3 a0.Entries.length ca0_3],.string a1.Key]) (by kernel_rfl) (cache_entryAt_c (a0:=(⟨a0.Room,a0.Lease,a0.Blobs,a0.Entries⟩:Cache)) (a1:=a1.Key) (hoa0_2.rw (.tail _ (.tail _ (.tail _ (.head _))))) hoa0_2.cap rfl (hoa0_3.rw (.tail _ (.tail _ (.tail _ (.tail _ (.head _)))))) hoa0_3.cap rfl hy1)) ?_
 rintro _ _ _ _ ⟨_,rfl,rfl,rfl,rfl⟩
 refine ⟨fun _ w hh=>⟨fun _=>(Pk 5 [0,1,2,3,4]) w hh,fun _=>(Pk 5 [0,1,2,3,4]) w hh,(fun h=>by cases h)⟩,?_⟩
 refine Dk [6,7,8,9,10] 0 (nb 11 2047) [] [] [0,3,4,5,6] [(0,pg ga0 0),(3,pg g1 0),(4,pg g2 0),(5,iv y1.1),(6,.bool y1.2)] (Pk 5 [0,1,2,3,4]) (Pk 5 [0,1,2,3,4]) (fun _ _=>trivial) ?_
 refine DrH.done (by kernel_rfl) ?_
 refine Ra 2 [1,1,0,0] [.c [1,1,0,1],.c [1,1,1]]<|Rd 2 [0,3,4,5,19] [(0,pg ga0 0),(3,pg g1 0),(4,pg g2 0),(5,iv y1.1),(19,.bool (!y1.2))] ?_
 rcases bool_cases (!y1.2) with hb1 | hb1
 ·replace heq:=bif_true hb1 heq
  refine Ct (!y1.2) hb1<|Ra 1 [1,1,0,1,0,0] [.c [1,1,0,1,0,1],.c [1,1,1]]<|Rk 1 [0,4,20] [(0,pg ga0 0),(4,pg g2 0),(20,.agg #[.bool false,.slice none 0 0,.slice none 0 0])] ?_
  refine RgH.does (DoesH.store (k:=0) (g:=g2) (off:=0) (v:=.agg #[.bool false,.slice none 0 0,.slice none 0 0]) (cells':=#[.bool false,.slice none 0 0,.slice none 0 0]) (by kernel_rfl) rfl (by kernel_rfl) (by kernel_rfl)) ?_
  rintro _ _ _ _ ⟨rfl,rfl,rfl⟩
  refine Dn<|RunH.nilc ?_
  have ho1:SlOwn Kd.string 9 H none 0 ([]:List ByteArray) none:=SlOwn.nil
  refine RunH.nilc ?_
  have ho2:SlOwn Kd.string 9 H none 0 ([]:List ByteArray) none:=SlOwn.nil
  obtain rfl:=Option.some.inj heq
  refine RunH.pick 7 [2,1,0,4,5,6] (cs':=(some (g2,.cells #[.bool false,.slice none 0 0,.slice none 0 0] 36 (0,0)))::none::none::(some (ga0,.cells #[iv a0.Room,iv a0.Lease,.slice Aa0_2 a0.Blobs.length ca0_2,.slice Aa0_3 a0.Entries.length ca0_3] 25 (0,0)))::cha0_2::cha0_3::F) (by kernel_rfl) rfl ?_
  exact RunH.doneM' 1 (vs:=[.agg #[.bool false,.slice none 0 0,.slice none 0 0]]) (v:=.agg #[.bool false,.slice none 0 0,.slice none 0 0]) (by kernel_rfl) Tryd.func30 (fun w hh=>show ResAll _ _ _ [.cell 4 36] _ from ⟨⟨⟨g2,0,none⟩,by kernel_rfl,trS_run _ (vs:=[.bool false,.slice none 0 0,.slice none 0 0]) (r:=[]) (es:=[.load ⟨g2,0,none⟩ (.bool false),.load ⟨g2,1,none⟩ (.slice none 0 0),.load ⟨g2,2,none⟩ (.slice none 0 0)]) (by kernel_rfl) ⟨(hh.box 0 rfl rfl),(hh.box 0 rfl rfl),(hh.box 0 rfl rfl)⟩⟩,trivial⟩) rfl (cs':=none::none::(some (ga0,.cells #[iv a0.Room,iv a0.Lease,.slice Aa0_2 a0.Blobs.length ca0_2,.slice Aa0_3 a0.Entries.length ca0_3] 25 (0,0)))::cha0_2::cha0_3::F) rfl ⟨none,0,none,none,0,none,Aa0_2,ca0_2,cha0_2,Aa0_3,ca0_3,cha0_3,rfl,rfl,rfl,ho1,ho2,hoa0_2,hoa0_3⟩
 ·replace heq:=bif_false hb1 heq
  refine Cf (!y1.2) hb1<|Ra 2 [1,1,1,0] [.c [1,1,1,1]] ?_
  obtain ⟨x1,hx1,heq⟩:=bind_some heq
  obtain ⟨ha1,cs1,hK1,hcc1⟩:=hoa0_3.get hx1
  obtain ⟨A1,c1,rfl,hc1,hr1⟩:=kEntry_open hK1
  refine Rw' 9 [0,3,4,5,7] [.slice Aa0_3 a0.Entries.length ca0_3,.slice A1 x1.Refs.length c1] [.load ⟨ga0,3,none⟩ (.slice Aa0_3 a0.Entries.length ca0_3),.need (Aa0_3=some (adr Aa0_3)∧(0:Int)≤y1.1∧y1.1<((a0.Entries.length:Nat):Int)),.load (((adr Aa0_3).add (y1.1.toNat*3)).add 1) (.slice A1 x1.Refs.length c1)] [(0,pg ga0 0),(3,pg g1 0),(4,pg g2 0),(5,iv y1.1),(7,.slice A1 x1.Refs.length c1)] (fun w hh=>⟨(hh.box 2 rfl rfl),⟨ha1,(at?_some hx1).1,(at?_some hx1).2.1⟩,(hcc1 _ (hh.chin 4 rfl) 1 _ rfl)⟩)<|Ra 2 [1,1,1,1,0,0] [.c [1,1,1,1,0,1],.c [1,1,1,1,1]]<|Rv 4 [0,3,4,5,7,31,32] [iv a0.Room,iv a0.Lease,.slice Aa0_2 a0.Blobs.length ca0_2,.slice Aa0_3 a0.Entries.length ca0_3] [.load ⟨ga0,0,none⟩ (iv a0.Room),.load ⟨ga0,1,none⟩ (iv a0.Lease),.load ⟨ga0,2,none⟩ (.slice Aa0_2 a0.Blobs.length ca0_2),.load ⟨ga0,3,none⟩ (.slice Aa0_3 a0.Entries.length ca0_3)] [(0,pg ga0 0),(3,pg g1 0),(4,pg g2 0),(5,iv y1.1),(7,.slice A1 x1.Refs.length c1),(31,.agg #[iv a0.Room,iv a0.Lease,.slice Aa0_2 a0.Blobs.length ca0_2,.slice Aa0_3 a0.Entries.length ca0_3]),(32,.slice A1 x1.Refs.length c1)] (fun w hh=>⟨(hh.box 2 rfl rfl),(hh.box 2 rfl rfl),(hh.box 2 rfl rfl),(hh.box 2 rfl rfl)⟩) ?_
  obtain ⟨y2,hy2,heq⟩:=bind_some heq
  refine RgH.does (DoesH.call (d:=33) (g:=27) (args:=#[.agg #[iv a0.Room,iv a0.Lease,.slice Aa0_2 a0.Blobs.length ca0_2,.slice Aa0_3 a0.Entries.length ca0_3],.slice A1 x1.Refs.length c1]) (by kernel_rfl) (cache_missing_c (a0:=(⟨a0.Room,a0.Lease,a0.Blobs,a0.Entries⟩:Cache)) (a1:=x1.Refs) (hoa0_2.rw (.tail _ (.tail _ (.tail _ (.head _))))) hoa0_2.cap rfl (hoa0_3.rw (.tail _ (.tail _ (.tail _ (.tail _ (.head _)))))) hoa0_3.cap rfl (Rw.of hr1) hc1 rfl hy2)) ?_
  rintro _ _ _ _ ⟨_,rfl,A2,c2,ch1,rfl,rfl,rfl,ho3⟩
  refine Rd 6 [0,3,4,5,7,8] [(0,pg ga0 0),(3,pg g1 0),(4,pg g2 0),(5,iv y1.1),(7,.slice A1 x1.Refs.length c1),(8,.slice A2 y2.length c2)]<|Ra 1 [1,1,1,1,0,1,0] [.c [1,1,1,1,0,1,1],.c [1,1,1,1,1]]<|Rd 3 [0,3,4,5,7,8,36] [(0,pg ga0 0),(3,pg g1 0),(4,pg g2 0),(5,iv y1.1),(7,.slice A1 x1.Refs.length c1),(8,.slice A2 y2.length c2),(36,.bool (decide (0<(y2.length:Int))))] ?_
  rcases bool_cases (decide (0<(y2.length:Int))) with hb2 | hb2
  ·replace heq:=bif_true hb2 heq
   refine Ct (decide (0<(y2.length:Int))) hb2<|Ra 1 [1,1,1,1,0,1,1,0,0] [.c [1,1,1,1,0,1,1,0,1],.c [1,1,1,1,1]]<|Rv 8 [0,4,8,37,41,42,44] [.slice Aa0_3 a0.Entries.length ca0_3] [.load ⟨ga0,3,none⟩ (.slice Aa0_3 a0.Entries.length ca0_3)] [(0,pg ga0 0),(4,pg g2 0),(8,.slice A2 y2.length c2),(37,pg ga0 0),(41,.slice Aa0_3 a0.Entries.length ca0_3),(42,iv y1.1),(44,iv (w64 (y1.1+1)))] (fun w hh=>(hh.box 3 rfl rfl)) ?_
   refine RgH.pick 6 [5,0,1,2,3,4] (cs':=cha0_3::ch1::(some (g2,.cells #[.bool false,.slice none 0 0,.slice none 0 0] 36 (0,0)))::(some (g1,.cells #[iv a1.Kind,iv a1.At,.string a1.Digest,.slice Aa1_3 a1.Digests.length ca1_3,.string a1.Key,iv a1.Size] 40 (0,0)))::(some (ga0,.cells #[iv a0.Room,iv a0.Lease,.slice Aa0_2 a0.Blobs.length ca0_2,.slice Aa0_3 a0.Entries.length ca0_3] 25 (0,0)))::cha0_2::F) (by kernel_rfl) rfl ?_
   obtain ⟨y3,hy3,heq⟩:=bind_some heq
   refine RgH.does (DoesH.call (d:=45) (g:=47) (args:=#[.slice Aa0_3 a0.Entries.length ca0_3,iv y1.1,iv (w64 (y1.1+1))]) (by kernel_rfl) (slices_Delete_Entry_c (a0:=a0.Entries) (a1:=y1.1) (a2:=w64 (y1.1+1)) hoa0_3 rfl hy3)) ?_
   rintro _ _ _ _ ⟨_,rfl,A3,c3,ch2,rfl,rfl,rfl,ho4⟩
   refine Rk 11 [0,4,8,45,47] [(0,pg ga0 0),(4,pg g2 0),(8,.slice A2 y2.length c2),(45,.slice A3 y3.length c3),(47,pg ga0 3)] ?_
   refine RgH.does (DoesH.store (k:=4) (g:=ga0) (off:=3) (v:=.slice A3 y3.length c3) (cells':=#[iv a0.Room,iv a0.Lease,.slice Aa0_2 a0.Blobs.length ca0_2,.slice A3 y3.length c3]) (by kernel_rfl) rfl (by kernel_rfl) (by kernel_rfl)) ?_
   rintro _ _ _ _ ⟨rfl,rfl,rfl⟩
   refine Dn<|Ra 1 [1,1,1,1,0,1,1,0,1,0] [.c [1,1,1,1,0,1,1,0,1,1],.c [1,1,1,1,1]]<|Rk 2 [0,4,49] [(0,pg ga0 0),(4,pg g2 0),(49,.agg #[.bool false,.slice A2 y2.length c2,.slice none 0 0])] ?_
   refine RgH.does (DoesH.store (k:=2) (g:=g2) (off:=0) (v:=.agg #[.bool false,.slice A2 y2.length c2,.slice none 0 0]) (cells':=#[.bool false,.slice A2 y2.length c2,.slice none 0 0]) (by kernel_rfl) rfl (by kernel_rfl) (by kernel_rfl)) ?_
   rintro _ _ _ _ ⟨rfl,rfl,rfl⟩
   refine Dn<|RunH.nilc ?_
   have ho5:SlOwn Kd.string 9 H none 0 ([]:List ByteArray) none:=SlOwn.nil
   obtain rfl:=Option.some.inj heq
   refine RunH.pick 7 [3,2,0,5,6,1] (cs':=(some (g2,.cells #[.bool false,.slice A2 y2.length c2,.slice none 0 0] 36 (0,0)))::ch1::none::(some (ga0,.cells #[iv a0.Room,iv a0.Lease,.slice Aa0_2 a0.Blobs.length ca0_2,.slice A3 y3.length c3] 25 (0,0)))::cha0_2::ch2::F) (by kernel_rfl) rfl ?_
   exact RunH.doneM' 1 (vs:=[.agg #[.bool false,.slice A2 y2.length c2,.slice none 0 0]]) (v:=.agg #[.bool false,.slice A2 y2.length c2,.slice none 0 0]) (by kernel_rfl) Tryd.func30 (fun w hh=>show ResAll _ _ _ [.cell 4 36] _ from ⟨⟨⟨g2,0,none⟩,by kernel_rfl,trS_run _ (vs:=[.bool false,.slice A2 y2.length c2,.slice none 0 0]) (r:=[]) (es:=[.load ⟨g2,0,none⟩ (.bool false),.load ⟨g2,1,none⟩ (.slice A2 y2.length c2),.load ⟨g2,2,none⟩ (.slice none 0 0)]) (by kernel_rfl) ⟨(hh.box 0 rfl rfl),(hh.box 0 rfl rfl),(hh.box 0 rfl rfl)⟩⟩,trivial⟩) rfl (cs':=ch1::none::(some (ga0,.cells #[iv a0.Room,iv a0.Lease,.slice Aa0_2 a0.Blobs.length ca0_2,.slice A3 y3.length c3] 25 (0,0)))::cha0_2::ch2::F) rfl ⟨A2,c2,ch1,none,0,none,Aa0_2,ca0_2,cha0_2,A3,c3,ch2,rfl,rfl,rfl,ho3,ho5,hoa0_2,ho4⟩
  ·replace heq:=bif_false hb2 heq
   refine Cf (decide (0<(y2.length:Int))) hb2<|Ad 2 [.c [1,1,1,1,1,0],.c [1,1,1,1,1,1]]<|Kp [0,3,4,5,7] [(0,pg ga0 0),(3,pg g1 0),(4,pg g2 0),(5,iv y1.1),(7,.slice A1 x1.Refs.length c1)] ?_
   refine RunH.draw (fun w=>Heap H w0 w (ch1::(some (g2,.cells #[.bool false,.slice none 0 0,.slice none 0 0] 36 (0,0)))::(some (g1,.cells #[iv a1.Kind,iv a1.At,.string a1.Digest,.slice Aa1_3 a1.Digests.length ca1_3,.string a1.Key,iv a1.Size] 40 (0,0)))::(some (ga0,.cells #[iv a0.Room,iv a0.Lease,.slice Aa0_2 a0.Blobs.length ca0_2,.slice Aa0_3 a0.Entries.length ca0_3] 25 (0,0)))::cha0_2::cha0_3::F)) (fun w=>Heap H w0 w (ch1::(some (g2,.cells #[.bool false,.slice none 0 0,.slice none 0 0] 36 (0,0)))::(some (g1,.cells #[iv a1.Kind,iv a1.At,.string a1.Digest,.slice Aa1_3 a1.Digests.length ca1_3,.string a1.Key,iv a1.Size] 40 (0,0)))::(some (ga0,.cells #[iv a0.Room,iv a0.Lease,.slice Aa0_2 a0.Blobs.length ca0_2,.slice Aa0_3 a0.Entries.length ca0_3] 25 (0,0)))::cha0_2::cha0_3::F)) [3,3,3,3,3,3,3,0,3,2] (n:=10) (ls:=[false,false,false,false,false,false,false,false,false,false]) (by kernel_rfl) (by kernel_rfl) (by kernel_rfl) rfl ?_
   refine Dk [0,1,2,3,4,5,6] 3 (nb 10 127) [.slice Aa0_3 a0.Entries.length ca0_3,iv a1.At] [.load ⟨ga0,3,none⟩ (.slice Aa0_3 a0.Entries.length ca0_3),.load ⟨g1,1,none⟩ (iv a1.At)] [0,3,4,7,53,54,56] [(0,pg ga0 0),(3,pg g1 0),(4,pg g2 0),(7,.slice A1 x1.Refs.length c1),(53,.slice Aa0_3 a0.Entries.length ca0_3),(54,iv y1.1),(56,iv a1.At)] (Pk 6 [0,1,2,3,4,5]) (Pk 6 [0,1,2,3,4,5]) (fun w hh=>⟨(hh.box 3 rfl rfl),(hh.box 2 rfl rfl)⟩)<|Kr [0,3,4,7,53,54,56] [(0,pg ga0 0),(3,pg g1 0),(4,pg g2 0),(7,.slice A1 x1.Refs.length c1),(53,.slice Aa0_3 a0.Entries.length ca0_3),(54,iv y1.1),(56,iv a1.At)] ?_
   obtain ⟨x2,hx2,heq⟩:=bind_some heq
   obtain ⟨ha2,cs2,hK2,hcc2⟩:=hoa0_3.get hx2
   obtain ⟨A4,c4,rfl,hc2,hr2⟩:=kEntry_open hK2
   refine DrH.does (n:=2) (ls':=[true,true,true,true,true,true,true,true,false,false]) 7 (by kernel_rfl) rfl (DoesH.pureop (d:=57) (v:=.pointer (some ((adr Aa0_3).add (y1.1.toNat*3)))) (vs:=[]) (evs:=[.need (Aa0_3=some (adr Aa0_3)∧(0:Int)≤y1.1∧y1.1<((a0.Entries.length:Nat):Int))]) (by kernel_rfl) (fun w hh=>⟨ha2,(at?_some hx2).1,(at?_some hx2).2.1⟩)) ?_
   rintro _ _ _ _ ⟨rfl,rfl,rfl⟩
   refine ⟨fun _ w hh=>⟨fun _=>(Pk 6 [0,1,2,3,4,5]) w hh,fun _=>(Pk 6 [0,1,2,3,4,5]) w hh,(fun h=>by cases h)⟩,?_⟩
   refine Dk [8] 1 (nb 10 511) [] [] [0,3,4,7,56,58] [(0,pg ga0 0),(3,pg g1 0),(4,pg g2 0),(7,.slice A1 x1.Refs.length c1),(56,iv a1.At),(58,.pointer (some (((adr Aa0_3).add (y1.1.toNat*3)).add 2)))] (Pk 6 [0,1,2,3,4,5]) (Pk 6 [0,1,2,3,4,5]) (fun _ _=>trivial) ?_
   obtain ⟨ha3,cs3,hK3,hcc3⟩:=hoa0_3.get hx2
   obtain ⟨A5,c5,rfl,hc3,hr3⟩:=kEntry_open hK3
   refine DrH.does (n:=0) (ls':=[true,true,true,true,true,true,true,true,true,true]) 9 (by kernel_rfl) rfl (DoesH.storeEl (a:=(((adr Aa0_3).add (y1.1.toNat*3)).add 2)) (k:=5) (kd:=kEntry) (c0:=[.string x2.Key,.slice A5 x2.Refs.length c5,iv x2.Used]) (x':=(⟨x2.Key,x2.Refs,a1.At⟩:Entry)) (o:=2) (ix:=y1.1) (v:=iv a1.At) (by kernel_rfl) rfl hoa0_3 hx2 (by kernel_rfl) hcc3 rfl (Nat.le_of_ble_eq_true (by kernel_rfl)) (kEntry_mk hc3 hr3)) ?_
   rintro _ _ _ _ ⟨ch3,rfl,rfl,rfl,ho6⟩
   have hn1:a0.Entries.length=(a0.Entries.set y1.1.toNat (⟨x2.Key,x2.Refs,a1.At⟩:Entry)).length:=by rw [List.length_set]
   refine ⟨fun _ w hh=>⟨(fun h=>by cases h),(fun h=>absurd h (by decide)),(fun h=>by cases h)⟩,?_⟩
   refine Kr [0,3,4,7] [(0,pg ga0 0),(3,pg g1 0),(4,pg g2 0),(7,.slice A1 x1.Refs.length c1)] ?_
   refine DrH.done (by kernel_rfl) ?_
   refine Ra 1 [1,1,1,1,1,1,0] [.c [1,1,1,1,1,1,1]]<|Rv 4 [0,4,59,60,62] [iv a1.At] [.load ⟨g1,1,none⟩ (iv a1.At)] [(0,pg ga0 0),(4,pg g2 0),(59,pg ga0 0),(60,.slice A1 x1.Refs.length c1),(62,iv a1.At)] (fun w hh=>(hh.box 2 rfl rfl)) ?_
   refine RgH.pick 6 [3,4,5,0,1,2] (cs':=(some (ga0,.cells #[iv a0.Room,iv a0.Lease,.slice Aa0_2 a0.Blobs.length ca0_2,.slice Aa0_3 a0.Entries.length ca0_3] 25 (0,0)))::cha0_2::ch3::ch1::(some (g2,.cells #[.bool false,.slice none 0 0,.slice none 0 0] 36 (0,0)))::(some (g1,.cells #[iv a1.Kind,iv a1.At,.string a1.Digest,.slice Aa1_3 a1.Digests.length ca1_3,.string a1.Key,iv a1.Size] 40 (0,0)))::F) (by kernel_rfl) rfl ?_
   obtain ⟨y4,hy4,heq⟩:=bind_some heq
   refine RgH.does (DoesH.call (d:=63) (g:=26) (args:=#[.pointer (some ⟨ga0,0,none⟩),.slice A1 x1.Refs.length c1,iv a1.At,.bool true,.bool true]) (by kernel_rfl) (cache_touch_3_c (a0:=(⟨a0.Room,a0.Lease,a0.Blobs,(a0.Entries.set y1.1.toNat (⟨x2.Key,x2.Refs,a1.At⟩:Entry))⟩:Cache)) (a1:=x1.Refs) (a2:=a1.At) (a3:=true) (a4:=true) hoa0_2 rfl ho6 hn1 (Rw.of hr1) hc1 rfl hy4)) ?_
   rintro _ _ _ _ ⟨_,rfl,A6,c6,ch4,A7,c7,ch5,rfl,rfl,rfl,ho7,ho8⟩
   refine Dn<|Ra 1 [1,1,1,1,1,1,1,0] [.c [1,1,1,1,1,1,1,1]]<|Rk 1 [0,4,64] [(0,pg ga0 0),(4,pg g2 0),(64,.agg #[.bool true,.slice none 0 0,.slice none 0 0])] ?_
   refine RgH.does (DoesH.store (k:=4) (g:=g2) (off:=0) (v:=.agg #[.bool true,.slice none 0 0,.slice none 0 0]) (cells':=#[.bool true,.slice none 0 0,.slice none 0 0]) (by kernel_rfl) rfl (by kernel_rfl) (by kernel_rfl)) ?_
   rintro _ _ _ _ ⟨rfl,rfl,rfl⟩
   refine Dn<|RunH.nilc ?_
   have ho9:SlOwn Kd.string 9 H none 0 ([]:List ByteArray) none:=SlOwn.nil
   refine RunH.nilc ?_
   have ho10:SlOwn Kd.string 9 H none 0 ([]:List ByteArray) none:=SlOwn.nil
   obtain rfl:=Option.some.inj heq
   refine RunH.pick 8 [6,1,0,2,3,4] (cs':=(some (g2,.cells #[.bool true,.slice none 0 0,.slice none 0 0] 36 (0,0)))::none::none::(some (ga0,.cells #[iv y4.Room,iv y4.Lease,.slice A6 y4.Blobs.length c6,.slice A7 y4.Entries.length c7] 25 (0,0)))::ch4::ch5::F) (by kernel_rfl) rfl ?_
   exact RunH.doneM' 1 (vs:=[.agg #[.bool true,.slice none 0 0,.slice none 0 0]]) (v:=.agg #[.bool true,.slice none 0 0,.slice none 0 0]) (by kernel_rfl) Tryd.func30 (fun w hh=>show ResAll _ _ _ [.cell 4 36] _ from ⟨⟨⟨g2,0,none⟩,by kernel_rfl,trS_run _ (vs:=[.bool true,.slice none 0 0,.slice none 0 0]) (r:=[]) (es:=[.load ⟨g2,0,none⟩ (.bool true),.load ⟨g2,1,none⟩ (.slice none 0 0),.load ⟨g2,2,none⟩ (.slice none 0 0)]) (by kernel_rfl) ⟨(hh.box 0 rfl rfl),(hh.box 0 rfl rfl),(hh.box 0 rfl rfl)⟩⟩,trivial⟩) rfl (cs':=none::none::(some (ga0,.cells #[iv y4.Room,iv y4.Lease,.slice A6 y4.Blobs.length c6,.slice A7 y4.Entries.length c7] 25 (0,0)))::ch4::ch5::F) rfl ⟨none,0,none,none,0,none,A6,c6,ch4,A7,c7,ch5,rfl,rfl,rfl,ho9,ho10,ho7,ho8⟩
noncomputable def C11:Ctx:={ P:=Tryd.prog,f:=11,N:=114,c:=bodyOf Tryd.f11 }
def S11 (F:List Ch) (H0:Hp) (ga0:Nat) (r:CacheAnswer × Int × Cache) (v:Value) (H:Hp) (cs:List Ch):Prop:=∃ (A0_1:Option Addr) (c0_1:Nat) (ch0_1:Ch) (A0_2:Option Addr) (c0_2:Nat) (ch0_2:Ch) (A2_2:Option Addr) (c2_2:Nat) (ch2_2:Ch) (A2_3:Option Addr) (c2_3:Nat) (ch2_3:Ch),v=.tuple #[.agg #[.bool r.1.Done,.slice A0_1 r.1.Missing.length c0_1,.slice A0_2 r.1.Gone.length c0_2],iv r.2.1]∧ch0_1::ch0_2::some (ga0,.cells #[iv r.2.2.Room,iv r.2.2.Lease,.slice A2_2 r.2.2.Blobs.length c2_2,.slice A2_3 r.2.2.Entries.length c2_3] 25 (0,0))::ch2_2::ch2_3::F=cs∧SlOwn Kd.string 9 H A0_1 c0_1 r.1.Missing ch0_1∧SlOwn Kd.string 9 H A0_2 c0_2 r.1.Gone ch0_2∧SlOwn kBlob 29 H A2_2 c2_2 r.2.2.Blobs ch2_2∧SlOwn kEntry 57 H A2_3 c2_3 r.2.2.Entries ch2_3
theorem cache_do.j1_c {w0:World} {H0:Hp} {F:List Ch} {r:CacheAnswer × Int × Cache}:∀ (H:Hp) (ga0:Nat) (a0:Cache) (Aa0_2:Option Addr) (ca0_2:Nat) (cha0_2:Ch) (Aa0_3:Option Addr) (ca0_3:Nat) (cha0_3:Ch) (a1:CacheEvent) (Aa1_3:Option Addr) (ca1_3:Nat) (g1:Nat) (g2:Nat) (y3:Int × Bool) (v72:Bool) ,SlOwn kBlob 29 H Aa0_2 ca0_2 a0.Blobs cha0_2→SlOwn kEntry 57 H Aa0_3 ca0_3 a0.Entries cha0_3→Rw Kd.string H F Aa1_3 a1.Digests→a1.Digests.length≤ca1_3→cache_do.j1 a0 a1 y3 v72=some r→RunH C11 (S11 F H0 ga0 r) H0 w0 [.c [1,1,1,1,0,1,0,1,1,1,1,1,1,1],.b 0,.c [1,1,1,1,1]] [(0,pg ga0 0),(3,pg g1 0),(4,pg g2 0),(7,iv y3.1),(8,.bool y3.2),(34,iv a1.Kind),(72,.bool v72)] H ((some (g2,.cells #[.bool false,.slice none 0 0,.slice none 0 0] 36 (0,0)))::(some (g1,.cells #[iv a1.Kind,iv a1.At,.string a1.Digest,.slice Aa1_3 a1.Digests.length ca1_3,.string a1.Key,iv a1.Size] 40 (0,0)))::(some (ga0,.cells #[iv a0.Room,iv a0.Lease,.slice Aa0_2 a0.Blobs.length ca0_2,.slice Aa0_3 a0.Entries.length ca0_3] 25 (0,0)))::cha0_2::cha0_3::F):=by
 intro H ga0 a0 Aa0_2 ca0_2 cha0_2 Aa0_3 ca0_3 cha0_3 a1 Aa1_3 ca1_3 g1 g2 y3 v72 hoa0_2 hoa0_3 hra1_3 hca1_3 heq
 unfold cache_do.j1 at heq
 rcases bool_cases (v72) with hb6 | hb6
 ·replace heq:=bif_true hb6 heq
  refine Ct v72 hb6<|Ra 1 [1,1,1,1,0,1,0,1,1,1,1,1,1,1,0,0] [.c [1,1,1,1,0,1,0,1,1,1,1,1,1,1,0,1],.b 0,.c [1,1,1,1,1]]<|Rv 2 [0,4,75,76] [iv a1.Kind,iv a1.At,.string a1.Digest,.slice Aa1_3 a1.Digests.length ca1_3,.string a1.Key,iv a1.Size] [.load ⟨g1,0,none⟩ (iv a1.Kind),.load ⟨g1,1,none⟩ (iv a1.At),.load ⟨g1,2,none⟩ (.string a1.Digest),.load ⟨g1,3,none⟩ (.slice Aa1_3 a1.Digests.length ca1_3),.load ⟨g1,4,none⟩ (.string a1.Key),.load ⟨g1,5,none⟩ (iv a1.Size)] [(0,pg ga0 0),(4,pg g2 0),(75,pg ga0 0),(76,.agg #[iv a1.Kind,iv a1.At,.string a1.Digest,.slice Aa1_3 a1.Digests.length ca1_3,.string a1.Key,iv a1.Size])] (fun w hh=>⟨(hh.box 1 rfl rfl),(hh.box 1 rfl rfl),(hh.box 1 rfl rfl),(hh.box 1 rfl rfl),(hh.box 1 rfl rfl),(hh.box 1 rfl rfl)⟩) ?_
  refine RgH.pick 5 [2,3,4,0,1] (cs':=(some (ga0,.cells #[iv a0.Room,iv a0.Lease,.slice Aa0_2 a0.Blobs.length ca0_2,.slice Aa0_3 a0.Entries.length ca0_3] 25 (0,0)))::cha0_2::cha0_3::(some (g2,.cells #[.bool false,.slice none 0 0,.slice none 0 0] 36 (0,0)))::(some (g1,.cells #[iv a1.Kind,iv a1.At,.string a1.Digest,.slice Aa1_3 a1.Digests.length ca1_3,.string a1.Key,iv a1.Size] 40 (0,0)))::F) (by kernel_rfl) rfl ?_
  obtain ⟨y8,hy8,heq⟩:=bind_some heq
  refine RgH.does (DoesH.call (d:=77) (g:=28) (args:=#[.pointer (some ⟨ga0,0,none⟩),.agg #[iv a1.Kind,iv a1.At,.string a1.Digest,.slice Aa1_3 a1.Digests.length ca1_3,.string a1.Key,iv a1.Size]]) (by kernel_rfl) (cache_pin_c (a0:=(⟨a0.Room,a0.Lease,a0.Blobs,a0.Entries⟩:Cache)) (a1:=a1) hoa0_2 rfl hoa0_3 rfl (hra1_3.wk (fun _ h=>(.tail _ (.tail _ h)))) hca1_3 rfl hy8)) ?_
  rintro _ _ _ _ ⟨_,rfl,A10,c10,ch10,A11,c11,ch11,A12,c12,ch12,A13,c13,ch13,rfl,rfl,rfl,ho18,ho19,ho20,ho21⟩
  refine Rk 5 [0,4,78,79] [(0,pg ga0 0),(4,pg g2 0),(78,.agg #[.bool y8.1.Done,.slice A10 y8.1.Missing.length c10,.slice A11 y8.1.Gone.length c11]),(79,iv y8.2.1)] ?_
  refine RgH.does (DoesH.store (k:=5) (g:=g2) (off:=0) (v:=.agg #[.bool y8.1.Done,.slice A10 y8.1.Missing.length c10,.slice A11 y8.1.Gone.length c11]) (cells':=#[.bool y8.1.Done,.slice A10 y8.1.Missing.length c10,.slice A11 y8.1.Gone.length c11]) (by kernel_rfl) rfl (by kernel_rfl) (by kernel_rfl)) ?_
  rintro _ _ _ _ ⟨rfl,rfl,rfl⟩
  refine Rd 7 [0,4,5] [(0,pg ga0 0),(4,pg g2 0),(5,iv y8.2.1)] ?_
  obtain rfl:=Option.some.inj heq
  refine RunH.pick 7 [5,0,1,2,3,4] (cs':=(some (g2,.cells #[.bool y8.1.Done,.slice A10 y8.1.Missing.length c10,.slice A11 y8.1.Gone.length c11] 36 (0,0)))::ch10::ch11::(some (ga0,.cells #[iv y8.2.2.Room,iv y8.2.2.Lease,.slice A12 y8.2.2.Blobs.length c12,.slice A13 y8.2.2.Entries.length c13] 25 (0,0)))::ch12::ch13::F) (by kernel_rfl) rfl ?_
  exact RunH.doneM' 1 (vs:=[.agg #[.bool y8.1.Done,.slice A10 y8.1.Missing.length c10,.slice A11 y8.1.Gone.length c11],iv y8.2.1]) (v:=.tuple #[.agg #[.bool y8.1.Done,.slice A10 y8.1.Missing.length c10,.slice A11 y8.1.Gone.length c11],iv y8.2.1]) (by kernel_rfl) Tryd.func11 (fun w hh=>show ResAll _ _ _ [.cell 4 36,.tmp 5] _ from ⟨⟨⟨g2,0,none⟩,by kernel_rfl,trS_run _ (vs:=[.bool y8.1.Done,.slice A10 y8.1.Missing.length c10,.slice A11 y8.1.Gone.length c11]) (r:=[]) (es:=[.load ⟨g2,0,none⟩ (.bool y8.1.Done),.load ⟨g2,1,none⟩ (.slice A10 y8.1.Missing.length c10),.load ⟨g2,2,none⟩ (.slice A11 y8.1.Gone.length c11)]) (by kernel_rfl) ⟨(hh.box 0 rfl rfl),(hh.box 0 rfl rfl),(hh.box 0 rfl rfl)⟩⟩,(show lk _ _=some _ by kernel_rfl),trivial⟩) rfl (cs':=ch10::ch11::(some (ga0,.cells #[iv y8.2.2.Room,iv y8.2.2.Lease,.slice A12 y8.2.2.Blobs.length c12,.slice A13 y8.2.2.Entries.length c13] 25 (0,0)))::ch12::ch13::F) rfl ⟨A10,c10,ch10,A11,c11,ch11,A12,c12,ch12,A13,c13,ch13,rfl,rfl,ho18,ho19,ho20,ho21⟩
 ·replace heq:=bif_false hb6 heq
  refine Cf v72 hb6<|Ra 1 [1,1,1,1,0,1,0,1,1,1,1,1,1,1,1,0] [.c [1,1,1,1,0,1,0,1,1,1,1,1,1,1,1,1],.b 0,.c [1,1,1,1,1]]<|Rd 2 [0,3,4,7,8,34,80] [(0,pg ga0 0),(3,pg g1 0),(4,pg g2 0),(7,iv y3.1),(8,.bool y3.2),(34,iv a1.Kind),(80,.bool (a1.Kind == 6))] ?_
  rcases bool_cases (a1.Kind == 6) with hb7 | hb7
  ·replace heq:=bif_true hb7 heq
   refine Ct (a1.Kind == 6) hb7<|Ra 1 [1,1,1,1,0,1,0,1,1,1,1,1,1,1,1,1,0,0] [.c [1,1,1,1,0,1,0,1,1,1,1,1,1,1,1,1,0,1],.b 0,.c [1,1,1,1,1]]<|Rv 2 [0,4,82,83] [iv a1.Kind,iv a1.At,.string a1.Digest,.slice Aa1_3 a1.Digests.length ca1_3,.string a1.Key,iv a1.Size] [.load ⟨g1,0,none⟩ (iv a1.Kind),.load ⟨g1,1,none⟩ (iv a1.At),.load ⟨g1,2,none⟩ (.string a1.Digest),.load ⟨g1,3,none⟩ (.slice Aa1_3 a1.Digests.length ca1_3),.load ⟨g1,4,none⟩ (.string a1.Key),.load ⟨g1,5,none⟩ (iv a1.Size)] [(0,pg ga0 0),(4,pg g2 0),(82,pg ga0 0),(83,.agg #[iv a1.Kind,iv a1.At,.string a1.Digest,.slice Aa1_3 a1.Digests.length ca1_3,.string a1.Key,iv a1.Size])] (fun w hh=>⟨(hh.box 1 rfl rfl),(hh.box 1 rfl rfl),(hh.box 1 rfl rfl),(hh.box 1 rfl rfl),(hh.box 1 rfl rfl),(hh.box 1 rfl rfl)⟩) ?_
   refine RgH.pick 5 [2,3,4,0,1] (cs':=(some (ga0,.cells #[iv a0.Room,iv a0.Lease,.slice Aa0_2 a0.Blobs.length ca0_2,.slice Aa0_3 a0.Entries.length ca0_3] 25 (0,0)))::cha0_2::cha0_3::(some (g2,.cells #[.bool false,.slice none 0 0,.slice none 0 0] 36 (0,0)))::(some (g1,.cells #[iv a1.Kind,iv a1.At,.string a1.Digest,.slice Aa1_3 a1.Digests.length ca1_3,.string a1.Key,iv a1.Size] 40 (0,0)))::F) (by kernel_rfl) rfl ?_
   obtain ⟨y9,hy9,heq⟩:=bind_some heq
   refine RgH.does (DoesH.call (d:=84) (g:=29) (args:=#[.pointer (some ⟨ga0,0,none⟩),.agg #[iv a1.Kind,iv a1.At,.string a1.Digest,.slice Aa1_3 a1.Digests.length ca1_3,.string a1.Key,iv a1.Size]]) (by kernel_rfl) (cache_store_c (a0:=(⟨a0.Room,a0.Lease,a0.Blobs,a0.Entries⟩:Cache)) (a1:=a1) hoa0_2 rfl hoa0_3 rfl (hra1_3.wk (fun _ h=>(.tail _ (.tail _ h)))) hca1_3 rfl hy9)) ?_
   rintro _ H _ hl ⟨_,rfl,A14,c14,ch14,A15,c15,ch15,A16,c16,ch16,A17,c17,ch17,rfl,rfl,ho22,ho23,ho24,ho25⟩
   replace hoa0_2:=hoa0_2.mono hl
   replace hoa0_3:=hoa0_3.mono hl
   replace hra1_3:=hra1_3.mono hl
   refine RgH.does (DoesH.store (k:=5) (g:=g2) (off:=0) (v:=.agg #[.bool y9.1.Done,.slice A14 y9.1.Missing.length c14,.slice A15 y9.1.Gone.length c15]) (cells':=#[.bool y9.1.Done,.slice A14 y9.1.Missing.length c14,.slice A15 y9.1.Gone.length c15]) (by kernel_rfl) rfl (by kernel_rfl) (by kernel_rfl)) ?_
   rintro _ _ _ _ ⟨rfl,rfl,rfl⟩
   refine Rd 5 [0,4,5] [(0,pg ga0 0),(4,pg g2 0),(5,iv 0)] ?_
   obtain rfl:=Option.some.inj heq
   refine RunH.pick 7 [5,0,1,2,3,4] (cs':=(some (g2,.cells #[.bool y9.1.Done,.slice A14 y9.1.Missing.length c14,.slice A15 y9.1.Gone.length c15] 36 (0,0)))::ch14::ch15::(some (ga0,.cells #[iv y9.2.Room,iv y9.2.Lease,.slice A16 y9.2.Blobs.length c16,.slice A17 y9.2.Entries.length c17] 25 (0,0)))::ch16::ch17::F) (by kernel_rfl) rfl ?_
   exact RunH.doneM' 1 (vs:=[.agg #[.bool y9.1.Done,.slice A14 y9.1.Missing.length c14,.slice A15 y9.1.Gone.length c15],iv 0]) (v:=.tuple #[.agg #[.bool y9.1.Done,.slice A14 y9.1.Missing.length c14,.slice A15 y9.1.Gone.length c15],iv 0]) (by kernel_rfl) Tryd.func11 (fun w hh=>show ResAll _ _ _ [.cell 4 36,.tmp 5] _ from ⟨⟨⟨g2,0,none⟩,by kernel_rfl,trS_run _ (vs:=[.bool y9.1.Done,.slice A14 y9.1.Missing.length c14,.slice A15 y9.1.Gone.length c15]) (r:=[]) (es:=[.load ⟨g2,0,none⟩ (.bool y9.1.Done),.load ⟨g2,1,none⟩ (.slice A14 y9.1.Missing.length c14),.load ⟨g2,2,none⟩ (.slice A15 y9.1.Gone.length c15)]) (by kernel_rfl) ⟨(hh.box 0 rfl rfl),(hh.box 0 rfl rfl),(hh.box 0 rfl rfl)⟩⟩,(show lk _ _=some _ by kernel_rfl),trivial⟩) rfl (cs':=ch14::ch15::(some (ga0,.cells #[iv y9.2.Room,iv y9.2.Lease,.slice A16 y9.2.Blobs.length c16,.slice A17 y9.2.Entries.length c17] 25 (0,0)))::ch16::ch17::F) rfl ⟨A14,c14,ch14,A15,c15,ch15,A16,c16,ch16,A17,c17,ch17,rfl,rfl,ho22,ho23,ho24,ho25⟩
  ·replace heq:=bif_false hb7 heq
   refine Cf (a1.Kind == 6) hb7<|Ra 1 [1,1,1,1,0,1,0,1,1,1,1,1,1,1,1,1,1,0] [.c [1,1,1,1,0,1,0,1,1,1,1,1,1,1,1,1,1,1],.b 0,.c [1,1,1,1,1]]<|Rd 2 [0,3,4,7,8,85] [(0,pg ga0 0),(3,pg g1 0),(4,pg g2 0),(7,iv y3.1),(8,.bool y3.2),(85,.bool (a1.Kind == 7))] ?_
   rcases bool_cases (a1.Kind == 7) with hb8 | hb8
   ·replace heq:=bif_true hb8 heq
    refine Ct (a1.Kind == 7) hb8<|Ra 1 [1,1,1,1,0,1,0,1,1,1,1,1,1,1,1,1,1,1,0,0] [.c [1,1,1,1,0,1,0,1,1,1,1,1,1,1,1,1,1,1,0,1],.b 0,.c [1,1,1,1,1]]<|Rv 2 [0,4,87,88] [iv a1.Kind,iv a1.At,.string a1.Digest,.slice Aa1_3 a1.Digests.length ca1_3,.string a1.Key,iv a1.Size] [.load ⟨g1,0,none⟩ (iv a1.Kind),.load ⟨g1,1,none⟩ (iv a1.At),.load ⟨g1,2,none⟩ (.string a1.Digest),.load ⟨g1,3,none⟩ (.slice Aa1_3 a1.Digests.length ca1_3),.load ⟨g1,4,none⟩ (.string a1.Key),.load ⟨g1,5,none⟩ (iv a1.Size)] [(0,pg ga0 0),(4,pg g2 0),(87,pg ga0 0),(88,.agg #[iv a1.Kind,iv a1.At,.string a1.Digest,.slice Aa1_3 a1.Digests.length ca1_3,.string a1.Key,iv a1.Size])] (fun w hh=>⟨(hh.box 1 rfl rfl),(hh.box 1 rfl rfl),(hh.box 1 rfl rfl),(hh.box 1 rfl rfl),(hh.box 1 rfl rfl),(hh.box 1 rfl rfl)⟩) ?_
    refine RgH.pick 5 [2,3,4,0,1] (cs':=(some (ga0,.cells #[iv a0.Room,iv a0.Lease,.slice Aa0_2 a0.Blobs.length ca0_2,.slice Aa0_3 a0.Entries.length ca0_3] 25 (0,0)))::cha0_2::cha0_3::(some (g2,.cells #[.bool false,.slice none 0 0,.slice none 0 0] 36 (0,0)))::(some (g1,.cells #[iv a1.Kind,iv a1.At,.string a1.Digest,.slice Aa1_3 a1.Digests.length ca1_3,.string a1.Key,iv a1.Size] 40 (0,0)))::F) (by kernel_rfl) rfl ?_
    obtain ⟨y10,hy10,heq⟩:=bind_some heq
    refine RgH.does (DoesH.call (d:=89) (g:=30) (args:=#[.pointer (some ⟨ga0,0,none⟩),.agg #[iv a1.Kind,iv a1.At,.string a1.Digest,.slice Aa1_3 a1.Digests.length ca1_3,.string a1.Key,iv a1.Size]]) (by kernel_rfl) (cache_search_c (a0:=(⟨a0.Room,a0.Lease,a0.Blobs,a0.Entries⟩:Cache)) (a1:=a1) hoa0_2 rfl hoa0_3 rfl (hra1_3.wk (fun _ h=>(.tail _ (.tail _ h)))) hca1_3 rfl hy10)) ?_
    rintro _ _ _ _ ⟨_,rfl,A18,c18,ch18,A19,c19,ch19,A20,c20,ch20,A21,c21,ch21,rfl,rfl,rfl,ho26,ho27,ho28,ho29⟩
    refine RgH.does (DoesH.store (k:=5) (g:=g2) (off:=0) (v:=.agg #[.bool y10.1.Done,.slice A18 y10.1.Missing.length c18,.slice A19 y10.1.Gone.length c19]) (cells':=#[.bool y10.1.Done,.slice A18 y10.1.Missing.length c18,.slice A19 y10.1.Gone.length c19]) (by kernel_rfl) rfl (by kernel_rfl) (by kernel_rfl)) ?_
    rintro _ _ _ _ ⟨rfl,rfl,rfl⟩
    refine Rd 5 [0,4,5] [(0,pg ga0 0),(4,pg g2 0),(5,iv 0)] ?_
    obtain rfl:=Option.some.inj heq
    refine RunH.pick 7 [5,0,1,2,3,4] (cs':=(some (g2,.cells #[.bool y10.1.Done,.slice A18 y10.1.Missing.length c18,.slice A19 y10.1.Gone.length c19] 36 (0,0)))::ch18::ch19::(some (ga0,.cells #[iv y10.2.Room,iv y10.2.Lease,.slice A20 y10.2.Blobs.length c20,.slice A21 y10.2.Entries.length c21] 25 (0,0)))::ch20::ch21::F) (by kernel_rfl) rfl ?_
    exact RunH.doneM' 1 (vs:=[.agg #[.bool y10.1.Done,.slice A18 y10.1.Missing.length c18,.slice A19 y10.1.Gone.length c19],iv 0]) (v:=.tuple #[.agg #[.bool y10.1.Done,.slice A18 y10.1.Missing.length c18,.slice A19 y10.1.Gone.length c19],iv 0]) (by kernel_rfl) Tryd.func11 (fun w hh=>show ResAll _ _ _ [.cell 4 36,.tmp 5] _ from ⟨⟨⟨g2,0,none⟩,by kernel_rfl,trS_run _ (vs:=[.bool y10.1.Done,.slice A18 y10.1.Missing.length c18,.slice A19 y10.1.Gone.length c19]) (r:=[]) (es:=[.load ⟨g2,0,none⟩ (.bool y10.1.Done),.load ⟨g2,1,none⟩ (.slice A18 y10.1.Missing.length c18),.load ⟨g2,2,none⟩ (.slice A19 y10.1.Gone.length c19)]) (by kernel_rfl) ⟨(hh.box 0 rfl rfl),(hh.box 0 rfl rfl),(hh.box 0 rfl rfl)⟩⟩,(show lk _ _=some _ by kernel_rfl),trivial⟩) rfl (cs':=ch18::ch19::(some (ga0,.cells #[iv y10.2.Room,iv y10.2.Lease,.slice A20 y10.2.Blobs.length c20,.slice A21 y10.2.Entries.length c21] 25 (0,0)))::ch20::ch21::F) rfl ⟨A18,c18,ch18,A19,c19,ch19,A20,c20,ch20,A21,c21,ch21,rfl,rfl,ho26,ho27,ho28,ho29⟩
   ·replace heq:=bif_false hb8 heq
    refine Cf (a1.Kind == 7) hb8<|Ad 4 [.c [1,1,1,1,1,0,0],.c [1,1,1,1,1,0,1],.c [1,1,1,1,1,1]] ?_
    obtain ⟨t1,ht1,heq⟩:=bind_some heq
    have K35:∀ (H:Hp),SlOwn kBlob 29 H Aa0_2 ca0_2 a0.Blobs cha0_2→SlOwn kEntry 57 H Aa0_3 ca0_3 a0.Entries cha0_3→Rw Kd.string H F Aa1_3 a1.Digests→RunH C11 (S11 F H0 ga0 r) H0 w0 [.c [1,1,1,1,1,0,1],.c [1,1,1,1,1,1]] [(0,pg ga0 0),(3,pg g1 0),(4,pg g2 0),(103,.bool t1)] H ((some (g2,.cells #[.bool false,.slice none 0 0,.slice none 0 0] 36 (0,0)))::(some (g1,.cells #[iv a1.Kind,iv a1.At,.string a1.Digest,.slice Aa1_3 a1.Digests.length ca1_3,.string a1.Key,iv a1.Size] 40 (0,0)))::(some (ga0,.cells #[iv a0.Room,iv a0.Lease,.slice Aa0_2 a0.Blobs.length ca0_2,.slice Aa0_3 a0.Entries.length ca0_3] 25 (0,0)))::cha0_2::cha0_3::F):=by
     intro H hoa0_2 hoa0_3 hra1_3
     rcases bool_cases (t1) with hb10 | hb10
     ·replace heq:=bif_true hb10 heq
      refine Ct t1 hb10<|Ra 1 [1,1,1,1,1,0,1,0,0] [.c [1,1,1,1,1,0,1,0,1],.c [1,1,1,1,1,1]]<|Rk 1 [0,4,104] [(0,pg ga0 0),(4,pg g2 0),(104,.agg #[.bool false,.slice none 0 0,.slice none 0 0])] ?_
      refine RgH.does (DoesH.store (k:=0) (g:=g2) (off:=0) (v:=.agg #[.bool false,.slice none 0 0,.slice none 0 0]) (cells':=#[.bool false,.slice none 0 0,.slice none 0 0]) (by kernel_rfl) rfl (by kernel_rfl) (by kernel_rfl)) ?_
      rintro _ _ _ _ ⟨rfl,rfl,rfl⟩
      refine Rd 3 [0,4,5] [(0,pg ga0 0),(4,pg g2 0),(5,iv 0)]<|RunH.nilc ?_
      have ho30:SlOwn Kd.string 9 H none 0 ([]:List ByteArray) none:=SlOwn.nil
      refine RunH.nilc ?_
      have ho31:SlOwn Kd.string 9 H none 0 ([]:List ByteArray) none:=SlOwn.nil
      obtain rfl:=Option.some.inj heq
      refine RunH.pick 7 [2,1,0,4,5,6] (cs':=(some (g2,.cells #[.bool false,.slice none 0 0,.slice none 0 0] 36 (0,0)))::none::none::(some (ga0,.cells #[iv a0.Room,iv a0.Lease,.slice Aa0_2 a0.Blobs.length ca0_2,.slice Aa0_3 a0.Entries.length ca0_3] 25 (0,0)))::cha0_2::cha0_3::F) (by kernel_rfl) rfl ?_
      exact RunH.doneM' 1 (vs:=[.agg #[.bool false,.slice none 0 0,.slice none 0 0],iv 0]) (v:=.tuple #[.agg #[.bool false,.slice none 0 0,.slice none 0 0],iv 0]) (by kernel_rfl) Tryd.func11 (fun w hh=>show ResAll _ _ _ [.cell 4 36,.tmp 5] _ from ⟨⟨⟨g2,0,none⟩,by kernel_rfl,trS_run _ (vs:=[.bool false,.slice none 0 0,.slice none 0 0]) (r:=[]) (es:=[.load ⟨g2,0,none⟩ (.bool false),.load ⟨g2,1,none⟩ (.slice none 0 0),.load ⟨g2,2,none⟩ (.slice none 0 0)]) (by kernel_rfl) ⟨(hh.box 0 rfl rfl),(hh.box 0 rfl rfl),(hh.box 0 rfl rfl)⟩⟩,(show lk _ _=some _ by kernel_rfl),trivial⟩) rfl (cs':=none::none::(some (ga0,.cells #[iv a0.Room,iv a0.Lease,.slice Aa0_2 a0.Blobs.length ca0_2,.slice Aa0_3 a0.Entries.length ca0_3] 25 (0,0)))::cha0_2::cha0_3::F) rfl ⟨none,0,none,none,0,none,Aa0_2,ca0_2,cha0_2,Aa0_3,ca0_3,cha0_3,rfl,rfl,ho30,ho31,hoa0_2,hoa0_3⟩
     ·replace heq:=bif_false hb10 heq
      refine Cf t1 hb10<|Ra 2 [1,1,1,1,1,1,0] [.c [1,1,1,1,1,1,1]]<|Rv 3 [0,3,4,105,107] [.string a1.Digest] [.load ⟨g1,2,none⟩ (.string a1.Digest)] [(0,pg ga0 0),(3,pg g1 0),(4,pg g2 0),(105,pg ga0 0),(107,.string a1.Digest)] (fun w hh=>(hh.box 1 rfl rfl)) ?_
      refine RgH.does (DoesH.new (d:=108) (v:=fun g=>.slice (some ⟨g,0,none⟩) 1 1) (o:=fun g=>.cells #[.string a1.Digest] 9 (0,0)) (fun g=>by kernel_rfl)) ?_
      rintro _ _ _ _ ⟨g4,rfl,rfl,rfl⟩
      have ho32:SlOwn Kd.string 9 H (some ⟨g4,0,none⟩) 1 ([a1.Digest]:List ByteArray) (some (g4,.cells #[.string a1.Digest] 9 (0,0))):=SlOwn.lit (xs:=([a1.Digest]:List ByteArray)) (by kernel_rfl) (Nat.le_of_ble_eq_true (by kernel_rfl)) (Kd.Rep.scalars rfl)
      refine RgH.pick 6 [3,4,5,0,1,2] (cs':=(some (ga0,.cells #[iv a0.Room,iv a0.Lease,.slice Aa0_2 a0.Blobs.length ca0_2,.slice Aa0_3 a0.Entries.length ca0_3] 25 (0,0)))::cha0_2::cha0_3::(some (g4,.cells #[.string a1.Digest] 9 (0,0)))::(some (g2,.cells #[.bool false,.slice none 0 0,.slice none 0 0] 36 (0,0)))::(some (g1,.cells #[iv a1.Kind,iv a1.At,.string a1.Digest,.slice Aa1_3 a1.Digests.length ca1_3,.string a1.Key,iv a1.Size] 40 (0,0)))::F) (by kernel_rfl) rfl ?_
      obtain ⟨y12,hy12,heq⟩:=bind_some heq
      refine RgH.does (DoesH.call (d:=109) (g:=32) (args:=#[.pointer (some ⟨ga0,0,none⟩),.slice (some ⟨g4,0,none⟩) 1 1]) (by kernel_rfl) (cache_drop_3_c (a0:=(⟨a0.Room,a0.Lease,a0.Blobs,a0.Entries⟩:Cache)) (a1:=([a1.Digest]:List ByteArray)) hoa0_2 rfl hoa0_3 rfl (ho32.rw (.head _)) ho32.cap rfl hy12)) ?_
      rintro _ _ _ _ ⟨_,rfl,A22,c22,ch22,A23,c23,ch23,rfl,rfl,rfl,ho33,ho34⟩
      refine Dn<|Ra 1 [1,1,1,1,1,1,1,0] [.c [1,1,1,1,1,1,1,1]]<|Rv 2 [0,4,111] [.string a1.Digest] [.load ⟨g1,2,none⟩ (.string a1.Digest)] [(0,pg ga0 0),(4,pg g2 0),(111,.string a1.Digest)] (fun w hh=>(hh.box 5 rfl rfl)) ?_
      refine RgH.does (DoesH.new (d:=112) (v:=fun g=>.slice (some ⟨g,0,none⟩) 1 1) (o:=fun g=>.cells #[.string a1.Digest] 9 (0,0)) (fun g=>by kernel_rfl)) ?_
      rintro _ _ _ _ ⟨g5,rfl,rfl,rfl⟩
      have ho35:SlOwn Kd.string 9 H (some ⟨g5,0,none⟩) 1 ([a1.Digest]:List ByteArray) (some (g5,.cells #[.string a1.Digest] 9 (0,0))):=SlOwn.lit (xs:=([a1.Digest]:List ByteArray)) (by kernel_rfl) (Nat.le_of_ble_eq_true (by kernel_rfl)) (Kd.Rep.scalars rfl)
      refine Rk 4 [0,4,113] [(0,pg ga0 0),(4,pg g2 0),(113,.agg #[.bool true,.slice none 0 0,.slice (some ⟨g5,0,none⟩) 1 1])] ?_
      refine RgH.does (DoesH.store (k:=5) (g:=g2) (off:=0) (v:=.agg #[.bool true,.slice none 0 0,.slice (some ⟨g5,0,none⟩) 1 1]) (cells':=#[.bool true,.slice none 0 0,.slice (some ⟨g5,0,none⟩) 1 1]) (by kernel_rfl) rfl (by kernel_rfl) (by kernel_rfl)) ?_
      rintro _ _ _ _ ⟨rfl,rfl,rfl⟩
      refine Rd 6 [0,4,5] [(0,pg ga0 0),(4,pg g2 0),(5,iv 0)]<|RunH.nilc ?_
      have ho36:SlOwn Kd.string 9 H none 0 ([]:List ByteArray) none:=SlOwn.nil
      obtain rfl:=Option.some.inj heq
      refine RunH.pick 8 [6,0,1,2,3,4] (cs':=(some (g2,.cells #[.bool true,.slice none 0 0,.slice (some ⟨g5,0,none⟩) 1 1] 36 (0,0)))::none::(some (g5,.cells #[.string a1.Digest] 9 (0,0)))::(some (ga0,.cells #[iv y12.Room,iv y12.Lease,.slice A22 y12.Blobs.length c22,.slice A23 y12.Entries.length c23] 25 (0,0)))::ch22::ch23::F) (by kernel_rfl) rfl ?_
      exact RunH.doneM' 1 (vs:=[.agg #[.bool true,.slice none 0 0,.slice (some ⟨g5,0,none⟩) 1 1],iv 0]) (v:=.tuple #[.agg #[.bool true,.slice none 0 0,.slice (some ⟨g5,0,none⟩) 1 1],iv 0]) (by kernel_rfl) Tryd.func11 (fun w hh=>show ResAll _ _ _ [.cell 4 36,.tmp 5] _ from ⟨⟨⟨g2,0,none⟩,by kernel_rfl,trS_run _ (vs:=[.bool true,.slice none 0 0,.slice (some ⟨g5,0,none⟩) 1 1]) (r:=[]) (es:=[.load ⟨g2,0,none⟩ (.bool true),.load ⟨g2,1,none⟩ (.slice none 0 0),.load ⟨g2,2,none⟩ (.slice (some ⟨g5,0,none⟩) 1 1)]) (by kernel_rfl) ⟨(hh.box 0 rfl rfl),(hh.box 0 rfl rfl),(hh.box 0 rfl rfl)⟩⟩,(show lk _ _=some _ by kernel_rfl),trivial⟩) rfl (cs':=none::(some (g5,.cells #[.string a1.Digest] 9 (0,0)))::(some (ga0,.cells #[iv y12.Room,iv y12.Lease,.slice A22 y12.Blobs.length c22,.slice A23 y12.Entries.length c23] 25 (0,0)))::ch22::ch23::F) rfl ⟨none,0,none,some ⟨g5,0,none⟩,1,(some (g5,.cells #[.string a1.Digest] 9 (0,0))),A22,c22,ch22,A23,c23,ch23,rfl,rfl,ho36,ho35,ho33,ho34⟩
    replace heq:=ht1
    refine Kp [0,3,4,7,8] [(0,pg ga0 0),(3,pg g1 0),(4,pg g2 0),(7,iv y3.1),(8,.bool y3.2)] ?_
    refine RunH.draw (fun w=>Heap H w0 w ((some (g2,.cells #[.bool false,.slice none 0 0,.slice none 0 0] 36 (0,0)))::(some (g1,.cells #[iv a1.Kind,iv a1.At,.string a1.Digest,.slice Aa1_3 a1.Digests.length ca1_3,.string a1.Key,iv a1.Size] 40 (0,0)))::(some (ga0,.cells #[iv a0.Room,iv a0.Lease,.slice Aa0_2 a0.Blobs.length ca0_2,.slice Aa0_3 a0.Entries.length ca0_3] 25 (0,0)))::cha0_2::cha0_3::F)) (fun w=>Heap H w0 w ((some (g2,.cells #[.bool false,.slice none 0 0,.slice none 0 0] 36 (0,0)))::(some (g1,.cells #[iv a1.Kind,iv a1.At,.string a1.Digest,.slice Aa1_3 a1.Digests.length ca1_3,.string a1.Key,iv a1.Size] 40 (0,0)))::(some (ga0,.cells #[iv a0.Room,iv a0.Lease,.slice Aa0_2 a0.Blobs.length ca0_2,.slice Aa0_3 a0.Entries.length ca0_3] 25 (0,0)))::cha0_2::cha0_3::F)) [3,3,3,3,3,3,3,3,3,3,3,3,0,3] (n:=14) (ls:=[false,false,false,false,false,false,false,false,false,false,false,false,false,false]) (by kernel_rfl) (by kernel_rfl) (by kernel_rfl) rfl ?_
    refine Dk [0,1,2] 11 (nb 14 7) [] [] [92,0,3,4,7] [(92,.bool (!y3.2)),(0,pg ga0 0),(3,pg g1 0),(4,pg g2 0),(7,iv y3.1)] (Pk 5 [0,1,2,3,4]) (Pk 5 [0,1,2,3,4]) (fun _ _=>trivial) ?_
    rcases bool_cases (!y3.2) with hb9 | hb9
    ·replace heq:=bif_true hb9 heq
     refine DrH.val1 (v':=.bool true) (congrArg Value.bool hb9) ?_
     refine Dk [3,4,5,6,7,8,9,10,11,12,13] 0 (nb 14 16383) [] [] [0,3,4,103] [(0,pg ga0 0),(3,pg g1 0),(4,pg g2 0),(103,.bool true)] (Pk 5 [0,1,2,3,4]) (Pk 5 [0,1,2,3,4]) (fun _ _=>trivial) ?_
     obtain rfl:=Option.some.inj heq
     refine Kr [0,3,4,103] [(0,pg ga0 0),(3,pg g1 0),(4,pg g2 0),(103,.bool true)] ?_
     refine DrH.done (by kernel_rfl) ?_
     exact K35 _ hoa0_2 hoa0_3 hra1_3
    ·replace heq:=bif_false hb9 heq
     refine DrH.val1 (v':=.bool false) (congrArg Value.bool hb9) ?_
     obtain ⟨x1,hx1,heq⟩:=bind_some heq
     obtain ⟨ha1,cs1,hK1,hcc1⟩:=hoa0_2.get hx1
     obtain ⟨rfl⟩:=kBlob_open hK1
     refine Dk [3,4,5,6,7,8,9,10,11] 2 (nb 14 4095) [.slice Aa0_2 a0.Blobs.length ca0_2,.string x1.Digest,iv x1.Size,iv x1.Used,iv x1.Until,iv x1.Pins,iv a1.At] [.load ⟨ga0,2,none⟩ (.slice Aa0_2 a0.Blobs.length ca0_2),.need (Aa0_2=some (adr Aa0_2)∧(0:Int)≤y3.1∧y3.1<((a0.Blobs.length:Nat):Int)),.load (((adr Aa0_2).add (y3.1.toNat*5)).add 0) (.string x1.Digest),.load (((adr Aa0_2).add (y3.1.toNat*5)).add 1) (iv x1.Size),.load (((adr Aa0_2).add (y3.1.toNat*5)).add 2) (iv x1.Used),.load (((adr Aa0_2).add (y3.1.toNat*5)).add 3) (iv x1.Until),.load (((adr Aa0_2).add (y3.1.toNat*5)).add 4) (iv x1.Pins),.load ⟨g1,1,none⟩ (iv a1.At)] [0,3,4,92,99,101] [(0,pg ga0 0),(3,pg g1 0),(4,pg g2 0),(92,.bool false),(99,.agg #[.string x1.Digest,iv x1.Size,iv x1.Used,iv x1.Until,iv x1.Pins]),(101,iv a1.At)] (Pk 5 [0,1,2,3,4]) (Pk 5 [0,1,2,3,4]) (fun w hh=>⟨(hh.box 2 rfl rfl),⟨ha1,(at?_some hx1).1,(at?_some hx1).2.1⟩,(hcc1 _ (hh.chin 3 rfl) 0 _ rfl),(hcc1 _ (hh.chin 3 rfl) 1 _ rfl),(hcc1 _ (hh.chin 3 rfl) 2 _ rfl),(hcc1 _ (hh.chin 3 rfl) 3 _ rfl),(hcc1 _ (hh.chin 3 rfl) 4 _ rfl),(hh.box 1 rfl rfl)⟩) ?_
     obtain ⟨y11,hy11,heq⟩:=bind_some heq
     refine DrH.does (n:=1) (ls':=[true,true,true,true,true,true,true,true,true,true,true,true,true,false]) 12 (by kernel_rfl) rfl (DoesH.call (d:=102) (g:=31) (args:=#[.agg #[.string x1.Digest,iv x1.Size,iv x1.Used,iv x1.Until,iv x1.Pins],iv a1.At]) (by kernel_rfl) (cache_held_c (a0:=x1) (a1:=a1.At)  hy11)) ?_
     rintro _ _ _ _ ⟨_,rfl,rfl,rfl,rfl⟩
     refine ⟨fun _ w hh=>⟨fun _=>(Pk 5 [0,1,2,3,4]) w hh,fun _=>(Pk 5 [0,1,2,3,4]) w hh,(fun h=>by cases h)⟩,?_⟩
     refine Dk [13] 0 (nb 14 16383) [] [] [0,3,4,103] [(0,pg ga0 0),(3,pg g1 0),(4,pg g2 0),(103,.bool y11)] (Pk 5 [0,1,2,3,4]) (Pk 5 [0,1,2,3,4]) (fun _ _=>trivial) ?_
     obtain rfl:=Option.some.inj heq
     refine Kr [0,3,4,103] [(0,pg ga0 0),(3,pg g1 0),(4,pg g2 0),(103,.bool y11)] ?_
     refine DrH.done (by kernel_rfl) ?_
     exact K35 _ hoa0_2 hoa0_3 hra1_3
theorem cache_do_c {w0:World} {H0:Hp} {F:List Ch} {ga0:Nat} {a0:Cache} {Aa0_2:Option Addr} {na0_2:Nat} {ca0_2:Nat} {cha0_2:Ch} {Aa0_3:Option Addr} {na0_3:Nat} {ca0_3:Nat} {cha0_3:Ch} {a1:CacheEvent} {Aa1_3:Option Addr} {na1_3:Nat} {ca1_3:Nat} {r:CacheAnswer × Int × Cache} (hoa0_2:SlOwn kBlob 29 H0 Aa0_2 ca0_2 a0.Blobs cha0_2) (hna0_2:na0_2=a0.Blobs.length) (hoa0_3:SlOwn kEntry 57 H0 Aa0_3 ca0_3 a0.Entries cha0_3) (hna0_3:na0_3=a0.Entries.length) (hra1_3:Rw Kd.string H0 F Aa1_3 a1.Digests) (hca1_3:na1_3≤ca1_3) (hna1_3:na1_3=a1.Digests.length) (heq:cache_do.f a0 a1=some r):CallsH Tryd.prog 11 #[.pointer (some ⟨ga0,0,none⟩),.agg #[iv a1.Kind,iv a1.At,.string a1.Digest,.slice Aa1_3 na1_3 ca1_3,.string a1.Key,iv a1.Size]] H0 w0 ((some (ga0,.cells #[iv a0.Room,iv a0.Lease,.slice Aa0_2 na0_2 ca0_2,.slice Aa0_3 na0_3 ca0_3] 25 (0,0)))::cha0_2::cha0_3::F) (S11 F H0 ga0 r):=by
 refine calls_of_runH (F:=C11) Tryd.func11 (by kernel_rfl) Tryd.ntmps11 (args:=[.pointer (some ⟨ga0,0,none⟩),.agg #[iv a1.Kind,iv a1.At,.string a1.Digest,.slice Aa1_3 na1_3 ca1_3,.string a1.Key,iv a1.Size]]) (by kernel_rfl) ?_
 subst hna0_2
 subst hna0_3
 subst hna1_3
 unfold cache_do.f at heq
 suffices key:∀ (H:Hp),SlOwn kBlob 29 H Aa0_2 ca0_2 a0.Blobs cha0_2→SlOwn kEntry 57 H Aa0_3 ca0_3 a0.Entries cha0_3→Rw Kd.string H F Aa1_3 a1.Digests→RunH C11 (S11 F H0 ga0 r) H0 w0 [.c []] (argL 0 [.pointer (some ⟨ga0,0,none⟩),.agg #[iv a1.Kind,iv a1.At,.string a1.Digest,.slice Aa1_3 (a1.Digests.length) ca1_3,.string a1.Key,iv a1.Size]]) H ((some (ga0,.cells #[iv a0.Room,iv a0.Lease,.slice Aa0_2 (a0.Blobs.length) ca0_2,.slice Aa0_3 (a0.Entries.length) ca0_3] 25 (0,0)))::cha0_2::cha0_3::F) from key H0 hoa0_2 hoa0_3 hra1_3
 intro H hoa0_2 hoa0_3 hra1_3
 refine Ra 1 [0] [.c [1]] ?_
 refine RgH.does (DoesH.new (d:=3) (v:=fun g=>.pointer (some ⟨g,0,none⟩)) (o:=fun g=>.cells #[iv a1.Kind,iv a1.At,.string a1.Digest,.slice Aa1_3 a1.Digests.length ca1_3,.string a1.Key,iv a1.Size] 40 (0,0)) (fun g=>by kernel_rfl)) ?_
 rintro _ _ _ _ ⟨g1,rfl,rfl,rfl⟩
 refine RgH.does (DoesH.new (d:=4) (v:=fun g=>.pointer (some ⟨g,0,none⟩)) (o:=fun g=>.cells #[.bool false,.slice none 0 0,.slice none 0 0] 36 (0,0)) (fun g=>by kernel_rfl)) ?_
 rintro _ _ _ _ ⟨g2,rfl,rfl,rfl⟩
 refine Rd 3 [0,3,4] [(0,pg ga0 0),(3,pg g1 0),(4,pg g2 0)]<|Ra 2 [1,0,0] [.c [1,0,1],.c [1,1]]<|Rv 1 [0,3,4,10] [iv a1.Kind,iv a1.At,.string a1.Digest,.slice Aa1_3 a1.Digests.length ca1_3,.string a1.Key,iv a1.Size] [.load ⟨g1,0,none⟩ (iv a1.Kind),.load ⟨g1,1,none⟩ (iv a1.At),.load ⟨g1,2,none⟩ (.string a1.Digest),.load ⟨g1,3,none⟩ (.slice Aa1_3 a1.Digests.length ca1_3),.load ⟨g1,4,none⟩ (.string a1.Key),.load ⟨g1,5,none⟩ (iv a1.Size)] [(0,pg ga0 0),(3,pg g1 0),(4,pg g2 0),(10,.agg #[iv a1.Kind,iv a1.At,.string a1.Digest,.slice Aa1_3 a1.Digests.length ca1_3,.string a1.Key,iv a1.Size])] (fun w hh=>⟨(hh.box 1 rfl rfl),(hh.box 1 rfl rfl),(hh.box 1 rfl rfl),(hh.box 1 rfl rfl),(hh.box 1 rfl rfl),(hh.box 1 rfl rfl)⟩) ?_
 obtain ⟨y1,hy1,heq⟩:=bind_some heq
 refine RgH.does (DoesH.call (d:=11) (g:=22) (args:=#[.agg #[iv a1.Kind,iv a1.At,.string a1.Digest,.slice Aa1_3 a1.Digests.length ca1_3,.string a1.Key,iv a1.Size]]) (by kernel_rfl) (cache_checkEvent_c (a0:=a1) (hra1_3.wk (fun _ h=>(.tail _ (.tail _ (.tail _ (.tail _ (.tail _ h))))))) hca1_3 rfl hy1)) ?_
 rintro _ _ _ _ ⟨_,rfl,rfl,rfl,rfl⟩
 refine Rd 3 [0,3,4,6] [(0,pg ga0 0),(3,pg g1 0),(4,pg g2 0),(6,iv y1)]<|Ra 1 [1,0,1,0] [.c [1,0,1,1],.c [1,1]]<|Rd 2 [0,3,4,6,13] [(0,pg ga0 0),(3,pg g1 0),(4,pg g2 0),(6,iv y1),(13,.bool (y1 != 0))] ?_
 rcases bool_cases (y1 != 0) with hb1 | hb1
 ·replace heq:=bif_true hb1 heq
  refine Ct (y1 != 0) hb1<|Ra 1 [1,0,1,1,0,0] [.c [1,0,1,1,0,1],.c [1,1]]<|Rk 2 [0,4,14,15] [(0,pg ga0 0),(4,pg g2 0),(14,.agg #[.bool false,.slice none 0 0,.slice none 0 0]),(15,iv y1)] ?_
  refine RgH.does (DoesH.store (k:=0) (g:=g2) (off:=0) (v:=.agg #[.bool false,.slice none 0 0,.slice none 0 0]) (cells':=#[.bool false,.slice none 0 0,.slice none 0 0]) (by kernel_rfl) rfl (by kernel_rfl) (by kernel_rfl)) ?_
  rintro _ _ _ _ ⟨rfl,rfl,rfl⟩
  refine Rd 4 [0,4,5] [(0,pg ga0 0),(4,pg g2 0),(5,iv y1)]<|RunH.nilc ?_
  have ho1:SlOwn Kd.string 9 H none 0 ([]:List ByteArray) none:=SlOwn.nil
  refine RunH.nilc ?_
  have ho2:SlOwn Kd.string 9 H none 0 ([]:List ByteArray) none:=SlOwn.nil
  obtain rfl:=Option.some.inj heq
  refine RunH.pick 7 [2,1,0,4,5,6] (cs':=(some (g2,.cells #[.bool false,.slice none 0 0,.slice none 0 0] 36 (0,0)))::none::none::(some (ga0,.cells #[iv a0.Room,iv a0.Lease,.slice Aa0_2 a0.Blobs.length ca0_2,.slice Aa0_3 a0.Entries.length ca0_3] 25 (0,0)))::cha0_2::cha0_3::F) (by kernel_rfl) rfl ?_
  exact RunH.doneM' 1 (vs:=[.agg #[.bool false,.slice none 0 0,.slice none 0 0],iv y1]) (v:=.tuple #[.agg #[.bool false,.slice none 0 0,.slice none 0 0],iv y1]) (by kernel_rfl) Tryd.func11 (fun w hh=>show ResAll _ _ _ [.cell 4 36,.tmp 5] _ from ⟨⟨⟨g2,0,none⟩,by kernel_rfl,trS_run _ (vs:=[.bool false,.slice none 0 0,.slice none 0 0]) (r:=[]) (es:=[.load ⟨g2,0,none⟩ (.bool false),.load ⟨g2,1,none⟩ (.slice none 0 0),.load ⟨g2,2,none⟩ (.slice none 0 0)]) (by kernel_rfl) ⟨(hh.box 0 rfl rfl),(hh.box 0 rfl rfl),(hh.box 0 rfl rfl)⟩⟩,(show lk _ _=some _ by kernel_rfl),trivial⟩) rfl (cs':=none::none::(some (ga0,.cells #[iv a0.Room,iv a0.Lease,.slice Aa0_2 a0.Blobs.length ca0_2,.slice Aa0_3 a0.Entries.length ca0_3] 25 (0,0)))::cha0_2::cha0_3::F) rfl ⟨none,0,none,none,0,none,Aa0_2,ca0_2,cha0_2,Aa0_3,ca0_3,cha0_3,rfl,rfl,ho1,ho2,hoa0_2,hoa0_3⟩
 ·replace heq:=bif_false hb1 heq
  refine Cf (y1 != 0) hb1<|Ad 3 [.c [1,1,0,0],.c [1,1,0,1],.c [1,1,1]]<|Kp [0,3,4] [(0,pg ga0 0),(3,pg g1 0),(4,pg g2 0)] ?_
  refine RunH.draw (fun w=>Heap H w0 w ((some (g2,.cells #[.bool false,.slice none 0 0,.slice none 0 0] 36 (0,0)))::(some (g1,.cells #[iv a1.Kind,iv a1.At,.string a1.Digest,.slice Aa1_3 a1.Digests.length ca1_3,.string a1.Key,iv a1.Size] 40 (0,0)))::(some (ga0,.cells #[iv a0.Room,iv a0.Lease,.slice Aa0_2 a0.Blobs.length ca0_2,.slice Aa0_3 a0.Entries.length ca0_3] 25 (0,0)))::cha0_2::cha0_3::F)) (fun w=>Heap H w0 w ((some (g2,.cells #[.bool false,.slice none 0 0,.slice none 0 0] 36 (0,0)))::(some (g1,.cells #[iv a1.Kind,iv a1.At,.string a1.Digest,.slice Aa1_3 a1.Digests.length ca1_3,.string a1.Key,iv a1.Size] 40 (0,0)))::(some (ga0,.cells #[iv a0.Room,iv a0.Lease,.slice Aa0_2 a0.Blobs.length ca0_2,.slice Aa0_3 a0.Entries.length ca0_3] 25 (0,0)))::cha0_2::cha0_3::F)) [3,3,3,3,3,0,3] (n:=7) (ls:=[false,false,false,false,false,false,false]) (by kernel_rfl) (by kernel_rfl) (by kernel_rfl) rfl ?_
  refine Dk [0,1,2,3,4] 2 (nb 7 31) [iv a1.At,iv a0.Room,iv a0.Lease,.slice Aa0_2 a0.Blobs.length ca0_2,.slice Aa0_3 a0.Entries.length ca0_3] [.load ⟨g1,1,none⟩ (iv a1.At),.load ⟨ga0,0,none⟩ (iv a0.Room),.load ⟨ga0,1,none⟩ (iv a0.Lease),.load ⟨ga0,2,none⟩ (.slice Aa0_2 a0.Blobs.length ca0_2),.load ⟨ga0,3,none⟩ (.slice Aa0_3 a0.Entries.length ca0_3)] [0,3,4,17,20] [(0,pg ga0 0),(3,pg g1 0),(4,pg g2 0),(17,iv a1.At),(20,.agg #[iv a0.Room,iv a0.Lease,.slice Aa0_2 a0.Blobs.length ca0_2,.slice Aa0_3 a0.Entries.length ca0_3])] (Pk 5 [0,1,2,3,4]) (Pk 5 [0,1,2,3,4]) (fun w hh=>⟨(hh.box 1 rfl rfl),(hh.box 2 rfl rfl),(hh.box 2 rfl rfl),(hh.box 2 rfl rfl),(hh.box 2 rfl rfl)⟩) ?_
  obtain ⟨y2,hy2,heq⟩:=bind_some heq
  refine DrH.does (n:=1) (ls':=[true,true,true,true,true,true,false]) 5 (by kernel_rfl) rfl (DoesH.call (d:=21) (g:=23) (args:=#[.agg #[iv a0.Room,iv a0.Lease,.slice Aa0_2 a0.Blobs.length ca0_2,.slice Aa0_3 a0.Entries.length ca0_3]]) (by kernel_rfl) (cache_newest_c (a0:=(⟨a0.Room,a0.Lease,a0.Blobs,a0.Entries⟩:Cache)) (hoa0_2.rw (.tail _ (.tail _ (.tail _ (.head _))))) hoa0_2.cap rfl (hoa0_3.rw (.tail _ (.tail _ (.tail _ (.tail _ (.head _)))))) hoa0_3.cap rfl hy2)) ?_
  rintro _ _ _ _ ⟨_,rfl,rfl,rfl,rfl⟩
  refine ⟨fun _ w hh=>⟨fun _=>(Pk 5 [0,1,2,3,4]) w hh,fun _=>(Pk 5 [0,1,2,3,4]) w hh,(fun h=>by cases h)⟩,?_⟩
  refine Dk [6] 0 (nb 7 127) [] [] [0,3,4,22] [(0,pg ga0 0),(3,pg g1 0),(4,pg g2 0),(22,.bool (decide (a1.At<y2)))] (Pk 5 [0,1,2,3,4]) (Pk 5 [0,1,2,3,4]) (fun _ _=>trivial) ?_
  refine DrH.done (by kernel_rfl) ?_
  rcases bool_cases (decide (a1.At<y2)) with hb2 | hb2
  ·replace heq:=bif_true hb2 heq
   refine Ct (decide (a1.At<y2)) hb2<|Ra 1 [1,1,0,1,0,0] [.c [1,1,0,1,0,1],.c [1,1,1]]<|Rk 1 [0,4,23] [(0,pg ga0 0),(4,pg g2 0),(23,.agg #[.bool false,.slice none 0 0,.slice none 0 0])] ?_
   refine RgH.does (DoesH.store (k:=0) (g:=g2) (off:=0) (v:=.agg #[.bool false,.slice none 0 0,.slice none 0 0]) (cells':=#[.bool false,.slice none 0 0,.slice none 0 0]) (by kernel_rfl) rfl (by kernel_rfl) (by kernel_rfl)) ?_
   rintro _ _ _ _ ⟨rfl,rfl,rfl⟩
   refine Rd 3 [0,4,5] [(0,pg ga0 0),(4,pg g2 0),(5,iv 11)]<|RunH.nilc ?_
   have ho3:SlOwn Kd.string 9 H none 0 ([]:List ByteArray) none:=SlOwn.nil
   refine RunH.nilc ?_
   have ho4:SlOwn Kd.string 9 H none 0 ([]:List ByteArray) none:=SlOwn.nil
   obtain rfl:=Option.some.inj heq
   refine RunH.pick 7 [2,1,0,4,5,6] (cs':=(some (g2,.cells #[.bool false,.slice none 0 0,.slice none 0 0] 36 (0,0)))::none::none::(some (ga0,.cells #[iv a0.Room,iv a0.Lease,.slice Aa0_2 a0.Blobs.length ca0_2,.slice Aa0_3 a0.Entries.length ca0_3] 25 (0,0)))::cha0_2::cha0_3::F) (by kernel_rfl) rfl ?_
   exact RunH.doneM' 1 (vs:=[.agg #[.bool false,.slice none 0 0,.slice none 0 0],iv 11]) (v:=.tuple #[.agg #[.bool false,.slice none 0 0,.slice none 0 0],iv 11]) (by kernel_rfl) Tryd.func11 (fun w hh=>show ResAll _ _ _ [.cell 4 36,.tmp 5] _ from ⟨⟨⟨g2,0,none⟩,by kernel_rfl,trS_run _ (vs:=[.bool false,.slice none 0 0,.slice none 0 0]) (r:=[]) (es:=[.load ⟨g2,0,none⟩ (.bool false),.load ⟨g2,1,none⟩ (.slice none 0 0),.load ⟨g2,2,none⟩ (.slice none 0 0)]) (by kernel_rfl) ⟨(hh.box 0 rfl rfl),(hh.box 0 rfl rfl),(hh.box 0 rfl rfl)⟩⟩,(show lk _ _=some _ by kernel_rfl),trivial⟩) rfl (cs':=none::none::(some (ga0,.cells #[iv a0.Room,iv a0.Lease,.slice Aa0_2 a0.Blobs.length ca0_2,.slice Aa0_3 a0.Entries.length ca0_3] 25 (0,0)))::cha0_2::cha0_3::F) rfl ⟨none,0,none,none,0,none,Aa0_2,ca0_2,cha0_2,Aa0_3,ca0_3,cha0_3,rfl,rfl,ho3,ho4,hoa0_2,hoa0_3⟩
  ·replace heq:=bif_false hb2 heq
   refine Cf (decide (a1.At<y2)) hb2<|Ad 2 [.c [1,1,1,0],.c [1,1,1,1]]<|Kp [0,3,4] [(0,pg ga0 0),(3,pg g1 0),(4,pg g2 0)] ?_
   refine RunH.draw (fun w=>Heap H w0 w ((some (g2,.cells #[.bool false,.slice none 0 0,.slice none 0 0] 36 (0,0)))::(some (g1,.cells #[iv a1.Kind,iv a1.At,.string a1.Digest,.slice Aa1_3 a1.Digests.length ca1_3,.string a1.Key,iv a1.Size] 40 (0,0)))::(some (ga0,.cells #[iv a0.Room,iv a0.Lease,.slice Aa0_2 a0.Blobs.length ca0_2,.slice Aa0_3 a0.Entries.length ca0_3] 25 (0,0)))::cha0_2::cha0_3::F)) (fun w=>Heap H w0 w ((some (g2,.cells #[.bool false,.slice none 0 0,.slice none 0 0] 36 (0,0)))::(some (g1,.cells #[iv a1.Kind,iv a1.At,.string a1.Digest,.slice Aa1_3 a1.Digests.length ca1_3,.string a1.Key,iv a1.Size] 40 (0,0)))::(some (ga0,.cells #[iv a0.Room,iv a0.Lease,.slice Aa0_2 a0.Blobs.length ca0_2,.slice Aa0_3 a0.Entries.length ca0_3] 25 (0,0)))::cha0_2::cha0_3::F)) [3,3,3,3,3,0,3,3,3,3,3] (n:=11) (ls:=[false,false,false,false,false,false,false,false,false,false,false]) (by kernel_rfl) (by kernel_rfl) (by kernel_rfl) rfl ?_
   refine Dk [0,1,2,3,4] 6 (nb 11 31) [iv a0.Room,iv a0.Lease,.slice Aa0_2 a0.Blobs.length ca0_2,.slice Aa0_3 a0.Entries.length ca0_3,.string a1.Digest] [.load ⟨ga0,0,none⟩ (iv a0.Room),.load ⟨ga0,1,none⟩ (iv a0.Lease),.load ⟨ga0,2,none⟩ (.slice Aa0_2 a0.Blobs.length ca0_2),.load ⟨ga0,3,none⟩ (.slice Aa0_3 a0.Entries.length ca0_3),.load ⟨g1,2,none⟩ (.string a1.Digest)] [0,3,4,27,29] [(0,pg ga0 0),(3,pg g1 0),(4,pg g2 0),(27,.agg #[iv a0.Room,iv a0.Lease,.slice Aa0_2 a0.Blobs.length ca0_2,.slice Aa0_3 a0.Entries.length ca0_3]),(29,.string a1.Digest)] (Pk 5 [0,1,2,3,4]) (Pk 5 [0,1,2,3,4]) (fun w hh=>⟨(hh.box 2 rfl rfl),(hh.box 2 rfl rfl),(hh.box 2 rfl rfl),(hh.box 2 rfl rfl),(hh.box 1 rfl rfl)⟩) ?_
   obtain ⟨y3,hy3,heq⟩:=bind_some heq
   refine DrH.does (n:=5) (ls':=[true,true,true,true,true,true,false,false,false,false,false]) 5 (by kernel_rfl) rfl (DoesH.call (d:=30) (g:=24) (args:=#[.agg #[iv a0.Room,iv a0.Lease,.slice Aa0_2 a0.Blobs.length ca0_2,.slice Aa0_3 a0.Entries.length ca0_3],.string a1.Digest]) (by kernel_rfl) (cache_find_c (a0:=(⟨a0.Room,a0.Lease,a0.Blobs,a0.Entries⟩:Cache)) (a1:=a1.Digest) (hoa0_2.rw (.tail _ (.tail _ (.tail _ (.head _))))) hoa0_2.cap rfl (hoa0_3.rw (.tail _ (.tail _ (.tail _ (.tail _ (.head _)))))) hoa0_3.cap rfl hy3)) ?_
   rintro _ _ _ _ ⟨_,rfl,rfl,rfl,rfl⟩
   refine ⟨fun _ w hh=>⟨fun _=>(Pk 5 [0,1,2,3,4]) w hh,fun _=>(Pk 5 [0,1,2,3,4]) w hh,(fun h=>by cases h)⟩,?_⟩
   refine Dk [6,7,8,9,10] 0 (nb 11 2047) [] [] [0,3,4,7,8] [(0,pg ga0 0),(3,pg g1 0),(4,pg g2 0),(7,iv y3.1),(8,.bool y3.2)] (Pk 5 [0,1,2,3,4]) (Pk 5 [0,1,2,3,4]) (fun _ _=>trivial) ?_
   refine DrH.done (by kernel_rfl) ?_
   refine Ra 2 [1,1,1,1,0,0] [.c [1,1,1,1,0,1],.c [1,1,1,1,1]]<|Rw' 2 [0,3,4,7,8,34] [iv a1.Kind] [.load ⟨g1,0,none⟩ (iv a1.Kind)] [(0,pg ga0 0),(3,pg g1 0),(4,pg g2 0),(7,iv y3.1),(8,.bool y3.2),(34,iv a1.Kind)] (fun w hh=>(hh.box 1 rfl rfl))<|Ra 2 [1,1,1,1,0,1,0,0] [.c [1,1,1,1,0,1,0,1],.b 0,.c [1,1,1,1,1]]<|Rd 2 [0,3,4,7,8,34,35] [(0,pg ga0 0),(3,pg g1 0),(4,pg g2 0),(7,iv y3.1),(8,.bool y3.2),(34,iv a1.Kind),(35,.bool (a1.Kind == 1))] ?_
   rcases bool_cases (a1.Kind == 1) with hb3 | hb3
   ·replace heq:=bif_true hb3 heq
    refine Ct (a1.Kind == 1) hb3<|Ra 1 [1,1,1,1,0,1,0,1,0,0] [.c [1,1,1,1,0,1,0,1,0,1],.b 0,.c [1,1,1,1,1]]<|Rv 2 [0,4,37,38] [iv a1.Kind,iv a1.At,.string a1.Digest,.slice Aa1_3 a1.Digests.length ca1_3,.string a1.Key,iv a1.Size] [.load ⟨g1,0,none⟩ (iv a1.Kind),.load ⟨g1,1,none⟩ (iv a1.At),.load ⟨g1,2,none⟩ (.string a1.Digest),.load ⟨g1,3,none⟩ (.slice Aa1_3 a1.Digests.length ca1_3),.load ⟨g1,4,none⟩ (.string a1.Key),.load ⟨g1,5,none⟩ (iv a1.Size)] [(0,pg ga0 0),(4,pg g2 0),(37,pg ga0 0),(38,.agg #[iv a1.Kind,iv a1.At,.string a1.Digest,.slice Aa1_3 a1.Digests.length ca1_3,.string a1.Key,iv a1.Size])] (fun w hh=>⟨(hh.box 1 rfl rfl),(hh.box 1 rfl rfl),(hh.box 1 rfl rfl),(hh.box 1 rfl rfl),(hh.box 1 rfl rfl),(hh.box 1 rfl rfl)⟩) ?_
    refine RgH.pick 5 [2,3,4,0,1] (cs':=(some (ga0,.cells #[iv a0.Room,iv a0.Lease,.slice Aa0_2 a0.Blobs.length ca0_2,.slice Aa0_3 a0.Entries.length ca0_3] 25 (0,0)))::cha0_2::cha0_3::(some (g2,.cells #[.bool false,.slice none 0 0,.slice none 0 0] 36 (0,0)))::(some (g1,.cells #[iv a1.Kind,iv a1.At,.string a1.Digest,.slice Aa1_3 a1.Digests.length ca1_3,.string a1.Key,iv a1.Size] 40 (0,0)))::F) (by kernel_rfl) rfl ?_
    obtain ⟨y4,hy4,heq⟩:=bind_some heq
    refine RgH.does (DoesH.call (d:=39) (g:=25) (args:=#[.pointer (some ⟨ga0,0,none⟩),.agg #[iv a1.Kind,iv a1.At,.string a1.Digest,.slice Aa1_3 a1.Digests.length ca1_3,.string a1.Key,iv a1.Size]]) (by kernel_rfl) (cache_put_2_c (a0:=(⟨a0.Room,a0.Lease,a0.Blobs,a0.Entries⟩:Cache)) (a1:=a1) hoa0_2 rfl hoa0_3 rfl (hra1_3.wk (fun _ h=>(.tail _ (.tail _ h)))) hca1_3 rfl hy4)) ?_
    rintro _ _ _ _ ⟨_,rfl,A1,c1,ch1,A2,c2,ch2,A3,c3,ch3,A4,c4,ch4,rfl,rfl,rfl,ho5,ho6,ho7,ho8⟩
    refine Rk 5 [0,4,40,41] [(0,pg ga0 0),(4,pg g2 0),(40,.agg #[.bool y4.1.Done,.slice A1 y4.1.Missing.length c1,.slice A2 y4.1.Gone.length c2]),(41,iv y4.2.1)] ?_
    refine RgH.does (DoesH.store (k:=5) (g:=g2) (off:=0) (v:=.agg #[.bool y4.1.Done,.slice A1 y4.1.Missing.length c1,.slice A2 y4.1.Gone.length c2]) (cells':=#[.bool y4.1.Done,.slice A1 y4.1.Missing.length c1,.slice A2 y4.1.Gone.length c2]) (by kernel_rfl) rfl (by kernel_rfl) (by kernel_rfl)) ?_
    rintro _ _ _ _ ⟨rfl,rfl,rfl⟩
    refine Rd 7 [0,4,5] [(0,pg ga0 0),(4,pg g2 0),(5,iv y4.2.1)] ?_
    obtain rfl:=Option.some.inj heq
    refine RunH.pick 7 [5,0,1,2,3,4] (cs':=(some (g2,.cells #[.bool y4.1.Done,.slice A1 y4.1.Missing.length c1,.slice A2 y4.1.Gone.length c2] 36 (0,0)))::ch1::ch2::(some (ga0,.cells #[iv y4.2.2.Room,iv y4.2.2.Lease,.slice A3 y4.2.2.Blobs.length c3,.slice A4 y4.2.2.Entries.length c4] 25 (0,0)))::ch3::ch4::F) (by kernel_rfl) rfl ?_
    exact RunH.doneM' 1 (vs:=[.agg #[.bool y4.1.Done,.slice A1 y4.1.Missing.length c1,.slice A2 y4.1.Gone.length c2],iv y4.2.1]) (v:=.tuple #[.agg #[.bool y4.1.Done,.slice A1 y4.1.Missing.length c1,.slice A2 y4.1.Gone.length c2],iv y4.2.1]) (by kernel_rfl) Tryd.func11 (fun w hh=>show ResAll _ _ _ [.cell 4 36,.tmp 5] _ from ⟨⟨⟨g2,0,none⟩,by kernel_rfl,trS_run _ (vs:=[.bool y4.1.Done,.slice A1 y4.1.Missing.length c1,.slice A2 y4.1.Gone.length c2]) (r:=[]) (es:=[.load ⟨g2,0,none⟩ (.bool y4.1.Done),.load ⟨g2,1,none⟩ (.slice A1 y4.1.Missing.length c1),.load ⟨g2,2,none⟩ (.slice A2 y4.1.Gone.length c2)]) (by kernel_rfl) ⟨(hh.box 0 rfl rfl),(hh.box 0 rfl rfl),(hh.box 0 rfl rfl)⟩⟩,(show lk _ _=some _ by kernel_rfl),trivial⟩) rfl (cs':=ch1::ch2::(some (ga0,.cells #[iv y4.2.2.Room,iv y4.2.2.Lease,.slice A3 y4.2.2.Blobs.length c3,.slice A4 y4.2.2.Entries.length c4] 25 (0,0)))::ch3::ch4::F) rfl ⟨A1,c1,ch1,A2,c2,ch2,A3,c3,ch3,A4,c4,ch4,rfl,rfl,ho5,ho6,ho7,ho8⟩
   ·replace heq:=bif_false hb3 heq
    refine Cf (a1.Kind == 1) hb3<|Ra 1 [1,1,1,1,0,1,0,1,1,0] [.c [1,1,1,1,0,1,0,1,1,1],.b 0,.c [1,1,1,1,1]]<|Rd 2 [0,3,4,7,8,34,42] [(0,pg ga0 0),(3,pg g1 0),(4,pg g2 0),(7,iv y3.1),(8,.bool y3.2),(34,iv a1.Kind),(42,.bool (a1.Kind == 2))] ?_
    rcases bool_cases (a1.Kind == 2) with hb4 | hb4
    ·replace heq:=bif_true hb4 heq
     refine Ct (a1.Kind == 2) hb4<|Ra 1 [1,1,1,1,0,1,0,1,1,1,0,0] [.c [1,1,1,1,0,1,0,1,1,1,0,1],.b 0,.c [1,1,1,1,1]]<|Rv 3 [0,3,4,8,44,46] [.string a1.Digest] [.load ⟨g1,2,none⟩ (.string a1.Digest)] [(0,pg ga0 0),(3,pg g1 0),(4,pg g2 0),(8,.bool y3.2),(44,pg ga0 0),(46,.string a1.Digest)] (fun w hh=>(hh.box 1 rfl rfl)) ?_
     refine RgH.does (DoesH.new (d:=47) (v:=fun g=>.slice (some ⟨g,0,none⟩) 1 1) (o:=fun g=>.cells #[.string a1.Digest] 9 (0,0)) (fun g=>by kernel_rfl)) ?_
     rintro _ _ _ _ ⟨g3,rfl,rfl,rfl⟩
     have ho9:SlOwn Kd.string 9 H (some ⟨g3,0,none⟩) 1 ([a1.Digest]:List ByteArray) (some (g3,.cells #[.string a1.Digest] 9 (0,0))):=SlOwn.lit (xs:=([a1.Digest]:List ByteArray)) (by kernel_rfl) (Nat.le_of_ble_eq_true (by kernel_rfl)) (Kd.Rep.scalars rfl)
     refine Rv 6 [0,4,8,44,47,49] [iv a1.At] [.load ⟨g1,1,none⟩ (iv a1.At)] [(0,pg ga0 0),(4,pg g2 0),(8,.bool y3.2),(44,pg ga0 0),(47,.slice (some ⟨g3,0,none⟩) 1 1),(49,iv a1.At)] (fun w hh=>(hh.box 2 rfl rfl)) ?_
     refine RgH.pick 6 [3,4,5,0,1,2] (cs':=(some (ga0,.cells #[iv a0.Room,iv a0.Lease,.slice Aa0_2 a0.Blobs.length ca0_2,.slice Aa0_3 a0.Entries.length ca0_3] 25 (0,0)))::cha0_2::cha0_3::(some (g3,.cells #[.string a1.Digest] 9 (0,0)))::(some (g2,.cells #[.bool false,.slice none 0 0,.slice none 0 0] 36 (0,0)))::(some (g1,.cells #[iv a1.Kind,iv a1.At,.string a1.Digest,.slice Aa1_3 a1.Digests.length ca1_3,.string a1.Key,iv a1.Size] 40 (0,0)))::F) (by kernel_rfl) rfl ?_
     obtain ⟨y5,hy5,heq⟩:=bind_some heq
     refine RgH.does (DoesH.call (d:=50) (g:=26) (args:=#[.pointer (some ⟨ga0,0,none⟩),.slice (some ⟨g3,0,none⟩) 1 1,iv a1.At,.bool true,.bool true]) (by kernel_rfl) (cache_touch_3_c (a0:=(⟨a0.Room,a0.Lease,a0.Blobs,a0.Entries⟩:Cache)) (a1:=([a1.Digest]:List ByteArray)) (a2:=a1.At) (a3:=true) (a4:=true) hoa0_2 rfl hoa0_3 rfl (ho9.rw (.head _)) ho9.cap rfl hy5)) ?_
     rintro _ _ _ _ ⟨_,rfl,A5,c5,ch5,A6,c6,ch6,rfl,rfl,rfl,ho10,ho11⟩
     refine Dn<|Ra 1 [1,1,1,1,0,1,0,1,1,1,0,1,0] [.c [1,1,1,1,0,1,0,1,1,1,0,1,1],.b 0,.c [1,1,1,1,1]]<|Rk 2 [0,4,52] [(0,pg ga0 0),(4,pg g2 0),(52,.agg #[.bool y3.2,.slice none 0 0,.slice none 0 0])] ?_
     refine RgH.does (DoesH.store (k:=4) (g:=g2) (off:=0) (v:=.agg #[.bool y3.2,.slice none 0 0,.slice none 0 0]) (cells':=#[.bool y3.2,.slice none 0 0,.slice none 0 0]) (by kernel_rfl) rfl (by kernel_rfl) (by kernel_rfl)) ?_
     rintro _ _ _ _ ⟨rfl,rfl,rfl⟩
     refine Rd 4 [0,4,5] [(0,pg ga0 0),(4,pg g2 0),(5,iv 0)]<|RunH.nilc ?_
     have ho12:SlOwn Kd.string 9 H none 0 ([]:List ByteArray) none:=SlOwn.nil
     refine RunH.nilc ?_
     have ho13:SlOwn Kd.string 9 H none 0 ([]:List ByteArray) none:=SlOwn.nil
     obtain rfl:=Option.some.inj heq
     refine RunH.pick 8 [6,1,0,2,3,4] (cs':=(some (g2,.cells #[.bool y3.2,.slice none 0 0,.slice none 0 0] 36 (0,0)))::none::none::(some (ga0,.cells #[iv y5.Room,iv y5.Lease,.slice A5 y5.Blobs.length c5,.slice A6 y5.Entries.length c6] 25 (0,0)))::ch5::ch6::F) (by kernel_rfl) rfl ?_
     exact RunH.doneM' 1 (vs:=[.agg #[.bool y3.2,.slice none 0 0,.slice none 0 0],iv 0]) (v:=.tuple #[.agg #[.bool y3.2,.slice none 0 0,.slice none 0 0],iv 0]) (by kernel_rfl) Tryd.func11 (fun w hh=>show ResAll _ _ _ [.cell 4 36,.tmp 5] _ from ⟨⟨⟨g2,0,none⟩,by kernel_rfl,trS_run _ (vs:=[.bool y3.2,.slice none 0 0,.slice none 0 0]) (r:=[]) (es:=[.load ⟨g2,0,none⟩ (.bool y3.2),.load ⟨g2,1,none⟩ (.slice none 0 0),.load ⟨g2,2,none⟩ (.slice none 0 0)]) (by kernel_rfl) ⟨(hh.box 0 rfl rfl),(hh.box 0 rfl rfl),(hh.box 0 rfl rfl)⟩⟩,(show lk _ _=some _ by kernel_rfl),trivial⟩) rfl (cs':=none::none::(some (ga0,.cells #[iv y5.Room,iv y5.Lease,.slice A5 y5.Blobs.length c5,.slice A6 y5.Entries.length c6] 25 (0,0)))::ch5::ch6::F) rfl ⟨none,0,none,none,0,none,A5,c5,ch5,A6,c6,ch6,rfl,rfl,ho12,ho13,ho10,ho11⟩
    ·replace heq:=bif_false hb4 heq
     refine Cf (a1.Kind == 2) hb4<|Ra 1 [1,1,1,1,0,1,0,1,1,1,1,0] [.c [1,1,1,1,0,1,0,1,1,1,1,1],.b 0,.c [1,1,1,1,1]]<|Rd 2 [0,3,4,7,8,34,53] [(0,pg ga0 0),(3,pg g1 0),(4,pg g2 0),(7,iv y3.1),(8,.bool y3.2),(34,iv a1.Kind),(53,.bool (a1.Kind == 3))] ?_
     rcases bool_cases (a1.Kind == 3) with hb5 | hb5
     ·replace heq:=bif_true hb5 heq
      refine Ct (a1.Kind == 3) hb5<|Ra 1 [1,1,1,1,0,1,0,1,1,1,1,1,0,0] [.c [1,1,1,1,0,1,0,1,1,1,1,1,0,1],.b 0,.c [1,1,1,1,1]]<|Rv 5 [0,3,4,55,57,59] [.slice Aa1_3 a1.Digests.length ca1_3,iv a1.At] [.load ⟨g1,3,none⟩ (.slice Aa1_3 a1.Digests.length ca1_3),.load ⟨g1,1,none⟩ (iv a1.At)] [(0,pg ga0 0),(3,pg g1 0),(4,pg g2 0),(55,pg ga0 0),(57,.slice Aa1_3 a1.Digests.length ca1_3),(59,iv a1.At)] (fun w hh=>⟨(hh.box 1 rfl rfl),(hh.box 1 rfl rfl)⟩) ?_
      refine RgH.pick 5 [2,3,4,0,1] (cs':=(some (ga0,.cells #[iv a0.Room,iv a0.Lease,.slice Aa0_2 a0.Blobs.length ca0_2,.slice Aa0_3 a0.Entries.length ca0_3] 25 (0,0)))::cha0_2::cha0_3::(some (g2,.cells #[.bool false,.slice none 0 0,.slice none 0 0] 36 (0,0)))::(some (g1,.cells #[iv a1.Kind,iv a1.At,.string a1.Digest,.slice Aa1_3 a1.Digests.length ca1_3,.string a1.Key,iv a1.Size] 40 (0,0)))::F) (by kernel_rfl) rfl ?_
      obtain ⟨y6,hy6,heq⟩:=bind_some heq
      refine RgH.does (DoesH.call (d:=60) (g:=26) (args:=#[.pointer (some ⟨ga0,0,none⟩),.slice Aa1_3 a1.Digests.length ca1_3,iv a1.At,.bool false,.bool true]) (by kernel_rfl) (cache_touch_3_c (a0:=(⟨a0.Room,a0.Lease,a0.Blobs,a0.Entries⟩:Cache)) (a1:=a1.Digests) (a2:=a1.At) (a3:=false) (a4:=true) hoa0_2 rfl hoa0_3 rfl (hra1_3.wk (fun _ h=>(.tail _ (.tail _ h)))) hca1_3 rfl hy6)) ?_
      rintro _ _ _ _ ⟨_,rfl,A7,c7,ch7,A8,c8,ch8,rfl,rfl,rfl,ho14,ho15⟩
      refine Dn<|Ad 1 [.c [1,1,1,1,0,1,0,1,1,1,1,1,0,1,0],.c [1,1,1,1,0,1,0,1,1,1,1,1,0,1,1],.b 0,.c [1,1,1,1,1]]<|Kp [0,3,4] [(0,pg ga0 0),(3,pg g1 0),(4,pg g2 0)] ?_
      refine RunH.draw (fun w=>Heap H w0 w ((some (ga0,.cells #[iv y6.Room,iv y6.Lease,.slice A7 y6.Blobs.length c7,.slice A8 y6.Entries.length c8] 25 (0,0)))::ch7::ch8::(some (g2,.cells #[.bool false,.slice none 0 0,.slice none 0 0] 36 (0,0)))::(some (g1,.cells #[iv a1.Kind,iv a1.At,.string a1.Digest,.slice Aa1_3 a1.Digests.length ca1_3,.string a1.Key,iv a1.Size] 40 (0,0)))::F)) (fun w=>Heap H w0 w ((some (ga0,.cells #[iv y6.Room,iv y6.Lease,.slice A7 y6.Blobs.length c7,.slice A8 y6.Entries.length c8] 25 (0,0)))::ch7::ch8::(some (g2,.cells #[.bool false,.slice none 0 0,.slice none 0 0] 36 (0,0)))::(some (g1,.cells #[iv a1.Kind,iv a1.At,.string a1.Digest,.slice Aa1_3 a1.Digests.length ca1_3,.string a1.Key,iv a1.Size] 40 (0,0)))::F)) [3,3,3,3,3,0,3] (n:=7) (ls:=[false,false,false,false,false,false,false]) (by kernel_rfl) (by kernel_rfl) (by kernel_rfl) rfl ?_
      refine Dk [0,1,2,3,4] 2 (nb 7 31) [iv y6.Room,iv y6.Lease,.slice A7 y6.Blobs.length c7,.slice A8 y6.Entries.length c8,.slice Aa1_3 a1.Digests.length ca1_3] [.load ⟨ga0,0,none⟩ (iv y6.Room),.load ⟨ga0,1,none⟩ (iv y6.Lease),.load ⟨ga0,2,none⟩ (.slice A7 y6.Blobs.length c7),.load ⟨ga0,3,none⟩ (.slice A8 y6.Entries.length c8),.load ⟨g1,3,none⟩ (.slice Aa1_3 a1.Digests.length ca1_3)] [0,4,63,65] [(0,pg ga0 0),(4,pg g2 0),(63,.agg #[iv y6.Room,iv y6.Lease,.slice A7 y6.Blobs.length c7,.slice A8 y6.Entries.length c8]),(65,.slice Aa1_3 a1.Digests.length ca1_3)] (Pk 5 [0,1,2,3,4]) (Pk 5 [0,1,2,3,4]) (fun w hh=>⟨(hh.box 0 rfl rfl),(hh.box 0 rfl rfl),(hh.box 0 rfl rfl),(hh.box 0 rfl rfl),(hh.box 4 rfl rfl)⟩) ?_
      obtain ⟨y7,hy7,heq⟩:=bind_some heq
      refine DrH.does (n:=1) (ls':=[true,true,true,true,true,true,false]) 5 (by kernel_rfl) rfl (DoesH.call (d:=66) (g:=27) (args:=#[.agg #[iv y6.Room,iv y6.Lease,.slice A7 y6.Blobs.length c7,.slice A8 y6.Entries.length c8],.slice Aa1_3 a1.Digests.length ca1_3]) (by kernel_rfl) (cache_missing_c (a0:=(⟨y6.Room,y6.Lease,y6.Blobs,y6.Entries⟩:Cache)) (a1:=a1.Digests) (ho14.rw (.tail _ (.head _))) ho14.cap rfl (ho15.rw (.tail _ (.tail _ (.head _)))) ho15.cap rfl (hra1_3.wk (fun _ h=>(.tail _ (.tail _ (.tail _ (.tail _ (.tail _ h))))))) hca1_3 rfl hy7)) ?_
      rintro _ _ _ _ ⟨_,rfl,A9,c9,ch9,rfl,rfl,rfl,ho16⟩
      refine ⟨fun _ w hh=>⟨fun _=>(Pk 6 [1,2,3,4,5]) w hh,fun _=>(Pk 6 [1,2,3,4,5]) w hh,(fun h=>by cases h)⟩,?_⟩
      refine Dk [6] 0 (nb 7 127) [] [] [0,4,9] [(0,pg ga0 0),(4,pg g2 0),(9,.slice A9 y7.length c9)] (Pk 6 [1,2,3,4,5]) (Pk 5 [0,1,2,3,4]) (fun _ _=>trivial) ?_
      refine DrH.done (by kernel_rfl) ?_
      refine Ra 1 [1,1,1,1,0,1,0,1,1,1,1,1,0,1,1,0] [.c [1,1,1,1,0,1,0,1,1,1,1,1,0,1,1,1],.b 0,.c [1,1,1,1,1]]<|Rk 5 [0,4,71] [(0,pg ga0 0),(4,pg g2 0),(71,.agg #[.bool ((y7.length:Int) == 0),.slice A9 y7.length c9,.slice none 0 0])] ?_
      refine RgH.does (DoesH.store (k:=4) (g:=g2) (off:=0) (v:=.agg #[.bool ((y7.length:Int) == 0),.slice A9 y7.length c9,.slice none 0 0]) (cells':=#[.bool ((y7.length:Int) == 0),.slice A9 y7.length c9,.slice none 0 0]) (by kernel_rfl) rfl (by kernel_rfl) (by kernel_rfl)) ?_
      rintro _ _ _ _ ⟨rfl,rfl,rfl⟩
      refine Rd 7 [0,4,5] [(0,pg ga0 0),(4,pg g2 0),(5,iv 0)]<|RunH.nilc ?_
      have ho17:SlOwn Kd.string 9 H none 0 ([]:List ByteArray) none:=SlOwn.nil
      obtain rfl:=Option.some.inj heq
      refine RunH.pick 7 [5,1,0,2,3,4] (cs':=(some (g2,.cells #[.bool ((y7.length:Int) == 0),.slice A9 y7.length c9,.slice none 0 0] 36 (0,0)))::ch9::none::(some (ga0,.cells #[iv y6.Room,iv y6.Lease,.slice A7 y6.Blobs.length c7,.slice A8 y6.Entries.length c8] 25 (0,0)))::ch7::ch8::F) (by kernel_rfl) rfl ?_
      exact RunH.doneM' 1 (vs:=[.agg #[.bool ((y7.length:Int) == 0),.slice A9 y7.length c9,.slice none 0 0],iv 0]) (v:=.tuple #[.agg #[.bool ((y7.length:Int) == 0),.slice A9 y7.length c9,.slice none 0 0],iv 0]) (by kernel_rfl) Tryd.func11 (fun w hh=>show ResAll _ _ _ [.cell 4 36,.tmp 5] _ from ⟨⟨⟨g2,0,none⟩,by kernel_rfl,trS_run _ (vs:=[.bool ((y7.length:Int) == 0),.slice A9 y7.length c9,.slice none 0 0]) (r:=[]) (es:=[.load ⟨g2,0,none⟩ (.bool ((y7.length:Int) == 0)),.load ⟨g2,1,none⟩ (.slice A9 y7.length c9),.load ⟨g2,2,none⟩ (.slice none 0 0)]) (by kernel_rfl) ⟨(hh.box 0 rfl rfl),(hh.box 0 rfl rfl),(hh.box 0 rfl rfl)⟩⟩,(show lk _ _=some _ by kernel_rfl),trivial⟩) rfl (cs':=ch9::none::(some (ga0,.cells #[iv y6.Room,iv y6.Lease,.slice A7 y6.Blobs.length c7,.slice A8 y6.Entries.length c8] 25 (0,0)))::ch7::ch8::F) rfl ⟨A9,c9,ch9,none,0,none,A7,c7,ch7,A8,c8,ch8,rfl,rfl,ho16,ho17,ho14,ho15⟩
     ·replace heq:=bif_false hb5 heq
      refine Cf (a1.Kind == 3) hb5<|Ra 2 [1,1,1,1,0,1,0,1,1,1,1,1,1,0,0] [.c [1,1,1,1,0,1,0,1,1,1,1,1,1,0,1],.c [1,1,1,1,0,1,0,1,1,1,1,1,1,1],.b 0,.c [1,1,1,1,1]]<|Rd 2 [0,3,4,7,8,34,72] [(0,pg ga0 0),(3,pg g1 0),(4,pg g2 0),(7,iv y3.1),(8,.bool y3.2),(34,iv a1.Kind),(72,.bool (a1.Kind == 4))] ?_
      rcases bool_cases (a1.Kind == 4) with hb11 | hb11
      ·replace heq:=bif_true hb11 heq
       refine Ct (a1.Kind == 4) hb11<|Ad 1 [.c [1,1,1,1,0,1,0,1,1,1,1,1,1,1],.b 0,.c [1,1,1,1,1]]<|Kp [0,3,4,7,8,34,72] [(0,pg ga0 0),(3,pg g1 0),(4,pg g2 0),(7,iv y3.1),(8,.bool y3.2),(34,iv a1.Kind),(72,.bool (a1.Kind == 4))] ?_
       exact (cache_do.j1_c) _ _ a0 _ _ _ _ _ _ a1 _ _ _ _ y3 (a1.Kind == 4) hoa0_2 hoa0_3 hra1_3 hca1_3 heq
      ·replace heq:=bif_false hb11 heq
       refine Cf (a1.Kind == 4) hb11<|Rr<|Rd 2 [0,3,4,7,8,34,72] [(0,pg ga0 0),(3,pg g1 0),(4,pg g2 0),(7,iv y3.1),(8,.bool y3.2),(34,iv a1.Kind),(72,.bool (a1.Kind == 5))]<|Kp [0,3,4,7,8,34,72] [(0,pg ga0 0),(3,pg g1 0),(4,pg g2 0),(7,iv y3.1),(8,.bool y3.2),(34,iv a1.Kind),(72,.bool (a1.Kind == 5))] ?_
       exact (cache_do.j1_c) _ _ a0 _ _ _ _ _ _ a1 _ _ _ _ y3 (a1.Kind == 5) hoa0_2 hoa0_3 hra1_3 hca1_3 heq
noncomputable def C5:Ctx:={ P:=Tryd.prog,f:=5,N:=31,c:=bodyOf Tryd.f5 }
def S5 (F:List Ch) (H0:Hp) (r:Cache × CacheAnswer × Int) (v:Value) (H:Hp) (cs:List Ch):Prop:=∃ (A0_2:Option Addr) (c0_2:Nat) (ch0_2:Ch) (A0_3:Option Addr) (c0_3:Nat) (ch0_3:Ch) (A1_1:Option Addr) (c1_1:Nat) (ch1_1:Ch) (A1_2:Option Addr) (c1_2:Nat) (ch1_2:Ch),v=.tuple #[.agg #[iv r.1.Room,iv r.1.Lease,.slice A0_2 r.1.Blobs.length c0_2,.slice A0_3 r.1.Entries.length c0_3],.agg #[.bool r.2.1.Done,.slice A1_1 r.2.1.Missing.length c1_1,.slice A1_2 r.2.1.Gone.length c1_2],iv r.2.2]∧ch0_2::ch0_3::ch1_1::ch1_2::F=cs∧SlOwn kBlob 29 H A0_2 c0_2 r.1.Blobs ch0_2∧SlOwn kEntry 57 H A0_3 c0_3 r.1.Entries ch0_3∧SlOwn Kd.string 9 H A1_1 c1_1 r.2.1.Missing ch1_1∧SlOwn Kd.string 9 H A1_2 c1_2 r.2.1.Gone ch1_2
theorem cache_Do_c {w0:World} {H0:Hp} {F:List Ch} {a0:Cache} {Aa0_2:Option Addr} {na0_2:Nat} {ca0_2:Nat} {Aa0_3:Option Addr} {na0_3:Nat} {ca0_3:Nat} {a1:CacheEvent} {Aa1_3:Option Addr} {na1_3:Nat} {ca1_3:Nat} {r:Cache × CacheAnswer × Int} (hra0_2:Rw kBlob H0 F Aa0_2 a0.Blobs) (hca0_2:na0_2≤ca0_2) (hna0_2:na0_2=a0.Blobs.length) (hra0_3:Rw kEntry H0 F Aa0_3 a0.Entries) (hca0_3:na0_3≤ca0_3) (hna0_3:na0_3=a0.Entries.length) (hra1_3:Rw Kd.string H0 F Aa1_3 a1.Digests) (hca1_3:na1_3≤ca1_3) (hna1_3:na1_3=a1.Digests.length) (heq:cache_Do.f a0 a1=some r):CallsH Tryd.prog 5 #[.agg #[iv a0.Room,iv a0.Lease,.slice Aa0_2 na0_2 ca0_2,.slice Aa0_3 na0_3 ca0_3],.agg #[iv a1.Kind,iv a1.At,.string a1.Digest,.slice Aa1_3 na1_3 ca1_3,.string a1.Key,iv a1.Size]] H0 w0 (F) (S5 F H0 r):=by
 refine calls_of_runH (F:=C5) Tryd.func5 (by kernel_rfl) Tryd.ntmps5 (args:=[.agg #[iv a0.Room,iv a0.Lease,.slice Aa0_2 na0_2 ca0_2,.slice Aa0_3 na0_3 ca0_3],.agg #[iv a1.Kind,iv a1.At,.string a1.Digest,.slice Aa1_3 na1_3 ca1_3,.string a1.Key,iv a1.Size]]) (by kernel_rfl) ?_
 subst hna0_2
 subst hna0_3
 subst hna1_3
 unfold cache_Do.f at heq
 suffices key:∀ (H:Hp),Rw kBlob H F Aa0_2 a0.Blobs→Rw kEntry H F Aa0_3 a0.Entries→Rw Kd.string H F Aa1_3 a1.Digests→RunH C5 (S5 F H0 r) H0 w0 [.c []] (argL 0 [.agg #[iv a0.Room,iv a0.Lease,.slice Aa0_2 (a0.Blobs.length) ca0_2,.slice Aa0_3 (a0.Entries.length) ca0_3],.agg #[iv a1.Kind,iv a1.At,.string a1.Digest,.slice Aa1_3 (a1.Digests.length) ca1_3,.string a1.Key,iv a1.Size]]) H (F) from key H0 hra0_2 hra0_3 hra1_3
 intro H hra0_2 hra0_3 hra1_3
 refine Ra 1 [0] [.c [1]] ?_
 refine RgH.does (DoesH.new (d:=2) (v:=fun g=>.pointer (some ⟨g,0,none⟩)) (o:=fun g=>.cells #[iv a0.Room,iv a0.Lease,.slice Aa0_2 a0.Blobs.length ca0_2,.slice Aa0_3 a0.Entries.length ca0_3] 25 (0,0)) (fun g=>by kernel_rfl)) ?_
 rintro _ _ _ _ ⟨g1,rfl,rfl,rfl⟩
 refine RgH.does (DoesH.new (d:=3) (v:=fun g=>.pointer (some ⟨g,0,none⟩)) (o:=fun g=>.cells #[iv a1.Kind,iv a1.At,.string a1.Digest,.slice Aa1_3 a1.Digests.length ca1_3,.string a1.Key,iv a1.Size] 40 (0,0)) (fun g=>by kernel_rfl)) ?_
 rintro _ _ _ _ ⟨g2,rfl,rfl,rfl⟩
 refine RgH.does (DoesH.new (d:=4) (v:=fun g=>.pointer (some ⟨g,0,none⟩)) (o:=fun g=>.cells #[iv 0,iv 0,.slice none 0 0,.slice none 0 0] 25 (0,0)) (fun g=>by kernel_rfl)) ?_
 rintro _ _ _ _ ⟨g3,rfl,rfl,rfl⟩
 refine RgH.does (DoesH.new (d:=5) (v:=fun g=>.pointer (some ⟨g,0,none⟩)) (o:=fun g=>.cells #[.bool false,.slice none 0 0,.slice none 0 0] 36 (0,0)) (fun g=>by kernel_rfl)) ?_
 rintro _ _ _ _ ⟨g4,rfl,rfl,rfl⟩
 refine Rd 5 [2,3,4,5] [(2,pg g1 0),(3,pg g2 0),(4,pg g3 0),(5,pg g4 0)]<|Ra 2 [1,0,0] [.c [1,0,1],.c [1,1]]<|Rv 1 [2,3,4,5,10] [iv a0.Room,iv a0.Lease,.slice Aa0_2 a0.Blobs.length ca0_2,.slice Aa0_3 a0.Entries.length ca0_3] [.load ⟨g1,0,none⟩ (iv a0.Room),.load ⟨g1,1,none⟩ (iv a0.Lease),.load ⟨g1,2,none⟩ (.slice Aa0_2 a0.Blobs.length ca0_2),.load ⟨g1,3,none⟩ (.slice Aa0_3 a0.Entries.length ca0_3)] [(2,pg g1 0),(3,pg g2 0),(4,pg g3 0),(5,pg g4 0),(10,.agg #[iv a0.Room,iv a0.Lease,.slice Aa0_2 a0.Blobs.length ca0_2,.slice Aa0_3 a0.Entries.length ca0_3])] (fun w hh=>⟨(hh.box 3 rfl rfl),(hh.box 3 rfl rfl),(hh.box 3 rfl rfl),(hh.box 3 rfl rfl)⟩) ?_
 obtain ⟨y1,hy1,heq⟩:=bind_some heq
 refine RgH.does (DoesH.call (d:=11) (g:=9) (args:=#[.agg #[iv a0.Room,iv a0.Lease,.slice Aa0_2 a0.Blobs.length ca0_2,.slice Aa0_3 a0.Entries.length ca0_3]]) (by kernel_rfl) (cache_CheckCache_c (a0:=a0) (hra0_2.wk (fun _ h=>(.tail _ (.tail _ (.tail _ (.tail _ h)))))) hca0_2 rfl (hra0_3.wk (fun _ h=>(.tail _ (.tail _ (.tail _ (.tail _ h)))))) hca0_3 rfl hy1)) ?_
 rintro _ _ _ _ ⟨_,rfl,rfl,rfl,rfl⟩
 refine Rd 3 [2,3,4,5,7] [(2,pg g1 0),(3,pg g2 0),(4,pg g3 0),(5,pg g4 0),(7,iv y1)]<|Ra 1 [1,0,1,0] [.c [1,0,1,1],.c [1,1]]<|Rd 2 [2,3,4,5,7,13] [(2,pg g1 0),(3,pg g2 0),(4,pg g3 0),(5,pg g4 0),(7,iv y1),(13,.bool (y1 != 0))] ?_
 rcases bool_cases (y1 != 0) with hb1 | hb1
 ·replace heq:=bif_true hb1 heq
  refine Ct (y1 != 0) hb1<|Ra 1 [1,0,1,1,0,0] [.c [1,0,1,1,0,1],.c [1,1]]<|Rk 3 [4,5,14,15,16] [(4,pg g3 0),(5,pg g4 0),(14,.agg #[iv 0,iv 0,.slice none 0 0,.slice none 0 0]),(15,.agg #[.bool false,.slice none 0 0,.slice none 0 0]),(16,iv y1)] ?_
  refine RgH.does (DoesH.store (k:=1) (g:=g3) (off:=0) (v:=.agg #[iv 0,iv 0,.slice none 0 0,.slice none 0 0]) (cells':=#[iv 0,iv 0,.slice none 0 0,.slice none 0 0]) (by kernel_rfl) rfl (by kernel_rfl) (by kernel_rfl)) ?_
  rintro _ _ _ _ ⟨rfl,rfl,rfl⟩
  refine RgH.does (DoesH.store (k:=0) (g:=g4) (off:=0) (v:=.agg #[.bool false,.slice none 0 0,.slice none 0 0]) (cells':=#[.bool false,.slice none 0 0,.slice none 0 0]) (by kernel_rfl) rfl (by kernel_rfl) (by kernel_rfl)) ?_
  rintro _ _ _ _ ⟨rfl,rfl,rfl⟩
  refine Rd 6 [4,5,6] [(4,pg g3 0),(5,pg g4 0),(6,iv y1)]<|RunH.nilc ?_
  have ho1:SlOwn kBlob 29 H none 0 ([]:List Blob) none:=SlOwn.nil
  refine RunH.nilc ?_
  have ho2:SlOwn kEntry 57 H none 0 ([]:List Entry) none:=SlOwn.nil
  refine RunH.nilc ?_
  have ho3:SlOwn Kd.string 9 H none 0 ([]:List ByteArray) none:=SlOwn.nil
  refine RunH.nilc ?_
  have ho4:SlOwn Kd.string 9 H none 0 ([]:List ByteArray) none:=SlOwn.nil
  obtain rfl:=Option.some.inj heq
  refine RunH.pick 8 [4,5,3,2,1,0] (cs':=(some (g4,.cells #[.bool false,.slice none 0 0,.slice none 0 0] 36 (0,0)))::(some (g3,.cells #[iv 0,iv 0,.slice none 0 0,.slice none 0 0] 25 (0,0)))::none::none::none::none::F) (by kernel_rfl) rfl ?_
  exact RunH.doneM' 2 (vs:=[.agg #[iv 0,iv 0,.slice none 0 0,.slice none 0 0],.agg #[.bool false,.slice none 0 0,.slice none 0 0],iv y1]) (v:=.tuple #[.agg #[iv 0,iv 0,.slice none 0 0,.slice none 0 0],.agg #[.bool false,.slice none 0 0,.slice none 0 0],iv y1]) (by kernel_rfl) Tryd.func5 (fun w hh=>show ResAll _ _ _ [.cell 4 25,.cell 5 36,.tmp 6] _ from ⟨⟨⟨g3,0,none⟩,by kernel_rfl,trS_run _ (vs:=[iv 0,iv 0,.slice none 0 0,.slice none 0 0]) (r:=[]) (es:=[.load ⟨g3,0,none⟩ (iv 0),.load ⟨g3,1,none⟩ (iv 0),.load ⟨g3,2,none⟩ (.slice none 0 0),.load ⟨g3,3,none⟩ (.slice none 0 0)]) (by kernel_rfl) ⟨(hh.box 1 rfl rfl),(hh.box 1 rfl rfl),(hh.box 1 rfl rfl),(hh.box 1 rfl rfl)⟩⟩,⟨⟨g4,0,none⟩,by kernel_rfl,trS_run _ (vs:=[.bool false,.slice none 0 0,.slice none 0 0]) (r:=[]) (es:=[.load ⟨g4,0,none⟩ (.bool false),.load ⟨g4,1,none⟩ (.slice none 0 0),.load ⟨g4,2,none⟩ (.slice none 0 0)]) (by kernel_rfl) ⟨(hh.box 0 rfl rfl),(hh.box 0 rfl rfl),(hh.box 0 rfl rfl)⟩⟩,(show lk _ _=some _ by kernel_rfl),trivial⟩) rfl (cs':=none::none::none::none::F) rfl ⟨none,0,none,none,0,none,none,0,none,none,0,none,rfl,rfl,ho1,ho2,ho3,ho4⟩
 ·replace heq:=bif_false hb1 heq
  refine Cf (y1 != 0) hb1<|Ra 2 [1,1,0] [.c [1,1,1]]<|Rv 1 [2,3,4,5,17] [iv a0.Room,iv a0.Lease,.slice Aa0_2 a0.Blobs.length ca0_2,.slice Aa0_3 a0.Entries.length ca0_3] [.load ⟨g1,0,none⟩ (iv a0.Room),.load ⟨g1,1,none⟩ (iv a0.Lease),.load ⟨g1,2,none⟩ (.slice Aa0_2 a0.Blobs.length ca0_2),.load ⟨g1,3,none⟩ (.slice Aa0_3 a0.Entries.length ca0_3)] [(2,pg g1 0),(3,pg g2 0),(4,pg g3 0),(5,pg g4 0),(17,.agg #[iv a0.Room,iv a0.Lease,.slice Aa0_2 a0.Blobs.length ca0_2,.slice Aa0_3 a0.Entries.length ca0_3])] (fun w hh=>⟨(hh.box 3 rfl rfl),(hh.box 3 rfl rfl),(hh.box 3 rfl rfl),(hh.box 3 rfl rfl)⟩) ?_
  obtain ⟨y2,hy2,heq⟩:=bind_some heq
  refine RgH.does (DoesH.call (d:=18) (g:=10) (args:=#[.agg #[iv a0.Room,iv a0.Lease,.slice Aa0_2 a0.Blobs.length ca0_2,.slice Aa0_3 a0.Entries.length ca0_3]]) (by kernel_rfl) (cache_own_c (a0:=a0) (hra0_2.wk (fun _ h=>(.tail _ (.tail _ (.tail _ (.tail _ h)))))) hca0_2 rfl (hra0_3.wk (fun _ h=>(.tail _ (.tail _ (.tail _ (.tail _ h)))))) hca0_3 rfl hy2)) ?_
  rintro _ H _ hl ⟨_,rfl,A1,c1,ch1,A2,c2,ch2,rfl,rfl,ho5,ho6⟩
  replace hra0_2:=hra0_2.mono hl
  replace hra0_3:=hra0_3.mono hl
  replace hra1_3:=hra1_3.mono hl
  refine RgH.does (DoesH.store (k:=5) (g:=g1) (off:=0) (v:=.agg #[iv y2.Room,iv y2.Lease,.slice A1 y2.Blobs.length c1,.slice A2 y2.Entries.length c2]) (cells':=#[iv y2.Room,iv y2.Lease,.slice A1 y2.Blobs.length c1,.slice A2 y2.Entries.length c2]) (by kernel_rfl) rfl (by kernel_rfl) (by kernel_rfl)) ?_
  rintro _ _ _ _ ⟨rfl,rfl,rfl⟩
  refine Dn<|Ra 1 [1,1,1,0] [.c [1,1,1,1]]<|Rv 1 [2,4,5,20] [iv a1.Kind,iv a1.At,.string a1.Digest,.slice Aa1_3 a1.Digests.length ca1_3,.string a1.Key,iv a1.Size] [.load ⟨g2,0,none⟩ (iv a1.Kind),.load ⟨g2,1,none⟩ (iv a1.At),.load ⟨g2,2,none⟩ (.string a1.Digest),.load ⟨g2,3,none⟩ (.slice Aa1_3 a1.Digests.length ca1_3),.load ⟨g2,4,none⟩ (.string a1.Key),.load ⟨g2,5,none⟩ (iv a1.Size)] [(2,pg g1 0),(4,pg g3 0),(5,pg g4 0),(20,.agg #[iv a1.Kind,iv a1.At,.string a1.Digest,.slice Aa1_3 a1.Digests.length ca1_3,.string a1.Key,iv a1.Size])] (fun w hh=>⟨(hh.box 4 rfl rfl),(hh.box 4 rfl rfl),(hh.box 4 rfl rfl),(hh.box 4 rfl rfl),(hh.box 4 rfl rfl),(hh.box 4 rfl rfl)⟩) ?_
  refine RgH.pick 6 [5,0,1,2,3,4] (cs':=(some (g1,.cells #[iv y2.Room,iv y2.Lease,.slice A1 y2.Blobs.length c1,.slice A2 y2.Entries.length c2] 25 (0,0)))::ch1::ch2::(some (g4,.cells #[.bool false,.slice none 0 0,.slice none 0 0] 36 (0,0)))::(some (g3,.cells #[iv 0,iv 0,.slice none 0 0,.slice none 0 0] 25 (0,0)))::(some (g2,.cells #[iv a1.Kind,iv a1.At,.string a1.Digest,.slice Aa1_3 a1.Digests.length ca1_3,.string a1.Key,iv a1.Size] 40 (0,0)))::F) (by kernel_rfl) rfl ?_
  obtain ⟨y3,hy3,heq⟩:=bind_some heq
  refine RgH.does (DoesH.call (d:=21) (g:=11) (args:=#[.pointer (some ⟨g1,0,none⟩),.agg #[iv a1.Kind,iv a1.At,.string a1.Digest,.slice Aa1_3 a1.Digests.length ca1_3,.string a1.Key,iv a1.Size]]) (by kernel_rfl) (cache_do_c (a0:=(⟨y2.Room,y2.Lease,y2.Blobs,y2.Entries⟩:Cache)) (a1:=a1) ho5 rfl ho6 rfl (hra1_3.wk (fun _ h=>(.tail _ (.tail _ (.tail _ h))))) hca1_3 rfl hy3)) ?_
  rintro _ H _ hl ⟨_,rfl,A3,c3,ch3,A4,c4,ch4,A5,c5,ch5,A6,c6,ch6,rfl,rfl,ho7,ho8,ho9,ho10⟩
  replace ho5:=ho5.mono hl
  replace ho6:=ho6.mono hl
  replace hra1_3:=hra1_3.mono hl
  refine Rk 5 [2,4,5,22,23] [(2,pg g1 0),(4,pg g3 0),(5,pg g4 0),(22,.agg #[.bool y3.1.Done,.slice A3 y3.1.Missing.length c3,.slice A4 y3.1.Gone.length c4]),(23,iv y3.2.1)] ?_
  refine RgH.does (DoesH.new (d:=8) (v:=fun g=>.pointer (some ⟨g,0,none⟩)) (o:=fun g=>.cells #[.bool false,.slice none 0 0,.slice none 0 0] 36 (0,0)) (fun g=>by kernel_rfl)) ?_
  rintro _ _ _ _ ⟨g5,rfl,rfl,rfl⟩
  refine RgH.does (DoesH.store (k:=0) (g:=g5) (off:=0) (v:=.agg #[.bool y3.1.Done,.slice A3 y3.1.Missing.length c3,.slice A4 y3.1.Gone.length c4]) (cells':=#[.bool y3.1.Done,.slice A3 y3.1.Missing.length c3,.slice A4 y3.1.Gone.length c4]) (by kernel_rfl) rfl (by kernel_rfl) (by kernel_rfl)) ?_
  rintro _ _ _ _ ⟨rfl,rfl,rfl⟩
  refine Rd 8 [2,4,5,8,9] [(2,pg g1 0),(4,pg g3 0),(5,pg g4 0),(8,pg g5 0),(9,iv y3.2.1)]<|Ra 2 [1,1,1,1,0,0] [.c [1,1,1,1,0,1],.c [1,1,1,1,1]]<|Rd 2 [2,4,5,8,9,25] [(2,pg g1 0),(4,pg g3 0),(5,pg g4 0),(8,pg g5 0),(9,iv y3.2.1),(25,.bool (y3.2.1 != 0))] ?_
  rcases bool_cases (y3.2.1 != 0) with hb2 | hb2
  ·replace heq:=bif_true hb2 heq
   refine Ct (y3.2.1 != 0) hb2<|Ra 1 [1,1,1,1,0,1,0,0] [.c [1,1,1,1,0,1,0,1],.c [1,1,1,1,1]]<|Rk 3 [4,5,26,27,28] [(4,pg g3 0),(5,pg g4 0),(26,.agg #[iv 0,iv 0,.slice none 0 0,.slice none 0 0]),(27,.agg #[.bool false,.slice none 0 0,.slice none 0 0]),(28,iv y3.2.1)] ?_
   refine RgH.does (DoesH.store (k:=7) (g:=g3) (off:=0) (v:=.agg #[iv 0,iv 0,.slice none 0 0,.slice none 0 0]) (cells':=#[iv 0,iv 0,.slice none 0 0,.slice none 0 0]) (by kernel_rfl) rfl (by kernel_rfl) (by kernel_rfl)) ?_
   rintro _ _ _ _ ⟨rfl,rfl,rfl⟩
   refine RgH.does (DoesH.store (k:=6) (g:=g4) (off:=0) (v:=.agg #[.bool false,.slice none 0 0,.slice none 0 0]) (cells':=#[.bool false,.slice none 0 0,.slice none 0 0]) (by kernel_rfl) rfl (by kernel_rfl) (by kernel_rfl)) ?_
   rintro _ _ _ _ ⟨rfl,rfl,rfl⟩
   refine Rd 6 [4,5,6] [(4,pg g3 0),(5,pg g4 0),(6,iv y3.2.1)]<|RunH.nilc ?_
   have ho11:SlOwn kBlob 29 H none 0 ([]:List Blob) none:=SlOwn.nil
   refine RunH.nilc ?_
   have ho12:SlOwn kEntry 57 H none 0 ([]:List Entry) none:=SlOwn.nil
   refine RunH.nilc ?_
   have ho13:SlOwn Kd.string 9 H none 0 ([]:List ByteArray) none:=SlOwn.nil
   refine RunH.nilc ?_
   have ho14:SlOwn Kd.string 9 H none 0 ([]:List ByteArray) none:=SlOwn.nil
   obtain rfl:=Option.some.inj heq
   refine RunH.pick 13 [10,11,3,2,1,0] (cs':=(some (g4,.cells #[.bool false,.slice none 0 0,.slice none 0 0] 36 (0,0)))::(some (g3,.cells #[iv 0,iv 0,.slice none 0 0,.slice none 0 0] 25 (0,0)))::none::none::none::none::F) (by kernel_rfl) rfl ?_
   exact RunH.doneM' 2 (vs:=[.agg #[iv 0,iv 0,.slice none 0 0,.slice none 0 0],.agg #[.bool false,.slice none 0 0,.slice none 0 0],iv y3.2.1]) (v:=.tuple #[.agg #[iv 0,iv 0,.slice none 0 0,.slice none 0 0],.agg #[.bool false,.slice none 0 0,.slice none 0 0],iv y3.2.1]) (by kernel_rfl) Tryd.func5 (fun w hh=>show ResAll _ _ _ [.cell 4 25,.cell 5 36,.tmp 6] _ from ⟨⟨⟨g3,0,none⟩,by kernel_rfl,trS_run _ (vs:=[iv 0,iv 0,.slice none 0 0,.slice none 0 0]) (r:=[]) (es:=[.load ⟨g3,0,none⟩ (iv 0),.load ⟨g3,1,none⟩ (iv 0),.load ⟨g3,2,none⟩ (.slice none 0 0),.load ⟨g3,3,none⟩ (.slice none 0 0)]) (by kernel_rfl) ⟨(hh.box 1 rfl rfl),(hh.box 1 rfl rfl),(hh.box 1 rfl rfl),(hh.box 1 rfl rfl)⟩⟩,⟨⟨g4,0,none⟩,by kernel_rfl,trS_run _ (vs:=[.bool false,.slice none 0 0,.slice none 0 0]) (r:=[]) (es:=[.load ⟨g4,0,none⟩ (.bool false),.load ⟨g4,1,none⟩ (.slice none 0 0),.load ⟨g4,2,none⟩ (.slice none 0 0)]) (by kernel_rfl) ⟨(hh.box 0 rfl rfl),(hh.box 0 rfl rfl),(hh.box 0 rfl rfl)⟩⟩,(show lk _ _=some _ by kernel_rfl),trivial⟩) rfl (cs':=none::none::none::none::F) rfl ⟨none,0,none,none,0,none,none,0,none,none,0,none,rfl,rfl,ho11,ho12,ho13,ho14⟩
  ·replace heq:=bif_false hb2 heq
   refine Cf (y3.2.1 != 0) hb2<|Ad 2 [.c [1,1,1,1,1,0],.c [1,1,1,1,1,1]]<|Kp [2,4,5,8] [(2,pg g1 0),(4,pg g3 0),(5,pg g4 0),(8,pg g5 0)] ?_
   refine RunH.draw (fun w=>Heap H w0 w ((some (g5,.cells #[.bool y3.1.Done,.slice A3 y3.1.Missing.length c3,.slice A4 y3.1.Gone.length c4] 36 (0,0)))::ch3::ch4::(some (g1,.cells #[iv y3.2.2.Room,iv y3.2.2.Lease,.slice A5 y3.2.2.Blobs.length c5,.slice A6 y3.2.2.Entries.length c6] 25 (0,0)))::ch5::ch6::(some (g4,.cells #[.bool false,.slice none 0 0,.slice none 0 0] 36 (0,0)))::(some (g3,.cells #[iv 0,iv 0,.slice none 0 0,.slice none 0 0] 25 (0,0)))::(some (g2,.cells #[iv a1.Kind,iv a1.At,.string a1.Digest,.slice Aa1_3 a1.Digests.length ca1_3,.string a1.Key,iv a1.Size] 40 (0,0)))::F)) (fun w=>Heap H w0 w ((some (g5,.cells #[.bool y3.1.Done,.slice A3 y3.1.Missing.length c3,.slice A4 y3.1.Gone.length c4] 36 (0,0)))::ch3::ch4::(some (g1,.cells #[iv y3.2.2.Room,iv y3.2.2.Lease,.slice A5 y3.2.2.Blobs.length c5,.slice A6 y3.2.2.Entries.length c6] 25 (0,0)))::ch5::ch6::(some (g2,.cells #[iv a1.Kind,iv a1.At,.string a1.Digest,.slice Aa1_3 a1.Digests.length ca1_3,.string a1.Key,iv a1.Size] 40 (0,0)))::F)) [3,3,1,1,3] (n:=5) (ls:=[false,false,false,false,false]) (by kernel_rfl) (by kernel_rfl) (by kernel_rfl) rfl ?_
   refine Dk [0] 4 (nb 5 1) [iv y3.2.2.Room,iv y3.2.2.Lease,.slice A5 y3.2.2.Blobs.length c5,.slice A6 y3.2.2.Entries.length c6] [.load ⟨g1,0,none⟩ (iv y3.2.2.Room),.load ⟨g1,1,none⟩ (iv y3.2.2.Lease),.load ⟨g1,2,none⟩ (.slice A5 y3.2.2.Blobs.length c5),.load ⟨g1,3,none⟩ (.slice A6 y3.2.2.Entries.length c6)] [4,5,8,29] [(4,pg g3 0),(5,pg g4 0),(8,pg g5 0),(29,.agg #[iv y3.2.2.Room,iv y3.2.2.Lease,.slice A5 y3.2.2.Blobs.length c5,.slice A6 y3.2.2.Entries.length c6])] (Pk 9 [0,1,2,3,4,5,6,7,8]) (Pk 9 [0,1,2,3,4,5,8]) (fun w hh=>⟨(hh.box 3 rfl rfl),(hh.box 3 rfl rfl),(hh.box 3 rfl rfl),(hh.box 3 rfl rfl)⟩)<|De [1] 3 (nb 5 3) [.bool y3.1.Done,.slice A3 y3.1.Missing.length c3,.slice A4 y3.1.Gone.length c4] [.load ⟨g5,0,none⟩ (.bool y3.1.Done),.load ⟨g5,1,none⟩ (.slice A3 y3.1.Missing.length c3),.load ⟨g5,2,none⟩ (.slice A4 y3.1.Gone.length c4)] [4,5,29,30] [(4,pg g3 0),(5,pg g4 0),(29,.agg #[iv y3.2.2.Room,iv y3.2.2.Lease,.slice A5 y3.2.2.Blobs.length c5,.slice A6 y3.2.2.Entries.length c6]),(30,.agg #[.bool y3.1.Done,.slice A3 y3.1.Missing.length c3,.slice A4 y3.1.Gone.length c4])] (Pk 9 [0,1,2,3,4,5,8]) (fun w hh=>⟨(hh.box 0 rfl rfl),(hh.box 0 rfl rfl),(hh.box 0 rfl rfl)⟩) ?_
   refine DrH.does (n:=2) (ls':=[true,true,true,false,false]) 2 (by kernel_rfl) rfl (DoesH.store (k:=7) (g:=g3) (off:=0) (v:=.agg #[iv y3.2.2.Room,iv y3.2.2.Lease,.slice A5 y3.2.2.Blobs.length c5,.slice A6 y3.2.2.Entries.length c6]) (cells':=#[iv y3.2.2.Room,iv y3.2.2.Lease,.slice A5 y3.2.2.Blobs.length c5,.slice A6 y3.2.2.Entries.length c6]) (by kernel_rfl) rfl (by kernel_rfl) (by kernel_rfl)) ?_
   rintro _ _ _ _ ⟨rfl,rfl,rfl⟩
   refine ⟨fun _ w hh=>⟨(fun h=>by cases h),fun _=>(Pk 9 [0,1,2,3,4,5,8]) w hh,(fun h=>by cases h)⟩,?_⟩
   refine Kr [4,5,30] [(4,pg g3 0),(5,pg g4 0),(30,.agg #[.bool y3.1.Done,.slice A3 y3.1.Missing.length c3,.slice A4 y3.1.Gone.length c4])] ?_
   refine DrH.does (n:=1) (ls':=[true,true,true,true,false]) 3 (by kernel_rfl) rfl (DoesH.store (k:=6) (g:=g4) (off:=0) (v:=.agg #[.bool y3.1.Done,.slice A3 y3.1.Missing.length c3,.slice A4 y3.1.Gone.length c4]) (cells':=#[.bool y3.1.Done,.slice A3 y3.1.Missing.length c3,.slice A4 y3.1.Gone.length c4]) (by kernel_rfl) rfl (by kernel_rfl) (by kernel_rfl)) ?_
   rintro _ _ _ _ ⟨rfl,rfl,rfl⟩
   refine ⟨fun _ w hh=>⟨(fun h=>by cases h),fun _=>(Pk 9 [0,1,2,3,4,5,8]) w hh,(fun h=>by cases h)⟩,?_⟩
   refine De [4] 0 (nb 5 31) [] [] [4,5,6] [(4,pg g3 0),(5,pg g4 0),(6,iv 0)] (Pk 9 [0,1,2,3,4,5,8]) (fun _ _=>trivial) ?_
   refine DrH.done (by kernel_rfl) ?_
   obtain rfl:=Option.some.inj heq
   refine RunH.pick 9 [6,7,4,5,1,2] (cs':=(some (g4,.cells #[.bool y3.1.Done,.slice A3 y3.1.Missing.length c3,.slice A4 y3.1.Gone.length c4] 36 (0,0)))::(some (g3,.cells #[iv y3.2.2.Room,iv y3.2.2.Lease,.slice A5 y3.2.2.Blobs.length c5,.slice A6 y3.2.2.Entries.length c6] 25 (0,0)))::ch5::ch6::ch3::ch4::F) (by kernel_rfl) rfl ?_
   exact RunH.doneM' 2 (vs:=[.agg #[iv y3.2.2.Room,iv y3.2.2.Lease,.slice A5 y3.2.2.Blobs.length c5,.slice A6 y3.2.2.Entries.length c6],.agg #[.bool y3.1.Done,.slice A3 y3.1.Missing.length c3,.slice A4 y3.1.Gone.length c4],iv 0]) (v:=.tuple #[.agg #[iv y3.2.2.Room,iv y3.2.2.Lease,.slice A5 y3.2.2.Blobs.length c5,.slice A6 y3.2.2.Entries.length c6],.agg #[.bool y3.1.Done,.slice A3 y3.1.Missing.length c3,.slice A4 y3.1.Gone.length c4],iv 0]) (by kernel_rfl) Tryd.func5 (fun w hh=>show ResAll _ _ _ [.cell 4 25,.cell 5 36,.tmp 6] _ from ⟨⟨⟨g3,0,none⟩,by kernel_rfl,trS_run _ (vs:=[iv y3.2.2.Room,iv y3.2.2.Lease,.slice A5 y3.2.2.Blobs.length c5,.slice A6 y3.2.2.Entries.length c6]) (r:=[]) (es:=[.load ⟨g3,0,none⟩ (iv y3.2.2.Room),.load ⟨g3,1,none⟩ (iv y3.2.2.Lease),.load ⟨g3,2,none⟩ (.slice A5 y3.2.2.Blobs.length c5),.load ⟨g3,3,none⟩ (.slice A6 y3.2.2.Entries.length c6)]) (by kernel_rfl) ⟨(hh.box 1 rfl rfl),(hh.box 1 rfl rfl),(hh.box 1 rfl rfl),(hh.box 1 rfl rfl)⟩⟩,⟨⟨g4,0,none⟩,by kernel_rfl,trS_run _ (vs:=[.bool y3.1.Done,.slice A3 y3.1.Missing.length c3,.slice A4 y3.1.Gone.length c4]) (r:=[]) (es:=[.load ⟨g4,0,none⟩ (.bool y3.1.Done),.load ⟨g4,1,none⟩ (.slice A3 y3.1.Missing.length c3),.load ⟨g4,2,none⟩ (.slice A4 y3.1.Gone.length c4)]) (by kernel_rfl) ⟨(hh.box 0 rfl rfl),(hh.box 0 rfl rfl),(hh.box 0 rfl rfl)⟩⟩,(show lk _ _=some _ by kernel_rfl),trivial⟩) rfl (cs':=ch5::ch6::ch3::ch4::F) rfl ⟨A5,c5,ch5,A6,c6,ch6,A3,c3,ch3,A4,c4,ch4,rfl,rfl,ho9,ho10,ho7,ho8⟩
noncomputable def C12:Ctx:={ P:=Tryd.prog,f:=12,N:=38,c:=bodyOf Tryd.f12 }
def S12 (F:List Ch) (H0:Hp) (r:ByteArray) (v:Value) (H:Hp) (cs:List Ch):Prop:=H0=H∧v=.string r∧F=cs
theorem blob_Digest.e2_c {w0:World} {H:Hp} {F:List Ch} {r:ByteArray}:∀ (v_out6:List Int) (Av_out6:Option Addr) (nv_out6:Nat) (cv_out6:Nat) (chv_out6:Ch) ,SlOwn (Kd.int .u8) 5 H Av_out6 cv_out6 v_out6 chv_out6→nv_out6=v_out6.length→blob_Digest.e2 v_out6=some r→RunH C12 (S12 F H r) H w0 [.c [1,1,1,1,1,0],.c [1,1,1,1,1,1]] [(6,.slice Av_out6 nv_out6 cv_out6)] H (chv_out6::F):=by
 intro v_out6 Av_out6 nv_out6 cv_out6 chv_out6 hov_out6 hnv_out6 heq
 subst hnv_out6
 unfold blob_Digest.e2 at heq
 refine Rr<|Rk 1 [36] [(36,.slice Av_out6 v_out6.length cv_out6)] ?_
 refine RgH.does (DoesH.bytesStr (d:=37) (c:=cv_out6) (xs:=v_out6) (by kernel_rfl) rfl (fun w hh=>hov_out6.rdb (hh.chin 0 rfl))) ?_
 rintro _ _ _ _ ⟨rfl,rfl,rfl⟩
 refine Rd 3 [2] [(2,.string (strN v_out6))] ?_
 obtain rfl:=Option.some.inj heq
 refine RunH.pick 1 [] (cs':=F) (by kernel_rfl) rfl ?_
 exact RunH.done (by kernel_rfl) Tryd.func12 (v:=.string (strN v_out6)) (by kernel_rfl) ⟨rfl,rfl,rfl⟩
theorem blob_Digest.l3_c {w0:World} {H:Hp} {F:List Ch} {r:ByteArray} (e2:(List Int)→Option ByteArray)
  (he2:∀ (v_out6:List Int) (Av_out6:Option Addr) (nv_out6:Nat) (cv_out6:Nat) (chv_out6:Ch) ,SlOwn (Kd.int .u8) 5 H Av_out6 cv_out6 v_out6 chv_out6→nv_out6=v_out6.length→e2 v_out6=some r→RunH C12 (S12 F H r) H w0 [.c [1,1,1,1,1,0],.c [1,1,1,1,1,1]] [(6,.slice Av_out6 nv_out6 cv_out6)] H (chv_out6::F)):∀ (k:Nat),∀ (v_n3:Int) (v_out6:List Int) (Av_out6:Option Addr) (nv_out6:Nat) (cv_out6:Nat) (chv_out6:Ch) (v23:Int) ,SlOwn (Kd.int .u8) 5 H Av_out6 cv_out6 v_out6 chv_out6→nv_out6=v_out6.length→blob_Digest.l3 e2 k v_n3 v_out6 v23=some r→RunH C12 (S12 F H r) H w0 [.c [1,1,1,1,0,1,0,0],.l [1,1,1,1,0,1,0,0],.b 2,.c [1,1,1,1,1]] [(3,.int .u64 v_n3),(6,.slice Av_out6 nv_out6 cv_out6),(22,iv ((List.replicate 16 (0)).length:Int)),(23,iv v23)] H (chv_out6::F):=by
 intro k
 induction k with
 | zero=>intro v_n3 v_out6 Av_out6 nv_out6 cv_out6 chv_out6 v23 hov_out6 hnv_out6 heq; exact nomatch (show (none:Option ByteArray)=some r from heq)
 | succ k ihk =>
  intro v_n3 v_out6 Av_out6 nv_out6 cv_out6 chv_out6 v23 hov_out6 hnv_out6 heq
  subst hnv_out6
  rw [blob_Digest.l3] at heq
  refine Ra 1 [1,1,1,1,0,1,0,0,0] [.c [1,1,1,1,0,1,0,0,1],.l [1,1,1,1,0,1,0,0],.b 2,.c [1,1,1,1,1]]<|Rd 1 [3,6,22,23,24] [(3,.int .u64 v_n3),(6,.slice Av_out6 v_out6.length cv_out6),(22,iv ((List.replicate 16 (0)).length:Int)),(23,iv v23),(24,.bool (decide (v23<((List.replicate 16 (0)).length:Int))))]<|Ad 1 [.c [1,1,1,1,0,1,0,0,1,0],.c [1,1,1,1,0,1,0,0,1,1],.l [1,1,1,1,0,1,0,0],.b 2,.c [1,1,1,1,1]] ?_
  rcases bool_cases (decide (v23<((List.replicate 16 (0)).length:Int))) with hb1 | hb1
  ·replace heq:=bif_true hb1 heq
   refine Ct (decide (v23<((List.replicate 16 (0)).length:Int))) hb1<|Ra 4 [1,1,1,1,0,1,0,0,1,1,0,0,0] [.c [1,1,1,1,0,1,0,0,1,1,0,0,1],.b 3,.c [1,1,1,1,0,1,0,0,1,1,1],.l [1,1,1,1,0,1,0,0],.b 2,.c [1,1,1,1,1]]<|Rd 2 [3,6,7,22,23] [(3,.int .u64 v_n3),(6,.slice Av_out6 v_out6.length cv_out6),(7,iv v23),(22,iv ((List.replicate 16 (0)).length:Int)),(23,iv v23)]<|Ra 1 [1,1,1,1,0,1,0,0,1,1,0,0,1,0] [.c [1,1,1,1,0,1,0,0,1,1,0,0,1,1],.b 3,.c [1,1,1,1,0,1,0,0,1,1,1],.l [1,1,1,1,0,1,0,0],.b 2,.c [1,1,1,1,1]] ?_
   obtain ⟨hn2,heq⟩:=guard?_some heq
   obtain ⟨x1,hx1,heq⟩:=bind_some heq
   obtain ⟨ha1,cs1,hK1,hcc1⟩:=hov_out6.get hx1
   obtain rfl:cs1=[.int .u8 x1]:=hK1
   refine Rv 7 [3,6,22,23,31,32] [] [.need ((0:Int)≤(iAnd .u64 v_n3 15)∧(iAnd .u64 v_n3 15)<(({ data:=#[48,49,50,51,52,53,54,55,56,57,97,98,99,100,101,102] }:ByteArray).size:Int)),.need (Av_out6=some (adr Av_out6)∧(0:Int)≤(w64 (15 - v23))∧(w64 (15 - v23))<((v_out6.length:Nat):Int))] [(3,.int .u64 v_n3),(6,.slice Av_out6 v_out6.length cv_out6),(22,iv ((List.replicate 16 (0)).length:Int)),(23,iv v23),(31,.int .u8 (bt ({ data:=#[48,49,50,51,52,53,54,55,56,57,97,98,99,100,101,102] }:ByteArray) (iAnd .u64 v_n3 15))),(32,.pointer (some ((adr Av_out6).add ((w64 (15 - v23)).toNat*1))))] (fun w hh=>⟨(both_of hn2),⟨ha1,(at?_some hx1).1,(at?_some hx1).2.1⟩⟩) ?_
   obtain ⟨ha2,cs2,hK2,hcc2⟩:=hov_out6.get hx1
   obtain rfl:cs2=[.int .u8 x1]:=hK2
   refine RgH.does (DoesH.storeEl (a:=((adr Av_out6).add ((w64 (15 - v23)).toNat*1))) (k:=0) (kd:=(Kd.int .u8)) (c0:=[.int .u8 x1]) (x':=(bt ({ data:=#[48,49,50,51,52,53,54,55,56,57,97,98,99,100,101,102] }:ByteArray) (iAnd .u64 v_n3 15))) (o:=0) (ix:=(w64 (15 - v23))) (v:=.int .u8 (bt ({ data:=#[48,49,50,51,52,53,54,55,56,57,97,98,99,100,101,102] }:ByteArray) (iAnd .u64 v_n3 15))) (by kernel_rfl) rfl hov_out6 hx1 (by kernel_rfl) hcc2 rfl (Nat.le_of_ble_eq_true (by kernel_rfl)) rfl) ?_
   rintro _ _ _ _ ⟨ch2,rfl,rfl,rfl,ho2⟩
   have hn3:v_out6.length=(v_out6.set (w64 (15 - v23)).toNat (bt ({ data:=#[48,49,50,51,52,53,54,55,56,57,97,98,99,100,101,102] }:ByteArray) (iAnd .u64 v_n3 15))).length:=by rw [List.length_set]
   refine Dn<|Rr<|Rw' 3 [3,6,22,23] [] [.need ((0:Int)≤4)] [(3,.int .u64 (iShr .u64 v_n3 4)),(6,.slice Av_out6 v_out6.length cv_out6),(22,iv ((List.replicate 16 (0)).length:Int)),(23,iv v23)] (fun w hh=>(show (0:Int)≤4 by decide))<|Ra 1 [1,1,1,1,0,1,0,0,1,1,1] [.l [1,1,1,1,0,1,0,0],.b 2,.c [1,1,1,1,1]]<|Rd 2 [3,6,22,23] [(3,.int .u64 (iShr .u64 v_n3 4)),(6,.slice Av_out6 v_out6.length cv_out6),(22,iv ((List.replicate 16 (0)).length:Int)),(23,iv (w64 (v23+1)))]<|Ad 1 [.c [1,1,1,1,0,1,0,0],.l [1,1,1,1,0,1,0,0],.b 2,.c [1,1,1,1,1]]<|Kp [3,6,22,23] [(3,.int .u64 (iShr .u64 v_n3 4)),(6,.slice Av_out6 v_out6.length cv_out6),(22,iv ((List.replicate 16 (0)).length:Int)),(23,iv (w64 (v23+1)))] ?_
   exact ihk (iShr .u64 v_n3 4) (v_out6.set (w64 (15 - v23)).toNat (bt ({ data:=#[48,49,50,51,52,53,54,55,56,57,97,98,99,100,101,102] }:ByteArray) (iAnd .u64 v_n3 15))) _ _ _ _ (w64 (v23+1)) ho2 hn3 heq
  ·replace heq:=bif_false hb1 heq
   refine Cf (decide (v23<((List.replicate 16 (0)).length:Int))) hb1<|Ad 2 [.c [1,1,1,1,1,0],.c [1,1,1,1,1,1]]<|Kp [6] [(6,.slice Av_out6 v_out6.length cv_out6)] ?_
   exact he2 v_out6 _ _ _ _ hov_out6 rfl heq
theorem blob_Digest.e1_c {w0:World} {H:Hp} {F:List Ch} {r:ByteArray}:∀ (v_n3:Int) ,blob_Digest.e1 v_n3=some r→RunH C12 (S12 F H r) H w0 [.c [1,1,1,0],.c [1,1,1,1]] [(3,.int .u64 v_n3)] H (F):=by
 intro v_n3  heq
 unfold blob_Digest.e1 at heq
 refine Rr ?_
 obtain ⟨hn1,heq⟩:=guard?_some heq
 simp only [Bool.and_eq_true,decide_eq_true_eq] at hn1
 refine RgH.does (DoesH.makeSlice (d:=20) (e:=5) (bytes:=1) (kd:=(Kd.int .u8)) (zc:=#[.int .u8 0]) (z:=0) (n:=16) (by kernel_rfl) hn1.1 (by have:=room_le hn1.2; simpa using this) (by have:=room_le hn1.2; simp at this; omega) rfl (by decide)) ?_
 rintro _ _ _ _ ⟨g1,ch1,rfl,rfl,rfl,ho1⟩
 refine Rd 2 [3,6] [(3,.int .u64 v_n3),(6,.slice (some ⟨g1,0,none⟩) ((List.replicate 16 (0)).length) 16)]<|Ra 2 [1,1,1,1,0,0] [.c [1,1,1,1,0,1],.c [1,1,1,1,1]]<|Rd 3 [3,6,22,23] [(3,.int .u64 v_n3),(6,.slice (some ⟨g1,0,none⟩) ((List.replicate 16 (0)).length) 16),(22,iv ((List.replicate 16 (0)).length:Int)),(23,iv 0)]<|Ad 2 [.c [1,1,1,1,0,1,0,0],.l [1,1,1,1,0,1,0,0],.b 2,.c [1,1,1,1,1]]<|Kp [3,6,22,23] [(3,.int .u64 v_n3),(6,.slice (some ⟨g1,0,none⟩) ((List.replicate 16 (0)).length) 16),(22,iv ((List.replicate 16 (0)).length:Int)),(23,iv 0)] ?_
 exact ((blob_Digest.l3_c (e2:=blob_Digest.e2) (blob_Digest.e2_c)) big) v_n3 (List.replicate 16 (0)) _ _ _ _ 0 ho1 rfl heq
theorem blob_Digest.l4_c {w0:World} {H:Hp} {F:List Ch} {r:ByteArray} (e1:Int→Option ByteArray)
  (he1:∀ (v_n3:Int) ,e1 v_n3=some r→RunH C12 (S12 F H r) H w0 [.c [1,1,1,0],.c [1,1,1,1]] [(3,.int .u64 v_n3)] H (F)):∀ (k:Nat),∀ (a0:List Int) (Aa0:Option Addr) (ca0:Nat) (v_n3:Int) (v10:Int) ,Rw (Kd.int .u8) H F Aa0 a0→a0.length≤ca0→blob_Digest.l4 e1 k a0 v_n3 v10=some r→RunH C12 (S12 F H r) H w0 [.c [1,1,0,1,0,0],.l [1,1,0,1,0,0],.b 0,.c [1,1,1]] [(3,.int .u64 v_n3),(8,.slice Aa0 a0.length ca0),(9,iv (a0.length:Int)),(10,iv v10)] H (F):=by
 intro k
 induction k with
 | zero=>intro a0 Aa0 ca0 v_n3 v10 hra0 hca0 heq; exact nomatch (show (none:Option ByteArray)=some r from heq)
 | succ k ihk =>
  intro a0 Aa0 ca0 v_n3 v10 hra0 hca0 heq
  rw [blob_Digest.l4] at heq
  refine Ra 1 [1,1,0,1,0,0,0] [.c [1,1,0,1,0,0,1],.l [1,1,0,1,0,0],.b 0,.c [1,1,1]]<|Rd 1 [3,8,9,10,11] [(3,.int .u64 v_n3),(8,.slice Aa0 a0.length ca0),(9,iv (a0.length:Int)),(10,iv v10),(11,.bool (decide (v10<(a0.length:Int))))]<|Ad 1 [.c [1,1,0,1,0,0,1,0],.c [1,1,0,1,0,0,1,1],.l [1,1,0,1,0,0],.b 0,.c [1,1,1]] ?_
  rcases bool_cases (decide (v10<(a0.length:Int))) with hb2 | hb2
  ·replace heq:=bif_true hb2 heq
   refine Ct (decide (v10<(a0.length:Int))) hb2<|Ra 4 [1,1,0,1,0,0,1,1,0,0,0] [.c [1,1,0,1,0,0,1,1,0,0,1],.b 1,.c [1,1,0,1,0,0,1,1,1],.l [1,1,0,1,0,0],.b 0,.c [1,1,1]] ?_
   obtain ⟨x2,hx2,heq⟩:=bind_some heq
   obtain ⟨ha3,cs3,hK3,hcc3⟩:=hra0.get hx2
   obtain rfl:cs3=[.int .u8 x2]:=hK3
   refine Rw' 3 [3,5,8,9,10] [.int .u8 x2] [.need (Aa0=some (adr Aa0)∧(0:Int)≤v10∧v10<((a0.length:Nat):Int)),.load ((adr Aa0).add (v10.toNat*1)) (.int .u8 x2)] [(3,.int .u64 v_n3),(5,.int .u8 x2),(8,.slice Aa0 a0.length ca0),(9,iv (a0.length:Int)),(10,iv v10)] (fun w hh=>⟨⟨ha3,(at?_some hx2).1,(at?_some hx2).2.1⟩,(hcc3 _ _ (hh.drop 0) 0 _ rfl)⟩)<|Rr<|Rd 6 [3,8,9,10] [(3,.int .u64 (IntKind.wrap .u64 ((iXor .u64 v_n3 (IntKind.wrap .u64 x2))*1099511628211))),(8,.slice Aa0 a0.length ca0),(9,iv (a0.length:Int)),(10,iv v10)]<|Ra 1 [1,1,0,1,0,0,1,1,1] [.l [1,1,0,1,0,0],.b 0,.c [1,1,1]]<|Rd 2 [3,8,9,10] [(3,.int .u64 (IntKind.wrap .u64 ((iXor .u64 v_n3 (IntKind.wrap .u64 x2))*1099511628211))),(8,.slice Aa0 a0.length ca0),(9,iv (a0.length:Int)),(10,iv (w64 (v10+1)))]<|Ad 1 [.c [1,1,0,1,0,0],.l [1,1,0,1,0,0],.b 0,.c [1,1,1]]<|Kp [3,8,9,10] [(3,.int .u64 (IntKind.wrap .u64 ((iXor .u64 v_n3 (IntKind.wrap .u64 x2))*1099511628211))),(8,.slice Aa0 a0.length ca0),(9,iv (a0.length:Int)),(10,iv (w64 (v10+1)))] ?_
   exact ihk a0 _ _ (IntKind.wrap .u64 ((iXor .u64 v_n3 (IntKind.wrap .u64 x2))*1099511628211)) (w64 (v10+1)) hra0 hca0 heq
  ·replace heq:=bif_false hb2 heq
   refine Cf (decide (v10<(a0.length:Int))) hb2<|Ad 2 [.c [1,1,1,0],.c [1,1,1,1]]<|Kp [3] [(3,.int .u64 v_n3)] ?_
   exact he1 v_n3 heq
theorem blob_Digest_c {w0:World} {H:Hp} {F:List Ch} {a0:List Int} {Aa0:Option Addr} {na0:Nat} {ca0:Nat} {r:ByteArray} (hra0:Rw (Kd.int .u8) H F Aa0 a0) (hca0:na0≤ca0) (hna0:na0=a0.length) (heq:blob_Digest.f a0=some r):CallsH Tryd.prog 12 #[.slice Aa0 na0 ca0] H w0 (F) (S12 F H r):=by
 refine calls_of_runH (F:=C12) Tryd.func12 (by kernel_rfl) Tryd.ntmps12 (args:=[.slice Aa0 na0 ca0]) (by kernel_rfl) ?_
 subst hna0
 unfold blob_Digest.f at heq
 refine Ra 1 [0] [.c [1]]<|Rd 1 [0] [(0,.slice Aa0 a0.length ca0)]<|Ra 1 [1,0] [.c [1,1]]<|Rd 1 [0,3] [(0,.slice Aa0 a0.length ca0),(3,.int .u64 14695981039346656037)]<|Ra 2 [1,1,0,0] [.c [1,1,0,1],.c [1,1,1]]<|Rd 3 [3,8,9,10] [(3,.int .u64 14695981039346656037),(8,.slice Aa0 a0.length ca0),(9,iv (a0.length:Int)),(10,iv 0)]<|Ad 2 [.c [1,1,0,1,0,0],.l [1,1,0,1,0,0],.b 0,.c [1,1,1]]<|Kp [3,8,9,10] [(3,.int .u64 14695981039346656037),(8,.slice Aa0 a0.length ca0),(9,iv (a0.length:Int)),(10,iv 0)] ?_
 exact ((blob_Digest.l4_c (e1:=blob_Digest.e1) (blob_Digest.e1_c)) big) a0 _ _ 14695981039346656037 0 hra0 hca0 heq
noncomputable def C6:Ctx:={ P:=Tryd.prog,f:=6,N:=5,c:=bodyOf Tryd.f6 }
def S6 (F:List Ch) (H0:Hp) (r:Bool) (v:Value) (H:Hp) (cs:List Ch):Prop:=H0=H∧v=.bool r∧F=cs
theorem smithyardtop_lives_c {w0:World} {H:Hp} {F:List Ch} {r:Bool} (heq:smithyardtop_lives.f=some r):CallsH Tryd.prog 6 (List.toArray []) H w0 (F) (S6 F H r):=by
 refine calls_of_runH (F:=C6) Tryd.func6 (by kernel_rfl) Tryd.ntmps6 (args:=[]) (by kernel_rfl) ?_
 unfold smithyardtop_lives.f at heq
 refine Ra 1 [0] [.c [1]]<|Rd 1 [] []<|Ra 1 [1,0] [.c [1,1]] ?_
 refine RgH.does (DoesH.new (d:=1) (v:=fun g=>.slice (some ⟨g,0,none⟩) 1 1) (o:=fun g=>.cells #[.int .u8 97] 5 (0,0)) (fun g=>by kernel_rfl)) ?_
 rintro _ _ _ _ ⟨g1,rfl,rfl,rfl⟩
 have ho1:SlOwn (Kd.int .u8) 5 H (some ⟨g1,0,none⟩) 1 ([97]:List Int) (some (g1,.cells #[.int .u8 97] 5 (0,0))):=SlOwn.lit (xs:=([97]:List Int)) (by kernel_rfl) (Nat.le_of_ble_eq_true (by kernel_rfl)) (Kd.Rep.scalars rfl)
 refine RgH.does (DoesH.mark (d:=2) (g:=g1) (n:=1) (c:=1) (C:=#[.int .u8 97]) (e':=5) (by kernel_rfl)) ?_
 rintro _ _ _ _ ⟨rfl,rfl,rfl⟩
 have ho2:MkOwn (Kd.int .u8) H (some ⟨g1,0,none⟩) 1 ([97]:List Int) (some (g1,.cells #[.int .u8 97] 5 ((#[.int .u8 97]:Array Value).size,(#[.int .u8 97]:Array Value).size+1))):=MkOwn.lit (xs:=([97]:List Int)) (Kd.Rep.scalars rfl)
 obtain ⟨y1,hy1,heq⟩:=bind_some heq
 refine RgH.does (DoesH.call (d:=3) (g:=12) (args:=#[.slice (some ⟨g1,0,none⟩) 1 1]) (by kernel_rfl) (blob_Digest_c (a0:=([97]:List Int)) (ho2.rw (.head _)) ho2.cap rfl hy1)) ?_
 rintro _ _ _ _ ⟨_,rfl,rfl,rfl,rfl⟩
 refine Rd 5 [0] [(0,.bool (sEq y1 ({ data:=#[97,102,54,51,100,99,52,99,56,54,48,49,101,99,56,99] }:ByteArray)))] ?_
 obtain rfl:=Option.some.inj heq
 refine RunH.pick 1 [] (cs':=F) (by kernel_rfl) rfl ?_
 exact RunH.done (by kernel_rfl) Tryd.func6 (v:=.bool (sEq y1 ({ data:=#[97,102,54,51,100,99,52,99,56,54,48,49,101,99,56,99] }:ByteArray))) (by kernel_rfl) ⟨rfl,rfl,rfl⟩
end Go.Proofs.YtadkanllaocdeaaDoor
