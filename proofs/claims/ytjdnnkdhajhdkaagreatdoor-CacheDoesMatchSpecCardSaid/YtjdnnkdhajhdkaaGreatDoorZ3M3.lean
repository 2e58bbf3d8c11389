/- What the machine's calls of these functions come to: just what the plain functions say. Written by program. -/
import Derived.Test.YtjdnnkdhajhdkaaGreatDoorProg
import Derived.Test.YtjdnnkdhajhdkaaGreatDoorKitXi
import Derived.Test.YtjdnnkdhajhdkaaGreatDoorZD
import Derived.Test.YtjdnnkdhajhdkaaGreatDoorShelf
import Derived.Test.YtjdnnkdhajhdkaaGreatDoorZ3M2
set_option linter.unusedVariables false
set_option linter.unnecessarySimpa false
set_option linter.unusedSimpArgs false
set_option maxRecDepth 100000
set_option maxHeartbeats 1000000
namespace Go.Proofs.YtjdnnkdhajhdkaaGreatDoor
open Go Go.RowKit Go.Proofs.YtjdnnkdhajhdkaaGreatDoor.Kit
variable {w0 : World} {H0 H : Hp} {F : List Ch}
noncomputable def C88:Ctx:={ P:=Tryz.prog,f:=88,N:=77,c:=bodyOf Tryz.f88 }
def S88 (F:List Ch) (H0:Hp) (r:(List ByteArray)) (v:Value) (H:Hp) (cs:List Ch):Prop:=∃ (A0:Option Addr) (c0:Nat) (ch0:Ch),H0=H∧v=.slice A0 r.length c0∧ch0::F=cs∧SlOwn Kd.string 9 H A0 c0 r ch0
theorem smithyardref7_row.e2_c {r:(List ByteArray)}:∀ (v_out10:List ByteArray) (Av_out10:Option Addr) (nv_out10 cv_out10:Nat) (chv_out10:Ch) ,SlOwn Kd.string 9 H Av_out10 cv_out10 v_out10 chv_out10→nv_out10=v_out10.length→smithyardref7_row.e2 v_out10=some r→RunH C88 (S88 F H r) H w0 [.c [1,1,1,1,1,0],.c [1,1,1,1,1,1]] [(10,.slice Av_out10 nv_out10 cv_out10)] H (chv_out10::F):=by
 intro v_out10 Av_out10 nv_out10 cv_out10 chv_out10 hov_out10 hnv_out10 heq
 subst hnv_out10
 unfold smithyardref7_row.e2 at heq
 refine Sa 0<|Zd 2 ?_
 obtain rfl:=Option.some.inj heq
 exact RunH.done (by kernel_rfl) Tryz.func88 (v:=.slice Av_out10 v_out10.length cv_out10) (by kernel_rfl) ⟨Av_out10,cv_out10,chv_out10,rfl,rfl,rfl,hov_out10⟩
theorem smithyardref7_row.l3_c {r:(List ByteArray)} (e2:(List ByteArray)→Option (List ByteArray))
  (he2:∀ (v_out10:List ByteArray) (Av_out10:Option Addr) (nv_out10 cv_out10:Nat) (chv_out10:Ch) ,SlOwn Kd.string 9 H Av_out10 cv_out10 v_out10 chv_out10→nv_out10=v_out10.length→e2 v_out10=some r→RunH C88 (S88 F H r) H w0 [.c [1,1,1,1,1,0],.c [1,1,1,1,1,1]] [(10,.slice Av_out10 nv_out10 cv_out10)] H (chv_out10::F)):∀ (k:Nat),∀ (v_l5:List Blob) (Av_l5:Option Addr) (cv_l5:Nat) (chv_l5:Ch) (v_out10:List ByteArray) (Av_out10:Option Addr) (nv_out10 cv_out10:Nat) (chv_out10:Ch) (v_i11:Int) ,SlOwn kBlob 45 H Av_l5 cv_l5 v_l5 chv_l5→SlOwn Kd.string 9 H Av_out10 cv_out10 v_out10 chv_out10→nv_out10=v_out10.length→smithyardref7_row.l3 e2 k v_l5 v_out10 v_i11=some r→RunH C88 (S88 F H r) H w0 [.c [1,1,1,1,0,1,0,0],.l [1,1,1,1,0,1,0,0],.b 4,.c [1,1,1,1,1]] [(5,.slice Av_l5 v_l5.length cv_l5),(10,.slice Av_out10 nv_out10 cv_out10),(11,iv v_i11)] H (chv_out10::chv_l5::F):=by
 intro k
 induction k with
 | zero=>intro v_l5 Av_l5 cv_l5 chv_l5 v_out10 Av_out10 nv_out10 cv_out10 chv_out10 v_i11 hov_l5 hov_out10 hnv_out10 heq; exact nomatch (show (none:Option (List ByteArray))=some r from heq)
 | succ k ihk =>
  intro v_l5 Av_l5 cv_l5 chv_l5 v_out10 Av_out10 nv_out10 cv_out10 chv_out10 v_i11 hov_l5 hov_out10 hnv_out10 heq
  subst hnv_out10
  rw [smithyardref7_row.l3] at heq
  refine Sa 2<|Zd 4 ?_
  refine Cb heq ?_ ?_
  ·intro hb1 heq
   refine Sa 3 ?_
   obtain ⟨x1,hx1,heq⟩:=bind_some heq
   obtain ⟨ha1,cs1,hK1,hcc1⟩:=hov_l5.get hx1
   obtain ⟨rfl⟩:=kBlob_open hK1
   refine Zv 6 [nx ha1 hx1,el hcc1 1 0] ?_
   refine RgH.does (DoesH.new (d:=74) (v:=fun g=>.slice (some ⟨g,0,none⟩) 1 1) (o:=fun g=>.cells #[.string x1.Digest] 9 (0,0)) (fun g=>by kernel_rfl)) ?_
   rintro _ _ _ _ ⟨g1,rfl,rfl,rfl⟩
   have ho1:SlOwn Kd.string 9 H (some ⟨g1,0,none⟩) 1 ([x1.Digest]:List ByteArray) (some (g1,.cells #[.string x1.Digest] 9 (0,0))):=SlOwn.lit (xs:=([x1.Digest]:List ByteArray)) (by kernel_rfl) (Nat.le_of_ble_eq_true (by kernel_rfl)) (Kd.Rep.scalars rfl)
   obtain ⟨hn1,heq⟩:=guard?_some heq
   refine RgH.does (DoesH.append (d:=75) (k:=1) (t:=26) (e:=9) (bytes:=16) (kd:=Kd.string) (n:=v_out10.length) (m:=1) (xs:=v_out10) (ys:=([x1.Digest]:List ByteArray)) (A:=Av_out10) (B:=(some ⟨g1,0,none⟩)) (c:=cv_out10) (cB:=1) (by kernel_rfl) rfl rfl (by kernel_rfl) rfl hov_out10 (fun w hh=>ho1.rdb (hh.chin 0 rfl)) (room_le hn1) (by have:=room_le hn1; omega)) ?_
   rintro _ _ _ _ ⟨A1,c1,ch1,rfl,rfl,rfl,ho2⟩
   refine RgH.nrm ?_
   refine Zd 9<|Sa 1<|Zd 3<|An 1 ?_
   exact Gt 1 [] (ihk v_l5 _ _ _ (v_out10++([x1.Digest]:List ByteArray)) _ _ _ _ (w64 (v_i11+1)) hov_l5 ho2 rfl heq)
  ·intro hb1 heq
   refine An 2 ?_
   exact Gt 2 [0] (he2 v_out10 _ _ _ _ hov_out10 rfl heq)
theorem smithyardref7_row.e1_c {r:(List ByteArray)}:∀ (v_l5:List Blob) (Av_l5:Option Addr) (nv_l5 cv_l5:Nat) (chv_l5:Ch) ,SlOwn kBlob 45 H Av_l5 cv_l5 v_l5 chv_l5→nv_l5=v_l5.length→smithyardref7_row.e1 v_l5=some r→RunH C88 (S88 F H r) H w0 [.c [1,1,1,0],.c [1,1,1,1]] [(5,.slice Av_l5 nv_l5 cv_l5)] H (chv_l5::F):=by
 intro v_l5 Av_l5 nv_l5 cv_l5 chv_l5 hov_l5 hnv_l5 heq
 subst hnv_l5
 unfold smithyardref7_row.e1 at heq
 refine Sa 0<|Zd 1<|Sa 2<|Zd 1<|An 2<|RunH.nilc ?_
 have ho3:SlOwn Kd.string 9 H none 0 ([]:List ByteArray) none:=SlOwn.nil
 exact Gt 0 [] (((smithyardref7_row.l3_c (e2:=smithyardref7_row.e2) (smithyardref7_row.e2_c)) big) v_l5 _ _ _ ([]:List ByteArray) _ _ _ _ 0 hov_l5 ho3 rfl heq)
theorem smithyardref7_row.j5_c {r:(List ByteArray)} (backl4:Cache→Int→(List Blob)→Int→Option (List ByteArray))
  (hbackl4:∀ (ga0:Nat) (a0:Cache) (Aa0_2:Option Addr) (ca0_2:Nat) (Aa0_3:Option Addr) (ca0_3:Nat) (a1:Int) (v_l5:List Blob) (Av_l5:Option Addr) (nv_l5 cv_l5:Nat) (chv_l5:Ch) (v_i6:Int) ,Rw kBlob H F Aa0_2 a0.Blobs→a0.Blobs.length≤ca0_2→Rw kEntry H F Aa0_3 a0.Entries→a0.Entries.length≤ca0_3→InG H F ga0 (.cells #[iv a0.Room,iv a0.Lease,.slice Aa0_2 a0.Blobs.length ca0_2,.slice Aa0_3 a0.Entries.length ca0_3] 25 (0,0))→SlOwn kBlob 45 H Av_l5 cv_l5 v_l5 chv_l5→nv_l5=v_l5.length→backl4 a0 a1 v_l5 v_i6=some r→RunH C88 (S88 F H r) H w0 [.c [1,1,0,1,0,0],.l [1,1,0,1,0,0],.b 0,.c [1,1,1]] [(0,pg ga0 0),(1,iv a1),(5,.slice Av_l5 nv_l5 cv_l5),(6,iv v_i6)] H (chv_l5::F)):∀ (ga0:Nat) (a0:Cache) (Aa0_2:Option Addr) (ca0_2:Nat) (Aa0_3:Option Addr) (ca0_3:Nat) (a1 v_i6:Int) (v_l5:List Blob) (Av_l5:Option Addr) (nv_l5 cv_l5:Nat) (chv_l5:Ch) ,Rw kBlob H F Aa0_2 a0.Blobs→a0.Blobs.length≤ca0_2→Rw kEntry H F Aa0_3 a0.Entries→a0.Entries.length≤ca0_3→InG H F ga0 (.cells #[iv a0.Room,iv a0.Lease,.slice Aa0_2 a0.Blobs.length ca0_2,.slice Aa0_3 a0.Entries.length ca0_3] 25 (0,0))→SlOwn kBlob 45 H Av_l5 cv_l5 v_l5 chv_l5→nv_l5=v_l5.length→smithyardref7_row.j5 backl4 a0 a1 v_i6 v_l5=some r→RunH C88 (S88 F H r) H w0 [.c [1,1,0,1,0,0,1,1],.l [1,1,0,1,0,0],.b 0,.c [1,1,1]] [(0,pg ga0 0),(1,iv a1),(5,.slice Av_l5 nv_l5 cv_l5),(6,iv v_i6)] H (chv_l5::F):=by
 intro ga0 a0 Aa0_2 ca0_2 Aa0_3 ca0_3 a1 v_i6 v_l5 Av_l5 nv_l5 cv_l5 chv_l5 hra0_2 hca0_2 hra0_3 hca0_3 hga0 hov_l5 hnv_l5 heq
 subst hnv_l5
 unfold smithyardref7_row.j5 at heq
 refine Sa 0<|Zd 3<|An 1 ?_
 exact Gt 0 [] (hbackl4 _ a0 _ _ _ _ a1 v_l5 _ _ _ _ (w64 (v_i6+1)) hra0_2 hca0_2 hra0_3 hca0_3 hga0 hov_l5 rfl heq)
theorem smithyardref7_row.e6_c {r:(List ByteArray)} (j5:Cache→Int→Int→(List Blob)→Option (List ByteArray))
  (hj5:∀ (ga0:Nat) (a0:Cache) (Aa0_2:Option Addr) (ca0_2:Nat) (Aa0_3:Option Addr) (ca0_3:Nat) (a1 v_i6:Int) (v_l5:List Blob) (Av_l5:Option Addr) (nv_l5 cv_l5:Nat) (chv_l5:Ch) ,Rw kBlob H F Aa0_2 a0.Blobs→a0.Blobs.length≤ca0_2→Rw kEntry H F Aa0_3 a0.Entries→a0.Entries.length≤ca0_3→InG H F ga0 (.cells #[iv a0.Room,iv a0.Lease,.slice Aa0_2 a0.Blobs.length ca0_2,.slice Aa0_3 a0.Entries.length ca0_3] 25 (0,0))→SlOwn kBlob 45 H Av_l5 cv_l5 v_l5 chv_l5→nv_l5=v_l5.length→j5 a0 a1 v_i6 v_l5=some r→RunH C88 (S88 F H r) H w0 [.c [1,1,0,1,0,0,1,1],.l [1,1,0,1,0,0],.b 0,.c [1,1,1]] [(0,pg ga0 0),(1,iv a1),(5,.slice Av_l5 nv_l5 cv_l5),(6,iv v_i6)] H (chv_l5::F)):∀ (ga0:Nat) (a0:Cache) (Aa0_2:Option Addr) (ca0_2:Nat) (Aa0_3:Option Addr) (ca0_3:Nat) (a1:Int) (v_l5:List Blob) (Av_l5:Option Addr) (cv_l5:Nat) (chv_l5:Ch) (v_i6:Int) (x2:Blob) (g2:Nat) (v_k8:Int) ,Rw kBlob H F Aa0_2 a0.Blobs→a0.Blobs.length≤ca0_2→Rw kEntry H F Aa0_3 a0.Entries→a0.Entries.length≤ca0_3→InG H F ga0 (.cells #[iv a0.Room,iv a0.Lease,.slice Aa0_2 a0.Blobs.length ca0_2,.slice Aa0_3 a0.Entries.length ca0_3] 25 (0,0))→SlOwn kBlob 45 H Av_l5 cv_l5 v_l5 chv_l5→smithyardref7_row.e6 j5 a0 a1 v_l5 v_i6 x2 v_k8=some r→RunH C88 (S88 F H r) H w0 [.c [1,1,0,1,0,0,1,0,0,1,1,1,1,0],.c [1,1,0,1,0,0,1,0,0,1,1,1,1,1],.b 1,.c [1,1,0,1,0,0,1,1],.l [1,1,0,1,0,0],.b 0,.c [1,1,1]] [(0,pg ga0 0),(1,iv a1),(5,.slice Av_l5 v_l5.length cv_l5),(6,iv v_i6),(7,pg g2 0),(8,iv v_k8)] H ((some (g2,.cells #[.string x2.Digest,iv x2.Size,iv x2.Used,iv x2.Until,iv x2.Pins] 45 (0,0)))::chv_l5::F):=by
 intro ga0 a0 Aa0_2 ca0_2 Aa0_3 ca0_3 a1 v_l5 Av_l5 cv_l5 chv_l5 v_i6 x2 g2 v_k8 hra0_2 hca0_2 hra0_3 hca0_3 hga0 hov_l5 heq
 unfold smithyardref7_row.e6 at heq
 refine Sa 0<|Zd 1<|Sa 1 ?_
 obtain ⟨hn3,heq⟩:=guard?_some heq
 have hn2:v_k8.toNat=(v_l5.take v_k8.toNat).length:=by have h1:=both_of hn3; have h3:=trivial; (try simp); (try omega)
 have ho4:=hov_l5.take v_k8.toNat
 refine Zv 4 [⟨.need ((0:Int)≤v_k8∧v_k8≤((cv_l5:Nat):Int)),fun w hh=>⟨(both_of hn3).1,(by have h1:=(both_of hn3).2; have h2:=hov_l5.cap; have h3:=trivial; omega)⟩⟩]<|RgH.nilc ?_
 have ho5:SlOwn kBlob 45 H none 0 ([]:List Blob) none:=SlOwn.nil
 obtain ⟨hn4,heq⟩:=guard?_some heq
 refine RgH.does (DoesH.append (d:=52) (k:=0) (t:=22) (e:=45) (bytes:=48) (kd:=kBlob) (n:=0) (m:=v_k8.toNat) (xs:=([]:List Blob)) (ys:=(v_l5.take v_k8.toNat)) (A:=none) (B:=Av_l5) (c:=0) (cB:=cv_l5) (by kernel_rfl) rfl hn2 (by kernel_rfl) rfl ho5 (fun w hh=>ho4.rdb (hh.chin 2 rfl)) (room_le hn4) (by have:=room_le hn4; omega)) ?_
 rintro _ _ _ _ ⟨A2,c2,ch2,rfl,rfl,rfl,ho6⟩
 refine RgH.nrm ?_
 refine Zd 6<|Sa 1<|Zv 2 (bxs 1) ?_
 refine RgH.does (DoesH.new (d:=55) (v:=fun g=>.slice (some ⟨g,0,none⟩) 1 1) (o:=fun g=>.cells #[.string x2.Digest,iv x2.Size,iv x2.Used,iv x2.Until,iv x2.Pins] 45 (0,0)) (fun g=>by kernel_rfl)) ?_
 rintro _ _ _ _ ⟨g3,rfl,rfl,rfl⟩
 have ho7:SlOwn kBlob 45 H (some ⟨g3,0,none⟩) 1 ([x2]:List Blob) (some (g3,.cells #[.string x2.Digest,iv x2.Size,iv x2.Used,iv x2.Until,iv x2.Pins] 45 (0,0))):=SlOwn.lit (xs:=([x2]:List Blob)) (by kernel_rfl) (Nat.le_of_ble_eq_true (by kernel_rfl)) (Kd.Rep.one kBlob_mk)
 obtain ⟨hn5,heq⟩:=guard?_some heq
 refine RgH.does (DoesH.append (d:=56) (k:=1) (t:=22) (e:=45) (bytes:=48) (kd:=kBlob) (n:=(([]:List Blob)++(v_l5.take v_k8.toNat)).length) (m:=1) (xs:=(([]:List Blob)++(v_l5.take v_k8.toNat))) (ys:=([x2]:List Blob)) (A:=A2) (B:=(some ⟨g3,0,none⟩)) (c:=c2) (cB:=1) (by kernel_rfl) rfl rfl (by kernel_rfl) rfl ho6 (fun w hh=>ho7.rdb (hh.chin 0 rfl)) (room_le hn5) (by have:=room_le hn5; omega)) ?_
 rintro _ _ _ _ ⟨A3,c3,ch3,rfl,rfl,rfl,ho8⟩
 refine RgH.nrm ?_
 refine Zd 5<|Sa 0 ?_
 obtain ⟨hn7,heq⟩:=guard?_some heq
 have hn6:v_l5.length - v_k8.toNat=(v_l5.drop v_k8.toNat).length:=by have h1:=both_of hn7; have h3:=trivial; (try simp); (try omega)
 have ho9:=hov_l5.drop v_k8.toNat (by have h2:=hov_l5.cap; have h3:=trivial; have h1:=both_of hn7; omega)
 refine Zv 4 [⟨.need ((0:Int)≤v_k8∧v_k8≤((v_l5.length:Nat):Int)),fun w hh=>(both_of hn7)⟩] ?_
 obtain ⟨hn8,heq⟩:=guard?_some heq
 refine RgH.does (DoesH.append (d:=61) (k:=1) (t:=22) (e:=45) (bytes:=48) (kd:=kBlob) (n:=((([]:List Blob)++(v_l5.take v_k8.toNat))++([x2]:List Blob)).length) (m:=v_l5.length - v_k8.toNat) (xs:=((([]:List Blob)++(v_l5.take v_k8.toNat))++([x2]:List Blob))) (ys:=(v_l5.drop v_k8.toNat)) (A:=A3) (B:=(shiftA cv_l5 v_k8.toNat 5 Av_l5)) (c:=c3) (cB:=(cv_l5 - v_k8.toNat)) (by kernel_rfl) rfl hn6 (by kernel_rfl) rfl ho8 (fun w hh=>ho9.rdb (hh.chin 3 rfl)) (room_le hn8) (by have:=room_le hn8; omega)) ?_
 rintro _ _ _ _ ⟨A4,c4,ch4,rfl,rfl,rfl,ho10⟩
 refine RgH.nrm ?_
 refine Zd 6<|An 1 ?_
 exact Gt 4 [1] (hj5 _ a0 _ _ _ _ a1 v_i6 (((([]:List Blob)++(v_l5.take v_k8.toNat))++([x2]:List Blob))++(v_l5.drop v_k8.toNat)) _ _ _ _ hra0_2 hca0_2 hra0_3 hca0_3 hga0 ho10 rfl heq)
theorem smithyardref7_row.l7_c {r:(List ByteArray)} (e6:Cache→Int→(List Blob)→Int→Blob→Int→Option (List ByteArray))
  (he6:∀ (ga0:Nat) (a0:Cache) (Aa0_2:Option Addr) (ca0_2:Nat) (Aa0_3:Option Addr) (ca0_3:Nat) (a1:Int) (v_l5:List Blob) (Av_l5:Option Addr) (cv_l5:Nat) (chv_l5:Ch) (v_i6:Int) (x2:Blob) (g2:Nat) (v_k8:Int) ,Rw kBlob H F Aa0_2 a0.Blobs→a0.Blobs.length≤ca0_2→Rw kEntry H F Aa0_3 a0.Entries→a0.Entries.length≤ca0_3→InG H F ga0 (.cells #[iv a0.Room,iv a0.Lease,.slice Aa0_2 a0.Blobs.length ca0_2,.slice Aa0_3 a0.Entries.length ca0_3] 25 (0,0))→SlOwn kBlob 45 H Av_l5 cv_l5 v_l5 chv_l5→e6 a0 a1 v_l5 v_i6 x2 v_k8=some r→RunH C88 (S88 F H r) H w0 [.c [1,1,0,1,0,0,1,0,0,1,1,1,1,0],.c [1,1,0,1,0,0,1,0,0,1,1,1,1,1],.b 1,.c [1,1,0,1,0,0,1,1],.l [1,1,0,1,0,0],.b 0,.c [1,1,1]] [(0,pg ga0 0),(1,iv a1),(5,.slice Av_l5 v_l5.length cv_l5),(6,iv v_i6),(7,pg g2 0),(8,iv v_k8)] H ((some (g2,.cells #[.string x2.Digest,iv x2.Size,iv x2.Used,iv x2.Until,iv x2.Pins] 45 (0,0)))::chv_l5::F)):∀ (k:Nat),∀ (ga0:Nat) (a0:Cache) (Aa0_2:Option Addr) (ca0_2:Nat) (Aa0_3:Option Addr) (ca0_3:Nat) (a1:Int) (v_l5:List Blob) (Av_l5:Option Addr) (cv_l5:Nat) (chv_l5:Ch) (v_i6:Int) (x2:Blob) (g2:Nat) (v_k8:Int) ,Rw kBlob H F Aa0_2 a0.Blobs→a0.Blobs.length≤ca0_2→Rw kEntry H F Aa0_3 a0.Entries→a0.Entries.length≤ca0_3→InG H F ga0 (.cells #[iv a0.Room,iv a0.Lease,.slice Aa0_2 a0.Blobs.length ca0_2,.slice Aa0_3 a0.Entries.length ca0_3] 25 (0,0))→SlOwn kBlob 45 H Av_l5 cv_l5 v_l5 chv_l5→smithyardref7_row.l7 e6 k a0 a1 v_l5 v_i6 x2 v_k8=some r→RunH C88 (S88 F H r) H w0 [.c [1,1,0,1,0,0,1,0,0,1,1,1,0,0,0],.l [1,1,0,1,0,0,1,0,0,1,1,1,0,0,0],.b 2,.c [1,1,0,1,0,0,1,0,0,1,1,1,1],.b 1,.c [1,1,0,1,0,0,1,1],.l [1,1,0,1,0,0],.b 0,.c [1,1,1]] [(0,pg ga0 0),(1,iv a1),(5,.slice Av_l5 v_l5.length cv_l5),(6,iv v_i6),(7,pg g2 0),(8,iv v_k8)] H ((some (g2,.cells #[.string x2.Digest,iv x2.Size,iv x2.Used,iv x2.Until,iv x2.Pins] 45 (0,0)))::chv_l5::F):=by
 intro k
 induction k with
 | zero=>intro ga0 a0 Aa0_2 ca0_2 Aa0_3 ca0_3 a1 v_l5 Av_l5 cv_l5 chv_l5 v_i6 x2 g2 v_k8 hra0_2 hca0_2 hra0_3 hca0_3 hga0 hov_l5 heq; exact nomatch (show (none:Option (List ByteArray))=some r from heq)
 | succ k ihk =>
  intro ga0 a0 Aa0_2 ca0_2 Aa0_3 ca0_3 a1 v_l5 Av_l5 cv_l5 chv_l5 v_i6 x2 g2 v_k8 hra0_2 hca0_2 hra0_3 hca0_3 hga0 hov_l5 heq
  rw [smithyardref7_row.l7] at heq
  refine An 2 ?_
  obtain ⟨t1,ht1,heq⟩:=bind_some heq
  have K11:RunH C88 (S88 F H r) H w0 [.c [1,1,0,1,0,0,1,0,0,1,1,1,0,0,0,0,1],.c [1,1,0,1,0,0,1,0,0,1,1,1,0,0,0,1],.l [1,1,0,1,0,0,1,0,0,1,1,1,0,0,0],.b 2,.c [1,1,0,1,0,0,1,0,0,1,1,1,1],.b 1,.c [1,1,0,1,0,0,1,1],.l [1,1,0,1,0,0],.b 0,.c [1,1,1]] [(0,pg ga0 0),(1,iv a1),(5,.slice Av_l5 v_l5.length cv_l5),(6,iv v_i6),(7,pg g2 0),(8,iv v_k8),(45,.bool t1)] H ((some (g2,.cells #[.string x2.Digest,iv x2.Size,iv x2.Used,iv x2.Until,iv x2.Pins] 45 (0,0)))::chv_l5::F):=by
   refine Cb heq ?_ ?_
   ·intro hb5 heq
    refine Sa 2<|Zd 3<|An 2 ?_
    exact Gt 0 [] (ihk _ a0 _ _ _ _ a1 v_l5 _ _ _ v_i6 x2 _ (w64 (v_k8 - 1)) hra0_2 hca0_2 hra0_3 hca0_3 hga0 hov_l5 heq)
   ·intro hb5 heq
    refine An 2 ?_
    exact Gt 0 [] (he6 _ a0 _ _ _ _ a1 v_l5 _ _ _ v_i6 x2 _ v_k8 hra0_2 hca0_2 hra0_3 hca0_3 hga0 hov_l5 heq)
  replace heq:=ht1
  refine Sd 0 13 [] [3,3,3,3,3,3,3,3,3,3,3,3,3]<|Zr [0,1,2] 10 [] (Pk 2 [0,1]) (Pk 2 [0,1]) ?_
  rcases bool_cases (decide (0<v_k8)) with hb4 | hb4
  ·replace heq:=bif_true hb4 heq
   refine Zu 35 (congrArg Value.bool hb4) ?_
   obtain ⟨x3,hx3,heq⟩:=bind_some heq
   obtain ⟨ha3,cs3,hK3,hcc3⟩:=hov_l5.get hx3
   obtain ⟨rfl⟩:=kBlob_open hK3
   refine Zr [3,4,5,6,7,8,9,10,11,12] 0 [nx ha3 hx3,el hcc3 1 2,bx 0 2] (Pk 2 [0,1]) (Pk 2 [0,1]) ?_
   obtain rfl:=Option.some.inj heq
   refine DrH.done (by kernel_rfl) ?_
   exact Gt 0 [] (K11)
  ·replace heq:=bif_false hb4 heq
   refine Zu 35 (congrArg Value.bool hb4)<|Zr [3,4,5,6,7,8,9,10,11,12] 0 [] (Pk 2 [0,1]) (Pk 2 [0,1]) ?_
   obtain rfl:=Option.some.inj heq
   refine DrH.done (by kernel_rfl) ?_
   exact Gt 0 [] (K11)
theorem smithyardref7_row.l4_c {r:(List ByteArray)} (e1:(List Blob)→Option (List ByteArray))
  (he1:∀ (v_l5:List Blob) (Av_l5:Option Addr) (nv_l5 cv_l5:Nat) (chv_l5:Ch) ,SlOwn kBlob 45 H Av_l5 cv_l5 v_l5 chv_l5→nv_l5=v_l5.length→e1 v_l5=some r→RunH C88 (S88 F H r) H w0 [.c [1,1,1,0],.c [1,1,1,1]] [(5,.slice Av_l5 nv_l5 cv_l5)] H (chv_l5::F)):∀ (k:Nat),∀ (ga0:Nat) (a0:Cache) (Aa0_2:Option Addr) (ca0_2:Nat) (Aa0_3:Option Addr) (ca0_3:Nat) (a1:Int) (v_l5:List Blob) (Av_l5:Option Addr) (nv_l5 cv_l5:Nat) (chv_l5:Ch) (v_i6:Int) ,Rw kBlob H F Aa0_2 a0.Blobs→a0.Blobs.length≤ca0_2→Rw kEntry H F Aa0_3 a0.Entries→a0.Entries.length≤ca0_3→InG H F ga0 (.cells #[iv a0.Room,iv a0.Lease,.slice Aa0_2 a0.Blobs.length ca0_2,.slice Aa0_3 a0.Entries.length ca0_3] 25 (0,0))→SlOwn kBlob 45 H Av_l5 cv_l5 v_l5 chv_l5→nv_l5=v_l5.length→smithyardref7_row.l4 e1 k a0 a1 v_l5 v_i6=some r→RunH C88 (S88 F H r) H w0 [.c [1,1,0,1,0,0],.l [1,1,0,1,0,0],.b 0,.c [1,1,1]] [(0,pg ga0 0),(1,iv a1),(5,.slice Av_l5 nv_l5 cv_l5),(6,iv v_i6)] H (chv_l5::F):=by
 intro k
 induction k with
 | zero=>intro ga0 a0 Aa0_2 ca0_2 Aa0_3 ca0_3 a1 v_l5 Av_l5 nv_l5 cv_l5 chv_l5 v_i6 hra0_2 hca0_2 hra0_3 hca0_3 hga0 hov_l5 hnv_l5 heq; exact nomatch (show (none:Option (List ByteArray))=some r from heq)
 | succ k ihk =>
  intro ga0 a0 Aa0_2 ca0_2 Aa0_3 ca0_3 a1 v_l5 Av_l5 nv_l5 cv_l5 chv_l5 v_i6 hra0_2 hca0_2 hra0_3 hca0_3 hga0 hov_l5 hnv_l5 heq
  subst hnv_l5
  rw [smithyardref7_row.l4] at heq
  refine Sa 2<|Zw 7 [rb hga0 1 2] ?_
  refine Cb heq ?_ ?_
  ·intro hb2 heq
   refine Sa 4 ?_
   obtain ⟨x2,hx2,heq⟩:=bind_some heq
   obtain ⟨ha2,cs2,hK2,hcc2⟩:=hra0_2.get hx2
   obtain ⟨rfl⟩:=kBlob_open hK2
   refine Zv 7 ([rb hga0 1 2,nx ha2 hx2]++ers hcc2 1) ?_
   refine RgH.does (DoesH.new (d:=7) (v:=fun g=>.pointer (some ⟨g,0,none⟩)) (o:=fun g=>.cells #[.string ByteArray.empty,iv 0,iv 0,iv 0,iv 0] 45 (0,0)) (fun g=>by kernel_rfl)) ?_
   rintro _ _ _ _ ⟨g2,rfl,rfl,rfl⟩
   refine RgH.does (DoesH.store (k:=0) (g:=g2) (off:=0) (v:=.agg #[.string x2.Digest,iv x2.Size,iv x2.Used,iv x2.Until,iv x2.Pins]) (cells':=#[.string x2.Digest,iv x2.Size,iv x2.Used,iv x2.Until,iv x2.Pins]) (by kernel_rfl) rfl (by kernel_rfl) (by kernel_rfl)) ?_
   rintro _ _ _ _ ⟨rfl,rfl,rfl⟩
   refine RgH.nrm ?_
   refine Dn<|Sa 2<|Zv 2 (bxs 0) ?_
   obtain ⟨y1,hy1,heq⟩:=bind_some heq
   refine RgH.does (cal 30 (smithyardref7_held_c hy1 )) ?_
   rintro _ _ _ _ ⟨_,rfl,rfl,rfl,rfl⟩
   refine Dn ?_
   refine Cb heq ?_ ?_
   ·intro hb3 heq
    refine An 1 ?_
    exact Gt 1 [] ((smithyardref7_row.j5_c (backl4:=(smithyardref7_row.l4 e1 k)) ihk) _ a0 _ _ _ _ a1 v_i6 v_l5 _ _ _ _ hra0_2 hca0_2 hra0_3 hca0_3 hga0 hov_l5 rfl heq)
   ·intro hb3 heq
    refine Sa 2<|Zd 3<|An 3 ?_
    exact Gt 0 [] (((smithyardref7_row.l7_c (e6:=smithyardref7_row.e6 (smithyardref7_row.j5 ((smithyardref7_row.l4 e1 k)))) (smithyardref7_row.e6_c (j5:=smithyardref7_row.j5 ((smithyardref7_row.l4 e1 k))) (smithyardref7_row.j5_c (backl4:=(smithyardref7_row.l4 e1 k)) ihk))) big) _ a0 _ _ _ _ a1 v_l5 _ _ _ v_i6 x2 _ (v_l5.length:Int) hra0_2 hca0_2 hra0_3 hca0_3 hga0 hov_l5 heq)
  ·intro hb2 heq
   refine An 2 ?_
   exact Gt 0 [] (he1 v_l5 _ _ _ _ hov_l5 rfl heq)
theorem smithyardref7_row_c {ga0:Nat} {a0:Cache} {Aa0_2:Option Addr} {na0_2 ca0_2:Nat} {Aa0_3:Option Addr} {na0_3 ca0_3:Nat} {a1:Int} {r:(List ByteArray)} (heq:smithyardref7_row.f a0 a1=some r) (hra0_2:Rw kBlob H F Aa0_2 a0.Blobs) (hca0_2:na0_2≤ca0_2) (hna0_2:na0_2=a0.Blobs.length) (hra0_3:Rw kEntry H F Aa0_3 a0.Entries) (hca0_3:na0_3≤ca0_3) (hna0_3:na0_3=a0.Entries.length) (hga0:InG H F ga0 (.cells #[iv a0.Room,iv a0.Lease,.slice Aa0_2 na0_2 ca0_2,.slice Aa0_3 na0_3 ca0_3] 25 (0,0))):CallsH Tryz.prog 88 #[.pointer (some ⟨ga0,0,none⟩),iv a1] H w0 (F) (S88 F H r):=by
 refine Co C88 Tryz.func88 Tryz.ntmps88 ?_
 subst hna0_2
 subst hna0_3
 unfold smithyardref7_row.f at heq
 refine Sa 1<|Zd 1<|Sa 1<|Zd 1<|Sa 2<|Zd 1<|An 2<|RunH.nilc ?_
 have ho11:SlOwn kBlob 45 H none 0 ([]:List Blob) none:=SlOwn.nil
 exact Gt 0 [] (((smithyardref7_row.l4_c (e1:=smithyardref7_row.e1) (smithyardref7_row.e1_c)) big) _ a0 _ _ _ _ a1 ([]:List Blob) _ _ _ _ 0 hra0_2 hca0_2 hra0_3 hca0_3 hga0 ho11 rfl heq)
noncomputable def C63v2:Ctx:={ P:=Tryz.prog,f:=63,N:=28,c:=bodyOf Tryz.f63 }
def S63v2 (F:List Ch) (H0:Hp) (ga0:Nat) (r:Cache) (v:Value) (H:Hp) (cs:List Ch):Prop:=∃ (A0_2:Option Addr) (c0_2:Nat) (ch0_2:Ch) (A0_3:Option Addr) (c0_3:Nat) (ch0_3:Ch),H0=H∧v=.tuple #[]∧some (ga0,.cells #[iv r.Room,iv r.Lease,.slice A0_2 r.Blobs.length c0_2,.slice A0_3 r.Entries.length c0_3] 25 (0,0))::ch0_2::ch0_3::F=cs∧SlOwn kBlob 45 H A0_2 c0_2 r.Blobs ch0_2∧SlOwn kEntry 47 H A0_3 c0_3 r.Entries ch0_3
theorem smithyardref7_lease_2_c {ga0:Nat} {a0:Cache} {Aa0_2:Option Addr} {na0_2 ca0_2:Nat} {cha0_2:Ch} {Aa0_3:Option Addr} {na0_3 ca0_3:Nat} {cha0_3:Ch} {a1 a2:Int} {r:Cache} (heq:smithyardref7_lease_2.f a0 a1 a2=some r) (hoa0_2:SlOwn kBlob 45 H Aa0_2 ca0_2 a0.Blobs cha0_2) (hna0_2:na0_2=a0.Blobs.length) (hoa0_3:SlOwn kEntry 47 H Aa0_3 ca0_3 a0.Entries cha0_3) (hna0_3:na0_3=a0.Entries.length):CallsH Tryz.prog 63 #[.pointer (some ⟨ga0,0,none⟩),iv a1,iv a2] H w0 ((some (ga0,.cells #[iv a0.Room,iv a0.Lease,.slice Aa0_2 na0_2 ca0_2,.slice Aa0_3 na0_3 ca0_3] 25 (0,0)))::cha0_2::cha0_3::F) (S63v2 F H ga0 r):=by
 refine Co C63v2 Tryz.func63 Tryz.ntmps63 ?_
 subst hna0_2
 subst hna0_3
 unfold smithyardref7_lease_2.f at heq
 refine Sd 0 23 [] [3,3,3,3,3,3,3,3,3,3,3,3,3,3,3,3,3,3,3,3,0,3,2] ?_
 obtain ⟨x1,hx1,heq⟩:=bind_some heq
 obtain ⟨ha1,cs1,hK1,hcc1⟩:=hoa0_2.get hx1
 obtain ⟨rfl⟩:=kBlob_open hK1
 refine Zr [0,1,2,3,4,5,6,7,8,9,10,11,12,13,14,15,16,17,18,19] 3 [bx 0 2,bx 0 2,nx ha1 hx1,el hcc1 1 3,bx 0 1] (Pk 3 [0,1,2]) (Pk 3 [0,1,2]) ?_
 obtain ⟨ha2,cs2,hK2,hcc2⟩:=hoa0_2.get hx1
 obtain ⟨rfl⟩:=kBlob_open hK2
 refine Dz 20 (DoesH.pureop (d:=26) (v:=.pointer (some ((adr Aa0_2).add (a1.toNat*5)))) (vs:=[]) (evs:=[.need (Aa0_2=some (adr Aa0_2)∧(0:Int)≤a1∧a1<((a0.Blobs.length:Nat):Int))]) (by kernel_rfl) (fun w hh=>⟨ha2,(at?_some hx1).1,(at?_some hx1).2.1⟩)) ?_
 rintro _ _ _ _ ⟨rfl,rfl,rfl⟩
 refine ⟨fun _ w hh=>⟨fun _=>(Pk 3 [0,1,2]) w hh,fun _=>(Pk 3 [0,1,2]) w hh,(fun h=>by cases h)⟩,?_⟩
 refine Zr [21] 1 [] (Pk 3 [0,1,2]) (Pk 3 [0,1,2]) ?_
 obtain ⟨ha3,cs3,hK3,hcc3⟩:=hoa0_2.get hx1
 obtain ⟨rfl⟩:=kBlob_open hK3
 refine Dz 22 (DoesH.storeEl (a:=(((adr Aa0_2).add (a1.toNat*5)).add 3)) (k:=1) (kd:=kBlob) (c0:=[.string x1.Digest,iv x1.Size,iv x1.Used,iv x1.Until,iv x1.Pins]) (x':=(⟨x1.Digest,x1.Size,x1.Used,max2 x1.Until (w64 (a2+a0.Lease)),x1.Pins⟩:Blob)) (o:=3) (ix:=a1) (v:=iv (max2 x1.Until (w64 (a2+a0.Lease)))) (by kernel_rfl) rfl hoa0_2 hx1 (by kernel_rfl) hcc3 rfl (Nat.le_of_ble_eq_true (by kernel_rfl)) kBlob_mk) ?_
 rintro _ _ _ _ ⟨ch1,rfl,rfl,rfl,ho1⟩
 have hn1:a0.Blobs.length=(a0.Blobs.set a1.toNat (⟨x1.Digest,x1.Size,x1.Used,max2 x1.Until (w64 (a2+a0.Lease)),x1.Pins⟩:Blob)).length:=by rw [List.length_set]
 refine ⟨fun _ w hh=>⟨(fun h=>by cases h),(fun h=>absurd h (by decide)),(fun h=>by cases h)⟩,?_⟩
 refine DrH.nrm ?_
 refine DrH.done (by kernel_rfl) ?_
 obtain rfl:=Option.some.inj heq
 exact RunH.done (by kernel_rfl) Tryz.func63 (v:=.tuple #[]) (by kernel_rfl) ⟨Aa0_2,ca0_2,ch1,Aa0_3,ca0_3,cha0_3,rfl,(by first | rfl | exact congrArg (fun q=>Value.slice _ q _) hn1 | (rw [hn1]; done) | (simp only [← hn1])),(by first | rfl | (rw [hn1]; done) | (rw [hn1]; rfl) | (simp only [List.length_set]; done) | (simp only [List.length_set]; rfl)),ho1,hoa0_3⟩
noncomputable def C69v3:Ctx:={ P:=Tryz.prog,f:=69,N:=29,c:=bodyOf Tryz.f69 }
def S69v3 (F:List Ch) (H0:Hp) (ga0:Nat) (r:Cache) (v:Value) (H:Hp) (cs:List Ch):Prop:=∃ (A0_2:Option Addr) (c0_2:Nat) (ch0_2:Ch) (A0_3:Option Addr) (c0_3:Nat) (ch0_3:Ch),H0=H∧v=.tuple #[]∧some (ga0,.cells #[iv r.Room,iv r.Lease,.slice A0_2 r.Blobs.length c0_2,.slice A0_3 r.Entries.length c0_3] 25 (0,0))::ch0_2::ch0_3::F=cs∧SlOwn kBlob 45 H A0_2 c0_2 r.Blobs ch0_2∧SlOwn kEntry 47 H A0_3 c0_3 r.Entries ch0_3
theorem smithyardref7_drop_3_c {ga0:Nat} {a0:Cache} {Aa0_2:Option Addr} {na0_2 ca0_2:Nat} {cha0_2:Ch} {Aa0_3:Option Addr} {na0_3 ca0_3:Nat} {cha0_3:Ch} {a1:ByteArray} {r:Cache} (heq:smithyardref7_drop_3.f a0 a1=some r) (hoa0_2:SlOwn kBlob 45 H Aa0_2 ca0_2 a0.Blobs cha0_2) (hna0_2:na0_2=a0.Blobs.length) (hoa0_3:SlOwn kEntry 47 H Aa0_3 ca0_3 a0.Entries cha0_3) (hna0_3:na0_3=a0.Entries.length):CallsH Tryz.prog 69 #[.pointer (some ⟨ga0,0,none⟩),.string a1] H w0 ((some (ga0,.cells #[iv a0.Room,iv a0.Lease,.slice Aa0_2 na0_2 ca0_2,.slice Aa0_3 na0_3 ca0_3] 25 (0,0)))::cha0_2::cha0_3::F) (S69v3 F H ga0 r):=by
 refine Co C69v3 Tryz.func69 Tryz.ntmps69 ?_
 subst hna0_2
 subst hna0_3
 unfold smithyardref7_drop_3.f at heq
 refine Sa 1<|Zk 2 ?_
 obtain ⟨y1,hy1,heq⟩:=bind_some heq
 refine RgH.does (cal 8 (smithyardref7_blob_c hy1 (hoa0_2.rw (.tail _ (.head _))) hoa0_2.cap rfl (hoa0_3.rw (.tail _ (.tail _ (.head _)))) hoa0_3.cap rfl (.inr (.head _)))) ?_
 rintro _ _ _ _ ⟨_,rfl,rfl,rfl,rfl⟩
 refine Zd 4<|Sa 1<|Zd 1<|Sa 1 ?_
 obtain ⟨hn2,heq⟩:=guard?_some heq
 have hn1:y1.toNat=(a0.Blobs.take y1.toNat).length:=by have h1:=both_of hn2; have h3:=trivial; (try simp); (try omega)
 have ho1:=hoa0_2.take y1.toNat
 refine Zv 7 [bx 0 2,⟨.need ((0:Int)≤y1∧y1≤((ca0_2:Nat):Int)),fun w hh=>⟨(both_of hn2).1,(by have h1:=(both_of hn2).2; have h2:=hoa0_2.cap; have h3:=trivial; omega)⟩⟩]<|RgH.nilc ?_
 have ho2:SlOwn kBlob 45 H none 0 ([]:List Blob) none:=SlOwn.nil
 obtain ⟨hn3,heq⟩:=guard?_some heq
 refine RgH.does (DoesH.append (d:=16) (k:=0) (t:=22) (e:=45) (bytes:=48) (kd:=kBlob) (n:=0) (m:=y1.toNat) (xs:=([]:List Blob)) (ys:=(a0.Blobs.take y1.toNat)) (A:=none) (B:=Aa0_2) (c:=0) (cB:=ca0_2) (by kernel_rfl) rfl hn1 (by kernel_rfl) rfl ho2 (fun w hh=>ho1.rdb (hh.chin 2 rfl)) (room_le hn3) (by have:=room_le hn3; omega)) ?_
 rintro _ _ _ _ ⟨A1,c1,ch1,rfl,rfl,rfl,ho3⟩
 refine RgH.nrm ?_
 refine Zd 9<|Sa 0 ?_
 obtain ⟨hn5,heq⟩:=guard?_some heq
 have hn4:a0.Blobs.length - (w64 (y1+1)).toNat=(a0.Blobs.drop (w64 (y1+1)).toNat).length:=by have h1:=both_of hn5; have h3:=trivial; (try simp); (try omega)
 have ho4:=hoa0_2.drop (w64 (y1+1)).toNat (by have h2:=hoa0_2.cap; have h3:=trivial; have h1:=both_of hn5; omega)
 refine Zv 9 [bx 1 2,⟨.need ((0:Int)≤(w64 (y1+1))∧(w64 (y1+1))≤((a0.Blobs.length:Nat):Int)),fun w hh=>(both_of hn5)⟩] ?_
 obtain ⟨hn6,heq⟩:=guard?_some heq
 refine RgH.does (DoesH.append (d:=26) (k:=0) (t:=22) (e:=45) (bytes:=48) (kd:=kBlob) (n:=(([]:List Blob)++(a0.Blobs.take y1.toNat)).length) (m:=a0.Blobs.length - (w64 (y1+1)).toNat) (xs:=(([]:List Blob)++(a0.Blobs.take y1.toNat))) (ys:=(a0.Blobs.drop (w64 (y1+1)).toNat)) (A:=A1) (B:=(shiftA ca0_2 (w64 (y1+1)).toNat 5 Aa0_2)) (c:=c1) (cB:=(ca0_2 - (w64 (y1+1)).toNat)) (by kernel_rfl) rfl hn4 (by kernel_rfl) rfl ho3 (fun w hh=>ho4.rdb (hh.chin 2 rfl)) (room_le hn6) (by have:=room_le hn6; omega)) ?_
 rintro _ _ _ _ ⟨A2,c2,ch2,rfl,rfl,rfl,ho5⟩
 refine RgH.nrm ?_
 refine Zk 12 ?_
 refine RgH.does (DoesH.store (k:=1) (g:=ga0) (off:=2) (v:=.slice A2 (((([]:List Blob)++(a0.Blobs.take y1.toNat))++(a0.Blobs.drop (w64 (y1+1)).toNat)).length) c2) (cells':=#[iv a0.Room,iv a0.Lease,.slice A2 (((([]:List Blob)++(a0.Blobs.take y1.toNat))++(a0.Blobs.drop (w64 (y1+1)).toNat)).length) c2,.slice Aa0_3 a0.Entries.length ca0_3]) (by kernel_rfl) rfl (by kernel_rfl) (by kernel_rfl)) ?_
 rintro _ _ _ _ ⟨rfl,rfl,rfl⟩
 refine RgH.nrm ?_
 refine Dn ?_
 obtain rfl:=Option.some.inj heq
 refine Up 3 [1,0] ?_
 exact RunH.done (by kernel_rfl) Tryz.func69 (v:=.tuple #[]) (by kernel_rfl) ⟨A2,c2,ch2,Aa0_3,ca0_3,cha0_3,rfl,rfl,rfl,ho5,hoa0_3⟩
noncomputable def C64v2:Ctx:={ P:=Tryz.prog,f:=64,N:=76,c:=bodyOf Tryz.f64 }
def S64v2 (F:List Ch) (H0:Hp) (ga0:Nat) (r:(List ByteArray) × Bool × Cache) (v:Value) (H:Hp) (cs:List Ch):Prop:=∃ (A0:Option Addr) (c0:Nat) (ch0:Ch) (A2_2:Option Addr) (c2_2:Nat) (ch2_2:Ch) (A2_3:Option Addr) (c2_3:Nat) (ch2_3:Ch),H0=H∧v=.tuple #[.slice A0 r.1.length c0,.bool r.2.1]∧ch0::some (ga0,.cells #[iv r.2.2.Room,iv r.2.2.Lease,.slice A2_2 r.2.2.Blobs.length c2_2,.slice A2_3 r.2.2.Entries.length c2_3] 25 (0,0))::ch2_2::ch2_3::F=cs∧SlOwn Kd.string 9 H A0 c0 r.1 ch0∧SlOwn kBlob 45 H A2_2 c2_2 r.2.2.Blobs ch2_2∧SlOwn kEntry 47 H A2_3 c2_3 r.2.2.Entries ch2_3
theorem smithyardref7_space_2.e2_c {r:(List ByteArray) × Bool × Cache}:∀ (ga0:Nat) (v_c0_0 v_c0_1:Int) (v_c0_2:List Blob) (Av_c0_2:Option Addr) (nv_c0_2 cv_c0_2:Nat) (chv_c0_2:Ch) (v_c0_3:List Entry) (Av_c0_3:Option Addr) (nv_c0_3 cv_c0_3:Nat) (chv_c0_3:Ch) (v_gone10:List ByteArray) (Av_gone10:Option Addr) (nv_gone10 cv_gone10:Nat) (chv_gone10:Ch) ,SlOwn kBlob 45 H Av_c0_2 cv_c0_2 v_c0_2 chv_c0_2→nv_c0_2=v_c0_2.length→SlOwn kEntry 47 H Av_c0_3 cv_c0_3 v_c0_3 chv_c0_3→nv_c0_3=v_c0_3.length→SlOwn Kd.string 9 H Av_gone10 cv_gone10 v_gone10 chv_gone10→nv_gone10=v_gone10.length→smithyardref7_space_2.e2 v_c0_0 v_c0_1 v_c0_2 v_c0_3 v_gone10=some r→RunH C64v2 (S64v2 F H ga0 r) H w0 [.c [1,1,1,1,1,1,1,0],.c [1,1,1,1,1,1,1,1]] [(0,pg ga0 0),(10,.slice Av_gone10 nv_gone10 cv_gone10)] H (chv_gone10::(some (ga0,.cells #[iv v_c0_0,iv v_c0_1,.slice Av_c0_2 nv_c0_2 cv_c0_2,.slice Av_c0_3 nv_c0_3 cv_c0_3] 25 (0,0)))::chv_c0_2::chv_c0_3::F):=by
 intro ga0 v_c0_0 v_c0_1 v_c0_2 Av_c0_2 nv_c0_2 cv_c0_2 chv_c0_2 v_c0_3 Av_c0_3 nv_c0_3 cv_c0_3 chv_c0_3 v_gone10 Av_gone10 nv_gone10 cv_gone10 chv_gone10 hov_c0_2 hnv_c0_2 hov_c0_3 hnv_c0_3 hov_gone10 hnv_gone10 heq
 subst hnv_c0_2
 subst hnv_c0_3
 subst hnv_gone10
 unfold smithyardref7_space_2.e2 at heq
 refine Sa 0<|Zd 3 ?_
 obtain rfl:=Option.some.inj heq
 exact RunH.done (by kernel_rfl) Tryz.func64 (v:=.tuple #[.slice Av_gone10 v_gone10.length cv_gone10,.bool true]) (by kernel_rfl) ⟨Av_gone10,cv_gone10,chv_gone10,Av_c0_2,cv_c0_2,chv_c0_2,Av_c0_3,cv_c0_3,chv_c0_3,rfl,rfl,rfl,hov_gone10,hov_c0_2,hov_c0_3⟩
theorem smithyardref7_space_2.l3_c {r:(List ByteArray) × Bool × Cache} (e2:Int→Int→(List Blob)→(List Entry)→(List ByteArray)→Option ((List ByteArray) × Bool × Cache))
  (he2:∀ (ga0:Nat) (v_c0_0 v_c0_1:Int) (v_c0_2:List Blob) (Av_c0_2:Option Addr) (nv_c0_2 cv_c0_2:Nat) (chv_c0_2:Ch) (v_c0_3:List Entry) (Av_c0_3:Option Addr) (nv_c0_3 cv_c0_3:Nat) (chv_c0_3:Ch) (v_gone10:List ByteArray) (Av_gone10:Option Addr) (nv_gone10 cv_gone10:Nat) (chv_gone10:Ch) ,SlOwn kBlob 45 H Av_c0_2 cv_c0_2 v_c0_2 chv_c0_2→nv_c0_2=v_c0_2.length→SlOwn kEntry 47 H Av_c0_3 cv_c0_3 v_c0_3 chv_c0_3→nv_c0_3=v_c0_3.length→SlOwn Kd.string 9 H Av_gone10 cv_gone10 v_gone10 chv_gone10→nv_gone10=v_gone10.length→e2 v_c0_0 v_c0_1 v_c0_2 v_c0_3 v_gone10=some r→RunH C64v2 (S64v2 F H ga0 r) H w0 [.c [1,1,1,1,1,1,1,0],.c [1,1,1,1,1,1,1,1]] [(0,pg ga0 0),(10,.slice Av_gone10 nv_gone10 cv_gone10)] H (chv_gone10::(some (ga0,.cells #[iv v_c0_0,iv v_c0_1,.slice Av_c0_2 nv_c0_2 cv_c0_2,.slice Av_c0_3 nv_c0_3 cv_c0_3] 25 (0,0)))::chv_c0_2::chv_c0_3::F)):∀ (k:Nat),∀ (ga0:Nat) (a1:Int) (y1:(List ByteArray)) (A1:Option Addr) (c1:Nat) (ch1:Ch) (v_c0_0 v_c0_1:Int) (v_c0_2:List Blob) (Av_c0_2:Option Addr) (nv_c0_2 cv_c0_2:Nat) (chv_c0_2:Ch) (v_c0_3:List Entry) (Av_c0_3:Option Addr) (nv_c0_3 cv_c0_3:Nat) (chv_c0_3:Ch) (v_gone10:List ByteArray) (Av_gone10:Option Addr) (nv_gone10 cv_gone10:Nat) (chv_gone10:Ch) (v_i12:Int) ,SlOwn Kd.string 9 H A1 c1 y1 ch1→SlOwn kBlob 45 H Av_c0_2 cv_c0_2 v_c0_2 chv_c0_2→nv_c0_2=v_c0_2.length→SlOwn kEntry 47 H Av_c0_3 cv_c0_3 v_c0_3 chv_c0_3→nv_c0_3=v_c0_3.length→SlOwn Kd.string 9 H Av_gone10 cv_gone10 v_gone10 chv_gone10→nv_gone10=v_gone10.length→smithyardref7_space_2.l3 e2 k a1 y1 v_c0_0 v_c0_1 v_c0_2 v_c0_3 v_gone10 v_i12=some r→RunH C64v2 (S64v2 F H ga0 r) H w0 [.c [1,1,1,1,1,1,0,1,0,0],.l [1,1,1,1,1,1,0,1,0,0],.b 2,.c [1,1,1,1,1,1,1]] [(0,pg ga0 0),(1,iv a1),(10,.slice Av_gone10 nv_gone10 cv_gone10),(11,.slice A1 y1.length c1),(12,iv v_i12)] H (chv_gone10::ch1::(some (ga0,.cells #[iv v_c0_0,iv v_c0_1,.slice Av_c0_2 nv_c0_2 cv_c0_2,.slice Av_c0_3 nv_c0_3 cv_c0_3] 25 (0,0)))::chv_c0_2::chv_c0_3::F):=by
 intro k
 induction k with
 | zero=>intro ga0 a1 y1 A1 c1 ch1 v_c0_0 v_c0_1 v_c0_2 Av_c0_2 nv_c0_2 cv_c0_2 chv_c0_2 v_c0_3 Av_c0_3 nv_c0_3 cv_c0_3 chv_c0_3 v_gone10 Av_gone10 nv_gone10 cv_gone10 chv_gone10 v_i12 ho2 hov_c0_2 hnv_c0_2 hov_c0_3 hnv_c0_3 hov_gone10 hnv_gone10 heq; exact nomatch (show (none:Option ((List ByteArray) × Bool × Cache))=some r from heq)
 | succ k ihk =>
  intro ga0 a1 y1 A1 c1 ch1 v_c0_0 v_c0_1 v_c0_2 Av_c0_2 nv_c0_2 cv_c0_2 chv_c0_2 v_c0_3 Av_c0_3 nv_c0_3 cv_c0_3 chv_c0_3 v_gone10 Av_gone10 nv_gone10 cv_gone10 chv_gone10 v_i12 ho2 hov_c0_2 hnv_c0_2 hov_c0_3 hnv_c0_3 hov_gone10 hnv_gone10 heq
  subst hnv_c0_2
  subst hnv_c0_3
  subst hnv_gone10
  rw [smithyardref7_space_2.l3] at heq
  refine An 2 ?_
  obtain ⟨t1,ht1,heq⟩:=bind_some heq
  have K12:RunH C64v2 (S64v2 F H ga0 r) H w0 [.c [1,1,1,1,1,1,0,1,0,0,0,1],.c [1,1,1,1,1,1,0,1,0,0,1],.l [1,1,1,1,1,1,0,1,0,0],.b 2,.c [1,1,1,1,1,1,1]] [(0,pg ga0 0),(1,iv a1),(10,.slice Av_gone10 v_gone10.length cv_gone10),(11,.slice A1 y1.length c1),(12,iv v_i12),(59,.bool t1)] H (chv_gone10::ch1::(some (ga0,.cells #[iv v_c0_0,iv v_c0_1,.slice Av_c0_2 v_c0_2.length cv_c0_2,.slice Av_c0_3 v_c0_3.length cv_c0_3] 25 (0,0)))::chv_c0_2::chv_c0_3::F):=by
   refine Cb heq ?_ ?_
   ·intro hb3 heq
    refine Sa 4 ?_
    obtain ⟨x1,hx1,heq⟩:=bind_some heq
    obtain ⟨ha1,cs1,hK1,hcc1⟩:=ho2.get hx1
    obtain rfl:cs1=[.string x1]:=hK1
    refine Zv 5 [nx ha1 hx1,el hcc1 1 0]<|Ug 5 [2,3,4,0,1] ?_
    obtain ⟨y3,hy3,heq⟩:=bind_some heq
    refine RgH.does (cal 67 (smithyardref7_drop_3_c (a0:=(⟨v_c0_0,v_c0_1,v_c0_2,v_c0_3⟩:Cache)) hy3 hov_c0_2 rfl hov_c0_3 rfl)) ?_
    rintro _ _ _ _ ⟨_,rfl,A2,c2,ch2,A3,c3,ch3,rfl,rfl,rfl,ho3,ho4⟩
    refine Dn<|Sa 0 ?_
    obtain ⟨x2,hx2,heq⟩:=bind_some heq
    obtain ⟨ha2,cs2,hK2,hcc2⟩:=ho2.get hx2
    obtain rfl:cs2=[.string x2]:=hK2
    refine Zv 5 [nx ha2 hx2,el hcc2 4 0] ?_
    refine RgH.does (DoesH.new (d:=73) (v:=fun g=>.slice (some ⟨g,0,none⟩) 1 1) (o:=fun g=>.cells #[.string x2] 9 (0,0)) (fun g=>by kernel_rfl)) ?_
    rintro _ _ _ _ ⟨g1,rfl,rfl,rfl⟩
    have ho5:SlOwn Kd.string 9 H (some ⟨g1,0,none⟩) 1 ([x2]:List ByteArray) (some (g1,.cells #[.string x2] 9 (0,0))):=SlOwn.lit (xs:=([x2]:List ByteArray)) (by kernel_rfl) (Nat.le_of_ble_eq_true (by kernel_rfl)) (Kd.Rep.scalars rfl)
    obtain ⟨hn1,heq⟩:=guard?_some heq
    refine RgH.does (DoesH.append (d:=74) (k:=4) (t:=26) (e:=9) (bytes:=16) (kd:=Kd.string) (n:=v_gone10.length) (m:=1) (xs:=v_gone10) (ys:=([x2]:List ByteArray)) (A:=Av_gone10) (B:=(some ⟨g1,0,none⟩)) (c:=cv_gone10) (cB:=1) (by kernel_rfl) rfl rfl (by kernel_rfl) rfl hov_gone10 (fun w hh=>ho5.rdb (hh.chin 0 rfl)) (room_le hn1) (by have:=room_le hn1; omega)) ?_
    rintro _ _ _ _ ⟨A4,c4,ch4,rfl,rfl,rfl,ho6⟩
    refine RgH.nrm ?_
    refine Zd 8<|Sa 1<|Zd 3<|An 1 ?_
    exact Gt 6 [4,5,1,2,3] (ihk _ a1 y1 _ _ _ y3.Room y3.Lease y3.Blobs _ _ _ _ y3.Entries _ _ _ _ (v_gone10++([x2]:List ByteArray)) _ _ _ _ (w64 (v_i12+1)) ho2 ho3 rfl ho4 rfl ho6 rfl heq)
   ·intro hb3 heq
    refine An 2 ?_
    exact Gt 2 [0] (he2 _ v_c0_0 v_c0_1 v_c0_2 _ _ _ _ v_c0_3 _ _ _ _ v_gone10 _ _ _ _ hov_c0_2 rfl hov_c0_3 rfl hov_gone10 rfl heq)
  replace heq:=ht1
  refine Sa 0<|Zk 5 ?_
  rcases bool_cases (decide (v_i12<(y1.length:Int))) with hb2 | hb2
  ·replace heq:=bif_true hb2 heq
   refine Zs 51 (congrArg Value.bool hb2)<|Zv 9 [bx 2 2] ?_
   obtain ⟨y2,hy2,heq⟩:=bind_some heq
   refine RgH.does (cal 56 (smithyardref7_bytesOf_c hy2 (hov_c0_2.rw (.tail _ (.tail _ (.tail _ (.head _))))) hov_c0_2.cap rfl)) ?_
   rintro _ _ _ _ ⟨_,rfl,rfl,rfl,rfl⟩
   refine Zk 13 ?_
   obtain rfl:=Option.some.inj heq
   refine Dn ?_
   exact Gt 0 [] (K12)
  ·replace heq:=bif_false hb2 heq
   refine Zs 51 (congrArg Value.bool hb2)<|Zk 13 ?_
   obtain rfl:=Option.some.inj heq
   refine Dn ?_
   exact Gt 0 [] (K12)
theorem smithyardref7_space_2.e1_c {r:(List ByteArray) × Bool × Cache}:∀ (ga0:Nat) (a0:Cache) (Aa0_2:Option Addr) (ca0_2:Nat) (cha0_2:Ch) (Aa0_3:Option Addr) (ca0_3:Nat) (cha0_3:Ch) (a1 a2 v_stay8:Int) ,SlOwn kBlob 45 H Aa0_2 ca0_2 a0.Blobs cha0_2→SlOwn kEntry 47 H Aa0_3 ca0_3 a0.Entries cha0_3→smithyardref7_space_2.e1 a0 a1 a2 v_stay8=some r→RunH C64v2 (S64v2 F H ga0 r) H w0 [.c [1,1,1,0,0],.c [1,1,1,0,1],.c [1,1,1,1]] [(0,pg ga0 0),(1,iv a1),(2,iv a2),(8,iv v_stay8)] H ((some (ga0,.cells #[iv a0.Room,iv a0.Lease,.slice Aa0_2 a0.Blobs.length ca0_2,.slice Aa0_3 a0.Entries.length ca0_3] 25 (0,0)))::cha0_2::cha0_3::F):=by
 intro ga0 a0 Aa0_2 ca0_2 cha0_2 Aa0_3 ca0_3 cha0_3 a1 a2 v_stay8 hoa0_2 hoa0_3 heq
 unfold smithyardref7_space_2.e1 at heq
 refine Sa 0<|Zd 3 ?_
 refine Cb heq ?_ ?_
 ·intro hb1 heq
  refine Sa 1<|Zd 2<|RunH.nilc ?_
  have ho1:SlOwn Kd.string 9 H none 0 ([]:List ByteArray) none:=SlOwn.nil
  obtain rfl:=Option.some.inj heq
  exact RunH.done (by kernel_rfl) Tryz.func64 (v:=.tuple #[.slice none 0 0,.bool false]) (by kernel_rfl) ⟨none,0,none,Aa0_2,ca0_2,cha0_2,Aa0_3,ca0_3,cha0_3,rfl,rfl,rfl,ho1,hoa0_2,hoa0_3⟩
 ·intro hb1 heq
  refine Sa 2<|Zd 1<|Sa 1<|Zk 2 ?_
  obtain ⟨y1,hy1,heq⟩:=bind_some heq
  refine RgH.does (cal 46 (smithyardref7_row_c hy1 (hoa0_2.rw (.tail _ (.head _))) hoa0_2.cap rfl (hoa0_3.rw (.tail _ (.tail _ (.head _)))) hoa0_3.cap rfl (.inr (.head _)))) ?_
  rintro _ _ _ _ ⟨_,rfl,A1,c1,ch1,rfl,rfl,rfl,ho2⟩
  refine Zd 4<|Sa 2<|Zd 1<|An 2<|RunH.nilc ?_
  have ho7:SlOwn Kd.string 9 H none 0 ([]:List ByteArray) none:=SlOwn.nil
  exact Gt 0 [] (((smithyardref7_space_2.l3_c (e2:=smithyardref7_space_2.e2) (smithyardref7_space_2.e2_c)) big) _ a1 y1 _ _ _ a0.Room a0.Lease a0.Blobs _ _ _ _ a0.Entries _ _ _ _ ([]:List ByteArray) _ _ _ _ 0 ho2 hoa0_2 rfl hoa0_3 rfl ho7 rfl heq)
theorem smithyardref7_space_2.j5_c {r:(List ByteArray) × Bool × Cache} (backl4:Cache→Int→Int→Int→Int→Option ((List ByteArray) × Bool × Cache))
  (hbackl4:∀ (ga0:Nat) (a0:Cache) (Aa0_2:Option Addr) (ca0_2:Nat) (cha0_2:Ch) (Aa0_3:Option Addr) (ca0_3:Nat) (cha0_3:Ch) (a1 a2 v_stay8 v_i9:Int) ,SlOwn kBlob 45 H Aa0_2 ca0_2 a0.Blobs cha0_2→SlOwn kEntry 47 H Aa0_3 ca0_3 a0.Entries cha0_3→backl4 a0 a1 a2 v_stay8 v_i9=some r→RunH C64v2 (S64v2 F H ga0 r) H w0 [.c [1,1,0,1,0,0],.l [1,1,0,1,0,0],.b 0,.c [1,1,1]] [(0,pg ga0 0),(1,iv a1),(2,iv a2),(8,iv v_stay8),(9,iv v_i9)] H ((some (ga0,.cells #[iv a0.Room,iv a0.Lease,.slice Aa0_2 a0.Blobs.length ca0_2,.slice Aa0_3 a0.Entries.length ca0_3] 25 (0,0)))::cha0_2::cha0_3::F)):∀ (ga0:Nat) (a0:Cache) (Aa0_2:Option Addr) (ca0_2:Nat) (cha0_2:Ch) (Aa0_3:Option Addr) (ca0_3:Nat) (cha0_3:Ch) (a1 a2 v_i9 v_stay8:Int) ,SlOwn kBlob 45 H Aa0_2 ca0_2 a0.Blobs cha0_2→SlOwn kEntry 47 H Aa0_3 ca0_3 a0.Entries cha0_3→smithyardref7_space_2.j5 backl4 a0 a1 a2 v_i9 v_stay8=some r→RunH C64v2 (S64v2 F H ga0 r) H w0 [.c [1,1,0,1,0,0,1,1],.l [1,1,0,1,0,0],.b 0,.c [1,1,1]] [(0,pg ga0 0),(1,iv a1),(2,iv a2),(8,iv v_stay8),(9,iv v_i9)] H ((some (ga0,.cells #[iv a0.Room,iv a0.Lease,.slice Aa0_2 a0.Blobs.length ca0_2,.slice Aa0_3 a0.Entries.length ca0_3] 25 (0,0)))::cha0_2::cha0_3::F):=by
 intro ga0 a0 Aa0_2 ca0_2 cha0_2 Aa0_3 ca0_3 cha0_3 a1 a2 v_i9 v_stay8 hoa0_2 hoa0_3 heq
 unfold smithyardref7_space_2.j5 at heq
 refine Sa 0<|Zd 3<|An 1 ?_
 exact Gt 0 [] (hbackl4 _ a0 _ _ _ _ _ _ a1 a2 v_stay8 (w64 (v_i9+1)) hoa0_2 hoa0_3 heq)
theorem smithyardref7_space_2.l4_c {r:(List ByteArray) × Bool × Cache} (e1:Cache→Int→Int→Int→Option ((List ByteArray) × Bool × Cache))
  (he1:∀ (ga0:Nat) (a0:Cache) (Aa0_2:Option Addr) (ca0_2:Nat) (cha0_2:Ch) (Aa0_3:Option Addr) (ca0_3:Nat) (cha0_3:Ch) (a1 a2 v_stay8:Int) ,SlOwn kBlob 45 H Aa0_2 ca0_2 a0.Blobs cha0_2→SlOwn kEntry 47 H Aa0_3 ca0_3 a0.Entries cha0_3→e1 a0 a1 a2 v_stay8=some r→RunH C64v2 (S64v2 F H ga0 r) H w0 [.c [1,1,1,0,0],.c [1,1,1,0,1],.c [1,1,1,1]] [(0,pg ga0 0),(1,iv a1),(2,iv a2),(8,iv v_stay8)] H ((some (ga0,.cells #[iv a0.Room,iv a0.Lease,.slice Aa0_2 a0.Blobs.length ca0_2,.slice Aa0_3 a0.Entries.length ca0_3] 25 (0,0)))::cha0_2::cha0_3::F)):∀ (k:Nat),∀ (ga0:Nat) (a0:Cache) (Aa0_2:Option Addr) (ca0_2:Nat) (cha0_2:Ch) (Aa0_3:Option Addr) (ca0_3:Nat) (cha0_3:Ch) (a1 a2 v_stay8 v_i9:Int) ,SlOwn kBlob 45 H Aa0_2 ca0_2 a0.Blobs cha0_2→SlOwn kEntry 47 H Aa0_3 ca0_3 a0.Entries cha0_3→smithyardref7_space_2.l4 e1 k a0 a1 a2 v_stay8 v_i9=some r→RunH C64v2 (S64v2 F H ga0 r) H w0 [.c [1,1,0,1,0,0],.l [1,1,0,1,0,0],.b 0,.c [1,1,1]] [(0,pg ga0 0),(1,iv a1),(2,iv a2),(8,iv v_stay8),(9,iv v_i9)] H ((some (ga0,.cells #[iv a0.Room,iv a0.Lease,.slice Aa0_2 a0.Blobs.length ca0_2,.slice Aa0_3 a0.Entries.length ca0_3] 25 (0,0)))::cha0_2::cha0_3::F):=by
 intro k
 induction k with
 | zero=>intro ga0 a0 Aa0_2 ca0_2 cha0_2 Aa0_3 ca0_3 cha0_3 a1 a2 v_stay8 v_i9 hoa0_2 hoa0_3 heq; exact nomatch (show (none:Option ((List ByteArray) × Bool × Cache))=some r from heq)
 | succ k ihk =>
  intro ga0 a0 Aa0_2 ca0_2 cha0_2 Aa0_3 ca0_3 cha0_3 a1 a2 v_stay8 v_i9 hoa0_2 hoa0_3 heq
  rw [smithyardref7_space_2.l4] at heq
  refine Sa 2<|Zw 7 [bx 0 2] ?_
  refine Cb heq ?_ ?_
  ·intro hb4 heq
   refine Sa 4 ?_
   obtain ⟨x3,hx3,heq⟩:=bind_some heq
   obtain ⟨ha3,cs3,hK3,hcc3⟩:=hoa0_2.get hx3
   obtain ⟨rfl⟩:=kBlob_open hK3
   refine Zv 8 ([bx 0 2,nx ha3 hx3]++els hcc3 1) ?_
   obtain ⟨y4,hy4,heq⟩:=bind_some heq
   refine RgH.does (cal 30 (smithyardref7_held_c hy4 )) ?_
   rintro _ _ _ _ ⟨_,rfl,rfl,rfl,rfl⟩
   refine Dn ?_
   refine Cb heq ?_ ?_
   ·intro hb5 heq
    refine Sa 0 ?_
    obtain ⟨x4,hx4,heq⟩:=bind_some heq
    obtain ⟨ha4,cs4,hK4,hcc4⟩:=hoa0_2.get hx4
    obtain ⟨rfl⟩:=kBlob_open hK4
    refine Zw 11 [bx 0 2,nx ha4 hx4,el hcc4 1 1]<|An 1 ?_
    exact Gt 0 [] ((smithyardref7_space_2.j5_c (backl4:=(smithyardref7_space_2.l4 e1 k)) ihk) _ a0 _ _ _ _ _ _ a1 a2 v_i9 (w64 (v_stay8+x4.Size)) hoa0_2 hoa0_3 heq)
   ·intro hb5 heq
    refine An 2 ?_
    exact Gt 0 [] ((smithyardref7_space_2.j5_c (backl4:=(smithyardref7_space_2.l4 e1 k)) ihk) _ a0 _ _ _ _ _ _ a1 a2 v_i9 v_stay8 hoa0_2 hoa0_3 heq)
  ·intro hb4 heq
   refine An 3 ?_
   exact Gt 0 [] (he1 _ a0 _ _ _ _ _ _ a1 a2 v_stay8 hoa0_2 hoa0_3 heq)
theorem smithyardref7_space_2_c {ga0:Nat} {a0:Cache} {Aa0_2:Option Addr} {na0_2 ca0_2:Nat} {cha0_2:Ch} {Aa0_3:Option Addr} {na0_3 ca0_3:Nat} {cha0_3:Ch} {a1 a2:Int} {r:(List ByteArray) × Bool × Cache} (heq:smithyardref7_space_2.f a0 a1 a2=some r) (hoa0_2:SlOwn kBlob 45 H Aa0_2 ca0_2 a0.Blobs cha0_2) (hna0_2:na0_2=a0.Blobs.length) (hoa0_3:SlOwn kEntry 47 H Aa0_3 ca0_3 a0.Entries cha0_3) (hna0_3:na0_3=a0.Entries.length):CallsH Tryz.prog 64 #[.pointer (some ⟨ga0,0,none⟩),iv a1,iv a2] H w0 ((some (ga0,.cells #[iv a0.Room,iv a0.Lease,.slice Aa0_2 na0_2 ca0_2,.slice Aa0_3 na0_3 ca0_3] 25 (0,0)))::cha0_2::cha0_3::F) (S64v2 F H ga0 r):=by
 refine Co C64v2 Tryz.func64 Tryz.ntmps64 ?_
 subst hna0_2
 subst hna0_3
 unfold smithyardref7_space_2.f at heq
 refine Sa 1<|Zd 2<|Sa 1<|Zd 1<|Sa 2<|Zd 1<|An 2 ?_
 exact Gt 0 [] (((smithyardref7_space_2.l4_c (e1:=smithyardref7_space_2.e1) (smithyardref7_space_2.e1_c)) big) _ a0 _ _ _ _ _ _ a1 a2 0 0 hoa0_2 hoa0_3 heq)
noncomputable def C44v2:Ctx:={ P:=Tryz.prog,f:=44,N:=124,c:=bodyOf Tryz.f44 }
def S44v2 (F:List Ch) (H0:Hp) (ga0:Nat) (r:CacheAnswer × Int × Cache) (v:Value) (H:Hp) (cs:List Ch):Prop:=∃ (A0_1:Option Addr) (c0_1:Nat) (ch0_1:Ch) (A0_2:Option Addr) (c0_2:Nat) (ch0_2:Ch) (A2_2:Option Addr) (c2_2:Nat) (ch2_2:Ch) (A2_3:Option Addr) (c2_3:Nat) (ch2_3:Ch),H0=H∧v=.tuple #[.agg #[.bool r.1.Done,.slice A0_1 r.1.Missing.length c0_1,.slice A0_2 r.1.Gone.length c0_2],iv r.2.1]∧ch0_1::ch0_2::some (ga0,.cells #[iv r.2.2.Room,iv r.2.2.Lease,.slice A2_2 r.2.2.Blobs.length c2_2,.slice A2_3 r.2.2.Entries.length c2_3] 25 (0,0))::ch2_2::ch2_3::F=cs∧SlOwn Kd.string 9 H A0_1 c0_1 r.1.Missing ch0_1∧SlOwn Kd.string 9 H A0_2 c0_2 r.1.Gone ch0_2∧SlOwn kBlob 45 H A2_2 c2_2 r.2.2.Blobs ch2_2∧SlOwn kEntry 47 H A2_3 c2_3 r.2.2.Entries ch2_3
theorem smithyardref7_putBlob_2.e1_c {r:CacheAnswer × Int × Cache}:∀ (ga0:Nat) (a1:CacheEvent) (Aa1_3:Option Addr) (ca1_3 g1 g2:Nat) (y3:(List ByteArray) × Bool × Cache) (A3:Option Addr) (c3:Nat) (ch4:Ch) (A4:Option Addr) (c4:Nat) (ch5:Ch) (A5:Option Addr) (c5:Nat) (ch6:Ch) (v_k9:Int) ,Rw Kd.string H F Aa1_3 a1.Digests→a1.Digests.length≤ca1_3→SlOwn Kd.string 9 H A3 c3 y3.1 ch4→SlOwn kBlob 45 H A4 c4 y3.2.2.Blobs ch5→SlOwn kEntry 47 H A5 c5 y3.2.2.Entries ch6→smithyardref7_putBlob_2.e1 a1 y3 v_k9=some r→RunH C44v2 (S44v2 F H ga0 r) H w0 [.c [1,1,1,1,1,1,1,1,0],.c [1,1,1,1,1,1,1,1,1]] [(0,pg ga0 0),(3,pg g1 0),(4,pg g2 0),(7,.slice A3 y3.1.length c3),(9,iv v_k9)] H (ch4::(some (ga0,.cells #[iv y3.2.2.Room,iv y3.2.2.Lease,.slice A4 y3.2.2.Blobs.length c4,.slice A5 y3.2.2.Entries.length c5] 25 (0,0)))::ch5::ch6::(some (g2,.cells #[.bool false,.slice none 0 0,.slice none 0 0] 33 (0,0)))::(some (g1,.cells #[iv a1.Kind,iv a1.At,.string a1.Digest,.slice Aa1_3 a1.Digests.length ca1_3,.string a1.Key,iv a1.Size] 28 (0,0)))::F):=by
 intro ga0 a1 Aa1_3 ca1_3 g1 g2 y3 A3 c3 ch4 A4 c4 ch5 A5 c5 ch6 v_k9 hra1_3 hca1_3 ho8 ho9 ho10 heq
 unfold smithyardref7_putBlob_2.e1 at heq
 refine Sa 0<|Zd 1<|Sa 1 ?_
 obtain ⟨hn3,heq⟩:=guard?_some heq
 have hn2:v_k9.toNat=(y3.2.2.Blobs.take v_k9.toNat).length:=by have h1:=both_of hn3; have h3:=trivial; (try simp); (try omega)
 have ho15:=ho9.take v_k9.toNat
 refine Zv 7 [bx 1 2,⟨.need ((0:Int)≤v_k9∧v_k9≤((c4:Nat):Int)),fun w hh=>⟨(both_of hn3).1,(by have h1:=(both_of hn3).2; have h2:=ho9.cap; have h3:=trivial; omega)⟩⟩]<|RgH.nilc ?_
 have ho16:SlOwn kBlob 45 H none 0 ([]:List Blob) none:=SlOwn.nil
 obtain ⟨hn4,heq⟩:=guard?_some heq
 refine RgH.does (DoesH.append (d:=93) (k:=0) (t:=22) (e:=45) (bytes:=48) (kd:=kBlob) (n:=0) (m:=v_k9.toNat) (xs:=([]:List Blob)) (ys:=(y3.2.2.Blobs.take v_k9.toNat)) (A:=none) (B:=A4) (c:=0) (cB:=c4) (by kernel_rfl) rfl hn2 (by kernel_rfl) rfl ho16 (fun w hh=>ho15.rdb (hh.chin 3 rfl)) (room_le hn4) (by have:=room_le hn4; omega)) ?_
 rintro _ _ _ _ ⟨A6,c6,ch7,rfl,rfl,rfl,ho17⟩
 refine RgH.nrm ?_
 refine Zd 9<|An 1<|Sd 1 18 [] [3,3,3,3,3,3,3,3,3,3,3,3,3,3,3,0,1,3]<|Zr [0] 17 [] (Pk 7 [0,1,2,3,4,5,6]) (Pk 7 [1,2,3,4,5,6])<|Zt [1,2,3,4,5,6,7,8,9,10,11,12,13,14] 3 [bx 5 2,bx 5 5,bx 5 1,bx 5 1,bx 1 1] (Pk 7 [1,2,3,4,5,6]) ?_
 refine Dz 15 (DoesH.new (d:=109) (v:=fun g=>.slice (some ⟨g,0,none⟩) 1 1) (o:=fun g=>.cells #[.string a1.Digest,iv a1.Size,iv a1.At,iv (w64 (a1.At+y3.2.2.Lease)),iv 0] 45 (0,0)) (fun g=>by kernel_rfl)) ?_
 rintro _ _ _ _ ⟨g3,rfl,rfl,rfl⟩
 have ho18:SlOwn kBlob 45 H (some ⟨g3,0,none⟩) 1 ([(⟨a1.Digest,a1.Size,a1.At,w64 (a1.At+y3.2.2.Lease),0⟩:Blob)]:List Blob) (some (g3,.cells #[.string a1.Digest,iv a1.Size,iv a1.At,iv (w64 (a1.At+y3.2.2.Lease)),iv 0] 45 (0,0))):=SlOwn.lit (xs:=([(⟨a1.Digest,a1.Size,a1.At,w64 (a1.At+y3.2.2.Lease),0⟩:Blob)]:List Blob)) (by kernel_rfl) (Nat.le_of_ble_eq_true (by kernel_rfl)) (Kd.Rep.one kBlob_mk)
 refine ⟨fun _ w hh=>⟨fun _=>(Pk 8 [1,2,3,4,5,6,7]) w hh,fun _=>(Pk 8 [2,3,4,5,6,7]) w hh,(fun h=>by cases h)⟩,?_⟩
 obtain ⟨hn5,heq⟩:=guard?_some heq
 refine Dz 16 (DoesH.append (d:=110) (k:=1) (t:=22) (e:=45) (bytes:=48) (kd:=kBlob) (n:=(([]:List Blob)++(y3.2.2.Blobs.take v_k9.toNat)).length) (m:=1) (xs:=(([]:List Blob)++(y3.2.2.Blobs.take v_k9.toNat))) (ys:=([(⟨a1.Digest,a1.Size,a1.At,w64 (a1.At+y3.2.2.Lease),0⟩:Blob)]:List Blob)) (A:=A6) (B:=(some ⟨g3,0,none⟩)) (c:=c6) (cB:=1) (by kernel_rfl) rfl rfl (by kernel_rfl) rfl ho17 (fun w hh=>ho18.rdb (hh.chin 0 rfl)) (room_le hn5) (by have:=room_le hn5; omega)) ?_
 rintro _ _ _ _ ⟨A7,c7,ch8,rfl,rfl,rfl,ho19⟩
 refine ⟨fun _ w hh=>⟨(fun h=>by cases h),fun _=>(Pk 8 [2,3,4,5,6,7]) w hh,(fun h=>by cases h)⟩,?_⟩
 refine DrH.nrm ?_
 refine Zt [17] 0 [] (Pk 8 [2,3,4,5,6,7]) ?_
 refine DrH.done (by kernel_rfl) ?_
 refine Sa 1 ?_
 obtain ⟨hn7,heq⟩:=guard?_some heq
 have hn6:y3.2.2.Blobs.length - v_k9.toNat=(y3.2.2.Blobs.drop v_k9.toNat).length:=by have h1:=both_of hn7; have h3:=trivial; (try simp); (try omega)
 have ho20:=ho9.drop v_k9.toNat (by have h2:=ho9.cap; have h3:=trivial; have h1:=both_of hn7; omega)
 refine Zv 8 [bx 3 2,⟨.need ((0:Int)≤v_k9∧v_k9≤((y3.2.2.Blobs.length:Nat):Int)),fun w hh=>(both_of hn7)⟩] ?_
 obtain ⟨hn8,heq⟩:=guard?_some heq
 refine RgH.does (DoesH.append (d:=119) (k:=1) (t:=22) (e:=45) (bytes:=48) (kd:=kBlob) (n:=((([]:List Blob)++(y3.2.2.Blobs.take v_k9.toNat))++([(⟨a1.Digest,a1.Size,a1.At,w64 (a1.At+y3.2.2.Lease),0⟩:Blob)]:List Blob)).length) (m:=y3.2.2.Blobs.length - v_k9.toNat) (xs:=((([]:List Blob)++(y3.2.2.Blobs.take v_k9.toNat))++([(⟨a1.Digest,a1.Size,a1.At,w64 (a1.At+y3.2.2.Lease),0⟩:Blob)]:List Blob))) (ys:=(y3.2.2.Blobs.drop v_k9.toNat)) (A:=A7) (B:=(shiftA c4 v_k9.toNat 5 A4)) (c:=c7) (cB:=(c4 - v_k9.toNat)) (by kernel_rfl) rfl hn6 (by kernel_rfl) rfl ho19 (fun w hh=>ho20.rdb (hh.chin 4 rfl)) (room_le hn8) (by have:=room_le hn8; omega)) ?_
 rintro _ _ _ _ ⟨A8,c8,ch9,rfl,rfl,rfl,ho21⟩
 refine RgH.nrm ?_
 refine Zk 11 ?_
 refine RgH.does (DoesH.store (k:=3) (g:=ga0) (off:=2) (v:=.slice A8 ((((([]:List Blob)++(y3.2.2.Blobs.take v_k9.toNat))++([(⟨a1.Digest,a1.Size,a1.At,w64 (a1.At+y3.2.2.Lease),0⟩:Blob)]:List Blob))++(y3.2.2.Blobs.drop v_k9.toNat)).length) c8) (cells':=#[iv y3.2.2.Room,iv y3.2.2.Lease,.slice A8 ((((([]:List Blob)++(y3.2.2.Blobs.take v_k9.toNat))++([(⟨a1.Digest,a1.Size,a1.At,w64 (a1.At+y3.2.2.Lease),0⟩:Blob)]:List Blob))++(y3.2.2.Blobs.drop v_k9.toNat)).length) c8,.slice A5 y3.2.2.Entries.length c5]) (by kernel_rfl) rfl (by kernel_rfl) (by kernel_rfl)) ?_
 rintro _ _ _ _ ⟨rfl,rfl,rfl⟩
 refine RgH.nrm ?_
 refine Dn<|Sa 1<|Zk 2 ?_
 refine RgH.does (DoesH.store (k:=6) (g:=g2) (off:=0) (v:=.agg #[.bool true,.slice none 0 0,.slice A3 y3.1.length c3]) (cells':=#[.bool true,.slice none 0 0,.slice A3 y3.1.length c3]) (by kernel_rfl) rfl (by kernel_rfl) (by kernel_rfl)) ?_
 rintro _ _ _ _ ⟨rfl,rfl,rfl⟩
 refine RgH.nrm ?_
 refine Zd 4<|RunH.nilc ?_
 have ho22:SlOwn Kd.string 9 H none 0 ([]:List ByteArray) none:=SlOwn.nil
 obtain rfl:=Option.some.inj heq
 refine Up 9 [7,0,3,4,2,6] ?_
 exact RunH.doneM' 1 (vs:=[.agg #[.bool true,.slice none 0 0,.slice A3 y3.1.length c3],iv 0]) (v:=.tuple #[.agg #[.bool true,.slice none 0 0,.slice A3 y3.1.length c3],iv 0]) (by kernel_rfl) Tryz.func44 (fun w hh=>show ResAll _ _ _ [.cell 4 33,.tmp 5] _ from ⟨⟨⟨g2,0,none⟩,by kernel_rfl,trS_run _ (vs:=[.bool true,.slice none 0 0,.slice A3 y3.1.length c3]) (r:=[]) (es:=[.load ⟨g2,0,none⟩ (.bool true),.load ⟨g2,1,none⟩ (.slice none 0 0),.load ⟨g2,2,none⟩ (.slice A3 y3.1.length c3)]) (by kernel_rfl) ⟨(hh.box 0 rfl rfl),(hh.box 0 rfl rfl),(hh.box 0 rfl rfl)⟩⟩,(show lk _ _=some _ by kernel_rfl),trivial⟩) rfl (cs':=none::ch4::(some (ga0,.cells #[iv y3.2.2.Room,iv y3.2.2.Lease,.slice A8 ((((([]:List Blob)++(y3.2.2.Blobs.take v_k9.toNat))++([(⟨a1.Digest,a1.Size,a1.At,w64 (a1.At+y3.2.2.Lease),0⟩:Blob)]:List Blob))++(y3.2.2.Blobs.drop v_k9.toNat)).length) c8,.slice A5 y3.2.2.Entries.length c5] 25 (0,0)))::ch9::ch6::F) rfl ⟨none,0,none,A3,c3,ch4,A8,c8,ch9,A5,c5,ch6,rfl,rfl,rfl,ho22,ho8,ho21,ho10⟩
theorem smithyardref7_putBlob_2.l2_c {r:CacheAnswer × Int × Cache} (e1:CacheEvent→((List ByteArray) × Bool × Cache)→Int→Option (CacheAnswer × Int × Cache))
  (he1:∀ (ga0:Nat) (a1:CacheEvent) (Aa1_3:Option Addr) (ca1_3 g1 g2:Nat) (y3:(List ByteArray) × Bool × Cache) (A3:Option Addr) (c3:Nat) (ch4:Ch) (A4:Option Addr) (c4:Nat) (ch5:Ch) (A5:Option Addr) (c5:Nat) (ch6:Ch) (v_k9:Int) ,Rw Kd.string H F Aa1_3 a1.Digests→a1.Digests.length≤ca1_3→SlOwn Kd.string 9 H A3 c3 y3.1 ch4→SlOwn kBlob 45 H A4 c4 y3.2.2.Blobs ch5→SlOwn kEntry 47 H A5 c5 y3.2.2.Entries ch6→e1 a1 y3 v_k9=some r→RunH C44v2 (S44v2 F H ga0 r) H w0 [.c [1,1,1,1,1,1,1,1,0],.c [1,1,1,1,1,1,1,1,1]] [(0,pg ga0 0),(3,pg g1 0),(4,pg g2 0),(7,.slice A3 y3.1.length c3),(9,iv v_k9)] H (ch4::(some (ga0,.cells #[iv y3.2.2.Room,iv y3.2.2.Lease,.slice A4 y3.2.2.Blobs.length c4,.slice A5 y3.2.2.Entries.length c5] 25 (0,0)))::ch5::ch6::(some (g2,.cells #[.bool false,.slice none 0 0,.slice none 0 0] 33 (0,0)))::(some (g1,.cells #[iv a1.Kind,iv a1.At,.string a1.Digest,.slice Aa1_3 a1.Digests.length ca1_3,.string a1.Key,iv a1.Size] 28 (0,0)))::F)):∀ (k:Nat),∀ (ga0:Nat) (a1:CacheEvent) (Aa1_3:Option Addr) (ca1_3 g1 g2:Nat) (y3:(List ByteArray) × Bool × Cache) (A3:Option Addr) (c3:Nat) (ch4:Ch) (A4:Option Addr) (c4:Nat) (ch5:Ch) (A5:Option Addr) (c5:Nat) (ch6:Ch) (v_k9:Int) ,Rw Kd.string H F Aa1_3 a1.Digests→a1.Digests.length≤ca1_3→SlOwn Kd.string 9 H A3 c3 y3.1 ch4→SlOwn kBlob 45 H A4 c4 y3.2.2.Blobs ch5→SlOwn kEntry 47 H A5 c5 y3.2.2.Entries ch6→smithyardref7_putBlob_2.l2 e1 k a1 y3 v_k9=some r→RunH C44v2 (S44v2 F H ga0 r) H w0 [.c [1,1,1,1,1,1,1,0,0,0],.l [1,1,1,1,1,1,1,0,0,0],.b 0,.c [1,1,1,1,1,1,1,1]] [(0,pg ga0 0),(3,pg g1 0),(4,pg g2 0),(7,.slice A3 y3.1.length c3),(9,iv v_k9)] H (ch4::(some (ga0,.cells #[iv y3.2.2.Room,iv y3.2.2.Lease,.slice A4 y3.2.2.Blobs.length c4,.slice A5 y3.2.2.Entries.length c5] 25 (0,0)))::ch5::ch6::(some (g2,.cells #[.bool false,.slice none 0 0,.slice none 0 0] 33 (0,0)))::(some (g1,.cells #[iv a1.Kind,iv a1.At,.string a1.Digest,.slice Aa1_3 a1.Digests.length ca1_3,.string a1.Key,iv a1.Size] 28 (0,0)))::F):=by
 intro k
 induction k with
 | zero=>intro ga0 a1 Aa1_3 ca1_3 g1 g2 y3 A3 c3 ch4 A4 c4 ch5 A5 c5 ch6 v_k9 hra1_3 hca1_3 ho8 ho9 ho10 heq; exact nomatch (show (none:Option (CacheAnswer × Int × Cache))=some r from heq)
 | succ k ihk =>
  intro ga0 a1 Aa1_3 ca1_3 g1 g2 y3 A3 c3 ch4 A4 c4 ch5 A5 c5 ch6 v_k9 hra1_3 hca1_3 ho8 ho9 ho10 heq
  rw [smithyardref7_putBlob_2.l2] at heq
  refine An 2 ?_
  obtain ⟨t1,ht1,heq⟩:=bind_some heq
  have K22:RunH C44v2 (S44v2 F H ga0 r) H w0 [.c [1,1,1,1,1,1,1,0,0,0,0,1],.c [1,1,1,1,1,1,1,0,0,0,1],.l [1,1,1,1,1,1,1,0,0,0],.b 0,.c [1,1,1,1,1,1,1,1]] [(0,pg ga0 0),(3,pg g1 0),(4,pg g2 0),(7,.slice A3 y3.1.length c3),(9,iv v_k9),(83,.bool t1)] H (ch4::(some (ga0,.cells #[iv y3.2.2.Room,iv y3.2.2.Lease,.slice A4 y3.2.2.Blobs.length c4,.slice A5 y3.2.2.Entries.length c5] 25 (0,0)))::ch5::ch6::(some (g2,.cells #[.bool false,.slice none 0 0,.slice none 0 0] 33 (0,0)))::(some (g1,.cells #[iv a1.Kind,iv a1.At,.string a1.Digest,.slice Aa1_3 a1.Digests.length ca1_3,.string a1.Key,iv a1.Size] 28 (0,0)))::F):=by
   refine Cb heq ?_ ?_
   ·intro hb6 heq
    refine Sa 2<|Zd 3<|An 2 ?_
    exact Gt 0 [] (ihk _ a1 _ _ _ _ y3 _ _ _ _ _ _ _ _ _ (w64 (v_k9+1)) hra1_3 hca1_3 ho8 ho9 ho10 heq)
   ·intro hb6 heq
    refine An 2 ?_
    exact Gt 0 [] (he1 _ a1 _ _ _ _ y3 _ _ _ _ _ _ _ _ _ v_k9 hra1_3 hca1_3 ho8 ho9 ho10 heq)
  replace heq:=ht1
  refine Sd 0 20 [] [3,3,3,3,3,3,3,3,3,3,3,3,3,3,3,3,3,3,3,3]<|Zr [0,1,2,3,4,5,6,7] 12 [bx 1 2] (Pk 6 [0,1,2,3,4,5]) (Pk 6 [0,1,2,3,4,5]) ?_
  rcases bool_cases (decide (v_k9<(y3.2.2.Blobs.length:Int))) with hb5 | hb5
  ·replace heq:=bif_true hb5 heq
   refine Zu 71 (congrArg Value.bool hb5) ?_
   obtain ⟨x2,hx2,heq⟩:=bind_some heq
   obtain ⟨ha3,cs3,hK3,hcc3⟩:=ho9.get hx2
   obtain ⟨rfl⟩:=kBlob_open hK3
   refine Zr [8,9,10,11,12,13,14,15,16,17,18,19] 0 [bx 1 2,nx ha3 hx2,el hcc3 2 0,bx 5 2] (Pk 6 [0,1,2,3,4,5]) (Pk 6 [0,1,2,3,4,5]) ?_
   obtain rfl:=Option.some.inj heq
   refine DrH.done (by kernel_rfl) ?_
   exact Gt 0 [] (K22)
  ·replace heq:=bif_false hb5 heq
   refine Zu 71 (congrArg Value.bool hb5)<|Zr [8,9,10,11,12,13,14,15,16,17,18,19] 0 [] (Pk 6 [0,1,2,3,4,5]) (Pk 6 [0,1,2,3,4,5]) ?_
   obtain rfl:=Option.some.inj heq
   refine DrH.done (by kernel_rfl) ?_
   exact Gt 0 [] (K22)
theorem smithyardref7_putBlob_2_c {ga0:Nat} {a0:Cache} {Aa0_2:Option Addr} {na0_2 ca0_2:Nat} {cha0_2:Ch} {Aa0_3:Option Addr} {na0_3 ca0_3:Nat} {cha0_3:Ch} {a1:CacheEvent} {Aa1_3:Option Addr} {na1_3 ca1_3:Nat} {r:CacheAnswer × Int × Cache} (heq:smithyardref7_putBlob_2.f a0 a1=some r) (hoa0_2:SlOwn kBlob 45 H Aa0_2 ca0_2 a0.Blobs cha0_2) (hna0_2:na0_2=a0.Blobs.length) (hoa0_3:SlOwn kEntry 47 H Aa0_3 ca0_3 a0.Entries cha0_3) (hna0_3:na0_3=a0.Entries.length) (hra1_3:Rw Kd.string H F Aa1_3 a1.Digests) (hca1_3:na1_3≤ca1_3) (hna1_3:na1_3=a1.Digests.length):CallsH Tryz.prog 44 #[.pointer (some ⟨ga0,0,none⟩),.agg #[iv a1.Kind,iv a1.At,.string a1.Digest,.slice Aa1_3 na1_3 ca1_3,.string a1.Key,iv a1.Size]] H w0 ((some (ga0,.cells #[iv a0.Room,iv a0.Lease,.slice Aa0_2 na0_2 ca0_2,.slice Aa0_3 na0_3 ca0_3] 25 (0,0)))::cha0_2::cha0_3::F) (S44v2 F H ga0 r):=by
 refine Co C44v2 Tryz.func44 Tryz.ntmps44 ?_
 subst hna0_2
 subst hna0_3
 subst hna1_3
 unfold smithyardref7_putBlob_2.f at heq
 refine Sa 1 ?_
 refine RgH.does (DoesH.new (d:=3) (v:=fun g=>.pointer (some ⟨g,0,none⟩)) (o:=fun g=>.cells #[iv a1.Kind,iv a1.At,.string a1.Digest,.slice Aa1_3 a1.Digests.length ca1_3,.string a1.Key,iv a1.Size] 28 (0,0)) (fun g=>by kernel_rfl)) ?_
 rintro _ _ _ _ ⟨g1,rfl,rfl,rfl⟩
 refine RgH.does (DoesH.new (d:=4) (v:=fun g=>.pointer (some ⟨g,0,none⟩)) (o:=fun g=>.cells #[.bool false,.slice none 0 0,.slice none 0 0] 33 (0,0)) (fun g=>by kernel_rfl)) ?_
 rintro _ _ _ _ ⟨g2,rfl,rfl,rfl⟩
 refine Zd 3<|Sa 2<|Zv 3 [bx 1 2] ?_
 obtain ⟨y1,hy1,heq⟩:=bind_some heq
 refine RgH.does (cal 14 (smithyardref7_blob_c hy1 (hoa0_2.rw (.tail _ (.tail _ (.tail _ (.head _))))) hoa0_2.cap rfl (hoa0_3.rw (.tail _ (.tail _ (.tail _ (.tail _ (.head _)))))) hoa0_3.cap rfl (.inr (.tail _ (.tail _ (.head _)))))) ?_
 rintro _ _ _ _ ⟨_,rfl,rfl,rfl,rfl⟩
 refine Zd 5<|Sa 1<|Zd 2 ?_
 refine Cb heq ?_ ?_
 ·intro hb1 heq
  refine An 1<|Sd 0 10 [] [3,3,3,3,3,3,3,0,3,2]<|Zr [0,1,2,3,4,5,6] 3 [bx 2 2,bx 1 1] (Pk 5 [0,1,2,3,4]) (Pk 5 [0,1,2,3,4]) ?_
  obtain ⟨x1,hx1,heq⟩:=bind_some heq
  obtain ⟨ha1,cs1,hK1,hcc1⟩:=hoa0_2.get hx1
  obtain ⟨rfl⟩:=kBlob_open hK1
  refine Dz 7 (DoesH.pureop (d:=24) (v:=.pointer (some ((adr Aa0_2).add (y1.toNat*5)))) (vs:=[]) (evs:=[.need (Aa0_2=some (adr Aa0_2)∧(0:Int)≤y1∧y1<((a0.Blobs.length:Nat):Int))]) (by kernel_rfl) (fun w hh=>⟨ha1,(at?_some hx1).1,(at?_some hx1).2.1⟩)) ?_
  rintro _ _ _ _ ⟨rfl,rfl,rfl⟩
  refine ⟨fun _ w hh=>⟨fun _=>(Pk 5 [0,1,2,3,4]) w hh,fun _=>(Pk 5 [0,1,2,3,4]) w hh,(fun h=>by cases h)⟩,?_⟩
  refine Zr [8] 1 [] (Pk 5 [0,1,2,3,4]) (Pk 5 [0,1,2,3,4]) ?_
  obtain ⟨ha2,cs2,hK2,hcc2⟩:=hoa0_2.get hx1
  obtain ⟨rfl⟩:=kBlob_open hK2
  refine Dz 9 (DoesH.storeEl (a:=(((adr Aa0_2).add (y1.toNat*5)).add 2)) (k:=3) (kd:=kBlob) (c0:=[.string x1.Digest,iv x1.Size,iv x1.Used,iv x1.Until,iv x1.Pins]) (x':=(⟨x1.Digest,x1.Size,a1.At,x1.Until,x1.Pins⟩:Blob)) (o:=2) (ix:=y1) (v:=iv a1.At) (by kernel_rfl) rfl hoa0_2 hx1 (by kernel_rfl) hcc2 rfl (Nat.le_of_ble_eq_true (by kernel_rfl)) kBlob_mk) ?_
  rintro _ _ _ _ ⟨ch1,rfl,rfl,rfl,ho1⟩
  have hn1:a0.Blobs.length=(a0.Blobs.set y1.toNat (⟨x1.Digest,x1.Size,a1.At,x1.Until,x1.Pins⟩:Blob)).length:=by rw [List.length_set]
  refine ⟨fun _ w hh=>⟨(fun h=>by cases h),(fun h=>absurd h (by decide)),(fun h=>by cases h)⟩,?_⟩
  refine DrH.nrm ?_
  refine DrH.done (by kernel_rfl) ?_
  refine Sa 1<|Zv 4 [bx 1 1]<|Ug 5 [2,3,4,0,1] ?_
  obtain ⟨y2,hy2,heq⟩:=bind_some heq
  refine RgH.does (cal 30 (smithyardref7_lease_2_c (a0:=(⟨a0.Room,a0.Lease,(a0.Blobs.set y1.toNat (⟨x1.Digest,x1.Size,a1.At,x1.Until,x1.Pins⟩:Blob)),a0.Entries⟩:Cache)) hy2 ho1 hn1 hoa0_3 rfl)) ?_
  rintro _ _ _ _ ⟨_,rfl,A1,c1,ch2,A2,c2,ch3,rfl,rfl,rfl,ho2,ho3⟩
  refine Dn<|Sa 1<|Zk 1 ?_
  refine RgH.does (DoesH.store (k:=3) (g:=g2) (off:=0) (v:=.agg #[.bool true,.slice none 0 0,.slice none 0 0]) (cells':=#[.bool true,.slice none 0 0,.slice none 0 0]) (by kernel_rfl) rfl (by kernel_rfl) (by kernel_rfl)) ?_
  rintro _ _ _ _ ⟨rfl,rfl,rfl⟩
  refine RgH.nrm ?_
  refine Zd 3<|RunH.nilc ?_
  have ho4:SlOwn Kd.string 9 H none 0 ([]:List ByteArray) none:=SlOwn.nil
  refine RunH.nilc ?_
  have ho5:SlOwn Kd.string 9 H none 0 ([]:List ByteArray) none:=SlOwn.nil
  obtain rfl:=Option.some.inj heq
  refine Up 7 [5,1,0,2,3,4] ?_
  exact RunH.doneM' 1 (vs:=[.agg #[.bool true,.slice none 0 0,.slice none 0 0],iv 0]) (v:=.tuple #[.agg #[.bool true,.slice none 0 0,.slice none 0 0],iv 0]) (by kernel_rfl) Tryz.func44 (fun w hh=>show ResAll _ _ _ [.cell 4 33,.tmp 5] _ from ⟨⟨⟨g2,0,none⟩,by kernel_rfl,trS_run _ (vs:=[.bool true,.slice none 0 0,.slice none 0 0]) (r:=[]) (es:=[.load ⟨g2,0,none⟩ (.bool true),.load ⟨g2,1,none⟩ (.slice none 0 0),.load ⟨g2,2,none⟩ (.slice none 0 0)]) (by kernel_rfl) ⟨(hh.box 0 rfl rfl),(hh.box 0 rfl rfl),(hh.box 0 rfl rfl)⟩⟩,(show lk _ _=some _ by kernel_rfl),trivial⟩) rfl (cs':=none::none::(some (ga0,.cells #[iv y2.Room,iv y2.Lease,.slice A1 y2.Blobs.length c1,.slice A2 y2.Entries.length c2] 25 (0,0)))::ch2::ch3::F) rfl ⟨none,0,none,none,0,none,A1,c1,ch2,A2,c2,ch3,rfl,rfl,rfl,ho4,ho5,ho2,ho3⟩
 ·intro hb1 heq
  refine An 3<|Sd 0 7 [] [3,3,3,3,3,3,3]<|Zr [0,1,2,3,4,5,6] 0 [bx 1 5,bx 2 0] (Pk 5 [0,1,2,3,4]) (Pk 5 [0,1,2,3,4]) ?_
  refine DrH.done (by kernel_rfl) ?_
  refine Cb heq ?_ ?_
  ·intro hb2 heq
   refine Sa 1<|Zk 1 ?_
   refine RgH.does (DoesH.store (k:=0) (g:=g2) (off:=0) (v:=.agg #[.bool false,.slice none 0 0,.slice none 0 0]) (cells':=#[.bool false,.slice none 0 0,.slice none 0 0]) (by kernel_rfl) rfl (by kernel_rfl) (by kernel_rfl)) ?_
   rintro _ _ _ _ ⟨rfl,rfl,rfl⟩
   refine RgH.nrm ?_
   refine Zd 3<|RunH.nilc ?_
   have ho6:SlOwn Kd.string 9 H none 0 ([]:List ByteArray) none:=SlOwn.nil
   refine RunH.nilc ?_
   have ho7:SlOwn Kd.string 9 H none 0 ([]:List ByteArray) none:=SlOwn.nil
   obtain rfl:=Option.some.inj heq
   refine Up 4 [2,1,0] ?_
   exact RunH.doneM' 1 (vs:=[.agg #[.bool false,.slice none 0 0,.slice none 0 0],iv 0]) (v:=.tuple #[.agg #[.bool false,.slice none 0 0,.slice none 0 0],iv 0]) (by kernel_rfl) Tryz.func44 (fun w hh=>show ResAll _ _ _ [.cell 4 33,.tmp 5] _ from ⟨⟨⟨g2,0,none⟩,by kernel_rfl,trS_run _ (vs:=[.bool false,.slice none 0 0,.slice none 0 0]) (r:=[]) (es:=[.load ⟨g2,0,none⟩ (.bool false),.load ⟨g2,1,none⟩ (.slice none 0 0),.load ⟨g2,2,none⟩ (.slice none 0 0)]) (by kernel_rfl) ⟨(hh.box 0 rfl rfl),(hh.box 0 rfl rfl),(hh.box 0 rfl rfl)⟩⟩,(show lk _ _=some _ by kernel_rfl),trivial⟩) rfl (cs':=none::none::(some (ga0,.cells #[iv a0.Room,iv a0.Lease,.slice Aa0_2 a0.Blobs.length ca0_2,.slice Aa0_3 a0.Entries.length ca0_3] 25 (0,0)))::cha0_2::cha0_3::F) rfl ⟨none,0,none,none,0,none,Aa0_2,ca0_2,cha0_2,Aa0_3,ca0_3,cha0_3,rfl,rfl,rfl,ho6,ho7,hoa0_2,hoa0_3⟩
  ·intro hb2 heq
   refine An 2<|Sd 5 16 [0,1] [3,3,3,3,0,3,3,3,3,3,1,3,3,3,3,3]<|Zr [0] 15 [] (Pk 5 [0,1,2,3,4]) (Pk 5 [0,1])<|Zt [1,2,3,5,6,8] 9 [bx 1 5] (Pk 5 [0,1])<|Zr [9] 8 [bx 1 1] (Pk 5 [0,1,2,3,4]) (Pk 5 [0,1]) ?_
   refine Dz 4 (DoesH.pureop (d:=45) (v:=iv a0.Room) (vs:=[iv a0.Room]) (evs:=[.load ⟨ga0,0,none⟩ (iv a0.Room)]) (by kernel_rfl) (fun w hh=>(hh.box 2 rfl rfl))) ?_
   rintro _ _ _ _ ⟨rfl,rfl,rfl⟩
   refine ⟨fun _ w hh=>⟨fun _=>(Pk 5 [0,1,2,3,4]) w hh,fun _=>(Pk 5 [0,1]) w hh,(fun h=>by cases h)⟩,?_⟩
   refine Zr [7] 6 [] (Pk 5 [0,1,2,3,4]) (Pk 5 [0,1])<|Ur 5 [2,3,4,0,1] ?_
   obtain ⟨y3,hy3,heq⟩:=bind_some heq
   refine Dz 10 (cal 51 (smithyardref7_space_2_c hy3 hoa0_2 rfl hoa0_3 rfl)) ?_
   rintro _ _ _ _ ⟨_,rfl,A3,c3,ch4,A4,c4,ch5,A5,c5,ch6,rfl,rfl,rfl,ho8,ho9,ho10⟩
   refine ⟨fun _ w hh=>⟨(fun h=>by cases h),fun _=>(Pk 6 [4,5]) w hh,(fun h=>by cases h)⟩,?_⟩
   refine Zt [11,12,13,14,15] 0 [] (Pk 6 [4,5]) ?_
   refine DrH.done (by kernel_rfl) ?_
   refine Sa 2<|Zd 2 ?_
   refine Cb heq ?_ ?_
   ·intro hb3 heq
    refine Sa 1<|Zk 1 ?_
    refine RgH.does (DoesH.store (k:=4) (g:=g2) (off:=0) (v:=.agg #[.bool false,.slice none 0 0,.slice none 0 0]) (cells':=#[.bool false,.slice none 0 0,.slice none 0 0]) (by kernel_rfl) rfl (by kernel_rfl) (by kernel_rfl)) ?_
    rintro _ _ _ _ ⟨rfl,rfl,rfl⟩
    refine RgH.nrm ?_
    refine Zd 3<|RunH.nilc ?_
    have ho11:SlOwn Kd.string 9 H none 0 ([]:List ByteArray) none:=SlOwn.nil
    refine RunH.nilc ?_
    have ho12:SlOwn Kd.string 9 H none 0 ([]:List ByteArray) none:=SlOwn.nil
    obtain rfl:=Option.some.inj heq
    refine Up 8 [6,1,0,3,4,5] ?_
    exact RunH.doneM' 1 (vs:=[.agg #[.bool false,.slice none 0 0,.slice none 0 0],iv 0]) (v:=.tuple #[.agg #[.bool false,.slice none 0 0,.slice none 0 0],iv 0]) (by kernel_rfl) Tryz.func44 (fun w hh=>show ResAll _ _ _ [.cell 4 33,.tmp 5] _ from ⟨⟨⟨g2,0,none⟩,by kernel_rfl,trS_run _ (vs:=[.bool false,.slice none 0 0,.slice none 0 0]) (r:=[]) (es:=[.load ⟨g2,0,none⟩ (.bool false),.load ⟨g2,1,none⟩ (.slice none 0 0),.load ⟨g2,2,none⟩ (.slice none 0 0)]) (by kernel_rfl) ⟨(hh.box 0 rfl rfl),(hh.box 0 rfl rfl),(hh.box 0 rfl rfl)⟩⟩,(show lk _ _=some _ by kernel_rfl),trivial⟩) rfl (cs':=none::none::(some (ga0,.cells #[iv y3.2.2.Room,iv y3.2.2.Lease,.slice A4 y3.2.2.Blobs.length c4,.slice A5 y3.2.2.Entries.length c5] 25 (0,0)))::ch5::ch6::F) rfl ⟨none,0,none,none,0,none,A4,c4,ch5,A5,c5,ch6,rfl,rfl,rfl,ho11,ho12,ho9,ho10⟩
   ·intro hb3 heq
    refine Sa 3<|Zw 6 [bx 1 2] ?_
    refine Cb heq ?_ ?_
    ·intro hb4 heq
     refine Sa 1<|Zk 1 ?_
     refine RgH.does (DoesH.store (k:=4) (g:=g2) (off:=0) (v:=.agg #[.bool false,.slice none 0 0,.slice none 0 0]) (cells':=#[.bool false,.slice none 0 0,.slice none 0 0]) (by kernel_rfl) rfl (by kernel_rfl) (by kernel_rfl)) ?_
     rintro _ _ _ _ ⟨rfl,rfl,rfl⟩
     refine RgH.nrm ?_
     refine Zd 3<|RunH.nilc ?_
     have ho13:SlOwn Kd.string 9 H none 0 ([]:List ByteArray) none:=SlOwn.nil
     refine RunH.nilc ?_
     have ho14:SlOwn Kd.string 9 H none 0 ([]:List ByteArray) none:=SlOwn.nil
     obtain rfl:=Option.some.inj heq
     refine Up 8 [6,1,0,3,4,5] ?_
     exact RunH.doneM' 1 (vs:=[.agg #[.bool false,.slice none 0 0,.slice none 0 0],iv 16]) (v:=.tuple #[.agg #[.bool false,.slice none 0 0,.slice none 0 0],iv 16]) (by kernel_rfl) Tryz.func44 (fun w hh=>show ResAll _ _ _ [.cell 4 33,.tmp 5] _ from ⟨⟨⟨g2,0,none⟩,by kernel_rfl,trS_run _ (vs:=[.bool false,.slice none 0 0,.slice none 0 0]) (r:=[]) (es:=[.load ⟨g2,0,none⟩ (.bool false),.load ⟨g2,1,none⟩ (.slice none 0 0),.load ⟨g2,2,none⟩ (.slice none 0 0)]) (by kernel_rfl) ⟨(hh.box 0 rfl rfl),(hh.box 0 rfl rfl),(hh.box 0 rfl rfl)⟩⟩,(show lk _ _=some _ by kernel_rfl),trivial⟩) rfl (cs':=none::none::(some (ga0,.cells #[iv y3.2.2.Room,iv y3.2.2.Lease,.slice A4 y3.2.2.Blobs.length c4,.slice A5 y3.2.2.Entries.length c5] 25 (0,0)))::ch5::ch6::F) rfl ⟨none,0,none,none,0,none,A4,c4,ch5,A5,c5,ch6,rfl,rfl,rfl,ho13,ho14,ho9,ho10⟩
    ·intro hb4 heq
     refine Sa 2<|Zd 1<|An 3 ?_
     exact Gt 0 [] (((smithyardref7_putBlob_2.l2_c (e1:=smithyardref7_putBlob_2.e1) (smithyardref7_putBlob_2.e1_c)) big) _ a1 _ _ _ _ y3 _ _ _ _ _ _ _ _ _ 0 hra1_3 hca1_3 ho8 ho9 ho10 heq)
noncomputable def C65:Ctx:={ P:=Tryz.prog,f:=65,N:=28,c:=bodyOf Tryz.f65 }
def S65 (F:List Ch) (H0:Hp) (r:(List ByteArray)) (v:Value) (H:Hp) (cs:List Ch):Prop:=∃ (A0:Option Addr) (c0:Nat) (ch0:Ch),H0=H∧v=.slice A0 r.length c0∧ch0::F=cs∧SlOwn Kd.string 9 H A0 c0 r ch0
theorem smithyardref7_missing.e1_c {r:(List ByteArray)}:∀ (v_out5:List ByteArray) (Av_out5:Option Addr) (nv_out5 cv_out5:Nat) (chv_out5:Ch) ,SlOwn Kd.string 9 H Av_out5 cv_out5 v_out5 chv_out5→nv_out5=v_out5.length→smithyardref7_missing.e1 v_out5=some r→RunH C65 (S65 F H r) H w0 [.c [1,1,1,0],.c [1,1,1,1]] [(5,.slice Av_out5 nv_out5 cv_out5)] H (chv_out5::F):=by
 intro v_out5 Av_out5 nv_out5 cv_out5 chv_out5 hov_out5 hnv_out5 heq
 subst hnv_out5
 unfold smithyardref7_missing.e1 at heq
 refine Sa 0<|Zd 2 ?_
 obtain rfl:=Option.some.inj heq
 exact RunH.done (by kernel_rfl) Tryz.func65 (v:=.slice Av_out5 v_out5.length cv_out5) (by kernel_rfl) ⟨Av_out5,cv_out5,chv_out5,rfl,rfl,rfl,hov_out5⟩
theorem smithyardref7_missing.j3_c {r:(List ByteArray)} (backl2:Cache→(List ByteArray)→(List ByteArray)→Int→Option (List ByteArray))
  (hbackl2:∀ (ga0:Nat) (a0:Cache) (Aa0_2:Option Addr) (ca0_2:Nat) (Aa0_3:Option Addr) (ca0_3:Nat) (a1:List ByteArray) (Aa1:Option Addr) (ca1:Nat) (v_out5:List ByteArray) (Av_out5:Option Addr) (nv_out5 cv_out5:Nat) (chv_out5:Ch) (v_i6:Int) ,Rw kBlob H F Aa0_2 a0.Blobs→a0.Blobs.length≤ca0_2→Rw kEntry H F Aa0_3 a0.Entries→a0.Entries.length≤ca0_3→InG H F ga0 (.cells #[iv a0.Room,iv a0.Lease,.slice Aa0_2 a0.Blobs.length ca0_2,.slice Aa0_3 a0.Entries.length ca0_3] 25 (0,0))→Rw Kd.string H F Aa1 a1→a1.length≤ca1→SlOwn Kd.string 9 H Av_out5 cv_out5 v_out5 chv_out5→nv_out5=v_out5.length→backl2 a0 a1 v_out5 v_i6=some r→RunH C65 (S65 F H r) H w0 [.c [1,1,0,1,0,0],.l [1,1,0,1,0,0],.b 0,.c [1,1,1]] [(0,pg ga0 0),(1,.slice Aa1 a1.length ca1),(5,.slice Av_out5 nv_out5 cv_out5),(6,iv v_i6)] H (chv_out5::F)):∀ (ga0:Nat) (a0:Cache) (Aa0_2:Option Addr) (ca0_2:Nat) (Aa0_3:Option Addr) (ca0_3:Nat) (a1:List ByteArray) (Aa1:Option Addr) (ca1:Nat) (v_i6:Int) (v_out5:List ByteArray) (Av_out5:Option Addr) (nv_out5 cv_out5:Nat) (chv_out5:Ch) ,Rw kBlob H F Aa0_2 a0.Blobs→a0.Blobs.length≤ca0_2→Rw kEntry H F Aa0_3 a0.Entries→a0.Entries.length≤ca0_3→InG H F ga0 (.cells #[iv a0.Room,iv a0.Lease,.slice Aa0_2 a0.Blobs.length ca0_2,.slice Aa0_3 a0.Entries.length ca0_3] 25 (0,0))→Rw Kd.string H F Aa1 a1→a1.length≤ca1→SlOwn Kd.string 9 H Av_out5 cv_out5 v_out5 chv_out5→nv_out5=v_out5.length→smithyardref7_missing.j3 backl2 a0 a1 v_i6 v_out5=some r→RunH C65 (S65 F H r) H w0 [.c [1,1,0,1,0,0,1,1],.l [1,1,0,1,0,0],.b 0,.c [1,1,1]] [(0,pg ga0 0),(1,.slice Aa1 a1.length ca1),(5,.slice Av_out5 nv_out5 cv_out5),(6,iv v_i6)] H (chv_out5::F):=by
 intro ga0 a0 Aa0_2 ca0_2 Aa0_3 ca0_3 a1 Aa1 ca1 v_i6 v_out5 Av_out5 nv_out5 cv_out5 chv_out5 hra0_2 hca0_2 hra0_3 hca0_3 hga0 hra1 hca1 hov_out5 hnv_out5 heq
 subst hnv_out5
 unfold smithyardref7_missing.j3 at heq
 refine Sa 0<|Zd 3<|An 1 ?_
 exact Gt 0 [] (hbackl2 _ a0 _ _ _ _ a1 _ _ v_out5 _ _ _ _ (w64 (v_i6+1)) hra0_2 hca0_2 hra0_3 hca0_3 hga0 hra1 hca1 hov_out5 rfl heq)
theorem smithyardref7_missing.l2_c {r:(List ByteArray)} (e1:(List ByteArray)→Option (List ByteArray))
  (he1:∀ (v_out5:List ByteArray) (Av_out5:Option Addr) (nv_out5 cv_out5:Nat) (chv_out5:Ch) ,SlOwn Kd.string 9 H Av_out5 cv_out5 v_out5 chv_out5→nv_out5=v_out5.length→e1 v_out5=some r→RunH C65 (S65 F H r) H w0 [.c [1,1,1,0],.c [1,1,1,1]] [(5,.slice Av_out5 nv_out5 cv_out5)] H (chv_out5::F)):∀ (k:Nat),∀ (ga0:Nat) (a0:Cache) (Aa0_2:Option Addr) (ca0_2:Nat) (Aa0_3:Option Addr) (ca0_3:Nat) (a1:List ByteArray) (Aa1:Option Addr) (ca1:Nat) (v_out5:List ByteArray) (Av_out5:Option Addr) (nv_out5 cv_out5:Nat) (chv_out5:Ch) (v_i6:Int) ,Rw kBlob H F Aa0_2 a0.Blobs→a0.Blobs.length≤ca0_2→Rw kEntry H F Aa0_3 a0.Entries→a0.Entries.length≤ca0_3→InG H F ga0 (.cells #[iv a0.Room,iv a0.Lease,.slice Aa0_2 a0.Blobs.length ca0_2,.slice Aa0_3 a0.Entries.length ca0_3] 25 (0,0))→Rw Kd.string H F Aa1 a1→a1.length≤ca1→SlOwn Kd.string 9 H Av_out5 cv_out5 v_out5 chv_out5→nv_out5=v_out5.length→smithyardref7_missing.l2 e1 k a0 a1 v_out5 v_i6=some r→RunH C65 (S65 F H r) H w0 [.c [1,1,0,1,0,0],.l [1,1,0,1,0,0],.b 0,.c [1,1,1]] [(0,pg ga0 0),(1,.slice Aa1 a1.length ca1),(5,.slice Av_out5 nv_out5 cv_out5),(6,iv v_i6)] H (chv_out5::F):=by
 intro k
 induction k with
 | zero=>intro ga0 a0 Aa0_2 ca0_2 Aa0_3 ca0_3 a1 Aa1 ca1 v_out5 Av_out5 nv_out5 cv_out5 chv_out5 v_i6 hra0_2 hca0_2 hra0_3 hca0_3 hga0 hra1 hca1 hov_out5 hnv_out5 heq; exact nomatch (show (none:Option (List ByteArray))=some r from heq)
 | succ k ihk =>
  intro ga0 a0 Aa0_2 ca0_2 Aa0_3 ca0_3 a1 Aa1 ca1 v_out5 Av_out5 nv_out5 cv_out5 chv_out5 v_i6 hra0_2 hca0_2 hra0_3 hca0_3 hga0 hra1 hca1 hov_out5 hnv_out5 heq
  subst hnv_out5
  rw [smithyardref7_missing.l2] at heq
  refine Sa 2<|Zd 4 ?_
  refine Cb heq ?_ ?_
  ·intro hb1 heq
   refine Sa 4 ?_
   obtain ⟨x1,hx1,heq⟩:=bind_some heq
   obtain ⟨ha1,cs1,hK1,hcc1⟩:=hra1.get hx1
   obtain rfl:cs1=[.string x1]:=hK1
   refine Zv 5 [nx ha1 hx1,er hcc1 1 0] ?_
   obtain ⟨y1,hy1,heq⟩:=bind_some heq
   refine RgH.does (cal 18 (smithyardref7_blob_c hy1 (hra0_2.wk (fun _ h=>(.tail _ h))) hca0_2 rfl (hra0_3.wk (fun _ h=>(.tail _ h))) hca0_3 rfl (hga0.wk (fun _ h=>(.tail _ h))))) ?_
   rintro _ _ _ _ ⟨_,rfl,rfl,rfl,rfl⟩
   refine Zd 7 ?_
   refine Cb heq ?_ ?_
   ·intro hb2 heq
    refine Sa 0 ?_
    obtain ⟨x2,hx2,heq⟩:=bind_some heq
    obtain ⟨ha2,cs2,hK2,hcc2⟩:=hra1.get hx2
    obtain rfl:cs2=[.string x2]:=hK2
    refine Zv 5 [nx ha2 hx2,er hcc2 1 0] ?_
    refine RgH.does (DoesH.new (d:=25) (v:=fun g=>.slice (some ⟨g,0,none⟩) 1 1) (o:=fun g=>.cells #[.string x2] 9 (0,0)) (fun g=>by kernel_rfl)) ?_
    rintro _ _ _ _ ⟨g1,rfl,rfl,rfl⟩
    have ho1:SlOwn Kd.string 9 H (some ⟨g1,0,none⟩) 1 ([x2]:List ByteArray) (some (g1,.cells #[.string x2] 9 (0,0))):=SlOwn.lit (xs:=([x2]:List ByteArray)) (by kernel_rfl) (Nat.le_of_ble_eq_true (by kernel_rfl)) (Kd.Rep.scalars rfl)
    obtain ⟨hn1,heq⟩:=guard?_some heq
    refine RgH.does (DoesH.append (d:=26) (k:=1) (t:=26) (e:=9) (bytes:=16) (kd:=Kd.string) (n:=v_out5.length) (m:=1) (xs:=v_out5) (ys:=([x2]:List ByteArray)) (A:=Av_out5) (B:=(some ⟨g1,0,none⟩)) (c:=cv_out5) (cB:=1) (by kernel_rfl) rfl rfl (by kernel_rfl) rfl hov_out5 (fun w hh=>ho1.rdb (hh.chin 0 rfl)) (room_le hn1) (by have:=room_le hn1; omega)) ?_
    rintro _ _ _ _ ⟨A1,c1,ch1,rfl,rfl,rfl,ho2⟩
    refine RgH.nrm ?_
    refine Zd 8<|An 1 ?_
    exact Gt 1 [] ((smithyardref7_missing.j3_c (backl2:=(smithyardref7_missing.l2 e1 k)) ihk) _ a0 _ _ _ _ a1 _ _ v_i6 (v_out5++([x2]:List ByteArray)) _ _ _ _ hra0_2 hca0_2 hra0_3 hca0_3 hga0 hra1 hca1 ho2 rfl heq)
   ·intro hb2 heq
    refine An 2 ?_
    exact Gt 0 [] ((smithyardref7_missing.j3_c (backl2:=(smithyardref7_missing.l2 e1 k)) ihk) _ a0 _ _ _ _ a1 _ _ v_i6 v_out5 _ _ _ _ hra0_2 hca0_2 hra0_3 hca0_3 hga0 hra1 hca1 hov_out5 rfl heq)
  ·intro hb1 heq
   refine An 2 ?_
   exact Gt 0 [] (he1 v_out5 _ _ _ _ hov_out5 rfl heq)
theorem smithyardref7_missing_c {ga0:Nat} {a0:Cache} {Aa0_2:Option Addr} {na0_2 ca0_2:Nat} {Aa0_3:Option Addr} {na0_3 ca0_3:Nat} {a1:List ByteArray} {Aa1:Option Addr} {na1 ca1:Nat} {r:(List ByteArray)} (heq:smithyardref7_missing.f a0 a1=some r) (hra0_2:Rw kBlob H F Aa0_2 a0.Blobs) (hca0_2:na0_2≤ca0_2) (hna0_2:na0_2=a0.Blobs.length) (hra0_3:Rw kEntry H F Aa0_3 a0.Entries) (hca0_3:na0_3≤ca0_3) (hna0_3:na0_3=a0.Entries.length) (hga0:InG H F ga0 (.cells #[iv a0.Room,iv a0.Lease,.slice Aa0_2 na0_2 ca0_2,.slice Aa0_3 na0_3 ca0_3] 25 (0,0))) (hra1:Rw Kd.string H F Aa1 a1) (hca1:na1≤ca1) (hna1:na1=a1.length):CallsH Tryz.prog 65 #[.pointer (some ⟨ga0,0,none⟩),.slice Aa1 na1 ca1] H w0 (F) (S65 F H r):=by
 refine Co C65 Tryz.func65 Tryz.ntmps65 ?_
 subst hna0_2
 subst hna0_3
 subst hna1
 unfold smithyardref7_missing.f at heq
 refine Sa 1<|Zd 1<|Sa 1<|Zd 1<|Sa 2<|Zd 1<|An 2<|RunH.nilc ?_
 have ho3:SlOwn Kd.string 9 H none 0 ([]:List ByteArray) none:=SlOwn.nil
 exact Gt 0 [] (((smithyardref7_missing.l2_c (e1:=smithyardref7_missing.e1) (smithyardref7_missing.e1_c)) big) _ a0 _ _ _ _ a1 _ _ ([]:List ByteArray) _ _ _ _ 0 hra0_2 hca0_2 hra0_3 hca0_3 hga0 hra1 hca1 ho3 rfl heq)
noncomputable def C45:Ctx:={ P:=Tryz.prog,f:=45,N:=38,c:=bodyOf Tryz.f45 }
def S45 (F:List Ch) (H0:Hp) (ga0:Nat) (r:CacheAnswer × Cache) (v:Value) (H:Hp) (cs:List Ch):Prop:=∃ (A0_1:Option Addr) (c0_1:Nat) (ch0_1:Ch) (A0_2:Option Addr) (c0_2:Nat) (ch0_2:Ch) (A1_2:Option Addr) (c1_2:Nat) (ch1_2:Ch) (A1_3:Option Addr) (c1_3:Nat) (ch1_3:Ch),H0=H∧v=.agg #[.bool r.1.Done,.slice A0_1 r.1.Missing.length c0_1,.slice A0_2 r.1.Gone.length c0_2]∧ch0_1::ch0_2::some (ga0,.cells #[iv r.2.Room,iv r.2.Lease,.slice A1_2 r.2.Blobs.length c1_2,.slice A1_3 r.2.Entries.length c1_3] 25 (0,0))::ch1_2::ch1_3::F=cs∧SlOwn Kd.string 9 H A0_1 c0_1 r.1.Missing ch0_1∧SlOwn Kd.string 9 H A0_2 c0_2 r.1.Gone ch0_2∧SlOwn kBlob 45 H A1_2 c1_2 r.2.Blobs ch1_2∧SlOwn kEntry 47 H A1_3 c1_3 r.2.Entries ch1_3
theorem smithyardref7_ask.e1_c {r:CacheAnswer × Cache}:∀ (ga0:Nat) (a1:CacheEvent) (Aa1_3:Option Addr) (ca1_3 g1 g2:Nat) (v_c0_0 v_c0_1:Int) (v_c0_2:List Blob) (Av_c0_2:Option Addr) (nv_c0_2 cv_c0_2:Nat) (chv_c0_2:Ch) (v_c0_3:List Entry) (Av_c0_3:Option Addr) (nv_c0_3 cv_c0_3:Nat) (chv_c0_3:Ch) ,Rw Kd.string H F Aa1_3 a1.Digests→a1.Digests.length≤ca1_3→SlOwn kBlob 45 H Av_c0_2 cv_c0_2 v_c0_2 chv_c0_2→nv_c0_2=v_c0_2.length→SlOwn kEntry 47 H Av_c0_3 cv_c0_3 v_c0_3 chv_c0_3→nv_c0_3=v_c0_3.length→smithyardref7_ask.e1 a1 v_c0_0 v_c0_1 v_c0_2 v_c0_3=some r→RunH C45 (S45 F H ga0 r) H w0 [.c [1,1,0],.c [1,1,1]] [(0,pg ga0 0),(3,pg g1 0),(4,pg g2 0)] H ((some (g2,.cells #[.bool false,.slice none 0 0,.slice none 0 0] 33 (0,0)))::(some (g1,.cells #[iv a1.Kind,iv a1.At,.string a1.Digest,.slice Aa1_3 a1.Digests.length ca1_3,.string a1.Key,iv a1.Size] 28 (0,0)))::(some (ga0,.cells #[iv v_c0_0,iv v_c0_1,.slice Av_c0_2 nv_c0_2 cv_c0_2,.slice Av_c0_3 nv_c0_3 cv_c0_3] 25 (0,0)))::chv_c0_2::chv_c0_3::F):=by
 intro ga0 a1 Aa1_3 ca1_3 g1 g2 v_c0_0 v_c0_1 v_c0_2 Av_c0_2 nv_c0_2 cv_c0_2 chv_c0_2 v_c0_3 Av_c0_3 nv_c0_3 cv_c0_3 chv_c0_3 hra1_3 hca1_3 hov_c0_2 hnv_c0_2 hov_c0_3 hnv_c0_3 heq
 subst hnv_c0_2
 subst hnv_c0_3
 unfold smithyardref7_ask.e1 at heq
 refine Sa 0<|Zv 3 [bx 1 3] ?_
 obtain ⟨y1,hy1,heq⟩:=bind_some heq
 refine RgH.does (cal 32 (smithyardref7_missing_c (a0:=(⟨v_c0_0,v_c0_1,v_c0_2,v_c0_3⟩:Cache)) hy1 (hov_c0_2.rw (.tail _ (.tail _ (.tail _ (.head _))))) hov_c0_2.cap rfl (hov_c0_3.rw (.tail _ (.tail _ (.tail _ (.tail _ (.head _)))))) hov_c0_3.cap rfl (.inr (.tail _ (.tail _ (.head _)))) (hra1_3.wk (fun _ h=>(.tail _ (.tail _ (.tail _ (.tail _ (.tail _ h))))))) hca1_3 rfl)) ?_
 rintro _ _ _ _ ⟨_,rfl,A1,c1,ch1,rfl,rfl,rfl,ho1⟩
 refine Zd 5<|Sa 1<|Zk 5 ?_
 refine RgH.does (DoesH.store (k:=1) (g:=g2) (off:=0) (v:=.agg #[.bool ((y1.length:Int) == 0),.slice A1 y1.length c1,.slice none 0 0]) (cells':=#[.bool ((y1.length:Int) == 0),.slice A1 y1.length c1,.slice none 0 0]) (by kernel_rfl) rfl (by kernel_rfl) (by kernel_rfl)) ?_
 rintro _ _ _ _ ⟨rfl,rfl,rfl⟩
 refine RgH.nrm ?_
 refine Dn<|RunH.nilc ?_
 have ho2:SlOwn Kd.string 9 H none 0 ([]:List ByteArray) none:=SlOwn.nil
 obtain rfl:=Option.some.inj heq
 refine Up 4 [2,1,0] ?_
 exact RunH.doneM' 1 (vs:=[.agg #[.bool ((y1.length:Int) == 0),.slice A1 y1.length c1,.slice none 0 0]]) (v:=.agg #[.bool ((y1.length:Int) == 0),.slice A1 y1.length c1,.slice none 0 0]) (by kernel_rfl) Tryz.func45 (fun w hh=>show ResAll _ _ _ [.cell 4 33] _ from ⟨⟨⟨g2,0,none⟩,by kernel_rfl,trS_run _ (vs:=[.bool ((y1.length:Int) == 0),.slice A1 y1.length c1,.slice none 0 0]) (r:=[]) (es:=[.load ⟨g2,0,none⟩ (.bool ((y1.length:Int) == 0)),.load ⟨g2,1,none⟩ (.slice A1 y1.length c1),.load ⟨g2,2,none⟩ (.slice none 0 0)]) (by kernel_rfl) ⟨(hh.box 0 rfl rfl),(hh.box 0 rfl rfl),(hh.box 0 rfl rfl)⟩⟩,trivial⟩) rfl (cs':=ch1::none::(some (ga0,.cells #[iv v_c0_0,iv v_c0_1,.slice Av_c0_2 v_c0_2.length cv_c0_2,.slice Av_c0_3 v_c0_3.length cv_c0_3] 25 (0,0)))::chv_c0_2::chv_c0_3::F) rfl ⟨A1,c1,ch1,none,0,none,Av_c0_2,cv_c0_2,chv_c0_2,Av_c0_3,cv_c0_3,chv_c0_3,rfl,rfl,rfl,ho1,ho2,hov_c0_2,hov_c0_3⟩
theorem smithyardref7_ask.j3_c {r:CacheAnswer × Cache} (backl2:CacheEvent→Int→Int→(List Blob)→(List Entry)→Int→Option (CacheAnswer × Cache))
  (hbackl2:∀ (ga0:Nat) (a1:CacheEvent) (Aa1_3:Option Addr) (ca1_3 g1 g2:Nat) (v_c0_0 v_c0_1:Int) (v_c0_2:List Blob) (Av_c0_2:Option Addr) (nv_c0_2 cv_c0_2:Nat) (chv_c0_2:Ch) (v_c0_3:List Entry) (Av_c0_3:Option Addr) (nv_c0_3 cv_c0_3:Nat) (chv_c0_3:Ch) (v_i5:Int) ,Rw Kd.string H F Aa1_3 a1.Digests→a1.Digests.length≤ca1_3→SlOwn kBlob 45 H Av_c0_2 cv_c0_2 v_c0_2 chv_c0_2→nv_c0_2=v_c0_2.length→SlOwn kEntry 47 H Av_c0_3 cv_c0_3 v_c0_3 chv_c0_3→nv_c0_3=v_c0_3.length→backl2 a1 v_c0_0 v_c0_1 v_c0_2 v_c0_3 v_i5=some r→RunH C45 (S45 F H ga0 r) H w0 [.c [1,0,1,0,0],.l [1,0,1,0,0],.b 0,.c [1,1]] [(0,pg ga0 0),(3,pg g1 0),(4,pg g2 0),(5,iv v_i5)] H ((some (g2,.cells #[.bool false,.slice none 0 0,.slice none 0 0] 33 (0,0)))::(some (g1,.cells #[iv a1.Kind,iv a1.At,.string a1.Digest,.slice Aa1_3 a1.Digests.length ca1_3,.string a1.Key,iv a1.Size] 28 (0,0)))::(some (ga0,.cells #[iv v_c0_0,iv v_c0_1,.slice Av_c0_2 nv_c0_2 cv_c0_2,.slice Av_c0_3 nv_c0_3 cv_c0_3] 25 (0,0)))::chv_c0_2::chv_c0_3::F)):∀ (ga0:Nat) (a1:CacheEvent) (Aa1_3:Option Addr) (ca1_3 g1 g2:Nat) (v_i5 v_c0_0 v_c0_1:Int) (v_c0_2:List Blob) (Av_c0_2:Option Addr) (nv_c0_2 cv_c0_2:Nat) (chv_c0_2:Ch) (v_c0_3:List Entry) (Av_c0_3:Option Addr) (nv_c0_3 cv_c0_3:Nat) (chv_c0_3:Ch) ,Rw Kd.string H F Aa1_3 a1.Digests→a1.Digests.length≤ca1_3→SlOwn kBlob 45 H Av_c0_2 cv_c0_2 v_c0_2 chv_c0_2→nv_c0_2=v_c0_2.length→SlOwn kEntry 47 H Av_c0_3 cv_c0_3 v_c0_3 chv_c0_3→nv_c0_3=v_c0_3.length→smithyardref7_ask.j3 backl2 a1 v_i5 v_c0_0 v_c0_1 v_c0_2 v_c0_3=some r→RunH C45 (S45 F H ga0 r) H w0 [.c [1,0,1,0,0,1,1],.l [1,0,1,0,0],.b 0,.c [1,1]] [(0,pg ga0 0),(3,pg g1 0),(4,pg g2 0),(5,iv v_i5)] H ((some (g2,.cells #[.bool false,.slice none 0 0,.slice none 0 0] 33 (0,0)))::(some (g1,.cells #[iv a1.Kind,iv a1.At,.string a1.Digest,.slice Aa1_3 a1.Digests.length ca1_3,.string a1.Key,iv a1.Size] 28 (0,0)))::(some (ga0,.cells #[iv v_c0_0,iv v_c0_1,.slice Av_c0_2 nv_c0_2 cv_c0_2,.slice Av_c0_3 nv_c0_3 cv_c0_3] 25 (0,0)))::chv_c0_2::chv_c0_3::F):=by
 intro ga0 a1 Aa1_3 ca1_3 g1 g2 v_i5 v_c0_0 v_c0_1 v_c0_2 Av_c0_2 nv_c0_2 cv_c0_2 chv_c0_2 v_c0_3 Av_c0_3 nv_c0_3 cv_c0_3 chv_c0_3 hra1_3 hca1_3 hov_c0_2 hnv_c0_2 hov_c0_3 hnv_c0_3 heq
 subst hnv_c0_2
 subst hnv_c0_3
 unfold smithyardref7_ask.j3 at heq
 refine Sa 0<|Zd 3<|An 1 ?_
 exact Gt 0 [] (hbackl2 _ a1 _ _ _ _ v_c0_0 v_c0_1 v_c0_2 _ _ _ _ v_c0_3 _ _ _ _ (w64 (v_i5+1)) hra1_3 hca1_3 hov_c0_2 rfl hov_c0_3 rfl heq)
theorem smithyardref7_ask.l2_c {r:CacheAnswer × Cache} (e1:CacheEvent→Int→Int→(List Blob)→(List Entry)→Option (CacheAnswer × Cache))
  (he1:∀ (ga0:Nat) (a1:CacheEvent) (Aa1_3:Option Addr) (ca1_3 g1 g2:Nat) (v_c0_0 v_c0_1:Int) (v_c0_2:List Blob) (Av_c0_2:Option Addr) (nv_c0_2 cv_c0_2:Nat) (chv_c0_2:Ch) (v_c0_3:List Entry) (Av_c0_3:Option Addr) (nv_c0_3 cv_c0_3:Nat) (chv_c0_3:Ch) ,Rw Kd.string H F Aa1_3 a1.Digests→a1.Digests.length≤ca1_3→SlOwn kBlob 45 H Av_c0_2 cv_c0_2 v_c0_2 chv_c0_2→nv_c0_2=v_c0_2.length→SlOwn kEntry 47 H Av_c0_3 cv_c0_3 v_c0_3 chv_c0_3→nv_c0_3=v_c0_3.length→e1 a1 v_c0_0 v_c0_1 v_c0_2 v_c0_3=some r→RunH C45 (S45 F H ga0 r) H w0 [.c [1,1,0],.c [1,1,1]] [(0,pg ga0 0),(3,pg g1 0),(4,pg g2 0)] H ((some (g2,.cells #[.bool false,.slice none 0 0,.slice none 0 0] 33 (0,0)))::(some (g1,.cells #[iv a1.Kind,iv a1.At,.string a1.Digest,.slice Aa1_3 a1.Digests.length ca1_3,.string a1.Key,iv a1.Size] 28 (0,0)))::(some (ga0,.cells #[iv v_c0_0,iv v_c0_1,.slice Av_c0_2 nv_c0_2 cv_c0_2,.slice Av_c0_3 nv_c0_3 cv_c0_3] 25 (0,0)))::chv_c0_2::chv_c0_3::F)):∀ (k:Nat),∀ (ga0:Nat) (a1:CacheEvent) (Aa1_3:Option Addr) (ca1_3 g1 g2:Nat) (v_c0_0 v_c0_1:Int) (v_c0_2:List Blob) (Av_c0_2:Option Addr) (nv_c0_2 cv_c0_2:Nat) (chv_c0_2:Ch) (v_c0_3:List Entry) (Av_c0_3:Option Addr) (nv_c0_3 cv_c0_3:Nat) (chv_c0_3:Ch) (v_i5:Int) ,Rw Kd.string H F Aa1_3 a1.Digests→a1.Digests.length≤ca1_3→SlOwn kBlob 45 H Av_c0_2 cv_c0_2 v_c0_2 chv_c0_2→nv_c0_2=v_c0_2.length→SlOwn kEntry 47 H Av_c0_3 cv_c0_3 v_c0_3 chv_c0_3→nv_c0_3=v_c0_3.length→smithyardref7_ask.l2 e1 k a1 v_c0_0 v_c0_1 v_c0_2 v_c0_3 v_i5=some r→RunH C45 (S45 F H ga0 r) H w0 [.c [1,0,1,0,0],.l [1,0,1,0,0],.b 0,.c [1,1]] [(0,pg ga0 0),(3,pg g1 0),(4,pg g2 0),(5,iv v_i5)] H ((some (g2,.cells #[.bool false,.slice none 0 0,.slice none 0 0] 33 (0,0)))::(some (g1,.cells #[iv a1.Kind,iv a1.At,.string a1.Digest,.slice Aa1_3 a1.Digests.length ca1_3,.string a1.Key,iv a1.Size] 28 (0,0)))::(some (ga0,.cells #[iv v_c0_0,iv v_c0_1,.slice Av_c0_2 nv_c0_2 cv_c0_2,.slice Av_c0_3 nv_c0_3 cv_c0_3] 25 (0,0)))::chv_c0_2::chv_c0_3::F):=by
 intro k
 induction k with
 | zero=>intro ga0 a1 Aa1_3 ca1_3 g1 g2 v_c0_0 v_c0_1 v_c0_2 Av_c0_2 nv_c0_2 cv_c0_2 chv_c0_2 v_c0_3 Av_c0_3 nv_c0_3 cv_c0_3 chv_c0_3 v_i5 hra1_3 hca1_3 hov_c0_2 hnv_c0_2 hov_c0_3 hnv_c0_3 heq; exact nomatch (show (none:Option (CacheAnswer × Cache))=some r from heq)
 | succ k ihk =>
  intro ga0 a1 Aa1_3 ca1_3 g1 g2 v_c0_0 v_c0_1 v_c0_2 Av_c0_2 nv_c0_2 cv_c0_2 chv_c0_2 v_c0_3 Av_c0_3 nv_c0_3 cv_c0_3 chv_c0_3 v_i5 hra1_3 hca1_3 hov_c0_2 hnv_c0_2 hov_c0_3 hnv_c0_3 heq
  subst hnv_c0_2
  subst hnv_c0_3
  rw [smithyardref7_ask.l2] at heq
  refine Sa 2<|Zw 5 [bx 1 3] ?_
  refine Cb heq ?_ ?_
  ·intro hb1 heq
   refine Sa 4 ?_
   obtain ⟨x1,hx1,heq⟩:=bind_some heq
   obtain ⟨ha1,cs1,hK1,hcc1⟩:=hra1_3.get hx1
   obtain rfl:cs1=[.string x1]:=hK1
   refine Zv 6 [bx 1 3,nx ha1 hx1,er hcc1 5 0] ?_
   obtain ⟨y2,hy2,heq⟩:=bind_some heq
   refine RgH.does (cal 21 (smithyardref7_blob_c (a0:=(⟨v_c0_0,v_c0_1,v_c0_2,v_c0_3⟩:Cache)) hy2 (hov_c0_2.rw (.tail _ (.tail _ (.tail _ (.head _))))) hov_c0_2.cap rfl (hov_c0_3.rw (.tail _ (.tail _ (.tail _ (.tail _ (.head _)))))) hov_c0_3.cap rfl (.inr (.tail _ (.tail _ (.head _)))))) ?_
   rintro _ _ _ _ ⟨_,rfl,rfl,rfl,rfl⟩
   refine Zd 8<|Sa 1<|Zd 2 ?_
   refine Cb heq ?_ ?_
   ·intro hb2 heq
    refine Sa 0<|Zv 4 [bx 1 1]<|Ug 5 [2,3,4,0,1] ?_
    obtain ⟨y3,hy3,heq⟩:=bind_some heq
    refine RgH.does (cal 28 (smithyardref7_lease_2_c (a0:=(⟨v_c0_0,v_c0_1,v_c0_2,v_c0_3⟩:Cache)) hy3 hov_c0_2 rfl hov_c0_3 rfl)) ?_
    rintro _ _ _ _ ⟨_,rfl,A2,c2,ch2,A3,c3,ch3,rfl,rfl,rfl,ho3,ho4⟩
    refine Dn<|An 1 ?_
    exact Gt 5 [3,4,0,1,2] ((smithyardref7_ask.j3_c (backl2:=(smithyardref7_ask.l2 e1 k)) ihk) _ a1 _ _ _ _ v_i5 y3.Room y3.Lease y3.Blobs _ _ _ _ y3.Entries _ _ _ _ hra1_3 hca1_3 ho3 rfl ho4 rfl heq)
   ·intro hb2 heq
    refine An 2 ?_
    exact Gt 0 [] ((smithyardref7_ask.j3_c (backl2:=(smithyardref7_ask.l2 e1 k)) ihk) _ a1 _ _ _ _ v_i5 v_c0_0 v_c0_1 v_c0_2 _ _ _ _ v_c0_3 _ _ _ _ hra1_3 hca1_3 hov_c0_2 rfl hov_c0_3 rfl heq)
  ·intro hb1 heq
   refine An 2 ?_
   exact Gt 0 [] (he1 _ a1 _ _ _ _ v_c0_0 v_c0_1 v_c0_2 _ _ _ _ v_c0_3 _ _ _ _ hra1_3 hca1_3 hov_c0_2 rfl hov_c0_3 rfl heq)
theorem smithyardref7_ask_c {ga0:Nat} {a0:Cache} {Aa0_2:Option Addr} {na0_2 ca0_2:Nat} {cha0_2:Ch} {Aa0_3:Option Addr} {na0_3 ca0_3:Nat} {cha0_3:Ch} {a1:CacheEvent} {Aa1_3:Option Addr} {na1_3 ca1_3:Nat} {r:CacheAnswer × Cache} (heq:smithyardref7_ask.f a0 a1=some r) (hoa0_2:SlOwn kBlob 45 H Aa0_2 ca0_2 a0.Blobs cha0_2) (hna0_2:na0_2=a0.Blobs.length) (hoa0_3:SlOwn kEntry 47 H Aa0_3 ca0_3 a0.Entries cha0_3) (hna0_3:na0_3=a0.Entries.length) (hra1_3:Rw Kd.string H F Aa1_3 a1.Digests) (hca1_3:na1_3≤ca1_3) (hna1_3:na1_3=a1.Digests.length):CallsH Tryz.prog 45 #[.pointer (some ⟨ga0,0,none⟩),.agg #[iv a1.Kind,iv a1.At,.string a1.Digest,.slice Aa1_3 na1_3 ca1_3,.string a1.Key,iv a1.Size]] H w0 ((some (ga0,.cells #[iv a0.Room,iv a0.Lease,.slice Aa0_2 na0_2 ca0_2,.slice Aa0_3 na0_3 ca0_3] 25 (0,0)))::cha0_2::cha0_3::F) (S45 F H ga0 r):=by
 refine Co C45 Tryz.func45 Tryz.ntmps45 ?_
 subst hna0_2
 subst hna0_3
 subst hna1_3
 unfold smithyardref7_ask.f at heq
 refine Sa 1 ?_
 refine RgH.does (DoesH.new (d:=3) (v:=fun g=>.pointer (some ⟨g,0,none⟩)) (o:=fun g=>.cells #[iv a1.Kind,iv a1.At,.string a1.Digest,.slice Aa1_3 a1.Digests.length ca1_3,.string a1.Key,iv a1.Size] 28 (0,0)) (fun g=>by kernel_rfl)) ?_
 rintro _ _ _ _ ⟨g1,rfl,rfl,rfl⟩
 refine RgH.does (DoesH.new (d:=4) (v:=fun g=>.pointer (some ⟨g,0,none⟩)) (o:=fun g=>.cells #[.bool false,.slice none 0 0,.slice none 0 0] 33 (0,0)) (fun g=>by kernel_rfl)) ?_
 rintro _ _ _ _ ⟨g2,rfl,rfl,rfl⟩
 refine Dn<|Sa 2<|Zd 1<|An 2 ?_
 exact Gt 0 [] (((smithyardref7_ask.l2_c (e1:=smithyardref7_ask.e1) (smithyardref7_ask.e1_c)) big) _ a1 _ _ _ _ a0.Room a0.Lease a0.Blobs _ _ _ _ a0.Entries _ _ _ _ 0 hra1_3 hca1_3 hoa0_2 rfl hoa0_3 rfl heq)
noncomputable def C66:Ctx:={ P:=Tryz.prog,f:=66,N:=26,c:=bodyOf Tryz.f66 }
def S66 (F:List Ch) (H0:Hp) (r:Int) (v:Value) (H:Hp) (cs:List Ch):Prop:=H0=H∧v=iv r∧F=cs
theorem smithyardref7_entry.e1_c {r:Int}:smithyardref7_entry.e1=some r→RunH C66 (S66 F H r) H w0 [.c [1,1,0],.c [1,1,1]] [] H (F):=by
 intro   heq
 unfold smithyardref7_entry.e1 at heq
 refine Sa 0<|Zd 1 ?_
 obtain rfl:=Option.some.inj heq
 exact RunH.done (by kernel_rfl) Tryz.func66 (v:=iv (-1)) (by kernel_rfl) ⟨rfl,rfl,rfl⟩
theorem smithyardref7_entry.l2_c {r:Int} (e1:Option Int)
  (he1:e1=some r→RunH C66 (S66 F H r) H w0 [.c [1,1,0],.c [1,1,1]] [] H (F)):∀ (k:Nat),∀ (ga0:Nat) (a0:Cache) (Aa0_2:Option Addr) (ca0_2:Nat) (Aa0_3:Option Addr) (ca0_3:Nat) (a1:ByteArray) (v_i5:Int) ,Rw kBlob H F Aa0_2 a0.Blobs→a0.Blobs.length≤ca0_2→Rw kEntry H F Aa0_3 a0.Entries→a0.Entries.length≤ca0_3→InG H F ga0 (.cells #[iv a0.Room,iv a0.Lease,.slice Aa0_2 a0.Blobs.length ca0_2,.slice Aa0_3 a0.Entries.length ca0_3] 25 (0,0))→smithyardref7_entry.l2 e1 k a0 a1 v_i5=some r→RunH C66 (S66 F H r) H w0 [.c [1,0,1,0,0],.l [1,0,1,0,0],.b 0,.c [1,1]] [(0,pg ga0 0),(1,.string a1),(5,iv v_i5)] H (F):=by
 intro k
 induction k with
 | zero=>intro ga0 a0 Aa0_2 ca0_2 Aa0_3 ca0_3 a1 v_i5 hra0_2 hca0_2 hra0_3 hca0_3 hga0 heq; exact nomatch (show (none:Option Int)=some r from heq)
 | succ k ihk =>
  intro ga0 a0 Aa0_2 ca0_2 Aa0_3 ca0_3 a1 v_i5 hra0_2 hca0_2 hra0_3 hca0_3 hga0 heq
  rw [smithyardref7_entry.l2] at heq
  refine Sa 2<|Zw 7 [rb hga0 0 3] ?_
  refine Cb heq ?_ ?_
  ·intro hb1 heq
   refine Sa 4 ?_
   obtain ⟨x1,hx1,heq⟩:=bind_some heq
   obtain ⟨ha1,cs1,hK1,hcc1⟩:=hra0_3.get hx1
   obtain ⟨A1,c1,rfl,hc1,hr1⟩:=kEntry_open hK1
   refine Zw 10 [rb hga0 0 3,nx ha1 hx1,er hcc1 0 0] ?_
   refine Cb heq ?_ ?_
   ·intro hb2 heq
    refine Sa 1<|Zd 2 ?_
    obtain rfl:=Option.some.inj heq
    exact RunH.done (by kernel_rfl) Tryz.func66 (v:=iv v_i5) (by kernel_rfl) ⟨rfl,rfl,rfl⟩
   ·intro hb2 heq
    refine Sa 2<|Zd 3<|An 1 ?_
    exact Gt 0 [] (ihk _ a0 _ _ _ _ a1 (w64 (v_i5+1)) hra0_2 hca0_2 hra0_3 hca0_3 hga0 heq)
  ·intro hb1 heq
   refine An 2 ?_
   exact Gt 0 [] (he1 heq)
theorem smithyardref7_entry_c {ga0:Nat} {a0:Cache} {Aa0_2:Option Addr} {na0_2 ca0_2:Nat} {Aa0_3:Option Addr} {na0_3 ca0_3:Nat} {a1:ByteArray} {r:Int} (heq:smithyardref7_entry.f a0 a1=some r) (hra0_2:Rw kBlob H F Aa0_2 a0.Blobs) (hca0_2:na0_2≤ca0_2) (hna0_2:na0_2=a0.Blobs.length) (hra0_3:Rw kEntry H F Aa0_3 a0.Entries) (hca0_3:na0_3≤ca0_3) (hna0_3:na0_3=a0.Entries.length) (hga0:InG H F ga0 (.cells #[iv a0.Room,iv a0.Lease,.slice Aa0_2 na0_2 ca0_2,.slice Aa0_3 na0_3 ca0_3] 25 (0,0))):CallsH Tryz.prog 66 #[.pointer (some ⟨ga0,0,none⟩),.string a1] H w0 (F) (S66 F H r):=by
 refine Co C66 Tryz.func66 Tryz.ntmps66 ?_
 subst hna0_2
 subst hna0_3
 unfold smithyardref7_entry.f at heq
 refine Sa 1<|Zd 1<|Sa 2<|Zd 1<|An 2 ?_
 exact Gt 0 [] (((smithyardref7_entry.l2_c (e1:=smithyardref7_entry.e1) (smithyardref7_entry.e1_c)) big) _ a0 _ _ _ _ a1 0 hra0_2 hca0_2 hra0_3 hca0_3 hga0 heq)
noncomputable def C67:Ctx:={ P:=Tryz.prog,f:=67,N:=25,c:=bodyOf Tryz.f67 }
def S67 (F:List Ch) (H0:Hp) (ga0:Nat) (r:Cache) (v:Value) (H:Hp) (cs:List Ch):Prop:=∃ (A0_2:Option Addr) (c0_2:Nat) (ch0_2:Ch) (A0_3:Option Addr) (c0_3:Nat) (ch0_3:Ch),H0=H∧v=.tuple #[]∧some (ga0,.cells #[iv r.Room,iv r.Lease,.slice A0_2 r.Blobs.length c0_2,.slice A0_3 r.Entries.length c0_3] 25 (0,0))::ch0_2::ch0_3::F=cs∧SlOwn kBlob 45 H A0_2 c0_2 r.Blobs ch0_2∧SlOwn kEntry 47 H A0_3 c0_3 r.Entries ch0_3
theorem smithyardref7_removeEntry_c {ga0:Nat} {a0:Cache} {Aa0_2:Option Addr} {na0_2 ca0_2:Nat} {cha0_2:Ch} {Aa0_3:Option Addr} {na0_3 ca0_3:Nat} {cha0_3:Ch} {a1:Int} {r:Cache} (heq:smithyardref7_removeEntry.f a0 a1=some r) (hoa0_2:SlOwn kBlob 45 H Aa0_2 ca0_2 a0.Blobs cha0_2) (hna0_2:na0_2=a0.Blobs.length) (hoa0_3:SlOwn kEntry 47 H Aa0_3 ca0_3 a0.Entries cha0_3) (hna0_3:na0_3=a0.Entries.length):CallsH Tryz.prog 67 #[.pointer (some ⟨ga0,0,none⟩),iv a1] H w0 ((some (ga0,.cells #[iv a0.Room,iv a0.Lease,.slice Aa0_2 na0_2 ca0_2,.slice Aa0_3 na0_3 ca0_3] 25 (0,0)))::cha0_2::cha0_3::F) (S67 F H ga0 r):=by
 refine Co C67 Tryz.func67 Tryz.ntmps67 ?_
 subst hna0_2
 subst hna0_3
 unfold smithyardref7_removeEntry.f at heq
 refine Sa 1<|Zd 1<|Sa 1 ?_
 obtain ⟨hn2,heq⟩:=guard?_some heq
 have hn1:a1.toNat=(a0.Entries.take a1.toNat).length:=by have h1:=both_of hn2; have h3:=trivial; (try simp); (try omega)
 have ho1:=hoa0_3.take a1.toNat
 refine Zv 7 [bx 0 3,⟨.need ((0:Int)≤a1∧a1≤((ca0_3:Nat):Int)),fun w hh=>⟨(both_of hn2).1,(by have h1:=(both_of hn2).2; have h2:=hoa0_3.cap; have h3:=trivial; omega)⟩⟩]<|RgH.nilc ?_
 have ho2:SlOwn kEntry 47 H none 0 ([]:List Entry) none:=SlOwn.nil
 obtain ⟨hn3,heq⟩:=guard?_some heq
 refine RgH.does (DoesH.append (d:=12) (k:=0) (t:=23) (e:=47) (bytes:=48) (kd:=kEntry) (n:=0) (m:=a1.toNat) (xs:=([]:List Entry)) (ys:=(a0.Entries.take a1.toNat)) (A:=none) (B:=Aa0_3) (c:=0) (cB:=ca0_3) (by kernel_rfl) rfl hn1 (by kernel_rfl) rfl ho2 (fun w hh=>ho1.rdb (hh.chin 3 rfl)) (room_le hn3) (by have:=room_le hn3; omega)) ?_
 rintro _ _ _ _ ⟨A1,c1,ch1,rfl,rfl,rfl,ho3⟩
 refine RgH.nrm ?_
 refine Zd 9<|Sa 0 ?_
 obtain ⟨hn5,heq⟩:=guard?_some heq
 have hn4:a0.Entries.length - (w64 (a1+1)).toNat=(a0.Entries.drop (w64 (a1+1)).toNat).length:=by have h1:=both_of hn5; have h3:=trivial; (try simp); (try omega)
 have ho4:=hoa0_3.drop (w64 (a1+1)).toNat (by have h2:=hoa0_3.cap; have h3:=trivial; have h1:=both_of hn5; omega)
 refine Zv 9 [bx 1 3,⟨.need ((0:Int)≤(w64 (a1+1))∧(w64 (a1+1))≤((a0.Entries.length:Nat):Int)),fun w hh=>(both_of hn5)⟩] ?_
 obtain ⟨hn6,heq⟩:=guard?_some heq
 refine RgH.does (DoesH.append (d:=22) (k:=0) (t:=23) (e:=47) (bytes:=48) (kd:=kEntry) (n:=(([]:List Entry)++(a0.Entries.take a1.toNat)).length) (m:=a0.Entries.length - (w64 (a1+1)).toNat) (xs:=(([]:List Entry)++(a0.Entries.take a1.toNat))) (ys:=(a0.Entries.drop (w64 (a1+1)).toNat)) (A:=A1) (B:=(shiftA ca0_3 (w64 (a1+1)).toNat 3 Aa0_3)) (c:=c1) (cB:=(ca0_3 - (w64 (a1+1)).toNat)) (by kernel_rfl) rfl hn4 (by kernel_rfl) rfl ho3 (fun w hh=>ho4.rdb (hh.chin 3 rfl)) (room_le hn6) (by have:=room_le hn6; omega)) ?_
 rintro _ _ _ _ ⟨A2,c2,ch2,rfl,rfl,rfl,ho5⟩
 refine RgH.nrm ?_
 refine Zk 12 ?_
 refine RgH.does (DoesH.store (k:=1) (g:=ga0) (off:=3) (v:=.slice A2 (((([]:List Entry)++(a0.Entries.take a1.toNat))++(a0.Entries.drop (w64 (a1+1)).toNat)).length) c2) (cells':=#[iv a0.Room,iv a0.Lease,.slice Aa0_2 a0.Blobs.length ca0_2,.slice A2 (((([]:List Entry)++(a0.Entries.take a1.toNat))++(a0.Entries.drop (w64 (a1+1)).toNat)).length) c2]) (by kernel_rfl) rfl (by kernel_rfl) (by kernel_rfl)) ?_
 rintro _ _ _ _ ⟨rfl,rfl,rfl⟩
 refine RgH.nrm ?_
 refine Dn ?_
 obtain rfl:=Option.some.inj heq
 refine Up 4 [1,2,0] ?_
 exact RunH.done (by kernel_rfl) Tryz.func67 (v:=.tuple #[]) (by kernel_rfl) ⟨Aa0_2,ca0_2,cha0_2,A2,c2,ch2,rfl,rfl,rfl,hoa0_2,ho5⟩
noncomputable def C46:Ctx:={ P:=Tryz.prog,f:=46,N:=146,c:=bodyOf Tryz.f46 }
def S46 (F:List Ch) (H0:Hp) (ga0:Nat) (r:CacheAnswer × Cache) (v:Value) (H:Hp) (cs:List Ch):Prop:=∃ (A0_1:Option Addr) (c0_1:Nat) (ch0_1:Ch) (A0_2:Option Addr) (c0_2:Nat) (ch0_2:Ch) (A1_2:Option Addr) (c1_2:Nat) (ch1_2:Ch) (A1_3:Option Addr) (c1_3:Nat) (ch1_3:Ch),v=.agg #[.bool r.1.Done,.slice A0_1 r.1.Missing.length c0_1,.slice A0_2 r.1.Gone.length c0_2]∧ch0_1::ch0_2::some (ga0,.cells #[iv r.2.Room,iv r.2.Lease,.slice A1_2 r.2.Blobs.length c1_2,.slice A1_3 r.2.Entries.length c1_3] 25 (0,0))::ch1_2::ch1_3::F=cs∧SlOwn Kd.string 9 H A0_1 c0_1 r.1.Missing ch0_1∧SlOwn Kd.string 9 H A0_2 c0_2 r.1.Gone ch0_2∧SlOwn kBlob 45 H A1_2 c1_2 r.2.Blobs ch1_2∧SlOwn kEntry 47 H A1_3 c1_3 r.2.Entries ch1_3
theorem smithyardref7_store.e4_c {r:CacheAnswer × Cache}:∀ (H:Hp) (ga0:Nat) (a1:CacheEvent) (Aa1_3:Option Addr) (ca1_3 g1 g2:Nat) (v_c0_0 v_c0_1:Int) (v_c0_2:List Blob) (Av_c0_2:Option Addr) (cv_c0_2:Nat) (chv_c0_2:Ch) (v_c0_3:List Entry) (Av_c0_3:Option Addr) (cv_c0_3:Nat) (chv_c0_3:Ch) (v_k10:Int) ,Rw Kd.string H F Aa1_3 a1.Digests→a1.Digests.length≤ca1_3→SlOwn kBlob 45 H Av_c0_2 cv_c0_2 v_c0_2 chv_c0_2→SlOwn kEntry 47 H Av_c0_3 cv_c0_3 v_c0_3 chv_c0_3→smithyardref7_store.e4 a1 v_c0_0 v_c0_1 v_c0_2 v_c0_3 v_k10=some r→RunH C46 (S46 F H0 ga0 r) H0 w0 [.c [1,1,1,1,1,1,1,0],.c [1,1,1,1,1,1,1,1]] [(0,pg ga0 0),(3,pg g1 0),(4,pg g2 0),(10,iv v_k10)] H ((some (g2,.cells #[.bool false,.slice none 0 0,.slice none 0 0] 33 (0,0)))::(some (g1,.cells #[iv a1.Kind,iv a1.At,.string a1.Digest,.slice Aa1_3 a1.Digests.length ca1_3,.string a1.Key,iv a1.Size] 28 (0,0)))::(some (ga0,.cells #[iv v_c0_0,iv v_c0_1,.slice Av_c0_2 v_c0_2.length cv_c0_2,.slice Av_c0_3 v_c0_3.length cv_c0_3] 25 (0,0)))::chv_c0_2::chv_c0_3::F):=by
 intro H ga0 a1 Aa1_3 ca1_3 g1 g2 v_c0_0 v_c0_1 v_c0_2 Av_c0_2 cv_c0_2 chv_c0_2 v_c0_3 Av_c0_3 cv_c0_3 chv_c0_3 v_k10 hra1_3 hca1_3 hov_c0_2 hov_c0_3 heq
 unfold smithyardref7_store.e4 at heq
 refine Sa 0<|Zv 5 [bx 1 4,bx 1 1] ?_
 refine RgH.does (DoesH.new (d:=11) (v:=fun g=>.pointer (some ⟨g,0,none⟩)) (o:=fun g=>.cells #[.string ByteArray.empty,.slice none 0 0,iv 0] 47 (0,0)) (fun g=>by kernel_rfl)) ?_
 rintro _ _ _ _ ⟨g3,rfl,rfl,rfl⟩
 refine RgH.does (DoesH.store (k:=0) (g:=g3) (off:=0) (v:=.agg #[.string a1.Key,.slice none 0 0,iv a1.At]) (cells':=#[.string a1.Key,.slice none 0 0,iv a1.At]) (by kernel_rfl) rfl (by kernel_rfl) (by kernel_rfl)) ?_
 rintro _ _ _ _ ⟨rfl,rfl,rfl⟩
 refine RgH.nrm ?_
 refine Dn<|Sa 1<|Zv 4 [bx 0 1,bx 2 3]<|RgH.nilc ?_
 have ho3:SlOwn Kd.string 9 H none 0 ([]:List ByteArray) none:=SlOwn.nil
 obtain ⟨hn1,heq⟩:=guard?_some heq
 refine RgH.does (DoesH.append (d:=120) (k:=0) (t:=26) (e:=9) (bytes:=16) (kd:=Kd.string) (n:=0) (m:=a1.Digests.length) (xs:=([]:List ByteArray)) (ys:=a1.Digests) (A:=none) (B:=Aa1_3) (c:=0) (cB:=ca1_3) (by kernel_rfl) rfl rfl (by kernel_rfl) rfl ho3 (fun w hh=>hra1_3.rdb (hh.drop 7)) (room_le hn1) (by have:=room_le hn1; omega)) ?_
 rintro _ _ _ _ ⟨A2,c2,ch2,rfl,rfl,rfl,ho4⟩
 refine RgH.nrm ?_
 refine Zk 6 ?_
 refine RgH.does (DoesH.store (k:=1) (g:=g3) (off:=1) (v:=.slice A2 ((([]:List ByteArray)++a1.Digests).length) c2) (cells':=#[.string a1.Key,.slice A2 ((([]:List ByteArray)++a1.Digests).length) c2,iv a1.At]) (by kernel_rfl) rfl (by kernel_rfl) (by kernel_rfl)) ?_
 rintro _ _ _ _ ⟨rfl,rfl,rfl⟩
 refine RgH.nrm ?_
 refine Dn<|Sa 1<|Zd 1<|Sa 1 ?_
 obtain ⟨hn3,heq⟩:=guard?_some heq
 have hn2:v_k10.toNat=(v_c0_3.take v_k10.toNat).length:=by have h1:=both_of hn3; have h3:=trivial; (try simp); (try omega)
 have ho5:=hov_c0_3.take v_k10.toNat
 refine Zv 7 [bx 4 3,⟨.need ((0:Int)≤v_k10∧v_k10≤((cv_c0_3:Nat):Int)),fun w hh=>⟨(both_of hn3).1,(by have h1:=(both_of hn3).2; have h2:=hov_c0_3.cap; have h3:=trivial; omega)⟩⟩]<|RgH.nilc ?_
 have ho6:SlOwn kEntry 47 H none 0 ([]:List Entry) none:=SlOwn.nil
 obtain ⟨hn4,heq⟩:=guard?_some heq
 refine RgH.does (DoesH.append (d:=129) (k:=0) (t:=23) (e:=47) (bytes:=48) (kd:=kEntry) (n:=0) (m:=v_k10.toNat) (xs:=([]:List Entry)) (ys:=(v_c0_3.take v_k10.toNat)) (A:=none) (B:=Av_c0_3) (c:=0) (cB:=cv_c0_3) (by kernel_rfl) rfl hn2 (by kernel_rfl) rfl ho6 (fun w hh=>ho5.rdb (hh.chin 7 rfl)) (room_le hn4) (by have:=room_le hn4; omega)) ?_
 rintro _ _ _ _ ⟨A3,c3,ch3,rfl,rfl,rfl,ho7⟩
 refine RgH.nrm ?_
 refine Zd 9<|Sa 1<|Zv 2 (bxs 2)<|Ug 2 [1,0] ?_
 have hc1:=ho4.cap
 refine Hs.freezeS ho4 (fun H hl hr1=>?_)
 replace hov_c0_2:=hov_c0_2.mono hl
 replace hov_c0_3:=hov_c0_3.mono hl
 replace ho7:=ho7.mono hl
 refine RgH.does (DoesH.new (d:=132) (v:=fun g=>.slice (some ⟨g,0,none⟩) 1 1) (o:=fun g=>.cells #[.string a1.Key,.slice A2 ((([]:List ByteArray)++a1.Digests).length) c2,iv a1.At] 47 (0,0)) (fun g=>by kernel_rfl)) ?_
 rintro _ _ _ _ ⟨g4,rfl,rfl,rfl⟩
 have ho8:SlOwn kEntry 47 H (some ⟨g4,0,none⟩) 1 ([(⟨a1.Key,(([]:List ByteArray)++a1.Digests),a1.At⟩:Entry)]:List Entry) (some (g4,.cells #[.string a1.Key,.slice A2 ((([]:List ByteArray)++a1.Digests).length) c2,iv a1.At] 47 (0,0))):=SlOwn.lit (xs:=([(⟨a1.Key,(([]:List ByteArray)++a1.Digests),a1.At⟩:Entry)]:List Entry)) (by kernel_rfl) (Nat.le_of_ble_eq_true (by kernel_rfl)) (Kd.Rep.one (kEntry_mk hc1 hr1))
 obtain ⟨hn5,heq⟩:=guard?_some heq
 refine RgH.does (DoesH.append (d:=133) (k:=1) (t:=23) (e:=47) (bytes:=48) (kd:=kEntry) (n:=(([]:List Entry)++(v_c0_3.take v_k10.toNat)).length) (m:=1) (xs:=(([]:List Entry)++(v_c0_3.take v_k10.toNat))) (ys:=([(⟨a1.Key,(([]:List ByteArray)++a1.Digests),a1.At⟩:Entry)]:List Entry)) (A:=A3) (B:=(some ⟨g4,0,none⟩)) (c:=c3) (cB:=1) (by kernel_rfl) rfl rfl (by kernel_rfl) rfl ho7 (fun w hh=>ho8.rdb (hh.chin 0 rfl)) (room_le hn5) (by have:=room_le hn5; omega)) ?_
 rintro _ _ _ _ ⟨A4,c4,ch4,rfl,rfl,rfl,ho9⟩
 refine RgH.nrm ?_
 refine Zd 5<|Sa 1 ?_
 obtain ⟨hn7,heq⟩:=guard?_some heq
 have hn6:v_c0_3.length - v_k10.toNat=(v_c0_3.drop v_k10.toNat).length:=by have h1:=both_of hn7; have h3:=trivial; (try simp); (try omega)
 have ho10:=hov_c0_3.drop v_k10.toNat (by have h2:=hov_c0_3.cap; have h3:=trivial; have h1:=both_of hn7; omega)
 refine Zv 8 [bx 5 3,⟨.need ((0:Int)≤v_k10∧v_k10≤((v_c0_3.length:Nat):Int)),fun w hh=>(both_of hn7)⟩] ?_
 obtain ⟨hn8,heq⟩:=guard?_some heq
 refine RgH.does (DoesH.append (d:=142) (k:=1) (t:=23) (e:=47) (bytes:=48) (kd:=kEntry) (n:=((([]:List Entry)++(v_c0_3.take v_k10.toNat))++([(⟨a1.Key,(([]:List ByteArray)++a1.Digests),a1.At⟩:Entry)]:List Entry)).length) (m:=v_c0_3.length - v_k10.toNat) (xs:=((([]:List Entry)++(v_c0_3.take v_k10.toNat))++([(⟨a1.Key,(([]:List ByteArray)++a1.Digests),a1.At⟩:Entry)]:List Entry))) (ys:=(v_c0_3.drop v_k10.toNat)) (A:=A4) (B:=(shiftA cv_c0_3 v_k10.toNat 3 Av_c0_3)) (c:=c4) (cB:=(cv_c0_3 - v_k10.toNat)) (by kernel_rfl) rfl hn6 (by kernel_rfl) rfl ho9 (fun w hh=>ho10.rdb (hh.chin 7 rfl)) (room_le hn8) (by have:=room_le hn8; omega)) ?_
 rintro _ _ _ _ ⟨A5,c5,ch5,rfl,rfl,rfl,ho11⟩
 refine RgH.nrm ?_
 refine Zk 11 ?_
 refine RgH.does (DoesH.store (k:=5) (g:=ga0) (off:=3) (v:=.slice A5 ((((([]:List Entry)++(v_c0_3.take v_k10.toNat))++([(⟨a1.Key,(([]:List ByteArray)++a1.Digests),a1.At⟩:Entry)]:List Entry))++(v_c0_3.drop v_k10.toNat)).length) c5) (cells':=#[iv v_c0_0,iv v_c0_1,.slice Av_c0_2 v_c0_2.length cv_c0_2,.slice A5 ((((([]:List Entry)++(v_c0_3.take v_k10.toNat))++([(⟨a1.Key,(([]:List ByteArray)++a1.Digests),a1.At⟩:Entry)]:List Entry))++(v_c0_3.drop v_k10.toNat)).length) c5]) (by kernel_rfl) rfl (by kernel_rfl) (by kernel_rfl)) ?_
 rintro _ _ _ _ ⟨rfl,rfl,rfl⟩
 refine RgH.nrm ?_
 refine Dn<|Sa 1<|Zk 1 ?_
 refine RgH.does (DoesH.store (k:=3) (g:=g2) (off:=0) (v:=.agg #[.bool true,.slice none 0 0,.slice none 0 0]) (cells':=#[.bool true,.slice none 0 0,.slice none 0 0]) (by kernel_rfl) rfl (by kernel_rfl) (by kernel_rfl)) ?_
 rintro _ _ _ _ ⟨rfl,rfl,rfl⟩
 refine RgH.nrm ?_
 refine Dn<|RunH.nilc ?_
 have ho12:SlOwn Kd.string 9 H none 0 ([]:List ByteArray) none:=SlOwn.nil
 refine RunH.nilc ?_
 have ho13:SlOwn Kd.string 9 H none 0 ([]:List ByteArray) none:=SlOwn.nil
 obtain rfl:=Option.some.inj heq
 refine Up 10 [5,1,0,7,8,3] ?_
 exact RunH.doneM' 1 (vs:=[.agg #[.bool true,.slice none 0 0,.slice none 0 0]]) (v:=.agg #[.bool true,.slice none 0 0,.slice none 0 0]) (by kernel_rfl) Tryz.func46 (fun w hh=>show ResAll _ _ _ [.cell 4 33] _ from ⟨⟨⟨g2,0,none⟩,by kernel_rfl,trS_run _ (vs:=[.bool true,.slice none 0 0,.slice none 0 0]) (r:=[]) (es:=[.load ⟨g2,0,none⟩ (.bool true),.load ⟨g2,1,none⟩ (.slice none 0 0),.load ⟨g2,2,none⟩ (.slice none 0 0)]) (by kernel_rfl) ⟨(hh.box 0 rfl rfl),(hh.box 0 rfl rfl),(hh.box 0 rfl rfl)⟩⟩,trivial⟩) rfl (cs':=none::none::(some (ga0,.cells #[iv v_c0_0,iv v_c0_1,.slice Av_c0_2 v_c0_2.length cv_c0_2,.slice A5 ((((([]:List Entry)++(v_c0_3.take v_k10.toNat))++([(⟨a1.Key,(([]:List ByteArray)++a1.Digests),a1.At⟩:Entry)]:List Entry))++(v_c0_3.drop v_k10.toNat)).length) c5] 25 (0,0)))::chv_c0_2::ch5::F) rfl ⟨none,0,none,none,0,none,Av_c0_2,cv_c0_2,chv_c0_2,A5,c5,ch5,rfl,rfl,ho12,ho13,hov_c0_2,ho11⟩
theorem smithyardref7_store.l5_c {r:CacheAnswer × Cache} (e4:CacheEvent→Int→Int→(List Blob)→(List Entry)→Int→Option (CacheAnswer × Cache))
  (he4:∀ (H:Hp) (ga0:Nat) (a1:CacheEvent) (Aa1_3:Option Addr) (ca1_3 g1 g2:Nat) (v_c0_0 v_c0_1:Int) (v_c0_2:List Blob) (Av_c0_2:Option Addr) (cv_c0_2:Nat) (chv_c0_2:Ch) (v_c0_3:List Entry) (Av_c0_3:Option Addr) (cv_c0_3:Nat) (chv_c0_3:Ch) (v_k10:Int) ,Rw Kd.string H F Aa1_3 a1.Digests→a1.Digests.length≤ca1_3→SlOwn kBlob 45 H Av_c0_2 cv_c0_2 v_c0_2 chv_c0_2→SlOwn kEntry 47 H Av_c0_3 cv_c0_3 v_c0_3 chv_c0_3→e4 a1 v_c0_0 v_c0_1 v_c0_2 v_c0_3 v_k10=some r→RunH C46 (S46 F H0 ga0 r) H0 w0 [.c [1,1,1,1,1,1,1,0],.c [1,1,1,1,1,1,1,1]] [(0,pg ga0 0),(3,pg g1 0),(4,pg g2 0),(10,iv v_k10)] H ((some (g2,.cells #[.bool false,.slice none 0 0,.slice none 0 0] 33 (0,0)))::(some (g1,.cells #[iv a1.Kind,iv a1.At,.string a1.Digest,.slice Aa1_3 a1.Digests.length ca1_3,.string a1.Key,iv a1.Size] 28 (0,0)))::(some (ga0,.cells #[iv v_c0_0,iv v_c0_1,.slice Av_c0_2 v_c0_2.length cv_c0_2,.slice Av_c0_3 v_c0_3.length cv_c0_3] 25 (0,0)))::chv_c0_2::chv_c0_3::F)):∀ (k:Nat),∀ (H:Hp) (ga0:Nat) (a1:CacheEvent) (Aa1_3:Option Addr) (ca1_3 g1 g2:Nat) (v_c0_0 v_c0_1:Int) (v_c0_2:List Blob) (Av_c0_2:Option Addr) (cv_c0_2:Nat) (chv_c0_2:Ch) (v_c0_3:List Entry) (Av_c0_3:Option Addr) (cv_c0_3:Nat) (chv_c0_3:Ch) (v_k10:Int) ,Rw Kd.string H F Aa1_3 a1.Digests→a1.Digests.length≤ca1_3→SlOwn kBlob 45 H Av_c0_2 cv_c0_2 v_c0_2 chv_c0_2→SlOwn kEntry 47 H Av_c0_3 cv_c0_3 v_c0_3 chv_c0_3→smithyardref7_store.l5 e4 k a1 v_c0_0 v_c0_1 v_c0_2 v_c0_3 v_k10=some r→RunH C46 (S46 F H0 ga0 r) H0 w0 [.c [1,1,1,1,1,1,0,0,0],.l [1,1,1,1,1,1,0,0,0],.b 4,.c [1,1,1,1,1,1,1]] [(0,pg ga0 0),(3,pg g1 0),(4,pg g2 0),(10,iv v_k10)] H ((some (g2,.cells #[.bool false,.slice none 0 0,.slice none 0 0] 33 (0,0)))::(some (g1,.cells #[iv a1.Kind,iv a1.At,.string a1.Digest,.slice Aa1_3 a1.Digests.length ca1_3,.string a1.Key,iv a1.Size] 28 (0,0)))::(some (ga0,.cells #[iv v_c0_0,iv v_c0_1,.slice Av_c0_2 v_c0_2.length cv_c0_2,.slice Av_c0_3 v_c0_3.length cv_c0_3] 25 (0,0)))::chv_c0_2::chv_c0_3::F):=by
 intro k
 induction k with
 | zero=>intro H ga0 a1 Aa1_3 ca1_3 g1 g2 v_c0_0 v_c0_1 v_c0_2 Av_c0_2 cv_c0_2 chv_c0_2 v_c0_3 Av_c0_3 cv_c0_3 chv_c0_3 v_k10 hra1_3 hca1_3 hov_c0_2 hov_c0_3 heq; exact nomatch (show (none:Option (CacheAnswer × Cache))=some r from heq)
 | succ k ihk =>
  intro H ga0 a1 Aa1_3 ca1_3 g1 g2 v_c0_0 v_c0_1 v_c0_2 Av_c0_2 cv_c0_2 chv_c0_2 v_c0_3 Av_c0_3 cv_c0_3 chv_c0_3 v_k10 hra1_3 hca1_3 hov_c0_2 hov_c0_3 heq
  rw [smithyardref7_store.l5] at heq
  refine An 2 ?_
  obtain ⟨t1,ht1,heq⟩:=bind_some heq
  have K19:∀ (H:Hp),Rw Kd.string H F Aa1_3 a1.Digests→SlOwn kBlob 45 H Av_c0_2 cv_c0_2 v_c0_2 chv_c0_2→SlOwn kEntry 47 H Av_c0_3 cv_c0_3 v_c0_3 chv_c0_3→RunH C46 (S46 F H0 ga0 r) H0 w0 [.c [1,1,1,1,1,1,0,0,0,0,1],.c [1,1,1,1,1,1,0,0,0,1],.l [1,1,1,1,1,1,0,0,0],.b 4,.c [1,1,1,1,1,1,1]] [(0,pg ga0 0),(3,pg g1 0),(4,pg g2 0),(10,iv v_k10),(108,.bool t1)] H ((some (g2,.cells #[.bool false,.slice none 0 0,.slice none 0 0] 33 (0,0)))::(some (g1,.cells #[iv a1.Kind,iv a1.At,.string a1.Digest,.slice Aa1_3 a1.Digests.length ca1_3,.string a1.Key,iv a1.Size] 28 (0,0)))::(some (ga0,.cells #[iv v_c0_0,iv v_c0_1,.slice Av_c0_2 v_c0_2.length cv_c0_2,.slice Av_c0_3 v_c0_3.length cv_c0_3] 25 (0,0)))::chv_c0_2::chv_c0_3::F):=by
   intro H hra1_3 hov_c0_2 hov_c0_3
   refine Cb heq ?_ ?_
   ·intro hb3 heq
    refine Sa 2<|Zd 3<|An 2 ?_
    exact Gt 0 [] (ihk _ _ a1 _ _ _ _ v_c0_0 v_c0_1 v_c0_2 _ _ _ v_c0_3 _ _ _ (w64 (v_k10+1)) hra1_3 hca1_3 hov_c0_2 hov_c0_3 heq)
   ·intro hb3 heq
    refine An 2 ?_
    exact Gt 0 [] (he4 _ _ a1 _ _ _ _ v_c0_0 v_c0_1 v_c0_2 _ _ _ v_c0_3 _ _ _ v_k10 hra1_3 hca1_3 hov_c0_2 hov_c0_3 heq)
  replace heq:=ht1
  refine Sd 0 20 [] [3,3,3,3,3,3,3,3,3,3,3,3,3,3,3,3,3,3,3,3]<|Zr [0,1,2,3,4,5,6,7] 12 [bx 2 3] (Pk 5 [0,1,2,3,4]) (Pk 5 [0,1,2,3,4]) ?_
  rcases bool_cases (decide (v_k10<(v_c0_3.length:Int))) with hb2 | hb2
  ·replace heq:=bif_true hb2 heq
   refine Zu 96 (congrArg Value.bool hb2) ?_
   obtain ⟨x1,hx1,heq⟩:=bind_some heq
   obtain ⟨ha1,cs1,hK1,hcc1⟩:=hov_c0_3.get hx1
   obtain ⟨A6,c6,rfl,hc2,hr2⟩:=kEntry_open hK1
   refine Zr [8,9,10,11,12,13,14,15,16,17,18,19] 0 [bx 2 3,nx ha1 hx1,el hcc1 4 0,bx 1 4] (Pk 5 [0,1,2,3,4]) (Pk 5 [0,1,2,3,4]) ?_
   obtain rfl:=Option.some.inj heq
   refine DrH.done (by kernel_rfl) ?_
   exact Gt 0 [] (K19 _ hra1_3 hov_c0_2 hov_c0_3)
  ·replace heq:=bif_false hb2 heq
   refine Zu 96 (congrArg Value.bool hb2)<|Zr [8,9,10,11,12,13,14,15,16,17,18,19] 0 [] (Pk 5 [0,1,2,3,4]) (Pk 5 [0,1,2,3,4]) ?_
   obtain rfl:=Option.some.inj heq
   refine DrH.done (by kernel_rfl) ?_
   exact Gt 0 [] (K19 _ hra1_3 hov_c0_2 hov_c0_3)
theorem smithyardref7_store.j3_c {r:CacheAnswer × Cache}:∀ (H:Hp) (ga0:Nat) (a1:CacheEvent) (Aa1_3:Option Addr) (ca1_3 g1 g2:Nat) (v_c0_0 v_c0_1:Int) (v_c0_2:List Blob) (Av_c0_2:Option Addr) (nv_c0_2 cv_c0_2:Nat) (chv_c0_2:Ch) (v_c0_3:List Entry) (Av_c0_3:Option Addr) (nv_c0_3 cv_c0_3:Nat) (chv_c0_3:Ch) ,Rw Kd.string H F Aa1_3 a1.Digests→a1.Digests.length≤ca1_3→SlOwn kBlob 45 H Av_c0_2 cv_c0_2 v_c0_2 chv_c0_2→nv_c0_2=v_c0_2.length→SlOwn kEntry 47 H Av_c0_3 cv_c0_3 v_c0_3 chv_c0_3→nv_c0_3=v_c0_3.length→smithyardref7_store.j3 a1 v_c0_0 v_c0_1 v_c0_2 v_c0_3=some r→RunH C46 (S46 F H0 ga0 r) H0 w0 [.c [1,1,1,1,1,0],.c [1,1,1,1,1,1]] [(0,pg ga0 0),(3,pg g1 0),(4,pg g2 0)] H ((some (g2,.cells #[.bool false,.slice none 0 0,.slice none 0 0] 33 (0,0)))::(some (g1,.cells #[iv a1.Kind,iv a1.At,.string a1.Digest,.slice Aa1_3 a1.Digests.length ca1_3,.string a1.Key,iv a1.Size] 28 (0,0)))::(some (ga0,.cells #[iv v_c0_0,iv v_c0_1,.slice Av_c0_2 nv_c0_2 cv_c0_2,.slice Av_c0_3 nv_c0_3 cv_c0_3] 25 (0,0)))::chv_c0_2::chv_c0_3::F):=by
 intro H ga0 a1 Aa1_3 ca1_3 g1 g2 v_c0_0 v_c0_1 v_c0_2 Av_c0_2 nv_c0_2 cv_c0_2 chv_c0_2 v_c0_3 Av_c0_3 nv_c0_3 cv_c0_3 chv_c0_3 hra1_3 hca1_3 hov_c0_2 hnv_c0_2 hov_c0_3 hnv_c0_3 heq
 subst hnv_c0_2
 subst hnv_c0_3
 unfold smithyardref7_store.j3 at heq
 refine Sa 0<|Zd 1<|An 3 ?_
 exact Gt 0 [] (((smithyardref7_store.l5_c (e4:=smithyardref7_store.e4) (smithyardref7_store.e4_c)) big) _ _ a1 _ _ _ _ v_c0_0 v_c0_1 v_c0_2 _ _ _ v_c0_3 _ _ _ 0 hra1_3 hca1_3 hov_c0_2 hov_c0_3 heq)
theorem smithyardref7_store.e6_c {r:CacheAnswer × Cache} (j3:CacheEvent→Int→Int→(List Blob)→(List Entry)→Option (CacheAnswer × Cache))
  (hj3:∀ (H:Hp) (ga0:Nat) (a1:CacheEvent) (Aa1_3:Option Addr) (ca1_3 g1 g2:Nat) (v_c0_0 v_c0_1:Int) (v_c0_2:List Blob) (Av_c0_2:Option Addr) (nv_c0_2 cv_c0_2:Nat) (chv_c0_2:Ch) (v_c0_3:List Entry) (Av_c0_3:Option Addr) (nv_c0_3 cv_c0_3:Nat) (chv_c0_3:Ch) ,Rw Kd.string H F Aa1_3 a1.Digests→a1.Digests.length≤ca1_3→SlOwn kBlob 45 H Av_c0_2 cv_c0_2 v_c0_2 chv_c0_2→nv_c0_2=v_c0_2.length→SlOwn kEntry 47 H Av_c0_3 cv_c0_3 v_c0_3 chv_c0_3→nv_c0_3=v_c0_3.length→j3 a1 v_c0_0 v_c0_1 v_c0_2 v_c0_3=some r→RunH C46 (S46 F H0 ga0 r) H0 w0 [.c [1,1,1,1,1,0],.c [1,1,1,1,1,1]] [(0,pg ga0 0),(3,pg g1 0),(4,pg g2 0)] H ((some (g2,.cells #[.bool false,.slice none 0 0,.slice none 0 0] 33 (0,0)))::(some (g1,.cells #[iv a1.Kind,iv a1.At,.string a1.Digest,.slice Aa1_3 a1.Digests.length ca1_3,.string a1.Key,iv a1.Size] 28 (0,0)))::(some (ga0,.cells #[iv v_c0_0,iv v_c0_1,.slice Av_c0_2 nv_c0_2 cv_c0_2,.slice Av_c0_3 nv_c0_3 cv_c0_3] 25 (0,0)))::chv_c0_2::chv_c0_3::F)):∀ (H:Hp) (ga0:Nat) (a1:CacheEvent) (Aa1_3:Option Addr) (ca1_3 g1 g2:Nat) (v_c0_0 v_c0_1:Int) (v_c0_2:List Blob) (Av_c0_2:Option Addr) (cv_c0_2:Nat) (chv_c0_2:Ch) (v_c0_3:List Entry) (Av_c0_3:Option Addr) (cv_c0_3:Nat) (chv_c0_3:Ch) (v_old8:Int) ,Rw Kd.string H F Aa1_3 a1.Digests→a1.Digests.length≤ca1_3→SlOwn kBlob 45 H Av_c0_2 cv_c0_2 v_c0_2 chv_c0_2→SlOwn kEntry 47 H Av_c0_3 cv_c0_3 v_c0_3 chv_c0_3→smithyardref7_store.e6 j3 a1 v_c0_0 v_c0_1 v_c0_2 v_c0_3 v_old8=some r→RunH C46 (S46 F H0 ga0 r) H0 w0 [.c [1,1,1,1,0,1,0,1,1],.c [1,1,1,1,1]] [(0,pg ga0 0),(3,pg g1 0),(4,pg g2 0),(8,iv v_old8)] H ((some (g2,.cells #[.bool false,.slice none 0 0,.slice none 0 0] 33 (0,0)))::(some (g1,.cells #[iv a1.Kind,iv a1.At,.string a1.Digest,.slice Aa1_3 a1.Digests.length ca1_3,.string a1.Key,iv a1.Size] 28 (0,0)))::(some (ga0,.cells #[iv v_c0_0,iv v_c0_1,.slice Av_c0_2 v_c0_2.length cv_c0_2,.slice Av_c0_3 v_c0_3.length cv_c0_3] 25 (0,0)))::chv_c0_2::chv_c0_3::F):=by
 intro H ga0 a1 Aa1_3 ca1_3 g1 g2 v_c0_0 v_c0_1 v_c0_2 Av_c0_2 cv_c0_2 chv_c0_2 v_c0_3 Av_c0_3 cv_c0_3 chv_c0_3 v_old8 hra1_3 hca1_3 hov_c0_2 hov_c0_3 heq
 unfold smithyardref7_store.e6 at heq
 refine Sa 0<|Zk 2<|Ug 5 [2,3,4,0,1] ?_
 obtain ⟨y3,hy3,heq⟩:=bind_some heq
 refine RgH.does (cal 88 (smithyardref7_removeEntry_c (a0:=(⟨v_c0_0,v_c0_1,v_c0_2,v_c0_3⟩:Cache)) hy3 hov_c0_2 rfl hov_c0_3 rfl)) ?_
 rintro _ _ _ _ ⟨_,rfl,A7,c7,ch6,A8,c8,ch7,rfl,rfl,rfl,ho14,ho15⟩
 refine Dn<|An 1 ?_
 exact Gt 5 [3,4,0,1,2] (hj3 _ _ a1 _ _ _ _ y3.Room y3.Lease y3.Blobs _ _ _ _ y3.Entries _ _ _ _ hra1_3 hca1_3 ho14 rfl ho15 rfl heq)
theorem smithyardref7_store.j8_c {r:CacheAnswer × Cache} (backl7:CacheEvent→Int→Int→(List Blob)→(List Entry)→Int→Int→Option (CacheAnswer × Cache))
  (hbackl7:∀ (H:Hp) (ga0:Nat) (a1:CacheEvent) (Aa1_3:Option Addr) (ca1_3 g1 g2:Nat) (v_c0_0 v_c0_1:Int) (v_c0_2:List Blob) (Av_c0_2:Option Addr) (cv_c0_2:Nat) (chv_c0_2:Ch) (v_c0_3:List Entry) (Av_c0_3:Option Addr) (cv_c0_3:Nat) (chv_c0_3:Ch) (v_old8 v_i9:Int) ,Rw Kd.string H F Aa1_3 a1.Digests→a1.Digests.length≤ca1_3→SlOwn kBlob 45 H Av_c0_2 cv_c0_2 v_c0_2 chv_c0_2→SlOwn kEntry 47 H Av_c0_3 cv_c0_3 v_c0_3 chv_c0_3→backl7 a1 v_c0_0 v_c0_1 v_c0_2 v_c0_3 v_old8 v_i9=some r→RunH C46 (S46 F H0 ga0 r) H0 w0 [.c [1,1,1,1,0,1,0,1,0,1,0,0],.l [1,1,1,1,0,1,0,1,0,1,0,0],.b 2,.c [1,1,1,1,0,1,0,1,1],.c [1,1,1,1,1]] [(0,pg ga0 0),(3,pg g1 0),(4,pg g2 0),(8,iv v_old8),(9,iv v_i9)] H ((some (g2,.cells #[.bool false,.slice none 0 0,.slice none 0 0] 33 (0,0)))::(some (g1,.cells #[iv a1.Kind,iv a1.At,.string a1.Digest,.slice Aa1_3 a1.Digests.length ca1_3,.string a1.Key,iv a1.Size] 28 (0,0)))::(some (ga0,.cells #[iv v_c0_0,iv v_c0_1,.slice Av_c0_2 v_c0_2.length cv_c0_2,.slice Av_c0_3 v_c0_3.length cv_c0_3] 25 (0,0)))::chv_c0_2::chv_c0_3::F)):∀ (H:Hp) (ga0:Nat) (a1:CacheEvent) (Aa1_3:Option Addr) (ca1_3 g1 g2:Nat) (v_c0_0 v_c0_1:Int) (v_c0_2:List Blob) (Av_c0_2:Option Addr) (cv_c0_2:Nat) (chv_c0_2:Ch) (v_c0_3:List Entry) (Av_c0_3:Option Addr) (cv_c0_3:Nat) (chv_c0_3:Ch) (v_i9 v_old8:Int) ,Rw Kd.string H F Aa1_3 a1.Digests→a1.Digests.length≤ca1_3→SlOwn kBlob 45 H Av_c0_2 cv_c0_2 v_c0_2 chv_c0_2→SlOwn kEntry 47 H Av_c0_3 cv_c0_3 v_c0_3 chv_c0_3→smithyardref7_store.j8 backl7 a1 v_c0_0 v_c0_1 v_c0_2 v_c0_3 v_i9 v_old8=some r→RunH C46 (S46 F H0 ga0 r) H0 w0 [.c [1,1,1,1,0,1,0,1,0,1,0,0,1,1],.l [1,1,1,1,0,1,0,1,0,1,0,0],.b 2,.c [1,1,1,1,0,1,0,1,1],.c [1,1,1,1,1]] [(0,pg ga0 0),(3,pg g1 0),(4,pg g2 0),(8,iv v_old8),(9,iv v_i9)] H ((some (g2,.cells #[.bool false,.slice none 0 0,.slice none 0 0] 33 (0,0)))::(some (g1,.cells #[iv a1.Kind,iv a1.At,.string a1.Digest,.slice Aa1_3 a1.Digests.length ca1_3,.string a1.Key,iv a1.Size] 28 (0,0)))::(some (ga0,.cells #[iv v_c0_0,iv v_c0_1,.slice Av_c0_2 v_c0_2.length cv_c0_2,.slice Av_c0_3 v_c0_3.length cv_c0_3] 25 (0,0)))::chv_c0_2::chv_c0_3::F):=by
 intro H ga0 a1 Aa1_3 ca1_3 g1 g2 v_c0_0 v_c0_1 v_c0_2 Av_c0_2 cv_c0_2 chv_c0_2 v_c0_3 Av_c0_3 cv_c0_3 chv_c0_3 v_i9 v_old8 hra1_3 hca1_3 hov_c0_2 hov_c0_3 heq
 unfold smithyardref7_store.j8 at heq
 refine Sa 0<|Zd 3<|An 1 ?_
 exact Gt 0 [] (hbackl7 _ _ a1 _ _ _ _ v_c0_0 v_c0_1 v_c0_2 _ _ _ v_c0_3 _ _ _ v_old8 (w64 (v_i9+1)) hra1_3 hca1_3 hov_c0_2 hov_c0_3 heq)
theorem smithyardref7_store.l7_c {r:CacheAnswer × Cache} (e6:CacheEvent→Int→Int→(List Blob)→(List Entry)→Int→Option (CacheAnswer × Cache))
  (he6:∀ (H:Hp) (ga0:Nat) (a1:CacheEvent) (Aa1_3:Option Addr) (ca1_3 g1 g2:Nat) (v_c0_0 v_c0_1:Int) (v_c0_2:List Blob) (Av_c0_2:Option Addr) (cv_c0_2:Nat) (chv_c0_2:Ch) (v_c0_3:List Entry) (Av_c0_3:Option Addr) (cv_c0_3:Nat) (chv_c0_3:Ch) (v_old8:Int) ,Rw Kd.string H F Aa1_3 a1.Digests→a1.Digests.length≤ca1_3→SlOwn kBlob 45 H Av_c0_2 cv_c0_2 v_c0_2 chv_c0_2→SlOwn kEntry 47 H Av_c0_3 cv_c0_3 v_c0_3 chv_c0_3→e6 a1 v_c0_0 v_c0_1 v_c0_2 v_c0_3 v_old8=some r→RunH C46 (S46 F H0 ga0 r) H0 w0 [.c [1,1,1,1,0,1,0,1,1],.c [1,1,1,1,1]] [(0,pg ga0 0),(3,pg g1 0),(4,pg g2 0),(8,iv v_old8)] H ((some (g2,.cells #[.bool false,.slice none 0 0,.slice none 0 0] 33 (0,0)))::(some (g1,.cells #[iv a1.Kind,iv a1.At,.string a1.Digest,.slice Aa1_3 a1.Digests.length ca1_3,.string a1.Key,iv a1.Size] 28 (0,0)))::(some (ga0,.cells #[iv v_c0_0,iv v_c0_1,.slice Av_c0_2 v_c0_2.length cv_c0_2,.slice Av_c0_3 v_c0_3.length cv_c0_3] 25 (0,0)))::chv_c0_2::chv_c0_3::F)):∀ (k:Nat),∀ (H:Hp) (ga0:Nat) (a1:CacheEvent) (Aa1_3:Option Addr) (ca1_3 g1 g2:Nat) (v_c0_0 v_c0_1:Int) (v_c0_2:List Blob) (Av_c0_2:Option Addr) (cv_c0_2:Nat) (chv_c0_2:Ch) (v_c0_3:List Entry) (Av_c0_3:Option Addr) (cv_c0_3:Nat) (chv_c0_3:Ch) (v_old8 v_i9:Int) ,Rw Kd.string H F Aa1_3 a1.Digests→a1.Digests.length≤ca1_3→SlOwn kBlob 45 H Av_c0_2 cv_c0_2 v_c0_2 chv_c0_2→SlOwn kEntry 47 H Av_c0_3 cv_c0_3 v_c0_3 chv_c0_3→smithyardref7_store.l7 e6 k a1 v_c0_0 v_c0_1 v_c0_2 v_c0_3 v_old8 v_i9=some r→RunH C46 (S46 F H0 ga0 r) H0 w0 [.c [1,1,1,1,0,1,0,1,0,1,0,0],.l [1,1,1,1,0,1,0,1,0,1,0,0],.b 2,.c [1,1,1,1,0,1,0,1,1],.c [1,1,1,1,1]] [(0,pg ga0 0),(3,pg g1 0),(4,pg g2 0),(8,iv v_old8),(9,iv v_i9)] H ((some (g2,.cells #[.bool false,.slice none 0 0,.slice none 0 0] 33 (0,0)))::(some (g1,.cells #[iv a1.Kind,iv a1.At,.string a1.Digest,.slice Aa1_3 a1.Digests.length ca1_3,.string a1.Key,iv a1.Size] 28 (0,0)))::(some (ga0,.cells #[iv v_c0_0,iv v_c0_1,.slice Av_c0_2 v_c0_2.length cv_c0_2,.slice Av_c0_3 v_c0_3.length cv_c0_3] 25 (0,0)))::chv_c0_2::chv_c0_3::F):=by
 intro k
 induction k with
 | zero=>intro H ga0 a1 Aa1_3 ca1_3 g1 g2 v_c0_0 v_c0_1 v_c0_2 Av_c0_2 cv_c0_2 chv_c0_2 v_c0_3 Av_c0_3 cv_c0_3 chv_c0_3 v_old8 v_i9 hra1_3 hca1_3 hov_c0_2 hov_c0_3 heq; exact nomatch (show (none:Option (CacheAnswer × Cache))=some r from heq)
 | succ k ihk =>
  intro H ga0 a1 Aa1_3 ca1_3 g1 g2 v_c0_0 v_c0_1 v_c0_2 Av_c0_2 cv_c0_2 chv_c0_2 v_c0_3 Av_c0_3 cv_c0_3 chv_c0_3 v_old8 v_i9 hra1_3 hca1_3 hov_c0_2 hov_c0_3 heq
  rw [smithyardref7_store.l7] at heq
  refine Sa 2<|Zw 7 [bx 2 3] ?_
  refine Cb heq ?_ ?_
  ·intro hb5 heq
   refine An 4<|Sd 0 17 [] [3,3,3,3,3,3,3,3,3,3,3,3,3,3,3,3,3] ?_
   obtain ⟨x2,hx2,heq⟩:=bind_some heq
   obtain ⟨ha2,cs2,hK2,hcc2⟩:=hov_c0_3.get hx2
   obtain ⟨A9,c9,rfl,hc3,hr3⟩:=kEntry_open hK2
   obtain ⟨x3,hx3,heq⟩:=bind_some heq
   obtain ⟨ha3,cs3,hK3,hcc3⟩:=hov_c0_3.get hx3
   obtain ⟨A10,c10,rfl,hc4,hr4⟩:=kEntry_open hK3
   refine Zr [0,1,2,3,4,5,6,7,8,9,10,11,12,13,14,15,16] 0 [bx 2 3,nx ha2 hx2,el hcc2 4 2,bx 2 3,nx ha3 hx3,el hcc3 4 2] (Pk 5 [0,1,2,3,4]) (Pk 5 [0,1,2,3,4]) ?_
   refine DrH.done (by kernel_rfl) ?_
   refine Cb heq ?_ ?_
   ·intro hb6 heq
    refine Sa 0<|Zd 2<|An 1 ?_
    exact Gt 0 [] ((smithyardref7_store.j8_c (backl7:=(smithyardref7_store.l7 e6 k)) ihk) _ _ a1 _ _ _ _ v_c0_0 v_c0_1 v_c0_2 _ _ _ v_c0_3 _ _ _ v_i9 v_i9 hra1_3 hca1_3 hov_c0_2 hov_c0_3 heq)
   ·intro hb6 heq
    refine An 2 ?_
    exact Gt 0 [] ((smithyardref7_store.j8_c (backl7:=(smithyardref7_store.l7 e6 k)) ihk) _ _ a1 _ _ _ _ v_c0_0 v_c0_1 v_c0_2 _ _ _ v_c0_3 _ _ _ v_i9 v_old8 hra1_3 hca1_3 hov_c0_2 hov_c0_3 heq)
  ·intro hb5 heq
   refine An 1 ?_
   exact Gt 0 [] (he6 _ _ a1 _ _ _ _ v_c0_0 v_c0_1 v_c0_2 _ _ _ v_c0_3 _ _ _ v_old8 hra1_3 hca1_3 hov_c0_2 hov_c0_3 heq)
theorem smithyardref7_store.j2_c {r:CacheAnswer × Cache}:∀ (H:Hp) (ga0:Nat) (a1:CacheEvent) (Aa1_3:Option Addr) (ca1_3 g1 g2:Nat) (v_c0_0 v_c0_1:Int) (v_c0_2:List Blob) (Av_c0_2:Option Addr) (nv_c0_2 cv_c0_2:Nat) (chv_c0_2:Ch) (v_c0_3:List Entry) (Av_c0_3:Option Addr) (nv_c0_3 cv_c0_3:Nat) (chv_c0_3:Ch) ,Rw Kd.string H F Aa1_3 a1.Digests→a1.Digests.length≤ca1_3→SlOwn kBlob 45 H Av_c0_2 cv_c0_2 v_c0_2 chv_c0_2→nv_c0_2=v_c0_2.length→SlOwn kEntry 47 H Av_c0_3 cv_c0_3 v_c0_3 chv_c0_3→nv_c0_3=v_c0_3.length→smithyardref7_store.j2 a1 v_c0_0 v_c0_1 v_c0_2 v_c0_3=some r→RunH C46 (S46 F H0 ga0 r) H0 w0 [.c [1,1,1,1,0,0],.c [1,1,1,1,0,1],.c [1,1,1,1,1]] [(0,pg ga0 0),(3,pg g1 0),(4,pg g2 0)] H ((some (g2,.cells #[.bool false,.slice none 0 0,.slice none 0 0] 33 (0,0)))::(some (g1,.cells #[iv a1.Kind,iv a1.At,.string a1.Digest,.slice Aa1_3 a1.Digests.length ca1_3,.string a1.Key,iv a1.Size] 28 (0,0)))::(some (ga0,.cells #[iv v_c0_0,iv v_c0_1,.slice Av_c0_2 nv_c0_2 cv_c0_2,.slice Av_c0_3 nv_c0_3 cv_c0_3] 25 (0,0)))::chv_c0_2::chv_c0_3::F):=by
 intro H ga0 a1 Aa1_3 ca1_3 g1 g2 v_c0_0 v_c0_1 v_c0_2 Av_c0_2 nv_c0_2 cv_c0_2 chv_c0_2 v_c0_3 Av_c0_3 nv_c0_3 cv_c0_3 chv_c0_3 hra1_3 hca1_3 hov_c0_2 hnv_c0_2 hov_c0_3 hnv_c0_3 heq
 subst hnv_c0_2
 subst hnv_c0_3
 unfold smithyardref7_store.j2 at heq
 refine Sa 0<|Zw 6 [bx 2 3] ?_
 refine Cb heq ?_ ?_
 ·intro hb4 heq
  refine Sa 1<|Zd 1<|Sa 2<|Zd 1<|An 2 ?_
  exact Gt 0 [] (((smithyardref7_store.l7_c (e6:=smithyardref7_store.e6 smithyardref7_store.j3) (smithyardref7_store.e6_c (j3:=smithyardref7_store.j3) (smithyardref7_store.j3_c))) big) _ _ a1 _ _ _ _ v_c0_0 v_c0_1 v_c0_2 _ _ _ v_c0_3 _ _ _ 0 0 hra1_3 hca1_3 hov_c0_2 hov_c0_3 heq)
 ·intro hb4 heq
  refine An 2 ?_
  exact Gt 0 [] ((smithyardref7_store.j3_c) _ _ a1 _ _ _ _ v_c0_0 v_c0_1 v_c0_2 _ _ _ _ v_c0_3 _ _ _ _ hra1_3 hca1_3 hov_c0_2 rfl hov_c0_3 rfl heq)
theorem smithyardref7_store.e1_c {r:CacheAnswer × Cache}:∀ (H:Hp) (ga0:Nat) (a0:Cache) (Aa0_3:Option Addr) (ca0_3:Nat) (cha0_3:Ch) (a1:CacheEvent) (Aa1_3:Option Addr) (ca1_3 g1 g2:Nat) (v_c0_2:List Blob) (Av_c0_2:Option Addr) (nv_c0_2 cv_c0_2:Nat) (chv_c0_2:Ch) ,SlOwn kEntry 47 H Aa0_3 ca0_3 a0.Entries cha0_3→Rw Kd.string H F Aa1_3 a1.Digests→a1.Digests.length≤ca1_3→SlOwn kBlob 45 H Av_c0_2 cv_c0_2 v_c0_2 chv_c0_2→nv_c0_2=v_c0_2.length→smithyardref7_store.e1 a0 a1 v_c0_2=some r→RunH C46 (S46 F H0 ga0 r) H0 w0 [.c [1,1,1,0,0],.c [1,1,1,0,1],.c [1,1,1,1]] [(0,pg ga0 0),(3,pg g1 0),(4,pg g2 0)] H ((some (g2,.cells #[.bool false,.slice none 0 0,.slice none 0 0] 33 (0,0)))::(some (g1,.cells #[iv a1.Kind,iv a1.At,.string a1.Digest,.slice Aa1_3 a1.Digests.length ca1_3,.string a1.Key,iv a1.Size] 28 (0,0)))::(some (ga0,.cells #[iv a0.Room,iv a0.Lease,.slice Av_c0_2 nv_c0_2 cv_c0_2,.slice Aa0_3 a0.Entries.length ca0_3] 25 (0,0)))::chv_c0_2::cha0_3::F):=by
 intro H ga0 a0 Aa0_3 ca0_3 cha0_3 a1 Aa1_3 ca1_3 g1 g2 v_c0_2 Av_c0_2 nv_c0_2 cv_c0_2 chv_c0_2 hoa0_3 hra1_3 hca1_3 hov_c0_2 hnv_c0_2 heq
 subst hnv_c0_2
 unfold smithyardref7_store.e1 at heq
 refine Sa 0<|Zv 3 [bx 1 4] ?_
 obtain ⟨y2,hy2,heq⟩:=bind_some heq
 refine RgH.does (cal 47 (smithyardref7_entry_c (a0:=(⟨a0.Room,a0.Lease,v_c0_2,a0.Entries⟩:Cache)) hy2 (hov_c0_2.rw (.tail _ (.tail _ (.tail _ (.head _))))) hov_c0_2.cap rfl (hoa0_3.rw (.tail _ (.tail _ (.tail _ (.tail _ (.head _)))))) hoa0_3.cap rfl (.inr (.tail _ (.tail _ (.head _)))))) ?_
 rintro _ _ _ _ ⟨_,rfl,rfl,rfl,rfl⟩
 refine Zd 5<|Sa 1<|Zd 2 ?_
 refine Cb heq ?_ ?_
 ·intro hb7 heq
  refine Sa 0<|Zk 2<|Ug 5 [2,3,4,0,1] ?_
  obtain ⟨y4,hy4,heq⟩:=bind_some heq
  refine RgH.does (cal 52 (smithyardref7_removeEntry_c (a0:=(⟨a0.Room,a0.Lease,v_c0_2,a0.Entries⟩:Cache)) hy4 hov_c0_2 rfl hoa0_3 rfl)) ?_
  rintro _ _ _ _ ⟨_,rfl,A11,c11,ch8,A12,c12,ch9,rfl,rfl,rfl,ho16,ho17⟩
  refine Dn<|An 2 ?_
  exact Gt 5 [3,4,0,1,2] ((smithyardref7_store.j2_c) _ _ a1 _ _ _ _ y4.Room y4.Lease y4.Blobs _ _ _ _ y4.Entries _ _ _ _ hra1_3 hca1_3 ho16 rfl ho17 rfl heq)
 ·intro hb7 heq
  refine An 3 ?_
  exact Gt 0 [] ((smithyardref7_store.j2_c) _ _ a1 _ _ _ _ a0.Room a0.Lease v_c0_2 _ _ _ _ a0.Entries _ _ _ _ hra1_3 hca1_3 hov_c0_2 rfl hoa0_3 rfl heq)
theorem smithyardref7_store.l9_c {r:CacheAnswer × Cache} (e1:Cache→CacheEvent→(List Blob)→Option (CacheAnswer × Cache))
  (he1:∀ (H:Hp) (ga0:Nat) (a0:Cache) (Aa0_3:Option Addr) (ca0_3:Nat) (cha0_3:Ch) (a1:CacheEvent) (Aa1_3:Option Addr) (ca1_3 g1 g2:Nat) (v_c0_2:List Blob) (Av_c0_2:Option Addr) (nv_c0_2 cv_c0_2:Nat) (chv_c0_2:Ch) ,SlOwn kEntry 47 H Aa0_3 ca0_3 a0.Entries cha0_3→Rw Kd.string H F Aa1_3 a1.Digests→a1.Digests.length≤ca1_3→SlOwn kBlob 45 H Av_c0_2 cv_c0_2 v_c0_2 chv_c0_2→nv_c0_2=v_c0_2.length→e1 a0 a1 v_c0_2=some r→RunH C46 (S46 F H0 ga0 r) H0 w0 [.c [1,1,1,0,0],.c [1,1,1,0,1],.c [1,1,1,1]] [(0,pg ga0 0),(3,pg g1 0),(4,pg g2 0)] H ((some (g2,.cells #[.bool false,.slice none 0 0,.slice none 0 0] 33 (0,0)))::(some (g1,.cells #[iv a1.Kind,iv a1.At,.string a1.Digest,.slice Aa1_3 a1.Digests.length ca1_3,.string a1.Key,iv a1.Size] 28 (0,0)))::(some (ga0,.cells #[iv a0.Room,iv a0.Lease,.slice Av_c0_2 nv_c0_2 cv_c0_2,.slice Aa0_3 a0.Entries.length ca0_3] 25 (0,0)))::chv_c0_2::cha0_3::F)):∀ (k:Nat),∀ (H:Hp) (ga0:Nat) (a0:Cache) (Aa0_3:Option Addr) (ca0_3:Nat) (cha0_3:Ch) (a1:CacheEvent) (Aa1_3:Option Addr) (ca1_3 g1 g2:Nat) (v_c0_2:List Blob) (Av_c0_2:Option Addr) (nv_c0_2 cv_c0_2:Nat) (chv_c0_2:Ch) (v_i6:Int) ,SlOwn kEntry 47 H Aa0_3 ca0_3 a0.Entries cha0_3→Rw Kd.string H F Aa1_3 a1.Digests→a1.Digests.length≤ca1_3→SlOwn kBlob 45 H Av_c0_2 cv_c0_2 v_c0_2 chv_c0_2→nv_c0_2=v_c0_2.length→smithyardref7_store.l9 e1 k a0 a1 v_c0_2 v_i6=some r→RunH C46 (S46 F H0 ga0 r) H0 w0 [.c [1,1,0,1,0,0],.l [1,1,0,1,0,0],.b 0,.c [1,1,1]] [(0,pg ga0 0),(3,pg g1 0),(4,pg g2 0),(6,iv v_i6)] H ((some (g2,.cells #[.bool false,.slice none 0 0,.slice none 0 0] 33 (0,0)))::(some (g1,.cells #[iv a1.Kind,iv a1.At,.string a1.Digest,.slice Aa1_3 a1.Digests.length ca1_3,.string a1.Key,iv a1.Size] 28 (0,0)))::(some (ga0,.cells #[iv a0.Room,iv a0.Lease,.slice Av_c0_2 nv_c0_2 cv_c0_2,.slice Aa0_3 a0.Entries.length ca0_3] 25 (0,0)))::chv_c0_2::cha0_3::F):=by
 intro k
 induction k with
 | zero=>intro H ga0 a0 Aa0_3 ca0_3 cha0_3 a1 Aa1_3 ca1_3 g1 g2 v_c0_2 Av_c0_2 nv_c0_2 cv_c0_2 chv_c0_2 v_i6 hoa0_3 hra1_3 hca1_3 hov_c0_2 hnv_c0_2 heq; exact nomatch (show (none:Option (CacheAnswer × Cache))=some r from heq)
 | succ k ihk =>
  intro H ga0 a0 Aa0_3 ca0_3 cha0_3 a1 Aa1_3 ca1_3 g1 g2 v_c0_2 Av_c0_2 nv_c0_2 cv_c0_2 chv_c0_2 v_i6 hoa0_3 hra1_3 hca1_3 hov_c0_2 hnv_c0_2 heq
  subst hnv_c0_2
  rw [smithyardref7_store.l9] at heq
  refine Sa 2<|Zw 5 [bx 1 3] ?_
  refine Cb heq ?_ ?_
  ·intro hb8 heq
   refine An 3<|Sd 0 16 [] [3,3,3,3,3,3,3,3,3,3,0,3,3,0,3,2] ?_
   obtain ⟨x4,hx4,heq⟩:=bind_some heq
   obtain ⟨ha4,cs4,hK4,hcc4⟩:=hra1_3.get hx4
   obtain rfl:cs4=[.string x4]:=hK4
   refine Zr [0,1,2,3,4,5,6,7,8,9,11,12] 4 [bx 2 2,bx 1 3,nx ha4 hx4,er hcc4 5 0,bx 1 1] (Pk 5 [0,1,2,3,4]) (Pk 5 [0,1,2,3,4]) ?_
   obtain ⟨y5,hy5,heq⟩:=bind_some heq
   refine Dz 10 (cal 39 (smithyardref7_blob_c (a0:=(⟨a0.Room,a0.Lease,v_c0_2,a0.Entries⟩:Cache)) hy5 (hov_c0_2.rw (.tail _ (.tail _ (.tail _ (.head _))))) hov_c0_2.cap rfl (hoa0_3.rw (.tail _ (.tail _ (.tail _ (.tail _ (.head _)))))) hoa0_3.cap rfl (.inr (.tail _ (.tail _ (.head _)))))) ?_
   rintro _ _ _ _ ⟨_,rfl,rfl,rfl,rfl⟩
   refine ⟨fun _ w hh=>⟨fun _=>(Pk 5 [0,1,2,3,4]) w hh,fun _=>(Pk 5 [0,1,2,3,4]) w hh,(fun h=>by cases h)⟩,?_⟩
   obtain ⟨x5,hx5,heq⟩:=bind_some heq
   obtain ⟨ha5,cs5,hK5,hcc5⟩:=hov_c0_2.get hx5
   obtain ⟨rfl⟩:=kBlob_open hK5
   refine Dz 13 (DoesH.pureop (d:=42) (v:=.pointer (some ((adr Av_c0_2).add (y5.toNat*5)))) (vs:=[]) (evs:=[.need (Av_c0_2=some (adr Av_c0_2)∧(0:Int)≤y5∧y5<((v_c0_2.length:Nat):Int))]) (by kernel_rfl) (fun w hh=>⟨ha5,(at?_some hx5).1,(at?_some hx5).2.1⟩)) ?_
   rintro _ _ _ _ ⟨rfl,rfl,rfl⟩
   refine ⟨fun _ w hh=>⟨fun _=>(Pk 5 [0,1,2,3,4]) w hh,fun _=>(Pk 5 [0,1,2,3,4]) w hh,(fun h=>by cases h)⟩,?_⟩
   refine Zr [14] 1 [] (Pk 5 [0,1,2,3,4]) (Pk 5 [0,1,2,3,4]) ?_
   obtain ⟨ha6,cs6,hK6,hcc6⟩:=hov_c0_2.get hx5
   obtain ⟨rfl⟩:=kBlob_open hK6
   refine Dz 15 (DoesH.storeEl (a:=(((adr Av_c0_2).add (y5.toNat*5)).add 2)) (k:=3) (kd:=kBlob) (c0:=[.string x5.Digest,iv x5.Size,iv x5.Used,iv x5.Until,iv x5.Pins]) (x':=(⟨x5.Digest,x5.Size,a1.At,x5.Until,x5.Pins⟩:Blob)) (o:=2) (ix:=y5) (v:=iv a1.At) (by kernel_rfl) rfl hov_c0_2 hx5 (by kernel_rfl) hcc6 rfl (Nat.le_of_ble_eq_true (by kernel_rfl)) kBlob_mk) ?_
   rintro _ _ _ _ ⟨ch10,rfl,rfl,rfl,ho18⟩
   have hn9:v_c0_2.length=(v_c0_2.set y5.toNat (⟨x5.Digest,x5.Size,a1.At,x5.Until,x5.Pins⟩:Blob)).length:=by rw [List.length_set]
   refine ⟨fun _ w hh=>⟨(fun h=>by cases h),(fun h=>absurd h (by decide)),(fun h=>by cases h)⟩,?_⟩
   refine DrH.nrm ?_
   refine DrH.done (by kernel_rfl) ?_
   refine Sa 1<|Zd 3<|An 1 ?_
   exact Gt 0 [] (ihk _ _ a0 _ _ _ a1 _ _ _ _ (v_c0_2.set y5.toNat (⟨x5.Digest,x5.Size,a1.At,x5.Until,x5.Pins⟩:Blob)) _ _ _ _ (w64 (v_i6+1)) hoa0_3 hra1_3 hca1_3 ho18 hn9 heq)
  ·intro hb8 heq
   refine An 3 ?_
   exact Gt 0 [] (he1 _ _ a0 _ _ _ a1 _ _ _ _ v_c0_2 _ _ _ _ hoa0_3 hra1_3 hca1_3 hov_c0_2 rfl heq)
theorem smithyardref7_store_c {ga0:Nat} {a0:Cache} {Aa0_2:Option Addr} {na0_2 ca0_2:Nat} {cha0_2:Ch} {Aa0_3:Option Addr} {na0_3 ca0_3:Nat} {cha0_3:Ch} {a1:CacheEvent} {Aa1_3:Option Addr} {na1_3 ca1_3:Nat} {r:CacheAnswer × Cache} (heq:smithyardref7_store.f a0 a1=some r) (hoa0_2:SlOwn kBlob 45 H0 Aa0_2 ca0_2 a0.Blobs cha0_2) (hna0_2:na0_2=a0.Blobs.length) (hoa0_3:SlOwn kEntry 47 H0 Aa0_3 ca0_3 a0.Entries cha0_3) (hna0_3:na0_3=a0.Entries.length) (hra1_3:Rw Kd.string H0 F Aa1_3 a1.Digests) (hca1_3:na1_3≤ca1_3) (hna1_3:na1_3=a1.Digests.length):CallsH Tryz.prog 46 #[.pointer (some ⟨ga0,0,none⟩),.agg #[iv a1.Kind,iv a1.At,.string a1.Digest,.slice Aa1_3 na1_3 ca1_3,.string a1.Key,iv a1.Size]] H0 w0 ((some (ga0,.cells #[iv a0.Room,iv a0.Lease,.slice Aa0_2 na0_2 ca0_2,.slice Aa0_3 na0_3 ca0_3] 25 (0,0)))::cha0_2::cha0_3::F) (S46 F H0 ga0 r):=by
 refine Co C46 Tryz.func46 Tryz.ntmps46 ?_
 subst hna0_2
 subst hna0_3
 subst hna1_3
 unfold smithyardref7_store.f at heq
 suffices key:∀ (H:Hp),SlOwn kBlob 45 H Aa0_2 ca0_2 a0.Blobs cha0_2→SlOwn kEntry 47 H Aa0_3 ca0_3 a0.Entries cha0_3→Rw Kd.string H F Aa1_3 a1.Digests→RunH C46 (S46 F H0 ga0 r) H0 w0 [.c []] (argL 0 [.pointer (some ⟨ga0,0,none⟩),.agg #[iv a1.Kind,iv a1.At,.string a1.Digest,.slice Aa1_3 (a1.Digests.length) ca1_3,.string a1.Key,iv a1.Size]]) H ((some (ga0,.cells #[iv a0.Room,iv a0.Lease,.slice Aa0_2 (a0.Blobs.length) ca0_2,.slice Aa0_3 (a0.Entries.length) ca0_3] 25 (0,0)))::cha0_2::cha0_3::F) from key H0 hoa0_2 hoa0_3 hra1_3
 intro H hoa0_2 hoa0_3 hra1_3
 refine Sa 1 ?_
 refine RgH.does (DoesH.new (d:=3) (v:=fun g=>.pointer (some ⟨g,0,none⟩)) (o:=fun g=>.cells #[iv a1.Kind,iv a1.At,.string a1.Digest,.slice Aa1_3 a1.Digests.length ca1_3,.string a1.Key,iv a1.Size] 28 (0,0)) (fun g=>by kernel_rfl)) ?_
 rintro _ _ _ _ ⟨g1,rfl,rfl,rfl⟩
 refine RgH.does (DoesH.new (d:=4) (v:=fun g=>.pointer (some ⟨g,0,none⟩)) (o:=fun g=>.cells #[.bool false,.slice none 0 0,.slice none 0 0] 33 (0,0)) (fun g=>by kernel_rfl)) ?_
 rintro _ _ _ _ ⟨g2,rfl,rfl,rfl⟩
 refine Dn<|Sa 2<|Zv 3 [bx 1 3] ?_
 obtain ⟨y1,hy1,heq⟩:=bind_some heq
 refine RgH.does (cal 16 (smithyardref7_missing_c hy1 (hoa0_2.rw (.tail _ (.tail _ (.tail _ (.head _))))) hoa0_2.cap rfl (hoa0_3.rw (.tail _ (.tail _ (.tail _ (.tail _ (.head _)))))) hoa0_3.cap rfl (.inr (.tail _ (.tail _ (.head _)))) (hra1_3.wk (fun _ h=>(.tail _ (.tail _ (.tail _ (.tail _ (.tail _ h))))))) hca1_3 rfl)) ?_
 rintro _ _ _ _ ⟨_,rfl,A1,c1,ch1,rfl,rfl,rfl,ho1⟩
 refine Zd 5<|Sa 1<|Zd 3 ?_
 refine Cb heq ?_ ?_
 ·intro hb1 heq
  refine Sa 1<|Zk 2 ?_
  refine RgH.does (DoesH.store (k:=1) (g:=g2) (off:=0) (v:=.agg #[.bool false,.slice A1 y1.length c1,.slice none 0 0]) (cells':=#[.bool false,.slice A1 y1.length c1,.slice none 0 0]) (by kernel_rfl) rfl (by kernel_rfl) (by kernel_rfl)) ?_
  rintro _ _ _ _ ⟨rfl,rfl,rfl⟩
  refine RgH.nrm ?_
  refine Dn<|RunH.nilc ?_
  have ho2:SlOwn Kd.string 9 H none 0 ([]:List ByteArray) none:=SlOwn.nil
  obtain rfl:=Option.some.inj heq
  refine Up 4 [2,1,0] ?_
  exact RunH.doneM' 1 (vs:=[.agg #[.bool false,.slice A1 y1.length c1,.slice none 0 0]]) (v:=.agg #[.bool false,.slice A1 y1.length c1,.slice none 0 0]) (by kernel_rfl) Tryz.func46 (fun w hh=>show ResAll _ _ _ [.cell 4 33] _ from ⟨⟨⟨g2,0,none⟩,by kernel_rfl,trS_run _ (vs:=[.bool false,.slice A1 y1.length c1,.slice none 0 0]) (r:=[]) (es:=[.load ⟨g2,0,none⟩ (.bool false),.load ⟨g2,1,none⟩ (.slice A1 y1.length c1),.load ⟨g2,2,none⟩ (.slice none 0 0)]) (by kernel_rfl) ⟨(hh.box 0 rfl rfl),(hh.box 0 rfl rfl),(hh.box 0 rfl rfl)⟩⟩,trivial⟩) rfl (cs':=ch1::none::(some (ga0,.cells #[iv a0.Room,iv a0.Lease,.slice Aa0_2 a0.Blobs.length ca0_2,.slice Aa0_3 a0.Entries.length ca0_3] 25 (0,0)))::cha0_2::cha0_3::F) rfl ⟨A1,c1,ch1,none,0,none,Aa0_2,ca0_2,cha0_2,Aa0_3,ca0_3,cha0_3,rfl,rfl,ho1,ho2,hoa0_2,hoa0_3⟩
 ·intro hb1 heq
  refine Sa 3<|Zd 1<|An 2 ?_
  exact Gt 1 [] (((smithyardref7_store.l9_c (e1:=smithyardref7_store.e1) (smithyardref7_store.e1_c)) big) _ _ a0 _ _ _ a1 _ _ _ _ a0.Blobs _ _ _ _ 0 hoa0_3 hra1_3 hca1_3 hoa0_2 rfl heq)
noncomputable def C47:Ctx:={ P:=Tryz.prog,f:=47,N:=72,c:=bodyOf Tryz.f47 }
def S47 (F:List Ch) (H0:Hp) (ga0:Nat) (r:CacheAnswer × Cache) (v:Value) (H:Hp) (cs:List Ch):Prop:=∃ (A0_1:Option Addr) (c0_1:Nat) (ch0_1:Ch) (A0_2:Option Addr) (c0_2:Nat) (ch0_2:Ch) (A1_2:Option Addr) (c1_2:Nat) (ch1_2:Ch) (A1_3:Option Addr) (c1_3:Nat) (ch1_3:Ch),H0=H∧v=.agg #[.bool r.1.Done,.slice A0_1 r.1.Missing.length c0_1,.slice A0_2 r.1.Gone.length c0_2]∧ch0_1::ch0_2::some (ga0,.cells #[iv r.2.Room,iv r.2.Lease,.slice A1_2 r.2.Blobs.length c1_2,.slice A1_3 r.2.Entries.length c1_3] 25 (0,0))::ch1_2::ch1_3::F=cs∧SlOwn Kd.string 9 H A0_1 c0_1 r.1.Missing ch0_1∧SlOwn Kd.string 9 H A0_2 c0_2 r.1.Gone ch0_2∧SlOwn kBlob 45 H A1_2 c1_2 r.2.Blobs ch1_2∧SlOwn kEntry 47 H A1_3 c1_3 r.2.Entries ch1_3
theorem smithyardref7_find.e1_c {r:CacheAnswer × Cache}:∀ (ga0 g2:Nat) (v_c0_0 v_c0_1:Int) (v_c0_2:List Blob) (Av_c0_2:Option Addr) (nv_c0_2 cv_c0_2:Nat) (chv_c0_2:Ch) (v_c0_3:List Entry) (Av_c0_3:Option Addr) (nv_c0_3 cv_c0_3:Nat) (chv_c0_3:Ch) ,SlOwn kBlob 45 H Av_c0_2 cv_c0_2 v_c0_2 chv_c0_2→nv_c0_2=v_c0_2.length→SlOwn kEntry 47 H Av_c0_3 cv_c0_3 v_c0_3 chv_c0_3→nv_c0_3=v_c0_3.length→smithyardref7_find.e1 v_c0_0 v_c0_1 v_c0_2 v_c0_3=some r→RunH C47 (S47 F H ga0 r) H w0 [.c [1,1,1,1,1,1,1,0],.c [1,1,1,1,1,1,1,1]] [(0,pg ga0 0),(4,pg g2 0)] H ((some (g2,.cells #[.bool false,.slice none 0 0,.slice none 0 0] 33 (0,0)))::(some (ga0,.cells #[iv v_c0_0,iv v_c0_1,.slice Av_c0_2 nv_c0_2 cv_c0_2,.slice Av_c0_3 nv_c0_3 cv_c0_3] 25 (0,0)))::chv_c0_2::chv_c0_3::F):=by
 intro ga0 g2 v_c0_0 v_c0_1 v_c0_2 Av_c0_2 nv_c0_2 cv_c0_2 chv_c0_2 v_c0_3 Av_c0_3 nv_c0_3 cv_c0_3 chv_c0_3 hov_c0_2 hnv_c0_2 hov_c0_3 hnv_c0_3 heq
 subst hnv_c0_2
 subst hnv_c0_3
 unfold smithyardref7_find.e1 at heq
 refine Sa 0<|Zk 1 ?_
 refine RgH.does (DoesH.store (k:=0) (g:=g2) (off:=0) (v:=.agg #[.bool true,.slice none 0 0,.slice none 0 0]) (cells':=#[.bool true,.slice none 0 0,.slice none 0 0]) (by kernel_rfl) rfl (by kernel_rfl) (by kernel_rfl)) ?_
 rintro _ _ _ _ ⟨rfl,rfl,rfl⟩
 refine RgH.nrm ?_
 refine Dn<|RunH.nilc ?_
 have ho8:SlOwn Kd.string 9 H none 0 ([]:List ByteArray) none:=SlOwn.nil
 refine RunH.nilc ?_
 have ho9:SlOwn Kd.string 9 H none 0 ([]:List ByteArray) none:=SlOwn.nil
 obtain rfl:=Option.some.inj heq
 refine Up 3 [2,1,0] ?_
 exact RunH.doneM' 1 (vs:=[.agg #[.bool true,.slice none 0 0,.slice none 0 0]]) (v:=.agg #[.bool true,.slice none 0 0,.slice none 0 0]) (by kernel_rfl) Tryz.func47 (fun w hh=>show ResAll _ _ _ [.cell 4 33] _ from ⟨⟨⟨g2,0,none⟩,by kernel_rfl,trS_run _ (vs:=[.bool true,.slice none 0 0,.slice none 0 0]) (r:=[]) (es:=[.load ⟨g2,0,none⟩ (.bool true),.load ⟨g2,1,none⟩ (.slice none 0 0),.load ⟨g2,2,none⟩ (.slice none 0 0)]) (by kernel_rfl) ⟨(hh.box 0 rfl rfl),(hh.box 0 rfl rfl),(hh.box 0 rfl rfl)⟩⟩,trivial⟩) rfl (cs':=none::none::(some (ga0,.cells #[iv v_c0_0,iv v_c0_1,.slice Av_c0_2 v_c0_2.length cv_c0_2,.slice Av_c0_3 v_c0_3.length cv_c0_3] 25 (0,0)))::chv_c0_2::chv_c0_3::F) rfl ⟨none,0,none,none,0,none,Av_c0_2,cv_c0_2,chv_c0_2,Av_c0_3,cv_c0_3,chv_c0_3,rfl,rfl,rfl,ho8,ho9,hov_c0_2,hov_c0_3⟩
theorem smithyardref7_find.l2_c {r:CacheAnswer × Cache} (e1:Int→Int→(List Blob)→(List Entry)→Option (CacheAnswer × Cache))
  (he1:∀ (ga0 g2:Nat) (v_c0_0 v_c0_1:Int) (v_c0_2:List Blob) (Av_c0_2:Option Addr) (nv_c0_2 cv_c0_2:Nat) (chv_c0_2:Ch) (v_c0_3:List Entry) (Av_c0_3:Option Addr) (nv_c0_3 cv_c0_3:Nat) (chv_c0_3:Ch) ,SlOwn kBlob 45 H Av_c0_2 cv_c0_2 v_c0_2 chv_c0_2→nv_c0_2=v_c0_2.length→SlOwn kEntry 47 H Av_c0_3 cv_c0_3 v_c0_3 chv_c0_3→nv_c0_3=v_c0_3.length→e1 v_c0_0 v_c0_1 v_c0_2 v_c0_3=some r→RunH C47 (S47 F H ga0 r) H w0 [.c [1,1,1,1,1,1,1,0],.c [1,1,1,1,1,1,1,1]] [(0,pg ga0 0),(4,pg g2 0)] H ((some (g2,.cells #[.bool false,.slice none 0 0,.slice none 0 0] 33 (0,0)))::(some (ga0,.cells #[iv v_c0_0,iv v_c0_1,.slice Av_c0_2 nv_c0_2 cv_c0_2,.slice Av_c0_3 nv_c0_3 cv_c0_3] 25 (0,0)))::chv_c0_2::chv_c0_3::F)):∀ (k:Nat),∀ (ga0:Nat) (a1:CacheEvent) (Aa1_3:Option Addr) (ca1_3 g1 g2:Nat) (x1:Entry) (A1:Option Addr) (c1:Nat) (v_c0_0 v_c0_1:Int) (v_c0_2:List Blob) (Av_c0_2:Option Addr) (nv_c0_2 cv_c0_2:Nat) (chv_c0_2:Ch) (v_c0_3:List Entry) (Av_c0_3:Option Addr) (nv_c0_3 cv_c0_3:Nat) (chv_c0_3:Ch) (v_i8:Int) ,Rw Kd.string H F Aa1_3 a1.Digests→a1.Digests.length≤ca1_3→Kd.Row Kd.string H A1 x1.Refs→x1.Refs.length≤c1→SlOwn kBlob 45 H Av_c0_2 cv_c0_2 v_c0_2 chv_c0_2→nv_c0_2=v_c0_2.length→SlOwn kEntry 47 H Av_c0_3 cv_c0_3 v_c0_3 chv_c0_3→nv_c0_3=v_c0_3.length→smithyardref7_find.l2 e1 k a1 x1 v_c0_0 v_c0_1 v_c0_2 v_c0_3 v_i8=some r→RunH C47 (S47 F H ga0 r) H w0 [.c [1,1,1,1,1,1,0,1,0,0],.l [1,1,1,1,1,1,0,1,0,0],.b 0,.c [1,1,1,1,1,1,1]] [(0,pg ga0 0),(3,pg g1 0),(4,pg g2 0),(6,.slice A1 x1.Refs.length c1),(8,iv v_i8)] H ((some (g2,.cells #[.bool false,.slice none 0 0,.slice none 0 0] 33 (0,0)))::(some (g1,.cells #[iv a1.Kind,iv a1.At,.string a1.Digest,.slice Aa1_3 a1.Digests.length ca1_3,.string a1.Key,iv a1.Size] 28 (0,0)))::(some (ga0,.cells #[iv v_c0_0,iv v_c0_1,.slice Av_c0_2 nv_c0_2 cv_c0_2,.slice Av_c0_3 nv_c0_3 cv_c0_3] 25 (0,0)))::chv_c0_2::chv_c0_3::F):=by
 intro k
 induction k with
 | zero=>intro ga0 a1 Aa1_3 ca1_3 g1 g2 x1 A1 c1 v_c0_0 v_c0_1 v_c0_2 Av_c0_2 nv_c0_2 cv_c0_2 chv_c0_2 v_c0_3 Av_c0_3 nv_c0_3 cv_c0_3 chv_c0_3 v_i8 hra1_3 hca1_3 hr1 hc1 hov_c0_2 hnv_c0_2 hov_c0_3 hnv_c0_3 heq; exact nomatch (show (none:Option (CacheAnswer × Cache))=some r from heq)
 | succ k ihk =>
  intro ga0 a1 Aa1_3 ca1_3 g1 g2 x1 A1 c1 v_c0_0 v_c0_1 v_c0_2 Av_c0_2 nv_c0_2 cv_c0_2 chv_c0_2 v_c0_3 Av_c0_3 nv_c0_3 cv_c0_3 chv_c0_3 v_i8 hra1_3 hca1_3 hr1 hc1 hov_c0_2 hnv_c0_2 hov_c0_3 hnv_c0_3 heq
  subst hnv_c0_2
  subst hnv_c0_3
  rw [smithyardref7_find.l2] at heq
  refine Sa 2<|Zd 4 ?_
  refine Cb heq ?_ ?_
  ·intro hb3 heq
   refine Sa 4 ?_
   obtain ⟨x3,hx3,heq⟩:=bind_some heq
   obtain ⟨ha4,cs4,hK4,hcc4⟩:=(Rw.of (F:=F) hr1).get hx3
   obtain rfl:cs4=[.string x3]:=hK4
   refine Zv 5 [nx ha4 hx3,er hcc4 5 0] ?_
   obtain ⟨y4,hy4,heq⟩:=bind_some heq
   refine RgH.does (cal 56 (smithyardref7_blob_c (a0:=(⟨v_c0_0,v_c0_1,v_c0_2,v_c0_3⟩:Cache)) hy4 (hov_c0_2.rw (.tail _ (.tail _ (.tail _ (.head _))))) hov_c0_2.cap rfl (hov_c0_3.rw (.tail _ (.tail _ (.tail _ (.tail _ (.head _)))))) hov_c0_3.cap rfl (.inr (.tail _ (.tail _ (.head _)))))) ?_
   rintro _ _ _ _ ⟨_,rfl,rfl,rfl,rfl⟩
   refine Zd 7<|An 1<|Sd 0 10 [] [3,3,3,3,3,3,3,0,3,2]<|Zr [0,1,2,3,4,5,6] 3 [bx 2 2,bx 1 1] (Pk 5 [0,1,2,3,4]) (Pk 5 [0,1,2,3,4]) ?_
   obtain ⟨x4,hx4,heq⟩:=bind_some heq
   obtain ⟨ha5,cs5,hK5,hcc5⟩:=hov_c0_2.get hx4
   obtain ⟨rfl⟩:=kBlob_open hK5
   refine Dz 7 (DoesH.pureop (d:=64) (v:=.pointer (some ((adr Av_c0_2).add (y4.toNat*5)))) (vs:=[]) (evs:=[.need (Av_c0_2=some (adr Av_c0_2)∧(0:Int)≤y4∧y4<((v_c0_2.length:Nat):Int))]) (by kernel_rfl) (fun w hh=>⟨ha5,(at?_some hx4).1,(at?_some hx4).2.1⟩)) ?_
   rintro _ _ _ _ ⟨rfl,rfl,rfl⟩
   refine ⟨fun _ w hh=>⟨fun _=>(Pk 5 [0,1,2,3,4]) w hh,fun _=>(Pk 5 [0,1,2,3,4]) w hh,(fun h=>by cases h)⟩,?_⟩
   refine Zr [8] 1 [] (Pk 5 [0,1,2,3,4]) (Pk 5 [0,1,2,3,4]) ?_
   obtain ⟨ha6,cs6,hK6,hcc6⟩:=hov_c0_2.get hx4
   obtain ⟨rfl⟩:=kBlob_open hK6
   refine Dz 9 (DoesH.storeEl (a:=(((adr Av_c0_2).add (y4.toNat*5)).add 2)) (k:=3) (kd:=kBlob) (c0:=[.string x4.Digest,iv x4.Size,iv x4.Used,iv x4.Until,iv x4.Pins]) (x':=(⟨x4.Digest,x4.Size,a1.At,x4.Until,x4.Pins⟩:Blob)) (o:=2) (ix:=y4) (v:=iv a1.At) (by kernel_rfl) rfl hov_c0_2 hx4 (by kernel_rfl) hcc6 rfl (Nat.le_of_ble_eq_true (by kernel_rfl)) kBlob_mk) ?_
   rintro _ _ _ _ ⟨ch5,rfl,rfl,rfl,ho10⟩
   have hn2:v_c0_2.length=(v_c0_2.set y4.toNat (⟨x4.Digest,x4.Size,a1.At,x4.Until,x4.Pins⟩:Blob)).length:=by rw [List.length_set]
   refine ⟨fun _ w hh=>⟨(fun h=>by cases h),(fun h=>absurd h (by decide)),(fun h=>by cases h)⟩,?_⟩
   refine DrH.nrm ?_
   refine DrH.done (by kernel_rfl) ?_
   refine Sa 0<|Zv 4 [bx 1 1]<|Ug 5 [2,3,4,0,1] ?_
   obtain ⟨y5,hy5,heq⟩:=bind_some heq
   refine RgH.does (cal 70 (smithyardref7_lease_2_c (a0:=(⟨v_c0_0,v_c0_1,(v_c0_2.set y4.toNat (⟨x4.Digest,x4.Size,a1.At,x4.Until,x4.Pins⟩:Blob)),v_c0_3⟩:Cache)) hy5 ho10 hn2 hov_c0_3 rfl)) ?_
   rintro _ _ _ _ ⟨_,rfl,A7,c7,ch6,A8,c8,ch7,rfl,rfl,rfl,ho11,ho12⟩
   refine Dn<|Sa 1<|Zd 3<|An 1 ?_
   exact Gt 5 [3,4,0,1,2] (ihk _ a1 _ _ _ _ x1 _ _ y5.Room y5.Lease y5.Blobs _ _ _ _ y5.Entries _ _ _ _ (w64 (v_i8+1)) hra1_3 hca1_3 hr1 hc1 ho11 rfl ho12 rfl heq)
  ·intro hb3 heq
   refine An 2 ?_
   exact Gt 2 [0] (he1 _ _ v_c0_0 v_c0_1 v_c0_2 _ _ _ _ v_c0_3 _ _ _ _ hov_c0_2 rfl hov_c0_3 rfl heq)
theorem smithyardref7_find_c {ga0:Nat} {a0:Cache} {Aa0_2:Option Addr} {na0_2 ca0_2:Nat} {cha0_2:Ch} {Aa0_3:Option Addr} {na0_3 ca0_3:Nat} {cha0_3:Ch} {a1:CacheEvent} {Aa1_3:Option Addr} {na1_3 ca1_3:Nat} {r:CacheAnswer × Cache} (heq:smithyardref7_find.f a0 a1=some r) (hoa0_2:SlOwn kBlob 45 H Aa0_2 ca0_2 a0.Blobs cha0_2) (hna0_2:na0_2=a0.Blobs.length) (hoa0_3:SlOwn kEntry 47 H Aa0_3 ca0_3 a0.Entries cha0_3) (hna0_3:na0_3=a0.Entries.length) (hra1_3:Rw Kd.string H F Aa1_3 a1.Digests) (hca1_3:na1_3≤ca1_3) (hna1_3:na1_3=a1.Digests.length):CallsH Tryz.prog 47 #[.pointer (some ⟨ga0,0,none⟩),.agg #[iv a1.Kind,iv a1.At,.string a1.Digest,.slice Aa1_3 na1_3 ca1_3,.string a1.Key,iv a1.Size]] H w0 ((some (ga0,.cells #[iv a0.Room,iv a0.Lease,.slice Aa0_2 na0_2 ca0_2,.slice Aa0_3 na0_3 ca0_3] 25 (0,0)))::cha0_2::cha0_3::F) (S47 F H ga0 r):=by
 refine Co C47 Tryz.func47 Tryz.ntmps47 ?_
 subst hna0_2
 subst hna0_3
 subst hna1_3
 unfold smithyardref7_find.f at heq
 refine Sa 1 ?_
 refine RgH.does (DoesH.new (d:=3) (v:=fun g=>.pointer (some ⟨g,0,none⟩)) (o:=fun g=>.cells #[iv a1.Kind,iv a1.At,.string a1.Digest,.slice Aa1_3 a1.Digests.length ca1_3,.string a1.Key,iv a1.Size] 28 (0,0)) (fun g=>by kernel_rfl)) ?_
 rintro _ _ _ _ ⟨g1,rfl,rfl,rfl⟩
 refine RgH.does (DoesH.new (d:=4) (v:=fun g=>.pointer (some ⟨g,0,none⟩)) (o:=fun g=>.cells #[.bool false,.slice none 0 0,.slice none 0 0] 33 (0,0)) (fun g=>by kernel_rfl)) ?_
 rintro _ _ _ _ ⟨g2,rfl,rfl,rfl⟩
 refine Dn<|Sa 1<|Zv 3 [bx 1 4] ?_
 obtain ⟨y1,hy1,heq⟩:=bind_some heq
 refine RgH.does (cal 13 (smithyardref7_entry_c hy1 (hoa0_2.rw (.tail _ (.tail _ (.tail _ (.head _))))) hoa0_2.cap rfl (hoa0_3.rw (.tail _ (.tail _ (.tail _ (.tail _ (.head _)))))) hoa0_3.cap rfl (.inr (.tail _ (.tail _ (.head _)))))) ?_
 rintro _ _ _ _ ⟨_,rfl,rfl,rfl,rfl⟩
 refine Zd 5<|Sa 2<|Zd 2 ?_
 refine Cb heq ?_ ?_
 ·intro hb1 heq
  refine Sa 1<|Zk 1 ?_
  refine RgH.does (DoesH.store (k:=0) (g:=g2) (off:=0) (v:=.agg #[.bool false,.slice none 0 0,.slice none 0 0]) (cells':=#[.bool false,.slice none 0 0,.slice none 0 0]) (by kernel_rfl) rfl (by kernel_rfl) (by kernel_rfl)) ?_
  rintro _ _ _ _ ⟨rfl,rfl,rfl⟩
  refine RgH.nrm ?_
  refine Dn<|RunH.nilc ?_
  have ho1:SlOwn Kd.string 9 H none 0 ([]:List ByteArray) none:=SlOwn.nil
  refine RunH.nilc ?_
  have ho2:SlOwn Kd.string 9 H none 0 ([]:List ByteArray) none:=SlOwn.nil
  obtain rfl:=Option.some.inj heq
  refine Up 4 [2,1,0] ?_
  exact RunH.doneM' 1 (vs:=[.agg #[.bool false,.slice none 0 0,.slice none 0 0]]) (v:=.agg #[.bool false,.slice none 0 0,.slice none 0 0]) (by kernel_rfl) Tryz.func47 (fun w hh=>show ResAll _ _ _ [.cell 4 33] _ from ⟨⟨⟨g2,0,none⟩,by kernel_rfl,trS_run _ (vs:=[.bool false,.slice none 0 0,.slice none 0 0]) (r:=[]) (es:=[.load ⟨g2,0,none⟩ (.bool false),.load ⟨g2,1,none⟩ (.slice none 0 0),.load ⟨g2,2,none⟩ (.slice none 0 0)]) (by kernel_rfl) ⟨(hh.box 0 rfl rfl),(hh.box 0 rfl rfl),(hh.box 0 rfl rfl)⟩⟩,trivial⟩) rfl (cs':=none::none::(some (ga0,.cells #[iv a0.Room,iv a0.Lease,.slice Aa0_2 a0.Blobs.length ca0_2,.slice Aa0_3 a0.Entries.length ca0_3] 25 (0,0)))::cha0_2::cha0_3::F) rfl ⟨none,0,none,none,0,none,Aa0_2,ca0_2,cha0_2,Aa0_3,ca0_3,cha0_3,rfl,rfl,rfl,ho1,ho2,hoa0_2,hoa0_3⟩
 ·intro hb1 heq
  refine Sa 2 ?_
  obtain ⟨x1,hx1,heq⟩:=bind_some heq
  obtain ⟨ha1,cs1,hK1,hcc1⟩:=hoa0_3.get hx1
  obtain ⟨A1,c1,rfl,hc1,hr1⟩:=kEntry_open hK1
  refine Zw 9 [bx 2 3,nx ha1 hx1,el hcc1 4 1]<|Sa 2<|Zk 2 ?_
  obtain ⟨y2,hy2,heq⟩:=bind_some heq
  refine RgH.does (cal 27 (smithyardref7_missing_c hy2 (hoa0_2.rw (.tail _ (.tail _ (.tail _ (.head _))))) hoa0_2.cap rfl (hoa0_3.rw (.tail _ (.tail _ (.tail _ (.tail _ (.head _)))))) hoa0_3.cap rfl (.inr (.tail _ (.tail _ (.head _)))) (Rw.of hr1) hc1 rfl)) ?_
  rintro _ _ _ _ ⟨_,rfl,A2,c2,ch1,rfl,rfl,rfl,ho3⟩
  refine Zd 4<|Sa 1<|Zd 3 ?_
  refine Cb heq ?_ ?_
  ·intro hb2 heq
   refine Sa 1<|Zk 2<|Ug 6 [3,4,5,0,1,2] ?_
   obtain ⟨y3,hy3,heq⟩:=bind_some heq
   refine RgH.does (cal 33 (smithyardref7_removeEntry_c hy3 hoa0_2 rfl hoa0_3 rfl)) ?_
   rintro _ _ _ _ ⟨_,rfl,A3,c3,ch2,A4,c4,ch3,rfl,rfl,rfl,ho4,ho5⟩
   refine Dn<|Sa 1<|Zk 2 ?_
   refine RgH.does (DoesH.store (k:=4) (g:=g2) (off:=0) (v:=.agg #[.bool false,.slice A2 y2.length c2,.slice none 0 0]) (cells':=#[.bool false,.slice A2 y2.length c2,.slice none 0 0]) (by kernel_rfl) rfl (by kernel_rfl) (by kernel_rfl)) ?_
   rintro _ _ _ _ ⟨rfl,rfl,rfl⟩
   refine RgH.nrm ?_
   refine Dn<|RunH.nilc ?_
   have ho6:SlOwn Kd.string 9 H none 0 ([]:List ByteArray) none:=SlOwn.nil
   obtain rfl:=Option.some.inj heq
   refine Up 7 [5,4,0,1,2,3] ?_
   exact RunH.doneM' 1 (vs:=[.agg #[.bool false,.slice A2 y2.length c2,.slice none 0 0]]) (v:=.agg #[.bool false,.slice A2 y2.length c2,.slice none 0 0]) (by kernel_rfl) Tryz.func47 (fun w hh=>show ResAll _ _ _ [.cell 4 33] _ from ⟨⟨⟨g2,0,none⟩,by kernel_rfl,trS_run _ (vs:=[.bool false,.slice A2 y2.length c2,.slice none 0 0]) (r:=[]) (es:=[.load ⟨g2,0,none⟩ (.bool false),.load ⟨g2,1,none⟩ (.slice A2 y2.length c2),.load ⟨g2,2,none⟩ (.slice none 0 0)]) (by kernel_rfl) ⟨(hh.box 0 rfl rfl),(hh.box 0 rfl rfl),(hh.box 0 rfl rfl)⟩⟩,trivial⟩) rfl (cs':=ch1::none::(some (ga0,.cells #[iv y3.Room,iv y3.Lease,.slice A3 y3.Blobs.length c3,.slice A4 y3.Entries.length c4] 25 (0,0)))::ch2::ch3::F) rfl ⟨A2,c2,ch1,none,0,none,A3,c3,ch2,A4,c4,ch3,rfl,rfl,rfl,ho3,ho6,ho4,ho5⟩
  ·intro hb2 heq
   refine An 2<|Sd 0 10 [] [3,3,3,3,3,3,3,0,3,2]<|Zr [0,1,2,3,4,5,6] 3 [bx 3 3,bx 2 1] (Pk 6 [0,1,2,3,4,5]) (Pk 6 [0,1,2,3,4,5]) ?_
   obtain ⟨x2,hx2,heq⟩:=bind_some heq
   obtain ⟨ha2,cs2,hK2,hcc2⟩:=hoa0_3.get hx2
   obtain ⟨A5,c5,rfl,hc2,hr2⟩:=kEntry_open hK2
   refine Dz 7 (DoesH.pureop (d:=43) (v:=.pointer (some ((adr Aa0_3).add (y1.toNat*3)))) (vs:=[]) (evs:=[.need (Aa0_3=some (adr Aa0_3)∧(0:Int)≤y1∧y1<((a0.Entries.length:Nat):Int))]) (by kernel_rfl) (fun w hh=>⟨ha2,(at?_some hx2).1,(at?_some hx2).2.1⟩)) ?_
   rintro _ _ _ _ ⟨rfl,rfl,rfl⟩
   refine ⟨fun _ w hh=>⟨fun _=>(Pk 6 [0,1,2,3,4,5]) w hh,fun _=>(Pk 6 [0,1,2,3,4,5]) w hh,(fun h=>by cases h)⟩,?_⟩
   refine Zr [8] 1 [] (Pk 6 [0,1,2,3,4,5]) (Pk 6 [0,1,2,3,4,5]) ?_
   obtain ⟨ha3,cs3,hK3,hcc3⟩:=hoa0_3.get hx2
   obtain ⟨A6,c6,rfl,hc3,hr3⟩:=kEntry_open hK3
   refine Dz 9 (DoesH.storeEl (a:=(((adr Aa0_3).add (y1.toNat*3)).add 2)) (k:=5) (kd:=kEntry) (c0:=[.string x2.Key,.slice A6 x2.Refs.length c6,iv x2.Used]) (x':=(⟨x2.Key,x2.Refs,a1.At⟩:Entry)) (o:=2) (ix:=y1) (v:=iv a1.At) (by kernel_rfl) rfl hoa0_3 hx2 (by kernel_rfl) hcc3 rfl (Nat.le_of_ble_eq_true (by kernel_rfl)) (kEntry_mk hc3 hr3)) ?_
   rintro _ _ _ _ ⟨ch4,rfl,rfl,rfl,ho7⟩
   have hn1:a0.Entries.length=(a0.Entries.set y1.toNat (⟨x2.Key,x2.Refs,a1.At⟩:Entry)).length:=by rw [List.length_set]
   refine ⟨fun _ w hh=>⟨(fun h=>by cases h),(fun h=>absurd h (by decide)),(fun h=>by cases h)⟩,?_⟩
   refine DrH.nrm ?_
   refine DrH.done (by kernel_rfl) ?_
   refine Sa 2<|Zd 1<|An 2 ?_
   exact Gt 1 [] (((smithyardref7_find.l2_c (e1:=smithyardref7_find.e1) (smithyardref7_find.e1_c)) big) _ a1 _ _ _ _ x1 _ _ a0.Room a0.Lease a0.Blobs _ _ _ _ (a0.Entries.set y1.toNat (⟨x2.Key,x2.Refs,a1.At⟩:Entry)) _ _ _ _ 0 hra1_3 hca1_3 hr1 hc1 hoa0_2 rfl ho7 hn1 heq)
noncomputable def C48:Ctx:={ P:=Tryz.prog,f:=48,N:=76,c:=bodyOf Tryz.f48 }
def S48 (F:List Ch) (H0:Hp) (ga0:Nat) (r:CacheAnswer × Cache) (v:Value) (H:Hp) (cs:List Ch):Prop:=∃ (A0_1:Option Addr) (c0_1:Nat) (ch0_1:Ch) (A0_2:Option Addr) (c0_2:Nat) (ch0_2:Ch) (A1_2:Option Addr) (c1_2:Nat) (ch1_2:Ch) (A1_3:Option Addr) (c1_3:Nat) (ch1_3:Ch),H0=H∧v=.agg #[.bool r.1.Done,.slice A0_1 r.1.Missing.length c0_1,.slice A0_2 r.1.Gone.length c0_2]∧ch0_1::ch0_2::some (ga0,.cells #[iv r.2.Room,iv r.2.Lease,.slice A1_2 r.2.Blobs.length c1_2,.slice A1_3 r.2.Entries.length c1_3] 25 (0,0))::ch1_2::ch1_3::F=cs∧SlOwn Kd.string 9 H A0_1 c0_1 r.1.Missing ch0_1∧SlOwn Kd.string 9 H A0_2 c0_2 r.1.Gone ch0_2∧SlOwn kBlob 45 H A1_2 c1_2 r.2.Blobs ch1_2∧SlOwn kEntry 47 H A1_3 c1_3 r.2.Entries ch1_3
theorem smithyardref7_one.j1_c {r:CacheAnswer × Cache}:∀ (ga0 g2:Nat) (v_c0_0 v_c0_1:Int) (v_c0_2:List Blob) (Av_c0_2:Option Addr) (nv_c0_2 cv_c0_2:Nat) (chv_c0_2:Ch) (v_c0_3:List Entry) (Av_c0_3:Option Addr) (nv_c0_3 cv_c0_3:Nat) (chv_c0_3:Ch) ,SlOwn kBlob 45 H Av_c0_2 cv_c0_2 v_c0_2 chv_c0_2→nv_c0_2=v_c0_2.length→SlOwn kEntry 47 H Av_c0_3 cv_c0_3 v_c0_3 chv_c0_3→nv_c0_3=v_c0_3.length→smithyardref7_one.j1 v_c0_0 v_c0_1 v_c0_2 v_c0_3=some r→RunH C48 (S48 F H ga0 r) H w0 [.c [1,1,1,1,1,0],.c [1,1,1,1,1,1]] [(0,pg ga0 0),(4,pg g2 0)] H ((some (g2,.cells #[.bool false,.slice none 0 0,.slice none 0 0] 33 (0,0)))::(some (ga0,.cells #[iv v_c0_0,iv v_c0_1,.slice Av_c0_2 nv_c0_2 cv_c0_2,.slice Av_c0_3 nv_c0_3 cv_c0_3] 25 (0,0)))::chv_c0_2::chv_c0_3::F):=by
 intro ga0 g2 v_c0_0 v_c0_1 v_c0_2 Av_c0_2 nv_c0_2 cv_c0_2 chv_c0_2 v_c0_3 Av_c0_3 nv_c0_3 cv_c0_3 chv_c0_3 hov_c0_2 hnv_c0_2 hov_c0_3 hnv_c0_3 heq
 subst hnv_c0_2
 subst hnv_c0_3
 unfold smithyardref7_one.j1 at heq
 refine Sa 0<|Zk 1 ?_
 refine RgH.does (DoesH.store (k:=0) (g:=g2) (off:=0) (v:=.agg #[.bool true,.slice none 0 0,.slice none 0 0]) (cells':=#[.bool true,.slice none 0 0,.slice none 0 0]) (by kernel_rfl) rfl (by kernel_rfl) (by kernel_rfl)) ?_
 rintro _ _ _ _ ⟨rfl,rfl,rfl⟩
 refine RgH.nrm ?_
 refine Dn<|RunH.nilc ?_
 have ho3:SlOwn Kd.string 9 H none 0 ([]:List ByteArray) none:=SlOwn.nil
 refine RunH.nilc ?_
 have ho4:SlOwn Kd.string 9 H none 0 ([]:List ByteArray) none:=SlOwn.nil
 obtain rfl:=Option.some.inj heq
 refine Up 3 [2,1,0] ?_
 exact RunH.doneM' 1 (vs:=[.agg #[.bool true,.slice none 0 0,.slice none 0 0]]) (v:=.agg #[.bool true,.slice none 0 0,.slice none 0 0]) (by kernel_rfl) Tryz.func48 (fun w hh=>show ResAll _ _ _ [.cell 4 33] _ from ⟨⟨⟨g2,0,none⟩,by kernel_rfl,trS_run _ (vs:=[.bool true,.slice none 0 0,.slice none 0 0]) (r:=[]) (es:=[.load ⟨g2,0,none⟩ (.bool true),.load ⟨g2,1,none⟩ (.slice none 0 0),.load ⟨g2,2,none⟩ (.slice none 0 0)]) (by kernel_rfl) ⟨(hh.box 0 rfl rfl),(hh.box 0 rfl rfl),(hh.box 0 rfl rfl)⟩⟩,trivial⟩) rfl (cs':=none::none::(some (ga0,.cells #[iv v_c0_0,iv v_c0_1,.slice Av_c0_2 v_c0_2.length cv_c0_2,.slice Av_c0_3 v_c0_3.length cv_c0_3] 25 (0,0)))::chv_c0_2::chv_c0_3::F) rfl ⟨none,0,none,none,0,none,Av_c0_2,cv_c0_2,chv_c0_2,Av_c0_3,cv_c0_3,chv_c0_3,rfl,rfl,rfl,ho3,ho4,hov_c0_2,hov_c0_3⟩
theorem smithyardref7_one_c {ga0:Nat} {a0:Cache} {Aa0_2:Option Addr} {na0_2 ca0_2:Nat} {cha0_2:Ch} {Aa0_3:Option Addr} {na0_3 ca0_3:Nat} {cha0_3:Ch} {a1:CacheEvent} {Aa1_3:Option Addr} {na1_3 ca1_3:Nat} {r:CacheAnswer × Cache} (heq:smithyardref7_one.f a0 a1=some r) (hoa0_2:SlOwn kBlob 45 H Aa0_2 ca0_2 a0.Blobs cha0_2) (hna0_2:na0_2=a0.Blobs.length) (hoa0_3:SlOwn kEntry 47 H Aa0_3 ca0_3 a0.Entries cha0_3) (hna0_3:na0_3=a0.Entries.length) (hra1_3:Rw Kd.string H F Aa1_3 a1.Digests) (hca1_3:na1_3≤ca1_3) (hna1_3:na1_3=a1.Digests.length):CallsH Tryz.prog 48 #[.pointer (some ⟨ga0,0,none⟩),.agg #[iv a1.Kind,iv a1.At,.string a1.Digest,.slice Aa1_3 na1_3 ca1_3,.string a1.Key,iv a1.Size]] H w0 ((some (ga0,.cells #[iv a0.Room,iv a0.Lease,.slice Aa0_2 na0_2 ca0_2,.slice Aa0_3 na0_3 ca0_3] 25 (0,0)))::cha0_2::cha0_3::F) (S48 F H ga0 r):=by
 refine Co C48 Tryz.func48 Tryz.ntmps48 ?_
 subst hna0_2
 subst hna0_3
 subst hna1_3
 unfold smithyardref7_one.f at heq
 refine Sa 1 ?_
 refine RgH.does (DoesH.new (d:=3) (v:=fun g=>.pointer (some ⟨g,0,none⟩)) (o:=fun g=>.cells #[iv a1.Kind,iv a1.At,.string a1.Digest,.slice Aa1_3 a1.Digests.length ca1_3,.string a1.Key,iv a1.Size] 28 (0,0)) (fun g=>by kernel_rfl)) ?_
 rintro _ _ _ _ ⟨g1,rfl,rfl,rfl⟩
 refine RgH.does (DoesH.new (d:=4) (v:=fun g=>.pointer (some ⟨g,0,none⟩)) (o:=fun g=>.cells #[.bool false,.slice none 0 0,.slice none 0 0] 33 (0,0)) (fun g=>by kernel_rfl)) ?_
 rintro _ _ _ _ ⟨g2,rfl,rfl,rfl⟩
 refine Dn<|Sa 1<|Zv 3 [bx 1 2] ?_
 obtain ⟨y1,hy1,heq⟩:=bind_some heq
 refine RgH.does (cal 10 (smithyardref7_blob_c hy1 (hoa0_2.rw (.tail _ (.tail _ (.tail _ (.head _))))) hoa0_2.cap rfl (hoa0_3.rw (.tail _ (.tail _ (.tail _ (.tail _ (.head _)))))) hoa0_3.cap rfl (.inr (.tail _ (.tail _ (.head _)))))) ?_
 rintro _ _ _ _ ⟨_,rfl,rfl,rfl,rfl⟩
 refine Zd 5<|Sa 2<|Zd 2 ?_
 refine Cb heq ?_ ?_
 ·intro hb1 heq
  refine Sa 1<|Zk 1 ?_
  refine RgH.does (DoesH.store (k:=0) (g:=g2) (off:=0) (v:=.agg #[.bool false,.slice none 0 0,.slice none 0 0]) (cells':=#[.bool false,.slice none 0 0,.slice none 0 0]) (by kernel_rfl) rfl (by kernel_rfl) (by kernel_rfl)) ?_
  rintro _ _ _ _ ⟨rfl,rfl,rfl⟩
  refine RgH.nrm ?_
  refine Dn<|RunH.nilc ?_
  have ho1:SlOwn Kd.string 9 H none 0 ([]:List ByteArray) none:=SlOwn.nil
  refine RunH.nilc ?_
  have ho2:SlOwn Kd.string 9 H none 0 ([]:List ByteArray) none:=SlOwn.nil
  obtain rfl:=Option.some.inj heq
  refine Up 4 [2,1,0] ?_
  exact RunH.doneM' 1 (vs:=[.agg #[.bool false,.slice none 0 0,.slice none 0 0]]) (v:=.agg #[.bool false,.slice none 0 0,.slice none 0 0]) (by kernel_rfl) Tryz.func48 (fun w hh=>show ResAll _ _ _ [.cell 4 33] _ from ⟨⟨⟨g2,0,none⟩,by kernel_rfl,trS_run _ (vs:=[.bool false,.slice none 0 0,.slice none 0 0]) (r:=[]) (es:=[.load ⟨g2,0,none⟩ (.bool false),.load ⟨g2,1,none⟩ (.slice none 0 0),.load ⟨g2,2,none⟩ (.slice none 0 0)]) (by kernel_rfl) ⟨(hh.box 0 rfl rfl),(hh.box 0 rfl rfl),(hh.box 0 rfl rfl)⟩⟩,trivial⟩) rfl (cs':=none::none::(some (ga0,.cells #[iv a0.Room,iv a0.Lease,.slice Aa0_2 a0.Blobs.length ca0_2,.slice Aa0_3 a0.Entries.length ca0_3] 25 (0,0)))::cha0_2::cha0_3::F) rfl ⟨none,0,none,none,0,none,Aa0_2,ca0_2,cha0_2,Aa0_3,ca0_3,cha0_3,rfl,rfl,rfl,ho1,ho2,hoa0_2,hoa0_3⟩
 ·intro hb1 heq
  refine Sa 2 ?_
  obtain ⟨x1,hx1,heq⟩:=bind_some heq
  obtain ⟨ha1,cs1,hK1,hcc1⟩:=hoa0_2.get hx1
  obtain ⟨rfl⟩:=kBlob_open hK1
  refine Zw 7 [bx 2 2,nx ha1 hx1]<|Sa 2<|Zw 2 [bx 1 0]<|Sa 2<|Zd 2 ?_
  refine Cb heq ?_ ?_
  ·intro hb2 heq
   refine Sa 1<|Zv 5 [bx 1 1] ?_
   obtain ⟨x2,hx2,heq⟩:=bind_some heq
   obtain ⟨ha2,cs2,hK2,hcc2⟩:=hoa0_2.get hx2
   obtain ⟨rfl⟩:=kBlob_open hK2
   refine RgH.does (DoesH.storeEl (a:=(((adr Aa0_2).add (y1.toNat*5)).add 2)) (k:=3) (kd:=kBlob) (c0:=[.string x2.Digest,iv x2.Size,iv x2.Used,iv x2.Until,iv x2.Pins]) (x':=(⟨x2.Digest,x2.Size,a1.At,x2.Until,x2.Pins⟩:Blob)) (o:=2) (ix:=y1) (v:=iv a1.At) (by kernel_rfl) rfl hoa0_2 hx2 (by kernel_rfl) hcc2 rfl (Nat.le_of_ble_eq_true (by kernel_rfl)) kBlob_mk) ?_
   rintro _ _ _ _ ⟨ch1,rfl,rfl,rfl,ho5⟩
   have hn1:a0.Blobs.length=(a0.Blobs.set y1.toNat (⟨x2.Digest,x2.Size,a1.At,x2.Until,x2.Pins⟩:Blob)).length:=by rw [List.length_set]
   refine RgH.nrm ?_
   refine Dn<|Sa 0<|Zv 4 [bx 1 1]<|Ug 5 [2,3,4,0,1] ?_
   obtain ⟨y2,hy2,heq⟩:=bind_some heq
   refine RgH.does (cal 33 (smithyardref7_lease_2_c (a0:=(⟨a0.Room,a0.Lease,(a0.Blobs.set y1.toNat (⟨x2.Digest,x2.Size,a1.At,x2.Until,x2.Pins⟩:Blob)),a0.Entries⟩:Cache)) hy2 ho5 hn1 hoa0_3 rfl)) ?_
   rintro _ _ _ _ ⟨_,rfl,A1,c1,ch2,A2,c2,ch3,rfl,rfl,rfl,ho6,ho7⟩
   refine Dn<|An 2 ?_
   exact Gt 5 [3,0,1,2] ((smithyardref7_one.j1_c) _ _ y2.Room y2.Lease y2.Blobs _ _ _ _ y2.Entries _ _ _ _ ho6 rfl ho7 rfl heq)
  ·intro hb2 heq
   refine Sa 1<|Zd 2 ?_
   refine Cb heq ?_ ?_
   ·intro hb3 heq
    refine Sa 0 ?_
    obtain ⟨x3,hx3,heq⟩:=bind_some heq
    obtain ⟨ha3,cs3,hK3,hcc3⟩:=hoa0_2.get hx3
    obtain ⟨rfl⟩:=kBlob_open hK3
    refine Zv 7 [el hcc3 3 4] ?_
    obtain ⟨ha4,cs4,hK4,hcc4⟩:=hoa0_2.get hx3
    obtain ⟨rfl⟩:=kBlob_open hK4
    refine RgH.does (DoesH.storeEl (a:=(((adr Aa0_2).add (y1.toNat*5)).add 4)) (k:=3) (kd:=kBlob) (c0:=[.string x3.Digest,iv x3.Size,iv x3.Used,iv x3.Until,iv x3.Pins]) (x':=(⟨x3.Digest,x3.Size,x3.Used,x3.Until,w64 (x3.Pins+1)⟩:Blob)) (o:=4) (ix:=y1) (v:=iv (w64 (x3.Pins+1))) (by kernel_rfl) rfl hoa0_2 hx3 (by kernel_rfl) hcc4 rfl (Nat.le_of_ble_eq_true (by kernel_rfl)) kBlob_mk) ?_
    rintro _ _ _ _ ⟨ch4,rfl,rfl,rfl,ho8⟩
    have hn2:a0.Blobs.length=(a0.Blobs.set y1.toNat (⟨x3.Digest,x3.Size,x3.Used,x3.Until,w64 (x3.Pins+1)⟩:Blob)).length:=by rw [List.length_set]
    refine RgH.nrm ?_
    refine Dn<|An 2 ?_
    exact Gt 2 [0] ((smithyardref7_one.j1_c) _ _ a0.Room a0.Lease (a0.Blobs.set y1.toNat (⟨x3.Digest,x3.Size,x3.Used,x3.Until,w64 (x3.Pins+1)⟩:Blob)) _ _ _ _ a0.Entries _ _ _ _ ho8 hn2 hoa0_3 rfl heq)
   ·intro hb3 heq
    refine Sa 1<|Zd 2 ?_
    refine Cb heq ?_ ?_
    ·intro hb4 heq
     refine Sa 2 ?_
     obtain ⟨x4,hx4,heq⟩:=bind_some heq
     obtain ⟨ha5,cs5,hK5,hcc5⟩:=hoa0_2.get hx4
     obtain ⟨rfl⟩:=kBlob_open hK5
     refine Zw 5 [el hcc5 3 4] ?_
     refine Cb heq ?_ ?_
     ·intro hb5 heq
      refine Sa 1<|Zk 1 ?_
      refine RgH.does (DoesH.store (k:=0) (g:=g2) (off:=0) (v:=.agg #[.bool false,.slice none 0 0,.slice none 0 0]) (cells':=#[.bool false,.slice none 0 0,.slice none 0 0]) (by kernel_rfl) rfl (by kernel_rfl) (by kernel_rfl)) ?_
      rintro _ _ _ _ ⟨rfl,rfl,rfl⟩
      refine RgH.nrm ?_
      refine Dn<|RunH.nilc ?_
      have ho9:SlOwn Kd.string 9 H none 0 ([]:List ByteArray) none:=SlOwn.nil
      refine RunH.nilc ?_
      have ho10:SlOwn Kd.string 9 H none 0 ([]:List ByteArray) none:=SlOwn.nil
      obtain rfl:=Option.some.inj heq
      refine Up 4 [2,1,0] ?_
      exact RunH.doneM' 1 (vs:=[.agg #[.bool false,.slice none 0 0,.slice none 0 0]]) (v:=.agg #[.bool false,.slice none 0 0,.slice none 0 0]) (by kernel_rfl) Tryz.func48 (fun w hh=>show ResAll _ _ _ [.cell 4 33] _ from ⟨⟨⟨g2,0,none⟩,by kernel_rfl,trS_run _ (vs:=[.bool false,.slice none 0 0,.slice none 0 0]) (r:=[]) (es:=[.load ⟨g2,0,none⟩ (.bool false),.load ⟨g2,1,none⟩ (.slice none 0 0),.load ⟨g2,2,none⟩ (.slice none 0 0)]) (by kernel_rfl) ⟨(hh.box 0 rfl rfl),(hh.box 0 rfl rfl),(hh.box 0 rfl rfl)⟩⟩,trivial⟩) rfl (cs':=none::none::(some (ga0,.cells #[iv a0.Room,iv a0.Lease,.slice Aa0_2 a0.Blobs.length ca0_2,.slice Aa0_3 a0.Entries.length ca0_3] 25 (0,0)))::cha0_2::cha0_3::F) rfl ⟨none,0,none,none,0,none,Aa0_2,ca0_2,cha0_2,Aa0_3,ca0_3,cha0_3,rfl,rfl,rfl,ho9,ho10,hoa0_2,hoa0_3⟩
     ·intro hb5 heq
      refine Sa 1 ?_
      obtain ⟨x5,hx5,heq⟩:=bind_some heq
      obtain ⟨ha6,cs6,hK6,hcc6⟩:=hoa0_2.get hx5
      obtain ⟨rfl⟩:=kBlob_open hK6
      refine Zv 7 [el hcc6 3 4] ?_
      obtain ⟨ha7,cs7,hK7,hcc7⟩:=hoa0_2.get hx5
      obtain ⟨rfl⟩:=kBlob_open hK7
      refine RgH.does (DoesH.storeEl (a:=(((adr Aa0_2).add (y1.toNat*5)).add 4)) (k:=3) (kd:=kBlob) (c0:=[.string x5.Digest,iv x5.Size,iv x5.Used,iv x5.Until,iv x5.Pins]) (x':=(⟨x5.Digest,x5.Size,x5.Used,x5.Until,w64 (x5.Pins - 1)⟩:Blob)) (o:=4) (ix:=y1) (v:=iv (w64 (x5.Pins - 1))) (by kernel_rfl) rfl hoa0_2 hx5 (by kernel_rfl) hcc7 rfl (Nat.le_of_ble_eq_true (by kernel_rfl)) kBlob_mk) ?_
      rintro _ _ _ _ ⟨ch5,rfl,rfl,rfl,ho11⟩
      have hn3:a0.Blobs.length=(a0.Blobs.set y1.toNat (⟨x5.Digest,x5.Size,x5.Used,x5.Until,w64 (x5.Pins - 1)⟩:Blob)).length:=by rw [List.length_set]
      refine RgH.nrm ?_
      refine Dn<|An 2 ?_
      exact Gt 2 [0] ((smithyardref7_one.j1_c) _ _ a0.Room a0.Lease (a0.Blobs.set y1.toNat (⟨x5.Digest,x5.Size,x5.Used,x5.Until,w64 (x5.Pins - 1)⟩:Blob)) _ _ _ _ a0.Entries _ _ _ _ ho11 hn3 hoa0_3 rfl heq)
    ·intro hb4 heq
     refine Sa 1<|Zd 2 ?_
     refine Cb heq ?_ ?_
     ·intro hb6 heq
      refine An 2<|Sd 0 6 [] [3,3,3,3,3,0] ?_
      obtain ⟨x6,hx6,heq⟩:=bind_some heq
      obtain ⟨ha8,cs8,hK8,hcc8⟩:=hoa0_2.get hx6
      obtain ⟨rfl⟩:=kBlob_open hK8
      refine Zr [0,1,2,3,4] 1 (els hcc8 3++[bx 1 1]) (Pk 5 [0,1,2,3,4]) (Pk 5 [0,1,2,3,4]) ?_
      obtain ⟨y3,hy3,heq⟩:=bind_some heq
      refine Dz 5 (cal 65 (smithyardref7_held_c hy3 )) ?_
      rintro _ _ _ _ ⟨_,rfl,rfl,rfl,rfl⟩
      refine ⟨fun _ w hh=>⟨fun _=>(Pk 5 [0,1,2,3,4]) w hh,fun _=>(Pk 5 [0,1,2,3,4]) w hh,(fun h=>by cases h)⟩,?_⟩
      refine DrH.done (by kernel_rfl) ?_
      refine Cb heq ?_ ?_
      ·intro hb7 heq
       refine Sa 1<|Zk 1 ?_
       refine RgH.does (DoesH.store (k:=0) (g:=g2) (off:=0) (v:=.agg #[.bool false,.slice none 0 0,.slice none 0 0]) (cells':=#[.bool false,.slice none 0 0,.slice none 0 0]) (by kernel_rfl) rfl (by kernel_rfl) (by kernel_rfl)) ?_
       rintro _ _ _ _ ⟨rfl,rfl,rfl⟩
       refine RgH.nrm ?_
       refine Dn<|RunH.nilc ?_
       have ho12:SlOwn Kd.string 9 H none 0 ([]:List ByteArray) none:=SlOwn.nil
       refine RunH.nilc ?_
       have ho13:SlOwn Kd.string 9 H none 0 ([]:List ByteArray) none:=SlOwn.nil
       obtain rfl:=Option.some.inj heq
       refine Up 4 [2,1,0] ?_
       exact RunH.doneM' 1 (vs:=[.agg #[.bool false,.slice none 0 0,.slice none 0 0]]) (v:=.agg #[.bool false,.slice none 0 0,.slice none 0 0]) (by kernel_rfl) Tryz.func48 (fun w hh=>show ResAll _ _ _ [.cell 4 33] _ from ⟨⟨⟨g2,0,none⟩,by kernel_rfl,trS_run _ (vs:=[.bool false,.slice none 0 0,.slice none 0 0]) (r:=[]) (es:=[.load ⟨g2,0,none⟩ (.bool false),.load ⟨g2,1,none⟩ (.slice none 0 0),.load ⟨g2,2,none⟩ (.slice none 0 0)]) (by kernel_rfl) ⟨(hh.box 0 rfl rfl),(hh.box 0 rfl rfl),(hh.box 0 rfl rfl)⟩⟩,trivial⟩) rfl (cs':=none::none::(some (ga0,.cells #[iv a0.Room,iv a0.Lease,.slice Aa0_2 a0.Blobs.length ca0_2,.slice Aa0_3 a0.Entries.length ca0_3] 25 (0,0)))::cha0_2::cha0_3::F) rfl ⟨none,0,none,none,0,none,Aa0_2,ca0_2,cha0_2,Aa0_3,ca0_3,cha0_3,rfl,rfl,rfl,ho12,ho13,hoa0_2,hoa0_3⟩
      ·intro hb7 heq
       refine Sa 2<|Zv 3 [bx 1 2]<|Ug 5 [2,3,4,0,1] ?_
       obtain ⟨y4,hy4,heq⟩:=bind_some heq
       refine RgH.does (cal 70 (smithyardref7_drop_3_c hy4 hoa0_2 rfl hoa0_3 rfl)) ?_
       rintro _ _ _ _ ⟨_,rfl,A3,c3,ch6,A4,c4,ch7,rfl,rfl,rfl,ho14,ho15⟩
       refine Dn<|Sa 1<|Zv 2 [bx 4 2] ?_
       refine RgH.does (DoesH.new (d:=73) (v:=fun g=>.slice (some ⟨g,0,none⟩) 1 1) (o:=fun g=>.cells #[.string a1.Digest] 9 (0,0)) (fun g=>by kernel_rfl)) ?_
       rintro _ _ _ _ ⟨g3,rfl,rfl,rfl⟩
       have ho16:SlOwn Kd.string 9 H (some ⟨g3,0,none⟩) 1 ([a1.Digest]:List ByteArray) (some (g3,.cells #[.string a1.Digest] 9 (0,0))):=SlOwn.lit (xs:=([a1.Digest]:List ByteArray)) (by kernel_rfl) (Nat.le_of_ble_eq_true (by kernel_rfl)) (Kd.Rep.scalars rfl)
       refine Zk 4 ?_
       refine RgH.does (DoesH.store (k:=4) (g:=g2) (off:=0) (v:=.agg #[.bool true,.slice none 0 0,.slice (some ⟨g3,0,none⟩) 1 1]) (cells':=#[.bool true,.slice none 0 0,.slice (some ⟨g3,0,none⟩) 1 1]) (by kernel_rfl) rfl (by kernel_rfl) (by kernel_rfl)) ?_
       rintro _ _ _ _ ⟨rfl,rfl,rfl⟩
       refine RgH.nrm ?_
       refine Dn<|RunH.nilc ?_
       have ho17:SlOwn Kd.string 9 H none 0 ([]:List ByteArray) none:=SlOwn.nil
       obtain rfl:=Option.some.inj heq
       refine Up 7 [5,0,1,2,3,4] ?_
       exact RunH.doneM' 1 (vs:=[.agg #[.bool true,.slice none 0 0,.slice (some ⟨g3,0,none⟩) 1 1]]) (v:=.agg #[.bool true,.slice none 0 0,.slice (some ⟨g3,0,none⟩) 1 1]) (by kernel_rfl) Tryz.func48 (fun w hh=>show ResAll _ _ _ [.cell 4 33] _ from ⟨⟨⟨g2,0,none⟩,by kernel_rfl,trS_run _ (vs:=[.bool true,.slice none 0 0,.slice (some ⟨g3,0,none⟩) 1 1]) (r:=[]) (es:=[.load ⟨g2,0,none⟩ (.bool true),.load ⟨g2,1,none⟩ (.slice none 0 0),.load ⟨g2,2,none⟩ (.slice (some ⟨g3,0,none⟩) 1 1)]) (by kernel_rfl) ⟨(hh.box 0 rfl rfl),(hh.box 0 rfl rfl),(hh.box 0 rfl rfl)⟩⟩,trivial⟩) rfl (cs':=none::(some (g3,.cells #[.string a1.Digest] 9 (0,0)))::(some (ga0,.cells #[iv y4.Room,iv y4.Lease,.slice A3 y4.Blobs.length c3,.slice A4 y4.Entries.length c4] 25 (0,0)))::ch6::ch7::F) rfl ⟨none,0,none,some ⟨g3,0,none⟩,1,(some (g3,.cells #[.string a1.Digest] 9 (0,0))),A3,c3,ch6,A4,c4,ch7,rfl,rfl,rfl,ho17,ho16,ho14,ho15⟩
     ·intro hb6 heq
      refine An 3 ?_
      exact Gt 2 [0] ((smithyardref7_one.j1_c) _ _ a0.Room a0.Lease a0.Blobs _ _ _ _ a0.Entries _ _ _ _ hoa0_2 rfl hoa0_3 rfl heq)
noncomputable def C19:Ctx:={ P:=Tryz.prog,f:=19,N:=41,c:=bodyOf Tryz.f19 }
def S19 (F:List Ch) (H0:Hp) (ga0:Nat) (r:CacheAnswer × Int × Cache) (v:Value) (H:Hp) (cs:List Ch):Prop:=∃ (A0_1:Option Addr) (c0_1:Nat) (ch0_1:Ch) (A0_2:Option Addr) (c0_2:Nat) (ch0_2:Ch) (A2_2:Option Addr) (c2_2:Nat) (ch2_2:Ch) (A2_3:Option Addr) (c2_3:Nat) (ch2_3:Ch),v=.tuple #[.agg #[.bool r.1.Done,.slice A0_1 r.1.Missing.length c0_1,.slice A0_2 r.1.Gone.length c0_2],iv r.2.1]∧ch0_1::ch0_2::some (ga0,.cells #[iv r.2.2.Room,iv r.2.2.Lease,.slice A2_2 r.2.2.Blobs.length c2_2,.slice A2_3 r.2.2.Entries.length c2_3] 25 (0,0))::ch2_2::ch2_3::F=cs∧SlOwn Kd.string 9 H A0_1 c0_1 r.1.Missing ch0_1∧SlOwn Kd.string 9 H A0_2 c0_2 r.1.Gone ch0_2∧SlOwn kBlob 45 H A2_2 c2_2 r.2.2.Blobs ch2_2∧SlOwn kEntry 47 H A2_3 c2_3 r.2.2.Entries ch2_3
theorem smithyardref7_do_c {ga0:Nat} {a0:Cache} {Aa0_2:Option Addr} {na0_2 ca0_2:Nat} {cha0_2:Ch} {Aa0_3:Option Addr} {na0_3 ca0_3:Nat} {cha0_3:Ch} {a1:CacheEvent} {Aa1_3:Option Addr} {na1_3 ca1_3:Nat} {r:CacheAnswer × Int × Cache} (heq:smithyardref7_do.f a0 a1=some r) (hoa0_2:SlOwn kBlob 45 H0 Aa0_2 ca0_2 a0.Blobs cha0_2) (hna0_2:na0_2=a0.Blobs.length) (hoa0_3:SlOwn kEntry 47 H0 Aa0_3 ca0_3 a0.Entries cha0_3) (hna0_3:na0_3=a0.Entries.length) (hra1_3:Rw Kd.string H0 F Aa1_3 a1.Digests) (hca1_3:na1_3≤ca1_3) (hna1_3:na1_3=a1.Digests.length):CallsH Tryz.prog 19 #[.pointer (some ⟨ga0,0,none⟩),.agg #[iv a1.Kind,iv a1.At,.string a1.Digest,.slice Aa1_3 na1_3 ca1_3,.string a1.Key,iv a1.Size]] H0 w0 ((some (ga0,.cells #[iv a0.Room,iv a0.Lease,.slice Aa0_2 na0_2 ca0_2,.slice Aa0_3 na0_3 ca0_3] 25 (0,0)))::cha0_2::cha0_3::F) (S19 F H0 ga0 r):=by
 refine Co C19 Tryz.func19 Tryz.ntmps19 ?_
 subst hna0_2
 subst hna0_3
 subst hna1_3
 unfold smithyardref7_do.f at heq
 suffices key:∀ (H:Hp),SlOwn kBlob 45 H Aa0_2 ca0_2 a0.Blobs cha0_2→SlOwn kEntry 47 H Aa0_3 ca0_3 a0.Entries cha0_3→Rw Kd.string H F Aa1_3 a1.Digests→RunH C19 (S19 F H0 ga0 r) H0 w0 [.c []] (argL 0 [.pointer (some ⟨ga0,0,none⟩),.agg #[iv a1.Kind,iv a1.At,.string a1.Digest,.slice Aa1_3 (a1.Digests.length) ca1_3,.string a1.Key,iv a1.Size]]) H ((some (ga0,.cells #[iv a0.Room,iv a0.Lease,.slice Aa0_2 (a0.Blobs.length) ca0_2,.slice Aa0_3 (a0.Entries.length) ca0_3] 25 (0,0)))::cha0_2::cha0_3::F) from key H0 hoa0_2 hoa0_3 hra1_3
 intro H hoa0_2 hoa0_3 hra1_3
 refine Sa 1 ?_
 refine RgH.does (DoesH.new (d:=3) (v:=fun g=>.pointer (some ⟨g,0,none⟩)) (o:=fun g=>.cells #[iv a1.Kind,iv a1.At,.string a1.Digest,.slice Aa1_3 a1.Digests.length ca1_3,.string a1.Key,iv a1.Size] 28 (0,0)) (fun g=>by kernel_rfl)) ?_
 rintro _ _ _ _ ⟨g1,rfl,rfl,rfl⟩
 refine RgH.does (DoesH.new (d:=4) (v:=fun g=>.pointer (some ⟨g,0,none⟩)) (o:=fun g=>.cells #[.bool false,.slice none 0 0,.slice none 0 0] 33 (0,0)) (fun g=>by kernel_rfl)) ?_
 rintro _ _ _ _ ⟨g2,rfl,rfl,rfl⟩
 refine Zd 3<|Sa 2<|Zv 2 (bxs 1) ?_
 obtain ⟨y1,hy1,heq⟩:=bind_some heq
 refine RgH.does (cal 9 (smithyardref7_checkEvent_c hy1 (hoa0_2.rw (.tail _ (.tail _ (.tail _ (.head _))))) hoa0_2.cap rfl (hoa0_3.rw (.tail _ (.tail _ (.tail _ (.tail _ (.head _)))))) hoa0_3.cap rfl (.inr (.tail _ (.tail _ (.head _)))) (hra1_3.wk (fun _ h=>(.tail _ (.tail _ (.tail _ (.tail _ (.tail _ h))))))) hca1_3 rfl)) ?_
 rintro _ _ _ _ ⟨_,rfl,rfl,rfl,rfl⟩
 refine Zd 4<|Sa 1<|Zd 2 ?_
 refine Cb heq ?_ ?_
 ·intro hb1 heq
  refine Sa 1<|Zk 2 ?_
  refine RgH.does (DoesH.store (k:=0) (g:=g2) (off:=0) (v:=.agg #[.bool false,.slice none 0 0,.slice none 0 0]) (cells':=#[.bool false,.slice none 0 0,.slice none 0 0]) (by kernel_rfl) rfl (by kernel_rfl) (by kernel_rfl)) ?_
  rintro _ _ _ _ ⟨rfl,rfl,rfl⟩
  refine RgH.nrm ?_
  refine Zd 4<|RunH.nilc ?_
  have ho1:SlOwn Kd.string 9 H none 0 ([]:List ByteArray) none:=SlOwn.nil
  refine RunH.nilc ?_
  have ho2:SlOwn Kd.string 9 H none 0 ([]:List ByteArray) none:=SlOwn.nil
  obtain rfl:=Option.some.inj heq
  refine Up 4 [2,1,0] ?_
  exact RunH.doneM' 1 (vs:=[.agg #[.bool false,.slice none 0 0,.slice none 0 0],iv y1]) (v:=.tuple #[.agg #[.bool false,.slice none 0 0,.slice none 0 0],iv y1]) (by kernel_rfl) Tryz.func19 (fun w hh=>show ResAll _ _ _ [.cell 4 33,.tmp 5] _ from ⟨⟨⟨g2,0,none⟩,by kernel_rfl,trS_run _ (vs:=[.bool false,.slice none 0 0,.slice none 0 0]) (r:=[]) (es:=[.load ⟨g2,0,none⟩ (.bool false),.load ⟨g2,1,none⟩ (.slice none 0 0),.load ⟨g2,2,none⟩ (.slice none 0 0)]) (by kernel_rfl) ⟨(hh.box 0 rfl rfl),(hh.box 0 rfl rfl),(hh.box 0 rfl rfl)⟩⟩,(show lk _ _=some _ by kernel_rfl),trivial⟩) rfl (cs':=none::none::(some (ga0,.cells #[iv a0.Room,iv a0.Lease,.slice Aa0_2 a0.Blobs.length ca0_2,.slice Aa0_3 a0.Entries.length ca0_3] 25 (0,0)))::cha0_2::cha0_3::F) rfl ⟨none,0,none,none,0,none,Aa0_2,ca0_2,cha0_2,Aa0_3,ca0_3,cha0_3,rfl,rfl,ho1,ho2,hoa0_2,hoa0_3⟩
 ·intro hb1 heq
  refine Sa 3<|Zw 2 [bx 1 0]<|Sa 2<|Zd 2 ?_
  refine Cb heq ?_ ?_
  ·intro hb2 heq
   refine Sa 1<|Zv 2 (bxs 1)<|Ug 5 [2,3,4,0,1] ?_
   obtain ⟨y2,hy2,heq⟩:=bind_some heq
   refine RgH.does (cal 20 (smithyardref7_putBlob_2_c hy2 hoa0_2 rfl hoa0_3 rfl (hra1_3.wk (fun _ h=>(.tail _ (.tail _ h)))) hca1_3 rfl)) ?_
   rintro _ _ _ _ ⟨_,rfl,A1,c1,ch1,A2,c2,ch2,A3,c3,ch3,A4,c4,ch4,rfl,rfl,rfl,ho3,ho4,ho5,ho6⟩
   refine Zk 5 ?_
   refine RgH.does (DoesH.store (k:=5) (g:=g2) (off:=0) (v:=.agg #[.bool y2.1.Done,.slice A1 y2.1.Missing.length c1,.slice A2 y2.1.Gone.length c2]) (cells':=#[.bool y2.1.Done,.slice A1 y2.1.Missing.length c1,.slice A2 y2.1.Gone.length c2]) (by kernel_rfl) rfl (by kernel_rfl) (by kernel_rfl)) ?_
   rintro _ _ _ _ ⟨rfl,rfl,rfl⟩
   refine RgH.nrm ?_
   refine Zd 7 ?_
   obtain rfl:=Option.some.inj heq
   refine Up 7 [5,0,1,2,3,4] ?_
   exact RunH.doneM' 1 (vs:=[.agg #[.bool y2.1.Done,.slice A1 y2.1.Missing.length c1,.slice A2 y2.1.Gone.length c2],iv y2.2.1]) (v:=.tuple #[.agg #[.bool y2.1.Done,.slice A1 y2.1.Missing.length c1,.slice A2 y2.1.Gone.length c2],iv y2.2.1]) (by kernel_rfl) Tryz.func19 (fun w hh=>show ResAll _ _ _ [.cell 4 33,.tmp 5] _ from ⟨⟨⟨g2,0,none⟩,by kernel_rfl,trS_run _ (vs:=[.bool y2.1.Done,.slice A1 y2.1.Missing.length c1,.slice A2 y2.1.Gone.length c2]) (r:=[]) (es:=[.load ⟨g2,0,none⟩ (.bool y2.1.Done),.load ⟨g2,1,none⟩ (.slice A1 y2.1.Missing.length c1),.load ⟨g2,2,none⟩ (.slice A2 y2.1.Gone.length c2)]) (by kernel_rfl) ⟨(hh.box 0 rfl rfl),(hh.box 0 rfl rfl),(hh.box 0 rfl rfl)⟩⟩,(show lk _ _=some _ by kernel_rfl),trivial⟩) rfl (cs':=ch1::ch2::(some (ga0,.cells #[iv y2.2.2.Room,iv y2.2.2.Lease,.slice A3 y2.2.2.Blobs.length c3,.slice A4 y2.2.2.Entries.length c4] 25 (0,0)))::ch3::ch4::F) rfl ⟨A1,c1,ch1,A2,c2,ch2,A3,c3,ch3,A4,c4,ch4,rfl,rfl,ho3,ho4,ho5,ho6⟩
  ·intro hb2 heq
   refine Sa 1<|Zd 2 ?_
   refine Cb heq ?_ ?_
   ·intro hb3 heq
    refine Sa 1<|Zv 2 (bxs 1)<|Ug 5 [2,3,4,0,1] ?_
    obtain ⟨y3,hy3,heq⟩:=bind_some heq
    refine RgH.does (cal 27 (smithyardref7_ask_c hy3 hoa0_2 rfl hoa0_3 rfl (hra1_3.wk (fun _ h=>(.tail _ (.tail _ h)))) hca1_3 rfl)) ?_
    rintro _ _ _ _ ⟨_,rfl,A5,c5,ch5,A6,c6,ch6,A7,c7,ch7,A8,c8,ch8,rfl,rfl,rfl,ho7,ho8,ho9,ho10⟩
    refine RgH.does (DoesH.store (k:=5) (g:=g2) (off:=0) (v:=.agg #[.bool y3.1.Done,.slice A5 y3.1.Missing.length c5,.slice A6 y3.1.Gone.length c6]) (cells':=#[.bool y3.1.Done,.slice A5 y3.1.Missing.length c5,.slice A6 y3.1.Gone.length c6]) (by kernel_rfl) rfl (by kernel_rfl) (by kernel_rfl)) ?_
    rintro _ _ _ _ ⟨rfl,rfl,rfl⟩
    refine RgH.nrm ?_
    refine Zd 5 ?_
    obtain rfl:=Option.some.inj heq
    refine Up 7 [5,0,1,2,3,4] ?_
    exact RunH.doneM' 1 (vs:=[.agg #[.bool y3.1.Done,.slice A5 y3.1.Missing.length c5,.slice A6 y3.1.Gone.length c6],iv 0]) (v:=.tuple #[.agg #[.bool y3.1.Done,.slice A5 y3.1.Missing.length c5,.slice A6 y3.1.Gone.length c6],iv 0]) (by kernel_rfl) Tryz.func19 (fun w hh=>show ResAll _ _ _ [.cell 4 33,.tmp 5] _ from ⟨⟨⟨g2,0,none⟩,by kernel_rfl,trS_run _ (vs:=[.bool y3.1.Done,.slice A5 y3.1.Missing.length c5,.slice A6 y3.1.Gone.length c6]) (r:=[]) (es:=[.load ⟨g2,0,none⟩ (.bool y3.1.Done),.load ⟨g2,1,none⟩ (.slice A5 y3.1.Missing.length c5),.load ⟨g2,2,none⟩ (.slice A6 y3.1.Gone.length c6)]) (by kernel_rfl) ⟨(hh.box 0 rfl rfl),(hh.box 0 rfl rfl),(hh.box 0 rfl rfl)⟩⟩,(show lk _ _=some _ by kernel_rfl),trivial⟩) rfl (cs':=ch5::ch6::(some (ga0,.cells #[iv y3.2.Room,iv y3.2.Lease,.slice A7 y3.2.Blobs.length c7,.slice A8 y3.2.Entries.length c8] 25 (0,0)))::ch7::ch8::F) rfl ⟨A5,c5,ch5,A6,c6,ch6,A7,c7,ch7,A8,c8,ch8,rfl,rfl,ho7,ho8,ho9,ho10⟩
   ·intro hb3 heq
    refine Sa 1<|Zd 2 ?_
    refine Cb heq ?_ ?_
    ·intro hb4 heq
     refine Sa 1<|Zv 2 (bxs 1)<|Ug 5 [2,3,4,0,1] ?_
     obtain ⟨y4,hy4,heq⟩:=bind_some heq
     refine RgH.does (cal 32 (smithyardref7_store_c hy4 hoa0_2 rfl hoa0_3 rfl (hra1_3.wk (fun _ h=>(.tail _ (.tail _ h)))) hca1_3 rfl)) ?_
     rintro _ H _ hl ⟨_,rfl,A9,c9,ch9,A10,c10,ch10,A11,c11,ch11,A12,c12,ch12,rfl,rfl,ho11,ho12,ho13,ho14⟩
     replace hoa0_2:=hoa0_2.mono hl
     replace hoa0_3:=hoa0_3.mono hl
     replace hra1_3:=hra1_3.mono hl
     refine RgH.does (DoesH.store (k:=5) (g:=g2) (off:=0) (v:=.agg #[.bool y4.1.Done,.slice A9 y4.1.Missing.length c9,.slice A10 y4.1.Gone.length c10]) (cells':=#[.bool y4.1.Done,.slice A9 y4.1.Missing.length c9,.slice A10 y4.1.Gone.length c10]) (by kernel_rfl) rfl (by kernel_rfl) (by kernel_rfl)) ?_
     rintro _ _ _ _ ⟨rfl,rfl,rfl⟩
     refine RgH.nrm ?_
     refine Zd 5 ?_
     obtain rfl:=Option.some.inj heq
     refine Up 7 [5,0,1,2,3,4] ?_
     exact RunH.doneM' 1 (vs:=[.agg #[.bool y4.1.Done,.slice A9 y4.1.Missing.length c9,.slice A10 y4.1.Gone.length c10],iv 0]) (v:=.tuple #[.agg #[.bool y4.1.Done,.slice A9 y4.1.Missing.length c9,.slice A10 y4.1.Gone.length c10],iv 0]) (by kernel_rfl) Tryz.func19 (fun w hh=>show ResAll _ _ _ [.cell 4 33,.tmp 5] _ from ⟨⟨⟨g2,0,none⟩,by kernel_rfl,trS_run _ (vs:=[.bool y4.1.Done,.slice A9 y4.1.Missing.length c9,.slice A10 y4.1.Gone.length c10]) (r:=[]) (es:=[.load ⟨g2,0,none⟩ (.bool y4.1.Done),.load ⟨g2,1,none⟩ (.slice A9 y4.1.Missing.length c9),.load ⟨g2,2,none⟩ (.slice A10 y4.1.Gone.length c10)]) (by kernel_rfl) ⟨(hh.box 0 rfl rfl),(hh.box 0 rfl rfl),(hh.box 0 rfl rfl)⟩⟩,(show lk _ _=some _ by kernel_rfl),trivial⟩) rfl (cs':=ch9::ch10::(some (ga0,.cells #[iv y4.2.Room,iv y4.2.Lease,.slice A11 y4.2.Blobs.length c11,.slice A12 y4.2.Entries.length c12] 25 (0,0)))::ch11::ch12::F) rfl ⟨A9,c9,ch9,A10,c10,ch10,A11,c11,ch11,A12,c12,ch12,rfl,rfl,ho11,ho12,ho13,ho14⟩
    ·intro hb4 heq
     refine Sa 1<|Zd 2 ?_
     refine Cb heq ?_ ?_
     ·intro hb5 heq
      refine Sa 1<|Zv 2 (bxs 1)<|Ug 5 [2,3,4,0,1] ?_
      obtain ⟨y5,hy5,heq⟩:=bind_some heq
      refine RgH.does (cal 37 (smithyardref7_find_c hy5 hoa0_2 rfl hoa0_3 rfl (hra1_3.wk (fun _ h=>(.tail _ (.tail _ h)))) hca1_3 rfl)) ?_
      rintro _ _ _ _ ⟨_,rfl,A13,c13,ch13,A14,c14,ch14,A15,c15,ch15,A16,c16,ch16,rfl,rfl,rfl,ho15,ho16,ho17,ho18⟩
      refine RgH.does (DoesH.store (k:=5) (g:=g2) (off:=0) (v:=.agg #[.bool y5.1.Done,.slice A13 y5.1.Missing.length c13,.slice A14 y5.1.Gone.length c14]) (cells':=#[.bool y5.1.Done,.slice A13 y5.1.Missing.length c13,.slice A14 y5.1.Gone.length c14]) (by kernel_rfl) rfl (by kernel_rfl) (by kernel_rfl)) ?_
      rintro _ _ _ _ ⟨rfl,rfl,rfl⟩
      refine RgH.nrm ?_
      refine Zd 5 ?_
      obtain rfl:=Option.some.inj heq
      refine Up 7 [5,0,1,2,3,4] ?_
      exact RunH.doneM' 1 (vs:=[.agg #[.bool y5.1.Done,.slice A13 y5.1.Missing.length c13,.slice A14 y5.1.Gone.length c14],iv 0]) (v:=.tuple #[.agg #[.bool y5.1.Done,.slice A13 y5.1.Missing.length c13,.slice A14 y5.1.Gone.length c14],iv 0]) (by kernel_rfl) Tryz.func19 (fun w hh=>show ResAll _ _ _ [.cell 4 33,.tmp 5] _ from ⟨⟨⟨g2,0,none⟩,by kernel_rfl,trS_run _ (vs:=[.bool y5.1.Done,.slice A13 y5.1.Missing.length c13,.slice A14 y5.1.Gone.length c14]) (r:=[]) (es:=[.load ⟨g2,0,none⟩ (.bool y5.1.Done),.load ⟨g2,1,none⟩ (.slice A13 y5.1.Missing.length c13),.load ⟨g2,2,none⟩ (.slice A14 y5.1.Gone.length c14)]) (by kernel_rfl) ⟨(hh.box 0 rfl rfl),(hh.box 0 rfl rfl),(hh.box 0 rfl rfl)⟩⟩,(show lk _ _=some _ by kernel_rfl),trivial⟩) rfl (cs':=ch13::ch14::(some (ga0,.cells #[iv y5.2.Room,iv y5.2.Lease,.slice A15 y5.2.Blobs.length c15,.slice A16 y5.2.Entries.length c16] 25 (0,0)))::ch15::ch16::F) rfl ⟨A13,c13,ch13,A14,c14,ch14,A15,c15,ch15,A16,c16,ch16,rfl,rfl,ho15,ho16,ho17,ho18⟩
     ·intro hb5 heq
      refine Sa 3<|Zv 2 (bxs 1)<|Ug 5 [2,3,4,0,1] ?_
      obtain ⟨y6,hy6,heq⟩:=bind_some heq
      refine RgH.does (cal 40 (smithyardref7_one_c hy6 hoa0_2 rfl hoa0_3 rfl (hra1_3.wk (fun _ h=>(.tail _ (.tail _ h)))) hca1_3 rfl)) ?_
      rintro _ _ _ _ ⟨_,rfl,A17,c17,ch17,A18,c18,ch18,A19,c19,ch19,A20,c20,ch20,rfl,rfl,rfl,ho19,ho20,ho21,ho22⟩
      refine RgH.does (DoesH.store (k:=5) (g:=g2) (off:=0) (v:=.agg #[.bool y6.1.Done,.slice A17 y6.1.Missing.length c17,.slice A18 y6.1.Gone.length c18]) (cells':=#[.bool y6.1.Done,.slice A17 y6.1.Missing.length c17,.slice A18 y6.1.Gone.length c18]) (by kernel_rfl) rfl (by kernel_rfl) (by kernel_rfl)) ?_
      rintro _ _ _ _ ⟨rfl,rfl,rfl⟩
      refine RgH.nrm ?_
      refine Zd 5 ?_
      obtain rfl:=Option.some.inj heq
      refine Up 7 [5,0,1,2,3,4] ?_
      exact RunH.doneM' 1 (vs:=[.agg #[.bool y6.1.Done,.slice A17 y6.1.Missing.length c17,.slice A18 y6.1.Gone.length c18],iv 0]) (v:=.tuple #[.agg #[.bool y6.1.Done,.slice A17 y6.1.Missing.length c17,.slice A18 y6.1.Gone.length c18],iv 0]) (by kernel_rfl) Tryz.func19 (fun w hh=>show ResAll _ _ _ [.cell 4 33,.tmp 5] _ from ⟨⟨⟨g2,0,none⟩,by kernel_rfl,trS_run _ (vs:=[.bool y6.1.Done,.slice A17 y6.1.Missing.length c17,.slice A18 y6.1.Gone.length c18]) (r:=[]) (es:=[.load ⟨g2,0,none⟩ (.bool y6.1.Done),.load ⟨g2,1,none⟩ (.slice A17 y6.1.Missing.length c17),.load ⟨g2,2,none⟩ (.slice A18 y6.1.Gone.length c18)]) (by kernel_rfl) ⟨(hh.box 0 rfl rfl),(hh.box 0 rfl rfl),(hh.box 0 rfl rfl)⟩⟩,(show lk _ _=some _ by kernel_rfl),trivial⟩) rfl (cs':=ch17::ch18::(some (ga0,.cells #[iv y6.2.Room,iv y6.2.Lease,.slice A19 y6.2.Blobs.length c19,.slice A20 y6.2.Entries.length c20] 25 (0,0)))::ch19::ch20::F) rfl ⟨A17,c17,ch17,A18,c18,ch18,A19,c19,ch19,A20,c20,ch20,rfl,rfl,ho19,ho20,ho21,ho22⟩
noncomputable def C7:Ctx:={ P:=Tryz.prog,f:=7,N:=35,c:=bodyOf Tryz.f7 }
def S7 (F:List Ch) (H0:Hp) (r:Cache × CacheAnswer × Int) (v:Value) (H:Hp) (cs:List Ch):Prop:=∃ (A0_2:Option Addr) (c0_2:Nat) (ch0_2:Ch) (A0_3:Option Addr) (c0_3:Nat) (ch0_3:Ch) (A1_1:Option Addr) (c1_1:Nat) (ch1_1:Ch) (A1_2:Option Addr) (c1_2:Nat) (ch1_2:Ch),v=.tuple #[.agg #[iv r.1.Room,iv r.1.Lease,.slice A0_2 r.1.Blobs.length c0_2,.slice A0_3 r.1.Entries.length c0_3],.agg #[.bool r.2.1.Done,.slice A1_1 r.2.1.Missing.length c1_1,.slice A1_2 r.2.1.Gone.length c1_2],iv r.2.2]∧ch0_2::ch0_3::ch1_1::ch1_2::F=cs∧SlOwn kBlob 45 H A0_2 c0_2 r.1.Blobs ch0_2∧SlOwn kEntry 47 H A0_3 c0_3 r.1.Entries ch0_3∧SlOwn Kd.string 9 H A1_1 c1_1 r.2.1.Missing ch1_1∧SlOwn Kd.string 9 H A1_2 c1_2 r.2.1.Gone ch1_2
theorem smithyardref7_Do_c {a0:Cache} {Aa0_2:Option Addr} {na0_2 ca0_2:Nat} {Aa0_3:Option Addr} {na0_3 ca0_3:Nat} {a1:CacheEvent} {Aa1_3:Option Addr} {na1_3 ca1_3:Nat} {r:Cache × CacheAnswer × Int} (heq:smithyardref7_Do.f a0 a1=some r) (hra0_2:Rw kBlob H0 F Aa0_2 a0.Blobs) (hca0_2:na0_2≤ca0_2) (hna0_2:na0_2=a0.Blobs.length) (hra0_3:Rw kEntry H0 F Aa0_3 a0.Entries) (hca0_3:na0_3≤ca0_3) (hna0_3:na0_3=a0.Entries.length) (hra1_3:Rw Kd.string H0 F Aa1_3 a1.Digests) (hca1_3:na1_3≤ca1_3) (hna1_3:na1_3=a1.Digests.length):CallsH Tryz.prog 7 #[.agg #[iv a0.Room,iv a0.Lease,.slice Aa0_2 na0_2 ca0_2,.slice Aa0_3 na0_3 ca0_3],.agg #[iv a1.Kind,iv a1.At,.string a1.Digest,.slice Aa1_3 na1_3 ca1_3,.string a1.Key,iv a1.Size]] H0 w0 (F) (S7 F H0 r):=by
 refine Co C7 Tryz.func7 Tryz.ntmps7 ?_
 subst hna0_2
 subst hna0_3
 subst hna1_3
 unfold smithyardref7_Do.f at heq
 suffices key:∀ (H:Hp),Rw kBlob H F Aa0_2 a0.Blobs→Rw kEntry H F Aa0_3 a0.Entries→Rw Kd.string H F Aa1_3 a1.Digests→RunH C7 (S7 F H0 r) H0 w0 [.c []] (argL 0 [.agg #[iv a0.Room,iv a0.Lease,.slice Aa0_2 (a0.Blobs.length) ca0_2,.slice Aa0_3 (a0.Entries.length) ca0_3],.agg #[iv a1.Kind,iv a1.At,.string a1.Digest,.slice Aa1_3 (a1.Digests.length) ca1_3,.string a1.Key,iv a1.Size]]) H (F) from key H0 hra0_2 hra0_3 hra1_3
 intro H hra0_2 hra0_3 hra1_3
 refine Sa 1 ?_
 refine RgH.does (DoesH.new (d:=2) (v:=fun g=>.pointer (some ⟨g,0,none⟩)) (o:=fun g=>.cells #[iv a0.Room,iv a0.Lease,.slice Aa0_2 a0.Blobs.length ca0_2,.slice Aa0_3 a0.Entries.length ca0_3] 25 (0,0)) (fun g=>by kernel_rfl)) ?_
 rintro _ _ _ _ ⟨g1,rfl,rfl,rfl⟩
 refine RgH.does (DoesH.new (d:=3) (v:=fun g=>.pointer (some ⟨g,0,none⟩)) (o:=fun g=>.cells #[iv a1.Kind,iv a1.At,.string a1.Digest,.slice Aa1_3 a1.Digests.length ca1_3,.string a1.Key,iv a1.Size] 28 (0,0)) (fun g=>by kernel_rfl)) ?_
 rintro _ _ _ _ ⟨g2,rfl,rfl,rfl⟩
 refine RgH.does (DoesH.new (d:=4) (v:=fun g=>.pointer (some ⟨g,0,none⟩)) (o:=fun g=>.cells #[iv 0,iv 0,.slice none 0 0,.slice none 0 0] 25 (0,0)) (fun g=>by kernel_rfl)) ?_
 rintro _ _ _ _ ⟨g3,rfl,rfl,rfl⟩
 refine RgH.does (DoesH.new (d:=5) (v:=fun g=>.pointer (some ⟨g,0,none⟩)) (o:=fun g=>.cells #[.bool false,.slice none 0 0,.slice none 0 0] 33 (0,0)) (fun g=>by kernel_rfl)) ?_
 rintro _ _ _ _ ⟨g4,rfl,rfl,rfl⟩
 refine Zd 5<|Sa 2<|Zv 1 (bxs 3) ?_
 obtain ⟨y1,hy1,heq⟩:=bind_some heq
 refine RgH.does (cal 12 (smithyardref7_CheckCache_c hy1 (hra0_2.wk (fun _ h=>(.tail _ (.tail _ (.tail _ (.tail _ h)))))) hca0_2 rfl (hra0_3.wk (fun _ h=>(.tail _ (.tail _ (.tail _ (.tail _ h)))))) hca0_3 rfl)) ?_
 rintro _ _ _ _ ⟨_,rfl,rfl,rfl,rfl⟩
 refine Zd 3<|Sa 1<|Zd 2 ?_
 refine Cb heq ?_ ?_
 ·intro hb1 heq
  refine Sa 1<|Zk 3 ?_
  refine RgH.does (DoesH.store (k:=1) (g:=g3) (off:=0) (v:=.agg #[iv 0,iv 0,.slice none 0 0,.slice none 0 0]) (cells':=#[iv 0,iv 0,.slice none 0 0,.slice none 0 0]) (by kernel_rfl) rfl (by kernel_rfl) (by kernel_rfl)) ?_
  rintro _ _ _ _ ⟨rfl,rfl,rfl⟩
  refine RgH.nrm ?_
  refine RgH.does (DoesH.store (k:=0) (g:=g4) (off:=0) (v:=.agg #[.bool false,.slice none 0 0,.slice none 0 0]) (cells':=#[.bool false,.slice none 0 0,.slice none 0 0]) (by kernel_rfl) rfl (by kernel_rfl) (by kernel_rfl)) ?_
  rintro _ _ _ _ ⟨rfl,rfl,rfl⟩
  refine RgH.nrm ?_
  refine Zd 6<|RunH.nilc ?_
  have ho1:SlOwn kBlob 45 H none 0 ([]:List Blob) none:=SlOwn.nil
  refine RunH.nilc ?_
  have ho2:SlOwn kEntry 47 H none 0 ([]:List Entry) none:=SlOwn.nil
  refine RunH.nilc ?_
  have ho3:SlOwn Kd.string 9 H none 0 ([]:List ByteArray) none:=SlOwn.nil
  refine RunH.nilc ?_
  have ho4:SlOwn Kd.string 9 H none 0 ([]:List ByteArray) none:=SlOwn.nil
  obtain rfl:=Option.some.inj heq
  refine Up 8 [4,5,3,2,1,0] ?_
  exact RunH.doneM' 2 (vs:=[.agg #[iv 0,iv 0,.slice none 0 0,.slice none 0 0],.agg #[.bool false,.slice none 0 0,.slice none 0 0],iv y1]) (v:=.tuple #[.agg #[iv 0,iv 0,.slice none 0 0,.slice none 0 0],.agg #[.bool false,.slice none 0 0,.slice none 0 0],iv y1]) (by kernel_rfl) Tryz.func7 (fun w hh=>show ResAll _ _ _ [.cell 4 25,.cell 5 33,.tmp 6] _ from ⟨⟨⟨g3,0,none⟩,by kernel_rfl,trS_run _ (vs:=[iv 0,iv 0,.slice none 0 0,.slice none 0 0]) (r:=[]) (es:=[.load ⟨g3,0,none⟩ (iv 0),.load ⟨g3,1,none⟩ (iv 0),.load ⟨g3,2,none⟩ (.slice none 0 0),.load ⟨g3,3,none⟩ (.slice none 0 0)]) (by kernel_rfl) ⟨(hh.box 1 rfl rfl),(hh.box 1 rfl rfl),(hh.box 1 rfl rfl),(hh.box 1 rfl rfl)⟩⟩,⟨⟨g4,0,none⟩,by kernel_rfl,trS_run _ (vs:=[.bool false,.slice none 0 0,.slice none 0 0]) (r:=[]) (es:=[.load ⟨g4,0,none⟩ (.bool false),.load ⟨g4,1,none⟩ (.slice none 0 0),.load ⟨g4,2,none⟩ (.slice none 0 0)]) (by kernel_rfl) ⟨(hh.box 0 rfl rfl),(hh.box 0 rfl rfl),(hh.box 0 rfl rfl)⟩⟩,(show lk _ _=some _ by kernel_rfl),trivial⟩) rfl (cs':=none::none::none::none::F) rfl ⟨none,0,none,none,0,none,none,0,none,none,0,none,rfl,rfl,ho1,ho2,ho3,ho4⟩
 ·intro hb1 heq
  refine Sa 2<|Zv 1 (bxs 3) ?_
  obtain ⟨y2,hy2,heq⟩:=bind_some heq
  refine RgH.does (cal 19 (smithyardref7_copied_c hy2 (hra0_2.wk (fun _ h=>(.tail _ (.tail _ (.tail _ (.tail _ h)))))) hca0_2 rfl (hra0_3.wk (fun _ h=>(.tail _ (.tail _ (.tail _ (.tail _ h)))))) hca0_3 rfl)) ?_
  rintro _ H _ hl ⟨_,rfl,g5,A1,c1,ch1,A2,c2,ch2,rfl,rfl,ho5,ho6⟩
  replace hra1_3:=hra1_3.mono hl
  replace hra0_2:=hra0_2.mono hl
  replace hra0_3:=hra0_3.mono hl
  refine Zd 3<|Sa 1<|Zv 2 (bxs 5) ?_
  obtain ⟨y3,hy3,heq⟩:=bind_some heq
  refine RgH.does (cal 23 (smithyardref7_do_c hy3 ho5 rfl ho6 rfl (hra1_3.wk (fun _ h=>(.tail _ (.tail _ (.tail _ (.tail _ h)))))) hca1_3 rfl)) ?_
  rintro _ H _ hl ⟨_,rfl,A3,c3,ch3,A4,c4,ch4,A5,c5,ch5,A6,c6,ch6,rfl,rfl,ho7,ho8,ho9,ho10⟩
  replace ho5:=ho5.mono hl
  replace ho6:=ho6.mono hl
  replace hra1_3:=hra1_3.mono hl
  refine Zk 6 ?_
  refine RgH.does (DoesH.new (d:=9) (v:=fun g=>.pointer (some ⟨g,0,none⟩)) (o:=fun g=>.cells #[.bool false,.slice none 0 0,.slice none 0 0] 33 (0,0)) (fun g=>by kernel_rfl)) ?_
  rintro _ _ _ _ ⟨g6,rfl,rfl,rfl⟩
  refine RgH.does (DoesH.store (k:=0) (g:=g6) (off:=0) (v:=.agg #[.bool y3.1.Done,.slice A3 y3.1.Missing.length c3,.slice A4 y3.1.Gone.length c4]) (cells':=#[.bool y3.1.Done,.slice A3 y3.1.Missing.length c3,.slice A4 y3.1.Gone.length c4]) (by kernel_rfl) rfl (by kernel_rfl) (by kernel_rfl)) ?_
  rintro _ _ _ _ ⟨rfl,rfl,rfl⟩
  refine RgH.nrm ?_
  refine Zd 9<|Sa 2<|Zd 2 ?_
  refine Cb heq ?_ ?_
  ·intro hb2 heq
   refine Sa 1<|Zk 3 ?_
   refine RgH.does (DoesH.store (k:=7) (g:=g3) (off:=0) (v:=.agg #[iv 0,iv 0,.slice none 0 0,.slice none 0 0]) (cells':=#[iv 0,iv 0,.slice none 0 0,.slice none 0 0]) (by kernel_rfl) rfl (by kernel_rfl) (by kernel_rfl)) ?_
   rintro _ _ _ _ ⟨rfl,rfl,rfl⟩
   refine RgH.nrm ?_
   refine RgH.does (DoesH.store (k:=6) (g:=g4) (off:=0) (v:=.agg #[.bool false,.slice none 0 0,.slice none 0 0]) (cells':=#[.bool false,.slice none 0 0,.slice none 0 0]) (by kernel_rfl) rfl (by kernel_rfl) (by kernel_rfl)) ?_
   rintro _ _ _ _ ⟨rfl,rfl,rfl⟩
   refine RgH.nrm ?_
   refine Zd 6<|RunH.nilc ?_
   have ho11:SlOwn kBlob 45 H none 0 ([]:List Blob) none:=SlOwn.nil
   refine RunH.nilc ?_
   have ho12:SlOwn kEntry 47 H none 0 ([]:List Entry) none:=SlOwn.nil
   refine RunH.nilc ?_
   have ho13:SlOwn Kd.string 9 H none 0 ([]:List ByteArray) none:=SlOwn.nil
   refine RunH.nilc ?_
   have ho14:SlOwn Kd.string 9 H none 0 ([]:List ByteArray) none:=SlOwn.nil
   obtain rfl:=Option.some.inj heq
   refine Up 14 [10,11,3,2,1,0] ?_
   exact RunH.doneM' 2 (vs:=[.agg #[iv 0,iv 0,.slice none 0 0,.slice none 0 0],.agg #[.bool false,.slice none 0 0,.slice none 0 0],iv y3.2.1]) (v:=.tuple #[.agg #[iv 0,iv 0,.slice none 0 0,.slice none 0 0],.agg #[.bool false,.slice none 0 0,.slice none 0 0],iv y3.2.1]) (by kernel_rfl) Tryz.func7 (fun w hh=>show ResAll _ _ _ [.cell 4 25,.cell 5 33,.tmp 6] _ from ⟨⟨⟨g3,0,none⟩,by kernel_rfl,trS_run _ (vs:=[iv 0,iv 0,.slice none 0 0,.slice none 0 0]) (r:=[]) (es:=[.load ⟨g3,0,none⟩ (iv 0),.load ⟨g3,1,none⟩ (iv 0),.load ⟨g3,2,none⟩ (.slice none 0 0),.load ⟨g3,3,none⟩ (.slice none 0 0)]) (by kernel_rfl) ⟨(hh.box 1 rfl rfl),(hh.box 1 rfl rfl),(hh.box 1 rfl rfl),(hh.box 1 rfl rfl)⟩⟩,⟨⟨g4,0,none⟩,by kernel_rfl,trS_run _ (vs:=[.bool false,.slice none 0 0,.slice none 0 0]) (r:=[]) (es:=[.load ⟨g4,0,none⟩ (.bool false),.load ⟨g4,1,none⟩ (.slice none 0 0),.load ⟨g4,2,none⟩ (.slice none 0 0)]) (by kernel_rfl) ⟨(hh.box 0 rfl rfl),(hh.box 0 rfl rfl),(hh.box 0 rfl rfl)⟩⟩,(show lk _ _=some _ by kernel_rfl),trivial⟩) rfl (cs':=none::none::none::none::F) rfl ⟨none,0,none,none,0,none,none,0,none,none,0,none,rfl,rfl,ho11,ho12,ho13,ho14⟩
  ·intro hb2 heq
   refine An 2<|Sd 8 7 [0,1,2,3,4,5] [3,3,3,3,1,1,3]<|Zr [0,1,2] 4 (bxs 3) (Pk 10 [0,1,2,3,4,5,6,7,8,9]) (Pk 10 [0,1,2,3,4,5,8,9])<|Zt [3] 3 (bxs 0) (Pk 10 [0,1,2,3,4,5,8,9]) ?_
   refine Dz 4 (DoesH.store (k:=7) (g:=g3) (off:=0) (v:=.agg #[iv y3.2.2.Room,iv y3.2.2.Lease,.slice A5 y3.2.2.Blobs.length c5,.slice A6 y3.2.2.Entries.length c6]) (cells':=#[iv y3.2.2.Room,iv y3.2.2.Lease,.slice A5 y3.2.2.Blobs.length c5,.slice A6 y3.2.2.Entries.length c6]) (by kernel_rfl) rfl (by kernel_rfl) (by kernel_rfl)) ?_
   rintro _ _ _ _ ⟨rfl,rfl,rfl⟩
   refine ⟨fun _ w hh=>⟨(fun h=>by cases h),fun _=>(Pk 10 [0,1,2,3,4,5,8,9]) w hh,(fun h=>by cases h)⟩,?_⟩
   refine DrH.nrm ?_
   refine Dz 5 (DoesH.store (k:=6) (g:=g4) (off:=0) (v:=.agg #[.bool y3.1.Done,.slice A3 y3.1.Missing.length c3,.slice A4 y3.1.Gone.length c4]) (cells':=#[.bool y3.1.Done,.slice A3 y3.1.Missing.length c3,.slice A4 y3.1.Gone.length c4]) (by kernel_rfl) rfl (by kernel_rfl) (by kernel_rfl)) ?_
   rintro _ _ _ _ ⟨rfl,rfl,rfl⟩
   refine ⟨fun _ w hh=>⟨(fun h=>by cases h),fun _=>(Pk 10 [0,1,2,3,4,5,8,9]) w hh,(fun h=>by cases h)⟩,?_⟩
   refine DrH.nrm ?_
   refine Zt [6] 0 [] (Pk 10 [0,1,2,3,4,5,8,9]) ?_
   refine DrH.done (by kernel_rfl) ?_
   obtain rfl:=Option.some.inj heq
   refine Up 10 [6,7,4,5,1,2] ?_
   exact RunH.doneM' 2 (vs:=[.agg #[iv y3.2.2.Room,iv y3.2.2.Lease,.slice A5 y3.2.2.Blobs.length c5,.slice A6 y3.2.2.Entries.length c6],.agg #[.bool y3.1.Done,.slice A3 y3.1.Missing.length c3,.slice A4 y3.1.Gone.length c4],iv 0]) (v:=.tuple #[.agg #[iv y3.2.2.Room,iv y3.2.2.Lease,.slice A5 y3.2.2.Blobs.length c5,.slice A6 y3.2.2.Entries.length c6],.agg #[.bool y3.1.Done,.slice A3 y3.1.Missing.length c3,.slice A4 y3.1.Gone.length c4],iv 0]) (by kernel_rfl) Tryz.func7 (fun w hh=>show ResAll _ _ _ [.cell 4 25,.cell 5 33,.tmp 6] _ from ⟨⟨⟨g3,0,none⟩,by kernel_rfl,trS_run _ (vs:=[iv y3.2.2.Room,iv y3.2.2.Lease,.slice A5 y3.2.2.Blobs.length c5,.slice A6 y3.2.2.Entries.length c6]) (r:=[]) (es:=[.load ⟨g3,0,none⟩ (iv y3.2.2.Room),.load ⟨g3,1,none⟩ (iv y3.2.2.Lease),.load ⟨g3,2,none⟩ (.slice A5 y3.2.2.Blobs.length c5),.load ⟨g3,3,none⟩ (.slice A6 y3.2.2.Entries.length c6)]) (by kernel_rfl) ⟨(hh.box 1 rfl rfl),(hh.box 1 rfl rfl),(hh.box 1 rfl rfl),(hh.box 1 rfl rfl)⟩⟩,⟨⟨g4,0,none⟩,by kernel_rfl,trS_run _ (vs:=[.bool y3.1.Done,.slice A3 y3.1.Missing.length c3,.slice A4 y3.1.Gone.length c4]) (r:=[]) (es:=[.load ⟨g4,0,none⟩ (.bool y3.1.Done),.load ⟨g4,1,none⟩ (.slice A3 y3.1.Missing.length c3),.load ⟨g4,2,none⟩ (.slice A4 y3.1.Gone.length c4)]) (by kernel_rfl) ⟨(hh.box 0 rfl rfl),(hh.box 0 rfl rfl),(hh.box 0 rfl rfl)⟩⟩,(show lk _ _=some _ by kernel_rfl),trivial⟩) rfl (cs':=ch5::ch6::ch3::ch4::F) rfl ⟨A5,c5,ch5,A6,c6,ch6,A3,c3,ch3,A4,c4,ch4,rfl,rfl,ho9,ho10,ho7,ho8⟩
noncomputable def C20:Ctx:={ P:=Tryz.prog,f:=20,N:=26,c:=bodyOf Tryz.f20 }
def S20 (F:List Ch) (H0:Hp) (r:Bool) (v:Value) (H:Hp) (cs:List Ch):Prop:=H0=H∧v=.bool r∧F=cs
theorem smithyardref7_sameList.e1_c {r:Bool}:smithyardref7_sameList.e1=some r→RunH C20 (S20 F H r) H w0 [.c [1,1,1,0],.c [1,1,1,1]] [] H (F):=by
 intro   heq
 unfold smithyardref7_sameList.e1 at heq
 refine Sa 0<|Zd 1 ?_
 obtain rfl:=Option.some.inj heq
 exact RunH.done (by kernel_rfl) Tryz.func20 (v:=.bool true) (by kernel_rfl) ⟨rfl,rfl,rfl⟩
theorem smithyardref7_sameList.l2_c {r:Bool} (e1:Option Bool)
  (he1:e1=some r→RunH C20 (S20 F H r) H w0 [.c [1,1,1,0],.c [1,1,1,1]] [] H (F)):∀ (k:Nat),∀ (a0:List ByteArray) (Aa0:Option Addr) (ca0:Nat) (a1:List ByteArray) (Aa1:Option Addr) (ca1:Nat) (v_i5:Int) ,Rw Kd.string H F Aa0 a0→a0.length≤ca0→Rw Kd.string H F Aa1 a1→a1.length≤ca1→smithyardref7_sameList.l2 e1 k a0 a1 v_i5=some r→RunH C20 (S20 F H r) H w0 [.c [1,1,0,1,0,0],.l [1,1,0,1,0,0],.b 0,.c [1,1,1]] [(0,.slice Aa0 a0.length ca0),(1,.slice Aa1 a1.length ca1),(5,iv v_i5)] H (F):=by
 intro k
 induction k with
 | zero=>intro a0 Aa0 ca0 a1 Aa1 ca1 v_i5 hra0 hca0 hra1 hca1 heq; exact nomatch (show (none:Option Bool)=some r from heq)
 | succ k ihk =>
  intro a0 Aa0 ca0 a1 Aa1 ca1 v_i5 hra0 hca0 hra1 hca1 heq
  rw [smithyardref7_sameList.l2] at heq
  refine Sa 2<|Zd 4 ?_
  refine Cb heq ?_ ?_
  ·intro hb2 heq
   refine An 4<|Sd 0 9 [] [3,3,3,3,3,3,3,3,3] ?_
   obtain ⟨x1,hx1,heq⟩:=bind_some heq
   obtain ⟨ha1,cs1,hK1,hcc1⟩:=hra0.get hx1
   obtain rfl:cs1=[.string x1]:=hK1
   obtain ⟨x2,hx2,heq⟩:=bind_some heq
   obtain ⟨ha2,cs2,hK2,hcc2⟩:=hra1.get hx2
   obtain rfl:cs2=[.string x2]:=hK2
   refine Zr [0,1,2,3,4,5,6,7,8] 0 [nx ha1 hx1,er hcc1 0 0,nx ha2 hx2,er hcc2 0 0] (Pk 0 []) (Pk 0 []) ?_
   refine DrH.done (by kernel_rfl) ?_
   refine Cb heq ?_ ?_
   ·intro hb3 heq
    refine Sa 1<|Zd 1 ?_
    obtain rfl:=Option.some.inj heq
    exact RunH.done (by kernel_rfl) Tryz.func20 (v:=.bool false) (by kernel_rfl) ⟨rfl,rfl,rfl⟩
   ·intro hb3 heq
    refine Sa 2<|Zd 3<|An 1 ?_
    exact Gt 0 [] (ihk a0 _ _ a1 _ _ (w64 (v_i5+1)) hra0 hca0 hra1 hca1 heq)
  ·intro hb2 heq
   refine An 2 ?_
   exact Gt 0 [] (he1 heq)
theorem smithyardref7_sameList_c {a0:List ByteArray} {Aa0:Option Addr} {na0 ca0:Nat} {a1:List ByteArray} {Aa1:Option Addr} {na1 ca1:Nat} {r:Bool} (heq:smithyardref7_sameList.f a0 a1=some r) (hra0:Rw Kd.string H F Aa0 a0) (hca0:na0≤ca0) (hna0:na0=a0.length) (hra1:Rw Kd.string H F Aa1 a1) (hca1:na1≤ca1) (hna1:na1=a1.length):CallsH Tryz.prog 20 #[.slice Aa0 na0 ca0,.slice Aa1 na1 ca1] H w0 (F) (S20 F H r):=by
 refine Co C20 Tryz.func20 Tryz.ntmps20 ?_
 subst hna0
 subst hna1
 unfold smithyardref7_sameList.f at heq
 refine Sa 1<|Zd 1<|Sa 2<|Zd 5 ?_
 refine Cb heq ?_ ?_
 ·intro hb1 heq
  refine Sa 1<|Zd 1 ?_
  obtain rfl:=Option.some.inj heq
  exact RunH.done (by kernel_rfl) Tryz.func20 (v:=.bool false) (by kernel_rfl) ⟨rfl,rfl,rfl⟩
 ·intro hb1 heq
  refine Sa 3<|Zd 1<|An 2 ?_
  exact Gt 0 [] (((smithyardref7_sameList.l2_c (e1:=smithyardref7_sameList.e1) (smithyardref7_sameList.e1_c)) big) a0 _ _ a1 _ _ 0 hra0 hca0 hra1 hca1 heq)
noncomputable def C8:Ctx:={ P:=Tryz.prog,f:=8,N:=106,c:=bodyOf Tryz.f8 }
def S8 (F:List Ch) (H0:Hp) (r:Bool) (v:Value) (H:Hp) (cs:List Ch):Prop:=H0=H∧v=.bool r∧F=cs
theorem smithyardref7_Same.e2_c {r:Bool}:smithyardref7_Same.e2=some r→RunH C8 (S8 F H r) H w0 [.c [1,1,1,1,0],.c [1,1,1,1,1]] [] H (F):=by
 intro   heq
 unfold smithyardref7_Same.e2 at heq
 refine Sa 0<|Zd 1 ?_
 obtain rfl:=Option.some.inj heq
 exact RunH.done (by kernel_rfl) Tryz.func8 (v:=.bool true) (by kernel_rfl) ⟨rfl,rfl,rfl⟩
theorem smithyardref7_Same.l3_c {r:Bool} (e2:Option Bool)
  (he2:e2=some r→RunH C8 (S8 F H r) H w0 [.c [1,1,1,1,0],.c [1,1,1,1,1]] [] H (F)):∀ (k:Nat),∀ (a0:Cache) (Aa0_2:Option Addr) (ca0_2:Nat) (Aa0_3:Option Addr) (ca0_3:Nat) (a1:Cache) (Aa1_2:Option Addr) (ca1_2:Nat) (Aa1_3:Option Addr) (ca1_3 g1 g2:Nat) (v_i6:Int) ,Rw kBlob H F Aa0_2 a0.Blobs→a0.Blobs.length≤ca0_2→Rw kEntry H F Aa0_3 a0.Entries→a0.Entries.length≤ca0_3→Rw kBlob H F Aa1_2 a1.Blobs→a1.Blobs.length≤ca1_2→Rw kEntry H F Aa1_3 a1.Entries→a1.Entries.length≤ca1_3→smithyardref7_Same.l3 e2 k a0 a1 v_i6=some r→RunH C8 (S8 F H r) H w0 [.c [1,1,1,0,1,0,0],.l [1,1,1,0,1,0,0],.b 2,.c [1,1,1,1]] [(2,pg g1 0),(3,pg g2 0),(6,iv v_i6)] H ((some (g2,.cells #[iv a1.Room,iv a1.Lease,.slice Aa1_2 a1.Blobs.length ca1_2,.slice Aa1_3 a1.Entries.length ca1_3] 25 (0,0)))::(some (g1,.cells #[iv a0.Room,iv a0.Lease,.slice Aa0_2 a0.Blobs.length ca0_2,.slice Aa0_3 a0.Entries.length ca0_3] 25 (0,0)))::F):=by
 intro k
 induction k with
 | zero=>intro a0 Aa0_2 ca0_2 Aa0_3 ca0_3 a1 Aa1_2 ca1_2 Aa1_3 ca1_3 g1 g2 v_i6 hra0_2 hca0_2 hra0_3 hca0_3 hra1_2 hca1_2 hra1_3 hca1_3 heq; exact nomatch (show (none:Option Bool)=some r from heq)
 | succ k ihk =>
  intro a0 Aa0_2 ca0_2 Aa0_3 ca0_3 a1 Aa1_2 ca1_2 Aa1_3 ca1_3 g1 g2 v_i6 hra0_2 hca0_2 hra0_3 hca0_3 hra1_2 hca1_2 hra1_3 hca1_3 heq
  rw [smithyardref7_Same.l3] at heq
  refine Sa 2<|Zw 5 [bx 1 3] ?_
  refine Cb heq ?_ ?_
  ·intro hb5 heq
   refine An 4 ?_
   obtain ⟨t2,ht2,heq⟩:=bind_some heq
   have K4:RunH C8 (S8 F H r) H w0 [.c [1,1,1,0,1,0,0,1,0,0,1],.b 3,.c [1,1,1,0,1,0,0,1,1],.l [1,1,1,0,1,0,0],.b 2,.c [1,1,1,1]] [(2,pg g1 0),(3,pg g2 0),(6,iv v_i6),(105,.bool t2)] H ((some (g2,.cells #[iv a1.Room,iv a1.Lease,.slice Aa1_2 a1.Blobs.length ca1_2,.slice Aa1_3 a1.Entries.length ca1_3] 25 (0,0)))::(some (g1,.cells #[iv a0.Room,iv a0.Lease,.slice Aa0_2 a0.Blobs.length ca0_2,.slice Aa0_3 a0.Entries.length ca0_3] 25 (0,0)))::F):=by
    refine Cb heq ?_ ?_
    ·intro hb8 heq
     refine Sa 1<|Zd 1 ?_
     obtain rfl:=Option.some.inj heq
     refine Up 2 [] ?_
     exact RunH.done (by kernel_rfl) Tryz.func8 (v:=.bool false) (by kernel_rfl) ⟨rfl,rfl,rfl⟩
    ·intro hb8 heq
     refine Sa 2<|Zd 3<|An 1 ?_
     exact Gt 0 [] (ihk a0 _ _ _ _ a1 _ _ _ _ _ _ (w64 (v_i6+1)) hra0_2 hca0_2 hra0_3 hca0_3 hra1_2 hca1_2 hra1_3 hca1_3 heq)
   replace heq:=ht2
   refine Sd 0 44 [] [3,3,3,3,3,3,3,3,3,3,3,3,3,3,3,3,3,3,3,3,3,3,3,3,3,3,3,3,3,3,3,3,3,3,3,3,3,3,3,3,3,0,3,3] ?_
   obtain ⟨x1,hx1,heq⟩:=bind_some heq
   obtain ⟨ha1,cs1,hK1,hcc1⟩:=hra0_3.get hx1
   obtain ⟨A1,c1,rfl,hc1,hr1⟩:=kEntry_open hK1
   obtain ⟨x2,hx2,heq⟩:=bind_some heq
   obtain ⟨ha2,cs2,hK2,hcc2⟩:=hra1_3.get hx2
   obtain ⟨A2,c2,rfl,hc2,hr2⟩:=kEntry_open hK2
   refine Zr [0,1,2,3,4,5,6,7,8,9,10,11,12,13] 30 [bx 1 3,nx ha1 hx1,er hcc1 2 0,bx 0 3,nx ha2 hx2,er hcc2 2 0] (Pk 2 [0,1]) (Pk 2 [0,1]) ?_
   rcases bool_cases (!sEq x1.Key x2.Key) with hb6 | hb6
   ·replace heq:=bif_true hb6 heq
    refine Zu 75 (congrArg Value.bool hb6)<|Zr [14,15,16,17,18,19,20,21,22,23,24,25,26,27,28,29,30,31,32,33,34,35,36,37,38,39,40,41,42,43] 0 [] (Pk 2 [0,1]) (Pk 2 [0,1]) ?_
    obtain rfl:=Option.some.inj heq
    refine DrH.done (by kernel_rfl) ?_
    exact Gt 0 [] (K4)
   ·replace heq:=bif_false hb6 heq
    refine Zu 75 (congrArg Value.bool hb6) ?_
    obtain ⟨ha3,cs3,hK3,hcc3⟩:=hra0_3.get hx1
    obtain ⟨A3,c3,rfl,hc3,hr3⟩:=kEntry_open hK3
    obtain ⟨ha4,cs4,hK4,hcc4⟩:=hra1_3.get hx2
    obtain ⟨A4,c4,rfl,hc4,hr4⟩:=kEntry_open hK4
    refine Zr [14,15,16,17,18,19,20,21,22,23,24,25,26,27,28] 15 [bx 1 3,nx ha3 hx1,er hcc3 2 2,bx 0 3,nx ha4 hx2,er hcc4 2 2] (Pk 2 [0,1]) (Pk 2 [0,1]) ?_
    rcases bool_cases (x1.Used != x2.Used) with hb7 | hb7
    ·replace heq:=bif_true hb7 heq
     refine Zu 90 (congrArg Value.bool hb7)<|Zr [29,30,31,32,33,34,35,36,37,38,39,40,41,42,43] 0 [] (Pk 2 [0,1]) (Pk 2 [0,1]) ?_
     obtain rfl:=Option.some.inj heq
     refine DrH.done (by kernel_rfl) ?_
     exact Gt 0 [] (K4)
    ·replace heq:=bif_false hb7 heq
     refine Zu 90 (congrArg Value.bool hb7) ?_
     obtain ⟨ha5,cs5,hK5,hcc5⟩:=hra0_3.get hx1
     obtain ⟨A5,c5,rfl,hc5,hr5⟩:=kEntry_open hK5
     obtain ⟨ha6,cs6,hK6,hcc6⟩:=hra1_3.get hx2
     obtain ⟨A6,c6,rfl,hc6,hr6⟩:=kEntry_open hK6
     refine Zr [29,30,31,32,33,34,35,36,37,38,39,40] 3 [bx 1 3,nx ha5 hx1,er hcc5 2 1,bx 0 3,nx ha6 hx2,er hcc6 2 1] (Pk 2 [0,1]) (Pk 2 [0,1]) ?_
     obtain ⟨y1,hy1,heq⟩:=bind_some heq
     refine Dz 41 (cal 103 (smithyardref7_sameList_c hy1 (Rw.of hr5) hc5 rfl (Rw.of hr6) hc6 rfl)) ?_
     rintro _ _ _ _ ⟨_,rfl,rfl,rfl,rfl⟩
     refine ⟨fun _ w hh=>⟨fun _=>(Pk 2 [0,1]) w hh,fun _=>(Pk 2 [0,1]) w hh,(fun h=>by cases h)⟩,?_⟩
     refine Zr [42,43] 0 [] (Pk 2 [0,1]) (Pk 2 [0,1]) ?_
     obtain rfl:=Option.some.inj heq
     refine DrH.done (by kernel_rfl) ?_
     exact Gt 0 [] (K4)
  ·intro hb5 heq
   refine An 2 ?_
   exact Gt 2 [] (he2 heq)
theorem smithyardref7_Same.e1_c {r:Bool}:∀ (a0:Cache) (Aa0_2:Option Addr) (ca0_2:Nat) (Aa0_3:Option Addr) (ca0_3:Nat) (a1:Cache) (Aa1_2:Option Addr) (ca1_2:Nat) (Aa1_3:Option Addr) (ca1_3 g1 g2:Nat) ,Rw kBlob H F Aa0_2 a0.Blobs→a0.Blobs.length≤ca0_2→Rw kEntry H F Aa0_3 a0.Entries→a0.Entries.length≤ca0_3→Rw kBlob H F Aa1_2 a1.Blobs→a1.Blobs.length≤ca1_2→Rw kEntry H F Aa1_3 a1.Entries→a1.Entries.length≤ca1_3→smithyardref7_Same.e1 a0 a1=some r→RunH C8 (S8 F H r) H w0 [.c [1,1,1,0,0],.c [1,1,1,0,1],.c [1,1,1,1]] [(2,pg g1 0),(3,pg g2 0)] H ((some (g2,.cells #[iv a1.Room,iv a1.Lease,.slice Aa1_2 a1.Blobs.length ca1_2,.slice Aa1_3 a1.Entries.length ca1_3] 25 (0,0)))::(some (g1,.cells #[iv a0.Room,iv a0.Lease,.slice Aa0_2 a0.Blobs.length ca0_2,.slice Aa0_3 a0.Entries.length ca0_3] 25 (0,0)))::F):=by
 intro a0 Aa0_2 ca0_2 Aa0_3 ca0_3 a1 Aa1_2 ca1_2 Aa1_3 ca1_3 g1 g2 hra0_2 hca0_2 hra0_3 hca0_3 hra1_2 hca1_2 hra1_3 hca1_3 heq
 unfold smithyardref7_Same.e1 at heq
 refine Sa 0<|Zd 1<|An 2 ?_
 exact Gt 0 [] (((smithyardref7_Same.l3_c (e2:=smithyardref7_Same.e2) (smithyardref7_Same.e2_c)) big) a0 _ _ _ _ a1 _ _ _ _ _ _ 0 hra0_2 hca0_2 hra0_3 hca0_3 hra1_2 hca1_2 hra1_3 hca1_3 heq)
theorem smithyardref7_Same.l4_c {r:Bool} (e1:Cache→Cache→Option Bool)
  (he1:∀ (a0:Cache) (Aa0_2:Option Addr) (ca0_2:Nat) (Aa0_3:Option Addr) (ca0_3:Nat) (a1:Cache) (Aa1_2:Option Addr) (ca1_2:Nat) (Aa1_3:Option Addr) (ca1_3 g1 g2:Nat) ,Rw kBlob H F Aa0_2 a0.Blobs→a0.Blobs.length≤ca0_2→Rw kEntry H F Aa0_3 a0.Entries→a0.Entries.length≤ca0_3→Rw kBlob H F Aa1_2 a1.Blobs→a1.Blobs.length≤ca1_2→Rw kEntry H F Aa1_3 a1.Entries→a1.Entries.length≤ca1_3→e1 a0 a1=some r→RunH C8 (S8 F H r) H w0 [.c [1,1,1,0,0],.c [1,1,1,0,1],.c [1,1,1,1]] [(2,pg g1 0),(3,pg g2 0)] H ((some (g2,.cells #[iv a1.Room,iv a1.Lease,.slice Aa1_2 a1.Blobs.length ca1_2,.slice Aa1_3 a1.Entries.length ca1_3] 25 (0,0)))::(some (g1,.cells #[iv a0.Room,iv a0.Lease,.slice Aa0_2 a0.Blobs.length ca0_2,.slice Aa0_3 a0.Entries.length ca0_3] 25 (0,0)))::F)):∀ (k:Nat),∀ (a0:Cache) (Aa0_2:Option Addr) (ca0_2:Nat) (Aa0_3:Option Addr) (ca0_3:Nat) (a1:Cache) (Aa1_2:Option Addr) (ca1_2:Nat) (Aa1_3:Option Addr) (ca1_3 g1 g2:Nat) (v_i5:Int) ,Rw kBlob H F Aa0_2 a0.Blobs→a0.Blobs.length≤ca0_2→Rw kEntry H F Aa0_3 a0.Entries→a0.Entries.length≤ca0_3→Rw kBlob H F Aa1_2 a1.Blobs→a1.Blobs.length≤ca1_2→Rw kEntry H F Aa1_3 a1.Entries→a1.Entries.length≤ca1_3→smithyardref7_Same.l4 e1 k a0 a1 v_i5=some r→RunH C8 (S8 F H r) H w0 [.c [1,1,0,1,0,0],.l [1,1,0,1,0,0],.b 0,.c [1,1,1]] [(2,pg g1 0),(3,pg g2 0),(5,iv v_i5)] H ((some (g2,.cells #[iv a1.Room,iv a1.Lease,.slice Aa1_2 a1.Blobs.length ca1_2,.slice Aa1_3 a1.Entries.length ca1_3] 25 (0,0)))::(some (g1,.cells #[iv a0.Room,iv a0.Lease,.slice Aa0_2 a0.Blobs.length ca0_2,.slice Aa0_3 a0.Entries.length ca0_3] 25 (0,0)))::F):=by
 intro k
 induction k with
 | zero=>intro a0 Aa0_2 ca0_2 Aa0_3 ca0_3 a1 Aa1_2 ca1_2 Aa1_3 ca1_3 g1 g2 v_i5 hra0_2 hca0_2 hra0_3 hca0_3 hra1_2 hca1_2 hra1_3 hca1_3 heq; exact nomatch (show (none:Option Bool)=some r from heq)
 | succ k ihk =>
  intro a0 Aa0_2 ca0_2 Aa0_3 ca0_3 a1 Aa1_2 ca1_2 Aa1_3 ca1_3 g1 g2 v_i5 hra0_2 hca0_2 hra0_3 hca0_3 hra1_2 hca1_2 hra1_3 hca1_3 heq
  rw [smithyardref7_Same.l4] at heq
  refine Sa 2<|Zw 5 [bx 1 2] ?_
  refine Cb heq ?_ ?_
  ·intro hb9 heq
   refine An 4<|Sd 0 11 [] [3,3,3,3,3,3,3,3,3,3,3] ?_
   obtain ⟨x3,hx3,heq⟩:=bind_some heq
   obtain ⟨ha7,cs7,hK7,hcc7⟩:=hra0_2.get hx3
   obtain ⟨rfl⟩:=kBlob_open hK7
   obtain ⟨x4,hx4,heq⟩:=bind_some heq
   obtain ⟨ha8,cs8,hK8,hcc8⟩:=hra1_2.get hx4
   obtain ⟨rfl⟩:=kBlob_open hK8
   refine Zr [0,1,2,3,4,5,6,7,8,9,10] 0 ([bx 1 2,nx ha7 hx3]++ers hcc7 2++[bx 0 2,nx ha8 hx4]++ers hcc8 2) (Pk 2 [0,1]) (Pk 2 [0,1]) ?_
   refine DrH.done (by kernel_rfl) ?_
   refine Cb heq ?_ ?_
   ·intro hb10 heq
    refine Sa 1<|Zd 1 ?_
    obtain rfl:=Option.some.inj heq
    refine Up 2 [] ?_
    exact RunH.done (by kernel_rfl) Tryz.func8 (v:=.bool false) (by kernel_rfl) ⟨rfl,rfl,rfl⟩
   ·intro hb10 heq
    refine Sa 2<|Zd 3<|An 1 ?_
    exact Gt 0 [] (ihk a0 _ _ _ _ a1 _ _ _ _ _ _ (w64 (v_i5+1)) hra0_2 hca0_2 hra0_3 hca0_3 hra1_2 hca1_2 hra1_3 hca1_3 heq)
  ·intro hb9 heq
   refine An 3 ?_
   exact Gt 0 [] (he1 a0 _ _ _ _ a1 _ _ _ _ _ _ hra0_2 hca0_2 hra0_3 hca0_3 hra1_2 hca1_2 hra1_3 hca1_3 heq)
theorem smithyardref7_Same_c {a0:Cache} {Aa0_2:Option Addr} {na0_2 ca0_2:Nat} {Aa0_3:Option Addr} {na0_3 ca0_3:Nat} {a1:Cache} {Aa1_2:Option Addr} {na1_2 ca1_2:Nat} {Aa1_3:Option Addr} {na1_3 ca1_3:Nat} {r:Bool} (heq:smithyardref7_Same.f a0 a1=some r) (hra0_2:Rw kBlob H F Aa0_2 a0.Blobs) (hca0_2:na0_2≤ca0_2) (hna0_2:na0_2=a0.Blobs.length) (hra0_3:Rw kEntry H F Aa0_3 a0.Entries) (hca0_3:na0_3≤ca0_3) (hna0_3:na0_3=a0.Entries.length) (hra1_2:Rw kBlob H F Aa1_2 a1.Blobs) (hca1_2:na1_2≤ca1_2) (hna1_2:na1_2=a1.Blobs.length) (hra1_3:Rw kEntry H F Aa1_3 a1.Entries) (hca1_3:na1_3≤ca1_3) (hna1_3:na1_3=a1.Entries.length):CallsH Tryz.prog 8 #[.agg #[iv a0.Room,iv a0.Lease,.slice Aa0_2 na0_2 ca0_2,.slice Aa0_3 na0_3 ca0_3],.agg #[iv a1.Room,iv a1.Lease,.slice Aa1_2 na1_2 ca1_2,.slice Aa1_3 na1_3 ca1_3]] H w0 (F) (S8 F H r):=by
 refine Co C8 Tryz.func8 Tryz.ntmps8 ?_
 subst hna0_2
 subst hna0_3
 subst hna1_2
 subst hna1_3
 unfold smithyardref7_Same.f at heq
 refine Sa 1 ?_
 refine RgH.does (DoesH.new (d:=2) (v:=fun g=>.pointer (some ⟨g,0,none⟩)) (o:=fun g=>.cells #[iv a0.Room,iv a0.Lease,.slice Aa0_2 a0.Blobs.length ca0_2,.slice Aa0_3 a0.Entries.length ca0_3] 25 (0,0)) (fun g=>by kernel_rfl)) ?_
 rintro _ _ _ _ ⟨g1,rfl,rfl,rfl⟩
 refine RgH.does (DoesH.new (d:=3) (v:=fun g=>.pointer (some ⟨g,0,none⟩)) (o:=fun g=>.cells #[iv a1.Room,iv a1.Lease,.slice Aa1_2 a1.Blobs.length ca1_2,.slice Aa1_3 a1.Entries.length ca1_3] 25 (0,0)) (fun g=>by kernel_rfl)) ?_
 rintro _ _ _ _ ⟨g2,rfl,rfl,rfl⟩
 refine Zd 3<|An 2 ?_
 obtain ⟨t1,ht1,heq⟩:=bind_some heq
 have K3:RunH C8 (S8 F H r) H w0 [.c [1,0,1],.c [1,1]] [(2,pg g1 0),(3,pg g2 0),(36,.bool t1)] H ((some (g2,.cells #[iv a1.Room,iv a1.Lease,.slice Aa1_2 a1.Blobs.length ca1_2,.slice Aa1_3 a1.Entries.length ca1_3] 25 (0,0)))::(some (g1,.cells #[iv a0.Room,iv a0.Lease,.slice Aa0_2 a0.Blobs.length ca0_2,.slice Aa0_3 a0.Entries.length ca0_3] 25 (0,0)))::F):=by
  refine Cb heq ?_ ?_
  ·intro hb4 heq
   refine Sa 1<|Zd 1 ?_
   obtain rfl:=Option.some.inj heq
   refine Up 2 [] ?_
   exact RunH.done (by kernel_rfl) Tryz.func8 (v:=.bool false) (by kernel_rfl) ⟨rfl,rfl,rfl⟩
  ·intro hb4 heq
   refine Sa 3<|Zd 1<|An 2 ?_
   exact Gt 0 [] (((smithyardref7_Same.l4_c (e1:=smithyardref7_Same.e1) (smithyardref7_Same.e1_c)) big) a0 _ _ _ _ a1 _ _ _ _ _ _ 0 hra0_2 hca0_2 hra0_3 hca0_3 hra1_2 hca1_2 hra1_3 hca1_3 heq)
 replace heq:=ht1
 refine Sa 0<|Zv 6 [bx 1 0,bx 0 0] ?_
 rcases bool_cases (a0.Room != a1.Room) with hb1 | hb1
 ·replace heq:=bif_true hb1 heq
  refine Zs 12 (congrArg Value.bool hb1)<|Zk 30 ?_
  obtain rfl:=Option.some.inj heq
  refine Dn ?_
  exact Gt 0 [] (K3)
 ·replace heq:=bif_false hb1 heq
  refine Zs 12 (congrArg Value.bool hb1)<|Zv 13 [bx 1 1,bx 0 1] ?_
  rcases bool_cases (a0.Lease != a1.Lease) with hb2 | hb2
  ·replace heq:=bif_true hb2 heq
   refine Zs 19 (congrArg Value.bool hb2)<|Zk 30 ?_
   obtain rfl:=Option.some.inj heq
   refine Dn ?_
   exact Gt 0 [] (K3)
  ·replace heq:=bif_false hb2 heq
   refine Zs 19 (congrArg Value.bool hb2)<|Zv 22 [bx 1 2,bx 0 2] ?_
   rcases bool_cases ((a0.Blobs.length:Int) != (a1.Blobs.length:Int)) with hb3 | hb3
   ·replace heq:=bif_true hb3 heq
    refine Zs 28 (congrArg Value.bool hb3)<|Zk 30 ?_
    obtain rfl:=Option.some.inj heq
    refine Dn ?_
    exact Gt 0 [] (K3)
   ·replace heq:=bif_false hb3 heq
    refine Zs 28 (congrArg Value.bool hb3)<|Zv 30 [bx 1 3,bx 0 3] ?_
    obtain rfl:=Option.some.inj heq
    refine Dn ?_
    exact Gt 0 [] (K3)
noncomputable def C9:Ctx:={ P:=Tryz.prog,f:=9,N:=56,c:=bodyOf Tryz.f9 }
def S9 (F:List Ch) (H0:Hp) (r:Bool) (v:Value) (H:Hp) (cs:List Ch):Prop:=H0=H∧v=.bool r∧F=cs
theorem smithyardref7_SameAnswers.e1_c {r:Bool}:smithyardref7_SameAnswers.e1=some r→RunH C9 (S9 F H r) H w0 [.c [1,1,1,0],.c [1,1,1,1]] [] H (F):=by
 intro   heq
 unfold smithyardref7_SameAnswers.e1 at heq
 refine Sa 0<|Zd 1 ?_
 obtain rfl:=Option.some.inj heq
 exact RunH.done (by kernel_rfl) Tryz.func9 (v:=.bool true) (by kernel_rfl) ⟨rfl,rfl,rfl⟩
theorem smithyardref7_SameAnswers.l2_c {r:Bool} (e1:Option Bool)
  (he1:e1=some r→RunH C9 (S9 F H r) H w0 [.c [1,1,1,0],.c [1,1,1,1]] [] H (F)):∀ (k:Nat),∀ (a0:List CacheAnswer) (Aa0:Option Addr) (ca0:Nat) (a1:List CacheAnswer) (Aa1:Option Addr) (ca1:Nat) (v_i5:Int) ,Rw kCacheAnswer H F Aa0 a0→a0.length≤ca0→Rw kCacheAnswer H F Aa1 a1→a1.length≤ca1→smithyardref7_SameAnswers.l2 e1 k a0 a1 v_i5=some r→RunH C9 (S9 F H r) H w0 [.c [1,1,0,1,0,0],.l [1,1,0,1,0,0],.b 0,.c [1,1,1]] [(0,.slice Aa0 a0.length ca0),(1,.slice Aa1 a1.length ca1),(5,iv v_i5)] H (F):=by
 intro k
 induction k with
 | zero=>intro a0 Aa0 ca0 a1 Aa1 ca1 v_i5 hra0 hca0 hra1 hca1 heq; exact nomatch (show (none:Option Bool)=some r from heq)
 | succ k ihk =>
  intro a0 Aa0 ca0 a1 Aa1 ca1 v_i5 hra0 hca0 hra1 hca1 heq
  rw [smithyardref7_SameAnswers.l2] at heq
  refine Sa 2<|Zd 4 ?_
  refine Cb heq ?_ ?_
  ·intro hb2 heq
   refine An 4 ?_
   obtain ⟨t1,ht1,heq⟩:=bind_some heq
   have K1:RunH C9 (S9 F H r) H w0 [.c [1,1,0,1,0,0,1,0,0,1],.b 1,.c [1,1,0,1,0,0,1,1],.l [1,1,0,1,0,0],.b 0,.c [1,1,1]] [(0,.slice Aa0 a0.length ca0),(1,.slice Aa1 a1.length ca1),(5,iv v_i5),(55,.bool t1)] H (F):=by
    refine Cb heq ?_ ?_
    ·intro hb5 heq
     refine Sa 1<|Zd 1 ?_
     obtain rfl:=Option.some.inj heq
     exact RunH.done (by kernel_rfl) Tryz.func9 (v:=.bool false) (by kernel_rfl) ⟨rfl,rfl,rfl⟩
    ·intro hb5 heq
     refine Sa 2<|Zd 3<|An 1 ?_
     exact Gt 0 [] (ihk a0 _ _ a1 _ _ (w64 (v_i5+1)) hra0 hca0 hra1 hca1 heq)
   replace heq:=ht1
   refine Sd 0 39 [] [3,3,3,3,3,3,3,3,3,3,3,3,3,3,3,3,3,3,3,3,3,3,0,3,3,3,3,3,3,3,3,3,3,3,3,3,0,3,3] ?_
   obtain ⟨x1,hx1,heq⟩:=bind_some heq
   obtain ⟨ha1,cs1,hK1,hcc1⟩:=hra0.get hx1
   obtain ⟨A1,c1,A2,c2,rfl,hc1,hr1,hc2,hr2⟩:=kCacheAnswer_open hK1
   obtain ⟨x2,hx2,heq⟩:=bind_some heq
   obtain ⟨ha2,cs2,hK2,hcc2⟩:=hra1.get hx2
   obtain ⟨A3,c3,A4,c4,rfl,hc3,hr3,hc4,hr4⟩:=kCacheAnswer_open hK2
   refine Zr [0,1,2,3,4,5,6,7,8,9,10,11] 27 [nx ha1 hx1,er hcc1 0 0,nx ha2 hx2,er hcc2 0 0] (Pk 0 []) (Pk 0 []) ?_
   rcases bool_cases (!(x1.Done == x2.Done)) with hb3 | hb3
   ·replace heq:=bif_true hb3 heq
    refine Zu 28 (congrArg Value.bool hb3)<|Zr [12,13,14,15,16,17,18,19,20,21,22,23,24,25,26,27,28,29,30,31,32,33,34,35,36,37,38] 0 [] (Pk 0 []) (Pk 0 []) ?_
    obtain rfl:=Option.some.inj heq
    refine DrH.done (by kernel_rfl) ?_
    exact Gt 0 [] (K1)
   ·replace heq:=bif_false hb3 heq
    refine Zu 28 (congrArg Value.bool hb3) ?_
    obtain ⟨ha3,cs3,hK3,hcc3⟩:=hra0.get hx1
    obtain ⟨A5,c5,A6,c6,rfl,hc5,hr5,hc6,hr6⟩:=kCacheAnswer_open hK3
    obtain ⟨ha4,cs4,hK4,hcc4⟩:=hra1.get hx2
    obtain ⟨A7,c7,A8,c8,rfl,hc7,hr7,hc8,hr8⟩:=kCacheAnswer_open hK4
    refine Zr [12,13,14,15,16,17,18,19,20,21] 17 [nx ha3 hx1,er hcc3 0 1,nx ha4 hx2,er hcc4 0 1] (Pk 0 []) (Pk 0 []) ?_
    obtain ⟨y1,hy1,heq⟩:=bind_some heq
    refine Dz 22 (cal 39 (smithyardref7_sameList_c hy1 (Rw.of hr5) hc5 rfl (Rw.of hr7) hc7 rfl)) ?_
    rintro _ _ _ _ ⟨_,rfl,rfl,rfl,rfl⟩
    refine ⟨fun _ w hh=>⟨fun _=>(Pk 0 []) w hh,fun _=>(Pk 0 []) w hh,(fun h=>by cases h)⟩,?_⟩
    refine Zr [23,24,25] 13 [] (Pk 0 []) (Pk 0 []) ?_
    rcases bool_cases (!y1) with hb4 | hb4
    ·replace heq:=bif_true hb4 heq
     refine Zu 42 (congrArg Value.bool hb4)<|Zr [26,27,28,29,30,31,32,33,34,35,36,37,38] 0 [] (Pk 0 []) (Pk 0 []) ?_
     obtain rfl:=Option.some.inj heq
     refine DrH.done (by kernel_rfl) ?_
     exact Gt 0 [] (K1)
    ·replace heq:=bif_false hb4 heq
     refine Zu 42 (congrArg Value.bool hb4) ?_
     obtain ⟨ha5,cs5,hK5,hcc5⟩:=hra0.get hx1
     obtain ⟨A9,c9,A10,c10,rfl,hc9,hr9,hc10,hr10⟩:=kCacheAnswer_open hK5
     obtain ⟨ha6,cs6,hK6,hcc6⟩:=hra1.get hx2
     obtain ⟨A11,c11,A12,c12,rfl,hc11,hr11,hc12,hr12⟩:=kCacheAnswer_open hK6
     refine Zr [26,27,28,29,30,31,32,33,34,35] 3 [nx ha5 hx1,er hcc5 0 2,nx ha6 hx2,er hcc6 0 2] (Pk 0 []) (Pk 0 []) ?_
     obtain ⟨y2,hy2,heq⟩:=bind_some heq
     refine Dz 36 (cal 53 (smithyardref7_sameList_c hy2 (Rw.of hr10) hc10 rfl (Rw.of hr12) hc12 rfl)) ?_
     rintro _ _ _ _ ⟨_,rfl,rfl,rfl,rfl⟩
     refine ⟨fun _ w hh=>⟨fun _=>(Pk 0 []) w hh,fun _=>(Pk 0 []) w hh,(fun h=>by cases h)⟩,?_⟩
     refine Zr [37,38] 0 [] (Pk 0 []) (Pk 0 []) ?_
     obtain rfl:=Option.some.inj heq
     refine DrH.done (by kernel_rfl) ?_
     exact Gt 0 [] (K1)
  ·intro hb2 heq
   refine An 2 ?_
   exact Gt 0 [] (he1 heq)
theorem smithyardref7_SameAnswers_c {a0:List CacheAnswer} {Aa0:Option Addr} {na0 ca0:Nat} {a1:List CacheAnswer} {Aa1:Option Addr} {na1 ca1:Nat} {r:Bool} (heq:smithyardref7_SameAnswers.f a0 a1=some r) (hra0:Rw kCacheAnswer H F Aa0 a0) (hca0:na0≤ca0) (hna0:na0=a0.length) (hra1:Rw kCacheAnswer H F Aa1 a1) (hca1:na1≤ca1) (hna1:na1=a1.length):CallsH Tryz.prog 9 #[.slice Aa0 na0 ca0,.slice Aa1 na1 ca1] H w0 (F) (S9 F H r):=by
 refine Co C9 Tryz.func9 Tryz.ntmps9 ?_
 subst hna0
 subst hna1
 unfold smithyardref7_SameAnswers.f at heq
 refine Sa 1<|Zd 1<|Sa 2<|Zd 5 ?_
 refine Cb heq ?_ ?_
 ·intro hb1 heq
  refine Sa 1<|Zd 1 ?_
  obtain rfl:=Option.some.inj heq
  exact RunH.done (by kernel_rfl) Tryz.func9 (v:=.bool false) (by kernel_rfl) ⟨rfl,rfl,rfl⟩
 ·intro hb1 heq
  refine Sa 3<|Zd 1<|An 2 ?_
  exact Gt 0 [] (((smithyardref7_SameAnswers.l2_c (e1:=smithyardref7_SameAnswers.e1) (smithyardref7_SameAnswers.e1_c)) big) a0 _ _ a1 _ _ 0 hra0 hca0 hra1 hca1 heq)
noncomputable def C10:Ctx:={ P:=Tryz.prog,f:=10,N:=68,c:=bodyOf Tryz.f10 }
def S10 (F:List Ch) (H0:Hp) (r:Bool) (v:Value) (H:Hp) (cs:List Ch):Prop:=H0=H∧v=.bool r∧F=cs
theorem smithyardref7_SameEvents.e1_c {r:Bool}:smithyardref7_SameEvents.e1=some r→RunH C10 (S10 F H r) H w0 [.c [1,1,1,0],.c [1,1,1,1]] [] H (F):=by
 intro   heq
 unfold smithyardref7_SameEvents.e1 at heq
 refine Sa 0<|Zd 1 ?_
 obtain rfl:=Option.some.inj heq
 exact RunH.done (by kernel_rfl) Tryz.func10 (v:=.bool true) (by kernel_rfl) ⟨rfl,rfl,rfl⟩
theorem smithyardref7_SameEvents.l2_c {r:Bool} (e1:Option Bool)
  (he1:e1=some r→RunH C10 (S10 F H r) H w0 [.c [1,1,1,0],.c [1,1,1,1]] [] H (F)):∀ (k:Nat),∀ (a0:List CacheEvent) (Aa0:Option Addr) (ca0:Nat) (a1:List CacheEvent) (Aa1:Option Addr) (ca1:Nat) (v_i5:Int) ,Rw kCacheEvent H F Aa0 a0→a0.length≤ca0→Rw kCacheEvent H F Aa1 a1→a1.length≤ca1→smithyardref7_SameEvents.l2 e1 k a0 a1 v_i5=some r→RunH C10 (S10 F H r) H w0 [.c [1,1,0,1,0,0],.l [1,1,0,1,0,0],.b 0,.c [1,1,1]] [(0,.slice Aa0 a0.length ca0),(1,.slice Aa1 a1.length ca1),(5,iv v_i5)] H (F):=by
 intro k
 induction k with
 | zero=>intro a0 Aa0 ca0 a1 Aa1 ca1 v_i5 hra0 hca0 hra1 hca1 heq; exact nomatch (show (none:Option Bool)=some r from heq)
 | succ k ihk =>
  intro a0 Aa0 ca0 a1 Aa1 ca1 v_i5 hra0 hca0 hra1 hca1 heq
  rw [smithyardref7_SameEvents.l2] at heq
  refine Sa 2<|Zd 4 ?_
  refine Cb heq ?_ ?_
  ·intro hb2 heq
   refine An 4<|Sd 0 12 [] [3,3,3,3,3,3,3,3,0,0,0,0] ?_
   obtain ⟨x1,hx1,heq⟩:=bind_some heq
   obtain ⟨ha1,cs1,hK1,hcc1⟩:=hra0.get hx1
   obtain ⟨A1,c1,rfl,hc1,hr1⟩:=kCacheEvent_open hK1
   obtain ⟨x2,hx2,heq⟩:=bind_some heq
   obtain ⟨ha2,cs2,hK2,hcc2⟩:=hra1.get hx2
   obtain ⟨A2,c2,rfl,hc2,hr2⟩:=kCacheEvent_open hK2
   refine Zr [0,1,2,3,4,5,6,7] 4 ([nx ha1 hx1]++ers hcc1 0++[nx ha2 hx2]++ers hcc2 0) (Pk 0 []) (Pk 0 [])<|Kr [0,1,5,22,26] [(0,.slice Aa0 a0.length ca0),(1,.slice Aa1 a1.length ca1),(5,iv v_i5),(22,.agg #[iv x1.Kind,iv x1.At,.string x1.Digest,.slice A1 x1.Digests.length c1,.string x1.Key,iv x1.Size]),(26,.agg #[iv x2.Kind,iv x2.At,.string x2.Digest,.slice A2 x2.Digests.length c2,.string x2.Key,iv x2.Size])] ?_
   refine DrF.start [(8,6,none,.cells #[iv 0,iv 0,.string ByteArray.empty,.slice none 0 0,.string ByteArray.empty,iv 0] 28 (0,0)),(9,7,none,.cells #[iv 0,iv 0,.string ByteArray.empty,.slice none 0 0,.string ByteArray.empty,iv 0] 28 (0,0))] (n:=2) (by kernel_rfl) ?_
   refine DrF.keep [0,1,5,22,26] (L':=[(0,.slice Aa0 a0.length ca0),(1,.slice Aa1 a1.length ca1),(5,iv v_i5),(22,.agg #[iv x1.Kind,iv x1.At,.string x1.Digest,.slice A1 x1.Digests.length c1,.string x1.Key,iv x1.Size]),(26,.agg #[iv x2.Kind,iv x2.At,.string x2.Digest,.slice A2 x2.Digests.length c2,.string x2.Key,iv x2.Size])]) (by kernel_rfl) (by kernel_rfl) ?_
   refine DrF.close2 (n:=2) (ls':=[true,true,true,true,true,true,true,true,true,true,false,false]) (by kernel_rfl) ⟨fun E g=>by kernel_rfl,fun E g=>by kernel_rfl,trivial⟩ (by kernel_rfl) (by kernel_rfl) rfl (fun w hh=>⟨(Pk 0 []) w hh,(Pk 0 []) w hh⟩) ?_
   intro g1 g2
   refine Dz 10 (DoesH.store (k:=0) (g:=g1) (off:=0) (v:=.agg #[iv x1.Kind,iv x1.At,.string x1.Digest,.slice A1 x1.Digests.length c1,.string x1.Key,iv x1.Size]) (cells':=#[iv x1.Kind,iv x1.At,.string x1.Digest,.slice A1 x1.Digests.length c1,.string x1.Key,iv x1.Size]) (by kernel_rfl) rfl (by kernel_rfl) (by kernel_rfl)) ?_
   rintro _ _ _ _ ⟨rfl,rfl,rfl⟩
   refine ⟨fun _ w hh=>⟨fun _=>(Pk 2 []) w hh,fun _=>(Pk 2 []) w hh,(fun h=>by cases h)⟩,?_⟩
   refine DrH.nrm ?_
   refine Dz 11 (DoesH.store (k:=1) (g:=g2) (off:=0) (v:=.agg #[iv x2.Kind,iv x2.At,.string x2.Digest,.slice A2 x2.Digests.length c2,.string x2.Key,iv x2.Size]) (cells':=#[iv x2.Kind,iv x2.At,.string x2.Digest,.slice A2 x2.Digests.length c2,.string x2.Key,iv x2.Size]) (by kernel_rfl) rfl (by kernel_rfl) (by kernel_rfl)) ?_
   rintro _ _ _ _ ⟨rfl,rfl,rfl⟩
   refine ⟨fun _ w hh=>⟨fun _=>(Pk 2 []) w hh,fun _=>(Pk 2 []) w hh,(fun h=>by cases h)⟩,?_⟩
   refine DrH.nrm ?_
   refine DrH.done (by kernel_rfl) ?_
   refine An 1 ?_
   obtain ⟨t1,ht1,heq⟩:=bind_some heq
   have K3:RunH C10 (S10 F H r) H w0 [.c [1,1,0,1,0,0,1,0,0,1,1],.b 1,.c [1,1,0,1,0,0,1,1],.l [1,1,0,1,0,0],.b 0,.c [1,1,1]] [(0,.slice Aa0 a0.length ca0),(1,.slice Aa1 a1.length ca1),(5,iv v_i5),(67,.bool t1)] H (F):=by
    refine Cb heq ?_ ?_
    ·intro hb8 heq
     refine Sa 1<|Zd 1 ?_
     obtain rfl:=Option.some.inj heq
     exact RunH.done (by kernel_rfl) Tryz.func10 (v:=.bool false) (by kernel_rfl) ⟨rfl,rfl,rfl⟩
    ·intro hb8 heq
     refine Sa 2<|Zd 3<|An 1 ?_
     exact Gt 0 [] (ihk a0 _ _ a1 _ _ (w64 (v_i5+1)) hra0 hca0 hra1 hca1 heq)
   replace heq:=ht1
   refine Sa 0<|Zv 6 [bx 0 0,bx 1 0] ?_
   rcases bool_cases (x1.Kind != x2.Kind) with hb3 | hb3
   ·replace heq:=bif_true hb3 heq
    refine Zs 32 (congrArg Value.bool hb3)<|Zk 41 ?_
    obtain rfl:=Option.some.inj heq
    refine Dn ?_
    exact Gt 2 [] (K3)
   ·replace heq:=bif_false hb3 heq
    refine Zs 32 (congrArg Value.bool hb3)<|Zv 13 [bx 0 1,bx 1 1] ?_
    rcases bool_cases (x1.At != x2.At) with hb4 | hb4
    ·replace heq:=bif_true hb4 heq
     refine Zs 39 (congrArg Value.bool hb4)<|Zk 41 ?_
     obtain rfl:=Option.some.inj heq
     refine Dn ?_
     exact Gt 2 [] (K3)
    ·replace heq:=bif_false hb4 heq
     refine Zs 39 (congrArg Value.bool hb4)<|Zv 20 [bx 0 2,bx 1 2] ?_
     rcases bool_cases (!sEq x1.Digest x2.Digest) with hb5 | hb5
     ·replace heq:=bif_true hb5 heq
      refine Zs 46 (congrArg Value.bool hb5)<|Zk 41 ?_
      obtain rfl:=Option.some.inj heq
      refine Dn ?_
      exact Gt 2 [] (K3)
     ·replace heq:=bif_false hb5 heq
      refine Zs 46 (congrArg Value.bool hb5)<|Zv 27 [bx 0 4,bx 1 4] ?_
      rcases bool_cases (!sEq x1.Key x2.Key) with hb6 | hb6
      ·replace heq:=bif_true hb6 heq
       refine Zs 53 (congrArg Value.bool hb6)<|Zk 41 ?_
       obtain rfl:=Option.some.inj heq
       refine Dn ?_
       exact Gt 2 [] (K3)
      ·replace heq:=bif_false hb6 heq
       refine Zs 53 (congrArg Value.bool hb6)<|Zv 34 [bx 0 5,bx 1 5] ?_
       rcases bool_cases (x1.Size != x2.Size) with hb7 | hb7
       ·replace heq:=bif_true hb7 heq
        refine Zs 60 (congrArg Value.bool hb7)<|Zk 41 ?_
        obtain rfl:=Option.some.inj heq
        refine Dn ?_
        exact Gt 2 [] (K3)
       ·replace heq:=bif_false hb7 heq
        refine Zs 60 (congrArg Value.bool hb7)<|Zv 38 [bx 0 3,bx 1 3] ?_
        obtain ⟨y1,hy1,heq⟩:=bind_some heq
        refine RgH.does (cal 65 (smithyardref7_sameList_c hy1 (Rw.of hr1) hc1 rfl (Rw.of hr2) hc2 rfl)) ?_
        rintro _ _ _ _ ⟨_,rfl,rfl,rfl,rfl⟩
        refine Zk 41 ?_
        obtain rfl:=Option.some.inj heq
        refine Dn ?_
        exact Gt 2 [] (K3)
  ·intro hb2 heq
   refine An 2 ?_
   exact Gt 0 [] (he1 heq)
theorem smithyardref7_SameEvents_c {a0:List CacheEvent} {Aa0:Option Addr} {na0 ca0:Nat} {a1:List CacheEvent} {Aa1:Option Addr} {na1 ca1:Nat} {r:Bool} (heq:smithyardref7_SameEvents.f a0 a1=some r) (hra0:Rw kCacheEvent H F Aa0 a0) (hca0:na0≤ca0) (hna0:na0=a0.length) (hra1:Rw kCacheEvent H F Aa1 a1) (hca1:na1≤ca1) (hna1:na1=a1.length):CallsH Tryz.prog 10 #[.slice Aa0 na0 ca0,.slice Aa1 na1 ca1] H w0 (F) (S10 F H r):=by
 refine Co C10 Tryz.func10 Tryz.ntmps10 ?_
 subst hna0
 subst hna1
 unfold smithyardref7_SameEvents.f at heq
 refine Sa 1<|Zd 1<|Sa 2<|Zd 5 ?_
 refine Cb heq ?_ ?_
 ·intro hb1 heq
  refine Sa 1<|Zd 1 ?_
  obtain rfl:=Option.some.inj heq
  exact RunH.done (by kernel_rfl) Tryz.func10 (v:=.bool false) (by kernel_rfl) ⟨rfl,rfl,rfl⟩
 ·intro hb1 heq
  refine Sa 3<|Zd 1<|An 2 ?_
  exact Gt 0 [] (((smithyardref7_SameEvents.l2_c (e1:=smithyardref7_SameEvents.e1) (smithyardref7_SameEvents.e1_c)) big) a0 _ _ a1 _ _ 0 hra0 hca0 hra1 hca1 heq)
noncomputable def C21:Ctx:={ P:=Tryz.prog,f:=21,N:=18,c:=bodyOf Tryz.f21 }
def S21 (F:List Ch) (H0:Hp) (r:Cache × Int) (v:Value) (H:Hp) (cs:List Ch):Prop:=∃ (A0_2:Option Addr) (c0_2:Nat) (ch0_2:Ch) (A0_3:Option Addr) (c0_3:Nat) (ch0_3:Ch),H0=H∧v=.tuple #[.agg #[iv r.1.Room,iv r.1.Lease,.slice A0_2 r.1.Blobs.length c0_2,.slice A0_3 r.1.Entries.length c0_3],iv r.2]∧ch0_2::ch0_3::F=cs∧SlOwn kBlob 45 H A0_2 c0_2 r.1.Blobs ch0_2∧SlOwn kEntry 47 H A0_3 c0_3 r.1.Entries ch0_3
theorem cache_New_c {a0 a1:Int} {r:Cache × Int} (heq:cache_New.f a0 a1=some r):CallsH Tryz.prog 21 #[iv a0,iv a1] H w0 (F) (S21 F H r):=by
 refine Co C21 Tryz.func21 Tryz.ntmps21 ?_
 unfold cache_New.f at heq
 refine Sa 1 ?_
 refine RgH.does (DoesH.new (d:=4) (v:=fun g=>.pointer (some ⟨g,0,none⟩)) (o:=fun g=>.cells #[iv 0,iv 0,.slice none 0 0,.slice none 0 0] 25 (0,0)) (fun g=>by kernel_rfl)) ?_
 rintro _ _ _ _ ⟨g1,rfl,rfl,rfl⟩
 refine Zd 2<|Sa 1<|Zk 3 ?_
 refine RgH.does (DoesH.new (d:=6) (v:=fun g=>.pointer (some ⟨g,0,none⟩)) (o:=fun g=>.cells #[iv 0,iv 0,.slice none 0 0,.slice none 0 0] 25 (0,0)) (fun g=>by kernel_rfl)) ?_
 rintro _ _ _ _ ⟨g2,rfl,rfl,rfl⟩
 refine RgH.does (DoesH.store (k:=0) (g:=g2) (off:=0) (v:=.agg #[iv a0,iv a1,.slice none 0 0,.slice none 0 0]) (cells':=#[iv a0,iv a1,.slice none 0 0,.slice none 0 0]) (by kernel_rfl) rfl (by kernel_rfl) (by kernel_rfl)) ?_
 rintro _ _ _ _ ⟨rfl,rfl,rfl⟩
 refine RgH.nrm ?_
 refine Dn<|Sa 2<|Zv 1 (bxs 0) ?_
 obtain ⟨y1,hy1,heq⟩:=bind_some heq
 refine RgH.does (cal 12 (cache_CheckCache_c (a0:=(⟨a0,a1,([]:List Blob),([]:List Entry)⟩:Cache)) hy1 (Rw.nil (A:=none)) (Nat.le_refl _) rfl (Rw.nil (A:=none)) (Nat.le_refl _) rfl)) ?_
 rintro _ _ _ _ ⟨_,rfl,rfl,rfl,rfl⟩
 refine Zd 3<|Sa 1<|Zd 2 ?_
 refine Cb heq ?_ ?_
 ·intro hb1 heq
  refine Sa 1<|Zk 2 ?_
  refine RgH.does (DoesH.store (k:=1) (g:=g1) (off:=0) (v:=.agg #[iv 0,iv 0,.slice none 0 0,.slice none 0 0]) (cells':=#[iv 0,iv 0,.slice none 0 0,.slice none 0 0]) (by kernel_rfl) rfl (by kernel_rfl) (by kernel_rfl)) ?_
  rintro _ _ _ _ ⟨rfl,rfl,rfl⟩
  refine RgH.nrm ?_
  refine Zd 4<|RunH.nilc ?_
  have ho1:SlOwn kBlob 45 H none 0 ([]:List Blob) none:=SlOwn.nil
  refine RunH.nilc ?_
  have ho2:SlOwn kEntry 47 H none 0 ([]:List Entry) none:=SlOwn.nil
  obtain rfl:=Option.some.inj heq
  refine Up 4 [3,1,0] ?_
  exact RunH.doneM' 1 (vs:=[.agg #[iv 0,iv 0,.slice none 0 0,.slice none 0 0],iv y1]) (v:=.tuple #[.agg #[iv 0,iv 0,.slice none 0 0,.slice none 0 0],iv y1]) (by kernel_rfl) Tryz.func21 (fun w hh=>show ResAll _ _ _ [.cell 4 25,.tmp 5] _ from ⟨⟨⟨g1,0,none⟩,by kernel_rfl,trS_run _ (vs:=[iv 0,iv 0,.slice none 0 0,.slice none 0 0]) (r:=[]) (es:=[.load ⟨g1,0,none⟩ (iv 0),.load ⟨g1,1,none⟩ (iv 0),.load ⟨g1,2,none⟩ (.slice none 0 0),.load ⟨g1,3,none⟩ (.slice none 0 0)]) (by kernel_rfl) ⟨(hh.box 0 rfl rfl),(hh.box 0 rfl rfl),(hh.box 0 rfl rfl),(hh.box 0 rfl rfl)⟩⟩,(show lk _ _=some _ by kernel_rfl),trivial⟩) rfl (cs':=none::none::F) rfl ⟨none,0,none,none,0,none,rfl,rfl,rfl,ho1,ho2⟩
 ·intro hb1 heq
  refine Sa 2<|Zv 1 (bxs 0) ?_
  refine RgH.does (DoesH.store (k:=1) (g:=g1) (off:=0) (v:=.agg #[iv a0,iv a1,.slice none 0 0,.slice none 0 0]) (cells':=#[iv a0,iv a1,.slice none 0 0,.slice none 0 0]) (by kernel_rfl) rfl (by kernel_rfl) (by kernel_rfl)) ?_
  rintro _ _ _ _ ⟨rfl,rfl,rfl⟩
  refine RgH.nrm ?_
  refine Zd 3<|RunH.nilc ?_
  have ho3:SlOwn kBlob 45 H none 0 ([]:List Blob) none:=SlOwn.nil
  refine RunH.nilc ?_
  have ho4:SlOwn kEntry 47 H none 0 ([]:List Entry) none:=SlOwn.nil
  obtain rfl:=Option.some.inj heq
  refine Up 4 [3,1,0] ?_
  exact RunH.doneM' 1 (vs:=[.agg #[iv a0,iv a1,.slice none 0 0,.slice none 0 0],iv 0]) (v:=.tuple #[.agg #[iv a0,iv a1,.slice none 0 0,.slice none 0 0],iv 0]) (by kernel_rfl) Tryz.func21 (fun w hh=>show ResAll _ _ _ [.cell 4 25,.tmp 5] _ from ⟨⟨⟨g1,0,none⟩,by kernel_rfl,trS_run _ (vs:=[iv a0,iv a1,.slice none 0 0,.slice none 0 0]) (r:=[]) (es:=[.load ⟨g1,0,none⟩ (iv a0),.load ⟨g1,1,none⟩ (iv a1),.load ⟨g1,2,none⟩ (.slice none 0 0),.load ⟨g1,3,none⟩ (.slice none 0 0)]) (by kernel_rfl) ⟨(hh.box 0 rfl rfl),(hh.box 0 rfl rfl),(hh.box 0 rfl rfl),(hh.box 0 rfl rfl)⟩⟩,(show lk _ _=some _ by kernel_rfl),trivial⟩) rfl (cs':=none::none::F) rfl ⟨none,0,none,none,0,none,rfl,rfl,rfl,ho3,ho4⟩
noncomputable def C11:Ctx:={ P:=Tryz.prog,f:=11,N:=19,c:=bodyOf Tryz.f11 }
def S11 (F:List Ch) (H0:Hp) (r:Bool) (v:Value) (H:Hp) (cs:List Ch):Prop:=H0=H∧v=.bool r∧F=cs
theorem smithyardlaw7_awake_c {r:Bool} (heq:smithyardlaw7_awake.f=some r):CallsH Tryz.prog 11 (List.toArray []) H w0 (F) (S11 F H r):=by
 refine Co C11 Tryz.func11 Tryz.ntmps11 ?_
 unfold smithyardlaw7_awake.f at heq
 refine Sa 1<|Zd 1<|Sa 1 ?_
 obtain ⟨y1,hy1,heq⟩:=bind_some heq
 refine RgH.does (cal 4 (cache_New_c hy1 )) ?_
 rintro _ _ _ _ ⟨_,rfl,A1,c1,ch1,A2,c2,ch2,rfl,rfl,rfl,ho1,ho2⟩
 refine Zk 4 ?_
 refine RgH.does (DoesH.new (d:=1) (v:=fun g=>.pointer (some ⟨g,0,none⟩)) (o:=fun g=>.cells #[iv 0,iv 0,.slice none 0 0,.slice none 0 0] 25 (0,0)) (fun g=>by kernel_rfl)) ?_
 rintro _ _ _ _ ⟨g1,rfl,rfl,rfl⟩
 refine RgH.does (DoesH.store (k:=0) (g:=g1) (off:=0) (v:=.agg #[iv y1.1.Room,iv y1.1.Lease,.slice A1 y1.1.Blobs.length c1,.slice A2 y1.1.Entries.length c2]) (cells':=#[iv y1.1.Room,iv y1.1.Lease,.slice A1 y1.1.Blobs.length c1,.slice A2 y1.1.Entries.length c2]) (by kernel_rfl) rfl (by kernel_rfl) (by kernel_rfl)) ?_
 rintro _ _ _ _ ⟨rfl,rfl,rfl⟩
 refine RgH.nrm ?_
 refine Zd 7<|An 1 ?_
 obtain ⟨t1,ht1,heq⟩:=bind_some heq
 have K4:RunH C11 (S11 F H r) H w0 [.c [1,1,1]] [(0,.bool t1)] H (F):=by
  obtain rfl:=Option.some.inj heq
  exact RunH.done (by kernel_rfl) Tryz.func11 (v:=.bool t1) (by kernel_rfl) ⟨rfl,rfl,rfl⟩
 replace heq:=ht1
 refine Sa 0<|Zk 3 ?_
 rcases bool_cases (y1.2 == 0) with hb1 | hb1
 ·replace heq:=bif_true hb1 heq
  refine Zs 9 (congrArg Value.bool hb1)<|Zv 8 [bx 0 0] ?_
  rcases bool_cases (y1.1.Room == 5) with hb2 | hb2
  ·replace heq:=bif_true hb2 heq
   refine Zs 14 (congrArg Value.bool hb2)<|Zv 13 [bx 0 1] ?_
   obtain rfl:=Option.some.inj heq
   refine Dn ?_
   exact Gt 3 [] (K4)
  ·replace heq:=bif_false hb2 heq
   refine Zs 14 (congrArg Value.bool hb2)<|Zk 13 ?_
   obtain rfl:=Option.some.inj heq
   refine Dn ?_
   exact Gt 3 [] (K4)
 ·replace heq:=bif_false hb1 heq
  refine Zs 9 (congrArg Value.bool hb1)<|Zk 13 ?_
  obtain rfl:=Option.some.inj heq
  refine Dn ?_
  exact Gt 3 [] (K4)
end Go.Proofs.YtjdnnkdhajhdkaaGreatDoor
