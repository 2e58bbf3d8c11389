/- What the machine's calls of these functions come to: just what the plain functions say. Written by program. -/
import Derived.Test.YtadkanllaocdeaaDoorProg
import Derived.Test.YtadkanllaocdeaaDoorKitX
import Derived.Test.YtadkanllaocdeaaDoorZD
import Derived.Test.YtadkanllaocdeaaDoorShelf
import Derived.Test.YtadkanllaocdeaaDoorKitBs
import Derived.Test.YtadkanllaocdeaaDoorZ3M3
set_option linter.unusedVariables false
set_option linter.unnecessarySimpa false
set_option linter.unusedSimpArgs false
set_option maxRecDepth 100000
set_option maxHeartbeats 1000000
namespace Go.Proofs.YtadkanllaocdeaaDoor
open Go Go.RowKit Go.Proofs.YtadkanllaocdeaaDoor.Kit
noncomputable def C3:Ctx:={ P:=Tryd.prog,f:=3,N:=129,c:=bodyOf Tryd.f3 }
def S3 (F:List Ch) (H0:Hp) (r:Bool) (v:Value) (H:Hp) (cs:List Ch):Prop:=v=.bool r∧F=cs
theorem smithyardtop_TopWantedIsMissing.e3_c {w0:World} {H0:Hp} {F:List Ch} {r:Bool}:∀ (H:Hp) (y1:(List Sized) × Int × Int) (v_many17:Int) ,smithyardtop_TopWantedIsMissing.e3 y1 v_many17=some r→RunH C3 (S3 F H0 r) H0 w0 [.c [1,1,1,1,1,1,1,1,1,1,0],.c [1,1,1,1,1,1,1,1,1,1,1]] [(12,iv y1.2.1),(17,iv v_many17)] H (F):=by
 intro H y1 v_many17  heq
 unfold smithyardtop_TopWantedIsMissing.e3 at heq
 obtain ⟨t4,ht4,heq⟩:=bind_some heq
 have K14:∀ (H:Hp),RunH C3 (S3 F H0 r) H0 w0 [.c [1,1,1,1,1,1,1,1,1,1,1]] [(6,.bool t4)] H (F):=by
  intro H
  obtain rfl:=Option.some.inj heq
  exact RunH.done (by kernel_rfl) Tryd.func3 (v:=.bool t4) (by kernel_rfl) ⟨rfl,rfl⟩
 replace heq:=ht4
 refine Rr<|Rk 4 [126] [(126,.bool (v_many17 == y1.2.1))] ?_
 rcases bool_cases (v_many17 == y1.2.1) with hb8 | hb8
 ·replace heq:=bif_true hb8 heq
  refine RgH.val1 (v':=.bool true) (congrArg Value.bool hb8) ?_
  obtain ⟨y5,hy5,heq⟩:=bind_some heq
  refine RgH.does (DoesH.call (d:=127) (g:=6) (args:=(List.toArray [])) (by kernel_rfl) (smithyardtop_lives_c  hy5)) ?_
  rintro _ _ _ _ ⟨_,rfl,rfl,rfl,rfl⟩
  refine Rk 7 [6] [(6,.bool y5)] ?_
  obtain rfl:=Option.some.inj heq
  refine Kg [6] [(6,.bool y5)]<|Dn ?_
  exact K14 _
 ·replace heq:=bif_false hb8 heq
  refine RgH.val1 (v':=.bool false) (congrArg Value.bool hb8) ?_
  refine Rk 7 [6] [(6,.bool false)] ?_
  obtain rfl:=Option.some.inj heq
  refine Kg [6] [(6,.bool false)]<|Dn ?_
  exact K14 _
theorem smithyardtop_TopWantedIsMissing.l4_c {w0:World} {H0:Hp} {F:List Ch} {r:Bool} (e3:((List Sized) × Int × Int)→Int→Option Bool)
  (he3:∀ (H:Hp) (y1:(List Sized) × Int × Int) (v_many17:Int) ,e3 y1 v_many17=some r→RunH C3 (S3 F H0 r) H0 w0 [.c [1,1,1,1,1,1,1,1,1,1,0],.c [1,1,1,1,1,1,1,1,1,1,1]] [(12,iv y1.2.1),(17,iv v_many17)] H (F)):∀ (k:Nat),∀ (H:Hp) (y1:(List Sized) × Int × Int) (A1:Option Addr) (c1:Nat) (ch1:Ch) (y2:Cache × CacheAnswer × Int) (A4:Option Addr) (c4:Nat) (ch4:Ch) (A5:Option Addr) (c5:Nat) (ch5:Ch) (g3:Nat) (v_many17:Int) (v_i18:Int) ,SlOwn kSized 31 H A1 c1 y1.1 ch1→SlOwn Kd.string 9 H A4 c4 y2.2.1.Missing ch4→SlOwn Kd.string 9 H A5 c5 y2.2.1.Gone ch5→smithyardtop_TopWantedIsMissing.l4 e3 k y1 y2 v_many17 v_i18=some r→RunH C3 (S3 F H0 r) H0 w0 [.c [1,1,1,1,1,1,1,1,1,0,1,0,0],.l [1,1,1,1,1,1,1,1,1,0,1,0,0],.b 4,.c [1,1,1,1,1,1,1,1,1,1]] [(11,.slice A1 y1.1.length c1),(12,iv y1.2.1),(15,pg g3 0),(17,iv v_many17),(18,iv v_i18)] H ((some (g3,.cells #[.bool y2.2.1.Done,.slice A4 y2.2.1.Missing.length c4,.slice A5 y2.2.1.Gone.length c5] 36 (0,0)))::ch4::ch5::ch1::F):=by
 intro k
 induction k with
 | zero=>intro H y1 A1 c1 ch1 y2 A4 c4 ch4 A5 c5 ch5 g3 v_many17 v_i18 ho1 ho4 ho5 heq; exact nomatch (show (none:Option Bool)=some r from heq)
 | succ k ihk =>
  intro H y1 A1 c1 ch1 y2 A4 c4 ch4 A5 c5 ch5 g3 v_many17 v_i18 ho1 ho4 ho5 heq
  rw [smithyardtop_TopWantedIsMissing.l4] at heq
  refine Ra 2 [1,1,1,1,1,1,1,1,1,0,1,0,0,0,0] [.c [1,1,1,1,1,1,1,1,1,0,1,0,0,0,1],.c [1,1,1,1,1,1,1,1,1,0,1,0,0,1],.l [1,1,1,1,1,1,1,1,1,0,1,0,0],.b 4,.c [1,1,1,1,1,1,1,1,1,1]]<|Rd 4 [11,12,15,17,18,102] [(11,.slice A1 y1.1.length c1),(12,iv y1.2.1),(15,pg g3 0),(17,iv v_many17),(18,iv v_i18),(102,.bool (decide (v_i18<(y1.1.length:Int))))] ?_
  rcases bool_cases (decide (v_i18<(y1.1.length:Int))) with hb9 | hb9
  ·replace heq:=bif_true hb9 heq
   refine Ct (decide (v_i18<(y1.1.length:Int))) hb9<|Ad 5 [.c [1,1,1,1,1,1,1,1,1,0,1,0,0,1,0,0,0,0],.c [1,1,1,1,1,1,1,1,1,0,1,0,0,1,0,0,0,1],.c [1,1,1,1,1,1,1,1,1,0,1,0,0,1,0,0,1],.b 5,.c [1,1,1,1,1,1,1,1,1,0,1,0,0,1,1],.l [1,1,1,1,1,1,1,1,1,0,1,0,0],.b 4,.c [1,1,1,1,1,1,1,1,1,1]]<|Kp [11,12,15,17,18] [(11,.slice A1 y1.1.length c1),(12,iv y1.2.1),(15,pg g3 0),(17,iv v_many17),(18,iv v_i18)] ?_
   refine RunH.draw (fun w=>Heap H w0 w ((some (g3,.cells #[.bool y2.2.1.Done,.slice A4 y2.2.1.Missing.length c4,.slice A5 y2.2.1.Gone.length c5] 36 (0,0)))::ch4::ch5::ch1::F)) (fun w=>Heap H w0 w ((some (g3,.cells #[.bool y2.2.1.Done,.slice A4 y2.2.1.Missing.length c4,.slice A5 y2.2.1.Gone.length c5] 36 (0,0)))::ch4::ch5::ch1::F)) [3,3,3,3,3,3,3,3,3,3,3] (n:=11) (ls:=[false,false,false,false,false,false,false,false,false,false,false]) (by kernel_rfl) (by kernel_rfl) (by kernel_rfl) rfl ?_
   obtain ⟨x1,hx1,heq⟩:=bind_some heq
   obtain ⟨ha1,cs1,hK1,hcc1⟩:=ho1.get hx1
   obtain ⟨rfl⟩:=kSized_open hK1
   obtain ⟨x2,hx2,heq⟩:=bind_some heq
   obtain ⟨ha2,cs2,hK2,hcc2⟩:=ho4.get hx2
   obtain rfl:cs2=[.string x2]:=hK2
   refine Dk [0,1,2,3,4,5,6,7,8,9,10] 0 (nb 11 2047) [.string x1.Digest,.slice A4 y2.2.1.Missing.length c4,.string x2] [.need (A1=some (adr A1)∧(0:Int)≤v_i18∧v_i18<((y1.1.length:Nat):Int)),.load (((adr A1).add (v_i18.toNat*2)).add 0) (.string x1.Digest),.load ⟨g3,1,none⟩ (.slice A4 y2.2.1.Missing.length c4),.need (A4=some (adr A4)∧(0:Int)≤v_i18∧v_i18<((y2.2.1.Missing.length:Nat):Int)),.load ((adr A4).add (v_i18.toNat*1)) (.string x2)] [11,12,15,17,18,115] [(11,.slice A1 y1.1.length c1),(12,iv y1.2.1),(15,pg g3 0),(17,iv v_many17),(18,iv v_i18),(115,.bool (!sEq x1.Digest x2))] (Pk 4 [0,1,2,3]) (Pk 4 [0,1,2,3]) (fun w hh=>⟨⟨ha1,(at?_some hx1).1,(at?_some hx1).2.1⟩,(hcc1 _ (hh.chin 3 rfl) 0 _ rfl),(hh.box 0 rfl rfl),⟨ha2,(at?_some hx2).1,(at?_some hx2).2.1⟩,(hcc2 _ (hh.chin 1 rfl) 0 _ rfl)⟩) ?_
   refine DrH.done (by kernel_rfl) ?_
   rcases bool_cases (!sEq x1.Digest x2) with hb10 | hb10
   ·replace heq:=bif_true hb10 heq
    refine Ct (!sEq x1.Digest x2) hb10<|Ra 1 [1,1,1,1,1,1,1,1,1,0,1,0,0,1,0,0,0,1,0,0] [.c [1,1,1,1,1,1,1,1,1,0,1,0,0,1,0,0,0,1,0,1],.c [1,1,1,1,1,1,1,1,1,0,1,0,0,1,0,0,1],.b 5,.c [1,1,1,1,1,1,1,1,1,0,1,0,0,1,1],.l [1,1,1,1,1,1,1,1,1,0,1,0,0],.b 4,.c [1,1,1,1,1,1,1,1,1,1]]<|Rd 1 [6] [(6,.bool false)] ?_
    obtain rfl:=Option.some.inj heq
    refine RunH.pick 4 [] (cs':=F) (by kernel_rfl) rfl ?_
    exact RunH.done (by kernel_rfl) Tryd.func3 (v:=.bool false) (by kernel_rfl) ⟨rfl,rfl⟩
   ·replace heq:=bif_false hb10 heq
    refine Cf (!sEq x1.Digest x2) hb10<|Ra 1 [1,1,1,1,1,1,1,1,1,0,1,0,0,1,0,0,1] [.b 5,.c [1,1,1,1,1,1,1,1,1,0,1,0,0,1,1],.l [1,1,1,1,1,1,1,1,1,0,1,0,0],.b 4,.c [1,1,1,1,1,1,1,1,1,1]] ?_
    obtain ⟨x3,hx3,heq⟩:=bind_some heq
    obtain ⟨ha3,cs3,hK3,hcc3⟩:=ho1.get hx3
    obtain ⟨rfl⟩:=kSized_open hK3
    refine Rw' 8 [11,12,15,17,18] [iv x3.Size] [.need (A1=some (adr A1)∧(0:Int)≤v_i18∧v_i18<((y1.1.length:Nat):Int)),.load (((adr A1).add (v_i18.toNat*2)).add 1) (iv x3.Size)] [(11,.slice A1 y1.1.length c1),(12,iv y1.2.1),(15,pg g3 0),(17,iv (w64 (v_many17+x3.Size))),(18,iv v_i18)] (fun w hh=>⟨⟨ha3,(at?_some hx3).1,(at?_some hx3).2.1⟩,(hcc3 _ (hh.chin 3 rfl) 1 _ rfl)⟩)<|Ra 1 [1,1,1,1,1,1,1,1,1,0,1,0,0,1,1] [.l [1,1,1,1,1,1,1,1,1,0,1,0,0],.b 4,.c [1,1,1,1,1,1,1,1,1,1]]<|Rd 3 [11,12,15,17,18] [(11,.slice A1 y1.1.length c1),(12,iv y1.2.1),(15,pg g3 0),(17,iv (w64 (v_many17+x3.Size))),(18,iv (w64 (v_i18+1)))]<|Ad 1 [.c [1,1,1,1,1,1,1,1,1,0,1,0,0],.l [1,1,1,1,1,1,1,1,1,0,1,0,0],.b 4,.c [1,1,1,1,1,1,1,1,1,1]]<|Kp [11,12,15,17,18] [(11,.slice A1 y1.1.length c1),(12,iv y1.2.1),(15,pg g3 0),(17,iv (w64 (v_many17+x3.Size))),(18,iv (w64 (v_i18+1)))] ?_
    exact ihk _ y1 _ _ _ y2 _ _ _ _ _ _ _ (w64 (v_many17+x3.Size)) (w64 (v_i18+1)) ho1 ho4 ho5 heq
  ·replace heq:=bif_false hb9 heq
   refine Cf (decide (v_i18<(y1.1.length:Int))) hb9<|Ad 2 [.c [1,1,1,1,1,1,1,1,1,1,0],.c [1,1,1,1,1,1,1,1,1,1,1]]<|Kp [12,17] [(12,iv y1.2.1),(17,iv v_many17)] ?_
   refine RunH.pick 4 [] (cs':=F) (by kernel_rfl) rfl ?_
   exact he3 _ y1 v_many17 heq
theorem smithyardtop_TopWantedIsMissing.e2_c {w0:World} {H0:Hp} {F:List Ch} {r:Bool}:∀ (H:Hp) (a0:Cache) (Aa0_2:Option Addr) (ca0_2:Nat) (Aa0_3:Option Addr) (ca0_3:Nat) (a1:List Sized) (Aa1:Option Addr) (ca1:Nat) (a2:Int) (g1:Nat) (v_have7:List ByteArray) (Av_have7:Option Addr) (cv_have7:Nat) (chv_have7:Ch) (v_all8:List ByteArray) (Av_all8:Option Addr) (nv_all8:Nat) (cv_all8:Nat) (chv_all8:Ch) ,Rw kBlob H F Aa0_2 a0.Blobs→a0.Blobs.length≤ca0_2→Rw kEntry H F Aa0_3 a0.Entries→a0.Entries.length≤ca0_3→Rw kSized H F Aa1 a1→a1.length≤ca1→SlOwn Kd.string 9 H Av_have7 cv_have7 v_have7 chv_have7→SlOwn Kd.string 9 H Av_all8 cv_all8 v_all8 chv_all8→nv_all8=v_all8.length→smithyardtop_TopWantedIsMissing.e2 a0 a1 a2 v_have7 v_all8=some r→RunH C3 (S3 F H0 r) H0 w0 [.c [1,1,1,1,0],.c [1,1,1,1,1]] [(1,.slice Aa1 a1.length ca1),(2,iv a2),(3,pg g1 0),(7,.slice Av_have7 v_have7.length cv_have7),(8,.slice Av_all8 nv_all8 cv_all8)] H (chv_all8::chv_have7::(some (g1,.cells #[iv a0.Room,iv a0.Lease,.slice Aa0_2 a0.Blobs.length ca0_2,.slice Aa0_3 a0.Entries.length ca0_3] 25 (0,0)))::F):=by
 intro H a0 Aa0_2 ca0_2 Aa0_3 ca0_3 a1 Aa1 ca1 a2 g1 v_have7 Av_have7 cv_have7 chv_have7 v_all8 Av_all8 nv_all8 cv_all8 chv_all8 hra0_2 hca0_2 hra0_3 hca0_3 hra1 hca1 hov_have7 hov_all8 hnv_all8 heq
 subst hnv_all8
 unfold smithyardtop_TopWantedIsMissing.e2 at heq
 refine Rr<|Rk 2 [2,3,8,50,51] [(2,iv a2),(3,pg g1 0),(8,.slice Av_all8 v_all8.length cv_all8),(50,.slice Aa1 a1.length ca1),(51,.slice Av_have7 v_have7.length cv_have7)] ?_
 obtain ⟨y1,hy1,heq⟩:=bind_some heq
 refine RgH.does (DoesH.call (d:=52) (g:=4) (args:=#[.slice Aa1 a1.length ca1,.slice Av_have7 v_have7.length cv_have7]) (by kernel_rfl) (wire_Wanted_c (a0:=a1) (a1:=v_have7) (hra1.wk (fun _ h=>(.tail _ (.tail _ (.tail _ h))))) hca1 rfl (hov_have7.rw (.tail _ (.head _))) hov_have7.cap rfl hy1)) ?_
 rintro _ _ _ _ ⟨_,rfl,A1,c1,ch1,rfl,rfl,rfl,ho1⟩
 refine Rd 10 [2,3,8,11,12,13] [(2,iv a2),(3,pg g1 0),(8,.slice Av_all8 v_all8.length cv_all8),(11,.slice A1 y1.1.length c1),(12,iv y1.2.1),(13,iv y1.2.2)]<|Ra 1 [1,1,1,1,1,0] [.c [1,1,1,1,1,1]]<|Rv 4 [11,12,13,57,60] [iv a0.Room,iv a0.Lease,.slice Aa0_2 a0.Blobs.length ca0_2,.slice Aa0_3 a0.Entries.length ca0_3] [.load ⟨g1,0,none⟩ (iv a0.Room),.load ⟨g1,1,none⟩ (iv a0.Lease),.load ⟨g1,2,none⟩ (.slice Aa0_2 a0.Blobs.length ca0_2),.load ⟨g1,3,none⟩ (.slice Aa0_3 a0.Entries.length ca0_3)] [(11,.slice A1 y1.1.length c1),(12,iv y1.2.1),(13,iv y1.2.2),(57,.agg #[iv a0.Room,iv a0.Lease,.slice Aa0_2 a0.Blobs.length ca0_2,.slice Aa0_3 a0.Entries.length ca0_3]),(60,.agg #[iv 3,iv a2,.string ByteArray.empty,.slice Av_all8 v_all8.length cv_all8,.string ByteArray.empty,iv 0])] (fun w hh=>⟨(hh.box 3 rfl rfl),(hh.box 3 rfl rfl),(hh.box 3 rfl rfl),(hh.box 3 rfl rfl)⟩) ?_
 obtain ⟨y2,hy2,heq⟩:=bind_some heq
 refine RgH.does (DoesH.call (d:=61) (g:=5) (args:=#[.agg #[iv a0.Room,iv a0.Lease,.slice Aa0_2 a0.Blobs.length ca0_2,.slice Aa0_3 a0.Entries.length ca0_3],.agg #[iv 3,iv a2,.string ByteArray.empty,.slice Av_all8 v_all8.length cv_all8,.string ByteArray.empty,iv 0]]) (by kernel_rfl) (cache_Do_c (a0:=a0) (a1:=(⟨3,a2,ByteArray.empty,v_all8,ByteArray.empty,0⟩:CacheEvent)) (hra0_2.wk (fun _ h=>(.tail _ (.tail _ (.tail _ (.tail _ h)))))) hca0_2 rfl (hra0_3.wk (fun _ h=>(.tail _ (.tail _ (.tail _ (.tail _ h)))))) hca0_3 rfl (hov_all8.rw (.tail _ (.head _))) hov_all8.cap rfl hy2)) ?_
 rintro _ H _ hl ⟨_,rfl,A2,c2,ch2,A3,c3,ch3,A4,c4,ch4,A5,c5,ch5,rfl,rfl,ho2,ho3,ho4,ho5⟩
 replace ho1:=ho1.mono hl
 replace hra0_2:=hra0_2.mono hl
 replace hra0_3:=hra0_3.mono hl
 replace hov_all8:=hov_all8.mono hl
 refine Rk 9 [11,12,13,62,63,64] [(11,.slice A1 y1.1.length c1),(12,iv y1.2.1),(13,iv y1.2.2),(62,.agg #[iv y2.1.Room,iv y2.1.Lease,.slice A2 y2.1.Blobs.length c2,.slice A3 y2.1.Entries.length c3]),(63,.agg #[.bool y2.2.1.Done,.slice A4 y2.2.1.Missing.length c4,.slice A5 y2.2.1.Gone.length c5]),(64,iv y2.2.2)] ?_
 refine RgH.does (DoesH.new (d:=14) (v:=fun g=>.pointer (some ⟨g,0,none⟩)) (o:=fun g=>.cells #[iv 0,iv 0,.slice none 0 0,.slice none 0 0] 25 (0,0)) (fun g=>by kernel_rfl)) ?_
 rintro _ _ _ _ ⟨g2,rfl,rfl,rfl⟩
 refine RgH.does (DoesH.new (d:=15) (v:=fun g=>.pointer (some ⟨g,0,none⟩)) (o:=fun g=>.cells #[.bool false,.slice none 0 0,.slice none 0 0] 36 (0,0)) (fun g=>by kernel_rfl)) ?_
 rintro _ _ _ _ ⟨g3,rfl,rfl,rfl⟩
 refine RgH.does (DoesH.store (k:=1) (g:=g2) (off:=0) (v:=.agg #[iv y2.1.Room,iv y2.1.Lease,.slice A2 y2.1.Blobs.length c2,.slice A3 y2.1.Entries.length c3]) (cells':=#[iv y2.1.Room,iv y2.1.Lease,.slice A2 y2.1.Blobs.length c2,.slice A3 y2.1.Entries.length c3]) (by kernel_rfl) rfl (by kernel_rfl) (by kernel_rfl)) ?_
 rintro _ _ _ _ ⟨rfl,rfl,rfl⟩
 refine RgH.does (DoesH.store (k:=0) (g:=g3) (off:=0) (v:=.agg #[.bool y2.2.1.Done,.slice A4 y2.2.1.Missing.length c4,.slice A5 y2.2.1.Gone.length c5]) (cells':=#[.bool y2.2.1.Done,.slice A4 y2.2.1.Missing.length c4,.slice A5 y2.2.1.Gone.length c5]) (by kernel_rfl) rfl (by kernel_rfl) (by kernel_rfl)) ?_
 rintro _ _ _ _ ⟨rfl,rfl,rfl⟩
 refine Rd 14 [11,12,13,15,16] [(11,.slice A1 y1.1.length c1),(12,iv y1.2.1),(13,iv y1.2.2),(15,pg g3 0),(16,iv y2.2.2)]<|Ad 2 [.c [1,1,1,1,1,1,0,0],.c [1,1,1,1,1,1,0,1],.c [1,1,1,1,1,1,1]] ?_
 obtain ⟨t1,ht1,heq⟩:=bind_some heq
 have K11:∀ (H:Hp),SlOwn kSized 31 H A1 c1 y1.1 ch1→SlOwn Kd.string 9 H A4 c4 y2.2.1.Missing ch4→SlOwn Kd.string 9 H A5 c5 y2.2.1.Gone ch5→RunH C3 (S3 F H0 r) H0 w0 [.c [1,1,1,1,1,1,0,1],.c [1,1,1,1,1,1,1]] [(11,.slice A1 y1.1.length c1),(12,iv y1.2.1),(13,iv y1.2.2),(15,pg g3 0),(70,.bool t1)] H ((some (g3,.cells #[.bool y2.2.1.Done,.slice A4 y2.2.1.Missing.length c4,.slice A5 y2.2.1.Gone.length c5] 36 (0,0)))::ch4::ch5::ch1::F):=by
  intro H ho1 ho4 ho5
  rcases bool_cases (t1) with hb2 | hb2
  ·replace heq:=bif_true hb2 heq
   refine Ct t1 hb2<|Ad 1 [.c [1,1,1,1,1,1,0,1,0,0],.c [1,1,1,1,1,1,0,1,0,1],.c [1,1,1,1,1,1,1]] ?_
   obtain ⟨t2,ht2,heq⟩:=bind_some heq
   have K12:∀ (H:Hp),RunH C3 (S3 F H0 r) H0 w0 [.c [1,1,1,1,1,1,0,1,0,1],.c [1,1,1,1,1,1,1]] [(6,.bool t2)] H (F):=by
    intro H
    obtain rfl:=Option.some.inj heq
    exact RunH.done (by kernel_rfl) Tryd.func3 (v:=.bool t2) (by kernel_rfl) ⟨rfl,rfl⟩
   replace heq:=ht2
   refine Rr<|Rk 3 [73,11,12] [(73,.bool (y1.2.2 == 0)),(11,.slice A1 y1.1.length c1),(12,iv y1.2.1)] ?_
   rcases bool_cases (y1.2.2 == 0) with hb3 | hb3
   ·replace heq:=bif_true hb3 heq
    refine RgH.val1 (v':=.bool true) (congrArg Value.bool hb3) ?_
    refine Rk 12 [82] [(82,.bool true)] ?_
    obtain ⟨y3,hy3,heq⟩:=bind_some heq
    refine RgH.does (DoesH.call (d:=83) (g:=6) (args:=(List.toArray [])) (by kernel_rfl) (smithyardtop_lives_c  hy3)) ?_
    rintro _ _ _ _ ⟨_,rfl,rfl,rfl,rfl⟩
    refine Rk 15 [6] [(6,.bool y3)] ?_
    obtain rfl:=Option.some.inj heq
    refine Kg [6] [(6,.bool y3)] ?_
    refine RgH.pick 4 [] (cs':=F) (by kernel_rfl) rfl ?_
    refine Dn ?_
    exact K12 _
   ·replace heq:=bif_false hb3 heq
    refine RgH.val1 (v':=.bool false) (congrArg Value.bool hb3) ?_
    refine Rk 7 [77,12,73] [(77,.bool ((y1.1.length:Int) == 0)),(12,iv y1.2.1),(73,.bool false)] ?_
    rcases bool_cases ((y1.1.length:Int) == 0) with hb4 | hb4
    ·replace heq:=bif_true hb4 heq
     refine RgH.val1 (v':=.bool true) (congrArg Value.bool hb4) ?_
     refine Rk 12 [82] [(82,.bool (y1.2.1 == 0))] ?_
     rcases bool_cases (y1.2.1 == 0) with hb5 | hb5
     ·replace heq:=bif_true hb5 heq
      refine RgH.val1 (v':=.bool true) (congrArg Value.bool hb5) ?_
      obtain ⟨y4,hy4,heq⟩:=bind_some heq
      refine RgH.does (DoesH.call (d:=83) (g:=6) (args:=(List.toArray [])) (by kernel_rfl) (smithyardtop_lives_c  hy4)) ?_
      rintro _ _ _ _ ⟨_,rfl,rfl,rfl,rfl⟩
      refine Rk 15 [6] [(6,.bool y4)] ?_
      obtain rfl:=Option.some.inj heq
      refine Kg [6] [(6,.bool y4)] ?_
      refine RgH.pick 4 [] (cs':=F) (by kernel_rfl) rfl ?_
      refine Dn ?_
      exact K12 _
     ·replace heq:=bif_false hb5 heq
      refine RgH.val1 (v':=.bool false) (congrArg Value.bool hb5) ?_
      refine Rk 15 [6] [(6,.bool false)] ?_
      obtain rfl:=Option.some.inj heq
      refine Kg [6] [(6,.bool false)] ?_
      refine RgH.pick 4 [] (cs':=F) (by kernel_rfl) rfl ?_
      refine Dn ?_
      exact K12 _
    ·replace heq:=bif_false hb4 heq
     refine RgH.val1 (v':=.bool false) (congrArg Value.bool hb4) ?_
     refine Rk 15 [6] [(6,.bool false)] ?_
     obtain rfl:=Option.some.inj heq
     refine Kg [6] [(6,.bool false)] ?_
     refine RgH.pick 4 [] (cs':=F) (by kernel_rfl) rfl ?_
     refine Dn ?_
     exact K12 _
  ·replace heq:=bif_false hb2 heq
   refine Cf t1 hb2<|Ra 2 [1,1,1,1,1,1,1,0] [.c [1,1,1,1,1,1,1,1]]<|Rd 1 [11,12,15,17] [(11,.slice A1 y1.1.length c1),(12,iv y1.2.1),(15,pg g3 0),(17,iv 0)]<|Ad 2 [.c [1,1,1,1,1,1,1,1,0,0],.c [1,1,1,1,1,1,1,1,0,1],.c [1,1,1,1,1,1,1,1,1]] ?_
   obtain ⟨t3,ht3,heq⟩:=bind_some heq
   have K13:∀ (H:Hp),SlOwn kSized 31 H A1 c1 y1.1 ch1→SlOwn Kd.string 9 H A4 c4 y2.2.1.Missing ch4→SlOwn Kd.string 9 H A5 c5 y2.2.1.Gone ch5→RunH C3 (S3 F H0 r) H0 w0 [.c [1,1,1,1,1,1,1,1,0,1],.c [1,1,1,1,1,1,1,1,1]] [(11,.slice A1 y1.1.length c1),(12,iv y1.2.1),(15,pg g3 0),(17,iv 0),(98,.bool t3)] H ((some (g3,.cells #[.bool y2.2.1.Done,.slice A4 y2.2.1.Missing.length c4,.slice A5 y2.2.1.Gone.length c5] 36 (0,0)))::ch4::ch5::ch1::F):=by
    intro H ho1 ho4 ho5
    rcases bool_cases (t3) with hb7 | hb7
    ·replace heq:=bif_true hb7 heq
     refine Ct t3 hb7<|Ra 1 [1,1,1,1,1,1,1,1,0,1,0,0] [.c [1,1,1,1,1,1,1,1,0,1,0,1],.c [1,1,1,1,1,1,1,1,1]]<|Rd 1 [6] [(6,.bool false)] ?_
     obtain rfl:=Option.some.inj heq
     refine RunH.pick 4 [] (cs':=F) (by kernel_rfl) rfl ?_
     exact RunH.done (by kernel_rfl) Tryd.func3 (v:=.bool false) (by kernel_rfl) ⟨rfl,rfl⟩
    ·replace heq:=bif_false hb7 heq
     refine Cf t3 hb7<|Ra 3 [1,1,1,1,1,1,1,1,1,0,0] [.c [1,1,1,1,1,1,1,1,1,0,1],.c [1,1,1,1,1,1,1,1,1,1]]<|Rd 1 [11,12,15,17,18] [(11,.slice A1 y1.1.length c1),(12,iv y1.2.1),(15,pg g3 0),(17,iv 0),(18,iv 0)]<|Ad 2 [.c [1,1,1,1,1,1,1,1,1,0,1,0,0],.l [1,1,1,1,1,1,1,1,1,0,1,0,0],.b 4,.c [1,1,1,1,1,1,1,1,1,1]]<|Kp [11,12,15,17,18] [(11,.slice A1 y1.1.length c1),(12,iv y1.2.1),(15,pg g3 0),(17,iv 0),(18,iv 0)] ?_
     exact ((smithyardtop_TopWantedIsMissing.l4_c (e3:=smithyardtop_TopWantedIsMissing.e3) (smithyardtop_TopWantedIsMissing.e3_c)) big) _ y1 _ _ _ y2 _ _ _ _ _ _ _ 0 0 ho1 ho4 ho5 heq
   replace heq:=ht3
   refine Rr<|Rv 7 [91,11,12,15,17] [.slice A4 y2.2.1.Missing.length c4] [.load ⟨g3,1,none⟩ (.slice A4 y2.2.1.Missing.length c4)] [(91,.bool ((y1.1.length:Int) != (y2.2.1.Missing.length:Int))),(11,.slice A1 y1.1.length c1),(12,iv y1.2.1),(15,pg g3 0),(17,iv 0)] (fun w hh=>(hh.box 0 rfl rfl)) ?_
   rcases bool_cases ((y1.1.length:Int) != (y2.2.1.Missing.length:Int)) with hb6 | hb6
   ·replace heq:=bif_true hb6 heq
    refine RgH.val1 (v':=.bool true) (congrArg Value.bool hb6) ?_
    refine Rk 14 [11,12,15,17,98] [(11,.slice A1 y1.1.length c1),(12,iv y1.2.1),(15,pg g3 0),(17,iv 0),(98,.bool true)] ?_
    obtain rfl:=Option.some.inj heq
    refine Kg [11,12,15,17,98] [(11,.slice A1 y1.1.length c1),(12,iv y1.2.1),(15,pg g3 0),(17,iv 0),(98,.bool true)]<|Dn ?_
    exact K13 _ ho1 ho4 ho5
   ·replace heq:=bif_false hb6 heq
    refine RgH.val1 (v':=.bool false) (congrArg Value.bool hb6) ?_
    refine Rv 14 [11,12,15,17,98] [.bool y2.2.1.Done] [.load ⟨g3,0,none⟩ (.bool y2.2.1.Done)] [(11,.slice A1 y1.1.length c1),(12,iv y1.2.1),(15,pg g3 0),(17,iv 0),(98,.bool (!(y2.2.1.Done == ((y1.1.length:Int) == 0))))] (fun w hh=>(hh.box 0 rfl rfl)) ?_
    obtain rfl:=Option.some.inj heq
    refine Kg [11,12,15,17,98] [(11,.slice A1 y1.1.length c1),(12,iv y1.2.1),(15,pg g3 0),(17,iv 0),(98,.bool (!(y2.2.1.Done == ((y1.1.length:Int) == 0))))]<|Dn ?_
    exact K13 _ ho1 ho4 ho5
 replace heq:=ht1
 refine Rr<|Rk 3 [67,11,12,13,15,16] [(67,.bool (y1.2.2 != 0)),(11,.slice A1 y1.1.length c1),(12,iv y1.2.1),(13,iv y1.2.2),(15,pg g3 0),(16,iv y2.2.2)] ?_
 rcases bool_cases (y1.2.2 != 0) with hb1 | hb1
 ·replace heq:=bif_true hb1 heq
  refine RgH.val1 (v':=.bool true) (congrArg Value.bool hb1) ?_
  refine Rk 6 [11,12,13,15,70] [(11,.slice A1 y1.1.length c1),(12,iv y1.2.1),(13,iv y1.2.2),(15,pg g3 0),(70,.bool true)] ?_
  obtain rfl:=Option.some.inj heq
  refine Kg [11,12,13,15,70] [(11,.slice A1 y1.1.length c1),(12,iv y1.2.1),(13,iv y1.2.2),(15,pg g3 0),(70,.bool true)] ?_
  refine RgH.pick 10 [0,4,5,6] (cs':=(some (g3,.cells #[.bool y2.2.1.Done,.slice A4 y2.2.1.Missing.length c4,.slice A5 y2.2.1.Gone.length c5] 36 (0,0)))::ch4::ch5::ch1::F) (by kernel_rfl) rfl ?_
  refine Dn ?_
  exact K11 _ ho1 ho4 ho5
 ·replace heq:=bif_false hb1 heq
  refine RgH.val1 (v':=.bool false) (congrArg Value.bool hb1) ?_
  refine Rk 6 [11,12,13,15,70] [(11,.slice A1 y1.1.length c1),(12,iv y1.2.1),(13,iv y1.2.2),(15,pg g3 0),(70,.bool (y2.2.2 != 0))] ?_
  obtain rfl:=Option.some.inj heq
  refine Kg [11,12,13,15,70] [(11,.slice A1 y1.1.length c1),(12,iv y1.2.1),(13,iv y1.2.2),(15,pg g3 0),(70,.bool (y2.2.2 != 0))] ?_
  refine RgH.pick 10 [0,4,5,6] (cs':=(some (g3,.cells #[.bool y2.2.1.Done,.slice A4 y2.2.1.Missing.length c4,.slice A5 y2.2.1.Gone.length c5] 36 (0,0)))::ch4::ch5::ch1::F) (by kernel_rfl) rfl ?_
  refine Dn ?_
  exact K11 _ ho1 ho4 ho5
theorem smithyardtop_TopWantedIsMissing.l5_c {w0:World} {H0:Hp} {F:List Ch} {r:Bool} (e2:Cache→(List Sized)→Int→(List ByteArray)→(List ByteArray)→Option Bool)
  (he2:∀ (H:Hp) (a0:Cache) (Aa0_2:Option Addr) (ca0_2:Nat) (Aa0_3:Option Addr) (ca0_3:Nat) (a1:List Sized) (Aa1:Option Addr) (ca1:Nat) (a2:Int) (g1:Nat) (v_have7:List ByteArray) (Av_have7:Option Addr) (cv_have7:Nat) (chv_have7:Ch) (v_all8:List ByteArray) (Av_all8:Option Addr) (nv_all8:Nat) (cv_all8:Nat) (chv_all8:Ch) ,Rw kBlob H F Aa0_2 a0.Blobs→a0.Blobs.length≤ca0_2→Rw kEntry H F Aa0_3 a0.Entries→a0.Entries.length≤ca0_3→Rw kSized H F Aa1 a1→a1.length≤ca1→SlOwn Kd.string 9 H Av_have7 cv_have7 v_have7 chv_have7→SlOwn Kd.string 9 H Av_all8 cv_all8 v_all8 chv_all8→nv_all8=v_all8.length→e2 a0 a1 a2 v_have7 v_all8=some r→RunH C3 (S3 F H0 r) H0 w0 [.c [1,1,1,1,0],.c [1,1,1,1,1]] [(1,.slice Aa1 a1.length ca1),(2,iv a2),(3,pg g1 0),(7,.slice Av_have7 v_have7.length cv_have7),(8,.slice Av_all8 nv_all8 cv_all8)] H (chv_all8::chv_have7::(some (g1,.cells #[iv a0.Room,iv a0.Lease,.slice Aa0_2 a0.Blobs.length ca0_2,.slice Aa0_3 a0.Entries.length ca0_3] 25 (0,0)))::F)):∀ (k:Nat),∀ (H:Hp) (a0:Cache) (Aa0_2:Option Addr) (ca0_2:Nat) (Aa0_3:Option Addr) (ca0_3:Nat) (a1:List Sized) (Aa1:Option Addr) (ca1:Nat) (a2:Int) (g1:Nat) (v_have7:List ByteArray) (Av_have7:Option Addr) (cv_have7:Nat) (chv_have7:Ch) (v_all8:List ByteArray) (Av_all8:Option Addr) (nv_all8:Nat) (cv_all8:Nat) (chv_all8:Ch) (v_i10:Int) ,Rw kBlob H F Aa0_2 a0.Blobs→a0.Blobs.length≤ca0_2→Rw kEntry H F Aa0_3 a0.Entries→a0.Entries.length≤ca0_3→Rw kSized H F Aa1 a1→a1.length≤ca1→SlOwn Kd.string 9 H Av_have7 cv_have7 v_have7 chv_have7→SlOwn Kd.string 9 H Av_all8 cv_all8 v_all8 chv_all8→nv_all8=v_all8.length→smithyardtop_TopWantedIsMissing.l5 e2 k a0 a1 a2 v_have7 v_all8 v_i10=some r→RunH C3 (S3 F H0 r) H0 w0 [.c [1,1,1,0,1,0,0],.l [1,1,1,0,1,0,0],.b 2,.c [1,1,1,1]] [(1,.slice Aa1 a1.length ca1),(2,iv a2),(3,pg g1 0),(7,.slice Av_have7 v_have7.length cv_have7),(8,.slice Av_all8 nv_all8 cv_all8),(10,iv v_i10)] H (chv_all8::chv_have7::(some (g1,.cells #[iv a0.Room,iv a0.Lease,.slice Aa0_2 a0.Blobs.length ca0_2,.slice Aa0_3 a0.Entries.length ca0_3] 25 (0,0)))::F):=by
 intro k
 induction k with
 | zero=>intro H a0 Aa0_2 ca0_2 Aa0_3 ca0_3 a1 Aa1 ca1 a2 g1 v_have7 Av_have7 cv_have7 chv_have7 v_all8 Av_all8 nv_all8 cv_all8 chv_all8 v_i10 hra0_2 hca0_2 hra0_3 hca0_3 hra1 hca1 hov_have7 hov_all8 hnv_all8 heq; exact nomatch (show (none:Option Bool)=some r from heq)
 | succ k ihk =>
  intro H a0 Aa0_2 ca0_2 Aa0_3 ca0_3 a1 Aa1 ca1 a2 g1 v_have7 Av_have7 cv_have7 chv_have7 v_all8 Av_all8 nv_all8 cv_all8 chv_all8 v_i10 hra0_2 hca0_2 hra0_3 hca0_3 hra1 hca1 hov_have7 hov_all8 hnv_all8 heq
  subst hnv_all8
  rw [smithyardtop_TopWantedIsMissing.l5] at heq
  refine Ra 2 [1,1,1,0,1,0,0,0,0] [.c [1,1,1,0,1,0,0,0,1],.c [1,1,1,0,1,0,0,1],.l [1,1,1,0,1,0,0],.b 2,.c [1,1,1,1]]<|Rd 4 [1,2,3,7,8,10,38] [(1,.slice Aa1 a1.length ca1),(2,iv a2),(3,pg g1 0),(7,.slice Av_have7 v_have7.length cv_have7),(8,.slice Av_all8 v_all8.length cv_all8),(10,iv v_i10),(38,.bool (decide (v_i10<(a1.length:Int))))] ?_
  rcases bool_cases (decide (v_i10<(a1.length:Int))) with hb11 | hb11
  ·replace heq:=bif_true hb11 heq
   refine Ct (decide (v_i10<(a1.length:Int))) hb11<|Ra 3 [1,1,1,0,1,0,0,1,0,0] [.b 3,.c [1,1,1,0,1,0,0,1,1],.l [1,1,1,0,1,0,0],.b 2,.c [1,1,1,1]] ?_
   obtain ⟨x4,hx4,heq⟩:=bind_some heq
   obtain ⟨ha4,cs4,hK4,hcc4⟩:=hra1.get hx4
   obtain ⟨rfl⟩:=kSized_open hK4
   refine Rv 6 [1,2,3,7,10,41,46] [.string x4.Digest] [.need (Aa1=some (adr Aa1)∧(0:Int)≤v_i10∧v_i10<((a1.length:Nat):Int)),.load (((adr Aa1).add (v_i10.toNat*2)).add 0) (.string x4.Digest)] [(1,.slice Aa1 a1.length ca1),(2,iv a2),(3,pg g1 0),(7,.slice Av_have7 v_have7.length cv_have7),(10,iv v_i10),(41,.slice Av_all8 v_all8.length cv_all8),(46,.string x4.Digest)] (fun w hh=>⟨⟨ha4,(at?_some hx4).1,(at?_some hx4).2.1⟩,(hcc4 _ _ (hh.drop 3) 0 _ rfl)⟩) ?_
   refine RgH.does (DoesH.new (d:=47) (v:=fun g=>.slice (some ⟨g,0,none⟩) 1 1) (o:=fun g=>.cells #[.string x4.Digest] 9 (0,0)) (fun g=>by kernel_rfl)) ?_
   rintro _ _ _ _ ⟨g4,rfl,rfl,rfl⟩
   have ho6:SlOwn Kd.string 9 H (some ⟨g4,0,none⟩) 1 ([x4.Digest]:List ByteArray) (some (g4,.cells #[.string x4.Digest] 9 (0,0))):=SlOwn.lit (xs:=([x4.Digest]:List ByteArray)) (by kernel_rfl) (Nat.le_of_ble_eq_true (by kernel_rfl)) (Kd.Rep.scalars rfl)
   obtain ⟨hn1,heq⟩:=guard?_some heq
   refine RgH.does (DoesH.append (d:=48) (k:=1) (t:=27) (e:=9) (bytes:=16) (kd:=Kd.string) (n:=v_all8.length) (m:=1) (xs:=v_all8) (ys:=([x4.Digest]:List ByteArray)) (A:=Av_all8) (B:=(some ⟨g4,0,none⟩)) (c:=cv_all8) (cB:=1) (by kernel_rfl) rfl rfl (by kernel_rfl) rfl hov_all8 (fun w hh=>ho6.rdb (hh.chin 0 rfl)) (room_le hn1) (by have:=room_le hn1; omega)) ?_
   rintro _ _ _ _ ⟨A6,c6,ch6,rfl,rfl,rfl,ho7⟩
   refine Rd 9 [1,2,3,7,8,10] [(1,.slice Aa1 a1.length ca1),(2,iv a2),(3,pg g1 0),(7,.slice Av_have7 v_have7.length cv_have7),(8,.slice A6 ((v_all8++([x4.Digest]:List ByteArray)).length) c6),(10,iv v_i10)]<|Ra 1 [1,1,1,0,1,0,0,1,1] [.l [1,1,1,0,1,0,0],.b 2,.c [1,1,1,1]]<|Rd 3 [1,2,3,7,8,10] [(1,.slice Aa1 a1.length ca1),(2,iv a2),(3,pg g1 0),(7,.slice Av_have7 v_have7.length cv_have7),(8,.slice A6 ((v_all8++([x4.Digest]:List ByteArray)).length) c6),(10,iv (w64 (v_i10+1)))]<|Ad 1 [.c [1,1,1,0,1,0,0],.l [1,1,1,0,1,0,0],.b 2,.c [1,1,1,1]]<|Kp [1,2,3,7,8,10] [(1,.slice Aa1 a1.length ca1),(2,iv a2),(3,pg g1 0),(7,.slice Av_have7 v_have7.length cv_have7),(8,.slice A6 ((v_all8++([x4.Digest]:List ByteArray)).length) c6),(10,iv (w64 (v_i10+1)))] ?_
   refine RunH.pick 4 [1,2,3] (cs':=ch6::chv_have7::(some (g1,.cells #[iv a0.Room,iv a0.Lease,.slice Aa0_2 a0.Blobs.length ca0_2,.slice Aa0_3 a0.Entries.length ca0_3] 25 (0,0)))::F) (by kernel_rfl) rfl ?_
   exact ihk _ a0 _ _ _ _ a1 _ _ a2 _ v_have7 _ _ _ (v_all8++([x4.Digest]:List ByteArray)) _ _ _ _ (w64 (v_i10+1)) hra0_2 hca0_2 hra0_3 hca0_3 hra1 hca1 hov_have7 ho7 rfl heq
  ·replace heq:=bif_false hb11 heq
   refine Cf (decide (v_i10<(a1.length:Int))) hb11<|Ad 2 [.c [1,1,1,1,0],.c [1,1,1,1,1]]<|Kp [1,2,3,7,8] [(1,.slice Aa1 a1.length ca1),(2,iv a2),(3,pg g1 0),(7,.slice Av_have7 v_have7.length cv_have7),(8,.slice Av_all8 v_all8.length cv_all8)] ?_
   exact he2 _ a0 _ _ _ _ a1 _ _ a2 _ v_have7 _ _ _ v_all8 _ _ _ _ hra0_2 hca0_2 hra0_3 hca0_3 hra1 hca1 hov_have7 hov_all8 rfl heq
theorem smithyardtop_TopWantedIsMissing.e1_c {w0:World} {H0:Hp} {F:List Ch} {r:Bool}:∀ (H:Hp) (a0:Cache) (Aa0_2:Option Addr) (ca0_2:Nat) (Aa0_3:Option Addr) (ca0_3:Nat) (a1:List Sized) (Aa1:Option Addr) (ca1:Nat) (a2:Int) (g1:Nat) (v_have7:List ByteArray) (Av_have7:Option Addr) (nv_have7:Nat) (cv_have7:Nat) (chv_have7:Ch) ,Rw kBlob H F Aa0_2 a0.Blobs→a0.Blobs.length≤ca0_2→Rw kEntry H F Aa0_3 a0.Entries→a0.Entries.length≤ca0_3→Rw kSized H F Aa1 a1→a1.length≤ca1→SlOwn Kd.string 9 H Av_have7 cv_have7 v_have7 chv_have7→nv_have7=v_have7.length→smithyardtop_TopWantedIsMissing.e1 a0 a1 a2 v_have7=some r→RunH C3 (S3 F H0 r) H0 w0 [.c [1,1,1,0,0],.c [1,1,1,0,1],.c [1,1,1,1]] [(1,.slice Aa1 a1.length ca1),(2,iv a2),(3,pg g1 0),(7,.slice Av_have7 nv_have7 cv_have7),(8,.slice none 0 0)] H (chv_have7::(some (g1,.cells #[iv a0.Room,iv a0.Lease,.slice Aa0_2 a0.Blobs.length ca0_2,.slice Aa0_3 a0.Entries.length ca0_3] 25 (0,0)))::F):=by
 intro H a0 Aa0_2 ca0_2 Aa0_3 ca0_3 a1 Aa1 ca1 a2 g1 v_have7 Av_have7 nv_have7 cv_have7 chv_have7 hra0_2 hca0_2 hra0_3 hca0_3 hra1 hca1 hov_have7 hnv_have7 heq
 subst hnv_have7
 unfold smithyardtop_TopWantedIsMissing.e1 at heq
 refine Rr<|Rd 1 [1,2,3,7,8,10] [(1,.slice Aa1 a1.length ca1),(2,iv a2),(3,pg g1 0),(7,.slice Av_have7 v_have7.length cv_have7),(8,.slice none 0 0),(10,iv 0)]<|Ad 2 [.c [1,1,1,0,1,0,0],.l [1,1,1,0,1,0,0],.b 2,.c [1,1,1,1]]<|RunH.nilc ?_
 have ho8:SlOwn Kd.string 9 H none 0 ([]:List ByteArray) none:=SlOwn.nil
 refine Kp [1,2,3,7,8,10] [(1,.slice Aa1 a1.length ca1),(2,iv a2),(3,pg g1 0),(7,.slice Av_have7 v_have7.length cv_have7),(8,.slice none 0 0),(10,iv 0)] ?_
 exact ((smithyardtop_TopWantedIsMissing.l5_c (e2:=smithyardtop_TopWantedIsMissing.e2) (smithyardtop_TopWantedIsMissing.e2_c)) big) _ a0 _ _ _ _ a1 _ _ a2 _ v_have7 _ _ _ ([]:List ByteArray) _ _ _ _ 0 hra0_2 hca0_2 hra0_3 hca0_3 hra1 hca1 hov_have7 ho8 rfl heq
theorem smithyardtop_TopWantedIsMissing.l6_c {w0:World} {H0:Hp} {F:List Ch} {r:Bool} (e1:Cache→(List Sized)→Int→(List ByteArray)→Option Bool)
  (he1:∀ (H:Hp) (a0:Cache) (Aa0_2:Option Addr) (ca0_2:Nat) (Aa0_3:Option Addr) (ca0_3:Nat) (a1:List Sized) (Aa1:Option Addr) (ca1:Nat) (a2:Int) (g1:Nat) (v_have7:List ByteArray) (Av_have7:Option Addr) (nv_have7:Nat) (cv_have7:Nat) (chv_have7:Ch) ,Rw kBlob H F Aa0_2 a0.Blobs→a0.Blobs.length≤ca0_2→Rw kEntry H F Aa0_3 a0.Entries→a0.Entries.length≤ca0_3→Rw kSized H F Aa1 a1→a1.length≤ca1→SlOwn Kd.string 9 H Av_have7 cv_have7 v_have7 chv_have7→nv_have7=v_have7.length→e1 a0 a1 a2 v_have7=some r→RunH C3 (S3 F H0 r) H0 w0 [.c [1,1,1,0,0],.c [1,1,1,0,1],.c [1,1,1,1]] [(1,.slice Aa1 a1.length ca1),(2,iv a2),(3,pg g1 0),(7,.slice Av_have7 nv_have7 cv_have7),(8,.slice none 0 0)] H (chv_have7::(some (g1,.cells #[iv a0.Room,iv a0.Lease,.slice Aa0_2 a0.Blobs.length ca0_2,.slice Aa0_3 a0.Entries.length ca0_3] 25 (0,0)))::F)):∀ (k:Nat),∀ (H:Hp) (a0:Cache) (Aa0_2:Option Addr) (ca0_2:Nat) (Aa0_3:Option Addr) (ca0_3:Nat) (a1:List Sized) (Aa1:Option Addr) (ca1:Nat) (a2:Int) (g1:Nat) (v_have7:List ByteArray) (Av_have7:Option Addr) (nv_have7:Nat) (cv_have7:Nat) (chv_have7:Ch) (v_i9:Int) ,Rw kBlob H F Aa0_2 a0.Blobs→a0.Blobs.length≤ca0_2→Rw kEntry H F Aa0_3 a0.Entries→a0.Entries.length≤ca0_3→Rw kSized H F Aa1 a1→a1.length≤ca1→SlOwn Kd.string 9 H Av_have7 cv_have7 v_have7 chv_have7→nv_have7=v_have7.length→smithyardtop_TopWantedIsMissing.l6 e1 k a0 a1 a2 v_have7 v_i9=some r→RunH C3 (S3 F H0 r) H0 w0 [.c [1,1,0,1,0,0],.l [1,1,0,1,0,0],.b 0,.c [1,1,1]] [(1,.slice Aa1 a1.length ca1),(2,iv a2),(3,pg g1 0),(7,.slice Av_have7 nv_have7 cv_have7),(8,.slice none 0 0),(9,iv v_i9)] H (chv_have7::(some (g1,.cells #[iv a0.Room,iv a0.Lease,.slice Aa0_2 a0.Blobs.length ca0_2,.slice Aa0_3 a0.Entries.length ca0_3] 25 (0,0)))::F):=by
 intro k
 induction k with
 | zero=>intro H a0 Aa0_2 ca0_2 Aa0_3 ca0_3 a1 Aa1 ca1 a2 g1 v_have7 Av_have7 nv_have7 cv_have7 chv_have7 v_i9 hra0_2 hca0_2 hra0_3 hca0_3 hra1 hca1 hov_have7 hnv_have7 heq; exact nomatch (show (none:Option Bool)=some r from heq)
 | succ k ihk =>
  intro H a0 Aa0_2 ca0_2 Aa0_3 ca0_3 a1 Aa1 ca1 a2 g1 v_have7 Av_have7 nv_have7 cv_have7 chv_have7 v_i9 hra0_2 hca0_2 hra0_3 hca0_3 hra1 hca1 hov_have7 hnv_have7 heq
  subst hnv_have7
  rw [smithyardtop_TopWantedIsMissing.l6] at heq
  refine Ra 2 [1,1,0,1,0,0,0,0] [.c [1,1,0,1,0,0,0,1],.c [1,1,0,1,0,0,1],.l [1,1,0,1,0,0],.b 0,.c [1,1,1]]<|Rw' 5 [1,2,3,7,8,9,23] [.slice Aa0_2 a0.Blobs.length ca0_2] [.load ⟨g1,2,none⟩ (.slice Aa0_2 a0.Blobs.length ca0_2)] [(1,.slice Aa1 a1.length ca1),(2,iv a2),(3,pg g1 0),(7,.slice Av_have7 v_have7.length cv_have7),(8,.slice none 0 0),(9,iv v_i9),(23,.bool (decide (v_i9<(a0.Blobs.length:Int))))] (fun w hh=>(hh.box 1 rfl rfl)) ?_
  rcases bool_cases (decide (v_i9<(a0.Blobs.length:Int))) with hb12 | hb12
  ·replace heq:=bif_true hb12 heq
   refine Ct (decide (v_i9<(a0.Blobs.length:Int))) hb12<|Ra 3 [1,1,0,1,0,0,1,0,0] [.b 1,.c [1,1,0,1,0,0,1,1],.l [1,1,0,1,0,0],.b 0,.c [1,1,1]] ?_
   obtain ⟨x5,hx5,heq⟩:=bind_some heq
   obtain ⟨ha5,cs5,hK5,hcc5⟩:=hra0_2.get hx5
   obtain ⟨rfl⟩:=kBlob_open hK5
   refine Rv 7 [1,2,3,8,9,26,32] [.slice Aa0_2 a0.Blobs.length ca0_2,.string x5.Digest] [.load ⟨g1,2,none⟩ (.slice Aa0_2 a0.Blobs.length ca0_2),.need (Aa0_2=some (adr Aa0_2)∧(0:Int)≤v_i9∧v_i9<((a0.Blobs.length:Nat):Int)),.load (((adr Aa0_2).add (v_i9.toNat*5)).add 0) (.string x5.Digest)] [(1,.slice Aa1 a1.length ca1),(2,iv a2),(3,pg g1 0),(8,.slice none 0 0),(9,iv v_i9),(26,.slice Av_have7 v_have7.length cv_have7),(32,.string x5.Digest)] (fun w hh=>⟨(hh.box 1 rfl rfl),⟨ha5,(at?_some hx5).1,(at?_some hx5).2.1⟩,(hcc5 _ _ (hh.drop 2) 0 _ rfl)⟩) ?_
   refine RgH.does (DoesH.new (d:=33) (v:=fun g=>.slice (some ⟨g,0,none⟩) 1 1) (o:=fun g=>.cells #[.string x5.Digest] 9 (0,0)) (fun g=>by kernel_rfl)) ?_
   rintro _ _ _ _ ⟨g5,rfl,rfl,rfl⟩
   have ho9:SlOwn Kd.string 9 H (some ⟨g5,0,none⟩) 1 ([x5.Digest]:List ByteArray) (some (g5,.cells #[.string x5.Digest] 9 (0,0))):=SlOwn.lit (xs:=([x5.Digest]:List ByteArray)) (by kernel_rfl) (Nat.le_of_ble_eq_true (by kernel_rfl)) (Kd.Rep.scalars rfl)
   obtain ⟨hn2,heq⟩:=guard?_some heq
   refine RgH.does (DoesH.append (d:=34) (k:=1) (t:=27) (e:=9) (bytes:=16) (kd:=Kd.string) (n:=v_have7.length) (m:=1) (xs:=v_have7) (ys:=([x5.Digest]:List ByteArray)) (A:=Av_have7) (B:=(some ⟨g5,0,none⟩)) (c:=cv_have7) (cB:=1) (by kernel_rfl) rfl rfl (by kernel_rfl) rfl hov_have7 (fun w hh=>ho9.rdb (hh.chin 0 rfl)) (room_le hn2) (by have:=room_le hn2; omega)) ?_
   rintro _ _ _ _ ⟨A7,c7,ch7,rfl,rfl,rfl,ho10⟩
   refine Rd 10 [1,2,3,7,8,9] [(1,.slice Aa1 a1.length ca1),(2,iv a2),(3,pg g1 0),(7,.slice A7 ((v_have7++([x5.Digest]:List ByteArray)).length) c7),(8,.slice none 0 0),(9,iv v_i9)]<|Ra 1 [1,1,0,1,0,0,1,1] [.l [1,1,0,1,0,0],.b 0,.c [1,1,1]]<|Rd 3 [1,2,3,7,8,9] [(1,.slice Aa1 a1.length ca1),(2,iv a2),(3,pg g1 0),(7,.slice A7 ((v_have7++([x5.Digest]:List ByteArray)).length) c7),(8,.slice none 0 0),(9,iv (w64 (v_i9+1)))]<|Ad 1 [.c [1,1,0,1,0,0],.l [1,1,0,1,0,0],.b 0,.c [1,1,1]]<|Kp [1,2,3,7,8,9] [(1,.slice Aa1 a1.length ca1),(2,iv a2),(3,pg g1 0),(7,.slice A7 ((v_have7++([x5.Digest]:List ByteArray)).length) c7),(8,.slice none 0 0),(9,iv (w64 (v_i9+1)))] ?_
   refine RunH.pick 3 [1,2] (cs':=ch7::(some (g1,.cells #[iv a0.Room,iv a0.Lease,.slice Aa0_2 a0.Blobs.length ca0_2,.slice Aa0_3 a0.Entries.length ca0_3] 25 (0,0)))::F) (by kernel_rfl) rfl ?_
   exact ihk _ a0 _ _ _ _ a1 _ _ a2 _ (v_have7++([x5.Digest]:List ByteArray)) _ _ _ _ (w64 (v_i9+1)) hra0_2 hca0_2 hra0_3 hca0_3 hra1 hca1 ho10 rfl heq
  ·replace heq:=bif_false hb12 heq
   refine Cf (decide (v_i9<(a0.Blobs.length:Int))) hb12<|Ad 3 [.c [1,1,1,0,0],.c [1,1,1,0,1],.c [1,1,1,1]]<|Kp [1,2,3,7,8] [(1,.slice Aa1 a1.length ca1),(2,iv a2),(3,pg g1 0),(7,.slice Av_have7 v_have7.length cv_have7),(8,.slice none 0 0)] ?_
   exact he1 _ a0 _ _ _ _ a1 _ _ a2 _ v_have7 _ _ _ _ hra0_2 hca0_2 hra0_3 hca0_3 hra1 hca1 hov_have7 rfl heq
theorem smithyardtop_TopWantedIsMissing_c {w0:World} {H0:Hp} {F:List Ch} {a0:Cache} {Aa0_2:Option Addr} {na0_2:Nat} {ca0_2:Nat} {Aa0_3:Option Addr} {na0_3:Nat} {ca0_3:Nat} {a1:List Sized} {Aa1:Option Addr} {na1:Nat} {ca1:Nat} {a2:Int} {r:Bool} (hra0_2:Rw kBlob H0 F Aa0_2 a0.Blobs) (hca0_2:na0_2≤ca0_2) (hna0_2:na0_2=a0.Blobs.length) (hra0_3:Rw kEntry H0 F Aa0_3 a0.Entries) (hca0_3:na0_3≤ca0_3) (hna0_3:na0_3=a0.Entries.length) (hra1:Rw kSized H0 F Aa1 a1) (hca1:na1≤ca1) (hna1:na1=a1.length) (heq:smithyardtop_TopWantedIsMissing.f a0 a1 a2=some r):CallsH Tryd.prog 3 #[.agg #[iv a0.Room,iv a0.Lease,.slice Aa0_2 na0_2 ca0_2,.slice Aa0_3 na0_3 ca0_3],.slice Aa1 na1 ca1,iv a2] H0 w0 (F) (S3 F H0 r):=by
 refine calls_of_runH (F:=C3) Tryd.func3 (by kernel_rfl) Tryd.ntmps3 (args:=[.agg #[iv a0.Room,iv a0.Lease,.slice Aa0_2 na0_2 ca0_2,.slice Aa0_3 na0_3 ca0_3],.slice Aa1 na1 ca1,iv a2]) (by kernel_rfl) ?_
 subst hna0_2
 subst hna0_3
 subst hna1
 unfold smithyardtop_TopWantedIsMissing.f at heq
 suffices key:∀ (H:Hp),Rw kBlob H F Aa0_2 a0.Blobs→Rw kEntry H F Aa0_3 a0.Entries→Rw kSized H F Aa1 a1→RunH C3 (S3 F H0 r) H0 w0 [.c []] (argL 0 [.agg #[iv a0.Room,iv a0.Lease,.slice Aa0_2 (a0.Blobs.length) ca0_2,.slice Aa0_3 (a0.Entries.length) ca0_3],.slice Aa1 (a1.length) ca1,iv a2]) H (F) from key H0 hra0_2 hra0_3 hra1
 intro H hra0_2 hra0_3 hra1
 refine Ra 1 [0] [.c [1]] ?_
 refine RgH.does (DoesH.new (d:=3) (v:=fun g=>.pointer (some ⟨g,0,none⟩)) (o:=fun g=>.cells #[iv a0.Room,iv a0.Lease,.slice Aa0_2 a0.Blobs.length ca0_2,.slice Aa0_3 a0.Entries.length ca0_3] 25 (0,0)) (fun g=>by kernel_rfl)) ?_
 rintro _ _ _ _ ⟨g1,rfl,rfl,rfl⟩
 refine Rd 2 [1,2,3] [(1,.slice Aa1 a1.length ca1),(2,iv a2),(3,pg g1 0)]<|Ra 1 [1,0] [.c [1,1]]<|Rd 2 [1,2,3,7,8] [(1,.slice Aa1 a1.length ca1),(2,iv a2),(3,pg g1 0),(7,.slice none 0 0),(8,.slice none 0 0)]<|Ra 2 [1,1,0,0] [.c [1,1,0,1],.c [1,1,1]]<|Rd 1 [1,2,3,7,8,9] [(1,.slice Aa1 a1.length ca1),(2,iv a2),(3,pg g1 0),(7,.slice none 0 0),(8,.slice none 0 0),(9,iv 0)]<|Ad 2 [.c [1,1,0,1,0,0],.l [1,1,0,1,0,0],.b 0,.c [1,1,1]]<|RunH.nilc ?_
 have ho11:SlOwn Kd.string 9 H none 0 ([]:List ByteArray) none:=SlOwn.nil
 refine Kp [1,2,3,7,8,9] [(1,.slice Aa1 a1.length ca1),(2,iv a2),(3,pg g1 0),(7,.slice none 0 0),(8,.slice none 0 0),(9,iv 0)] ?_
 exact ((smithyardtop_TopWantedIsMissing.l6_c (e1:=smithyardtop_TopWantedIsMissing.e1) (smithyardtop_TopWantedIsMissing.e1_c)) big) _ a0 _ _ _ _ a1 _ _ a2 _ ([]:List ByteArray) _ _ _ _ 0 hra0_2 hca0_2 hra0_3 hca0_3 hra1 hca1 ho11 rfl heq
end Go.Proofs.YtadkanllaocdeaaDoor
