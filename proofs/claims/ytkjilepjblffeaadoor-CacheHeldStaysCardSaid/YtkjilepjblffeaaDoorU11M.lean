/- What the machine's calls of these functions come to: just what the plain functions say. Written by program. -/
import Derived.Test.YtkjilepjblffeaaDoorProg
import Derived.Test.YtkjilepjblffeaaDoorKitX
import Derived.Test.YtkjilepjblffeaaDoorUD
import Derived.Test.YtkjilepjblffeaaDoorShelf
import Derived.Test.YtkjilepjblffeaaDoorU11M3
set_option linter.unusedVariables false
set_option linter.unusedSimpArgs false
set_option maxRecDepth 100000
set_option maxHeartbeats 1000000
namespace Go.Proofs.YtkjilepjblffeaaDoor
open Go Go.RowKit Go.Proofs.YtkjilepjblffeaaDoor.Kit
noncomputable def C11:Ctx:={ P:=Tryd.prog,f:=11,N:=99,c:=bodyOf Tryd.f11 }
def S11 (F:List Ch) (H0:Hp) (r:Bool) (v:Value) (H:Hp) (cs:List Ch):Prop:=v=.bool r∧F=cs
theorem smithyardlaw7_CacheHeldStays.e1_c {w0:World} {H0:Hp} {F:List Ch} {r:Bool}:∀ (H:Hp) (a0:Cache) (Aa0_2:Option Addr) (ca0_2:Nat) (Aa0_3:Option Addr) (ca0_3:Nat) (g1:Nat) (y1:Cache × CacheAnswer × Int) (A1:Option Addr) (c1:Nat) (ch1:Ch) (A2:Option Addr) (c2:Nat) (ch2:Ch) (A3:Option Addr) (c3:Nat) (ch3:Ch) (A4:Option Addr) (c4:Nat) (ch4:Ch) (g3:Nat) (g4:Nat) ,Rw kBlob H F Aa0_2 a0.Blobs→a0.Blobs.length≤ca0_2→Rw kEntry H F Aa0_3 a0.Entries→a0.Entries.length≤ca0_3→SlOwn kBlob 47 H A1 c1 y1.1.Blobs ch1→SlOwn kEntry 51 H A2 c2 y1.1.Entries ch2→SlOwn Kd.string 9 H A3 c3 y1.2.1.Missing ch3→SlOwn Kd.string 9 H A4 c4 y1.2.1.Gone ch4→smithyardlaw7_CacheHeldStays.e1 a0 y1=some r→RunH C11 (S11 F H0 r) H0 w0 [.c [1,1,1,1,0],.c [1,1,1,1,1]] [(2,pg g1 0),(5,pg g3 0),(6,pg g4 0)] H ((some (g4,.cells #[.bool y1.2.1.Done,.slice A3 y1.2.1.Missing.length c3,.slice A4 y1.2.1.Gone.length c4] 63 (0,0)))::(some (g3,.cells #[iv y1.1.Room,iv y1.1.Lease,.slice A1 y1.1.Blobs.length c1,.slice A2 y1.1.Entries.length c2] 25 (0,0)))::ch1::ch2::ch3::ch4::(some (g1,.cells #[iv a0.Room,iv a0.Lease,.slice Aa0_2 a0.Blobs.length ca0_2,.slice Aa0_3 a0.Entries.length ca0_3] 25 (0,0)))::F):=by
 intro H a0 Aa0_2 ca0_2 Aa0_3 ca0_3 g1 y1 A1 c1 ch1 A2 c2 ch2 A3 c3 ch3 A4 c4 ch4 g3 g4 hra0_2 hca0_2 hra0_3 hca0_3 ho1 ho2 ho3 ho4 heq
 unfold smithyardlaw7_CacheHeldStays.e1 at heq
 obtain ⟨t2,ht2,heq⟩:=bind_some heq
 have K10:∀ (H:Hp),RunH C11 (S11 F H0 r) H0 w0 [.c [1,1,1,1,1]] [(4,.bool t2)] H (F):=by
  intro H
  obtain rfl:=Option.some.inj heq
  exact RunH.done (by kernel_rfl) Tryd.func11 (v:=.bool t2) (by kernel_rfl) ⟨rfl,rfl⟩
 replace heq:=ht2
 refine Rr<|Rv 12 [96] [.slice A1 y1.1.Blobs.length c1,.slice Aa0_2 a0.Blobs.length ca0_2,.slice A4 y1.2.1.Gone.length c4] [.load ⟨g3,2,none⟩ (.slice A1 y1.1.Blobs.length c1),.load ⟨g1,2,none⟩ (.slice Aa0_2 a0.Blobs.length ca0_2),.load ⟨g4,2,none⟩ (.slice A4 y1.2.1.Gone.length c4)] [(96,.bool (decide ((w64 ((a0.Blobs.length:Int) - (y1.2.1.Gone.length:Int)))≤(y1.1.Blobs.length:Int))))] (fun w hh=>⟨(hh.box 1 rfl rfl),(hh.box 6 rfl rfl),(hh.box 0 rfl rfl)⟩) ?_
 rcases bool_cases (decide ((w64 ((a0.Blobs.length:Int) - (y1.2.1.Gone.length:Int)))≤(y1.1.Blobs.length:Int))) with hb4 | hb4
 ·replace heq:=bif_true hb4 heq
  refine RgH.val1 (v':=.bool true) (congrArg Value.bool hb4) ?_
  obtain ⟨y3,hy3,heq⟩:=bind_some heq
  refine RgH.does (DoesH.call (d:=97) (g:=29) (args:=(List.toArray [])) (by kernel_rfl) (smithyardlaw7_awake_c  hy3)) ?_
  rintro _ _ _ _ ⟨_,rfl,rfl,rfl,rfl⟩
  refine Rk 15 [4] [(4,.bool y3)] ?_
  obtain rfl:=Option.some.inj heq
  refine Kg [4] [(4,.bool y3)] ?_
  refine RgH.pick 7 [] (cs':=F) (by kernel_rfl) rfl ?_
  refine Dn ?_
  exact K10 _
 ·replace heq:=bif_false hb4 heq
  refine RgH.val1 (v':=.bool false) (congrArg Value.bool hb4) ?_
  refine Rk 15 [4] [(4,.bool false)] ?_
  obtain rfl:=Option.some.inj heq
  refine Kg [4] [(4,.bool false)] ?_
  refine RgH.pick 7 [] (cs':=F) (by kernel_rfl) rfl ?_
  refine Dn ?_
  exact K10 _
theorem smithyardlaw7_CacheHeldStays.l2_c {w0:World} {H0:Hp} {F:List Ch} {r:Bool} (e1:Cache→(Cache × CacheAnswer × Int)→Option Bool)
  (he1:∀ (H:Hp) (a0:Cache) (Aa0_2:Option Addr) (ca0_2:Nat) (Aa0_3:Option Addr) (ca0_3:Nat) (g1:Nat) (y1:Cache × CacheAnswer × Int) (A1:Option Addr) (c1:Nat) (ch1:Ch) (A2:Option Addr) (c2:Nat) (ch2:Ch) (A3:Option Addr) (c3:Nat) (ch3:Ch) (A4:Option Addr) (c4:Nat) (ch4:Ch) (g3:Nat) (g4:Nat) ,Rw kBlob H F Aa0_2 a0.Blobs→a0.Blobs.length≤ca0_2→Rw kEntry H F Aa0_3 a0.Entries→a0.Entries.length≤ca0_3→SlOwn kBlob 47 H A1 c1 y1.1.Blobs ch1→SlOwn kEntry 51 H A2 c2 y1.1.Entries ch2→SlOwn Kd.string 9 H A3 c3 y1.2.1.Missing ch3→SlOwn Kd.string 9 H A4 c4 y1.2.1.Gone ch4→e1 a0 y1=some r→RunH C11 (S11 F H0 r) H0 w0 [.c [1,1,1,1,0],.c [1,1,1,1,1]] [(2,pg g1 0),(5,pg g3 0),(6,pg g4 0)] H ((some (g4,.cells #[.bool y1.2.1.Done,.slice A3 y1.2.1.Missing.length c3,.slice A4 y1.2.1.Gone.length c4] 63 (0,0)))::(some (g3,.cells #[iv y1.1.Room,iv y1.1.Lease,.slice A1 y1.1.Blobs.length c1,.slice A2 y1.1.Entries.length c2] 25 (0,0)))::ch1::ch2::ch3::ch4::(some (g1,.cells #[iv a0.Room,iv a0.Lease,.slice Aa0_2 a0.Blobs.length ca0_2,.slice Aa0_3 a0.Entries.length ca0_3] 25 (0,0)))::F)):∀ (k:Nat),∀ (H:Hp) (a0:Cache) (Aa0_2:Option Addr) (ca0_2:Nat) (Aa0_3:Option Addr) (ca0_3:Nat) (a1:CacheEvent) (Aa1_3:Option Addr) (ca1_3:Nat) (g1:Nat) (g2:Nat) (y1:Cache × CacheAnswer × Int) (A1:Option Addr) (c1:Nat) (ch1:Ch) (A2:Option Addr) (c2:Nat) (ch2:Ch) (A3:Option Addr) (c3:Nat) (ch3:Ch) (A4:Option Addr) (c4:Nat) (ch4:Ch) (g3:Nat) (g4:Nat) (v_i8:Int) ,Rw kBlob H F Aa0_2 a0.Blobs→a0.Blobs.length≤ca0_2→Rw kEntry H F Aa0_3 a0.Entries→a0.Entries.length≤ca0_3→Rw Kd.string H F Aa1_3 a1.Digests→a1.Digests.length≤ca1_3→SlOwn kBlob 47 H A1 c1 y1.1.Blobs ch1→SlOwn kEntry 51 H A2 c2 y1.1.Entries ch2→SlOwn Kd.string 9 H A3 c3 y1.2.1.Missing ch3→SlOwn Kd.string 9 H A4 c4 y1.2.1.Gone ch4→smithyardlaw7_CacheHeldStays.l2 e1 k a0 a1 y1 v_i8=some r→RunH C11 (S11 F H0 r) H0 w0 [.c [1,1,1,0,1,0,0],.l [1,1,1,0,1,0,0],.b 0,.c [1,1,1,1]] [(2,pg g1 0),(3,pg g2 0),(5,pg g3 0),(6,pg g4 0),(8,iv v_i8)] H ((some (g4,.cells #[.bool y1.2.1.Done,.slice A3 y1.2.1.Missing.length c3,.slice A4 y1.2.1.Gone.length c4] 63 (0,0)))::(some (g3,.cells #[iv y1.1.Room,iv y1.1.Lease,.slice A1 y1.1.Blobs.length c1,.slice A2 y1.1.Entries.length c2] 25 (0,0)))::ch1::ch2::ch3::ch4::(some (g2,.cells #[iv a1.Kind,iv a1.At,.string a1.Digest,.slice Aa1_3 a1.Digests.length ca1_3,.string a1.Key,iv a1.Size] 67 (0,0)))::(some (g1,.cells #[iv a0.Room,iv a0.Lease,.slice Aa0_2 a0.Blobs.length ca0_2,.slice Aa0_3 a0.Entries.length ca0_3] 25 (0,0)))::F):=by
 intro k
 induction k with
 | zero=>intro H a0 Aa0_2 ca0_2 Aa0_3 ca0_3 a1 Aa1_3 ca1_3 g1 g2 y1 A1 c1 ch1 A2 c2 ch2 A3 c3 ch3 A4 c4 ch4 g3 g4 v_i8 hra0_2 hca0_2 hra0_3 hca0_3 hra1_3 hca1_3 ho1 ho2 ho3 ho4 heq; exact nomatch (show (none:Option Bool)=some r from heq)
 | succ k ihk =>
  intro H a0 Aa0_2 ca0_2 Aa0_3 ca0_3 a1 Aa1_3 ca1_3 g1 g2 y1 A1 c1 ch1 A2 c2 ch2 A3 c3 ch3 A4 c4 ch4 g3 g4 v_i8 hra0_2 hca0_2 hra0_3 hca0_3 hra1_3 hca1_3 ho1 ho2 ho3 ho4 heq
  rw [smithyardlaw7_CacheHeldStays.l2] at heq
  refine Ra 2 [1,1,1,0,1,0,0,0,0] [.c [1,1,1,0,1,0,0,0,1],.c [1,1,1,0,1,0,0,1],.l [1,1,1,0,1,0,0],.b 0,.c [1,1,1,1]]<|Rw' 5 [2,3,5,6,8,39] [.slice Aa0_2 a0.Blobs.length ca0_2] [.load ⟨g1,2,none⟩ (.slice Aa0_2 a0.Blobs.length ca0_2)] [(2,pg g1 0),(3,pg g2 0),(5,pg g3 0),(6,pg g4 0),(8,iv v_i8),(39,.bool (decide (v_i8<(a0.Blobs.length:Int))))] (fun w hh=>(hh.box 7 rfl rfl)) ?_
  rcases bool_cases (decide (v_i8<(a0.Blobs.length:Int))) with hb5 | hb5
  ·replace heq:=bif_true hb5 heq
   refine Ct (decide (v_i8<(a0.Blobs.length:Int))) hb5<|Ra 4 [1,1,1,0,1,0,0,1,0,0,0] [.c [1,1,1,0,1,0,0,1,0,0,1],.b 1,.c [1,1,1,0,1,0,0,1,1],.l [1,1,1,0,1,0,0],.b 0,.c [1,1,1,1]] ?_
   obtain ⟨x1,hx1,heq⟩:=bind_some heq
   obtain ⟨ha1,cs1,hK1,hcc1⟩:=hra0_2.get hx1
   obtain ⟨rfl⟩:=kBlob_open hK1
   refine Rv 5 [2,3,5,6,8,46] [.slice Aa0_2 a0.Blobs.length ca0_2,.string x1.Digest,iv x1.Size,iv x1.Used,iv x1.Until,iv x1.Pins] [.load ⟨g1,2,none⟩ (.slice Aa0_2 a0.Blobs.length ca0_2),.need (Aa0_2=some (adr Aa0_2)∧(0:Int)≤v_i8∧v_i8<((a0.Blobs.length:Nat):Int)),.load (((adr Aa0_2).add (v_i8.toNat*5)).add 0) (.string x1.Digest),.load (((adr Aa0_2).add (v_i8.toNat*5)).add 1) (iv x1.Size),.load (((adr Aa0_2).add (v_i8.toNat*5)).add 2) (iv x1.Used),.load (((adr Aa0_2).add (v_i8.toNat*5)).add 3) (iv x1.Until),.load (((adr Aa0_2).add (v_i8.toNat*5)).add 4) (iv x1.Pins)] [(2,pg g1 0),(3,pg g2 0),(5,pg g3 0),(6,pg g4 0),(8,iv v_i8),(46,.agg #[.string x1.Digest,iv x1.Size,iv x1.Used,iv x1.Until,iv x1.Pins])] (fun w hh=>⟨(hh.box 7 rfl rfl),⟨ha1,(at?_some hx1).1,(at?_some hx1).2.1⟩,(hcc1 _ _ (hh.drop 8) 0 _ rfl),(hcc1 _ _ (hh.drop 8) 1 _ rfl),(hcc1 _ _ (hh.drop 8) 2 _ rfl),(hcc1 _ _ (hh.drop 8) 3 _ rfl),(hcc1 _ _ (hh.drop 8) 4 _ rfl)⟩) ?_
   refine RgH.does (DoesH.new (d:=9) (v:=fun g=>.pointer (some ⟨g,0,none⟩)) (o:=fun g=>.cells #[.string ByteArray.empty,iv 0,iv 0,iv 0,iv 0] 47 (0,0)) (fun g=>by kernel_rfl)) ?_
   rintro _ _ _ _ ⟨g5,rfl,rfl,rfl⟩
   refine RgH.does (DoesH.store (k:=0) (g:=g5) (off:=0) (v:=.agg #[.string x1.Digest,iv x1.Size,iv x1.Used,iv x1.Until,iv x1.Pins]) (cells':=#[.string x1.Digest,iv x1.Size,iv x1.Used,iv x1.Until,iv x1.Pins]) (by kernel_rfl) rfl (by kernel_rfl) (by kernel_rfl)) ?_
   rintro _ _ _ _ ⟨rfl,rfl,rfl⟩
   refine Dn<|Ra 1 [1,1,1,0,1,0,0,1,0,0,1,0] [.c [1,1,1,0,1,0,0,1,0,0,1,1],.b 1,.c [1,1,1,0,1,0,0,1,1],.l [1,1,1,0,1,0,0],.b 0,.c [1,1,1,1]]<|Rv 3 [2,3,5,6,8,9,48,50] [iv y1.1.Room,iv y1.1.Lease,.slice A1 y1.1.Blobs.length c1,.slice A2 y1.1.Entries.length c2,.string x1.Digest] [.load ⟨g3,0,none⟩ (iv y1.1.Room),.load ⟨g3,1,none⟩ (iv y1.1.Lease),.load ⟨g3,2,none⟩ (.slice A1 y1.1.Blobs.length c1),.load ⟨g3,3,none⟩ (.slice A2 y1.1.Entries.length c2),.load ⟨g5,0,none⟩ (.string x1.Digest)] [(2,pg g1 0),(3,pg g2 0),(5,pg g3 0),(6,pg g4 0),(8,iv v_i8),(9,pg g5 0),(48,.agg #[iv y1.1.Room,iv y1.1.Lease,.slice A1 y1.1.Blobs.length c1,.slice A2 y1.1.Entries.length c2]),(50,.string x1.Digest)] (fun w hh=>⟨(hh.box 2 rfl rfl),(hh.box 2 rfl rfl),(hh.box 2 rfl rfl),(hh.box 2 rfl rfl),(hh.box 0 rfl rfl)⟩) ?_
   obtain ⟨y4,hy4,heq⟩:=bind_some heq
   refine RgH.does (DoesH.call (d:=51) (g:=34) (args:=#[.agg #[iv y1.1.Room,iv y1.1.Lease,.slice A1 y1.1.Blobs.length c1,.slice A2 y1.1.Entries.length c2],.string x1.Digest]) (by kernel_rfl) (smithyardlaw7_blob_c (a0:=(⟨y1.1.Room,y1.1.Lease,y1.1.Blobs,y1.1.Entries⟩:Cache)) (a1:=x1.Digest) (ho1.rw (.tail _ (.tail _ (.tail _ (.head _))))) ho1.cap rfl (ho2.rw (.tail _ (.tail _ (.tail _ (.tail _ (.head _)))))) ho2.cap rfl hy4)) ?_
   rintro _ _ _ _ ⟨_,rfl,rfl,rfl,rfl⟩
   refine Rk 7 [2,3,5,6,8,9,52,53] [(2,pg g1 0),(3,pg g2 0),(5,pg g3 0),(6,pg g4 0),(8,iv v_i8),(9,pg g5 0),(52,.agg #[.string y4.1.Digest,iv y4.1.Size,iv y4.1.Used,iv y4.1.Until,iv y4.1.Pins]),(53,.bool y4.2)] ?_
   refine RgH.does (DoesH.new (d:=10) (v:=fun g=>.pointer (some ⟨g,0,none⟩)) (o:=fun g=>.cells #[.string ByteArray.empty,iv 0,iv 0,iv 0,iv 0] 47 (0,0)) (fun g=>by kernel_rfl)) ?_
   rintro _ _ _ _ ⟨g6,rfl,rfl,rfl⟩
   refine RgH.does (DoesH.store (k:=0) (g:=g6) (off:=0) (v:=.agg #[.string y4.1.Digest,iv y4.1.Size,iv y4.1.Used,iv y4.1.Until,iv y4.1.Pins]) (cells':=#[.string y4.1.Digest,iv y4.1.Size,iv y4.1.Used,iv y4.1.Until,iv y4.1.Pins]) (by kernel_rfl) rfl (by kernel_rfl) (by kernel_rfl)) ?_
   rintro _ _ _ _ ⟨rfl,rfl,rfl⟩
   refine Rd 10 [2,3,5,6,8,9,10,11] [(2,pg g1 0),(3,pg g2 0),(5,pg g3 0),(6,pg g4 0),(8,iv v_i8),(9,pg g5 0),(10,pg g6 0),(11,.bool y4.2)]<|Ad 1 [.c [1,1,1,0,1,0,0,1,0,0,1,1,0],.c [1,1,1,0,1,0,0,1,0,0,1,1,1],.b 1,.c [1,1,1,0,1,0,0,1,1],.l [1,1,1,0,1,0,0],.b 0,.c [1,1,1,1]] ?_
   obtain ⟨t3,ht3,heq⟩:=bind_some heq
   have K13:∀ (H:Hp),Rw kBlob H F Aa0_2 a0.Blobs→Rw kEntry H F Aa0_3 a0.Entries→Rw Kd.string H F Aa1_3 a1.Digests→SlOwn kBlob 47 H A1 c1 y1.1.Blobs ch1→SlOwn kEntry 51 H A2 c2 y1.1.Entries ch2→SlOwn Kd.string 9 H A3 c3 y1.2.1.Missing ch3→SlOwn Kd.string 9 H A4 c4 y1.2.1.Gone ch4→RunH C11 (S11 F H0 r) H0 w0 [.c [1,1,1,0,1,0,0,1,0,0,1,1,1],.b 1,.c [1,1,1,0,1,0,0,1,1],.l [1,1,1,0,1,0,0],.b 0,.c [1,1,1,1]] [(2,pg g1 0),(3,pg g2 0),(5,pg g3 0),(6,pg g4 0),(8,iv v_i8),(9,pg g5 0),(10,pg g6 0),(11,.bool y4.2),(12,.bool t3)] H ((some (g6,.cells #[.string y4.1.Digest,iv y4.1.Size,iv y4.1.Used,iv y4.1.Until,iv y4.1.Pins] 47 (0,0)))::(some (g5,.cells #[.string x1.Digest,iv x1.Size,iv x1.Used,iv x1.Until,iv x1.Pins] 47 (0,0)))::(some (g4,.cells #[.bool y1.2.1.Done,.slice A3 y1.2.1.Missing.length c3,.slice A4 y1.2.1.Gone.length c4] 63 (0,0)))::(some (g3,.cells #[iv y1.1.Room,iv y1.1.Lease,.slice A1 y1.1.Blobs.length c1,.slice A2 y1.1.Entries.length c2] 25 (0,0)))::ch1::ch2::ch3::ch4::(some (g2,.cells #[iv a1.Kind,iv a1.At,.string a1.Digest,.slice Aa1_3 a1.Digests.length ca1_3,.string a1.Key,iv a1.Size] 67 (0,0)))::(some (g1,.cells #[iv a0.Room,iv a0.Lease,.slice Aa0_2 a0.Blobs.length ca0_2,.slice Aa0_3 a0.Entries.length ca0_3] 25 (0,0)))::F):=by
    intro H hra0_2 hra0_3 hra1_3 ho1 ho2 ho3 ho4
    refine Ad 1 [.c [1,1,1,0,1,0,0,1,0,0,1,1,1,0],.c [1,1,1,0,1,0,0,1,0,0,1,1,1,1],.b 1,.c [1,1,1,0,1,0,0,1,1],.l [1,1,1,0,1,0,0],.b 0,.c [1,1,1,1]] ?_
    obtain ⟨t4,ht4,heq⟩:=bind_some heq
    have K14:∀ (H:Hp),Rw kBlob H F Aa0_2 a0.Blobs→Rw kEntry H F Aa0_3 a0.Entries→Rw Kd.string H F Aa1_3 a1.Digests→SlOwn kBlob 47 H A1 c1 y1.1.Blobs ch1→SlOwn kEntry 51 H A2 c2 y1.1.Entries ch2→SlOwn Kd.string 9 H A3 c3 y1.2.1.Missing ch3→SlOwn Kd.string 9 H A4 c4 y1.2.1.Gone ch4→RunH C11 (S11 F H0 r) H0 w0 [.c [1,1,1,0,1,0,0,1,0,0,1,1,1,1],.b 1,.c [1,1,1,0,1,0,0,1,1],.l [1,1,1,0,1,0,0],.b 0,.c [1,1,1,1]] [(2,pg g1 0),(3,pg g2 0),(5,pg g3 0),(6,pg g4 0),(8,iv v_i8),(84,.bool t4)] H ((some (g4,.cells #[.bool y1.2.1.Done,.slice A3 y1.2.1.Missing.length c3,.slice A4 y1.2.1.Gone.length c4] 63 (0,0)))::(some (g3,.cells #[iv y1.1.Room,iv y1.1.Lease,.slice A1 y1.1.Blobs.length c1,.slice A2 y1.1.Entries.length c2] 25 (0,0)))::ch1::ch2::ch3::ch4::(some (g2,.cells #[iv a1.Kind,iv a1.At,.string a1.Digest,.slice Aa1_3 a1.Digests.length ca1_3,.string a1.Key,iv a1.Size] 67 (0,0)))::(some (g1,.cells #[iv a0.Room,iv a0.Lease,.slice Aa0_2 a0.Blobs.length ca0_2,.slice Aa0_3 a0.Entries.length ca0_3] 25 (0,0)))::F):=by
     intro H hra0_2 hra0_3 hra1_3 ho1 ho2 ho3 ho4
     rcases bool_cases (t4) with hb10 | hb10
     ·replace heq:=bif_true hb10 heq
      refine Ct t4 hb10<|Ra 1 [1,1,1,0,1,0,0,1,0,0,1,1,1,1,0,0] [.c [1,1,1,0,1,0,0,1,0,0,1,1,1,1,0,1],.b 1,.c [1,1,1,0,1,0,0,1,1],.l [1,1,1,0,1,0,0],.b 0,.c [1,1,1,1]]<|Rd 1 [4] [(4,.bool false)] ?_
      obtain rfl:=Option.some.inj heq
      refine RunH.pick 8 [] (cs':=F) (by kernel_rfl) rfl ?_
      exact RunH.done (by kernel_rfl) Tryd.func11 (v:=.bool false) (by kernel_rfl) ⟨rfl,rfl⟩
     ·replace heq:=bif_false hb10 heq
      refine Cf t4 hb10<|Ra 2 [1,1,1,0,1,0,0,1,1] [.l [1,1,1,0,1,0,0],.b 0,.c [1,1,1,1]]<|Rd 3 [2,3,5,6,8] [(2,pg g1 0),(3,pg g2 0),(5,pg g3 0),(6,pg g4 0),(8,iv (w64 (v_i8+1)))]<|Ad 1 [.c [1,1,1,0,1,0,0],.l [1,1,1,0,1,0,0],.b 0,.c [1,1,1,1]]<|Kp [2,3,5,6,8] [(2,pg g1 0),(3,pg g2 0),(5,pg g3 0),(6,pg g4 0),(8,iv (w64 (v_i8+1)))] ?_
      exact ihk _ a0 _ _ _ _ a1 _ _ _ _ y1 _ _ _ _ _ _ _ _ _ _ _ _ _ _ (w64 (v_i8+1)) hra0_2 hca0_2 hra0_3 hca0_3 hra1_3 hca1_3 ho1 ho2 ho3 ho4 heq
    replace heq:=ht4
    refine Rr<|Rk 2 [65,2,3,5,6,8,9,10,11] [(65,.bool t3),(2,pg g1 0),(3,pg g2 0),(5,pg g3 0),(6,pg g4 0),(8,iv v_i8),(9,pg g5 0),(10,pg g6 0),(11,.bool y4.2)] ?_
    rcases bool_cases (t3) with hb7 | hb7
    ·replace heq:=bif_true hb7 heq
     refine RgH.val1 (v':=.bool true) (congrArg Value.bool hb7) ?_
     refine Rk 5 [68,2,3,5,6,8,9,10,11,65] [(68,.bool (!y4.2)),(2,pg g1 0),(3,pg g2 0),(5,pg g3 0),(6,pg g4 0),(8,iv v_i8),(9,pg g5 0),(10,pg g6 0),(11,.bool y4.2),(65,.bool true)] ?_
     rcases bool_cases (!y4.2) with hb8 | hb8
     ·replace heq:=bif_true hb8 heq
      refine RgH.val1 (v':=.bool true) (congrArg Value.bool hb8) ?_
      refine Rk 21 [2,3,5,6,8,84] [(2,pg g1 0),(3,pg g2 0),(5,pg g3 0),(6,pg g4 0),(8,iv v_i8),(84,.bool true)] ?_
      obtain rfl:=Option.some.inj heq
      refine Kg [2,3,5,6,8,84] [(2,pg g1 0),(3,pg g2 0),(5,pg g3 0),(6,pg g4 0),(8,iv v_i8),(84,.bool true)] ?_
      refine RgH.pick 10 [2,3,4,5,6,7,8,9] (cs':=(some (g4,.cells #[.bool y1.2.1.Done,.slice A3 y1.2.1.Missing.length c3,.slice A4 y1.2.1.Gone.length c4] 63 (0,0)))::(some (g3,.cells #[iv y1.1.Room,iv y1.1.Lease,.slice A1 y1.1.Blobs.length c1,.slice A2 y1.1.Entries.length c2] 25 (0,0)))::ch1::ch2::ch3::ch4::(some (g2,.cells #[iv a1.Kind,iv a1.At,.string a1.Digest,.slice Aa1_3 a1.Digests.length ca1_3,.string a1.Key,iv a1.Size] 67 (0,0)))::(some (g1,.cells #[iv a0.Room,iv a0.Lease,.slice Aa0_2 a0.Blobs.length ca0_2,.slice Aa0_3 a0.Entries.length ca0_3] 25 (0,0)))::F) (by kernel_rfl) rfl ?_
      refine Dn ?_
      exact K14 _ hra0_2 hra0_3 hra1_3 ho1 ho2 ho3 ho4
     ·replace heq:=bif_false hb8 heq
      refine RgH.val1 (v':=.bool false) (congrArg Value.bool hb8) ?_
      refine Rv 13 [76,2,3,5,6,8,9,11] [iv y4.1.Size,iv x1.Size] [.load ⟨g6,1,none⟩ (iv y4.1.Size),.load ⟨g5,1,none⟩ (iv x1.Size)] [(76,.bool (y4.1.Size != x1.Size)),(2,pg g1 0),(3,pg g2 0),(5,pg g3 0),(6,pg g4 0),(8,iv v_i8),(9,pg g5 0),(11,.bool y4.2)] (fun w hh=>⟨(hh.box 0 rfl rfl),(hh.box 1 rfl rfl)⟩) ?_
      rcases bool_cases (y4.1.Size != x1.Size) with hb9 | hb9
      ·replace heq:=bif_true hb9 heq
       refine RgH.val1 (v':=.bool true) (congrArg Value.bool hb9) ?_
       refine Rk 21 [2,3,5,6,8,84] [(2,pg g1 0),(3,pg g2 0),(5,pg g3 0),(6,pg g4 0),(8,iv v_i8),(84,.bool true)] ?_
       obtain rfl:=Option.some.inj heq
       refine Kg [2,3,5,6,8,84] [(2,pg g1 0),(3,pg g2 0),(5,pg g3 0),(6,pg g4 0),(8,iv v_i8),(84,.bool true)] ?_
       refine RgH.pick 10 [2,3,4,5,6,7,8,9] (cs':=(some (g4,.cells #[.bool y1.2.1.Done,.slice A3 y1.2.1.Missing.length c3,.slice A4 y1.2.1.Gone.length c4] 63 (0,0)))::(some (g3,.cells #[iv y1.1.Room,iv y1.1.Lease,.slice A1 y1.1.Blobs.length c1,.slice A2 y1.1.Entries.length c2] 25 (0,0)))::ch1::ch2::ch3::ch4::(some (g2,.cells #[iv a1.Kind,iv a1.At,.string a1.Digest,.slice Aa1_3 a1.Digests.length ca1_3,.string a1.Key,iv a1.Size] 67 (0,0)))::(some (g1,.cells #[iv a0.Room,iv a0.Lease,.slice Aa0_2 a0.Blobs.length ca0_2,.slice Aa0_3 a0.Entries.length ca0_3] 25 (0,0)))::F) (by kernel_rfl) rfl ?_
       refine Dn ?_
       exact K14 _ hra0_2 hra0_3 hra1_3 ho1 ho2 ho3 ho4
      ·replace heq:=bif_false hb9 heq
       refine RgH.val1 (v':=.bool false) (congrArg Value.bool hb9) ?_
       refine Rv 18 [2,3,5,6,8,76,77,79,81] [.slice A4 y1.2.1.Gone.length c4,.string x1.Digest] [.load ⟨g4,2,none⟩ (.slice A4 y1.2.1.Gone.length c4),.load ⟨g5,0,none⟩ (.string x1.Digest)] [(2,pg g1 0),(3,pg g2 0),(5,pg g3 0),(6,pg g4 0),(8,iv v_i8),(76,.bool false),(77,.bool y4.2),(79,.slice A4 y1.2.1.Gone.length c4),(81,.string x1.Digest)] (fun w hh=>⟨(hh.box 2 rfl rfl),(hh.box 1 rfl rfl)⟩) ?_
       obtain ⟨y5,hy5,heq⟩:=bind_some heq
       refine RgH.does (DoesH.call (d:=82) (g:=46) (args:=#[.slice A4 y1.2.1.Gone.length c4,.string x1.Digest]) (by kernel_rfl) (slices_Contains_string_c (a0:=y1.2.1.Gone) (a1:=x1.Digest) (ho4.rw (.tail _ (.tail _ (.tail _ (.tail _ (.tail _ (.tail _ (.tail _ (.head _))))))))) ho4.cap rfl hy5)) ?_
       rintro _ _ _ _ ⟨_,rfl,rfl,rfl,rfl⟩
       refine Rk 21 [2,3,5,6,8,84] [(2,pg g1 0),(3,pg g2 0),(5,pg g3 0),(6,pg g4 0),(8,iv v_i8),(84,.bool (y4.2 == y5))] ?_
       obtain rfl:=Option.some.inj heq
       refine Kg [2,3,5,6,8,84] [(2,pg g1 0),(3,pg g2 0),(5,pg g3 0),(6,pg g4 0),(8,iv v_i8),(84,.bool (y4.2 == y5))] ?_
       refine RgH.pick 10 [2,3,4,5,6,7,8,9] (cs':=(some (g4,.cells #[.bool y1.2.1.Done,.slice A3 y1.2.1.Missing.length c3,.slice A4 y1.2.1.Gone.length c4] 63 (0,0)))::(some (g3,.cells #[iv y1.1.Room,iv y1.1.Lease,.slice A1 y1.1.Blobs.length c1,.slice A2 y1.1.Entries.length c2] 25 (0,0)))::ch1::ch2::ch3::ch4::(some (g2,.cells #[iv a1.Kind,iv a1.At,.string a1.Digest,.slice Aa1_3 a1.Digests.length ca1_3,.string a1.Key,iv a1.Size] 67 (0,0)))::(some (g1,.cells #[iv a0.Room,iv a0.Lease,.slice Aa0_2 a0.Blobs.length ca0_2,.slice Aa0_3 a0.Entries.length ca0_3] 25 (0,0)))::F) (by kernel_rfl) rfl ?_
       refine Dn ?_
       exact K14 _ hra0_2 hra0_3 hra1_3 ho1 ho2 ho3 ho4
    ·replace heq:=bif_false hb7 heq
     refine RgH.val1 (v':=.bool false) (congrArg Value.bool hb7) ?_
     refine Rv 18 [2,3,5,6,8,76,77,79,81] [.slice A4 y1.2.1.Gone.length c4,.string x1.Digest] [.load ⟨g4,2,none⟩ (.slice A4 y1.2.1.Gone.length c4),.load ⟨g5,0,none⟩ (.string x1.Digest)] [(2,pg g1 0),(3,pg g2 0),(5,pg g3 0),(6,pg g4 0),(8,iv v_i8),(76,.bool false),(77,.bool y4.2),(79,.slice A4 y1.2.1.Gone.length c4),(81,.string x1.Digest)] (fun w hh=>⟨(hh.box 2 rfl rfl),(hh.box 1 rfl rfl)⟩) ?_
     obtain ⟨y6,hy6,heq⟩:=bind_some heq
     refine RgH.does (DoesH.call (d:=82) (g:=46) (args:=#[.slice A4 y1.2.1.Gone.length c4,.string x1.Digest]) (by kernel_rfl) (slices_Contains_string_c (a0:=y1.2.1.Gone) (a1:=x1.Digest) (ho4.rw (.tail _ (.tail _ (.tail _ (.tail _ (.tail _ (.tail _ (.tail _ (.head _))))))))) ho4.cap rfl hy6)) ?_
     rintro _ _ _ _ ⟨_,rfl,rfl,rfl,rfl⟩
     refine Rk 21 [2,3,5,6,8,84] [(2,pg g1 0),(3,pg g2 0),(5,pg g3 0),(6,pg g4 0),(8,iv v_i8),(84,.bool (y4.2 == y6))] ?_
     obtain rfl:=Option.some.inj heq
     refine Kg [2,3,5,6,8,84] [(2,pg g1 0),(3,pg g2 0),(5,pg g3 0),(6,pg g4 0),(8,iv v_i8),(84,.bool (y4.2 == y6))] ?_
     refine RgH.pick 10 [2,3,4,5,6,7,8,9] (cs':=(some (g4,.cells #[.bool y1.2.1.Done,.slice A3 y1.2.1.Missing.length c3,.slice A4 y1.2.1.Gone.length c4] 63 (0,0)))::(some (g3,.cells #[iv y1.1.Room,iv y1.1.Lease,.slice A1 y1.1.Blobs.length c1,.slice A2 y1.1.Entries.length c2] 25 (0,0)))::ch1::ch2::ch3::ch4::(some (g2,.cells #[iv a1.Kind,iv a1.At,.string a1.Digest,.slice Aa1_3 a1.Digests.length ca1_3,.string a1.Key,iv a1.Size] 67 (0,0)))::(some (g1,.cells #[iv a0.Room,iv a0.Lease,.slice Aa0_2 a0.Blobs.length ca0_2,.slice Aa0_3 a0.Entries.length ca0_3] 25 (0,0)))::F) (by kernel_rfl) rfl ?_
     refine Dn ?_
     exact K14 _ hra0_2 hra0_3 hra1_3 ho1 ho2 ho3 ho4
   replace heq:=ht3
   refine Rr<|Rv 4 [57,2,3,5,6,8,9,10,11] [iv x1.Pins] [.load ⟨g5,4,none⟩ (iv x1.Pins)] [(57,.bool (decide (0<x1.Pins))),(2,pg g1 0),(3,pg g2 0),(5,pg g3 0),(6,pg g4 0),(8,iv v_i8),(9,pg g5 0),(10,pg g6 0),(11,.bool y4.2)] (fun w hh=>(hh.box 1 rfl rfl)) ?_
   rcases bool_cases (decide (0<x1.Pins)) with hb6 | hb6
   ·replace heq:=bif_true hb6 heq
    refine RgH.val1 (v':=.bool true) (congrArg Value.bool hb6) ?_
    refine Rk 11 [2,3,5,6,8,9,10,11,12] [(2,pg g1 0),(3,pg g2 0),(5,pg g3 0),(6,pg g4 0),(8,iv v_i8),(9,pg g5 0),(10,pg g6 0),(11,.bool y4.2),(12,.bool true)] ?_
    obtain rfl:=Option.some.inj heq
    refine Kg [2,3,5,6,8,9,10,11,12] [(2,pg g1 0),(3,pg g2 0),(5,pg g3 0),(6,pg g4 0),(8,iv v_i8),(9,pg g5 0),(10,pg g6 0),(11,.bool y4.2),(12,.bool true)]<|Dn ?_
    exact K13 _ hra0_2 hra0_3 hra1_3 ho1 ho2 ho3 ho4
   ·replace heq:=bif_false hb6 heq
    refine RgH.val1 (v':=.bool false) (congrArg Value.bool hb6) ?_
    refine Rv 11 [2,3,5,6,8,9,10,11,12] [iv x1.Until,iv a1.At] [.load ⟨g5,3,none⟩ (iv x1.Until),.load ⟨g2,1,none⟩ (iv a1.At)] [(2,pg g1 0),(3,pg g2 0),(5,pg g3 0),(6,pg g4 0),(8,iv v_i8),(9,pg g5 0),(10,pg g6 0),(11,.bool y4.2),(12,.bool (decide (a1.At<x1.Until)))] (fun w hh=>⟨(hh.box 1 rfl rfl),(hh.box 8 rfl rfl)⟩) ?_
    obtain rfl:=Option.some.inj heq
    refine Kg [2,3,5,6,8,9,10,11,12] [(2,pg g1 0),(3,pg g2 0),(5,pg g3 0),(6,pg g4 0),(8,iv v_i8),(9,pg g5 0),(10,pg g6 0),(11,.bool y4.2),(12,.bool (decide (a1.At<x1.Until)))]<|Dn ?_
    exact K13 _ hra0_2 hra0_3 hra1_3 ho1 ho2 ho3 ho4
  ·replace heq:=bif_false hb5 heq
   refine Cf (decide (v_i8<(a0.Blobs.length:Int))) hb5<|Ad 2 [.c [1,1,1,1,0],.c [1,1,1,1,1]]<|Kp [2,5,6] [(2,pg g1 0),(5,pg g3 0),(6,pg g4 0)] ?_
   refine RunH.pick 8 [0,1,2,3,4,5,7] (cs':=(some (g4,.cells #[.bool y1.2.1.Done,.slice A3 y1.2.1.Missing.length c3,.slice A4 y1.2.1.Gone.length c4] 63 (0,0)))::(some (g3,.cells #[iv y1.1.Room,iv y1.1.Lease,.slice A1 y1.1.Blobs.length c1,.slice A2 y1.1.Entries.length c2] 25 (0,0)))::ch1::ch2::ch3::ch4::(some (g1,.cells #[iv a0.Room,iv a0.Lease,.slice Aa0_2 a0.Blobs.length ca0_2,.slice Aa0_3 a0.Entries.length ca0_3] 25 (0,0)))::F) (by kernel_rfl) rfl ?_
   exact he1 _ a0 _ _ _ _ _ y1 _ _ _ _ _ _ _ _ _ _ _ _ _ _ hra0_2 hca0_2 hra0_3 hca0_3 ho1 ho2 ho3 ho4 heq
theorem smithyardlaw7_CacheHeldStays_c {w0:World} {H0:Hp} {F:List Ch} {a0:Cache} {Aa0_2:Option Addr} {na0_2:Nat} {ca0_2:Nat} {Aa0_3:Option Addr} {na0_3:Nat} {ca0_3:Nat} {a1:CacheEvent} {Aa1_3:Option Addr} {na1_3:Nat} {ca1_3:Nat} {r:Bool} (hra0_2:Rw kBlob H0 F Aa0_2 a0.Blobs) (hca0_2:na0_2≤ca0_2) (hna0_2:na0_2=a0.Blobs.length) (hra0_3:Rw kEntry H0 F Aa0_3 a0.Entries) (hca0_3:na0_3≤ca0_3) (hna0_3:na0_3=a0.Entries.length) (hra1_3:Rw Kd.string H0 F Aa1_3 a1.Digests) (hca1_3:na1_3≤ca1_3) (hna1_3:na1_3=a1.Digests.length) (heq:smithyardlaw7_CacheHeldStays.f a0 a1=some r):CallsH Tryd.prog 11 #[.agg #[iv a0.Room,iv a0.Lease,.slice Aa0_2 na0_2 ca0_2,.slice Aa0_3 na0_3 ca0_3],.agg #[iv a1.Kind,iv a1.At,.string a1.Digest,.slice Aa1_3 na1_3 ca1_3,.string a1.Key,iv a1.Size]] H0 w0 (F) (S11 F H0 r):=by
 refine calls_of_runH (F:=C11) Tryd.func11 (by kernel_rfl) Tryd.ntmps11 (args:=[.agg #[iv a0.Room,iv a0.Lease,.slice Aa0_2 na0_2 ca0_2,.slice Aa0_3 na0_3 ca0_3],.agg #[iv a1.Kind,iv a1.At,.string a1.Digest,.slice Aa1_3 na1_3 ca1_3,.string a1.Key,iv a1.Size]]) (by kernel_rfl) ?_
 subst hna0_2
 subst hna0_3
 subst hna1_3
 unfold smithyardlaw7_CacheHeldStays.f at heq
 suffices key:∀ (H:Hp),Rw kBlob H F Aa0_2 a0.Blobs→Rw kEntry H F Aa0_3 a0.Entries→Rw Kd.string H F Aa1_3 a1.Digests→RunH C11 (S11 F H0 r) H0 w0 [.c []] (argL 0 [.agg #[iv a0.Room,iv a0.Lease,.slice Aa0_2 (a0.Blobs.length) ca0_2,.slice Aa0_3 (a0.Entries.length) ca0_3],.agg #[iv a1.Kind,iv a1.At,.string a1.Digest,.slice Aa1_3 (a1.Digests.length) ca1_3,.string a1.Key,iv a1.Size]]) H (F) from key H0 hra0_2 hra0_3 hra1_3
 intro H hra0_2 hra0_3 hra1_3
 refine Ra 1 [0] [.c [1]] ?_
 refine RgH.does (DoesH.new (d:=2) (v:=fun g=>.pointer (some ⟨g,0,none⟩)) (o:=fun g=>.cells #[iv a0.Room,iv a0.Lease,.slice Aa0_2 a0.Blobs.length ca0_2,.slice Aa0_3 a0.Entries.length ca0_3] 25 (0,0)) (fun g=>by kernel_rfl)) ?_
 rintro _ _ _ _ ⟨g1,rfl,rfl,rfl⟩
 refine RgH.does (DoesH.new (d:=3) (v:=fun g=>.pointer (some ⟨g,0,none⟩)) (o:=fun g=>.cells #[iv a1.Kind,iv a1.At,.string a1.Digest,.slice Aa1_3 a1.Digests.length ca1_3,.string a1.Key,iv a1.Size] 67 (0,0)) (fun g=>by kernel_rfl)) ?_
 rintro _ _ _ _ ⟨g2,rfl,rfl,rfl⟩
 refine Rd 3 [2,3] [(2,pg g1 0),(3,pg g2 0)]<|Ra 1 [1,0] [.c [1,1]]<|Rv 2 [2,3,14,15] [iv a0.Room,iv a0.Lease,.slice Aa0_2 a0.Blobs.length ca0_2,.slice Aa0_3 a0.Entries.length ca0_3,iv a1.Kind,iv a1.At,.string a1.Digest,.slice Aa1_3 a1.Digests.length ca1_3,.string a1.Key,iv a1.Size] [.load ⟨g1,0,none⟩ (iv a0.Room),.load ⟨g1,1,none⟩ (iv a0.Lease),.load ⟨g1,2,none⟩ (.slice Aa0_2 a0.Blobs.length ca0_2),.load ⟨g1,3,none⟩ (.slice Aa0_3 a0.Entries.length ca0_3),.load ⟨g2,0,none⟩ (iv a1.Kind),.load ⟨g2,1,none⟩ (iv a1.At),.load ⟨g2,2,none⟩ (.string a1.Digest),.load ⟨g2,3,none⟩ (.slice Aa1_3 a1.Digests.length ca1_3),.load ⟨g2,4,none⟩ (.string a1.Key),.load ⟨g2,5,none⟩ (iv a1.Size)] [(2,pg g1 0),(3,pg g2 0),(14,.agg #[iv a0.Room,iv a0.Lease,.slice Aa0_2 a0.Blobs.length ca0_2,.slice Aa0_3 a0.Entries.length ca0_3]),(15,.agg #[iv a1.Kind,iv a1.At,.string a1.Digest,.slice Aa1_3 a1.Digests.length ca1_3,.string a1.Key,iv a1.Size])] (fun w hh=>⟨(hh.box 1 rfl rfl),(hh.box 1 rfl rfl),(hh.box 1 rfl rfl),(hh.box 1 rfl rfl),(hh.box 0 rfl rfl),(hh.box 0 rfl rfl),(hh.box 0 rfl rfl),(hh.box 0 rfl rfl),(hh.box 0 rfl rfl),(hh.box 0 rfl rfl)⟩) ?_
 obtain ⟨y1,hy1,heq⟩:=bind_some heq
 refine RgH.does (DoesH.call (d:=16) (g:=45) (args:=#[.agg #[iv a0.Room,iv a0.Lease,.slice Aa0_2 a0.Blobs.length ca0_2,.slice Aa0_3 a0.Entries.length ca0_3],.agg #[iv a1.Kind,iv a1.At,.string a1.Digest,.slice Aa1_3 a1.Digests.length ca1_3,.string a1.Key,iv a1.Size]]) (by kernel_rfl) (cache_Do_c (a0:=a0) (a1:=a1) (hra0_2.wk (fun _ h=>(.tail _ (.tail _ h)))) hca0_2 rfl (hra0_3.wk (fun _ h=>(.tail _ (.tail _ h)))) hca0_3 rfl (hra1_3.wk (fun _ h=>(.tail _ (.tail _ h)))) hca1_3 rfl hy1)) ?_
 rintro _ H _ hl ⟨_,rfl,A1,c1,ch1,A2,c2,ch2,A3,c3,ch3,A4,c4,ch4,rfl,rfl,ho1,ho2,ho3,ho4⟩
 replace hra0_2:=hra0_2.mono hl
 replace hra0_3:=hra0_3.mono hl
 replace hra1_3:=hra1_3.mono hl
 refine Rk 7 [2,3,17,18,19] [(2,pg g1 0),(3,pg g2 0),(17,.agg #[iv y1.1.Room,iv y1.1.Lease,.slice A1 y1.1.Blobs.length c1,.slice A2 y1.1.Entries.length c2]),(18,.agg #[.bool y1.2.1.Done,.slice A3 y1.2.1.Missing.length c3,.slice A4 y1.2.1.Gone.length c4]),(19,iv y1.2.2)] ?_
 refine RgH.does (DoesH.new (d:=5) (v:=fun g=>.pointer (some ⟨g,0,none⟩)) (o:=fun g=>.cells #[iv 0,iv 0,.slice none 0 0,.slice none 0 0] 25 (0,0)) (fun g=>by kernel_rfl)) ?_
 rintro _ _ _ _ ⟨g3,rfl,rfl,rfl⟩
 refine RgH.does (DoesH.new (d:=6) (v:=fun g=>.pointer (some ⟨g,0,none⟩)) (o:=fun g=>.cells #[.bool false,.slice none 0 0,.slice none 0 0] 63 (0,0)) (fun g=>by kernel_rfl)) ?_
 rintro _ _ _ _ ⟨g4,rfl,rfl,rfl⟩
 refine RgH.does (DoesH.store (k:=1) (g:=g3) (off:=0) (v:=.agg #[iv y1.1.Room,iv y1.1.Lease,.slice A1 y1.1.Blobs.length c1,.slice A2 y1.1.Entries.length c2]) (cells':=#[iv y1.1.Room,iv y1.1.Lease,.slice A1 y1.1.Blobs.length c1,.slice A2 y1.1.Entries.length c2]) (by kernel_rfl) rfl (by kernel_rfl) (by kernel_rfl)) ?_
 rintro _ _ _ _ ⟨rfl,rfl,rfl⟩
 refine RgH.does (DoesH.store (k:=0) (g:=g4) (off:=0) (v:=.agg #[.bool y1.2.1.Done,.slice A3 y1.2.1.Missing.length c3,.slice A4 y1.2.1.Gone.length c4]) (cells':=#[.bool y1.2.1.Done,.slice A3 y1.2.1.Missing.length c3,.slice A4 y1.2.1.Gone.length c4]) (by kernel_rfl) rfl (by kernel_rfl) (by kernel_rfl)) ?_
 rintro _ _ _ _ ⟨rfl,rfl,rfl⟩
 refine Rd 12 [2,3,5,6,7] [(2,pg g1 0),(3,pg g2 0),(5,pg g3 0),(6,pg g4 0),(7,iv y1.2.2)]<|Ra 2 [1,1,0,0] [.c [1,1,0,1],.c [1,1,1]]<|Rd 2 [2,3,5,6,21] [(2,pg g1 0),(3,pg g2 0),(5,pg g3 0),(6,pg g4 0),(21,.bool (y1.2.2 != 0))] ?_
 rcases bool_cases (y1.2.2 != 0) with hb1 | hb1
 ·replace heq:=bif_true hb1 heq
  refine Ct (y1.2.2 != 0) hb1<|Ad 1 [.c [1,1,0,1,0,0],.c [1,1,0,1,0,1],.c [1,1,1]] ?_
  obtain ⟨t1,ht1,heq⟩:=bind_some heq
  have K9:∀ (H:Hp),RunH C11 (S11 F H0 r) H0 w0 [.c [1,1,0,1,0,1],.c [1,1,1]] [(4,.bool t1)] H (F):=by
   intro H
   obtain rfl:=Option.some.inj heq
   exact RunH.done (by kernel_rfl) Tryd.func11 (v:=.bool t1) (by kernel_rfl) ⟨rfl,rfl⟩
  replace heq:=ht1
  refine Rr<|Rv 5 [26,6] [.slice A1 y1.1.Blobs.length c1] [.load ⟨g3,2,none⟩ (.slice A1 y1.1.Blobs.length c1)] [(26,.bool ((y1.1.Blobs.length:Int) == 0)),(6,pg g4 0)] (fun w hh=>(hh.box 1 rfl rfl)) ?_
  rcases bool_cases ((y1.1.Blobs.length:Int) == 0) with hb2 | hb2
  ·replace heq:=bif_true hb2 heq
   refine RgH.val1 (v':=.bool true) (congrArg Value.bool hb2) ?_
   refine Rv 11 [32] [.slice A4 y1.2.1.Gone.length c4] [.load ⟨g4,2,none⟩ (.slice A4 y1.2.1.Gone.length c4)] [(32,.bool ((y1.2.1.Gone.length:Int) == 0))] (fun w hh=>(hh.box 0 rfl rfl)) ?_
   rcases bool_cases ((y1.2.1.Gone.length:Int) == 0) with hb3 | hb3
   ·replace heq:=bif_true hb3 heq
    refine RgH.val1 (v':=.bool true) (congrArg Value.bool hb3) ?_
    obtain ⟨y2,hy2,heq⟩:=bind_some heq
    refine RgH.does (DoesH.call (d:=33) (g:=29) (args:=(List.toArray [])) (by kernel_rfl) (smithyardlaw7_awake_c  hy2)) ?_
    rintro _ _ _ _ ⟨_,rfl,rfl,rfl,rfl⟩
    refine Rk 14 [4] [(4,.bool y2)] ?_
    obtain rfl:=Option.some.inj heq
    refine Kg [4] [(4,.bool y2)] ?_
    refine RgH.pick 8 [] (cs':=F) (by kernel_rfl) rfl ?_
    refine Dn ?_
    exact K9 _
   ·replace heq:=bif_false hb3 heq
    refine RgH.val1 (v':=.bool false) (congrArg Value.bool hb3) ?_
    refine Rk 14 [4] [(4,.bool false)] ?_
    obtain rfl:=Option.some.inj heq
    refine Kg [4] [(4,.bool false)] ?_
    refine RgH.pick 8 [] (cs':=F) (by kernel_rfl) rfl ?_
    refine Dn ?_
    exact K9 _
  ·replace heq:=bif_false hb2 heq
   refine RgH.val1 (v':=.bool false) (congrArg Value.bool hb2) ?_
   refine Rk 14 [4] [(4,.bool false)] ?_
   obtain rfl:=Option.some.inj heq
   refine Kg [4] [(4,.bool false)] ?_
   refine RgH.pick 8 [] (cs':=F) (by kernel_rfl) rfl ?_
   refine Dn ?_
   exact K9 _
 ·replace heq:=bif_false hb1 heq
  refine Cf (y1.2.2 != 0) hb1<|Ra 3 [1,1,1,0,0] [.c [1,1,1,0,1],.c [1,1,1,1]]<|Rd 1 [2,3,5,6,8] [(2,pg g1 0),(3,pg g2 0),(5,pg g3 0),(6,pg g4 0),(8,iv 0)]<|Ad 2 [.c [1,1,1,0,1,0,0],.l [1,1,1,0,1,0,0],.b 0,.c [1,1,1,1]]<|Kp [2,3,5,6,8] [(2,pg g1 0),(3,pg g2 0),(5,pg g3 0),(6,pg g4 0),(8,iv 0)] ?_
  exact ((smithyardlaw7_CacheHeldStays.l2_c (e1:=smithyardlaw7_CacheHeldStays.e1) (smithyardlaw7_CacheHeldStays.e1_c)) big) _ a0 _ _ _ _ a1 _ _ _ _ y1 _ _ _ _ _ _ _ _ _ _ _ _ _ _ 0 hra0_2 hca0_2 hra0_3 hca0_3 hra1_3 hca1_3 ho1 ho2 ho3 ho4 heq
end Go.Proofs.YtkjilepjblffeaaDoor
