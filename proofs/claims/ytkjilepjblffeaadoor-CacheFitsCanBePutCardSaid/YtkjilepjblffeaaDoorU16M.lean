/- What the machine's calls of these functions come to: just what the plain functions say. Written by program. -/
import Derived.Test.YtkjilepjblffeaaDoorProg
import Derived.Test.YtkjilepjblffeaaDoorKitX
import Derived.Test.YtkjilepjblffeaaDoorUD
import Derived.Test.YtkjilepjblffeaaDoorShelf
import Derived.Test.YtkjilepjblffeaaDoorU16M3
set_option linter.unusedVariables false
set_option linter.unusedSimpArgs false
set_option maxRecDepth 100000
set_option maxHeartbeats 1000000
namespace Go.Proofs.YtkjilepjblffeaaDoor
open Go Go.RowKit Go.Proofs.YtkjilepjblffeaaDoor.Kit
noncomputable def C45:Ctx:={ P:=Tryd.prog,f:=45,N:=31,c:=bodyOf Tryd.f45 }
def S45 (F:List Ch) (H0:Hp) (r:Cache × CacheAnswer × Int) (v:Value) (H:Hp) (cs:List Ch):Prop:=∃ (A0_2:Option Addr) (c0_2:Nat) (ch0_2:Ch) (A0_3:Option Addr) (c0_3:Nat) (ch0_3:Ch) (A1_1:Option Addr) (c1_1:Nat) (ch1_1:Ch) (A1_2:Option Addr) (c1_2:Nat) (ch1_2:Ch),v=.tuple #[.agg #[iv r.1.Room,iv r.1.Lease,.slice A0_2 r.1.Blobs.length c0_2,.slice A0_3 r.1.Entries.length c0_3],.agg #[.bool r.2.1.Done,.slice A1_1 r.2.1.Missing.length c1_1,.slice A1_2 r.2.1.Gone.length c1_2],iv r.2.2]∧ch0_2::ch0_3::ch1_1::ch1_2::F=cs∧SlOwn kBlob 47 H A0_2 c0_2 r.1.Blobs ch0_2∧SlOwn kEntry 51 H A0_3 c0_3 r.1.Entries ch0_3∧SlOwn Kd.string 9 H A1_1 c1_1 r.2.1.Missing ch1_1∧SlOwn Kd.string 9 H A1_2 c1_2 r.2.1.Gone ch1_2
theorem cache_Do_c {w0:World} {H0:Hp} {F:List Ch} {a0:Cache} {Aa0_2:Option Addr} {na0_2:Nat} {ca0_2:Nat} {Aa0_3:Option Addr} {na0_3:Nat} {ca0_3:Nat} {a1:CacheEvent} {Aa1_3:Option Addr} {na1_3:Nat} {ca1_3:Nat} {r:Cache × CacheAnswer × Int} (hra0_2:Rw kBlob H0 F Aa0_2 a0.Blobs) (hca0_2:na0_2≤ca0_2) (hna0_2:na0_2=a0.Blobs.length) (hra0_3:Rw kEntry H0 F Aa0_3 a0.Entries) (hca0_3:na0_3≤ca0_3) (hna0_3:na0_3=a0.Entries.length) (hra1_3:Rw Kd.string H0 F Aa1_3 a1.Digests) (hca1_3:na1_3≤ca1_3) (hna1_3:na1_3=a1.Digests.length) (heq:cache_Do.f a0 a1=some r):CallsH Tryd.prog 45 #[.agg #[iv a0.Room,iv a0.Lease,.slice Aa0_2 na0_2 ca0_2,.slice Aa0_3 na0_3 ca0_3],.agg #[iv a1.Kind,iv a1.At,.string a1.Digest,.slice Aa1_3 na1_3 ca1_3,.string a1.Key,iv a1.Size]] H0 w0 (F) (S45 F H0 r):=by
 refine calls_of_runH (F:=C45) Tryd.func45 (by kernel_rfl) Tryd.ntmps45 (args:=[.agg #[iv a0.Room,iv a0.Lease,.slice Aa0_2 na0_2 ca0_2,.slice Aa0_3 na0_3 ca0_3],.agg #[iv a1.Kind,iv a1.At,.string a1.Digest,.slice Aa1_3 na1_3 ca1_3,.string a1.Key,iv a1.Size]]) (by kernel_rfl) ?_
 subst hna0_2
 subst hna0_3
 subst hna1_3
 unfold cache_Do.f at heq
 suffices key:∀ (H:Hp),Rw kBlob H F Aa0_2 a0.Blobs→Rw kEntry H F Aa0_3 a0.Entries→Rw Kd.string H F Aa1_3 a1.Digests→RunH C45 (S45 F H0 r) H0 w0 [.c []] (argL 0 [.agg #[iv a0.Room,iv a0.Lease,.slice Aa0_2 (a0.Blobs.length) ca0_2,.slice Aa0_3 (a0.Entries.length) ca0_3],.agg #[iv a1.Kind,iv a1.At,.string a1.Digest,.slice Aa1_3 (a1.Digests.length) ca1_3,.string a1.Key,iv a1.Size]]) H (F) from key H0 hra0_2 hra0_3 hra1_3
 intro H hra0_2 hra0_3 hra1_3
 refine Ra 1 [0] [.c [1]] ?_
 refine RgH.does (DoesH.new (d:=2) (v:=fun g=>.pointer (some ⟨g,0,none⟩)) (o:=fun g=>.cells #[iv a0.Room,iv a0.Lease,.slice Aa0_2 a0.Blobs.length ca0_2,.slice Aa0_3 a0.Entries.length ca0_3] 25 (0,0)) (fun g=>by kernel_rfl)) ?_
 rintro _ _ _ _ ⟨g1,rfl,rfl,rfl⟩
 refine RgH.does (DoesH.new (d:=3) (v:=fun g=>.pointer (some ⟨g,0,none⟩)) (o:=fun g=>.cells #[iv a1.Kind,iv a1.At,.string a1.Digest,.slice Aa1_3 a1.Digests.length ca1_3,.string a1.Key,iv a1.Size] 67 (0,0)) (fun g=>by kernel_rfl)) ?_
 rintro _ _ _ _ ⟨g2,rfl,rfl,rfl⟩
 refine RgH.does (DoesH.new (d:=4) (v:=fun g=>.pointer (some ⟨g,0,none⟩)) (o:=fun g=>.cells #[iv 0,iv 0,.slice none 0 0,.slice none 0 0] 25 (0,0)) (fun g=>by kernel_rfl)) ?_
 rintro _ _ _ _ ⟨g3,rfl,rfl,rfl⟩
 refine RgH.does (DoesH.new (d:=5) (v:=fun g=>.pointer (some ⟨g,0,none⟩)) (o:=fun g=>.cells #[.bool false,.slice none 0 0,.slice none 0 0] 63 (0,0)) (fun g=>by kernel_rfl)) ?_
 rintro _ _ _ _ ⟨g4,rfl,rfl,rfl⟩
 refine Rd 5 [2,3,4,5] [(2,pg g1 0),(3,pg g2 0),(4,pg g3 0),(5,pg g4 0)]<|Ra 2 [1,0,0] [.c [1,0,1],.c [1,1]]<|Rv 1 [2,3,4,5,10] [iv a0.Room,iv a0.Lease,.slice Aa0_2 a0.Blobs.length ca0_2,.slice Aa0_3 a0.Entries.length ca0_3] [.load ⟨g1,0,none⟩ (iv a0.Room),.load ⟨g1,1,none⟩ (iv a0.Lease),.load ⟨g1,2,none⟩ (.slice Aa0_2 a0.Blobs.length ca0_2),.load ⟨g1,3,none⟩ (.slice Aa0_3 a0.Entries.length ca0_3)] [(2,pg g1 0),(3,pg g2 0),(4,pg g3 0),(5,pg g4 0),(10,.agg #[iv a0.Room,iv a0.Lease,.slice Aa0_2 a0.Blobs.length ca0_2,.slice Aa0_3 a0.Entries.length ca0_3])] (fun w hh=>⟨(hh.box 3 rfl rfl),(hh.box 3 rfl rfl),(hh.box 3 rfl rfl),(hh.box 3 rfl rfl)⟩) ?_
 obtain ⟨y1,hy1,heq⟩:=bind_some heq
 refine RgH.does (DoesH.call (d:=11) (g:=22) (args:=#[.agg #[iv a0.Room,iv a0.Lease,.slice Aa0_2 a0.Blobs.length ca0_2,.slice Aa0_3 a0.Entries.length ca0_3]]) (by kernel_rfl) (cache_CheckCache_c (a0:=a0) (hra0_2.wk (fun _ h=>(.tail _ (.tail _ (.tail _ (.tail _ h)))))) hca0_2 rfl (hra0_3.wk (fun _ h=>(.tail _ (.tail _ (.tail _ (.tail _ h)))))) hca0_3 rfl hy1)) ?_
 rintro _ _ _ _ ⟨_,rfl,rfl,rfl,rfl⟩
 refine Rd 3 [2,3,4,5,7] [(2,pg g1 0),(3,pg g2 0),(4,pg g3 0),(5,pg g4 0),(7,iv y1)]<|Ra 1 [1,0,1,0] [.c [1,0,1,1],.c [1,1]]<|Rd 2 [2,3,4,5,7,13] [(2,pg g1 0),(3,pg g2 0),(4,pg g3 0),(5,pg g4 0),(7,iv y1),(13,.bool (y1 != 0))] ?_
 rcases bool_cases (y1 != 0) with hb1 | hb1
 ·replace heq:=bif_true hb1 heq
  refine Ct (y1 != 0) hb1<|Ra 1 [1,0,1,1,0,0] [.c [1,0,1,1,0,1],.c [1,1]]<|Rk 3 [4,5,14,15,16] [(4,pg g3 0),(5,pg g4 0),(14,.agg #[iv 0,iv 0,.slice none 0 0,.slice none 0 0]),(15,.agg #[.bool false,.slice none 0 0,.slice none 0 0]),(16,iv y1)] ?_
  refine RgH.does (DoesH.store (k:=1) (g:=g3) (off:=0) (v:=.agg #[iv 0,iv 0,.slice none 0 0,.slice none 0 0]) (cells':=#[iv 0,iv 0,.slice none 0 0,.slice none 0 0]) (by kernel_rfl) rfl (by kernel_rfl) (by kernel_rfl)) ?_
  rintro _ _ _ _ ⟨rfl,rfl,rfl⟩
  refine RgH.does (DoesH.store (k:=0) (g:=g4) (off:=0) (v:=.agg #[.bool false,.slice none 0 0,.slice none 0 0]) (cells':=#[.bool false,.slice none 0 0,.slice none 0 0]) (by kernel_rfl) rfl (by kernel_rfl) (by kernel_rfl)) ?_
  rintro _ _ _ _ ⟨rfl,rfl,rfl⟩
  refine Rd 6 [4,5,6] [(4,pg g3 0),(5,pg g4 0),(6,iv y1)]<|RunH.nilc ?_
  have ho1:SlOwn kBlob 47 H none 0 ([]:List Blob) none:=SlOwn.nil
  refine RunH.nilc ?_
  have ho2:SlOwn kEntry 51 H none 0 ([]:List Entry) none:=SlOwn.nil
  refine RunH.nilc ?_
  have ho3:SlOwn Kd.string 9 H none 0 ([]:List ByteArray) none:=SlOwn.nil
  refine RunH.nilc ?_
  have ho4:SlOwn Kd.string 9 H none 0 ([]:List ByteArray) none:=SlOwn.nil
  obtain rfl:=Option.some.inj heq
  refine RunH.pick 8 [4,5,3,2,1,0] (cs':=(some (g4,.cells #[.bool false,.slice none 0 0,.slice none 0 0] 63 (0,0)))::(some (g3,.cells #[iv 0,iv 0,.slice none 0 0,.slice none 0 0] 25 (0,0)))::none::none::none::none::F) (by kernel_rfl) rfl ?_
  exact RunH.doneM' 2 (vs:=[.agg #[iv 0,iv 0,.slice none 0 0,.slice none 0 0],.agg #[.bool false,.slice none 0 0,.slice none 0 0],iv y1]) (v:=.tuple #[.agg #[iv 0,iv 0,.slice none 0 0,.slice none 0 0],.agg #[.bool false,.slice none 0 0,.slice none 0 0],iv y1]) (by kernel_rfl) Tryd.func45 (fun w hh=>show ResAll _ _ _ [.cell 4 25,.cell 5 63,.tmp 6] _ from ⟨⟨⟨g3,0,none⟩,by kernel_rfl,trS_run _ (vs:=[iv 0,iv 0,.slice none 0 0,.slice none 0 0]) (r:=[]) (es:=[.load ⟨g3,0,none⟩ (iv 0),.load ⟨g3,1,none⟩ (iv 0),.load ⟨g3,2,none⟩ (.slice none 0 0),.load ⟨g3,3,none⟩ (.slice none 0 0)]) (by kernel_rfl) ⟨(hh.box 1 rfl rfl),(hh.box 1 rfl rfl),(hh.box 1 rfl rfl),(hh.box 1 rfl rfl)⟩⟩,⟨⟨g4,0,none⟩,by kernel_rfl,trS_run _ (vs:=[.bool false,.slice none 0 0,.slice none 0 0]) (r:=[]) (es:=[.load ⟨g4,0,none⟩ (.bool false),.load ⟨g4,1,none⟩ (.slice none 0 0),.load ⟨g4,2,none⟩ (.slice none 0 0)]) (by kernel_rfl) ⟨(hh.box 0 rfl rfl),(hh.box 0 rfl rfl),(hh.box 0 rfl rfl)⟩⟩,(show lk _ _=some _ by kernel_rfl),trivial⟩) rfl (cs':=none::none::none::none::F) rfl ⟨none,0,none,none,0,none,none,0,none,none,0,none,rfl,rfl,ho1,ho2,ho3,ho4⟩
 ·replace heq:=bif_false hb1 heq
  refine Cf (y1 != 0) hb1<|Ra 2 [1,1,0] [.c [1,1,1]]<|Rv 1 [2,3,4,5,17] [iv a0.Room,iv a0.Lease,.slice Aa0_2 a0.Blobs.length ca0_2,.slice Aa0_3 a0.Entries.length ca0_3] [.load ⟨g1,0,none⟩ (iv a0.Room),.load ⟨g1,1,none⟩ (iv a0.Lease),.load ⟨g1,2,none⟩ (.slice Aa0_2 a0.Blobs.length ca0_2),.load ⟨g1,3,none⟩ (.slice Aa0_3 a0.Entries.length ca0_3)] [(2,pg g1 0),(3,pg g2 0),(4,pg g3 0),(5,pg g4 0),(17,.agg #[iv a0.Room,iv a0.Lease,.slice Aa0_2 a0.Blobs.length ca0_2,.slice Aa0_3 a0.Entries.length ca0_3])] (fun w hh=>⟨(hh.box 3 rfl rfl),(hh.box 3 rfl rfl),(hh.box 3 rfl rfl),(hh.box 3 rfl rfl)⟩) ?_
  obtain ⟨y2,hy2,heq⟩:=bind_some heq
  refine RgH.does (DoesH.call (d:=18) (g:=70) (args:=#[.agg #[iv a0.Room,iv a0.Lease,.slice Aa0_2 a0.Blobs.length ca0_2,.slice Aa0_3 a0.Entries.length ca0_3]]) (by kernel_rfl) (cache_own_c (a0:=a0) (hra0_2.wk (fun _ h=>(.tail _ (.tail _ (.tail _ (.tail _ h)))))) hca0_2 rfl (hra0_3.wk (fun _ h=>(.tail _ (.tail _ (.tail _ (.tail _ h)))))) hca0_3 rfl hy2)) ?_
  rintro _ H _ hl ⟨_,rfl,A1,c1,ch1,A2,c2,ch2,rfl,rfl,ho5,ho6⟩
  replace hra0_2:=hra0_2.mono hl
  replace hra0_3:=hra0_3.mono hl
  replace hra1_3:=hra1_3.mono hl
  refine RgH.does (DoesH.store (k:=5) (g:=g1) (off:=0) (v:=.agg #[iv y2.Room,iv y2.Lease,.slice A1 y2.Blobs.length c1,.slice A2 y2.Entries.length c2]) (cells':=#[iv y2.Room,iv y2.Lease,.slice A1 y2.Blobs.length c1,.slice A2 y2.Entries.length c2]) (by kernel_rfl) rfl (by kernel_rfl) (by kernel_rfl)) ?_
  rintro _ _ _ _ ⟨rfl,rfl,rfl⟩
  refine Dn<|Ra 1 [1,1,1,0] [.c [1,1,1,1]]<|Rv 1 [2,4,5,20] [iv a1.Kind,iv a1.At,.string a1.Digest,.slice Aa1_3 a1.Digests.length ca1_3,.string a1.Key,iv a1.Size] [.load ⟨g2,0,none⟩ (iv a1.Kind),.load ⟨g2,1,none⟩ (iv a1.At),.load ⟨g2,2,none⟩ (.string a1.Digest),.load ⟨g2,3,none⟩ (.slice Aa1_3 a1.Digests.length ca1_3),.load ⟨g2,4,none⟩ (.string a1.Key),.load ⟨g2,5,none⟩ (iv a1.Size)] [(2,pg g1 0),(4,pg g3 0),(5,pg g4 0),(20,.agg #[iv a1.Kind,iv a1.At,.string a1.Digest,.slice Aa1_3 a1.Digests.length ca1_3,.string a1.Key,iv a1.Size])] (fun w hh=>⟨(hh.box 4 rfl rfl),(hh.box 4 rfl rfl),(hh.box 4 rfl rfl),(hh.box 4 rfl rfl),(hh.box 4 rfl rfl),(hh.box 4 rfl rfl)⟩) ?_
  refine RgH.pick 6 [5,0,1,2,3,4] (cs':=(some (g1,.cells #[iv y2.Room,iv y2.Lease,.slice A1 y2.Blobs.length c1,.slice A2 y2.Entries.length c2] 25 (0,0)))::ch1::ch2::(some (g4,.cells #[.bool false,.slice none 0 0,.slice none 0 0] 63 (0,0)))::(some (g3,.cells #[iv 0,iv 0,.slice none 0 0,.slice none 0 0] 25 (0,0)))::(some (g2,.cells #[iv a1.Kind,iv a1.At,.string a1.Digest,.slice Aa1_3 a1.Digests.length ca1_3,.string a1.Key,iv a1.Size] 67 (0,0)))::F) (by kernel_rfl) rfl ?_
  obtain ⟨y3,hy3,heq⟩:=bind_some heq
  refine RgH.does (DoesH.call (d:=21) (g:=91) (args:=#[.pointer (some ⟨g1,0,none⟩),.agg #[iv a1.Kind,iv a1.At,.string a1.Digest,.slice Aa1_3 a1.Digests.length ca1_3,.string a1.Key,iv a1.Size]]) (by kernel_rfl) (cache_do_c (a0:=(⟨y2.Room,y2.Lease,y2.Blobs,y2.Entries⟩:Cache)) (a1:=a1) ho5 rfl ho6 rfl (hra1_3.wk (fun _ h=>(.tail _ (.tail _ (.tail _ h))))) hca1_3 rfl hy3)) ?_
  rintro _ H _ hl ⟨_,rfl,A3,c3,ch3,A4,c4,ch4,A5,c5,ch5,A6,c6,ch6,rfl,rfl,ho7,ho8,ho9,ho10⟩
  replace ho5:=ho5.mono hl
  replace ho6:=ho6.mono hl
  replace hra1_3:=hra1_3.mono hl
  refine Rk 5 [2,4,5,22,23] [(2,pg g1 0),(4,pg g3 0),(5,pg g4 0),(22,.agg #[.bool y3.1.Done,.slice A3 y3.1.Missing.length c3,.slice A4 y3.1.Gone.length c4]),(23,iv y3.2.1)] ?_
  refine RgH.does (DoesH.new (d:=8) (v:=fun g=>.pointer (some ⟨g,0,none⟩)) (o:=fun g=>.cells #[.bool false,.slice none 0 0,.slice none 0 0] 63 (0,0)) (fun g=>by kernel_rfl)) ?_
  rintro _ _ _ _ ⟨g5,rfl,rfl,rfl⟩
  refine RgH.does (DoesH.store (k:=0) (g:=g5) (off:=0) (v:=.agg #[.bool y3.1.Done,.slice A3 y3.1.Missing.length c3,.slice A4 y3.1.Gone.length c4]) (cells':=#[.bool y3.1.Done,.slice A3 y3.1.Missing.length c3,.slice A4 y3.1.Gone.length c4]) (by kernel_rfl) rfl (by kernel_rfl) (by kernel_rfl)) ?_
  rintro _ _ _ _ ⟨rfl,rfl,rfl⟩
  refine Rd 8 [2,4,5,8,9] [(2,pg g1 0),(4,pg g3 0),(5,pg g4 0),(8,pg g5 0),(9,iv y3.2.1)]<|Ra 2 [1,1,1,1,0,0] [.c [1,1,1,1,0,1],.c [1,1,1,1,1]]<|Rd 2 [2,4,5,8,9,25] [(2,pg g1 0),(4,pg g3 0),(5,pg g4 0),(8,pg g5 0),(9,iv y3.2.1),(25,.bool (y3.2.1 != 0))] ?_
  rcases bool_cases (y3.2.1 != 0) with hb2 | hb2
  ·replace heq:=bif_true hb2 heq
   refine Ct (y3.2.1 != 0) hb2<|Ra 1 [1,1,1,1,0,1,0,0] [.c [1,1,1,1,0,1,0,1],.c [1,1,1,1,1]]<|Rk 3 [4,5,26,27,28] [(4,pg g3 0),(5,pg g4 0),(26,.agg #[iv 0,iv 0,.slice none 0 0,.slice none 0 0]),(27,.agg #[.bool false,.slice none 0 0,.slice none 0 0]),(28,iv y3.2.1)] ?_
   refine RgH.does (DoesH.store (k:=7) (g:=g3) (off:=0) (v:=.agg #[iv 0,iv 0,.slice none 0 0,.slice none 0 0]) (cells':=#[iv 0,iv 0,.slice none 0 0,.slice none 0 0]) (by kernel_rfl) rfl (by kernel_rfl) (by kernel_rfl)) ?_
   rintro _ _ _ _ ⟨rfl,rfl,rfl⟩
   refine RgH.does (DoesH.store (k:=6) (g:=g4) (off:=0) (v:=.agg #[.bool false,.slice none 0 0,.slice none 0 0]) (cells':=#[.bool false,.slice none 0 0,.slice none 0 0]) (by kernel_rfl) rfl (by kernel_rfl) (by kernel_rfl)) ?_
   rintro _ _ _ _ ⟨rfl,rfl,rfl⟩
   refine Rd 6 [4,5,6] [(4,pg g3 0),(5,pg g4 0),(6,iv y3.2.1)]<|RunH.nilc ?_
   have ho11:SlOwn kBlob 47 H none 0 ([]:List Blob) none:=SlOwn.nil
   refine RunH.nilc ?_
   have ho12:SlOwn kEntry 51 H none 0 ([]:List Entry) none:=SlOwn.nil
   refine RunH.nilc ?_
   have ho13:SlOwn Kd.string 9 H none 0 ([]:List ByteArray) none:=SlOwn.nil
   refine RunH.nilc ?_
   have ho14:SlOwn Kd.string 9 H none 0 ([]:List ByteArray) none:=SlOwn.nil
   obtain rfl:=Option.some.inj heq
   refine RunH.pick 13 [10,11,3,2,1,0] (cs':=(some (g4,.cells #[.bool false,.slice none 0 0,.slice none 0 0] 63 (0,0)))::(some (g3,.cells #[iv 0,iv 0,.slice none 0 0,.slice none 0 0] 25 (0,0)))::none::none::none::none::F) (by kernel_rfl) rfl ?_
   exact RunH.doneM' 2 (vs:=[.agg #[iv 0,iv 0,.slice none 0 0,.slice none 0 0],.agg #[.bool false,.slice none 0 0,.slice none 0 0],iv y3.2.1]) (v:=.tuple #[.agg #[iv 0,iv 0,.slice none 0 0,.slice none 0 0],.agg #[.bool false,.slice none 0 0,.slice none 0 0],iv y3.2.1]) (by kernel_rfl) Tryd.func45 (fun w hh=>show ResAll _ _ _ [.cell 4 25,.cell 5 63,.tmp 6] _ from ⟨⟨⟨g3,0,none⟩,by kernel_rfl,trS_run _ (vs:=[iv 0,iv 0,.slice none 0 0,.slice none 0 0]) (r:=[]) (es:=[.load ⟨g3,0,none⟩ (iv 0),.load ⟨g3,1,none⟩ (iv 0),.load ⟨g3,2,none⟩ (.slice none 0 0),.load ⟨g3,3,none⟩ (.slice none 0 0)]) (by kernel_rfl) ⟨(hh.box 1 rfl rfl),(hh.box 1 rfl rfl),(hh.box 1 rfl rfl),(hh.box 1 rfl rfl)⟩⟩,⟨⟨g4,0,none⟩,by kernel_rfl,trS_run _ (vs:=[.bool false,.slice none 0 0,.slice none 0 0]) (r:=[]) (es:=[.load ⟨g4,0,none⟩ (.bool false),.load ⟨g4,1,none⟩ (.slice none 0 0),.load ⟨g4,2,none⟩ (.slice none 0 0)]) (by kernel_rfl) ⟨(hh.box 0 rfl rfl),(hh.box 0 rfl rfl),(hh.box 0 rfl rfl)⟩⟩,(show lk _ _=some _ by kernel_rfl),trivial⟩) rfl (cs':=none::none::none::none::F) rfl ⟨none,0,none,none,0,none,none,0,none,none,0,none,rfl,rfl,ho11,ho12,ho13,ho14⟩
  ·replace heq:=bif_false hb2 heq
   refine Cf (y3.2.1 != 0) hb2<|Ad 2 [.c [1,1,1,1,1,0],.c [1,1,1,1,1,1]]<|Kp [2,4,5,8] [(2,pg g1 0),(4,pg g3 0),(5,pg g4 0),(8,pg g5 0)] ?_
   refine RunH.draw (fun w=>Heap H w0 w ((some (g5,.cells #[.bool y3.1.Done,.slice A3 y3.1.Missing.length c3,.slice A4 y3.1.Gone.length c4] 63 (0,0)))::ch3::ch4::(some (g1,.cells #[iv y3.2.2.Room,iv y3.2.2.Lease,.slice A5 y3.2.2.Blobs.length c5,.slice A6 y3.2.2.Entries.length c6] 25 (0,0)))::ch5::ch6::(some (g4,.cells #[.bool false,.slice none 0 0,.slice none 0 0] 63 (0,0)))::(some (g3,.cells #[iv 0,iv 0,.slice none 0 0,.slice none 0 0] 25 (0,0)))::(some (g2,.cells #[iv a1.Kind,iv a1.At,.string a1.Digest,.slice Aa1_3 a1.Digests.length ca1_3,.string a1.Key,iv a1.Size] 67 (0,0)))::F)) (fun w=>Heap H w0 w ((some (g5,.cells #[.bool y3.1.Done,.slice A3 y3.1.Missing.length c3,.slice A4 y3.1.Gone.length c4] 63 (0,0)))::ch3::ch4::(some (g1,.cells #[iv y3.2.2.Room,iv y3.2.2.Lease,.slice A5 y3.2.2.Blobs.length c5,.slice A6 y3.2.2.Entries.length c6] 25 (0,0)))::ch5::ch6::(some (g2,.cells #[iv a1.Kind,iv a1.At,.string a1.Digest,.slice Aa1_3 a1.Digests.length ca1_3,.string a1.Key,iv a1.Size] 67 (0,0)))::F)) [3,3,1,1,3] (n:=5) (ls:=[false,false,false,false,false]) (by kernel_rfl) (by kernel_rfl) (by kernel_rfl) rfl ?_
   refine Dk [0] 4 (nb 5 1) [iv y3.2.2.Room,iv y3.2.2.Lease,.slice A5 y3.2.2.Blobs.length c5,.slice A6 y3.2.2.Entries.length c6] [.load ⟨g1,0,none⟩ (iv y3.2.2.Room),.load ⟨g1,1,none⟩ (iv y3.2.2.Lease),.load ⟨g1,2,none⟩ (.slice A5 y3.2.2.Blobs.length c5),.load ⟨g1,3,none⟩ (.slice A6 y3.2.2.Entries.length c6)] [4,5,8,29] [(4,pg g3 0),(5,pg g4 0),(8,pg g5 0),(29,.agg #[iv y3.2.2.Room,iv y3.2.2.Lease,.slice A5 y3.2.2.Blobs.length c5,.slice A6 y3.2.2.Entries.length c6])] (Pk 9 [0,1,2,3,4,5,6,7,8]) (Pk 9 [0,1,2,3,4,5,8]) (fun w hh=>⟨(hh.box 3 rfl rfl),(hh.box 3 rfl rfl),(hh.box 3 rfl rfl),(hh.box 3 rfl rfl)⟩)<|De [1] 3 (nb 5 3) [.bool y3.1.Done,.slice A3 y3.1.Missing.length c3,.slice A4 y3.1.Gone.length c4] [.load ⟨g5,0,none⟩ (.bool y3.1.Done),.load ⟨g5,1,none⟩ (.slice A3 y3.1.Missing.length c3),.load ⟨g5,2,none⟩ (.slice A4 y3.1.Gone.length c4)] [4,5,29,30] [(4,pg g3 0),(5,pg g4 0),(29,.agg #[iv y3.2.2.Room,iv y3.2.2.Lease,.slice A5 y3.2.2.Blobs.length c5,.slice A6 y3.2.2.Entries.length c6]),(30,.agg #[.bool y3.1.Done,.slice A3 y3.1.Missing.length c3,.slice A4 y3.1.Gone.length c4])] (Pk 9 [0,1,2,3,4,5,8]) (fun w hh=>⟨(hh.box 0 rfl rfl),(hh.box 0 rfl rfl),(hh.box 0 rfl rfl)⟩) ?_
   refine DrH.does (n:=2) (ls':=[true,true,true,false,false]) 2 (by kernel_rfl) rfl (DoesH.store (k:=7) (g:=g3) (off:=0) (v:=.agg #[iv y3.2.2.Room,iv y3.2.2.Lease,.slice A5 y3.2.2.Blobs.length c5,.slice A6 y3.2.2.Entries.length c6]) (cells':=#[iv y3.2.2.Room,iv y3.2.2.Lease,.slice A5 y3.2.2.Blobs.length c5,.slice A6 y3.2.2.Entries.length c6]) (by kernel_rfl) rfl (by kernel_rfl) (by kernel_rfl)) ?_
   rintro _ _ _ _ ⟨rfl,rfl,rfl⟩
   refine ⟨fun _ w hh=>⟨(fun h=>by cases h),fun _=>(Pk 9 [0,1,2,3,4,5,8]) w hh,(fun h=>by cases h)⟩,?_⟩
   refine Kr [4,5,30] [(4,pg g3 0),(5,pg g4 0),(30,.agg #[.bool y3.1.Done,.slice A3 y3.1.Missing.length c3,.slice A4 y3.1.Gone.length c4])] ?_
   refine DrH.does (n:=1) (ls':=[true,true,true,true,false]) 3 (by kernel_rfl) rfl (DoesH.store (k:=6) (g:=g4) (off:=0) (v:=.agg #[.bool y3.1.Done,.slice A3 y3.1.Missing.length c3,.slice A4 y3.1.Gone.length c4]) (cells':=#[.bool y3.1.Done,.slice A3 y3.1.Missing.length c3,.slice A4 y3.1.Gone.length c4]) (by kernel_rfl) rfl (by kernel_rfl) (by kernel_rfl)) ?_
   rintro _ _ _ _ ⟨rfl,rfl,rfl⟩
   refine ⟨fun _ w hh=>⟨(fun h=>by cases h),fun _=>(Pk 9 [0,1,2,3,4,5,8]) w hh,(fun h=>by cases h)⟩,?_⟩
   refine De [4] 0 (nb 5 31) [] [] [4,5,6] [(4,pg g3 0),(5,pg g4 0),(6,iv 0)] (Pk 9 [0,1,2,3,4,5,8]) (fun _ _=>trivial) ?_
   refine DrH.done (by kernel_rfl) ?_
   obtain rfl:=Option.some.inj heq
   refine RunH.pick 9 [6,7,4,5,1,2] (cs':=(some (g4,.cells #[.bool y3.1.Done,.slice A3 y3.1.Missing.length c3,.slice A4 y3.1.Gone.length c4] 63 (0,0)))::(some (g3,.cells #[iv y3.2.2.Room,iv y3.2.2.Lease,.slice A5 y3.2.2.Blobs.length c5,.slice A6 y3.2.2.Entries.length c6] 25 (0,0)))::ch5::ch6::ch3::ch4::F) (by kernel_rfl) rfl ?_
   exact RunH.doneM' 2 (vs:=[.agg #[iv y3.2.2.Room,iv y3.2.2.Lease,.slice A5 y3.2.2.Blobs.length c5,.slice A6 y3.2.2.Entries.length c6],.agg #[.bool y3.1.Done,.slice A3 y3.1.Missing.length c3,.slice A4 y3.1.Gone.length c4],iv 0]) (v:=.tuple #[.agg #[iv y3.2.2.Room,iv y3.2.2.Lease,.slice A5 y3.2.2.Blobs.length c5,.slice A6 y3.2.2.Entries.length c6],.agg #[.bool y3.1.Done,.slice A3 y3.1.Missing.length c3,.slice A4 y3.1.Gone.length c4],iv 0]) (by kernel_rfl) Tryd.func45 (fun w hh=>show ResAll _ _ _ [.cell 4 25,.cell 5 63,.tmp 6] _ from ⟨⟨⟨g3,0,none⟩,by kernel_rfl,trS_run _ (vs:=[iv y3.2.2.Room,iv y3.2.2.Lease,.slice A5 y3.2.2.Blobs.length c5,.slice A6 y3.2.2.Entries.length c6]) (r:=[]) (es:=[.load ⟨g3,0,none⟩ (iv y3.2.2.Room),.load ⟨g3,1,none⟩ (iv y3.2.2.Lease),.load ⟨g3,2,none⟩ (.slice A5 y3.2.2.Blobs.length c5),.load ⟨g3,3,none⟩ (.slice A6 y3.2.2.Entries.length c6)]) (by kernel_rfl) ⟨(hh.box 1 rfl rfl),(hh.box 1 rfl rfl),(hh.box 1 rfl rfl),(hh.box 1 rfl rfl)⟩⟩,⟨⟨g4,0,none⟩,by kernel_rfl,trS_run _ (vs:=[.bool y3.1.Done,.slice A3 y3.1.Missing.length c3,.slice A4 y3.1.Gone.length c4]) (r:=[]) (es:=[.load ⟨g4,0,none⟩ (.bool y3.1.Done),.load ⟨g4,1,none⟩ (.slice A3 y3.1.Missing.length c3),.load ⟨g4,2,none⟩ (.slice A4 y3.1.Gone.length c4)]) (by kernel_rfl) ⟨(hh.box 0 rfl rfl),(hh.box 0 rfl rfl),(hh.box 0 rfl rfl)⟩⟩,(show lk _ _=some _ by kernel_rfl),trivial⟩) rfl (cs':=ch5::ch6::ch3::ch4::F) rfl ⟨A5,c5,ch5,A6,c6,ch6,A3,c3,ch3,A4,c4,ch4,rfl,rfl,ho9,ho10,ho7,ho8⟩
noncomputable def C16:Ctx:={ P:=Tryd.prog,f:=16,N:=96,c:=bodyOf Tryd.f16 }
def S16 (F:List Ch) (H0:Hp) (r:Bool) (v:Value) (H:Hp) (cs:List Ch):Prop:=v=.bool r∧F=cs
theorem smithyardlaw7_CacheFitsCanBePut_c {w0:World} {H0:Hp} {F:List Ch} {a0:Cache} {Aa0_2:Option Addr} {na0_2:Nat} {ca0_2:Nat} {Aa0_3:Option Addr} {na0_3:Nat} {ca0_3:Nat} {a1:ByteArray} {a2:Int} {a3:Int} {r:Bool} (hra0_2:Rw kBlob H0 F Aa0_2 a0.Blobs) (hca0_2:na0_2≤ca0_2) (hna0_2:na0_2=a0.Blobs.length) (hra0_3:Rw kEntry H0 F Aa0_3 a0.Entries) (hca0_3:na0_3≤ca0_3) (hna0_3:na0_3=a0.Entries.length) (heq:smithyardlaw7_CacheFitsCanBePut.f a0 a1 a2 a3=some r):CallsH Tryd.prog 16 #[.agg #[iv a0.Room,iv a0.Lease,.slice Aa0_2 na0_2 ca0_2,.slice Aa0_3 na0_3 ca0_3],.string a1,iv a2,iv a3] H0 w0 (F) (S16 F H0 r):=by
 refine calls_of_runH (F:=C16) Tryd.func16 (by kernel_rfl) Tryd.ntmps16 (args:=[.agg #[iv a0.Room,iv a0.Lease,.slice Aa0_2 na0_2 ca0_2,.slice Aa0_3 na0_3 ca0_3],.string a1,iv a2,iv a3]) (by kernel_rfl) ?_
 subst hna0_2
 subst hna0_3
 unfold smithyardlaw7_CacheFitsCanBePut.f at heq
 suffices key:∀ (H:Hp),Rw kBlob H F Aa0_2 a0.Blobs→Rw kEntry H F Aa0_3 a0.Entries→RunH C16 (S16 F H0 r) H0 w0 [.c []] (argL 0 [.agg #[iv a0.Room,iv a0.Lease,.slice Aa0_2 (a0.Blobs.length) ca0_2,.slice Aa0_3 (a0.Entries.length) ca0_3],.string a1,iv a2,iv a3]) H (F) from key H0 hra0_2 hra0_3
 intro H hra0_2 hra0_3
 refine Ra 1 [0] [.c [1]] ?_
 refine RgH.does (DoesH.new (d:=4) (v:=fun g=>.pointer (some ⟨g,0,none⟩)) (o:=fun g=>.cells #[iv a0.Room,iv a0.Lease,.slice Aa0_2 a0.Blobs.length ca0_2,.slice Aa0_3 a0.Entries.length ca0_3] 25 (0,0)) (fun g=>by kernel_rfl)) ?_
 rintro _ _ _ _ ⟨g1,rfl,rfl,rfl⟩
 refine Rd 2 [1,2,3,4] [(1,.string a1),(2,iv a2),(3,iv a3),(4,pg g1 0)]<|Ra 1 [1,0] [.c [1,1]]<|Rv 3 [1,2,3,4,17,18,19] [iv a0.Room,iv a0.Lease,.slice Aa0_2 a0.Blobs.length ca0_2,.slice Aa0_3 a0.Entries.length ca0_3] [.load ⟨g1,0,none⟩ (iv a0.Room),.load ⟨g1,1,none⟩ (iv a0.Lease),.load ⟨g1,2,none⟩ (.slice Aa0_2 a0.Blobs.length ca0_2),.load ⟨g1,3,none⟩ (.slice Aa0_3 a0.Entries.length ca0_3)] [(1,.string a1),(2,iv a2),(3,iv a3),(4,pg g1 0),(17,.agg #[iv a0.Room,iv a0.Lease,.slice Aa0_2 a0.Blobs.length ca0_2,.slice Aa0_3 a0.Entries.length ca0_3]),(18,iv a2),(19,iv a3)] (fun w hh=>⟨(hh.box 0 rfl rfl),(hh.box 0 rfl rfl),(hh.box 0 rfl rfl),(hh.box 0 rfl rfl)⟩) ?_
 obtain ⟨y1,hy1,heq⟩:=bind_some heq
 refine RgH.does (DoesH.call (d:=20) (g:=40) (args:=#[.agg #[iv a0.Room,iv a0.Lease,.slice Aa0_2 a0.Blobs.length ca0_2,.slice Aa0_3 a0.Entries.length ca0_3],iv a2,iv a3]) (by kernel_rfl) (cache_Fits_c (a0:=a0) (a1:=a2) (a2:=a3) (hra0_2.wk (fun _ h=>(.tail _ h))) hca0_2 rfl (hra0_3.wk (fun _ h=>(.tail _ h))) hca0_3 rfl hy1)) ?_
 rintro _ _ _ _ ⟨_,rfl,rfl,rfl,rfl⟩
 refine Rd 9 [1,2,3,4,9,10] [(1,.string a1),(2,iv a2),(3,iv a3),(4,pg g1 0),(9,.bool y1.1),(10,iv y1.2)]<|Ra 2 [1,1,0,0] [.c [1,1,0,1],.c [1,1,1]]<|Rd 2 [1,2,3,4,9,24] [(1,.string a1),(2,iv a2),(3,iv a3),(4,pg g1 0),(9,.bool y1.1),(24,.bool (y1.2 != 0))] ?_
 rcases bool_cases (y1.2 != 0) with hb1 | hb1
 ·replace heq:=bif_true hb1 heq
  refine Ct (y1.2 != 0) hb1<|Ad 1 [.c [1,1,0,1,0,0],.c [1,1,0,1,0,1],.c [1,1,1]] ?_
  obtain ⟨t1,ht1,heq⟩:=bind_some heq
  have K2:∀ (H:Hp),RunH C16 (S16 F H0 r) H0 w0 [.c [1,1,0,1,0,1],.c [1,1,1]] [(8,.bool t1)] H (F):=by
   intro H
   obtain rfl:=Option.some.inj heq
   exact RunH.done (by kernel_rfl) Tryd.func16 (v:=.bool t1) (by kernel_rfl) ⟨rfl,rfl⟩
  replace heq:=ht1
  refine Rr<|Rk 3 [27] [(27,.bool (!y1.1))] ?_
  rcases bool_cases (!y1.1) with hb2 | hb2
  ·replace heq:=bif_true hb2 heq
   refine RgH.val1 (v':=.bool true) (congrArg Value.bool hb2) ?_
   obtain ⟨y2,hy2,heq⟩:=bind_some heq
   refine RgH.does (DoesH.call (d:=28) (g:=29) (args:=(List.toArray [])) (by kernel_rfl) (smithyardlaw7_awake_c  hy2)) ?_
   rintro _ _ _ _ ⟨_,rfl,rfl,rfl,rfl⟩
   refine Rk 6 [8] [(8,.bool y2)] ?_
   obtain rfl:=Option.some.inj heq
   refine Kg [8] [(8,.bool y2)] ?_
   refine RgH.pick 1 [] (cs':=F) (by kernel_rfl) rfl ?_
   refine Dn ?_
   exact K2 _
  ·replace heq:=bif_false hb2 heq
   refine RgH.val1 (v':=.bool false) (congrArg Value.bool hb2) ?_
   refine Rk 6 [8] [(8,.bool false)] ?_
   obtain rfl:=Option.some.inj heq
   refine Kg [8] [(8,.bool false)] ?_
   refine RgH.pick 1 [] (cs':=F) (by kernel_rfl) rfl ?_
   refine Dn ?_
   exact K2 _
 ·replace heq:=bif_false hb1 heq
  refine Cf (y1.2 != 0) hb1<|Ra 2 [1,1,1,0] [.c [1,1,1,1]]<|Rv 5 [1,3,4,9,31,35] [iv a0.Room,iv a0.Lease,.slice Aa0_2 a0.Blobs.length ca0_2,.slice Aa0_3 a0.Entries.length ca0_3] [.load ⟨g1,0,none⟩ (iv a0.Room),.load ⟨g1,1,none⟩ (iv a0.Lease),.load ⟨g1,2,none⟩ (.slice Aa0_2 a0.Blobs.length ca0_2),.load ⟨g1,3,none⟩ (.slice Aa0_3 a0.Entries.length ca0_3)] [(1,.string a1),(3,iv a3),(4,pg g1 0),(9,.bool y1.1),(31,.agg #[iv a0.Room,iv a0.Lease,.slice Aa0_2 a0.Blobs.length ca0_2,.slice Aa0_3 a0.Entries.length ca0_3]),(35,.agg #[iv 1,iv a3,.string a1,.slice none 0 0,.string ByteArray.empty,iv a2])] (fun w hh=>⟨(hh.box 0 rfl rfl),(hh.box 0 rfl rfl),(hh.box 0 rfl rfl),(hh.box 0 rfl rfl)⟩) ?_
  obtain ⟨y3,hy3,heq⟩:=bind_some heq
  refine RgH.does (DoesH.call (d:=36) (g:=45) (args:=#[.agg #[iv a0.Room,iv a0.Lease,.slice Aa0_2 a0.Blobs.length ca0_2,.slice Aa0_3 a0.Entries.length ca0_3],.agg #[iv 1,iv a3,.string a1,.slice none 0 0,.string ByteArray.empty,iv a2]]) (by kernel_rfl) (cache_Do_c (a0:=a0) (a1:=(⟨1,a3,a1,([]:List ByteArray),ByteArray.empty,a2⟩:CacheEvent)) (hra0_2.wk (fun _ h=>(.tail _ h))) hca0_2 rfl (hra0_3.wk (fun _ h=>(.tail _ h))) hca0_3 rfl Rw.nil (Nat.le_refl _) rfl hy3)) ?_
  rintro _ H _ hl ⟨_,rfl,A1,c1,ch1,A2,c2,ch2,A3,c3,ch3,A4,c4,ch4,rfl,rfl,ho1,ho2,ho3,ho4⟩
  replace hra0_2:=hra0_2.mono hl
  replace hra0_3:=hra0_3.mono hl
  refine Rk 10 [1,3,4,9,37,38,39] [(1,.string a1),(3,iv a3),(4,pg g1 0),(9,.bool y1.1),(37,.agg #[iv y3.1.Room,iv y3.1.Lease,.slice A1 y3.1.Blobs.length c1,.slice A2 y3.1.Entries.length c2]),(38,.agg #[.bool y3.2.1.Done,.slice A3 y3.2.1.Missing.length c3,.slice A4 y3.2.1.Gone.length c4]),(39,iv y3.2.2)] ?_
  refine RgH.does (DoesH.new (d:=11) (v:=fun g=>.pointer (some ⟨g,0,none⟩)) (o:=fun g=>.cells #[iv 0,iv 0,.slice none 0 0,.slice none 0 0] 25 (0,0)) (fun g=>by kernel_rfl)) ?_
  rintro _ _ _ _ ⟨g2,rfl,rfl,rfl⟩
  refine RgH.does (DoesH.new (d:=12) (v:=fun g=>.pointer (some ⟨g,0,none⟩)) (o:=fun g=>.cells #[.bool false,.slice none 0 0,.slice none 0 0] 63 (0,0)) (fun g=>by kernel_rfl)) ?_
  rintro _ _ _ _ ⟨g3,rfl,rfl,rfl⟩
  refine RgH.does (DoesH.store (k:=1) (g:=g2) (off:=0) (v:=.agg #[iv y3.1.Room,iv y3.1.Lease,.slice A1 y3.1.Blobs.length c1,.slice A2 y3.1.Entries.length c2]) (cells':=#[iv y3.1.Room,iv y3.1.Lease,.slice A1 y3.1.Blobs.length c1,.slice A2 y3.1.Entries.length c2]) (by kernel_rfl) rfl (by kernel_rfl) (by kernel_rfl)) ?_
  rintro _ _ _ _ ⟨rfl,rfl,rfl⟩
  refine RgH.does (DoesH.store (k:=0) (g:=g3) (off:=0) (v:=.agg #[.bool y3.2.1.Done,.slice A3 y3.2.1.Missing.length c3,.slice A4 y3.2.1.Gone.length c4]) (cells':=#[.bool y3.2.1.Done,.slice A3 y3.2.1.Missing.length c3,.slice A4 y3.2.1.Gone.length c4]) (by kernel_rfl) rfl (by kernel_rfl) (by kernel_rfl)) ?_
  rintro _ _ _ _ ⟨rfl,rfl,rfl⟩
  refine Rd 15 [1,3,4,9,10,12] [(1,.string a1),(3,iv a3),(4,pg g1 0),(9,.bool y1.1),(10,iv y3.2.2),(12,pg g3 0)]<|Ra 2 [1,1,1,1,0,0] [.c [1,1,1,1,0,1],.c [1,1,1,1,1]]<|Rv 2 [3,4,9,10,12,41,42] [iv a0.Room,iv a0.Lease,.slice Aa0_2 a0.Blobs.length ca0_2,.slice Aa0_3 a0.Entries.length ca0_3] [.load ⟨g1,0,none⟩ (iv a0.Room),.load ⟨g1,1,none⟩ (iv a0.Lease),.load ⟨g1,2,none⟩ (.slice Aa0_2 a0.Blobs.length ca0_2),.load ⟨g1,3,none⟩ (.slice Aa0_3 a0.Entries.length ca0_3)] [(3,iv a3),(4,pg g1 0),(9,.bool y1.1),(10,iv y3.2.2),(12,pg g3 0),(41,.agg #[iv a0.Room,iv a0.Lease,.slice Aa0_2 a0.Blobs.length ca0_2,.slice Aa0_3 a0.Entries.length ca0_3]),(42,.string a1)] (fun w hh=>⟨(hh.box 6 rfl rfl),(hh.box 6 rfl rfl),(hh.box 6 rfl rfl),(hh.box 6 rfl rfl)⟩) ?_
  obtain ⟨y4,hy4,heq⟩:=bind_some heq
  refine RgH.does (DoesH.call (d:=43) (g:=34) (args:=#[.agg #[iv a0.Room,iv a0.Lease,.slice Aa0_2 a0.Blobs.length ca0_2,.slice Aa0_3 a0.Entries.length ca0_3],.string a1]) (by kernel_rfl) (smithyardlaw7_blob_c (a0:=a0) (a1:=a1) (hra0_2.wk (fun _ h=>(.tail _ (.tail _ (.tail _ (.tail _ (.tail _ (.tail _ (.tail _ h))))))))) hca0_2 rfl (hra0_3.wk (fun _ h=>(.tail _ (.tail _ (.tail _ (.tail _ (.tail _ (.tail _ (.tail _ h))))))))) hca0_3 rfl hy4)) ?_
  rintro _ _ _ _ ⟨_,rfl,rfl,rfl,rfl⟩
  refine Rk 6 [3,4,9,10,12,44,45] [(3,iv a3),(4,pg g1 0),(9,.bool y1.1),(10,iv y3.2.2),(12,pg g3 0),(44,.agg #[.string y4.1.Digest,iv y4.1.Size,iv y4.1.Used,iv y4.1.Until,iv y4.1.Pins]),(45,.bool y4.2)] ?_
  refine RgH.does (DoesH.new (d:=13) (v:=fun g=>.pointer (some ⟨g,0,none⟩)) (o:=fun g=>.cells #[.string ByteArray.empty,iv 0,iv 0,iv 0,iv 0] 47 (0,0)) (fun g=>by kernel_rfl)) ?_
  rintro _ _ _ _ ⟨g4,rfl,rfl,rfl⟩
  refine RgH.does (DoesH.store (k:=0) (g:=g4) (off:=0) (v:=.agg #[.string y4.1.Digest,iv y4.1.Size,iv y4.1.Used,iv y4.1.Until,iv y4.1.Pins]) (cells':=#[.string y4.1.Digest,iv y4.1.Size,iv y4.1.Used,iv y4.1.Until,iv y4.1.Pins]) (by kernel_rfl) rfl (by kernel_rfl) (by kernel_rfl)) ?_
  rintro _ _ _ _ ⟨rfl,rfl,rfl⟩
  refine Rd 9 [3,4,9,10,12,14] [(3,iv a3),(4,pg g1 0),(9,.bool y1.1),(10,iv y3.2.2),(12,pg g3 0),(14,.bool y4.2)]<|Ad 1 [.c [1,1,1,1,0,1,0],.c [1,1,1,1,0,1,1],.c [1,1,1,1,1]] ?_
  obtain ⟨t2,ht2,heq⟩:=bind_some heq
  have K10:∀ (H:Hp),Rw kBlob H F Aa0_2 a0.Blobs→Rw kEntry H F Aa0_3 a0.Entries→SlOwn Kd.string 9 H A3 c3 y3.2.1.Missing ch3→SlOwn Kd.string 9 H A4 c4 y3.2.1.Gone ch4→RunH C16 (S16 F H0 r) H0 w0 [.c [1,1,1,1,0,1,1],.c [1,1,1,1,1]] [(3,iv a3),(4,pg g1 0),(9,.bool y1.1),(10,iv y3.2.2),(12,pg g3 0),(50,.bool t2)] H ((some (g3,.cells #[.bool y3.2.1.Done,.slice A3 y3.2.1.Missing.length c3,.slice A4 y3.2.1.Gone.length c4] 63 (0,0)))::ch3::ch4::(some (g1,.cells #[iv a0.Room,iv a0.Lease,.slice Aa0_2 a0.Blobs.length ca0_2,.slice Aa0_3 a0.Entries.length ca0_3] 25 (0,0)))::F):=by
   intro H hra0_2 hra0_3 ho3 ho4
   rcases bool_cases (t2) with hb4 | hb4
   ·replace heq:=bif_true hb4 heq
    refine Ct t2 hb4<|Ad 1 [.c [1,1,1,1,0,1,1,0,0],.c [1,1,1,1,0,1,1,0,1],.c [1,1,1,1,1]] ?_
    obtain ⟨t3,ht3,heq⟩:=bind_some heq
    have K11:∀ (H:Hp),RunH C16 (S16 F H0 r) H0 w0 [.c [1,1,1,1,0,1,1,0,1],.c [1,1,1,1,1]] [(8,.bool t3)] H (F):=by
     intro H
     obtain rfl:=Option.some.inj heq
     exact RunH.done (by kernel_rfl) Tryd.func16 (v:=.bool t3) (by kernel_rfl) ⟨rfl,rfl⟩
    replace heq:=ht3
    refine Rr<|Rk 3 [53,12] [(53,.bool (y3.2.2 == 0)),(12,pg g3 0)] ?_
    rcases bool_cases (y3.2.2 == 0) with hb5 | hb5
    ·replace heq:=bif_true hb5 heq
     refine RgH.val1 (v':=.bool true) (congrArg Value.bool hb5) ?_
     refine Rk 8 [58] [(58,.bool true)] ?_
     obtain ⟨y5,hy5,heq⟩:=bind_some heq
     refine RgH.does (DoesH.call (d:=59) (g:=29) (args:=(List.toArray [])) (by kernel_rfl) (smithyardlaw7_awake_c  hy5)) ?_
     rintro _ _ _ _ ⟨_,rfl,rfl,rfl,rfl⟩
     refine Rk 11 [8] [(8,.bool y5)] ?_
     obtain rfl:=Option.some.inj heq
     refine Kg [8] [(8,.bool y5)] ?_
     refine RgH.pick 4 [] (cs':=F) (by kernel_rfl) rfl ?_
     refine Dn ?_
     exact K11 _
    ·replace heq:=bif_false hb5 heq
     refine RgH.val1 (v':=.bool false) (congrArg Value.bool hb5) ?_
     refine Rv 8 [58] [.bool y3.2.1.Done] [.load ⟨g3,0,none⟩ (.bool y3.2.1.Done)] [(58,.bool (!y3.2.1.Done))] (fun w hh=>(hh.box 0 rfl rfl)) ?_
     rcases bool_cases (!y3.2.1.Done) with hb6 | hb6
     ·replace heq:=bif_true hb6 heq
      refine RgH.val1 (v':=.bool true) (congrArg Value.bool hb6) ?_
      obtain ⟨y6,hy6,heq⟩:=bind_some heq
      refine RgH.does (DoesH.call (d:=59) (g:=29) (args:=(List.toArray [])) (by kernel_rfl) (smithyardlaw7_awake_c  hy6)) ?_
      rintro _ _ _ _ ⟨_,rfl,rfl,rfl,rfl⟩
      refine Rk 11 [8] [(8,.bool y6)] ?_
      obtain rfl:=Option.some.inj heq
      refine Kg [8] [(8,.bool y6)] ?_
      refine RgH.pick 4 [] (cs':=F) (by kernel_rfl) rfl ?_
      refine Dn ?_
      exact K11 _
     ·replace heq:=bif_false hb6 heq
      refine RgH.val1 (v':=.bool false) (congrArg Value.bool hb6) ?_
      refine Rk 11 [8] [(8,.bool false)] ?_
      obtain rfl:=Option.some.inj heq
      refine Kg [8] [(8,.bool false)] ?_
      refine RgH.pick 4 [] (cs':=F) (by kernel_rfl) rfl ?_
      refine Dn ?_
      exact K11 _
   ·replace heq:=bif_false hb4 heq
    refine Cf t2 hb4<|Ra 2 [1,1,1,1,1,0] [.c [1,1,1,1,1,1]]<|Rv 2 [9,12,62,63] [iv a0.Room,iv a0.Lease,.slice Aa0_2 a0.Blobs.length ca0_2,.slice Aa0_3 a0.Entries.length ca0_3] [.load ⟨g1,0,none⟩ (iv a0.Room),.load ⟨g1,1,none⟩ (iv a0.Lease),.load ⟨g1,2,none⟩ (.slice Aa0_2 a0.Blobs.length ca0_2),.load ⟨g1,3,none⟩ (.slice Aa0_3 a0.Entries.length ca0_3)] [(9,.bool y1.1),(12,pg g3 0),(62,.agg #[iv a0.Room,iv a0.Lease,.slice Aa0_2 a0.Blobs.length ca0_2,.slice Aa0_3 a0.Entries.length ca0_3]),(63,iv a3)] (fun w hh=>⟨(hh.box 3 rfl rfl),(hh.box 3 rfl rfl),(hh.box 3 rfl rfl),(hh.box 3 rfl rfl)⟩) ?_
    obtain ⟨y7,hy7,heq⟩:=bind_some heq
    refine RgH.does (DoesH.call (d:=64) (g:=37) (args:=#[.agg #[iv a0.Room,iv a0.Lease,.slice Aa0_2 a0.Blobs.length ca0_2,.slice Aa0_3 a0.Entries.length ca0_3],iv a3]) (by kernel_rfl) (cache_Next_c (a0:=a0) (a1:=a3) (hra0_2.wk (fun _ h=>(.tail _ (.tail _ (.tail _ (.tail _ h)))))) hca0_2 rfl (hra0_3.wk (fun _ h=>(.tail _ (.tail _ (.tail _ (.tail _ h)))))) hca0_3 rfl hy7)) ?_
    rintro _ _ _ _ ⟨_,rfl,A5,c5,ch5,rfl,rfl,rfl,ho5⟩
    refine Rd 8 [9,10,12,15] [(9,.bool y1.1),(10,iv y7.2),(12,pg g3 0),(15,.slice A5 y7.1.length c5)]<|Ad 1 [.c [1,1,1,1,1,1,0],.c [1,1,1,1,1,1,1]] ?_
    obtain ⟨t4,ht4,heq⟩:=bind_some heq
    have K13:∀ (H:Hp),RunH C16 (S16 F H0 r) H0 w0 [.c [1,1,1,1,1,1,1]] [(8,.bool t4)] H (F):=by
     intro H
     obtain rfl:=Option.some.inj heq
     exact RunH.done (by kernel_rfl) Tryd.func16 (v:=.bool t4) (by kernel_rfl) ⟨rfl,rfl⟩
    replace heq:=ht4
    refine Kp [9,10,12,15] [(9,.bool y1.1),(10,iv y7.2),(12,pg g3 0),(15,.slice A5 y7.1.length c5)] ?_
    refine RunH.draw (fun w=>Heap H w0 w (ch5::(some (g3,.cells #[.bool y3.2.1.Done,.slice A3 y3.2.1.Missing.length c3,.slice A4 y3.2.1.Gone.length c4] 63 (0,0)))::ch3::ch4::(some (g1,.cells #[iv a0.Room,iv a0.Lease,.slice Aa0_2 a0.Blobs.length ca0_2,.slice Aa0_3 a0.Entries.length ca0_3] 25 (0,0)))::F)) (fun w=>Heap H w0 w (ch5::(some (g3,.cells #[.bool y3.2.1.Done,.slice A3 y3.2.1.Missing.length c3,.slice A4 y3.2.1.Gone.length c4] 63 (0,0)))::ch3::ch4::(some (g1,.cells #[iv a0.Room,iv a0.Lease,.slice Aa0_2 a0.Blobs.length ca0_2,.slice Aa0_3 a0.Entries.length ca0_3] 25 (0,0)))::F)) [3,3,3,3,3,3,3,3,3,3,3,3,3,3,3,3,3,3,3,3,3,3,3,3,0,3,3,0,3,3] (n:=30) (ls:=[false,false,false,false,false,false,false,false,false,false,false,false,false,false,false,false,false,false,false,false,false,false,false,false,false,false,false,false,false,false]) (by kernel_rfl) (by kernel_rfl) (by kernel_rfl) rfl ?_
    refine Dk [0,1,2] 27 (nb 30 7) [] [] [69,9,12,15] [(69,.bool (y7.2 == 0)),(9,.bool y1.1),(12,pg g3 0),(15,.slice A5 y7.1.length c5)] (Pk 5 [0,1,2,3,4]) (Pk 5 [0,1,2,3,4]) (fun _ _=>trivial) ?_
    rcases bool_cases (y7.2 == 0) with hb7 | hb7
    ·replace heq:=bif_true hb7 heq
     refine DrH.val1 (v':=.bool true) (congrArg Value.bool hb7) ?_
     refine Dk [3,4,5,6,7,8] 21 (nb 30 511) [.bool y3.2.1.Done] [.load ⟨g3,0,none⟩ (.bool y3.2.1.Done)] [75,12,15] [(75,.bool (y3.2.1.Done == y1.1)),(12,pg g3 0),(15,.slice A5 y7.1.length c5)] (Pk 5 [0,1,2,3,4]) (Pk 5 [0,1,2,3,4]) (fun w hh=>(hh.box 1 rfl rfl)) ?_
     rcases bool_cases (y3.2.1.Done == y1.1) with hb8 | hb8
     ·replace heq:=bif_true hb8 heq
      refine DrH.val1 (v':=.bool true) (congrArg Value.bool hb8) ?_
      refine Dk [9,10,11,12,13,14,15,16] 13 (nb 30 131071) [.slice A4 y3.2.1.Gone.length c4] [.load ⟨g3,2,none⟩ (.slice A4 y3.2.1.Gone.length c4)] [83,12,15] [(83,.bool (decide ((y3.2.1.Gone.length:Int)≤(y7.1.length:Int)))),(12,pg g3 0),(15,.slice A5 y7.1.length c5)] (Pk 5 [0,1,2,3,4]) (Pk 5 [0,1,2,3,4]) (fun w hh=>(hh.box 1 rfl rfl)) ?_
      rcases bool_cases (decide ((y3.2.1.Gone.length:Int)≤(y7.1.length:Int))) with hb9 | hb9
      ·replace heq:=bif_true hb9 heq
       refine DrH.val1 (v':=.bool true) (congrArg Value.bool hb9) ?_
       obtain ⟨hn2,heq⟩:=guard?_some heq
       have hn1:(y3.2.1.Gone.length:Int).toNat=(y7.1.take (y3.2.1.Gone.length:Int).toNat).length:=by have h1:=both_of hn2; have h3:=trivial; (try simp); (try omega)
       have ho6:=ho5.take (y3.2.1.Gone.length:Int).toNat
       refine Dk [17,18,19,20,21,22,23] 6 (nb 30 16777215) [.slice A4 y3.2.1.Gone.length c4,.slice A4 y3.2.1.Gone.length c4] [.load ⟨g3,2,none⟩ (.slice A4 y3.2.1.Gone.length c4),.load ⟨g3,2,none⟩ (.slice A4 y3.2.1.Gone.length c4),.need ((0:Int)≤(y3.2.1.Gone.length:Int)∧(y3.2.1.Gone.length:Int)≤((c5:Nat):Int))] [83,85,90] [(83,.bool true),(85,.slice A4 y3.2.1.Gone.length c4),(90,.slice A5 ((y3.2.1.Gone.length:Int).toNat) c5)] (Pk 5 [0,1,2,3,4]) (Pk 5 [0,1,2,3,4]) (fun w hh=>⟨(hh.box 1 rfl rfl),(hh.box 1 rfl rfl),⟨(both_of hn2).1,(by have h1:=(both_of hn2).2; have h2:=ho5.cap; have h3:=trivial; omega)⟩⟩) ?_
       obtain ⟨y8,hy8,heq⟩:=bind_some heq
       refine DrH.does (n:=5) (ls':=[true,true,true,true,true,true,true,true,true,true,true,true,true,true,true,true,true,true,true,true,true,true,true,true,true,false,false,false,false,false]) 24 (by kernel_rfl) rfl (DoesH.call (d:=91) (g:=28) (args:=#[.slice A4 y3.2.1.Gone.length c4,.slice A5 ((y3.2.1.Gone.length:Int).toNat) c5]) (by kernel_rfl) (slices_Equal_string_c (a0:=y3.2.1.Gone) (a1:=(y7.1.take (y3.2.1.Gone.length:Int).toNat)) (ho4.rw (.tail _ (.tail _ (.tail _ (.head _))))) ho4.cap rfl (ho6.rw (.head _)) (by have h1:=ho6.cap; have h2:=hn1; omega) hn1 hy8)) ?_
       rintro _ _ _ _ ⟨_,rfl,rfl,rfl,rfl⟩
       refine ⟨fun _ w hh=>⟨fun _=>(Pk 5 [0,1,2,3,4]) w hh,fun _=>(Pk 5 [0,1,2,3,4]) w hh,(fun h=>by cases h)⟩,?_⟩
       refine Dk [25,26] 3 (nb 30 134217727) [] [] [93] [(93,.bool y8)] (Pk 5 [0,1,2,3,4]) (Pk 5 [0,1,2,3,4]) (fun _ _=>trivial) ?_
       rcases bool_cases (y8) with hb10 | hb10
       ·replace heq:=bif_true hb10 heq
        refine DrH.val1 (v':=.bool true) (congrArg Value.bool hb10) ?_
        refine Kr [93] [(93,.bool true)] ?_
        obtain ⟨y9,hy9,heq⟩:=bind_some heq
        refine DrH.does (n:=2) (ls':=[true,true,true,true,true,true,true,true,true,true,true,true,true,true,true,true,true,true,true,true,true,true,true,true,true,true,true,true,false,false]) 27 (by kernel_rfl) rfl (DoesH.call (d:=94) (g:=29) (args:=(List.toArray [])) (by kernel_rfl) (smithyardlaw7_awake_c  hy9)) ?_
        rintro _ _ _ _ ⟨_,rfl,rfl,rfl,rfl⟩
        refine ⟨fun _ w hh=>⟨fun _=>(Pk 5 [0,1,2,3,4]) w hh,fun _=>(Pk 5 [0,1,2,3,4]) w hh,(fun h=>by cases h)⟩,?_⟩
        refine Dk [28,29] 0 (nb 30 1073741823) [] [] [8] [(8,.bool y9)] (Pk 5 [0,1,2,3,4]) (Pk 5 [0,1,2,3,4]) (fun _ _=>trivial) ?_
        obtain rfl:=Option.some.inj heq
        refine Kr [8] [(8,.bool y9)] ?_
        refine DrH.pick 5 [] (cs':=F) (by kernel_rfl) rfl ?_
        refine DrH.done (by kernel_rfl) ?_
        exact K13 _
       ·replace heq:=bif_false hb10 heq
        refine DrH.val1 (v':=.bool false) (congrArg Value.bool hb10) ?_
        refine Dk [27,28,29] 0 (nb 30 1073741823) [] [] [8] [(8,.bool false)] (Pk 5 [0,1,2,3,4]) (Pk 5 [0,1,2,3,4]) (fun _ _=>trivial) ?_
        obtain rfl:=Option.some.inj heq
        refine Kr [8] [(8,.bool false)] ?_
        refine DrH.pick 5 [] (cs':=F) (by kernel_rfl) rfl ?_
        refine DrH.done (by kernel_rfl) ?_
        exact K13 _
      ·replace heq:=bif_false hb9 heq
       refine DrH.val1 (v':=.bool false) (congrArg Value.bool hb9) ?_
       refine Dk [17,18,19,20,21,22,23,24,25,26,27,28,29] 0 (nb 30 1073741823) [] [] [8] [(8,.bool false)] (Pk 5 [0,1,2,3,4]) (Pk 5 [0,1,2,3,4]) (fun _ _=>trivial) ?_
       obtain rfl:=Option.some.inj heq
       refine Kr [8] [(8,.bool false)] ?_
       refine DrH.pick 5 [] (cs':=F) (by kernel_rfl) rfl ?_
       refine DrH.done (by kernel_rfl) ?_
       exact K13 _
     ·replace heq:=bif_false hb8 heq
      refine DrH.val1 (v':=.bool false) (congrArg Value.bool hb8) ?_
      refine Dk [9,10,11,12,13,14,15,16,17,18,19,20,21,22,23,24,25,26,27,28,29] 0 (nb 30 1073741823) [] [] [8] [(8,.bool false)] (Pk 5 [0,1,2,3,4]) (Pk 5 [0,1,2,3,4]) (fun _ _=>trivial) ?_
      obtain rfl:=Option.some.inj heq
      refine Kr [8] [(8,.bool false)] ?_
      refine DrH.pick 5 [] (cs':=F) (by kernel_rfl) rfl ?_
      refine DrH.done (by kernel_rfl) ?_
      exact K13 _
    ·replace heq:=bif_false hb7 heq
     refine DrH.val1 (v':=.bool false) (congrArg Value.bool hb7) ?_
     refine Dk [3,4,5,6,7,8,9,10,11,12,13,14,15,16,17,18,19,20,21,22,23,24,25,26,27,28,29] 0 (nb 30 1073741823) [] [] [8] [(8,.bool false)] (Pk 5 [0,1,2,3,4]) (Pk 5 [0,1,2,3,4]) (fun _ _=>trivial) ?_
     obtain rfl:=Option.some.inj heq
     refine Kr [8] [(8,.bool false)] ?_
     refine DrH.pick 5 [] (cs':=F) (by kernel_rfl) rfl ?_
     refine DrH.done (by kernel_rfl) ?_
     exact K13 _
  replace heq:=ht2
  refine Rr<|Rk 2 [47,3,4,9,10,12] [(47,.bool y4.2),(3,iv a3),(4,pg g1 0),(9,.bool y1.1),(10,iv y3.2.2),(12,pg g3 0)] ?_
  rcases bool_cases (y4.2) with hb3 | hb3
  ·replace heq:=bif_true hb3 heq
   refine RgH.val1 (v':=.bool true) (congrArg Value.bool hb3) ?_
   refine Rk 5 [3,4,9,10,12,50] [(3,iv a3),(4,pg g1 0),(9,.bool y1.1),(10,iv y3.2.2),(12,pg g3 0),(50,.bool true)] ?_
   obtain rfl:=Option.some.inj heq
   refine Kg [3,4,9,10,12,50] [(3,iv a3),(4,pg g1 0),(9,.bool y1.1),(10,iv y3.2.2),(12,pg g3 0),(50,.bool true)] ?_
   refine RgH.pick 8 [1,5,6,7] (cs':=(some (g3,.cells #[.bool y3.2.1.Done,.slice A3 y3.2.1.Missing.length c3,.slice A4 y3.2.1.Gone.length c4] 63 (0,0)))::ch3::ch4::(some (g1,.cells #[iv a0.Room,iv a0.Lease,.slice Aa0_2 a0.Blobs.length ca0_2,.slice Aa0_3 a0.Entries.length ca0_3] 25 (0,0)))::F) (by kernel_rfl) rfl ?_
   refine Dn ?_
   exact K10 _ hra0_2 hra0_3 ho3 ho4
  ·replace heq:=bif_false hb3 heq
   refine RgH.val1 (v':=.bool false) (congrArg Value.bool hb3) ?_
   refine Rk 5 [3,4,9,10,12,50] [(3,iv a3),(4,pg g1 0),(9,.bool y1.1),(10,iv y3.2.2),(12,pg g3 0),(50,.bool (y3.2.2 != 0))] ?_
   obtain rfl:=Option.some.inj heq
   refine Kg [3,4,9,10,12,50] [(3,iv a3),(4,pg g1 0),(9,.bool y1.1),(10,iv y3.2.2),(12,pg g3 0),(50,.bool (y3.2.2 != 0))] ?_
   refine RgH.pick 8 [1,5,6,7] (cs':=(some (g3,.cells #[.bool y3.2.1.Done,.slice A3 y3.2.1.Missing.length c3,.slice A4 y3.2.1.Gone.length c4] 63 (0,0)))::ch3::ch4::(some (g1,.cells #[iv a0.Room,iv a0.Lease,.slice Aa0_2 a0.Blobs.length ca0_2,.slice Aa0_3 a0.Entries.length ca0_3] 25 (0,0)))::F) (by kernel_rfl) rfl ?_
   refine Dn ?_
   exact K10 _ hra0_2 hra0_3 ho3 ho4
end Go.Proofs.YtkjilepjblffeaaDoor
