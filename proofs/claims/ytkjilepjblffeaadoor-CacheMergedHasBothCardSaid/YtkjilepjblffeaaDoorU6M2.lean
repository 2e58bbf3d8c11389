/- What the machine's calls of these functions come to: just what the plain functions say. Written by program. -/
import Derived.Test.YtkjilepjblffeaaDoorProg
import Derived.Test.YtkjilepjblffeaaDoorKitX
import Derived.Test.YtkjilepjblffeaaDoorUD
import Derived.Test.YtkjilepjblffeaaDoorShelf
import Derived.Test.YtkjilepjblffeaaDoorU6M1
set_option linter.unusedVariables false
set_option linter.unusedSimpArgs false
set_option maxRecDepth 100000
set_option maxHeartbeats 1000000
namespace Go.Proofs.YtkjilepjblffeaaDoor
open Go Go.RowKit Go.Proofs.YtkjilepjblffeaaDoor.Kit
noncomputable def C32:Ctx:={ P:=Tryd.prog,f:=32,N:=144,c:=bodyOf Tryd.f32 }
def S32 (F:List Ch) (H0:Hp) (r:Cache × Int) (v:Value) (H:Hp) (cs:List Ch):Prop:=∃ (A0_2:Option Addr) (c0_2:Nat) (ch0_2:Ch) (A0_3:Option Addr) (c0_3:Nat) (ch0_3:Ch),v=.tuple #[.agg #[iv r.1.Room,iv r.1.Lease,.slice A0_2 r.1.Blobs.length c0_2,.slice A0_3 r.1.Entries.length c0_3],iv r.2]∧ch0_2::ch0_3::F=cs∧SlOwn kBlob 47 H A0_2 c0_2 r.1.Blobs ch0_2∧SlOwn kEntry 51 H A0_3 c0_3 r.1.Entries ch0_3
theorem cache_Merged.e2_c {w0:World} {H0:Hp} {F:List Ch} {r:Cache × Int}:∀ (H:Hp) (g1:Nat) (g3:Nat) (y3:Cache) (v_a2_2:List Blob) (Av_a2_2:Option Addr) (cv_a2_2:Nat) (chv_a2_2:Ch) (v_a2_3:List Entry) (Av_a2_3:Option Addr) (nv_a2_3:Nat) (cv_a2_3:Nat) (chv_a2_3:Ch) ,SlOwn kBlob 47 H Av_a2_2 cv_a2_2 v_a2_2 chv_a2_2→SlOwn kEntry 51 H Av_a2_3 cv_a2_3 v_a2_3 chv_a2_3→nv_a2_3=v_a2_3.length→cache_Merged.e2 y3 v_a2_2 v_a2_3=some r→RunH C32 (S32 F H0 r) H0 w0 [.c [1,1,1,1,1,1,0,0],.c [1,1,1,1,1,1,0,1],.c [1,1,1,1,1,1,1]] [(2,pg g1 0),(4,pg g3 0)] H (chv_a2_2::chv_a2_3::(some (g3,.cells #[iv 0,iv 0,.slice none 0 0,.slice none 0 0] 25 (0,0)))::(some (g1,.cells #[iv y3.Room,iv y3.Lease,.slice Av_a2_2 v_a2_2.length cv_a2_2,.slice Av_a2_3 nv_a2_3 cv_a2_3] 25 (0,0)))::F):=by
 intro H g1 g3 y3 v_a2_2 Av_a2_2 cv_a2_2 chv_a2_2 v_a2_3 Av_a2_3 nv_a2_3 cv_a2_3 chv_a2_3 hov_a2_2 hov_a2_3 hnv_a2_3 heq
 subst hnv_a2_3
 unfold cache_Merged.e2 at heq
 refine Rr<|Rv 1 [2,4,137] [iv y3.Room,iv y3.Lease,.slice Av_a2_2 v_a2_2.length cv_a2_2,.slice Av_a2_3 v_a2_3.length cv_a2_3] [.load ⟨g1,0,none⟩ (iv y3.Room),.load ⟨g1,1,none⟩ (iv y3.Lease),.load ⟨g1,2,none⟩ (.slice Av_a2_2 v_a2_2.length cv_a2_2),.load ⟨g1,3,none⟩ (.slice Av_a2_3 v_a2_3.length cv_a2_3)] [(2,pg g1 0),(4,pg g3 0),(137,.agg #[iv y3.Room,iv y3.Lease,.slice Av_a2_2 v_a2_2.length cv_a2_2,.slice Av_a2_3 v_a2_3.length cv_a2_3])] (fun w hh=>⟨(hh.box 3 rfl rfl),(hh.box 3 rfl rfl),(hh.box 3 rfl rfl),(hh.box 3 rfl rfl)⟩) ?_
 obtain ⟨y5,hy5,heq⟩:=bind_some heq
 refine RgH.does (DoesH.call (d:=138) (g:=22) (args:=#[.agg #[iv y3.Room,iv y3.Lease,.slice Av_a2_2 v_a2_2.length cv_a2_2,.slice Av_a2_3 v_a2_3.length cv_a2_3]]) (by kernel_rfl) (cache_CheckCache_c (a0:=(⟨y3.Room,y3.Lease,v_a2_2,v_a2_3⟩:Cache)) (hov_a2_2.rw (.head _)) hov_a2_2.cap rfl (hov_a2_3.rw (.tail _ (.head _))) hov_a2_3.cap rfl hy5)) ?_
 rintro _ _ _ _ ⟨_,rfl,rfl,rfl,rfl⟩
 refine Rd 3 [2,4,17] [(2,pg g1 0),(4,pg g3 0),(17,iv y5)]<|Ra 1 [1,1,1,1,1,1,0,1,0] [.c [1,1,1,1,1,1,0,1,1],.c [1,1,1,1,1,1,1]]<|Rd 2 [2,4,17,140] [(2,pg g1 0),(4,pg g3 0),(17,iv y5),(140,.bool (y5 != 0))] ?_
 rcases bool_cases (y5 != 0) with hb3 | hb3
 ·replace heq:=bif_true hb3 heq
  refine Ct (y5 != 0) hb3<|Ra 1 [1,1,1,1,1,1,0,1,1,0,0] [.c [1,1,1,1,1,1,0,1,1,0,1],.c [1,1,1,1,1,1,1]]<|Rk 2 [4,141,142] [(4,pg g3 0),(141,.agg #[iv 0,iv 0,.slice none 0 0,.slice none 0 0]),(142,iv y5)] ?_
  refine RgH.does (DoesH.store (k:=2) (g:=g3) (off:=0) (v:=.agg #[iv 0,iv 0,.slice none 0 0,.slice none 0 0]) (cells':=#[iv 0,iv 0,.slice none 0 0,.slice none 0 0]) (by kernel_rfl) rfl (by kernel_rfl) (by kernel_rfl)) ?_
  rintro _ _ _ _ ⟨rfl,rfl,rfl⟩
  refine Rd 4 [4,5] [(4,pg g3 0),(5,iv y5)]<|RunH.nilc ?_
  have ho9:SlOwn kBlob 47 H none 0 ([]:List Blob) none:=SlOwn.nil
  refine RunH.nilc ?_
  have ho10:SlOwn kEntry 51 H none 0 ([]:List Entry) none:=SlOwn.nil
  obtain rfl:=Option.some.inj heq
  refine RunH.pick 6 [4,1,0] (cs':=(some (g3,.cells #[iv 0,iv 0,.slice none 0 0,.slice none 0 0] 25 (0,0)))::none::none::F) (by kernel_rfl) rfl ?_
  exact RunH.doneM' 1 (vs:=[.agg #[iv 0,iv 0,.slice none 0 0,.slice none 0 0],iv y5]) (v:=.tuple #[.agg #[iv 0,iv 0,.slice none 0 0,.slice none 0 0],iv y5]) (by kernel_rfl) Tryd.func32 (fun w hh=>show ResAll _ _ _ [.cell 4 25,.tmp 5] _ from ⟨⟨⟨g3,0,none⟩,by kernel_rfl,trS_run _ (vs:=[iv 0,iv 0,.slice none 0 0,.slice none 0 0]) (r:=[]) (es:=[.load ⟨g3,0,none⟩ (iv 0),.load ⟨g3,1,none⟩ (iv 0),.load ⟨g3,2,none⟩ (.slice none 0 0),.load ⟨g3,3,none⟩ (.slice none 0 0)]) (by kernel_rfl) ⟨(hh.box 0 rfl rfl),(hh.box 0 rfl rfl),(hh.box 0 rfl rfl),(hh.box 0 rfl rfl)⟩⟩,(show lk _ _=some _ by kernel_rfl),trivial⟩) rfl (cs':=none::none::F) rfl ⟨none,0,none,none,0,none,rfl,rfl,ho9,ho10⟩
 ·replace heq:=bif_false hb3 heq
  refine Cf (y5 != 0) hb3<|Ra 2 [1,1,1,1,1,1,1,0] [.c [1,1,1,1,1,1,1,1]]<|Rv 1 [4,143] [iv y3.Room,iv y3.Lease,.slice Av_a2_2 v_a2_2.length cv_a2_2,.slice Av_a2_3 v_a2_3.length cv_a2_3] [.load ⟨g1,0,none⟩ (iv y3.Room),.load ⟨g1,1,none⟩ (iv y3.Lease),.load ⟨g1,2,none⟩ (.slice Av_a2_2 v_a2_2.length cv_a2_2),.load ⟨g1,3,none⟩ (.slice Av_a2_3 v_a2_3.length cv_a2_3)] [(4,pg g3 0),(143,.agg #[iv y3.Room,iv y3.Lease,.slice Av_a2_2 v_a2_2.length cv_a2_2,.slice Av_a2_3 v_a2_3.length cv_a2_3])] (fun w hh=>⟨(hh.box 3 rfl rfl),(hh.box 3 rfl rfl),(hh.box 3 rfl rfl),(hh.box 3 rfl rfl)⟩) ?_
  refine RgH.does (DoesH.store (k:=2) (g:=g3) (off:=0) (v:=.agg #[iv y3.Room,iv y3.Lease,.slice Av_a2_2 v_a2_2.length cv_a2_2,.slice Av_a2_3 v_a2_3.length cv_a2_3]) (cells':=#[iv y3.Room,iv y3.Lease,.slice Av_a2_2 v_a2_2.length cv_a2_2,.slice Av_a2_3 v_a2_3.length cv_a2_3]) (by kernel_rfl) rfl (by kernel_rfl) (by kernel_rfl)) ?_
  rintro _ _ _ _ ⟨rfl,rfl,rfl⟩
  refine Rd 3 [4,5] [(4,pg g3 0),(5,iv 0)] ?_
  obtain rfl:=Option.some.inj heq
  refine RunH.pick 4 [2,0,1] (cs':=(some (g3,.cells #[iv y3.Room,iv y3.Lease,.slice Av_a2_2 v_a2_2.length cv_a2_2,.slice Av_a2_3 v_a2_3.length cv_a2_3] 25 (0,0)))::chv_a2_2::chv_a2_3::F) (by kernel_rfl) rfl ?_
  exact RunH.doneM' 1 (vs:=[.agg #[iv y3.Room,iv y3.Lease,.slice Av_a2_2 v_a2_2.length cv_a2_2,.slice Av_a2_3 v_a2_3.length cv_a2_3],iv 0]) (v:=.tuple #[.agg #[iv y3.Room,iv y3.Lease,.slice Av_a2_2 v_a2_2.length cv_a2_2,.slice Av_a2_3 v_a2_3.length cv_a2_3],iv 0]) (by kernel_rfl) Tryd.func32 (fun w hh=>show ResAll _ _ _ [.cell 4 25,.tmp 5] _ from ⟨⟨⟨g3,0,none⟩,by kernel_rfl,trS_run _ (vs:=[iv y3.Room,iv y3.Lease,.slice Av_a2_2 v_a2_2.length cv_a2_2,.slice Av_a2_3 v_a2_3.length cv_a2_3]) (r:=[]) (es:=[.load ⟨g3,0,none⟩ (iv y3.Room),.load ⟨g3,1,none⟩ (iv y3.Lease),.load ⟨g3,2,none⟩ (.slice Av_a2_2 v_a2_2.length cv_a2_2),.load ⟨g3,3,none⟩ (.slice Av_a2_3 v_a2_3.length cv_a2_3)]) (by kernel_rfl) ⟨(hh.box 0 rfl rfl),(hh.box 0 rfl rfl),(hh.box 0 rfl rfl),(hh.box 0 rfl rfl)⟩⟩,(show lk _ _=some _ by kernel_rfl),trivial⟩) rfl (cs':=chv_a2_2::chv_a2_3::F) rfl ⟨Av_a2_2,cv_a2_2,chv_a2_2,Av_a2_3,cv_a2_3,chv_a2_3,rfl,rfl,hov_a2_2,hov_a2_3⟩
theorem cache_Merged.j4_c {w0:World} {H0:Hp} {F:List Ch} {r:Cache × Int} (backl3:Cache→Cache→(List Blob)→(List Entry)→Int→Option (Cache × Int))
  (hbackl3:∀ (H:Hp) (g1:Nat) (g3:Nat) (y3:Cache) (y4:Cache) (A4:Option Addr) (c4:Nat) (ch4:Ch) (v_a2_2:List Blob) (Av_a2_2:Option Addr) (cv_a2_2:Nat) (chv_a2_2:Ch) (v_a2_3:List Entry) (Av_a2_3:Option Addr) (nv_a2_3:Nat) (cv_a2_3:Nat) (chv_a2_3:Ch) (v103:Int) ,SlOwn kEntry 51 H A4 c4 y4.Entries ch4→SlOwn kBlob 47 H Av_a2_2 cv_a2_2 v_a2_2 chv_a2_2→SlOwn kEntry 51 H Av_a2_3 cv_a2_3 v_a2_3 chv_a2_3→nv_a2_3=v_a2_3.length→backl3 y3 y4 v_a2_2 v_a2_3 v103=some r→RunH C32 (S32 F H0 r) H0 w0 [.c [1,1,1,1,1,0,1,0,0],.l [1,1,1,1,1,0,1,0,0],.b 2,.c [1,1,1,1,1,1]] [(2,pg g1 0),(4,pg g3 0),(101,.slice A4 y4.Entries.length c4),(102,iv (y4.Entries.length:Int)),(103,iv v103)] H (ch4::chv_a2_2::chv_a2_3::(some (g3,.cells #[iv 0,iv 0,.slice none 0 0,.slice none 0 0] 25 (0,0)))::(some (g1,.cells #[iv y3.Room,iv y3.Lease,.slice Av_a2_2 v_a2_2.length cv_a2_2,.slice Av_a2_3 nv_a2_3 cv_a2_3] 25 (0,0)))::F)):∀ (H:Hp) (g1:Nat) (g3:Nat) (y3:Cache) (y4:Cache) (A4:Option Addr) (c4:Nat) (ch4:Ch) (v_a2_2:List Blob) (Av_a2_2:Option Addr) (cv_a2_2:Nat) (chv_a2_2:Ch) (v103:Int) (v_a2_3:List Entry) (Av_a2_3:Option Addr) (nv_a2_3:Nat) (cv_a2_3:Nat) (chv_a2_3:Ch) ,SlOwn kEntry 51 H A4 c4 y4.Entries ch4→SlOwn kBlob 47 H Av_a2_2 cv_a2_2 v_a2_2 chv_a2_2→SlOwn kEntry 51 H Av_a2_3 cv_a2_3 v_a2_3 chv_a2_3→nv_a2_3=v_a2_3.length→cache_Merged.j4 backl3 y3 y4 v_a2_2 v103 v_a2_3=some r→RunH C32 (S32 F H0 r) H0 w0 [.c [1,1,1,1,1,0,1,0,0,1,1,1],.l [1,1,1,1,1,0,1,0,0],.b 2,.c [1,1,1,1,1,1]] [(2,pg g1 0),(4,pg g3 0),(101,.slice A4 y4.Entries.length c4),(102,iv (y4.Entries.length:Int)),(103,iv v103)] H (ch4::chv_a2_2::chv_a2_3::(some (g3,.cells #[iv 0,iv 0,.slice none 0 0,.slice none 0 0] 25 (0,0)))::(some (g1,.cells #[iv y3.Room,iv y3.Lease,.slice Av_a2_2 v_a2_2.length cv_a2_2,.slice Av_a2_3 nv_a2_3 cv_a2_3] 25 (0,0)))::F):=by
 intro H g1 g3 y3 y4 A4 c4 ch4 v_a2_2 Av_a2_2 cv_a2_2 chv_a2_2 v103 v_a2_3 Av_a2_3 nv_a2_3 cv_a2_3 chv_a2_3 ho8 hov_a2_2 hov_a2_3 hnv_a2_3 heq
 subst hnv_a2_3
 unfold cache_Merged.j4 at heq
 refine Rr<|Rd 2 [2,4,101,102,103] [(2,pg g1 0),(4,pg g3 0),(101,.slice A4 y4.Entries.length c4),(102,iv (y4.Entries.length:Int)),(103,iv (w64 (v103+1)))]<|Ad 1 [.c [1,1,1,1,1,0,1,0,0],.l [1,1,1,1,1,0,1,0,0],.b 2,.c [1,1,1,1,1,1]]<|Kp [2,4,101,102,103] [(2,pg g1 0),(4,pg g3 0),(101,.slice A4 y4.Entries.length c4),(102,iv (y4.Entries.length:Int)),(103,iv (w64 (v103+1)))] ?_
 exact hbackl3 _ _ _ y3 y4 _ _ _ v_a2_2 _ _ _ v_a2_3 _ _ _ _ (w64 (v103+1)) ho8 hov_a2_2 hov_a2_3 rfl heq
theorem cache_Merged.l3_c {w0:World} {H0:Hp} {F:List Ch} {r:Cache × Int} (e2:Cache→(List Blob)→(List Entry)→Option (Cache × Int))
  (he2:∀ (H:Hp) (g1:Nat) (g3:Nat) (y3:Cache) (v_a2_2:List Blob) (Av_a2_2:Option Addr) (cv_a2_2:Nat) (chv_a2_2:Ch) (v_a2_3:List Entry) (Av_a2_3:Option Addr) (nv_a2_3:Nat) (cv_a2_3:Nat) (chv_a2_3:Ch) ,SlOwn kBlob 47 H Av_a2_2 cv_a2_2 v_a2_2 chv_a2_2→SlOwn kEntry 51 H Av_a2_3 cv_a2_3 v_a2_3 chv_a2_3→nv_a2_3=v_a2_3.length→e2 y3 v_a2_2 v_a2_3=some r→RunH C32 (S32 F H0 r) H0 w0 [.c [1,1,1,1,1,1,0,0],.c [1,1,1,1,1,1,0,1],.c [1,1,1,1,1,1,1]] [(2,pg g1 0),(4,pg g3 0)] H (chv_a2_2::chv_a2_3::(some (g3,.cells #[iv 0,iv 0,.slice none 0 0,.slice none 0 0] 25 (0,0)))::(some (g1,.cells #[iv y3.Room,iv y3.Lease,.slice Av_a2_2 v_a2_2.length cv_a2_2,.slice Av_a2_3 nv_a2_3 cv_a2_3] 25 (0,0)))::F)):∀ (k:Nat),∀ (H:Hp) (g1:Nat) (g3:Nat) (y3:Cache) (y4:Cache) (A4:Option Addr) (c4:Nat) (ch4:Ch) (v_a2_2:List Blob) (Av_a2_2:Option Addr) (cv_a2_2:Nat) (chv_a2_2:Ch) (v_a2_3:List Entry) (Av_a2_3:Option Addr) (nv_a2_3:Nat) (cv_a2_3:Nat) (chv_a2_3:Ch) (v103:Int) ,SlOwn kEntry 51 H A4 c4 y4.Entries ch4→SlOwn kBlob 47 H Av_a2_2 cv_a2_2 v_a2_2 chv_a2_2→SlOwn kEntry 51 H Av_a2_3 cv_a2_3 v_a2_3 chv_a2_3→nv_a2_3=v_a2_3.length→cache_Merged.l3 e2 k y3 y4 v_a2_2 v_a2_3 v103=some r→RunH C32 (S32 F H0 r) H0 w0 [.c [1,1,1,1,1,0,1,0,0],.l [1,1,1,1,1,0,1,0,0],.b 2,.c [1,1,1,1,1,1]] [(2,pg g1 0),(4,pg g3 0),(101,.slice A4 y4.Entries.length c4),(102,iv (y4.Entries.length:Int)),(103,iv v103)] H (ch4::chv_a2_2::chv_a2_3::(some (g3,.cells #[iv 0,iv 0,.slice none 0 0,.slice none 0 0] 25 (0,0)))::(some (g1,.cells #[iv y3.Room,iv y3.Lease,.slice Av_a2_2 v_a2_2.length cv_a2_2,.slice Av_a2_3 nv_a2_3 cv_a2_3] 25 (0,0)))::F):=by
 intro k
 induction k with
 | zero=>intro H g1 g3 y3 y4 A4 c4 ch4 v_a2_2 Av_a2_2 cv_a2_2 chv_a2_2 v_a2_3 Av_a2_3 nv_a2_3 cv_a2_3 chv_a2_3 v103 ho8 hov_a2_2 hov_a2_3 hnv_a2_3 heq; exact nomatch (show (none:Option (Cache × Int))=some r from heq)
 | succ k ihk =>
  intro H g1 g3 y3 y4 A4 c4 ch4 v_a2_2 Av_a2_2 cv_a2_2 chv_a2_2 v_a2_3 Av_a2_3 nv_a2_3 cv_a2_3 chv_a2_3 v103 ho8 hov_a2_2 hov_a2_3 hnv_a2_3 heq
  subst hnv_a2_3
  rw [cache_Merged.l3] at heq
  refine Ra 1 [1,1,1,1,1,0,1,0,0,0] [.c [1,1,1,1,1,0,1,0,0,1],.l [1,1,1,1,1,0,1,0,0],.b 2,.c [1,1,1,1,1,1]]<|Rd 1 [2,4,101,102,103,104] [(2,pg g1 0),(4,pg g3 0),(101,.slice A4 y4.Entries.length c4),(102,iv (y4.Entries.length:Int)),(103,iv v103),(104,.bool (decide (v103<(y4.Entries.length:Int))))]<|Ad 1 [.c [1,1,1,1,1,0,1,0,0,1,0],.c [1,1,1,1,1,0,1,0,0,1,1],.l [1,1,1,1,1,0,1,0,0],.b 2,.c [1,1,1,1,1,1]] ?_
  rcases bool_cases (decide (v103<(y4.Entries.length:Int))) with hb4 | hb4
  ·replace heq:=bif_true hb4 heq
   refine Ct (decide (v103<(y4.Entries.length:Int))) hb4<|Ra 4 [1,1,1,1,1,0,1,0,0,1,1,0,0,0] [.c [1,1,1,1,1,0,1,0,0,1,1,0,0,1],.b 3,.c [1,1,1,1,1,0,1,0,0,1,1,1],.l [1,1,1,1,1,0,1,0,0],.b 2,.c [1,1,1,1,1,1]] ?_
   obtain ⟨x1,hx1,heq⟩:=bind_some heq
   obtain ⟨ha1,cs1,hK1,hcc1⟩:=ho8.get hx1
   obtain ⟨A5,c5,rfl,hc1,hr1⟩:=kEntry_open hK1
   refine Rv 2 [2,4,101,102,103,106] [.string x1.Key,.slice A5 x1.Refs.length c5,iv x1.Used] [.need (A4=some (adr A4)∧(0:Int)≤v103∧v103<((y4.Entries.length:Nat):Int)),.load (((adr A4).add (v103.toNat*3)).add 0) (.string x1.Key),.load (((adr A4).add (v103.toNat*3)).add 1) (.slice A5 x1.Refs.length c5),.load (((adr A4).add (v103.toNat*3)).add 2) (iv x1.Used)] [(2,pg g1 0),(4,pg g3 0),(101,.slice A4 y4.Entries.length c4),(102,iv (y4.Entries.length:Int)),(103,iv v103),(106,.agg #[.string x1.Key,.slice A5 x1.Refs.length c5,iv x1.Used])] (fun w hh=>⟨⟨ha1,(at?_some hx1).1,(at?_some hx1).2.1⟩,(hcc1 _ (hh.chin 0 rfl) 0 _ rfl),(hcc1 _ (hh.chin 0 rfl) 1 _ rfl),(hcc1 _ (hh.chin 0 rfl) 2 _ rfl)⟩) ?_
   refine RgH.does (DoesH.new (d:=14) (v:=fun g=>.pointer (some ⟨g,0,none⟩)) (o:=fun g=>.cells #[.string ByteArray.empty,.slice none 0 0,iv 0] 51 (0,0)) (fun g=>by kernel_rfl)) ?_
   rintro _ _ _ _ ⟨g4,rfl,rfl,rfl⟩
   refine RgH.does (DoesH.store (k:=0) (g:=g4) (off:=0) (v:=.agg #[.string x1.Key,.slice A5 x1.Refs.length c5,iv x1.Used]) (cells':=#[.string x1.Key,.slice A5 x1.Refs.length c5,iv x1.Used]) (by kernel_rfl) rfl (by kernel_rfl) (by kernel_rfl)) ?_
   rintro _ _ _ _ ⟨rfl,rfl,rfl⟩
   refine Dn<|Ra 1 [1,1,1,1,1,0,1,0,0,1,1,0,0,1,0] [.c [1,1,1,1,1,0,1,0,0,1,1,0,0,1,1],.b 3,.c [1,1,1,1,1,0,1,0,0,1,1,1],.l [1,1,1,1,1,0,1,0,0],.b 2,.c [1,1,1,1,1,1]]<|Rv 3 [2,4,14,101,102,103,108,110] [iv y3.Room,iv y3.Lease,.slice Av_a2_2 v_a2_2.length cv_a2_2,.slice Av_a2_3 v_a2_3.length cv_a2_3,.string x1.Key] [.load ⟨g1,0,none⟩ (iv y3.Room),.load ⟨g1,1,none⟩ (iv y3.Lease),.load ⟨g1,2,none⟩ (.slice Av_a2_2 v_a2_2.length cv_a2_2),.load ⟨g1,3,none⟩ (.slice Av_a2_3 v_a2_3.length cv_a2_3),.load ⟨g4,0,none⟩ (.string x1.Key)] [(2,pg g1 0),(4,pg g3 0),(14,pg g4 0),(101,.slice A4 y4.Entries.length c4),(102,iv (y4.Entries.length:Int)),(103,iv v103),(108,.agg #[iv y3.Room,iv y3.Lease,.slice Av_a2_2 v_a2_2.length cv_a2_2,.slice Av_a2_3 v_a2_3.length cv_a2_3]),(110,.string x1.Key)] (fun w hh=>⟨(hh.box 5 rfl rfl),(hh.box 5 rfl rfl),(hh.box 5 rfl rfl),(hh.box 5 rfl rfl),(hh.box 0 rfl rfl)⟩) ?_
   obtain ⟨y6,hy6,heq⟩:=bind_some heq
   refine RgH.does (DoesH.call (d:=111) (g:=78) (args:=#[.agg #[iv y3.Room,iv y3.Lease,.slice Av_a2_2 v_a2_2.length cv_a2_2,.slice Av_a2_3 v_a2_3.length cv_a2_3],.string x1.Key]) (by kernel_rfl) (cache_entryAt_c (a0:=(⟨y3.Room,y3.Lease,v_a2_2,v_a2_3⟩:Cache)) (a1:=x1.Key) (hov_a2_2.rw (.tail _ (.tail _ (.head _)))) hov_a2_2.cap rfl (hov_a2_3.rw (.tail _ (.tail _ (.tail _ (.head _))))) hov_a2_3.cap rfl hy6)) ?_
   rintro _ _ _ _ ⟨_,rfl,rfl,rfl,rfl⟩
   refine Rd 9 [2,4,14,15,16,101,102,103] [(2,pg g1 0),(4,pg g3 0),(14,pg g4 0),(15,iv y6.1),(16,.bool y6.2),(101,.slice A4 y4.Entries.length c4),(102,iv (y4.Entries.length:Int)),(103,iv v103)]<|Ra 1 [1,1,1,1,1,0,1,0,0,1,1,0,0,1,1,0] [.c [1,1,1,1,1,0,1,0,0,1,1,0,0,1,1,1],.b 3,.c [1,1,1,1,1,0,1,0,0,1,1,1],.l [1,1,1,1,1,0,1,0,0],.b 2,.c [1,1,1,1,1,1]]<|Rd 1 [2,4,14,15,101,102,103,114] [(2,pg g1 0),(4,pg g3 0),(14,pg g4 0),(15,iv y6.1),(101,.slice A4 y4.Entries.length c4),(102,iv (y4.Entries.length:Int)),(103,iv v103),(114,.bool y6.2)] ?_
   rcases bool_cases (y6.2) with hb5 | hb5
   ·replace heq:=bif_true hb5 heq
    refine Ct y6.2 hb5<|Kp [2,4,14,15,101,102,103] [(2,pg g1 0),(4,pg g3 0),(14,pg g4 0),(15,iv y6.1),(101,.slice A4 y4.Entries.length c4),(102,iv (y4.Entries.length:Int)),(103,iv v103)] ?_
    refine RunH.draw (fun w=>Heap H w0 w ((some (g4,.cells #[.string x1.Key,.slice A5 x1.Refs.length c5,iv x1.Used] 51 (0,0)))::ch4::chv_a2_2::chv_a2_3::(some (g3,.cells #[iv 0,iv 0,.slice none 0 0,.slice none 0 0] 25 (0,0)))::(some (g1,.cells #[iv y3.Room,iv y3.Lease,.slice Av_a2_2 v_a2_2.length cv_a2_2,.slice Av_a2_3 v_a2_3.length cv_a2_3] 25 (0,0)))::F)) (fun w=>Heap H w0 w ((some (g4,.cells #[.string x1.Key,.slice A5 x1.Refs.length c5,iv x1.Used] 51 (0,0)))::ch4::chv_a2_2::chv_a2_3::(some (g3,.cells #[iv 0,iv 0,.slice none 0 0,.slice none 0 0] 25 (0,0)))::(some (g1,.cells #[iv y3.Room,iv y3.Lease,.slice Av_a2_2 v_a2_2.length cv_a2_2,.slice Av_a2_3 v_a2_3.length cv_a2_3] 25 (0,0)))::F)) [3,3,3,3,3,3,3,3,3,3,3,3,0,3,2] (n:=15) (ls:=[false,false,false,false,false,false,false,false,false,false,false,false,false,false,false]) (by kernel_rfl) (by kernel_rfl) (by kernel_rfl) rfl ?_
    obtain ⟨x2,hx2,heq⟩:=bind_some heq
    obtain ⟨ha2,cs2,hK2,hcc2⟩:=hov_a2_3.get hx2
    obtain ⟨A6,c6,rfl,hc2,hr2⟩:=kEntry_open hK2
    refine Dk [0,1,2,3,4,5,6,7,8,9,10,11] 3 (nb 15 4095) [.slice Av_a2_3 v_a2_3.length cv_a2_3,.slice Av_a2_3 v_a2_3.length cv_a2_3,iv x2.Used,iv x1.Used] [.load ⟨g1,3,none⟩ (.slice Av_a2_3 v_a2_3.length cv_a2_3),.load ⟨g1,3,none⟩ (.slice Av_a2_3 v_a2_3.length cv_a2_3),.need (Av_a2_3=some (adr Av_a2_3)∧(0:Int)≤y6.1∧y6.1<((v_a2_3.length:Nat):Int)),.load (((adr Av_a2_3).add (y6.1.toNat*3)).add 2) (iv x2.Used),.load ⟨g4,2,none⟩ (iv x1.Used)] [2,4,101,102,103,116,117,126] [(2,pg g1 0),(4,pg g3 0),(101,.slice A4 y4.Entries.length c4),(102,iv (y4.Entries.length:Int)),(103,iv v103),(116,.slice Av_a2_3 v_a2_3.length cv_a2_3),(117,iv y6.1),(126,iv (max2 x2.Used x1.Used))] (Pk 6 [0,1,2,3,4,5]) (Pk 6 [0,1,2,3,4,5]) (fun w hh=>⟨(hh.box 5 rfl rfl),(hh.box 5 rfl rfl),⟨ha2,(at?_some hx2).1,(at?_some hx2).2.1⟩,(hcc2 _ (hh.chin 3 rfl) 2 _ rfl),(hh.box 0 rfl rfl)⟩)<|Kr [2,4,101,102,103,116,117,126] [(2,pg g1 0),(4,pg g3 0),(101,.slice A4 y4.Entries.length c4),(102,iv (y4.Entries.length:Int)),(103,iv v103),(116,.slice Av_a2_3 v_a2_3.length cv_a2_3),(117,iv y6.1),(126,iv (max2 x2.Used x1.Used))] ?_
    obtain ⟨ha3,cs3,hK3,hcc3⟩:=hov_a2_3.get hx2
    obtain ⟨A7,c7,rfl,hc3,hr3⟩:=kEntry_open hK3
    refine DrH.does (n:=2) (ls':=[true,true,true,true,true,true,true,true,true,true,true,true,true,false,false]) 12 (by kernel_rfl) rfl (DoesH.pureop (d:=127) (v:=.pointer (some ((adr Av_a2_3).add (y6.1.toNat*3)))) (vs:=[]) (evs:=[.need (Av_a2_3=some (adr Av_a2_3)∧(0:Int)≤y6.1∧y6.1<((v_a2_3.length:Nat):Int))]) (by kernel_rfl) (fun w hh=>⟨ha3,(at?_some hx2).1,(at?_some hx2).2.1⟩)) ?_
    rintro _ _ _ _ ⟨rfl,rfl,rfl⟩
    refine ⟨fun _ w hh=>⟨fun _=>(Pk 6 [0,1,2,3,4,5]) w hh,fun _=>(Pk 6 [0,1,2,3,4,5]) w hh,(fun h=>by cases h)⟩,?_⟩
    refine Dk [13] 1 (nb 15 16383) [] [] [2,4,101,102,103,126,128] [(2,pg g1 0),(4,pg g3 0),(101,.slice A4 y4.Entries.length c4),(102,iv (y4.Entries.length:Int)),(103,iv v103),(126,iv (max2 x2.Used x1.Used)),(128,.pointer (some (((adr Av_a2_3).add (y6.1.toNat*3)).add 2)))] (Pk 6 [0,1,2,3,4,5]) (Pk 6 [0,1,2,3,4,5]) (fun _ _=>trivial) ?_
    obtain ⟨ha4,cs4,hK4,hcc4⟩:=hov_a2_3.get hx2
    obtain ⟨A8,c8,rfl,hc4,hr4⟩:=kEntry_open hK4
    refine DrH.does (n:=0) (ls':=[true,true,true,true,true,true,true,true,true,true,true,true,true,true,true]) 14 (by kernel_rfl) rfl (DoesH.storeEl (a:=(((adr Av_a2_3).add (y6.1.toNat*3)).add 2)) (k:=3) (kd:=kEntry) (c0:=[.string x2.Key,.slice A8 x2.Refs.length c8,iv x2.Used]) (x':=(⟨x2.Key,x2.Refs,max2 x2.Used x1.Used⟩:Entry)) (o:=2) (ix:=y6.1) (v:=iv (max2 x2.Used x1.Used)) (by kernel_rfl) rfl hov_a2_3 hx2 (by kernel_rfl) hcc4 rfl (Nat.le_of_ble_eq_true (by kernel_rfl)) (kEntry_mk hc4 hr4)) ?_
    rintro _ _ _ _ ⟨ch5,rfl,rfl,rfl,ho11⟩
    have hn1:v_a2_3.length=(v_a2_3.set y6.1.toNat (⟨x2.Key,x2.Refs,max2 x2.Used x1.Used⟩:Entry)).length:=by rw [List.length_set]
    refine ⟨fun _ w hh=>⟨(fun h=>by cases h),(fun h=>absurd h (by decide)),(fun h=>by cases h)⟩,?_⟩
    refine Kr [2,4,101,102,103] [(2,pg g1 0),(4,pg g3 0),(101,.slice A4 y4.Entries.length c4),(102,iv (y4.Entries.length:Int)),(103,iv v103)] ?_
    refine DrH.done (by kernel_rfl) ?_
    refine Ad 1 [.c [1,1,1,1,1,0,1,0,0,1,1,1],.l [1,1,1,1,1,0,1,0,0],.b 2,.c [1,1,1,1,1,1]]<|Kp [2,4,101,102,103] [(2,pg g1 0),(4,pg g3 0),(101,.slice A4 y4.Entries.length c4),(102,iv (y4.Entries.length:Int)),(103,iv v103)] ?_
    refine RunH.pick 6 [1,2,3,4,5] (cs':=ch4::chv_a2_2::ch5::(some (g3,.cells #[iv 0,iv 0,.slice none 0 0,.slice none 0 0] 25 (0,0)))::(some (g1,.cells #[iv y3.Room,iv y3.Lease,.slice Av_a2_2 v_a2_2.length cv_a2_2,.slice Av_a2_3 v_a2_3.length cv_a2_3] 25 (0,0)))::F) (by kernel_rfl) rfl ?_
    exact (cache_Merged.j4_c (backl3:=(cache_Merged.l3 e2 k)) ihk) _ _ _ y3 y4 _ _ _ v_a2_2 _ _ _ v103 (v_a2_3.set y6.1.toNat (⟨x2.Key,x2.Refs,max2 x2.Used x1.Used⟩:Entry)) _ _ _ _ ho8 hov_a2_2 ho11 hn1 heq
   ·replace heq:=bif_false hb5 heq
    refine Cf y6.2 hb5<|Rr<|Rv 4 [2,4,101,102,103,130,131,132] [.slice Av_a2_3 v_a2_3.length cv_a2_3,.string x1.Key,.slice A5 x1.Refs.length c5,iv x1.Used] [.load ⟨g1,3,none⟩ (.slice Av_a2_3 v_a2_3.length cv_a2_3),.load ⟨g4,0,none⟩ (.string x1.Key),.load ⟨g4,1,none⟩ (.slice A5 x1.Refs.length c5),.load ⟨g4,2,none⟩ (iv x1.Used)] [(2,pg g1 0),(4,pg g3 0),(101,.slice A4 y4.Entries.length c4),(102,iv (y4.Entries.length:Int)),(103,iv v103),(130,.slice Av_a2_3 v_a2_3.length cv_a2_3),(131,iv y6.1),(132,.agg #[.string x1.Key,.slice A5 x1.Refs.length c5,iv x1.Used])] (fun w hh=>⟨(hh.box 5 rfl rfl),(hh.box 0 rfl rfl),(hh.box 0 rfl rfl),(hh.box 0 rfl rfl)⟩) ?_
    refine RgH.does (DoesH.new (d:=133) (v:=fun g=>.slice (some ⟨g,0,none⟩) 1 1) (o:=fun g=>.cells #[.string x1.Key,.slice A5 x1.Refs.length c5,iv x1.Used] 51 (0,0)) (fun g=>by kernel_rfl)) ?_
    rintro _ _ _ _ ⟨g5,rfl,rfl,rfl⟩
    have ho12:SlOwn kEntry 51 H (some ⟨g5,0,none⟩) 1 ([x1]:List Entry) (some (g5,.cells #[.string x1.Key,.slice A5 x1.Refs.length c5,iv x1.Used] 51 (0,0))):=SlOwn.lit (xs:=([x1]:List Entry)) (by kernel_rfl) (Nat.le_of_ble_eq_true (by kernel_rfl)) (Kd.Rep.one (kEntry_mk hc1 hr1))
    refine RgH.pick 7 [4,0,1,2,3,5,6] (cs':=chv_a2_3::(some (g5,.cells #[.string x1.Key,.slice A5 x1.Refs.length c5,iv x1.Used] 51 (0,0)))::(some (g4,.cells #[.string x1.Key,.slice A5 x1.Refs.length c5,iv x1.Used] 51 (0,0)))::ch4::chv_a2_2::(some (g3,.cells #[iv 0,iv 0,.slice none 0 0,.slice none 0 0] 25 (0,0)))::(some (g1,.cells #[iv y3.Room,iv y3.Lease,.slice Av_a2_2 v_a2_2.length cv_a2_2,.slice Av_a2_3 v_a2_3.length cv_a2_3] 25 (0,0)))::F) (by kernel_rfl) rfl ?_
    obtain ⟨y7,hy7,heq⟩:=bind_some heq
    refine RgH.does (DoesH.call (d:=134) (g:=81) (args:=#[.slice Av_a2_3 v_a2_3.length cv_a2_3,iv y6.1,.slice (some ⟨g5,0,none⟩) 1 1]) (by kernel_rfl) (slices_Insert_Entry_c (a0:=v_a2_3) (a1:=y6.1) (a2:=([x1]:List Entry)) hov_a2_3 rfl ho12 rfl hy7)) ?_
    rintro _ _ _ _ ⟨_,rfl,A9,c9,ch6,rfl,rfl,rfl,ho13⟩
    refine Rk 7 [2,4,101,102,103,134,135] [(2,pg g1 0),(4,pg g3 0),(101,.slice A4 y4.Entries.length c4),(102,iv (y4.Entries.length:Int)),(103,iv v103),(134,.slice A9 y7.length c9),(135,pg g1 3)] ?_
    refine RgH.does (DoesH.store (k:=5) (g:=g1) (off:=3) (v:=.slice A9 y7.length c9) (cells':=#[iv y3.Room,iv y3.Lease,.slice Av_a2_2 v_a2_2.length cv_a2_2,.slice A9 y7.length c9]) (by kernel_rfl) rfl (by kernel_rfl) (by kernel_rfl)) ?_
    rintro _ _ _ _ ⟨rfl,rfl,rfl⟩
    refine Dn<|Ad 1 [.c [1,1,1,1,1,0,1,0,0,1,1,1],.l [1,1,1,1,1,0,1,0,0],.b 2,.c [1,1,1,1,1,1]]<|Kp [2,4,101,102,103] [(2,pg g1 0),(4,pg g3 0),(101,.slice A4 y4.Entries.length c4),(102,iv (y4.Entries.length:Int)),(103,iv v103)] ?_
    refine RunH.pick 6 [2,3,0,4,5] (cs':=ch4::chv_a2_2::ch6::(some (g3,.cells #[iv 0,iv 0,.slice none 0 0,.slice none 0 0] 25 (0,0)))::(some (g1,.cells #[iv y3.Room,iv y3.Lease,.slice Av_a2_2 v_a2_2.length cv_a2_2,.slice A9 y7.length c9] 25 (0,0)))::F) (by kernel_rfl) rfl ?_
    exact (cache_Merged.j4_c (backl3:=(cache_Merged.l3 e2 k)) ihk) _ _ _ y3 y4 _ _ _ v_a2_2 _ _ _ v103 y7 _ _ _ _ ho8 hov_a2_2 ho13 rfl heq
  ·replace heq:=bif_false hb4 heq
   refine Cf (decide (v103<(y4.Entries.length:Int))) hb4<|Ad 3 [.c [1,1,1,1,1,1,0,0],.c [1,1,1,1,1,1,0,1],.c [1,1,1,1,1,1,1]]<|Kp [2,4] [(2,pg g1 0),(4,pg g3 0)] ?_
   refine RunH.pick 5 [1,2,3,4] (cs':=chv_a2_2::chv_a2_3::(some (g3,.cells #[iv 0,iv 0,.slice none 0 0,.slice none 0 0] 25 (0,0)))::(some (g1,.cells #[iv y3.Room,iv y3.Lease,.slice Av_a2_2 v_a2_2.length cv_a2_2,.slice Av_a2_3 v_a2_3.length cv_a2_3] 25 (0,0)))::F) (by kernel_rfl) rfl ?_
   exact he2 _ _ _ y3 v_a2_2 _ _ _ v_a2_3 _ _ _ _ hov_a2_2 hov_a2_3 rfl heq
theorem cache_Merged.e1_c {w0:World} {H0:Hp} {F:List Ch} {r:Cache × Int}:∀ (H:Hp) (g1:Nat) (g2:Nat) (g3:Nat) (y3:Cache) (A2:Option Addr) (c2:Nat) (ch2:Ch) (y4:Cache) (A3:Option Addr) (c3:Nat) (ch3:Ch) (A4:Option Addr) (c4:Nat) (ch4:Ch) (v_a2_2:List Blob) (Av_a2_2:Option Addr) (nv_a2_2:Nat) (cv_a2_2:Nat) (chv_a2_2:Ch) ,SlOwn kEntry 51 H A2 c2 y3.Entries ch2→SlOwn kBlob 47 H A3 c3 y4.Blobs ch3→SlOwn kEntry 51 H A4 c4 y4.Entries ch4→SlOwn kBlob 47 H Av_a2_2 cv_a2_2 v_a2_2 chv_a2_2→nv_a2_2=v_a2_2.length→cache_Merged.e1 y3 y4 v_a2_2=some r→RunH C32 (S32 F H0 r) H0 w0 [.c [1,1,1,1,1,0,0],.c [1,1,1,1,1,0,1],.c [1,1,1,1,1,1]] [(2,pg g1 0),(3,pg g2 0),(4,pg g3 0)] H (ch3::ch4::chv_a2_2::ch2::(some (g3,.cells #[iv 0,iv 0,.slice none 0 0,.slice none 0 0] 25 (0,0)))::(some (g2,.cells #[iv y4.Room,iv y4.Lease,.slice A3 y4.Blobs.length c3,.slice A4 y4.Entries.length c4] 25 (0,0)))::(some (g1,.cells #[iv y3.Room,iv y3.Lease,.slice Av_a2_2 nv_a2_2 cv_a2_2,.slice A2 y3.Entries.length c2] 25 (0,0)))::F):=by
 intro H g1 g2 g3 y3 A2 c2 ch2 y4 A3 c3 ch3 A4 c4 ch4 v_a2_2 Av_a2_2 nv_a2_2 cv_a2_2 chv_a2_2 ho6 ho7 ho8 hov_a2_2 hnv_a2_2 heq
 subst hnv_a2_2
 unfold cache_Merged.e1 at heq
 refine Rr<|Rw' 4 [2,4,101,102,103] [.slice A4 y4.Entries.length c4] [.load ⟨g2,3,none⟩ (.slice A4 y4.Entries.length c4)] [(2,pg g1 0),(4,pg g3 0),(101,.slice A4 y4.Entries.length c4),(102,iv (y4.Entries.length:Int)),(103,iv 0)] (fun w hh=>(hh.box 5 rfl rfl))<|Ad 2 [.c [1,1,1,1,1,0,1,0,0],.l [1,1,1,1,1,0,1,0,0],.b 2,.c [1,1,1,1,1,1]]<|Kp [2,4,101,102,103] [(2,pg g1 0),(4,pg g3 0),(101,.slice A4 y4.Entries.length c4),(102,iv (y4.Entries.length:Int)),(103,iv 0)] ?_
 refine RunH.pick 7 [1,2,3,4,6] (cs':=ch4::chv_a2_2::ch2::(some (g3,.cells #[iv 0,iv 0,.slice none 0 0,.slice none 0 0] 25 (0,0)))::(some (g1,.cells #[iv y3.Room,iv y3.Lease,.slice Av_a2_2 v_a2_2.length cv_a2_2,.slice A2 y3.Entries.length c2] 25 (0,0)))::F) (by kernel_rfl) rfl ?_
 exact ((cache_Merged.l3_c (e2:=cache_Merged.e2) (cache_Merged.e2_c)) big) _ _ _ y3 y4 _ _ _ v_a2_2 _ _ _ y3.Entries _ _ _ _ 0 ho8 hov_a2_2 ho6 rfl heq
theorem cache_Merged.j6_c {w0:World} {H0:Hp} {F:List Ch} {r:Cache × Int} (backl5:Cache→Cache→(List Blob)→Int→Option (Cache × Int))
  (hbackl5:∀ (H:Hp) (g1:Nat) (g2:Nat) (g3:Nat) (y3:Cache) (A2:Option Addr) (c2:Nat) (ch2:Ch) (y4:Cache) (A3:Option Addr) (c3:Nat) (ch3:Ch) (A4:Option Addr) (c4:Nat) (ch4:Ch) (v_a2_2:List Blob) (Av_a2_2:Option Addr) (nv_a2_2:Nat) (cv_a2_2:Nat) (chv_a2_2:Ch) (v37:Int) ,SlOwn kEntry 51 H A2 c2 y3.Entries ch2→SlOwn kBlob 47 H A3 c3 y4.Blobs ch3→SlOwn kEntry 51 H A4 c4 y4.Entries ch4→SlOwn kBlob 47 H Av_a2_2 cv_a2_2 v_a2_2 chv_a2_2→nv_a2_2=v_a2_2.length→backl5 y3 y4 v_a2_2 v37=some r→RunH C32 (S32 F H0 r) H0 w0 [.c [1,1,1,1,0,1,0,0],.l [1,1,1,1,0,1,0,0],.b 0,.c [1,1,1,1,1]] [(2,pg g1 0),(3,pg g2 0),(4,pg g3 0),(35,.slice A3 y4.Blobs.length c3),(36,iv (y4.Blobs.length:Int)),(37,iv v37)] H (ch3::ch4::chv_a2_2::ch2::(some (g3,.cells #[iv 0,iv 0,.slice none 0 0,.slice none 0 0] 25 (0,0)))::(some (g2,.cells #[iv y4.Room,iv y4.Lease,.slice A3 y4.Blobs.length c3,.slice A4 y4.Entries.length c4] 25 (0,0)))::(some (g1,.cells #[iv y3.Room,iv y3.Lease,.slice Av_a2_2 nv_a2_2 cv_a2_2,.slice A2 y3.Entries.length c2] 25 (0,0)))::F)):∀ (H:Hp) (g1:Nat) (g2:Nat) (g3:Nat) (y3:Cache) (A2:Option Addr) (c2:Nat) (ch2:Ch) (y4:Cache) (A3:Option Addr) (c3:Nat) (ch3:Ch) (A4:Option Addr) (c4:Nat) (ch4:Ch) (v37:Int) (v_a2_2:List Blob) (Av_a2_2:Option Addr) (nv_a2_2:Nat) (cv_a2_2:Nat) (chv_a2_2:Ch) ,SlOwn kEntry 51 H A2 c2 y3.Entries ch2→SlOwn kBlob 47 H A3 c3 y4.Blobs ch3→SlOwn kEntry 51 H A4 c4 y4.Entries ch4→SlOwn kBlob 47 H Av_a2_2 cv_a2_2 v_a2_2 chv_a2_2→nv_a2_2=v_a2_2.length→cache_Merged.j6 backl5 y3 y4 v37 v_a2_2=some r→RunH C32 (S32 F H0 r) H0 w0 [.c [1,1,1,1,0,1,0,0,1,1,1],.l [1,1,1,1,0,1,0,0],.b 0,.c [1,1,1,1,1]] [(2,pg g1 0),(3,pg g2 0),(4,pg g3 0),(35,.slice A3 y4.Blobs.length c3),(36,iv (y4.Blobs.length:Int)),(37,iv v37)] H (ch3::ch4::chv_a2_2::ch2::(some (g3,.cells #[iv 0,iv 0,.slice none 0 0,.slice none 0 0] 25 (0,0)))::(some (g2,.cells #[iv y4.Room,iv y4.Lease,.slice A3 y4.Blobs.length c3,.slice A4 y4.Entries.length c4] 25 (0,0)))::(some (g1,.cells #[iv y3.Room,iv y3.Lease,.slice Av_a2_2 nv_a2_2 cv_a2_2,.slice A2 y3.Entries.length c2] 25 (0,0)))::F):=by
 intro H g1 g2 g3 y3 A2 c2 ch2 y4 A3 c3 ch3 A4 c4 ch4 v37 v_a2_2 Av_a2_2 nv_a2_2 cv_a2_2 chv_a2_2 ho6 ho7 ho8 hov_a2_2 hnv_a2_2 heq
 subst hnv_a2_2
 unfold cache_Merged.j6 at heq
 refine Rr<|Rd 2 [2,3,4,35,36,37] [(2,pg g1 0),(3,pg g2 0),(4,pg g3 0),(35,.slice A3 y4.Blobs.length c3),(36,iv (y4.Blobs.length:Int)),(37,iv (w64 (v37+1)))]<|Ad 1 [.c [1,1,1,1,0,1,0,0],.l [1,1,1,1,0,1,0,0],.b 0,.c [1,1,1,1,1]]<|Kp [2,3,4,35,36,37] [(2,pg g1 0),(3,pg g2 0),(4,pg g3 0),(35,.slice A3 y4.Blobs.length c3),(36,iv (y4.Blobs.length:Int)),(37,iv (w64 (v37+1)))] ?_
 exact hbackl5 _ _ _ _ y3 _ _ _ y4 _ _ _ _ _ _ v_a2_2 _ _ _ _ (w64 (v37+1)) ho6 ho7 ho8 hov_a2_2 rfl heq
theorem cache_Merged.l5_c {w0:World} {H0:Hp} {F:List Ch} {r:Cache × Int} (e1:Cache→Cache→(List Blob)→Option (Cache × Int))
  (he1:∀ (H:Hp) (g1:Nat) (g2:Nat) (g3:Nat) (y3:Cache) (A2:Option Addr) (c2:Nat) (ch2:Ch) (y4:Cache) (A3:Option Addr) (c3:Nat) (ch3:Ch) (A4:Option Addr) (c4:Nat) (ch4:Ch) (v_a2_2:List Blob) (Av_a2_2:Option Addr) (nv_a2_2:Nat) (cv_a2_2:Nat) (chv_a2_2:Ch) ,SlOwn kEntry 51 H A2 c2 y3.Entries ch2→SlOwn kBlob 47 H A3 c3 y4.Blobs ch3→SlOwn kEntry 51 H A4 c4 y4.Entries ch4→SlOwn kBlob 47 H Av_a2_2 cv_a2_2 v_a2_2 chv_a2_2→nv_a2_2=v_a2_2.length→e1 y3 y4 v_a2_2=some r→RunH C32 (S32 F H0 r) H0 w0 [.c [1,1,1,1,1,0,0],.c [1,1,1,1,1,0,1],.c [1,1,1,1,1,1]] [(2,pg g1 0),(3,pg g2 0),(4,pg g3 0)] H (ch3::ch4::chv_a2_2::ch2::(some (g3,.cells #[iv 0,iv 0,.slice none 0 0,.slice none 0 0] 25 (0,0)))::(some (g2,.cells #[iv y4.Room,iv y4.Lease,.slice A3 y4.Blobs.length c3,.slice A4 y4.Entries.length c4] 25 (0,0)))::(some (g1,.cells #[iv y3.Room,iv y3.Lease,.slice Av_a2_2 nv_a2_2 cv_a2_2,.slice A2 y3.Entries.length c2] 25 (0,0)))::F)):∀ (k:Nat),∀ (H:Hp) (g1:Nat) (g2:Nat) (g3:Nat) (y3:Cache) (A2:Option Addr) (c2:Nat) (ch2:Ch) (y4:Cache) (A3:Option Addr) (c3:Nat) (ch3:Ch) (A4:Option Addr) (c4:Nat) (ch4:Ch) (v_a2_2:List Blob) (Av_a2_2:Option Addr) (nv_a2_2:Nat) (cv_a2_2:Nat) (chv_a2_2:Ch) (v37:Int) ,SlOwn kEntry 51 H A2 c2 y3.Entries ch2→SlOwn kBlob 47 H A3 c3 y4.Blobs ch3→SlOwn kEntry 51 H A4 c4 y4.Entries ch4→SlOwn kBlob 47 H Av_a2_2 cv_a2_2 v_a2_2 chv_a2_2→nv_a2_2=v_a2_2.length→cache_Merged.l5 e1 k y3 y4 v_a2_2 v37=some r→RunH C32 (S32 F H0 r) H0 w0 [.c [1,1,1,1,0,1,0,0],.l [1,1,1,1,0,1,0,0],.b 0,.c [1,1,1,1,1]] [(2,pg g1 0),(3,pg g2 0),(4,pg g3 0),(35,.slice A3 y4.Blobs.length c3),(36,iv (y4.Blobs.length:Int)),(37,iv v37)] H (ch3::ch4::chv_a2_2::ch2::(some (g3,.cells #[iv 0,iv 0,.slice none 0 0,.slice none 0 0] 25 (0,0)))::(some (g2,.cells #[iv y4.Room,iv y4.Lease,.slice A3 y4.Blobs.length c3,.slice A4 y4.Entries.length c4] 25 (0,0)))::(some (g1,.cells #[iv y3.Room,iv y3.Lease,.slice Av_a2_2 nv_a2_2 cv_a2_2,.slice A2 y3.Entries.length c2] 25 (0,0)))::F):=by
 intro k
 induction k with
 | zero=>intro H g1 g2 g3 y3 A2 c2 ch2 y4 A3 c3 ch3 A4 c4 ch4 v_a2_2 Av_a2_2 nv_a2_2 cv_a2_2 chv_a2_2 v37 ho6 ho7 ho8 hov_a2_2 hnv_a2_2 heq; exact nomatch (show (none:Option (Cache × Int))=some r from heq)
 | succ k ihk =>
  intro H g1 g2 g3 y3 A2 c2 ch2 y4 A3 c3 ch3 A4 c4 ch4 v_a2_2 Av_a2_2 nv_a2_2 cv_a2_2 chv_a2_2 v37 ho6 ho7 ho8 hov_a2_2 hnv_a2_2 heq
  subst hnv_a2_2
  rw [cache_Merged.l5] at heq
  refine Ra 1 [1,1,1,1,0,1,0,0,0] [.c [1,1,1,1,0,1,0,0,1],.l [1,1,1,1,0,1,0,0],.b 0,.c [1,1,1,1,1]]<|Rd 1 [2,3,4,35,36,37,38] [(2,pg g1 0),(3,pg g2 0),(4,pg g3 0),(35,.slice A3 y4.Blobs.length c3),(36,iv (y4.Blobs.length:Int)),(37,iv v37),(38,.bool (decide (v37<(y4.Blobs.length:Int))))]<|Ad 1 [.c [1,1,1,1,0,1,0,0,1,0],.c [1,1,1,1,0,1,0,0,1,1],.l [1,1,1,1,0,1,0,0],.b 0,.c [1,1,1,1,1]] ?_
  rcases bool_cases (decide (v37<(y4.Blobs.length:Int))) with hb6 | hb6
  ·replace heq:=bif_true hb6 heq
   refine Ct (decide (v37<(y4.Blobs.length:Int))) hb6<|Ra 4 [1,1,1,1,0,1,0,0,1,1,0,0,0] [.c [1,1,1,1,0,1,0,0,1,1,0,0,1],.b 1,.c [1,1,1,1,0,1,0,0,1,1,1],.l [1,1,1,1,0,1,0,0],.b 0,.c [1,1,1,1,1]] ?_
   obtain ⟨x3,hx3,heq⟩:=bind_some heq
   obtain ⟨ha5,cs5,hK5,hcc5⟩:=ho7.get hx3
   obtain ⟨rfl⟩:=kBlob_open hK5
   refine Rv 2 [2,3,4,35,36,37,40] [.string x3.Digest,iv x3.Size,iv x3.Used,iv x3.Until,iv x3.Pins] [.need (A3=some (adr A3)∧(0:Int)≤v37∧v37<((y4.Blobs.length:Nat):Int)),.load (((adr A3).add (v37.toNat*5)).add 0) (.string x3.Digest),.load (((adr A3).add (v37.toNat*5)).add 1) (iv x3.Size),.load (((adr A3).add (v37.toNat*5)).add 2) (iv x3.Used),.load (((adr A3).add (v37.toNat*5)).add 3) (iv x3.Until),.load (((adr A3).add (v37.toNat*5)).add 4) (iv x3.Pins)] [(2,pg g1 0),(3,pg g2 0),(4,pg g3 0),(35,.slice A3 y4.Blobs.length c3),(36,iv (y4.Blobs.length:Int)),(37,iv v37),(40,.agg #[.string x3.Digest,iv x3.Size,iv x3.Used,iv x3.Until,iv x3.Pins])] (fun w hh=>⟨⟨ha5,(at?_some hx3).1,(at?_some hx3).2.1⟩,(hcc5 _ (hh.chin 0 rfl) 0 _ rfl),(hcc5 _ (hh.chin 0 rfl) 1 _ rfl),(hcc5 _ (hh.chin 0 rfl) 2 _ rfl),(hcc5 _ (hh.chin 0 rfl) 3 _ rfl),(hcc5 _ (hh.chin 0 rfl) 4 _ rfl)⟩) ?_
   refine RgH.does (DoesH.new (d:=9) (v:=fun g=>.pointer (some ⟨g,0,none⟩)) (o:=fun g=>.cells #[.string ByteArray.empty,iv 0,iv 0,iv 0,iv 0] 47 (0,0)) (fun g=>by kernel_rfl)) ?_
   rintro _ _ _ _ ⟨g6,rfl,rfl,rfl⟩
   refine RgH.does (DoesH.store (k:=0) (g:=g6) (off:=0) (v:=.agg #[.string x3.Digest,iv x3.Size,iv x3.Used,iv x3.Until,iv x3.Pins]) (cells':=#[.string x3.Digest,iv x3.Size,iv x3.Used,iv x3.Until,iv x3.Pins]) (by kernel_rfl) rfl (by kernel_rfl) (by kernel_rfl)) ?_
   rintro _ _ _ _ ⟨rfl,rfl,rfl⟩
   refine Dn<|Ra 1 [1,1,1,1,0,1,0,0,1,1,0,0,1,0] [.c [1,1,1,1,0,1,0,0,1,1,0,0,1,1],.b 1,.c [1,1,1,1,0,1,0,0,1,1,1],.l [1,1,1,1,0,1,0,0],.b 0,.c [1,1,1,1,1]]<|Rv 3 [2,3,4,9,35,36,37,42,44] [iv y3.Room,iv y3.Lease,.slice Av_a2_2 v_a2_2.length cv_a2_2,.slice A2 y3.Entries.length c2,.string x3.Digest] [.load ⟨g1,0,none⟩ (iv y3.Room),.load ⟨g1,1,none⟩ (iv y3.Lease),.load ⟨g1,2,none⟩ (.slice Av_a2_2 v_a2_2.length cv_a2_2),.load ⟨g1,3,none⟩ (.slice A2 y3.Entries.length c2),.load ⟨g6,0,none⟩ (.string x3.Digest)] [(2,pg g1 0),(3,pg g2 0),(4,pg g3 0),(9,pg g6 0),(35,.slice A3 y4.Blobs.length c3),(36,iv (y4.Blobs.length:Int)),(37,iv v37),(42,.agg #[iv y3.Room,iv y3.Lease,.slice Av_a2_2 v_a2_2.length cv_a2_2,.slice A2 y3.Entries.length c2]),(44,.string x3.Digest)] (fun w hh=>⟨(hh.box 7 rfl rfl),(hh.box 7 rfl rfl),(hh.box 7 rfl rfl),(hh.box 7 rfl rfl),(hh.box 0 rfl rfl)⟩) ?_
   obtain ⟨y8,hy8,heq⟩:=bind_some heq
   refine RgH.does (DoesH.call (d:=45) (g:=79) (args:=#[.agg #[iv y3.Room,iv y3.Lease,.slice Av_a2_2 v_a2_2.length cv_a2_2,.slice A2 y3.Entries.length c2],.string x3.Digest]) (by kernel_rfl) (cache_find_c (a0:=(⟨y3.Room,y3.Lease,v_a2_2,y3.Entries⟩:Cache)) (a1:=x3.Digest) (hov_a2_2.rw (.tail _ (.tail _ (.tail _ (.head _))))) hov_a2_2.cap rfl (ho6.rw (.tail _ (.tail _ (.tail _ (.tail _ (.head _)))))) ho6.cap rfl hy8)) ?_
   rintro _ _ _ _ ⟨_,rfl,rfl,rfl,rfl⟩
   refine Rd 9 [2,3,4,9,10,11,35,36,37] [(2,pg g1 0),(3,pg g2 0),(4,pg g3 0),(9,pg g6 0),(10,iv y8.1),(11,.bool y8.2),(35,.slice A3 y4.Blobs.length c3),(36,iv (y4.Blobs.length:Int)),(37,iv v37)]<|Ra 2 [1,1,1,1,0,1,0,0,1,1,0,0,1,1,0,0] [.c [1,1,1,1,0,1,0,0,1,1,0,0,1,1,0,1],.c [1,1,1,1,0,1,0,0,1,1,0,0,1,1,1],.b 1,.c [1,1,1,1,0,1,0,0,1,1,1],.l [1,1,1,1,0,1,0,0],.b 0,.c [1,1,1,1,1]]<|Rd 2 [2,3,4,9,10,35,36,37,49] [(2,pg g1 0),(3,pg g2 0),(4,pg g3 0),(9,pg g6 0),(10,iv y8.1),(35,.slice A3 y4.Blobs.length c3),(36,iv (y4.Blobs.length:Int)),(37,iv v37),(49,.bool (!y8.2))] ?_
   rcases bool_cases (!y8.2) with hb7 | hb7
   ·replace heq:=bif_true hb7 heq
    refine Ct (!y8.2) hb7<|Ra 1 [1,1,1,1,0,1,0,0,1,1,0,0,1,1,0,1,0,0] [.c [1,1,1,1,0,1,0,0,1,1,0,0,1,1,0,1,0,1],.c [1,1,1,1,0,1,0,0,1,1,0,0,1,1,1],.b 1,.c [1,1,1,1,0,1,0,0,1,1,1],.l [1,1,1,1,0,1,0,0],.b 0,.c [1,1,1,1,1]]<|Rv 4 [2,3,4,35,36,37,51,52,53] [.slice Av_a2_2 v_a2_2.length cv_a2_2,.string x3.Digest,iv x3.Size,iv x3.Used,iv x3.Until,iv x3.Pins] [.load ⟨g1,2,none⟩ (.slice Av_a2_2 v_a2_2.length cv_a2_2),.load ⟨g6,0,none⟩ (.string x3.Digest),.load ⟨g6,1,none⟩ (iv x3.Size),.load ⟨g6,2,none⟩ (iv x3.Used),.load ⟨g6,3,none⟩ (iv x3.Until),.load ⟨g6,4,none⟩ (iv x3.Pins)] [(2,pg g1 0),(3,pg g2 0),(4,pg g3 0),(35,.slice A3 y4.Blobs.length c3),(36,iv (y4.Blobs.length:Int)),(37,iv v37),(51,.slice Av_a2_2 v_a2_2.length cv_a2_2),(52,iv y8.1),(53,.agg #[.string x3.Digest,iv x3.Size,iv x3.Used,iv x3.Until,iv x3.Pins])] (fun w hh=>⟨(hh.box 7 rfl rfl),(hh.box 0 rfl rfl),(hh.box 0 rfl rfl),(hh.box 0 rfl rfl),(hh.box 0 rfl rfl),(hh.box 0 rfl rfl)⟩) ?_
    refine RgH.does (DoesH.new (d:=54) (v:=fun g=>.slice (some ⟨g,0,none⟩) 1 1) (o:=fun g=>.cells #[.string x3.Digest,iv x3.Size,iv x3.Used,iv x3.Until,iv x3.Pins] 47 (0,0)) (fun g=>by kernel_rfl)) ?_
    rintro _ _ _ _ ⟨g7,rfl,rfl,rfl⟩
    have ho14:SlOwn kBlob 47 H (some ⟨g7,0,none⟩) 1 ([x3]:List Blob) (some (g7,.cells #[.string x3.Digest,iv x3.Size,iv x3.Used,iv x3.Until,iv x3.Pins] 47 (0,0))):=SlOwn.lit (xs:=([x3]:List Blob)) (by kernel_rfl) (Nat.le_of_ble_eq_true (by kernel_rfl)) (Kd.Rep.one kBlob_mk)
    refine RgH.pick 9 [4,0,1,2,3,5,6,7,8] (cs':=chv_a2_2::(some (g7,.cells #[.string x3.Digest,iv x3.Size,iv x3.Used,iv x3.Until,iv x3.Pins] 47 (0,0)))::(some (g6,.cells #[.string x3.Digest,iv x3.Size,iv x3.Used,iv x3.Until,iv x3.Pins] 47 (0,0)))::ch3::ch4::ch2::(some (g3,.cells #[iv 0,iv 0,.slice none 0 0,.slice none 0 0] 25 (0,0)))::(some (g2,.cells #[iv y4.Room,iv y4.Lease,.slice A3 y4.Blobs.length c3,.slice A4 y4.Entries.length c4] 25 (0,0)))::(some (g1,.cells #[iv y3.Room,iv y3.Lease,.slice Av_a2_2 v_a2_2.length cv_a2_2,.slice A2 y3.Entries.length c2] 25 (0,0)))::F) (by kernel_rfl) rfl ?_
    obtain ⟨y9,hy9,heq⟩:=bind_some heq
    refine RgH.does (DoesH.call (d:=55) (g:=80) (args:=#[.slice Av_a2_2 v_a2_2.length cv_a2_2,iv y8.1,.slice (some ⟨g7,0,none⟩) 1 1]) (by kernel_rfl) (slices_Insert_Blob_c (a0:=v_a2_2) (a1:=y8.1) (a2:=([x3]:List Blob)) hov_a2_2 rfl ho14 rfl hy9)) ?_
    rintro _ _ _ _ ⟨_,rfl,A10,c10,ch7,rfl,rfl,rfl,ho15⟩
    refine Rk 7 [2,3,4,35,36,37,55,56] [(2,pg g1 0),(3,pg g2 0),(4,pg g3 0),(35,.slice A3 y4.Blobs.length c3),(36,iv (y4.Blobs.length:Int)),(37,iv v37),(55,.slice A10 y9.length c10),(56,pg g1 2)] ?_
    refine RgH.does (DoesH.store (k:=7) (g:=g1) (off:=2) (v:=.slice A10 y9.length c10) (cells':=#[iv y3.Room,iv y3.Lease,.slice A10 y9.length c10,.slice A2 y3.Entries.length c2]) (by kernel_rfl) rfl (by kernel_rfl) (by kernel_rfl)) ?_
    rintro _ _ _ _ ⟨rfl,rfl,rfl⟩
    refine Dn<|Ad 1 [.c [1,1,1,1,0,1,0,0,1,1,1],.l [1,1,1,1,0,1,0,0],.b 0,.c [1,1,1,1,1]]<|Kp [2,3,4,35,36,37] [(2,pg g1 0),(3,pg g2 0),(4,pg g3 0),(35,.slice A3 y4.Blobs.length c3),(36,iv (y4.Blobs.length:Int)),(37,iv v37)] ?_
    refine RunH.pick 8 [2,3,0,4,5,6,7] (cs':=ch3::ch4::ch7::ch2::(some (g3,.cells #[iv 0,iv 0,.slice none 0 0,.slice none 0 0] 25 (0,0)))::(some (g2,.cells #[iv y4.Room,iv y4.Lease,.slice A3 y4.Blobs.length c3,.slice A4 y4.Entries.length c4] 25 (0,0)))::(some (g1,.cells #[iv y3.Room,iv y3.Lease,.slice A10 y9.length c10,.slice A2 y3.Entries.length c2] 25 (0,0)))::F) (by kernel_rfl) rfl ?_
    exact (cache_Merged.j6_c (backl5:=(cache_Merged.l5 e1 k)) ihk) _ _ _ _ y3 _ _ _ y4 _ _ _ _ _ _ v37 y9 _ _ _ _ ho6 ho7 ho8 ho15 rfl heq
   ·replace heq:=bif_false hb7 heq
    refine Cf (!y8.2) hb7<|Ra 2 [1,1,1,1,0,1,0,0,1,1,0,0,1,1,1,0] [.c [1,1,1,1,0,1,0,0,1,1,0,0,1,1,1,1],.b 1,.c [1,1,1,1,0,1,0,0,1,1,1],.l [1,1,1,1,0,1,0,0],.b 0,.c [1,1,1,1,1]] ?_
    obtain ⟨x4,hx4,heq⟩:=bind_some heq
    obtain ⟨ha6,cs6,hK6,hcc6⟩:=hov_a2_2.get hx4
    obtain ⟨rfl⟩:=kBlob_open hK6
    refine Rw' 5 [2,3,4,9,12,35,36,37] [.slice Av_a2_2 v_a2_2.length cv_a2_2] [.load ⟨g1,2,none⟩ (.slice Av_a2_2 v_a2_2.length cv_a2_2),.need (Av_a2_2=some (adr Av_a2_2)∧(0:Int)≤y8.1∧y8.1<((v_a2_2.length:Nat):Int))] [(2,pg g1 0),(3,pg g2 0),(4,pg g3 0),(9,pg g6 0),(12,.pointer (some ((adr Av_a2_2).add (y8.1.toNat*5)))),(35,.slice A3 y4.Blobs.length c3),(36,iv (y4.Blobs.length:Int)),(37,iv v37)] (fun w hh=>⟨(hh.box 7 rfl rfl),⟨ha6,(at?_some hx4).1,(at?_some hx4).2.1⟩⟩)<|Ad 2 [.c [1,1,1,1,0,1,0,0,1,1,0,0,1,1,1,1,0,0],.c [1,1,1,1,0,1,0,0,1,1,0,0,1,1,1,1,0,1],.c [1,1,1,1,0,1,0,0,1,1,0,0,1,1,1,1,1],.b 1,.c [1,1,1,1,0,1,0,0,1,1,1],.l [1,1,1,1,0,1,0,0],.b 0,.c [1,1,1,1,1]]<|Kp [2,3,4,9,12,35,36,37] [(2,pg g1 0),(3,pg g2 0),(4,pg g3 0),(9,pg g6 0),(12,.pointer (some ((adr Av_a2_2).add (y8.1.toNat*5)))),(35,.slice A3 y4.Blobs.length c3),(36,iv (y4.Blobs.length:Int)),(37,iv v37)] ?_
    refine RunH.draw (fun w=>Heap H w0 w ((some (g6,.cells #[.string x3.Digest,iv x3.Size,iv x3.Used,iv x3.Until,iv x3.Pins] 47 (0,0)))::ch3::ch4::chv_a2_2::ch2::(some (g3,.cells #[iv 0,iv 0,.slice none 0 0,.slice none 0 0] 25 (0,0)))::(some (g2,.cells #[iv y4.Room,iv y4.Lease,.slice A3 y4.Blobs.length c3,.slice A4 y4.Entries.length c4] 25 (0,0)))::(some (g1,.cells #[iv y3.Room,iv y3.Lease,.slice Av_a2_2 v_a2_2.length cv_a2_2,.slice A2 y3.Entries.length c2] 25 (0,0)))::F)) (fun w=>Heap H w0 w ((some (g6,.cells #[.string x3.Digest,iv x3.Size,iv x3.Used,iv x3.Until,iv x3.Pins] 47 (0,0)))::ch3::ch4::chv_a2_2::ch2::(some (g3,.cells #[iv 0,iv 0,.slice none 0 0,.slice none 0 0] 25 (0,0)))::(some (g2,.cells #[iv y4.Room,iv y4.Lease,.slice A3 y4.Blobs.length c3,.slice A4 y4.Entries.length c4] 25 (0,0)))::(some (g1,.cells #[iv y3.Room,iv y3.Lease,.slice Av_a2_2 v_a2_2.length cv_a2_2,.slice A2 y3.Entries.length c2] 25 (0,0)))::F)) [3,3,3,3,3,3,3] (n:=7) (ls:=[false,false,false,false,false,false,false]) (by kernel_rfl) (by kernel_rfl) (by kernel_rfl) rfl ?_
    obtain ⟨x5,hx5,heq⟩:=bind_some heq
    obtain ⟨ha7,cs7,hK7,hcc7⟩:=hov_a2_2.get hx5
    obtain ⟨rfl⟩:=kBlob_open hK7
    refine Dk [0,1,2,3,4,5,6] 0 (nb 7 127) [iv x5.Size,iv x3.Size] [.load (((adr Av_a2_2).add (y8.1.toNat*5)).add 1) (iv x5.Size),.load ⟨g6,1,none⟩ (iv x3.Size)] [2,3,4,9,12,35,36,37,67] [(2,pg g1 0),(3,pg g2 0),(4,pg g3 0),(9,pg g6 0),(12,.pointer (some ((adr Av_a2_2).add (y8.1.toNat*5)))),(35,.slice A3 y4.Blobs.length c3),(36,iv (y4.Blobs.length:Int)),(37,iv v37),(67,.bool (x5.Size != x3.Size))] (Pk 8 [0,1,2,3,4,5,6,7]) (Pk 8 [0,1,2,3,4,5,6,7]) (fun w hh=>⟨(hcc7 _ (hh.chin 3 rfl) 1 _ rfl),(hh.box 0 rfl rfl)⟩) ?_
    refine DrH.done (by kernel_rfl) ?_
    rcases bool_cases (x5.Size != x3.Size) with hb8 | hb8
    ·replace heq:=bif_true hb8 heq
     refine Ct (x5.Size != x3.Size) hb8<|Ra 1 [1,1,1,1,0,1,0,0,1,1,0,0,1,1,1,1,0,1,0,0] [.c [1,1,1,1,0,1,0,0,1,1,0,0,1,1,1,1,0,1,0,1],.c [1,1,1,1,0,1,0,0,1,1,0,0,1,1,1,1,1],.b 1,.c [1,1,1,1,0,1,0,0,1,1,1],.l [1,1,1,1,0,1,0,0],.b 0,.c [1,1,1,1,1]]<|Rk 1 [4,68] [(4,pg g3 0),(68,.agg #[iv 0,iv 0,.slice none 0 0,.slice none 0 0])] ?_
     refine RgH.does (DoesH.store (k:=5) (g:=g3) (off:=0) (v:=.agg #[iv 0,iv 0,.slice none 0 0,.slice none 0 0]) (cells':=#[iv 0,iv 0,.slice none 0 0,.slice none 0 0]) (by kernel_rfl) rfl (by kernel_rfl) (by kernel_rfl)) ?_
     rintro _ _ _ _ ⟨rfl,rfl,rfl⟩
     refine Rd 3 [4,5] [(4,pg g3 0),(5,iv 12)]<|RunH.nilc ?_
     have ho16:SlOwn kBlob 47 H none 0 ([]:List Blob) none:=SlOwn.nil
     refine RunH.nilc ?_
     have ho17:SlOwn kEntry 51 H none 0 ([]:List Entry) none:=SlOwn.nil
     obtain rfl:=Option.some.inj heq
     refine RunH.pick 10 [7,1,0] (cs':=(some (g3,.cells #[iv 0,iv 0,.slice none 0 0,.slice none 0 0] 25 (0,0)))::none::none::F) (by kernel_rfl) rfl ?_
     exact RunH.doneM' 1 (vs:=[.agg #[iv 0,iv 0,.slice none 0 0,.slice none 0 0],iv 12]) (v:=.tuple #[.agg #[iv 0,iv 0,.slice none 0 0,.slice none 0 0],iv 12]) (by kernel_rfl) Tryd.func32 (fun w hh=>show ResAll _ _ _ [.cell 4 25,.tmp 5] _ from ⟨⟨⟨g3,0,none⟩,by kernel_rfl,trS_run _ (vs:=[iv 0,iv 0,.slice none 0 0,.slice none 0 0]) (r:=[]) (es:=[.load ⟨g3,0,none⟩ (iv 0),.load ⟨g3,1,none⟩ (iv 0),.load ⟨g3,2,none⟩ (.slice none 0 0),.load ⟨g3,3,none⟩ (.slice none 0 0)]) (by kernel_rfl) ⟨(hh.box 0 rfl rfl),(hh.box 0 rfl rfl),(hh.box 0 rfl rfl),(hh.box 0 rfl rfl)⟩⟩,(show lk _ _=some _ by kernel_rfl),trivial⟩) rfl (cs':=none::none::F) rfl ⟨none,0,none,none,0,none,rfl,rfl,ho16,ho17⟩
    ·replace heq:=bif_false hb8 heq
     refine Cf (x5.Size != x3.Size) hb8<|Ad 1 [.c [1,1,1,1,0,1,0,0,1,1,0,0,1,1,1,1,1],.b 1,.c [1,1,1,1,0,1,0,0,1,1,1],.l [1,1,1,1,0,1,0,0],.b 0,.c [1,1,1,1,1]]<|Kp [2,3,4,9,12,35,36,37] [(2,pg g1 0),(3,pg g2 0),(4,pg g3 0),(9,pg g6 0),(12,.pointer (some ((adr Av_a2_2).add (y8.1.toNat*5)))),(35,.slice A3 y4.Blobs.length c3),(36,iv (y4.Blobs.length:Int)),(37,iv v37)] ?_
     refine RunH.draw (fun w=>Heap H w0 w ((some (g6,.cells #[.string x3.Digest,iv x3.Size,iv x3.Used,iv x3.Until,iv x3.Pins] 47 (0,0)))::ch3::ch4::chv_a2_2::ch2::(some (g3,.cells #[iv 0,iv 0,.slice none 0 0,.slice none 0 0] 25 (0,0)))::(some (g2,.cells #[iv y4.Room,iv y4.Lease,.slice A3 y4.Blobs.length c3,.slice A4 y4.Entries.length c4] 25 (0,0)))::(some (g1,.cells #[iv y3.Room,iv y3.Lease,.slice Av_a2_2 v_a2_2.length cv_a2_2,.slice A2 y3.Entries.length c2] 25 (0,0)))::F)) (fun w=>Heap H w0 w ((some (g6,.cells #[.string x3.Digest,iv x3.Size,iv x3.Used,iv x3.Until,iv x3.Pins] 47 (0,0)))::ch3::ch4::ch2::(some (g3,.cells #[iv 0,iv 0,.slice none 0 0,.slice none 0 0] 25 (0,0)))::(some (g2,.cells #[iv y4.Room,iv y4.Lease,.slice A3 y4.Blobs.length c3,.slice A4 y4.Entries.length c4] 25 (0,0)))::(some (g1,.cells #[iv y3.Room,iv y3.Lease,.slice Av_a2_2 v_a2_2.length cv_a2_2,.slice A2 y3.Entries.length c2] 25 (0,0)))::F)) [3,3,3,3,3,3,3,3,3,3,3,3,3,3,3,3,3,3,3,3,3,3,3,3,3,3,1,3,3,1,1,3,2] (n:=33) (ls:=[false,false,false,false,false,false,false,false,false,false,false,false,false,false,false,false,false,false,false,false,false,false,false,false,false,false,false,false,false,false,false,false,false]) (by kernel_rfl) (by kernel_rfl) (by kernel_rfl) rfl ?_
     refine Dk [0] 32 (nb 33 1) [] [] [2,3,4,9,12,35,36,37,69] [(2,pg g1 0),(3,pg g2 0),(4,pg g3 0),(9,pg g6 0),(12,.pointer (some ((adr Av_a2_2).add (y8.1.toNat*5)))),(35,.slice A3 y4.Blobs.length c3),(36,iv (y4.Blobs.length:Int)),(37,iv v37),(69,.pointer (some ((adr Av_a2_2).add (y8.1.toNat*5))))] (Pk 8 [0,1,2,3,4,5,6,7]) (Pk 8 [0,1,2,4,5,6,7]) (fun _ _=>trivial)<|De [1,2] 30 (nb 33 7) [] [] [2,3,4,9,12,35,36,37,69,70,71] [(2,pg g1 0),(3,pg g2 0),(4,pg g3 0),(9,pg g6 0),(12,.pointer (some ((adr Av_a2_2).add (y8.1.toNat*5)))),(35,.slice A3 y4.Blobs.length c3),(36,iv (y4.Blobs.length:Int)),(37,iv v37),(69,.pointer (some ((adr Av_a2_2).add (y8.1.toNat*5)))),(70,.pointer (some ((adr Av_a2_2).add (y8.1.toNat*5)))),(71,.pointer (some ((adr Av_a2_2).add (y8.1.toNat*5))))] (Pk 8 [0,1,2,4,5,6,7]) (fun _ _=>trivial) ?_
     obtain ⟨x6,hx6,heq⟩:=bind_some heq
     obtain ⟨ha8,cs8,hK8,hcc8⟩:=hov_a2_2.get hx6
     obtain ⟨rfl⟩:=kBlob_open hK8
     refine Dk [3,4,5,6,7,8,9] 23 (nb 33 1023) [iv x6.Used,iv x3.Used] [.load (((adr Av_a2_2).add (y8.1.toNat*5)).add 2) (iv x6.Used),.load ⟨g6,2,none⟩ (iv x3.Used)] [2,3,4,9,12,35,36,37,69,70,71,78] [(2,pg g1 0),(3,pg g2 0),(4,pg g3 0),(9,pg g6 0),(12,.pointer (some ((adr Av_a2_2).add (y8.1.toNat*5)))),(35,.slice A3 y4.Blobs.length c3),(36,iv (y4.Blobs.length:Int)),(37,iv v37),(69,.pointer (some ((adr Av_a2_2).add (y8.1.toNat*5)))),(70,.pointer (some ((adr Av_a2_2).add (y8.1.toNat*5)))),(71,.pointer (some ((adr Av_a2_2).add (y8.1.toNat*5)))),(78,iv (max2 x6.Used x3.Used))] (Pk 8 [0,1,2,3,4,5,6,7]) (Pk 8 [0,1,2,4,5,6,7]) (fun w hh=>⟨(hcc8 _ (hh.chin 3 rfl) 2 _ rfl),(hh.box 0 rfl rfl)⟩)<|De [10,11,12] 20 (nb 33 8191) [] [] [2,3,4,9,12,35,36,37,69,70,71,78,81] [(2,pg g1 0),(3,pg g2 0),(4,pg g3 0),(9,pg g6 0),(12,.pointer (some ((adr Av_a2_2).add (y8.1.toNat*5)))),(35,.slice A3 y4.Blobs.length c3),(36,iv (y4.Blobs.length:Int)),(37,iv v37),(69,.pointer (some ((adr Av_a2_2).add (y8.1.toNat*5)))),(70,.pointer (some ((adr Av_a2_2).add (y8.1.toNat*5)))),(71,.pointer (some ((adr Av_a2_2).add (y8.1.toNat*5)))),(78,iv (max2 x6.Used x3.Used)),(81,.pointer (some (((adr Av_a2_2).add (y8.1.toNat*5)).add 3)))] (Pk 8 [0,1,2,4,5,6,7]) (fun _ _=>trivial) ?_
     obtain ⟨ha9,cs9,hK9,hcc9⟩:=hov_a2_2.get hx6
     obtain ⟨rfl⟩:=kBlob_open hK9
     refine Dk [13] 19 (nb 33 16383) [iv x6.Until] [.load (((adr Av_a2_2).add (y8.1.toNat*5)).add 3) (iv x6.Until)] [2,3,4,9,12,35,36,37,69,70,71,78,82] [(2,pg g1 0),(3,pg g2 0),(4,pg g3 0),(9,pg g6 0),(12,.pointer (some ((adr Av_a2_2).add (y8.1.toNat*5)))),(35,.slice A3 y4.Blobs.length c3),(36,iv (y4.Blobs.length:Int)),(37,iv v37),(69,.pointer (some ((adr Av_a2_2).add (y8.1.toNat*5)))),(70,.pointer (some ((adr Av_a2_2).add (y8.1.toNat*5)))),(71,.pointer (some ((adr Av_a2_2).add (y8.1.toNat*5)))),(78,iv (max2 x6.Used x3.Used)),(82,iv x6.Until)] (Pk 8 [0,1,2,3,4,5,6,7]) (Pk 8 [0,1,2,4,5,6,7]) (fun w hh=>(hcc9 _ (hh.chin 3 rfl) 3 _ rfl))<|De [14,15,16,17,18,19] 13 (nb 33 1048575) [iv x3.Until] [.load ⟨g6,3,none⟩ (iv x3.Until)] [2,3,4,9,35,36,37,69,70,71,78,85,88] [(2,pg g1 0),(3,pg g2 0),(4,pg g3 0),(9,pg g6 0),(35,.slice A3 y4.Blobs.length c3),(36,iv (y4.Blobs.length:Int)),(37,iv v37),(69,.pointer (some ((adr Av_a2_2).add (y8.1.toNat*5)))),(70,.pointer (some ((adr Av_a2_2).add (y8.1.toNat*5)))),(71,.pointer (some ((adr Av_a2_2).add (y8.1.toNat*5)))),(78,iv (max2 x6.Used x3.Used)),(85,iv (max2 x6.Until x3.Until)),(88,.pointer (some (((adr Av_a2_2).add (y8.1.toNat*5)).add 4)))] (Pk 8 [0,1,2,4,5,6,7]) (fun w hh=>(hh.box 0 rfl rfl)) ?_
     obtain ⟨ha10,cs10,hK10,hcc10⟩:=hov_a2_2.get hx6
     obtain ⟨rfl⟩:=kBlob_open hK10
     refine Dk [20] 12 (nb 33 2097151) [iv x6.Pins] [.load (((adr Av_a2_2).add (y8.1.toNat*5)).add 4) (iv x6.Pins)] [2,3,4,9,35,36,37,69,70,71,78,85,89] [(2,pg g1 0),(3,pg g2 0),(4,pg g3 0),(9,pg g6 0),(35,.slice A3 y4.Blobs.length c3),(36,iv (y4.Blobs.length:Int)),(37,iv v37),(69,.pointer (some ((adr Av_a2_2).add (y8.1.toNat*5)))),(70,.pointer (some ((adr Av_a2_2).add (y8.1.toNat*5)))),(71,.pointer (some ((adr Av_a2_2).add (y8.1.toNat*5)))),(78,iv (max2 x6.Used x3.Used)),(85,iv (max2 x6.Until x3.Until)),(89,iv x6.Pins)] (Pk 8 [0,1,2,3,4,5,6,7]) (Pk 8 [0,1,2,4,5,6,7]) (fun w hh=>(hcc10 _ (hh.chin 3 rfl) 4 _ rfl))<|De [21,22,23,24] 8 (nb 33 33554431) [iv x3.Pins] [.load ⟨g6,4,none⟩ (iv x3.Pins)] [2,3,4,35,36,37,70,71,78,85,92,93] [(2,pg g1 0),(3,pg g2 0),(4,pg g3 0),(35,.slice A3 y4.Blobs.length c3),(36,iv (y4.Blobs.length:Int)),(37,iv v37),(70,.pointer (some ((adr Av_a2_2).add (y8.1.toNat*5)))),(71,.pointer (some ((adr Av_a2_2).add (y8.1.toNat*5)))),(78,iv (max2 x6.Used x3.Used)),(85,iv (max2 x6.Until x3.Until)),(92,iv (max2 x6.Pins x3.Pins)),(93,.pointer (some ((adr Av_a2_2).add (y8.1.toNat*5))))] (Pk 8 [0,1,2,4,5,6,7]) (fun w hh=>(hh.box 0 rfl rfl))<|Dk [25] 7 (nb 33 67108863) [] [] [2,3,4,35,36,37,70,71,78,85,92,94] [(2,pg g1 0),(3,pg g2 0),(4,pg g3 0),(35,.slice A3 y4.Blobs.length c3),(36,iv (y4.Blobs.length:Int)),(37,iv v37),(70,.pointer (some ((adr Av_a2_2).add (y8.1.toNat*5)))),(71,.pointer (some ((adr Av_a2_2).add (y8.1.toNat*5)))),(78,iv (max2 x6.Used x3.Used)),(85,iv (max2 x6.Until x3.Until)),(92,iv (max2 x6.Pins x3.Pins)),(94,.pointer (some (((adr Av_a2_2).add (y8.1.toNat*5)).add 2)))] (Pk 8 [0,1,2,3,4,5,6,7]) (Pk 8 [0,1,2,4,5,6,7]) (fun _ _=>trivial) ?_
     obtain ⟨ha11,cs11,hK11,hcc11⟩:=hov_a2_2.get hx6
     obtain ⟨rfl⟩:=kBlob_open hK11
     refine DrH.does (n:=6) (ls':=[true,true,true,true,true,true,true,true,true,true,true,true,true,true,true,true,true,true,true,true,true,true,true,true,true,true,true,false,false,false,false,false,false]) 26 (by kernel_rfl) rfl (DoesH.storeEl (a:=(((adr Av_a2_2).add (y8.1.toNat*5)).add 2)) (k:=3) (kd:=kBlob) (c0:=[.string x6.Digest,iv x6.Size,iv x6.Used,iv x6.Until,iv x6.Pins]) (x':=(⟨x6.Digest,x6.Size,max2 x6.Used x3.Used,x6.Until,x6.Pins⟩:Blob)) (o:=2) (ix:=y8.1) (v:=iv (max2 x6.Used x3.Used)) (by kernel_rfl) rfl hov_a2_2 hx6 (by kernel_rfl) hcc11 rfl (Nat.le_of_ble_eq_true (by kernel_rfl)) kBlob_mk) ?_
     rintro _ _ _ _ ⟨ch8,rfl,rfl,rfl,ho18⟩
     have hn2:v_a2_2.length=(v_a2_2.set y8.1.toNat (⟨x6.Digest,x6.Size,max2 x6.Used x3.Used,x6.Until,x6.Pins⟩:Blob)).length:=by rw [List.length_set]
     refine ⟨fun _ w hh=>⟨(fun h=>by cases h),fun _=>(Pk 8 [0,1,2,4,5,6,7]) w hh,(fun h=>by cases h)⟩,?_⟩
     refine De [27,28] 4 (nb 33 536870911) [] [] [2,3,4,35,36,37,71,85,92,96] [(2,pg g1 0),(3,pg g2 0),(4,pg g3 0),(35,.slice A3 y4.Blobs.length c3),(36,iv (y4.Blobs.length:Int)),(37,iv v37),(71,.pointer (some ((adr Av_a2_2).add (y8.1.toNat*5)))),(85,iv (max2 x6.Until x3.Until)),(92,iv (max2 x6.Pins x3.Pins)),(96,.pointer (some (((adr Av_a2_2).add (y8.1.toNat*5)).add 3)))] (Pk 8 [0,1,2,4,5,6,7]) (fun _ _=>trivial) ?_
     obtain ⟨x7,hx7,heq⟩:=bind_some heq
     obtain ⟨ha12,cs12,hK12,hcc12⟩:=ho18.get hx7
     obtain ⟨rfl⟩:=kBlob_open hK12
     refine DrH.does (n:=3) (ls':=[true,true,true,true,true,true,true,true,true,true,true,true,true,true,true,true,true,true,true,true,true,true,true,true,true,true,true,true,true,true,false,false,false]) 29 (by kernel_rfl) rfl (DoesH.storeEl (a:=(((adr Av_a2_2).add (y8.1.toNat*5)).add 3)) (k:=3) (kd:=kBlob) (c0:=[.string x7.Digest,iv x7.Size,iv x7.Used,iv x7.Until,iv x7.Pins]) (x':=(⟨x7.Digest,x7.Size,x7.Used,max2 x6.Until x3.Until,x7.Pins⟩:Blob)) (o:=3) (ix:=y8.1) (v:=iv (max2 x6.Until x3.Until)) (by kernel_rfl) rfl ho18 hx7 (by kernel_rfl) hcc12 rfl (Nat.le_of_ble_eq_true (by kernel_rfl)) kBlob_mk) ?_
     rintro _ _ _ _ ⟨ch9,rfl,rfl,rfl,ho19⟩
     have hn3:v_a2_2.length=((v_a2_2.set y8.1.toNat (⟨x6.Digest,x6.Size,max2 x6.Used x3.Used,x6.Until,x6.Pins⟩:Blob)).set y8.1.toNat (⟨x7.Digest,x7.Size,x7.Used,max2 x6.Until x3.Until,x7.Pins⟩:Blob)).length:=by rw [List.length_set]; exact hn2
     refine ⟨fun _ w hh=>⟨(fun h=>by cases h),fun _=>(Pk 8 [0,1,2,4,5,6,7]) w hh,(fun h=>by cases h)⟩,?_⟩
     refine Kr [2,3,4,35,36,37,71,92] [(2,pg g1 0),(3,pg g2 0),(4,pg g3 0),(35,.slice A3 y4.Blobs.length c3),(36,iv (y4.Blobs.length:Int)),(37,iv v37),(71,.pointer (some ((adr Av_a2_2).add (y8.1.toNat*5)))),(92,iv (max2 x6.Pins x3.Pins))] ?_
     refine DrH.does (n:=2) (ls':=[true,true,true,true,true,true,true,true,true,true,true,true,true,true,true,true,true,true,true,true,true,true,true,true,true,true,true,true,true,true,true,false,false]) 30 (by kernel_rfl) rfl (DoesH.pureop (d:=97) (v:=.pointer (some ((adr Av_a2_2).add (y8.1.toNat*5)))) (vs:=[]) (evs:=[]) (by kernel_rfl) (fun _ _=>trivial)) ?_
     rintro _ _ _ _ ⟨rfl,rfl,rfl⟩
     refine ⟨fun _ w hh=>⟨(fun h=>by cases h),fun _=>(Pk 8 [0,1,2,4,5,6,7]) w hh,(fun h=>by cases h)⟩,?_⟩
     refine De [31] 1 (nb 33 4294967295) [] [] [2,3,4,35,36,37,92,98] [(2,pg g1 0),(3,pg g2 0),(4,pg g3 0),(35,.slice A3 y4.Blobs.length c3),(36,iv (y4.Blobs.length:Int)),(37,iv v37),(92,iv (max2 x6.Pins x3.Pins)),(98,.pointer (some (((adr Av_a2_2).add (y8.1.toNat*5)).add 4)))] (Pk 8 [0,1,2,4,5,6,7]) (fun _ _=>trivial) ?_
     obtain ⟨x8,hx8,heq⟩:=bind_some heq
     obtain ⟨ha13,cs13,hK13,hcc13⟩:=ho19.get hx8
     obtain ⟨rfl⟩:=kBlob_open hK13
     refine DrH.does (n:=0) (ls':=[true,true,true,true,true,true,true,true,true,true,true,true,true,true,true,true,true,true,true,true,true,true,true,true,true,true,true,true,true,true,true,true,true]) 32 (by kernel_rfl) rfl (DoesH.storeEl (a:=(((adr Av_a2_2).add (y8.1.toNat*5)).add 4)) (k:=3) (kd:=kBlob) (c0:=[.string x8.Digest,iv x8.Size,iv x8.Used,iv x8.Until,iv x8.Pins]) (x':=(⟨x8.Digest,x8.Size,x8.Used,x8.Until,max2 x6.Pins x3.Pins⟩:Blob)) (o:=4) (ix:=y8.1) (v:=iv (max2 x6.Pins x3.Pins)) (by kernel_rfl) rfl ho19 hx8 (by kernel_rfl) hcc13 rfl (Nat.le_of_ble_eq_true (by kernel_rfl)) kBlob_mk) ?_
     rintro _ _ _ _ ⟨ch10,rfl,rfl,rfl,ho20⟩
     have hn4:v_a2_2.length=(((v_a2_2.set y8.1.toNat (⟨x6.Digest,x6.Size,max2 x6.Used x3.Used,x6.Until,x6.Pins⟩:Blob)).set y8.1.toNat (⟨x7.Digest,x7.Size,x7.Used,max2 x6.Until x3.Until,x7.Pins⟩:Blob)).set y8.1.toNat (⟨x8.Digest,x8.Size,x8.Used,x8.Until,max2 x6.Pins x3.Pins⟩:Blob)).length:=by rw [List.length_set]; exact hn3
     refine ⟨fun _ w hh=>⟨(fun h=>by cases h),(fun h=>absurd h (by decide)),(fun h=>by cases h)⟩,?_⟩
     refine Kr [2,3,4,35,36,37] [(2,pg g1 0),(3,pg g2 0),(4,pg g3 0),(35,.slice A3 y4.Blobs.length c3),(36,iv (y4.Blobs.length:Int)),(37,iv v37)] ?_
     refine DrH.done (by kernel_rfl) ?_
     refine Ad 1 [.c [1,1,1,1,0,1,0,0,1,1,1],.l [1,1,1,1,0,1,0,0],.b 0,.c [1,1,1,1,1]]<|Kp [2,3,4,35,36,37] [(2,pg g1 0),(3,pg g2 0),(4,pg g3 0),(35,.slice A3 y4.Blobs.length c3),(36,iv (y4.Blobs.length:Int)),(37,iv v37)] ?_
     refine RunH.pick 8 [1,2,3,4,5,6,7] (cs':=ch3::ch4::ch10::ch2::(some (g3,.cells #[iv 0,iv 0,.slice none 0 0,.slice none 0 0] 25 (0,0)))::(some (g2,.cells #[iv y4.Room,iv y4.Lease,.slice A3 y4.Blobs.length c3,.slice A4 y4.Entries.length c4] 25 (0,0)))::(some (g1,.cells #[iv y3.Room,iv y3.Lease,.slice Av_a2_2 v_a2_2.length cv_a2_2,.slice A2 y3.Entries.length c2] 25 (0,0)))::F) (by kernel_rfl) rfl ?_
     exact (cache_Merged.j6_c (backl5:=(cache_Merged.l5 e1 k)) ihk) _ _ _ _ y3 _ _ _ y4 _ _ _ _ _ _ v37 (((v_a2_2.set y8.1.toNat (⟨x6.Digest,x6.Size,max2 x6.Used x3.Used,x6.Until,x6.Pins⟩:Blob)).set y8.1.toNat (⟨x7.Digest,x7.Size,x7.Used,max2 x6.Until x3.Until,x7.Pins⟩:Blob)).set y8.1.toNat (⟨x8.Digest,x8.Size,x8.Used,x8.Until,max2 x6.Pins x3.Pins⟩:Blob)) _ _ _ _ ho6 ho7 ho8 ho20 hn4 heq
  ·replace heq:=bif_false hb6 heq
   refine Cf (decide (v37<(y4.Blobs.length:Int))) hb6<|Ad 3 [.c [1,1,1,1,1,0,0],.c [1,1,1,1,1,0,1],.c [1,1,1,1,1,1]]<|Kp [2,3,4] [(2,pg g1 0),(3,pg g2 0),(4,pg g3 0)] ?_
   exact he1 _ _ _ _ y3 _ _ _ y4 _ _ _ _ _ _ v_a2_2 _ _ _ _ ho6 ho7 ho8 hov_a2_2 rfl heq
theorem cache_Merged_c {w0:World} {H0:Hp} {F:List Ch} {a0:Cache} {Aa0_2:Option Addr} {na0_2:Nat} {ca0_2:Nat} {Aa0_3:Option Addr} {na0_3:Nat} {ca0_3:Nat} {a1:Cache} {Aa1_2:Option Addr} {na1_2:Nat} {ca1_2:Nat} {Aa1_3:Option Addr} {na1_3:Nat} {ca1_3:Nat} {r:Cache × Int} (hra0_2:Rw kBlob H0 F Aa0_2 a0.Blobs) (hca0_2:na0_2≤ca0_2) (hna0_2:na0_2=a0.Blobs.length) (hra0_3:Rw kEntry H0 F Aa0_3 a0.Entries) (hca0_3:na0_3≤ca0_3) (hna0_3:na0_3=a0.Entries.length) (hra1_2:Rw kBlob H0 F Aa1_2 a1.Blobs) (hca1_2:na1_2≤ca1_2) (hna1_2:na1_2=a1.Blobs.length) (hra1_3:Rw kEntry H0 F Aa1_3 a1.Entries) (hca1_3:na1_3≤ca1_3) (hna1_3:na1_3=a1.Entries.length) (heq:cache_Merged.f a0 a1=some r):CallsH Tryd.prog 32 #[.agg #[iv a0.Room,iv a0.Lease,.slice Aa0_2 na0_2 ca0_2,.slice Aa0_3 na0_3 ca0_3],.agg #[iv a1.Room,iv a1.Lease,.slice Aa1_2 na1_2 ca1_2,.slice Aa1_3 na1_3 ca1_3]] H0 w0 (F) (S32 F H0 r):=by
 refine calls_of_runH (F:=C32) Tryd.func32 (by kernel_rfl) Tryd.ntmps32 (args:=[.agg #[iv a0.Room,iv a0.Lease,.slice Aa0_2 na0_2 ca0_2,.slice Aa0_3 na0_3 ca0_3],.agg #[iv a1.Room,iv a1.Lease,.slice Aa1_2 na1_2 ca1_2,.slice Aa1_3 na1_3 ca1_3]]) (by kernel_rfl) ?_
 subst hna0_2
 subst hna0_3
 subst hna1_2
 subst hna1_3
 unfold cache_Merged.f at heq
 suffices key:∀ (H:Hp),Rw kBlob H F Aa0_2 a0.Blobs→Rw kEntry H F Aa0_3 a0.Entries→Rw kBlob H F Aa1_2 a1.Blobs→Rw kEntry H F Aa1_3 a1.Entries→RunH C32 (S32 F H0 r) H0 w0 [.c []] (argL 0 [.agg #[iv a0.Room,iv a0.Lease,.slice Aa0_2 (a0.Blobs.length) ca0_2,.slice Aa0_3 (a0.Entries.length) ca0_3],.agg #[iv a1.Room,iv a1.Lease,.slice Aa1_2 (a1.Blobs.length) ca1_2,.slice Aa1_3 (a1.Entries.length) ca1_3]]) H (F) from key H0 hra0_2 hra0_3 hra1_2 hra1_3
 intro H hra0_2 hra0_3 hra1_2 hra1_3
 refine Ra 1 [0] [.c [1]] ?_
 refine RgH.does (DoesH.new (d:=2) (v:=fun g=>.pointer (some ⟨g,0,none⟩)) (o:=fun g=>.cells #[iv a0.Room,iv a0.Lease,.slice Aa0_2 a0.Blobs.length ca0_2,.slice Aa0_3 a0.Entries.length ca0_3] 25 (0,0)) (fun g=>by kernel_rfl)) ?_
 rintro _ _ _ _ ⟨g1,rfl,rfl,rfl⟩
 refine RgH.does (DoesH.new (d:=3) (v:=fun g=>.pointer (some ⟨g,0,none⟩)) (o:=fun g=>.cells #[iv a1.Room,iv a1.Lease,.slice Aa1_2 a1.Blobs.length ca1_2,.slice Aa1_3 a1.Entries.length ca1_3] 25 (0,0)) (fun g=>by kernel_rfl)) ?_
 rintro _ _ _ _ ⟨g2,rfl,rfl,rfl⟩
 refine RgH.does (DoesH.new (d:=4) (v:=fun g=>.pointer (some ⟨g,0,none⟩)) (o:=fun g=>.cells #[iv 0,iv 0,.slice none 0 0,.slice none 0 0] 25 (0,0)) (fun g=>by kernel_rfl)) ?_
 rintro _ _ _ _ ⟨g3,rfl,rfl,rfl⟩
 refine Rd 4 [2,3,4] [(2,pg g1 0),(3,pg g2 0),(4,pg g3 0)]<|Ra 2 [1,0,0] [.c [1,0,1],.c [1,1]]<|Rv 1 [2,3,4,18] [iv a0.Room,iv a0.Lease,.slice Aa0_2 a0.Blobs.length ca0_2,.slice Aa0_3 a0.Entries.length ca0_3] [.load ⟨g1,0,none⟩ (iv a0.Room),.load ⟨g1,1,none⟩ (iv a0.Lease),.load ⟨g1,2,none⟩ (.slice Aa0_2 a0.Blobs.length ca0_2),.load ⟨g1,3,none⟩ (.slice Aa0_3 a0.Entries.length ca0_3)] [(2,pg g1 0),(3,pg g2 0),(4,pg g3 0),(18,.agg #[iv a0.Room,iv a0.Lease,.slice Aa0_2 a0.Blobs.length ca0_2,.slice Aa0_3 a0.Entries.length ca0_3])] (fun w hh=>⟨(hh.box 2 rfl rfl),(hh.box 2 rfl rfl),(hh.box 2 rfl rfl),(hh.box 2 rfl rfl)⟩) ?_
 obtain ⟨y1,hy1,heq⟩:=bind_some heq
 refine RgH.does (DoesH.call (d:=19) (g:=22) (args:=#[.agg #[iv a0.Room,iv a0.Lease,.slice Aa0_2 a0.Blobs.length ca0_2,.slice Aa0_3 a0.Entries.length ca0_3]]) (by kernel_rfl) (cache_CheckCache_c (a0:=a0) (hra0_2.wk (fun _ h=>(.tail _ (.tail _ (.tail _ h))))) hca0_2 rfl (hra0_3.wk (fun _ h=>(.tail _ (.tail _ (.tail _ h))))) hca0_3 rfl hy1)) ?_
 rintro _ _ _ _ ⟨_,rfl,rfl,rfl,rfl⟩
 refine Rd 3 [2,3,4,6] [(2,pg g1 0),(3,pg g2 0),(4,pg g3 0),(6,iv y1)]<|Ra 1 [1,0,1,0] [.c [1,0,1,1],.c [1,1]]<|Rd 2 [2,3,4,6,21] [(2,pg g1 0),(3,pg g2 0),(4,pg g3 0),(6,iv y1),(21,.bool (y1 != 0))] ?_
 rcases bool_cases (y1 != 0) with hb1 | hb1
 ·replace heq:=bif_true hb1 heq
  refine Ct (y1 != 0) hb1<|Ra 1 [1,0,1,1,0,0] [.c [1,0,1,1,0,1],.c [1,1]]<|Rk 2 [4,22,23] [(4,pg g3 0),(22,.agg #[iv 0,iv 0,.slice none 0 0,.slice none 0 0]),(23,iv y1)] ?_
  refine RgH.does (DoesH.store (k:=0) (g:=g3) (off:=0) (v:=.agg #[iv 0,iv 0,.slice none 0 0,.slice none 0 0]) (cells':=#[iv 0,iv 0,.slice none 0 0,.slice none 0 0]) (by kernel_rfl) rfl (by kernel_rfl) (by kernel_rfl)) ?_
  rintro _ _ _ _ ⟨rfl,rfl,rfl⟩
  refine Rd 4 [4,5] [(4,pg g3 0),(5,iv y1)]<|RunH.nilc ?_
  have ho1:SlOwn kBlob 47 H none 0 ([]:List Blob) none:=SlOwn.nil
  refine RunH.nilc ?_
  have ho2:SlOwn kEntry 51 H none 0 ([]:List Entry) none:=SlOwn.nil
  obtain rfl:=Option.some.inj heq
  refine RunH.pick 5 [2,1,0] (cs':=(some (g3,.cells #[iv 0,iv 0,.slice none 0 0,.slice none 0 0] 25 (0,0)))::none::none::F) (by kernel_rfl) rfl ?_
  exact RunH.doneM' 1 (vs:=[.agg #[iv 0,iv 0,.slice none 0 0,.slice none 0 0],iv y1]) (v:=.tuple #[.agg #[iv 0,iv 0,.slice none 0 0,.slice none 0 0],iv y1]) (by kernel_rfl) Tryd.func32 (fun w hh=>show ResAll _ _ _ [.cell 4 25,.tmp 5] _ from ⟨⟨⟨g3,0,none⟩,by kernel_rfl,trS_run _ (vs:=[iv 0,iv 0,.slice none 0 0,.slice none 0 0]) (r:=[]) (es:=[.load ⟨g3,0,none⟩ (iv 0),.load ⟨g3,1,none⟩ (iv 0),.load ⟨g3,2,none⟩ (.slice none 0 0),.load ⟨g3,3,none⟩ (.slice none 0 0)]) (by kernel_rfl) ⟨(hh.box 0 rfl rfl),(hh.box 0 rfl rfl),(hh.box 0 rfl rfl),(hh.box 0 rfl rfl)⟩⟩,(show lk _ _=some _ by kernel_rfl),trivial⟩) rfl (cs':=none::none::F) rfl ⟨none,0,none,none,0,none,rfl,rfl,ho1,ho2⟩
 ·replace heq:=bif_false hb1 heq
  refine Cf (y1 != 0) hb1<|Ra 3 [1,1,0,0] [.c [1,1,0,1],.c [1,1,1]]<|Rv 1 [2,3,4,24] [iv a1.Room,iv a1.Lease,.slice Aa1_2 a1.Blobs.length ca1_2,.slice Aa1_3 a1.Entries.length ca1_3] [.load ⟨g2,0,none⟩ (iv a1.Room),.load ⟨g2,1,none⟩ (iv a1.Lease),.load ⟨g2,2,none⟩ (.slice Aa1_2 a1.Blobs.length ca1_2),.load ⟨g2,3,none⟩ (.slice Aa1_3 a1.Entries.length ca1_3)] [(2,pg g1 0),(3,pg g2 0),(4,pg g3 0),(24,.agg #[iv a1.Room,iv a1.Lease,.slice Aa1_2 a1.Blobs.length ca1_2,.slice Aa1_3 a1.Entries.length ca1_3])] (fun w hh=>⟨(hh.box 1 rfl rfl),(hh.box 1 rfl rfl),(hh.box 1 rfl rfl),(hh.box 1 rfl rfl)⟩) ?_
  obtain ⟨y2,hy2,heq⟩:=bind_some heq
  refine RgH.does (DoesH.call (d:=25) (g:=22) (args:=#[.agg #[iv a1.Room,iv a1.Lease,.slice Aa1_2 a1.Blobs.length ca1_2,.slice Aa1_3 a1.Entries.length ca1_3]]) (by kernel_rfl) (cache_CheckCache_c (a0:=a1) (hra1_2.wk (fun _ h=>(.tail _ (.tail _ (.tail _ h))))) hca1_2 rfl (hra1_3.wk (fun _ h=>(.tail _ (.tail _ (.tail _ h))))) hca1_3 rfl hy2)) ?_
  rintro _ _ _ _ ⟨_,rfl,rfl,rfl,rfl⟩
  refine Rd 3 [2,3,4,7] [(2,pg g1 0),(3,pg g2 0),(4,pg g3 0),(7,iv y2)]<|Ra 1 [1,1,0,1,0] [.c [1,1,0,1,1],.c [1,1,1]]<|Rd 2 [2,3,4,7,27] [(2,pg g1 0),(3,pg g2 0),(4,pg g3 0),(7,iv y2),(27,.bool (y2 != 0))] ?_
  rcases bool_cases (y2 != 0) with hb2 | hb2
  ·replace heq:=bif_true hb2 heq
   refine Ct (y2 != 0) hb2<|Ra 1 [1,1,0,1,1,0,0] [.c [1,1,0,1,1,0,1],.c [1,1,1]]<|Rk 2 [4,28,29] [(4,pg g3 0),(28,.agg #[iv 0,iv 0,.slice none 0 0,.slice none 0 0]),(29,iv y2)] ?_
   refine RgH.does (DoesH.store (k:=0) (g:=g3) (off:=0) (v:=.agg #[iv 0,iv 0,.slice none 0 0,.slice none 0 0]) (cells':=#[iv 0,iv 0,.slice none 0 0,.slice none 0 0]) (by kernel_rfl) rfl (by kernel_rfl) (by kernel_rfl)) ?_
   rintro _ _ _ _ ⟨rfl,rfl,rfl⟩
   refine Rd 4 [4,5] [(4,pg g3 0),(5,iv y2)]<|RunH.nilc ?_
   have ho3:SlOwn kBlob 47 H none 0 ([]:List Blob) none:=SlOwn.nil
   refine RunH.nilc ?_
   have ho4:SlOwn kEntry 51 H none 0 ([]:List Entry) none:=SlOwn.nil
   obtain rfl:=Option.some.inj heq
   refine RunH.pick 5 [2,1,0] (cs':=(some (g3,.cells #[iv 0,iv 0,.slice none 0 0,.slice none 0 0] 25 (0,0)))::none::none::F) (by kernel_rfl) rfl ?_
   exact RunH.doneM' 1 (vs:=[.agg #[iv 0,iv 0,.slice none 0 0,.slice none 0 0],iv y2]) (v:=.tuple #[.agg #[iv 0,iv 0,.slice none 0 0,.slice none 0 0],iv y2]) (by kernel_rfl) Tryd.func32 (fun w hh=>show ResAll _ _ _ [.cell 4 25,.tmp 5] _ from ⟨⟨⟨g3,0,none⟩,by kernel_rfl,trS_run _ (vs:=[iv 0,iv 0,.slice none 0 0,.slice none 0 0]) (r:=[]) (es:=[.load ⟨g3,0,none⟩ (iv 0),.load ⟨g3,1,none⟩ (iv 0),.load ⟨g3,2,none⟩ (.slice none 0 0),.load ⟨g3,3,none⟩ (.slice none 0 0)]) (by kernel_rfl) ⟨(hh.box 0 rfl rfl),(hh.box 0 rfl rfl),(hh.box 0 rfl rfl),(hh.box 0 rfl rfl)⟩⟩,(show lk _ _=some _ by kernel_rfl),trivial⟩) rfl (cs':=none::none::F) rfl ⟨none,0,none,none,0,none,rfl,rfl,ho3,ho4⟩
  ·replace heq:=bif_false hb2 heq
   refine Cf (y2 != 0) hb2<|Ad 2 [.c [1,1,1,0],.c [1,1,1,1]]<|Kp [2,3,4] [(2,pg g1 0),(3,pg g2 0),(4,pg g3 0)] ?_
   refine RunH.draw (fun w=>Heap H w0 w ((some (g3,.cells #[iv 0,iv 0,.slice none 0 0,.slice none 0 0] 25 (0,0)))::(some (g2,.cells #[iv a1.Room,iv a1.Lease,.slice Aa1_2 a1.Blobs.length ca1_2,.slice Aa1_3 a1.Entries.length ca1_3] 25 (0,0)))::(some (g1,.cells #[iv a0.Room,iv a0.Lease,.slice Aa0_2 a0.Blobs.length ca0_2,.slice Aa0_3 a0.Entries.length ca0_3] 25 (0,0)))::F)) (fun w=>Heap H w0 w ((some (g3,.cells #[iv 0,iv 0,.slice none 0 0,.slice none 0 0] 25 (0,0)))::(some (g2,.cells #[iv a1.Room,iv a1.Lease,.slice Aa1_2 a1.Blobs.length ca1_2,.slice Aa1_3 a1.Entries.length ca1_3] 25 (0,0)))::F)) [3,0,3,0,1,2] (n:=6) (ls:=[false,false,false,false,false,false]) (by kernel_rfl) (by kernel_rfl) (by kernel_rfl) rfl ?_
   refine Dk [0] 5 (nb 6 1) [iv a0.Room,iv a0.Lease,.slice Aa0_2 a0.Blobs.length ca0_2,.slice Aa0_3 a0.Entries.length ca0_3] [.load ⟨g1,0,none⟩ (iv a0.Room),.load ⟨g1,1,none⟩ (iv a0.Lease),.load ⟨g1,2,none⟩ (.slice Aa0_2 a0.Blobs.length ca0_2),.load ⟨g1,3,none⟩ (.slice Aa0_3 a0.Entries.length ca0_3)] [2,3,4,30] [(2,pg g1 0),(3,pg g2 0),(4,pg g3 0),(30,.agg #[iv a0.Room,iv a0.Lease,.slice Aa0_2 a0.Blobs.length ca0_2,.slice Aa0_3 a0.Entries.length ca0_3])] (Pk 3 [0,1,2]) (Pk 3 [0,1]) (fun w hh=>⟨(hh.box 2 rfl rfl),(hh.box 2 rfl rfl),(hh.box 2 rfl rfl),(hh.box 2 rfl rfl)⟩)<|De [2] 4 (nb 6 5) [iv a1.Room,iv a1.Lease,.slice Aa1_2 a1.Blobs.length ca1_2,.slice Aa1_3 a1.Entries.length ca1_3] [.load ⟨g2,0,none⟩ (iv a1.Room),.load ⟨g2,1,none⟩ (iv a1.Lease),.load ⟨g2,2,none⟩ (.slice Aa1_2 a1.Blobs.length ca1_2),.load ⟨g2,3,none⟩ (.slice Aa1_3 a1.Entries.length ca1_3)] [2,3,4,30,32] [(2,pg g1 0),(3,pg g2 0),(4,pg g3 0),(30,.agg #[iv a0.Room,iv a0.Lease,.slice Aa0_2 a0.Blobs.length ca0_2,.slice Aa0_3 a0.Entries.length ca0_3]),(32,.agg #[iv a1.Room,iv a1.Lease,.slice Aa1_2 a1.Blobs.length ca1_2,.slice Aa1_3 a1.Entries.length ca1_3])] (Pk 3 [0,1]) (fun w hh=>⟨(hh.box 1 rfl rfl),(hh.box 1 rfl rfl),(hh.box 1 rfl rfl),(hh.box 1 rfl rfl)⟩) ?_
   obtain ⟨y3,hy3,heq⟩:=bind_some heq
   refine DrH.does (n:=3) (ls':=[true,true,true,false,false,false]) 1 (by kernel_rfl) rfl (DoesH.call (d:=31) (g:=70) (args:=#[.agg #[iv a0.Room,iv a0.Lease,.slice Aa0_2 a0.Blobs.length ca0_2,.slice Aa0_3 a0.Entries.length ca0_3]]) (by kernel_rfl) (cache_own_c (a0:=a0) (hra0_2.wk (fun _ h=>(.tail _ (.tail _ (.tail _ h))))) hca0_2 rfl (hra0_3.wk (fun _ h=>(.tail _ (.tail _ (.tail _ h))))) hca0_3 rfl hy3)) ?_
   rintro _ H _ hl ⟨_,rfl,A1,c1,ch1,A2,c2,ch2,rfl,rfl,ho5,ho6⟩
   have hle:=hl
   replace hra0_2:=hra0_2.mono hl
   replace hra0_3:=hra0_3.mono hl
   replace hra1_2:=hra1_2.mono hl
   replace hra1_3:=hra1_3.mono hl
   refine ⟨fun _ w hh=>⟨fun _=>(fun w hh=>(hh.le hle).pick 5 [2,3,4] (by kernel_rfl)) w hh,fun _=>(fun w hh=>(hh.le hle).pick 5 [2,3] (by kernel_rfl)) w hh,(fun h=>by cases h)⟩,?_⟩
   refine Kr [2,3,4,31,32] [(2,pg g1 0),(3,pg g2 0),(4,pg g3 0),(31,.agg #[iv y3.Room,iv y3.Lease,.slice A1 y3.Blobs.length c1,.slice A2 y3.Entries.length c2]),(32,.agg #[iv a1.Room,iv a1.Lease,.slice Aa1_2 a1.Blobs.length ca1_2,.slice Aa1_3 a1.Entries.length ca1_3])] ?_
   obtain ⟨y4,hy4,heq⟩:=bind_some heq
   refine DrH.does (n:=2) (ls':=[true,true,true,true,false,false]) 3 (by kernel_rfl) rfl (DoesH.call (d:=33) (g:=70) (args:=#[.agg #[iv a1.Room,iv a1.Lease,.slice Aa1_2 a1.Blobs.length ca1_2,.slice Aa1_3 a1.Entries.length ca1_3]]) (by kernel_rfl) (cache_own_c (a0:=a1) (hra1_2.wk (fun _ h=>(.tail _ (.tail _ (.tail _ (.tail _ (.tail _ h))))))) hca1_2 rfl (hra1_3.wk (fun _ h=>(.tail _ (.tail _ (.tail _ (.tail _ (.tail _ h))))))) hca1_3 rfl hy4)) ?_
   rintro _ H _ hl ⟨_,rfl,A3,c3,ch3,A4,c4,ch4,rfl,rfl,ho7,ho8⟩
   replace hle:=hle.then hl
   replace hra0_2:=hra0_2.mono hl
   replace hra0_3:=hra0_3.mono hl
   replace hra1_2:=hra1_2.mono hl
   replace hra1_3:=hra1_3.mono hl
   replace ho5:=ho5.mono hl
   replace ho6:=ho6.mono hl
   refine ⟨fun _ w hh=>⟨fun _=>(fun w hh=>(hh.le hle).pick 7 [4,5,6] (by kernel_rfl)) w hh,fun _=>(fun w hh=>(hh.le hle).pick 7 [4,5] (by kernel_rfl)) w hh,(fun h=>by cases h)⟩,?_⟩
   refine Kr [2,3,4,31,33] [(2,pg g1 0),(3,pg g2 0),(4,pg g3 0),(31,.agg #[iv y3.Room,iv y3.Lease,.slice A1 y3.Blobs.length c1,.slice A2 y3.Entries.length c2]),(33,.agg #[iv y4.Room,iv y4.Lease,.slice A3 y4.Blobs.length c3,.slice A4 y4.Entries.length c4])] ?_
   refine DrH.does (n:=1) (ls':=[true,true,true,true,true,false]) 4 (by kernel_rfl) rfl (DoesH.store (k:=6) (g:=g1) (off:=0) (v:=.agg #[iv y3.Room,iv y3.Lease,.slice A1 y3.Blobs.length c1,.slice A2 y3.Entries.length c2]) (cells':=#[iv y3.Room,iv y3.Lease,.slice A1 y3.Blobs.length c1,.slice A2 y3.Entries.length c2]) (by kernel_rfl) rfl (by kernel_rfl) (by kernel_rfl)) ?_
   rintro _ _ _ _ ⟨rfl,rfl,rfl⟩
   refine ⟨fun _ w hh=>⟨(fun h=>by cases h),fun _=>(fun w hh=>(hh.le hle).pick 7 [4,5] (by kernel_rfl)) w hh,(fun h=>by cases h)⟩,?_⟩
   refine Kr [2,3,4,33] [(2,pg g1 0),(3,pg g2 0),(4,pg g3 0),(33,.agg #[iv y4.Room,iv y4.Lease,.slice A3 y4.Blobs.length c3,.slice A4 y4.Entries.length c4])] ?_
   refine DrH.does (n:=0) (ls':=[true,true,true,true,true,true]) 5 (by kernel_rfl) rfl (DoesH.store (k:=5) (g:=g2) (off:=0) (v:=.agg #[iv y4.Room,iv y4.Lease,.slice A3 y4.Blobs.length c3,.slice A4 y4.Entries.length c4]) (cells':=#[iv y4.Room,iv y4.Lease,.slice A3 y4.Blobs.length c3,.slice A4 y4.Entries.length c4]) (by kernel_rfl) rfl (by kernel_rfl) (by kernel_rfl)) ?_
   rintro _ _ _ _ ⟨rfl,rfl,rfl⟩
   refine ⟨fun _ w hh=>⟨(fun h=>by cases h),(fun h=>absurd h (by decide)),(fun h=>by cases h)⟩,?_⟩
   refine Kr [2,3,4] [(2,pg g1 0),(3,pg g2 0),(4,pg g3 0)] ?_
   refine DrH.done (by kernel_rfl) ?_
   refine Ra 2 [1,1,1,1,0,0] [.c [1,1,1,1,0,1],.c [1,1,1,1,1]]<|Rw' 4 [2,3,4,35,36,37] [.slice A3 y4.Blobs.length c3] [.load ⟨g2,2,none⟩ (.slice A3 y4.Blobs.length c3)] [(2,pg g1 0),(3,pg g2 0),(4,pg g3 0),(35,.slice A3 y4.Blobs.length c3),(36,iv (y4.Blobs.length:Int)),(37,iv 0)] (fun w hh=>(hh.box 5 rfl rfl))<|Ad 2 [.c [1,1,1,1,0,1,0,0],.l [1,1,1,1,0,1,0,0],.b 0,.c [1,1,1,1,1]]<|Kp [2,3,4,35,36,37] [(2,pg g1 0),(3,pg g2 0),(4,pg g3 0),(35,.slice A3 y4.Blobs.length c3),(36,iv (y4.Blobs.length:Int)),(37,iv 0)] ?_
   exact ((cache_Merged.l5_c (e1:=cache_Merged.e1) (cache_Merged.e1_c)) big) _ _ _ _ y3 _ _ _ y4 _ _ _ _ _ _ y3.Blobs _ _ _ _ 0 ho6 ho7 ho8 ho5 rfl heq
noncomputable def C35:Ctx:={ P:=Tryd.prog,f:=35,N:=28,c:=bodyOf Tryd.f35 }
def S35 (F:List Ch) (H0:Hp) (r:Entry × Bool) (v:Value) (H:Hp) (cs:List Ch):Prop:=∃ (A0_1:Option Addr) (c0_1:Nat),H0=H∧v=.tuple #[.agg #[.string r.1.Key,.slice A0_1 r.1.Refs.length c0_1,iv r.1.Used],.bool r.2]∧F=cs∧Kd.Row Kd.string H A0_1 r.1.Refs∧r.1.Refs.length≤c0_1
theorem smithyardlaw7_entry.e1_c {w0:World} {H:Hp} {F:List Ch} {r:Entry × Bool}:∀ (g2:Nat) ,smithyardlaw7_entry.e1=some r→RunH C35 (S35 F H r) H w0 [.c [1,1,0],.c [1,1,1]] [(4,pg g2 0)] H ((some (g2,.cells #[.string ByteArray.empty,.slice none 0 0,iv 0] 51 (0,0)))::F):=by
 intro g2  heq
 unfold smithyardlaw7_entry.e1 at heq
 refine Rr<|Rk 1 [4,27] [(4,pg g2 0),(27,.agg #[.string ByteArray.empty,.slice none 0 0,iv 0])] ?_
 refine RgH.does (DoesH.store (k:=0) (g:=g2) (off:=0) (v:=.agg #[.string ByteArray.empty,.slice none 0 0,iv 0]) (cells':=#[.string ByteArray.empty,.slice none 0 0,iv 0]) (by kernel_rfl) rfl (by kernel_rfl) (by kernel_rfl)) ?_
 rintro _ _ _ _ ⟨rfl,rfl,rfl⟩
 refine Rd 3 [4,5] [(4,pg g2 0),(5,.bool false)] ?_
 obtain rfl:=Option.some.inj heq
 exact RunH.doneM' 1 (vs:=[.agg #[.string ByteArray.empty,.slice none 0 0,iv 0],.bool false]) (v:=.tuple #[.agg #[.string ByteArray.empty,.slice none 0 0,iv 0],.bool false]) (by kernel_rfl) Tryd.func35 (fun w hh=>show ResAll _ _ _ [.cell 4 51,.tmp 5] _ from ⟨⟨⟨g2,0,none⟩,by kernel_rfl,trS_run _ (vs:=[.string ByteArray.empty,.slice none 0 0,iv 0]) (r:=[]) (es:=[.load ⟨g2,0,none⟩ (.string ByteArray.empty),.load ⟨g2,1,none⟩ (.slice none 0 0),.load ⟨g2,2,none⟩ (iv 0)]) (by kernel_rfl) ⟨(hh.box 0 rfl rfl),(hh.box 0 rfl rfl),(hh.box 0 rfl rfl)⟩⟩,(show lk _ _=some _ by kernel_rfl),trivial⟩) rfl (cs':=F) rfl ⟨none,0,rfl,rfl,rfl,Kd.Row.none,(Nat.le_refl _)⟩
theorem smithyardlaw7_entry.l2_c {w0:World} {H:Hp} {F:List Ch} {r:Entry × Bool} (e1:Option (Entry × Bool))
  (he1:∀ (g2:Nat) ,e1=some r→RunH C35 (S35 F H r) H w0 [.c [1,1,0],.c [1,1,1]] [(4,pg g2 0)] H ((some (g2,.cells #[.string ByteArray.empty,.slice none 0 0,iv 0] 51 (0,0)))::F)):∀ (k:Nat),∀ (a0:Cache) (Aa0_2:Option Addr) (ca0_2:Nat) (Aa0_3:Option Addr) (ca0_3:Nat) (a1:ByteArray) (g1:Nat) (g2:Nat) (v_i6:Int) ,Rw kBlob H F Aa0_2 a0.Blobs→a0.Blobs.length≤ca0_2→Rw kEntry H F Aa0_3 a0.Entries→a0.Entries.length≤ca0_3→smithyardlaw7_entry.l2 e1 k a0 a1 v_i6=some r→RunH C35 (S35 F H r) H w0 [.c [1,0,1,0,0],.l [1,0,1,0,0],.b 0,.c [1,1]] [(1,.string a1),(2,pg g1 0),(4,pg g2 0),(6,iv v_i6)] H ((some (g2,.cells #[.string ByteArray.empty,.slice none 0 0,iv 0] 51 (0,0)))::(some (g1,.cells #[iv a0.Room,iv a0.Lease,.slice Aa0_2 a0.Blobs.length ca0_2,.slice Aa0_3 a0.Entries.length ca0_3] 25 (0,0)))::F):=by
 intro k
 induction k with
 | zero=>intro a0 Aa0_2 ca0_2 Aa0_3 ca0_3 a1 g1 g2 v_i6 hra0_2 hca0_2 hra0_3 hca0_3 heq; exact nomatch (show (none:Option (Entry × Bool))=some r from heq)
 | succ k ihk =>
  intro a0 Aa0_2 ca0_2 Aa0_3 ca0_3 a1 g1 g2 v_i6 hra0_2 hca0_2 hra0_3 hca0_3 heq
  rw [smithyardlaw7_entry.l2] at heq
  refine Ra 2 [1,0,1,0,0,0,0] [.c [1,0,1,0,0,0,1],.c [1,0,1,0,0,1],.l [1,0,1,0,0],.b 0,.c [1,1]]<|Rw' 5 [1,2,4,6,11] [.slice Aa0_3 a0.Entries.length ca0_3] [.load ⟨g1,3,none⟩ (.slice Aa0_3 a0.Entries.length ca0_3)] [(1,.string a1),(2,pg g1 0),(4,pg g2 0),(6,iv v_i6),(11,.bool (decide (v_i6<(a0.Entries.length:Int))))] (fun w hh=>(hh.box 1 rfl rfl)) ?_
  rcases bool_cases (decide (v_i6<(a0.Entries.length:Int))) with hb1 | hb1
  ·replace heq:=bif_true hb1 heq
   refine Ct (decide (v_i6<(a0.Entries.length:Int))) hb1<|Ra 4 [1,0,1,0,0,1,0,0,0] [.c [1,0,1,0,0,1,0,0,1],.b 1,.c [1,0,1,0,0,1,1],.l [1,0,1,0,0],.b 0,.c [1,1]] ?_
   obtain ⟨x1,hx1,heq⟩:=bind_some heq
   obtain ⟨ha1,cs1,hK1,hcc1⟩:=hra0_3.get hx1
   obtain ⟨A1,c1,rfl,hc1,hr1⟩:=kEntry_open hK1
   refine Rw' 8 [1,2,4,6,21] [.slice Aa0_3 a0.Entries.length ca0_3,.string x1.Key] [.load ⟨g1,3,none⟩ (.slice Aa0_3 a0.Entries.length ca0_3),.need (Aa0_3=some (adr Aa0_3)∧(0:Int)≤v_i6∧v_i6<((a0.Entries.length:Nat):Int)),.load (((adr Aa0_3).add (v_i6.toNat*3)).add 0) (.string x1.Key)] [(1,.string a1),(2,pg g1 0),(4,pg g2 0),(6,iv v_i6),(21,.bool (sEq x1.Key a1))] (fun w hh=>⟨(hh.box 1 rfl rfl),⟨ha1,(at?_some hx1).1,(at?_some hx1).2.1⟩,(hcc1 _ _ (hh.drop 2) 0 _ rfl)⟩) ?_
   rcases bool_cases (sEq x1.Key a1) with hb2 | hb2
   ·replace heq:=bif_true hb2 heq
    refine Ct (sEq x1.Key a1) hb2<|Ra 1 [1,0,1,0,0,1,0,0,1,0,0] [.c [1,0,1,0,0,1,0,0,1,0,1],.b 1,.c [1,0,1,0,0,1,1],.l [1,0,1,0,0],.b 0,.c [1,1]] ?_
    obtain ⟨x2,hx2,heq⟩:=bind_some heq
    obtain ⟨ha2,cs2,hK2,hcc2⟩:=hra0_3.get hx2
    obtain ⟨A2,c2,rfl,hc2,hr2⟩:=kEntry_open hK2
    refine Rv 5 [4,26] [.slice Aa0_3 a0.Entries.length ca0_3,.string x2.Key,.slice A2 x2.Refs.length c2,iv x2.Used] [.load ⟨g1,3,none⟩ (.slice Aa0_3 a0.Entries.length ca0_3),.need (Aa0_3=some (adr Aa0_3)∧(0:Int)≤v_i6∧v_i6<((a0.Entries.length:Nat):Int)),.load (((adr Aa0_3).add (v_i6.toNat*3)).add 0) (.string x2.Key),.load (((adr Aa0_3).add (v_i6.toNat*3)).add 1) (.slice A2 x2.Refs.length c2),.load (((adr Aa0_3).add (v_i6.toNat*3)).add 2) (iv x2.Used)] [(4,pg g2 0),(26,.agg #[.string x2.Key,.slice A2 x2.Refs.length c2,iv x2.Used])] (fun w hh=>⟨(hh.box 1 rfl rfl),⟨ha2,(at?_some hx2).1,(at?_some hx2).2.1⟩,(hcc2 _ _ (hh.drop 2) 0 _ rfl),(hcc2 _ _ (hh.drop 2) 1 _ rfl),(hcc2 _ _ (hh.drop 2) 2 _ rfl)⟩) ?_
    refine RgH.does (DoesH.store (k:=0) (g:=g2) (off:=0) (v:=.agg #[.string x2.Key,.slice A2 x2.Refs.length c2,iv x2.Used]) (cells':=#[.string x2.Key,.slice A2 x2.Refs.length c2,iv x2.Used]) (by kernel_rfl) rfl (by kernel_rfl) (by kernel_rfl)) ?_
    rintro _ _ _ _ ⟨rfl,rfl,rfl⟩
    refine Rd 7 [4,5] [(4,pg g2 0),(5,.bool true)] ?_
    obtain rfl:=Option.some.inj heq
    refine RunH.pick 2 [0] (cs':=(some (g2,.cells #[.string x2.Key,.slice A2 x2.Refs.length c2,iv x2.Used] 51 (0,0)))::F) (by kernel_rfl) rfl ?_
    exact RunH.doneM' 1 (vs:=[.agg #[.string x2.Key,.slice A2 x2.Refs.length c2,iv x2.Used],.bool true]) (v:=.tuple #[.agg #[.string x2.Key,.slice A2 x2.Refs.length c2,iv x2.Used],.bool true]) (by kernel_rfl) Tryd.func35 (fun w hh=>show ResAll _ _ _ [.cell 4 51,.tmp 5] _ from ⟨⟨⟨g2,0,none⟩,by kernel_rfl,trS_run _ (vs:=[.string x2.Key,.slice A2 x2.Refs.length c2,iv x2.Used]) (r:=[]) (es:=[.load ⟨g2,0,none⟩ (.string x2.Key),.load ⟨g2,1,none⟩ (.slice A2 x2.Refs.length c2),.load ⟨g2,2,none⟩ (iv x2.Used)]) (by kernel_rfl) ⟨(hh.box 0 rfl rfl),(hh.box 0 rfl rfl),(hh.box 0 rfl rfl)⟩⟩,(show lk _ _=some _ by kernel_rfl),trivial⟩) rfl (cs':=F) rfl ⟨A2,c2,rfl,rfl,rfl,hr2,hc2⟩
   ·replace heq:=bif_false hb2 heq
    refine Cf (sEq x1.Key a1) hb2<|Ra 2 [1,0,1,0,0,1,1] [.l [1,0,1,0,0],.b 0,.c [1,1]]<|Rd 3 [1,2,4,6] [(1,.string a1),(2,pg g1 0),(4,pg g2 0),(6,iv (w64 (v_i6+1)))]<|Ad 1 [.c [1,0,1,0,0],.l [1,0,1,0,0],.b 0,.c [1,1]]<|Kp [1,2,4,6] [(1,.string a1),(2,pg g1 0),(4,pg g2 0),(6,iv (w64 (v_i6+1)))] ?_
    exact ihk a0 _ _ _ _ a1 _ _ (w64 (v_i6+1)) hra0_2 hca0_2 hra0_3 hca0_3 heq
  ·replace heq:=bif_false hb1 heq
   refine Cf (decide (v_i6<(a0.Entries.length:Int))) hb1<|Ad 2 [.c [1,1,0],.c [1,1,1]]<|Kp [4] [(4,pg g2 0)] ?_
   refine RunH.pick 2 [0] (cs':=(some (g2,.cells #[.string ByteArray.empty,.slice none 0 0,iv 0] 51 (0,0)))::F) (by kernel_rfl) rfl ?_
   exact he1 _ heq
theorem smithyardlaw7_entry_c {w0:World} {H:Hp} {F:List Ch} {a0:Cache} {Aa0_2:Option Addr} {na0_2:Nat} {ca0_2:Nat} {Aa0_3:Option Addr} {na0_3:Nat} {ca0_3:Nat} {a1:ByteArray} {r:Entry × Bool} (hra0_2:Rw kBlob H F Aa0_2 a0.Blobs) (hca0_2:na0_2≤ca0_2) (hna0_2:na0_2=a0.Blobs.length) (hra0_3:Rw kEntry H F Aa0_3 a0.Entries) (hca0_3:na0_3≤ca0_3) (hna0_3:na0_3=a0.Entries.length) (heq:smithyardlaw7_entry.f a0 a1=some r):CallsH Tryd.prog 35 #[.agg #[iv a0.Room,iv a0.Lease,.slice Aa0_2 na0_2 ca0_2,.slice Aa0_3 na0_3 ca0_3],.string a1] H w0 (F) (S35 F H r):=by
 refine calls_of_runH (F:=C35) Tryd.func35 (by kernel_rfl) Tryd.ntmps35 (args:=[.agg #[iv a0.Room,iv a0.Lease,.slice Aa0_2 na0_2 ca0_2,.slice Aa0_3 na0_3 ca0_3],.string a1]) (by kernel_rfl) ?_
 subst hna0_2
 subst hna0_3
 unfold smithyardlaw7_entry.f at heq
 refine Ra 1 [0] [.c [1]] ?_
 refine RgH.does (DoesH.new (d:=2) (v:=fun g=>.pointer (some ⟨g,0,none⟩)) (o:=fun g=>.cells #[iv a0.Room,iv a0.Lease,.slice Aa0_2 a0.Blobs.length ca0_2,.slice Aa0_3 a0.Entries.length ca0_3] 25 (0,0)) (fun g=>by kernel_rfl)) ?_
 rintro _ _ _ _ ⟨g1,rfl,rfl,rfl⟩
 refine RgH.does (DoesH.new (d:=4) (v:=fun g=>.pointer (some ⟨g,0,none⟩)) (o:=fun g=>.cells #[.string ByteArray.empty,.slice none 0 0,iv 0] 51 (0,0)) (fun g=>by kernel_rfl)) ?_
 rintro _ _ _ _ ⟨g2,rfl,rfl,rfl⟩
 refine Rd 3 [1,2,4] [(1,.string a1),(2,pg g1 0),(4,pg g2 0)]<|Ra 2 [1,0,0] [.c [1,0,1],.c [1,1]]<|Rd 1 [1,2,4,6] [(1,.string a1),(2,pg g1 0),(4,pg g2 0),(6,iv 0)]<|Ad 2 [.c [1,0,1,0,0],.l [1,0,1,0,0],.b 0,.c [1,1]]<|Kp [1,2,4,6] [(1,.string a1),(2,pg g1 0),(4,pg g2 0),(6,iv 0)] ?_
 exact ((smithyardlaw7_entry.l2_c (e1:=smithyardlaw7_entry.e1) (smithyardlaw7_entry.e1_c)) big) a0 _ _ _ _ a1 _ _ 0 hra0_2 hca0_2 hra0_3 hca0_3 heq
noncomputable def C34:Ctx:={ P:=Tryd.prog,f:=34,N:=28,c:=bodyOf Tryd.f34 }
def S34 (F:List Ch) (H0:Hp) (r:Blob × Bool) (v:Value) (H:Hp) (cs:List Ch):Prop:=H0=H∧v=.tuple #[.agg #[.string r.1.Digest,iv r.1.Size,iv r.1.Used,iv r.1.Until,iv r.1.Pins],.bool r.2]∧F=cs
theorem smithyardlaw7_blob.e1_c {w0:World} {H:Hp} {F:List Ch} {r:Blob × Bool}:∀ (g2:Nat) ,smithyardlaw7_blob.e1=some r→RunH C34 (S34 F H r) H w0 [.c [1,1,0],.c [1,1,1]] [(4,pg g2 0)] H ((some (g2,.cells #[.string ByteArray.empty,iv 0,iv 0,iv 0,iv 0] 47 (0,0)))::F):=by
 intro g2  heq
 unfold smithyardlaw7_blob.e1 at heq
 refine Rr<|Rk 1 [4,27] [(4,pg g2 0),(27,.agg #[.string ByteArray.empty,iv 0,iv 0,iv 0,iv 0])] ?_
 refine RgH.does (DoesH.store (k:=0) (g:=g2) (off:=0) (v:=.agg #[.string ByteArray.empty,iv 0,iv 0,iv 0,iv 0]) (cells':=#[.string ByteArray.empty,iv 0,iv 0,iv 0,iv 0]) (by kernel_rfl) rfl (by kernel_rfl) (by kernel_rfl)) ?_
 rintro _ _ _ _ ⟨rfl,rfl,rfl⟩
 refine Rd 3 [4,5] [(4,pg g2 0),(5,.bool false)] ?_
 obtain rfl:=Option.some.inj heq
 exact RunH.doneM' 1 (vs:=[.agg #[.string ByteArray.empty,iv 0,iv 0,iv 0,iv 0],.bool false]) (v:=.tuple #[.agg #[.string ByteArray.empty,iv 0,iv 0,iv 0,iv 0],.bool false]) (by kernel_rfl) Tryd.func34 (fun w hh=>show ResAll _ _ _ [.cell 4 47,.tmp 5] _ from ⟨⟨⟨g2,0,none⟩,by kernel_rfl,trS_run _ (vs:=[.string ByteArray.empty,iv 0,iv 0,iv 0,iv 0]) (r:=[]) (es:=[.load ⟨g2,0,none⟩ (.string ByteArray.empty),.load ⟨g2,1,none⟩ (iv 0),.load ⟨g2,2,none⟩ (iv 0),.load ⟨g2,3,none⟩ (iv 0),.load ⟨g2,4,none⟩ (iv 0)]) (by kernel_rfl) ⟨(hh.box 0 rfl rfl),(hh.box 0 rfl rfl),(hh.box 0 rfl rfl),(hh.box 0 rfl rfl),(hh.box 0 rfl rfl)⟩⟩,(show lk _ _=some _ by kernel_rfl),trivial⟩) rfl (cs':=F) rfl ⟨rfl,rfl,rfl⟩
theorem smithyardlaw7_blob.l2_c {w0:World} {H:Hp} {F:List Ch} {r:Blob × Bool} (e1:Option (Blob × Bool))
  (he1:∀ (g2:Nat) ,e1=some r→RunH C34 (S34 F H r) H w0 [.c [1,1,0],.c [1,1,1]] [(4,pg g2 0)] H ((some (g2,.cells #[.string ByteArray.empty,iv 0,iv 0,iv 0,iv 0] 47 (0,0)))::F)):∀ (k:Nat),∀ (a0:Cache) (Aa0_2:Option Addr) (ca0_2:Nat) (Aa0_3:Option Addr) (ca0_3:Nat) (a1:ByteArray) (g1:Nat) (g2:Nat) (v_i6:Int) ,Rw kBlob H F Aa0_2 a0.Blobs→a0.Blobs.length≤ca0_2→Rw kEntry H F Aa0_3 a0.Entries→a0.Entries.length≤ca0_3→smithyardlaw7_blob.l2 e1 k a0 a1 v_i6=some r→RunH C34 (S34 F H r) H w0 [.c [1,0,1,0,0],.l [1,0,1,0,0],.b 0,.c [1,1]] [(1,.string a1),(2,pg g1 0),(4,pg g2 0),(6,iv v_i6)] H ((some (g2,.cells #[.string ByteArray.empty,iv 0,iv 0,iv 0,iv 0] 47 (0,0)))::(some (g1,.cells #[iv a0.Room,iv a0.Lease,.slice Aa0_2 a0.Blobs.length ca0_2,.slice Aa0_3 a0.Entries.length ca0_3] 25 (0,0)))::F):=by
 intro k
 induction k with
 | zero=>intro a0 Aa0_2 ca0_2 Aa0_3 ca0_3 a1 g1 g2 v_i6 hra0_2 hca0_2 hra0_3 hca0_3 heq; exact nomatch (show (none:Option (Blob × Bool))=some r from heq)
 | succ k ihk =>
  intro a0 Aa0_2 ca0_2 Aa0_3 ca0_3 a1 g1 g2 v_i6 hra0_2 hca0_2 hra0_3 hca0_3 heq
  rw [smithyardlaw7_blob.l2] at heq
  refine Ra 2 [1,0,1,0,0,0,0] [.c [1,0,1,0,0,0,1],.c [1,0,1,0,0,1],.l [1,0,1,0,0],.b 0,.c [1,1]]<|Rw' 5 [1,2,4,6,11] [.slice Aa0_2 a0.Blobs.length ca0_2] [.load ⟨g1,2,none⟩ (.slice Aa0_2 a0.Blobs.length ca0_2)] [(1,.string a1),(2,pg g1 0),(4,pg g2 0),(6,iv v_i6),(11,.bool (decide (v_i6<(a0.Blobs.length:Int))))] (fun w hh=>(hh.box 1 rfl rfl)) ?_
  rcases bool_cases (decide (v_i6<(a0.Blobs.length:Int))) with hb1 | hb1
  ·replace heq:=bif_true hb1 heq
   refine Ct (decide (v_i6<(a0.Blobs.length:Int))) hb1<|Ra 4 [1,0,1,0,0,1,0,0,0] [.c [1,0,1,0,0,1,0,0,1],.b 1,.c [1,0,1,0,0,1,1],.l [1,0,1,0,0],.b 0,.c [1,1]] ?_
   obtain ⟨x1,hx1,heq⟩:=bind_some heq
   obtain ⟨ha1,cs1,hK1,hcc1⟩:=hra0_2.get hx1
   obtain ⟨rfl⟩:=kBlob_open hK1
   refine Rw' 8 [1,2,4,6,21] [.slice Aa0_2 a0.Blobs.length ca0_2,.string x1.Digest] [.load ⟨g1,2,none⟩ (.slice Aa0_2 a0.Blobs.length ca0_2),.need (Aa0_2=some (adr Aa0_2)∧(0:Int)≤v_i6∧v_i6<((a0.Blobs.length:Nat):Int)),.load (((adr Aa0_2).add (v_i6.toNat*5)).add 0) (.string x1.Digest)] [(1,.string a1),(2,pg g1 0),(4,pg g2 0),(6,iv v_i6),(21,.bool (sEq x1.Digest a1))] (fun w hh=>⟨(hh.box 1 rfl rfl),⟨ha1,(at?_some hx1).1,(at?_some hx1).2.1⟩,(hcc1 _ _ (hh.drop 2) 0 _ rfl)⟩) ?_
   rcases bool_cases (sEq x1.Digest a1) with hb2 | hb2
   ·replace heq:=bif_true hb2 heq
    refine Ct (sEq x1.Digest a1) hb2<|Ra 1 [1,0,1,0,0,1,0,0,1,0,0] [.c [1,0,1,0,0,1,0,0,1,0,1],.b 1,.c [1,0,1,0,0,1,1],.l [1,0,1,0,0],.b 0,.c [1,1]] ?_
    obtain ⟨x2,hx2,heq⟩:=bind_some heq
    obtain ⟨ha2,cs2,hK2,hcc2⟩:=hra0_2.get hx2
    obtain ⟨rfl⟩:=kBlob_open hK2
    refine Rv 5 [4,26] [.slice Aa0_2 a0.Blobs.length ca0_2,.string x2.Digest,iv x2.Size,iv x2.Used,iv x2.Until,iv x2.Pins] [.load ⟨g1,2,none⟩ (.slice Aa0_2 a0.Blobs.length ca0_2),.need (Aa0_2=some (adr Aa0_2)∧(0:Int)≤v_i6∧v_i6<((a0.Blobs.length:Nat):Int)),.load (((adr Aa0_2).add (v_i6.toNat*5)).add 0) (.string x2.Digest),.load (((adr Aa0_2).add (v_i6.toNat*5)).add 1) (iv x2.Size),.load (((adr Aa0_2).add (v_i6.toNat*5)).add 2) (iv x2.Used),.load (((adr Aa0_2).add (v_i6.toNat*5)).add 3) (iv x2.Until),.load (((adr Aa0_2).add (v_i6.toNat*5)).add 4) (iv x2.Pins)] [(4,pg g2 0),(26,.agg #[.string x2.Digest,iv x2.Size,iv x2.Used,iv x2.Until,iv x2.Pins])] (fun w hh=>⟨(hh.box 1 rfl rfl),⟨ha2,(at?_some hx2).1,(at?_some hx2).2.1⟩,(hcc2 _ _ (hh.drop 2) 0 _ rfl),(hcc2 _ _ (hh.drop 2) 1 _ rfl),(hcc2 _ _ (hh.drop 2) 2 _ rfl),(hcc2 _ _ (hh.drop 2) 3 _ rfl),(hcc2 _ _ (hh.drop 2) 4 _ rfl)⟩) ?_
    refine RgH.does (DoesH.store (k:=0) (g:=g2) (off:=0) (v:=.agg #[.string x2.Digest,iv x2.Size,iv x2.Used,iv x2.Until,iv x2.Pins]) (cells':=#[.string x2.Digest,iv x2.Size,iv x2.Used,iv x2.Until,iv x2.Pins]) (by kernel_rfl) rfl (by kernel_rfl) (by kernel_rfl)) ?_
    rintro _ _ _ _ ⟨rfl,rfl,rfl⟩
    refine Rd 7 [4,5] [(4,pg g2 0),(5,.bool true)] ?_
    obtain rfl:=Option.some.inj heq
    refine RunH.pick 2 [0] (cs':=(some (g2,.cells #[.string x2.Digest,iv x2.Size,iv x2.Used,iv x2.Until,iv x2.Pins] 47 (0,0)))::F) (by kernel_rfl) rfl ?_
    exact RunH.doneM' 1 (vs:=[.agg #[.string x2.Digest,iv x2.Size,iv x2.Used,iv x2.Until,iv x2.Pins],.bool true]) (v:=.tuple #[.agg #[.string x2.Digest,iv x2.Size,iv x2.Used,iv x2.Until,iv x2.Pins],.bool true]) (by kernel_rfl) Tryd.func34 (fun w hh=>show ResAll _ _ _ [.cell 4 47,.tmp 5] _ from ⟨⟨⟨g2,0,none⟩,by kernel_rfl,trS_run _ (vs:=[.string x2.Digest,iv x2.Size,iv x2.Used,iv x2.Until,iv x2.Pins]) (r:=[]) (es:=[.load ⟨g2,0,none⟩ (.string x2.Digest),.load ⟨g2,1,none⟩ (iv x2.Size),.load ⟨g2,2,none⟩ (iv x2.Used),.load ⟨g2,3,none⟩ (iv x2.Until),.load ⟨g2,4,none⟩ (iv x2.Pins)]) (by kernel_rfl) ⟨(hh.box 0 rfl rfl),(hh.box 0 rfl rfl),(hh.box 0 rfl rfl),(hh.box 0 rfl rfl),(hh.box 0 rfl rfl)⟩⟩,(show lk _ _=some _ by kernel_rfl),trivial⟩) rfl (cs':=F) rfl ⟨rfl,rfl,rfl⟩
   ·replace heq:=bif_false hb2 heq
    refine Cf (sEq x1.Digest a1) hb2<|Ra 2 [1,0,1,0,0,1,1] [.l [1,0,1,0,0],.b 0,.c [1,1]]<|Rd 3 [1,2,4,6] [(1,.string a1),(2,pg g1 0),(4,pg g2 0),(6,iv (w64 (v_i6+1)))]<|Ad 1 [.c [1,0,1,0,0],.l [1,0,1,0,0],.b 0,.c [1,1]]<|Kp [1,2,4,6] [(1,.string a1),(2,pg g1 0),(4,pg g2 0),(6,iv (w64 (v_i6+1)))] ?_
    exact ihk a0 _ _ _ _ a1 _ _ (w64 (v_i6+1)) hra0_2 hca0_2 hra0_3 hca0_3 heq
  ·replace heq:=bif_false hb1 heq
   refine Cf (decide (v_i6<(a0.Blobs.length:Int))) hb1<|Ad 2 [.c [1,1,0],.c [1,1,1]]<|Kp [4] [(4,pg g2 0)] ?_
   refine RunH.pick 2 [0] (cs':=(some (g2,.cells #[.string ByteArray.empty,iv 0,iv 0,iv 0,iv 0] 47 (0,0)))::F) (by kernel_rfl) rfl ?_
   exact he1 _ heq
theorem smithyardlaw7_blob_c {w0:World} {H:Hp} {F:List Ch} {a0:Cache} {Aa0_2:Option Addr} {na0_2:Nat} {ca0_2:Nat} {Aa0_3:Option Addr} {na0_3:Nat} {ca0_3:Nat} {a1:ByteArray} {r:Blob × Bool} (hra0_2:Rw kBlob H F Aa0_2 a0.Blobs) (hca0_2:na0_2≤ca0_2) (hna0_2:na0_2=a0.Blobs.length) (hra0_3:Rw kEntry H F Aa0_3 a0.Entries) (hca0_3:na0_3≤ca0_3) (hna0_3:na0_3=a0.Entries.length) (heq:smithyardlaw7_blob.f a0 a1=some r):CallsH Tryd.prog 34 #[.agg #[iv a0.Room,iv a0.Lease,.slice Aa0_2 na0_2 ca0_2,.slice Aa0_3 na0_3 ca0_3],.string a1] H w0 (F) (S34 F H r):=by
 refine calls_of_runH (F:=C34) Tryd.func34 (by kernel_rfl) Tryd.ntmps34 (args:=[.agg #[iv a0.Room,iv a0.Lease,.slice Aa0_2 na0_2 ca0_2,.slice Aa0_3 na0_3 ca0_3],.string a1]) (by kernel_rfl) ?_
 subst hna0_2
 subst hna0_3
 unfold smithyardlaw7_blob.f at heq
 refine Ra 1 [0] [.c [1]] ?_
 refine RgH.does (DoesH.new (d:=2) (v:=fun g=>.pointer (some ⟨g,0,none⟩)) (o:=fun g=>.cells #[iv a0.Room,iv a0.Lease,.slice Aa0_2 a0.Blobs.length ca0_2,.slice Aa0_3 a0.Entries.length ca0_3] 25 (0,0)) (fun g=>by kernel_rfl)) ?_
 rintro _ _ _ _ ⟨g1,rfl,rfl,rfl⟩
 refine RgH.does (DoesH.new (d:=4) (v:=fun g=>.pointer (some ⟨g,0,none⟩)) (o:=fun g=>.cells #[.string ByteArray.empty,iv 0,iv 0,iv 0,iv 0] 47 (0,0)) (fun g=>by kernel_rfl)) ?_
 rintro _ _ _ _ ⟨g2,rfl,rfl,rfl⟩
 refine Rd 3 [1,2,4] [(1,.string a1),(2,pg g1 0),(4,pg g2 0)]<|Ra 2 [1,0,0] [.c [1,0,1],.c [1,1]]<|Rd 1 [1,2,4,6] [(1,.string a1),(2,pg g1 0),(4,pg g2 0),(6,iv 0)]<|Ad 2 [.c [1,0,1,0,0],.l [1,0,1,0,0],.b 0,.c [1,1]]<|Kp [1,2,4,6] [(1,.string a1),(2,pg g1 0),(4,pg g2 0),(6,iv 0)] ?_
 exact ((smithyardlaw7_blob.l2_c (e1:=smithyardlaw7_blob.e1) (smithyardlaw7_blob.e1_c)) big) a0 _ _ _ _ a1 _ _ 0 hra0_2 hca0_2 hra0_3 hca0_3 heq
end Go.Proofs.YtkjilepjblffeaaDoor
