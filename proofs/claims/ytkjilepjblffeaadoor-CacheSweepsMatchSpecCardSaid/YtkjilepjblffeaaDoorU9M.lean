/- What the machine's calls of these functions come to: just what the plain functions say. Written by program. -/
import Derived.Test.YtkjilepjblffeaaDoorProg
import Derived.Test.YtkjilepjblffeaaDoorKitX
import Derived.Test.YtkjilepjblffeaaDoorUD
import Derived.Test.YtkjilepjblffeaaDoorShelf
import Derived.Test.YtkjilepjblffeaaDoorU9M3
set_option linter.unusedVariables false
set_option linter.unusedSimpArgs false
set_option maxRecDepth 100000
set_option maxHeartbeats 1000000
namespace Go.Proofs.YtkjilepjblffeaaDoor
open Go Go.RowKit Go.Proofs.YtkjilepjblffeaaDoor.Kit
noncomputable def C43:Ctx:={ P:=Tryd.prog,f:=43,N:=156,c:=bodyOf Tryd.f43 }
def S43 (F:List Ch) (H0:Hp) (r:Cache × (List ByteArray) × Int) (v:Value) (H:Hp) (cs:List Ch):Prop:=∃ (A0_2:Option Addr) (c0_2:Nat) (ch0_2:Ch) (A0_3:Option Addr) (c0_3:Nat) (ch0_3:Ch) (A1:Option Addr) (c1:Nat) (ch1:Ch),v=.tuple #[.agg #[iv r.1.Room,iv r.1.Lease,.slice A0_2 r.1.Blobs.length c0_2,.slice A0_3 r.1.Entries.length c0_3],.slice A1 r.2.1.length c1,iv r.2.2]∧ch0_2::ch0_3::ch1::F=cs∧SlOwn kBlob 47 H A0_2 c0_2 r.1.Blobs ch0_2∧SlOwn kEntry 51 H A0_3 c0_3 r.1.Entries ch0_3∧SlOwn Kd.string 9 H A1 c1 r.2.1 ch1
theorem smithyardref7_Swept.e2_c {w0:World} {H0:Hp} {F:List Ch} {r:Cache × (List ByteArray) × Int}:∀ (H:Hp) (a0:Cache) (g2:Nat) (v_entries12:List Entry) (Av_entries12:Option Addr) (cv_entries12:Nat) (chv_entries12:Ch) (g4:Nat) (v_out15_2:List Blob) (Av_out15_2:Option Addr) (nv_out15_2:Nat) (cv_out15_2:Nat) (chv_out15_2:Ch) (v_gone16:List ByteArray) (Av_gone16:Option Addr) (nv_gone16:Nat) (cv_gone16:Nat) (chv_gone16:Ch) ,SlOwn kEntry 51 H Av_entries12 cv_entries12 v_entries12 chv_entries12→SlOwn kBlob 47 H Av_out15_2 cv_out15_2 v_out15_2 chv_out15_2→nv_out15_2=v_out15_2.length→SlOwn Kd.string 9 H Av_gone16 cv_gone16 v_gone16 chv_gone16→nv_gone16=v_gone16.length→smithyardref7_Swept.e2 a0 v_entries12 v_out15_2 v_gone16=some r→RunH C43 (S43 F H0 r) H0 w0 [.c [1,1,1,1,1,1,1,1,1,1,1,1,1,0],.c [1,1,1,1,1,1,1,1,1,1,1,1,1,1]] [(6,pg g2 0),(15,pg g4 0),(16,.slice Av_gone16 nv_gone16 cv_gone16)] H (chv_out15_2::chv_gone16::(some (g4,.cells #[iv a0.Room,iv a0.Lease,.slice Av_out15_2 nv_out15_2 cv_out15_2,.slice Av_entries12 v_entries12.length cv_entries12] 25 (0,0)))::chv_entries12::(some (g2,.cells #[iv 0,iv 0,.slice none 0 0,.slice none 0 0] 25 (0,0)))::F):=by
 intro H a0 g2 v_entries12 Av_entries12 cv_entries12 chv_entries12 g4 v_out15_2 Av_out15_2 nv_out15_2 cv_out15_2 chv_out15_2 v_gone16 Av_gone16 nv_gone16 cv_gone16 chv_gone16 hov_entries12 hov_out15_2 hnv_out15_2 hov_gone16 hnv_gone16 heq
 subst hnv_out15_2
 subst hnv_gone16
 unfold smithyardref7_Swept.e2 at heq
 refine Rr<|Rv 2 [6,154,155] [iv a0.Room,iv a0.Lease,.slice Av_out15_2 v_out15_2.length cv_out15_2,.slice Av_entries12 v_entries12.length cv_entries12] [.load ⟨g4,0,none⟩ (iv a0.Room),.load ⟨g4,1,none⟩ (iv a0.Lease),.load ⟨g4,2,none⟩ (.slice Av_out15_2 v_out15_2.length cv_out15_2),.load ⟨g4,3,none⟩ (.slice Av_entries12 v_entries12.length cv_entries12)] [(6,pg g2 0),(154,.agg #[iv a0.Room,iv a0.Lease,.slice Av_out15_2 v_out15_2.length cv_out15_2,.slice Av_entries12 v_entries12.length cv_entries12]),(155,.slice Av_gone16 v_gone16.length cv_gone16)] (fun w hh=>⟨(hh.box 2 rfl rfl),(hh.box 2 rfl rfl),(hh.box 2 rfl rfl),(hh.box 2 rfl rfl)⟩) ?_
 refine RgH.does (DoesH.store (k:=4) (g:=g2) (off:=0) (v:=.agg #[iv a0.Room,iv a0.Lease,.slice Av_out15_2 v_out15_2.length cv_out15_2,.slice Av_entries12 v_entries12.length cv_entries12]) (cells':=#[iv a0.Room,iv a0.Lease,.slice Av_out15_2 v_out15_2.length cv_out15_2,.slice Av_entries12 v_entries12.length cv_entries12]) (by kernel_rfl) rfl (by kernel_rfl) (by kernel_rfl)) ?_
 rintro _ _ _ _ ⟨rfl,rfl,rfl⟩
 refine Rd 5 [6,7,8] [(6,pg g2 0),(7,.slice Av_gone16 v_gone16.length cv_gone16),(8,iv 0)] ?_
 obtain rfl:=Option.some.inj heq
 refine RunH.pick 5 [4,0,3,1] (cs':=(some (g2,.cells #[iv a0.Room,iv a0.Lease,.slice Av_out15_2 v_out15_2.length cv_out15_2,.slice Av_entries12 v_entries12.length cv_entries12] 25 (0,0)))::chv_out15_2::chv_entries12::chv_gone16::F) (by kernel_rfl) rfl ?_
 exact RunH.doneM' 1 (vs:=[.agg #[iv a0.Room,iv a0.Lease,.slice Av_out15_2 v_out15_2.length cv_out15_2,.slice Av_entries12 v_entries12.length cv_entries12],.slice Av_gone16 v_gone16.length cv_gone16,iv 0]) (v:=.tuple #[.agg #[iv a0.Room,iv a0.Lease,.slice Av_out15_2 v_out15_2.length cv_out15_2,.slice Av_entries12 v_entries12.length cv_entries12],.slice Av_gone16 v_gone16.length cv_gone16,iv 0]) (by kernel_rfl) Tryd.func43 (fun w hh=>show ResAll _ _ _ [.cell 6 25,.tmp 7,.tmp 8] _ from ⟨⟨⟨g2,0,none⟩,by kernel_rfl,trS_run _ (vs:=[iv a0.Room,iv a0.Lease,.slice Av_out15_2 v_out15_2.length cv_out15_2,.slice Av_entries12 v_entries12.length cv_entries12]) (r:=[]) (es:=[.load ⟨g2,0,none⟩ (iv a0.Room),.load ⟨g2,1,none⟩ (iv a0.Lease),.load ⟨g2,2,none⟩ (.slice Av_out15_2 v_out15_2.length cv_out15_2),.load ⟨g2,3,none⟩ (.slice Av_entries12 v_entries12.length cv_entries12)]) (by kernel_rfl) ⟨(hh.box 0 rfl rfl),(hh.box 0 rfl rfl),(hh.box 0 rfl rfl),(hh.box 0 rfl rfl)⟩⟩,(show lk _ _=some _ by kernel_rfl),(show lk _ _=some _ by kernel_rfl),trivial⟩) rfl (cs':=chv_out15_2::chv_entries12::chv_gone16::F) rfl ⟨Av_out15_2,cv_out15_2,chv_out15_2,Av_entries12,cv_entries12,chv_entries12,Av_gone16,cv_gone16,chv_gone16,rfl,rfl,hov_out15_2,hov_entries12,hov_gone16⟩
theorem smithyardref7_Swept.j4_c {w0:World} {H0:Hp} {F:List Ch} {r:Cache × (List ByteArray) × Int} (backl3:Cache→Int→Cache→(List Entry)→(List ByteArray)→(List Blob)→(List ByteArray)→Int→Option (Cache × (List ByteArray) × Int))
  (hbackl3:∀ (H:Hp) (a0:Cache) (a2:Int) (g2:Nat) (y4:Cache) (g3:Nat) (A1:Option Addr) (c1:Nat) (ch1:Ch) (A2:Option Addr) (c2:Nat) (ch2:Ch) (v_entries12:List Entry) (Av_entries12:Option Addr) (cv_entries12:Nat) (chv_entries12:Ch) (v_stay13:List ByteArray) (Av_stay13:Option Addr) (cv_stay13:Nat) (chv_stay13:Ch) (g4:Nat) (v_out15_2:List Blob) (Av_out15_2:Option Addr) (nv_out15_2:Nat) (cv_out15_2:Nat) (chv_out15_2:Ch) (v_gone16:List ByteArray) (Av_gone16:Option Addr) (nv_gone16:Nat) (cv_gone16:Nat) (chv_gone16:Ch) (v_i17:Int) ,SlOwn kBlob 47 H A1 c1 y4.Blobs ch1→SlOwn kEntry 51 H A2 c2 y4.Entries ch2→SlOwn kEntry 51 H Av_entries12 cv_entries12 v_entries12 chv_entries12→SlOwn Kd.string 9 H Av_stay13 cv_stay13 v_stay13 chv_stay13→SlOwn kBlob 47 H Av_out15_2 cv_out15_2 v_out15_2 chv_out15_2→nv_out15_2=v_out15_2.length→SlOwn Kd.string 9 H Av_gone16 cv_gone16 v_gone16 chv_gone16→nv_gone16=v_gone16.length→backl3 a0 a2 y4 v_entries12 v_stay13 v_out15_2 v_gone16 v_i17=some r→RunH C43 (S43 F H0 r) H0 w0 [.c [1,1,1,1,1,1,1,1,1,1,1,1,0,1,0,0],.l [1,1,1,1,1,1,1,1,1,1,1,1,0,1,0,0],.b 2,.c [1,1,1,1,1,1,1,1,1,1,1,1,1]] [(2,iv a2),(6,pg g2 0),(11,pg g3 0),(13,.slice Av_stay13 v_stay13.length cv_stay13),(15,pg g4 0),(16,.slice Av_gone16 nv_gone16 cv_gone16),(17,iv v_i17)] H (chv_out15_2::chv_gone16::(some (g4,.cells #[iv a0.Room,iv a0.Lease,.slice Av_out15_2 nv_out15_2 cv_out15_2,.slice Av_entries12 v_entries12.length cv_entries12] 25 (0,0)))::chv_entries12::chv_stay13::(some (g3,.cells #[iv y4.Room,iv y4.Lease,.slice A1 y4.Blobs.length c1,.slice A2 y4.Entries.length c2] 25 (0,0)))::ch1::ch2::(some (g2,.cells #[iv 0,iv 0,.slice none 0 0,.slice none 0 0] 25 (0,0)))::F)):∀ (H:Hp) (a0:Cache) (a2:Int) (g2:Nat) (y4:Cache) (g3:Nat) (A1:Option Addr) (c1:Nat) (ch1:Ch) (A2:Option Addr) (c2:Nat) (ch2:Ch) (v_entries12:List Entry) (Av_entries12:Option Addr) (cv_entries12:Nat) (chv_entries12:Ch) (v_stay13:List ByteArray) (Av_stay13:Option Addr) (cv_stay13:Nat) (chv_stay13:Ch) (g4:Nat) (v_i17:Int) (v_out15_2:List Blob) (Av_out15_2:Option Addr) (nv_out15_2:Nat) (cv_out15_2:Nat) (chv_out15_2:Ch) (v_gone16:List ByteArray) (Av_gone16:Option Addr) (nv_gone16:Nat) (cv_gone16:Nat) (chv_gone16:Ch) ,SlOwn kBlob 47 H A1 c1 y4.Blobs ch1→SlOwn kEntry 51 H A2 c2 y4.Entries ch2→SlOwn kEntry 51 H Av_entries12 cv_entries12 v_entries12 chv_entries12→SlOwn Kd.string 9 H Av_stay13 cv_stay13 v_stay13 chv_stay13→SlOwn kBlob 47 H Av_out15_2 cv_out15_2 v_out15_2 chv_out15_2→nv_out15_2=v_out15_2.length→SlOwn Kd.string 9 H Av_gone16 cv_gone16 v_gone16 chv_gone16→nv_gone16=v_gone16.length→smithyardref7_Swept.j4 backl3 a0 a2 y4 v_entries12 v_stay13 v_i17 v_out15_2 v_gone16=some r→RunH C43 (S43 F H0 r) H0 w0 [.c [1,1,1,1,1,1,1,1,1,1,1,1,0,1,0,0,1,1],.l [1,1,1,1,1,1,1,1,1,1,1,1,0,1,0,0],.b 2,.c [1,1,1,1,1,1,1,1,1,1,1,1,1]] [(2,iv a2),(6,pg g2 0),(11,pg g3 0),(13,.slice Av_stay13 v_stay13.length cv_stay13),(15,pg g4 0),(16,.slice Av_gone16 nv_gone16 cv_gone16),(17,iv v_i17)] H (chv_out15_2::chv_gone16::(some (g4,.cells #[iv a0.Room,iv a0.Lease,.slice Av_out15_2 nv_out15_2 cv_out15_2,.slice Av_entries12 v_entries12.length cv_entries12] 25 (0,0)))::chv_entries12::chv_stay13::(some (g3,.cells #[iv y4.Room,iv y4.Lease,.slice A1 y4.Blobs.length c1,.slice A2 y4.Entries.length c2] 25 (0,0)))::ch1::ch2::(some (g2,.cells #[iv 0,iv 0,.slice none 0 0,.slice none 0 0] 25 (0,0)))::F):=by
 intro H a0 a2 g2 y4 g3 A1 c1 ch1 A2 c2 ch2 v_entries12 Av_entries12 cv_entries12 chv_entries12 v_stay13 Av_stay13 cv_stay13 chv_stay13 g4 v_i17 v_out15_2 Av_out15_2 nv_out15_2 cv_out15_2 chv_out15_2 v_gone16 Av_gone16 nv_gone16 cv_gone16 chv_gone16 ho13 ho14 hov_entries12 hov_stay13 hov_out15_2 hnv_out15_2 hov_gone16 hnv_gone16 heq
 subst hnv_out15_2
 subst hnv_gone16
 unfold smithyardref7_Swept.j4 at heq
 refine Rr<|Rd 3 [2,6,11,13,15,16,17] [(2,iv a2),(6,pg g2 0),(11,pg g3 0),(13,.slice Av_stay13 v_stay13.length cv_stay13),(15,pg g4 0),(16,.slice Av_gone16 v_gone16.length cv_gone16),(17,iv (w64 (v_i17+1)))]<|Ad 1 [.c [1,1,1,1,1,1,1,1,1,1,1,1,0,1,0,0],.l [1,1,1,1,1,1,1,1,1,1,1,1,0,1,0,0],.b 2,.c [1,1,1,1,1,1,1,1,1,1,1,1,1]]<|Kp [2,6,11,13,15,16,17] [(2,iv a2),(6,pg g2 0),(11,pg g3 0),(13,.slice Av_stay13 v_stay13.length cv_stay13),(15,pg g4 0),(16,.slice Av_gone16 v_gone16.length cv_gone16),(17,iv (w64 (v_i17+1)))] ?_
 exact hbackl3 _ a0 a2 _ y4 _ _ _ _ _ _ _ v_entries12 _ _ _ v_stay13 _ _ _ _ v_out15_2 _ _ _ _ v_gone16 _ _ _ _ (w64 (v_i17+1)) ho13 ho14 hov_entries12 hov_stay13 hov_out15_2 rfl hov_gone16 rfl heq
theorem smithyardref7_Swept.l3_c {w0:World} {H0:Hp} {F:List Ch} {r:Cache × (List ByteArray) × Int} (e2:Cache→(List Entry)→(List Blob)→(List ByteArray)→Option (Cache × (List ByteArray) × Int))
  (he2:∀ (H:Hp) (a0:Cache) (g2:Nat) (v_entries12:List Entry) (Av_entries12:Option Addr) (cv_entries12:Nat) (chv_entries12:Ch) (g4:Nat) (v_out15_2:List Blob) (Av_out15_2:Option Addr) (nv_out15_2:Nat) (cv_out15_2:Nat) (chv_out15_2:Ch) (v_gone16:List ByteArray) (Av_gone16:Option Addr) (nv_gone16:Nat) (cv_gone16:Nat) (chv_gone16:Ch) ,SlOwn kEntry 51 H Av_entries12 cv_entries12 v_entries12 chv_entries12→SlOwn kBlob 47 H Av_out15_2 cv_out15_2 v_out15_2 chv_out15_2→nv_out15_2=v_out15_2.length→SlOwn Kd.string 9 H Av_gone16 cv_gone16 v_gone16 chv_gone16→nv_gone16=v_gone16.length→e2 a0 v_entries12 v_out15_2 v_gone16=some r→RunH C43 (S43 F H0 r) H0 w0 [.c [1,1,1,1,1,1,1,1,1,1,1,1,1,0],.c [1,1,1,1,1,1,1,1,1,1,1,1,1,1]] [(6,pg g2 0),(15,pg g4 0),(16,.slice Av_gone16 nv_gone16 cv_gone16)] H (chv_out15_2::chv_gone16::(some (g4,.cells #[iv a0.Room,iv a0.Lease,.slice Av_out15_2 nv_out15_2 cv_out15_2,.slice Av_entries12 v_entries12.length cv_entries12] 25 (0,0)))::chv_entries12::(some (g2,.cells #[iv 0,iv 0,.slice none 0 0,.slice none 0 0] 25 (0,0)))::F)):∀ (k:Nat),∀ (H:Hp) (a0:Cache) (a2:Int) (g2:Nat) (y4:Cache) (g3:Nat) (A1:Option Addr) (c1:Nat) (ch1:Ch) (A2:Option Addr) (c2:Nat) (ch2:Ch) (v_entries12:List Entry) (Av_entries12:Option Addr) (cv_entries12:Nat) (chv_entries12:Ch) (v_stay13:List ByteArray) (Av_stay13:Option Addr) (cv_stay13:Nat) (chv_stay13:Ch) (g4:Nat) (v_out15_2:List Blob) (Av_out15_2:Option Addr) (nv_out15_2:Nat) (cv_out15_2:Nat) (chv_out15_2:Ch) (v_gone16:List ByteArray) (Av_gone16:Option Addr) (nv_gone16:Nat) (cv_gone16:Nat) (chv_gone16:Ch) (v_i17:Int) ,SlOwn kBlob 47 H A1 c1 y4.Blobs ch1→SlOwn kEntry 51 H A2 c2 y4.Entries ch2→SlOwn kEntry 51 H Av_entries12 cv_entries12 v_entries12 chv_entries12→SlOwn Kd.string 9 H Av_stay13 cv_stay13 v_stay13 chv_stay13→SlOwn kBlob 47 H Av_out15_2 cv_out15_2 v_out15_2 chv_out15_2→nv_out15_2=v_out15_2.length→SlOwn Kd.string 9 H Av_gone16 cv_gone16 v_gone16 chv_gone16→nv_gone16=v_gone16.length→smithyardref7_Swept.l3 e2 k a0 a2 y4 v_entries12 v_stay13 v_out15_2 v_gone16 v_i17=some r→RunH C43 (S43 F H0 r) H0 w0 [.c [1,1,1,1,1,1,1,1,1,1,1,1,0,1,0,0],.l [1,1,1,1,1,1,1,1,1,1,1,1,0,1,0,0],.b 2,.c [1,1,1,1,1,1,1,1,1,1,1,1,1]] [(2,iv a2),(6,pg g2 0),(11,pg g3 0),(13,.slice Av_stay13 v_stay13.length cv_stay13),(15,pg g4 0),(16,.slice Av_gone16 nv_gone16 cv_gone16),(17,iv v_i17)] H (chv_out15_2::chv_gone16::(some (g4,.cells #[iv a0.Room,iv a0.Lease,.slice Av_out15_2 nv_out15_2 cv_out15_2,.slice Av_entries12 v_entries12.length cv_entries12] 25 (0,0)))::chv_entries12::chv_stay13::(some (g3,.cells #[iv y4.Room,iv y4.Lease,.slice A1 y4.Blobs.length c1,.slice A2 y4.Entries.length c2] 25 (0,0)))::ch1::ch2::(some (g2,.cells #[iv 0,iv 0,.slice none 0 0,.slice none 0 0] 25 (0,0)))::F):=by
 intro k
 induction k with
 | zero=>intro H a0 a2 g2 y4 g3 A1 c1 ch1 A2 c2 ch2 v_entries12 Av_entries12 cv_entries12 chv_entries12 v_stay13 Av_stay13 cv_stay13 chv_stay13 g4 v_out15_2 Av_out15_2 nv_out15_2 cv_out15_2 chv_out15_2 v_gone16 Av_gone16 nv_gone16 cv_gone16 chv_gone16 v_i17 ho13 ho14 hov_entries12 hov_stay13 hov_out15_2 hnv_out15_2 hov_gone16 hnv_gone16 heq; exact nomatch (show (none:Option (Cache × (List ByteArray) × Int))=some r from heq)
 | succ k ihk =>
  intro H a0 a2 g2 y4 g3 A1 c1 ch1 A2 c2 ch2 v_entries12 Av_entries12 cv_entries12 chv_entries12 v_stay13 Av_stay13 cv_stay13 chv_stay13 g4 v_out15_2 Av_out15_2 nv_out15_2 cv_out15_2 chv_out15_2 v_gone16 Av_gone16 nv_gone16 cv_gone16 chv_gone16 v_i17 ho13 ho14 hov_entries12 hov_stay13 hov_out15_2 hnv_out15_2 hov_gone16 hnv_gone16 heq
  subst hnv_out15_2
  subst hnv_gone16
  rw [smithyardref7_Swept.l3] at heq
  refine Ra 2 [1,1,1,1,1,1,1,1,1,1,1,1,0,1,0,0,0,0] [.c [1,1,1,1,1,1,1,1,1,1,1,1,0,1,0,0,0,1],.c [1,1,1,1,1,1,1,1,1,1,1,1,0,1,0,0,1],.l [1,1,1,1,1,1,1,1,1,1,1,1,0,1,0,0],.b 2,.c [1,1,1,1,1,1,1,1,1,1,1,1,1]]<|Rw' 7 [2,6,11,13,15,16,17,107] [.slice A1 y4.Blobs.length c1] [.load ⟨g3,2,none⟩ (.slice A1 y4.Blobs.length c1)] [(2,iv a2),(6,pg g2 0),(11,pg g3 0),(13,.slice Av_stay13 v_stay13.length cv_stay13),(15,pg g4 0),(16,.slice Av_gone16 v_gone16.length cv_gone16),(17,iv v_i17),(107,.bool (decide (v_i17<(y4.Blobs.length:Int))))] (fun w hh=>(hh.box 5 rfl rfl)) ?_
  rcases bool_cases (decide (v_i17<(y4.Blobs.length:Int))) with hb5 | hb5
  ·replace heq:=bif_true hb5 heq
   refine Ct (decide (v_i17<(y4.Blobs.length:Int))) hb5<|Ad 4 [.c [1,1,1,1,1,1,1,1,1,1,1,1,0,1,0,0,1,0,0,0],.c [1,1,1,1,1,1,1,1,1,1,1,1,0,1,0,0,1,0,0,1],.b 3,.c [1,1,1,1,1,1,1,1,1,1,1,1,0,1,0,0,1,1],.l [1,1,1,1,1,1,1,1,1,1,1,1,0,1,0,0],.b 2,.c [1,1,1,1,1,1,1,1,1,1,1,1,1]] ?_
   obtain ⟨t1,ht1,heq⟩:=bind_some heq
   have K26:∀ (H:Hp),SlOwn kBlob 47 H A1 c1 y4.Blobs ch1→SlOwn kEntry 51 H A2 c2 y4.Entries ch2→SlOwn kEntry 51 H Av_entries12 cv_entries12 v_entries12 chv_entries12→SlOwn Kd.string 9 H Av_stay13 cv_stay13 v_stay13 chv_stay13→SlOwn kBlob 47 H Av_out15_2 cv_out15_2 v_out15_2 chv_out15_2→SlOwn Kd.string 9 H Av_gone16 cv_gone16 v_gone16 chv_gone16→RunH C43 (S43 F H0 r) H0 w0 [.c [1,1,1,1,1,1,1,1,1,1,1,1,0,1,0,0,1,0,0,1],.b 3,.c [1,1,1,1,1,1,1,1,1,1,1,1,0,1,0,0,1,1],.l [1,1,1,1,1,1,1,1,1,1,1,1,0,1,0,0],.b 2,.c [1,1,1,1,1,1,1,1,1,1,1,1,1]] [(2,iv a2),(6,pg g2 0),(11,pg g3 0),(13,.slice Av_stay13 v_stay13.length cv_stay13),(15,pg g4 0),(16,.slice Av_gone16 v_gone16.length cv_gone16),(17,iv v_i17),(130,.bool t1)] H (chv_out15_2::chv_gone16::(some (g4,.cells #[iv a0.Room,iv a0.Lease,.slice Av_out15_2 v_out15_2.length cv_out15_2,.slice Av_entries12 v_entries12.length cv_entries12] 25 (0,0)))::chv_entries12::chv_stay13::(some (g3,.cells #[iv y4.Room,iv y4.Lease,.slice A1 y4.Blobs.length c1,.slice A2 y4.Entries.length c2] 25 (0,0)))::ch1::ch2::(some (g2,.cells #[iv 0,iv 0,.slice none 0 0,.slice none 0 0] 25 (0,0)))::F):=by
    intro H ho13 ho14 hov_entries12 hov_stay13 hov_out15_2 hov_gone16
    rcases bool_cases (t1) with hb7 | hb7
    ·replace heq:=bif_true hb7 heq
     refine Ct t1 hb7<|Kp [2,6,11,13,15,16,17] [(2,iv a2),(6,pg g2 0),(11,pg g3 0),(13,.slice Av_stay13 v_stay13.length cv_stay13),(15,pg g4 0),(16,.slice Av_gone16 v_gone16.length cv_gone16),(17,iv v_i17)] ?_
     refine RunH.draw (fun w=>Heap H w0 w (chv_out15_2::chv_gone16::(some (g4,.cells #[iv a0.Room,iv a0.Lease,.slice Av_out15_2 v_out15_2.length cv_out15_2,.slice Av_entries12 v_entries12.length cv_entries12] 25 (0,0)))::chv_entries12::chv_stay13::(some (g3,.cells #[iv y4.Room,iv y4.Lease,.slice A1 y4.Blobs.length c1,.slice A2 y4.Entries.length c2] 25 (0,0)))::ch1::ch2::(some (g2,.cells #[iv 0,iv 0,.slice none 0 0,.slice none 0 0] 25 (0,0)))::F)) (fun w=>Heap H w0 w (chv_gone16::(some (g4,.cells #[iv a0.Room,iv a0.Lease,.slice Av_out15_2 v_out15_2.length cv_out15_2,.slice Av_entries12 v_entries12.length cv_entries12] 25 (0,0)))::chv_entries12::chv_stay13::(some (g3,.cells #[iv y4.Room,iv y4.Lease,.slice A1 y4.Blobs.length c1,.slice A2 y4.Entries.length c2] 25 (0,0)))::ch1::ch2::(some (g2,.cells #[iv 0,iv 0,.slice none 0 0,.slice none 0 0] 25 (0,0)))::F)) [3,3,3,3,3,3,3,3,3,0,1,3,2] (n:=13) (ls:=[false,false,false,false,false,false,false,false,false,false,false,false,false]) (by kernel_rfl) (by kernel_rfl) (by kernel_rfl) rfl ?_
     refine De [0] 12 (nb 13 1) [] [] [2,6,11,13,15,16,17,131] [(2,iv a2),(6,pg g2 0),(11,pg g3 0),(13,.slice Av_stay13 v_stay13.length cv_stay13),(15,pg g4 0),(16,.slice Av_gone16 v_gone16.length cv_gone16),(17,iv v_i17),(131,pg g4 2)] (Pk 9 [1,2,3,4,5,6,7,8]) (fun _ _=>trivial)<|Dk [1] 11 (nb 13 3) [.slice Av_out15_2 v_out15_2.length cv_out15_2] [.load ⟨g4,2,none⟩ (.slice Av_out15_2 v_out15_2.length cv_out15_2)] [2,6,11,13,15,16,17,132] [(2,iv a2),(6,pg g2 0),(11,pg g3 0),(13,.slice Av_stay13 v_stay13.length cv_stay13),(15,pg g4 0),(16,.slice Av_gone16 v_gone16.length cv_gone16),(17,iv v_i17),(132,.slice Av_out15_2 v_out15_2.length cv_out15_2)] (Pk 9 [0,1,2,3,4,5,6,7,8]) (Pk 9 [1,2,3,4,5,6,7,8]) (fun w hh=>(hh.box 2 rfl rfl)) ?_
     obtain ⟨x2,hx2,heq⟩:=bind_some heq
     obtain ⟨ha3,cs3,hK3,hcc3⟩:=ho13.get hx2
     obtain ⟨rfl⟩:=kBlob_open hK3
     refine De [2,3,4,5,6,7,8] 4 (nb 13 511) [.slice A1 y4.Blobs.length c1,.string x2.Digest,iv x2.Size,iv x2.Used,iv x2.Until,iv x2.Pins] [.load ⟨g3,2,none⟩ (.slice A1 y4.Blobs.length c1),.need (A1=some (adr A1)∧(0:Int)≤v_i17∧v_i17<((y4.Blobs.length:Nat):Int)),.load (((adr A1).add (v_i17.toNat*5)).add 0) (.string x2.Digest),.load (((adr A1).add (v_i17.toNat*5)).add 1) (iv x2.Size),.load (((adr A1).add (v_i17.toNat*5)).add 2) (iv x2.Used),.load (((adr A1).add (v_i17.toNat*5)).add 3) (iv x2.Until),.load (((adr A1).add (v_i17.toNat*5)).add 4) (iv x2.Pins)] [2,6,11,13,15,16,17,132,139] [(2,iv a2),(6,pg g2 0),(11,pg g3 0),(13,.slice Av_stay13 v_stay13.length cv_stay13),(15,pg g4 0),(16,.slice Av_gone16 v_gone16.length cv_gone16),(17,iv v_i17),(132,.slice Av_out15_2 v_out15_2.length cv_out15_2),(139,.agg #[.string x2.Digest,iv x2.Size,iv x2.Used,iv x2.Until,iv x2.Pins])] (Pk 9 [1,2,3,4,5,6,7,8]) (fun w hh=>⟨(hh.box 4 rfl rfl),⟨ha3,(at?_some hx2).1,(at?_some hx2).2.1⟩,(hcc3 _ (hh.chin 5 rfl) 0 _ rfl),(hcc3 _ (hh.chin 5 rfl) 1 _ rfl),(hcc3 _ (hh.chin 5 rfl) 2 _ rfl),(hcc3 _ (hh.chin 5 rfl) 3 _ rfl),(hcc3 _ (hh.chin 5 rfl) 4 _ rfl)⟩) ?_
     refine DrH.does (n:=3) (ls':=[true,true,true,true,true,true,true,true,true,true,false,false,false]) 9 (by kernel_rfl) rfl (DoesH.new (d:=140) (v:=fun g=>.slice (some ⟨g,0,none⟩) 1 1) (o:=fun g=>.cells #[.string x2.Digest,iv x2.Size,iv x2.Used,iv x2.Until,iv x2.Pins] 47 (0,0)) (fun g=>by kernel_rfl)) ?_
     rintro _ _ _ _ ⟨g5,rfl,rfl,rfl⟩
     have ho17:SlOwn kBlob 47 H (some ⟨g5,0,none⟩) 1 ([x2]:List Blob) (some (g5,.cells #[.string x2.Digest,iv x2.Size,iv x2.Used,iv x2.Until,iv x2.Pins] 47 (0,0))):=SlOwn.lit (xs:=([x2]:List Blob)) (by kernel_rfl) (Nat.le_of_ble_eq_true (by kernel_rfl)) (Kd.Rep.one kBlob_mk)
     refine ⟨fun _ w hh=>⟨fun _=>(Pk 10 [1,2,3,4,5,6,7,8,9]) w hh,fun _=>(Pk 10 [2,3,4,5,6,7,8,9]) w hh,(fun h=>by cases h)⟩,?_⟩
     refine Kr [2,6,11,13,15,16,17,132,140] [(2,iv a2),(6,pg g2 0),(11,pg g3 0),(13,.slice Av_stay13 v_stay13.length cv_stay13),(15,pg g4 0),(16,.slice Av_gone16 v_gone16.length cv_gone16),(17,iv v_i17),(132,.slice Av_out15_2 v_out15_2.length cv_out15_2),(140,.slice (some ⟨g5,0,none⟩) 1 1)] ?_
     obtain ⟨hn2,heq⟩:=guard?_some heq
     refine DrH.does (n:=2) (ls':=[true,true,true,true,true,true,true,true,true,true,true,false,false]) 10 (by kernel_rfl) rfl (DoesH.append (d:=141) (k:=1) (t:=22) (e:=47) (bytes:=48) (kd:=kBlob) (n:=v_out15_2.length) (m:=1) (xs:=v_out15_2) (ys:=([x2]:List Blob)) (A:=Av_out15_2) (B:=(some ⟨g5,0,none⟩)) (c:=cv_out15_2) (cB:=1) (by kernel_rfl) rfl rfl (by kernel_rfl) rfl hov_out15_2 (fun w hh=>ho17.rdb (hh.chin 0 rfl)) (room_le hn2) (by have:=room_le hn2; omega)) ?_
     rintro _ _ _ _ ⟨A4,c4,ch4,rfl,rfl,rfl,ho18⟩
     refine ⟨fun _ w hh=>⟨(fun h=>by cases h),fun _=>(Pk 10 [2,3,4,5,6,7,8,9]) w hh,(fun h=>by cases h)⟩,?_⟩
     refine Kr [141,2,6,11,13,15,16,17,140] [(141,.slice A4 ((v_out15_2++([x2]:List Blob)).length) c4),(2,iv a2),(6,pg g2 0),(11,pg g3 0),(13,.slice Av_stay13 v_stay13.length cv_stay13),(15,pg g4 0),(16,.slice Av_gone16 v_gone16.length cv_gone16),(17,iv v_i17),(140,.slice (some ⟨g5,0,none⟩) 1 1)]<|De [11] 1 (nb 13 4095) [] [] [2,6,11,13,15,16,17,141,142] [(2,iv a2),(6,pg g2 0),(11,pg g3 0),(13,.slice Av_stay13 v_stay13.length cv_stay13),(15,pg g4 0),(16,.slice Av_gone16 v_gone16.length cv_gone16),(17,iv v_i17),(141,.slice A4 ((v_out15_2++([x2]:List Blob)).length) c4),(142,pg g4 2)] (Pk 10 [2,3,4,5,6,7,8,9]) (fun _ _=>trivial) ?_
     refine DrH.does (n:=0) (ls':=[true,true,true,true,true,true,true,true,true,true,true,true,true]) 12 (by kernel_rfl) rfl (DoesH.store (k:=3) (g:=g4) (off:=2) (v:=.slice A4 ((v_out15_2++([x2]:List Blob)).length) c4) (cells':=#[iv a0.Room,iv a0.Lease,.slice A4 ((v_out15_2++([x2]:List Blob)).length) c4,.slice Av_entries12 v_entries12.length cv_entries12]) (by kernel_rfl) rfl (by kernel_rfl) (by kernel_rfl)) ?_
     rintro _ _ _ _ ⟨rfl,rfl,rfl⟩
     refine ⟨fun _ w hh=>⟨(fun h=>by cases h),(fun h=>absurd h (by decide)),(fun h=>by cases h)⟩,?_⟩
     refine Kr [2,6,11,13,15,16,17] [(2,iv a2),(6,pg g2 0),(11,pg g3 0),(13,.slice Av_stay13 v_stay13.length cv_stay13),(15,pg g4 0),(16,.slice Av_gone16 v_gone16.length cv_gone16),(17,iv v_i17)] ?_
     refine DrH.done (by kernel_rfl) ?_
     refine Ad 1 [.c [1,1,1,1,1,1,1,1,1,1,1,1,0,1,0,0,1,1],.l [1,1,1,1,1,1,1,1,1,1,1,1,0,1,0,0],.b 2,.c [1,1,1,1,1,1,1,1,1,1,1,1,1]]<|Kp [2,6,11,13,15,16,17] [(2,iv a2),(6,pg g2 0),(11,pg g3 0),(13,.slice Av_stay13 v_stay13.length cv_stay13),(15,pg g4 0),(16,.slice Av_gone16 v_gone16.length cv_gone16),(17,iv v_i17)] ?_
     refine RunH.pick 10 [1,2,3,4,5,6,7,8,9] (cs':=ch4::chv_gone16::(some (g4,.cells #[iv a0.Room,iv a0.Lease,.slice A4 ((v_out15_2++([x2]:List Blob)).length) c4,.slice Av_entries12 v_entries12.length cv_entries12] 25 (0,0)))::chv_entries12::chv_stay13::(some (g3,.cells #[iv y4.Room,iv y4.Lease,.slice A1 y4.Blobs.length c1,.slice A2 y4.Entries.length c2] 25 (0,0)))::ch1::ch2::(some (g2,.cells #[iv 0,iv 0,.slice none 0 0,.slice none 0 0] 25 (0,0)))::F) (by kernel_rfl) rfl ?_
     exact (smithyardref7_Swept.j4_c (backl3:=(smithyardref7_Swept.l3 e2 k)) ihk) _ a0 a2 _ y4 _ _ _ _ _ _ _ v_entries12 _ _ _ v_stay13 _ _ _ _ v_i17 (v_out15_2++([x2]:List Blob)) _ _ _ _ v_gone16 _ _ _ _ ho13 ho14 hov_entries12 hov_stay13 ho18 rfl hov_gone16 rfl heq
    ·replace heq:=bif_false hb7 heq
     refine Cf t1 hb7<|Rr ?_
     obtain ⟨x3,hx3,heq⟩:=bind_some heq
     obtain ⟨ha4,cs4,hK4,hcc4⟩:=ho13.get hx3
     obtain ⟨rfl⟩:=kBlob_open hK4
     refine Rv 9 [2,6,11,13,15,17,143,151] [.slice A1 y4.Blobs.length c1,.string x3.Digest] [.load ⟨g3,2,none⟩ (.slice A1 y4.Blobs.length c1),.need (A1=some (adr A1)∧(0:Int)≤v_i17∧v_i17<((y4.Blobs.length:Nat):Int)),.load (((adr A1).add (v_i17.toNat*5)).add 0) (.string x3.Digest)] [(2,iv a2),(6,pg g2 0),(11,pg g3 0),(13,.slice Av_stay13 v_stay13.length cv_stay13),(15,pg g4 0),(17,iv v_i17),(143,.slice Av_gone16 v_gone16.length cv_gone16),(151,.string x3.Digest)] (fun w hh=>⟨(hh.box 5 rfl rfl),⟨ha4,(at?_some hx3).1,(at?_some hx3).2.1⟩,(hcc4 _ (hh.chin 6 rfl) 0 _ rfl)⟩) ?_
     refine RgH.does (DoesH.new (d:=152) (v:=fun g=>.slice (some ⟨g,0,none⟩) 1 1) (o:=fun g=>.cells #[.string x3.Digest] 9 (0,0)) (fun g=>by kernel_rfl)) ?_
     rintro _ _ _ _ ⟨g6,rfl,rfl,rfl⟩
     have ho19:SlOwn Kd.string 9 H (some ⟨g6,0,none⟩) 1 ([x3.Digest]:List ByteArray) (some (g6,.cells #[.string x3.Digest] 9 (0,0))):=SlOwn.lit (xs:=([x3.Digest]:List ByteArray)) (by kernel_rfl) (Nat.le_of_ble_eq_true (by kernel_rfl)) (Kd.Rep.scalars rfl)
     obtain ⟨hn3,heq⟩:=guard?_some heq
     refine RgH.does (DoesH.append (d:=153) (k:=2) (t:=34) (e:=9) (bytes:=16) (kd:=Kd.string) (n:=v_gone16.length) (m:=1) (xs:=v_gone16) (ys:=([x3.Digest]:List ByteArray)) (A:=Av_gone16) (B:=(some ⟨g6,0,none⟩)) (c:=cv_gone16) (cB:=1) (by kernel_rfl) rfl rfl (by kernel_rfl) rfl hov_gone16 (fun w hh=>ho19.rdb (hh.chin 0 rfl)) (room_le hn3) (by have:=room_le hn3; omega)) ?_
     rintro _ _ _ _ ⟨A5,c5,ch5,rfl,rfl,rfl,ho20⟩
     refine Rd 12 [2,6,11,13,15,16,17] [(2,iv a2),(6,pg g2 0),(11,pg g3 0),(13,.slice Av_stay13 v_stay13.length cv_stay13),(15,pg g4 0),(16,.slice A5 ((v_gone16++([x3.Digest]:List ByteArray)).length) c5),(17,iv v_i17)]<|Ad 1 [.c [1,1,1,1,1,1,1,1,1,1,1,1,0,1,0,0,1,1],.l [1,1,1,1,1,1,1,1,1,1,1,1,0,1,0,0],.b 2,.c [1,1,1,1,1,1,1,1,1,1,1,1,1]]<|Kp [2,6,11,13,15,16,17] [(2,iv a2),(6,pg g2 0),(11,pg g3 0),(13,.slice Av_stay13 v_stay13.length cv_stay13),(15,pg g4 0),(16,.slice A5 ((v_gone16++([x3.Digest]:List ByteArray)).length) c5),(17,iv v_i17)] ?_
     refine RunH.pick 10 [1,2,3,4,5,6,7,8,9] (cs':=chv_out15_2::ch5::(some (g4,.cells #[iv a0.Room,iv a0.Lease,.slice Av_out15_2 v_out15_2.length cv_out15_2,.slice Av_entries12 v_entries12.length cv_entries12] 25 (0,0)))::chv_entries12::chv_stay13::(some (g3,.cells #[iv y4.Room,iv y4.Lease,.slice A1 y4.Blobs.length c1,.slice A2 y4.Entries.length c2] 25 (0,0)))::ch1::ch2::(some (g2,.cells #[iv 0,iv 0,.slice none 0 0,.slice none 0 0] 25 (0,0)))::F) (by kernel_rfl) rfl ?_
     exact (smithyardref7_Swept.j4_c (backl3:=(smithyardref7_Swept.l3 e2 k)) ihk) _ a0 a2 _ y4 _ _ _ _ _ _ _ v_entries12 _ _ _ v_stay13 _ _ _ _ v_i17 v_out15_2 _ _ _ _ (v_gone16++([x3.Digest]:List ByteArray)) _ _ _ _ ho13 ho14 hov_entries12 hov_stay13 hov_out15_2 rfl ho20 rfl heq
   replace heq:=ht1
   refine Rr ?_
   obtain ⟨x1,hx1,heq⟩:=bind_some heq
   obtain ⟨ha1,cs1,hK1,hcc1⟩:=ho13.get hx1
   obtain ⟨rfl⟩:=kBlob_open hK1
   refine Rv 8 [2,6,11,13,15,16,17,116,117] [.slice A1 y4.Blobs.length c1,.string x1.Digest,iv x1.Size,iv x1.Used,iv x1.Until,iv x1.Pins] [.load ⟨g3,2,none⟩ (.slice A1 y4.Blobs.length c1),.need (A1=some (adr A1)∧(0:Int)≤v_i17∧v_i17<((y4.Blobs.length:Nat):Int)),.load (((adr A1).add (v_i17.toNat*5)).add 0) (.string x1.Digest),.load (((adr A1).add (v_i17.toNat*5)).add 1) (iv x1.Size),.load (((adr A1).add (v_i17.toNat*5)).add 2) (iv x1.Used),.load (((adr A1).add (v_i17.toNat*5)).add 3) (iv x1.Until),.load (((adr A1).add (v_i17.toNat*5)).add 4) (iv x1.Pins)] [(2,iv a2),(6,pg g2 0),(11,pg g3 0),(13,.slice Av_stay13 v_stay13.length cv_stay13),(15,pg g4 0),(16,.slice Av_gone16 v_gone16.length cv_gone16),(17,iv v_i17),(116,.agg #[.string x1.Digest,iv x1.Size,iv x1.Used,iv x1.Until,iv x1.Pins]),(117,iv a2)] (fun w hh=>⟨(hh.box 5 rfl rfl),⟨ha1,(at?_some hx1).1,(at?_some hx1).2.1⟩,(hcc1 _ (hh.chin 6 rfl) 0 _ rfl),(hcc1 _ (hh.chin 6 rfl) 1 _ rfl),(hcc1 _ (hh.chin 6 rfl) 2 _ rfl),(hcc1 _ (hh.chin 6 rfl) 3 _ rfl),(hcc1 _ (hh.chin 6 rfl) 4 _ rfl)⟩) ?_
   obtain ⟨y5,hy5,heq⟩:=bind_some heq
   refine RgH.does (DoesH.call (d:=118) (g:=90) (args:=#[.agg #[.string x1.Digest,iv x1.Size,iv x1.Used,iv x1.Until,iv x1.Pins],iv a2]) (by kernel_rfl) (smithyardref7_held_c (a0:=x1) (a1:=a2)  hy5)) ?_
   rintro _ _ _ _ ⟨_,rfl,rfl,rfl,rfl⟩
   refine Rk 10 [119,2,6,11,13,15,16,17] [(119,.bool y5),(2,iv a2),(6,pg g2 0),(11,pg g3 0),(13,.slice Av_stay13 v_stay13.length cv_stay13),(15,pg g4 0),(16,.slice Av_gone16 v_gone16.length cv_gone16),(17,iv v_i17)] ?_
   rcases bool_cases (y5) with hb6 | hb6
   ·replace heq:=bif_true hb6 heq
    refine RgH.val1 (v':=.bool true) (congrArg Value.bool hb6) ?_
    refine Rk 21 [2,6,11,13,15,16,17,130] [(2,iv a2),(6,pg g2 0),(11,pg g3 0),(13,.slice Av_stay13 v_stay13.length cv_stay13),(15,pg g4 0),(16,.slice Av_gone16 v_gone16.length cv_gone16),(17,iv v_i17),(130,.bool true)] ?_
    obtain rfl:=Option.some.inj heq
    refine Kg [2,6,11,13,15,16,17,130] [(2,iv a2),(6,pg g2 0),(11,pg g3 0),(13,.slice Av_stay13 v_stay13.length cv_stay13),(15,pg g4 0),(16,.slice Av_gone16 v_gone16.length cv_gone16),(17,iv v_i17),(130,.bool true)]<|Dn ?_
    exact K26 _ ho13 ho14 hov_entries12 hov_stay13 hov_out15_2 hov_gone16
   ·replace heq:=bif_false hb6 heq
    refine RgH.val1 (v':=.bool false) (congrArg Value.bool hb6) ?_
    obtain ⟨ha2,cs2,hK2,hcc2⟩:=ho13.get hx1
    obtain ⟨rfl⟩:=kBlob_open hK2
    refine Rv 19 [2,6,11,13,15,16,17,119,120,128] [.slice A1 y4.Blobs.length c1,.string x1.Digest] [.load ⟨g3,2,none⟩ (.slice A1 y4.Blobs.length c1),.need (A1=some (adr A1)∧(0:Int)≤v_i17∧v_i17<((y4.Blobs.length:Nat):Int)),.load (((adr A1).add (v_i17.toNat*5)).add 0) (.string x1.Digest)] [(2,iv a2),(6,pg g2 0),(11,pg g3 0),(13,.slice Av_stay13 v_stay13.length cv_stay13),(15,pg g4 0),(16,.slice Av_gone16 v_gone16.length cv_gone16),(17,iv v_i17),(119,.bool false),(120,.slice Av_stay13 v_stay13.length cv_stay13),(128,.string x1.Digest)] (fun w hh=>⟨(hh.box 5 rfl rfl),⟨ha2,(at?_some hx1).1,(at?_some hx1).2.1⟩,(hcc2 _ (hh.chin 6 rfl) 0 _ rfl)⟩) ?_
    obtain ⟨y6,hy6,heq⟩:=bind_some heq
    refine RgH.does (DoesH.call (d:=129) (g:=89) (args:=#[.slice Av_stay13 v_stay13.length cv_stay13,.string x1.Digest]) (by kernel_rfl) (smithyardref7_has_c (a0:=v_stay13) (a1:=x1.Digest) (hov_stay13.rw (.tail _ (.tail _ (.tail _ (.tail _ (.head _)))))) hov_stay13.cap rfl hy6)) ?_
    rintro _ _ _ _ ⟨_,rfl,rfl,rfl,rfl⟩
    refine Rk 21 [2,6,11,13,15,16,17,130] [(2,iv a2),(6,pg g2 0),(11,pg g3 0),(13,.slice Av_stay13 v_stay13.length cv_stay13),(15,pg g4 0),(16,.slice Av_gone16 v_gone16.length cv_gone16),(17,iv v_i17),(130,.bool y6)] ?_
    obtain rfl:=Option.some.inj heq
    refine Kg [2,6,11,13,15,16,17,130] [(2,iv a2),(6,pg g2 0),(11,pg g3 0),(13,.slice Av_stay13 v_stay13.length cv_stay13),(15,pg g4 0),(16,.slice Av_gone16 v_gone16.length cv_gone16),(17,iv v_i17),(130,.bool y6)]<|Dn ?_
    exact K26 _ ho13 ho14 hov_entries12 hov_stay13 hov_out15_2 hov_gone16
  ·replace heq:=bif_false hb5 heq
   refine Cf (decide (v_i17<(y4.Blobs.length:Int))) hb5<|Ad 2 [.c [1,1,1,1,1,1,1,1,1,1,1,1,1,0],.c [1,1,1,1,1,1,1,1,1,1,1,1,1,1]]<|Kp [6,15,16] [(6,pg g2 0),(15,pg g4 0),(16,.slice Av_gone16 v_gone16.length cv_gone16)] ?_
   refine RunH.pick 9 [0,1,2,3,8] (cs':=chv_out15_2::chv_gone16::(some (g4,.cells #[iv a0.Room,iv a0.Lease,.slice Av_out15_2 v_out15_2.length cv_out15_2,.slice Av_entries12 v_entries12.length cv_entries12] 25 (0,0)))::chv_entries12::(some (g2,.cells #[iv 0,iv 0,.slice none 0 0,.slice none 0 0] 25 (0,0)))::F) (by kernel_rfl) rfl ?_
   exact he2 _ a0 _ v_entries12 _ _ _ _ v_out15_2 _ _ _ _ v_gone16 _ _ _ _ hov_entries12 hov_out15_2 rfl hov_gone16 rfl heq
theorem smithyardref7_Swept.e1_c {w0:World} {H0:Hp} {F:List Ch} {r:Cache × (List ByteArray) × Int}:∀ (H:Hp) (a0:Cache) (Aa0_2:Option Addr) (ca0_2:Nat) (Aa0_3:Option Addr) (ca0_3:Nat) (a2:Int) (g1:Nat) (g2:Nat) (y4:Cache) (g3:Nat) (A1:Option Addr) (c1:Nat) (ch1:Ch) (A2:Option Addr) (c2:Nat) (ch2:Ch) (v_entries12:List Entry) (Av_entries12:Option Addr) (nv_entries12:Nat) (cv_entries12:Nat) (chv_entries12:Ch) (v_stay13:List ByteArray) (Av_stay13:Option Addr) (nv_stay13:Nat) (cv_stay13:Nat) (chv_stay13:Ch) ,Rw kBlob H F Aa0_2 a0.Blobs→a0.Blobs.length≤ca0_2→Rw kEntry H F Aa0_3 a0.Entries→a0.Entries.length≤ca0_3→SlOwn kBlob 47 H A1 c1 y4.Blobs ch1→SlOwn kEntry 51 H A2 c2 y4.Entries ch2→SlOwn kEntry 51 H Av_entries12 cv_entries12 v_entries12 chv_entries12→nv_entries12=v_entries12.length→SlOwn Kd.string 9 H Av_stay13 cv_stay13 v_stay13 chv_stay13→nv_stay13=v_stay13.length→smithyardref7_Swept.e1 a0 a2 y4 v_entries12 v_stay13=some r→RunH C43 (S43 F H0 r) H0 w0 [.c [1,1,1,1,1,1,1,1,1,1,0],.c [1,1,1,1,1,1,1,1,1,1,1]] [(2,iv a2),(3,pg g1 0),(6,pg g2 0),(11,pg g3 0),(12,.slice Av_entries12 nv_entries12 cv_entries12),(13,.slice Av_stay13 nv_stay13 cv_stay13)] H (chv_entries12::chv_stay13::(some (g3,.cells #[iv y4.Room,iv y4.Lease,.slice A1 y4.Blobs.length c1,.slice A2 y4.Entries.length c2] 25 (0,0)))::ch1::ch2::(some (g2,.cells #[iv 0,iv 0,.slice none 0 0,.slice none 0 0] 25 (0,0)))::(some (g1,.cells #[iv a0.Room,iv a0.Lease,.slice Aa0_2 a0.Blobs.length ca0_2,.slice Aa0_3 a0.Entries.length ca0_3] 25 (0,0)))::F):=by
 intro H a0 Aa0_2 ca0_2 Aa0_3 ca0_3 a2 g1 g2 y4 g3 A1 c1 ch1 A2 c2 ch2 v_entries12 Av_entries12 nv_entries12 cv_entries12 chv_entries12 v_stay13 Av_stay13 nv_stay13 cv_stay13 chv_stay13 hra0_2 hca0_2 hra0_3 hca0_3 ho13 ho14 hov_entries12 hnv_entries12 hov_stay13 hnv_stay13 heq
 subst hnv_entries12
 subst hnv_stay13
 unfold smithyardref7_Swept.e1 at heq
 refine Rr<|Rv 6 [2,6,11,13,100] [iv a0.Room,iv a0.Lease] [.load ⟨g1,0,none⟩ (iv a0.Room),.load ⟨g1,1,none⟩ (iv a0.Lease)] [(2,iv a2),(6,pg g2 0),(11,pg g3 0),(13,.slice Av_stay13 v_stay13.length cv_stay13),(100,.agg #[iv a0.Room,iv a0.Lease,.slice none 0 0,.slice Av_entries12 v_entries12.length cv_entries12])] (fun w hh=>⟨(hh.box 6 rfl rfl),(hh.box 6 rfl rfl)⟩) ?_
 refine RgH.does (DoesH.new (d:=15) (v:=fun g=>.pointer (some ⟨g,0,none⟩)) (o:=fun g=>.cells #[iv 0,iv 0,.slice none 0 0,.slice none 0 0] 25 (0,0)) (fun g=>by kernel_rfl)) ?_
 rintro _ _ _ _ ⟨g4,rfl,rfl,rfl⟩
 refine RgH.does (DoesH.store (k:=0) (g:=g4) (off:=0) (v:=.agg #[iv a0.Room,iv a0.Lease,.slice none 0 0,.slice Av_entries12 v_entries12.length cv_entries12]) (cells':=#[iv a0.Room,iv a0.Lease,.slice none 0 0,.slice Av_entries12 v_entries12.length cv_entries12]) (by kernel_rfl) rfl (by kernel_rfl) (by kernel_rfl)) ?_
 rintro _ _ _ _ ⟨rfl,rfl,rfl⟩
 refine Dn<|Ra 1 [1,1,1,1,1,1,1,1,1,1,1,0] [.c [1,1,1,1,1,1,1,1,1,1,1,1]]<|Rd 1 [2,6,11,13,15,16] [(2,iv a2),(6,pg g2 0),(11,pg g3 0),(13,.slice Av_stay13 v_stay13.length cv_stay13),(15,pg g4 0),(16,.slice none 0 0)]<|Ra 2 [1,1,1,1,1,1,1,1,1,1,1,1,0,0] [.c [1,1,1,1,1,1,1,1,1,1,1,1,0,1],.c [1,1,1,1,1,1,1,1,1,1,1,1,1]]<|Rd 1 [2,6,11,13,15,16,17] [(2,iv a2),(6,pg g2 0),(11,pg g3 0),(13,.slice Av_stay13 v_stay13.length cv_stay13),(15,pg g4 0),(16,.slice none 0 0),(17,iv 0)]<|Ad 2 [.c [1,1,1,1,1,1,1,1,1,1,1,1,0,1,0,0],.l [1,1,1,1,1,1,1,1,1,1,1,1,0,1,0,0],.b 2,.c [1,1,1,1,1,1,1,1,1,1,1,1,1]]<|RunH.nilc ?_
 have ho21:SlOwn kBlob 47 H none 0 ([]:List Blob) none:=SlOwn.nil
 refine RunH.nilc ?_
 have ho22:SlOwn Kd.string 9 H none 0 ([]:List ByteArray) none:=SlOwn.nil
 refine Kp [2,6,11,13,15,16,17] [(2,iv a2),(6,pg g2 0),(11,pg g3 0),(13,.slice Av_stay13 v_stay13.length cv_stay13),(15,pg g4 0),(16,.slice none 0 0),(17,iv 0)] ?_
 refine RunH.pick 10 [1,0,2,3,4,5,6,7,8] (cs':=none::none::(some (g4,.cells #[iv a0.Room,iv a0.Lease,.slice none 0 0,.slice Av_entries12 v_entries12.length cv_entries12] 25 (0,0)))::chv_entries12::chv_stay13::(some (g3,.cells #[iv y4.Room,iv y4.Lease,.slice A1 y4.Blobs.length c1,.slice A2 y4.Entries.length c2] 25 (0,0)))::ch1::ch2::(some (g2,.cells #[iv 0,iv 0,.slice none 0 0,.slice none 0 0] 25 (0,0)))::F) (by kernel_rfl) rfl ?_
 exact ((smithyardref7_Swept.l3_c (e2:=smithyardref7_Swept.e2) (smithyardref7_Swept.e2_c)) big) _ a0 a2 _ y4 _ _ _ _ _ _ _ v_entries12 _ _ _ v_stay13 _ _ _ _ ([]:List Blob) _ _ _ _ ([]:List ByteArray) _ _ _ _ 0 ho13 ho14 hov_entries12 hov_stay13 ho21 rfl ho22 rfl heq
theorem smithyardref7_Swept.j6_c {w0:World} {H0:Hp} {F:List Ch} {r:Cache × (List ByteArray) × Int} (backl5:Cache→(List ByteArray)→Int→Cache→(List Entry)→(List ByteArray)→Int→Option (Cache × (List ByteArray) × Int))
  (hbackl5:∀ (H:Hp) (a0:Cache) (Aa0_2:Option Addr) (ca0_2:Nat) (Aa0_3:Option Addr) (ca0_3:Nat) (a1:List ByteArray) (Aa1:Option Addr) (ca1:Nat) (a2:Int) (g1:Nat) (g2:Nat) (y4:Cache) (g3:Nat) (A1:Option Addr) (c1:Nat) (ch1:Ch) (A2:Option Addr) (c2:Nat) (ch2:Ch) (v_entries12:List Entry) (Av_entries12:Option Addr) (nv_entries12:Nat) (cv_entries12:Nat) (chv_entries12:Ch) (v_stay13:List ByteArray) (Av_stay13:Option Addr) (nv_stay13:Nat) (cv_stay13:Nat) (chv_stay13:Ch) (v_i14:Int) ,Rw kBlob H F Aa0_2 a0.Blobs→a0.Blobs.length≤ca0_2→Rw kEntry H F Aa0_3 a0.Entries→a0.Entries.length≤ca0_3→Rw Kd.string H F Aa1 a1→a1.length≤ca1→SlOwn kBlob 47 H A1 c1 y4.Blobs ch1→SlOwn kEntry 51 H A2 c2 y4.Entries ch2→SlOwn kEntry 51 H Av_entries12 cv_entries12 v_entries12 chv_entries12→nv_entries12=v_entries12.length→SlOwn Kd.string 9 H Av_stay13 cv_stay13 v_stay13 chv_stay13→nv_stay13=v_stay13.length→backl5 a0 a1 a2 y4 v_entries12 v_stay13 v_i14=some r→RunH C43 (S43 F H0 r) H0 w0 [.c [1,1,1,1,1,1,1,1,1,0,1,0,0],.l [1,1,1,1,1,1,1,1,1,0,1,0,0],.b 0,.c [1,1,1,1,1,1,1,1,1,1]] [(1,.slice Aa1 a1.length ca1),(2,iv a2),(3,pg g1 0),(6,pg g2 0),(11,pg g3 0),(12,.slice Av_entries12 nv_entries12 cv_entries12),(13,.slice Av_stay13 nv_stay13 cv_stay13),(14,iv v_i14)] H (chv_entries12::chv_stay13::(some (g3,.cells #[iv y4.Room,iv y4.Lease,.slice A1 y4.Blobs.length c1,.slice A2 y4.Entries.length c2] 25 (0,0)))::ch1::ch2::(some (g2,.cells #[iv 0,iv 0,.slice none 0 0,.slice none 0 0] 25 (0,0)))::(some (g1,.cells #[iv a0.Room,iv a0.Lease,.slice Aa0_2 a0.Blobs.length ca0_2,.slice Aa0_3 a0.Entries.length ca0_3] 25 (0,0)))::F)):∀ (H:Hp) (a0:Cache) (Aa0_2:Option Addr) (ca0_2:Nat) (Aa0_3:Option Addr) (ca0_3:Nat) (a1:List ByteArray) (Aa1:Option Addr) (ca1:Nat) (a2:Int) (g1:Nat) (g2:Nat) (y4:Cache) (g3:Nat) (A1:Option Addr) (c1:Nat) (ch1:Ch) (A2:Option Addr) (c2:Nat) (ch2:Ch) (v_i14:Int) (v_entries12:List Entry) (Av_entries12:Option Addr) (nv_entries12:Nat) (cv_entries12:Nat) (chv_entries12:Ch) (v_stay13:List ByteArray) (Av_stay13:Option Addr) (nv_stay13:Nat) (cv_stay13:Nat) (chv_stay13:Ch) ,Rw kBlob H F Aa0_2 a0.Blobs→a0.Blobs.length≤ca0_2→Rw kEntry H F Aa0_3 a0.Entries→a0.Entries.length≤ca0_3→Rw Kd.string H F Aa1 a1→a1.length≤ca1→SlOwn kBlob 47 H A1 c1 y4.Blobs ch1→SlOwn kEntry 51 H A2 c2 y4.Entries ch2→SlOwn kEntry 51 H Av_entries12 cv_entries12 v_entries12 chv_entries12→nv_entries12=v_entries12.length→SlOwn Kd.string 9 H Av_stay13 cv_stay13 v_stay13 chv_stay13→nv_stay13=v_stay13.length→smithyardref7_Swept.j6 backl5 a0 a1 a2 y4 v_i14 v_entries12 v_stay13=some r→RunH C43 (S43 F H0 r) H0 w0 [.c [1,1,1,1,1,1,1,1,1,0,1,0,0,1,1],.l [1,1,1,1,1,1,1,1,1,0,1,0,0],.b 0,.c [1,1,1,1,1,1,1,1,1,1]] [(1,.slice Aa1 a1.length ca1),(2,iv a2),(3,pg g1 0),(6,pg g2 0),(11,pg g3 0),(12,.slice Av_entries12 nv_entries12 cv_entries12),(13,.slice Av_stay13 nv_stay13 cv_stay13),(14,iv v_i14)] H (chv_entries12::chv_stay13::(some (g3,.cells #[iv y4.Room,iv y4.Lease,.slice A1 y4.Blobs.length c1,.slice A2 y4.Entries.length c2] 25 (0,0)))::ch1::ch2::(some (g2,.cells #[iv 0,iv 0,.slice none 0 0,.slice none 0 0] 25 (0,0)))::(some (g1,.cells #[iv a0.Room,iv a0.Lease,.slice Aa0_2 a0.Blobs.length ca0_2,.slice Aa0_3 a0.Entries.length ca0_3] 25 (0,0)))::F):=by
 intro H a0 Aa0_2 ca0_2 Aa0_3 ca0_3 a1 Aa1 ca1 a2 g1 g2 y4 g3 A1 c1 ch1 A2 c2 ch2 v_i14 v_entries12 Av_entries12 nv_entries12 cv_entries12 chv_entries12 v_stay13 Av_stay13 nv_stay13 cv_stay13 chv_stay13 hra0_2 hca0_2 hra0_3 hca0_3 hra1 hca1 ho13 ho14 hov_entries12 hnv_entries12 hov_stay13 hnv_stay13 heq
 subst hnv_entries12
 subst hnv_stay13
 unfold smithyardref7_Swept.j6 at heq
 refine Rr<|Rd 3 [1,2,3,6,11,12,13,14] [(1,.slice Aa1 a1.length ca1),(2,iv a2),(3,pg g1 0),(6,pg g2 0),(11,pg g3 0),(12,.slice Av_entries12 v_entries12.length cv_entries12),(13,.slice Av_stay13 v_stay13.length cv_stay13),(14,iv (w64 (v_i14+1)))]<|Ad 1 [.c [1,1,1,1,1,1,1,1,1,0,1,0,0],.l [1,1,1,1,1,1,1,1,1,0,1,0,0],.b 0,.c [1,1,1,1,1,1,1,1,1,1]]<|Kp [1,2,3,6,11,12,13,14] [(1,.slice Aa1 a1.length ca1),(2,iv a2),(3,pg g1 0),(6,pg g2 0),(11,pg g3 0),(12,.slice Av_entries12 v_entries12.length cv_entries12),(13,.slice Av_stay13 v_stay13.length cv_stay13),(14,iv (w64 (v_i14+1)))] ?_
 exact hbackl5 _ a0 _ _ _ _ a1 _ _ a2 _ _ y4 _ _ _ _ _ _ _ v_entries12 _ _ _ _ v_stay13 _ _ _ _ (w64 (v_i14+1)) hra0_2 hca0_2 hra0_3 hca0_3 hra1 hca1 ho13 ho14 hov_entries12 rfl hov_stay13 rfl heq
theorem smithyardref7_Swept.l5_c {w0:World} {H0:Hp} {F:List Ch} {r:Cache × (List ByteArray) × Int} (e1:Cache→Int→Cache→(List Entry)→(List ByteArray)→Option (Cache × (List ByteArray) × Int))
  (he1:∀ (H:Hp) (a0:Cache) (Aa0_2:Option Addr) (ca0_2:Nat) (Aa0_3:Option Addr) (ca0_3:Nat) (a2:Int) (g1:Nat) (g2:Nat) (y4:Cache) (g3:Nat) (A1:Option Addr) (c1:Nat) (ch1:Ch) (A2:Option Addr) (c2:Nat) (ch2:Ch) (v_entries12:List Entry) (Av_entries12:Option Addr) (nv_entries12:Nat) (cv_entries12:Nat) (chv_entries12:Ch) (v_stay13:List ByteArray) (Av_stay13:Option Addr) (nv_stay13:Nat) (cv_stay13:Nat) (chv_stay13:Ch) ,Rw kBlob H F Aa0_2 a0.Blobs→a0.Blobs.length≤ca0_2→Rw kEntry H F Aa0_3 a0.Entries→a0.Entries.length≤ca0_3→SlOwn kBlob 47 H A1 c1 y4.Blobs ch1→SlOwn kEntry 51 H A2 c2 y4.Entries ch2→SlOwn kEntry 51 H Av_entries12 cv_entries12 v_entries12 chv_entries12→nv_entries12=v_entries12.length→SlOwn Kd.string 9 H Av_stay13 cv_stay13 v_stay13 chv_stay13→nv_stay13=v_stay13.length→e1 a0 a2 y4 v_entries12 v_stay13=some r→RunH C43 (S43 F H0 r) H0 w0 [.c [1,1,1,1,1,1,1,1,1,1,0],.c [1,1,1,1,1,1,1,1,1,1,1]] [(2,iv a2),(3,pg g1 0),(6,pg g2 0),(11,pg g3 0),(12,.slice Av_entries12 nv_entries12 cv_entries12),(13,.slice Av_stay13 nv_stay13 cv_stay13)] H (chv_entries12::chv_stay13::(some (g3,.cells #[iv y4.Room,iv y4.Lease,.slice A1 y4.Blobs.length c1,.slice A2 y4.Entries.length c2] 25 (0,0)))::ch1::ch2::(some (g2,.cells #[iv 0,iv 0,.slice none 0 0,.slice none 0 0] 25 (0,0)))::(some (g1,.cells #[iv a0.Room,iv a0.Lease,.slice Aa0_2 a0.Blobs.length ca0_2,.slice Aa0_3 a0.Entries.length ca0_3] 25 (0,0)))::F)):∀ (k:Nat),∀ (H:Hp) (a0:Cache) (Aa0_2:Option Addr) (ca0_2:Nat) (Aa0_3:Option Addr) (ca0_3:Nat) (a1:List ByteArray) (Aa1:Option Addr) (ca1:Nat) (a2:Int) (g1:Nat) (g2:Nat) (y4:Cache) (g3:Nat) (A1:Option Addr) (c1:Nat) (ch1:Ch) (A2:Option Addr) (c2:Nat) (ch2:Ch) (v_entries12:List Entry) (Av_entries12:Option Addr) (nv_entries12:Nat) (cv_entries12:Nat) (chv_entries12:Ch) (v_stay13:List ByteArray) (Av_stay13:Option Addr) (nv_stay13:Nat) (cv_stay13:Nat) (chv_stay13:Ch) (v_i14:Int) ,Rw kBlob H F Aa0_2 a0.Blobs→a0.Blobs.length≤ca0_2→Rw kEntry H F Aa0_3 a0.Entries→a0.Entries.length≤ca0_3→Rw Kd.string H F Aa1 a1→a1.length≤ca1→SlOwn kBlob 47 H A1 c1 y4.Blobs ch1→SlOwn kEntry 51 H A2 c2 y4.Entries ch2→SlOwn kEntry 51 H Av_entries12 cv_entries12 v_entries12 chv_entries12→nv_entries12=v_entries12.length→SlOwn Kd.string 9 H Av_stay13 cv_stay13 v_stay13 chv_stay13→nv_stay13=v_stay13.length→smithyardref7_Swept.l5 e1 k a0 a1 a2 y4 v_entries12 v_stay13 v_i14=some r→RunH C43 (S43 F H0 r) H0 w0 [.c [1,1,1,1,1,1,1,1,1,0,1,0,0],.l [1,1,1,1,1,1,1,1,1,0,1,0,0],.b 0,.c [1,1,1,1,1,1,1,1,1,1]] [(1,.slice Aa1 a1.length ca1),(2,iv a2),(3,pg g1 0),(6,pg g2 0),(11,pg g3 0),(12,.slice Av_entries12 nv_entries12 cv_entries12),(13,.slice Av_stay13 nv_stay13 cv_stay13),(14,iv v_i14)] H (chv_entries12::chv_stay13::(some (g3,.cells #[iv y4.Room,iv y4.Lease,.slice A1 y4.Blobs.length c1,.slice A2 y4.Entries.length c2] 25 (0,0)))::ch1::ch2::(some (g2,.cells #[iv 0,iv 0,.slice none 0 0,.slice none 0 0] 25 (0,0)))::(some (g1,.cells #[iv a0.Room,iv a0.Lease,.slice Aa0_2 a0.Blobs.length ca0_2,.slice Aa0_3 a0.Entries.length ca0_3] 25 (0,0)))::F):=by
 intro k
 induction k with
 | zero=>intro H a0 Aa0_2 ca0_2 Aa0_3 ca0_3 a1 Aa1 ca1 a2 g1 g2 y4 g3 A1 c1 ch1 A2 c2 ch2 v_entries12 Av_entries12 nv_entries12 cv_entries12 chv_entries12 v_stay13 Av_stay13 nv_stay13 cv_stay13 chv_stay13 v_i14 hra0_2 hca0_2 hra0_3 hca0_3 hra1 hca1 ho13 ho14 hov_entries12 hnv_entries12 hov_stay13 hnv_stay13 heq; exact nomatch (show (none:Option (Cache × (List ByteArray) × Int))=some r from heq)
 | succ k ihk =>
  intro H a0 Aa0_2 ca0_2 Aa0_3 ca0_3 a1 Aa1 ca1 a2 g1 g2 y4 g3 A1 c1 ch1 A2 c2 ch2 v_entries12 Av_entries12 nv_entries12 cv_entries12 chv_entries12 v_stay13 Av_stay13 nv_stay13 cv_stay13 chv_stay13 v_i14 hra0_2 hca0_2 hra0_3 hca0_3 hra1 hca1 ho13 ho14 hov_entries12 hnv_entries12 hov_stay13 hnv_stay13 heq
  subst hnv_entries12
  subst hnv_stay13
  rw [smithyardref7_Swept.l5] at heq
  refine Ra 2 [1,1,1,1,1,1,1,1,1,0,1,0,0,0,0] [.c [1,1,1,1,1,1,1,1,1,0,1,0,0,0,1],.c [1,1,1,1,1,1,1,1,1,0,1,0,0,1],.l [1,1,1,1,1,1,1,1,1,0,1,0,0],.b 0,.c [1,1,1,1,1,1,1,1,1,1]]<|Rw' 7 [1,2,3,6,11,12,13,14,49] [.slice A2 y4.Entries.length c2] [.load ⟨g3,3,none⟩ (.slice A2 y4.Entries.length c2)] [(1,.slice Aa1 a1.length ca1),(2,iv a2),(3,pg g1 0),(6,pg g2 0),(11,pg g3 0),(12,.slice Av_entries12 v_entries12.length cv_entries12),(13,.slice Av_stay13 v_stay13.length cv_stay13),(14,iv v_i14),(49,.bool (decide (v_i14<(y4.Entries.length:Int))))] (fun w hh=>(hh.box 2 rfl rfl)) ?_
  rcases bool_cases (decide (v_i14<(y4.Entries.length:Int))) with hb8 | hb8
  ·replace heq:=bif_true hb8 heq
   refine Ct (decide (v_i14<(y4.Entries.length:Int))) hb8<|Ra 5 [1,1,1,1,1,1,1,1,1,0,1,0,0,1,0,0,0,0] [.c [1,1,1,1,1,1,1,1,1,0,1,0,0,1,0,0,0,1],.c [1,1,1,1,1,1,1,1,1,0,1,0,0,1,0,0,1],.b 1,.c [1,1,1,1,1,1,1,1,1,0,1,0,0,1,1],.l [1,1,1,1,1,1,1,1,1,0,1,0,0],.b 0,.c [1,1,1,1,1,1,1,1,1,1]] ?_
   obtain ⟨x4,hx4,heq⟩:=bind_some heq
   obtain ⟨ha5,cs5,hK5,hcc5⟩:=ho14.get hx4
   obtain ⟨A6,c6,rfl,hc1,hr1⟩:=kEntry_open hK5
   refine Rv 9 [1,2,3,6,11,12,13,14,52,60] [.slice A2 y4.Entries.length c2,.string x4.Key] [.load ⟨g3,3,none⟩ (.slice A2 y4.Entries.length c2),.need (A2=some (adr A2)∧(0:Int)≤v_i14∧v_i14<((y4.Entries.length:Nat):Int)),.load (((adr A2).add (v_i14.toNat*3)).add 0) (.string x4.Key)] [(1,.slice Aa1 a1.length ca1),(2,iv a2),(3,pg g1 0),(6,pg g2 0),(11,pg g3 0),(12,.slice Av_entries12 v_entries12.length cv_entries12),(13,.slice Av_stay13 v_stay13.length cv_stay13),(14,iv v_i14),(52,.slice Aa1 a1.length ca1),(60,.string x4.Key)] (fun w hh=>⟨(hh.box 2 rfl rfl),⟨ha5,(at?_some hx4).1,(at?_some hx4).2.1⟩,(hcc5 _ (hh.chin 4 rfl) 0 _ rfl)⟩) ?_
   obtain ⟨y7,hy7,heq⟩:=bind_some heq
   refine RgH.does (DoesH.call (d:=61) (g:=89) (args:=#[.slice Aa1 a1.length ca1,.string x4.Key]) (by kernel_rfl) (smithyardref7_has_c (a0:=a1) (a1:=x4.Key) (hra1.wk (fun _ h=>(.tail _ (.tail _ (.tail _ (.tail _ (.tail _ (.tail _ (.tail _ h))))))))) hca1 rfl hy7)) ?_
   rintro _ _ _ _ ⟨_,rfl,rfl,rfl,rfl⟩
   refine Rd 11 [1,2,3,6,11,12,13,14,62] [(1,.slice Aa1 a1.length ca1),(2,iv a2),(3,pg g1 0),(6,pg g2 0),(11,pg g3 0),(12,.slice Av_entries12 v_entries12.length cv_entries12),(13,.slice Av_stay13 v_stay13.length cv_stay13),(14,iv v_i14),(62,.bool (!y7))] ?_
   rcases bool_cases (!y7) with hb9 | hb9
   ·replace heq:=bif_true hb9 heq
    refine Ct (!y7) hb9<|Ad 1 [.c [1,1,1,1,1,1,1,1,1,0,1,0,0,1,1],.l [1,1,1,1,1,1,1,1,1,0,1,0,0],.b 0,.c [1,1,1,1,1,1,1,1,1,1]]<|Kp [1,2,3,6,11,12,13,14] [(1,.slice Aa1 a1.length ca1),(2,iv a2),(3,pg g1 0),(6,pg g2 0),(11,pg g3 0),(12,.slice Av_entries12 v_entries12.length cv_entries12),(13,.slice Av_stay13 v_stay13.length cv_stay13),(14,iv v_i14)] ?_
    exact (smithyardref7_Swept.j6_c (backl5:=(smithyardref7_Swept.l5 e1 k)) ihk) _ a0 _ _ _ _ a1 _ _ a2 _ _ y4 _ _ _ _ _ _ _ v_i14 v_entries12 _ _ _ _ v_stay13 _ _ _ _ hra0_2 hca0_2 hra0_3 hca0_3 hra1 hca1 ho13 ho14 hov_entries12 rfl hov_stay13 rfl heq
   ·replace heq:=bif_false hb9 heq
    refine Cf (!y7) hb9<|Ra 2 [1,1,1,1,1,1,1,1,1,0,1,0,0,1,0,0,1,0] [.c [1,1,1,1,1,1,1,1,1,0,1,0,0,1,0,0,1,1],.b 1,.c [1,1,1,1,1,1,1,1,1,0,1,0,0,1,1],.l [1,1,1,1,1,1,1,1,1,0,1,0,0],.b 0,.c [1,1,1,1,1,1,1,1,1,1]] ?_
    obtain ⟨x5,hx5,heq⟩:=bind_some heq
    obtain ⟨ha6,cs6,hK6,hcc6⟩:=ho14.get hx5
    obtain ⟨A7,c7,rfl,hc2,hr2⟩:=kEntry_open hK6
    refine Rv 8 [1,2,3,6,11,13,14,63,70] [.slice A2 y4.Entries.length c2,.string x5.Key,.slice A7 x5.Refs.length c7,iv x5.Used] [.load ⟨g3,3,none⟩ (.slice A2 y4.Entries.length c2),.need (A2=some (adr A2)∧(0:Int)≤v_i14∧v_i14<((y4.Entries.length:Nat):Int)),.load (((adr A2).add (v_i14.toNat*3)).add 0) (.string x5.Key),.load (((adr A2).add (v_i14.toNat*3)).add 1) (.slice A7 x5.Refs.length c7),.load (((adr A2).add (v_i14.toNat*3)).add 2) (iv x5.Used)] [(1,.slice Aa1 a1.length ca1),(2,iv a2),(3,pg g1 0),(6,pg g2 0),(11,pg g3 0),(13,.slice Av_stay13 v_stay13.length cv_stay13),(14,iv v_i14),(63,.slice Av_entries12 v_entries12.length cv_entries12),(70,.agg #[.string x5.Key,.slice A7 x5.Refs.length c7,iv x5.Used])] (fun w hh=>⟨(hh.box 2 rfl rfl),⟨ha6,(at?_some hx5).1,(at?_some hx5).2.1⟩,(hcc6 _ (hh.chin 4 rfl) 0 _ rfl),(hcc6 _ (hh.chin 4 rfl) 1 _ rfl),(hcc6 _ (hh.chin 4 rfl) 2 _ rfl)⟩) ?_
    refine RgH.does (DoesH.new (d:=71) (v:=fun g=>.slice (some ⟨g,0,none⟩) 1 1) (o:=fun g=>.cells #[.string x5.Key,.slice A7 x5.Refs.length c7,iv x5.Used] 51 (0,0)) (fun g=>by kernel_rfl)) ?_
    rintro _ _ _ _ ⟨g7,rfl,rfl,rfl⟩
    have ho23:SlOwn kEntry 51 H (some ⟨g7,0,none⟩) 1 ([x5]:List Entry) (some (g7,.cells #[.string x5.Key,.slice A7 x5.Refs.length c7,iv x5.Used] 51 (0,0))):=SlOwn.lit (xs:=([x5]:List Entry)) (by kernel_rfl) (Nat.le_of_ble_eq_true (by kernel_rfl)) (Kd.Rep.one (kEntry_mk hc2 hr2))
    obtain ⟨hn4,heq⟩:=guard?_some heq
    refine RgH.does (DoesH.append (d:=72) (k:=1) (t:=23) (e:=51) (bytes:=48) (kd:=kEntry) (n:=v_entries12.length) (m:=1) (xs:=v_entries12) (ys:=([x5]:List Entry)) (A:=Av_entries12) (B:=(some ⟨g7,0,none⟩)) (c:=cv_entries12) (cB:=1) (by kernel_rfl) rfl rfl (by kernel_rfl) rfl hov_entries12 (fun w hh=>ho23.rdb (hh.chin 0 rfl)) (room_le hn4) (by have:=room_le hn4; omega)) ?_
    rintro _ _ _ _ ⟨A8,c8,ch6,rfl,rfl,rfl,ho24⟩
    refine Rd 11 [1,2,3,6,11,12,13,14] [(1,.slice Aa1 a1.length ca1),(2,iv a2),(3,pg g1 0),(6,pg g2 0),(11,pg g3 0),(12,.slice A8 ((v_entries12++([x5]:List Entry)).length) c8),(13,.slice Av_stay13 v_stay13.length cv_stay13),(14,iv v_i14)]<|Ra 1 [1,1,1,1,1,1,1,1,1,0,1,0,0,1,0,0,1,1,0] [.c [1,1,1,1,1,1,1,1,1,0,1,0,0,1,0,0,1,1,1],.b 1,.c [1,1,1,1,1,1,1,1,1,0,1,0,0,1,1],.l [1,1,1,1,1,1,1,1,1,0,1,0,0],.b 0,.c [1,1,1,1,1,1,1,1,1,1]] ?_
    obtain ⟨x6,hx6,heq⟩:=bind_some heq
    obtain ⟨ha7,cs7,hK7,hcc7⟩:=ho14.get hx6
    obtain ⟨A9,c9,rfl,hc3,hr3⟩:=kEntry_open hK7
    refine Rv 9 [1,2,3,6,11,12,13,14,73,81] [.slice A2 y4.Entries.length c2,.slice A9 x6.Refs.length c9] [.load ⟨g3,3,none⟩ (.slice A2 y4.Entries.length c2),.need (A2=some (adr A2)∧(0:Int)≤v_i14∧v_i14<((y4.Entries.length:Nat):Int)),.load (((adr A2).add (v_i14.toNat*3)).add 1) (.slice A9 x6.Refs.length c9)] [(1,.slice Aa1 a1.length ca1),(2,iv a2),(3,pg g1 0),(6,pg g2 0),(11,pg g3 0),(12,.slice A8 ((v_entries12++([x5]:List Entry)).length) c8),(13,.slice Av_stay13 v_stay13.length cv_stay13),(14,iv v_i14),(73,pg g3 0),(81,.slice A9 x6.Refs.length c9)] (fun w hh=>⟨(hh.box 3 rfl rfl),⟨ha7,(at?_some hx6).1,(at?_some hx6).2.1⟩,(hcc7 _ (hh.chin 5 rfl) 1 _ rfl)⟩) ?_
    obtain ⟨y8,hy8,heq⟩:=bind_some heq
    refine RgH.does (DoesH.call (d:=82) (g:=68) (args:=#[.pointer (some ⟨g3,0,none⟩),.slice A9 x6.Refs.length c9]) (by kernel_rfl) (smithyardref7_missing_c (a0:=(⟨y4.Room,y4.Lease,y4.Blobs,y4.Entries⟩:Cache)) (a1:=x6.Refs) (ho13.rw (.tail _ (.tail _ (.tail _ (.tail _ (.head _)))))) ho13.cap rfl (ho14.rw (.tail _ (.tail _ (.tail _ (.tail _ (.tail _ (.head _))))))) ho14.cap rfl (.inr (.tail _ (.tail _ (.tail _ (.head _))))) (Rw.of hr3) hc3 rfl hy8)) ?_
    rintro _ _ _ _ ⟨_,rfl,A10,c10,ch7,rfl,rfl,rfl,ho25⟩
    refine Rd 12 [1,2,3,6,11,12,13,14,84] [(1,.slice Aa1 a1.length ca1),(2,iv a2),(3,pg g1 0),(6,pg g2 0),(11,pg g3 0),(12,.slice A8 ((v_entries12++([x5]:List Entry)).length) c8),(13,.slice Av_stay13 v_stay13.length cv_stay13),(14,iv v_i14),(84,.bool ((y8.length:Int) == 0))] ?_
    rcases bool_cases ((y8.length:Int) == 0) with hb10 | hb10
    ·replace heq:=bif_true hb10 heq
     refine Ct ((y8.length:Int) == 0) hb10<|Rr ?_
     obtain ⟨x7,hx7,heq⟩:=bind_some heq
     obtain ⟨ha8,cs8,hK8,hcc8⟩:=ho14.get hx7
     obtain ⟨A11,c11,rfl,hc4,hr4⟩:=kEntry_open hK8
     refine Rv 9 [1,2,3,6,11,12,14,85,93] [.slice A2 y4.Entries.length c2,.slice A11 x7.Refs.length c11] [.load ⟨g3,3,none⟩ (.slice A2 y4.Entries.length c2),.need (A2=some (adr A2)∧(0:Int)≤v_i14∧v_i14<((y4.Entries.length:Nat):Int)),.load (((adr A2).add (v_i14.toNat*3)).add 1) (.slice A11 x7.Refs.length c11)] [(1,.slice Aa1 a1.length ca1),(2,iv a2),(3,pg g1 0),(6,pg g2 0),(11,pg g3 0),(12,.slice A8 ((v_entries12++([x5]:List Entry)).length) c8),(14,iv v_i14),(85,.slice Av_stay13 v_stay13.length cv_stay13),(93,.slice A11 x7.Refs.length c11)] (fun w hh=>⟨(hh.box 4 rfl rfl),⟨ha8,(at?_some hx7).1,(at?_some hx7).2.1⟩,(hcc8 _ (hh.chin 6 rfl) 1 _ rfl)⟩) ?_
     obtain ⟨hn5,heq⟩:=guard?_some heq
     refine RgH.does (DoesH.append (d:=94) (k:=3) (t:=34) (e:=9) (bytes:=16) (kd:=Kd.string) (n:=v_stay13.length) (m:=x7.Refs.length) (xs:=v_stay13) (ys:=x7.Refs) (A:=Av_stay13) (B:=A11) (c:=cv_stay13) (cB:=c11) (by kernel_rfl) rfl rfl (by kernel_rfl) rfl hov_stay13 (fun w hh=>(Rw.of (F:=F) hr4).rdb (hh.drop 9)) (room_le hn5) (by have:=room_le hn5; omega)) ?_
     rintro _ _ _ _ ⟨A12,c12,ch8,rfl,rfl,rfl,ho26⟩
     refine Rd 11 [1,2,3,6,11,12,13,14] [(1,.slice Aa1 a1.length ca1),(2,iv a2),(3,pg g1 0),(6,pg g2 0),(11,pg g3 0),(12,.slice A8 ((v_entries12++([x5]:List Entry)).length) c8),(13,.slice A12 ((v_stay13++x7.Refs).length) c12),(14,iv v_i14)]<|Ad 1 [.c [1,1,1,1,1,1,1,1,1,0,1,0,0,1,1],.l [1,1,1,1,1,1,1,1,1,0,1,0,0],.b 0,.c [1,1,1,1,1,1,1,1,1,1]]<|Kp [1,2,3,6,11,12,13,14] [(1,.slice Aa1 a1.length ca1),(2,iv a2),(3,pg g1 0),(6,pg g2 0),(11,pg g3 0),(12,.slice A8 ((v_entries12++([x5]:List Entry)).length) c8),(13,.slice A12 ((v_stay13++x7.Refs).length) c12),(14,iv v_i14)] ?_
     refine RunH.pick 9 [2,3,4,5,6,7,8] (cs':=ch6::ch8::(some (g3,.cells #[iv y4.Room,iv y4.Lease,.slice A1 y4.Blobs.length c1,.slice A2 y4.Entries.length c2] 25 (0,0)))::ch1::ch2::(some (g2,.cells #[iv 0,iv 0,.slice none 0 0,.slice none 0 0] 25 (0,0)))::(some (g1,.cells #[iv a0.Room,iv a0.Lease,.slice Aa0_2 a0.Blobs.length ca0_2,.slice Aa0_3 a0.Entries.length ca0_3] 25 (0,0)))::F) (by kernel_rfl) rfl ?_
     exact (smithyardref7_Swept.j6_c (backl5:=(smithyardref7_Swept.l5 e1 k)) ihk) _ a0 _ _ _ _ a1 _ _ a2 _ _ y4 _ _ _ _ _ _ _ v_i14 (v_entries12++([x5]:List Entry)) _ _ _ _ (v_stay13++x7.Refs) _ _ _ _ hra0_2 hca0_2 hra0_3 hca0_3 hra1 hca1 ho13 ho14 ho24 rfl ho26 rfl heq
    ·replace heq:=bif_false hb10 heq
     refine Cf ((y8.length:Int) == 0) hb10<|Ad 2 [.c [1,1,1,1,1,1,1,1,1,0,1,0,0,1,1],.l [1,1,1,1,1,1,1,1,1,0,1,0,0],.b 0,.c [1,1,1,1,1,1,1,1,1,1]]<|Kp [1,2,3,6,11,12,13,14] [(1,.slice Aa1 a1.length ca1),(2,iv a2),(3,pg g1 0),(6,pg g2 0),(11,pg g3 0),(12,.slice A8 ((v_entries12++([x5]:List Entry)).length) c8),(13,.slice Av_stay13 v_stay13.length cv_stay13),(14,iv v_i14)] ?_
     refine RunH.pick 9 [2,3,4,5,6,7,8] (cs':=ch6::chv_stay13::(some (g3,.cells #[iv y4.Room,iv y4.Lease,.slice A1 y4.Blobs.length c1,.slice A2 y4.Entries.length c2] 25 (0,0)))::ch1::ch2::(some (g2,.cells #[iv 0,iv 0,.slice none 0 0,.slice none 0 0] 25 (0,0)))::(some (g1,.cells #[iv a0.Room,iv a0.Lease,.slice Aa0_2 a0.Blobs.length ca0_2,.slice Aa0_3 a0.Entries.length ca0_3] 25 (0,0)))::F) (by kernel_rfl) rfl ?_
     exact (smithyardref7_Swept.j6_c (backl5:=(smithyardref7_Swept.l5 e1 k)) ihk) _ a0 _ _ _ _ a1 _ _ a2 _ _ y4 _ _ _ _ _ _ _ v_i14 (v_entries12++([x5]:List Entry)) _ _ _ _ v_stay13 _ _ _ _ hra0_2 hca0_2 hra0_3 hca0_3 hra1 hca1 ho13 ho14 ho24 rfl hov_stay13 rfl heq
  ·replace heq:=bif_false hb8 heq
   refine Cf (decide (v_i14<(y4.Entries.length:Int))) hb8<|Ad 2 [.c [1,1,1,1,1,1,1,1,1,1,0],.c [1,1,1,1,1,1,1,1,1,1,1]]<|Kp [2,3,6,11,12,13] [(2,iv a2),(3,pg g1 0),(6,pg g2 0),(11,pg g3 0),(12,.slice Av_entries12 v_entries12.length cv_entries12),(13,.slice Av_stay13 v_stay13.length cv_stay13)] ?_
   exact he1 _ a0 _ _ _ _ a2 _ _ y4 _ _ _ _ _ _ _ v_entries12 _ _ _ _ v_stay13 _ _ _ _ hra0_2 hca0_2 hra0_3 hca0_3 ho13 ho14 hov_entries12 rfl hov_stay13 rfl heq
theorem smithyardref7_Swept_c {w0:World} {H0:Hp} {F:List Ch} {a0:Cache} {Aa0_2:Option Addr} {na0_2:Nat} {ca0_2:Nat} {Aa0_3:Option Addr} {na0_3:Nat} {ca0_3:Nat} {a1:List ByteArray} {Aa1:Option Addr} {na1:Nat} {ca1:Nat} {a2:Int} {r:Cache × (List ByteArray) × Int} (hra0_2:Rw kBlob H0 F Aa0_2 a0.Blobs) (hca0_2:na0_2≤ca0_2) (hna0_2:na0_2=a0.Blobs.length) (hra0_3:Rw kEntry H0 F Aa0_3 a0.Entries) (hca0_3:na0_3≤ca0_3) (hna0_3:na0_3=a0.Entries.length) (hra1:Rw Kd.string H0 F Aa1 a1) (hca1:na1≤ca1) (hna1:na1=a1.length) (heq:smithyardref7_Swept.f a0 a1 a2=some r):CallsH Tryd.prog 43 #[.agg #[iv a0.Room,iv a0.Lease,.slice Aa0_2 na0_2 ca0_2,.slice Aa0_3 na0_3 ca0_3],.slice Aa1 na1 ca1,iv a2] H0 w0 (F) (S43 F H0 r):=by
 refine calls_of_runH (F:=C43) Tryd.func43 (by kernel_rfl) Tryd.ntmps43 (args:=[.agg #[iv a0.Room,iv a0.Lease,.slice Aa0_2 na0_2 ca0_2,.slice Aa0_3 na0_3 ca0_3],.slice Aa1 na1 ca1,iv a2]) (by kernel_rfl) ?_
 subst hna0_2
 subst hna0_3
 subst hna1
 unfold smithyardref7_Swept.f at heq
 suffices key:∀ (H:Hp),Rw kBlob H F Aa0_2 a0.Blobs→Rw kEntry H F Aa0_3 a0.Entries→Rw Kd.string H F Aa1 a1→RunH C43 (S43 F H0 r) H0 w0 [.c []] (argL 0 [.agg #[iv a0.Room,iv a0.Lease,.slice Aa0_2 (a0.Blobs.length) ca0_2,.slice Aa0_3 (a0.Entries.length) ca0_3],.slice Aa1 (a1.length) ca1,iv a2]) H (F) from key H0 hra0_2 hra0_3 hra1
 intro H hra0_2 hra0_3 hra1
 refine Ra 1 [0] [.c [1]] ?_
 refine RgH.does (DoesH.new (d:=3) (v:=fun g=>.pointer (some ⟨g,0,none⟩)) (o:=fun g=>.cells #[iv a0.Room,iv a0.Lease,.slice Aa0_2 a0.Blobs.length ca0_2,.slice Aa0_3 a0.Entries.length ca0_3] 25 (0,0)) (fun g=>by kernel_rfl)) ?_
 rintro _ _ _ _ ⟨g1,rfl,rfl,rfl⟩
 refine RgH.does (DoesH.new (d:=6) (v:=fun g=>.pointer (some ⟨g,0,none⟩)) (o:=fun g=>.cells #[iv 0,iv 0,.slice none 0 0,.slice none 0 0] 25 (0,0)) (fun g=>by kernel_rfl)) ?_
 rintro _ _ _ _ ⟨g2,rfl,rfl,rfl⟩
 refine Rd 4 [1,2,3,6] [(1,.slice Aa1 a1.length ca1),(2,iv a2),(3,pg g1 0),(6,pg g2 0)]<|Ra 2 [1,0,0] [.c [1,0,1],.c [1,1]]<|Rv 1 [1,2,3,6,18] [iv a0.Room,iv a0.Lease,.slice Aa0_2 a0.Blobs.length ca0_2,.slice Aa0_3 a0.Entries.length ca0_3] [.load ⟨g1,0,none⟩ (iv a0.Room),.load ⟨g1,1,none⟩ (iv a0.Lease),.load ⟨g1,2,none⟩ (.slice Aa0_2 a0.Blobs.length ca0_2),.load ⟨g1,3,none⟩ (.slice Aa0_3 a0.Entries.length ca0_3)] [(1,.slice Aa1 a1.length ca1),(2,iv a2),(3,pg g1 0),(6,pg g2 0),(18,.agg #[iv a0.Room,iv a0.Lease,.slice Aa0_2 a0.Blobs.length ca0_2,.slice Aa0_3 a0.Entries.length ca0_3])] (fun w hh=>⟨(hh.box 1 rfl rfl),(hh.box 1 rfl rfl),(hh.box 1 rfl rfl),(hh.box 1 rfl rfl)⟩) ?_
 obtain ⟨y1,hy1,heq⟩:=bind_some heq
 refine RgH.does (DoesH.call (d:=19) (g:=23) (args:=#[.agg #[iv a0.Room,iv a0.Lease,.slice Aa0_2 a0.Blobs.length ca0_2,.slice Aa0_3 a0.Entries.length ca0_3]]) (by kernel_rfl) (smithyardref7_CheckCache_c (a0:=a0) (hra0_2.wk (fun _ h=>(.tail _ (.tail _ h)))) hca0_2 rfl (hra0_3.wk (fun _ h=>(.tail _ (.tail _ h)))) hca0_3 rfl hy1)) ?_
 rintro _ _ _ _ ⟨_,rfl,rfl,rfl,rfl⟩
 refine Rd 3 [1,2,3,6,9] [(1,.slice Aa1 a1.length ca1),(2,iv a2),(3,pg g1 0),(6,pg g2 0),(9,iv y1)]<|Ra 1 [1,0,1,0] [.c [1,0,1,1],.c [1,1]]<|Rd 2 [1,2,3,6,9,21] [(1,.slice Aa1 a1.length ca1),(2,iv a2),(3,pg g1 0),(6,pg g2 0),(9,iv y1),(21,.bool (y1 != 0))] ?_
 rcases bool_cases (y1 != 0) with hb1 | hb1
 ·replace heq:=bif_true hb1 heq
  refine Ct (y1 != 0) hb1<|Ra 1 [1,0,1,1,0,0] [.c [1,0,1,1,0,1],.c [1,1]]<|Rk 2 [6,22,23] [(6,pg g2 0),(22,.agg #[iv 0,iv 0,.slice none 0 0,.slice none 0 0]),(23,iv y1)] ?_
  refine RgH.does (DoesH.store (k:=0) (g:=g2) (off:=0) (v:=.agg #[iv 0,iv 0,.slice none 0 0,.slice none 0 0]) (cells':=#[iv 0,iv 0,.slice none 0 0,.slice none 0 0]) (by kernel_rfl) rfl (by kernel_rfl) (by kernel_rfl)) ?_
  rintro _ _ _ _ ⟨rfl,rfl,rfl⟩
  refine Rd 5 [6,7,8] [(6,pg g2 0),(7,.slice none 0 0),(8,iv y1)]<|RunH.nilc ?_
  have ho1:SlOwn kBlob 47 H none 0 ([]:List Blob) none:=SlOwn.nil
  refine RunH.nilc ?_
  have ho2:SlOwn kEntry 51 H none 0 ([]:List Entry) none:=SlOwn.nil
  refine RunH.nilc ?_
  have ho3:SlOwn Kd.string 9 H none 0 ([]:List ByteArray) none:=SlOwn.nil
  obtain rfl:=Option.some.inj heq
  refine RunH.pick 5 [3,2,1,0] (cs':=(some (g2,.cells #[iv 0,iv 0,.slice none 0 0,.slice none 0 0] 25 (0,0)))::none::none::none::F) (by kernel_rfl) rfl ?_
  exact RunH.doneM' 1 (vs:=[.agg #[iv 0,iv 0,.slice none 0 0,.slice none 0 0],.slice none 0 0,iv y1]) (v:=.tuple #[.agg #[iv 0,iv 0,.slice none 0 0,.slice none 0 0],.slice none 0 0,iv y1]) (by kernel_rfl) Tryd.func43 (fun w hh=>show ResAll _ _ _ [.cell 6 25,.tmp 7,.tmp 8] _ from ⟨⟨⟨g2,0,none⟩,by kernel_rfl,trS_run _ (vs:=[iv 0,iv 0,.slice none 0 0,.slice none 0 0]) (r:=[]) (es:=[.load ⟨g2,0,none⟩ (iv 0),.load ⟨g2,1,none⟩ (iv 0),.load ⟨g2,2,none⟩ (.slice none 0 0),.load ⟨g2,3,none⟩ (.slice none 0 0)]) (by kernel_rfl) ⟨(hh.box 0 rfl rfl),(hh.box 0 rfl rfl),(hh.box 0 rfl rfl),(hh.box 0 rfl rfl)⟩⟩,(show lk _ _=some _ by kernel_rfl),(show lk _ _=some _ by kernel_rfl),trivial⟩) rfl (cs':=none::none::none::F) rfl ⟨none,0,none,none,0,none,none,0,none,rfl,rfl,ho1,ho2,ho3⟩
 ·replace heq:=bif_false hb1 heq
  refine Cf (y1 != 0) hb1<|Ra 3 [1,1,0,0] [.c [1,1,0,1],.c [1,1,1]]<|Rk 1 [1,2,3,6,24] [(1,.slice Aa1 a1.length ca1),(2,iv a2),(3,pg g1 0),(6,pg g2 0),(24,iv a2)] ?_
  obtain ⟨y2,hy2,heq⟩:=bind_some heq
  refine RgH.does (DoesH.call (d:=25) (g:=62) (args:=#[iv a2,iv 0,iv 1000000000]) (by kernel_rfl) (smithyardref7_within_c (a0:=a2) (a1:=0) (a2:=1000000000)  hy2)) ?_
  rintro _ _ _ _ ⟨_,rfl,rfl,rfl,rfl⟩
  refine Rd 3 [1,2,3,6,26] [(1,.slice Aa1 a1.length ca1),(2,iv a2),(3,pg g1 0),(6,pg g2 0),(26,.bool (!y2))] ?_
  rcases bool_cases (!y2) with hb2 | hb2
  ·replace heq:=bif_true hb2 heq
   refine Ct (!y2) hb2<|Ra 1 [1,1,0,1,0,0] [.c [1,1,0,1,0,1],.c [1,1,1]]<|Rk 1 [6,27] [(6,pg g2 0),(27,.agg #[iv 0,iv 0,.slice none 0 0,.slice none 0 0])] ?_
   refine RgH.does (DoesH.store (k:=0) (g:=g2) (off:=0) (v:=.agg #[iv 0,iv 0,.slice none 0 0,.slice none 0 0]) (cells':=#[iv 0,iv 0,.slice none 0 0,.slice none 0 0]) (by kernel_rfl) rfl (by kernel_rfl) (by kernel_rfl)) ?_
   rintro _ _ _ _ ⟨rfl,rfl,rfl⟩
   refine Rd 4 [6,7,8] [(6,pg g2 0),(7,.slice none 0 0),(8,iv 1)]<|RunH.nilc ?_
   have ho4:SlOwn kBlob 47 H none 0 ([]:List Blob) none:=SlOwn.nil
   refine RunH.nilc ?_
   have ho5:SlOwn kEntry 51 H none 0 ([]:List Entry) none:=SlOwn.nil
   refine RunH.nilc ?_
   have ho6:SlOwn Kd.string 9 H none 0 ([]:List ByteArray) none:=SlOwn.nil
   obtain rfl:=Option.some.inj heq
   refine RunH.pick 5 [3,2,1,0] (cs':=(some (g2,.cells #[iv 0,iv 0,.slice none 0 0,.slice none 0 0] 25 (0,0)))::none::none::none::F) (by kernel_rfl) rfl ?_
   exact RunH.doneM' 1 (vs:=[.agg #[iv 0,iv 0,.slice none 0 0,.slice none 0 0],.slice none 0 0,iv 1]) (v:=.tuple #[.agg #[iv 0,iv 0,.slice none 0 0,.slice none 0 0],.slice none 0 0,iv 1]) (by kernel_rfl) Tryd.func43 (fun w hh=>show ResAll _ _ _ [.cell 6 25,.tmp 7,.tmp 8] _ from ⟨⟨⟨g2,0,none⟩,by kernel_rfl,trS_run _ (vs:=[iv 0,iv 0,.slice none 0 0,.slice none 0 0]) (r:=[]) (es:=[.load ⟨g2,0,none⟩ (iv 0),.load ⟨g2,1,none⟩ (iv 0),.load ⟨g2,2,none⟩ (.slice none 0 0),.load ⟨g2,3,none⟩ (.slice none 0 0)]) (by kernel_rfl) ⟨(hh.box 0 rfl rfl),(hh.box 0 rfl rfl),(hh.box 0 rfl rfl),(hh.box 0 rfl rfl)⟩⟩,(show lk _ _=some _ by kernel_rfl),(show lk _ _=some _ by kernel_rfl),trivial⟩) rfl (cs':=none::none::none::F) rfl ⟨none,0,none,none,0,none,none,0,none,rfl,rfl,ho4,ho5,ho6⟩
  ·replace heq:=bif_false hb2 heq
   refine Cf (!y2) hb2<|Ra 3 [1,1,1,0,0] [.c [1,1,1,0,1],.c [1,1,1,1]]<|Rd 3 [1,2,3,6,30] [(1,.slice Aa1 a1.length ca1),(2,iv a2),(3,pg g1 0),(6,pg g2 0),(30,.bool (decide (3000<(a1.length:Int))))] ?_
   rcases bool_cases (decide (3000<(a1.length:Int))) with hb3 | hb3
   ·replace heq:=bif_true hb3 heq
    refine Ct (decide (3000<(a1.length:Int))) hb3<|Ra 1 [1,1,1,0,1,0,0] [.c [1,1,1,0,1,0,1],.c [1,1,1,1]]<|Rk 1 [6,31] [(6,pg g2 0),(31,.agg #[iv 0,iv 0,.slice none 0 0,.slice none 0 0])] ?_
    refine RgH.does (DoesH.store (k:=0) (g:=g2) (off:=0) (v:=.agg #[iv 0,iv 0,.slice none 0 0,.slice none 0 0]) (cells':=#[iv 0,iv 0,.slice none 0 0,.slice none 0 0]) (by kernel_rfl) rfl (by kernel_rfl) (by kernel_rfl)) ?_
    rintro _ _ _ _ ⟨rfl,rfl,rfl⟩
    refine Rd 4 [6,7,8] [(6,pg g2 0),(7,.slice none 0 0),(8,iv 2)]<|RunH.nilc ?_
    have ho7:SlOwn kBlob 47 H none 0 ([]:List Blob) none:=SlOwn.nil
    refine RunH.nilc ?_
    have ho8:SlOwn kEntry 51 H none 0 ([]:List Entry) none:=SlOwn.nil
    refine RunH.nilc ?_
    have ho9:SlOwn Kd.string 9 H none 0 ([]:List ByteArray) none:=SlOwn.nil
    obtain rfl:=Option.some.inj heq
    refine RunH.pick 5 [3,2,1,0] (cs':=(some (g2,.cells #[iv 0,iv 0,.slice none 0 0,.slice none 0 0] 25 (0,0)))::none::none::none::F) (by kernel_rfl) rfl ?_
    exact RunH.doneM' 1 (vs:=[.agg #[iv 0,iv 0,.slice none 0 0,.slice none 0 0],.slice none 0 0,iv 2]) (v:=.tuple #[.agg #[iv 0,iv 0,.slice none 0 0,.slice none 0 0],.slice none 0 0,iv 2]) (by kernel_rfl) Tryd.func43 (fun w hh=>show ResAll _ _ _ [.cell 6 25,.tmp 7,.tmp 8] _ from ⟨⟨⟨g2,0,none⟩,by kernel_rfl,trS_run _ (vs:=[iv 0,iv 0,.slice none 0 0,.slice none 0 0]) (r:=[]) (es:=[.load ⟨g2,0,none⟩ (iv 0),.load ⟨g2,1,none⟩ (iv 0),.load ⟨g2,2,none⟩ (.slice none 0 0),.load ⟨g2,3,none⟩ (.slice none 0 0)]) (by kernel_rfl) ⟨(hh.box 0 rfl rfl),(hh.box 0 rfl rfl),(hh.box 0 rfl rfl),(hh.box 0 rfl rfl)⟩⟩,(show lk _ _=some _ by kernel_rfl),(show lk _ _=some _ by kernel_rfl),trivial⟩) rfl (cs':=none::none::none::F) rfl ⟨none,0,none,none,0,none,none,0,none,rfl,rfl,ho7,ho8,ho9⟩
   ·replace heq:=bif_false hb3 heq
    refine Cf (decide (3000<(a1.length:Int))) hb3<|Ra 3 [1,1,1,1,0,0] [.c [1,1,1,1,0,1],.c [1,1,1,1,1]]<|Rk 1 [1,2,3,6,32] [(1,.slice Aa1 a1.length ca1),(2,iv a2),(3,pg g1 0),(6,pg g2 0),(32,.slice Aa1 a1.length ca1)] ?_
    obtain ⟨y3,hy3,heq⟩:=bind_some heq
    refine RgH.does (DoesH.call (d:=33) (g:=65) (args:=#[.slice Aa1 a1.length ca1]) (by kernel_rfl) (smithyardref7_rising_c (a0:=a1) (hra1.wk (fun _ h=>(.tail _ (.tail _ h)))) hca1 rfl hy3)) ?_
    rintro _ _ _ _ ⟨_,rfl,rfl,rfl,rfl⟩
    refine Rd 3 [1,2,3,6,10] [(1,.slice Aa1 a1.length ca1),(2,iv a2),(3,pg g1 0),(6,pg g2 0),(10,iv y3)]<|Ra 1 [1,1,1,1,0,1,0] [.c [1,1,1,1,0,1,1],.c [1,1,1,1,1]]<|Rd 2 [1,2,3,6,10,35] [(1,.slice Aa1 a1.length ca1),(2,iv a2),(3,pg g1 0),(6,pg g2 0),(10,iv y3),(35,.bool (y3 != 0))] ?_
    rcases bool_cases (y3 != 0) with hb4 | hb4
    ·replace heq:=bif_true hb4 heq
     refine Ct (y3 != 0) hb4<|Ra 1 [1,1,1,1,0,1,1,0,0] [.c [1,1,1,1,0,1,1,0,1],.c [1,1,1,1,1]]<|Rk 2 [6,36,37] [(6,pg g2 0),(36,.agg #[iv 0,iv 0,.slice none 0 0,.slice none 0 0]),(37,iv y3)] ?_
     refine RgH.does (DoesH.store (k:=0) (g:=g2) (off:=0) (v:=.agg #[iv 0,iv 0,.slice none 0 0,.slice none 0 0]) (cells':=#[iv 0,iv 0,.slice none 0 0,.slice none 0 0]) (by kernel_rfl) rfl (by kernel_rfl) (by kernel_rfl)) ?_
     rintro _ _ _ _ ⟨rfl,rfl,rfl⟩
     refine Rd 5 [6,7,8] [(6,pg g2 0),(7,.slice none 0 0),(8,iv y3)]<|RunH.nilc ?_
     have ho10:SlOwn kBlob 47 H none 0 ([]:List Blob) none:=SlOwn.nil
     refine RunH.nilc ?_
     have ho11:SlOwn kEntry 51 H none 0 ([]:List Entry) none:=SlOwn.nil
     refine RunH.nilc ?_
     have ho12:SlOwn Kd.string 9 H none 0 ([]:List ByteArray) none:=SlOwn.nil
     obtain rfl:=Option.some.inj heq
     refine RunH.pick 5 [3,2,1,0] (cs':=(some (g2,.cells #[iv 0,iv 0,.slice none 0 0,.slice none 0 0] 25 (0,0)))::none::none::none::F) (by kernel_rfl) rfl ?_
     exact RunH.doneM' 1 (vs:=[.agg #[iv 0,iv 0,.slice none 0 0,.slice none 0 0],.slice none 0 0,iv y3]) (v:=.tuple #[.agg #[iv 0,iv 0,.slice none 0 0,.slice none 0 0],.slice none 0 0,iv y3]) (by kernel_rfl) Tryd.func43 (fun w hh=>show ResAll _ _ _ [.cell 6 25,.tmp 7,.tmp 8] _ from ⟨⟨⟨g2,0,none⟩,by kernel_rfl,trS_run _ (vs:=[iv 0,iv 0,.slice none 0 0,.slice none 0 0]) (r:=[]) (es:=[.load ⟨g2,0,none⟩ (iv 0),.load ⟨g2,1,none⟩ (iv 0),.load ⟨g2,2,none⟩ (.slice none 0 0),.load ⟨g2,3,none⟩ (.slice none 0 0)]) (by kernel_rfl) ⟨(hh.box 0 rfl rfl),(hh.box 0 rfl rfl),(hh.box 0 rfl rfl),(hh.box 0 rfl rfl)⟩⟩,(show lk _ _=some _ by kernel_rfl),(show lk _ _=some _ by kernel_rfl),trivial⟩) rfl (cs':=none::none::none::F) rfl ⟨none,0,none,none,0,none,none,0,none,rfl,rfl,ho10,ho11,ho12⟩
    ·replace heq:=bif_false hb4 heq
     refine Cf (y3 != 0) hb4<|Ra 2 [1,1,1,1,1,0] [.c [1,1,1,1,1,1]]<|Rv 1 [1,2,3,6,38] [iv a0.Room,iv a0.Lease,.slice Aa0_2 a0.Blobs.length ca0_2,.slice Aa0_3 a0.Entries.length ca0_3] [.load ⟨g1,0,none⟩ (iv a0.Room),.load ⟨g1,1,none⟩ (iv a0.Lease),.load ⟨g1,2,none⟩ (.slice Aa0_2 a0.Blobs.length ca0_2),.load ⟨g1,3,none⟩ (.slice Aa0_3 a0.Entries.length ca0_3)] [(1,.slice Aa1 a1.length ca1),(2,iv a2),(3,pg g1 0),(6,pg g2 0),(38,.agg #[iv a0.Room,iv a0.Lease,.slice Aa0_2 a0.Blobs.length ca0_2,.slice Aa0_3 a0.Entries.length ca0_3])] (fun w hh=>⟨(hh.box 1 rfl rfl),(hh.box 1 rfl rfl),(hh.box 1 rfl rfl),(hh.box 1 rfl rfl)⟩) ?_
     obtain ⟨y4,hy4,heq⟩:=bind_some heq
     refine RgH.does (DoesH.call (d:=39) (g:=82) (args:=#[.agg #[iv a0.Room,iv a0.Lease,.slice Aa0_2 a0.Blobs.length ca0_2,.slice Aa0_3 a0.Entries.length ca0_3]]) (by kernel_rfl) (smithyardref7_copied_c (a0:=a0) (hra0_2.wk (fun _ h=>(.tail _ (.tail _ h)))) hca0_2 rfl (hra0_3.wk (fun _ h=>(.tail _ (.tail _ h)))) hca0_3 rfl hy4)) ?_
     rintro _ H _ hl ⟨_,rfl,g3,A1,c1,ch1,A2,c2,ch2,rfl,rfl,ho13,ho14⟩
     replace hra1:=hra1.mono hl
     replace hra0_2:=hra0_2.mono hl
     replace hra0_3:=hra0_3.mono hl
     refine Rd 3 [1,2,3,6,11] [(1,.slice Aa1 a1.length ca1),(2,iv a2),(3,pg g1 0),(6,pg g2 0),(11,pg g3 0)]<|Ra 1 [1,1,1,1,1,1,0] [.c [1,1,1,1,1,1,1]]<|Rd 1 [1,2,3,6,11,12] [(1,.slice Aa1 a1.length ca1),(2,iv a2),(3,pg g1 0),(6,pg g2 0),(11,pg g3 0),(12,.slice none 0 0)]<|Ra 1 [1,1,1,1,1,1,1,0] [.c [1,1,1,1,1,1,1,1]]<|Rd 1 [1,2,3,6,11,12,13] [(1,.slice Aa1 a1.length ca1),(2,iv a2),(3,pg g1 0),(6,pg g2 0),(11,pg g3 0),(12,.slice none 0 0),(13,.slice none 0 0)]<|Ra 1 [1,1,1,1,1,1,1,1,0] [.c [1,1,1,1,1,1,1,1,1]]<|Rk 2 [1,2,3,6,11,12,40,41] [(1,.slice Aa1 a1.length ca1),(2,iv a2),(3,pg g1 0),(6,pg g2 0),(11,pg g3 0),(12,.slice none 0 0),(40,.slice none 0 0),(41,.slice Aa1 a1.length ca1)]<|RgH.nilc ?_
     have ho15:SlOwn Kd.string 9 H none 0 ([]:List ByteArray) none:=SlOwn.nil
     obtain ⟨hn1,heq⟩:=guard?_some heq
     refine RgH.does (DoesH.append (d:=42) (k:=0) (t:=34) (e:=9) (bytes:=16) (kd:=Kd.string) (n:=0) (m:=a1.length) (xs:=([]:List ByteArray)) (ys:=a1) (A:=none) (B:=Aa1) (c:=0) (cB:=ca1) (by kernel_rfl) rfl rfl (by kernel_rfl) rfl ho15 (fun w hh=>hra1.rdb (hh.drop 6)) (room_le hn1) (by have:=room_le hn1; omega)) ?_
     rintro _ _ _ _ ⟨A3,c3,ch3,rfl,rfl,rfl,ho16⟩
     refine Rd 4 [1,2,3,6,11,12,13] [(1,.slice Aa1 a1.length ca1),(2,iv a2),(3,pg g1 0),(6,pg g2 0),(11,pg g3 0),(12,.slice none 0 0),(13,.slice A3 ((([]:List ByteArray)++a1).length) c3)]<|Ra 2 [1,1,1,1,1,1,1,1,1,0,0] [.c [1,1,1,1,1,1,1,1,1,0,1],.c [1,1,1,1,1,1,1,1,1,1]]<|Rd 1 [1,2,3,6,11,12,13,14] [(1,.slice Aa1 a1.length ca1),(2,iv a2),(3,pg g1 0),(6,pg g2 0),(11,pg g3 0),(12,.slice none 0 0),(13,.slice A3 ((([]:List ByteArray)++a1).length) c3),(14,iv 0)]<|Ad 2 [.c [1,1,1,1,1,1,1,1,1,0,1,0,0],.l [1,1,1,1,1,1,1,1,1,0,1,0,0],.b 0,.c [1,1,1,1,1,1,1,1,1,1]]<|RunH.nilc ?_
     have ho27:SlOwn kEntry 51 H none 0 ([]:List Entry) none:=SlOwn.nil
     refine Kp [1,2,3,6,11,12,13,14] [(1,.slice Aa1 a1.length ca1),(2,iv a2),(3,pg g1 0),(6,pg g2 0),(11,pg g3 0),(12,.slice none 0 0),(13,.slice A3 ((([]:List ByteArray)++a1).length) c3),(14,iv 0)] ?_
     exact ((smithyardref7_Swept.l5_c (e1:=smithyardref7_Swept.e1) (smithyardref7_Swept.e1_c)) big) _ a0 _ _ _ _ a1 _ _ a2 _ _ y4 _ _ _ _ _ _ _ ([]:List Entry) _ _ _ _ (([]:List ByteArray)++a1) _ _ _ _ 0 hra0_2 hca0_2 hra0_3 hca0_3 hra1 hca1 ho13 ho14 ho27 rfl ho16 rfl heq
noncomputable def C44:Ctx:={ P:=Tryd.prog,f:=44,N:=48,c:=bodyOf Tryd.f44 }
def S44 (F:List Ch) (H0:Hp) (r:Cache × (List ByteArray) × Int) (v:Value) (H:Hp) (cs:List Ch):Prop:=∃ (A0_2:Option Addr) (c0_2:Nat) (ch0_2:Ch) (A0_3:Option Addr) (c0_3:Nat) (ch0_3:Ch) (A1:Option Addr) (c1:Nat) (ch1:Ch),v=.tuple #[.agg #[iv r.1.Room,iv r.1.Lease,.slice A0_2 r.1.Blobs.length c0_2,.slice A0_3 r.1.Entries.length c0_3],.slice A1 r.2.1.length c1,iv r.2.2]∧ch0_2::ch0_3::ch1::F=cs∧SlOwn kBlob 47 H A0_2 c0_2 r.1.Blobs ch0_2∧SlOwn kEntry 51 H A0_3 c0_3 r.1.Entries ch0_3∧SlOwn Kd.string 9 H A1 c1 r.2.1 ch1
theorem smithyardref7_Shrunk_c {w0:World} {H0:Hp} {F:List Ch} {a0:Cache} {Aa0_2:Option Addr} {na0_2:Nat} {ca0_2:Nat} {Aa0_3:Option Addr} {na0_3:Nat} {ca0_3:Nat} {a1:Int} {a2:Int} {r:Cache × (List ByteArray) × Int} (hra0_2:Rw kBlob H0 F Aa0_2 a0.Blobs) (hca0_2:na0_2≤ca0_2) (hna0_2:na0_2=a0.Blobs.length) (hra0_3:Rw kEntry H0 F Aa0_3 a0.Entries) (hca0_3:na0_3≤ca0_3) (hna0_3:na0_3=a0.Entries.length) (heq:smithyardref7_Shrunk.f a0 a1 a2=some r):CallsH Tryd.prog 44 #[.agg #[iv a0.Room,iv a0.Lease,.slice Aa0_2 na0_2 ca0_2,.slice Aa0_3 na0_3 ca0_3],iv a1,iv a2] H0 w0 (F) (S44 F H0 r):=by
 refine calls_of_runH (F:=C44) Tryd.func44 (by kernel_rfl) Tryd.ntmps44 (args:=[.agg #[iv a0.Room,iv a0.Lease,.slice Aa0_2 na0_2 ca0_2,.slice Aa0_3 na0_3 ca0_3],iv a1,iv a2]) (by kernel_rfl) ?_
 subst hna0_2
 subst hna0_3
 unfold smithyardref7_Shrunk.f at heq
 suffices key:∀ (H:Hp),Rw kBlob H F Aa0_2 a0.Blobs→Rw kEntry H F Aa0_3 a0.Entries→RunH C44 (S44 F H0 r) H0 w0 [.c []] (argL 0 [.agg #[iv a0.Room,iv a0.Lease,.slice Aa0_2 (a0.Blobs.length) ca0_2,.slice Aa0_3 (a0.Entries.length) ca0_3],iv a1,iv a2]) H (F) from key H0 hra0_2 hra0_3
 intro H hra0_2 hra0_3
 refine Ra 1 [0] [.c [1]] ?_
 refine RgH.does (DoesH.new (d:=3) (v:=fun g=>.pointer (some ⟨g,0,none⟩)) (o:=fun g=>.cells #[iv a0.Room,iv a0.Lease,.slice Aa0_2 a0.Blobs.length ca0_2,.slice Aa0_3 a0.Entries.length ca0_3] 25 (0,0)) (fun g=>by kernel_rfl)) ?_
 rintro _ _ _ _ ⟨g1,rfl,rfl,rfl⟩
 refine RgH.does (DoesH.new (d:=6) (v:=fun g=>.pointer (some ⟨g,0,none⟩)) (o:=fun g=>.cells #[iv 0,iv 0,.slice none 0 0,.slice none 0 0] 25 (0,0)) (fun g=>by kernel_rfl)) ?_
 rintro _ _ _ _ ⟨g2,rfl,rfl,rfl⟩
 refine Rd 4 [1,2,3,6] [(1,iv a1),(2,iv a2),(3,pg g1 0),(6,pg g2 0)]<|Ra 2 [1,0,0] [.c [1,0,1],.c [1,1]]<|Rv 1 [1,2,3,6,13] [iv a0.Room,iv a0.Lease,.slice Aa0_2 a0.Blobs.length ca0_2,.slice Aa0_3 a0.Entries.length ca0_3] [.load ⟨g1,0,none⟩ (iv a0.Room),.load ⟨g1,1,none⟩ (iv a0.Lease),.load ⟨g1,2,none⟩ (.slice Aa0_2 a0.Blobs.length ca0_2),.load ⟨g1,3,none⟩ (.slice Aa0_3 a0.Entries.length ca0_3)] [(1,iv a1),(2,iv a2),(3,pg g1 0),(6,pg g2 0),(13,.agg #[iv a0.Room,iv a0.Lease,.slice Aa0_2 a0.Blobs.length ca0_2,.slice Aa0_3 a0.Entries.length ca0_3])] (fun w hh=>⟨(hh.box 1 rfl rfl),(hh.box 1 rfl rfl),(hh.box 1 rfl rfl),(hh.box 1 rfl rfl)⟩) ?_
 obtain ⟨y1,hy1,heq⟩:=bind_some heq
 refine RgH.does (DoesH.call (d:=14) (g:=23) (args:=#[.agg #[iv a0.Room,iv a0.Lease,.slice Aa0_2 a0.Blobs.length ca0_2,.slice Aa0_3 a0.Entries.length ca0_3]]) (by kernel_rfl) (smithyardref7_CheckCache_c (a0:=a0) (hra0_2.wk (fun _ h=>(.tail _ (.tail _ h)))) hca0_2 rfl (hra0_3.wk (fun _ h=>(.tail _ (.tail _ h)))) hca0_3 rfl hy1)) ?_
 rintro _ _ _ _ ⟨_,rfl,rfl,rfl,rfl⟩
 refine Rd 3 [1,2,3,6,9] [(1,iv a1),(2,iv a2),(3,pg g1 0),(6,pg g2 0),(9,iv y1)]<|Ra 1 [1,0,1,0] [.c [1,0,1,1],.c [1,1]]<|Rd 2 [1,2,3,6,9,16] [(1,iv a1),(2,iv a2),(3,pg g1 0),(6,pg g2 0),(9,iv y1),(16,.bool (y1 != 0))] ?_
 rcases bool_cases (y1 != 0) with hb1 | hb1
 ·replace heq:=bif_true hb1 heq
  refine Ct (y1 != 0) hb1<|Ra 1 [1,0,1,1,0,0] [.c [1,0,1,1,0,1],.c [1,1]]<|Rk 2 [6,17,18] [(6,pg g2 0),(17,.agg #[iv 0,iv 0,.slice none 0 0,.slice none 0 0]),(18,iv y1)] ?_
  refine RgH.does (DoesH.store (k:=0) (g:=g2) (off:=0) (v:=.agg #[iv 0,iv 0,.slice none 0 0,.slice none 0 0]) (cells':=#[iv 0,iv 0,.slice none 0 0,.slice none 0 0]) (by kernel_rfl) rfl (by kernel_rfl) (by kernel_rfl)) ?_
  rintro _ _ _ _ ⟨rfl,rfl,rfl⟩
  refine Rd 5 [6,7,8] [(6,pg g2 0),(7,.slice none 0 0),(8,iv y1)]<|RunH.nilc ?_
  have ho1:SlOwn kBlob 47 H none 0 ([]:List Blob) none:=SlOwn.nil
  refine RunH.nilc ?_
  have ho2:SlOwn kEntry 51 H none 0 ([]:List Entry) none:=SlOwn.nil
  refine RunH.nilc ?_
  have ho3:SlOwn Kd.string 9 H none 0 ([]:List ByteArray) none:=SlOwn.nil
  obtain rfl:=Option.some.inj heq
  refine RunH.pick 5 [3,2,1,0] (cs':=(some (g2,.cells #[iv 0,iv 0,.slice none 0 0,.slice none 0 0] 25 (0,0)))::none::none::none::F) (by kernel_rfl) rfl ?_
  exact RunH.doneM' 1 (vs:=[.agg #[iv 0,iv 0,.slice none 0 0,.slice none 0 0],.slice none 0 0,iv y1]) (v:=.tuple #[.agg #[iv 0,iv 0,.slice none 0 0,.slice none 0 0],.slice none 0 0,iv y1]) (by kernel_rfl) Tryd.func44 (fun w hh=>show ResAll _ _ _ [.cell 6 25,.tmp 7,.tmp 8] _ from ⟨⟨⟨g2,0,none⟩,by kernel_rfl,trS_run _ (vs:=[iv 0,iv 0,.slice none 0 0,.slice none 0 0]) (r:=[]) (es:=[.load ⟨g2,0,none⟩ (iv 0),.load ⟨g2,1,none⟩ (iv 0),.load ⟨g2,2,none⟩ (.slice none 0 0),.load ⟨g2,3,none⟩ (.slice none 0 0)]) (by kernel_rfl) ⟨(hh.box 0 rfl rfl),(hh.box 0 rfl rfl),(hh.box 0 rfl rfl),(hh.box 0 rfl rfl)⟩⟩,(show lk _ _=some _ by kernel_rfl),(show lk _ _=some _ by kernel_rfl),trivial⟩) rfl (cs':=none::none::none::F) rfl ⟨none,0,none,none,0,none,none,0,none,rfl,rfl,ho1,ho2,ho3⟩
 ·replace heq:=bif_false hb1 heq
  refine Cf (y1 != 0) hb1<|Ad 3 [.c [1,1,0,0],.c [1,1,0,1],.c [1,1,1]] ?_
  obtain ⟨t1,ht1,heq⟩:=bind_some heq
  have K6:∀ (H:Hp),Rw kBlob H F Aa0_2 a0.Blobs→Rw kEntry H F Aa0_3 a0.Entries→RunH C44 (S44 F H0 r) H0 w0 [.c [1,1,0,1],.c [1,1,1]] [(1,iv a1),(2,iv a2),(3,pg g1 0),(6,pg g2 0),(26,.bool t1)] H ((some (g2,.cells #[iv 0,iv 0,.slice none 0 0,.slice none 0 0] 25 (0,0)))::(some (g1,.cells #[iv a0.Room,iv a0.Lease,.slice Aa0_2 a0.Blobs.length ca0_2,.slice Aa0_3 a0.Entries.length ca0_3] 25 (0,0)))::F):=by
   intro H hra0_2 hra0_3
   rcases bool_cases (t1) with hb3 | hb3
   ·replace heq:=bif_true hb3 heq
    refine Ct t1 hb3<|Ra 1 [1,1,0,1,0,0] [.c [1,1,0,1,0,1],.c [1,1,1]]<|Rk 1 [6,27] [(6,pg g2 0),(27,.agg #[iv 0,iv 0,.slice none 0 0,.slice none 0 0])] ?_
    refine RgH.does (DoesH.store (k:=0) (g:=g2) (off:=0) (v:=.agg #[iv 0,iv 0,.slice none 0 0,.slice none 0 0]) (cells':=#[iv 0,iv 0,.slice none 0 0,.slice none 0 0]) (by kernel_rfl) rfl (by kernel_rfl) (by kernel_rfl)) ?_
    rintro _ _ _ _ ⟨rfl,rfl,rfl⟩
    refine Rd 4 [6,7,8] [(6,pg g2 0),(7,.slice none 0 0),(8,iv 1)]<|RunH.nilc ?_
    have ho4:SlOwn kBlob 47 H none 0 ([]:List Blob) none:=SlOwn.nil
    refine RunH.nilc ?_
    have ho5:SlOwn kEntry 51 H none 0 ([]:List Entry) none:=SlOwn.nil
    refine RunH.nilc ?_
    have ho6:SlOwn Kd.string 9 H none 0 ([]:List ByteArray) none:=SlOwn.nil
    obtain rfl:=Option.some.inj heq
    refine RunH.pick 5 [3,2,1,0] (cs':=(some (g2,.cells #[iv 0,iv 0,.slice none 0 0,.slice none 0 0] 25 (0,0)))::none::none::none::F) (by kernel_rfl) rfl ?_
    exact RunH.doneM' 1 (vs:=[.agg #[iv 0,iv 0,.slice none 0 0,.slice none 0 0],.slice none 0 0,iv 1]) (v:=.tuple #[.agg #[iv 0,iv 0,.slice none 0 0,.slice none 0 0],.slice none 0 0,iv 1]) (by kernel_rfl) Tryd.func44 (fun w hh=>show ResAll _ _ _ [.cell 6 25,.tmp 7,.tmp 8] _ from ⟨⟨⟨g2,0,none⟩,by kernel_rfl,trS_run _ (vs:=[iv 0,iv 0,.slice none 0 0,.slice none 0 0]) (r:=[]) (es:=[.load ⟨g2,0,none⟩ (iv 0),.load ⟨g2,1,none⟩ (iv 0),.load ⟨g2,2,none⟩ (.slice none 0 0),.load ⟨g2,3,none⟩ (.slice none 0 0)]) (by kernel_rfl) ⟨(hh.box 0 rfl rfl),(hh.box 0 rfl rfl),(hh.box 0 rfl rfl),(hh.box 0 rfl rfl)⟩⟩,(show lk _ _=some _ by kernel_rfl),(show lk _ _=some _ by kernel_rfl),trivial⟩) rfl (cs':=none::none::none::F) rfl ⟨none,0,none,none,0,none,none,0,none,rfl,rfl,ho4,ho5,ho6⟩
   ·replace heq:=bif_false hb3 heq
    refine Cf t1 hb3<|Ra 2 [1,1,1,0] [.c [1,1,1,1]]<|Rv 1 [1,2,6,28] [iv a0.Room,iv a0.Lease,.slice Aa0_2 a0.Blobs.length ca0_2,.slice Aa0_3 a0.Entries.length ca0_3] [.load ⟨g1,0,none⟩ (iv a0.Room),.load ⟨g1,1,none⟩ (iv a0.Lease),.load ⟨g1,2,none⟩ (.slice Aa0_2 a0.Blobs.length ca0_2),.load ⟨g1,3,none⟩ (.slice Aa0_3 a0.Entries.length ca0_3)] [(1,iv a1),(2,iv a2),(6,pg g2 0),(28,.agg #[iv a0.Room,iv a0.Lease,.slice Aa0_2 a0.Blobs.length ca0_2,.slice Aa0_3 a0.Entries.length ca0_3])] (fun w hh=>⟨(hh.box 1 rfl rfl),(hh.box 1 rfl rfl),(hh.box 1 rfl rfl),(hh.box 1 rfl rfl)⟩) ?_
    obtain ⟨y4,hy4,heq⟩:=bind_some heq
    refine RgH.does (DoesH.call (d:=29) (g:=82) (args:=#[.agg #[iv a0.Room,iv a0.Lease,.slice Aa0_2 a0.Blobs.length ca0_2,.slice Aa0_3 a0.Entries.length ca0_3]]) (by kernel_rfl) (smithyardref7_copied_c (a0:=a0) (hra0_2.wk (fun _ h=>(.tail _ (.tail _ h)))) hca0_2 rfl (hra0_3.wk (fun _ h=>(.tail _ (.tail _ h)))) hca0_3 rfl hy4)) ?_
    rintro _ H _ hl ⟨_,rfl,g3,A1,c1,ch1,A2,c2,ch2,rfl,rfl,ho7,ho8⟩
    replace hra0_2:=hra0_2.mono hl
    replace hra0_3:=hra0_3.mono hl
    refine Rd 3 [1,2,6,10] [(1,iv a1),(2,iv a2),(6,pg g2 0),(10,pg g3 0)]<|Ra 1 [1,1,1,1,0] [.c [1,1,1,1,1]]<|Rk 3 [1,6,10,31,32,33] [(1,iv a1),(6,pg g2 0),(10,pg g3 0),(31,pg g3 0),(32,iv a1),(33,iv a2)] ?_
    obtain ⟨y5,hy5,heq⟩:=bind_some heq
    refine RgH.does (DoesH.call (d:=34) (g:=88) (args:=#[.pointer (some ⟨g3,0,none⟩),iv a1,iv a2]) (by kernel_rfl) (smithyardref7_space_c (a0:=(⟨y4.Room,y4.Lease,y4.Blobs,y4.Entries⟩:Cache)) (a1:=a1) (a2:=a2) ho7 rfl ho8 rfl hy5)) ?_
    rintro _ _ _ _ ⟨_,rfl,A3,c3,ch3,A4,c4,ch4,A5,c5,ch5,rfl,rfl,rfl,ho9,ho10,ho11⟩
    refine Rd 9 [1,6,10,11,12] [(1,iv a1),(6,pg g2 0),(10,pg g3 0),(11,.slice A3 y5.1.length c3),(12,.bool y5.2.1)]<|Ra 2 [1,1,1,1,1,0,0] [.c [1,1,1,1,1,0,1],.c [1,1,1,1,1,1]]<|Rd 2 [1,6,10,11,38] [(1,iv a1),(6,pg g2 0),(10,pg g3 0),(11,.slice A3 y5.1.length c3),(38,.bool (!y5.2.1))] ?_
    rcases bool_cases (!y5.2.1) with hb4 | hb4
    ·replace heq:=bif_true hb4 heq
     refine Ct (!y5.2.1) hb4<|Ra 1 [1,1,1,1,1,0,1,0,0] [.c [1,1,1,1,1,0,1,0,1],.c [1,1,1,1,1,1]]<|Rk 1 [6,39] [(6,pg g2 0),(39,.agg #[iv 0,iv 0,.slice none 0 0,.slice none 0 0])] ?_
     refine RgH.does (DoesH.store (k:=4) (g:=g2) (off:=0) (v:=.agg #[iv 0,iv 0,.slice none 0 0,.slice none 0 0]) (cells':=#[iv 0,iv 0,.slice none 0 0,.slice none 0 0]) (by kernel_rfl) rfl (by kernel_rfl) (by kernel_rfl)) ?_
     rintro _ _ _ _ ⟨rfl,rfl,rfl⟩
     refine Rd 4 [6,7,8] [(6,pg g2 0),(7,.slice none 0 0),(8,iv 16)]<|RunH.nilc ?_
     have ho12:SlOwn kBlob 47 H none 0 ([]:List Blob) none:=SlOwn.nil
     refine RunH.nilc ?_
     have ho13:SlOwn kEntry 51 H none 0 ([]:List Entry) none:=SlOwn.nil
     refine RunH.nilc ?_
     have ho14:SlOwn Kd.string 9 H none 0 ([]:List ByteArray) none:=SlOwn.nil
     obtain rfl:=Option.some.inj heq
     refine RunH.pick 9 [7,2,1,0] (cs':=(some (g2,.cells #[iv 0,iv 0,.slice none 0 0,.slice none 0 0] 25 (0,0)))::none::none::none::F) (by kernel_rfl) rfl ?_
     exact RunH.doneM' 1 (vs:=[.agg #[iv 0,iv 0,.slice none 0 0,.slice none 0 0],.slice none 0 0,iv 16]) (v:=.tuple #[.agg #[iv 0,iv 0,.slice none 0 0,.slice none 0 0],.slice none 0 0,iv 16]) (by kernel_rfl) Tryd.func44 (fun w hh=>show ResAll _ _ _ [.cell 6 25,.tmp 7,.tmp 8] _ from ⟨⟨⟨g2,0,none⟩,by kernel_rfl,trS_run _ (vs:=[iv 0,iv 0,.slice none 0 0,.slice none 0 0]) (r:=[]) (es:=[.load ⟨g2,0,none⟩ (iv 0),.load ⟨g2,1,none⟩ (iv 0),.load ⟨g2,2,none⟩ (.slice none 0 0),.load ⟨g2,3,none⟩ (.slice none 0 0)]) (by kernel_rfl) ⟨(hh.box 0 rfl rfl),(hh.box 0 rfl rfl),(hh.box 0 rfl rfl),(hh.box 0 rfl rfl)⟩⟩,(show lk _ _=some _ by kernel_rfl),(show lk _ _=some _ by kernel_rfl),trivial⟩) rfl (cs':=none::none::none::F) rfl ⟨none,0,none,none,0,none,none,0,none,rfl,rfl,ho12,ho13,ho14⟩
    ·replace heq:=bif_false hb4 heq
     refine Cf (!y5.2.1) hb4<|Ra 2 [1,1,1,1,1,1,0] [.c [1,1,1,1,1,1,1]]<|Rk 4 [6,10,11,41,43] [(6,pg g2 0),(10,pg g3 0),(11,.slice A3 y5.1.length c3),(41,iv a1),(43,pg g3 0)] ?_
     refine RgH.does (DoesH.store (k:=1) (g:=g3) (off:=0) (v:=iv a1) (cells':=#[iv a1,iv y5.2.2.Lease,.slice A4 y5.2.2.Blobs.length c4,.slice A5 y5.2.2.Entries.length c5]) (by kernel_rfl) rfl (by kernel_rfl) (by kernel_rfl)) ?_
     rintro _ _ _ _ ⟨rfl,rfl,rfl⟩
     refine Dn<|Ra 1 [1,1,1,1,1,1,1,0] [.c [1,1,1,1,1,1,1,1]]<|Rv 4 [6,46,47] [iv a1,iv y5.2.2.Lease,.slice A4 y5.2.2.Blobs.length c4,.slice A5 y5.2.2.Entries.length c5] [.load ⟨g3,0,none⟩ (iv a1),.load ⟨g3,1,none⟩ (iv y5.2.2.Lease),.load ⟨g3,2,none⟩ (.slice A4 y5.2.2.Blobs.length c4),.load ⟨g3,3,none⟩ (.slice A5 y5.2.2.Entries.length c5)] [(6,pg g2 0),(46,.agg #[iv a1,iv y5.2.2.Lease,.slice A4 y5.2.2.Blobs.length c4,.slice A5 y5.2.2.Entries.length c5]),(47,.slice A3 y5.1.length c3)] (fun w hh=>⟨(hh.box 1 rfl rfl),(hh.box 1 rfl rfl),(hh.box 1 rfl rfl),(hh.box 1 rfl rfl)⟩) ?_
     refine RgH.does (DoesH.store (k:=4) (g:=g2) (off:=0) (v:=.agg #[iv a1,iv y5.2.2.Lease,.slice A4 y5.2.2.Blobs.length c4,.slice A5 y5.2.2.Entries.length c5]) (cells':=#[iv a1,iv y5.2.2.Lease,.slice A4 y5.2.2.Blobs.length c4,.slice A5 y5.2.2.Entries.length c5]) (by kernel_rfl) rfl (by kernel_rfl) (by kernel_rfl)) ?_
     rintro _ _ _ _ ⟨rfl,rfl,rfl⟩
     refine Rd 7 [6,7,8] [(6,pg g2 0),(7,.slice A3 y5.1.length c3),(8,iv 0)] ?_
     obtain rfl:=Option.some.inj heq
     refine RunH.pick 6 [4,2,3,0] (cs':=(some (g2,.cells #[iv a1,iv y5.2.2.Lease,.slice A4 y5.2.2.Blobs.length c4,.slice A5 y5.2.2.Entries.length c5] 25 (0,0)))::ch4::ch5::ch3::F) (by kernel_rfl) rfl ?_
     exact RunH.doneM' 1 (vs:=[.agg #[iv a1,iv y5.2.2.Lease,.slice A4 y5.2.2.Blobs.length c4,.slice A5 y5.2.2.Entries.length c5],.slice A3 y5.1.length c3,iv 0]) (v:=.tuple #[.agg #[iv a1,iv y5.2.2.Lease,.slice A4 y5.2.2.Blobs.length c4,.slice A5 y5.2.2.Entries.length c5],.slice A3 y5.1.length c3,iv 0]) (by kernel_rfl) Tryd.func44 (fun w hh=>show ResAll _ _ _ [.cell 6 25,.tmp 7,.tmp 8] _ from ⟨⟨⟨g2,0,none⟩,by kernel_rfl,trS_run _ (vs:=[iv a1,iv y5.2.2.Lease,.slice A4 y5.2.2.Blobs.length c4,.slice A5 y5.2.2.Entries.length c5]) (r:=[]) (es:=[.load ⟨g2,0,none⟩ (iv a1),.load ⟨g2,1,none⟩ (iv y5.2.2.Lease),.load ⟨g2,2,none⟩ (.slice A4 y5.2.2.Blobs.length c4),.load ⟨g2,3,none⟩ (.slice A5 y5.2.2.Entries.length c5)]) (by kernel_rfl) ⟨(hh.box 0 rfl rfl),(hh.box 0 rfl rfl),(hh.box 0 rfl rfl),(hh.box 0 rfl rfl)⟩⟩,(show lk _ _=some _ by kernel_rfl),(show lk _ _=some _ by kernel_rfl),trivial⟩) rfl (cs':=ch4::ch5::ch3::F) rfl ⟨A4,c4,ch4,A5,c5,ch5,A3,c3,ch3,rfl,rfl,ho10,ho11,ho9⟩
  replace heq:=ht1
  refine Rr<|Rk 1 [1,2,3,6,19] [(1,iv a1),(2,iv a2),(3,pg g1 0),(6,pg g2 0),(19,iv a1)] ?_
  obtain ⟨y2,hy2,heq⟩:=bind_some heq
  refine RgH.does (DoesH.call (d:=20) (g:=62) (args:=#[iv a1,iv 0,iv 1000000000]) (by kernel_rfl) (smithyardref7_within_c (a0:=a1) (a1:=0) (a2:=1000000000)  hy2)) ?_
  rintro _ _ _ _ ⟨_,rfl,rfl,rfl,rfl⟩
  refine Rk 4 [22,1,2,3,6] [(22,.bool (!y2)),(1,iv a1),(2,iv a2),(3,pg g1 0),(6,pg g2 0)] ?_
  rcases bool_cases (!y2) with hb2 | hb2
  ·replace heq:=bif_true hb2 heq
   refine RgH.val1 (v':=.bool true) (congrArg Value.bool hb2) ?_
   refine Rk 8 [1,2,3,6,26] [(1,iv a1),(2,iv a2),(3,pg g1 0),(6,pg g2 0),(26,.bool true)] ?_
   obtain rfl:=Option.some.inj heq
   refine Kg [1,2,3,6,26] [(1,iv a1),(2,iv a2),(3,pg g1 0),(6,pg g2 0),(26,.bool true)]<|Dn ?_
   exact K6 _ hra0_2 hra0_3
  ·replace heq:=bif_false hb2 heq
   refine RgH.val1 (v':=.bool false) (congrArg Value.bool hb2) ?_
   refine Rk 5 [1,2,3,6,22,23] [(1,iv a1),(2,iv a2),(3,pg g1 0),(6,pg g2 0),(22,.bool false),(23,iv a2)] ?_
   obtain ⟨y3,hy3,heq⟩:=bind_some heq
   refine RgH.does (DoesH.call (d:=24) (g:=62) (args:=#[iv a2,iv 0,iv 1000000000]) (by kernel_rfl) (smithyardref7_within_c (a0:=a2) (a1:=0) (a2:=1000000000)  hy3)) ?_
   rintro _ _ _ _ ⟨_,rfl,rfl,rfl,rfl⟩
   refine Rk 8 [1,2,3,6,26] [(1,iv a1),(2,iv a2),(3,pg g1 0),(6,pg g2 0),(26,.bool (!y3))] ?_
   obtain rfl:=Option.some.inj heq
   refine Kg [1,2,3,6,26] [(1,iv a1),(2,iv a2),(3,pg g1 0),(6,pg g2 0),(26,.bool (!y3))]<|Dn ?_
   exact K6 _ hra0_2 hra0_3
noncomputable def C9:Ctx:={ P:=Tryd.prog,f:=9,N:=94,c:=bodyOf Tryd.f9 }
def S9 (F:List Ch) (H0:Hp) (r:Bool) (v:Value) (H:Hp) (cs:List Ch):Prop:=v=.bool r∧F=cs
theorem smithyardlaw7_CacheSweepsMatchSpec_c {w0:World} {H0:Hp} {F:List Ch} {a0:Cache} {Aa0_2:Option Addr} {na0_2:Nat} {ca0_2:Nat} {Aa0_3:Option Addr} {na0_3:Nat} {ca0_3:Nat} {a1:List ByteArray} {Aa1:Option Addr} {na1:Nat} {ca1:Nat} {a2:Int} {a3:Int} {r:Bool} (hra0_2:Rw kBlob H0 F Aa0_2 a0.Blobs) (hca0_2:na0_2≤ca0_2) (hna0_2:na0_2=a0.Blobs.length) (hra0_3:Rw kEntry H0 F Aa0_3 a0.Entries) (hca0_3:na0_3≤ca0_3) (hna0_3:na0_3=a0.Entries.length) (hra1:Rw Kd.string H0 F Aa1 a1) (hca1:na1≤ca1) (hna1:na1=a1.length) (heq:smithyardlaw7_CacheSweepsMatchSpec.f a0 a1 a2 a3=some r):CallsH Tryd.prog 9 #[.agg #[iv a0.Room,iv a0.Lease,.slice Aa0_2 na0_2 ca0_2,.slice Aa0_3 na0_3 ca0_3],.slice Aa1 na1 ca1,iv a2,iv a3] H0 w0 (F) (S9 F H0 r):=by
 refine calls_of_runH (F:=C9) Tryd.func9 (by kernel_rfl) Tryd.ntmps9 (args:=[.agg #[iv a0.Room,iv a0.Lease,.slice Aa0_2 na0_2 ca0_2,.slice Aa0_3 na0_3 ca0_3],.slice Aa1 na1 ca1,iv a2,iv a3]) (by kernel_rfl) ?_
 subst hna0_2
 subst hna0_3
 subst hna1
 unfold smithyardlaw7_CacheSweepsMatchSpec.f at heq
 suffices key:∀ (H:Hp),Rw kBlob H F Aa0_2 a0.Blobs→Rw kEntry H F Aa0_3 a0.Entries→Rw Kd.string H F Aa1 a1→RunH C9 (S9 F H0 r) H0 w0 [.c []] (argL 0 [.agg #[iv a0.Room,iv a0.Lease,.slice Aa0_2 (a0.Blobs.length) ca0_2,.slice Aa0_3 (a0.Entries.length) ca0_3],.slice Aa1 (a1.length) ca1,iv a2,iv a3]) H (F) from key H0 hra0_2 hra0_3 hra1
 intro H hra0_2 hra0_3 hra1
 refine Ra 1 [0] [.c [1]] ?_
 refine RgH.does (DoesH.new (d:=4) (v:=fun g=>.pointer (some ⟨g,0,none⟩)) (o:=fun g=>.cells #[iv a0.Room,iv a0.Lease,.slice Aa0_2 a0.Blobs.length ca0_2,.slice Aa0_3 a0.Entries.length ca0_3] 25 (0,0)) (fun g=>by kernel_rfl)) ?_
 rintro _ _ _ _ ⟨g1,rfl,rfl,rfl⟩
 refine Rd 2 [1,2,3,4] [(1,.slice Aa1 a1.length ca1),(2,iv a2),(3,iv a3),(4,pg g1 0)]<|Ra 1 [1,0] [.c [1,1]]<|Rv 1 [1,2,3,4,17] [iv a0.Room,iv a0.Lease,.slice Aa0_2 a0.Blobs.length ca0_2,.slice Aa0_3 a0.Entries.length ca0_3] [.load ⟨g1,0,none⟩ (iv a0.Room),.load ⟨g1,1,none⟩ (iv a0.Lease),.load ⟨g1,2,none⟩ (.slice Aa0_2 a0.Blobs.length ca0_2),.load ⟨g1,3,none⟩ (.slice Aa0_3 a0.Entries.length ca0_3)] [(1,.slice Aa1 a1.length ca1),(2,iv a2),(3,iv a3),(4,pg g1 0),(17,.agg #[iv a0.Room,iv a0.Lease,.slice Aa0_2 a0.Blobs.length ca0_2,.slice Aa0_3 a0.Entries.length ca0_3])] (fun w hh=>⟨(hh.box 0 rfl rfl),(hh.box 0 rfl rfl),(hh.box 0 rfl rfl),(hh.box 0 rfl rfl)⟩) ?_
 obtain ⟨y1,hy1,heq⟩:=bind_some heq
 refine RgH.does (DoesH.call (d:=18) (g:=18) (args:=#[.agg #[iv a0.Room,iv a0.Lease,.slice Aa0_2 a0.Blobs.length ca0_2,.slice Aa0_3 a0.Entries.length ca0_3]]) (by kernel_rfl) (smithyardref7_Copy_c (a0:=a0) (hra0_2.wk (fun _ h=>(.tail _ h))) hca0_2 rfl (hra0_3.wk (fun _ h=>(.tail _ h))) hca0_3 rfl hy1)) ?_
 rintro _ H _ hl ⟨_,rfl,A1,c1,ch1,A2,c2,ch2,rfl,rfl,ho1,ho2⟩
 replace hra1:=hra1.mono hl
 replace hra0_2:=hra0_2.mono hl
 replace hra0_3:=hra0_3.mono hl
 refine Rk 3 [1,2,3,4,18,19] [(1,.slice Aa1 a1.length ca1),(2,iv a2),(3,iv a3),(4,pg g1 0),(18,.agg #[iv y1.Room,iv y1.Lease,.slice A1 y1.Blobs.length c1,.slice A2 y1.Entries.length c2]),(19,.slice Aa1 a1.length ca1)] ?_
 obtain ⟨y2,hy2,heq⟩:=bind_some heq
 refine RgH.does (DoesH.call (d:=20) (g:=42) (args:=#[.slice Aa1 a1.length ca1]) (by kernel_rfl) (slices_Clone_string_c (a0:=a1) (hra1.wk (fun _ h=>(.tail _ (.tail _ (.tail _ h))))) hca1 rfl hy2)) ?_
 rintro _ _ _ _ ⟨_,rfl,A3,c3,ch3,rfl,rfl,rfl,ho3⟩
 refine RgH.does (DoesH.new (d:=9) (v:=fun g=>.pointer (some ⟨g,0,none⟩)) (o:=fun g=>.cells #[iv 0,iv 0,.slice none 0 0,.slice none 0 0] 25 (0,0)) (fun g=>by kernel_rfl)) ?_
 rintro _ _ _ _ ⟨g2,rfl,rfl,rfl⟩
 refine RgH.does (DoesH.store (k:=0) (g:=g2) (off:=0) (v:=.agg #[iv y1.Room,iv y1.Lease,.slice A1 y1.Blobs.length c1,.slice A2 y1.Entries.length c2]) (cells':=#[iv y1.Room,iv y1.Lease,.slice A1 y1.Blobs.length c1,.slice A2 y1.Entries.length c2]) (by kernel_rfl) rfl (by kernel_rfl) (by kernel_rfl)) ?_
 rintro _ _ _ _ ⟨rfl,rfl,rfl⟩
 refine Rd 7 [1,2,3,4,9,10] [(1,.slice Aa1 a1.length ca1),(2,iv a2),(3,iv a3),(4,pg g1 0),(9,pg g2 0),(10,.slice A3 y2.length c3)]<|Ra 1 [1,1,0] [.c [1,1,1]]<|Rv 3 [1,2,3,4,9,10,22,23,24] [iv a0.Room,iv a0.Lease,.slice Aa0_2 a0.Blobs.length ca0_2,.slice Aa0_3 a0.Entries.length ca0_3] [.load ⟨g1,0,none⟩ (iv a0.Room),.load ⟨g1,1,none⟩ (iv a0.Lease),.load ⟨g1,2,none⟩ (.slice Aa0_2 a0.Blobs.length ca0_2),.load ⟨g1,3,none⟩ (.slice Aa0_3 a0.Entries.length ca0_3)] [(1,.slice Aa1 a1.length ca1),(2,iv a2),(3,iv a3),(4,pg g1 0),(9,pg g2 0),(10,.slice A3 y2.length c3),(22,.agg #[iv a0.Room,iv a0.Lease,.slice Aa0_2 a0.Blobs.length ca0_2,.slice Aa0_3 a0.Entries.length ca0_3]),(23,.slice Aa1 a1.length ca1),(24,iv a3)] (fun w hh=>⟨(hh.box 4 rfl rfl),(hh.box 4 rfl rfl),(hh.box 4 rfl rfl),(hh.box 4 rfl rfl)⟩) ?_
 obtain ⟨y3,hy3,heq⟩:=bind_some heq
 refine RgH.does (DoesH.call (d:=25) (g:=30) (args:=#[.agg #[iv a0.Room,iv a0.Lease,.slice Aa0_2 a0.Blobs.length ca0_2,.slice Aa0_3 a0.Entries.length ca0_3],.slice Aa1 a1.length ca1,iv a3]) (by kernel_rfl) (cache_Swept_c (a0:=a0) (a1:=a1) (a2:=a3) (hra0_2.wk (fun _ h=>(.tail _ (.tail _ (.tail _ (.tail _ (.tail _ h))))))) hca0_2 rfl (hra0_3.wk (fun _ h=>(.tail _ (.tail _ (.tail _ (.tail _ (.tail _ h))))))) hca0_3 rfl (hra1.wk (fun _ h=>(.tail _ (.tail _ (.tail _ (.tail _ (.tail _ h))))))) hca1 rfl hy3)) ?_
 rintro _ H _ hl ⟨_,rfl,A4,c4,ch4,A5,c5,ch5,A6,c6,ch6,rfl,rfl,ho4,ho5,ho6⟩
 replace hra1:=hra1.mono hl
 replace hra0_2:=hra0_2.mono hl
 replace hra0_3:=hra0_3.mono hl
 replace ho1:=ho1.mono hl
 replace ho2:=ho2.mono hl
 replace ho3:=ho3.mono hl
 refine Rk 8 [1,2,3,4,9,10,26,27,28] [(1,.slice Aa1 a1.length ca1),(2,iv a2),(3,iv a3),(4,pg g1 0),(9,pg g2 0),(10,.slice A3 y2.length c3),(26,.agg #[iv y3.1.Room,iv y3.1.Lease,.slice A4 y3.1.Blobs.length c4,.slice A5 y3.1.Entries.length c5]),(27,.slice A6 y3.2.1.length c6),(28,iv y3.2.2)] ?_
 refine RgH.does (DoesH.new (d:=11) (v:=fun g=>.pointer (some ⟨g,0,none⟩)) (o:=fun g=>.cells #[iv 0,iv 0,.slice none 0 0,.slice none 0 0] 25 (0,0)) (fun g=>by kernel_rfl)) ?_
 rintro _ _ _ _ ⟨g3,rfl,rfl,rfl⟩
 refine RgH.does (DoesH.store (k:=0) (g:=g3) (off:=0) (v:=.agg #[iv y3.1.Room,iv y3.1.Lease,.slice A4 y3.1.Blobs.length c4,.slice A5 y3.1.Entries.length c5]) (cells':=#[iv y3.1.Room,iv y3.1.Lease,.slice A4 y3.1.Blobs.length c4,.slice A5 y3.1.Entries.length c5]) (by kernel_rfl) rfl (by kernel_rfl) (by kernel_rfl)) ?_
 rintro _ _ _ _ ⟨rfl,rfl,rfl⟩
 refine Rd 12 [1,2,3,4,9,10,11,12,13] [(1,.slice Aa1 a1.length ca1),(2,iv a2),(3,iv a3),(4,pg g1 0),(9,pg g2 0),(10,.slice A3 y2.length c3),(11,pg g3 0),(12,.slice A6 y3.2.1.length c6),(13,iv y3.2.2)]<|Ra 1 [1,1,1,0] [.c [1,1,1,1]]<|Rv 3 [1,2,3,4,9,10,11,12,13,30,31,32] [iv y1.Room,iv y1.Lease,.slice A1 y1.Blobs.length c1,.slice A2 y1.Entries.length c2] [.load ⟨g2,0,none⟩ (iv y1.Room),.load ⟨g2,1,none⟩ (iv y1.Lease),.load ⟨g2,2,none⟩ (.slice A1 y1.Blobs.length c1),.load ⟨g2,3,none⟩ (.slice A2 y1.Entries.length c2)] [(1,.slice Aa1 a1.length ca1),(2,iv a2),(3,iv a3),(4,pg g1 0),(9,pg g2 0),(10,.slice A3 y2.length c3),(11,pg g3 0),(12,.slice A6 y3.2.1.length c6),(13,iv y3.2.2),(30,.agg #[iv y1.Room,iv y1.Lease,.slice A1 y1.Blobs.length c1,.slice A2 y1.Entries.length c2]),(31,.slice A3 y2.length c3),(32,iv a3)] (fun w hh=>⟨(hh.box 4 rfl rfl),(hh.box 4 rfl rfl),(hh.box 4 rfl rfl),(hh.box 4 rfl rfl)⟩) ?_
 obtain ⟨y4,hy4,heq⟩:=bind_some heq
 refine RgH.does (DoesH.call (d:=33) (g:=43) (args:=#[.agg #[iv y1.Room,iv y1.Lease,.slice A1 y1.Blobs.length c1,.slice A2 y1.Entries.length c2],.slice A3 y2.length c3,iv a3]) (by kernel_rfl) (smithyardref7_Swept_c (a0:=(⟨y1.Room,y1.Lease,y1.Blobs,y1.Entries⟩:Cache)) (a1:=y2) (a2:=a3) (ho1.rw (.tail _ (.tail _ (.tail _ (.tail _ (.tail _ (.tail _ (.head _)))))))) ho1.cap rfl (ho2.rw (.tail _ (.tail _ (.tail _ (.tail _ (.tail _ (.tail _ (.tail _ (.head _))))))))) ho2.cap rfl (ho3.rw (.tail _ (.tail _ (.tail _ (.tail _ (.tail _ (.head _))))))) ho3.cap rfl hy4)) ?_
 rintro _ H _ hl ⟨_,rfl,A7,c7,ch7,A8,c8,ch8,A9,c9,ch9,rfl,rfl,ho7,ho8,ho9⟩
 replace hra1:=hra1.mono hl
 replace hra0_2:=hra0_2.mono hl
 replace hra0_3:=hra0_3.mono hl
 replace ho1:=ho1.mono hl
 replace ho2:=ho2.mono hl
 replace ho3:=ho3.mono hl
 replace ho4:=ho4.mono hl
 replace ho5:=ho5.mono hl
 replace ho6:=ho6.mono hl
 refine Rk 8 [1,2,3,4,9,10,11,12,13,34,35,36] [(1,.slice Aa1 a1.length ca1),(2,iv a2),(3,iv a3),(4,pg g1 0),(9,pg g2 0),(10,.slice A3 y2.length c3),(11,pg g3 0),(12,.slice A6 y3.2.1.length c6),(13,iv y3.2.2),(34,.agg #[iv y4.1.Room,iv y4.1.Lease,.slice A7 y4.1.Blobs.length c7,.slice A8 y4.1.Entries.length c8]),(35,.slice A9 y4.2.1.length c9),(36,iv y4.2.2)] ?_
 refine RgH.does (DoesH.new (d:=14) (v:=fun g=>.pointer (some ⟨g,0,none⟩)) (o:=fun g=>.cells #[iv 0,iv 0,.slice none 0 0,.slice none 0 0] 25 (0,0)) (fun g=>by kernel_rfl)) ?_
 rintro _ _ _ _ ⟨g4,rfl,rfl,rfl⟩
 refine RgH.does (DoesH.store (k:=0) (g:=g4) (off:=0) (v:=.agg #[iv y4.1.Room,iv y4.1.Lease,.slice A7 y4.1.Blobs.length c7,.slice A8 y4.1.Entries.length c8]) (cells':=#[iv y4.1.Room,iv y4.1.Lease,.slice A7 y4.1.Blobs.length c7,.slice A8 y4.1.Entries.length c8]) (by kernel_rfl) rfl (by kernel_rfl) (by kernel_rfl)) ?_
 rintro _ _ _ _ ⟨rfl,rfl,rfl⟩
 refine Rd 12 [1,2,3,4,9,10,11,12,13,14,15,16] [(1,.slice Aa1 a1.length ca1),(2,iv a2),(3,iv a3),(4,pg g1 0),(9,pg g2 0),(10,.slice A3 y2.length c3),(11,pg g3 0),(12,.slice A6 y3.2.1.length c6),(13,iv y3.2.2),(14,pg g4 0),(15,.slice A9 y4.2.1.length c9),(16,iv y4.2.2)]<|Ad 2 [.c [1,1,1,1,0,0],.c [1,1,1,1,0,1],.c [1,1,1,1,1]] ?_
 obtain ⟨t1,ht1,heq⟩:=bind_some heq
 have K14:∀ (H:Hp),Rw kBlob H F Aa0_2 a0.Blobs→Rw kEntry H F Aa0_3 a0.Entries→Rw Kd.string H F Aa1 a1→SlOwn kBlob 47 H A1 c1 y1.Blobs ch1→SlOwn kEntry 51 H A2 c2 y1.Entries ch2→SlOwn Kd.string 9 H A3 c3 y2 ch3→SlOwn kBlob 47 H A4 c4 y3.1.Blobs ch4→SlOwn kEntry 51 H A5 c5 y3.1.Entries ch5→SlOwn kBlob 47 H A7 c7 y4.1.Blobs ch7→SlOwn kEntry 51 H A8 c8 y4.1.Entries ch8→RunH C9 (S9 F H0 r) H0 w0 [.c [1,1,1,1,0,1],.c [1,1,1,1,1]] [(1,.slice Aa1 a1.length ca1),(2,iv a2),(3,iv a3),(4,pg g1 0),(9,pg g2 0),(10,.slice A3 y2.length c3),(11,pg g3 0),(14,pg g4 0),(51,.bool t1)] H ((some (g4,.cells #[iv y4.1.Room,iv y4.1.Lease,.slice A7 y4.1.Blobs.length c7,.slice A8 y4.1.Entries.length c8] 25 (0,0)))::ch7::ch8::(some (g3,.cells #[iv y3.1.Room,iv y3.1.Lease,.slice A4 y3.1.Blobs.length c4,.slice A5 y3.1.Entries.length c5] 25 (0,0)))::ch4::ch5::(some (g2,.cells #[iv y1.Room,iv y1.Lease,.slice A1 y1.Blobs.length c1,.slice A2 y1.Entries.length c2] 25 (0,0)))::ch3::ch1::ch2::(some (g1,.cells #[iv a0.Room,iv a0.Lease,.slice Aa0_2 a0.Blobs.length ca0_2,.slice Aa0_3 a0.Entries.length ca0_3] 25 (0,0)))::F):=by
  intro H hra0_2 hra0_3 hra1 ho1 ho2 ho3 ho4 ho5 ho7 ho8
  rcases bool_cases (t1) with hb3 | hb3
  ·replace heq:=bif_true hb3 heq
   refine Ct t1 hb3<|Ra 1 [1,1,1,1,0,1,0,0] [.c [1,1,1,1,0,1,0,1],.c [1,1,1,1,1]]<|Rd 1 [8] [(8,.bool false)] ?_
   obtain rfl:=Option.some.inj heq
   refine RunH.pick 11 [] (cs':=F) (by kernel_rfl) rfl ?_
   exact RunH.done (by kernel_rfl) Tryd.func9 (v:=.bool false) (by kernel_rfl) ⟨rfl,rfl⟩
  ·replace heq:=bif_false hb3 heq
   refine Cf t1 hb3<|Ra 2 [1,1,1,1,1,0] [.c [1,1,1,1,1,1]]<|Rv 3 [1,2,3,4,9,10,11,14,53,54,55] [iv a0.Room,iv a0.Lease,.slice Aa0_2 a0.Blobs.length ca0_2,.slice Aa0_3 a0.Entries.length ca0_3] [.load ⟨g1,0,none⟩ (iv a0.Room),.load ⟨g1,1,none⟩ (iv a0.Lease),.load ⟨g1,2,none⟩ (.slice Aa0_2 a0.Blobs.length ca0_2),.load ⟨g1,3,none⟩ (.slice Aa0_3 a0.Entries.length ca0_3)] [(1,.slice Aa1 a1.length ca1),(2,iv a2),(3,iv a3),(4,pg g1 0),(9,pg g2 0),(10,.slice A3 y2.length c3),(11,pg g3 0),(14,pg g4 0),(53,.agg #[iv a0.Room,iv a0.Lease,.slice Aa0_2 a0.Blobs.length ca0_2,.slice Aa0_3 a0.Entries.length ca0_3]),(54,iv a2),(55,iv a3)] (fun w hh=>⟨(hh.box 10 rfl rfl),(hh.box 10 rfl rfl),(hh.box 10 rfl rfl),(hh.box 10 rfl rfl)⟩) ?_
   obtain ⟨y7,hy7,heq⟩:=bind_some heq
   refine RgH.does (DoesH.call (d:=56) (g:=36) (args:=#[.agg #[iv a0.Room,iv a0.Lease,.slice Aa0_2 a0.Blobs.length ca0_2,.slice Aa0_3 a0.Entries.length ca0_3],iv a2,iv a3]) (by kernel_rfl) (cache_Shrunk_c (a0:=a0) (a1:=a2) (a2:=a3) (hra0_2.wk (fun _ h=>(.tail _ (.tail _ (.tail _ (.tail _ (.tail _ (.tail _ (.tail _ (.tail _ (.tail _ (.tail _ (.tail _ h))))))))))))) hca0_2 rfl (hra0_3.wk (fun _ h=>(.tail _ (.tail _ (.tail _ (.tail _ (.tail _ (.tail _ (.tail _ (.tail _ (.tail _ (.tail _ (.tail _ h))))))))))))) hca0_3 rfl hy7)) ?_
   rintro _ H _ hl ⟨_,rfl,A10,c10,ch10,A11,c11,ch11,A12,c12,ch12,rfl,rfl,ho10,ho11,ho12⟩
   replace hra1:=hra1.mono hl
   replace hra0_2:=hra0_2.mono hl
   replace hra0_3:=hra0_3.mono hl
   replace ho1:=ho1.mono hl
   replace ho2:=ho2.mono hl
   replace ho3:=ho3.mono hl
   replace ho4:=ho4.mono hl
   replace ho5:=ho5.mono hl
   replace ho7:=ho7.mono hl
   replace ho8:=ho8.mono hl
   refine Rk 8 [1,2,3,4,9,10,11,14,57,58,59] [(1,.slice Aa1 a1.length ca1),(2,iv a2),(3,iv a3),(4,pg g1 0),(9,pg g2 0),(10,.slice A3 y2.length c3),(11,pg g3 0),(14,pg g4 0),(57,.agg #[iv y7.1.Room,iv y7.1.Lease,.slice A10 y7.1.Blobs.length c10,.slice A11 y7.1.Entries.length c11]),(58,.slice A12 y7.2.1.length c12),(59,iv y7.2.2)] ?_
   refine RgH.does (DoesH.store (k:=6) (g:=g3) (off:=0) (v:=.agg #[iv y7.1.Room,iv y7.1.Lease,.slice A10 y7.1.Blobs.length c10,.slice A11 y7.1.Entries.length c11]) (cells':=#[iv y7.1.Room,iv y7.1.Lease,.slice A10 y7.1.Blobs.length c10,.slice A11 y7.1.Entries.length c11]) (by kernel_rfl) rfl (by kernel_rfl) (by kernel_rfl)) ?_
   rintro _ _ _ _ ⟨rfl,rfl,rfl⟩
   refine Rd 11 [1,2,3,4,9,10,11,12,13,14] [(1,.slice Aa1 a1.length ca1),(2,iv a2),(3,iv a3),(4,pg g1 0),(9,pg g2 0),(10,.slice A3 y2.length c3),(11,pg g3 0),(12,.slice A12 y7.2.1.length c12),(13,iv y7.2.2),(14,pg g4 0)]<|Ra 1 [1,1,1,1,1,1,0] [.c [1,1,1,1,1,1,1]]<|Rv 3 [1,4,9,10,11,12,13,14,61,62,63] [iv y1.Room,iv y1.Lease,.slice A1 y1.Blobs.length c1,.slice A2 y1.Entries.length c2] [.load ⟨g2,0,none⟩ (iv y1.Room),.load ⟨g2,1,none⟩ (iv y1.Lease),.load ⟨g2,2,none⟩ (.slice A1 y1.Blobs.length c1),.load ⟨g2,3,none⟩ (.slice A2 y1.Entries.length c2)] [(1,.slice Aa1 a1.length ca1),(4,pg g1 0),(9,pg g2 0),(10,.slice A3 y2.length c3),(11,pg g3 0),(12,.slice A12 y7.2.1.length c12),(13,iv y7.2.2),(14,pg g4 0),(61,.agg #[iv y1.Room,iv y1.Lease,.slice A1 y1.Blobs.length c1,.slice A2 y1.Entries.length c2]),(62,iv a2),(63,iv a3)] (fun w hh=>⟨(hh.box 9 rfl rfl),(hh.box 9 rfl rfl),(hh.box 9 rfl rfl),(hh.box 9 rfl rfl)⟩) ?_
   obtain ⟨y8,hy8,heq⟩:=bind_some heq
   refine RgH.does (DoesH.call (d:=64) (g:=44) (args:=#[.agg #[iv y1.Room,iv y1.Lease,.slice A1 y1.Blobs.length c1,.slice A2 y1.Entries.length c2],iv a2,iv a3]) (by kernel_rfl) (smithyardref7_Shrunk_c (a0:=(⟨y1.Room,y1.Lease,y1.Blobs,y1.Entries⟩:Cache)) (a1:=a2) (a2:=a3) (ho1.rw (.tail _ (.tail _ (.tail _ (.tail _ (.tail _ (.tail _ (.tail _ (.tail _ (.tail _ (.tail _ (.tail _ (.head _))))))))))))) ho1.cap rfl (ho2.rw (.tail _ (.tail _ (.tail _ (.tail _ (.tail _ (.tail _ (.tail _ (.tail _ (.tail _ (.tail _ (.tail _ (.tail _ (.head _)))))))))))))) ho2.cap rfl hy8)) ?_
   rintro _ H _ hl ⟨_,rfl,A13,c13,ch13,A14,c14,ch14,A15,c15,ch15,rfl,rfl,ho13,ho14,ho15⟩
   replace hra1:=hra1.mono hl
   replace hra0_2:=hra0_2.mono hl
   replace hra0_3:=hra0_3.mono hl
   replace ho1:=ho1.mono hl
   replace ho2:=ho2.mono hl
   replace ho3:=ho3.mono hl
   replace ho10:=ho10.mono hl
   replace ho11:=ho11.mono hl
   replace ho12:=ho12.mono hl
   replace ho7:=ho7.mono hl
   replace ho8:=ho8.mono hl
   refine Rk 8 [1,4,9,10,11,12,13,14,65,66,67] [(1,.slice Aa1 a1.length ca1),(4,pg g1 0),(9,pg g2 0),(10,.slice A3 y2.length c3),(11,pg g3 0),(12,.slice A12 y7.2.1.length c12),(13,iv y7.2.2),(14,pg g4 0),(65,.agg #[iv y8.1.Room,iv y8.1.Lease,.slice A13 y8.1.Blobs.length c13,.slice A14 y8.1.Entries.length c14]),(66,.slice A15 y8.2.1.length c15),(67,iv y8.2.2)] ?_
   refine RgH.does (DoesH.store (k:=6) (g:=g4) (off:=0) (v:=.agg #[iv y8.1.Room,iv y8.1.Lease,.slice A13 y8.1.Blobs.length c13,.slice A14 y8.1.Entries.length c14]) (cells':=#[iv y8.1.Room,iv y8.1.Lease,.slice A13 y8.1.Blobs.length c13,.slice A14 y8.1.Entries.length c14]) (by kernel_rfl) rfl (by kernel_rfl) (by kernel_rfl)) ?_
   rintro _ _ _ _ ⟨rfl,rfl,rfl⟩
   refine Rd 11 [1,4,9,10,11,12,13,14,15,16] [(1,.slice Aa1 a1.length ca1),(4,pg g1 0),(9,pg g2 0),(10,.slice A3 y2.length c3),(11,pg g3 0),(12,.slice A12 y7.2.1.length c12),(13,iv y7.2.2),(14,pg g4 0),(15,.slice A15 y8.2.1.length c15),(16,iv y8.2.2)]<|Ad 1 [.c [1,1,1,1,1,1,1,0],.c [1,1,1,1,1,1,1,1]] ?_
   obtain ⟨t2,ht2,heq⟩:=bind_some heq
   have K21:∀ (H:Hp),RunH C9 (S9 F H0 r) H0 w0 [.c [1,1,1,1,1,1,1,1]] [(8,.bool t2)] H (F):=by
    intro H
    obtain rfl:=Option.some.inj heq
    exact RunH.done (by kernel_rfl) Tryd.func9 (v:=.bool t2) (by kernel_rfl) ⟨rfl,rfl⟩
   replace heq:=ht2
   refine Rr<|Rv 2 [1,4,9,10,12,13,15,16,68,69] [iv y7.1.Room,iv y7.1.Lease,.slice A10 y7.1.Blobs.length c10,.slice A11 y7.1.Entries.length c11,iv y8.1.Room,iv y8.1.Lease,.slice A13 y8.1.Blobs.length c13,.slice A14 y8.1.Entries.length c14] [.load ⟨g3,0,none⟩ (iv y7.1.Room),.load ⟨g3,1,none⟩ (iv y7.1.Lease),.load ⟨g3,2,none⟩ (.slice A10 y7.1.Blobs.length c10),.load ⟨g3,3,none⟩ (.slice A11 y7.1.Entries.length c11),.load ⟨g4,0,none⟩ (iv y8.1.Room),.load ⟨g4,1,none⟩ (iv y8.1.Lease),.load ⟨g4,2,none⟩ (.slice A13 y8.1.Blobs.length c13),.load ⟨g4,3,none⟩ (.slice A14 y8.1.Entries.length c14)] [(1,.slice Aa1 a1.length ca1),(4,pg g1 0),(9,pg g2 0),(10,.slice A3 y2.length c3),(12,.slice A12 y7.2.1.length c12),(13,iv y7.2.2),(15,.slice A15 y8.2.1.length c15),(16,iv y8.2.2),(68,.agg #[iv y7.1.Room,iv y7.1.Lease,.slice A10 y7.1.Blobs.length c10,.slice A11 y7.1.Entries.length c11]),(69,.agg #[iv y8.1.Room,iv y8.1.Lease,.slice A13 y8.1.Blobs.length c13,.slice A14 y8.1.Entries.length c14])] (fun w hh=>⟨(hh.box 9 rfl rfl),(hh.box 9 rfl rfl),(hh.box 9 rfl rfl),(hh.box 9 rfl rfl),(hh.box 6 rfl rfl),(hh.box 6 rfl rfl),(hh.box 6 rfl rfl),(hh.box 6 rfl rfl)⟩) ?_
   obtain ⟨y9,hy9,heq⟩:=bind_some heq
   refine RgH.does (DoesH.call (d:=70) (g:=21) (args:=#[.agg #[iv y7.1.Room,iv y7.1.Lease,.slice A10 y7.1.Blobs.length c10,.slice A11 y7.1.Entries.length c11],.agg #[iv y8.1.Room,iv y8.1.Lease,.slice A13 y8.1.Blobs.length c13,.slice A14 y8.1.Entries.length c14]]) (by kernel_rfl) (smithyardref7_Same_c (a0:=(⟨y7.1.Room,y7.1.Lease,y7.1.Blobs,y7.1.Entries⟩:Cache)) (a1:=(⟨y8.1.Room,y8.1.Lease,y8.1.Blobs,y8.1.Entries⟩:Cache)) (ho10.rw (.tail _ (.tail _ (.tail _ (.head _))))) ho10.cap rfl (ho11.rw (.tail _ (.tail _ (.tail _ (.tail _ (.head _)))))) ho11.cap rfl (ho13.rw (.head _)) ho13.cap rfl (ho14.rw (.tail _ (.head _))) ho14.cap rfl hy9)) ?_
   rintro _ _ _ _ ⟨_,rfl,rfl,rfl,rfl⟩
   refine Rk 4 [71,1,4,9,10,12,13,15,16] [(71,.bool y9),(1,.slice Aa1 a1.length ca1),(4,pg g1 0),(9,pg g2 0),(10,.slice A3 y2.length c3),(12,.slice A12 y7.2.1.length c12),(13,iv y7.2.2),(15,.slice A15 y8.2.1.length c15),(16,iv y8.2.2)] ?_
   rcases bool_cases (y9) with hb4 | hb4
   ·replace heq:=bif_true hb4 heq
    refine RgH.val1 (v':=.bool true) (congrArg Value.bool hb4) ?_
    refine Rk 6 [1,4,9,10,13,16,71,72,73] [(1,.slice Aa1 a1.length ca1),(4,pg g1 0),(9,pg g2 0),(10,.slice A3 y2.length c3),(13,iv y7.2.2),(16,iv y8.2.2),(71,.bool true),(72,.slice A12 y7.2.1.length c12),(73,.slice A15 y8.2.1.length c15)] ?_
    obtain ⟨y10,hy10,heq⟩:=bind_some heq
    refine RgH.does (DoesH.call (d:=74) (g:=28) (args:=#[.slice A12 y7.2.1.length c12,.slice A15 y8.2.1.length c15]) (by kernel_rfl) (slices_Equal_string_c (a0:=y7.2.1) (a1:=y8.2.1) (ho12.rw (.tail _ (.tail _ (.tail _ (.tail _ (.tail _ (.head _))))))) ho12.cap rfl (ho15.rw (.tail _ (.tail _ (.head _)))) ho15.cap rfl hy10)) ?_
    rintro _ _ _ _ ⟨_,rfl,rfl,rfl,rfl⟩
    refine Rk 9 [76,1,4,9,10,13,16] [(76,.bool y10),(1,.slice Aa1 a1.length ca1),(4,pg g1 0),(9,pg g2 0),(10,.slice A3 y2.length c3),(13,iv y7.2.2),(16,iv y8.2.2)] ?_
    rcases bool_cases (y10) with hb5 | hb5
    ·replace heq:=bif_true hb5 heq
     refine RgH.val1 (v':=.bool true) (congrArg Value.bool hb5) ?_
     refine Rk 14 [81,1,4,9,10] [(81,.bool (y7.2.2 == y8.2.2)),(1,.slice Aa1 a1.length ca1),(4,pg g1 0),(9,pg g2 0),(10,.slice A3 y2.length c3)] ?_
     rcases bool_cases (y7.2.2 == y8.2.2) with hb6 | hb6
     ·replace heq:=bif_true hb6 heq
      refine RgH.val1 (v':=.bool true) (congrArg Value.bool hb6) ?_
      refine Rv 16 [1,10,81,82,83] [iv a0.Room,iv a0.Lease,.slice Aa0_2 a0.Blobs.length ca0_2,.slice Aa0_3 a0.Entries.length ca0_3,iv y1.Room,iv y1.Lease,.slice A1 y1.Blobs.length c1,.slice A2 y1.Entries.length c2] [.load ⟨g1,0,none⟩ (iv a0.Room),.load ⟨g1,1,none⟩ (iv a0.Lease),.load ⟨g1,2,none⟩ (.slice Aa0_2 a0.Blobs.length ca0_2),.load ⟨g1,3,none⟩ (.slice Aa0_3 a0.Entries.length ca0_3),.load ⟨g2,0,none⟩ (iv y1.Room),.load ⟨g2,1,none⟩ (iv y1.Lease),.load ⟨g2,2,none⟩ (.slice A1 y1.Blobs.length c1),.load ⟨g2,3,none⟩ (.slice A2 y1.Entries.length c2)] [(1,.slice Aa1 a1.length ca1),(10,.slice A3 y2.length c3),(81,.bool true),(82,.agg #[iv a0.Room,iv a0.Lease,.slice Aa0_2 a0.Blobs.length ca0_2,.slice Aa0_3 a0.Entries.length ca0_3]),(83,.agg #[iv y1.Room,iv y1.Lease,.slice A1 y1.Blobs.length c1,.slice A2 y1.Entries.length c2])] (fun w hh=>⟨(hh.box 16 rfl rfl),(hh.box 16 rfl rfl),(hh.box 16 rfl rfl),(hh.box 16 rfl rfl),(hh.box 12 rfl rfl),(hh.box 12 rfl rfl),(hh.box 12 rfl rfl),(hh.box 12 rfl rfl)⟩) ?_
      obtain ⟨y11,hy11,heq⟩:=bind_some heq
      refine RgH.does (DoesH.call (d:=84) (g:=21) (args:=#[.agg #[iv a0.Room,iv a0.Lease,.slice Aa0_2 a0.Blobs.length ca0_2,.slice Aa0_3 a0.Entries.length ca0_3],.agg #[iv y1.Room,iv y1.Lease,.slice A1 y1.Blobs.length c1,.slice A2 y1.Entries.length c2]]) (by kernel_rfl) (smithyardref7_Same_c (a0:=a0) (a1:=(⟨y1.Room,y1.Lease,y1.Blobs,y1.Entries⟩:Cache)) (hra0_2.wk (fun _ h=>(.tail _ (.tail _ (.tail _ (.tail _ (.tail _ (.tail _ (.tail _ (.tail _ (.tail _ (.tail _ (.tail _ (.tail _ (.tail _ (.tail _ (.tail _ (.tail _ (.tail _ h))))))))))))))))))) hca0_2 rfl (hra0_3.wk (fun _ h=>(.tail _ (.tail _ (.tail _ (.tail _ (.tail _ (.tail _ (.tail _ (.tail _ (.tail _ (.tail _ (.tail _ (.tail _ (.tail _ (.tail _ (.tail _ (.tail _ (.tail _ h))))))))))))))))))) hca0_3 rfl (ho1.rw (.tail _ (.tail _ (.tail _ (.tail _ (.tail _ (.tail _ (.tail _ (.tail _ (.tail _ (.tail _ (.tail _ (.tail _ (.tail _ (.tail _ (.head _)))))))))))))))) ho1.cap rfl (ho2.rw (.tail _ (.tail _ (.tail _ (.tail _ (.tail _ (.tail _ (.tail _ (.tail _ (.tail _ (.tail _ (.tail _ (.tail _ (.tail _ (.tail _ (.tail _ (.head _))))))))))))))))) ho2.cap rfl hy11)) ?_
      rintro _ _ _ _ ⟨_,rfl,rfl,rfl,rfl⟩
      refine Rk 19 [86,1,10] [(86,.bool y11),(1,.slice Aa1 a1.length ca1),(10,.slice A3 y2.length c3)] ?_
      rcases bool_cases (y11) with hb7 | hb7
      ·replace heq:=bif_true hb7 heq
       refine RgH.val1 (v':=.bool true) (congrArg Value.bool hb7) ?_
       refine Rk 21 [86,87,88] [(86,.bool true),(87,.slice Aa1 a1.length ca1),(88,.slice A3 y2.length c3)] ?_
       obtain ⟨y12,hy12,heq⟩:=bind_some heq
       refine RgH.does (DoesH.call (d:=89) (g:=28) (args:=#[.slice Aa1 a1.length ca1,.slice A3 y2.length c3]) (by kernel_rfl) (slices_Equal_string_c (a0:=a1) (a1:=y2) (hra1.wk (fun _ h=>(.tail _ (.tail _ (.tail _ (.tail _ (.tail _ (.tail _ (.tail _ (.tail _ (.tail _ (.tail _ (.tail _ (.tail _ (.tail _ (.tail _ (.tail _ (.tail _ (.tail _ h))))))))))))))))))) hca1 rfl (ho3.rw (.tail _ (.tail _ (.tail _ (.tail _ (.tail _ (.tail _ (.tail _ (.tail _ (.tail _ (.tail _ (.tail _ (.tail _ (.tail _ (.head _))))))))))))))) ho3.cap rfl hy12)) ?_
       rintro _ _ _ _ ⟨_,rfl,rfl,rfl,rfl⟩
       refine Rk 24 [91] [(91,.bool y12)] ?_
       rcases bool_cases (y12) with hb8 | hb8
       ·replace heq:=bif_true hb8 heq
        refine RgH.val1 (v':=.bool true) (congrArg Value.bool hb8) ?_
        obtain ⟨y13,hy13,heq⟩:=bind_some heq
        refine RgH.does (DoesH.call (d:=92) (g:=29) (args:=(List.toArray [])) (by kernel_rfl) (smithyardlaw7_awake_c  hy13)) ?_
        rintro _ _ _ _ ⟨_,rfl,rfl,rfl,rfl⟩
        refine Rk 27 [8] [(8,.bool y13)] ?_
        obtain rfl:=Option.some.inj heq
        refine Kg [8] [(8,.bool y13)] ?_
        refine RgH.pick 17 [] (cs':=F) (by kernel_rfl) rfl ?_
        refine Dn ?_
        exact K21 _
       ·replace heq:=bif_false hb8 heq
        refine RgH.val1 (v':=.bool false) (congrArg Value.bool hb8) ?_
        refine Rk 27 [8] [(8,.bool false)] ?_
        obtain rfl:=Option.some.inj heq
        refine Kg [8] [(8,.bool false)] ?_
        refine RgH.pick 17 [] (cs':=F) (by kernel_rfl) rfl ?_
        refine Dn ?_
        exact K21 _
      ·replace heq:=bif_false hb7 heq
       refine RgH.val1 (v':=.bool false) (congrArg Value.bool hb7) ?_
       refine Rk 27 [8] [(8,.bool false)] ?_
       obtain rfl:=Option.some.inj heq
       refine Kg [8] [(8,.bool false)] ?_
       refine RgH.pick 17 [] (cs':=F) (by kernel_rfl) rfl ?_
       refine Dn ?_
       exact K21 _
     ·replace heq:=bif_false hb6 heq
      refine RgH.val1 (v':=.bool false) (congrArg Value.bool hb6) ?_
      refine Rk 27 [8] [(8,.bool false)] ?_
      obtain rfl:=Option.some.inj heq
      refine Kg [8] [(8,.bool false)] ?_
      refine RgH.pick 17 [] (cs':=F) (by kernel_rfl) rfl ?_
      refine Dn ?_
      exact K21 _
    ·replace heq:=bif_false hb5 heq
     refine RgH.val1 (v':=.bool false) (congrArg Value.bool hb5) ?_
     refine Rk 27 [8] [(8,.bool false)] ?_
     obtain rfl:=Option.some.inj heq
     refine Kg [8] [(8,.bool false)] ?_
     refine RgH.pick 17 [] (cs':=F) (by kernel_rfl) rfl ?_
     refine Dn ?_
     exact K21 _
   ·replace heq:=bif_false hb4 heq
    refine RgH.val1 (v':=.bool false) (congrArg Value.bool hb4) ?_
    refine Rk 27 [8] [(8,.bool false)] ?_
    obtain rfl:=Option.some.inj heq
    refine Kg [8] [(8,.bool false)] ?_
    refine RgH.pick 17 [] (cs':=F) (by kernel_rfl) rfl ?_
    refine Dn ?_
    exact K21 _
 replace heq:=ht1
 refine Rr<|Rv 2 [1,2,3,4,9,10,11,12,13,14,15,16,37,38] [iv y3.1.Room,iv y3.1.Lease,.slice A4 y3.1.Blobs.length c4,.slice A5 y3.1.Entries.length c5,iv y4.1.Room,iv y4.1.Lease,.slice A7 y4.1.Blobs.length c7,.slice A8 y4.1.Entries.length c8] [.load ⟨g3,0,none⟩ (iv y3.1.Room),.load ⟨g3,1,none⟩ (iv y3.1.Lease),.load ⟨g3,2,none⟩ (.slice A4 y3.1.Blobs.length c4),.load ⟨g3,3,none⟩ (.slice A5 y3.1.Entries.length c5),.load ⟨g4,0,none⟩ (iv y4.1.Room),.load ⟨g4,1,none⟩ (iv y4.1.Lease),.load ⟨g4,2,none⟩ (.slice A7 y4.1.Blobs.length c7),.load ⟨g4,3,none⟩ (.slice A8 y4.1.Entries.length c8)] [(1,.slice Aa1 a1.length ca1),(2,iv a2),(3,iv a3),(4,pg g1 0),(9,pg g2 0),(10,.slice A3 y2.length c3),(11,pg g3 0),(12,.slice A6 y3.2.1.length c6),(13,iv y3.2.2),(14,pg g4 0),(15,.slice A9 y4.2.1.length c9),(16,iv y4.2.2),(37,.agg #[iv y3.1.Room,iv y3.1.Lease,.slice A4 y3.1.Blobs.length c4,.slice A5 y3.1.Entries.length c5]),(38,.agg #[iv y4.1.Room,iv y4.1.Lease,.slice A7 y4.1.Blobs.length c7,.slice A8 y4.1.Entries.length c8])] (fun w hh=>⟨(hh.box 4 rfl rfl),(hh.box 4 rfl rfl),(hh.box 4 rfl rfl),(hh.box 4 rfl rfl),(hh.box 0 rfl rfl),(hh.box 0 rfl rfl),(hh.box 0 rfl rfl),(hh.box 0 rfl rfl)⟩) ?_
 obtain ⟨y5,hy5,heq⟩:=bind_some heq
 refine RgH.does (DoesH.call (d:=39) (g:=21) (args:=#[.agg #[iv y3.1.Room,iv y3.1.Lease,.slice A4 y3.1.Blobs.length c4,.slice A5 y3.1.Entries.length c5],.agg #[iv y4.1.Room,iv y4.1.Lease,.slice A7 y4.1.Blobs.length c7,.slice A8 y4.1.Entries.length c8]]) (by kernel_rfl) (smithyardref7_Same_c (a0:=(⟨y3.1.Room,y3.1.Lease,y3.1.Blobs,y3.1.Entries⟩:Cache)) (a1:=(⟨y4.1.Room,y4.1.Lease,y4.1.Blobs,y4.1.Entries⟩:Cache)) (ho4.rw (.tail _ (.tail _ (.tail _ (.tail _ (.tail _ (.head _))))))) ho4.cap rfl (ho5.rw (.tail _ (.tail _ (.tail _ (.tail _ (.tail _ (.tail _ (.head _)))))))) ho5.cap rfl (ho7.rw (.tail _ (.head _))) ho7.cap rfl (ho8.rw (.tail _ (.tail _ (.head _)))) ho8.cap rfl hy5)) ?_
 rintro _ _ _ _ ⟨_,rfl,rfl,rfl,rfl⟩
 refine Rk 5 [41,1,2,3,4,9,10,11,12,13,14,15,16] [(41,.bool (!y5)),(1,.slice Aa1 a1.length ca1),(2,iv a2),(3,iv a3),(4,pg g1 0),(9,pg g2 0),(10,.slice A3 y2.length c3),(11,pg g3 0),(12,.slice A6 y3.2.1.length c6),(13,iv y3.2.2),(14,pg g4 0),(15,.slice A9 y4.2.1.length c9),(16,iv y4.2.2)] ?_
 rcases bool_cases (!y5) with hb1 | hb1
 ·replace heq:=bif_true hb1 heq
  refine RgH.val1 (v':=.bool true) (congrArg Value.bool hb1) ?_
  refine Rk 15 [1,2,3,4,9,10,11,14,51] [(1,.slice Aa1 a1.length ca1),(2,iv a2),(3,iv a3),(4,pg g1 0),(9,pg g2 0),(10,.slice A3 y2.length c3),(11,pg g3 0),(14,pg g4 0),(51,.bool true)] ?_
  obtain rfl:=Option.some.inj heq
  refine Kg [1,2,3,4,9,10,11,14,51] [(1,.slice Aa1 a1.length ca1),(2,iv a2),(3,iv a3),(4,pg g1 0),(9,pg g2 0),(10,.slice A3 y2.length c3),(11,pg g3 0),(14,pg g4 0),(51,.bool true)] ?_
  refine RgH.pick 13 [0,1,2,4,5,6,8,9,10,11,12] (cs':=(some (g4,.cells #[iv y4.1.Room,iv y4.1.Lease,.slice A7 y4.1.Blobs.length c7,.slice A8 y4.1.Entries.length c8] 25 (0,0)))::ch7::ch8::(some (g3,.cells #[iv y3.1.Room,iv y3.1.Lease,.slice A4 y3.1.Blobs.length c4,.slice A5 y3.1.Entries.length c5] 25 (0,0)))::ch4::ch5::(some (g2,.cells #[iv y1.Room,iv y1.Lease,.slice A1 y1.Blobs.length c1,.slice A2 y1.Entries.length c2] 25 (0,0)))::ch3::ch1::ch2::(some (g1,.cells #[iv a0.Room,iv a0.Lease,.slice Aa0_2 a0.Blobs.length ca0_2,.slice Aa0_3 a0.Entries.length ca0_3] 25 (0,0)))::F) (by kernel_rfl) rfl ?_
  refine Dn ?_
  exact K14 _ hra0_2 hra0_3 hra1 ho1 ho2 ho3 ho4 ho5 ho7 ho8
 ·replace heq:=bif_false hb1 heq
  refine RgH.val1 (v':=.bool false) (congrArg Value.bool hb1) ?_
  refine Rk 7 [1,2,3,4,9,10,11,13,14,16,41,42,43] [(1,.slice Aa1 a1.length ca1),(2,iv a2),(3,iv a3),(4,pg g1 0),(9,pg g2 0),(10,.slice A3 y2.length c3),(11,pg g3 0),(13,iv y3.2.2),(14,pg g4 0),(16,iv y4.2.2),(41,.bool false),(42,.slice A6 y3.2.1.length c6),(43,.slice A9 y4.2.1.length c9)] ?_
  obtain ⟨y6,hy6,heq⟩:=bind_some heq
  refine RgH.does (DoesH.call (d:=44) (g:=28) (args:=#[.slice A6 y3.2.1.length c6,.slice A9 y4.2.1.length c9]) (by kernel_rfl) (slices_Equal_string_c (a0:=y3.2.1) (a1:=y4.2.1) (ho6.rw (.tail _ (.tail _ (.tail _ (.tail _ (.tail _ (.tail _ (.tail _ (.head _))))))))) ho6.cap rfl (ho9.rw (.tail _ (.tail _ (.tail _ (.head _))))) ho9.cap rfl hy6)) ?_
  rintro _ _ _ _ ⟨_,rfl,rfl,rfl,rfl⟩
  refine Rk 11 [47,1,2,3,4,9,10,11,13,14,16] [(47,.bool (!y6)),(1,.slice Aa1 a1.length ca1),(2,iv a2),(3,iv a3),(4,pg g1 0),(9,pg g2 0),(10,.slice A3 y2.length c3),(11,pg g3 0),(13,iv y3.2.2),(14,pg g4 0),(16,iv y4.2.2)] ?_
  rcases bool_cases (!y6) with hb2 | hb2
  ·replace heq:=bif_true hb2 heq
   refine RgH.val1 (v':=.bool true) (congrArg Value.bool hb2) ?_
   refine Rk 15 [1,2,3,4,9,10,11,14,51] [(1,.slice Aa1 a1.length ca1),(2,iv a2),(3,iv a3),(4,pg g1 0),(9,pg g2 0),(10,.slice A3 y2.length c3),(11,pg g3 0),(14,pg g4 0),(51,.bool true)] ?_
   obtain rfl:=Option.some.inj heq
   refine Kg [1,2,3,4,9,10,11,14,51] [(1,.slice Aa1 a1.length ca1),(2,iv a2),(3,iv a3),(4,pg g1 0),(9,pg g2 0),(10,.slice A3 y2.length c3),(11,pg g3 0),(14,pg g4 0),(51,.bool true)] ?_
   refine RgH.pick 13 [0,1,2,4,5,6,8,9,10,11,12] (cs':=(some (g4,.cells #[iv y4.1.Room,iv y4.1.Lease,.slice A7 y4.1.Blobs.length c7,.slice A8 y4.1.Entries.length c8] 25 (0,0)))::ch7::ch8::(some (g3,.cells #[iv y3.1.Room,iv y3.1.Lease,.slice A4 y3.1.Blobs.length c4,.slice A5 y3.1.Entries.length c5] 25 (0,0)))::ch4::ch5::(some (g2,.cells #[iv y1.Room,iv y1.Lease,.slice A1 y1.Blobs.length c1,.slice A2 y1.Entries.length c2] 25 (0,0)))::ch3::ch1::ch2::(some (g1,.cells #[iv a0.Room,iv a0.Lease,.slice Aa0_2 a0.Blobs.length ca0_2,.slice Aa0_3 a0.Entries.length ca0_3] 25 (0,0)))::F) (by kernel_rfl) rfl ?_
   refine Dn ?_
   exact K14 _ hra0_2 hra0_3 hra1 ho1 ho2 ho3 ho4 ho5 ho7 ho8
  ·replace heq:=bif_false hb2 heq
   refine RgH.val1 (v':=.bool false) (congrArg Value.bool hb2) ?_
   refine Rk 15 [1,2,3,4,9,10,11,14,51] [(1,.slice Aa1 a1.length ca1),(2,iv a2),(3,iv a3),(4,pg g1 0),(9,pg g2 0),(10,.slice A3 y2.length c3),(11,pg g3 0),(14,pg g4 0),(51,.bool (y3.2.2 != y4.2.2))] ?_
   obtain rfl:=Option.some.inj heq
   refine Kg [1,2,3,4,9,10,11,14,51] [(1,.slice Aa1 a1.length ca1),(2,iv a2),(3,iv a3),(4,pg g1 0),(9,pg g2 0),(10,.slice A3 y2.length c3),(11,pg g3 0),(14,pg g4 0),(51,.bool (y3.2.2 != y4.2.2))] ?_
   refine RgH.pick 13 [0,1,2,4,5,6,8,9,10,11,12] (cs':=(some (g4,.cells #[iv y4.1.Room,iv y4.1.Lease,.slice A7 y4.1.Blobs.length c7,.slice A8 y4.1.Entries.length c8] 25 (0,0)))::ch7::ch8::(some (g3,.cells #[iv y3.1.Room,iv y3.1.Lease,.slice A4 y3.1.Blobs.length c4,.slice A5 y3.1.Entries.length c5] 25 (0,0)))::ch4::ch5::(some (g2,.cells #[iv y1.Room,iv y1.Lease,.slice A1 y1.Blobs.length c1,.slice A2 y1.Entries.length c2] 25 (0,0)))::ch3::ch1::ch2::(some (g1,.cells #[iv a0.Room,iv a0.Lease,.slice Aa0_2 a0.Blobs.length ca0_2,.slice Aa0_3 a0.Entries.length ca0_3] 25 (0,0)))::F) (by kernel_rfl) rfl ?_
   refine Dn ?_
   exact K14 _ hra0_2 hra0_3 hra1 ho1 ho2 ho3 ho4 ho5 ho7 ho8
end Go.Proofs.YtkjilepjblffeaaDoor
