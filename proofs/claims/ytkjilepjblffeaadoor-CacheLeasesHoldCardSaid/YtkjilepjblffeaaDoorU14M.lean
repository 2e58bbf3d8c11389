/- What the machine's calls of these functions come to: just what the plain functions say. Written by program. -/
import Derived.Test.YtkjilepjblffeaaDoorProg
import Derived.Test.YtkjilepjblffeaaDoorKitX
import Derived.Test.YtkjilepjblffeaaDoorUD
import Derived.Test.YtkjilepjblffeaaDoorShelf
import Derived.Test.YtkjilepjblffeaaDoorU14M3
set_option linter.unusedVariables false
set_option linter.unusedSimpArgs false
set_option maxRecDepth 100000
set_option maxHeartbeats 1000000
namespace Go.Proofs.YtkjilepjblffeaaDoor
open Go Go.RowKit Go.Proofs.YtkjilepjblffeaaDoor.Kit
noncomputable def C93:Ctx:={ P:=Tryd.prog,f:=93,N:=47,c:=bodyOf Tryd.f93 }
def S93 (F:List Ch) (H0:Hp) (ga2q0:Nat) (r:Cache × Int × (List CacheAnswer)) (v:Value) (H:Hp) (cs:List Ch):Prop:=∃ (A0_2:Option Addr) (c0_2:Nat) (ch0_2:Ch) (A0_3:Option Addr) (c0_3:Nat) (ch0_3:Ch) (A2_0:Option Addr) (c2_0:Nat) (ch2_0:Ch),v=.tuple #[.agg #[iv r.1.Room,iv r.1.Lease,.slice A0_2 r.1.Blobs.length c0_2,.slice A0_3 r.1.Entries.length c0_3],iv r.2.1]∧ch0_2::ch0_3::some (ga2q0,.cells #[.slice A2_0 r.2.2.length c2_0] 73 (0,0))::ch2_0::F=cs∧SlOwn kBlob 47 H A0_2 c0_2 r.1.Blobs ch0_2∧SlOwn kEntry 51 H A0_3 c0_3 r.1.Entries ch0_3∧SlOwn kCacheAnswer 63 H A2_0 c2_0 r.2.2 ch2_0
theorem cache_follow.e1_c {w0:World} {H0:Hp} {F:List Ch} {r:Cache × Int × (List CacheAnswer)}:∀ (H:Hp) (ga2q0:Nat) (g1:Nat) (g2:Nat) (v_see2_0_0:List CacheAnswer) (Av_see2_0_0:Option Addr) (nv_see2_0_0:Nat) (cv_see2_0_0:Nat) (chv_see2_0_0:Ch) (v_c3_0:Int) (v_c3_1:Int) (v_c3_2:List Blob) (Av_c3_2:Option Addr) (nv_c3_2:Nat) (cv_c3_2:Nat) (chv_c3_2:Ch) (v_c3_3:List Entry) (Av_c3_3:Option Addr) (nv_c3_3:Nat) (cv_c3_3:Nat) (chv_c3_3:Ch) ,SlOwn kCacheAnswer 63 H Av_see2_0_0 cv_see2_0_0 v_see2_0_0 chv_see2_0_0→nv_see2_0_0=v_see2_0_0.length→SlOwn kBlob 47 H Av_c3_2 cv_c3_2 v_c3_2 chv_c3_2→nv_c3_2=v_c3_2.length→SlOwn kEntry 51 H Av_c3_3 cv_c3_3 v_c3_3 chv_c3_3→nv_c3_3=v_c3_3.length→cache_follow.e1 v_see2_0_0 v_c3_0 v_c3_1 v_c3_2 v_c3_3=some r→RunH C93 (S93 F H0 ga2q0 r) H0 w0 [.c [1,1,1,1,1,0],.c [1,1,1,1,1,1]] [(2,.func (.func 94) #[] #[.pointer (some ⟨ga2q0,0,none⟩)]),(3,pg g1 0),(6,pg g2 0)] H (chv_c3_2::chv_c3_3::(some (g2,.cells #[iv 0,iv 0,.slice none 0 0,.slice none 0 0] 25 (0,0)))::(some (g1,.cells #[iv v_c3_0,iv v_c3_1,.slice Av_c3_2 nv_c3_2 cv_c3_2,.slice Av_c3_3 nv_c3_3 cv_c3_3] 25 (0,0)))::(some (ga2q0,.cells #[.slice Av_see2_0_0 nv_see2_0_0 cv_see2_0_0] 73 (0,0)))::chv_see2_0_0::F):=by
 intro H ga2q0 g1 g2 v_see2_0_0 Av_see2_0_0 nv_see2_0_0 cv_see2_0_0 chv_see2_0_0 v_c3_0 v_c3_1 v_c3_2 Av_c3_2 nv_c3_2 cv_c3_2 chv_c3_2 v_c3_3 Av_c3_3 nv_c3_3 cv_c3_3 chv_c3_3 hov_see2_0_0 hnv_see2_0_0 hov_c3_2 hnv_c3_2 hov_c3_3 hnv_c3_3 heq
 subst hnv_see2_0_0
 subst hnv_c3_2
 subst hnv_c3_3
 unfold cache_follow.e1 at heq
 refine Rr<|Rv 1 [2,6,46] [iv v_c3_0,iv v_c3_1,.slice Av_c3_2 v_c3_2.length cv_c3_2,.slice Av_c3_3 v_c3_3.length cv_c3_3] [.load ⟨g1,0,none⟩ (iv v_c3_0),.load ⟨g1,1,none⟩ (iv v_c3_1),.load ⟨g1,2,none⟩ (.slice Av_c3_2 v_c3_2.length cv_c3_2),.load ⟨g1,3,none⟩ (.slice Av_c3_3 v_c3_3.length cv_c3_3)] [(2,.func (.func 94) #[] #[.pointer (some ⟨ga2q0,0,none⟩)]),(6,pg g2 0),(46,.agg #[iv v_c3_0,iv v_c3_1,.slice Av_c3_2 v_c3_2.length cv_c3_2,.slice Av_c3_3 v_c3_3.length cv_c3_3])] (fun w hh=>⟨(hh.box 3 rfl rfl),(hh.box 3 rfl rfl),(hh.box 3 rfl rfl),(hh.box 3 rfl rfl)⟩) ?_
 refine RgH.does (DoesH.store (k:=2) (g:=g2) (off:=0) (v:=.agg #[iv v_c3_0,iv v_c3_1,.slice Av_c3_2 v_c3_2.length cv_c3_2,.slice Av_c3_3 v_c3_3.length cv_c3_3]) (cells':=#[iv v_c3_0,iv v_c3_1,.slice Av_c3_2 v_c3_2.length cv_c3_2,.slice Av_c3_3 v_c3_3.length cv_c3_3]) (by kernel_rfl) rfl (by kernel_rfl) (by kernel_rfl)) ?_
 rintro _ _ _ _ ⟨rfl,rfl,rfl⟩
 refine Rd 3 [2,6,7] [(2,.func (.func 94) #[] #[.pointer (some ⟨ga2q0,0,none⟩)]),(6,pg g2 0),(7,iv 0)] ?_
 obtain rfl:=Option.some.inj heq
 refine RunH.pick 6 [2,0,1,4,5] (cs':=(some (g2,.cells #[iv v_c3_0,iv v_c3_1,.slice Av_c3_2 v_c3_2.length cv_c3_2,.slice Av_c3_3 v_c3_3.length cv_c3_3] 25 (0,0)))::chv_c3_2::chv_c3_3::(some (ga2q0,.cells #[.slice Av_see2_0_0 v_see2_0_0.length cv_see2_0_0] 73 (0,0)))::chv_see2_0_0::F) (by kernel_rfl) rfl ?_
 exact RunH.doneM' 1 (vs:=[.agg #[iv v_c3_0,iv v_c3_1,.slice Av_c3_2 v_c3_2.length cv_c3_2,.slice Av_c3_3 v_c3_3.length cv_c3_3],iv 0]) (v:=.tuple #[.agg #[iv v_c3_0,iv v_c3_1,.slice Av_c3_2 v_c3_2.length cv_c3_2,.slice Av_c3_3 v_c3_3.length cv_c3_3],iv 0]) (by kernel_rfl) Tryd.func93 (fun w hh=>show ResAll _ _ _ [.cell 6 25,.tmp 7] _ from ⟨⟨⟨g2,0,none⟩,by kernel_rfl,trS_run _ (vs:=[iv v_c3_0,iv v_c3_1,.slice Av_c3_2 v_c3_2.length cv_c3_2,.slice Av_c3_3 v_c3_3.length cv_c3_3]) (r:=[]) (es:=[.load ⟨g2,0,none⟩ (iv v_c3_0),.load ⟨g2,1,none⟩ (iv v_c3_1),.load ⟨g2,2,none⟩ (.slice Av_c3_2 v_c3_2.length cv_c3_2),.load ⟨g2,3,none⟩ (.slice Av_c3_3 v_c3_3.length cv_c3_3)]) (by kernel_rfl) ⟨(hh.box 0 rfl rfl),(hh.box 0 rfl rfl),(hh.box 0 rfl rfl),(hh.box 0 rfl rfl)⟩⟩,(show lk _ _=some _ by kernel_rfl),trivial⟩) rfl (cs':=chv_c3_2::chv_c3_3::(some (ga2q0,.cells #[.slice Av_see2_0_0 v_see2_0_0.length cv_see2_0_0] 73 (0,0)))::chv_see2_0_0::F) rfl ⟨Av_c3_2,cv_c3_2,chv_c3_2,Av_c3_3,cv_c3_3,chv_c3_3,Av_see2_0_0,cv_see2_0_0,chv_see2_0_0,rfl,rfl,hov_c3_2,hov_c3_3,hov_see2_0_0⟩
theorem cache_follow.l2_c {w0:World} {H0:Hp} {F:List Ch} {r:Cache × Int × (List CacheAnswer)} (e1:(List CacheAnswer)→Int→Int→(List Blob)→(List Entry)→Option (Cache × Int × (List CacheAnswer)))
  (he1:∀ (H:Hp) (ga2q0:Nat) (g1:Nat) (g2:Nat) (v_see2_0_0:List CacheAnswer) (Av_see2_0_0:Option Addr) (nv_see2_0_0:Nat) (cv_see2_0_0:Nat) (chv_see2_0_0:Ch) (v_c3_0:Int) (v_c3_1:Int) (v_c3_2:List Blob) (Av_c3_2:Option Addr) (nv_c3_2:Nat) (cv_c3_2:Nat) (chv_c3_2:Ch) (v_c3_3:List Entry) (Av_c3_3:Option Addr) (nv_c3_3:Nat) (cv_c3_3:Nat) (chv_c3_3:Ch) ,SlOwn kCacheAnswer 63 H Av_see2_0_0 cv_see2_0_0 v_see2_0_0 chv_see2_0_0→nv_see2_0_0=v_see2_0_0.length→SlOwn kBlob 47 H Av_c3_2 cv_c3_2 v_c3_2 chv_c3_2→nv_c3_2=v_c3_2.length→SlOwn kEntry 51 H Av_c3_3 cv_c3_3 v_c3_3 chv_c3_3→nv_c3_3=v_c3_3.length→e1 v_see2_0_0 v_c3_0 v_c3_1 v_c3_2 v_c3_3=some r→RunH C93 (S93 F H0 ga2q0 r) H0 w0 [.c [1,1,1,1,1,0],.c [1,1,1,1,1,1]] [(2,.func (.func 94) #[] #[.pointer (some ⟨ga2q0,0,none⟩)]),(3,pg g1 0),(6,pg g2 0)] H (chv_c3_2::chv_c3_3::(some (g2,.cells #[iv 0,iv 0,.slice none 0 0,.slice none 0 0] 25 (0,0)))::(some (g1,.cells #[iv v_c3_0,iv v_c3_1,.slice Av_c3_2 nv_c3_2 cv_c3_2,.slice Av_c3_3 nv_c3_3 cv_c3_3] 25 (0,0)))::(some (ga2q0,.cells #[.slice Av_see2_0_0 nv_see2_0_0 cv_see2_0_0] 73 (0,0)))::chv_see2_0_0::F)):∀ (k:Nat),∀ (H:Hp) (a1:List CacheEvent) (Aa1:Option Addr) (ca1:Nat) (ga2q0:Nat) (g1:Nat) (g2:Nat) (v_see2_0_0:List CacheAnswer) (Av_see2_0_0:Option Addr) (nv_see2_0_0:Nat) (cv_see2_0_0:Nat) (chv_see2_0_0:Ch) (v_c3_0:Int) (v_c3_1:Int) (v_c3_2:List Blob) (Av_c3_2:Option Addr) (nv_c3_2:Nat) (cv_c3_2:Nat) (chv_c3_2:Ch) (v_c3_3:List Entry) (Av_c3_3:Option Addr) (nv_c3_3:Nat) (cv_c3_3:Nat) (chv_c3_3:Ch) (v27:Int) ,Rw kCacheEvent H F Aa1 a1→a1.length≤ca1→SlOwn kCacheAnswer 63 H Av_see2_0_0 cv_see2_0_0 v_see2_0_0 chv_see2_0_0→nv_see2_0_0=v_see2_0_0.length→SlOwn kBlob 47 H Av_c3_2 cv_c3_2 v_c3_2 chv_c3_2→nv_c3_2=v_c3_2.length→SlOwn kEntry 51 H Av_c3_3 cv_c3_3 v_c3_3 chv_c3_3→nv_c3_3=v_c3_3.length→cache_follow.l2 e1 k a1 v_see2_0_0 v_c3_0 v_c3_1 v_c3_2 v_c3_3 v27=some r→RunH C93 (S93 F H0 ga2q0 r) H0 w0 [.c [1,1,1,1,0,1,0,0],.l [1,1,1,1,0,1,0,0],.b 0,.c [1,1,1,1,1]] [(2,.func (.func 94) #[] #[.pointer (some ⟨ga2q0,0,none⟩)]),(3,pg g1 0),(6,pg g2 0),(25,.slice Aa1 a1.length ca1),(26,iv (a1.length:Int)),(27,iv v27)] H (chv_c3_2::chv_c3_3::(some (g2,.cells #[iv 0,iv 0,.slice none 0 0,.slice none 0 0] 25 (0,0)))::(some (g1,.cells #[iv v_c3_0,iv v_c3_1,.slice Av_c3_2 nv_c3_2 cv_c3_2,.slice Av_c3_3 nv_c3_3 cv_c3_3] 25 (0,0)))::(some (ga2q0,.cells #[.slice Av_see2_0_0 nv_see2_0_0 cv_see2_0_0] 73 (0,0)))::chv_see2_0_0::F):=by
 intro k
 induction k with
 | zero=>intro H a1 Aa1 ca1 ga2q0 g1 g2 v_see2_0_0 Av_see2_0_0 nv_see2_0_0 cv_see2_0_0 chv_see2_0_0 v_c3_0 v_c3_1 v_c3_2 Av_c3_2 nv_c3_2 cv_c3_2 chv_c3_2 v_c3_3 Av_c3_3 nv_c3_3 cv_c3_3 chv_c3_3 v27 hra1 hca1 hov_see2_0_0 hnv_see2_0_0 hov_c3_2 hnv_c3_2 hov_c3_3 hnv_c3_3 heq; exact nomatch (show (none:Option (Cache × Int × (List CacheAnswer)))=some r from heq)
 | succ k ihk =>
  intro H a1 Aa1 ca1 ga2q0 g1 g2 v_see2_0_0 Av_see2_0_0 nv_see2_0_0 cv_see2_0_0 chv_see2_0_0 v_c3_0 v_c3_1 v_c3_2 Av_c3_2 nv_c3_2 cv_c3_2 chv_c3_2 v_c3_3 Av_c3_3 nv_c3_3 cv_c3_3 chv_c3_3 v27 hra1 hca1 hov_see2_0_0 hnv_see2_0_0 hov_c3_2 hnv_c3_2 hov_c3_3 hnv_c3_3 heq
  subst hnv_see2_0_0
  subst hnv_c3_2
  subst hnv_c3_3
  rw [cache_follow.l2] at heq
  refine Ra 1 [1,1,1,1,0,1,0,0,0] [.c [1,1,1,1,0,1,0,0,1],.l [1,1,1,1,0,1,0,0],.b 0,.c [1,1,1,1,1]]<|Rd 1 [2,3,6,25,26,27,28] [(2,.func (.func 94) #[] #[.pointer (some ⟨ga2q0,0,none⟩)]),(3,pg g1 0),(6,pg g2 0),(25,.slice Aa1 a1.length ca1),(26,iv (a1.length:Int)),(27,iv v27),(28,.bool (decide (v27<(a1.length:Int))))]<|Ad 1 [.c [1,1,1,1,0,1,0,0,1,0],.c [1,1,1,1,0,1,0,0,1,1],.l [1,1,1,1,0,1,0,0],.b 0,.c [1,1,1,1,1]] ?_
  rcases bool_cases (decide (v27<(a1.length:Int))) with hb3 | hb3
  ·replace heq:=bif_true hb3 heq
   refine Ct (decide (v27<(a1.length:Int))) hb3<|Ra 4 [1,1,1,1,0,1,0,0,1,1,0,0,0] [.c [1,1,1,1,0,1,0,0,1,1,0,0,1],.b 1,.c [1,1,1,1,0,1,0,0,1,1,1],.l [1,1,1,1,0,1,0,0],.b 0,.c [1,1,1,1,1]] ?_
   obtain ⟨x1,hx1,heq⟩:=bind_some heq
   obtain ⟨ha1,cs1,hK1,hcc1⟩:=hra1.get hx1
   obtain ⟨A3,c3,rfl,hc1,hr1⟩:=kCacheEvent_open hK1
   refine Rv 2 [2,3,6,25,26,27,30] [iv x1.Kind,iv x1.At,.string x1.Digest,.slice A3 x1.Digests.length c3,.string x1.Key,iv x1.Size] [.need (Aa1=some (adr Aa1)∧(0:Int)≤v27∧v27<((a1.length:Nat):Int)),.load (((adr Aa1).add (v27.toNat*6)).add 0) (iv x1.Kind),.load (((adr Aa1).add (v27.toNat*6)).add 1) (iv x1.At),.load (((adr Aa1).add (v27.toNat*6)).add 2) (.string x1.Digest),.load (((adr Aa1).add (v27.toNat*6)).add 3) (.slice A3 x1.Digests.length c3),.load (((adr Aa1).add (v27.toNat*6)).add 4) (.string x1.Key),.load (((adr Aa1).add (v27.toNat*6)).add 5) (iv x1.Size)] [(2,.func (.func 94) #[] #[.pointer (some ⟨ga2q0,0,none⟩)]),(3,pg g1 0),(6,pg g2 0),(25,.slice Aa1 a1.length ca1),(26,iv (a1.length:Int)),(27,iv v27),(30,.agg #[iv x1.Kind,iv x1.At,.string x1.Digest,.slice A3 x1.Digests.length c3,.string x1.Key,iv x1.Size])] (fun w hh=>⟨⟨ha1,(at?_some hx1).1,(at?_some hx1).2.1⟩,(hcc1 _ _ (hh.drop 6) 0 _ rfl),(hcc1 _ _ (hh.drop 6) 1 _ rfl),(hcc1 _ _ (hh.drop 6) 2 _ rfl),(hcc1 _ _ (hh.drop 6) 3 _ rfl),(hcc1 _ _ (hh.drop 6) 4 _ rfl),(hcc1 _ _ (hh.drop 6) 5 _ rfl)⟩) ?_
   refine RgH.does (DoesH.new (d:=10) (v:=fun g=>.pointer (some ⟨g,0,none⟩)) (o:=fun g=>.cells #[iv 0,iv 0,.string ByteArray.empty,.slice none 0 0,.string ByteArray.empty,iv 0] 67 (0,0)) (fun g=>by kernel_rfl)) ?_
   rintro _ _ _ _ ⟨g3,rfl,rfl,rfl⟩
   refine RgH.does (DoesH.store (k:=0) (g:=g3) (off:=0) (v:=.agg #[iv x1.Kind,iv x1.At,.string x1.Digest,.slice A3 x1.Digests.length c3,.string x1.Key,iv x1.Size]) (cells':=#[iv x1.Kind,iv x1.At,.string x1.Digest,.slice A3 x1.Digests.length c3,.string x1.Key,iv x1.Size]) (by kernel_rfl) rfl (by kernel_rfl) (by kernel_rfl)) ?_
   rintro _ _ _ _ ⟨rfl,rfl,rfl⟩
   refine Dn<|Ra 1 [1,1,1,1,0,1,0,0,1,1,0,0,1,0] [.c [1,1,1,1,0,1,0,0,1,1,0,0,1,1],.b 1,.c [1,1,1,1,0,1,0,0,1,1,1],.l [1,1,1,1,0,1,0,0],.b 0,.c [1,1,1,1,1]]<|Rv 1 [2,3,6,10,25,26,27,32] [iv x1.Kind,iv x1.At,.string x1.Digest,.slice A3 x1.Digests.length c3,.string x1.Key,iv x1.Size] [.load ⟨g3,0,none⟩ (iv x1.Kind),.load ⟨g3,1,none⟩ (iv x1.At),.load ⟨g3,2,none⟩ (.string x1.Digest),.load ⟨g3,3,none⟩ (.slice A3 x1.Digests.length c3),.load ⟨g3,4,none⟩ (.string x1.Key),.load ⟨g3,5,none⟩ (iv x1.Size)] [(2,.func (.func 94) #[] #[.pointer (some ⟨ga2q0,0,none⟩)]),(3,pg g1 0),(6,pg g2 0),(10,pg g3 0),(25,.slice Aa1 a1.length ca1),(26,iv (a1.length:Int)),(27,iv v27),(32,.agg #[iv x1.Kind,iv x1.At,.string x1.Digest,.slice A3 x1.Digests.length c3,.string x1.Key,iv x1.Size])] (fun w hh=>⟨(hh.box 0 rfl rfl),(hh.box 0 rfl rfl),(hh.box 0 rfl rfl),(hh.box 0 rfl rfl),(hh.box 0 rfl rfl),(hh.box 0 rfl rfl)⟩) ?_
   refine RgH.pick 7 [4,1,2,0,3,5,6] (cs':=(some (g1,.cells #[iv v_c3_0,iv v_c3_1,.slice Av_c3_2 v_c3_2.length cv_c3_2,.slice Av_c3_3 v_c3_3.length cv_c3_3] 25 (0,0)))::chv_c3_2::chv_c3_3::(some (g3,.cells #[iv x1.Kind,iv x1.At,.string x1.Digest,.slice A3 x1.Digests.length c3,.string x1.Key,iv x1.Size] 67 (0,0)))::(some (g2,.cells #[iv 0,iv 0,.slice none 0 0,.slice none 0 0] 25 (0,0)))::(some (ga2q0,.cells #[.slice Av_see2_0_0 v_see2_0_0.length cv_see2_0_0] 73 (0,0)))::chv_see2_0_0::F) (by kernel_rfl) rfl ?_
   obtain ⟨y3,hy3,heq⟩:=bind_some heq
   refine RgH.does (DoesH.call (d:=33) (g:=91) (args:=#[.pointer (some ⟨g1,0,none⟩),.agg #[iv x1.Kind,iv x1.At,.string x1.Digest,.slice A3 x1.Digests.length c3,.string x1.Key,iv x1.Size]]) (by kernel_rfl) (cache_do_c (a0:=(⟨v_c3_0,v_c3_1,v_c3_2,v_c3_3⟩:Cache)) (a1:=x1) hov_c3_2 rfl hov_c3_3 rfl (Rw.of hr1) hc1 rfl hy3)) ?_
   rintro _ H _ hl ⟨_,rfl,A4,c4,ch3,A5,c5,ch4,A6,c6,ch5,A7,c7,ch6,rfl,rfl,ho7,ho8,ho9,ho10⟩
   replace hov_see2_0_0:=hov_see2_0_0.mono hl
   replace hov_c3_2:=hov_c3_2.mono hl
   replace hov_c3_3:=hov_c3_3.mono hl
   replace hr1:=hr1.mono hl
   replace hra1:=hra1.mono hl
   refine Rk 5 [2,3,6,10,25,26,27,34,35] [(2,.func (.func 94) #[] #[.pointer (some ⟨ga2q0,0,none⟩)]),(3,pg g1 0),(6,pg g2 0),(10,pg g3 0),(25,.slice Aa1 a1.length ca1),(26,iv (a1.length:Int)),(27,iv v27),(34,.agg #[.bool y3.1.Done,.slice A4 y3.1.Missing.length c4,.slice A5 y3.1.Gone.length c5]),(35,iv y3.2.1)] ?_
   refine RgH.does (DoesH.new (d:=11) (v:=fun g=>.pointer (some ⟨g,0,none⟩)) (o:=fun g=>.cells #[.bool false,.slice none 0 0,.slice none 0 0] 63 (0,0)) (fun g=>by kernel_rfl)) ?_
   rintro _ _ _ _ ⟨g4,rfl,rfl,rfl⟩
   refine RgH.does (DoesH.store (k:=0) (g:=g4) (off:=0) (v:=.agg #[.bool y3.1.Done,.slice A4 y3.1.Missing.length c4,.slice A5 y3.1.Gone.length c5]) (cells':=#[.bool y3.1.Done,.slice A4 y3.1.Missing.length c4,.slice A5 y3.1.Gone.length c5]) (by kernel_rfl) rfl (by kernel_rfl) (by kernel_rfl)) ?_
   rintro _ _ _ _ ⟨rfl,rfl,rfl⟩
   refine Rd 8 [2,3,6,10,11,12,25,26,27] [(2,.func (.func 94) #[] #[.pointer (some ⟨ga2q0,0,none⟩)]),(3,pg g1 0),(6,pg g2 0),(10,pg g3 0),(11,pg g4 0),(12,iv y3.2.1),(25,.slice Aa1 a1.length ca1),(26,iv (a1.length:Int)),(27,iv v27)]<|Ra 2 [1,1,1,1,0,1,0,0,1,1,0,0,1,1,0,0] [.c [1,1,1,1,0,1,0,0,1,1,0,0,1,1,0,1],.c [1,1,1,1,0,1,0,0,1,1,0,0,1,1,1],.b 1,.c [1,1,1,1,0,1,0,0,1,1,1],.l [1,1,1,1,0,1,0,0],.b 0,.c [1,1,1,1,1]]<|Rd 2 [2,3,6,10,11,12,25,26,27,37] [(2,.func (.func 94) #[] #[.pointer (some ⟨ga2q0,0,none⟩)]),(3,pg g1 0),(6,pg g2 0),(10,pg g3 0),(11,pg g4 0),(12,iv y3.2.1),(25,.slice Aa1 a1.length ca1),(26,iv (a1.length:Int)),(27,iv v27),(37,.bool (y3.2.1 != 0))] ?_
   rcases bool_cases (y3.2.1 != 0) with hb4 | hb4
   ·replace heq:=bif_true hb4 heq
    refine Ct (y3.2.1 != 0) hb4<|Ra 1 [1,1,1,1,0,1,0,0,1,1,0,0,1,1,0,1,0,0] [.c [1,1,1,1,0,1,0,0,1,1,0,0,1,1,0,1,0,1],.c [1,1,1,1,0,1,0,0,1,1,0,0,1,1,1],.b 1,.c [1,1,1,1,0,1,0,0,1,1,1],.l [1,1,1,1,0,1,0,0],.b 0,.c [1,1,1,1,1]]<|Rk 2 [2,6,38,39] [(2,.func (.func 94) #[] #[.pointer (some ⟨ga2q0,0,none⟩)]),(6,pg g2 0),(38,.agg #[iv 0,iv 0,.slice none 0 0,.slice none 0 0]),(39,iv y3.2.1)] ?_
    refine RgH.does (DoesH.store (k:=7) (g:=g2) (off:=0) (v:=.agg #[iv 0,iv 0,.slice none 0 0,.slice none 0 0]) (cells':=#[iv 0,iv 0,.slice none 0 0,.slice none 0 0]) (by kernel_rfl) rfl (by kernel_rfl) (by kernel_rfl)) ?_
    rintro _ _ _ _ ⟨rfl,rfl,rfl⟩
    refine Rd 4 [2,6,7] [(2,.func (.func 94) #[] #[.pointer (some ⟨ga2q0,0,none⟩)]),(6,pg g2 0),(7,iv y3.2.1)]<|RunH.nilc ?_
    have ho11:SlOwn kBlob 47 H none 0 ([]:List Blob) none:=SlOwn.nil
    refine RunH.nilc ?_
    have ho12:SlOwn kEntry 51 H none 0 ([]:List Entry) none:=SlOwn.nil
    obtain rfl:=Option.some.inj heq
    refine RunH.pick 12 [9,1,0,10,11] (cs':=(some (g2,.cells #[iv 0,iv 0,.slice none 0 0,.slice none 0 0] 25 (0,0)))::none::none::(some (ga2q0,.cells #[.slice Av_see2_0_0 v_see2_0_0.length cv_see2_0_0] 73 (0,0)))::chv_see2_0_0::F) (by kernel_rfl) rfl ?_
    exact RunH.doneM' 1 (vs:=[.agg #[iv 0,iv 0,.slice none 0 0,.slice none 0 0],iv y3.2.1]) (v:=.tuple #[.agg #[iv 0,iv 0,.slice none 0 0,.slice none 0 0],iv y3.2.1]) (by kernel_rfl) Tryd.func93 (fun w hh=>show ResAll _ _ _ [.cell 6 25,.tmp 7] _ from ⟨⟨⟨g2,0,none⟩,by kernel_rfl,trS_run _ (vs:=[iv 0,iv 0,.slice none 0 0,.slice none 0 0]) (r:=[]) (es:=[.load ⟨g2,0,none⟩ (iv 0),.load ⟨g2,1,none⟩ (iv 0),.load ⟨g2,2,none⟩ (.slice none 0 0),.load ⟨g2,3,none⟩ (.slice none 0 0)]) (by kernel_rfl) ⟨(hh.box 0 rfl rfl),(hh.box 0 rfl rfl),(hh.box 0 rfl rfl),(hh.box 0 rfl rfl)⟩⟩,(show lk _ _=some _ by kernel_rfl),trivial⟩) rfl (cs':=none::none::(some (ga2q0,.cells #[.slice Av_see2_0_0 v_see2_0_0.length cv_see2_0_0] 73 (0,0)))::chv_see2_0_0::F) rfl ⟨none,0,none,none,0,none,Av_see2_0_0,cv_see2_0_0,chv_see2_0_0,rfl,rfl,ho11,ho12,hov_see2_0_0⟩
   ·replace heq:=bif_false hb4 heq
    refine Cf (y3.2.1 != 0) hb4<|Ra 1 [1,1,1,1,0,1,0,0,1,1,0,0,1,1,1] [.b 1,.c [1,1,1,1,0,1,0,0,1,1,1],.l [1,1,1,1,0,1,0,0],.b 0,.c [1,1,1,1,1]]<|Rv 4 [2,3,6,25,26,27,40,41,42,43] [iv y3.2.2.Room,iv y3.2.2.Lease,.slice A6 y3.2.2.Blobs.length c6,.slice A7 y3.2.2.Entries.length c7,iv x1.Kind,iv x1.At,.string x1.Digest,.slice A3 x1.Digests.length c3,.string x1.Key,iv x1.Size,.bool y3.1.Done,.slice A4 y3.1.Missing.length c4,.slice A5 y3.1.Gone.length c5] [.load ⟨g1,0,none⟩ (iv y3.2.2.Room),.load ⟨g1,1,none⟩ (iv y3.2.2.Lease),.load ⟨g1,2,none⟩ (.slice A6 y3.2.2.Blobs.length c6),.load ⟨g1,3,none⟩ (.slice A7 y3.2.2.Entries.length c7),.load ⟨g3,0,none⟩ (iv x1.Kind),.load ⟨g3,1,none⟩ (iv x1.At),.load ⟨g3,2,none⟩ (.string x1.Digest),.load ⟨g3,3,none⟩ (.slice A3 x1.Digests.length c3),.load ⟨g3,4,none⟩ (.string x1.Key),.load ⟨g3,5,none⟩ (iv x1.Size),.load ⟨g4,0,none⟩ (.bool y3.1.Done),.load ⟨g4,1,none⟩ (.slice A4 y3.1.Missing.length c4),.load ⟨g4,2,none⟩ (.slice A5 y3.1.Gone.length c5)] [(2,.func (.func 94) #[] #[.pointer (some ⟨ga2q0,0,none⟩)]),(3,pg g1 0),(6,pg g2 0),(25,.slice Aa1 a1.length ca1),(26,iv (a1.length:Int)),(27,iv v27),(40,.func (.func 94) #[] #[.pointer (some ⟨ga2q0,0,none⟩)]),(41,.agg #[iv y3.2.2.Room,iv y3.2.2.Lease,.slice A6 y3.2.2.Blobs.length c6,.slice A7 y3.2.2.Entries.length c7]),(42,.agg #[iv x1.Kind,iv x1.At,.string x1.Digest,.slice A3 x1.Digests.length c3,.string x1.Key,iv x1.Size]),(43,.agg #[.bool y3.1.Done,.slice A4 y3.1.Missing.length c4,.slice A5 y3.1.Gone.length c5])] (fun w hh=>⟨(hh.box 3 rfl rfl),(hh.box 3 rfl rfl),(hh.box 3 rfl rfl),(hh.box 3 rfl rfl),(hh.box 6 rfl rfl),(hh.box 6 rfl rfl),(hh.box 6 rfl rfl),(hh.box 6 rfl rfl),(hh.box 6 rfl rfl),(hh.box 6 rfl rfl),(hh.box 0 rfl rfl),(hh.box 0 rfl rfl),(hh.box 0 rfl rfl)⟩) ?_
    refine RgH.pick 10 [1,0,2,3,4,5,6,7,8,9] (cs':=ch3::(some (g4,.cells #[.bool y3.1.Done,.slice A4 y3.1.Missing.length c4,.slice A5 y3.1.Gone.length c5] 63 (0,0)))::ch4::(some (g1,.cells #[iv y3.2.2.Room,iv y3.2.2.Lease,.slice A6 y3.2.2.Blobs.length c6,.slice A7 y3.2.2.Entries.length c7] 25 (0,0)))::ch5::ch6::(some (g3,.cells #[iv x1.Kind,iv x1.At,.string x1.Digest,.slice A3 x1.Digests.length c3,.string x1.Key,iv x1.Size] 67 (0,0)))::(some (g2,.cells #[iv 0,iv 0,.slice none 0 0,.slice none 0 0] 25 (0,0)))::(some (ga2q0,.cells #[.slice Av_see2_0_0 v_see2_0_0.length cv_see2_0_0] 73 (0,0)))::chv_see2_0_0::F) (by kernel_rfl) rfl ?_
    have hc2:=ho7.cap
    refine Hs.freezeS ho7 (fun H hl hr2=>?_)
    replace hov_see2_0_0:=hov_see2_0_0.mono hl
    replace ho9:=ho9.mono hl
    replace ho10:=ho10.mono hl
    replace hra1:=hra1.mono hl
    replace hr1:=hr1.mono hl
    replace ho8:=ho8.mono hl
    refine RgH.pick 9 [1,0,2,3,4,5,6,7,8] (cs':=ch4::(some (g4,.cells #[.bool y3.1.Done,.slice A4 y3.1.Missing.length c4,.slice A5 y3.1.Gone.length c5] 63 (0,0)))::(some (g1,.cells #[iv y3.2.2.Room,iv y3.2.2.Lease,.slice A6 y3.2.2.Blobs.length c6,.slice A7 y3.2.2.Entries.length c7] 25 (0,0)))::ch5::ch6::(some (g3,.cells #[iv x1.Kind,iv x1.At,.string x1.Digest,.slice A3 x1.Digests.length c3,.string x1.Key,iv x1.Size] 67 (0,0)))::(some (g2,.cells #[iv 0,iv 0,.slice none 0 0,.slice none 0 0] 25 (0,0)))::(some (ga2q0,.cells #[.slice Av_see2_0_0 v_see2_0_0.length cv_see2_0_0] 73 (0,0)))::chv_see2_0_0::F) (by kernel_rfl) rfl ?_
    have hc3:=ho8.cap
    refine Hs.freezeS ho8 (fun H hl hr3=>?_)
    replace hov_see2_0_0:=hov_see2_0_0.mono hl
    replace ho9:=ho9.mono hl
    replace ho10:=ho10.mono hl
    replace hra1:=hra1.mono hl
    replace hr1:=hr1.mono hl
    replace hr2:=hr2.mono hl
    refine RgH.pick 8 [6,7,0,1,2,3,4,5] (cs':=(some (ga2q0,.cells #[.slice Av_see2_0_0 v_see2_0_0.length cv_see2_0_0] 73 (0,0)))::chv_see2_0_0::(some (g4,.cells #[.bool y3.1.Done,.slice A4 y3.1.Missing.length c4,.slice A5 y3.1.Gone.length c5] 63 (0,0)))::(some (g1,.cells #[iv y3.2.2.Room,iv y3.2.2.Lease,.slice A6 y3.2.2.Blobs.length c6,.slice A7 y3.2.2.Entries.length c7] 25 (0,0)))::ch5::ch6::(some (g3,.cells #[iv x1.Kind,iv x1.At,.string x1.Digest,.slice A3 x1.Digests.length c3,.string x1.Key,iv x1.Size] 67 (0,0)))::(some (g2,.cells #[iv 0,iv 0,.slice none 0 0,.slice none 0 0] 25 (0,0)))::F) (by kernel_rfl) rfl ?_
    obtain ⟨y4,hy4,heq⟩:=bind_some heq
    refine RgH.does (DoesH.call (d:=44) (g:=94) (args:=#[.agg #[iv y3.2.2.Room,iv y3.2.2.Lease,.slice A6 y3.2.2.Blobs.length c6,.slice A7 y3.2.2.Entries.length c7],.agg #[iv x1.Kind,iv x1.At,.string x1.Digest,.slice A3 x1.Digests.length c3,.string x1.Key,iv x1.Size],.agg #[.bool y3.1.Done,.slice A4 y3.1.Missing.length c4,.slice A5 y3.1.Gone.length c5],.pointer (some ⟨ga2q0,0,none⟩)]) (by kernel_rfl) (cache_Follow_1_2_c (a0:=(⟨y3.2.2.Room,y3.2.2.Lease,y3.2.2.Blobs,y3.2.2.Entries⟩:Cache)) (a1:=x1) (a2:=(⟨y3.1.Done,y3.1.Missing,y3.1.Gone⟩:CacheAnswer)) (a3:=v_see2_0_0) (ho9.rw (.tail _ (.tail _ (.head _)))) ho9.cap rfl (ho10.rw (.tail _ (.tail _ (.tail _ (.head _))))) ho10.cap rfl (Rw.of hr1) hc1 rfl hr2 hc2 rfl hr3 hc3 rfl hov_see2_0_0 rfl hy4)) ?_
    rintro _ _ _ _ ⟨_,rfl,A8,c8,ch7,rfl,rfl,rfl,ho13⟩
    refine Dn<|Ra 1 [1,1,1,1,0,1,0,0,1,1,1] [.l [1,1,1,1,0,1,0,0],.b 0,.c [1,1,1,1,1]]<|Rd 2 [2,3,6,25,26,27] [(2,.func (.func 94) #[] #[.pointer (some ⟨ga2q0,0,none⟩)]),(3,pg g1 0),(6,pg g2 0),(25,.slice Aa1 a1.length ca1),(26,iv (a1.length:Int)),(27,iv (w64 (v27+1)))]<|Ad 1 [.c [1,1,1,1,0,1,0,0],.l [1,1,1,1,0,1,0,0],.b 0,.c [1,1,1,1,1]]<|Kp [2,3,6,25,26,27] [(2,.func (.func 94) #[] #[.pointer (some ⟨ga2q0,0,none⟩)]),(3,pg g1 0),(6,pg g2 0),(25,.slice Aa1 a1.length ca1),(26,iv (a1.length:Int)),(27,iv (w64 (v27+1)))] ?_
    refine RunH.pick 8 [4,5,7,3,0,1] (cs':=ch5::ch6::(some (g2,.cells #[iv 0,iv 0,.slice none 0 0,.slice none 0 0] 25 (0,0)))::(some (g1,.cells #[iv y3.2.2.Room,iv y3.2.2.Lease,.slice A6 y3.2.2.Blobs.length c6,.slice A7 y3.2.2.Entries.length c7] 25 (0,0)))::(some (ga2q0,.cells #[.slice A8 y4.length c8] 73 (0,0)))::ch7::F) (by kernel_rfl) rfl ?_
    exact ihk _ a1 _ _ _ _ _ y4 _ _ _ _ y3.2.2.Room y3.2.2.Lease y3.2.2.Blobs _ _ _ _ y3.2.2.Entries _ _ _ _ (w64 (v27+1)) hra1 hca1 ho13 rfl ho9 rfl ho10 rfl heq
  ·replace heq:=bif_false hb3 heq
   refine Cf (decide (v27<(a1.length:Int))) hb3<|Ad 2 [.c [1,1,1,1,1,0],.c [1,1,1,1,1,1]]<|Kp [2,3,6] [(2,.func (.func 94) #[] #[.pointer (some ⟨ga2q0,0,none⟩)]),(3,pg g1 0),(6,pg g2 0)] ?_
   exact he1 _ _ _ _ v_see2_0_0 _ _ _ _ v_c3_0 v_c3_1 v_c3_2 _ _ _ _ v_c3_3 _ _ _ _ hov_see2_0_0 rfl hov_c3_2 rfl hov_c3_3 rfl heq
theorem cache_follow_c {w0:World} {H0:Hp} {F:List Ch} {a0:Cache} {Aa0_2:Option Addr} {na0_2:Nat} {ca0_2:Nat} {Aa0_3:Option Addr} {na0_3:Nat} {ca0_3:Nat} {a1:List CacheEvent} {Aa1:Option Addr} {na1:Nat} {ca1:Nat} {ga2q0:Nat} {a2q0:List CacheAnswer} {Aa2q0_0:Option Addr} {na2q0_0:Nat} {ca2q0_0:Nat} {cha2q0_0:Ch} {r:Cache × Int × (List CacheAnswer)} (hra0_2:Rw kBlob H0 F Aa0_2 a0.Blobs) (hca0_2:na0_2≤ca0_2) (hna0_2:na0_2=a0.Blobs.length) (hra0_3:Rw kEntry H0 F Aa0_3 a0.Entries) (hca0_3:na0_3≤ca0_3) (hna0_3:na0_3=a0.Entries.length) (hra1:Rw kCacheEvent H0 F Aa1 a1) (hca1:na1≤ca1) (hna1:na1=a1.length) (hoa2q0_0:SlOwn kCacheAnswer 63 H0 Aa2q0_0 ca2q0_0 a2q0 cha2q0_0) (hna2q0_0:na2q0_0=a2q0.length) (heq:cache_follow.f a0 a1 a2q0=some r):CallsH Tryd.prog 93 #[.agg #[iv a0.Room,iv a0.Lease,.slice Aa0_2 na0_2 ca0_2,.slice Aa0_3 na0_3 ca0_3],.slice Aa1 na1 ca1,.func (.func 94) #[] #[.pointer (some ⟨ga2q0,0,none⟩)]] H0 w0 ((some (ga2q0,.cells #[.slice Aa2q0_0 na2q0_0 ca2q0_0] 73 (0,0)))::cha2q0_0::F) (S93 F H0 ga2q0 r):=by
 refine calls_of_runH (F:=C93) Tryd.func93 (by kernel_rfl) Tryd.ntmps93 (args:=[.agg #[iv a0.Room,iv a0.Lease,.slice Aa0_2 na0_2 ca0_2,.slice Aa0_3 na0_3 ca0_3],.slice Aa1 na1 ca1,.func (.func 94) #[] #[.pointer (some ⟨ga2q0,0,none⟩)]]) (by kernel_rfl) ?_
 subst hna0_2
 subst hna0_3
 subst hna1
 subst hna2q0_0
 unfold cache_follow.f at heq
 suffices key:∀ (H:Hp),Rw kBlob H F Aa0_2 a0.Blobs→Rw kEntry H F Aa0_3 a0.Entries→Rw kCacheEvent H F Aa1 a1→SlOwn kCacheAnswer 63 H Aa2q0_0 ca2q0_0 a2q0 cha2q0_0→RunH C93 (S93 F H0 ga2q0 r) H0 w0 [.c []] (argL 0 [.agg #[iv a0.Room,iv a0.Lease,.slice Aa0_2 (a0.Blobs.length) ca0_2,.slice Aa0_3 (a0.Entries.length) ca0_3],.slice Aa1 (a1.length) ca1,.func (.func 94) #[] #[.pointer (some ⟨ga2q0,0,none⟩)]]) H ((some (ga2q0,.cells #[.slice Aa2q0_0 (a2q0.length) ca2q0_0] 73 (0,0)))::cha2q0_0::F) from key H0 hra0_2 hra0_3 hra1 hoa2q0_0
 intro H hra0_2 hra0_3 hra1 hoa2q0_0
 refine Ra 1 [0] [.c [1]] ?_
 refine RgH.does (DoesH.new (d:=3) (v:=fun g=>.pointer (some ⟨g,0,none⟩)) (o:=fun g=>.cells #[iv a0.Room,iv a0.Lease,.slice Aa0_2 a0.Blobs.length ca0_2,.slice Aa0_3 a0.Entries.length ca0_3] 25 (0,0)) (fun g=>by kernel_rfl)) ?_
 rintro _ _ _ _ ⟨g1,rfl,rfl,rfl⟩
 refine RgH.does (DoesH.new (d:=6) (v:=fun g=>.pointer (some ⟨g,0,none⟩)) (o:=fun g=>.cells #[iv 0,iv 0,.slice none 0 0,.slice none 0 0] 25 (0,0)) (fun g=>by kernel_rfl)) ?_
 rintro _ _ _ _ ⟨g2,rfl,rfl,rfl⟩
 refine Rd 3 [1,2,3,6] [(1,.slice Aa1 a1.length ca1),(2,.func (.func 94) #[] #[.pointer (some ⟨ga2q0,0,none⟩)]),(3,pg g1 0),(6,pg g2 0)]<|Ra 2 [1,0,0] [.c [1,0,1],.c [1,1]]<|Rv 1 [1,2,3,6,13] [iv a0.Room,iv a0.Lease,.slice Aa0_2 a0.Blobs.length ca0_2,.slice Aa0_3 a0.Entries.length ca0_3] [.load ⟨g1,0,none⟩ (iv a0.Room),.load ⟨g1,1,none⟩ (iv a0.Lease),.load ⟨g1,2,none⟩ (.slice Aa0_2 a0.Blobs.length ca0_2),.load ⟨g1,3,none⟩ (.slice Aa0_3 a0.Entries.length ca0_3)] [(1,.slice Aa1 a1.length ca1),(2,.func (.func 94) #[] #[.pointer (some ⟨ga2q0,0,none⟩)]),(3,pg g1 0),(6,pg g2 0),(13,.agg #[iv a0.Room,iv a0.Lease,.slice Aa0_2 a0.Blobs.length ca0_2,.slice Aa0_3 a0.Entries.length ca0_3])] (fun w hh=>⟨(hh.box 1 rfl rfl),(hh.box 1 rfl rfl),(hh.box 1 rfl rfl),(hh.box 1 rfl rfl)⟩) ?_
 obtain ⟨y1,hy1,heq⟩:=bind_some heq
 refine RgH.does (DoesH.call (d:=14) (g:=22) (args:=#[.agg #[iv a0.Room,iv a0.Lease,.slice Aa0_2 a0.Blobs.length ca0_2,.slice Aa0_3 a0.Entries.length ca0_3]]) (by kernel_rfl) (cache_CheckCache_c (a0:=a0) (hra0_2.wk (fun _ h=>(.tail _ (.tail _ (.tail _ (.tail _ h)))))) hca0_2 rfl (hra0_3.wk (fun _ h=>(.tail _ (.tail _ (.tail _ (.tail _ h)))))) hca0_3 rfl hy1)) ?_
 rintro _ _ _ _ ⟨_,rfl,rfl,rfl,rfl⟩
 refine Rd 3 [1,2,3,6,8] [(1,.slice Aa1 a1.length ca1),(2,.func (.func 94) #[] #[.pointer (some ⟨ga2q0,0,none⟩)]),(3,pg g1 0),(6,pg g2 0),(8,iv y1)]<|Ra 1 [1,0,1,0] [.c [1,0,1,1],.c [1,1]]<|Rd 2 [1,2,3,6,8,16] [(1,.slice Aa1 a1.length ca1),(2,.func (.func 94) #[] #[.pointer (some ⟨ga2q0,0,none⟩)]),(3,pg g1 0),(6,pg g2 0),(8,iv y1),(16,.bool (y1 != 0))] ?_
 rcases bool_cases (y1 != 0) with hb1 | hb1
 ·replace heq:=bif_true hb1 heq
  refine Ct (y1 != 0) hb1<|Ra 1 [1,0,1,1,0,0] [.c [1,0,1,1,0,1],.c [1,1]]<|Rk 2 [2,6,17,18] [(2,.func (.func 94) #[] #[.pointer (some ⟨ga2q0,0,none⟩)]),(6,pg g2 0),(17,.agg #[iv 0,iv 0,.slice none 0 0,.slice none 0 0]),(18,iv y1)] ?_
  refine RgH.does (DoesH.store (k:=0) (g:=g2) (off:=0) (v:=.agg #[iv 0,iv 0,.slice none 0 0,.slice none 0 0]) (cells':=#[iv 0,iv 0,.slice none 0 0,.slice none 0 0]) (by kernel_rfl) rfl (by kernel_rfl) (by kernel_rfl)) ?_
  rintro _ _ _ _ ⟨rfl,rfl,rfl⟩
  refine Rd 4 [2,6,7] [(2,.func (.func 94) #[] #[.pointer (some ⟨ga2q0,0,none⟩)]),(6,pg g2 0),(7,iv y1)]<|RunH.nilc ?_
  have ho1:SlOwn kBlob 47 H none 0 ([]:List Blob) none:=SlOwn.nil
  refine RunH.nilc ?_
  have ho2:SlOwn kEntry 51 H none 0 ([]:List Entry) none:=SlOwn.nil
  obtain rfl:=Option.some.inj heq
  refine RunH.pick 6 [2,1,0,4,5] (cs':=(some (g2,.cells #[iv 0,iv 0,.slice none 0 0,.slice none 0 0] 25 (0,0)))::none::none::(some (ga2q0,.cells #[.slice Aa2q0_0 a2q0.length ca2q0_0] 73 (0,0)))::cha2q0_0::F) (by kernel_rfl) rfl ?_
  exact RunH.doneM' 1 (vs:=[.agg #[iv 0,iv 0,.slice none 0 0,.slice none 0 0],iv y1]) (v:=.tuple #[.agg #[iv 0,iv 0,.slice none 0 0,.slice none 0 0],iv y1]) (by kernel_rfl) Tryd.func93 (fun w hh=>show ResAll _ _ _ [.cell 6 25,.tmp 7] _ from ⟨⟨⟨g2,0,none⟩,by kernel_rfl,trS_run _ (vs:=[iv 0,iv 0,.slice none 0 0,.slice none 0 0]) (r:=[]) (es:=[.load ⟨g2,0,none⟩ (iv 0),.load ⟨g2,1,none⟩ (iv 0),.load ⟨g2,2,none⟩ (.slice none 0 0),.load ⟨g2,3,none⟩ (.slice none 0 0)]) (by kernel_rfl) ⟨(hh.box 0 rfl rfl),(hh.box 0 rfl rfl),(hh.box 0 rfl rfl),(hh.box 0 rfl rfl)⟩⟩,(show lk _ _=some _ by kernel_rfl),trivial⟩) rfl (cs':=none::none::(some (ga2q0,.cells #[.slice Aa2q0_0 a2q0.length ca2q0_0] 73 (0,0)))::cha2q0_0::F) rfl ⟨none,0,none,none,0,none,Aa2q0_0,ca2q0_0,cha2q0_0,rfl,rfl,ho1,ho2,hoa2q0_0⟩
 ·replace heq:=bif_false hb1 heq
  refine Cf (y1 != 0) hb1<|Ra 3 [1,1,0,0] [.c [1,1,0,1],.c [1,1,1]]<|Rd 3 [1,2,3,6,21] [(1,.slice Aa1 a1.length ca1),(2,.func (.func 94) #[] #[.pointer (some ⟨ga2q0,0,none⟩)]),(3,pg g1 0),(6,pg g2 0),(21,.bool (decide (3000<(a1.length:Int))))] ?_
  rcases bool_cases (decide (3000<(a1.length:Int))) with hb2 | hb2
  ·replace heq:=bif_true hb2 heq
   refine Ct (decide (3000<(a1.length:Int))) hb2<|Ra 1 [1,1,0,1,0,0] [.c [1,1,0,1,0,1],.c [1,1,1]]<|Rk 1 [2,6,22] [(2,.func (.func 94) #[] #[.pointer (some ⟨ga2q0,0,none⟩)]),(6,pg g2 0),(22,.agg #[iv 0,iv 0,.slice none 0 0,.slice none 0 0])] ?_
   refine RgH.does (DoesH.store (k:=0) (g:=g2) (off:=0) (v:=.agg #[iv 0,iv 0,.slice none 0 0,.slice none 0 0]) (cells':=#[iv 0,iv 0,.slice none 0 0,.slice none 0 0]) (by kernel_rfl) rfl (by kernel_rfl) (by kernel_rfl)) ?_
   rintro _ _ _ _ ⟨rfl,rfl,rfl⟩
   refine Rd 3 [2,6,7] [(2,.func (.func 94) #[] #[.pointer (some ⟨ga2q0,0,none⟩)]),(6,pg g2 0),(7,iv 2)]<|RunH.nilc ?_
   have ho3:SlOwn kBlob 47 H none 0 ([]:List Blob) none:=SlOwn.nil
   refine RunH.nilc ?_
   have ho4:SlOwn kEntry 51 H none 0 ([]:List Entry) none:=SlOwn.nil
   obtain rfl:=Option.some.inj heq
   refine RunH.pick 6 [2,1,0,4,5] (cs':=(some (g2,.cells #[iv 0,iv 0,.slice none 0 0,.slice none 0 0] 25 (0,0)))::none::none::(some (ga2q0,.cells #[.slice Aa2q0_0 a2q0.length ca2q0_0] 73 (0,0)))::cha2q0_0::F) (by kernel_rfl) rfl ?_
   exact RunH.doneM' 1 (vs:=[.agg #[iv 0,iv 0,.slice none 0 0,.slice none 0 0],iv 2]) (v:=.tuple #[.agg #[iv 0,iv 0,.slice none 0 0,.slice none 0 0],iv 2]) (by kernel_rfl) Tryd.func93 (fun w hh=>show ResAll _ _ _ [.cell 6 25,.tmp 7] _ from ⟨⟨⟨g2,0,none⟩,by kernel_rfl,trS_run _ (vs:=[iv 0,iv 0,.slice none 0 0,.slice none 0 0]) (r:=[]) (es:=[.load ⟨g2,0,none⟩ (iv 0),.load ⟨g2,1,none⟩ (iv 0),.load ⟨g2,2,none⟩ (.slice none 0 0),.load ⟨g2,3,none⟩ (.slice none 0 0)]) (by kernel_rfl) ⟨(hh.box 0 rfl rfl),(hh.box 0 rfl rfl),(hh.box 0 rfl rfl),(hh.box 0 rfl rfl)⟩⟩,(show lk _ _=some _ by kernel_rfl),trivial⟩) rfl (cs':=none::none::(some (ga2q0,.cells #[.slice Aa2q0_0 a2q0.length ca2q0_0] 73 (0,0)))::cha2q0_0::F) rfl ⟨none,0,none,none,0,none,Aa2q0_0,ca2q0_0,cha2q0_0,rfl,rfl,ho3,ho4,hoa2q0_0⟩
  ·replace heq:=bif_false hb2 heq
   refine Cf (decide (3000<(a1.length:Int))) hb2<|Ra 2 [1,1,1,0] [.c [1,1,1,1]]<|Rv 1 [1,2,3,6,23] [iv a0.Room,iv a0.Lease,.slice Aa0_2 a0.Blobs.length ca0_2,.slice Aa0_3 a0.Entries.length ca0_3] [.load ⟨g1,0,none⟩ (iv a0.Room),.load ⟨g1,1,none⟩ (iv a0.Lease),.load ⟨g1,2,none⟩ (.slice Aa0_2 a0.Blobs.length ca0_2),.load ⟨g1,3,none⟩ (.slice Aa0_3 a0.Entries.length ca0_3)] [(1,.slice Aa1 a1.length ca1),(2,.func (.func 94) #[] #[.pointer (some ⟨ga2q0,0,none⟩)]),(3,pg g1 0),(6,pg g2 0),(23,.agg #[iv a0.Room,iv a0.Lease,.slice Aa0_2 a0.Blobs.length ca0_2,.slice Aa0_3 a0.Entries.length ca0_3])] (fun w hh=>⟨(hh.box 1 rfl rfl),(hh.box 1 rfl rfl),(hh.box 1 rfl rfl),(hh.box 1 rfl rfl)⟩) ?_
   obtain ⟨y2,hy2,heq⟩:=bind_some heq
   refine RgH.does (DoesH.call (d:=24) (g:=70) (args:=#[.agg #[iv a0.Room,iv a0.Lease,.slice Aa0_2 a0.Blobs.length ca0_2,.slice Aa0_3 a0.Entries.length ca0_3]]) (by kernel_rfl) (cache_own_c (a0:=a0) (hra0_2.wk (fun _ h=>(.tail _ (.tail _ (.tail _ (.tail _ h)))))) hca0_2 rfl (hra0_3.wk (fun _ h=>(.tail _ (.tail _ (.tail _ (.tail _ h)))))) hca0_3 rfl hy2)) ?_
   rintro _ H _ hl ⟨_,rfl,A1,c1,ch1,A2,c2,ch2,rfl,rfl,ho5,ho6⟩
   replace hra1:=hra1.mono hl
   replace hoa2q0_0:=hoa2q0_0.mono hl
   replace hra0_2:=hra0_2.mono hl
   replace hra0_3:=hra0_3.mono hl
   refine RgH.does (DoesH.store (k:=3) (g:=g1) (off:=0) (v:=.agg #[iv y2.Room,iv y2.Lease,.slice A1 y2.Blobs.length c1,.slice A2 y2.Entries.length c2]) (cells':=#[iv y2.Room,iv y2.Lease,.slice A1 y2.Blobs.length c1,.slice A2 y2.Entries.length c2]) (by kernel_rfl) rfl (by kernel_rfl) (by kernel_rfl)) ?_
   rintro _ _ _ _ ⟨rfl,rfl,rfl⟩
   refine Dn<|Ra 2 [1,1,1,1,0,0] [.c [1,1,1,1,0,1],.c [1,1,1,1,1]]<|Rd 3 [2,3,6,25,26,27] [(2,.func (.func 94) #[] #[.pointer (some ⟨ga2q0,0,none⟩)]),(3,pg g1 0),(6,pg g2 0),(25,.slice Aa1 a1.length ca1),(26,iv (a1.length:Int)),(27,iv 0)]<|Ad 2 [.c [1,1,1,1,0,1,0,0],.l [1,1,1,1,0,1,0,0],.b 0,.c [1,1,1,1,1]]<|Kp [2,3,6,25,26,27] [(2,.func (.func 94) #[] #[.pointer (some ⟨ga2q0,0,none⟩)]),(3,pg g1 0),(6,pg g2 0),(25,.slice Aa1 a1.length ca1),(26,iv (a1.length:Int)),(27,iv 0)] ?_
   exact ((cache_follow.l2_c (e1:=cache_follow.e1) (cache_follow.e1_c)) big) _ a1 _ _ _ _ _ a2q0 _ _ _ _ y2.Room y2.Lease y2.Blobs _ _ _ _ y2.Entries _ _ _ _ 0 hra1 hca1 hoa2q0_0 rfl ho5 rfl ho6 rfl heq
noncomputable def C48:Ctx:={ P:=Tryd.prog,f:=48,N:=22,c:=bodyOf Tryd.f48 }
def S48 (F:List Ch) (H0:Hp) (r:Cache × (List CacheAnswer) × Int) (v:Value) (H:Hp) (cs:List Ch):Prop:=∃ (A0_2:Option Addr) (c0_2:Nat) (ch0_2:Ch) (A0_3:Option Addr) (c0_3:Nat) (ch0_3:Ch) (A1:Option Addr) (c1:Nat) (ch1:Ch),v=.tuple #[.agg #[iv r.1.Room,iv r.1.Lease,.slice A0_2 r.1.Blobs.length c0_2,.slice A0_3 r.1.Entries.length c0_3],.slice A1 r.2.1.length c1,iv r.2.2]∧ch0_2::ch0_3::ch1::F=cs∧SlOwn kBlob 47 H A0_2 c0_2 r.1.Blobs ch0_2∧SlOwn kEntry 51 H A0_3 c0_3 r.1.Entries ch0_3∧SlOwn kCacheAnswer 63 H A1 c1 r.2.1 ch1
theorem cache_Follow_c {w0:World} {H0:Hp} {F:List Ch} {a0:Cache} {Aa0_2:Option Addr} {na0_2:Nat} {ca0_2:Nat} {Aa0_3:Option Addr} {na0_3:Nat} {ca0_3:Nat} {a1:List CacheEvent} {Aa1:Option Addr} {na1:Nat} {ca1:Nat} {r:Cache × (List CacheAnswer) × Int} (hra0_2:Rw kBlob H0 F Aa0_2 a0.Blobs) (hca0_2:na0_2≤ca0_2) (hna0_2:na0_2=a0.Blobs.length) (hra0_3:Rw kEntry H0 F Aa0_3 a0.Entries) (hca0_3:na0_3≤ca0_3) (hna0_3:na0_3=a0.Entries.length) (hra1:Rw kCacheEvent H0 F Aa1 a1) (hca1:na1≤ca1) (hna1:na1=a1.length) (heq:cache_Follow.f a0 a1=some r):CallsH Tryd.prog 48 #[.agg #[iv a0.Room,iv a0.Lease,.slice Aa0_2 na0_2 ca0_2,.slice Aa0_3 na0_3 ca0_3],.slice Aa1 na1 ca1] H0 w0 (F) (S48 F H0 r):=by
 refine calls_of_runH (F:=C48) Tryd.func48 (by kernel_rfl) Tryd.ntmps48 (args:=[.agg #[iv a0.Room,iv a0.Lease,.slice Aa0_2 na0_2 ca0_2,.slice Aa0_3 na0_3 ca0_3],.slice Aa1 na1 ca1]) (by kernel_rfl) ?_
 subst hna0_2
 subst hna0_3
 subst hna1
 unfold cache_Follow.f at heq
 suffices key:∀ (H:Hp),Rw kBlob H F Aa0_2 a0.Blobs→Rw kEntry H F Aa0_3 a0.Entries→Rw kCacheEvent H F Aa1 a1→RunH C48 (S48 F H0 r) H0 w0 [.c []] (argL 0 [.agg #[iv a0.Room,iv a0.Lease,.slice Aa0_2 (a0.Blobs.length) ca0_2,.slice Aa0_3 (a0.Entries.length) ca0_3],.slice Aa1 (a1.length) ca1]) H (F) from key H0 hra0_2 hra0_3 hra1
 intro H hra0_2 hra0_3 hra1
 refine Ra 1 [0] [.c [1]] ?_
 refine RgH.does (DoesH.new (d:=2) (v:=fun g=>.pointer (some ⟨g,0,none⟩)) (o:=fun g=>.cells #[iv a0.Room,iv a0.Lease,.slice Aa0_2 a0.Blobs.length ca0_2,.slice Aa0_3 a0.Entries.length ca0_3] 25 (0,0)) (fun g=>by kernel_rfl)) ?_
 rintro _ _ _ _ ⟨g1,rfl,rfl,rfl⟩
 refine RgH.does (DoesH.new (d:=4) (v:=fun g=>.pointer (some ⟨g,0,none⟩)) (o:=fun g=>.cells #[iv 0,iv 0,.slice none 0 0,.slice none 0 0] 25 (0,0)) (fun g=>by kernel_rfl)) ?_
 rintro _ _ _ _ ⟨g2,rfl,rfl,rfl⟩
 refine Rd 4 [1,2,4] [(1,.slice Aa1 a1.length ca1),(2,pg g1 0),(4,pg g2 0)]<|Ra 1 [1,0] [.c [1,1]] ?_
 refine RgH.does (DoesH.new (d:=7) (v:=fun g=>.pointer (some ⟨g,0,none⟩)) (o:=fun g=>.cells #[.slice none 0 0] 73 (0,0)) (fun g=>by kernel_rfl)) ?_
 rintro _ _ _ _ ⟨g3,rfl,rfl,rfl⟩
 refine Dn<|Ra 1 [1,1,0] [.c [1,1,1]]<|Rv 3 [2,4,7,10,11,12] [iv a0.Room,iv a0.Lease,.slice Aa0_2 a0.Blobs.length ca0_2,.slice Aa0_3 a0.Entries.length ca0_3] [.load ⟨g1,0,none⟩ (iv a0.Room),.load ⟨g1,1,none⟩ (iv a0.Lease),.load ⟨g1,2,none⟩ (.slice Aa0_2 a0.Blobs.length ca0_2),.load ⟨g1,3,none⟩ (.slice Aa0_3 a0.Entries.length ca0_3)] [(2,pg g1 0),(4,pg g2 0),(7,pg g3 0),(10,.agg #[iv a0.Room,iv a0.Lease,.slice Aa0_2 a0.Blobs.length ca0_2,.slice Aa0_3 a0.Entries.length ca0_3]),(11,.slice Aa1 a1.length ca1),(12,.func (.func 94) #[] #[.pointer (some ⟨g3,0,none⟩)])] (fun w hh=>⟨(hh.box 2 rfl rfl),(hh.box 2 rfl rfl),(hh.box 2 rfl rfl),(hh.box 2 rfl rfl)⟩)<|RgH.nilc ?_
 have ho1:SlOwn kCacheAnswer 63 H none 0 ([]:List CacheAnswer) none:=SlOwn.nil
 refine RgH.pick 4 [1,0,2,3] (cs':=(some (g3,.cells #[.slice none 0 0] 73 (0,0)))::none::(some (g2,.cells #[iv 0,iv 0,.slice none 0 0,.slice none 0 0] 25 (0,0)))::(some (g1,.cells #[iv a0.Room,iv a0.Lease,.slice Aa0_2 a0.Blobs.length ca0_2,.slice Aa0_3 a0.Entries.length ca0_3] 25 (0,0)))::F) (by kernel_rfl) rfl ?_
 obtain ⟨y1,hy1,heq⟩:=bind_some heq
 refine RgH.does (DoesH.call (d:=13) (g:=93) (args:=#[.agg #[iv a0.Room,iv a0.Lease,.slice Aa0_2 a0.Blobs.length ca0_2,.slice Aa0_3 a0.Entries.length ca0_3],.slice Aa1 a1.length ca1,.func (.func 94) #[] #[.pointer (some ⟨g3,0,none⟩)]]) (by kernel_rfl) (cache_follow_c (a0:=a0) (a1:=a1) (a2q0:=([]:List CacheAnswer)) (hra0_2.wk (fun _ h=>(.tail _ (.tail _ h)))) hca0_2 rfl (hra0_3.wk (fun _ h=>(.tail _ (.tail _ h)))) hca0_3 rfl (hra1.wk (fun _ h=>(.tail _ (.tail _ h)))) hca1 rfl ho1 rfl hy1)) ?_
 rintro _ H _ hl ⟨_,rfl,A1,c1,ch1,A2,c2,ch2,A3,c3,ch3,rfl,rfl,ho2,ho3,ho4⟩
 replace hra0_2:=hra0_2.mono hl
 replace hra0_3:=hra0_3.mono hl
 replace ho1:=ho1.mono hl
 replace hra1:=hra1.mono hl
 refine Rk 7 [2,4,7,14,15] [(2,pg g1 0),(4,pg g2 0),(7,pg g3 0),(14,.agg #[iv y1.1.Room,iv y1.1.Lease,.slice A1 y1.1.Blobs.length c1,.slice A2 y1.1.Entries.length c2]),(15,iv y1.2.1)] ?_
 refine RgH.does (DoesH.store (k:=5) (g:=g1) (off:=0) (v:=.agg #[iv y1.1.Room,iv y1.1.Lease,.slice A1 y1.1.Blobs.length c1,.slice A2 y1.1.Entries.length c2]) (cells':=#[iv y1.1.Room,iv y1.1.Lease,.slice A1 y1.1.Blobs.length c1,.slice A2 y1.1.Entries.length c2]) (by kernel_rfl) rfl (by kernel_rfl) (by kernel_rfl)) ?_
 rintro _ _ _ _ ⟨rfl,rfl,rfl⟩
 refine Rd 9 [2,4,7,8] [(2,pg g1 0),(4,pg g2 0),(7,pg g3 0),(8,iv y1.2.1)]<|Ra 2 [1,1,1,0,0] [.c [1,1,1,0,1],.c [1,1,1,1]]<|Rd 2 [2,4,7,8,17] [(2,pg g1 0),(4,pg g2 0),(7,pg g3 0),(8,iv y1.2.1),(17,.bool (y1.2.1 != 0))] ?_
 rcases bool_cases (y1.2.1 != 0) with hb1 | hb1
 ·replace heq:=bif_true hb1 heq
  refine Ct (y1.2.1 != 0) hb1<|Ra 1 [1,1,1,0,1,0,0] [.c [1,1,1,0,1,0,1],.c [1,1,1,1]]<|Rk 2 [4,18,19] [(4,pg g2 0),(18,.agg #[iv 0,iv 0,.slice none 0 0,.slice none 0 0]),(19,iv y1.2.1)] ?_
  refine RgH.does (DoesH.store (k:=4) (g:=g2) (off:=0) (v:=.agg #[iv 0,iv 0,.slice none 0 0,.slice none 0 0]) (cells':=#[iv 0,iv 0,.slice none 0 0,.slice none 0 0]) (by kernel_rfl) rfl (by kernel_rfl) (by kernel_rfl)) ?_
  rintro _ _ _ _ ⟨rfl,rfl,rfl⟩
  refine Rd 5 [4,5,6] [(4,pg g2 0),(5,.slice none 0 0),(6,iv y1.2.1)]<|RunH.nilc ?_
  have ho5:SlOwn kBlob 47 H none 0 ([]:List Blob) none:=SlOwn.nil
  refine RunH.nilc ?_
  have ho6:SlOwn kEntry 51 H none 0 ([]:List Entry) none:=SlOwn.nil
  refine RunH.nilc ?_
  have ho7:SlOwn kCacheAnswer 63 H none 0 ([]:List CacheAnswer) none:=SlOwn.nil
  obtain rfl:=Option.some.inj heq
  refine RunH.pick 9 [7,2,1,0] (cs':=(some (g2,.cells #[iv 0,iv 0,.slice none 0 0,.slice none 0 0] 25 (0,0)))::none::none::none::F) (by kernel_rfl) rfl ?_
  exact RunH.doneM' 1 (vs:=[.agg #[iv 0,iv 0,.slice none 0 0,.slice none 0 0],.slice none 0 0,iv y1.2.1]) (v:=.tuple #[.agg #[iv 0,iv 0,.slice none 0 0,.slice none 0 0],.slice none 0 0,iv y1.2.1]) (by kernel_rfl) Tryd.func48 (fun w hh=>show ResAll _ _ _ [.cell 4 25,.tmp 5,.tmp 6] _ from ⟨⟨⟨g2,0,none⟩,by kernel_rfl,trS_run _ (vs:=[iv 0,iv 0,.slice none 0 0,.slice none 0 0]) (r:=[]) (es:=[.load ⟨g2,0,none⟩ (iv 0),.load ⟨g2,1,none⟩ (iv 0),.load ⟨g2,2,none⟩ (.slice none 0 0),.load ⟨g2,3,none⟩ (.slice none 0 0)]) (by kernel_rfl) ⟨(hh.box 0 rfl rfl),(hh.box 0 rfl rfl),(hh.box 0 rfl rfl),(hh.box 0 rfl rfl)⟩⟩,(show lk _ _=some _ by kernel_rfl),(show lk _ _=some _ by kernel_rfl),trivial⟩) rfl (cs':=none::none::none::F) rfl ⟨none,0,none,none,0,none,none,0,none,rfl,rfl,ho5,ho6,ho7⟩
 ·replace heq:=bif_false hb1 heq
  refine Cf (y1.2.1 != 0) hb1<|Ad 2 [.c [1,1,1,1,0],.c [1,1,1,1,1]]<|Kp [2,4,7] [(2,pg g1 0),(4,pg g2 0),(7,pg g3 0)] ?_
  refine RunH.draw (fun w=>Heap H w0 w (ch1::ch2::(some (g3,.cells #[.slice A3 y1.2.2.length c3] 73 (0,0)))::ch3::(some (g2,.cells #[iv 0,iv 0,.slice none 0 0,.slice none 0 0] 25 (0,0)))::(some (g1,.cells #[iv y1.1.Room,iv y1.1.Lease,.slice A1 y1.1.Blobs.length c1,.slice A2 y1.1.Entries.length c2] 25 (0,0)))::F)) (fun w=>Heap H w0 w (ch1::ch2::(some (g3,.cells #[.slice A3 y1.2.2.length c3] 73 (0,0)))::ch3::(some (g1,.cells #[iv y1.1.Room,iv y1.1.Lease,.slice A1 y1.1.Blobs.length c1,.slice A2 y1.1.Entries.length c2] 25 (0,0)))::F)) [3,3,1,3,3] (n:=5) (ls:=[false,false,false,false,false]) (by kernel_rfl) (by kernel_rfl) (by kernel_rfl) rfl ?_
  refine Dk [0] 4 (nb 5 1) [iv y1.1.Room,iv y1.1.Lease,.slice A1 y1.1.Blobs.length c1,.slice A2 y1.1.Entries.length c2] [.load ⟨g1,0,none⟩ (iv y1.1.Room),.load ⟨g1,1,none⟩ (iv y1.1.Lease),.load ⟨g1,2,none⟩ (.slice A1 y1.1.Blobs.length c1),.load ⟨g1,3,none⟩ (.slice A2 y1.1.Entries.length c2)] [4,7,20] [(4,pg g2 0),(7,pg g3 0),(20,.agg #[iv y1.1.Room,iv y1.1.Lease,.slice A1 y1.1.Blobs.length c1,.slice A2 y1.1.Entries.length c2])] (Pk 6 [0,1,2,3,4,5]) (Pk 6 [0,1,2,3,5]) (fun w hh=>⟨(hh.box 5 rfl rfl),(hh.box 5 rfl rfl),(hh.box 5 rfl rfl),(hh.box 5 rfl rfl)⟩)<|De [1] 3 (nb 5 3) [.slice A3 y1.2.2.length c3] [.load ⟨g3,0,none⟩ (.slice A3 y1.2.2.length c3)] [4,20,21] [(4,pg g2 0),(20,.agg #[iv y1.1.Room,iv y1.1.Lease,.slice A1 y1.1.Blobs.length c1,.slice A2 y1.1.Entries.length c2]),(21,.slice A3 y1.2.2.length c3)] (Pk 6 [0,1,2,3,5]) (fun w hh=>(hh.box 2 rfl rfl)) ?_
  refine DrH.does (n:=2) (ls':=[true,true,true,false,false]) 2 (by kernel_rfl) rfl (DoesH.store (k:=4) (g:=g2) (off:=0) (v:=.agg #[iv y1.1.Room,iv y1.1.Lease,.slice A1 y1.1.Blobs.length c1,.slice A2 y1.1.Entries.length c2]) (cells':=#[iv y1.1.Room,iv y1.1.Lease,.slice A1 y1.1.Blobs.length c1,.slice A2 y1.1.Entries.length c2]) (by kernel_rfl) rfl (by kernel_rfl) (by kernel_rfl)) ?_
  rintro _ _ _ _ ⟨rfl,rfl,rfl⟩
  refine ⟨fun _ w hh=>⟨(fun h=>by cases h),fun _=>(Pk 6 [0,1,2,3,5]) w hh,(fun h=>by cases h)⟩,?_⟩
  refine De [3,4] 0 (nb 5 31) [] [] [4,5,6] [(4,pg g2 0),(5,.slice A3 y1.2.2.length c3),(6,iv 0)] (Pk 6 [0,1,2,3,5]) (fun _ _=>trivial) ?_
  refine DrH.done (by kernel_rfl) ?_
  obtain rfl:=Option.some.inj heq
  refine RunH.pick 6 [4,0,1,3] (cs':=(some (g2,.cells #[iv y1.1.Room,iv y1.1.Lease,.slice A1 y1.1.Blobs.length c1,.slice A2 y1.1.Entries.length c2] 25 (0,0)))::ch1::ch2::ch3::F) (by kernel_rfl) rfl ?_
  exact RunH.doneM' 1 (vs:=[.agg #[iv y1.1.Room,iv y1.1.Lease,.slice A1 y1.1.Blobs.length c1,.slice A2 y1.1.Entries.length c2],.slice A3 y1.2.2.length c3,iv 0]) (v:=.tuple #[.agg #[iv y1.1.Room,iv y1.1.Lease,.slice A1 y1.1.Blobs.length c1,.slice A2 y1.1.Entries.length c2],.slice A3 y1.2.2.length c3,iv 0]) (by kernel_rfl) Tryd.func48 (fun w hh=>show ResAll _ _ _ [.cell 4 25,.tmp 5,.tmp 6] _ from ⟨⟨⟨g2,0,none⟩,by kernel_rfl,trS_run _ (vs:=[iv y1.1.Room,iv y1.1.Lease,.slice A1 y1.1.Blobs.length c1,.slice A2 y1.1.Entries.length c2]) (r:=[]) (es:=[.load ⟨g2,0,none⟩ (iv y1.1.Room),.load ⟨g2,1,none⟩ (iv y1.1.Lease),.load ⟨g2,2,none⟩ (.slice A1 y1.1.Blobs.length c1),.load ⟨g2,3,none⟩ (.slice A2 y1.1.Entries.length c2)]) (by kernel_rfl) ⟨(hh.box 0 rfl rfl),(hh.box 0 rfl rfl),(hh.box 0 rfl rfl),(hh.box 0 rfl rfl)⟩⟩,(show lk _ _=some _ by kernel_rfl),(show lk _ _=some _ by kernel_rfl),trivial⟩) rfl (cs':=ch1::ch2::ch3::F) rfl ⟨A1,c1,ch1,A2,c2,ch2,A3,c3,ch3,rfl,rfl,ho2,ho3,ho4⟩
noncomputable def C14:Ctx:={ P:=Tryd.prog,f:=14,N:=97,c:=bodyOf Tryd.f14 }
def S14 (F:List Ch) (H0:Hp) (r:Bool) (v:Value) (H:Hp) (cs:List Ch):Prop:=v=.bool r∧F=cs
theorem smithyardlaw7_CacheLeasesHold.e2_c {w0:World} {H0:Hp} {F:List Ch} {r:Bool}:∀ (H:Hp) ,smithyardlaw7_CacheLeasesHold.e2=some r→RunH C14 (S14 F H0 r) H0 w0 [.c [1,1,1,1,1,1,1,0],.c [1,1,1,1,1,1,1,1]] [] H (F):=by
 intro H  heq
 unfold smithyardlaw7_CacheLeasesHold.e2 at heq
 refine Rr ?_
 obtain ⟨y5,hy5,heq⟩:=bind_some heq
 refine RgH.does (DoesH.call (d:=96) (g:=29) (args:=(List.toArray [])) (by kernel_rfl) (smithyardlaw7_awake_c  hy5)) ?_
 rintro _ _ _ _ ⟨_,rfl,rfl,rfl,rfl⟩
 refine Rd 2 [8] [(8,.bool y5)] ?_
 obtain rfl:=Option.some.inj heq
 exact RunH.done (by kernel_rfl) Tryd.func14 (v:=.bool y5) (by kernel_rfl) ⟨rfl,rfl⟩
theorem smithyardlaw7_CacheLeasesHold.l3_c {w0:World} {H0:Hp} {F:List Ch} {r:Bool} (e2:Option Bool)
  (he2:∀ (H:Hp) ,e2=some r→RunH C14 (S14 F H0 r) H0 w0 [.c [1,1,1,1,1,1,1,0],.c [1,1,1,1,1,1,1,1]] [] H (F)):∀ (k:Nat),∀ (H:Hp) (a1:List ByteArray) (Aa1:Option Addr) (ca1:Nat) (y1:Cache × CacheAnswer × Int) (A3:Option Addr) (c3:Nat) (ch3:Ch) (A4:Option Addr) (c4:Nat) (ch4:Ch) (g3:Nat) (y3:Cache × (List CacheAnswer) × Int) (A5:Option Addr) (c5:Nat) (ch5:Ch) (A6:Option Addr) (c6:Nat) (ch6:Ch) (g4:Nat) (v_i15:Int) ,Rw Kd.string H F Aa1 a1→a1.length≤ca1→SlOwn Kd.string 9 H A3 c3 y1.2.1.Missing ch3→SlOwn Kd.string 9 H A4 c4 y1.2.1.Gone ch4→SlOwn kBlob 47 H A5 c5 y3.1.Blobs ch5→SlOwn kEntry 51 H A6 c6 y3.1.Entries ch6→smithyardlaw7_CacheLeasesHold.l3 e2 k a1 y1 y3 v_i15=some r→RunH C14 (S14 F H0 r) H0 w0 [.c [1,1,1,1,1,1,0,1,0,0],.l [1,1,1,1,1,1,0,1,0,0],.b 2,.c [1,1,1,1,1,1,1]] [(1,.slice Aa1 a1.length ca1),(10,pg g3 0),(12,pg g4 0),(15,iv v_i15)] H ((some (g4,.cells #[iv y3.1.Room,iv y3.1.Lease,.slice A5 y3.1.Blobs.length c5,.slice A6 y3.1.Entries.length c6] 25 (0,0)))::ch5::ch6::(some (g3,.cells #[.bool y1.2.1.Done,.slice A3 y1.2.1.Missing.length c3,.slice A4 y1.2.1.Gone.length c4] 63 (0,0)))::ch3::ch4::F):=by
 intro k
 induction k with
 | zero=>intro H a1 Aa1 ca1 y1 A3 c3 ch3 A4 c4 ch4 g3 y3 A5 c5 ch5 A6 c6 ch6 g4 v_i15 hra1 hca1 ho3 ho4 ho5 ho6 heq; exact nomatch (show (none:Option Bool)=some r from heq)
 | succ k ihk =>
  intro H a1 Aa1 ca1 y1 A3 c3 ch3 A4 c4 ch4 g3 y3 A5 c5 ch5 A6 c6 ch6 g4 v_i15 hra1 hca1 ho3 ho4 ho5 ho6 heq
  rw [smithyardlaw7_CacheLeasesHold.l3] at heq
  refine Ra 2 [1,1,1,1,1,1,0,1,0,0,0,0] [.c [1,1,1,1,1,1,0,1,0,0,0,1],.c [1,1,1,1,1,1,0,1,0,0,1],.l [1,1,1,1,1,1,0,1,0,0],.b 2,.c [1,1,1,1,1,1,1]]<|Rd 4 [1,10,12,15,72] [(1,.slice Aa1 a1.length ca1),(10,pg g3 0),(12,pg g4 0),(15,iv v_i15),(72,.bool (decide (v_i15<(a1.length:Int))))] ?_
  rcases bool_cases (decide (v_i15<(a1.length:Int))) with hb5 | hb5
  ·replace heq:=bif_true hb5 heq
   refine Ct (decide (v_i15<(a1.length:Int))) hb5<|Ad 4 [.c [1,1,1,1,1,1,0,1,0,0,1,0,0,0],.c [1,1,1,1,1,1,0,1,0,0,1,0,0,1],.b 3,.c [1,1,1,1,1,1,0,1,0,0,1,1],.l [1,1,1,1,1,1,0,1,0,0],.b 2,.c [1,1,1,1,1,1,1]]<|Kp [1,10,12,15] [(1,.slice Aa1 a1.length ca1),(10,pg g3 0),(12,pg g4 0),(15,iv v_i15)] ?_
   refine RunH.draw (fun w=>Heap H w0 w ((some (g4,.cells #[iv y3.1.Room,iv y3.1.Lease,.slice A5 y3.1.Blobs.length c5,.slice A6 y3.1.Entries.length c6] 25 (0,0)))::ch5::ch6::(some (g3,.cells #[.bool y1.2.1.Done,.slice A3 y1.2.1.Missing.length c3,.slice A4 y1.2.1.Gone.length c4] 63 (0,0)))::ch3::ch4::F)) (fun w=>Heap H w0 w ((some (g4,.cells #[iv y3.1.Room,iv y3.1.Lease,.slice A5 y3.1.Blobs.length c5,.slice A6 y3.1.Entries.length c6] 25 (0,0)))::ch5::ch6::(some (g3,.cells #[.bool y1.2.1.Done,.slice A3 y1.2.1.Missing.length c3,.slice A4 y1.2.1.Gone.length c4] 63 (0,0)))::ch3::ch4::F)) [3,3,3,3,3,0,3,3,3,0,0,3] (n:=12) (ls:=[false,false,false,false,false,false,false,false,false,false,false,false]) (by kernel_rfl) (by kernel_rfl) (by kernel_rfl) rfl ?_
   obtain ⟨x1,hx1,heq⟩:=bind_some heq
   obtain ⟨ha1,cs1,hK1,hcc1⟩:=hra1.get hx1
   obtain rfl:cs1=[.string x1]:=hK1
   refine Dk [0,1,2,3,4] 7 (nb 12 31) [iv y3.1.Room,iv y3.1.Lease,.slice A5 y3.1.Blobs.length c5,.slice A6 y3.1.Entries.length c6,.string x1] [.load ⟨g4,0,none⟩ (iv y3.1.Room),.load ⟨g4,1,none⟩ (iv y3.1.Lease),.load ⟨g4,2,none⟩ (.slice A5 y3.1.Blobs.length c5),.load ⟨g4,3,none⟩ (.slice A6 y3.1.Entries.length c6),.need (Aa1=some (adr Aa1)∧(0:Int)≤v_i15∧v_i15<((a1.length:Nat):Int)),.load ((adr Aa1).add (v_i15.toNat*1)) (.string x1)] [1,10,12,15,76,80] [(1,.slice Aa1 a1.length ca1),(10,pg g3 0),(12,pg g4 0),(15,iv v_i15),(76,.agg #[iv y3.1.Room,iv y3.1.Lease,.slice A5 y3.1.Blobs.length c5,.slice A6 y3.1.Entries.length c6]),(80,.string x1)] (Pk 6 [0,1,2,3,4,5]) (Pk 6 [0,1,2,3,4,5]) (fun w hh=>⟨(hh.box 0 rfl rfl),(hh.box 0 rfl rfl),(hh.box 0 rfl rfl),(hh.box 0 rfl rfl),⟨ha1,(at?_some hx1).1,(at?_some hx1).2.1⟩,(hcc1 _ _ (hh.drop 6) 0 _ rfl)⟩) ?_
   refine DrF.start [(9,16,.cells #[.string ByteArray.empty,iv 0,iv 0,iv 0,iv 0] 47 (0,0))] (n:=6) (by kernel_rfl) ?_
   refine DrF.keep [1,10,12,15,76,80] (L':=[(1,.slice Aa1 a1.length ca1),(10,pg g3 0),(12,pg g4 0),(15,iv v_i15),(76,.agg #[iv y3.1.Room,iv y3.1.Lease,.slice A5 y3.1.Blobs.length c5,.slice A6 y3.1.Entries.length c6]),(80,.string x1)]) (by kernel_rfl) (by kernel_rfl) ?_
   obtain ⟨y6,hy6,heq⟩:=bind_some heq
   refine DrF.does1 (n:=5) (ls':=[true,true,true,true,true,true,false,false,false,false,false,false]) (by kernel_rfl) 5 ⟨fun E g=>by kernel_rfl,trivial⟩ (by kernel_rfl) (by kernel_rfl) rfl (fun w hh=>⟨(Pk 6 [0,1,2,3,4,5]) w hh,(Pk 6 [0,1,2,3,4,5]) w hh⟩) (fun fc1 fE1=>DoesH.call (d:=81) (g:=34) (args:=#[.agg #[iv y3.1.Room,iv y3.1.Lease,.slice A5 y3.1.Blobs.length c5,.slice A6 y3.1.Entries.length c6],.string x1]) (by kernel_rfl) (smithyardlaw7_blob_c (a0:=(⟨y3.1.Room,y3.1.Lease,y3.1.Blobs,y3.1.Entries⟩:Cache)) (a1:=x1) (ho5.rw (.tail _ (.tail _ (.head _)))) ho5.cap rfl (ho6.rw (.tail _ (.tail _ (.tail _ (.head _))))) ho6.cap rfl hy6)) ?_
   rintro fc1 fE1
   rintro _ _ _ _ ⟨_,rfl,rfl,rfl,rfl⟩
   refine ⟨fun _ w hh=>⟨fun _=>(Pk 7 [1,2,3,4,5,6]) w hh,fun _=>(Pk 7 [1,2,3,4,5,6]) w hh,(fun h=>by cases h)⟩,[(81,.tuple #[.agg #[.string y6.1.Digest,iv y6.1.Size,iv y6.1.Used,iv y6.1.Until,iv y6.1.Pins],.bool y6.2]),(1,.slice Aa1 a1.length ca1),(10,pg g3 0),(12,pg g4 0),(15,iv v_i15),(76,.agg #[iv y3.1.Room,iv y3.1.Lease,.slice A5 y3.1.Blobs.length c5,.slice A6 y3.1.Entries.length c6]),(80,.string x1)],(some (g4,.cells #[iv y3.1.Room,iv y3.1.Lease,.slice A5 y3.1.Blobs.length c5,.slice A6 y3.1.Entries.length c6] 25 (0,0)))::ch5::ch6::(some (g3,.cells #[.bool y1.2.1.Done,.slice A3 y1.2.1.Missing.length c3,.slice A4 y1.2.1.Gone.length c4] 63 (0,0)))::ch3::ch4::F,rfl,(Pk 7 [0,1,2,3,4,5,6]),?_⟩
   refine DrF.run [6,7,8] (m:=2) (ls':=[true,true,true,true,true,true,true,true,true,false,false,false]) (vs:=[]) (evs:=[]) (L':=[(83,.bool y6.2),(82,.agg #[.string y6.1.Digest,iv y6.1.Size,iv y6.1.Used,iv y6.1.Until,iv y6.1.Pins]),(75,.tuple #[.agg #[.string y6.1.Digest,iv y6.1.Size,iv y6.1.Used,iv y6.1.Until,iv y6.1.Pins],.bool y6.2]),(81,.tuple #[.agg #[.string y6.1.Digest,iv y6.1.Size,iv y6.1.Used,iv y6.1.Until,iv y6.1.Pins],.bool y6.2]),(1,.slice Aa1 a1.length ca1),(10,pg g3 0),(12,pg g4 0),(15,iv v_i15),(76,.agg #[iv y3.1.Room,iv y3.1.Lease,.slice A5 y3.1.Blobs.length c5,.slice A6 y3.1.Entries.length c6]),(80,.string x1)]) (by kernel_rfl) (Pk 6 [0,1,2,3,4,5]) (Pk 6 [0,1,2,3,4,5]) (pats1 (fun E=>by kernel_rfl) (fun E=>by kernel_rfl)) (fun _ _=>trivial) (by kernel_rfl) ?_
   refine DrF.keep [1,10,12,15,82,83] (L':=[(1,.slice Aa1 a1.length ca1),(10,pg g3 0),(12,pg g4 0),(15,iv v_i15),(82,.agg #[.string y6.1.Digest,iv y6.1.Size,iv y6.1.Used,iv y6.1.Until,iv y6.1.Pins]),(83,.bool y6.2)]) (by kernel_rfl) (by kernel_rfl) ?_
   refine DrF.close1 (n:=2) (ls':=[true,true,true,true,true,true,true,true,true,true,false,false]) (by kernel_rfl) ⟨fun E g=>by kernel_rfl,trivial⟩ (by kernel_rfl) (by kernel_rfl) rfl (fun w hh=>⟨(Pk 6 [0,1,2,3,4,5]) w hh,(Pk 6 [0,1,2,3,4,5]) w hh⟩) ?_
   intro g5
   refine Kr [1,10,12,15,16,82,83] [(1,.slice Aa1 a1.length ca1),(10,pg g3 0),(12,pg g4 0),(15,iv v_i15),(16,pg g5 0),(82,.agg #[.string y6.1.Digest,iv y6.1.Size,iv y6.1.Used,iv y6.1.Until,iv y6.1.Pins]),(83,.bool y6.2)] ?_
   refine DrH.does (n:=1) (ls':=[true,true,true,true,true,true,true,true,true,true,true,false]) 10 (by kernel_rfl) rfl (DoesH.store (k:=0) (g:=g5) (off:=0) (v:=.agg #[.string y6.1.Digest,iv y6.1.Size,iv y6.1.Used,iv y6.1.Until,iv y6.1.Pins]) (cells':=#[.string y6.1.Digest,iv y6.1.Size,iv y6.1.Used,iv y6.1.Until,iv y6.1.Pins]) (by kernel_rfl) rfl (by kernel_rfl) (by kernel_rfl)) ?_
   rintro _ _ _ _ ⟨rfl,rfl,rfl⟩
   refine ⟨fun _ w hh=>⟨fun _=>(Pk 7 [1,2,3,4,5,6]) w hh,fun _=>(Pk 7 [1,2,3,4,5,6]) w hh,(fun h=>by cases h)⟩,?_⟩
   refine Dk [11] 0 (nb 12 4095) [] [] [1,10,12,15,17] [(1,.slice Aa1 a1.length ca1),(10,pg g3 0),(12,pg g4 0),(15,iv v_i15),(17,.bool y6.2)] (Pk 7 [1,2,3,4,5,6]) (Pk 6 [0,1,2,3,4,5]) (fun _ _=>trivial) ?_
   refine DrH.done (by kernel_rfl) ?_
   refine Ad 1 [.c [1,1,1,1,1,1,0,1,0,0,1,0,0,1,0],.c [1,1,1,1,1,1,0,1,0,0,1,0,0,1,1],.b 3,.c [1,1,1,1,1,1,0,1,0,0,1,1],.l [1,1,1,1,1,1,0,1,0,0],.b 2,.c [1,1,1,1,1,1,1]] ?_
   obtain ⟨t3,ht3,heq⟩:=bind_some heq
   have K16:∀ (H:Hp),Rw Kd.string H F Aa1 a1→SlOwn Kd.string 9 H A3 c3 y1.2.1.Missing ch3→SlOwn Kd.string 9 H A4 c4 y1.2.1.Gone ch4→SlOwn kBlob 47 H A5 c5 y3.1.Blobs ch5→SlOwn kEntry 51 H A6 c6 y3.1.Entries ch6→RunH C14 (S14 F H0 r) H0 w0 [.c [1,1,1,1,1,1,0,1,0,0,1,0,0,1,1],.b 3,.c [1,1,1,1,1,1,0,1,0,0,1,1],.l [1,1,1,1,1,1,0,1,0,0],.b 2,.c [1,1,1,1,1,1,1]] [(1,.slice Aa1 a1.length ca1),(10,pg g3 0),(12,pg g4 0),(15,iv v_i15),(95,.bool t3)] H ((some (g4,.cells #[iv y3.1.Room,iv y3.1.Lease,.slice A5 y3.1.Blobs.length c5,.slice A6 y3.1.Entries.length c6] 25 (0,0)))::ch5::ch6::(some (g3,.cells #[.bool y1.2.1.Done,.slice A3 y1.2.1.Missing.length c3,.slice A4 y1.2.1.Gone.length c4] 63 (0,0)))::ch3::ch4::F):=by
    intro H hra1 ho3 ho4 ho5 ho6
    rcases bool_cases (t3) with hb7 | hb7
    ·replace heq:=bif_true hb7 heq
     refine Ct t3 hb7<|Ra 1 [1,1,1,1,1,1,0,1,0,0,1,0,0,1,1,0,0] [.c [1,1,1,1,1,1,0,1,0,0,1,0,0,1,1,0,1],.b 3,.c [1,1,1,1,1,1,0,1,0,0,1,1],.l [1,1,1,1,1,1,0,1,0,0],.b 2,.c [1,1,1,1,1,1,1]]<|Rd 1 [8] [(8,.bool false)] ?_
     obtain rfl:=Option.some.inj heq
     refine RunH.pick 6 [] (cs':=F) (by kernel_rfl) rfl ?_
     exact RunH.done (by kernel_rfl) Tryd.func14 (v:=.bool false) (by kernel_rfl) ⟨rfl,rfl⟩
    ·replace heq:=bif_false hb7 heq
     refine Cf t3 hb7<|Ra 2 [1,1,1,1,1,1,0,1,0,0,1,1] [.l [1,1,1,1,1,1,0,1,0,0],.b 2,.c [1,1,1,1,1,1,1]]<|Rd 3 [1,10,12,15] [(1,.slice Aa1 a1.length ca1),(10,pg g3 0),(12,pg g4 0),(15,iv (w64 (v_i15+1)))]<|Ad 1 [.c [1,1,1,1,1,1,0,1,0,0],.l [1,1,1,1,1,1,0,1,0,0],.b 2,.c [1,1,1,1,1,1,1]]<|Kp [1,10,12,15] [(1,.slice Aa1 a1.length ca1),(10,pg g3 0),(12,pg g4 0),(15,iv (w64 (v_i15+1)))] ?_
     exact ihk _ a1 _ _ y1 _ _ _ _ _ _ _ y3 _ _ _ _ _ _ _ (w64 (v_i15+1)) hra1 hca1 ho3 ho4 ho5 ho6 heq
   replace heq:=ht3
   refine Kp [1,10,12,15,17] [(1,.slice Aa1 a1.length ca1),(10,pg g3 0),(12,pg g4 0),(15,iv v_i15),(17,.bool y6.2)] ?_
   refine RunH.draw (fun w=>Heap H w0 w ((some (g5,.cells #[.string y6.1.Digest,iv y6.1.Size,iv y6.1.Used,iv y6.1.Until,iv y6.1.Pins] 47 (0,0)))::(some (g4,.cells #[iv y3.1.Room,iv y3.1.Lease,.slice A5 y3.1.Blobs.length c5,.slice A6 y3.1.Entries.length c6] 25 (0,0)))::ch5::ch6::(some (g3,.cells #[.bool y1.2.1.Done,.slice A3 y1.2.1.Missing.length c3,.slice A4 y1.2.1.Gone.length c4] 63 (0,0)))::ch3::ch4::F)) (fun w=>Heap H w0 w ((some (g5,.cells #[.string y6.1.Digest,iv y6.1.Size,iv y6.1.Used,iv y6.1.Until,iv y6.1.Pins] 47 (0,0)))::(some (g4,.cells #[iv y3.1.Room,iv y3.1.Lease,.slice A5 y3.1.Blobs.length c5,.slice A6 y3.1.Entries.length c6] 25 (0,0)))::ch5::ch6::(some (g3,.cells #[.bool y1.2.1.Done,.slice A3 y1.2.1.Missing.length c3,.slice A4 y1.2.1.Gone.length c4] 63 (0,0)))::ch3::ch4::F)) [3,3,3,3,3,3,3,3,3,0,3,3] (n:=12) (ls:=[false,false,false,false,false,false,false,false,false,false,false,false]) (by kernel_rfl) (by kernel_rfl) (by kernel_rfl) rfl ?_
   refine Dk [0,1,2] 9 (nb 12 7) [] [] [86,1,10,12,15] [(86,.bool (!y6.2)),(1,.slice Aa1 a1.length ca1),(10,pg g3 0),(12,pg g4 0),(15,iv v_i15)] (Pk 7 [0,1,2,3,4,5,6]) (Pk 7 [0,1,2,3,4,5,6]) (fun _ _=>trivial) ?_
   rcases bool_cases (!y6.2) with hb6 | hb6
   ·replace heq:=bif_true hb6 heq
    refine DrH.val1 (v':=.bool true) (congrArg Value.bool hb6) ?_
    obtain ⟨x2,hx2,heq⟩:=bind_some heq
    obtain ⟨ha2,cs2,hK2,hcc2⟩:=hra1.get hx2
    obtain rfl:cs2=[.string x2]:=hK2
    refine Dk [3,4,5,6,7,8] 3 (nb 12 511) [.slice A3 y1.2.1.Missing.length c3,.string x2] [.load ⟨g3,1,none⟩ (.slice A3 y1.2.1.Missing.length c3),.need (Aa1=some (adr Aa1)∧(0:Int)≤v_i15∧v_i15<((a1.length:Nat):Int)),.load ((adr Aa1).add (v_i15.toNat*1)) (.string x2)] [1,10,12,15,86,88,92] [(1,.slice Aa1 a1.length ca1),(10,pg g3 0),(12,pg g4 0),(15,iv v_i15),(86,.bool true),(88,.slice A3 y1.2.1.Missing.length c3),(92,.string x2)] (Pk 7 [0,1,2,3,4,5,6]) (Pk 7 [0,1,2,3,4,5,6]) (fun w hh=>⟨(hh.box 4 rfl rfl),⟨ha2,(at?_some hx2).1,(at?_some hx2).2.1⟩,(hcc2 _ _ (hh.drop 7) 0 _ rfl)⟩) ?_
    obtain ⟨y7,hy7,heq⟩:=bind_some heq
    refine DrH.does (n:=2) (ls':=[true,true,true,true,true,true,true,true,true,true,false,false]) 9 (by kernel_rfl) rfl (DoesH.call (d:=93) (g:=46) (args:=#[.slice A3 y1.2.1.Missing.length c3,.string x2]) (by kernel_rfl) (slices_Contains_string_c (a0:=y1.2.1.Missing) (a1:=x2) (ho3.rw (.tail _ (.tail _ (.tail _ (.tail _ (.tail _ (.head _))))))) ho3.cap rfl hy7)) ?_
    rintro _ _ _ _ ⟨_,rfl,rfl,rfl,rfl⟩
    refine ⟨fun _ w hh=>⟨fun _=>(Pk 7 [0,1,2,3,4,5,6]) w hh,fun _=>(Pk 7 [0,1,2,3,4,5,6]) w hh,(fun h=>by cases h)⟩,?_⟩
    refine Dk [10,11] 0 (nb 12 4095) [] [] [1,10,12,15,95] [(1,.slice Aa1 a1.length ca1),(10,pg g3 0),(12,pg g4 0),(15,iv v_i15),(95,.bool (!y7))] (Pk 7 [0,1,2,3,4,5,6]) (Pk 7 [0,1,2,3,4,5,6]) (fun _ _=>trivial) ?_
    obtain rfl:=Option.some.inj heq
    refine Kr [1,10,12,15,95] [(1,.slice Aa1 a1.length ca1),(10,pg g3 0),(12,pg g4 0),(15,iv v_i15),(95,.bool (!y7))] ?_
    refine DrH.pick 7 [1,2,3,4,5,6] (cs':=(some (g4,.cells #[iv y3.1.Room,iv y3.1.Lease,.slice A5 y3.1.Blobs.length c5,.slice A6 y3.1.Entries.length c6] 25 (0,0)))::ch5::ch6::(some (g3,.cells #[.bool y1.2.1.Done,.slice A3 y1.2.1.Missing.length c3,.slice A4 y1.2.1.Gone.length c4] 63 (0,0)))::ch3::ch4::F) (by kernel_rfl) rfl ?_
    refine DrH.done (by kernel_rfl) ?_
    exact K16 _ hra1 ho3 ho4 ho5 ho6
   ·replace heq:=bif_false hb6 heq
    refine DrH.val1 (v':=.bool false) (congrArg Value.bool hb6) ?_
    refine Dk [3,4,5,6,7,8,9,10,11] 0 (nb 12 4095) [] [] [1,10,12,15,95] [(1,.slice Aa1 a1.length ca1),(10,pg g3 0),(12,pg g4 0),(15,iv v_i15),(95,.bool false)] (Pk 7 [0,1,2,3,4,5,6]) (Pk 7 [0,1,2,3,4,5,6]) (fun _ _=>trivial) ?_
    obtain rfl:=Option.some.inj heq
    refine Kr [1,10,12,15,95] [(1,.slice Aa1 a1.length ca1),(10,pg g3 0),(12,pg g4 0),(15,iv v_i15),(95,.bool false)] ?_
    refine DrH.pick 7 [1,2,3,4,5,6] (cs':=(some (g4,.cells #[iv y3.1.Room,iv y3.1.Lease,.slice A5 y3.1.Blobs.length c5,.slice A6 y3.1.Entries.length c6] 25 (0,0)))::ch5::ch6::(some (g3,.cells #[.bool y1.2.1.Done,.slice A3 y1.2.1.Missing.length c3,.slice A4 y1.2.1.Gone.length c4] 63 (0,0)))::ch3::ch4::F) (by kernel_rfl) rfl ?_
    refine DrH.done (by kernel_rfl) ?_
    exact K16 _ hra1 ho3 ho4 ho5 ho6
  ·replace heq:=bif_false hb5 heq
   refine Cf (decide (v_i15<(a1.length:Int))) hb5<|Ad 2 [.c [1,1,1,1,1,1,1,0],.c [1,1,1,1,1,1,1,1]]<|Kp [] [] ?_
   refine RunH.pick 6 [] (cs':=F) (by kernel_rfl) rfl ?_
   exact he2 _ heq
theorem smithyardlaw7_CacheLeasesHold.e1_c {w0:World} {H0:Hp} {F:List Ch} {r:Bool}:∀ (H:Hp) (a1:List ByteArray) (Aa1:Option Addr) (ca1:Nat) (y1:Cache × CacheAnswer × Int) (A3:Option Addr) (c3:Nat) (ch3:Ch) (A4:Option Addr) (c4:Nat) (ch4:Ch) (g3:Nat) (y3:Cache × (List CacheAnswer) × Int) (A5:Option Addr) (c5:Nat) (ch5:Ch) (A6:Option Addr) (c6:Nat) (ch6:Ch) (g4:Nat) ,Rw Kd.string H F Aa1 a1→a1.length≤ca1→SlOwn Kd.string 9 H A3 c3 y1.2.1.Missing ch3→SlOwn Kd.string 9 H A4 c4 y1.2.1.Gone ch4→SlOwn kBlob 47 H A5 c5 y3.1.Blobs ch5→SlOwn kEntry 51 H A6 c6 y3.1.Entries ch6→smithyardlaw7_CacheLeasesHold.e1 a1 y1 y3=some r→RunH C14 (S14 F H0 r) H0 w0 [.c [1,1,1,1,1,1,0,0],.c [1,1,1,1,1,1,0,1],.c [1,1,1,1,1,1,1]] [(1,.slice Aa1 a1.length ca1),(10,pg g3 0),(12,pg g4 0)] H ((some (g4,.cells #[iv y3.1.Room,iv y3.1.Lease,.slice A5 y3.1.Blobs.length c5,.slice A6 y3.1.Entries.length c6] 25 (0,0)))::ch5::ch6::(some (g3,.cells #[.bool y1.2.1.Done,.slice A3 y1.2.1.Missing.length c3,.slice A4 y1.2.1.Gone.length c4] 63 (0,0)))::ch3::ch4::F):=by
 intro H a1 Aa1 ca1 y1 A3 c3 ch3 A4 c4 ch4 g3 y3 A5 c5 ch5 A6 c6 ch6 g4 hra1 hca1 ho3 ho4 ho5 ho6 heq
 unfold smithyardlaw7_CacheLeasesHold.e1 at heq
 refine Rr<|Rd 1 [1,10,12,15] [(1,.slice Aa1 a1.length ca1),(10,pg g3 0),(12,pg g4 0),(15,iv 0)]<|Ad 2 [.c [1,1,1,1,1,1,0,1,0,0],.l [1,1,1,1,1,1,0,1,0,0],.b 2,.c [1,1,1,1,1,1,1]]<|Kp [1,10,12,15] [(1,.slice Aa1 a1.length ca1),(10,pg g3 0),(12,pg g4 0),(15,iv 0)] ?_
 exact ((smithyardlaw7_CacheLeasesHold.l3_c (e2:=smithyardlaw7_CacheLeasesHold.e2) (smithyardlaw7_CacheLeasesHold.e2_c)) big) _ a1 _ _ y1 _ _ _ _ _ _ _ y3 _ _ _ _ _ _ _ 0 hra1 hca1 ho3 ho4 ho5 ho6 heq
theorem smithyardlaw7_CacheLeasesHold.l4_c {w0:World} {H0:Hp} {F:List Ch} {r:Bool} (e1:(List ByteArray)→(Cache × CacheAnswer × Int)→(Cache × (List CacheAnswer) × Int)→Option Bool)
  (he1:∀ (H:Hp) (a1:List ByteArray) (Aa1:Option Addr) (ca1:Nat) (y1:Cache × CacheAnswer × Int) (A3:Option Addr) (c3:Nat) (ch3:Ch) (A4:Option Addr) (c4:Nat) (ch4:Ch) (g3:Nat) (y3:Cache × (List CacheAnswer) × Int) (A5:Option Addr) (c5:Nat) (ch5:Ch) (A6:Option Addr) (c6:Nat) (ch6:Ch) (g4:Nat) ,Rw Kd.string H F Aa1 a1→a1.length≤ca1→SlOwn Kd.string 9 H A3 c3 y1.2.1.Missing ch3→SlOwn Kd.string 9 H A4 c4 y1.2.1.Gone ch4→SlOwn kBlob 47 H A5 c5 y3.1.Blobs ch5→SlOwn kEntry 51 H A6 c6 y3.1.Entries ch6→e1 a1 y1 y3=some r→RunH C14 (S14 F H0 r) H0 w0 [.c [1,1,1,1,1,1,0,0],.c [1,1,1,1,1,1,0,1],.c [1,1,1,1,1,1,1]] [(1,.slice Aa1 a1.length ca1),(10,pg g3 0),(12,pg g4 0)] H ((some (g4,.cells #[iv y3.1.Room,iv y3.1.Lease,.slice A5 y3.1.Blobs.length c5,.slice A6 y3.1.Entries.length c6] 25 (0,0)))::ch5::ch6::(some (g3,.cells #[.bool y1.2.1.Done,.slice A3 y1.2.1.Missing.length c3,.slice A4 y1.2.1.Gone.length c4] 63 (0,0)))::ch3::ch4::F)):∀ (k:Nat),∀ (H:Hp) (a0:Cache) (Aa0_2:Option Addr) (ca0_2:Nat) (Aa0_3:Option Addr) (ca0_3:Nat) (a1:List ByteArray) (Aa1:Option Addr) (ca1:Nat) (a2:Int) (a3:List CacheEvent) (Aa3:Option Addr) (ca3:Nat) (g1:Nat) (y1:Cache × CacheAnswer × Int) (A3:Option Addr) (c3:Nat) (ch3:Ch) (A4:Option Addr) (c4:Nat) (ch4:Ch) (g3:Nat) (y3:Cache × (List CacheAnswer) × Int) (A5:Option Addr) (c5:Nat) (ch5:Ch) (A6:Option Addr) (c6:Nat) (ch6:Ch) (g4:Nat) (v_i14:Int) ,Rw kBlob H F Aa0_2 a0.Blobs→a0.Blobs.length≤ca0_2→Rw kEntry H F Aa0_3 a0.Entries→a0.Entries.length≤ca0_3→Rw Kd.string H F Aa1 a1→a1.length≤ca1→Rw kCacheEvent H F Aa3 a3→a3.length≤ca3→SlOwn Kd.string 9 H A3 c3 y1.2.1.Missing ch3→SlOwn Kd.string 9 H A4 c4 y1.2.1.Gone ch4→SlOwn kBlob 47 H A5 c5 y3.1.Blobs ch5→SlOwn kEntry 51 H A6 c6 y3.1.Entries ch6→smithyardlaw7_CacheLeasesHold.l4 e1 k a0 a1 a2 a3 y1 y3 v_i14=some r→RunH C14 (S14 F H0 r) H0 w0 [.c [1,1,1,1,1,0,1,0,0],.l [1,1,1,1,1,0,1,0,0],.b 0,.c [1,1,1,1,1,1]] [(1,.slice Aa1 a1.length ca1),(2,iv a2),(3,.slice Aa3 a3.length ca3),(4,pg g1 0),(10,pg g3 0),(12,pg g4 0),(14,iv v_i14)] H ((some (g4,.cells #[iv y3.1.Room,iv y3.1.Lease,.slice A5 y3.1.Blobs.length c5,.slice A6 y3.1.Entries.length c6] 25 (0,0)))::ch5::ch6::(some (g3,.cells #[.bool y1.2.1.Done,.slice A3 y1.2.1.Missing.length c3,.slice A4 y1.2.1.Gone.length c4] 63 (0,0)))::ch3::ch4::(some (g1,.cells #[iv a0.Room,iv a0.Lease,.slice Aa0_2 a0.Blobs.length ca0_2,.slice Aa0_3 a0.Entries.length ca0_3] 25 (0,0)))::F):=by
 intro k
 induction k with
 | zero=>intro H a0 Aa0_2 ca0_2 Aa0_3 ca0_3 a1 Aa1 ca1 a2 a3 Aa3 ca3 g1 y1 A3 c3 ch3 A4 c4 ch4 g3 y3 A5 c5 ch5 A6 c6 ch6 g4 v_i14 hra0_2 hca0_2 hra0_3 hca0_3 hra1 hca1 hra3 hca3 ho3 ho4 ho5 ho6 heq; exact nomatch (show (none:Option Bool)=some r from heq)
 | succ k ihk =>
  intro H a0 Aa0_2 ca0_2 Aa0_3 ca0_3 a1 Aa1 ca1 a2 a3 Aa3 ca3 g1 y1 A3 c3 ch3 A4 c4 ch4 g3 y3 A5 c5 ch5 A6 c6 ch6 g4 v_i14 hra0_2 hca0_2 hra0_3 hca0_3 hra1 hca1 hra3 hca3 ho3 ho4 ho5 ho6 heq
  rw [smithyardlaw7_CacheLeasesHold.l4] at heq
  refine Ra 2 [1,1,1,1,1,0,1,0,0,0,0] [.c [1,1,1,1,1,0,1,0,0,0,1],.c [1,1,1,1,1,0,1,0,0,1],.l [1,1,1,1,1,0,1,0,0],.b 0,.c [1,1,1,1,1,1]]<|Rd 4 [1,2,3,4,10,12,14,55] [(1,.slice Aa1 a1.length ca1),(2,iv a2),(3,.slice Aa3 a3.length ca3),(4,pg g1 0),(10,pg g3 0),(12,pg g4 0),(14,iv v_i14),(55,.bool (decide (v_i14<(a3.length:Int))))] ?_
  rcases bool_cases (decide (v_i14<(a3.length:Int))) with hb8 | hb8
  ·replace heq:=bif_true hb8 heq
   refine Ct (decide (v_i14<(a3.length:Int))) hb8<|Ad 4 [.c [1,1,1,1,1,0,1,0,0,1,0,0,0],.c [1,1,1,1,1,0,1,0,0,1,0,0,1],.b 1,.c [1,1,1,1,1,0,1,0,0,1,1],.l [1,1,1,1,1,0,1,0,0],.b 0,.c [1,1,1,1,1,1]]<|Kp [1,2,3,4,10,12,14] [(1,.slice Aa1 a1.length ca1),(2,iv a2),(3,.slice Aa3 a3.length ca3),(4,pg g1 0),(10,pg g3 0),(12,pg g4 0),(14,iv v_i14)] ?_
   refine RunH.draw (fun w=>Heap H w0 w ((some (g4,.cells #[iv y3.1.Room,iv y3.1.Lease,.slice A5 y3.1.Blobs.length c5,.slice A6 y3.1.Entries.length c6] 25 (0,0)))::ch5::ch6::(some (g3,.cells #[.bool y1.2.1.Done,.slice A3 y1.2.1.Missing.length c3,.slice A4 y1.2.1.Gone.length c4] 63 (0,0)))::ch3::ch4::(some (g1,.cells #[iv a0.Room,iv a0.Lease,.slice Aa0_2 a0.Blobs.length ca0_2,.slice Aa0_3 a0.Entries.length ca0_3] 25 (0,0)))::F)) (fun w=>Heap H w0 w ((some (g4,.cells #[iv y3.1.Room,iv y3.1.Lease,.slice A5 y3.1.Blobs.length c5,.slice A6 y3.1.Entries.length c6] 25 (0,0)))::ch5::ch6::(some (g3,.cells #[.bool y1.2.1.Done,.slice A3 y1.2.1.Missing.length c3,.slice A4 y1.2.1.Gone.length c4] 63 (0,0)))::ch3::ch4::(some (g1,.cells #[iv a0.Room,iv a0.Lease,.slice Aa0_2 a0.Blobs.length ca0_2,.slice Aa0_3 a0.Entries.length ca0_3] 25 (0,0)))::F)) [3,3,3,3,3,3,3,3,3,3] (n:=10) (ls:=[false,false,false,false,false,false,false,false,false,false]) (by kernel_rfl) (by kernel_rfl) (by kernel_rfl) rfl ?_
   obtain ⟨x3,hx3,heq⟩:=bind_some heq
   obtain ⟨ha3,cs3,hK3,hcc3⟩:=hra3.get hx3
   obtain ⟨A8,c8,rfl,hc1,hr1⟩:=kCacheEvent_open hK3
   refine Dk [0,1,2,3,4,5,6,7,8,9] 0 (nb 10 1023) [iv x3.At,iv a0.Lease] [.need (Aa3=some (adr Aa3)∧(0:Int)≤v_i14∧v_i14<((a3.length:Nat):Int)),.load (((adr Aa3).add (v_i14.toNat*6)).add 1) (iv x3.At),.load ⟨g1,1,none⟩ (iv a0.Lease)] [1,2,3,4,10,12,14,67] [(1,.slice Aa1 a1.length ca1),(2,iv a2),(3,.slice Aa3 a3.length ca3),(4,pg g1 0),(10,pg g3 0),(12,pg g4 0),(14,iv v_i14),(67,.bool (decide ((w64 (a2+a0.Lease))≤x3.At)))] (Pk 7 [0,1,2,3,4,5,6]) (Pk 7 [0,1,2,3,4,5,6]) (fun w hh=>⟨⟨ha3,(at?_some hx3).1,(at?_some hx3).2.1⟩,(hcc3 _ _ (hh.drop 7) 1 _ rfl),(hh.box 6 rfl rfl)⟩) ?_
   refine DrH.done (by kernel_rfl) ?_
   rcases bool_cases (decide ((w64 (a2+a0.Lease))≤x3.At)) with hb9 | hb9
   ·replace heq:=bif_true hb9 heq
    refine Ct (decide ((w64 (a2+a0.Lease))≤x3.At)) hb9<|Ra 1 [1,1,1,1,1,0,1,0,0,1,0,0,1,0,0] [.c [1,1,1,1,1,0,1,0,0,1,0,0,1,0,1],.b 1,.c [1,1,1,1,1,0,1,0,0,1,1],.l [1,1,1,1,1,0,1,0,0],.b 0,.c [1,1,1,1,1,1]] ?_
    obtain ⟨y8,hy8,heq⟩:=bind_some heq
    refine RgH.does (DoesH.call (d:=68) (g:=29) (args:=(List.toArray [])) (by kernel_rfl) (smithyardlaw7_awake_c  hy8)) ?_
    rintro _ _ _ _ ⟨_,rfl,rfl,rfl,rfl⟩
    refine Rd 2 [8] [(8,.bool y8)] ?_
    obtain rfl:=Option.some.inj heq
    refine RunH.pick 7 [] (cs':=F) (by kernel_rfl) rfl ?_
    exact RunH.done (by kernel_rfl) Tryd.func14 (v:=.bool y8) (by kernel_rfl) ⟨rfl,rfl⟩
   ·replace heq:=bif_false hb9 heq
    refine Cf (decide ((w64 (a2+a0.Lease))≤x3.At)) hb9<|Ra 2 [1,1,1,1,1,0,1,0,0,1,1] [.l [1,1,1,1,1,0,1,0,0],.b 0,.c [1,1,1,1,1,1]]<|Rd 3 [1,2,3,4,10,12,14] [(1,.slice Aa1 a1.length ca1),(2,iv a2),(3,.slice Aa3 a3.length ca3),(4,pg g1 0),(10,pg g3 0),(12,pg g4 0),(14,iv (w64 (v_i14+1)))]<|Ad 1 [.c [1,1,1,1,1,0,1,0,0],.l [1,1,1,1,1,0,1,0,0],.b 0,.c [1,1,1,1,1,1]]<|Kp [1,2,3,4,10,12,14] [(1,.slice Aa1 a1.length ca1),(2,iv a2),(3,.slice Aa3 a3.length ca3),(4,pg g1 0),(10,pg g3 0),(12,pg g4 0),(14,iv (w64 (v_i14+1)))] ?_
    exact ihk _ a0 _ _ _ _ a1 _ _ a2 a3 _ _ _ y1 _ _ _ _ _ _ _ y3 _ _ _ _ _ _ _ (w64 (v_i14+1)) hra0_2 hca0_2 hra0_3 hca0_3 hra1 hca1 hra3 hca3 ho3 ho4 ho5 ho6 heq
  ·replace heq:=bif_false hb8 heq
   refine Cf (decide (v_i14<(a3.length:Int))) hb8<|Ad 3 [.c [1,1,1,1,1,1,0,0],.c [1,1,1,1,1,1,0,1],.c [1,1,1,1,1,1,1]]<|Kp [1,10,12] [(1,.slice Aa1 a1.length ca1),(10,pg g3 0),(12,pg g4 0)] ?_
   refine RunH.pick 7 [0,1,2,3,4,5] (cs':=(some (g4,.cells #[iv y3.1.Room,iv y3.1.Lease,.slice A5 y3.1.Blobs.length c5,.slice A6 y3.1.Entries.length c6] 25 (0,0)))::ch5::ch6::(some (g3,.cells #[.bool y1.2.1.Done,.slice A3 y1.2.1.Missing.length c3,.slice A4 y1.2.1.Gone.length c4] 63 (0,0)))::ch3::ch4::F) (by kernel_rfl) rfl ?_
   exact he1 _ a1 _ _ y1 _ _ _ _ _ _ _ y3 _ _ _ _ _ _ _ hra1 hca1 ho3 ho4 ho5 ho6 heq
theorem smithyardlaw7_CacheLeasesHold_c {w0:World} {H0:Hp} {F:List Ch} {a0:Cache} {Aa0_2:Option Addr} {na0_2:Nat} {ca0_2:Nat} {Aa0_3:Option Addr} {na0_3:Nat} {ca0_3:Nat} {a1:List ByteArray} {Aa1:Option Addr} {na1:Nat} {ca1:Nat} {a2:Int} {a3:List CacheEvent} {Aa3:Option Addr} {na3:Nat} {ca3:Nat} {r:Bool} (hra0_2:Rw kBlob H0 F Aa0_2 a0.Blobs) (hca0_2:na0_2≤ca0_2) (hna0_2:na0_2=a0.Blobs.length) (hra0_3:Rw kEntry H0 F Aa0_3 a0.Entries) (hca0_3:na0_3≤ca0_3) (hna0_3:na0_3=a0.Entries.length) (hra1:Rw Kd.string H0 F Aa1 a1) (hca1:na1≤ca1) (hna1:na1=a1.length) (hra3:Rw kCacheEvent H0 F Aa3 a3) (hca3:na3≤ca3) (hna3:na3=a3.length) (heq:smithyardlaw7_CacheLeasesHold.f a0 a1 a2 a3=some r):CallsH Tryd.prog 14 #[.agg #[iv a0.Room,iv a0.Lease,.slice Aa0_2 na0_2 ca0_2,.slice Aa0_3 na0_3 ca0_3],.slice Aa1 na1 ca1,iv a2,.slice Aa3 na3 ca3] H0 w0 (F) (S14 F H0 r):=by
 refine calls_of_runH (F:=C14) Tryd.func14 (by kernel_rfl) Tryd.ntmps14 (args:=[.agg #[iv a0.Room,iv a0.Lease,.slice Aa0_2 na0_2 ca0_2,.slice Aa0_3 na0_3 ca0_3],.slice Aa1 na1 ca1,iv a2,.slice Aa3 na3 ca3]) (by kernel_rfl) ?_
 subst hna0_2
 subst hna0_3
 subst hna1
 subst hna3
 unfold smithyardlaw7_CacheLeasesHold.f at heq
 suffices key:∀ (H:Hp),Rw kBlob H F Aa0_2 a0.Blobs→Rw kEntry H F Aa0_3 a0.Entries→Rw Kd.string H F Aa1 a1→Rw kCacheEvent H F Aa3 a3→RunH C14 (S14 F H0 r) H0 w0 [.c []] (argL 0 [.agg #[iv a0.Room,iv a0.Lease,.slice Aa0_2 (a0.Blobs.length) ca0_2,.slice Aa0_3 (a0.Entries.length) ca0_3],.slice Aa1 (a1.length) ca1,iv a2,.slice Aa3 (a3.length) ca3]) H (F) from key H0 hra0_2 hra0_3 hra1 hra3
 intro H hra0_2 hra0_3 hra1 hra3
 refine Ra 1 [0] [.c [1]] ?_
 refine RgH.does (DoesH.new (d:=4) (v:=fun g=>.pointer (some ⟨g,0,none⟩)) (o:=fun g=>.cells #[iv a0.Room,iv a0.Lease,.slice Aa0_2 a0.Blobs.length ca0_2,.slice Aa0_3 a0.Entries.length ca0_3] 25 (0,0)) (fun g=>by kernel_rfl)) ?_
 rintro _ _ _ _ ⟨g1,rfl,rfl,rfl⟩
 refine Rd 2 [1,2,3,4] [(1,.slice Aa1 a1.length ca1),(2,iv a2),(3,.slice Aa3 a3.length ca3),(4,pg g1 0)]<|Ra 1 [1,0] [.c [1,1]]<|Rv 4 [1,2,3,4,19,22] [iv a0.Room,iv a0.Lease,.slice Aa0_2 a0.Blobs.length ca0_2,.slice Aa0_3 a0.Entries.length ca0_3] [.load ⟨g1,0,none⟩ (iv a0.Room),.load ⟨g1,1,none⟩ (iv a0.Lease),.load ⟨g1,2,none⟩ (.slice Aa0_2 a0.Blobs.length ca0_2),.load ⟨g1,3,none⟩ (.slice Aa0_3 a0.Entries.length ca0_3)] [(1,.slice Aa1 a1.length ca1),(2,iv a2),(3,.slice Aa3 a3.length ca3),(4,pg g1 0),(19,.agg #[iv a0.Room,iv a0.Lease,.slice Aa0_2 a0.Blobs.length ca0_2,.slice Aa0_3 a0.Entries.length ca0_3]),(22,.agg #[iv 3,iv a2,.string ByteArray.empty,.slice Aa1 a1.length ca1,.string ByteArray.empty,iv 0])] (fun w hh=>⟨(hh.box 0 rfl rfl),(hh.box 0 rfl rfl),(hh.box 0 rfl rfl),(hh.box 0 rfl rfl)⟩) ?_
 obtain ⟨y1,hy1,heq⟩:=bind_some heq
 refine RgH.does (DoesH.call (d:=23) (g:=45) (args:=#[.agg #[iv a0.Room,iv a0.Lease,.slice Aa0_2 a0.Blobs.length ca0_2,.slice Aa0_3 a0.Entries.length ca0_3],.agg #[iv 3,iv a2,.string ByteArray.empty,.slice Aa1 a1.length ca1,.string ByteArray.empty,iv 0]]) (by kernel_rfl) (cache_Do_c (a0:=a0) (a1:=(⟨3,a2,ByteArray.empty,a1,ByteArray.empty,0⟩:CacheEvent)) (hra0_2.wk (fun _ h=>(.tail _ h))) hca0_2 rfl (hra0_3.wk (fun _ h=>(.tail _ h))) hca0_3 rfl (hra1.wk (fun _ h=>(.tail _ h))) hca1 rfl hy1)) ?_
 rintro _ H _ hl ⟨_,rfl,A1,c1,ch1,A2,c2,ch2,A3,c3,ch3,A4,c4,ch4,rfl,rfl,ho1,ho2,ho3,ho4⟩
 replace hra1:=hra1.mono hl
 replace hra3:=hra3.mono hl
 replace hra0_2:=hra0_2.mono hl
 replace hra0_3:=hra0_3.mono hl
 refine Rk 9 [1,2,3,4,24,25,26] [(1,.slice Aa1 a1.length ca1),(2,iv a2),(3,.slice Aa3 a3.length ca3),(4,pg g1 0),(24,.agg #[iv y1.1.Room,iv y1.1.Lease,.slice A1 y1.1.Blobs.length c1,.slice A2 y1.1.Entries.length c2]),(25,.agg #[.bool y1.2.1.Done,.slice A3 y1.2.1.Missing.length c3,.slice A4 y1.2.1.Gone.length c4]),(26,iv y1.2.2)] ?_
 refine RgH.does (DoesH.new (d:=9) (v:=fun g=>.pointer (some ⟨g,0,none⟩)) (o:=fun g=>.cells #[iv 0,iv 0,.slice none 0 0,.slice none 0 0] 25 (0,0)) (fun g=>by kernel_rfl)) ?_
 rintro _ _ _ _ ⟨g2,rfl,rfl,rfl⟩
 refine RgH.does (DoesH.new (d:=10) (v:=fun g=>.pointer (some ⟨g,0,none⟩)) (o:=fun g=>.cells #[.bool false,.slice none 0 0,.slice none 0 0] 63 (0,0)) (fun g=>by kernel_rfl)) ?_
 rintro _ _ _ _ ⟨g3,rfl,rfl,rfl⟩
 refine RgH.does (DoesH.store (k:=1) (g:=g2) (off:=0) (v:=.agg #[iv y1.1.Room,iv y1.1.Lease,.slice A1 y1.1.Blobs.length c1,.slice A2 y1.1.Entries.length c2]) (cells':=#[iv y1.1.Room,iv y1.1.Lease,.slice A1 y1.1.Blobs.length c1,.slice A2 y1.1.Entries.length c2]) (by kernel_rfl) rfl (by kernel_rfl) (by kernel_rfl)) ?_
 rintro _ _ _ _ ⟨rfl,rfl,rfl⟩
 refine RgH.does (DoesH.store (k:=0) (g:=g3) (off:=0) (v:=.agg #[.bool y1.2.1.Done,.slice A3 y1.2.1.Missing.length c3,.slice A4 y1.2.1.Gone.length c4]) (cells':=#[.bool y1.2.1.Done,.slice A3 y1.2.1.Missing.length c3,.slice A4 y1.2.1.Gone.length c4]) (by kernel_rfl) rfl (by kernel_rfl) (by kernel_rfl)) ?_
 rintro _ _ _ _ ⟨rfl,rfl,rfl⟩
 refine Rd 14 [1,2,3,4,9,10,11] [(1,.slice Aa1 a1.length ca1),(2,iv a2),(3,.slice Aa3 a3.length ca3),(4,pg g1 0),(9,pg g2 0),(10,pg g3 0),(11,iv y1.2.2)]<|Ra 2 [1,1,0,0] [.c [1,1,0,1],.c [1,1,1]]<|Rd 2 [1,2,3,4,9,10,28] [(1,.slice Aa1 a1.length ca1),(2,iv a2),(3,.slice Aa3 a3.length ca3),(4,pg g1 0),(9,pg g2 0),(10,pg g3 0),(28,.bool (y1.2.2 != 0))] ?_
 rcases bool_cases (y1.2.2 != 0) with hb1 | hb1
 ·replace heq:=bif_true hb1 heq
  refine Ct (y1.2.2 != 0) hb1<|Ad 1 [.c [1,1,0,1,0,0],.c [1,1,0,1,0,1],.c [1,1,1]] ?_
  obtain ⟨t1,ht1,heq⟩:=bind_some heq
  have K8:∀ (H:Hp),RunH C14 (S14 F H0 r) H0 w0 [.c [1,1,0,1,0,1],.c [1,1,1]] [(8,.bool t1)] H (F):=by
   intro H
   obtain rfl:=Option.some.inj heq
   exact RunH.done (by kernel_rfl) Tryd.func14 (v:=.bool t1) (by kernel_rfl) ⟨rfl,rfl⟩
  replace heq:=ht1
  refine Rr<|Rv 5 [33] [.slice A3 y1.2.1.Missing.length c3] [.load ⟨g3,1,none⟩ (.slice A3 y1.2.1.Missing.length c3)] [(33,.bool ((y1.2.1.Missing.length:Int) == 0))] (fun w hh=>(hh.box 0 rfl rfl)) ?_
  rcases bool_cases ((y1.2.1.Missing.length:Int) == 0) with hb2 | hb2
  ·replace heq:=bif_true hb2 heq
   refine RgH.val1 (v':=.bool true) (congrArg Value.bool hb2) ?_
   obtain ⟨y2,hy2,heq⟩:=bind_some heq
   refine RgH.does (DoesH.call (d:=34) (g:=29) (args:=(List.toArray [])) (by kernel_rfl) (smithyardlaw7_awake_c  hy2)) ?_
   rintro _ _ _ _ ⟨_,rfl,rfl,rfl,rfl⟩
   refine Rk 8 [8] [(8,.bool y2)] ?_
   obtain rfl:=Option.some.inj heq
   refine Kg [8] [(8,.bool y2)] ?_
   refine RgH.pick 7 [] (cs':=F) (by kernel_rfl) rfl ?_
   refine Dn ?_
   exact K8 _
  ·replace heq:=bif_false hb2 heq
   refine RgH.val1 (v':=.bool false) (congrArg Value.bool hb2) ?_
   refine Rk 8 [8] [(8,.bool false)] ?_
   obtain rfl:=Option.some.inj heq
   refine Kg [8] [(8,.bool false)] ?_
   refine RgH.pick 7 [] (cs':=F) (by kernel_rfl) rfl ?_
   refine Dn ?_
   exact K8 _
 ·replace heq:=bif_false hb1 heq
  refine Cf (y1.2.2 != 0) hb1<|Ra 2 [1,1,1,0] [.c [1,1,1,1]]<|Rv 2 [1,2,3,4,10,37,38] [iv y1.1.Room,iv y1.1.Lease,.slice A1 y1.1.Blobs.length c1,.slice A2 y1.1.Entries.length c2] [.load ⟨g2,0,none⟩ (iv y1.1.Room),.load ⟨g2,1,none⟩ (iv y1.1.Lease),.load ⟨g2,2,none⟩ (.slice A1 y1.1.Blobs.length c1),.load ⟨g2,3,none⟩ (.slice A2 y1.1.Entries.length c2)] [(1,.slice Aa1 a1.length ca1),(2,iv a2),(3,.slice Aa3 a3.length ca3),(4,pg g1 0),(10,pg g3 0),(37,.agg #[iv y1.1.Room,iv y1.1.Lease,.slice A1 y1.1.Blobs.length c1,.slice A2 y1.1.Entries.length c2]),(38,.slice Aa3 a3.length ca3)] (fun w hh=>⟨(hh.box 1 rfl rfl),(hh.box 1 rfl rfl),(hh.box 1 rfl rfl),(hh.box 1 rfl rfl)⟩) ?_
  obtain ⟨y3,hy3,heq⟩:=bind_some heq
  refine RgH.does (DoesH.call (d:=39) (g:=48) (args:=#[.agg #[iv y1.1.Room,iv y1.1.Lease,.slice A1 y1.1.Blobs.length c1,.slice A2 y1.1.Entries.length c2],.slice Aa3 a3.length ca3]) (by kernel_rfl) (cache_Follow_c (a0:=(⟨y1.1.Room,y1.1.Lease,y1.1.Blobs,y1.1.Entries⟩:Cache)) (a1:=a3) (ho1.rw (.tail _ (.tail _ (.head _)))) ho1.cap rfl (ho2.rw (.tail _ (.tail _ (.tail _ (.head _))))) ho2.cap rfl (hra3.wk (fun _ h=>(.tail _ (.tail _ (.tail _ (.tail _ (.tail _ (.tail _ (.tail _ h))))))))) hca3 rfl hy3)) ?_
  rintro _ H _ hl ⟨_,rfl,A5,c5,ch5,A6,c6,ch6,A7,c7,ch7,rfl,rfl,ho5,ho6,ho7⟩
  replace hra1:=hra1.mono hl
  replace hra3:=hra3.mono hl
  replace hra0_2:=hra0_2.mono hl
  replace hra0_3:=hra0_3.mono hl
  replace ho3:=ho3.mono hl
  replace ho4:=ho4.mono hl
  replace ho1:=ho1.mono hl
  replace ho2:=ho2.mono hl
  refine Rk 7 [1,2,3,4,10,40,41,42] [(1,.slice Aa1 a1.length ca1),(2,iv a2),(3,.slice Aa3 a3.length ca3),(4,pg g1 0),(10,pg g3 0),(40,.agg #[iv y3.1.Room,iv y3.1.Lease,.slice A5 y3.1.Blobs.length c5,.slice A6 y3.1.Entries.length c6]),(41,.slice A7 y3.2.1.length c7),(42,iv y3.2.2)] ?_
  refine RgH.does (DoesH.new (d:=12) (v:=fun g=>.pointer (some ⟨g,0,none⟩)) (o:=fun g=>.cells #[iv 0,iv 0,.slice none 0 0,.slice none 0 0] 25 (0,0)) (fun g=>by kernel_rfl)) ?_
  rintro _ _ _ _ ⟨g4,rfl,rfl,rfl⟩
  refine RgH.does (DoesH.store (k:=0) (g:=g4) (off:=0) (v:=.agg #[iv y3.1.Room,iv y3.1.Lease,.slice A5 y3.1.Blobs.length c5,.slice A6 y3.1.Entries.length c6]) (cells':=#[iv y3.1.Room,iv y3.1.Lease,.slice A5 y3.1.Blobs.length c5,.slice A6 y3.1.Entries.length c6]) (by kernel_rfl) rfl (by kernel_rfl) (by kernel_rfl)) ?_
  rintro _ _ _ _ ⟨rfl,rfl,rfl⟩
  refine Rd 11 [1,2,3,4,10,11,12] [(1,.slice Aa1 a1.length ca1),(2,iv a2),(3,.slice Aa3 a3.length ca3),(4,pg g1 0),(10,pg g3 0),(11,iv y3.2.2),(12,pg g4 0)]<|Ra 2 [1,1,1,1,0,0] [.c [1,1,1,1,0,1],.c [1,1,1,1,1]]<|Rd 2 [1,2,3,4,10,12,44] [(1,.slice Aa1 a1.length ca1),(2,iv a2),(3,.slice Aa3 a3.length ca3),(4,pg g1 0),(10,pg g3 0),(12,pg g4 0),(44,.bool (y3.2.2 != 0))] ?_
  rcases bool_cases (y3.2.2 != 0) with hb3 | hb3
  ·replace heq:=bif_true hb3 heq
   refine Ct (y3.2.2 != 0) hb3<|Ad 1 [.c [1,1,1,1,0,1,0,0],.c [1,1,1,1,0,1,0,1],.c [1,1,1,1,1]] ?_
   obtain ⟨t2,ht2,heq⟩:=bind_some heq
   have K13:∀ (H:Hp),RunH C14 (S14 F H0 r) H0 w0 [.c [1,1,1,1,0,1,0,1],.c [1,1,1,1,1]] [(8,.bool t2)] H (F):=by
    intro H
    obtain rfl:=Option.some.inj heq
    exact RunH.done (by kernel_rfl) Tryd.func14 (v:=.bool t2) (by kernel_rfl) ⟨rfl,rfl⟩
   replace heq:=ht2
   refine Rr<|Rv 5 [49] [.slice A5 y3.1.Blobs.length c5] [.load ⟨g4,2,none⟩ (.slice A5 y3.1.Blobs.length c5)] [(49,.bool ((y3.1.Blobs.length:Int) == 0))] (fun w hh=>(hh.box 0 rfl rfl)) ?_
   rcases bool_cases ((y3.1.Blobs.length:Int) == 0) with hb4 | hb4
   ·replace heq:=bif_true hb4 heq
    refine RgH.val1 (v':=.bool true) (congrArg Value.bool hb4) ?_
    obtain ⟨y4,hy4,heq⟩:=bind_some heq
    refine RgH.does (DoesH.call (d:=50) (g:=29) (args:=(List.toArray [])) (by kernel_rfl) (smithyardlaw7_awake_c  hy4)) ?_
    rintro _ _ _ _ ⟨_,rfl,rfl,rfl,rfl⟩
    refine Rk 8 [8] [(8,.bool y4)] ?_
    obtain rfl:=Option.some.inj heq
    refine Kg [8] [(8,.bool y4)] ?_
    refine RgH.pick 11 [] (cs':=F) (by kernel_rfl) rfl ?_
    refine Dn ?_
    exact K13 _
   ·replace heq:=bif_false hb4 heq
    refine RgH.val1 (v':=.bool false) (congrArg Value.bool hb4) ?_
    refine Rk 8 [8] [(8,.bool false)] ?_
    obtain rfl:=Option.some.inj heq
    refine Kg [8] [(8,.bool false)] ?_
    refine RgH.pick 11 [] (cs':=F) (by kernel_rfl) rfl ?_
    refine Dn ?_
    exact K13 _
  ·replace heq:=bif_false hb3 heq
   refine Cf (y3.2.2 != 0) hb3<|Ra 3 [1,1,1,1,1,0,0] [.c [1,1,1,1,1,0,1],.c [1,1,1,1,1,1]]<|Rd 1 [1,2,3,4,10,12,14] [(1,.slice Aa1 a1.length ca1),(2,iv a2),(3,.slice Aa3 a3.length ca3),(4,pg g1 0),(10,pg g3 0),(12,pg g4 0),(14,iv 0)]<|Ad 2 [.c [1,1,1,1,1,0,1,0,0],.l [1,1,1,1,1,0,1,0,0],.b 0,.c [1,1,1,1,1,1]]<|Kp [1,2,3,4,10,12,14] [(1,.slice Aa1 a1.length ca1),(2,iv a2),(3,.slice Aa3 a3.length ca3),(4,pg g1 0),(10,pg g3 0),(12,pg g4 0),(14,iv 0)] ?_
   refine RunH.pick 11 [0,1,2,4,8,9,10] (cs':=(some (g4,.cells #[iv y3.1.Room,iv y3.1.Lease,.slice A5 y3.1.Blobs.length c5,.slice A6 y3.1.Entries.length c6] 25 (0,0)))::ch5::ch6::(some (g3,.cells #[.bool y1.2.1.Done,.slice A3 y1.2.1.Missing.length c3,.slice A4 y1.2.1.Gone.length c4] 63 (0,0)))::ch3::ch4::(some (g1,.cells #[iv a0.Room,iv a0.Lease,.slice Aa0_2 a0.Blobs.length ca0_2,.slice Aa0_3 a0.Entries.length ca0_3] 25 (0,0)))::F) (by kernel_rfl) rfl ?_
   exact ((smithyardlaw7_CacheLeasesHold.l4_c (e1:=smithyardlaw7_CacheLeasesHold.e1) (smithyardlaw7_CacheLeasesHold.e1_c)) big) _ a0 _ _ _ _ a1 _ _ a2 a3 _ _ _ y1 _ _ _ _ _ _ _ y3 _ _ _ _ _ _ _ 0 hra0_2 hca0_2 hra0_3 hca0_3 hra1 hca1 hra3 hca3 ho3 ho4 ho5 ho6 heq
end Go.Proofs.YtkjilepjblffeaaDoor
