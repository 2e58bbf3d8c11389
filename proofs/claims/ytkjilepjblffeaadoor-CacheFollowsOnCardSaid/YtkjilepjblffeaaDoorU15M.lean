/- What the machine's calls of these functions come to: just what the plain functions say. Written by program. -/
import Derived.Test.YtkjilepjblffeaaDoorProg
import Derived.Test.YtkjilepjblffeaaDoorKitX
import Derived.Test.YtkjilepjblffeaaDoorUD
import Derived.Test.YtkjilepjblffeaaDoorShelf
import Derived.Test.YtkjilepjblffeaaDoorU15M3
set_option linter.unusedVariables false
set_option linter.unusedSimpArgs false
set_option maxRecDepth 100000
set_option maxHeartbeats 1000000
namespace Go.Proofs.YtkjilepjblffeaaDoor
open Go Go.RowKit Go.Proofs.YtkjilepjblffeaaDoor.Kit
noncomputable def C93:Ctx:={ P:=Tryd.prog,f:=93,N:=47,c:=bodyOf Tryd.f93 }
def S93 (F:List Ch) (H0:Hp) (ga2q0:Nat) (r:Cache × Int × (List CacheAnswer)) (v:Value) (H:Hp) (cs:List Ch):Prop:=∃ (A0_2:Option Addr) (c0_2:Nat) (ch0_2:Ch) (A0_3:Option Addr) (c0_3:Nat) (ch0_3:Ch) (A2_0:Option Addr) (c2_0:Nat) (ch2_0:Ch),v=.tuple #[.agg #[iv r.1.Room,iv r.1.Lease,.slice A0_2 r.1.Blobs.length c0_2,.slice A0_3 r.1.Entries.length c0_3],iv r.2.1]∧ch0_2::ch0_3::some (ga2q0,.cells #[.slice A2_0 r.2.2.length c2_0] 73 (0,0))::ch2_0::F=cs∧SlOwn kBlob 47 H A0_2 c0_2 r.1.Blobs ch0_2∧SlOwn kEntry 51 H A0_3 c0_3 r.1.Entries ch0_3∧SlOwn kCacheAnswer 63 H A2_0 c2_0 r.2.2 ch2_0
theorem cache_follow.e1_c {w0:World} {H0:Hp} {F:List Ch} {r:Cache × Int × (List CacheAnswer)}:∀ (H:Hp) (ga2q0:Nat) (g1:Nat) (g2:Nat) (v_see2_0_0:List CacheAnswer) (Av_see2_0_0:Option Addr) (nv_see2_0_0:Nat) (cv_see2_0_0:Nat) (chv_see2_0_0:Ch) (v_c3_0:Int) (v_c3_1:Int) (v_c3_2:List Blob) (Av_c3_2:Option Addr) (nv_c3_2:Nat) (cv_c3_2:Nat) (chv_c3_2:Ch) (v_c3_3:List Entry) (Av_c3_3:Option Addr) (nv_c3_3:Nat) (cv_c3_3:Nat) (chv_c3_3:Ch) ,SlOwn kCacheAnswer 63 H Av_see2_0_0 cv_see2_0_0 v_see2_0_0 chv_see2_0_0→nv_see2_0_0=v_see2_0_0.length→SlOwn kBlob 47 H Av_c3_2 cv_c3_2 v_c3_2 chv_c3_2→nv_c3_2=v_c3_2.length→SlOwn kEntry 51 H Av_c3_3 cv_c3_3 v_c3_3 chv_c3_3→nv_c3_3=v_c3_3.length→cache_follow.e1 v_see2_0_0 v_c3_0 v_c3_1 v_c3_2 v_c3_3=some r→RunH C93 (S93 F H0 ga2q0 r) H0 w0 [.c [1,1,1,1,1,0],.c [1,1,1,1,1,1]] [(2,.func (.func 94) #[] #[.pointer (some ⟨ga2q0,0,none⟩)]),(3,pg g1 0),(6,pg g2 0)] H (chv_c3_2::chv_c3_3::(some (g2,.cells #[iv 0,iv 0,.slice none 0 0,.slice none 0 0] 25 (0,0)))::(some (g1,.cells #[iv v_c3_0,iv v_c3_1,.slice Av_c3_2 nv_c3_2 cv_c3_2,.slice Av_c3_3 nv_c3_3 cv_c3_3] 25 (0,0)))::(some (ga2q0,.cells #[.slice Av_see2_0_0 nv_see2_0_0 cv_see2_0_0] 73 (0,0)))::chv_see2_0_0::F):=by
 intro H ga2q0 g1 g2 v_see2_0_0 Av_see2_0_0 nv_see2_0_0 cv_see2_0_0 chv_see2_0_0 v_c3_0 v_c3_1 v_c3_2 Av_c3_2 nv_c3_2 cv_c3_2 chv_c3_2 v_c3_3 Av_c3_3 nv_c3_3 cv_c3_3 chv_c3_3 hov_see2_0_0 hnv_see2_0_0 hov_c3_2 hnv_c3_2 hov_c3_3 hnv_c3_3 heq
 subst hnv_see2_0_0
 subst hnv_c3_2
 subst hnv_c3_3
 unfold cache_follow.e1 at heq
 refine Rr<|Rv 1 [2,6,46] [iv v_c3_0,iv v_c3_1,.slice Av_c3_2 v_c3_2.length cv_c3_2,.slice Av_c3_3 v_c3_3.length cv_c3_3] [.load ⟨g1,0,none⟩ (iv v_c3_0),.load ⟨g1,1,none⟩ (iv v_c3_1),.load ⟨g1,2,none⟩ (.slice Av_c3_2 v_c3_2.length cv_c3_2),.load ⟨g1,3,none⟩ (.slice Av_c3_3 v_c3_3.length cv_c3_3)] [(2,.func (.func 94) #[] #[.pointer (some ⟨ga2q0,0,none⟩)]),(6,pg g2 0),(46,.agg #[iv v_c3_0,iv v_c3_1,.slice Av_c3_2 v_c3_2.length cv_c3_2,.slice Av_c3_3 v_c3_3.length cv_c3_3])] (fun w hh=>⟨(hh.box 3 rfl rfl),(hh.box 3 rfl rfl),(hh.box 3 rfl rfl),(hh.box 3 rfl rfl)⟩) ?_
 refine RgH.does (DoesH.store (k:=2) (g:=g2) (off:=0) (v:=.agg #[iv v_c3_0,iv v_c3_1,.slice Av_c3_2 v_c3_2.length cv_c3_2,.slice Av_c3_3 v_c3_3.length cv_c3_3]) (cells':=#[iv v_c3_0,iv v_c3_1,.slice Av_c3_2 v_c3_2.length cv_c3_2,.slice Av_c3_3 v_c3_3.length cv_c3_3]) (by kernel_rfl) rfl (by kernel_rfl) (by kernel_rfl)) ?_
 rintro _ _ _ _ ⟨rfl,rfl,rfl⟩
 refine Rd 3 [2,6,7] [(2,.func (.func 94) #[] #[.pointer (some ⟨ga2q0,0,none⟩)]),(6,pg g2 0),(7,iv 0)] ?_
 obtain rfl:=Option.some.inj heq
 refine RunH.pick 6 [2,0,1,4,5] (cs':=(some (g2,.cells #[iv v_c3_0,iv v_c3_1,.slice Av_c3_2 v_c3_2.length cv_c3_2,.slice Av_c3_3 v_c3_3.length cv_c3_3] 25 (0,0)))::chv_c3_2::chv_c3_3::(some (ga2q0,.cells #[.slice Av_see2_0_0 v_see2_0_0.length cv_see2_0_0] 73 (0,0)))::chv_see2_0_0::F) (by kernel_rfl) rfl ?_
 exact RunH.doneM' 1 (vs:=[.agg #[iv v_c3_0,iv v_c3_1,.slice Av_c3_2 v_c3_2.length cv_c3_2,.slice Av_c3_3 v_c3_3.length cv_c3_3],iv 0]) (v:=.tuple #[.agg #[iv v_c3_0,iv v_c3_1,.slice Av_c3_2 v_c3_2.length cv_c3_2,.slice Av_c3_3 v_c3_3.length cv_c3_3],iv 0]) (by kernel_rfl) Tryd.func93 (fun w hh=>show ResAll _ _ _ [.cell 6 25,.tmp 7] _ from ⟨⟨⟨g2,0,none⟩,by kernel_rfl,trS_run _ (vs:=[iv v_c3_0,iv v_c3_1,.slice Av_c3_2 v_c3_2.length cv_c3_2,.slice Av_c3_3 v_c3_3.length cv_c3_3]) (r:=[]) (es:=[.load ⟨g2,0,none⟩ (iv v_c3_0),.load ⟨g2,1,none⟩ (iv v_c3_1),.load ⟨g2,2,none⟩ (.slice Av_c3_2 v_c3_2.length cv_c3_2),.load ⟨g2,3,none⟩ (.slice Av_c3_3 v_c3_3.length cv_c3_3)]) (by kernel_rfl) ⟨(hh.box 0 rfl rfl),(hh.box 0 rfl rfl),(hh.box 0 rfl rfl),(hh.box 0 rfl rfl)⟩⟩,(show lk _ _=some _ by kernel_rfl),trivial⟩) rfl (cs':=chv_c3_2::chv_c3_3::(some (ga2q0,.cells #[.slice Av_see2_0_0 v_see2_0_0.length cv_see2_0_0] 73 (0,0)))::chv_see2_0_0::F) rfl ⟨Av_c3_2,cv_c3_2,chv_c3_2,Av_c3_3,cv_c3_3,chv_c3_3,Av_see2_0_0,cv_see2_0_0,chv_see2_0_0,rfl,rfl,hov_c3_2,hov_c3_3,hov_see2_0_0⟩
theorem cache_follow.l2_c {w0:World} {H0:Hp} {F:List Ch} {r:Cache × Int × (List CacheAnswer)} (e1:(List CacheAnswer)→Int→Int→(List Blob)→(List Entry)→Option (Cache × Int × (List CacheAnswer)))
  (he1:∀ (H:Hp) (ga2q0:Nat) (g1:Nat) (g2:Nat) (v_see2_0_0:List CacheAnswer) (Av_see2_0_0:Option Addr) (nv_see2_0_0:Nat) (cv_see2_0_0:Nat) (chv_see2_0_0:Ch) (v_c3_0:Int) (v_c3_1:Int) (v_c3_2:List Blob) (Av_c3_2:Option Addr) (nv_c3_2:Nat) (cv_c3_2:Nat) (chv_c3_2:Ch) (v_c3_3:List Entry) (Av_c3_3:Option Addr) (nv_c3_3:Nat) (cv_c3_3:Nat) (chv_c3_3:Ch) ,SlOwn kCacheAnswer 63 H Av_see2_0_0 cv_see2_0_0 v_see2_0_0 chv_see2_0_0→nv_see2_0_0=v_see2_0_0.length→SlOwn kBlob 47 H Av_c3_2 cv_c3_2 v_c3_2 chv_c3_2→nv_c3_2=v_c3_2.length→SlOwn kEntry 51 H Av_c3_3 cv_c3_3 v_c3_3 chv_c3_3→nv_c3_3=v_c3_3.length→e1 v_see2_0_0 v_c3_0 v_c3_1 v_c3_2 v_c3_3=some r→RunH C93 (S93 F H0 ga2q0 r) H0 w0 [.c [1,1,1,1,1,0],.c [1,1,1,1,1,1]] [(2,.func (.func 94) #[] #[.pointer (some ⟨ga2q0,0,none⟩)]),(3,pg g1 0),(6,pg g2 0)] H (chv_c3_2::chv_c3_3::(some (g2,.cells #[iv 0,iv 0,.slice none 0 0,.slice none 0 0] 25 (0,0)))::(some (g1,.cells #[iv v_c3_0,iv v_c3_1,.slice Av_c3_2 nv_c3_2 cv_c3_2,.slice Av_c3_3 nv_c3_3 cv_c3_3] 25 (0,0)))::(some (ga2q0,.cells #[.slice Av_see2_0_0 nv_see2_0_0 cv_see2_0_0] 73 (0,0)))::chv_see2_0_0::F)):∀ (k:Nat),∀ (H:Hp) (a1:List CacheEvent) (Aa1:Option Addr) (ca1:Nat) (ga2q0:Nat) (g1:Nat) (g2:Nat) (v_see2_0_0:List CacheAnswer) (Av_see2_0_0:Option Addr) (nv_see2_0_0:Nat) (cv_see2_0_0:Nat) (chv_see2_0_0:Ch) (v_c3_0:Int) (v_c3_1:Int) (v_c3_2:List Blob) (Av_c3_2:Option Addr) (nv_c3_2:Nat) (cv_c3_2:Nat) (chv_c3_2:Ch) (v_c3_3:List Entry) (Av_c3_3:Option Addr) (nv_c3_3:Nat) (cv_c3_3:Nat) (chv_c3_3:Ch) (v27:Int) ,Rw kCacheEvent H F Aa1 a1→a1.length≤ca1→SlOwn kCacheAnswer 63 H Av_see2_0_0 cv_see2_0_0 v_see2_0_0 chv_see2_0_0→nv_see2_0_0=v_see2_0_0.length→SlOwn kBlob 47 H Av_c3_2 cv_c3_2 v_c3_2 chv_c3_2→nv_c3_2=v_c3_2.length→SlOwn kEntry 51 H Av_c3_3 cv_c3_3 v_c3_3 chv_c3_3→nv_c3_3=v_c3_3.length→cache_follow.l2 e1 k a1 v_see2_0_0 v_c3_0 v_c3_1 v_c3_2 v_c3_3 v27=some r→RunH C93 (S93 F H0 ga2q0 r) H0 w0 [.c [1,1,1,1,0,1,0,0],.l [1,1,1,1,0,1,0,0],.b 0,.c [1,1,1,1,1]] [(2,.func (.func 94) #[] #[.pointer (some ⟨ga2q0,0,none⟩)]),(3,pg g1 0),(6,pg g2 0),(25,.slice Aa1 a1.length ca1),(26,iv (a1.length:Int)),(27,iv v27)] H (chv_c3_2::chv_c3_3::(some (g2,.cells #[iv 0,iv 0,.slice none 0 0,.slice none 0 0] 25 (0,0)))::(some (g1,.cells #[iv v_c3_0,iv v_c3_1,.slice Av_c3_2 nv_c3_2 cv_c3_2,.slice Av_c3_3 nv_c3_3 cv_c3_3] 25 (0,0)))::(some (ga2q0,.cells #[.slice Av_see2_0_0 nv_see2_0_0 cv_see2_0_0] 73 (0,0)))::chv_see2_0_0::F):=by
 intro k
 induction k with
 | zero=>intro H a1 Aa1 ca1 ga2q0 g1 g2 v_see2_0_0 Av_see2_0_0 nv_see2_0_0 cv_see2_0_0 chv_see2_0_0 v_c3_0 v_c3_1 v_c3_2 Av_c3_2 nv_c3_2 cv_c3_2 chv_c3_2 v_c3_3 Av_c3_3 nv_c3_3 cv_c3_3 chv_c3_3 v27 hra1 hca1 hov_see2_0_0 hnv_see2_0_0 hov_c3_2 hnv_c3_2 hov_c3_3 hnv_c3_3 heq; exact nomatch (show (none:Option (Cache × Int × (List CacheAnswer)))=some r from heq)
 | succ k ihk =>
  intro H a1 Aa1 ca1 ga2q0 g1 g2 v_see2_0_0 Av_see2_0_0 nv_see2_0_0 cv_see2_0_0 chv_see2_0_0 v_c3_0 v_c3_1 v_c3_2 Av_c3_2 nv_c3_2 cv_c3_2 chv_c3_2 v_c3_3 Av_c3_3 nv_c3_3 cv_c3_3 chv_c3_3 v27 hra1 hca1 hov_see2_0_0 hnv_see2_0_0 hov_c3_2 hnv_c3_2 hov_c3_3 hnv_c3_3 heq
  subst hnv_see2_0_0
  subst hnv_c3_2
  subst hnv_c3_3
  rw [cache_follow.l2] at heq
  refine Ra 1 [1,1,1,1,0,1,0,0,0] [.c [1,1,1,1,0,1,0,0,1],.l [1,1,1,1,0,1,0,0],.b 0,.c [1,1,1,1,1]]<|Rd 1 [2,3,6,25,26,27,28] [(2,.func (.func 94) #[] #[.pointer (some ⟨ga2q0,0,none⟩)]),(3,pg g1 0),(6,pg g2 0),(25,.slice Aa1 a1.length ca1),(26,iv (a1.length:Int)),(27,iv v27),(28,.bool (decide (v27<(a1.length:Int))))]<|Ad 1 [.c [1,1,1,1,0,1,0,0,1,0],.c [1,1,1,1,0,1,0,0,1,1],.l [1,1,1,1,0,1,0,0],.b 0,.c [1,1,1,1,1]] ?_
  rcases bool_cases (decide (v27<(a1.length:Int))) with hb3 | hb3
  ·replace heq:=bif_true hb3 heq
   refine Ct (decide (v27<(a1.length:Int))) hb3<|Ra 4 [1,1,1,1,0,1,0,0,1,1,0,0,0] [.c [1,1,1,1,0,1,0,0,1,1,0,0,1],.b 1,.c [1,1,1,1,0,1,0,0,1,1,1],.l [1,1,1,1,0,1,0,0],.b 0,.c [1,1,1,1,1]] ?_
   obtain ⟨x1,hx1,heq⟩:=bind_some heq
   obtain ⟨ha1,cs1,hK1,hcc1⟩:=hra1.get hx1
   obtain ⟨A3,c3,rfl,hc1,hr1⟩:=kCacheEvent_open hK1
   refine Rv 2 [2,3,6,25,26,27,30] [iv x1.Kind,iv x1.At,.string x1.Digest,.slice A3 x1.Digests.length c3,.string x1.Key,iv x1.Size] [.need (Aa1=some (adr Aa1)∧(0:Int)≤v27∧v27<((a1.length:Nat):Int)),.load (((adr Aa1).add (v27.toNat*6)).add 0) (iv x1.Kind),.load (((adr Aa1).add (v27.toNat*6)).add 1) (iv x1.At),.load (((adr Aa1).add (v27.toNat*6)).add 2) (.string x1.Digest),.load (((adr Aa1).add (v27.toNat*6)).add 3) (.slice A3 x1.Digests.length c3),.load (((adr Aa1).add (v27.toNat*6)).add 4) (.string x1.Key),.load (((adr Aa1).add (v27.toNat*6)).add 5) (iv x1.Size)] [(2,.func (.func 94) #[] #[.pointer (some ⟨ga2q0,0,none⟩)]),(3,pg g1 0),(6,pg g2 0),(25,.slice Aa1 a1.length ca1),(26,iv (a1.length:Int)),(27,iv v27),(30,.agg #[iv x1.Kind,iv x1.At,.string x1.Digest,.slice A3 x1.Digests.length c3,.string x1.Key,iv x1.Size])] (fun w hh=>⟨⟨ha1,(at?_some hx1).1,(at?_some hx1).2.1⟩,(hcc1 _ _ (hh.drop 6) 0 _ rfl),(hcc1 _ _ (hh.drop 6) 1 _ rfl),(hcc1 _ _ (hh.drop 6) 2 _ rfl),(hcc1 _ _ (hh.drop 6) 3 _ rfl),(hcc1 _ _ (hh.drop 6) 4 _ rfl),(hcc1 _ _ (hh.drop 6) 5 _ rfl)⟩) ?_
   refine RgH.does (DoesH.new (d:=10) (v:=fun g=>.pointer (some ⟨g,0,none⟩)) (o:=fun g=>.cells #[iv 0,iv 0,.string ByteArray.empty,.slice none 0 0,.string ByteArray.empty,iv 0] 67 (0,0)) (fun g=>by kernel_rfl)) ?_
   rintro _ _ _ _ ⟨g3,rfl,rfl,rfl⟩
   refine RgH.does (DoesH.store (k:=0) (g:=g3) (off:=0) (v:=.agg #[iv x1.Kind,iv x1.At,.string x1.Digest,.slice A3 x1.Digests.length c3,.string x1.Key,iv x1.Size]) (cells':=#[iv x1.Kind,iv x1.At,.string x1.Digest,.slice A3 x1.Digests.length c3,.string x1.Key,iv x1.Size]) (by kernel_rfl) rfl (by kernel_rfl) (by kernel_rfl)) ?_
   rintro _ _ _ _ ⟨rfl,rfl,rfl⟩
   refine Dn<|Ra 1 [1,1,1,1,0,1,0,0,1,1,0,0,1,0] [.c [1,1,1,1,0,1,0,0,1,1,0,0,1,1],.b 1,.c [1,1,1,1,0,1,0,0,1,1,1],.l [1,1,1,1,0,1,0,0],.b 0,.c [1,1,1,1,1]]<|Rv 1 [2,3,6,10,25,26,27,32] [iv x1.Kind,iv x1.At,.string x1.Digest,.slice A3 x1.Digests.length c3,.string x1.Key,iv x1.Size] [.load ⟨g3,0,none⟩ (iv x1.Kind),.load ⟨g3,1,none⟩ (iv x1.At),.load ⟨g3,2,none⟩ (.string x1.Digest),.load ⟨g3,3,none⟩ (.slice A3 x1.Digests.length c3),.load ⟨g3,4,none⟩ (.string x1.Key),.load ⟨g3,5,none⟩ (iv x1.Size)] [(2,.func (.func 94) #[] #[.pointer (some ⟨ga2q0,0,none⟩)]),(3,pg g1 0),(6,pg g2 0),(10,pg g3 0),(25,.slice Aa1 a1.length ca1),(26,iv (a1.length:Int)),(27,iv v27),(32,.agg #[iv x1.Kind,iv x1.At,.string x1.Digest,.slice A3 x1.Digests.length c3,.string x1.Key,iv x1.Size])] (fun w hh=>⟨(hh.box 0 rfl rfl),(hh.box 0 rfl rfl),(hh.box 0 rfl rfl),(hh.box 0 rfl rfl),(hh.box 0 rfl rfl),(hh.box 0 rfl rfl)⟩) ?_
   refine RgH.pick 7 [4,1,2,0,3,5,6] (cs':=(some (g1,.cells #[iv v_c3_0,iv v_c3_1,.slice Av_c3_2 v_c3_2.length cv_c3_2,.slice Av_c3_3 v_c3_3.length cv_c3_3] 25 (0,0)))::chv_c3_2::chv_c3_3::(some (g3,.cells #[iv x1.Kind,iv x1.At,.string x1.Digest,.slice A3 x1.Digests.length c3,.string x1.Key,iv x1.Size] 67 (0,0)))::(some (g2,.cells #[iv 0,iv 0,.slice none 0 0,.slice none 0 0] 25 (0,0)))::(some (ga2q0,.cells #[.slice Av_see2_0_0 v_see2_0_0.length cv_see2_0_0] 73 (0,0)))::chv_see2_0_0::F) (by kernel_rfl) rfl ?_
   obtain ⟨y3,hy3,heq⟩:=bind_some heq
   refine RgH.does (DoesH.call (d:=33) (g:=91) (args:=#[.pointer (some ⟨g1,0,none⟩),.agg #[iv x1.Kind,iv x1.At,.string x1.Digest,.slice A3 x1.Digests.length c3,.string x1.Key,iv x1.Size]]) (by kernel_rfl) (cache_do_c (a0:=(⟨v_c3_0,v_c3_1,v_c3_2,v_c3_3⟩:Cache)) (a1:=x1) hov_c3_2 rfl hov_c3_3 rfl (Rw.of hr1) hc1 rfl hy3)) ?_
   rintro _ H _ hl ⟨_,rfl,A4,c4,ch3,A5,c5,ch4,A6,c6,ch5,A7,c7,ch6,rfl,rfl,ho7,ho8,ho9,ho10⟩
   replace hov_see2_0_0:=hov_see2_0_0.mono hl
   replace hov_c3_2:=hov_c3_2.mono hl
   replace hov_c3_3:=hov_c3_3.mono hl
   replace hr1:=hr1.mono hl
   replace hra1:=hra1.mono hl
   refine Rk 5 [2,3,6,10,25,26,27,34,35] [(2,.func (.func 94) #[] #[.pointer (some ⟨ga2q0,0,none⟩)]),(3,pg g1 0),(6,pg g2 0),(10,pg g3 0),(25,.slice Aa1 a1.length ca1),(26,iv (a1.length:Int)),(27,iv v27),(34,.agg #[.bool y3.1.Done,.slice A4 y3.1.Missing.length c4,.slice A5 y3.1.Gone.length c5]),(35,iv y3.2.1)] ?_
   refine RgH.does (DoesH.new (d:=11) (v:=fun g=>.pointer (some ⟨g,0,none⟩)) (o:=fun g=>.cells #[.bool false,.slice none 0 0,.slice none 0 0] 63 (0,0)) (fun g=>by kernel_rfl)) ?_
   rintro _ _ _ _ ⟨g4,rfl,rfl,rfl⟩
   refine RgH.does (DoesH.store (k:=0) (g:=g4) (off:=0) (v:=.agg #[.bool y3.1.Done,.slice A4 y3.1.Missing.length c4,.slice A5 y3.1.Gone.length c5]) (cells':=#[.bool y3.1.Done,.slice A4 y3.1.Missing.length c4,.slice A5 y3.1.Gone.length c5]) (by kernel_rfl) rfl (by kernel_rfl) (by kernel_rfl)) ?_
   rintro _ _ _ _ ⟨rfl,rfl,rfl⟩
   refine Rd 8 [2,3,6,10,11,12,25,26,27] [(2,.func (.func 94) #[] #[.pointer (some ⟨ga2q0,0,none⟩)]),(3,pg g1 0),(6,pg g2 0),(10,pg g3 0),(11,pg g4 0),(12,iv y3.2.1),(25,.slice Aa1 a1.length ca1),(26,iv (a1.length:Int)),(27,iv v27)]<|Ra 2 [1,1,1,1,0,1,0,0,1,1,0,0,1,1,0,0] [.c [1,1,1,1,0,1,0,0,1,1,0,0,1,1,0,1],.c [1,1,1,1,0,1,0,0,1,1,0,0,1,1,1],.b 1,.c [1,1,1,1,0,1,0,0,1,1,1],.l [1,1,1,1,0,1,0,0],.b 0,.c [1,1,1,1,1]]<|Rd 2 [2,3,6,10,11,12,25,26,27,37] [(2,.func (.func 94) #[] #[.pointer (some ⟨ga2q0,0,none⟩)]),(3,pg g1 0),(6,pg g2 0),(10,pg g3 0),(11,pg g4 0),(12,iv y3.2.1),(25,.slice Aa1 a1.length ca1),(26,iv (a1.length:Int)),(27,iv v27),(37,.bool (y3.2.1 != 0))] ?_
   rcases bool_cases (y3.2.1 != 0) with hb4 | hb4
   ·replace heq:=bif_true hb4 heq
    refine Ct (y3.2.1 != 0) hb4<|Ra 1 [1,1,1,1,0,1,0,0,1,1,0,0,1,1,0,1,0,0] [.c [1,1,1,1,0,1,0,0,1,1,0,0,1,1,0,1,0,1],.c [1,1,1,1,0,1,0,0,1,1,0,0,1,1,1],.b 1,.c [1,1,1,1,0,1,0,0,1,1,1],.l [1,1,1,1,0,1,0,0],.b 0,.c [1,1,1,1,1]]<|Rk 2 [2,6,38,39] [(2,.func (.func 94) #[] #[.pointer (some ⟨ga2q0,0,none⟩)]),(6,pg g2 0),(38,.agg #[iv 0,iv 0,.slice none 0 0,.slice none 0 0]),(39,iv y3.2.1)] ?_
    refine RgH.does (DoesH.store (k:=7) (g:=g2) (off:=0) (v:=.agg #[iv 0,iv 0,.slice none 0 0,.slice none 0 0]) (cells':=#[iv 0,iv 0,.slice none 0 0,.slice none 0 0]) (by kernel_rfl) rfl (by kernel_rfl) (by kernel_rfl)) ?_
    rintro _ _ _ _ ⟨rfl,rfl,rfl⟩
    refine Rd 4 [2,6,7] [(2,.func (.func 94) #[] #[.pointer (some ⟨ga2q0,0,none⟩)]),(6,pg g2 0),(7,iv y3.2.1)]<|RunH.nilc ?_
    have ho11:SlOwn kBlob 47 H none 0 ([]:List Blob) none:=SlOwn.nil
    refine RunH.nilc ?_
    have ho12:SlOwn kEntry 51 H none 0 ([]:List Entry) none:=SlOwn.nil
    obtain rfl:=Option.some.inj heq
    refine RunH.pick 12 [9,1,0,10,11] (cs':=(some (g2,.cells #[iv 0,iv 0,.slice none 0 0,.slice none 0 0] 25 (0,0)))::none::none::(some (ga2q0,.cells #[.slice Av_see2_0_0 v_see2_0_0.length cv_see2_0_0] 73 (0,0)))::chv_see2_0_0::F) (by kernel_rfl) rfl ?_
    exact RunH.doneM' 1 (vs:=[.agg #[iv 0,iv 0,.slice none 0 0,.slice none 0 0],iv y3.2.1]) (v:=.tuple #[.agg #[iv 0,iv 0,.slice none 0 0,.slice none 0 0],iv y3.2.1]) (by kernel_rfl) Tryd.func93 (fun w hh=>show ResAll _ _ _ [.cell 6 25,.tmp 7] _ from ⟨⟨⟨g2,0,none⟩,by kernel_rfl,trS_run _ (vs:=[iv 0,iv 0,.slice none 0 0,.slice none 0 0]) (r:=[]) (es:=[.load ⟨g2,0,none⟩ (iv 0),.load ⟨g2,1,none⟩ (iv 0),.load ⟨g2,2,none⟩ (.slice none 0 0),.load ⟨g2,3,none⟩ (.slice none 0 0)]) (by kernel_rfl) ⟨(hh.box 0 rfl rfl),(hh.box 0 rfl rfl),(hh.box 0 rfl rfl),(hh.box 0 rfl rfl)⟩⟩,(show lk _ _=some _ by kernel_rfl),trivial⟩) rfl (cs':=none::none::(some (ga2q0,.cells #[.slice Av_see2_0_0 v_see2_0_0.length cv_see2_0_0] 73 (0,0)))::chv_see2_0_0::F) rfl ⟨none,0,none,none,0,none,Av_see2_0_0,cv_see2_0_0,chv_see2_0_0,rfl,rfl,ho11,ho12,hov_see2_0_0⟩
   ·replace heq:=bif_false hb4 heq
    refine Cf (y3.2.1 != 0) hb4<|Ra 1 [1,1,1,1,0,1,0,0,1,1,0,0,1,1,1] [.b 1,.c [1,1,1,1,0,1,0,0,1,1,1],.l [1,1,1,1,0,1,0,0],.b 0,.c [1,1,1,1,1]]<|Rv 4 [2,3,6,25,26,27,40,41,42,43] [iv y3.2.2.Room,iv y3.2.2.Lease,.slice A6 y3.2.2.Blobs.length c6,.slice A7 y3.2.2.Entries.length c7,iv x1.Kind,iv x1.At,.string x1.Digest,.slice A3 x1.Digests.length c3,.string x1.Key,iv x1.Size,.bool y3.1.Done,.slice A4 y3.1.Missing.length c4,.slice A5 y3.1.Gone.length c5] [.load ⟨g1,0,none⟩ (iv y3.2.2.Room),.load ⟨g1,1,none⟩ (iv y3.2.2.Lease),.load ⟨g1,2,none⟩ (.slice A6 y3.2.2.Blobs.length c6),.load ⟨g1,3,none⟩ (.slice A7 y3.2.2.Entries.length c7),.load ⟨g3,0,none⟩ (iv x1.Kind),.load ⟨g3,1,none⟩ (iv x1.At),.load ⟨g3,2,none⟩ (.string x1.Digest),.load ⟨g3,3,none⟩ (.slice A3 x1.Digests.length c3),.load ⟨g3,4,none⟩ (.string x1.Key),.load ⟨g3,5,none⟩ (iv x1.Size),.load ⟨g4,0,none⟩ (.bool y3.1.Done),.load ⟨g4,1,none⟩ (.slice A4 y3.1.Missing.length c4),.load ⟨g4,2,none⟩ (.slice A5 y3.1.Gone.length c5)] [(2,.func (.func 94) #[] #[.pointer (some ⟨ga2q0,0,none⟩)]),(3,pg g1 0),(6,pg g2 0),(25,.slice Aa1 a1.length ca1),(26,iv (a1.length:Int)),(27,iv v27),(40,.func (.func 94) #[] #[.pointer (some ⟨ga2q0,0,none⟩)]),(41,.agg #[iv y3.2.2.Room,iv y3.2.2.Lease,.slice A6 y3.2.2.Blobs.length c6,.slice A7 y3.2.2.Entries.length c7]),(42,.agg #[iv x1.Kind,iv x1.At,.string x1.Digest,.slice A3 x1.Digests.length c3,.string x1.Key,iv x1.Size]),(43,.agg #[.bool y3.1.Done,.slice A4 y3.1.Missing.length c4,.slice A5 y3.1.Gone.length c5])] (fun w hh=>⟨(hh.box 3 rfl rfl),(hh.box 3 rfl rfl),(hh.box 3 rfl rfl),(hh.box 3 rfl rfl),(hh.box 6 rfl rfl),(hh.box 6 rfl rfl),(hh.box 6 rfl rfl),(hh.box 6 rfl rfl),(hh.box 6 rfl rfl),(hh.box 6 rfl rfl),(hh.box 0 rfl rfl),(hh.box 0 rfl rfl),(hh.box 0 rfl rfl)⟩) ?_
    refine RgH.pick 10 [1,0,2,3,4,5,6,7,8,9] (cs':=ch3::(some (g4,.cells #[.bool y3.1.Done,.slice A4 y3.1.Missing.length c4,.slice A5 y3.1.Gone.length c5] 63 (0,0)))::ch4::(some (g1,.cells #[iv y3.2.2.Room,iv y3.2.2.Lease,.slice A6 y3.2.2.Blobs.length c6,.slice A7 y3.2.2.Entries.length c7] 25 (0,0)))::ch5::ch6::(some (g3,.cells #[iv x1.Kind,iv x1.At,.string x1.Digest,.slice A3 x1.Digests.length c3,.string x1.Key,iv x1.Size] 67 (0,0)))::(some (g2,.cells #[iv 0,iv 0,.slice none 0 0,.slice none 0 0] 25 (0,0)))::(some (ga2q0,.cells #[.slice Av_see2_0_0 v_see2_0_0.length cv_see2_0_0] 73 (0,0)))::chv_see2_0_0::F) (by kernel_rfl) rfl ?_
    have hc2:=ho7.cap
    refine Hs.freezeS ho7 (fun H hl hr2=>?_)
    replace hov_see2_0_0:=hov_see2_0_0.mono hl
    replace ho9:=ho9.mono hl
    replace ho10:=ho10.mono hl
    replace hra1:=hra1.mono hl
    replace hr1:=hr1.mono hl
    replace ho8:=ho8.mono hl
    refine RgH.pick 9 [1,0,2,3,4,5,6,7,8] (cs':=ch4::(some (g4,.cells #[.bool y3.1.Done,.slice A4 y3.1.Missing.length c4,.slice A5 y3.1.Gone.length c5] 63 (0,0)))::(some (g1,.cells #[iv y3.2.2.Room,iv y3.2.2.Lease,.slice A6 y3.2.2.Blobs.length c6,.slice A7 y3.2.2.Entries.length c7] 25 (0,0)))::ch5::ch6::(some (g3,.cells #[iv x1.Kind,iv x1.At,.string x1.Digest,.slice A3 x1.Digests.length c3,.string x1.Key,iv x1.Size] 67 (0,0)))::(some (g2,.cells #[iv 0,iv 0,.slice none 0 0,.slice none 0 0] 25 (0,0)))::(some (ga2q0,.cells #[.slice Av_see2_0_0 v_see2_0_0.length cv_see2_0_0] 73 (0,0)))::chv_see2_0_0::F) (by kernel_rfl) rfl ?_
    have hc3:=ho8.cap
    refine Hs.freezeS ho8 (fun H hl hr3=>?_)
    replace hov_see2_0_0:=hov_see2_0_0.mono hl
    replace ho9:=ho9.mono hl
    replace ho10:=ho10.mono hl
    replace hra1:=hra1.mono hl
    replace hr1:=hr1.mono hl
    replace hr2:=hr2.mono hl
    refine RgH.pick 8 [6,7,0,1,2,3,4,5] (cs':=(some (ga2q0,.cells #[.slice Av_see2_0_0 v_see2_0_0.length cv_see2_0_0] 73 (0,0)))::chv_see2_0_0::(some (g4,.cells #[.bool y3.1.Done,.slice A4 y3.1.Missing.length c4,.slice A5 y3.1.Gone.length c5] 63 (0,0)))::(some (g1,.cells #[iv y3.2.2.Room,iv y3.2.2.Lease,.slice A6 y3.2.2.Blobs.length c6,.slice A7 y3.2.2.Entries.length c7] 25 (0,0)))::ch5::ch6::(some (g3,.cells #[iv x1.Kind,iv x1.At,.string x1.Digest,.slice A3 x1.Digests.length c3,.string x1.Key,iv x1.Size] 67 (0,0)))::(some (g2,.cells #[iv 0,iv 0,.slice none 0 0,.slice none 0 0] 25 (0,0)))::F) (by kernel_rfl) rfl ?_
    obtain ⟨y4,hy4,heq⟩:=bind_some heq
    refine RgH.does (DoesH.call (d:=44) (g:=94) (args:=#[.agg #[iv y3.2.2.Room,iv y3.2.2.Lease,.slice A6 y3.2.2.Blobs.length c6,.slice A7 y3.2.2.Entries.length c7],.agg #[iv x1.Kind,iv x1.At,.string x1.Digest,.slice A3 x1.Digests.length c3,.string x1.Key,iv x1.Size],.agg #[.bool y3.1.Done,.slice A4 y3.1.Missing.length c4,.slice A5 y3.1.Gone.length c5],.pointer (some ⟨ga2q0,0,none⟩)]) (by kernel_rfl) (cache_Follow_1_2_c (a0:=(⟨y3.2.2.Room,y3.2.2.Lease,y3.2.2.Blobs,y3.2.2.Entries⟩:Cache)) (a1:=x1) (a2:=(⟨y3.1.Done,y3.1.Missing,y3.1.Gone⟩:CacheAnswer)) (a3:=v_see2_0_0) (ho9.rw (.tail _ (.tail _ (.head _)))) ho9.cap rfl (ho10.rw (.tail _ (.tail _ (.tail _ (.head _))))) ho10.cap rfl (Rw.of hr1) hc1 rfl hr2 hc2 rfl hr3 hc3 rfl hov_see2_0_0 rfl hy4)) ?_
    rintro _ _ _ _ ⟨_,rfl,A8,c8,ch7,rfl,rfl,rfl,ho13⟩
    refine Dn<|Ra 1 [1,1,1,1,0,1,0,0,1,1,1] [.l [1,1,1,1,0,1,0,0],.b 0,.c [1,1,1,1,1]]<|Rd 2 [2,3,6,25,26,27] [(2,.func (.func 94) #[] #[.pointer (some ⟨ga2q0,0,none⟩)]),(3,pg g1 0),(6,pg g2 0),(25,.slice Aa1 a1.length ca1),(26,iv (a1.length:Int)),(27,iv (w64 (v27+1)))]<|Ad 1 [.c [1,1,1,1,0,1,0,0],.l [1,1,1,1,0,1,0,0],.b 0,.c [1,1,1,1,1]]<|Kp [2,3,6,25,26,27] [(2,.func (.func 94) #[] #[.pointer (some ⟨ga2q0,0,none⟩)]),(3,pg g1 0),(6,pg g2 0),(25,.slice Aa1 a1.length ca1),(26,iv (a1.length:Int)),(27,iv (w64 (v27+1)))] ?_
    refine RunH.pick 8 [4,5,7,3,0,1] (cs':=ch5::ch6::(some (g2,.cells #[iv 0,iv 0,.slice none 0 0,.slice none 0 0] 25 (0,0)))::(some (g1,.cells #[iv y3.2.2.Room,iv y3.2.2.Lease,.slice A6 y3.2.2.Blobs.length c6,.slice A7 y3.2.2.Entries.length c7] 25 (0,0)))::(some (ga2q0,.cells #[.slice A8 y4.length c8] 73 (0,0)))::ch7::F) (by kernel_rfl) rfl ?_
    exact ihk _ a1 _ _ _ _ _ y4 _ _ _ _ y3.2.2.Room y3.2.2.Lease y3.2.2.Blobs _ _ _ _ y3.2.2.Entries _ _ _ _ (w64 (v27+1)) hra1 hca1 ho13 rfl ho9 rfl ho10 rfl heq
  ·replace heq:=bif_false hb3 heq
   refine Cf (decide (v27<(a1.length:Int))) hb3<|Ad 2 [.c [1,1,1,1,1,0],.c [1,1,1,1,1,1]]<|Kp [2,3,6] [(2,.func (.func 94) #[] #[.pointer (some ⟨ga2q0,0,none⟩)]),(3,pg g1 0),(6,pg g2 0)] ?_
   exact he1 _ _ _ _ v_see2_0_0 _ _ _ _ v_c3_0 v_c3_1 v_c3_2 _ _ _ _ v_c3_3 _ _ _ _ hov_see2_0_0 rfl hov_c3_2 rfl hov_c3_3 rfl heq
theorem cache_follow_c {w0:World} {H0:Hp} {F:List Ch} {a0:Cache} {Aa0_2:Option Addr} {na0_2:Nat} {ca0_2:Nat} {Aa0_3:Option Addr} {na0_3:Nat} {ca0_3:Nat} {a1:List CacheEvent} {Aa1:Option Addr} {na1:Nat} {ca1:Nat} {ga2q0:Nat} {a2q0:List CacheAnswer} {Aa2q0_0:Option Addr} {na2q0_0:Nat} {ca2q0_0:Nat} {cha2q0_0:Ch} {r:Cache × Int × (List CacheAnswer)} (hra0_2:Rw kBlob H0 F Aa0_2 a0.Blobs) (hca0_2:na0_2≤ca0_2) (hna0_2:na0_2=a0.Blobs.length) (hra0_3:Rw kEntry H0 F Aa0_3 a0.Entries) (hca0_3:na0_3≤ca0_3) (hna0_3:na0_3=a0.Entries.length) (hra1:Rw kCacheEvent H0 F Aa1 a1) (hca1:na1≤ca1) (hna1:na1=a1.length) (hoa2q0_0:SlOwn kCacheAnswer 63 H0 Aa2q0_0 ca2q0_0 a2q0 cha2q0_0) (hna2q0_0:na2q0_0=a2q0.length) (heq:cache_follow.f a0 a1 a2q0=some r):CallsH Tryd.prog 93 #[.agg #[iv a0.Room,iv a0.Lease,.slice Aa0_2 na0_2 ca0_2,.slice Aa0_3 na0_3 ca0_3],.slice Aa1 na1 ca1,.func (.func 94) #[] #[.pointer (some ⟨ga2q0,0,none⟩)]] H0 w0 ((some (ga2q0,.cells #[.slice Aa2q0_0 na2q0_0 ca2q0_0] 73 (0,0)))::cha2q0_0::F) (S93 F H0 ga2q0 r):=by
 refine calls_of_runH (F:=C93) Tryd.func93 (by kernel_rfl) Tryd.ntmps93 (args:=[.agg #[iv a0.Room,iv a0.Lease,.slice Aa0_2 na0_2 ca0_2,.slice Aa0_3 na0_3 ca0_3],.slice Aa1 na1 ca1,.func (.func 94) #[] #[.pointer (some ⟨ga2q0,0,none⟩)]]) (by kernel_rfl) ?_
 subst hna0_2
 subst hna0_3
 subst hna1
 subst hna2q0_0
 unfold cache_follow.f at heq
 suffices key:∀ (H:Hp),Rw kBlob H F Aa0_2 a0.Blobs→Rw kEntry H F Aa0_3 a0.Entries→Rw kCacheEvent H F Aa1 a1→SlOwn kCacheAnswer 63 H Aa2q0_0 ca2q0_0 a2q0 cha2q0_0→RunH C93 (S93 F H0 ga2q0 r) H0 w0 [.c []] (argL 0 [.agg #[iv a0.Room,iv a0.Lease,.slice Aa0_2 (a0.Blobs.length) ca0_2,.slice Aa0_3 (a0.Entries.length) ca0_3],.slice Aa1 (a1.length) ca1,.func (.func 94) #[] #[.pointer (some ⟨ga2q0,0,none⟩)]]) H ((some (ga2q0,.cells #[.slice Aa2q0_0 (a2q0.length) ca2q0_0] 73 (0,0)))::cha2q0_0::F) from key H0 hra0_2 hra0_3 hra1 hoa2q0_0
 intro H hra0_2 hra0_3 hra1 hoa2q0_0
 refine Ra 1 [0] [.c [1]] ?_
 refine RgH.does (DoesH.new (d:=3) (v:=fun g=>.pointer (some ⟨g,0,none⟩)) (o:=fun g=>.cells #[iv a0.Room,iv a0.Lease,.slice Aa0_2 a0.Blobs.length ca0_2,.slice Aa0_3 a0.Entries.length ca0_3] 25 (0,0)) (fun g=>by kernel_rfl)) ?_
 rintro _ _ _ _ ⟨g1,rfl,rfl,rfl⟩
 refine RgH.does (DoesH.new (d:=6) (v:=fun g=>.pointer (some ⟨g,0,none⟩)) (o:=fun g=>.cells #[iv 0,iv 0,.slice none 0 0,.slice none 0 0] 25 (0,0)) (fun g=>by kernel_rfl)) ?_
 rintro _ _ _ _ ⟨g2,rfl,rfl,rfl⟩
 refine Rd 3 [1,2,3,6] [(1,.slice Aa1 a1.length ca1),(2,.func (.func 94) #[] #[.pointer (some ⟨ga2q0,0,none⟩)]),(3,pg g1 0),(6,pg g2 0)]<|Ra 2 [1,0,0] [.c [1,0,1],.c [1,1]]<|Rv 1 [1,2,3,6,13] [iv a0.Room,iv a0.Lease,.slice Aa0_2 a0.Blobs.length ca0_2,.slice Aa0_3 a0.Entries.length ca0_3] [.load ⟨g1,0,none⟩ (iv a0.Room),.load ⟨g1,1,none⟩ (iv a0.Lease),.load ⟨g1,2,none⟩ (.slice Aa0_2 a0.Blobs.length ca0_2),.load ⟨g1,3,none⟩ (.slice Aa0_3 a0.Entries.length ca0_3)] [(1,.slice Aa1 a1.length ca1),(2,.func (.func 94) #[] #[.pointer (some ⟨ga2q0,0,none⟩)]),(3,pg g1 0),(6,pg g2 0),(13,.agg #[iv a0.Room,iv a0.Lease,.slice Aa0_2 a0.Blobs.length ca0_2,.slice Aa0_3 a0.Entries.length ca0_3])] (fun w hh=>⟨(hh.box 1 rfl rfl),(hh.box 1 rfl rfl),(hh.box 1 rfl rfl),(hh.box 1 rfl rfl)⟩) ?_
 obtain ⟨y1,hy1,heq⟩:=bind_some heq
 refine RgH.does (DoesH.call (d:=14) (g:=22) (args:=#[.agg #[iv a0.Room,iv a0.Lease,.slice Aa0_2 a0.Blobs.length ca0_2,.slice Aa0_3 a0.Entries.length ca0_3]]) (by kernel_rfl) (cache_CheckCache_c (a0:=a0) (hra0_2.wk (fun _ h=>(.tail _ (.tail _ (.tail _ (.tail _ h)))))) hca0_2 rfl (hra0_3.wk (fun _ h=>(.tail _ (.tail _ (.tail _ (.tail _ h)))))) hca0_3 rfl hy1)) ?_
 rintro _ _ _ _ ⟨_,rfl,rfl,rfl,rfl⟩
 refine Rd 3 [1,2,3,6,8] [(1,.slice Aa1 a1.length ca1),(2,.func (.func 94) #[] #[.pointer (some ⟨ga2q0,0,none⟩)]),(3,pg g1 0),(6,pg g2 0),(8,iv y1)]<|Ra 1 [1,0,1,0] [.c [1,0,1,1],.c [1,1]]<|Rd 2 [1,2,3,6,8,16] [(1,.slice Aa1 a1.length ca1),(2,.func (.func 94) #[] #[.pointer (some ⟨ga2q0,0,none⟩)]),(3,pg g1 0),(6,pg g2 0),(8,iv y1),(16,.bool (y1 != 0))] ?_
 rcases bool_cases (y1 != 0) with hb1 | hb1
 ·replace heq:=bif_true hb1 heq
  refine Ct (y1 != 0) hb1<|Ra 1 [1,0,1,1,0,0] [.c [1,0,1,1,0,1],.c [1,1]]<|Rk 2 [2,6,17,18] [(2,.func (.func 94) #[] #[.pointer (some ⟨ga2q0,0,none⟩)]),(6,pg g2 0),(17,.agg #[iv 0,iv 0,.slice none 0 0,.slice none 0 0]),(18,iv y1)] ?_
  refine RgH.does (DoesH.store (k:=0) (g:=g2) (off:=0) (v:=.agg #[iv 0,iv 0,.slice none 0 0,.slice none 0 0]) (cells':=#[iv 0,iv 0,.slice none 0 0,.slice none 0 0]) (by kernel_rfl) rfl (by kernel_rfl) (by kernel_rfl)) ?_
  rintro _ _ _ _ ⟨rfl,rfl,rfl⟩
  refine Rd 4 [2,6,7] [(2,.func (.func 94) #[] #[.pointer (some ⟨ga2q0,0,none⟩)]),(6,pg g2 0),(7,iv y1)]<|RunH.nilc ?_
  have ho1:SlOwn kBlob 47 H none 0 ([]:List Blob) none:=SlOwn.nil
  refine RunH.nilc ?_
  have ho2:SlOwn kEntry 51 H none 0 ([]:List Entry) none:=SlOwn.nil
  obtain rfl:=Option.some.inj heq
  refine RunH.pick 6 [2,1,0,4,5] (cs':=(some (g2,.cells #[iv 0,iv 0,.slice none 0 0,.slice none 0 0] 25 (0,0)))::none::none::(some (ga2q0,.cells #[.slice Aa2q0_0 a2q0.length ca2q0_0] 73 (0,0)))::cha2q0_0::F) (by kernel_rfl) rfl ?_
  exact RunH.doneM' 1 (vs:=[.agg #[iv 0,iv 0,.slice none 0 0,.slice none 0 0],iv y1]) (v:=.tuple #[.agg #[iv 0,iv 0,.slice none 0 0,.slice none 0 0],iv y1]) (by kernel_rfl) Tryd.func93 (fun w hh=>show ResAll _ _ _ [.cell 6 25,.tmp 7] _ from ⟨⟨⟨g2,0,none⟩,by kernel_rfl,trS_run _ (vs:=[iv 0,iv 0,.slice none 0 0,.slice none 0 0]) (r:=[]) (es:=[.load ⟨g2,0,none⟩ (iv 0),.load ⟨g2,1,none⟩ (iv 0),.load ⟨g2,2,none⟩ (.slice none 0 0),.load ⟨g2,3,none⟩ (.slice none 0 0)]) (by kernel_rfl) ⟨(hh.box 0 rfl rfl),(hh.box 0 rfl rfl),(hh.box 0 rfl rfl),(hh.box 0 rfl rfl)⟩⟩,(show lk _ _=some _ by kernel_rfl),trivial⟩) rfl (cs':=none::none::(some (ga2q0,.cells #[.slice Aa2q0_0 a2q0.length ca2q0_0] 73 (0,0)))::cha2q0_0::F) rfl ⟨none,0,none,none,0,none,Aa2q0_0,ca2q0_0,cha2q0_0,rfl,rfl,ho1,ho2,hoa2q0_0⟩
 ·replace heq:=bif_false hb1 heq
  refine Cf (y1 != 0) hb1<|Ra 3 [1,1,0,0] [.c [1,1,0,1],.c [1,1,1]]<|Rd 3 [1,2,3,6,21] [(1,.slice Aa1 a1.length ca1),(2,.func (.func 94) #[] #[.pointer (some ⟨ga2q0,0,none⟩)]),(3,pg g1 0),(6,pg g2 0),(21,.bool (decide (3000<(a1.length:Int))))] ?_
  rcases bool_cases (decide (3000<(a1.length:Int))) with hb2 | hb2
  ·replace heq:=bif_true hb2 heq
   refine Ct (decide (3000<(a1.length:Int))) hb2<|Ra 1 [1,1,0,1,0,0] [.c [1,1,0,1,0,1],.c [1,1,1]]<|Rk 1 [2,6,22] [(2,.func (.func 94) #[] #[.pointer (some ⟨ga2q0,0,none⟩)]),(6,pg g2 0),(22,.agg #[iv 0,iv 0,.slice none 0 0,.slice none 0 0])] ?_
   refine RgH.does (DoesH.store (k:=0) (g:=g2) (off:=0) (v:=.agg #[iv 0,iv 0,.slice none 0 0,.slice none 0 0]) (cells':=#[iv 0,iv 0,.slice none 0 0,.slice none 0 0]) (by kernel_rfl) rfl (by kernel_rfl) (by kernel_rfl)) ?_
   rintro _ _ _ _ ⟨rfl,rfl,rfl⟩
   refine Rd 3 [2,6,7] [(2,.func (.func 94) #[] #[.pointer (some ⟨ga2q0,0,none⟩)]),(6,pg g2 0),(7,iv 2)]<|RunH.nilc ?_
   have ho3:SlOwn kBlob 47 H none 0 ([]:List Blob) none:=SlOwn.nil
   refine RunH.nilc ?_
   have ho4:SlOwn kEntry 51 H none 0 ([]:List Entry) none:=SlOwn.nil
   obtain rfl:=Option.some.inj heq
   refine RunH.pick 6 [2,1,0,4,5] (cs':=(some (g2,.cells #[iv 0,iv 0,.slice none 0 0,.slice none 0 0] 25 (0,0)))::none::none::(some (ga2q0,.cells #[.slice Aa2q0_0 a2q0.length ca2q0_0] 73 (0,0)))::cha2q0_0::F) (by kernel_rfl) rfl ?_
   exact RunH.doneM' 1 (vs:=[.agg #[iv 0,iv 0,.slice none 0 0,.slice none 0 0],iv 2]) (v:=.tuple #[.agg #[iv 0,iv 0,.slice none 0 0,.slice none 0 0],iv 2]) (by kernel_rfl) Tryd.func93 (fun w hh=>show ResAll _ _ _ [.cell 6 25,.tmp 7] _ from ⟨⟨⟨g2,0,none⟩,by kernel_rfl,trS_run _ (vs:=[iv 0,iv 0,.slice none 0 0,.slice none 0 0]) (r:=[]) (es:=[.load ⟨g2,0,none⟩ (iv 0),.load ⟨g2,1,none⟩ (iv 0),.load ⟨g2,2,none⟩ (.slice none 0 0),.load ⟨g2,3,none⟩ (.slice none 0 0)]) (by kernel_rfl) ⟨(hh.box 0 rfl rfl),(hh.box 0 rfl rfl),(hh.box 0 rfl rfl),(hh.box 0 rfl rfl)⟩⟩,(show lk _ _=some _ by kernel_rfl),trivial⟩) rfl (cs':=none::none::(some (ga2q0,.cells #[.slice Aa2q0_0 a2q0.length ca2q0_0] 73 (0,0)))::cha2q0_0::F) rfl ⟨none,0,none,none,0,none,Aa2q0_0,ca2q0_0,cha2q0_0,rfl,rfl,ho3,ho4,hoa2q0_0⟩
  ·replace heq:=bif_false hb2 heq
   refine Cf (decide (3000<(a1.length:Int))) hb2<|Ra 2 [1,1,1,0] [.c [1,1,1,1]]<|Rv 1 [1,2,3,6,23] [iv a0.Room,iv a0.Lease,.slice Aa0_2 a0.Blobs.length ca0_2,.slice Aa0_3 a0.Entries.length ca0_3] [.load ⟨g1,0,none⟩ (iv a0.Room),.load ⟨g1,1,none⟩ (iv a0.Lease),.load ⟨g1,2,none⟩ (.slice Aa0_2 a0.Blobs.length ca0_2),.load ⟨g1,3,none⟩ (.slice Aa0_3 a0.Entries.length ca0_3)] [(1,.slice Aa1 a1.length ca1),(2,.func (.func 94) #[] #[.pointer (some ⟨ga2q0,0,none⟩)]),(3,pg g1 0),(6,pg g2 0),(23,.agg #[iv a0.Room,iv a0.Lease,.slice Aa0_2 a0.Blobs.length ca0_2,.slice Aa0_3 a0.Entries.length ca0_3])] (fun w hh=>⟨(hh.box 1 rfl rfl),(hh.box 1 rfl rfl),(hh.box 1 rfl rfl),(hh.box 1 rfl rfl)⟩) ?_
   obtain ⟨y2,hy2,heq⟩:=bind_some heq
   refine RgH.does (DoesH.call (d:=24) (g:=70) (args:=#[.agg #[iv a0.Room,iv a0.Lease,.slice Aa0_2 a0.Blobs.length ca0_2,.slice Aa0_3 a0.Entries.length ca0_3]]) (by kernel_rfl) (cache_own_c (a0:=a0) (hra0_2.wk (fun _ h=>(.tail _ (.tail _ (.tail _ (.tail _ h)))))) hca0_2 rfl (hra0_3.wk (fun _ h=>(.tail _ (.tail _ (.tail _ (.tail _ h)))))) hca0_3 rfl hy2)) ?_
   rintro _ H _ hl ⟨_,rfl,A1,c1,ch1,A2,c2,ch2,rfl,rfl,ho5,ho6⟩
   replace hra1:=hra1.mono hl
   replace hoa2q0_0:=hoa2q0_0.mono hl
   replace hra0_2:=hra0_2.mono hl
   replace hra0_3:=hra0_3.mono hl
   refine RgH.does (DoesH.store (k:=3) (g:=g1) (off:=0) (v:=.agg #[iv y2.Room,iv y2.Lease,.slice A1 y2.Blobs.length c1,.slice A2 y2.Entries.length c2]) (cells':=#[iv y2.Room,iv y2.Lease,.slice A1 y2.Blobs.length c1,.slice A2 y2.Entries.length c2]) (by kernel_rfl) rfl (by kernel_rfl) (by kernel_rfl)) ?_
   rintro _ _ _ _ ⟨rfl,rfl,rfl⟩
   refine Dn<|Ra 2 [1,1,1,1,0,0] [.c [1,1,1,1,0,1],.c [1,1,1,1,1]]<|Rd 3 [2,3,6,25,26,27] [(2,.func (.func 94) #[] #[.pointer (some ⟨ga2q0,0,none⟩)]),(3,pg g1 0),(6,pg g2 0),(25,.slice Aa1 a1.length ca1),(26,iv (a1.length:Int)),(27,iv 0)]<|Ad 2 [.c [1,1,1,1,0,1,0,0],.l [1,1,1,1,0,1,0,0],.b 0,.c [1,1,1,1,1]]<|Kp [2,3,6,25,26,27] [(2,.func (.func 94) #[] #[.pointer (some ⟨ga2q0,0,none⟩)]),(3,pg g1 0),(6,pg g2 0),(25,.slice Aa1 a1.length ca1),(26,iv (a1.length:Int)),(27,iv 0)] ?_
   exact ((cache_follow.l2_c (e1:=cache_follow.e1) (cache_follow.e1_c)) big) _ a1 _ _ _ _ _ a2q0 _ _ _ _ y2.Room y2.Lease y2.Blobs _ _ _ _ y2.Entries _ _ _ _ 0 hra1 hca1 hoa2q0_0 rfl ho5 rfl ho6 rfl heq
noncomputable def C48:Ctx:={ P:=Tryd.prog,f:=48,N:=22,c:=bodyOf Tryd.f48 }
def S48 (F:List Ch) (H0:Hp) (r:Cache × (List CacheAnswer) × Int) (v:Value) (H:Hp) (cs:List Ch):Prop:=∃ (A0_2:Option Addr) (c0_2:Nat) (ch0_2:Ch) (A0_3:Option Addr) (c0_3:Nat) (ch0_3:Ch) (A1:Option Addr) (c1:Nat) (ch1:Ch),v=.tuple #[.agg #[iv r.1.Room,iv r.1.Lease,.slice A0_2 r.1.Blobs.length c0_2,.slice A0_3 r.1.Entries.length c0_3],.slice A1 r.2.1.length c1,iv r.2.2]∧ch0_2::ch0_3::ch1::F=cs∧SlOwn kBlob 47 H A0_2 c0_2 r.1.Blobs ch0_2∧SlOwn kEntry 51 H A0_3 c0_3 r.1.Entries ch0_3∧SlOwn kCacheAnswer 63 H A1 c1 r.2.1 ch1
theorem cache_Follow_c {w0:World} {H0:Hp} {F:List Ch} {a0:Cache} {Aa0_2:Option Addr} {na0_2:Nat} {ca0_2:Nat} {Aa0_3:Option Addr} {na0_3:Nat} {ca0_3:Nat} {a1:List CacheEvent} {Aa1:Option Addr} {na1:Nat} {ca1:Nat} {r:Cache × (List CacheAnswer) × Int} (hra0_2:Rw kBlob H0 F Aa0_2 a0.Blobs) (hca0_2:na0_2≤ca0_2) (hna0_2:na0_2=a0.Blobs.length) (hra0_3:Rw kEntry H0 F Aa0_3 a0.Entries) (hca0_3:na0_3≤ca0_3) (hna0_3:na0_3=a0.Entries.length) (hra1:Rw kCacheEvent H0 F Aa1 a1) (hca1:na1≤ca1) (hna1:na1=a1.length) (heq:cache_Follow.f a0 a1=some r):CallsH Tryd.prog 48 #[.agg #[iv a0.Room,iv a0.Lease,.slice Aa0_2 na0_2 ca0_2,.slice Aa0_3 na0_3 ca0_3],.slice Aa1 na1 ca1] H0 w0 (F) (S48 F H0 r):=by
 refine calls_of_runH (F:=C48) Tryd.func48 (by kernel_rfl) Tryd.ntmps48 (args:=[.agg #[iv a0.Room,iv a0.Lease,.slice Aa0_2 na0_2 ca0_2,.slice Aa0_3 na0_3 ca0_3],.slice Aa1 na1 ca1]) (by kernel_rfl) ?_
 subst hna0_2
 subst hna0_3
 subst hna1
 unfold cache_Follow.f at heq
 suffices key:∀ (H:Hp),Rw kBlob H F Aa0_2 a0.Blobs→Rw kEntry H F Aa0_3 a0.Entries→Rw kCacheEvent H F Aa1 a1→RunH C48 (S48 F H0 r) H0 w0 [.c []] (argL 0 [.agg #[iv a0.Room,iv a0.Lease,.slice Aa0_2 (a0.Blobs.length) ca0_2,.slice Aa0_3 (a0.Entries.length) ca0_3],.slice Aa1 (a1.length) ca1]) H (F) from key H0 hra0_2 hra0_3 hra1
 intro H hra0_2 hra0_3 hra1
 refine Ra 1 [0] [.c [1]] ?_
 refine RgH.does (DoesH.new (d:=2) (v:=fun g=>.pointer (some ⟨g,0,none⟩)) (o:=fun g=>.cells #[iv a0.Room,iv a0.Lease,.slice Aa0_2 a0.Blobs.length ca0_2,.slice Aa0_3 a0.Entries.length ca0_3] 25 (0,0)) (fun g=>by kernel_rfl)) ?_
 rintro _ _ _ _ ⟨g1,rfl,rfl,rfl⟩
 refine RgH.does (DoesH.new (d:=4) (v:=fun g=>.pointer (some ⟨g,0,none⟩)) (o:=fun g=>.cells #[iv 0,iv 0,.slice none 0 0,.slice none 0 0] 25 (0,0)) (fun g=>by kernel_rfl)) ?_
 rintro _ _ _ _ ⟨g2,rfl,rfl,rfl⟩
 refine Rd 4 [1,2,4] [(1,.slice Aa1 a1.length ca1),(2,pg g1 0),(4,pg g2 0)]<|Ra 1 [1,0] [.c [1,1]] ?_
 refine RgH.does (DoesH.new (d:=7) (v:=fun g=>.pointer (some ⟨g,0,none⟩)) (o:=fun g=>.cells #[.slice none 0 0] 73 (0,0)) (fun g=>by kernel_rfl)) ?_
 rintro _ _ _ _ ⟨g3,rfl,rfl,rfl⟩
 refine Dn<|Ra 1 [1,1,0] [.c [1,1,1]]<|Rv 3 [2,4,7,10,11,12] [iv a0.Room,iv a0.Lease,.slice Aa0_2 a0.Blobs.length ca0_2,.slice Aa0_3 a0.Entries.length ca0_3] [.load ⟨g1,0,none⟩ (iv a0.Room),.load ⟨g1,1,none⟩ (iv a0.Lease),.load ⟨g1,2,none⟩ (.slice Aa0_2 a0.Blobs.length ca0_2),.load ⟨g1,3,none⟩ (.slice Aa0_3 a0.Entries.length ca0_3)] [(2,pg g1 0),(4,pg g2 0),(7,pg g3 0),(10,.agg #[iv a0.Room,iv a0.Lease,.slice Aa0_2 a0.Blobs.length ca0_2,.slice Aa0_3 a0.Entries.length ca0_3]),(11,.slice Aa1 a1.length ca1),(12,.func (.func 94) #[] #[.pointer (some ⟨g3,0,none⟩)])] (fun w hh=>⟨(hh.box 2 rfl rfl),(hh.box 2 rfl rfl),(hh.box 2 rfl rfl),(hh.box 2 rfl rfl)⟩)<|RgH.nilc ?_
 have ho1:SlOwn kCacheAnswer 63 H none 0 ([]:List CacheAnswer) none:=SlOwn.nil
 refine RgH.pick 4 [1,0,2,3] (cs':=(some (g3,.cells #[.slice none 0 0] 73 (0,0)))::none::(some (g2,.cells #[iv 0,iv 0,.slice none 0 0,.slice none 0 0] 25 (0,0)))::(some (g1,.cells #[iv a0.Room,iv a0.Lease,.slice Aa0_2 a0.Blobs.length ca0_2,.slice Aa0_3 a0.Entries.length ca0_3] 25 (0,0)))::F) (by kernel_rfl) rfl ?_
 obtain ⟨y1,hy1,heq⟩:=bind_some heq
 refine RgH.does (DoesH.call (d:=13) (g:=93) (args:=#[.agg #[iv a0.Room,iv a0.Lease,.slice Aa0_2 a0.Blobs.length ca0_2,.slice Aa0_3 a0.Entries.length ca0_3],.slice Aa1 a1.length ca1,.func (.func 94) #[] #[.pointer (some ⟨g3,0,none⟩)]]) (by kernel_rfl) (cache_follow_c (a0:=a0) (a1:=a1) (a2q0:=([]:List CacheAnswer)) (hra0_2.wk (fun _ h=>(.tail _ (.tail _ h)))) hca0_2 rfl (hra0_3.wk (fun _ h=>(.tail _ (.tail _ h)))) hca0_3 rfl (hra1.wk (fun _ h=>(.tail _ (.tail _ h)))) hca1 rfl ho1 rfl hy1)) ?_
 rintro _ H _ hl ⟨_,rfl,A1,c1,ch1,A2,c2,ch2,A3,c3,ch3,rfl,rfl,ho2,ho3,ho4⟩
 replace hra0_2:=hra0_2.mono hl
 replace hra0_3:=hra0_3.mono hl
 replace ho1:=ho1.mono hl
 replace hra1:=hra1.mono hl
 refine Rk 7 [2,4,7,14,15] [(2,pg g1 0),(4,pg g2 0),(7,pg g3 0),(14,.agg #[iv y1.1.Room,iv y1.1.Lease,.slice A1 y1.1.Blobs.length c1,.slice A2 y1.1.Entries.length c2]),(15,iv y1.2.1)] ?_
 refine RgH.does (DoesH.store (k:=5) (g:=g1) (off:=0) (v:=.agg #[iv y1.1.Room,iv y1.1.Lease,.slice A1 y1.1.Blobs.length c1,.slice A2 y1.1.Entries.length c2]) (cells':=#[iv y1.1.Room,iv y1.1.Lease,.slice A1 y1.1.Blobs.length c1,.slice A2 y1.1.Entries.length c2]) (by kernel_rfl) rfl (by kernel_rfl) (by kernel_rfl)) ?_
 rintro _ _ _ _ ⟨rfl,rfl,rfl⟩
 refine Rd 9 [2,4,7,8] [(2,pg g1 0),(4,pg g2 0),(7,pg g3 0),(8,iv y1.2.1)]<|Ra 2 [1,1,1,0,0] [.c [1,1,1,0,1],.c [1,1,1,1]]<|Rd 2 [2,4,7,8,17] [(2,pg g1 0),(4,pg g2 0),(7,pg g3 0),(8,iv y1.2.1),(17,.bool (y1.2.1 != 0))] ?_
 rcases bool_cases (y1.2.1 != 0) with hb1 | hb1
 ·replace heq:=bif_true hb1 heq
  refine Ct (y1.2.1 != 0) hb1<|Ra 1 [1,1,1,0,1,0,0] [.c [1,1,1,0,1,0,1],.c [1,1,1,1]]<|Rk 2 [4,18,19] [(4,pg g2 0),(18,.agg #[iv 0,iv 0,.slice none 0 0,.slice none 0 0]),(19,iv y1.2.1)] ?_
  refine RgH.does (DoesH.store (k:=4) (g:=g2) (off:=0) (v:=.agg #[iv 0,iv 0,.slice none 0 0,.slice none 0 0]) (cells':=#[iv 0,iv 0,.slice none 0 0,.slice none 0 0]) (by kernel_rfl) rfl (by kernel_rfl) (by kernel_rfl)) ?_
  rintro _ _ _ _ ⟨rfl,rfl,rfl⟩
  refine Rd 5 [4,5,6] [(4,pg g2 0),(5,.slice none 0 0),(6,iv y1.2.1)]<|RunH.nilc ?_
  have ho5:SlOwn kBlob 47 H none 0 ([]:List Blob) none:=SlOwn.nil
  refine RunH.nilc ?_
  have ho6:SlOwn kEntry 51 H none 0 ([]:List Entry) none:=SlOwn.nil
  refine RunH.nilc ?_
  have ho7:SlOwn kCacheAnswer 63 H none 0 ([]:List CacheAnswer) none:=SlOwn.nil
  obtain rfl:=Option.some.inj heq
  refine RunH.pick 9 [7,2,1,0] (cs':=(some (g2,.cells #[iv 0,iv 0,.slice none 0 0,.slice none 0 0] 25 (0,0)))::none::none::none::F) (by kernel_rfl) rfl ?_
  exact RunH.doneM' 1 (vs:=[.agg #[iv 0,iv 0,.slice none 0 0,.slice none 0 0],.slice none 0 0,iv y1.2.1]) (v:=.tuple #[.agg #[iv 0,iv 0,.slice none 0 0,.slice none 0 0],.slice none 0 0,iv y1.2.1]) (by kernel_rfl) Tryd.func48 (fun w hh=>show ResAll _ _ _ [.cell 4 25,.tmp 5,.tmp 6] _ from ⟨⟨⟨g2,0,none⟩,by kernel_rfl,trS_run _ (vs:=[iv 0,iv 0,.slice none 0 0,.slice none 0 0]) (r:=[]) (es:=[.load ⟨g2,0,none⟩ (iv 0),.load ⟨g2,1,none⟩ (iv 0),.load ⟨g2,2,none⟩ (.slice none 0 0),.load ⟨g2,3,none⟩ (.slice none 0 0)]) (by kernel_rfl) ⟨(hh.box 0 rfl rfl),(hh.box 0 rfl rfl),(hh.box 0 rfl rfl),(hh.box 0 rfl rfl)⟩⟩,(show lk _ _=some _ by kernel_rfl),(show lk _ _=some _ by kernel_rfl),trivial⟩) rfl (cs':=none::none::none::F) rfl ⟨none,0,none,none,0,none,none,0,none,rfl,rfl,ho5,ho6,ho7⟩
 ·replace heq:=bif_false hb1 heq
  refine Cf (y1.2.1 != 0) hb1<|Ad 2 [.c [1,1,1,1,0],.c [1,1,1,1,1]]<|Kp [2,4,7] [(2,pg g1 0),(4,pg g2 0),(7,pg g3 0)] ?_
  refine RunH.draw (fun w=>Heap H w0 w (ch1::ch2::(some (g3,.cells #[.slice A3 y1.2.2.length c3] 73 (0,0)))::ch3::(some (g2,.cells #[iv 0,iv 0,.slice none 0 0,.slice none 0 0] 25 (0,0)))::(some (g1,.cells #[iv y1.1.Room,iv y1.1.Lease,.slice A1 y1.1.Blobs.length c1,.slice A2 y1.1.Entries.length c2] 25 (0,0)))::F)) (fun w=>Heap H w0 w (ch1::ch2::(some (g3,.cells #[.slice A3 y1.2.2.length c3] 73 (0,0)))::ch3::(some (g1,.cells #[iv y1.1.Room,iv y1.1.Lease,.slice A1 y1.1.Blobs.length c1,.slice A2 y1.1.Entries.length c2] 25 (0,0)))::F)) [3,3,1,3,3] (n:=5) (ls:=[false,false,false,false,false]) (by kernel_rfl) (by kernel_rfl) (by kernel_rfl) rfl ?_
  refine Dk [0] 4 (nb 5 1) [iv y1.1.Room,iv y1.1.Lease,.slice A1 y1.1.Blobs.length c1,.slice A2 y1.1.Entries.length c2] [.load ⟨g1,0,none⟩ (iv y1.1.Room),.load ⟨g1,1,none⟩ (iv y1.1.Lease),.load ⟨g1,2,none⟩ (.slice A1 y1.1.Blobs.length c1),.load ⟨g1,3,none⟩ (.slice A2 y1.1.Entries.length c2)] [4,7,20] [(4,pg g2 0),(7,pg g3 0),(20,.agg #[iv y1.1.Room,iv y1.1.Lease,.slice A1 y1.1.Blobs.length c1,.slice A2 y1.1.Entries.length c2])] (Pk 6 [0,1,2,3,4,5]) (Pk 6 [0,1,2,3,5]) (fun w hh=>⟨(hh.box 5 rfl rfl),(hh.box 5 rfl rfl),(hh.box 5 rfl rfl),(hh.box 5 rfl rfl)⟩)<|De [1] 3 (nb 5 3) [.slice A3 y1.2.2.length c3] [.load ⟨g3,0,none⟩ (.slice A3 y1.2.2.length c3)] [4,20,21] [(4,pg g2 0),(20,.agg #[iv y1.1.Room,iv y1.1.Lease,.slice A1 y1.1.Blobs.length c1,.slice A2 y1.1.Entries.length c2]),(21,.slice A3 y1.2.2.length c3)] (Pk 6 [0,1,2,3,5]) (fun w hh=>(hh.box 2 rfl rfl)) ?_
  refine DrH.does (n:=2) (ls':=[true,true,true,false,false]) 2 (by kernel_rfl) rfl (DoesH.store (k:=4) (g:=g2) (off:=0) (v:=.agg #[iv y1.1.Room,iv y1.1.Lease,.slice A1 y1.1.Blobs.length c1,.slice A2 y1.1.Entries.length c2]) (cells':=#[iv y1.1.Room,iv y1.1.Lease,.slice A1 y1.1.Blobs.length c1,.slice A2 y1.1.Entries.length c2]) (by kernel_rfl) rfl (by kernel_rfl) (by kernel_rfl)) ?_
  rintro _ _ _ _ ⟨rfl,rfl,rfl⟩
  refine ⟨fun _ w hh=>⟨(fun h=>by cases h),fun _=>(Pk 6 [0,1,2,3,5]) w hh,(fun h=>by cases h)⟩,?_⟩
  refine De [3,4] 0 (nb 5 31) [] [] [4,5,6] [(4,pg g2 0),(5,.slice A3 y1.2.2.length c3),(6,iv 0)] (Pk 6 [0,1,2,3,5]) (fun _ _=>trivial) ?_
  refine DrH.done (by kernel_rfl) ?_
  obtain rfl:=Option.some.inj heq
  refine RunH.pick 6 [4,0,1,3] (cs':=(some (g2,.cells #[iv y1.1.Room,iv y1.1.Lease,.slice A1 y1.1.Blobs.length c1,.slice A2 y1.1.Entries.length c2] 25 (0,0)))::ch1::ch2::ch3::F) (by kernel_rfl) rfl ?_
  exact RunH.doneM' 1 (vs:=[.agg #[iv y1.1.Room,iv y1.1.Lease,.slice A1 y1.1.Blobs.length c1,.slice A2 y1.1.Entries.length c2],.slice A3 y1.2.2.length c3,iv 0]) (v:=.tuple #[.agg #[iv y1.1.Room,iv y1.1.Lease,.slice A1 y1.1.Blobs.length c1,.slice A2 y1.1.Entries.length c2],.slice A3 y1.2.2.length c3,iv 0]) (by kernel_rfl) Tryd.func48 (fun w hh=>show ResAll _ _ _ [.cell 4 25,.tmp 5,.tmp 6] _ from ⟨⟨⟨g2,0,none⟩,by kernel_rfl,trS_run _ (vs:=[iv y1.1.Room,iv y1.1.Lease,.slice A1 y1.1.Blobs.length c1,.slice A2 y1.1.Entries.length c2]) (r:=[]) (es:=[.load ⟨g2,0,none⟩ (iv y1.1.Room),.load ⟨g2,1,none⟩ (iv y1.1.Lease),.load ⟨g2,2,none⟩ (.slice A1 y1.1.Blobs.length c1),.load ⟨g2,3,none⟩ (.slice A2 y1.1.Entries.length c2)]) (by kernel_rfl) ⟨(hh.box 0 rfl rfl),(hh.box 0 rfl rfl),(hh.box 0 rfl rfl),(hh.box 0 rfl rfl)⟩⟩,(show lk _ _=some _ by kernel_rfl),(show lk _ _=some _ by kernel_rfl),trivial⟩) rfl (cs':=ch1::ch2::ch3::F) rfl ⟨A1,c1,ch1,A2,c2,ch2,A3,c3,ch3,rfl,rfl,ho2,ho3,ho4⟩
noncomputable def C96:Ctx:={ P:=Tryd.prog,f:=96,N:=27,c:=bodyOf Tryd.f96 }
def S96 (F:List Ch) (H0:Hp) (r:List CacheEvent) (v:Value) (H:Hp) (cs:List Ch):Prop:=∃ (A0:Option Addr) (c0:Nat) (ch0:Ch),H0=H∧v=.slice A0 r.length c0∧ch0::F=cs∧SlOwn kCacheEvent 67 H A0 c0 r ch0
theorem slices_Grow_CacheEvent_c {w0:World} {H:Hp} {F:List Ch} {a0:List CacheEvent} {a1:Int} {r:List CacheEvent} (heq:slices_Grow_CacheEvent.f a0 a1=some r):CallsH Tryd.prog 96 #[.slice none 0 0,iv a1] H w0 F (S96 F H r):=by
 refine calls_of_runH (F:=C96) Tryd.func96 (by kernel_rfl) Tryd.ntmps96 (args:=[.slice none 0 0,iv a1]) (by kernel_rfl) ?_
 unfold slices_Grow_CacheEvent.f at heq
 obtain ⟨hn,heq⟩:=guard?_some heq
 obtain rfl:=Option.some.inj heq
 simp only [Bool.and_eq_true,decide_eq_true_eq] at hn
 obtain ⟨_,h0,h3⟩:=hn
 have h3:=room_le h3
 obtain ⟨I,rfl⟩:∃ I:Nat,a1=(I:Int):=⟨a1.toNat,by omega⟩
 rw [Int.toNat_natCast,Nat.zero_add] at h3
 have hbig:I≤140737490452480:=by
  have:I*1≤I*80:=Nat.mul_le_mul_left _ (by omega)
  omega
 have hw:w64 ((I:Int) - w64 ((0:Int) - (0:Int)))=(I:Int):=by
  have e1:w64 ((0:Int) - (0:Int))=0:=by unfold w64; rw [IntKind.wrap_i64]; omega
  rw [e1,Int.sub_zero]; unfold w64; rw [IntKind.wrap_i64]; omega
 refine Ra 1 [0] [.c [1]]<|Rd 1 [0,1] [(0,.slice none 0 0),(1,iv (I:Int))]<|Ra 2 [1,0,0] [.c [1,0,1],.c [1,1]]<|Rd 2 [0,1,6] [(0,.slice none 0 0),(1,iv (I:Int)),(6,.bool (decide ((I:Int)<0)))]<|Cf (decide ((I:Int)<0)) (decide_eq_false (by omega))<|Ra 3 [1,1,0,0] [.c [1,1,0,1],.c [1,1,1]]<|Rd 8 [1,0] [(1,iv (w64 ((I:Int) - w64 ((0:Int) - (0:Int))))),(0,.slice none 0 0)]<|Ra 1 [1,1,0,1,0] [.c [1,1,0,1,1],.c [1,1,1]]<|Rd 2 [0,1,16] [(0,.slice none 0 0),(1,iv (w64 ((I:Int) - w64 ((0:Int) - (0:Int))))),(16,.bool (decide ((0:Int)<w64 ((I:Int) - w64 ((0:Int) - (0:Int))))))] ?_
 rcases bool_cases (decide ((0:Int)<w64 ((I:Int) - w64 ((0:Int) - (0:Int))))) with hb | hb
 ·have hI:0<I:=by have:=of_decide_eq_true hb; rw [hw] at this; omega
  refine Ct (decide ((0:Int)<w64 ((I:Int) - w64 ((0:Int) - (0:Int))))) hb<|Rr<|Rv 5 [0,20,21] [] [.need ((0:Int)≤((0:Nat):Int)∧((0:Nat):Int)≤((0:Nat):Int))] [(0,.slice none 0 0),(20,.slice none 0 0),(21,iv (w64 ((I:Int) - w64 ((0:Int) - (0:Int)))))] (fun w hh=>⟨by omega,by omega⟩) ?_
  refine RgH.does (DoesH.appendZeros0 (dd:=22) (kd:=kCacheEvent) (t:=72) (tn:=3) (e:=67) (bytes:=80) (q:=I) (by kernel_rfl) hw (by kernel_rfl) (by kernel_rfl) hI h3 (by omega)) ?_
  rintro _ _ _ _ ⟨g,c',cells,rfl,rfl,rfl,ho⟩
  refine Rw' 10 [0] [] [.need ((0:Int)≤((0:Nat):Int)∧((0:Nat):Int)≤((c':Nat):Int))] [(0,.slice (some ⟨g,0,none⟩) 0 c')] (fun w hh=>⟨by omega,by omega⟩)<|Ra 1 [1,1,1,0] [.c [1,1,1,1]]<|Rd 2 [4] [(4,.slice (some ⟨g,0,none⟩) 0 c')] ?_
  exact RunH.done (by kernel_rfl) Tryd.func96 (v:=.slice (some ⟨g,0,none⟩) ([]:List CacheEvent).length c') (by kernel_rfl) ⟨some ⟨g,0,none⟩,c',_,rfl,rfl,rfl,ho⟩
 ·refine Cf (decide ((0:Int)<w64 ((I:Int) - w64 ((0:Int) - (0:Int))))) hb<|Ra 2 [1,1,1,0] [.c [1,1,1,1]]<|Rd 2 [4] [(4,.slice none 0 0)]<|RunH.nilc ?_
  exact RunH.done (by kernel_rfl) Tryd.func96 (v:=.slice none ([]:List CacheEvent).length 0) (by kernel_rfl) ⟨none,0,none,rfl,rfl,rfl,SlOwn.nil⟩
noncomputable def C50:Ctx:={ P:=Tryd.prog,f:=50,N:=36,c:=bodyOf Tryd.f50 }
def S50 (F:List Ch) (H0:Hp) (r:(List CacheEvent)) (v:Value) (H:Hp) (cs:List Ch):Prop:=∃ (A0:Option Addr) (c0:Nat) (ch0:Ch),H0=H∧v=.slice A0 r.length c0∧ch0::F=cs∧SlOwn kCacheEvent 67 H A0 c0 r ch0
theorem slices_Concat_CacheEvent.e2_c {w0:World} {H:Hp} {F:List Ch} {r:(List CacheEvent)}:∀ (v_newslice6:List CacheEvent) (Av_newslice6:Option Addr) (nv_newslice6:Nat) (cv_newslice6:Nat) (chv_newslice6:Ch) ,SlOwn kCacheEvent 67 H Av_newslice6 cv_newslice6 v_newslice6 chv_newslice6→nv_newslice6=v_newslice6.length→slices_Concat_CacheEvent.e2 v_newslice6=some r→RunH C50 (S50 F H r) H w0 [.c [1,1,1,1,1,0],.c [1,1,1,1,1,1]] [(6,.slice Av_newslice6 nv_newslice6 cv_newslice6)] H (chv_newslice6::F):=by
 intro v_newslice6 Av_newslice6 nv_newslice6 cv_newslice6 chv_newslice6 hov_newslice6 hnv_newslice6 heq
 subst hnv_newslice6
 unfold slices_Concat_CacheEvent.e2 at heq
 refine Rr<|Rd 2 [2] [(2,.slice Av_newslice6 v_newslice6.length cv_newslice6)] ?_
 obtain rfl:=Option.some.inj heq
 exact RunH.done (by kernel_rfl) Tryd.func50 (v:=.slice Av_newslice6 v_newslice6.length cv_newslice6) (by kernel_rfl) ⟨Av_newslice6,cv_newslice6,chv_newslice6,rfl,rfl,rfl,hov_newslice6⟩
theorem slices_Concat_CacheEvent.l3_c {w0:World} {H:Hp} {F:List Ch} {r:(List CacheEvent)} (e2:(List CacheEvent)→Option (List CacheEvent))
  (he2:∀ (v_newslice6:List CacheEvent) (Av_newslice6:Option Addr) (nv_newslice6:Nat) (cv_newslice6:Nat) (chv_newslice6:Ch) ,SlOwn kCacheEvent 67 H Av_newslice6 cv_newslice6 v_newslice6 chv_newslice6→nv_newslice6=v_newslice6.length→e2 v_newslice6=some r→RunH C50 (S50 F H r) H w0 [.c [1,1,1,1,1,0],.c [1,1,1,1,1,1]] [(6,.slice Av_newslice6 nv_newslice6 cv_newslice6)] H (chv_newslice6::F)):∀ (k:Nat),∀ (a0:List (List CacheEvent)) (Aa0:Option Addr) (ca0:Nat) (v_newslice6:List CacheEvent) (Av_newslice6:Option Addr) (nv_newslice6:Nat) (cv_newslice6:Nat) (chv_newslice6:Ch) (v27:Int) ,Rw (Kd.slice kCacheEvent) H F Aa0 a0→a0.length≤ca0→SlOwn kCacheEvent 67 H Av_newslice6 cv_newslice6 v_newslice6 chv_newslice6→nv_newslice6=v_newslice6.length→slices_Concat_CacheEvent.l3 e2 k a0 v_newslice6 v27=some r→RunH C50 (S50 F H r) H w0 [.c [1,1,1,1,0,1,0,0],.l [1,1,1,1,0,1,0,0],.b 2,.c [1,1,1,1,1]] [(6,.slice Av_newslice6 nv_newslice6 cv_newslice6),(25,.slice Aa0 a0.length ca0),(26,iv (a0.length:Int)),(27,iv v27)] H (chv_newslice6::F):=by
 intro k
 induction k with
 | zero=>intro a0 Aa0 ca0 v_newslice6 Av_newslice6 nv_newslice6 cv_newslice6 chv_newslice6 v27 hra0 hca0 hov_newslice6 hnv_newslice6 heq; exact nomatch (show (none:Option (List CacheEvent))=some r from heq)
 | succ k ihk =>
  intro a0 Aa0 ca0 v_newslice6 Av_newslice6 nv_newslice6 cv_newslice6 chv_newslice6 v27 hra0 hca0 hov_newslice6 hnv_newslice6 heq
  subst hnv_newslice6
  rw [slices_Concat_CacheEvent.l3] at heq
  refine Ra 1 [1,1,1,1,0,1,0,0,0] [.c [1,1,1,1,0,1,0,0,1],.l [1,1,1,1,0,1,0,0],.b 2,.c [1,1,1,1,1]]<|Rd 1 [6,25,26,27,28] [(6,.slice Av_newslice6 v_newslice6.length cv_newslice6),(25,.slice Aa0 a0.length ca0),(26,iv (a0.length:Int)),(27,iv v27),(28,.bool (decide (v27<(a0.length:Int))))]<|Ad 1 [.c [1,1,1,1,0,1,0,0,1,0],.c [1,1,1,1,0,1,0,0,1,1],.l [1,1,1,1,0,1,0,0],.b 2,.c [1,1,1,1,1]] ?_
  rcases bool_cases (decide (v27<(a0.length:Int))) with hb1 | hb1
  ·replace heq:=bif_true hb1 heq
   refine Ct (decide (v27<(a0.length:Int))) hb1<|Ra 4 [1,1,1,1,0,1,0,0,1,1,0,0,0] [.c [1,1,1,1,0,1,0,0,1,1,0,0,1],.b 3,.c [1,1,1,1,0,1,0,0,1,1,1],.l [1,1,1,1,0,1,0,0],.b 2,.c [1,1,1,1,1]] ?_
   obtain ⟨x1,hx1,heq⟩:=bind_some heq
   obtain ⟨ha1,cs1,hK1,hcc1⟩:=hra0.get hx1
   obtain ⟨A2,c2,rfl,hc1,hr1⟩:=hK1
   refine Rw' 3 [6,8,25,26,27] [.slice A2 x1.length c2] [.need (Aa0=some (adr Aa0)∧(0:Int)≤v27∧v27<((a0.length:Nat):Int)),.load ((adr Aa0).add (v27.toNat*1)) (.slice A2 x1.length c2)] [(6,.slice Av_newslice6 v_newslice6.length cv_newslice6),(8,.slice A2 x1.length c2),(25,.slice Aa0 a0.length ca0),(26,iv (a0.length:Int)),(27,iv v27)] (fun w hh=>⟨⟨ha1,(at?_some hx1).1,(at?_some hx1).2.1⟩,(hcc1 _ _ (hh.drop 1) 0 _ rfl)⟩)<|Rr<|Rk 2 [25,26,27,31,32] [(25,.slice Aa0 a0.length ca0),(26,iv (a0.length:Int)),(27,iv v27),(31,.slice Av_newslice6 v_newslice6.length cv_newslice6),(32,.slice A2 x1.length c2)] ?_
   obtain ⟨hn1,heq⟩:=guard?_some heq
   refine RgH.does (DoesH.append (d:=33) (k:=0) (t:=72) (e:=67) (bytes:=80) (kd:=kCacheEvent) (n:=v_newslice6.length) (m:=x1.length) (xs:=v_newslice6) (ys:=x1) (A:=Av_newslice6) (B:=A2) (c:=cv_newslice6) (cB:=c2) (by kernel_rfl) rfl rfl (by kernel_rfl) rfl hov_newslice6 (fun w hh=>(Rw.of (F:=F) hr1).rdb (hh.drop 1)) (room_le hn1) (by have:=room_le hn1; omega)) ?_
   rintro _ _ _ _ ⟨A3,c3,ch2,rfl,rfl,rfl,ho2⟩
   refine Rd 4 [6,25,26,27] [(6,.slice A3 ((v_newslice6++x1).length) c3),(25,.slice Aa0 a0.length ca0),(26,iv (a0.length:Int)),(27,iv v27)]<|Ra 1 [1,1,1,1,0,1,0,0,1,1,1] [.l [1,1,1,1,0,1,0,0],.b 2,.c [1,1,1,1,1]]<|Rd 2 [6,25,26,27] [(6,.slice A3 ((v_newslice6++x1).length) c3),(25,.slice Aa0 a0.length ca0),(26,iv (a0.length:Int)),(27,iv (w64 (v27+1)))]<|Ad 1 [.c [1,1,1,1,0,1,0,0],.l [1,1,1,1,0,1,0,0],.b 2,.c [1,1,1,1,1]]<|Kp [6,25,26,27] [(6,.slice A3 ((v_newslice6++x1).length) c3),(25,.slice Aa0 a0.length ca0),(26,iv (a0.length:Int)),(27,iv (w64 (v27+1)))] ?_
   exact ihk a0 _ _ (v_newslice6++x1) _ _ _ _ (w64 (v27+1)) hra0 hca0 ho2 rfl heq
  ·replace heq:=bif_false hb1 heq
   refine Cf (decide (v27<(a0.length:Int))) hb1<|Ad 2 [.c [1,1,1,1,1,0],.c [1,1,1,1,1,1]]<|Kp [6] [(6,.slice Av_newslice6 v_newslice6.length cv_newslice6)] ?_
   exact he2 v_newslice6 _ _ _ _ hov_newslice6 rfl heq
theorem slices_Concat_CacheEvent.e1_c {w0:World} {H:Hp} {F:List Ch} {r:(List CacheEvent)}:∀ (a0:List (List CacheEvent)) (Aa0:Option Addr) (ca0:Nat) (v_size3:Int) ,Rw (Kd.slice kCacheEvent) H F Aa0 a0→a0.length≤ca0→slices_Concat_CacheEvent.e1 a0 v_size3=some r→RunH C50 (S50 F H r) H w0 [.c [1,1,1,0],.c [1,1,1,1]] [(0,.slice Aa0 a0.length ca0),(3,iv v_size3)] H (F):=by
 intro a0 Aa0 ca0 v_size3 hra0 hca0 heq
 unfold slices_Concat_CacheEvent.e1 at heq
 refine Rr<|Rk 1 [0,23] [(0,.slice Aa0 a0.length ca0),(23,iv v_size3)] ?_
 obtain ⟨y1,hy1,heq⟩:=bind_some heq
 refine RgH.does (DoesH.call (d:=24) (g:=96) (args:=#[.slice none 0 0,iv v_size3]) (by kernel_rfl) (slices_Grow_CacheEvent_c (a0:=([]:List CacheEvent)) (a1:=v_size3)  hy1)) ?_
 rintro _ _ _ _ ⟨_,rfl,A1,c1,ch1,rfl,rfl,rfl,ho1⟩
 refine Rd 3 [0,6] [(0,.slice Aa0 a0.length ca0),(6,.slice A1 y1.length c1)]<|Ra 2 [1,1,1,1,0,0] [.c [1,1,1,1,0,1],.c [1,1,1,1,1]]<|Rd 3 [6,25,26,27] [(6,.slice A1 y1.length c1),(25,.slice Aa0 a0.length ca0),(26,iv (a0.length:Int)),(27,iv 0)]<|Ad 2 [.c [1,1,1,1,0,1,0,0],.l [1,1,1,1,0,1,0,0],.b 2,.c [1,1,1,1,1]]<|Kp [6,25,26,27] [(6,.slice A1 y1.length c1),(25,.slice Aa0 a0.length ca0),(26,iv (a0.length:Int)),(27,iv 0)] ?_
 exact ((slices_Concat_CacheEvent.l3_c (e2:=slices_Concat_CacheEvent.e2) (slices_Concat_CacheEvent.e2_c)) big) a0 _ _ y1 _ _ _ _ 0 hra0 hca0 ho1 rfl heq
theorem slices_Concat_CacheEvent.j5_c {w0:World} {H:Hp} {F:List Ch} {r:(List CacheEvent)} (backl4:(List (List CacheEvent))→Int→Int→Option (List CacheEvent))
  (hbackl4:∀ (a0:List (List CacheEvent)) (Aa0:Option Addr) (ca0:Nat) (v_size3:Int) (v11:Int) ,Rw (Kd.slice kCacheEvent) H F Aa0 a0→a0.length≤ca0→backl4 a0 v_size3 v11=some r→RunH C50 (S50 F H r) H w0 [.c [1,1,0,1,0,0],.l [1,1,0,1,0,0],.b 0,.c [1,1,1]] [(0,.slice Aa0 a0.length ca0),(3,iv v_size3),(9,.slice Aa0 a0.length ca0),(10,iv (a0.length:Int)),(11,iv v11)] H (F)):∀ (a0:List (List CacheEvent)) (Aa0:Option Addr) (ca0:Nat) (v_size3:Int) (v11:Int) (x2:List CacheEvent) ,Rw (Kd.slice kCacheEvent) H F Aa0 a0→a0.length≤ca0→slices_Concat_CacheEvent.j5 backl4 a0 v_size3 v11 x2=some r→RunH C50 (S50 F H r) H w0 [.c [1,1,0,1,0,0,1,1,1],.l [1,1,0,1,0,0],.b 0,.c [1,1,1]] [(0,.slice Aa0 a0.length ca0),(3,iv (w64 (v_size3+(x2.length:Int)))),(9,.slice Aa0 a0.length ca0),(10,iv (a0.length:Int)),(11,iv v11)] H (F):=by
 intro a0 Aa0 ca0 v_size3 v11 x2 hra0 hca0 heq
 unfold slices_Concat_CacheEvent.j5 at heq
 refine Rr<|Rd 2 [0,3,9,10,11] [(0,.slice Aa0 a0.length ca0),(3,iv (w64 (v_size3+(x2.length:Int)))),(9,.slice Aa0 a0.length ca0),(10,iv (a0.length:Int)),(11,iv (w64 (v11+1)))]<|Ad 1 [.c [1,1,0,1,0,0],.l [1,1,0,1,0,0],.b 0,.c [1,1,1]]<|Kp [0,3,9,10,11] [(0,.slice Aa0 a0.length ca0),(3,iv (w64 (v_size3+(x2.length:Int)))),(9,.slice Aa0 a0.length ca0),(10,iv (a0.length:Int)),(11,iv (w64 (v11+1)))] ?_
 exact hbackl4 a0 _ _ (w64 (v_size3+(x2.length:Int))) (w64 (v11+1)) hra0 hca0 heq
theorem slices_Concat_CacheEvent.l4_c {w0:World} {H:Hp} {F:List Ch} {r:(List CacheEvent)} (e1:(List (List CacheEvent))→Int→Option (List CacheEvent))
  (he1:∀ (a0:List (List CacheEvent)) (Aa0:Option Addr) (ca0:Nat) (v_size3:Int) ,Rw (Kd.slice kCacheEvent) H F Aa0 a0→a0.length≤ca0→e1 a0 v_size3=some r→RunH C50 (S50 F H r) H w0 [.c [1,1,1,0],.c [1,1,1,1]] [(0,.slice Aa0 a0.length ca0),(3,iv v_size3)] H (F)):∀ (k:Nat),∀ (a0:List (List CacheEvent)) (Aa0:Option Addr) (ca0:Nat) (v_size3:Int) (v11:Int) ,Rw (Kd.slice kCacheEvent) H F Aa0 a0→a0.length≤ca0→slices_Concat_CacheEvent.l4 e1 k a0 v_size3 v11=some r→RunH C50 (S50 F H r) H w0 [.c [1,1,0,1,0,0],.l [1,1,0,1,0,0],.b 0,.c [1,1,1]] [(0,.slice Aa0 a0.length ca0),(3,iv v_size3),(9,.slice Aa0 a0.length ca0),(10,iv (a0.length:Int)),(11,iv v11)] H (F):=by
 intro k
 induction k with
 | zero=>intro a0 Aa0 ca0 v_size3 v11 hra0 hca0 heq; exact nomatch (show (none:Option (List CacheEvent))=some r from heq)
 | succ k ihk =>
  intro a0 Aa0 ca0 v_size3 v11 hra0 hca0 heq
  rw [slices_Concat_CacheEvent.l4] at heq
  refine Ra 1 [1,1,0,1,0,0,0] [.c [1,1,0,1,0,0,1],.l [1,1,0,1,0,0],.b 0,.c [1,1,1]]<|Rd 1 [0,3,9,10,11,12] [(0,.slice Aa0 a0.length ca0),(3,iv v_size3),(9,.slice Aa0 a0.length ca0),(10,iv (a0.length:Int)),(11,iv v11),(12,.bool (decide (v11<(a0.length:Int))))]<|Ad 1 [.c [1,1,0,1,0,0,1,0],.c [1,1,0,1,0,0,1,1],.l [1,1,0,1,0,0],.b 0,.c [1,1,1]] ?_
  rcases bool_cases (decide (v11<(a0.length:Int))) with hb2 | hb2
  ·replace heq:=bif_true hb2 heq
   refine Ct (decide (v11<(a0.length:Int))) hb2<|Ra 4 [1,1,0,1,0,0,1,1,0,0,0] [.c [1,1,0,1,0,0,1,1,0,0,1],.b 1,.c [1,1,0,1,0,0,1,1,1],.l [1,1,0,1,0,0],.b 0,.c [1,1,1]] ?_
   obtain ⟨x2,hx2,heq⟩:=bind_some heq
   obtain ⟨ha2,cs2,hK2,hcc2⟩:=hra0.get hx2
   obtain ⟨A4,c4,rfl,hc2,hr2⟩:=hK2
   refine Rw' 3 [0,3,5,9,10,11] [.slice A4 x2.length c4] [.need (Aa0=some (adr Aa0)∧(0:Int)≤v11∧v11<((a0.length:Nat):Int)),.load ((adr Aa0).add (v11.toNat*1)) (.slice A4 x2.length c4)] [(0,.slice Aa0 a0.length ca0),(3,iv v_size3),(5,.slice A4 x2.length c4),(9,.slice Aa0 a0.length ca0),(10,iv (a0.length:Int)),(11,iv v11)] (fun w hh=>⟨⟨ha2,(at?_some hx2).1,(at?_some hx2).2.1⟩,(hcc2 _ _ (hh.drop 0) 0 _ rfl)⟩)<|Ra 1 [1,1,0,1,0,0,1,1,0,0,1,0] [.c [1,1,0,1,0,0,1,1,0,0,1,1],.b 1,.c [1,1,0,1,0,0,1,1,1],.l [1,1,0,1,0,0],.b 0,.c [1,1,1]]<|Rd 5 [0,3,9,10,11] [(0,.slice Aa0 a0.length ca0),(3,iv (w64 (v_size3+(x2.length:Int)))),(9,.slice Aa0 a0.length ca0),(10,iv (a0.length:Int)),(11,iv v11)]<|Ra 1 [1,1,0,1,0,0,1,1,0,0,1,1,0] [.c [1,1,0,1,0,0,1,1,0,0,1,1,1],.b 1,.c [1,1,0,1,0,0,1,1,1],.l [1,1,0,1,0,0],.b 0,.c [1,1,1]]<|Rd 2 [0,3,9,10,11,20] [(0,.slice Aa0 a0.length ca0),(3,iv (w64 (v_size3+(x2.length:Int)))),(9,.slice Aa0 a0.length ca0),(10,iv (a0.length:Int)),(11,iv v11),(20,.bool (decide ((w64 (v_size3+(x2.length:Int)))<0)))] ?_
   rcases bool_cases (decide ((w64 (v_size3+(x2.length:Int)))<0)) with hb3 | hb3
   ·replace heq:=bif_true hb3 heq
    refine Ct (decide ((w64 (v_size3+(x2.length:Int)))<0)) hb3 ?_
    cases heq
   ·replace heq:=bif_false hb3 heq
    refine Cf (decide ((w64 (v_size3+(x2.length:Int)))<0)) hb3<|Ad 2 [.c [1,1,0,1,0,0,1,1,1],.l [1,1,0,1,0,0],.b 0,.c [1,1,1]]<|Kp [0,3,9,10,11] [(0,.slice Aa0 a0.length ca0),(3,iv (w64 (v_size3+(x2.length:Int)))),(9,.slice Aa0 a0.length ca0),(10,iv (a0.length:Int)),(11,iv v11)] ?_
    exact (slices_Concat_CacheEvent.j5_c (backl4:=(slices_Concat_CacheEvent.l4 e1 k)) ihk) a0 _ _ v_size3 v11 x2 hra0 hca0 heq
  ·replace heq:=bif_false hb2 heq
   refine Cf (decide (v11<(a0.length:Int))) hb2<|Ad 2 [.c [1,1,1,0],.c [1,1,1,1]]<|Kp [0,3] [(0,.slice Aa0 a0.length ca0),(3,iv v_size3)] ?_
   exact he1 a0 _ _ v_size3 hra0 hca0 heq
theorem slices_Concat_CacheEvent_c {w0:World} {H:Hp} {F:List Ch} {a0:List (List CacheEvent)} {Aa0:Option Addr} {na0:Nat} {ca0:Nat} {r:(List CacheEvent)} (hra0:Rw (Kd.slice kCacheEvent) H F Aa0 a0) (hca0:na0≤ca0) (hna0:na0=a0.length) (heq:slices_Concat_CacheEvent.f a0=some r):CallsH Tryd.prog 50 #[.slice Aa0 na0 ca0] H w0 (F) (S50 F H r):=by
 refine calls_of_runH (F:=C50) Tryd.func50 (by kernel_rfl) Tryd.ntmps50 (args:=[.slice Aa0 na0 ca0]) (by kernel_rfl) ?_
 subst hna0
 unfold slices_Concat_CacheEvent.f at heq
 refine Ra 1 [0] [.c [1]]<|Rd 1 [0] [(0,.slice Aa0 a0.length ca0)]<|Ra 1 [1,0] [.c [1,1]]<|Rd 1 [0,3] [(0,.slice Aa0 a0.length ca0),(3,iv 0)]<|Ra 2 [1,1,0,0] [.c [1,1,0,1],.c [1,1,1]]<|Rd 3 [0,3,9,10,11] [(0,.slice Aa0 a0.length ca0),(3,iv 0),(9,.slice Aa0 a0.length ca0),(10,iv (a0.length:Int)),(11,iv 0)]<|Ad 2 [.c [1,1,0,1,0,0],.l [1,1,0,1,0,0],.b 0,.c [1,1,1]]<|Kp [0,3,9,10,11] [(0,.slice Aa0 a0.length ca0),(3,iv 0),(9,.slice Aa0 a0.length ca0),(10,iv (a0.length:Int)),(11,iv 0)] ?_
 exact ((slices_Concat_CacheEvent.l4_c (e1:=slices_Concat_CacheEvent.e1) (slices_Concat_CacheEvent.e1_c)) big) a0 _ _ 0 0 hra0 hca0 heq
noncomputable def C97:Ctx:={ P:=Tryd.prog,f:=97,N:=27,c:=bodyOf Tryd.f97 }
def S97 (F:List Ch) (H0:Hp) (r:List CacheAnswer) (v:Value) (H:Hp) (cs:List Ch):Prop:=∃ (A0:Option Addr) (c0:Nat) (ch0:Ch),H0=H∧v=.slice A0 r.length c0∧ch0::F=cs∧SlOwn kCacheAnswer 63 H A0 c0 r ch0
theorem slices_Grow_CacheAnswer_c {w0:World} {H:Hp} {F:List Ch} {a0:List CacheAnswer} {a1:Int} {r:List CacheAnswer} (heq:slices_Grow_CacheAnswer.f a0 a1=some r):CallsH Tryd.prog 97 #[.slice none 0 0,iv a1] H w0 F (S97 F H r):=by
 refine calls_of_runH (F:=C97) Tryd.func97 (by kernel_rfl) Tryd.ntmps97 (args:=[.slice none 0 0,iv a1]) (by kernel_rfl) ?_
 unfold slices_Grow_CacheAnswer.f at heq
 obtain ⟨hn,heq⟩:=guard?_some heq
 obtain rfl:=Option.some.inj heq
 simp only [Bool.and_eq_true,decide_eq_true_eq] at hn
 obtain ⟨_,h0,h3⟩:=hn
 have h3:=room_le h3
 obtain ⟨I,rfl⟩:∃ I:Nat,a1=(I:Int):=⟨a1.toNat,by omega⟩
 rw [Int.toNat_natCast,Nat.zero_add] at h3
 have hbig:I≤140737490452480:=by
  have:I*1≤I*56:=Nat.mul_le_mul_left _ (by omega)
  omega
 have hw:w64 ((I:Int) - w64 ((0:Int) - (0:Int)))=(I:Int):=by
  have e1:w64 ((0:Int) - (0:Int))=0:=by unfold w64; rw [IntKind.wrap_i64]; omega
  rw [e1,Int.sub_zero]; unfold w64; rw [IntKind.wrap_i64]; omega
 refine Ra 1 [0] [.c [1]]<|Rd 1 [0,1] [(0,.slice none 0 0),(1,iv (I:Int))]<|Ra 2 [1,0,0] [.c [1,0,1],.c [1,1]]<|Rd 2 [0,1,6] [(0,.slice none 0 0),(1,iv (I:Int)),(6,.bool (decide ((I:Int)<0)))]<|Cf (decide ((I:Int)<0)) (decide_eq_false (by omega))<|Ra 3 [1,1,0,0] [.c [1,1,0,1],.c [1,1,1]]<|Rd 8 [1,0] [(1,iv (w64 ((I:Int) - w64 ((0:Int) - (0:Int))))),(0,.slice none 0 0)]<|Ra 1 [1,1,0,1,0] [.c [1,1,0,1,1],.c [1,1,1]]<|Rd 2 [0,1,16] [(0,.slice none 0 0),(1,iv (w64 ((I:Int) - w64 ((0:Int) - (0:Int))))),(16,.bool (decide ((0:Int)<w64 ((I:Int) - w64 ((0:Int) - (0:Int))))))] ?_
 rcases bool_cases (decide ((0:Int)<w64 ((I:Int) - w64 ((0:Int) - (0:Int))))) with hb | hb
 ·have hI:0<I:=by have:=of_decide_eq_true hb; rw [hw] at this; omega
  refine Ct (decide ((0:Int)<w64 ((I:Int) - w64 ((0:Int) - (0:Int))))) hb<|Rr<|Rv 5 [0,20,21] [] [.need ((0:Int)≤((0:Nat):Int)∧((0:Nat):Int)≤((0:Nat):Int))] [(0,.slice none 0 0),(20,.slice none 0 0),(21,iv (w64 ((I:Int) - w64 ((0:Int) - (0:Int)))))] (fun w hh=>⟨by omega,by omega⟩) ?_
  refine RgH.does (DoesH.appendZeros0 (dd:=22) (kd:=kCacheAnswer) (t:=73) (tn:=3) (e:=63) (bytes:=56) (q:=I) (by kernel_rfl) hw (by kernel_rfl) (by kernel_rfl) hI h3 (by omega)) ?_
  rintro _ _ _ _ ⟨g,c',cells,rfl,rfl,rfl,ho⟩
  refine Rw' 10 [0] [] [.need ((0:Int)≤((0:Nat):Int)∧((0:Nat):Int)≤((c':Nat):Int))] [(0,.slice (some ⟨g,0,none⟩) 0 c')] (fun w hh=>⟨by omega,by omega⟩)<|Ra 1 [1,1,1,0] [.c [1,1,1,1]]<|Rd 2 [4] [(4,.slice (some ⟨g,0,none⟩) 0 c')] ?_
  exact RunH.done (by kernel_rfl) Tryd.func97 (v:=.slice (some ⟨g,0,none⟩) ([]:List CacheAnswer).length c') (by kernel_rfl) ⟨some ⟨g,0,none⟩,c',_,rfl,rfl,rfl,ho⟩
 ·refine Cf (decide ((0:Int)<w64 ((I:Int) - w64 ((0:Int) - (0:Int))))) hb<|Ra 2 [1,1,1,0] [.c [1,1,1,1]]<|Rd 2 [4] [(4,.slice none 0 0)]<|RunH.nilc ?_
  exact RunH.done (by kernel_rfl) Tryd.func97 (v:=.slice none ([]:List CacheAnswer).length 0) (by kernel_rfl) ⟨none,0,none,rfl,rfl,rfl,SlOwn.nil⟩
noncomputable def C52:Ctx:={ P:=Tryd.prog,f:=52,N:=36,c:=bodyOf Tryd.f52 }
def S52 (F:List Ch) (H0:Hp) (r:(List CacheAnswer)) (v:Value) (H:Hp) (cs:List Ch):Prop:=∃ (A0:Option Addr) (c0:Nat) (ch0:Ch),H0=H∧v=.slice A0 r.length c0∧ch0::F=cs∧SlOwn kCacheAnswer 63 H A0 c0 r ch0
theorem slices_Concat_CacheAnswer.e2_c {w0:World} {H:Hp} {F:List Ch} {r:(List CacheAnswer)}:∀ (v_newslice6:List CacheAnswer) (Av_newslice6:Option Addr) (nv_newslice6:Nat) (cv_newslice6:Nat) (chv_newslice6:Ch) ,SlOwn kCacheAnswer 63 H Av_newslice6 cv_newslice6 v_newslice6 chv_newslice6→nv_newslice6=v_newslice6.length→slices_Concat_CacheAnswer.e2 v_newslice6=some r→RunH C52 (S52 F H r) H w0 [.c [1,1,1,1,1,0],.c [1,1,1,1,1,1]] [(6,.slice Av_newslice6 nv_newslice6 cv_newslice6)] H (chv_newslice6::F):=by
 intro v_newslice6 Av_newslice6 nv_newslice6 cv_newslice6 chv_newslice6 hov_newslice6 hnv_newslice6 heq
 subst hnv_newslice6
 unfold slices_Concat_CacheAnswer.e2 at heq
 refine Rr<|Rd 2 [2] [(2,.slice Av_newslice6 v_newslice6.length cv_newslice6)] ?_
 obtain rfl:=Option.some.inj heq
 exact RunH.done (by kernel_rfl) Tryd.func52 (v:=.slice Av_newslice6 v_newslice6.length cv_newslice6) (by kernel_rfl) ⟨Av_newslice6,cv_newslice6,chv_newslice6,rfl,rfl,rfl,hov_newslice6⟩
theorem slices_Concat_CacheAnswer.l3_c {w0:World} {H:Hp} {F:List Ch} {r:(List CacheAnswer)} (e2:(List CacheAnswer)→Option (List CacheAnswer))
  (he2:∀ (v_newslice6:List CacheAnswer) (Av_newslice6:Option Addr) (nv_newslice6:Nat) (cv_newslice6:Nat) (chv_newslice6:Ch) ,SlOwn kCacheAnswer 63 H Av_newslice6 cv_newslice6 v_newslice6 chv_newslice6→nv_newslice6=v_newslice6.length→e2 v_newslice6=some r→RunH C52 (S52 F H r) H w0 [.c [1,1,1,1,1,0],.c [1,1,1,1,1,1]] [(6,.slice Av_newslice6 nv_newslice6 cv_newslice6)] H (chv_newslice6::F)):∀ (k:Nat),∀ (a0:List (List CacheAnswer)) (Aa0:Option Addr) (ca0:Nat) (v_newslice6:List CacheAnswer) (Av_newslice6:Option Addr) (nv_newslice6:Nat) (cv_newslice6:Nat) (chv_newslice6:Ch) (v27:Int) ,Rw (Kd.slice kCacheAnswer) H F Aa0 a0→a0.length≤ca0→SlOwn kCacheAnswer 63 H Av_newslice6 cv_newslice6 v_newslice6 chv_newslice6→nv_newslice6=v_newslice6.length→slices_Concat_CacheAnswer.l3 e2 k a0 v_newslice6 v27=some r→RunH C52 (S52 F H r) H w0 [.c [1,1,1,1,0,1,0,0],.l [1,1,1,1,0,1,0,0],.b 2,.c [1,1,1,1,1]] [(6,.slice Av_newslice6 nv_newslice6 cv_newslice6),(25,.slice Aa0 a0.length ca0),(26,iv (a0.length:Int)),(27,iv v27)] H (chv_newslice6::F):=by
 intro k
 induction k with
 | zero=>intro a0 Aa0 ca0 v_newslice6 Av_newslice6 nv_newslice6 cv_newslice6 chv_newslice6 v27 hra0 hca0 hov_newslice6 hnv_newslice6 heq; exact nomatch (show (none:Option (List CacheAnswer))=some r from heq)
 | succ k ihk =>
  intro a0 Aa0 ca0 v_newslice6 Av_newslice6 nv_newslice6 cv_newslice6 chv_newslice6 v27 hra0 hca0 hov_newslice6 hnv_newslice6 heq
  subst hnv_newslice6
  rw [slices_Concat_CacheAnswer.l3] at heq
  refine Ra 1 [1,1,1,1,0,1,0,0,0] [.c [1,1,1,1,0,1,0,0,1],.l [1,1,1,1,0,1,0,0],.b 2,.c [1,1,1,1,1]]<|Rd 1 [6,25,26,27,28] [(6,.slice Av_newslice6 v_newslice6.length cv_newslice6),(25,.slice Aa0 a0.length ca0),(26,iv (a0.length:Int)),(27,iv v27),(28,.bool (decide (v27<(a0.length:Int))))]<|Ad 1 [.c [1,1,1,1,0,1,0,0,1,0],.c [1,1,1,1,0,1,0,0,1,1],.l [1,1,1,1,0,1,0,0],.b 2,.c [1,1,1,1,1]] ?_
  rcases bool_cases (decide (v27<(a0.length:Int))) with hb1 | hb1
  ·replace heq:=bif_true hb1 heq
   refine Ct (decide (v27<(a0.length:Int))) hb1<|Ra 4 [1,1,1,1,0,1,0,0,1,1,0,0,0] [.c [1,1,1,1,0,1,0,0,1,1,0,0,1],.b 3,.c [1,1,1,1,0,1,0,0,1,1,1],.l [1,1,1,1,0,1,0,0],.b 2,.c [1,1,1,1,1]] ?_
   obtain ⟨x1,hx1,heq⟩:=bind_some heq
   obtain ⟨ha1,cs1,hK1,hcc1⟩:=hra0.get hx1
   obtain ⟨A2,c2,rfl,hc1,hr1⟩:=hK1
   refine Rw' 3 [6,8,25,26,27] [.slice A2 x1.length c2] [.need (Aa0=some (adr Aa0)∧(0:Int)≤v27∧v27<((a0.length:Nat):Int)),.load ((adr Aa0).add (v27.toNat*1)) (.slice A2 x1.length c2)] [(6,.slice Av_newslice6 v_newslice6.length cv_newslice6),(8,.slice A2 x1.length c2),(25,.slice Aa0 a0.length ca0),(26,iv (a0.length:Int)),(27,iv v27)] (fun w hh=>⟨⟨ha1,(at?_some hx1).1,(at?_some hx1).2.1⟩,(hcc1 _ _ (hh.drop 1) 0 _ rfl)⟩)<|Rr<|Rk 2 [25,26,27,31,32] [(25,.slice Aa0 a0.length ca0),(26,iv (a0.length:Int)),(27,iv v27),(31,.slice Av_newslice6 v_newslice6.length cv_newslice6),(32,.slice A2 x1.length c2)] ?_
   obtain ⟨hn1,heq⟩:=guard?_some heq
   refine RgH.does (DoesH.append (d:=33) (k:=0) (t:=73) (e:=63) (bytes:=56) (kd:=kCacheAnswer) (n:=v_newslice6.length) (m:=x1.length) (xs:=v_newslice6) (ys:=x1) (A:=Av_newslice6) (B:=A2) (c:=cv_newslice6) (cB:=c2) (by kernel_rfl) rfl rfl (by kernel_rfl) rfl hov_newslice6 (fun w hh=>(Rw.of (F:=F) hr1).rdb (hh.drop 1)) (room_le hn1) (by have:=room_le hn1; omega)) ?_
   rintro _ _ _ _ ⟨A3,c3,ch2,rfl,rfl,rfl,ho2⟩
   refine Rd 4 [6,25,26,27] [(6,.slice A3 ((v_newslice6++x1).length) c3),(25,.slice Aa0 a0.length ca0),(26,iv (a0.length:Int)),(27,iv v27)]<|Ra 1 [1,1,1,1,0,1,0,0,1,1,1] [.l [1,1,1,1,0,1,0,0],.b 2,.c [1,1,1,1,1]]<|Rd 2 [6,25,26,27] [(6,.slice A3 ((v_newslice6++x1).length) c3),(25,.slice Aa0 a0.length ca0),(26,iv (a0.length:Int)),(27,iv (w64 (v27+1)))]<|Ad 1 [.c [1,1,1,1,0,1,0,0],.l [1,1,1,1,0,1,0,0],.b 2,.c [1,1,1,1,1]]<|Kp [6,25,26,27] [(6,.slice A3 ((v_newslice6++x1).length) c3),(25,.slice Aa0 a0.length ca0),(26,iv (a0.length:Int)),(27,iv (w64 (v27+1)))] ?_
   exact ihk a0 _ _ (v_newslice6++x1) _ _ _ _ (w64 (v27+1)) hra0 hca0 ho2 rfl heq
  ·replace heq:=bif_false hb1 heq
   refine Cf (decide (v27<(a0.length:Int))) hb1<|Ad 2 [.c [1,1,1,1,1,0],.c [1,1,1,1,1,1]]<|Kp [6] [(6,.slice Av_newslice6 v_newslice6.length cv_newslice6)] ?_
   exact he2 v_newslice6 _ _ _ _ hov_newslice6 rfl heq
theorem slices_Concat_CacheAnswer.e1_c {w0:World} {H:Hp} {F:List Ch} {r:(List CacheAnswer)}:∀ (a0:List (List CacheAnswer)) (Aa0:Option Addr) (ca0:Nat) (v_size3:Int) ,Rw (Kd.slice kCacheAnswer) H F Aa0 a0→a0.length≤ca0→slices_Concat_CacheAnswer.e1 a0 v_size3=some r→RunH C52 (S52 F H r) H w0 [.c [1,1,1,0],.c [1,1,1,1]] [(0,.slice Aa0 a0.length ca0),(3,iv v_size3)] H (F):=by
 intro a0 Aa0 ca0 v_size3 hra0 hca0 heq
 unfold slices_Concat_CacheAnswer.e1 at heq
 refine Rr<|Rk 1 [0,23] [(0,.slice Aa0 a0.length ca0),(23,iv v_size3)] ?_
 obtain ⟨y1,hy1,heq⟩:=bind_some heq
 refine RgH.does (DoesH.call (d:=24) (g:=97) (args:=#[.slice none 0 0,iv v_size3]) (by kernel_rfl) (slices_Grow_CacheAnswer_c (a0:=([]:List CacheAnswer)) (a1:=v_size3)  hy1)) ?_
 rintro _ _ _ _ ⟨_,rfl,A1,c1,ch1,rfl,rfl,rfl,ho1⟩
 refine Rd 3 [0,6] [(0,.slice Aa0 a0.length ca0),(6,.slice A1 y1.length c1)]<|Ra 2 [1,1,1,1,0,0] [.c [1,1,1,1,0,1],.c [1,1,1,1,1]]<|Rd 3 [6,25,26,27] [(6,.slice A1 y1.length c1),(25,.slice Aa0 a0.length ca0),(26,iv (a0.length:Int)),(27,iv 0)]<|Ad 2 [.c [1,1,1,1,0,1,0,0],.l [1,1,1,1,0,1,0,0],.b 2,.c [1,1,1,1,1]]<|Kp [6,25,26,27] [(6,.slice A1 y1.length c1),(25,.slice Aa0 a0.length ca0),(26,iv (a0.length:Int)),(27,iv 0)] ?_
 exact ((slices_Concat_CacheAnswer.l3_c (e2:=slices_Concat_CacheAnswer.e2) (slices_Concat_CacheAnswer.e2_c)) big) a0 _ _ y1 _ _ _ _ 0 hra0 hca0 ho1 rfl heq
theorem slices_Concat_CacheAnswer.j5_c {w0:World} {H:Hp} {F:List Ch} {r:(List CacheAnswer)} (backl4:(List (List CacheAnswer))→Int→Int→Option (List CacheAnswer))
  (hbackl4:∀ (a0:List (List CacheAnswer)) (Aa0:Option Addr) (ca0:Nat) (v_size3:Int) (v11:Int) ,Rw (Kd.slice kCacheAnswer) H F Aa0 a0→a0.length≤ca0→backl4 a0 v_size3 v11=some r→RunH C52 (S52 F H r) H w0 [.c [1,1,0,1,0,0],.l [1,1,0,1,0,0],.b 0,.c [1,1,1]] [(0,.slice Aa0 a0.length ca0),(3,iv v_size3),(9,.slice Aa0 a0.length ca0),(10,iv (a0.length:Int)),(11,iv v11)] H (F)):∀ (a0:List (List CacheAnswer)) (Aa0:Option Addr) (ca0:Nat) (v_size3:Int) (v11:Int) (x2:List CacheAnswer) ,Rw (Kd.slice kCacheAnswer) H F Aa0 a0→a0.length≤ca0→slices_Concat_CacheAnswer.j5 backl4 a0 v_size3 v11 x2=some r→RunH C52 (S52 F H r) H w0 [.c [1,1,0,1,0,0,1,1,1],.l [1,1,0,1,0,0],.b 0,.c [1,1,1]] [(0,.slice Aa0 a0.length ca0),(3,iv (w64 (v_size3+(x2.length:Int)))),(9,.slice Aa0 a0.length ca0),(10,iv (a0.length:Int)),(11,iv v11)] H (F):=by
 intro a0 Aa0 ca0 v_size3 v11 x2 hra0 hca0 heq
 unfold slices_Concat_CacheAnswer.j5 at heq
 refine Rr<|Rd 2 [0,3,9,10,11] [(0,.slice Aa0 a0.length ca0),(3,iv (w64 (v_size3+(x2.length:Int)))),(9,.slice Aa0 a0.length ca0),(10,iv (a0.length:Int)),(11,iv (w64 (v11+1)))]<|Ad 1 [.c [1,1,0,1,0,0],.l [1,1,0,1,0,0],.b 0,.c [1,1,1]]<|Kp [0,3,9,10,11] [(0,.slice Aa0 a0.length ca0),(3,iv (w64 (v_size3+(x2.length:Int)))),(9,.slice Aa0 a0.length ca0),(10,iv (a0.length:Int)),(11,iv (w64 (v11+1)))] ?_
 exact hbackl4 a0 _ _ (w64 (v_size3+(x2.length:Int))) (w64 (v11+1)) hra0 hca0 heq
theorem slices_Concat_CacheAnswer.l4_c {w0:World} {H:Hp} {F:List Ch} {r:(List CacheAnswer)} (e1:(List (List CacheAnswer))→Int→Option (List CacheAnswer))
  (he1:∀ (a0:List (List CacheAnswer)) (Aa0:Option Addr) (ca0:Nat) (v_size3:Int) ,Rw (Kd.slice kCacheAnswer) H F Aa0 a0→a0.length≤ca0→e1 a0 v_size3=some r→RunH C52 (S52 F H r) H w0 [.c [1,1,1,0],.c [1,1,1,1]] [(0,.slice Aa0 a0.length ca0),(3,iv v_size3)] H (F)):∀ (k:Nat),∀ (a0:List (List CacheAnswer)) (Aa0:Option Addr) (ca0:Nat) (v_size3:Int) (v11:Int) ,Rw (Kd.slice kCacheAnswer) H F Aa0 a0→a0.length≤ca0→slices_Concat_CacheAnswer.l4 e1 k a0 v_size3 v11=some r→RunH C52 (S52 F H r) H w0 [.c [1,1,0,1,0,0],.l [1,1,0,1,0,0],.b 0,.c [1,1,1]] [(0,.slice Aa0 a0.length ca0),(3,iv v_size3),(9,.slice Aa0 a0.length ca0),(10,iv (a0.length:Int)),(11,iv v11)] H (F):=by
 intro k
 induction k with
 | zero=>intro a0 Aa0 ca0 v_size3 v11 hra0 hca0 heq; exact nomatch (show (none:Option (List CacheAnswer))=some r from heq)
 | succ k ihk =>
  intro a0 Aa0 ca0 v_size3 v11 hra0 hca0 heq
  rw [slices_Concat_CacheAnswer.l4] at heq
  refine Ra 1 [1,1,0,1,0,0,0] [.c [1,1,0,1,0,0,1],.l [1,1,0,1,0,0],.b 0,.c [1,1,1]]<|Rd 1 [0,3,9,10,11,12] [(0,.slice Aa0 a0.length ca0),(3,iv v_size3),(9,.slice Aa0 a0.length ca0),(10,iv (a0.length:Int)),(11,iv v11),(12,.bool (decide (v11<(a0.length:Int))))]<|Ad 1 [.c [1,1,0,1,0,0,1,0],.c [1,1,0,1,0,0,1,1],.l [1,1,0,1,0,0],.b 0,.c [1,1,1]] ?_
  rcases bool_cases (decide (v11<(a0.length:Int))) with hb2 | hb2
  ·replace heq:=bif_true hb2 heq
   refine Ct (decide (v11<(a0.length:Int))) hb2<|Ra 4 [1,1,0,1,0,0,1,1,0,0,0] [.c [1,1,0,1,0,0,1,1,0,0,1],.b 1,.c [1,1,0,1,0,0,1,1,1],.l [1,1,0,1,0,0],.b 0,.c [1,1,1]] ?_
   obtain ⟨x2,hx2,heq⟩:=bind_some heq
   obtain ⟨ha2,cs2,hK2,hcc2⟩:=hra0.get hx2
   obtain ⟨A4,c4,rfl,hc2,hr2⟩:=hK2
   refine Rw' 3 [0,3,5,9,10,11] [.slice A4 x2.length c4] [.need (Aa0=some (adr Aa0)∧(0:Int)≤v11∧v11<((a0.length:Nat):Int)),.load ((adr Aa0).add (v11.toNat*1)) (.slice A4 x2.length c4)] [(0,.slice Aa0 a0.length ca0),(3,iv v_size3),(5,.slice A4 x2.length c4),(9,.slice Aa0 a0.length ca0),(10,iv (a0.length:Int)),(11,iv v11)] (fun w hh=>⟨⟨ha2,(at?_some hx2).1,(at?_some hx2).2.1⟩,(hcc2 _ _ (hh.drop 0) 0 _ rfl)⟩)<|Ra 1 [1,1,0,1,0,0,1,1,0,0,1,0] [.c [1,1,0,1,0,0,1,1,0,0,1,1],.b 1,.c [1,1,0,1,0,0,1,1,1],.l [1,1,0,1,0,0],.b 0,.c [1,1,1]]<|Rd 5 [0,3,9,10,11] [(0,.slice Aa0 a0.length ca0),(3,iv (w64 (v_size3+(x2.length:Int)))),(9,.slice Aa0 a0.length ca0),(10,iv (a0.length:Int)),(11,iv v11)]<|Ra 1 [1,1,0,1,0,0,1,1,0,0,1,1,0] [.c [1,1,0,1,0,0,1,1,0,0,1,1,1],.b 1,.c [1,1,0,1,0,0,1,1,1],.l [1,1,0,1,0,0],.b 0,.c [1,1,1]]<|Rd 2 [0,3,9,10,11,20] [(0,.slice Aa0 a0.length ca0),(3,iv (w64 (v_size3+(x2.length:Int)))),(9,.slice Aa0 a0.length ca0),(10,iv (a0.length:Int)),(11,iv v11),(20,.bool (decide ((w64 (v_size3+(x2.length:Int)))<0)))] ?_
   rcases bool_cases (decide ((w64 (v_size3+(x2.length:Int)))<0)) with hb3 | hb3
   ·replace heq:=bif_true hb3 heq
    refine Ct (decide ((w64 (v_size3+(x2.length:Int)))<0)) hb3 ?_
    cases heq
   ·replace heq:=bif_false hb3 heq
    refine Cf (decide ((w64 (v_size3+(x2.length:Int)))<0)) hb3<|Ad 2 [.c [1,1,0,1,0,0,1,1,1],.l [1,1,0,1,0,0],.b 0,.c [1,1,1]]<|Kp [0,3,9,10,11] [(0,.slice Aa0 a0.length ca0),(3,iv (w64 (v_size3+(x2.length:Int)))),(9,.slice Aa0 a0.length ca0),(10,iv (a0.length:Int)),(11,iv v11)] ?_
    exact (slices_Concat_CacheAnswer.j5_c (backl4:=(slices_Concat_CacheAnswer.l4 e1 k)) ihk) a0 _ _ v_size3 v11 x2 hra0 hca0 heq
  ·replace heq:=bif_false hb2 heq
   refine Cf (decide (v11<(a0.length:Int))) hb2<|Ad 2 [.c [1,1,1,0],.c [1,1,1,1]]<|Kp [0,3] [(0,.slice Aa0 a0.length ca0),(3,iv v_size3)] ?_
   exact he1 a0 _ _ v_size3 hra0 hca0 heq
theorem slices_Concat_CacheAnswer_c {w0:World} {H:Hp} {F:List Ch} {a0:List (List CacheAnswer)} {Aa0:Option Addr} {na0:Nat} {ca0:Nat} {r:(List CacheAnswer)} (hra0:Rw (Kd.slice kCacheAnswer) H F Aa0 a0) (hca0:na0≤ca0) (hna0:na0=a0.length) (heq:slices_Concat_CacheAnswer.f a0=some r):CallsH Tryd.prog 52 #[.slice Aa0 na0 ca0] H w0 (F) (S52 F H r):=by
 refine calls_of_runH (F:=C52) Tryd.func52 (by kernel_rfl) Tryd.ntmps52 (args:=[.slice Aa0 na0 ca0]) (by kernel_rfl) ?_
 subst hna0
 unfold slices_Concat_CacheAnswer.f at heq
 refine Ra 1 [0] [.c [1]]<|Rd 1 [0] [(0,.slice Aa0 a0.length ca0)]<|Ra 1 [1,0] [.c [1,1]]<|Rd 1 [0,3] [(0,.slice Aa0 a0.length ca0),(3,iv 0)]<|Ra 2 [1,1,0,0] [.c [1,1,0,1],.c [1,1,1]]<|Rd 3 [0,3,9,10,11] [(0,.slice Aa0 a0.length ca0),(3,iv 0),(9,.slice Aa0 a0.length ca0),(10,iv (a0.length:Int)),(11,iv 0)]<|Ad 2 [.c [1,1,0,1,0,0],.l [1,1,0,1,0,0],.b 0,.c [1,1,1]]<|Kp [0,3,9,10,11] [(0,.slice Aa0 a0.length ca0),(3,iv 0),(9,.slice Aa0 a0.length ca0),(10,iv (a0.length:Int)),(11,iv 0)] ?_
 exact ((slices_Concat_CacheAnswer.l4_c (e1:=slices_Concat_CacheAnswer.e1) (slices_Concat_CacheAnswer.e1_c)) big) a0 _ _ 0 0 hra0 hca0 heq
noncomputable def C51:Ctx:={ P:=Tryd.prog,f:=51,N:=56,c:=bodyOf Tryd.f51 }
def S51 (F:List Ch) (H0:Hp) (r:Bool) (v:Value) (H:Hp) (cs:List Ch):Prop:=H0=H∧v=.bool r∧F=cs
theorem smithyardref7_SameAnswers.e1_c {w0:World} {H:Hp} {F:List Ch} {r:Bool}:smithyardref7_SameAnswers.e1=some r→RunH C51 (S51 F H r) H w0 [.c [1,1,1,0],.c [1,1,1,1]] [] H (F):=by
 intro   heq
 unfold smithyardref7_SameAnswers.e1 at heq
 refine Rr<|Rd 1 [4] [(4,.bool true)] ?_
 obtain rfl:=Option.some.inj heq
 exact RunH.done (by kernel_rfl) Tryd.func51 (v:=.bool true) (by kernel_rfl) ⟨rfl,rfl,rfl⟩
theorem smithyardref7_SameAnswers.l2_c {w0:World} {H:Hp} {F:List Ch} {r:Bool} (e1:Option Bool)
  (he1:e1=some r→RunH C51 (S51 F H r) H w0 [.c [1,1,1,0],.c [1,1,1,1]] [] H (F)):∀ (k:Nat),∀ (a0:List CacheAnswer) (Aa0:Option Addr) (ca0:Nat) (a1:List CacheAnswer) (Aa1:Option Addr) (ca1:Nat) (v_i5:Int) ,Rw kCacheAnswer H F Aa0 a0→a0.length≤ca0→Rw kCacheAnswer H F Aa1 a1→a1.length≤ca1→smithyardref7_SameAnswers.l2 e1 k a0 a1 v_i5=some r→RunH C51 (S51 F H r) H w0 [.c [1,1,0,1,0,0],.l [1,1,0,1,0,0],.b 0,.c [1,1,1]] [(0,.slice Aa0 a0.length ca0),(1,.slice Aa1 a1.length ca1),(5,iv v_i5)] H (F):=by
 intro k
 induction k with
 | zero=>intro a0 Aa0 ca0 a1 Aa1 ca1 v_i5 hra0 hca0 hra1 hca1 heq; exact nomatch (show (none:Option Bool)=some r from heq)
 | succ k ihk =>
  intro a0 Aa0 ca0 a1 Aa1 ca1 v_i5 hra0 hca0 hra1 hca1 heq
  rw [smithyardref7_SameAnswers.l2] at heq
  refine Ra 2 [1,1,0,1,0,0,0,0] [.c [1,1,0,1,0,0,0,1],.c [1,1,0,1,0,0,1],.l [1,1,0,1,0,0],.b 0,.c [1,1,1]]<|Rd 4 [0,1,5,14] [(0,.slice Aa0 a0.length ca0),(1,.slice Aa1 a1.length ca1),(5,iv v_i5),(14,.bool (decide (v_i5<(a0.length:Int))))] ?_
  rcases bool_cases (decide (v_i5<(a0.length:Int))) with hb2 | hb2
  ·replace heq:=bif_true hb2 heq
   refine Ct (decide (v_i5<(a0.length:Int))) hb2<|Ad 4 [.c [1,1,0,1,0,0,1,0,0,0],.c [1,1,0,1,0,0,1,0,0,1],.b 1,.c [1,1,0,1,0,0,1,1],.l [1,1,0,1,0,0],.b 0,.c [1,1,1]] ?_
   obtain ⟨t1,ht1,heq⟩:=bind_some heq
   have K1:RunH C51 (S51 F H r) H w0 [.c [1,1,0,1,0,0,1,0,0,1],.b 1,.c [1,1,0,1,0,0,1,1],.l [1,1,0,1,0,0],.b 0,.c [1,1,1]] [(0,.slice Aa0 a0.length ca0),(1,.slice Aa1 a1.length ca1),(5,iv v_i5),(55,.bool t1)] H (F):=by
    rcases bool_cases (t1) with hb5 | hb5
    ·replace heq:=bif_true hb5 heq
     refine Ct t1 hb5<|Ra 1 [1,1,0,1,0,0,1,0,0,1,0,0] [.c [1,1,0,1,0,0,1,0,0,1,0,1],.b 1,.c [1,1,0,1,0,0,1,1],.l [1,1,0,1,0,0],.b 0,.c [1,1,1]]<|Rd 1 [4] [(4,.bool false)] ?_
     obtain rfl:=Option.some.inj heq
     exact RunH.done (by kernel_rfl) Tryd.func51 (v:=.bool false) (by kernel_rfl) ⟨rfl,rfl,rfl⟩
    ·replace heq:=bif_false hb5 heq
     refine Cf t1 hb5<|Ra 2 [1,1,0,1,0,0,1,1] [.l [1,1,0,1,0,0],.b 0,.c [1,1,1]]<|Rd 3 [0,1,5] [(0,.slice Aa0 a0.length ca0),(1,.slice Aa1 a1.length ca1),(5,iv (w64 (v_i5+1)))]<|Ad 1 [.c [1,1,0,1,0,0],.l [1,1,0,1,0,0],.b 0,.c [1,1,1]]<|Kp [0,1,5] [(0,.slice Aa0 a0.length ca0),(1,.slice Aa1 a1.length ca1),(5,iv (w64 (v_i5+1)))] ?_
     exact ihk a0 _ _ a1 _ _ (w64 (v_i5+1)) hra0 hca0 hra1 hca1 heq
   replace heq:=ht1
   refine Kp [0,1,5] [(0,.slice Aa0 a0.length ca0),(1,.slice Aa1 a1.length ca1),(5,iv v_i5)] ?_
   refine RunH.draw (fun w=>Heap H w0 w (F)) (fun w=>Heap H w0 w (F)) [3,3,3,3,3,3,3,3,3,3,3,3,3,3,3,3,3,3,3,3,3,3,0,3,3,3,3,3,3,3,3,3,3,3,3,3,0,3,3] (n:=39) (ls:=[false,false,false,false,false,false,false,false,false,false,false,false,false,false,false,false,false,false,false,false,false,false,false,false,false,false,false,false,false,false,false,false,false,false,false,false,false,false,false]) (by kernel_rfl) (by kernel_rfl) (by kernel_rfl) rfl ?_
   obtain ⟨x1,hx1,heq⟩:=bind_some heq
   obtain ⟨ha1,cs1,hK1,hcc1⟩:=hra0.get hx1
   obtain ⟨A1,c1,A2,c2,rfl,hc1,hr1,hc2,hr2⟩:=kCacheAnswer_open hK1
   obtain ⟨x2,hx2,heq⟩:=bind_some heq
   obtain ⟨ha2,cs2,hK2,hcc2⟩:=hra1.get hx2
   obtain ⟨A3,c3,A4,c4,rfl,hc3,hr3,hc4,hr4⟩:=kCacheAnswer_open hK2
   refine Dk [0,1,2,3,4,5,6,7,8,9,10,11] 27 (nb 39 4095) [.bool x1.Done,.bool x2.Done] [.need (Aa0=some (adr Aa0)∧(0:Int)≤v_i5∧v_i5<((a0.length:Nat):Int)),.load (((adr Aa0).add (v_i5.toNat*3)).add 0) (.bool x1.Done),.need (Aa1=some (adr Aa1)∧(0:Int)≤v_i5∧v_i5<((a1.length:Nat):Int)),.load (((adr Aa1).add (v_i5.toNat*3)).add 0) (.bool x2.Done)] [28,0,1,5] [(28,.bool (!(x1.Done == x2.Done))),(0,.slice Aa0 a0.length ca0),(1,.slice Aa1 a1.length ca1),(5,iv v_i5)] (Pk 0 []) (Pk 0 []) (fun w hh=>⟨⟨ha1,(at?_some hx1).1,(at?_some hx1).2.1⟩,(hcc1 _ _ (hh.drop 0) 0 _ rfl),⟨ha2,(at?_some hx2).1,(at?_some hx2).2.1⟩,(hcc2 _ _ (hh.drop 0) 0 _ rfl)⟩) ?_
   rcases bool_cases (!(x1.Done == x2.Done)) with hb3 | hb3
   ·replace heq:=bif_true hb3 heq
    refine DrH.val1 (v':=.bool true) (congrArg Value.bool hb3) ?_
    refine Dk [12,13,14,15,16,17,18,19,20,21,22,23,24,25,26,27,28,29,30,31,32,33,34,35,36,37,38] 0 (nb 39 549755813887) [] [] [0,1,5,55] [(0,.slice Aa0 a0.length ca0),(1,.slice Aa1 a1.length ca1),(5,iv v_i5),(55,.bool true)] (Pk 0 []) (Pk 0 []) (fun _ _=>trivial) ?_
    obtain rfl:=Option.some.inj heq
    refine Kr [0,1,5,55] [(0,.slice Aa0 a0.length ca0),(1,.slice Aa1 a1.length ca1),(5,iv v_i5),(55,.bool true)] ?_
    refine DrH.done (by kernel_rfl) ?_
    exact K1
   ·replace heq:=bif_false hb3 heq
    refine DrH.val1 (v':=.bool false) (congrArg Value.bool hb3) ?_
    obtain ⟨ha3,cs3,hK3,hcc3⟩:=hra0.get hx1
    obtain ⟨A5,c5,A6,c6,rfl,hc5,hr5,hc6,hr6⟩:=kCacheAnswer_open hK3
    obtain ⟨ha4,cs4,hK4,hcc4⟩:=hra1.get hx2
    obtain ⟨A7,c7,A8,c8,rfl,hc7,hr7,hc8,hr8⟩:=kCacheAnswer_open hK4
    refine Dk [12,13,14,15,16,17,18,19,20,21] 17 (nb 39 4194303) [.slice A5 x1.Missing.length c5,.slice A7 x2.Missing.length c7] [.need (Aa0=some (adr Aa0)∧(0:Int)≤v_i5∧v_i5<((a0.length:Nat):Int)),.load (((adr Aa0).add (v_i5.toNat*3)).add 1) (.slice A5 x1.Missing.length c5),.need (Aa1=some (adr Aa1)∧(0:Int)≤v_i5∧v_i5<((a1.length:Nat):Int)),.load (((adr Aa1).add (v_i5.toNat*3)).add 1) (.slice A7 x2.Missing.length c7)] [0,1,5,28,33,38] [(0,.slice Aa0 a0.length ca0),(1,.slice Aa1 a1.length ca1),(5,iv v_i5),(28,.bool false),(33,.slice A5 x1.Missing.length c5),(38,.slice A7 x2.Missing.length c7)] (Pk 0 []) (Pk 0 []) (fun w hh=>⟨⟨ha3,(at?_some hx1).1,(at?_some hx1).2.1⟩,(hcc3 _ _ (hh.drop 0) 1 _ rfl),⟨ha4,(at?_some hx2).1,(at?_some hx2).2.1⟩,(hcc4 _ _ (hh.drop 0) 1 _ rfl)⟩) ?_
    obtain ⟨y1,hy1,heq⟩:=bind_some heq
    refine DrH.does (n:=16) (ls':=[true,true,true,true,true,true,true,true,true,true,true,true,true,true,true,true,true,true,true,true,true,true,true,false,false,false,false,false,false,false,false,false,false,false,false,false,false,false,false]) 22 (by kernel_rfl) rfl (DoesH.call (d:=39) (g:=56) (args:=#[.slice A5 x1.Missing.length c5,.slice A7 x2.Missing.length c7]) (by kernel_rfl) (smithyardref7_sameList_c (a0:=x1.Missing) (a1:=x2.Missing) (Rw.of hr5) hc5 rfl (Rw.of hr7) hc7 rfl hy1)) ?_
    rintro _ _ _ _ ⟨_,rfl,rfl,rfl,rfl⟩
    refine ⟨fun _ w hh=>⟨fun _=>(Pk 0 []) w hh,fun _=>(Pk 0 []) w hh,(fun h=>by cases h)⟩,?_⟩
    refine Dk [23,24,25] 13 (nb 39 67108863) [] [] [42,0,1,5] [(42,.bool (!y1)),(0,.slice Aa0 a0.length ca0),(1,.slice Aa1 a1.length ca1),(5,iv v_i5)] (Pk 0 []) (Pk 0 []) (fun _ _=>trivial) ?_
    rcases bool_cases (!y1) with hb4 | hb4
    ·replace heq:=bif_true hb4 heq
     refine DrH.val1 (v':=.bool true) (congrArg Value.bool hb4) ?_
     refine Dk [26,27,28,29,30,31,32,33,34,35,36,37,38] 0 (nb 39 549755813887) [] [] [0,1,5,55] [(0,.slice Aa0 a0.length ca0),(1,.slice Aa1 a1.length ca1),(5,iv v_i5),(55,.bool true)] (Pk 0 []) (Pk 0 []) (fun _ _=>trivial) ?_
     obtain rfl:=Option.some.inj heq
     refine Kr [0,1,5,55] [(0,.slice Aa0 a0.length ca0),(1,.slice Aa1 a1.length ca1),(5,iv v_i5),(55,.bool true)] ?_
     refine DrH.done (by kernel_rfl) ?_
     exact K1
    ·replace heq:=bif_false hb4 heq
     refine DrH.val1 (v':=.bool false) (congrArg Value.bool hb4) ?_
     obtain ⟨ha5,cs5,hK5,hcc5⟩:=hra0.get hx1
     obtain ⟨A9,c9,A10,c10,rfl,hc9,hr9,hc10,hr10⟩:=kCacheAnswer_open hK5
     obtain ⟨ha6,cs6,hK6,hcc6⟩:=hra1.get hx2
     obtain ⟨A11,c11,A12,c12,rfl,hc11,hr11,hc12,hr12⟩:=kCacheAnswer_open hK6
     refine Dk [26,27,28,29,30,31,32,33,34,35] 3 (nb 39 68719476735) [.slice A10 x1.Gone.length c10,.slice A12 x2.Gone.length c12] [.need (Aa0=some (adr Aa0)∧(0:Int)≤v_i5∧v_i5<((a0.length:Nat):Int)),.load (((adr Aa0).add (v_i5.toNat*3)).add 2) (.slice A10 x1.Gone.length c10),.need (Aa1=some (adr Aa1)∧(0:Int)≤v_i5∧v_i5<((a1.length:Nat):Int)),.load (((adr Aa1).add (v_i5.toNat*3)).add 2) (.slice A12 x2.Gone.length c12)] [0,1,5,42,47,52] [(0,.slice Aa0 a0.length ca0),(1,.slice Aa1 a1.length ca1),(5,iv v_i5),(42,.bool false),(47,.slice A10 x1.Gone.length c10),(52,.slice A12 x2.Gone.length c12)] (Pk 0 []) (Pk 0 []) (fun w hh=>⟨⟨ha5,(at?_some hx1).1,(at?_some hx1).2.1⟩,(hcc5 _ _ (hh.drop 0) 2 _ rfl),⟨ha6,(at?_some hx2).1,(at?_some hx2).2.1⟩,(hcc6 _ _ (hh.drop 0) 2 _ rfl)⟩) ?_
     obtain ⟨y2,hy2,heq⟩:=bind_some heq
     refine DrH.does (n:=2) (ls':=[true,true,true,true,true,true,true,true,true,true,true,true,true,true,true,true,true,true,true,true,true,true,true,true,true,true,true,true,true,true,true,true,true,true,true,true,true,false,false]) 36 (by kernel_rfl) rfl (DoesH.call (d:=53) (g:=56) (args:=#[.slice A10 x1.Gone.length c10,.slice A12 x2.Gone.length c12]) (by kernel_rfl) (smithyardref7_sameList_c (a0:=x1.Gone) (a1:=x2.Gone) (Rw.of hr10) hc10 rfl (Rw.of hr12) hc12 rfl hy2)) ?_
     rintro _ _ _ _ ⟨_,rfl,rfl,rfl,rfl⟩
     refine ⟨fun _ w hh=>⟨fun _=>(Pk 0 []) w hh,fun _=>(Pk 0 []) w hh,(fun h=>by cases h)⟩,?_⟩
     refine Dk [37,38] 0 (nb 39 549755813887) [] [] [0,1,5,55] [(0,.slice Aa0 a0.length ca0),(1,.slice Aa1 a1.length ca1),(5,iv v_i5),(55,.bool (!y2))] (Pk 0 []) (Pk 0 []) (fun _ _=>trivial) ?_
     obtain rfl:=Option.some.inj heq
     refine Kr [0,1,5,55] [(0,.slice Aa0 a0.length ca0),(1,.slice Aa1 a1.length ca1),(5,iv v_i5),(55,.bool (!y2))] ?_
     refine DrH.done (by kernel_rfl) ?_
     exact K1
  ·replace heq:=bif_false hb2 heq
   refine Cf (decide (v_i5<(a0.length:Int))) hb2<|Ad 2 [.c [1,1,1,0],.c [1,1,1,1]]<|Kp [] [] ?_
   exact he1 heq
theorem smithyardref7_SameAnswers_c {w0:World} {H:Hp} {F:List Ch} {a0:List CacheAnswer} {Aa0:Option Addr} {na0:Nat} {ca0:Nat} {a1:List CacheAnswer} {Aa1:Option Addr} {na1:Nat} {ca1:Nat} {r:Bool} (hra0:Rw kCacheAnswer H F Aa0 a0) (hca0:na0≤ca0) (hna0:na0=a0.length) (hra1:Rw kCacheAnswer H F Aa1 a1) (hca1:na1≤ca1) (hna1:na1=a1.length) (heq:smithyardref7_SameAnswers.f a0 a1=some r):CallsH Tryd.prog 51 #[.slice Aa0 na0 ca0,.slice Aa1 na1 ca1] H w0 (F) (S51 F H r):=by
 refine calls_of_runH (F:=C51) Tryd.func51 (by kernel_rfl) Tryd.ntmps51 (args:=[.slice Aa0 na0 ca0,.slice Aa1 na1 ca1]) (by kernel_rfl) ?_
 subst hna0
 subst hna1
 unfold smithyardref7_SameAnswers.f at heq
 refine Ra 1 [0] [.c [1]]<|Rd 1 [0,1] [(0,.slice Aa0 a0.length ca0),(1,.slice Aa1 a1.length ca1)]<|Ra 2 [1,0,0] [.c [1,0,1],.c [1,1]]<|Rd 5 [0,1,10] [(0,.slice Aa0 a0.length ca0),(1,.slice Aa1 a1.length ca1),(10,.bool ((a0.length:Int) != (a1.length:Int)))] ?_
 rcases bool_cases ((a0.length:Int) != (a1.length:Int)) with hb1 | hb1
 ·replace heq:=bif_true hb1 heq
  refine Ct ((a0.length:Int) != (a1.length:Int)) hb1<|Ra 1 [1,0,1,0,0] [.c [1,0,1,0,1],.c [1,1]]<|Rd 1 [4] [(4,.bool false)] ?_
  obtain rfl:=Option.some.inj heq
  exact RunH.done (by kernel_rfl) Tryd.func51 (v:=.bool false) (by kernel_rfl) ⟨rfl,rfl,rfl⟩
 ·replace heq:=bif_false hb1 heq
  refine Cf ((a0.length:Int) != (a1.length:Int)) hb1<|Ra 3 [1,1,0,0] [.c [1,1,0,1],.c [1,1,1]]<|Rd 1 [0,1,5] [(0,.slice Aa0 a0.length ca0),(1,.slice Aa1 a1.length ca1),(5,iv 0)]<|Ad 2 [.c [1,1,0,1,0,0],.l [1,1,0,1,0,0],.b 0,.c [1,1,1]]<|Kp [0,1,5] [(0,.slice Aa0 a0.length ca0),(1,.slice Aa1 a1.length ca1),(5,iv 0)] ?_
  exact ((smithyardref7_SameAnswers.l2_c (e1:=smithyardref7_SameAnswers.e1) (smithyardref7_SameAnswers.e1_c)) big) a0 _ _ a1 _ _ 0 hra0 hca0 hra1 hca1 heq
noncomputable def C15:Ctx:={ P:=Tryd.prog,f:=15,N:=90,c:=bodyOf Tryd.f15 }
def S15 (F:List Ch) (H0:Hp) (r:Bool) (v:Value) (H:Hp) (cs:List Ch):Prop:=v=.bool r∧F=cs
theorem smithyardlaw7_CacheFollowsOn_c {w0:World} {H0:Hp} {F:List Ch} {a0:Cache} {Aa0_2:Option Addr} {na0_2:Nat} {ca0_2:Nat} {Aa0_3:Option Addr} {na0_3:Nat} {ca0_3:Nat} {a1:List CacheEvent} {Aa1:Option Addr} {na1:Nat} {ca1:Nat} {a2:List CacheEvent} {Aa2:Option Addr} {na2:Nat} {ca2:Nat} {r:Bool} (hra0_2:Rw kBlob H0 F Aa0_2 a0.Blobs) (hca0_2:na0_2≤ca0_2) (hna0_2:na0_2=a0.Blobs.length) (hra0_3:Rw kEntry H0 F Aa0_3 a0.Entries) (hca0_3:na0_3≤ca0_3) (hna0_3:na0_3=a0.Entries.length) (hra1:Kd.Row kCacheEvent H0 Aa1 a1) (hca1:na1≤ca1) (hna1:na1=a1.length) (hra2:Kd.Row kCacheEvent H0 Aa2 a2) (hca2:na2≤ca2) (hna2:na2=a2.length) (heq:smithyardlaw7_CacheFollowsOn.f a0 a1 a2=some r):CallsH Tryd.prog 15 #[.agg #[iv a0.Room,iv a0.Lease,.slice Aa0_2 na0_2 ca0_2,.slice Aa0_3 na0_3 ca0_3],.slice Aa1 na1 ca1,.slice Aa2 na2 ca2] H0 w0 (F) (S15 F H0 r):=by
 refine calls_of_runH (F:=C15) Tryd.func15 (by kernel_rfl) Tryd.ntmps15 (args:=[.agg #[iv a0.Room,iv a0.Lease,.slice Aa0_2 na0_2 ca0_2,.slice Aa0_3 na0_3 ca0_3],.slice Aa1 na1 ca1,.slice Aa2 na2 ca2]) (by kernel_rfl) ?_
 subst hna0_2
 subst hna0_3
 subst hna1
 subst hna2
 unfold smithyardlaw7_CacheFollowsOn.f at heq
 suffices key:∀ (H:Hp),Rw kBlob H F Aa0_2 a0.Blobs→Rw kEntry H F Aa0_3 a0.Entries→Kd.Row kCacheEvent H Aa1 a1→Kd.Row kCacheEvent H Aa2 a2→RunH C15 (S15 F H0 r) H0 w0 [.c []] (argL 0 [.agg #[iv a0.Room,iv a0.Lease,.slice Aa0_2 (a0.Blobs.length) ca0_2,.slice Aa0_3 (a0.Entries.length) ca0_3],.slice Aa1 (a1.length) ca1,.slice Aa2 (a2.length) ca2]) H (F) from key H0 hra0_2 hra0_3 hra1 hra2
 intro H hra0_2 hra0_3 hra1 hra2
 refine Ra 1 [0] [.c [1]] ?_
 refine RgH.does (DoesH.new (d:=3) (v:=fun g=>.pointer (some ⟨g,0,none⟩)) (o:=fun g=>.cells #[iv a0.Room,iv a0.Lease,.slice Aa0_2 a0.Blobs.length ca0_2,.slice Aa0_3 a0.Entries.length ca0_3] 25 (0,0)) (fun g=>by kernel_rfl)) ?_
 rintro _ _ _ _ ⟨g1,rfl,rfl,rfl⟩
 refine Rd 2 [1,2,3] [(1,.slice Aa1 a1.length ca1),(2,.slice Aa2 a2.length ca2),(3,pg g1 0)]<|Ra 1 [1,0] [.c [1,1]]<|Rv 2 [1,2,3,16,17] [iv a0.Room,iv a0.Lease,.slice Aa0_2 a0.Blobs.length ca0_2,.slice Aa0_3 a0.Entries.length ca0_3] [.load ⟨g1,0,none⟩ (iv a0.Room),.load ⟨g1,1,none⟩ (iv a0.Lease),.load ⟨g1,2,none⟩ (.slice Aa0_2 a0.Blobs.length ca0_2),.load ⟨g1,3,none⟩ (.slice Aa0_3 a0.Entries.length ca0_3)] [(1,.slice Aa1 a1.length ca1),(2,.slice Aa2 a2.length ca2),(3,pg g1 0),(16,.agg #[iv a0.Room,iv a0.Lease,.slice Aa0_2 a0.Blobs.length ca0_2,.slice Aa0_3 a0.Entries.length ca0_3]),(17,.slice Aa1 a1.length ca1)] (fun w hh=>⟨(hh.box 0 rfl rfl),(hh.box 0 rfl rfl),(hh.box 0 rfl rfl),(hh.box 0 rfl rfl)⟩) ?_
 obtain ⟨y1,hy1,heq⟩:=bind_some heq
 refine RgH.does (DoesH.call (d:=18) (g:=48) (args:=#[.agg #[iv a0.Room,iv a0.Lease,.slice Aa0_2 a0.Blobs.length ca0_2,.slice Aa0_3 a0.Entries.length ca0_3],.slice Aa1 a1.length ca1]) (by kernel_rfl) (cache_Follow_c (a0:=a0) (a1:=a1) (hra0_2.wk (fun _ h=>(.tail _ h))) hca0_2 rfl (hra0_3.wk (fun _ h=>(.tail _ h))) hca0_3 rfl (Rw.of hra1) hca1 rfl hy1)) ?_
 rintro _ H _ hl ⟨_,rfl,A1,c1,ch1,A2,c2,ch2,A3,c3,ch3,rfl,rfl,ho1,ho2,ho3⟩
 replace hra1:=hra1.mono hl
 replace hra2:=hra2.mono hl
 replace hra0_2:=hra0_2.mono hl
 replace hra0_3:=hra0_3.mono hl
 refine Rk 7 [1,2,3,19,20,21] [(1,.slice Aa1 a1.length ca1),(2,.slice Aa2 a2.length ca2),(3,pg g1 0),(19,.agg #[iv y1.1.Room,iv y1.1.Lease,.slice A1 y1.1.Blobs.length c1,.slice A2 y1.1.Entries.length c2]),(20,.slice A3 y1.2.1.length c3),(21,iv y1.2.2)] ?_
 refine RgH.does (DoesH.new (d:=7) (v:=fun g=>.pointer (some ⟨g,0,none⟩)) (o:=fun g=>.cells #[iv 0,iv 0,.slice none 0 0,.slice none 0 0] 25 (0,0)) (fun g=>by kernel_rfl)) ?_
 rintro _ _ _ _ ⟨g2,rfl,rfl,rfl⟩
 refine RgH.does (DoesH.store (k:=0) (g:=g2) (off:=0) (v:=.agg #[iv y1.1.Room,iv y1.1.Lease,.slice A1 y1.1.Blobs.length c1,.slice A2 y1.1.Entries.length c2]) (cells':=#[iv y1.1.Room,iv y1.1.Lease,.slice A1 y1.1.Blobs.length c1,.slice A2 y1.1.Entries.length c2]) (by kernel_rfl) rfl (by kernel_rfl) (by kernel_rfl)) ?_
 rintro _ _ _ _ ⟨rfl,rfl,rfl⟩
 refine Rd 11 [1,2,3,7,8,9] [(1,.slice Aa1 a1.length ca1),(2,.slice Aa2 a2.length ca2),(3,pg g1 0),(7,pg g2 0),(8,.slice A3 y1.2.1.length c3),(9,iv y1.2.2)]<|Ra 2 [1,1,0,0] [.c [1,1,0,1],.c [1,1,1]]<|Rd 2 [1,2,3,7,8,23] [(1,.slice Aa1 a1.length ca1),(2,.slice Aa2 a2.length ca2),(3,pg g1 0),(7,pg g2 0),(8,.slice A3 y1.2.1.length c3),(23,.bool (y1.2.2 != 0))] ?_
 rcases bool_cases (y1.2.2 != 0) with hb1 | hb1
 ·replace heq:=bif_true hb1 heq
  refine Ct (y1.2.2 != 0) hb1<|Ad 1 [.c [1,1,0,1,0,0],.c [1,1,0,1,0,1],.c [1,1,1]] ?_
  obtain ⟨t1,ht1,heq⟩:=bind_some heq
  have K6:∀ (H:Hp),RunH C15 (S15 F H0 r) H0 w0 [.c [1,1,0,1,0,1],.c [1,1,1]] [(6,.bool t1)] H (F):=by
   intro H
   obtain rfl:=Option.some.inj heq
   exact RunH.done (by kernel_rfl) Tryd.func15 (v:=.bool t1) (by kernel_rfl) ⟨rfl,rfl⟩
  replace heq:=ht1
  refine Rr<|Rv 5 [28,8] [.slice A1 y1.1.Blobs.length c1] [.load ⟨g2,2,none⟩ (.slice A1 y1.1.Blobs.length c1)] [(28,.bool ((y1.1.Blobs.length:Int) == 0)),(8,.slice A3 y1.2.1.length c3)] (fun w hh=>(hh.box 0 rfl rfl)) ?_
  rcases bool_cases ((y1.1.Blobs.length:Int) == 0) with hb2 | hb2
  ·replace heq:=bif_true hb2 heq
   refine RgH.val1 (v':=.bool true) (congrArg Value.bool hb2) ?_
   refine Rk 10 [33] [(33,.bool ((y1.2.1.length:Int) == 0))] ?_
   rcases bool_cases ((y1.2.1.length:Int) == 0) with hb3 | hb3
   ·replace heq:=bif_true hb3 heq
    refine RgH.val1 (v':=.bool true) (congrArg Value.bool hb3) ?_
    obtain ⟨y2,hy2,heq⟩:=bind_some heq
    refine RgH.does (DoesH.call (d:=34) (g:=29) (args:=(List.toArray [])) (by kernel_rfl) (smithyardlaw7_awake_c  hy2)) ?_
    rintro _ _ _ _ ⟨_,rfl,rfl,rfl,rfl⟩
    refine Rk 13 [6] [(6,.bool y2)] ?_
    obtain rfl:=Option.some.inj heq
    refine Kg [6] [(6,.bool y2)] ?_
    refine RgH.pick 5 [] (cs':=F) (by kernel_rfl) rfl ?_
    refine Dn ?_
    exact K6 _
   ·replace heq:=bif_false hb3 heq
    refine RgH.val1 (v':=.bool false) (congrArg Value.bool hb3) ?_
    refine Rk 13 [6] [(6,.bool false)] ?_
    obtain rfl:=Option.some.inj heq
    refine Kg [6] [(6,.bool false)] ?_
    refine RgH.pick 5 [] (cs':=F) (by kernel_rfl) rfl ?_
    refine Dn ?_
    exact K6 _
  ·replace heq:=bif_false hb2 heq
   refine RgH.val1 (v':=.bool false) (congrArg Value.bool hb2) ?_
   refine Rk 13 [6] [(6,.bool false)] ?_
   obtain rfl:=Option.some.inj heq
   refine Kg [6] [(6,.bool false)] ?_
   refine RgH.pick 5 [] (cs':=F) (by kernel_rfl) rfl ?_
   refine Dn ?_
   exact K6 _
 ·replace heq:=bif_false hb1 heq
  refine Cf (y1.2.2 != 0) hb1<|Ra 2 [1,1,1,0] [.c [1,1,1,1]]<|Rv 2 [1,2,3,8,37,38] [iv y1.1.Room,iv y1.1.Lease,.slice A1 y1.1.Blobs.length c1,.slice A2 y1.1.Entries.length c2] [.load ⟨g2,0,none⟩ (iv y1.1.Room),.load ⟨g2,1,none⟩ (iv y1.1.Lease),.load ⟨g2,2,none⟩ (.slice A1 y1.1.Blobs.length c1),.load ⟨g2,3,none⟩ (.slice A2 y1.1.Entries.length c2)] [(1,.slice Aa1 a1.length ca1),(2,.slice Aa2 a2.length ca2),(3,pg g1 0),(8,.slice A3 y1.2.1.length c3),(37,.agg #[iv y1.1.Room,iv y1.1.Lease,.slice A1 y1.1.Blobs.length c1,.slice A2 y1.1.Entries.length c2]),(38,.slice Aa2 a2.length ca2)] (fun w hh=>⟨(hh.box 0 rfl rfl),(hh.box 0 rfl rfl),(hh.box 0 rfl rfl),(hh.box 0 rfl rfl)⟩) ?_
  obtain ⟨y3,hy3,heq⟩:=bind_some heq
  refine RgH.does (DoesH.call (d:=39) (g:=48) (args:=#[.agg #[iv y1.1.Room,iv y1.1.Lease,.slice A1 y1.1.Blobs.length c1,.slice A2 y1.1.Entries.length c2],.slice Aa2 a2.length ca2]) (by kernel_rfl) (cache_Follow_c (a0:=(⟨y1.1.Room,y1.1.Lease,y1.1.Blobs,y1.1.Entries⟩:Cache)) (a1:=a2) (ho1.rw (.tail _ (.head _))) ho1.cap rfl (ho2.rw (.tail _ (.tail _ (.head _)))) ho2.cap rfl (Rw.of hra2) hca2 rfl hy3)) ?_
  rintro _ H _ hl ⟨_,rfl,A4,c4,ch4,A5,c5,ch5,A6,c6,ch6,rfl,rfl,ho4,ho5,ho6⟩
  replace hra1:=hra1.mono hl
  replace hra2:=hra2.mono hl
  replace hra0_2:=hra0_2.mono hl
  replace hra0_3:=hra0_3.mono hl
  replace ho3:=ho3.mono hl
  replace ho1:=ho1.mono hl
  replace ho2:=ho2.mono hl
  refine Rk 7 [1,2,3,8,40,41,42] [(1,.slice Aa1 a1.length ca1),(2,.slice Aa2 a2.length ca2),(3,pg g1 0),(8,.slice A3 y1.2.1.length c3),(40,.agg #[iv y3.1.Room,iv y3.1.Lease,.slice A4 y3.1.Blobs.length c4,.slice A5 y3.1.Entries.length c5]),(41,.slice A6 y3.2.1.length c6),(42,iv y3.2.2)] ?_
  refine RgH.does (DoesH.new (d:=10) (v:=fun g=>.pointer (some ⟨g,0,none⟩)) (o:=fun g=>.cells #[iv 0,iv 0,.slice none 0 0,.slice none 0 0] 25 (0,0)) (fun g=>by kernel_rfl)) ?_
  rintro _ _ _ _ ⟨g3,rfl,rfl,rfl⟩
  refine RgH.does (DoesH.store (k:=0) (g:=g3) (off:=0) (v:=.agg #[iv y3.1.Room,iv y3.1.Lease,.slice A4 y3.1.Blobs.length c4,.slice A5 y3.1.Entries.length c5]) (cells':=#[iv y3.1.Room,iv y3.1.Lease,.slice A4 y3.1.Blobs.length c4,.slice A5 y3.1.Entries.length c5]) (by kernel_rfl) rfl (by kernel_rfl) (by kernel_rfl)) ?_
  rintro _ _ _ _ ⟨rfl,rfl,rfl⟩
  refine Rd 11 [1,2,3,8,9,10,11] [(1,.slice Aa1 a1.length ca1),(2,.slice Aa2 a2.length ca2),(3,pg g1 0),(8,.slice A3 y1.2.1.length c3),(9,iv y3.2.2),(10,pg g3 0),(11,.slice A6 y3.2.1.length c6)]<|Ad 1 [.c [1,1,1,1,0],.c [1,1,1,1,1]]<|Kp [1,2,3,8,9,10,11] [(1,.slice Aa1 a1.length ca1),(2,.slice Aa2 a2.length ca2),(3,pg g1 0),(8,.slice A3 y1.2.1.length c3),(9,iv y3.2.2),(10,pg g3 0),(11,.slice A6 y3.2.1.length c6)] ?_
  refine RunH.draw (fun w=>Heap H w0 w ((some (g3,.cells #[iv y3.1.Room,iv y3.1.Lease,.slice A4 y3.1.Blobs.length c4,.slice A5 y3.1.Entries.length c5] 25 (0,0)))::ch4::ch5::ch6::(some (g2,.cells #[iv y1.1.Room,iv y1.1.Lease,.slice A1 y1.1.Blobs.length c1,.slice A2 y1.1.Entries.length c2] 25 (0,0)))::ch1::ch2::ch3::(some (g1,.cells #[iv a0.Room,iv a0.Lease,.slice Aa0_2 a0.Blobs.length ca0_2,.slice Aa0_3 a0.Entries.length ca0_3] 25 (0,0)))::F)) (fun w=>Heap H w0 w ((some (g3,.cells #[iv y3.1.Room,iv y3.1.Lease,.slice A4 y3.1.Blobs.length c4,.slice A5 y3.1.Entries.length c5] 25 (0,0)))::ch4::ch5::ch6::(some (g2,.cells #[iv y1.1.Room,iv y1.1.Lease,.slice A1 y1.1.Blobs.length c1,.slice A2 y1.1.Entries.length c2] 25 (0,0)))::ch1::ch2::ch3::(some (g1,.cells #[iv a0.Room,iv a0.Lease,.slice Aa0_2 a0.Blobs.length ca0_2,.slice Aa0_3 a0.Entries.length ca0_3] 25 (0,0)))::F)) [3,3,3,0,0,0,3,3,3,3,0,0,3,3] (n:=14) (ls:=[false,false,false,false,false,false,false,false,false,false,false,false,false,false]) (by kernel_rfl) (by kernel_rfl) (by kernel_rfl) rfl ?_
  refine Dk [0,1,2] 11 (nb 14 7) [iv a0.Room,iv a0.Lease,.slice Aa0_2 a0.Blobs.length ca0_2,.slice Aa0_3 a0.Entries.length ca0_3] [.load ⟨g1,0,none⟩ (iv a0.Room),.load ⟨g1,1,none⟩ (iv a0.Lease),.load ⟨g1,2,none⟩ (.slice Aa0_2 a0.Blobs.length ca0_2),.load ⟨g1,3,none⟩ (.slice Aa0_3 a0.Entries.length ca0_3)] [1,2,8,9,10,11,44,45,46] [(1,.slice Aa1 a1.length ca1),(2,.slice Aa2 a2.length ca2),(8,.slice A3 y1.2.1.length c3),(9,iv y3.2.2),(10,pg g3 0),(11,.slice A6 y3.2.1.length c6),(44,.agg #[iv a0.Room,iv a0.Lease,.slice Aa0_2 a0.Blobs.length ca0_2,.slice Aa0_3 a0.Entries.length ca0_3]),(45,.slice Aa1 a1.length ca1),(46,.slice Aa2 a2.length ca2)] (Pk 9 [0,1,2,3,4,5,6,7,8]) (Pk 9 [0,1,2,3,4,5,6,7,8]) (fun w hh=>⟨(hh.box 8 rfl rfl),(hh.box 8 rfl rfl),(hh.box 8 rfl rfl),(hh.box 8 rfl rfl)⟩) ?_
  refine DrF.start [(10,12,none,.cells #[iv 0,iv 0,.slice none 0 0,.slice none 0 0] 25 (0,0))] (n:=10) (by kernel_rfl) ?_
  refine DrF.keep [1,2,8,9,10,11,44,45,46] (L':=[(1,.slice Aa1 a1.length ca1),(2,.slice Aa2 a2.length ca2),(8,.slice A3 y1.2.1.length c3),(9,iv y3.2.2),(10,pg g3 0),(11,.slice A6 y3.2.1.length c6),(44,.agg #[iv a0.Room,iv a0.Lease,.slice Aa0_2 a0.Blobs.length ca0_2,.slice Aa0_3 a0.Entries.length ca0_3]),(45,.slice Aa1 a1.length ca1),(46,.slice Aa2 a2.length ca2)]) (by kernel_rfl) (by kernel_rfl) ?_
  refine DrF.does1 (n:=9) (ls':=[true,true,true,true,false,false,false,false,false,false,false,false,false,false]) (by kernel_rfl) 3 ⟨fun E g=>by kernel_rfl,trivial⟩ (by kernel_rfl) (by kernel_rfl) rfl (fun w hh=>⟨(Pk 9 [0,1,2,3,4,5,6,7,8]) w hh,(Pk 9 [0,1,2,3,4,5,6,7,8]) w hh⟩) (fun fc1 fE1=>DoesH.new (d:=47) (v:=fun g=>.slice (some ⟨g,0,none⟩) 2 2) (o:=fun g=>.cells #[.slice Aa1 a1.length ca1,.slice Aa2 a2.length ca2] 72 (0,0)) (fun g=>by kernel_rfl)) ?_
  rintro fc1 fE1
  rintro _ _ _ _ ⟨g4,rfl,rfl,rfl⟩
  have ho7:SlOwn (Kd.slice kCacheEvent) 72 H (some ⟨g4,0,none⟩) 2 ([a1,a2]:List (List CacheEvent)) (some (g4,.cells #[.slice Aa1 a1.length ca1,.slice Aa2 a2.length ca2] 72 (0,0))):=SlOwn.lit (xs:=([a1,a2]:List (List CacheEvent))) (by kernel_rfl) (Nat.le_of_ble_eq_true (by kernel_rfl)) (Rep.append rfl (Kd.Rep.oneS hca1 hra1) (Kd.Rep.oneS hca2 hra2))
  refine ⟨fun _ w hh=>⟨fun _=>(Pk 11 [2,3,4,5,6,7,8,9,10]) w hh,fun _=>(Pk 11 [2,3,4,5,6,7,8,9,10]) w hh,(fun h=>by cases h)⟩,[(47,.slice (some ⟨g4,0,none⟩) 2 2),(1,.slice Aa1 a1.length ca1),(2,.slice Aa2 a2.length ca2),(8,.slice A3 y1.2.1.length c3),(9,iv y3.2.2),(10,pg g3 0),(11,.slice A6 y3.2.1.length c6),(44,.agg #[iv a0.Room,iv a0.Lease,.slice Aa0_2 a0.Blobs.length ca0_2,.slice Aa0_3 a0.Entries.length ca0_3]),(45,.slice Aa1 a1.length ca1),(46,.slice Aa2 a2.length ca2)],(some (g4,.cells #[.slice Aa1 a1.length ca1,.slice Aa2 a2.length ca2] 72 (0,0)))::(some (g3,.cells #[iv y3.1.Room,iv y3.1.Lease,.slice A4 y3.1.Blobs.length c4,.slice A5 y3.1.Entries.length c5] 25 (0,0)))::ch4::ch5::ch6::(some (g2,.cells #[iv y1.1.Room,iv y1.1.Lease,.slice A1 y1.1.Blobs.length c1,.slice A2 y1.1.Entries.length c2] 25 (0,0)))::ch1::ch2::ch3::(some (g1,.cells #[iv a0.Room,iv a0.Lease,.slice Aa0_2 a0.Blobs.length ca0_2,.slice Aa0_3 a0.Entries.length ca0_3] 25 (0,0)))::F,rfl,(Pk 11 [1,0,2,3,4,5,6,7,8,9,10]),?_⟩
  refine DrF.keep [1,2,8,9,10,11,44,47] (L':=[(1,.slice Aa1 a1.length ca1),(2,.slice Aa2 a2.length ca2),(8,.slice A3 y1.2.1.length c3),(9,iv y3.2.2),(10,pg g3 0),(11,.slice A6 y3.2.1.length c6),(44,.agg #[iv a0.Room,iv a0.Lease,.slice Aa0_2 a0.Blobs.length ca0_2,.slice Aa0_3 a0.Entries.length ca0_3]),(47,.slice (some ⟨g4,0,none⟩) 2 2)]) (by kernel_rfl) (by kernel_rfl) ?_
  obtain ⟨y4,hy4,heq⟩:=bind_some heq
  refine DrF.does1 (n:=8) (ls':=[true,true,true,true,true,false,false,false,false,false,false,false,false,false]) (by kernel_rfl) 4 ⟨fun E g=>by kernel_rfl,trivial⟩ (by kernel_rfl) (by kernel_rfl) rfl (fun w hh=>⟨(Pk 10 [1,2,3,4,5,6,7,8,9]) w hh,(Pk 10 [1,2,3,4,5,6,7,8,9]) w hh⟩) (fun fc2 fE2=>DoesH.call (d:=48) (g:=50) (args:=#[.slice (some ⟨g4,0,none⟩) 2 2]) (by kernel_rfl) (slices_Concat_CacheEvent_c (a0:=([a1,a2]:List (List CacheEvent))) (ho7.rw (.tail _ (.head _))) ho7.cap rfl hy4)) ?_
  rintro fc2 fE2
  rintro _ _ _ _ ⟨_,rfl,A7,c7,ch7,rfl,rfl,rfl,ho8⟩
  refine ⟨fun _ w hh=>⟨fun _=>(Pk 12 [3,4,5,6,7,8,9,10,11]) w hh,fun _=>(Pk 12 [3,4,5,6,7,8,9,10,11]) w hh,(fun h=>by cases h)⟩,[(48,.slice A7 y4.length c7),(1,.slice Aa1 a1.length ca1),(2,.slice Aa2 a2.length ca2),(8,.slice A3 y1.2.1.length c3),(9,iv y3.2.2),(10,pg g3 0),(11,.slice A6 y3.2.1.length c6),(44,.agg #[iv a0.Room,iv a0.Lease,.slice Aa0_2 a0.Blobs.length ca0_2,.slice Aa0_3 a0.Entries.length ca0_3]),(47,.slice (some ⟨g4,0,none⟩) 2 2)],ch7::(some (g4,.cells #[.slice Aa1 a1.length ca1,.slice Aa2 a2.length ca2] 72 (0,0)))::(some (g3,.cells #[iv y3.1.Room,iv y3.1.Lease,.slice A4 y3.1.Blobs.length c4,.slice A5 y3.1.Entries.length c5] 25 (0,0)))::ch4::ch5::ch6::(some (g2,.cells #[iv y1.1.Room,iv y1.1.Lease,.slice A1 y1.1.Blobs.length c1,.slice A2 y1.1.Entries.length c2] 25 (0,0)))::ch1::ch2::ch3::(some (g1,.cells #[iv a0.Room,iv a0.Lease,.slice Aa0_2 a0.Blobs.length ca0_2,.slice Aa0_3 a0.Entries.length ca0_3] 25 (0,0)))::F,rfl,(Pk 12 [1,0,2,3,4,5,6,7,8,9,10,11]),?_⟩
  refine DrF.keep [1,2,8,9,10,11,44,48] (L':=[(1,.slice Aa1 a1.length ca1),(2,.slice Aa2 a2.length ca2),(8,.slice A3 y1.2.1.length c3),(9,iv y3.2.2),(10,pg g3 0),(11,.slice A6 y3.2.1.length c6),(44,.agg #[iv a0.Room,iv a0.Lease,.slice Aa0_2 a0.Blobs.length ca0_2,.slice Aa0_3 a0.Entries.length ca0_3]),(48,.slice A7 y4.length c7)]) (by kernel_rfl) (by kernel_rfl) ?_
  obtain ⟨y5,hy5,heq⟩:=bind_some heq
  refine DrF.does1 (n:=7) (ls':=[true,true,true,true,true,true,false,false,false,false,false,false,false,false]) (by kernel_rfl) 5 ⟨fun E g=>by kernel_rfl,trivial⟩ (by kernel_rfl) (by kernel_rfl) rfl (fun w hh=>⟨(Pk 11 [2,3,4,5,6,7,8,9,10]) w hh,(Pk 11 [2,3,4,5,6,7,8,9,10]) w hh⟩) (fun fc3 fE3=>DoesH.call (d:=49) (g:=48) (args:=#[.agg #[iv a0.Room,iv a0.Lease,.slice Aa0_2 a0.Blobs.length ca0_2,.slice Aa0_3 a0.Entries.length ca0_3],.slice A7 y4.length c7]) (by kernel_rfl) (cache_Follow_c (a0:=a0) (a1:=y4) (hra0_2.wk (fun _ h=>(.tail _ (.tail _ (.tail _ (.tail _ (.tail _ (.tail _ (.tail _ (.tail _ (.tail _ (.tail _ (.tail _ (.tail _ h)))))))))))))) hca0_2 rfl (hra0_3.wk (fun _ h=>(.tail _ (.tail _ (.tail _ (.tail _ (.tail _ (.tail _ (.tail _ (.tail _ (.tail _ (.tail _ (.tail _ (.tail _ h)))))))))))))) hca0_3 rfl (ho8.rw (.tail _ (.head _))) ho8.cap rfl hy5)) ?_
  rintro fc3 fE3
  rintro _ H _ hl ⟨_,rfl,A8,c8,ch8,A9,c9,ch9,A10,c10,ch10,rfl,rfl,ho9,ho10,ho11⟩
  have hle:=hl
  replace hra1:=hra1.mono hl
  replace hra2:=hra2.mono hl
  replace ho3:=ho3.mono hl
  replace ho4:=ho4.mono hl
  replace ho5:=ho5.mono hl
  replace ho6:=ho6.mono hl
  replace hra0_2:=hra0_2.mono hl
  replace hra0_3:=hra0_3.mono hl
  replace ho8:=ho8.mono hl
  refine ⟨fun _ w hh=>⟨fun _=>(fun w hh=>(hh.le hle).pick 15 [6,7,8,9,10,11,12,13,14] (by kernel_rfl)) w hh,fun _=>(fun w hh=>(hh.le hle).pick 15 [6,7,8,9,10,11,12,13,14] (by kernel_rfl)) w hh,(fun h=>by cases h)⟩,[(49,.tuple #[.agg #[iv y5.1.Room,iv y5.1.Lease,.slice A8 y5.1.Blobs.length c8,.slice A9 y5.1.Entries.length c9],.slice A10 y5.2.1.length c10,iv y5.2.2]),(1,.slice Aa1 a1.length ca1),(2,.slice Aa2 a2.length ca2),(8,.slice A3 y1.2.1.length c3),(9,iv y3.2.2),(10,pg g3 0),(11,.slice A6 y3.2.1.length c6),(44,.agg #[iv a0.Room,iv a0.Lease,.slice Aa0_2 a0.Blobs.length ca0_2,.slice Aa0_3 a0.Entries.length ca0_3]),(48,.slice A7 y4.length c7)],ch8::ch9::ch10::ch7::(some (g4,.cells #[.slice Aa1 a1.length ca1,.slice Aa2 a2.length ca2] 72 (0,0)))::(some (g3,.cells #[iv y3.1.Room,iv y3.1.Lease,.slice A4 y3.1.Blobs.length c4,.slice A5 y3.1.Entries.length c5] 25 (0,0)))::ch4::ch5::ch6::(some (g2,.cells #[iv y1.1.Room,iv y1.1.Lease,.slice A1 y1.1.Blobs.length c1,.slice A2 y1.1.Entries.length c2] 25 (0,0)))::ch1::ch2::ch3::(some (g1,.cells #[iv a0.Room,iv a0.Lease,.slice Aa0_2 a0.Blobs.length ca0_2,.slice Aa0_3 a0.Entries.length ca0_3] 25 (0,0)))::F,rfl,(Pk 15 [3,0,1,2,4,5,6,7,8,9,10,11,12,13,14]),?_⟩
  refine DrF.run [6,7,8,9] (m:=3) (ls':=[true,true,true,true,true,true,true,true,true,true,false,false,false,false]) (vs:=[]) (evs:=[]) (L':=[(52,iv y5.2.2),(51,.slice A10 y5.2.1.length c10),(50,.agg #[iv y5.1.Room,iv y5.1.Lease,.slice A8 y5.1.Blobs.length c8,.slice A9 y5.1.Entries.length c9]),(43,.tuple #[.agg #[iv y5.1.Room,iv y5.1.Lease,.slice A8 y5.1.Blobs.length c8,.slice A9 y5.1.Entries.length c9],.slice A10 y5.2.1.length c10,iv y5.2.2]),(49,.tuple #[.agg #[iv y5.1.Room,iv y5.1.Lease,.slice A8 y5.1.Blobs.length c8,.slice A9 y5.1.Entries.length c9],.slice A10 y5.2.1.length c10,iv y5.2.2]),(1,.slice Aa1 a1.length ca1),(2,.slice Aa2 a2.length ca2),(8,.slice A3 y1.2.1.length c3),(9,iv y3.2.2),(10,pg g3 0),(11,.slice A6 y3.2.1.length c6),(44,.agg #[iv a0.Room,iv a0.Lease,.slice Aa0_2 a0.Blobs.length ca0_2,.slice Aa0_3 a0.Entries.length ca0_3]),(48,.slice A7 y4.length c7)]) (by kernel_rfl) (fun w hh=>(hh.le hle).pick 14 [5,6,7,8,9,10,11,12,13] (by kernel_rfl)) (Pk 9 [0,1,2,3,4,5,6,7,8]) (pats1 (fun E=>by kernel_rfl) (fun E=>by kernel_rfl)) (fun _ _=>trivial) (by kernel_rfl) ?_
  refine DrF.keep [1,2,8,9,10,11,50,51,52] (L':=[(1,.slice Aa1 a1.length ca1),(2,.slice Aa2 a2.length ca2),(8,.slice A3 y1.2.1.length c3),(9,iv y3.2.2),(10,pg g3 0),(11,.slice A6 y3.2.1.length c6),(50,.agg #[iv y5.1.Room,iv y5.1.Lease,.slice A8 y5.1.Blobs.length c8,.slice A9 y5.1.Entries.length c9]),(51,.slice A10 y5.2.1.length c10),(52,iv y5.2.2)]) (by kernel_rfl) (by kernel_rfl) ?_
  refine DrF.close1 (n:=3) (ls':=[true,true,true,true,true,true,true,true,true,true,true,false,false,false]) (by kernel_rfl) ⟨fun E g=>by kernel_rfl,trivial⟩ (by kernel_rfl) (by kernel_rfl) rfl (fun w hh=>⟨(fun w hh=>(hh.le hle).pick 14 [5,6,7,8,9,10,11,12,13] (by kernel_rfl)) w hh,(fun w hh=>(hh.le hle).pick 14 [5,6,7,8,9,10,11,12,13] (by kernel_rfl)) w hh⟩) ?_
  intro g5
  refine Kr [1,2,8,9,10,11,12,50,51,52] [(1,.slice Aa1 a1.length ca1),(2,.slice Aa2 a2.length ca2),(8,.slice A3 y1.2.1.length c3),(9,iv y3.2.2),(10,pg g3 0),(11,.slice A6 y3.2.1.length c6),(12,pg g5 0),(50,.agg #[iv y5.1.Room,iv y5.1.Lease,.slice A8 y5.1.Blobs.length c8,.slice A9 y5.1.Entries.length c9]),(51,.slice A10 y5.2.1.length c10),(52,iv y5.2.2)] ?_
  refine DrH.does (n:=2) (ls':=[true,true,true,true,true,true,true,true,true,true,true,true,false,false]) 11 (by kernel_rfl) rfl (DoesH.store (k:=0) (g:=g5) (off:=0) (v:=.agg #[iv y5.1.Room,iv y5.1.Lease,.slice A8 y5.1.Blobs.length c8,.slice A9 y5.1.Entries.length c9]) (cells':=#[iv y5.1.Room,iv y5.1.Lease,.slice A8 y5.1.Blobs.length c8,.slice A9 y5.1.Entries.length c9]) (by kernel_rfl) rfl (by kernel_rfl) (by kernel_rfl)) ?_
  rintro _ _ _ _ ⟨rfl,rfl,rfl⟩
  refine ⟨fun _ w hh=>⟨fun _=>(fun w hh=>(hh.le hle).pick 15 [6,7,8,9,10,11,12,13,14] (by kernel_rfl)) w hh,fun _=>(fun w hh=>(hh.le hle).pick 15 [6,7,8,9,10,11,12,13,14] (by kernel_rfl)) w hh,(fun h=>by cases h)⟩,?_⟩
  refine Dk [12,13] 0 (nb 14 16383) [] [] [1,2,8,9,10,11,12,13,14] [(1,.slice Aa1 a1.length ca1),(2,.slice Aa2 a2.length ca2),(8,.slice A3 y1.2.1.length c3),(9,iv y3.2.2),(10,pg g3 0),(11,.slice A6 y3.2.1.length c6),(12,pg g5 0),(13,.slice A10 y5.2.1.length c10),(14,iv y5.2.2)] (fun w hh=>(hh.le hle).pick 15 [6,7,8,9,10,11,12,13,14] (by kernel_rfl)) (Pk 9 [0,1,2,3,4,5,6,7,8]) (fun _ _=>trivial) ?_
  refine DrH.done (by kernel_rfl) ?_
  refine Ra 2 [1,1,1,1,1,0,0] [.c [1,1,1,1,1,0,1],.c [1,1,1,1,1,1]]<|Rd 6 [8,9,10,11,12,13,14,58] [(8,.slice A3 y1.2.1.length c3),(9,iv y3.2.2),(10,pg g3 0),(11,.slice A6 y3.2.1.length c6),(12,pg g5 0),(13,.slice A10 y5.2.1.length c10),(14,iv y5.2.2),(58,.bool (decide (3000<(w64 ((a1.length:Int)+(a2.length:Int))))))] ?_
  rcases bool_cases (decide (3000<(w64 ((a1.length:Int)+(a2.length:Int))))) with hb4 | hb4
  ·replace heq:=bif_true hb4 heq
   refine Ct (decide (3000<(w64 ((a1.length:Int)+(a2.length:Int))))) hb4<|Ad 1 [.c [1,1,1,1,1,0,1,0,0],.c [1,1,1,1,1,0,1,0,1],.c [1,1,1,1,1,1]] ?_
   obtain ⟨t2,ht2,heq⟩:=bind_some heq
   have K20:∀ (H:Hp),RunH C15 (S15 F H0 r) H0 w0 [.c [1,1,1,1,1,0,1,0,1],.c [1,1,1,1,1,1]] [(6,.bool t2)] H (F):=by
    intro H
    obtain rfl:=Option.some.inj heq
    exact RunH.done (by kernel_rfl) Tryd.func15 (v:=.bool t2) (by kernel_rfl) ⟨rfl,rfl⟩
   replace heq:=ht2
   refine Rr<|Rk 3 [61] [(61,.bool (y5.2.2 == 2))] ?_
   rcases bool_cases (y5.2.2 == 2) with hb5 | hb5
   ·replace heq:=bif_true hb5 heq
    refine RgH.val1 (v':=.bool true) (congrArg Value.bool hb5) ?_
    obtain ⟨y6,hy6,heq⟩:=bind_some heq
    refine RgH.does (DoesH.call (d:=62) (g:=29) (args:=(List.toArray [])) (by kernel_rfl) (smithyardlaw7_awake_c  hy6)) ?_
    rintro _ _ _ _ ⟨_,rfl,rfl,rfl,rfl⟩
    refine Rk 6 [6] [(6,.bool y6)] ?_
    obtain rfl:=Option.some.inj heq
    refine Kg [6] [(6,.bool y6)] ?_
    refine RgH.pick 15 [] (cs':=F) (by kernel_rfl) rfl ?_
    refine Dn ?_
    exact K20 _
   ·replace heq:=bif_false hb5 heq
    refine RgH.val1 (v':=.bool false) (congrArg Value.bool hb5) ?_
    refine Rk 6 [6] [(6,.bool false)] ?_
    obtain rfl:=Option.some.inj heq
    refine Kg [6] [(6,.bool false)] ?_
    refine RgH.pick 15 [] (cs':=F) (by kernel_rfl) rfl ?_
    refine Dn ?_
    exact K20 _
  ·replace heq:=bif_false hb4 heq
   refine Cf (decide (3000<(w64 ((a1.length:Int)+(a2.length:Int))))) hb4<|Ad 3 [.c [1,1,1,1,1,1,0,0],.c [1,1,1,1,1,1,0,1],.c [1,1,1,1,1,1,1]] ?_
   obtain ⟨t3,ht3,heq⟩:=bind_some heq
   have K21:∀ (H:Hp),SlOwn kCacheAnswer 63 H A3 c3 y1.2.1 ch3→SlOwn kBlob 47 H A4 c4 y3.1.Blobs ch4→SlOwn kEntry 51 H A5 c5 y3.1.Entries ch5→SlOwn kCacheAnswer 63 H A6 c6 y3.2.1 ch6→SlOwn kBlob 47 H A8 c8 y5.1.Blobs ch8→SlOwn kEntry 51 H A9 c9 y5.1.Entries ch9→SlOwn kCacheAnswer 63 H A10 c10 y5.2.1 ch10→RunH C15 (S15 F H0 r) H0 w0 [.c [1,1,1,1,1,1,0,1],.c [1,1,1,1,1,1,1]] [(8,.slice A3 y1.2.1.length c3),(9,iv y3.2.2),(10,pg g3 0),(11,.slice A6 y3.2.1.length c6),(12,pg g5 0),(13,.slice A10 y5.2.1.length c10),(14,iv y5.2.2),(69,.bool t3)] H ((some (g5,.cells #[iv y5.1.Room,iv y5.1.Lease,.slice A8 y5.1.Blobs.length c8,.slice A9 y5.1.Entries.length c9] 25 (0,0)))::ch8::ch9::ch10::(some (g3,.cells #[iv y3.1.Room,iv y3.1.Lease,.slice A4 y3.1.Blobs.length c4,.slice A5 y3.1.Entries.length c5] 25 (0,0)))::ch4::ch5::ch6::ch3::F):=by
    intro H ho3 ho4 ho5 ho6 ho9 ho10 ho11
    rcases bool_cases (t3) with hb7 | hb7
    ·replace heq:=bif_true hb7 heq
     refine Ct t3 hb7<|Ad 1 [.c [1,1,1,1,1,1,0,1,0,0],.c [1,1,1,1,1,1,0,1,0,1],.c [1,1,1,1,1,1,1]] ?_
     obtain ⟨t4,ht4,heq⟩:=bind_some heq
     have K22:∀ (H:Hp),RunH C15 (S15 F H0 r) H0 w0 [.c [1,1,1,1,1,1,0,1,0,1],.c [1,1,1,1,1,1,1]] [(6,.bool t4)] H (F):=by
      intro H
      obtain rfl:=Option.some.inj heq
      exact RunH.done (by kernel_rfl) Tryd.func15 (v:=.bool t4) (by kernel_rfl) ⟨rfl,rfl⟩
     replace heq:=ht4
     refine Rr<|Rk 4 [73] [(73,.bool (y3.2.2 == y5.2.2))] ?_
     rcases bool_cases (y3.2.2 == y5.2.2) with hb8 | hb8
     ·replace heq:=bif_true hb8 heq
      refine RgH.val1 (v':=.bool true) (congrArg Value.bool hb8) ?_
      obtain ⟨y7,hy7,heq⟩:=bind_some heq
      refine RgH.does (DoesH.call (d:=74) (g:=29) (args:=(List.toArray [])) (by kernel_rfl) (smithyardlaw7_awake_c  hy7)) ?_
      rintro _ _ _ _ ⟨_,rfl,rfl,rfl,rfl⟩
      refine Rk 7 [6] [(6,.bool y7)] ?_
      obtain rfl:=Option.some.inj heq
      refine Kg [6] [(6,.bool y7)] ?_
      refine RgH.pick 9 [] (cs':=F) (by kernel_rfl) rfl ?_
      refine Dn ?_
      exact K22 _
     ·replace heq:=bif_false hb8 heq
      refine RgH.val1 (v':=.bool false) (congrArg Value.bool hb8) ?_
      refine Rk 7 [6] [(6,.bool false)] ?_
      obtain rfl:=Option.some.inj heq
      refine Kg [6] [(6,.bool false)] ?_
      refine RgH.pick 9 [] (cs':=F) (by kernel_rfl) rfl ?_
      refine Dn ?_
      exact K22 _
    ·replace heq:=bif_false hb7 heq
     refine Cf t3 hb7<|Ad 2 [.c [1,1,1,1,1,1,1,0],.c [1,1,1,1,1,1,1,1]] ?_
     obtain ⟨t5,ht5,heq⟩:=bind_some heq
     have K25:∀ (H:Hp),RunH C15 (S15 F H0 r) H0 w0 [.c [1,1,1,1,1,1,1,1]] [(6,.bool t5)] H (F):=by
      intro H
      obtain rfl:=Option.some.inj heq
      exact RunH.done (by kernel_rfl) Tryd.func15 (v:=.bool t5) (by kernel_rfl) ⟨rfl,rfl⟩
     replace heq:=ht5
     refine Rr<|Rv 2 [8,11,13,76,77] [iv y3.1.Room,iv y3.1.Lease,.slice A4 y3.1.Blobs.length c4,.slice A5 y3.1.Entries.length c5,iv y5.1.Room,iv y5.1.Lease,.slice A8 y5.1.Blobs.length c8,.slice A9 y5.1.Entries.length c9] [.load ⟨g3,0,none⟩ (iv y3.1.Room),.load ⟨g3,1,none⟩ (iv y3.1.Lease),.load ⟨g3,2,none⟩ (.slice A4 y3.1.Blobs.length c4),.load ⟨g3,3,none⟩ (.slice A5 y3.1.Entries.length c5),.load ⟨g5,0,none⟩ (iv y5.1.Room),.load ⟨g5,1,none⟩ (iv y5.1.Lease),.load ⟨g5,2,none⟩ (.slice A8 y5.1.Blobs.length c8),.load ⟨g5,3,none⟩ (.slice A9 y5.1.Entries.length c9)] [(8,.slice A3 y1.2.1.length c3),(11,.slice A6 y3.2.1.length c6),(13,.slice A10 y5.2.1.length c10),(76,.agg #[iv y3.1.Room,iv y3.1.Lease,.slice A4 y3.1.Blobs.length c4,.slice A5 y3.1.Entries.length c5]),(77,.agg #[iv y5.1.Room,iv y5.1.Lease,.slice A8 y5.1.Blobs.length c8,.slice A9 y5.1.Entries.length c9])] (fun w hh=>⟨(hh.box 4 rfl rfl),(hh.box 4 rfl rfl),(hh.box 4 rfl rfl),(hh.box 4 rfl rfl),(hh.box 0 rfl rfl),(hh.box 0 rfl rfl),(hh.box 0 rfl rfl),(hh.box 0 rfl rfl)⟩) ?_
     obtain ⟨y8,hy8,heq⟩:=bind_some heq
     refine RgH.does (DoesH.call (d:=78) (g:=21) (args:=#[.agg #[iv y3.1.Room,iv y3.1.Lease,.slice A4 y3.1.Blobs.length c4,.slice A5 y3.1.Entries.length c5],.agg #[iv y5.1.Room,iv y5.1.Lease,.slice A8 y5.1.Blobs.length c8,.slice A9 y5.1.Entries.length c9]]) (by kernel_rfl) (smithyardref7_Same_c (a0:=(⟨y3.1.Room,y3.1.Lease,y3.1.Blobs,y3.1.Entries⟩:Cache)) (a1:=(⟨y5.1.Room,y5.1.Lease,y5.1.Blobs,y5.1.Entries⟩:Cache)) (ho4.rw (.tail _ (.tail _ (.tail _ (.tail _ (.tail _ (.head _))))))) ho4.cap rfl (ho5.rw (.tail _ (.tail _ (.tail _ (.tail _ (.tail _ (.tail _ (.head _)))))))) ho5.cap rfl (ho9.rw (.tail _ (.head _))) ho9.cap rfl (ho10.rw (.tail _ (.tail _ (.head _)))) ho10.cap rfl hy8)) ?_
     rintro _ _ _ _ ⟨_,rfl,rfl,rfl,rfl⟩
     refine Rk 4 [79,8,11,13] [(79,.bool y8),(8,.slice A3 y1.2.1.length c3),(11,.slice A6 y3.2.1.length c6),(13,.slice A10 y5.2.1.length c10)] ?_
     rcases bool_cases (y8) with hb9 | hb9
     ·replace heq:=bif_true hb9 heq
      refine RgH.val1 (v':=.bool true) (congrArg Value.bool hb9) ?_
      refine Rk 6 [13,79,80,81] [(13,.slice A10 y5.2.1.length c10),(79,.bool true),(80,.slice A3 y1.2.1.length c3),(81,.slice A6 y3.2.1.length c6)] ?_
      refine RgH.pick 9 [8,0,1,2,3,4,5,6,7] (cs':=ch3::(some (g5,.cells #[iv y5.1.Room,iv y5.1.Lease,.slice A8 y5.1.Blobs.length c8,.slice A9 y5.1.Entries.length c9] 25 (0,0)))::ch8::ch9::ch10::(some (g3,.cells #[iv y3.1.Room,iv y3.1.Lease,.slice A4 y3.1.Blobs.length c4,.slice A5 y3.1.Entries.length c5] 25 (0,0)))::ch4::ch5::ch6::F) (by kernel_rfl) rfl ?_
      have hc1:=ho3.cap
      refine Hs.freezeS ho3 (fun H hl hr1=>?_)
      replace ho11:=ho11.mono hl
      replace ho6:=ho6.mono hl
      refine RgH.pick 8 [7,0,1,2,3,4,5,6] (cs':=ch6::(some (g5,.cells #[iv y5.1.Room,iv y5.1.Lease,.slice A8 y5.1.Blobs.length c8,.slice A9 y5.1.Entries.length c9] 25 (0,0)))::ch8::ch9::ch10::(some (g3,.cells #[iv y3.1.Room,iv y3.1.Lease,.slice A4 y3.1.Blobs.length c4,.slice A5 y3.1.Entries.length c5] 25 (0,0)))::ch4::ch5::F) (by kernel_rfl) rfl ?_
      have hc2:=ho6.cap
      refine Hs.freezeS ho6 (fun H hl hr2=>?_)
      replace ho11:=ho11.mono hl
      replace hr1:=hr1.mono hl
      refine RgH.does (DoesH.new (d:=82) (v:=fun g=>.slice (some ⟨g,0,none⟩) 2 2) (o:=fun g=>.cells #[.slice A3 y1.2.1.length c3,.slice A6 y3.2.1.length c6] 73 (0,0)) (fun g=>by kernel_rfl)) ?_
      rintro _ _ _ _ ⟨g6,rfl,rfl,rfl⟩
      have ho12:SlOwn (Kd.slice kCacheAnswer) 73 H (some ⟨g6,0,none⟩) 2 ([y1.2.1,y3.2.1]:List (List CacheAnswer)) (some (g6,.cells #[.slice A3 y1.2.1.length c3,.slice A6 y3.2.1.length c6] 73 (0,0))):=SlOwn.lit (xs:=([y1.2.1,y3.2.1]:List (List CacheAnswer))) (by kernel_rfl) (Nat.le_of_ble_eq_true (by kernel_rfl)) (Rep.append rfl (Kd.Rep.oneS hc1 hr1) (Kd.Rep.oneS hc2 hr2))
      obtain ⟨y9,hy9,heq⟩:=bind_some heq
      refine RgH.does (DoesH.call (d:=83) (g:=52) (args:=#[.slice (some ⟨g6,0,none⟩) 2 2]) (by kernel_rfl) (slices_Concat_CacheAnswer_c (a0:=([y1.2.1,y3.2.1]:List (List CacheAnswer))) (ho12.rw (.head _)) ho12.cap rfl hy9)) ?_
      rintro _ _ _ _ ⟨_,rfl,A11,c11,ch11,rfl,rfl,rfl,ho13⟩
      refine Rk 9 [79,83,84] [(79,.bool true),(83,.slice A11 y9.length c11),(84,.slice A10 y5.2.1.length c10)] ?_
      obtain ⟨y10,hy10,heq⟩:=bind_some heq
      refine RgH.does (DoesH.call (d:=85) (g:=51) (args:=#[.slice A11 y9.length c11,.slice A10 y5.2.1.length c10]) (by kernel_rfl) (smithyardref7_SameAnswers_c (a0:=y9) (a1:=y5.2.1) (ho13.rw (.head _)) ho13.cap rfl (ho11.rw (.tail _ (.tail _ (.tail _ (.tail _ (.tail _ (.head _))))))) ho11.cap rfl hy10)) ?_
      rintro _ _ _ _ ⟨_,rfl,rfl,rfl,rfl⟩
      refine Rk 12 [87] [(87,.bool y10)] ?_
      rcases bool_cases (y10) with hb10 | hb10
      ·replace heq:=bif_true hb10 heq
       refine RgH.val1 (v':=.bool true) (congrArg Value.bool hb10) ?_
       obtain ⟨y11,hy11,heq⟩:=bind_some heq
       refine RgH.does (DoesH.call (d:=88) (g:=29) (args:=(List.toArray [])) (by kernel_rfl) (smithyardlaw7_awake_c  hy11)) ?_
       rintro _ _ _ _ ⟨_,rfl,rfl,rfl,rfl⟩
       refine Rk 15 [6] [(6,.bool y11)] ?_
       obtain rfl:=Option.some.inj heq
       refine Kg [6] [(6,.bool y11)] ?_
       refine RgH.pick 9 [] (cs':=F) (by kernel_rfl) rfl ?_
       refine Dn ?_
       exact K25 _
      ·replace heq:=bif_false hb10 heq
       refine RgH.val1 (v':=.bool false) (congrArg Value.bool hb10) ?_
       refine Rk 15 [6] [(6,.bool false)] ?_
       obtain rfl:=Option.some.inj heq
       refine Kg [6] [(6,.bool false)] ?_
       refine RgH.pick 9 [] (cs':=F) (by kernel_rfl) rfl ?_
       refine Dn ?_
       exact K25 _
     ·replace heq:=bif_false hb9 heq
      refine RgH.val1 (v':=.bool false) (congrArg Value.bool hb9) ?_
      refine Rk 15 [6] [(6,.bool false)] ?_
      obtain rfl:=Option.some.inj heq
      refine Kg [6] [(6,.bool false)] ?_
      refine RgH.pick 9 [] (cs':=F) (by kernel_rfl) rfl ?_
      refine Dn ?_
      exact K25 _
   replace heq:=ht3
   refine Rr<|Rk 3 [66,8,9,10,11,12,13,14] [(66,.bool (y3.2.2 != 0)),(8,.slice A3 y1.2.1.length c3),(9,iv y3.2.2),(10,pg g3 0),(11,.slice A6 y3.2.1.length c6),(12,pg g5 0),(13,.slice A10 y5.2.1.length c10),(14,iv y5.2.2)] ?_
   rcases bool_cases (y3.2.2 != 0) with hb6 | hb6
   ·replace heq:=bif_true hb6 heq
    refine RgH.val1 (v':=.bool true) (congrArg Value.bool hb6) ?_
    refine Rk 6 [8,9,10,11,12,13,14,69] [(8,.slice A3 y1.2.1.length c3),(9,iv y3.2.2),(10,pg g3 0),(11,.slice A6 y3.2.1.length c6),(12,pg g5 0),(13,.slice A10 y5.2.1.length c10),(14,iv y5.2.2),(69,.bool true)] ?_
    obtain rfl:=Option.some.inj heq
    refine Kg [8,9,10,11,12,13,14,69] [(8,.slice A3 y1.2.1.length c3),(9,iv y3.2.2),(10,pg g3 0),(11,.slice A6 y3.2.1.length c6),(12,pg g5 0),(13,.slice A10 y5.2.1.length c10),(14,iv y5.2.2),(69,.bool true)] ?_
    refine RgH.pick 15 [0,1,2,3,6,7,8,9,13] (cs':=(some (g5,.cells #[iv y5.1.Room,iv y5.1.Lease,.slice A8 y5.1.Blobs.length c8,.slice A9 y5.1.Entries.length c9] 25 (0,0)))::ch8::ch9::ch10::(some (g3,.cells #[iv y3.1.Room,iv y3.1.Lease,.slice A4 y3.1.Blobs.length c4,.slice A5 y3.1.Entries.length c5] 25 (0,0)))::ch4::ch5::ch6::ch3::F) (by kernel_rfl) rfl ?_
    refine Dn ?_
    exact K21 _ ho3 ho4 ho5 ho6 ho9 ho10 ho11
   ·replace heq:=bif_false hb6 heq
    refine RgH.val1 (v':=.bool false) (congrArg Value.bool hb6) ?_
    refine Rk 6 [8,9,10,11,12,13,14,69] [(8,.slice A3 y1.2.1.length c3),(9,iv y3.2.2),(10,pg g3 0),(11,.slice A6 y3.2.1.length c6),(12,pg g5 0),(13,.slice A10 y5.2.1.length c10),(14,iv y5.2.2),(69,.bool (y5.2.2 != 0))] ?_
    obtain rfl:=Option.some.inj heq
    refine Kg [8,9,10,11,12,13,14,69] [(8,.slice A3 y1.2.1.length c3),(9,iv y3.2.2),(10,pg g3 0),(11,.slice A6 y3.2.1.length c6),(12,pg g5 0),(13,.slice A10 y5.2.1.length c10),(14,iv y5.2.2),(69,.bool (y5.2.2 != 0))] ?_
    refine RgH.pick 15 [0,1,2,3,6,7,8,9,13] (cs':=(some (g5,.cells #[iv y5.1.Room,iv y5.1.Lease,.slice A8 y5.1.Blobs.length c8,.slice A9 y5.1.Entries.length c9] 25 (0,0)))::ch8::ch9::ch10::(some (g3,.cells #[iv y3.1.Room,iv y3.1.Lease,.slice A4 y3.1.Blobs.length c4,.slice A5 y3.1.Entries.length c5] 25 (0,0)))::ch4::ch5::ch6::ch3::F) (by kernel_rfl) rfl ?_
    refine Dn ?_
    exact K21 _ ho3 ho4 ho5 ho6 ho9 ho10 ho11
end Go.Proofs.YtkjilepjblffeaaDoor
