/- What the machine's calls of these functions come to: just what the plain functions say. Written by program. -/
import Derived.Test.YtkjilepjblffeaaDoorProg
import Derived.Test.YtkjilepjblffeaaDoorKitX
import Derived.Test.YtkjilepjblffeaaDoorUD
import Derived.Test.YtkjilepjblffeaaDoorShelf
import Derived.Test.YtkjilepjblffeaaDoorU13M3
set_option linter.unusedVariables false
set_option linter.unusedSimpArgs false
set_option maxRecDepth 100000
set_option maxHeartbeats 1000000
namespace Go.Proofs.YtkjilepjblffeaaDoor
open Go Go.RowKit Go.Proofs.YtkjilepjblffeaaDoor.Kit
noncomputable def C95:Ctx:={ P:=Tryd.prog,f:=95,N:=11,c:=bodyOf Tryd.f95 }
def S95 (F:List Ch) (H0:Hp) (ga3:Nat) (r:Int) (v:Value) (H:Hp) (cs:List Ch):Prop:=H0=H∧v=.tuple #[]∧some (ga3,.cells #[iv r] 3 (0,0))::F=cs
theorem cache_Peak_1_c {w0:World} {H:Hp} {F:List Ch} {a0:Cache} {Aa0_2:Option Addr} {na0_2:Nat} {ca0_2:Nat} {Aa0_3:Option Addr} {na0_3:Nat} {ca0_3:Nat} {a1:CacheEvent} {Aa1_3:Option Addr} {na1_3:Nat} {ca1_3:Nat} {a2:CacheAnswer} {Aa2_1:Option Addr} {na2_1:Nat} {ca2_1:Nat} {Aa2_2:Option Addr} {na2_2:Nat} {ca2_2:Nat} {ga3:Nat} {a3:Int} {r:Int} (hra0_2:Rw kBlob H F Aa0_2 a0.Blobs) (hca0_2:na0_2≤ca0_2) (hna0_2:na0_2=a0.Blobs.length) (hra0_3:Rw kEntry H F Aa0_3 a0.Entries) (hca0_3:na0_3≤ca0_3) (hna0_3:na0_3=a0.Entries.length) (hra1_3:Rw Kd.string H F Aa1_3 a1.Digests) (hca1_3:na1_3≤ca1_3) (hna1_3:na1_3=a1.Digests.length) (hra2_1:Rw Kd.string H F Aa2_1 a2.Missing) (hca2_1:na2_1≤ca2_1) (hna2_1:na2_1=a2.Missing.length) (hra2_2:Rw Kd.string H F Aa2_2 a2.Gone) (hca2_2:na2_2≤ca2_2) (hna2_2:na2_2=a2.Gone.length) (heq:cache_Peak_1.f a0 a1 a2 a3=some r):CallsH Tryd.prog 95 #[.agg #[iv a0.Room,iv a0.Lease,.slice Aa0_2 na0_2 ca0_2,.slice Aa0_3 na0_3 ca0_3],.agg #[iv a1.Kind,iv a1.At,.string a1.Digest,.slice Aa1_3 na1_3 ca1_3,.string a1.Key,iv a1.Size],.agg #[.bool a2.Done,.slice Aa2_1 na2_1 ca2_1,.slice Aa2_2 na2_2 ca2_2],.pointer (some ⟨ga3,0,none⟩)] H w0 ((some (ga3,.cells #[iv a3] 3 (0,0)))::F) (S95 F H ga3 r):=by
 refine calls_of_runH (F:=C95) Tryd.func95 (by kernel_rfl) Tryd.ntmps95 (args:=[.agg #[iv a0.Room,iv a0.Lease,.slice Aa0_2 na0_2 ca0_2,.slice Aa0_3 na0_3 ca0_3],.agg #[iv a1.Kind,iv a1.At,.string a1.Digest,.slice Aa1_3 na1_3 ca1_3,.string a1.Key,iv a1.Size],.agg #[.bool a2.Done,.slice Aa2_1 na2_1 ca2_1,.slice Aa2_2 na2_2 ca2_2],.pointer (some ⟨ga3,0,none⟩)]) (by kernel_rfl) ?_
 subst hna0_2
 subst hna0_3
 subst hna1_3
 subst hna2_1
 subst hna2_2
 unfold cache_Peak_1.f at heq
 refine Ra 1 [0] [.c [1]] ?_
 refine RgH.does (DoesH.new (d:=4) (v:=fun g=>.pointer (some ⟨g,0,none⟩)) (o:=fun g=>.cells #[iv a0.Room,iv a0.Lease,.slice Aa0_2 a0.Blobs.length ca0_2,.slice Aa0_3 a0.Entries.length ca0_3] 25 (0,0)) (fun g=>by kernel_rfl)) ?_
 rintro _ _ _ _ ⟨g1,rfl,rfl,rfl⟩
 refine RgH.does (DoesH.new (d:=5) (v:=fun g=>.pointer (some ⟨g,0,none⟩)) (o:=fun g=>.cells #[iv a1.Kind,iv a1.At,.string a1.Digest,.slice Aa1_3 a1.Digests.length ca1_3,.string a1.Key,iv a1.Size] 67 (0,0)) (fun g=>by kernel_rfl)) ?_
 rintro _ _ _ _ ⟨g2,rfl,rfl,rfl⟩
 refine RgH.does (DoesH.new (d:=6) (v:=fun g=>.pointer (some ⟨g,0,none⟩)) (o:=fun g=>.cells #[.bool a2.Done,.slice Aa2_1 a2.Missing.length ca2_1,.slice Aa2_2 a2.Gone.length ca2_2] 63 (0,0)) (fun g=>by kernel_rfl)) ?_
 rintro _ _ _ _ ⟨g3,rfl,rfl,rfl⟩
 refine Dn<|Kp [3,4] [(3,pg ga3 0),(4,pg g1 0)] ?_
 refine RunH.draw (fun w=>Heap H w0 w ((some (g3,.cells #[.bool a2.Done,.slice Aa2_1 a2.Missing.length ca2_1,.slice Aa2_2 a2.Gone.length ca2_2] 63 (0,0)))::(some (g2,.cells #[iv a1.Kind,iv a1.At,.string a1.Digest,.slice Aa1_3 a1.Digests.length ca1_3,.string a1.Key,iv a1.Size] 67 (0,0)))::(some (g1,.cells #[iv a0.Room,iv a0.Lease,.slice Aa0_2 a0.Blobs.length ca0_2,.slice Aa0_3 a0.Entries.length ca0_3] 25 (0,0)))::(some (ga3,.cells #[iv a3] 3 (0,0)))::F)) (fun w=>Heap H w0 w ((some (g3,.cells #[.bool a2.Done,.slice Aa2_1 a2.Missing.length ca2_1,.slice Aa2_2 a2.Gone.length ca2_2] 63 (0,0)))::(some (g2,.cells #[iv a1.Kind,iv a1.At,.string a1.Digest,.slice Aa1_3 a1.Digests.length ca1_3,.string a1.Key,iv a1.Size] 67 (0,0)))::(some (g1,.cells #[iv a0.Room,iv a0.Lease,.slice Aa0_2 a0.Blobs.length ca0_2,.slice Aa0_3 a0.Entries.length ca0_3] 25 (0,0)))::(some (ga3,.cells #[iv a3] 3 (0,0)))::F)) [3,3,0,3,2] (n:=5) (ls:=[false,false,false,false,false]) (by kernel_rfl) (by kernel_rfl) (by kernel_rfl) rfl ?_
 refine Dk [0,1] 3 (nb 5 3) [iv a3,iv a0.Room,iv a0.Lease,.slice Aa0_2 a0.Blobs.length ca0_2,.slice Aa0_3 a0.Entries.length ca0_3] [.load ⟨ga3,0,none⟩ (iv a3),.load ⟨g1,0,none⟩ (iv a0.Room),.load ⟨g1,1,none⟩ (iv a0.Lease),.load ⟨g1,2,none⟩ (.slice Aa0_2 a0.Blobs.length ca0_2),.load ⟨g1,3,none⟩ (.slice Aa0_3 a0.Entries.length ca0_3)] [3,7,8] [(3,pg ga3 0),(7,iv a3),(8,.agg #[iv a0.Room,iv a0.Lease,.slice Aa0_2 a0.Blobs.length ca0_2,.slice Aa0_3 a0.Entries.length ca0_3])] (Pk 4 [0,1,2,3]) (Pk 4 [0,1,2,3]) (fun w hh=>⟨(hh.box 3 rfl rfl),(hh.box 2 rfl rfl),(hh.box 2 rfl rfl),(hh.box 2 rfl rfl),(hh.box 2 rfl rfl)⟩) ?_
 obtain ⟨y1,hy1,heq⟩:=bind_some heq
 refine DrH.does (n:=2) (ls':=[true,true,true,false,false]) 2 (by kernel_rfl) rfl (DoesH.call (d:=9) (g:=66) (args:=#[.agg #[iv a0.Room,iv a0.Lease,.slice Aa0_2 a0.Blobs.length ca0_2,.slice Aa0_3 a0.Entries.length ca0_3]]) (by kernel_rfl) (cache_used_c (a0:=a0) (hra0_2.wk (fun _ h=>(.tail _ (.tail _ (.tail _ (.tail _ h)))))) hca0_2 rfl (hra0_3.wk (fun _ h=>(.tail _ (.tail _ (.tail _ (.tail _ h)))))) hca0_3 rfl hy1)) ?_
 rintro _ _ _ _ ⟨_,rfl,rfl,rfl,rfl⟩
 refine ⟨fun _ w hh=>⟨fun _=>(Pk 4 [0,1,2,3]) w hh,fun _=>(Pk 4 [0,1,2,3]) w hh,(fun h=>by cases h)⟩,?_⟩
 refine Dk [3] 1 (nb 5 15) [] [] [3,10] [(3,pg ga3 0),(10,iv (max2 a3 y1))] (Pk 4 [0,1,2,3]) (Pk 4 [0,1,2,3]) (fun _ _=>trivial) ?_
 refine DrH.does (n:=0) (ls':=[true,true,true,true,true]) 4 (by kernel_rfl) rfl (DoesH.store (k:=3) (g:=ga3) (off:=0) (v:=iv (max2 a3 y1)) (cells':=#[iv (max2 a3 y1)]) (by kernel_rfl) rfl (by kernel_rfl) (by kernel_rfl)) ?_
 rintro _ _ _ _ ⟨rfl,rfl,rfl⟩
 refine ⟨fun _ w hh=>⟨(fun h=>by cases h),(fun h=>absurd h (by decide)),(fun h=>by cases h)⟩,?_⟩
 refine Kr [3] [(3,pg ga3 0)] ?_
 refine DrH.done (by kernel_rfl) ?_
 obtain rfl:=Option.some.inj heq
 refine RunH.pick 4 [3] (cs':=(some (ga3,.cells #[iv (max2 a3 y1)] 3 (0,0)))::F) (by kernel_rfl) rfl ?_
 exact RunH.done (by kernel_rfl) Tryd.func95 (v:=.tuple #[]) (by kernel_rfl) ⟨rfl,rfl,rfl⟩
noncomputable def C93v2:Ctx:={ P:=Tryd.prog,f:=93,N:=47,c:=bodyOf Tryd.f93 }
def S93v2 (F:List Ch) (H0:Hp) (ga2q0:Nat) (r:Cache × Int × Int) (v:Value) (H:Hp) (cs:List Ch):Prop:=∃ (A0_2:Option Addr) (c0_2:Nat) (ch0_2:Ch) (A0_3:Option Addr) (c0_3:Nat) (ch0_3:Ch),v=.tuple #[.agg #[iv r.1.Room,iv r.1.Lease,.slice A0_2 r.1.Blobs.length c0_2,.slice A0_3 r.1.Entries.length c0_3],iv r.2.1]∧ch0_2::ch0_3::some (ga2q0,.cells #[iv r.2.2] 3 (0,0))::F=cs∧SlOwn kBlob 47 H A0_2 c0_2 r.1.Blobs ch0_2∧SlOwn kEntry 51 H A0_3 c0_3 r.1.Entries ch0_3
theorem cache_follow_2.e1_c {w0:World} {H0:Hp} {F:List Ch} {r:Cache × Int × Int}:∀ (H:Hp) (ga2q0:Nat) (g1:Nat) (g2:Nat) (v_see2_0_0:Int) (v_c3_0:Int) (v_c3_1:Int) (v_c3_2:List Blob) (Av_c3_2:Option Addr) (nv_c3_2:Nat) (cv_c3_2:Nat) (chv_c3_2:Ch) (v_c3_3:List Entry) (Av_c3_3:Option Addr) (nv_c3_3:Nat) (cv_c3_3:Nat) (chv_c3_3:Ch) ,SlOwn kBlob 47 H Av_c3_2 cv_c3_2 v_c3_2 chv_c3_2→nv_c3_2=v_c3_2.length→SlOwn kEntry 51 H Av_c3_3 cv_c3_3 v_c3_3 chv_c3_3→nv_c3_3=v_c3_3.length→cache_follow_2.e1 v_see2_0_0 v_c3_0 v_c3_1 v_c3_2 v_c3_3=some r→RunH C93v2 (S93v2 F H0 ga2q0 r) H0 w0 [.c [1,1,1,1,1,0],.c [1,1,1,1,1,1]] [(2,.func (.func 95) #[] #[.pointer (some ⟨ga2q0,0,none⟩)]),(3,pg g1 0),(6,pg g2 0)] H (chv_c3_2::chv_c3_3::(some (g2,.cells #[iv 0,iv 0,.slice none 0 0,.slice none 0 0] 25 (0,0)))::(some (g1,.cells #[iv v_c3_0,iv v_c3_1,.slice Av_c3_2 nv_c3_2 cv_c3_2,.slice Av_c3_3 nv_c3_3 cv_c3_3] 25 (0,0)))::(some (ga2q0,.cells #[iv v_see2_0_0] 3 (0,0)))::F):=by
 intro H ga2q0 g1 g2 v_see2_0_0 v_c3_0 v_c3_1 v_c3_2 Av_c3_2 nv_c3_2 cv_c3_2 chv_c3_2 v_c3_3 Av_c3_3 nv_c3_3 cv_c3_3 chv_c3_3 hov_c3_2 hnv_c3_2 hov_c3_3 hnv_c3_3 heq
 subst hnv_c3_2
 subst hnv_c3_3
 unfold cache_follow_2.e1 at heq
 refine Rr<|Rv 1 [2,6,46] [iv v_c3_0,iv v_c3_1,.slice Av_c3_2 v_c3_2.length cv_c3_2,.slice Av_c3_3 v_c3_3.length cv_c3_3] [.load ⟨g1,0,none⟩ (iv v_c3_0),.load ⟨g1,1,none⟩ (iv v_c3_1),.load ⟨g1,2,none⟩ (.slice Av_c3_2 v_c3_2.length cv_c3_2),.load ⟨g1,3,none⟩ (.slice Av_c3_3 v_c3_3.length cv_c3_3)] [(2,.func (.func 95) #[] #[.pointer (some ⟨ga2q0,0,none⟩)]),(6,pg g2 0),(46,.agg #[iv v_c3_0,iv v_c3_1,.slice Av_c3_2 v_c3_2.length cv_c3_2,.slice Av_c3_3 v_c3_3.length cv_c3_3])] (fun w hh=>⟨(hh.box 3 rfl rfl),(hh.box 3 rfl rfl),(hh.box 3 rfl rfl),(hh.box 3 rfl rfl)⟩) ?_
 refine RgH.does (DoesH.store (k:=2) (g:=g2) (off:=0) (v:=.agg #[iv v_c3_0,iv v_c3_1,.slice Av_c3_2 v_c3_2.length cv_c3_2,.slice Av_c3_3 v_c3_3.length cv_c3_3]) (cells':=#[iv v_c3_0,iv v_c3_1,.slice Av_c3_2 v_c3_2.length cv_c3_2,.slice Av_c3_3 v_c3_3.length cv_c3_3]) (by kernel_rfl) rfl (by kernel_rfl) (by kernel_rfl)) ?_
 rintro _ _ _ _ ⟨rfl,rfl,rfl⟩
 refine Rd 3 [2,6,7] [(2,.func (.func 95) #[] #[.pointer (some ⟨ga2q0,0,none⟩)]),(6,pg g2 0),(7,iv 0)] ?_
 obtain rfl:=Option.some.inj heq
 refine RunH.pick 5 [2,0,1,4] (cs':=(some (g2,.cells #[iv v_c3_0,iv v_c3_1,.slice Av_c3_2 v_c3_2.length cv_c3_2,.slice Av_c3_3 v_c3_3.length cv_c3_3] 25 (0,0)))::chv_c3_2::chv_c3_3::(some (ga2q0,.cells #[iv v_see2_0_0] 3 (0,0)))::F) (by kernel_rfl) rfl ?_
 exact RunH.doneM' 1 (vs:=[.agg #[iv v_c3_0,iv v_c3_1,.slice Av_c3_2 v_c3_2.length cv_c3_2,.slice Av_c3_3 v_c3_3.length cv_c3_3],iv 0]) (v:=.tuple #[.agg #[iv v_c3_0,iv v_c3_1,.slice Av_c3_2 v_c3_2.length cv_c3_2,.slice Av_c3_3 v_c3_3.length cv_c3_3],iv 0]) (by kernel_rfl) Tryd.func93 (fun w hh=>show ResAll _ _ _ [.cell 6 25,.tmp 7] _ from ⟨⟨⟨g2,0,none⟩,by kernel_rfl,trS_run _ (vs:=[iv v_c3_0,iv v_c3_1,.slice Av_c3_2 v_c3_2.length cv_c3_2,.slice Av_c3_3 v_c3_3.length cv_c3_3]) (r:=[]) (es:=[.load ⟨g2,0,none⟩ (iv v_c3_0),.load ⟨g2,1,none⟩ (iv v_c3_1),.load ⟨g2,2,none⟩ (.slice Av_c3_2 v_c3_2.length cv_c3_2),.load ⟨g2,3,none⟩ (.slice Av_c3_3 v_c3_3.length cv_c3_3)]) (by kernel_rfl) ⟨(hh.box 0 rfl rfl),(hh.box 0 rfl rfl),(hh.box 0 rfl rfl),(hh.box 0 rfl rfl)⟩⟩,(show lk _ _=some _ by kernel_rfl),trivial⟩) rfl (cs':=chv_c3_2::chv_c3_3::(some (ga2q0,.cells #[iv v_see2_0_0] 3 (0,0)))::F) rfl ⟨Av_c3_2,cv_c3_2,chv_c3_2,Av_c3_3,cv_c3_3,chv_c3_3,rfl,rfl,hov_c3_2,hov_c3_3⟩
theorem cache_follow_2.l2_c {w0:World} {H0:Hp} {F:List Ch} {r:Cache × Int × Int} (e1:Int→Int→Int→(List Blob)→(List Entry)→Option (Cache × Int × Int))
  (he1:∀ (H:Hp) (ga2q0:Nat) (g1:Nat) (g2:Nat) (v_see2_0_0:Int) (v_c3_0:Int) (v_c3_1:Int) (v_c3_2:List Blob) (Av_c3_2:Option Addr) (nv_c3_2:Nat) (cv_c3_2:Nat) (chv_c3_2:Ch) (v_c3_3:List Entry) (Av_c3_3:Option Addr) (nv_c3_3:Nat) (cv_c3_3:Nat) (chv_c3_3:Ch) ,SlOwn kBlob 47 H Av_c3_2 cv_c3_2 v_c3_2 chv_c3_2→nv_c3_2=v_c3_2.length→SlOwn kEntry 51 H Av_c3_3 cv_c3_3 v_c3_3 chv_c3_3→nv_c3_3=v_c3_3.length→e1 v_see2_0_0 v_c3_0 v_c3_1 v_c3_2 v_c3_3=some r→RunH C93v2 (S93v2 F H0 ga2q0 r) H0 w0 [.c [1,1,1,1,1,0],.c [1,1,1,1,1,1]] [(2,.func (.func 95) #[] #[.pointer (some ⟨ga2q0,0,none⟩)]),(3,pg g1 0),(6,pg g2 0)] H (chv_c3_2::chv_c3_3::(some (g2,.cells #[iv 0,iv 0,.slice none 0 0,.slice none 0 0] 25 (0,0)))::(some (g1,.cells #[iv v_c3_0,iv v_c3_1,.slice Av_c3_2 nv_c3_2 cv_c3_2,.slice Av_c3_3 nv_c3_3 cv_c3_3] 25 (0,0)))::(some (ga2q0,.cells #[iv v_see2_0_0] 3 (0,0)))::F)):∀ (k:Nat),∀ (H:Hp) (a1:List CacheEvent) (Aa1:Option Addr) (ca1:Nat) (ga2q0:Nat) (g1:Nat) (g2:Nat) (v_see2_0_0:Int) (v_c3_0:Int) (v_c3_1:Int) (v_c3_2:List Blob) (Av_c3_2:Option Addr) (nv_c3_2:Nat) (cv_c3_2:Nat) (chv_c3_2:Ch) (v_c3_3:List Entry) (Av_c3_3:Option Addr) (nv_c3_3:Nat) (cv_c3_3:Nat) (chv_c3_3:Ch) (v27:Int) ,Rw kCacheEvent H F Aa1 a1→a1.length≤ca1→SlOwn kBlob 47 H Av_c3_2 cv_c3_2 v_c3_2 chv_c3_2→nv_c3_2=v_c3_2.length→SlOwn kEntry 51 H Av_c3_3 cv_c3_3 v_c3_3 chv_c3_3→nv_c3_3=v_c3_3.length→cache_follow_2.l2 e1 k a1 v_see2_0_0 v_c3_0 v_c3_1 v_c3_2 v_c3_3 v27=some r→RunH C93v2 (S93v2 F H0 ga2q0 r) H0 w0 [.c [1,1,1,1,0,1,0,0],.l [1,1,1,1,0,1,0,0],.b 0,.c [1,1,1,1,1]] [(2,.func (.func 95) #[] #[.pointer (some ⟨ga2q0,0,none⟩)]),(3,pg g1 0),(6,pg g2 0),(25,.slice Aa1 a1.length ca1),(26,iv (a1.length:Int)),(27,iv v27)] H (chv_c3_2::chv_c3_3::(some (g2,.cells #[iv 0,iv 0,.slice none 0 0,.slice none 0 0] 25 (0,0)))::(some (g1,.cells #[iv v_c3_0,iv v_c3_1,.slice Av_c3_2 nv_c3_2 cv_c3_2,.slice Av_c3_3 nv_c3_3 cv_c3_3] 25 (0,0)))::(some (ga2q0,.cells #[iv v_see2_0_0] 3 (0,0)))::F):=by
 intro k
 induction k with
 | zero=>intro H a1 Aa1 ca1 ga2q0 g1 g2 v_see2_0_0 v_c3_0 v_c3_1 v_c3_2 Av_c3_2 nv_c3_2 cv_c3_2 chv_c3_2 v_c3_3 Av_c3_3 nv_c3_3 cv_c3_3 chv_c3_3 v27 hra1 hca1 hov_c3_2 hnv_c3_2 hov_c3_3 hnv_c3_3 heq; exact nomatch (show (none:Option (Cache × Int × Int))=some r from heq)
 | succ k ihk =>
  intro H a1 Aa1 ca1 ga2q0 g1 g2 v_see2_0_0 v_c3_0 v_c3_1 v_c3_2 Av_c3_2 nv_c3_2 cv_c3_2 chv_c3_2 v_c3_3 Av_c3_3 nv_c3_3 cv_c3_3 chv_c3_3 v27 hra1 hca1 hov_c3_2 hnv_c3_2 hov_c3_3 hnv_c3_3 heq
  subst hnv_c3_2
  subst hnv_c3_3
  rw [cache_follow_2.l2] at heq
  refine Ra 1 [1,1,1,1,0,1,0,0,0] [.c [1,1,1,1,0,1,0,0,1],.l [1,1,1,1,0,1,0,0],.b 0,.c [1,1,1,1,1]]<|Rd 1 [2,3,6,25,26,27,28] [(2,.func (.func 95) #[] #[.pointer (some ⟨ga2q0,0,none⟩)]),(3,pg g1 0),(6,pg g2 0),(25,.slice Aa1 a1.length ca1),(26,iv (a1.length:Int)),(27,iv v27),(28,.bool (decide (v27<(a1.length:Int))))]<|Ad 1 [.c [1,1,1,1,0,1,0,0,1,0],.c [1,1,1,1,0,1,0,0,1,1],.l [1,1,1,1,0,1,0,0],.b 0,.c [1,1,1,1,1]] ?_
  rcases bool_cases (decide (v27<(a1.length:Int))) with hb3 | hb3
  ·replace heq:=bif_true hb3 heq
   refine Ct (decide (v27<(a1.length:Int))) hb3<|Ra 4 [1,1,1,1,0,1,0,0,1,1,0,0,0] [.c [1,1,1,1,0,1,0,0,1,1,0,0,1],.b 1,.c [1,1,1,1,0,1,0,0,1,1,1],.l [1,1,1,1,0,1,0,0],.b 0,.c [1,1,1,1,1]] ?_
   obtain ⟨x1,hx1,heq⟩:=bind_some heq
   obtain ⟨ha1,cs1,hK1,hcc1⟩:=hra1.get hx1
   obtain ⟨A3,c3,rfl,hc1,hr1⟩:=kCacheEvent_open hK1
   refine Rv 2 [2,3,6,25,26,27,30] [iv x1.Kind,iv x1.At,.string x1.Digest,.slice A3 x1.Digests.length c3,.string x1.Key,iv x1.Size] [.need (Aa1=some (adr Aa1)∧(0:Int)≤v27∧v27<((a1.length:Nat):Int)),.load (((adr Aa1).add (v27.toNat*6)).add 0) (iv x1.Kind),.load (((adr Aa1).add (v27.toNat*6)).add 1) (iv x1.At),.load (((adr Aa1).add (v27.toNat*6)).add 2) (.string x1.Digest),.load (((adr Aa1).add (v27.toNat*6)).add 3) (.slice A3 x1.Digests.length c3),.load (((adr Aa1).add (v27.toNat*6)).add 4) (.string x1.Key),.load (((adr Aa1).add (v27.toNat*6)).add 5) (iv x1.Size)] [(2,.func (.func 95) #[] #[.pointer (some ⟨ga2q0,0,none⟩)]),(3,pg g1 0),(6,pg g2 0),(25,.slice Aa1 a1.length ca1),(26,iv (a1.length:Int)),(27,iv v27),(30,.agg #[iv x1.Kind,iv x1.At,.string x1.Digest,.slice A3 x1.Digests.length c3,.string x1.Key,iv x1.Size])] (fun w hh=>⟨⟨ha1,(at?_some hx1).1,(at?_some hx1).2.1⟩,(hcc1 _ _ (hh.drop 5) 0 _ rfl),(hcc1 _ _ (hh.drop 5) 1 _ rfl),(hcc1 _ _ (hh.drop 5) 2 _ rfl),(hcc1 _ _ (hh.drop 5) 3 _ rfl),(hcc1 _ _ (hh.drop 5) 4 _ rfl),(hcc1 _ _ (hh.drop 5) 5 _ rfl)⟩) ?_
   refine RgH.does (DoesH.new (d:=10) (v:=fun g=>.pointer (some ⟨g,0,none⟩)) (o:=fun g=>.cells #[iv 0,iv 0,.string ByteArray.empty,.slice none 0 0,.string ByteArray.empty,iv 0] 67 (0,0)) (fun g=>by kernel_rfl)) ?_
   rintro _ _ _ _ ⟨g3,rfl,rfl,rfl⟩
   refine RgH.does (DoesH.store (k:=0) (g:=g3) (off:=0) (v:=.agg #[iv x1.Kind,iv x1.At,.string x1.Digest,.slice A3 x1.Digests.length c3,.string x1.Key,iv x1.Size]) (cells':=#[iv x1.Kind,iv x1.At,.string x1.Digest,.slice A3 x1.Digests.length c3,.string x1.Key,iv x1.Size]) (by kernel_rfl) rfl (by kernel_rfl) (by kernel_rfl)) ?_
   rintro _ _ _ _ ⟨rfl,rfl,rfl⟩
   refine Dn<|Ra 1 [1,1,1,1,0,1,0,0,1,1,0,0,1,0] [.c [1,1,1,1,0,1,0,0,1,1,0,0,1,1],.b 1,.c [1,1,1,1,0,1,0,0,1,1,1],.l [1,1,1,1,0,1,0,0],.b 0,.c [1,1,1,1,1]]<|Rv 1 [2,3,6,10,25,26,27,32] [iv x1.Kind,iv x1.At,.string x1.Digest,.slice A3 x1.Digests.length c3,.string x1.Key,iv x1.Size] [.load ⟨g3,0,none⟩ (iv x1.Kind),.load ⟨g3,1,none⟩ (iv x1.At),.load ⟨g3,2,none⟩ (.string x1.Digest),.load ⟨g3,3,none⟩ (.slice A3 x1.Digests.length c3),.load ⟨g3,4,none⟩ (.string x1.Key),.load ⟨g3,5,none⟩ (iv x1.Size)] [(2,.func (.func 95) #[] #[.pointer (some ⟨ga2q0,0,none⟩)]),(3,pg g1 0),(6,pg g2 0),(10,pg g3 0),(25,.slice Aa1 a1.length ca1),(26,iv (a1.length:Int)),(27,iv v27),(32,.agg #[iv x1.Kind,iv x1.At,.string x1.Digest,.slice A3 x1.Digests.length c3,.string x1.Key,iv x1.Size])] (fun w hh=>⟨(hh.box 0 rfl rfl),(hh.box 0 rfl rfl),(hh.box 0 rfl rfl),(hh.box 0 rfl rfl),(hh.box 0 rfl rfl),(hh.box 0 rfl rfl)⟩) ?_
   refine RgH.pick 6 [4,1,2,0,3,5] (cs':=(some (g1,.cells #[iv v_c3_0,iv v_c3_1,.slice Av_c3_2 v_c3_2.length cv_c3_2,.slice Av_c3_3 v_c3_3.length cv_c3_3] 25 (0,0)))::chv_c3_2::chv_c3_3::(some (g3,.cells #[iv x1.Kind,iv x1.At,.string x1.Digest,.slice A3 x1.Digests.length c3,.string x1.Key,iv x1.Size] 67 (0,0)))::(some (g2,.cells #[iv 0,iv 0,.slice none 0 0,.slice none 0 0] 25 (0,0)))::(some (ga2q0,.cells #[iv v_see2_0_0] 3 (0,0)))::F) (by kernel_rfl) rfl ?_
   obtain ⟨y3,hy3,heq⟩:=bind_some heq
   refine RgH.does (DoesH.call (d:=33) (g:=91) (args:=#[.pointer (some ⟨g1,0,none⟩),.agg #[iv x1.Kind,iv x1.At,.string x1.Digest,.slice A3 x1.Digests.length c3,.string x1.Key,iv x1.Size]]) (by kernel_rfl) (cache_do_c (a0:=(⟨v_c3_0,v_c3_1,v_c3_2,v_c3_3⟩:Cache)) (a1:=x1) hov_c3_2 rfl hov_c3_3 rfl (Rw.of hr1) hc1 rfl hy3)) ?_
   rintro _ H _ hl ⟨_,rfl,A4,c4,ch3,A5,c5,ch4,A6,c6,ch5,A7,c7,ch6,rfl,rfl,ho7,ho8,ho9,ho10⟩
   replace hov_c3_2:=hov_c3_2.mono hl
   replace hov_c3_3:=hov_c3_3.mono hl
   replace hr1:=hr1.mono hl
   replace hra1:=hra1.mono hl
   refine Rk 5 [2,3,6,10,25,26,27,34,35] [(2,.func (.func 95) #[] #[.pointer (some ⟨ga2q0,0,none⟩)]),(3,pg g1 0),(6,pg g2 0),(10,pg g3 0),(25,.slice Aa1 a1.length ca1),(26,iv (a1.length:Int)),(27,iv v27),(34,.agg #[.bool y3.1.Done,.slice A4 y3.1.Missing.length c4,.slice A5 y3.1.Gone.length c5]),(35,iv y3.2.1)] ?_
   refine RgH.does (DoesH.new (d:=11) (v:=fun g=>.pointer (some ⟨g,0,none⟩)) (o:=fun g=>.cells #[.bool false,.slice none 0 0,.slice none 0 0] 63 (0,0)) (fun g=>by kernel_rfl)) ?_
   rintro _ _ _ _ ⟨g4,rfl,rfl,rfl⟩
   refine RgH.does (DoesH.store (k:=0) (g:=g4) (off:=0) (v:=.agg #[.bool y3.1.Done,.slice A4 y3.1.Missing.length c4,.slice A5 y3.1.Gone.length c5]) (cells':=#[.bool y3.1.Done,.slice A4 y3.1.Missing.length c4,.slice A5 y3.1.Gone.length c5]) (by kernel_rfl) rfl (by kernel_rfl) (by kernel_rfl)) ?_
   rintro _ _ _ _ ⟨rfl,rfl,rfl⟩
   refine Rd 8 [2,3,6,10,11,12,25,26,27] [(2,.func (.func 95) #[] #[.pointer (some ⟨ga2q0,0,none⟩)]),(3,pg g1 0),(6,pg g2 0),(10,pg g3 0),(11,pg g4 0),(12,iv y3.2.1),(25,.slice Aa1 a1.length ca1),(26,iv (a1.length:Int)),(27,iv v27)]<|Ra 2 [1,1,1,1,0,1,0,0,1,1,0,0,1,1,0,0] [.c [1,1,1,1,0,1,0,0,1,1,0,0,1,1,0,1],.c [1,1,1,1,0,1,0,0,1,1,0,0,1,1,1],.b 1,.c [1,1,1,1,0,1,0,0,1,1,1],.l [1,1,1,1,0,1,0,0],.b 0,.c [1,1,1,1,1]]<|Rd 2 [2,3,6,10,11,12,25,26,27,37] [(2,.func (.func 95) #[] #[.pointer (some ⟨ga2q0,0,none⟩)]),(3,pg g1 0),(6,pg g2 0),(10,pg g3 0),(11,pg g4 0),(12,iv y3.2.1),(25,.slice Aa1 a1.length ca1),(26,iv (a1.length:Int)),(27,iv v27),(37,.bool (y3.2.1 != 0))] ?_
   rcases bool_cases (y3.2.1 != 0) with hb4 | hb4
   ·replace heq:=bif_true hb4 heq
    refine Ct (y3.2.1 != 0) hb4<|Ra 1 [1,1,1,1,0,1,0,0,1,1,0,0,1,1,0,1,0,0] [.c [1,1,1,1,0,1,0,0,1,1,0,0,1,1,0,1,0,1],.c [1,1,1,1,0,1,0,0,1,1,0,0,1,1,1],.b 1,.c [1,1,1,1,0,1,0,0,1,1,1],.l [1,1,1,1,0,1,0,0],.b 0,.c [1,1,1,1,1]]<|Rk 2 [2,6,38,39] [(2,.func (.func 95) #[] #[.pointer (some ⟨ga2q0,0,none⟩)]),(6,pg g2 0),(38,.agg #[iv 0,iv 0,.slice none 0 0,.slice none 0 0]),(39,iv y3.2.1)] ?_
    refine RgH.does (DoesH.store (k:=7) (g:=g2) (off:=0) (v:=.agg #[iv 0,iv 0,.slice none 0 0,.slice none 0 0]) (cells':=#[iv 0,iv 0,.slice none 0 0,.slice none 0 0]) (by kernel_rfl) rfl (by kernel_rfl) (by kernel_rfl)) ?_
    rintro _ _ _ _ ⟨rfl,rfl,rfl⟩
    refine Rd 4 [2,6,7] [(2,.func (.func 95) #[] #[.pointer (some ⟨ga2q0,0,none⟩)]),(6,pg g2 0),(7,iv y3.2.1)]<|RunH.nilc ?_
    have ho11:SlOwn kBlob 47 H none 0 ([]:List Blob) none:=SlOwn.nil
    refine RunH.nilc ?_
    have ho12:SlOwn kEntry 51 H none 0 ([]:List Entry) none:=SlOwn.nil
    obtain rfl:=Option.some.inj heq
    refine RunH.pick 11 [9,1,0,10] (cs':=(some (g2,.cells #[iv 0,iv 0,.slice none 0 0,.slice none 0 0] 25 (0,0)))::none::none::(some (ga2q0,.cells #[iv v_see2_0_0] 3 (0,0)))::F) (by kernel_rfl) rfl ?_
    exact RunH.doneM' 1 (vs:=[.agg #[iv 0,iv 0,.slice none 0 0,.slice none 0 0],iv y3.2.1]) (v:=.tuple #[.agg #[iv 0,iv 0,.slice none 0 0,.slice none 0 0],iv y3.2.1]) (by kernel_rfl) Tryd.func93 (fun w hh=>show ResAll _ _ _ [.cell 6 25,.tmp 7] _ from ⟨⟨⟨g2,0,none⟩,by kernel_rfl,trS_run _ (vs:=[iv 0,iv 0,.slice none 0 0,.slice none 0 0]) (r:=[]) (es:=[.load ⟨g2,0,none⟩ (iv 0),.load ⟨g2,1,none⟩ (iv 0),.load ⟨g2,2,none⟩ (.slice none 0 0),.load ⟨g2,3,none⟩ (.slice none 0 0)]) (by kernel_rfl) ⟨(hh.box 0 rfl rfl),(hh.box 0 rfl rfl),(hh.box 0 rfl rfl),(hh.box 0 rfl rfl)⟩⟩,(show lk _ _=some _ by kernel_rfl),trivial⟩) rfl (cs':=none::none::(some (ga2q0,.cells #[iv v_see2_0_0] 3 (0,0)))::F) rfl ⟨none,0,none,none,0,none,rfl,rfl,ho11,ho12⟩
   ·replace heq:=bif_false hb4 heq
    refine Cf (y3.2.1 != 0) hb4<|Ra 1 [1,1,1,1,0,1,0,0,1,1,0,0,1,1,1] [.b 1,.c [1,1,1,1,0,1,0,0,1,1,1],.l [1,1,1,1,0,1,0,0],.b 0,.c [1,1,1,1,1]]<|Rv 4 [2,3,6,25,26,27,40,41,42,43] [iv y3.2.2.Room,iv y3.2.2.Lease,.slice A6 y3.2.2.Blobs.length c6,.slice A7 y3.2.2.Entries.length c7,iv x1.Kind,iv x1.At,.string x1.Digest,.slice A3 x1.Digests.length c3,.string x1.Key,iv x1.Size,.bool y3.1.Done,.slice A4 y3.1.Missing.length c4,.slice A5 y3.1.Gone.length c5] [.load ⟨g1,0,none⟩ (iv y3.2.2.Room),.load ⟨g1,1,none⟩ (iv y3.2.2.Lease),.load ⟨g1,2,none⟩ (.slice A6 y3.2.2.Blobs.length c6),.load ⟨g1,3,none⟩ (.slice A7 y3.2.2.Entries.length c7),.load ⟨g3,0,none⟩ (iv x1.Kind),.load ⟨g3,1,none⟩ (iv x1.At),.load ⟨g3,2,none⟩ (.string x1.Digest),.load ⟨g3,3,none⟩ (.slice A3 x1.Digests.length c3),.load ⟨g3,4,none⟩ (.string x1.Key),.load ⟨g3,5,none⟩ (iv x1.Size),.load ⟨g4,0,none⟩ (.bool y3.1.Done),.load ⟨g4,1,none⟩ (.slice A4 y3.1.Missing.length c4),.load ⟨g4,2,none⟩ (.slice A5 y3.1.Gone.length c5)] [(2,.func (.func 95) #[] #[.pointer (some ⟨ga2q0,0,none⟩)]),(3,pg g1 0),(6,pg g2 0),(25,.slice Aa1 a1.length ca1),(26,iv (a1.length:Int)),(27,iv v27),(40,.func (.func 95) #[] #[.pointer (some ⟨ga2q0,0,none⟩)]),(41,.agg #[iv y3.2.2.Room,iv y3.2.2.Lease,.slice A6 y3.2.2.Blobs.length c6,.slice A7 y3.2.2.Entries.length c7]),(42,.agg #[iv x1.Kind,iv x1.At,.string x1.Digest,.slice A3 x1.Digests.length c3,.string x1.Key,iv x1.Size]),(43,.agg #[.bool y3.1.Done,.slice A4 y3.1.Missing.length c4,.slice A5 y3.1.Gone.length c5])] (fun w hh=>⟨(hh.box 3 rfl rfl),(hh.box 3 rfl rfl),(hh.box 3 rfl rfl),(hh.box 3 rfl rfl),(hh.box 6 rfl rfl),(hh.box 6 rfl rfl),(hh.box 6 rfl rfl),(hh.box 6 rfl rfl),(hh.box 6 rfl rfl),(hh.box 6 rfl rfl),(hh.box 0 rfl rfl),(hh.box 0 rfl rfl),(hh.box 0 rfl rfl)⟩) ?_
    refine RgH.pick 9 [8,0,1,2,3,4,5,6,7] (cs':=(some (ga2q0,.cells #[iv v_see2_0_0] 3 (0,0)))::(some (g4,.cells #[.bool y3.1.Done,.slice A4 y3.1.Missing.length c4,.slice A5 y3.1.Gone.length c5] 63 (0,0)))::ch3::ch4::(some (g1,.cells #[iv y3.2.2.Room,iv y3.2.2.Lease,.slice A6 y3.2.2.Blobs.length c6,.slice A7 y3.2.2.Entries.length c7] 25 (0,0)))::ch5::ch6::(some (g3,.cells #[iv x1.Kind,iv x1.At,.string x1.Digest,.slice A3 x1.Digests.length c3,.string x1.Key,iv x1.Size] 67 (0,0)))::(some (g2,.cells #[iv 0,iv 0,.slice none 0 0,.slice none 0 0] 25 (0,0)))::F) (by kernel_rfl) rfl ?_
    obtain ⟨y4,hy4,heq⟩:=bind_some heq
    refine RgH.does (DoesH.call (d:=44) (g:=95) (args:=#[.agg #[iv y3.2.2.Room,iv y3.2.2.Lease,.slice A6 y3.2.2.Blobs.length c6,.slice A7 y3.2.2.Entries.length c7],.agg #[iv x1.Kind,iv x1.At,.string x1.Digest,.slice A3 x1.Digests.length c3,.string x1.Key,iv x1.Size],.agg #[.bool y3.1.Done,.slice A4 y3.1.Missing.length c4,.slice A5 y3.1.Gone.length c5],.pointer (some ⟨ga2q0,0,none⟩)]) (by kernel_rfl) (cache_Peak_1_c (a0:=(⟨y3.2.2.Room,y3.2.2.Lease,y3.2.2.Blobs,y3.2.2.Entries⟩:Cache)) (a1:=x1) (a2:=(⟨y3.1.Done,y3.1.Missing,y3.1.Gone⟩:CacheAnswer)) (a3:=v_see2_0_0) (ho9.rw (.tail _ (.tail _ (.tail _ (.tail _ (.head _)))))) ho9.cap rfl (ho10.rw (.tail _ (.tail _ (.tail _ (.tail _ (.tail _ (.head _))))))) ho10.cap rfl (Rw.of hr1) hc1 rfl (ho7.rw (.tail _ (.head _))) ho7.cap rfl (ho8.rw (.tail _ (.tail _ (.head _)))) ho8.cap rfl hy4)) ?_
    rintro _ _ _ _ ⟨_,rfl,rfl,rfl,rfl⟩
    refine Dn<|Ra 1 [1,1,1,1,0,1,0,0,1,1,1] [.l [1,1,1,1,0,1,0,0],.b 0,.c [1,1,1,1,1]]<|Rd 2 [2,3,6,25,26,27] [(2,.func (.func 95) #[] #[.pointer (some ⟨ga2q0,0,none⟩)]),(3,pg g1 0),(6,pg g2 0),(25,.slice Aa1 a1.length ca1),(26,iv (a1.length:Int)),(27,iv (w64 (v27+1)))]<|Ad 1 [.c [1,1,1,1,0,1,0,0],.l [1,1,1,1,0,1,0,0],.b 0,.c [1,1,1,1,1]]<|Kp [2,3,6,25,26,27] [(2,.func (.func 95) #[] #[.pointer (some ⟨ga2q0,0,none⟩)]),(3,pg g1 0),(6,pg g2 0),(25,.slice Aa1 a1.length ca1),(26,iv (a1.length:Int)),(27,iv (w64 (v27+1)))] ?_
    refine RunH.pick 9 [5,6,8,4,0] (cs':=ch5::ch6::(some (g2,.cells #[iv 0,iv 0,.slice none 0 0,.slice none 0 0] 25 (0,0)))::(some (g1,.cells #[iv y3.2.2.Room,iv y3.2.2.Lease,.slice A6 y3.2.2.Blobs.length c6,.slice A7 y3.2.2.Entries.length c7] 25 (0,0)))::(some (ga2q0,.cells #[iv y4] 3 (0,0)))::F) (by kernel_rfl) rfl ?_
    exact ihk _ a1 _ _ _ _ _ y4 y3.2.2.Room y3.2.2.Lease y3.2.2.Blobs _ _ _ _ y3.2.2.Entries _ _ _ _ (w64 (v27+1)) hra1 hca1 ho9 rfl ho10 rfl heq
  ·replace heq:=bif_false hb3 heq
   refine Cf (decide (v27<(a1.length:Int))) hb3<|Ad 2 [.c [1,1,1,1,1,0],.c [1,1,1,1,1,1]]<|Kp [2,3,6] [(2,.func (.func 95) #[] #[.pointer (some ⟨ga2q0,0,none⟩)]),(3,pg g1 0),(6,pg g2 0)] ?_
   exact he1 _ _ _ _ v_see2_0_0 v_c3_0 v_c3_1 v_c3_2 _ _ _ _ v_c3_3 _ _ _ _ hov_c3_2 rfl hov_c3_3 rfl heq
theorem cache_follow_2_c {w0:World} {H0:Hp} {F:List Ch} {a0:Cache} {Aa0_2:Option Addr} {na0_2:Nat} {ca0_2:Nat} {Aa0_3:Option Addr} {na0_3:Nat} {ca0_3:Nat} {a1:List CacheEvent} {Aa1:Option Addr} {na1:Nat} {ca1:Nat} {ga2q0:Nat} {a2q0:Int} {r:Cache × Int × Int} (hra0_2:Rw kBlob H0 F Aa0_2 a0.Blobs) (hca0_2:na0_2≤ca0_2) (hna0_2:na0_2=a0.Blobs.length) (hra0_3:Rw kEntry H0 F Aa0_3 a0.Entries) (hca0_3:na0_3≤ca0_3) (hna0_3:na0_3=a0.Entries.length) (hra1:Rw kCacheEvent H0 F Aa1 a1) (hca1:na1≤ca1) (hna1:na1=a1.length) (heq:cache_follow_2.f a0 a1 a2q0=some r):CallsH Tryd.prog 93 #[.agg #[iv a0.Room,iv a0.Lease,.slice Aa0_2 na0_2 ca0_2,.slice Aa0_3 na0_3 ca0_3],.slice Aa1 na1 ca1,.func (.func 95) #[] #[.pointer (some ⟨ga2q0,0,none⟩)]] H0 w0 ((some (ga2q0,.cells #[iv a2q0] 3 (0,0)))::F) (S93v2 F H0 ga2q0 r):=by
 refine calls_of_runH (F:=C93v2) Tryd.func93 (by kernel_rfl) Tryd.ntmps93 (args:=[.agg #[iv a0.Room,iv a0.Lease,.slice Aa0_2 na0_2 ca0_2,.slice Aa0_3 na0_3 ca0_3],.slice Aa1 na1 ca1,.func (.func 95) #[] #[.pointer (some ⟨ga2q0,0,none⟩)]]) (by kernel_rfl) ?_
 subst hna0_2
 subst hna0_3
 subst hna1
 unfold cache_follow_2.f at heq
 suffices key:∀ (H:Hp),Rw kBlob H F Aa0_2 a0.Blobs→Rw kEntry H F Aa0_3 a0.Entries→Rw kCacheEvent H F Aa1 a1→RunH C93v2 (S93v2 F H0 ga2q0 r) H0 w0 [.c []] (argL 0 [.agg #[iv a0.Room,iv a0.Lease,.slice Aa0_2 (a0.Blobs.length) ca0_2,.slice Aa0_3 (a0.Entries.length) ca0_3],.slice Aa1 (a1.length) ca1,.func (.func 95) #[] #[.pointer (some ⟨ga2q0,0,none⟩)]]) H ((some (ga2q0,.cells #[iv a2q0] 3 (0,0)))::F) from key H0 hra0_2 hra0_3 hra1
 intro H hra0_2 hra0_3 hra1
 refine Ra 1 [0] [.c [1]] ?_
 refine RgH.does (DoesH.new (d:=3) (v:=fun g=>.pointer (some ⟨g,0,none⟩)) (o:=fun g=>.cells #[iv a0.Room,iv a0.Lease,.slice Aa0_2 a0.Blobs.length ca0_2,.slice Aa0_3 a0.Entries.length ca0_3] 25 (0,0)) (fun g=>by kernel_rfl)) ?_
 rintro _ _ _ _ ⟨g1,rfl,rfl,rfl⟩
 refine RgH.does (DoesH.new (d:=6) (v:=fun g=>.pointer (some ⟨g,0,none⟩)) (o:=fun g=>.cells #[iv 0,iv 0,.slice none 0 0,.slice none 0 0] 25 (0,0)) (fun g=>by kernel_rfl)) ?_
 rintro _ _ _ _ ⟨g2,rfl,rfl,rfl⟩
 refine Rd 3 [1,2,3,6] [(1,.slice Aa1 a1.length ca1),(2,.func (.func 95) #[] #[.pointer (some ⟨ga2q0,0,none⟩)]),(3,pg g1 0),(6,pg g2 0)]<|Ra 2 [1,0,0] [.c [1,0,1],.c [1,1]]<|Rv 1 [1,2,3,6,13] [iv a0.Room,iv a0.Lease,.slice Aa0_2 a0.Blobs.length ca0_2,.slice Aa0_3 a0.Entries.length ca0_3] [.load ⟨g1,0,none⟩ (iv a0.Room),.load ⟨g1,1,none⟩ (iv a0.Lease),.load ⟨g1,2,none⟩ (.slice Aa0_2 a0.Blobs.length ca0_2),.load ⟨g1,3,none⟩ (.slice Aa0_3 a0.Entries.length ca0_3)] [(1,.slice Aa1 a1.length ca1),(2,.func (.func 95) #[] #[.pointer (some ⟨ga2q0,0,none⟩)]),(3,pg g1 0),(6,pg g2 0),(13,.agg #[iv a0.Room,iv a0.Lease,.slice Aa0_2 a0.Blobs.length ca0_2,.slice Aa0_3 a0.Entries.length ca0_3])] (fun w hh=>⟨(hh.box 1 rfl rfl),(hh.box 1 rfl rfl),(hh.box 1 rfl rfl),(hh.box 1 rfl rfl)⟩) ?_
 obtain ⟨y1,hy1,heq⟩:=bind_some heq
 refine RgH.does (DoesH.call (d:=14) (g:=22) (args:=#[.agg #[iv a0.Room,iv a0.Lease,.slice Aa0_2 a0.Blobs.length ca0_2,.slice Aa0_3 a0.Entries.length ca0_3]]) (by kernel_rfl) (cache_CheckCache_c (a0:=a0) (hra0_2.wk (fun _ h=>(.tail _ (.tail _ (.tail _ h))))) hca0_2 rfl (hra0_3.wk (fun _ h=>(.tail _ (.tail _ (.tail _ h))))) hca0_3 rfl hy1)) ?_
 rintro _ _ _ _ ⟨_,rfl,rfl,rfl,rfl⟩
 refine Rd 3 [1,2,3,6,8] [(1,.slice Aa1 a1.length ca1),(2,.func (.func 95) #[] #[.pointer (some ⟨ga2q0,0,none⟩)]),(3,pg g1 0),(6,pg g2 0),(8,iv y1)]<|Ra 1 [1,0,1,0] [.c [1,0,1,1],.c [1,1]]<|Rd 2 [1,2,3,6,8,16] [(1,.slice Aa1 a1.length ca1),(2,.func (.func 95) #[] #[.pointer (some ⟨ga2q0,0,none⟩)]),(3,pg g1 0),(6,pg g2 0),(8,iv y1),(16,.bool (y1 != 0))] ?_
 rcases bool_cases (y1 != 0) with hb1 | hb1
 ·replace heq:=bif_true hb1 heq
  refine Ct (y1 != 0) hb1<|Ra 1 [1,0,1,1,0,0] [.c [1,0,1,1,0,1],.c [1,1]]<|Rk 2 [2,6,17,18] [(2,.func (.func 95) #[] #[.pointer (some ⟨ga2q0,0,none⟩)]),(6,pg g2 0),(17,.agg #[iv 0,iv 0,.slice none 0 0,.slice none 0 0]),(18,iv y1)] ?_
  refine RgH.does (DoesH.store (k:=0) (g:=g2) (off:=0) (v:=.agg #[iv 0,iv 0,.slice none 0 0,.slice none 0 0]) (cells':=#[iv 0,iv 0,.slice none 0 0,.slice none 0 0]) (by kernel_rfl) rfl (by kernel_rfl) (by kernel_rfl)) ?_
  rintro _ _ _ _ ⟨rfl,rfl,rfl⟩
  refine Rd 4 [2,6,7] [(2,.func (.func 95) #[] #[.pointer (some ⟨ga2q0,0,none⟩)]),(6,pg g2 0),(7,iv y1)]<|RunH.nilc ?_
  have ho1:SlOwn kBlob 47 H none 0 ([]:List Blob) none:=SlOwn.nil
  refine RunH.nilc ?_
  have ho2:SlOwn kEntry 51 H none 0 ([]:List Entry) none:=SlOwn.nil
  obtain rfl:=Option.some.inj heq
  refine RunH.pick 5 [2,1,0,4] (cs':=(some (g2,.cells #[iv 0,iv 0,.slice none 0 0,.slice none 0 0] 25 (0,0)))::none::none::(some (ga2q0,.cells #[iv a2q0] 3 (0,0)))::F) (by kernel_rfl) rfl ?_
  exact RunH.doneM' 1 (vs:=[.agg #[iv 0,iv 0,.slice none 0 0,.slice none 0 0],iv y1]) (v:=.tuple #[.agg #[iv 0,iv 0,.slice none 0 0,.slice none 0 0],iv y1]) (by kernel_rfl) Tryd.func93 (fun w hh=>show ResAll _ _ _ [.cell 6 25,.tmp 7] _ from ⟨⟨⟨g2,0,none⟩,by kernel_rfl,trS_run _ (vs:=[iv 0,iv 0,.slice none 0 0,.slice none 0 0]) (r:=[]) (es:=[.load ⟨g2,0,none⟩ (iv 0),.load ⟨g2,1,none⟩ (iv 0),.load ⟨g2,2,none⟩ (.slice none 0 0),.load ⟨g2,3,none⟩ (.slice none 0 0)]) (by kernel_rfl) ⟨(hh.box 0 rfl rfl),(hh.box 0 rfl rfl),(hh.box 0 rfl rfl),(hh.box 0 rfl rfl)⟩⟩,(show lk _ _=some _ by kernel_rfl),trivial⟩) rfl (cs':=none::none::(some (ga2q0,.cells #[iv a2q0] 3 (0,0)))::F) rfl ⟨none,0,none,none,0,none,rfl,rfl,ho1,ho2⟩
 ·replace heq:=bif_false hb1 heq
  refine Cf (y1 != 0) hb1<|Ra 3 [1,1,0,0] [.c [1,1,0,1],.c [1,1,1]]<|Rd 3 [1,2,3,6,21] [(1,.slice Aa1 a1.length ca1),(2,.func (.func 95) #[] #[.pointer (some ⟨ga2q0,0,none⟩)]),(3,pg g1 0),(6,pg g2 0),(21,.bool (decide (3000<(a1.length:Int))))] ?_
  rcases bool_cases (decide (3000<(a1.length:Int))) with hb2 | hb2
  ·replace heq:=bif_true hb2 heq
   refine Ct (decide (3000<(a1.length:Int))) hb2<|Ra 1 [1,1,0,1,0,0] [.c [1,1,0,1,0,1],.c [1,1,1]]<|Rk 1 [2,6,22] [(2,.func (.func 95) #[] #[.pointer (some ⟨ga2q0,0,none⟩)]),(6,pg g2 0),(22,.agg #[iv 0,iv 0,.slice none 0 0,.slice none 0 0])] ?_
   refine RgH.does (DoesH.store (k:=0) (g:=g2) (off:=0) (v:=.agg #[iv 0,iv 0,.slice none 0 0,.slice none 0 0]) (cells':=#[iv 0,iv 0,.slice none 0 0,.slice none 0 0]) (by kernel_rfl) rfl (by kernel_rfl) (by kernel_rfl)) ?_
   rintro _ _ _ _ ⟨rfl,rfl,rfl⟩
   refine Rd 3 [2,6,7] [(2,.func (.func 95) #[] #[.pointer (some ⟨ga2q0,0,none⟩)]),(6,pg g2 0),(7,iv 2)]<|RunH.nilc ?_
   have ho3:SlOwn kBlob 47 H none 0 ([]:List Blob) none:=SlOwn.nil
   refine RunH.nilc ?_
   have ho4:SlOwn kEntry 51 H none 0 ([]:List Entry) none:=SlOwn.nil
   obtain rfl:=Option.some.inj heq
   refine RunH.pick 5 [2,1,0,4] (cs':=(some (g2,.cells #[iv 0,iv 0,.slice none 0 0,.slice none 0 0] 25 (0,0)))::none::none::(some (ga2q0,.cells #[iv a2q0] 3 (0,0)))::F) (by kernel_rfl) rfl ?_
   exact RunH.doneM' 1 (vs:=[.agg #[iv 0,iv 0,.slice none 0 0,.slice none 0 0],iv 2]) (v:=.tuple #[.agg #[iv 0,iv 0,.slice none 0 0,.slice none 0 0],iv 2]) (by kernel_rfl) Tryd.func93 (fun w hh=>show ResAll _ _ _ [.cell 6 25,.tmp 7] _ from ⟨⟨⟨g2,0,none⟩,by kernel_rfl,trS_run _ (vs:=[iv 0,iv 0,.slice none 0 0,.slice none 0 0]) (r:=[]) (es:=[.load ⟨g2,0,none⟩ (iv 0),.load ⟨g2,1,none⟩ (iv 0),.load ⟨g2,2,none⟩ (.slice none 0 0),.load ⟨g2,3,none⟩ (.slice none 0 0)]) (by kernel_rfl) ⟨(hh.box 0 rfl rfl),(hh.box 0 rfl rfl),(hh.box 0 rfl rfl),(hh.box 0 rfl rfl)⟩⟩,(show lk _ _=some _ by kernel_rfl),trivial⟩) rfl (cs':=none::none::(some (ga2q0,.cells #[iv a2q0] 3 (0,0)))::F) rfl ⟨none,0,none,none,0,none,rfl,rfl,ho3,ho4⟩
  ·replace heq:=bif_false hb2 heq
   refine Cf (decide (3000<(a1.length:Int))) hb2<|Ra 2 [1,1,1,0] [.c [1,1,1,1]]<|Rv 1 [1,2,3,6,23] [iv a0.Room,iv a0.Lease,.slice Aa0_2 a0.Blobs.length ca0_2,.slice Aa0_3 a0.Entries.length ca0_3] [.load ⟨g1,0,none⟩ (iv a0.Room),.load ⟨g1,1,none⟩ (iv a0.Lease),.load ⟨g1,2,none⟩ (.slice Aa0_2 a0.Blobs.length ca0_2),.load ⟨g1,3,none⟩ (.slice Aa0_3 a0.Entries.length ca0_3)] [(1,.slice Aa1 a1.length ca1),(2,.func (.func 95) #[] #[.pointer (some ⟨ga2q0,0,none⟩)]),(3,pg g1 0),(6,pg g2 0),(23,.agg #[iv a0.Room,iv a0.Lease,.slice Aa0_2 a0.Blobs.length ca0_2,.slice Aa0_3 a0.Entries.length ca0_3])] (fun w hh=>⟨(hh.box 1 rfl rfl),(hh.box 1 rfl rfl),(hh.box 1 rfl rfl),(hh.box 1 rfl rfl)⟩) ?_
   obtain ⟨y2,hy2,heq⟩:=bind_some heq
   refine RgH.does (DoesH.call (d:=24) (g:=70) (args:=#[.agg #[iv a0.Room,iv a0.Lease,.slice Aa0_2 a0.Blobs.length ca0_2,.slice Aa0_3 a0.Entries.length ca0_3]]) (by kernel_rfl) (cache_own_c (a0:=a0) (hra0_2.wk (fun _ h=>(.tail _ (.tail _ (.tail _ h))))) hca0_2 rfl (hra0_3.wk (fun _ h=>(.tail _ (.tail _ (.tail _ h))))) hca0_3 rfl hy2)) ?_
   rintro _ H _ hl ⟨_,rfl,A1,c1,ch1,A2,c2,ch2,rfl,rfl,ho5,ho6⟩
   replace hra1:=hra1.mono hl
   replace hra0_2:=hra0_2.mono hl
   replace hra0_3:=hra0_3.mono hl
   refine RgH.does (DoesH.store (k:=3) (g:=g1) (off:=0) (v:=.agg #[iv y2.Room,iv y2.Lease,.slice A1 y2.Blobs.length c1,.slice A2 y2.Entries.length c2]) (cells':=#[iv y2.Room,iv y2.Lease,.slice A1 y2.Blobs.length c1,.slice A2 y2.Entries.length c2]) (by kernel_rfl) rfl (by kernel_rfl) (by kernel_rfl)) ?_
   rintro _ _ _ _ ⟨rfl,rfl,rfl⟩
   refine Dn<|Ra 2 [1,1,1,1,0,0] [.c [1,1,1,1,0,1],.c [1,1,1,1,1]]<|Rd 3 [2,3,6,25,26,27] [(2,.func (.func 95) #[] #[.pointer (some ⟨ga2q0,0,none⟩)]),(3,pg g1 0),(6,pg g2 0),(25,.slice Aa1 a1.length ca1),(26,iv (a1.length:Int)),(27,iv 0)]<|Ad 2 [.c [1,1,1,1,0,1,0,0],.l [1,1,1,1,0,1,0,0],.b 0,.c [1,1,1,1,1]]<|Kp [2,3,6,25,26,27] [(2,.func (.func 95) #[] #[.pointer (some ⟨ga2q0,0,none⟩)]),(3,pg g1 0),(6,pg g2 0),(25,.slice Aa1 a1.length ca1),(26,iv (a1.length:Int)),(27,iv 0)] ?_
   exact ((cache_follow_2.l2_c (e1:=cache_follow_2.e1) (cache_follow_2.e1_c)) big) _ a1 _ _ _ _ _ a2q0 y2.Room y2.Lease y2.Blobs _ _ _ _ y2.Entries _ _ _ _ 0 hra1 hca1 ho5 rfl ho6 rfl heq
noncomputable def C49:Ctx:={ P:=Tryd.prog,f:=49,N:=22,c:=bodyOf Tryd.f49 }
def S49 (F:List Ch) (H0:Hp) (r:Int × Int) (v:Value) (H:Hp) (cs:List Ch):Prop:=v=.tuple #[iv r.1,iv r.2]∧F=cs
theorem cache_Peak_c {w0:World} {H0:Hp} {F:List Ch} {a0:Cache} {Aa0_2:Option Addr} {na0_2:Nat} {ca0_2:Nat} {Aa0_3:Option Addr} {na0_3:Nat} {ca0_3:Nat} {a1:List CacheEvent} {Aa1:Option Addr} {na1:Nat} {ca1:Nat} {r:Int × Int} (hra0_2:Rw kBlob H0 F Aa0_2 a0.Blobs) (hca0_2:na0_2≤ca0_2) (hna0_2:na0_2=a0.Blobs.length) (hra0_3:Rw kEntry H0 F Aa0_3 a0.Entries) (hca0_3:na0_3≤ca0_3) (hna0_3:na0_3=a0.Entries.length) (hra1:Rw kCacheEvent H0 F Aa1 a1) (hca1:na1≤ca1) (hna1:na1=a1.length) (heq:cache_Peak.f a0 a1=some r):CallsH Tryd.prog 49 #[.agg #[iv a0.Room,iv a0.Lease,.slice Aa0_2 na0_2 ca0_2,.slice Aa0_3 na0_3 ca0_3],.slice Aa1 na1 ca1] H0 w0 (F) (S49 F H0 r):=by
 refine calls_of_runH (F:=C49) Tryd.func49 (by kernel_rfl) Tryd.ntmps49 (args:=[.agg #[iv a0.Room,iv a0.Lease,.slice Aa0_2 na0_2 ca0_2,.slice Aa0_3 na0_3 ca0_3],.slice Aa1 na1 ca1]) (by kernel_rfl) ?_
 subst hna0_2
 subst hna0_3
 subst hna1
 unfold cache_Peak.f at heq
 suffices key:∀ (H:Hp),Rw kBlob H F Aa0_2 a0.Blobs→Rw kEntry H F Aa0_3 a0.Entries→Rw kCacheEvent H F Aa1 a1→RunH C49 (S49 F H0 r) H0 w0 [.c []] (argL 0 [.agg #[iv a0.Room,iv a0.Lease,.slice Aa0_2 (a0.Blobs.length) ca0_2,.slice Aa0_3 (a0.Entries.length) ca0_3],.slice Aa1 (a1.length) ca1]) H (F) from key H0 hra0_2 hra0_3 hra1
 intro H hra0_2 hra0_3 hra1
 refine Ra 1 [0] [.c [1]] ?_
 refine RgH.does (DoesH.new (d:=2) (v:=fun g=>.pointer (some ⟨g,0,none⟩)) (o:=fun g=>.cells #[iv a0.Room,iv a0.Lease,.slice Aa0_2 a0.Blobs.length ca0_2,.slice Aa0_3 a0.Entries.length ca0_3] 25 (0,0)) (fun g=>by kernel_rfl)) ?_
 rintro _ _ _ _ ⟨g1,rfl,rfl,rfl⟩
 refine Rd 3 [1,2] [(1,.slice Aa1 a1.length ca1),(2,pg g1 0)]<|Ra 1 [1,0] [.c [1,1]]<|Rv 1 [1,2,9] [iv a0.Room,iv a0.Lease,.slice Aa0_2 a0.Blobs.length ca0_2,.slice Aa0_3 a0.Entries.length ca0_3] [.load ⟨g1,0,none⟩ (iv a0.Room),.load ⟨g1,1,none⟩ (iv a0.Lease),.load ⟨g1,2,none⟩ (.slice Aa0_2 a0.Blobs.length ca0_2),.load ⟨g1,3,none⟩ (.slice Aa0_3 a0.Entries.length ca0_3)] [(1,.slice Aa1 a1.length ca1),(2,pg g1 0),(9,.agg #[iv a0.Room,iv a0.Lease,.slice Aa0_2 a0.Blobs.length ca0_2,.slice Aa0_3 a0.Entries.length ca0_3])] (fun w hh=>⟨(hh.box 0 rfl rfl),(hh.box 0 rfl rfl),(hh.box 0 rfl rfl),(hh.box 0 rfl rfl)⟩) ?_
 obtain ⟨y1,hy1,heq⟩:=bind_some heq
 refine RgH.does (DoesH.call (d:=10) (g:=66) (args:=#[.agg #[iv a0.Room,iv a0.Lease,.slice Aa0_2 a0.Blobs.length ca0_2,.slice Aa0_3 a0.Entries.length ca0_3]]) (by kernel_rfl) (cache_used_c (a0:=a0) (hra0_2.wk (fun _ h=>(.tail _ h))) hca0_2 rfl (hra0_3.wk (fun _ h=>(.tail _ h))) hca0_3 rfl hy1)) ?_
 rintro _ _ _ _ ⟨_,rfl,rfl,rfl,rfl⟩
 refine RgH.does (DoesH.new (d:=6) (v:=fun g=>.pointer (some ⟨g,0,none⟩)) (o:=fun g=>.cells #[iv 0] 3 (0,0)) (fun g=>by kernel_rfl)) ?_
 rintro _ _ _ _ ⟨g2,rfl,rfl,rfl⟩
 refine RgH.does (DoesH.store (k:=0) (g:=g2) (off:=0) (v:=iv y1) (cells':=#[iv y1]) (by kernel_rfl) rfl (by kernel_rfl) (by kernel_rfl)) ?_
 rintro _ _ _ _ ⟨rfl,rfl,rfl⟩
 refine Dn<|Ra 1 [1,1,0] [.c [1,1,1]]<|Rv 3 [6,12,13,14] [iv a0.Room,iv a0.Lease,.slice Aa0_2 a0.Blobs.length ca0_2,.slice Aa0_3 a0.Entries.length ca0_3] [.load ⟨g1,0,none⟩ (iv a0.Room),.load ⟨g1,1,none⟩ (iv a0.Lease),.load ⟨g1,2,none⟩ (.slice Aa0_2 a0.Blobs.length ca0_2),.load ⟨g1,3,none⟩ (.slice Aa0_3 a0.Entries.length ca0_3)] [(6,pg g2 0),(12,.agg #[iv a0.Room,iv a0.Lease,.slice Aa0_2 a0.Blobs.length ca0_2,.slice Aa0_3 a0.Entries.length ca0_3]),(13,.slice Aa1 a1.length ca1),(14,.func (.func 95) #[] #[.pointer (some ⟨g2,0,none⟩)])] (fun w hh=>⟨(hh.box 1 rfl rfl),(hh.box 1 rfl rfl),(hh.box 1 rfl rfl),(hh.box 1 rfl rfl)⟩) ?_
 obtain ⟨y2,hy2,heq⟩:=bind_some heq
 refine RgH.does (DoesH.call (d:=15) (g:=93) (args:=#[.agg #[iv a0.Room,iv a0.Lease,.slice Aa0_2 a0.Blobs.length ca0_2,.slice Aa0_3 a0.Entries.length ca0_3],.slice Aa1 a1.length ca1,.func (.func 95) #[] #[.pointer (some ⟨g2,0,none⟩)]]) (by kernel_rfl) (cache_follow_2_c (a0:=a0) (a1:=a1) (a2q0:=y1) (hra0_2.wk (fun _ h=>(.tail _ h))) hca0_2 rfl (hra0_3.wk (fun _ h=>(.tail _ h))) hca0_3 rfl (hra1.wk (fun _ h=>(.tail _ h))) hca1 rfl hy2)) ?_
 rintro _ H _ hl ⟨_,rfl,A1,c1,ch1,A2,c2,ch2,rfl,rfl,ho1,ho2⟩
 replace hra0_2:=hra0_2.mono hl
 replace hra0_3:=hra0_3.mono hl
 replace hra1:=hra1.mono hl
 refine Rk 7 [6,16,17] [(6,pg g2 0),(16,.agg #[iv y2.1.Room,iv y2.1.Lease,.slice A1 y2.1.Blobs.length c1,.slice A2 y2.1.Entries.length c2]),(17,iv y2.2.1)] ?_
 refine RgH.does (DoesH.new (d:=7) (v:=fun g=>.pointer (some ⟨g,0,none⟩)) (o:=fun g=>.cells #[iv 0,iv 0,.slice none 0 0,.slice none 0 0] 25 (0,0)) (fun g=>by kernel_rfl)) ?_
 rintro _ _ _ _ ⟨g3,rfl,rfl,rfl⟩
 refine RgH.does (DoesH.store (k:=0) (g:=g3) (off:=0) (v:=.agg #[iv y2.1.Room,iv y2.1.Lease,.slice A1 y2.1.Blobs.length c1,.slice A2 y2.1.Entries.length c2]) (cells':=#[iv y2.1.Room,iv y2.1.Lease,.slice A1 y2.1.Blobs.length c1,.slice A2 y2.1.Entries.length c2]) (by kernel_rfl) rfl (by kernel_rfl) (by kernel_rfl)) ?_
 rintro _ _ _ _ ⟨rfl,rfl,rfl⟩
 refine Rd 10 [6,8] [(6,pg g2 0),(8,iv y2.2.1)]<|Ra 2 [1,1,1,0,0] [.c [1,1,1,0,1],.c [1,1,1,1]]<|Rd 2 [6,8,19] [(6,pg g2 0),(8,iv y2.2.1),(19,.bool (y2.2.1 != 0))] ?_
 rcases bool_cases (y2.2.1 != 0) with hb1 | hb1
 ·replace heq:=bif_true hb1 heq
  refine Ct (y2.2.1 != 0) hb1<|Ra 1 [1,1,1,0,1,0,0] [.c [1,1,1,0,1,0,1],.c [1,1,1,1]]<|Rd 3 [4,5] [(4,iv 0),(5,iv y2.2.1)] ?_
  obtain rfl:=Option.some.inj heq
  refine RunH.pick 5 [] (cs':=F) (by kernel_rfl) rfl ?_
  exact RunH.done (by kernel_rfl) Tryd.func49 (v:=.tuple #[iv 0,iv y2.2.1]) (by kernel_rfl) ⟨rfl,rfl⟩
 ·replace heq:=bif_false hb1 heq
  refine Cf (y2.2.1 != 0) hb1<|Ra 2 [1,1,1,1,0] [.c [1,1,1,1,1]]<|Rw' 3 [4,5] [iv y2.2.2] [.load ⟨g2,0,none⟩ (iv y2.2.2)] [(4,iv y2.2.2),(5,iv 0)] (fun w hh=>(hh.box 3 rfl rfl)) ?_
  obtain rfl:=Option.some.inj heq
  refine RunH.pick 5 [] (cs':=F) (by kernel_rfl) rfl ?_
  exact RunH.done (by kernel_rfl) Tryd.func49 (v:=.tuple #[iv y2.2.2,iv 0]) (by kernel_rfl) ⟨rfl,rfl⟩
noncomputable def C13:Ctx:={ P:=Tryd.prog,f:=13,N:=76,c:=bodyOf Tryd.f13 }
def S13 (F:List Ch) (H0:Hp) (r:Bool) (v:Value) (H:Hp) (cs:List Ch):Prop:=v=.bool r∧F=cs
theorem smithyardlaw7_CacheKeepsRoom_c {w0:World} {H0:Hp} {F:List Ch} {a0:Cache} {Aa0_2:Option Addr} {na0_2:Nat} {ca0_2:Nat} {Aa0_3:Option Addr} {na0_3:Nat} {ca0_3:Nat} {a1:List CacheEvent} {Aa1:Option Addr} {na1:Nat} {ca1:Nat} {r:Bool} (hra0_2:Rw kBlob H0 F Aa0_2 a0.Blobs) (hca0_2:na0_2≤ca0_2) (hna0_2:na0_2=a0.Blobs.length) (hra0_3:Rw kEntry H0 F Aa0_3 a0.Entries) (hca0_3:na0_3≤ca0_3) (hna0_3:na0_3=a0.Entries.length) (hra1:Rw kCacheEvent H0 F Aa1 a1) (hca1:na1≤ca1) (hna1:na1=a1.length) (heq:smithyardlaw7_CacheKeepsRoom.f a0 a1=some r):CallsH Tryd.prog 13 #[.agg #[iv a0.Room,iv a0.Lease,.slice Aa0_2 na0_2 ca0_2,.slice Aa0_3 na0_3 ca0_3],.slice Aa1 na1 ca1] H0 w0 (F) (S13 F H0 r):=by
 refine calls_of_runH (F:=C13) Tryd.func13 (by kernel_rfl) Tryd.ntmps13 (args:=[.agg #[iv a0.Room,iv a0.Lease,.slice Aa0_2 na0_2 ca0_2,.slice Aa0_3 na0_3 ca0_3],.slice Aa1 na1 ca1]) (by kernel_rfl) ?_
 subst hna0_2
 subst hna0_3
 subst hna1
 unfold smithyardlaw7_CacheKeepsRoom.f at heq
 suffices key:∀ (H:Hp),Rw kBlob H F Aa0_2 a0.Blobs→Rw kEntry H F Aa0_3 a0.Entries→Rw kCacheEvent H F Aa1 a1→RunH C13 (S13 F H0 r) H0 w0 [.c []] (argL 0 [.agg #[iv a0.Room,iv a0.Lease,.slice Aa0_2 (a0.Blobs.length) ca0_2,.slice Aa0_3 (a0.Entries.length) ca0_3],.slice Aa1 (a1.length) ca1]) H (F) from key H0 hra0_2 hra0_3 hra1
 intro H hra0_2 hra0_3 hra1
 refine Ra 1 [0] [.c [1]] ?_
 refine RgH.does (DoesH.new (d:=2) (v:=fun g=>.pointer (some ⟨g,0,none⟩)) (o:=fun g=>.cells #[iv a0.Room,iv a0.Lease,.slice Aa0_2 a0.Blobs.length ca0_2,.slice Aa0_3 a0.Entries.length ca0_3] 25 (0,0)) (fun g=>by kernel_rfl)) ?_
 rintro _ _ _ _ ⟨g1,rfl,rfl,rfl⟩
 refine Rd 2 [1,2] [(1,.slice Aa1 a1.length ca1),(2,pg g1 0)]<|Ra 1 [1,0] [.c [1,1]]<|Rv 2 [1,2,12,13] [iv a0.Room,iv a0.Lease,.slice Aa0_2 a0.Blobs.length ca0_2,.slice Aa0_3 a0.Entries.length ca0_3] [.load ⟨g1,0,none⟩ (iv a0.Room),.load ⟨g1,1,none⟩ (iv a0.Lease),.load ⟨g1,2,none⟩ (.slice Aa0_2 a0.Blobs.length ca0_2),.load ⟨g1,3,none⟩ (.slice Aa0_3 a0.Entries.length ca0_3)] [(1,.slice Aa1 a1.length ca1),(2,pg g1 0),(12,.agg #[iv a0.Room,iv a0.Lease,.slice Aa0_2 a0.Blobs.length ca0_2,.slice Aa0_3 a0.Entries.length ca0_3]),(13,.slice Aa1 a1.length ca1)] (fun w hh=>⟨(hh.box 0 rfl rfl),(hh.box 0 rfl rfl),(hh.box 0 rfl rfl),(hh.box 0 rfl rfl)⟩) ?_
 obtain ⟨y1,hy1,heq⟩:=bind_some heq
 refine RgH.does (DoesH.call (d:=14) (g:=48) (args:=#[.agg #[iv a0.Room,iv a0.Lease,.slice Aa0_2 a0.Blobs.length ca0_2,.slice Aa0_3 a0.Entries.length ca0_3],.slice Aa1 a1.length ca1]) (by kernel_rfl) (cache_Follow_c (a0:=a0) (a1:=a1) (hra0_2.wk (fun _ h=>(.tail _ h))) hca0_2 rfl (hra0_3.wk (fun _ h=>(.tail _ h))) hca0_3 rfl (hra1.wk (fun _ h=>(.tail _ h))) hca1 rfl hy1)) ?_
 rintro _ H _ hl ⟨_,rfl,A1,c1,ch1,A2,c2,ch2,A3,c3,ch3,rfl,rfl,ho1,ho2,ho3⟩
 replace hra1:=hra1.mono hl
 replace hra0_2:=hra0_2.mono hl
 replace hra0_3:=hra0_3.mono hl
 refine Rk 7 [1,2,15,16,17] [(1,.slice Aa1 a1.length ca1),(2,pg g1 0),(15,.agg #[iv y1.1.Room,iv y1.1.Lease,.slice A1 y1.1.Blobs.length c1,.slice A2 y1.1.Entries.length c2]),(16,.slice A3 y1.2.1.length c3),(17,iv y1.2.2)] ?_
 refine RgH.does (DoesH.new (d:=5) (v:=fun g=>.pointer (some ⟨g,0,none⟩)) (o:=fun g=>.cells #[iv 0,iv 0,.slice none 0 0,.slice none 0 0] 25 (0,0)) (fun g=>by kernel_rfl)) ?_
 rintro _ _ _ _ ⟨g2,rfl,rfl,rfl⟩
 refine RgH.does (DoesH.store (k:=0) (g:=g2) (off:=0) (v:=.agg #[iv y1.1.Room,iv y1.1.Lease,.slice A1 y1.1.Blobs.length c1,.slice A2 y1.1.Entries.length c2]) (cells':=#[iv y1.1.Room,iv y1.1.Lease,.slice A1 y1.1.Blobs.length c1,.slice A2 y1.1.Entries.length c2]) (by kernel_rfl) rfl (by kernel_rfl) (by kernel_rfl)) ?_
 rintro _ _ _ _ ⟨rfl,rfl,rfl⟩
 refine Rd 11 [1,2,5,7] [(1,.slice Aa1 a1.length ca1),(2,pg g1 0),(5,pg g2 0),(7,iv y1.2.2)]<|Ra 2 [1,1,0,0] [.c [1,1,0,1],.c [1,1,1]]<|Rd 2 [1,2,5,19] [(1,.slice Aa1 a1.length ca1),(2,pg g1 0),(5,pg g2 0),(19,.bool (y1.2.2 != 0))] ?_
 rcases bool_cases (y1.2.2 != 0) with hb1 | hb1
 ·replace heq:=bif_true hb1 heq
  refine Ct (y1.2.2 != 0) hb1<|Ad 1 [.c [1,1,0,1,0,0],.c [1,1,0,1,0,1],.c [1,1,1]] ?_
  obtain ⟨t1,ht1,heq⟩:=bind_some heq
  have K6:∀ (H:Hp),RunH C13 (S13 F H0 r) H0 w0 [.c [1,1,0,1,0,1],.c [1,1,1]] [(4,.bool t1)] H (F):=by
   intro H
   obtain rfl:=Option.some.inj heq
   exact RunH.done (by kernel_rfl) Tryd.func13 (v:=.bool t1) (by kernel_rfl) ⟨rfl,rfl⟩
  replace heq:=ht1
  refine Rr<|Rv 5 [24] [.slice A1 y1.1.Blobs.length c1] [.load ⟨g2,2,none⟩ (.slice A1 y1.1.Blobs.length c1)] [(24,.bool ((y1.1.Blobs.length:Int) == 0))] (fun w hh=>(hh.box 0 rfl rfl)) ?_
  rcases bool_cases ((y1.1.Blobs.length:Int) == 0) with hb2 | hb2
  ·replace heq:=bif_true hb2 heq
   refine RgH.val1 (v':=.bool true) (congrArg Value.bool hb2) ?_
   obtain ⟨y2,hy2,heq⟩:=bind_some heq
   refine RgH.does (DoesH.call (d:=25) (g:=29) (args:=(List.toArray [])) (by kernel_rfl) (smithyardlaw7_awake_c  hy2)) ?_
   rintro _ _ _ _ ⟨_,rfl,rfl,rfl,rfl⟩
   refine Rk 8 [4] [(4,.bool y2)] ?_
   obtain rfl:=Option.some.inj heq
   refine Kg [4] [(4,.bool y2)] ?_
   refine RgH.pick 5 [] (cs':=F) (by kernel_rfl) rfl ?_
   refine Dn ?_
   exact K6 _
  ·replace heq:=bif_false hb2 heq
   refine RgH.val1 (v':=.bool false) (congrArg Value.bool hb2) ?_
   refine Rk 8 [4] [(4,.bool false)] ?_
   obtain rfl:=Option.some.inj heq
   refine Kg [4] [(4,.bool false)] ?_
   refine RgH.pick 5 [] (cs':=F) (by kernel_rfl) rfl ?_
   refine Dn ?_
   exact K6 _
 ·replace heq:=bif_false hb1 heq
  refine Cf (y1.2.2 != 0) hb1<|Ra 2 [1,1,1,0] [.c [1,1,1,1]]<|Rv 1 [1,2,5,28] [iv y1.1.Room,iv y1.1.Lease,.slice A1 y1.1.Blobs.length c1,.slice A2 y1.1.Entries.length c2] [.load ⟨g2,0,none⟩ (iv y1.1.Room),.load ⟨g2,1,none⟩ (iv y1.1.Lease),.load ⟨g2,2,none⟩ (.slice A1 y1.1.Blobs.length c1),.load ⟨g2,3,none⟩ (.slice A2 y1.1.Entries.length c2)] [(1,.slice Aa1 a1.length ca1),(2,pg g1 0),(5,pg g2 0),(28,.agg #[iv y1.1.Room,iv y1.1.Lease,.slice A1 y1.1.Blobs.length c1,.slice A2 y1.1.Entries.length c2])] (fun w hh=>⟨(hh.box 0 rfl rfl),(hh.box 0 rfl rfl),(hh.box 0 rfl rfl),(hh.box 0 rfl rfl)⟩) ?_
  obtain ⟨y3,hy3,heq⟩:=bind_some heq
  refine RgH.does (DoesH.call (d:=29) (g:=24) (args:=#[.agg #[iv y1.1.Room,iv y1.1.Lease,.slice A1 y1.1.Blobs.length c1,.slice A2 y1.1.Entries.length c2]]) (by kernel_rfl) (cache_Used_c (a0:=(⟨y1.1.Room,y1.1.Lease,y1.1.Blobs,y1.1.Entries⟩:Cache)) (ho1.rw (.tail _ (.head _))) ho1.cap rfl (ho2.rw (.tail _ (.tail _ (.head _)))) ho2.cap rfl hy3)) ?_
  rintro _ _ _ _ ⟨_,rfl,rfl,rfl,rfl⟩
  refine Rd 7 [1,2,5,7,8] [(1,.slice Aa1 a1.length ca1),(2,pg g1 0),(5,pg g2 0),(7,iv y3.2),(8,iv y3.1)]<|Ra 1 [1,1,1,1,0] [.c [1,1,1,1,1]]<|Rv 2 [2,5,7,8,33,34] [iv a0.Room,iv a0.Lease,.slice Aa0_2 a0.Blobs.length ca0_2,.slice Aa0_3 a0.Entries.length ca0_3] [.load ⟨g1,0,none⟩ (iv a0.Room),.load ⟨g1,1,none⟩ (iv a0.Lease),.load ⟨g1,2,none⟩ (.slice Aa0_2 a0.Blobs.length ca0_2),.load ⟨g1,3,none⟩ (.slice Aa0_3 a0.Entries.length ca0_3)] [(2,pg g1 0),(5,pg g2 0),(7,iv y3.2),(8,iv y3.1),(33,.agg #[iv a0.Room,iv a0.Lease,.slice Aa0_2 a0.Blobs.length ca0_2,.slice Aa0_3 a0.Entries.length ca0_3]),(34,.slice Aa1 a1.length ca1)] (fun w hh=>⟨(hh.box 4 rfl rfl),(hh.box 4 rfl rfl),(hh.box 4 rfl rfl),(hh.box 4 rfl rfl)⟩) ?_
  obtain ⟨y4,hy4,heq⟩:=bind_some heq
  refine RgH.does (DoesH.call (d:=35) (g:=49) (args:=#[.agg #[iv a0.Room,iv a0.Lease,.slice Aa0_2 a0.Blobs.length ca0_2,.slice Aa0_3 a0.Entries.length ca0_3],.slice Aa1 a1.length ca1]) (by kernel_rfl) (cache_Peak_c (a0:=a0) (a1:=a1) (hra0_2.wk (fun _ h=>(.tail _ (.tail _ (.tail _ (.tail _ (.tail _ h))))))) hca0_2 rfl (hra0_3.wk (fun _ h=>(.tail _ (.tail _ (.tail _ (.tail _ (.tail _ h))))))) hca0_3 rfl (hra1.wk (fun _ h=>(.tail _ (.tail _ (.tail _ (.tail _ (.tail _ h))))))) hca1 rfl hy4)) ?_
  rintro _ H _ hl ⟨_,rfl,rfl,rfl⟩
  replace hra0_2:=hra0_2.mono hl
  replace hra0_3:=hra0_3.mono hl
  replace ho1:=ho1.mono hl
  replace ho2:=ho2.mono hl
  replace hra1:=hra1.mono hl
  refine Rd 8 [2,5,7,8,9,10] [(2,pg g1 0),(5,pg g2 0),(7,iv y3.2),(8,iv y3.1),(9,iv y4.1),(10,iv y4.2)]<|Ad 1 [.c [1,1,1,1,1,0],.c [1,1,1,1,1,1]] ?_
  obtain ⟨t2,ht2,heq⟩:=bind_some heq
  have K7:∀ (H:Hp),RunH C13 (S13 F H0 r) H0 w0 [.c [1,1,1,1,1,1]] [(4,.bool t2)] H (F):=by
   intro H
   obtain rfl:=Option.some.inj heq
   exact RunH.done (by kernel_rfl) Tryd.func13 (v:=.bool t2) (by kernel_rfl) ⟨rfl,rfl⟩
  replace heq:=ht2
  refine Rr<|Rv 1 [2,5,7,8,9,10,38] [iv y1.1.Room,iv y1.1.Lease,.slice A1 y1.1.Blobs.length c1,.slice A2 y1.1.Entries.length c2] [.load ⟨g2,0,none⟩ (iv y1.1.Room),.load ⟨g2,1,none⟩ (iv y1.1.Lease),.load ⟨g2,2,none⟩ (.slice A1 y1.1.Blobs.length c1),.load ⟨g2,3,none⟩ (.slice A2 y1.1.Entries.length c2)] [(2,pg g1 0),(5,pg g2 0),(7,iv y3.2),(8,iv y3.1),(9,iv y4.1),(10,iv y4.2),(38,.agg #[iv y1.1.Room,iv y1.1.Lease,.slice A1 y1.1.Blobs.length c1,.slice A2 y1.1.Entries.length c2])] (fun w hh=>⟨(hh.box 0 rfl rfl),(hh.box 0 rfl rfl),(hh.box 0 rfl rfl),(hh.box 0 rfl rfl)⟩) ?_
  obtain ⟨y5,hy5,heq⟩:=bind_some heq
  refine RgH.does (DoesH.call (d:=39) (g:=22) (args:=#[.agg #[iv y1.1.Room,iv y1.1.Lease,.slice A1 y1.1.Blobs.length c1,.slice A2 y1.1.Entries.length c2]]) (by kernel_rfl) (cache_CheckCache_c (a0:=(⟨y1.1.Room,y1.1.Lease,y1.1.Blobs,y1.1.Entries⟩:Cache)) (ho1.rw (.tail _ (.head _))) ho1.cap rfl (ho2.rw (.tail _ (.tail _ (.head _)))) ho2.cap rfl hy5)) ?_
  rintro _ _ _ _ ⟨_,rfl,rfl,rfl,rfl⟩
  refine Rk 4 [41,2,5,7,8,9,10] [(41,.bool (y5 == 0)),(2,pg g1 0),(5,pg g2 0),(7,iv y3.2),(8,iv y3.1),(9,iv y4.1),(10,iv y4.2)] ?_
  rcases bool_cases (y5 == 0) with hb3 | hb3
  ·replace heq:=bif_true hb3 heq
   refine RgH.val1 (v':=.bool true) (congrArg Value.bool hb3) ?_
   refine Rk 8 [45,2,5,8,9,10] [(45,.bool (y3.2 == 0)),(2,pg g1 0),(5,pg g2 0),(8,iv y3.1),(9,iv y4.1),(10,iv y4.2)] ?_
   rcases bool_cases (y3.2 == 0) with hb4 | hb4
   ·replace heq:=bif_true hb4 heq
    refine RgH.val1 (v':=.bool true) (congrArg Value.bool hb4) ?_
    refine Rv 14 [51,2,5,8,9,10] [iv y1.1.Room] [.load ⟨g2,0,none⟩ (iv y1.1.Room)] [(51,.bool (decide (y3.1≤y1.1.Room))),(2,pg g1 0),(5,pg g2 0),(8,iv y3.1),(9,iv y4.1),(10,iv y4.2)] (fun w hh=>(hh.box 0 rfl rfl)) ?_
    rcases bool_cases (decide (y3.1≤y1.1.Room)) with hb5 | hb5
    ·replace heq:=bif_true hb5 heq
     refine RgH.val1 (v':=.bool true) (congrArg Value.bool hb5) ?_
     refine Rv 21 [58,2,8,9,10] [iv y1.1.Room,iv a0.Room] [.load ⟨g2,0,none⟩ (iv y1.1.Room),.load ⟨g1,0,none⟩ (iv a0.Room)] [(58,.bool (y1.1.Room == a0.Room)),(2,pg g1 0),(8,iv y3.1),(9,iv y4.1),(10,iv y4.2)] (fun w hh=>⟨(hh.box 0 rfl rfl),(hh.box 4 rfl rfl)⟩) ?_
     rcases bool_cases (y1.1.Room == a0.Room) with hb6 | hb6
     ·replace heq:=bif_true hb6 heq
      refine RgH.val1 (v':=.bool true) (congrArg Value.bool hb6) ?_
      refine Rk 25 [62,2,8,9] [(62,.bool (y4.2 == 0)),(2,pg g1 0),(8,iv y3.1),(9,iv y4.1)] ?_
      rcases bool_cases (y4.2 == 0) with hb7 | hb7
      ·replace heq:=bif_true hb7 heq
       refine RgH.val1 (v':=.bool true) (congrArg Value.bool hb7) ?_
       refine Rv 31 [68,8,9] [iv a0.Room] [.load ⟨g1,0,none⟩ (iv a0.Room)] [(68,.bool (decide (y4.1≤a0.Room))),(8,iv y3.1),(9,iv y4.1)] (fun w hh=>(hh.box 4 rfl rfl)) ?_
       rcases bool_cases (decide (y4.1≤a0.Room)) with hb8 | hb8
       ·replace heq:=bif_true hb8 heq
        refine RgH.val1 (v':=.bool true) (congrArg Value.bool hb8) ?_
        refine Rk 36 [73] [(73,.bool (decide (y3.1≤y4.1)))] ?_
        rcases bool_cases (decide (y3.1≤y4.1)) with hb9 | hb9
        ·replace heq:=bif_true hb9 heq
         refine RgH.val1 (v':=.bool true) (congrArg Value.bool hb9) ?_
         obtain ⟨y6,hy6,heq⟩:=bind_some heq
         refine RgH.does (DoesH.call (d:=74) (g:=29) (args:=(List.toArray [])) (by kernel_rfl) (smithyardlaw7_awake_c  hy6)) ?_
         rintro _ _ _ _ ⟨_,rfl,rfl,rfl,rfl⟩
         refine Rk 39 [4] [(4,.bool y6)] ?_
         obtain rfl:=Option.some.inj heq
         refine Kg [4] [(4,.bool y6)] ?_
         refine RgH.pick 5 [] (cs':=F) (by kernel_rfl) rfl ?_
         refine Dn ?_
         exact K7 _
        ·replace heq:=bif_false hb9 heq
         refine RgH.val1 (v':=.bool false) (congrArg Value.bool hb9) ?_
         refine Rk 39 [4] [(4,.bool false)] ?_
         obtain rfl:=Option.some.inj heq
         refine Kg [4] [(4,.bool false)] ?_
         refine RgH.pick 5 [] (cs':=F) (by kernel_rfl) rfl ?_
         refine Dn ?_
         exact K7 _
       ·replace heq:=bif_false hb8 heq
        refine RgH.val1 (v':=.bool false) (congrArg Value.bool hb8) ?_
        refine Rk 39 [4] [(4,.bool false)] ?_
        obtain rfl:=Option.some.inj heq
        refine Kg [4] [(4,.bool false)] ?_
        refine RgH.pick 5 [] (cs':=F) (by kernel_rfl) rfl ?_
        refine Dn ?_
        exact K7 _
      ·replace heq:=bif_false hb7 heq
       refine RgH.val1 (v':=.bool false) (congrArg Value.bool hb7) ?_
       refine Rk 39 [4] [(4,.bool false)] ?_
       obtain rfl:=Option.some.inj heq
       refine Kg [4] [(4,.bool false)] ?_
       refine RgH.pick 5 [] (cs':=F) (by kernel_rfl) rfl ?_
       refine Dn ?_
       exact K7 _
     ·replace heq:=bif_false hb6 heq
      refine RgH.val1 (v':=.bool false) (congrArg Value.bool hb6) ?_
      refine Rk 39 [4] [(4,.bool false)] ?_
      obtain rfl:=Option.some.inj heq
      refine Kg [4] [(4,.bool false)] ?_
      refine RgH.pick 5 [] (cs':=F) (by kernel_rfl) rfl ?_
      refine Dn ?_
      exact K7 _
    ·replace heq:=bif_false hb5 heq
     refine RgH.val1 (v':=.bool false) (congrArg Value.bool hb5) ?_
     refine Rk 39 [4] [(4,.bool false)] ?_
     obtain rfl:=Option.some.inj heq
     refine Kg [4] [(4,.bool false)] ?_
     refine RgH.pick 5 [] (cs':=F) (by kernel_rfl) rfl ?_
     refine Dn ?_
     exact K7 _
   ·replace heq:=bif_false hb4 heq
    refine RgH.val1 (v':=.bool false) (congrArg Value.bool hb4) ?_
    refine Rk 39 [4] [(4,.bool false)] ?_
    obtain rfl:=Option.some.inj heq
    refine Kg [4] [(4,.bool false)] ?_
    refine RgH.pick 5 [] (cs':=F) (by kernel_rfl) rfl ?_
    refine Dn ?_
    exact K7 _
  ·replace heq:=bif_false hb3 heq
   refine RgH.val1 (v':=.bool false) (congrArg Value.bool hb3) ?_
   refine Rk 39 [4] [(4,.bool false)] ?_
   obtain rfl:=Option.some.inj heq
   refine Kg [4] [(4,.bool false)] ?_
   refine RgH.pick 5 [] (cs':=F) (by kernel_rfl) rfl ?_
   refine Dn ?_
   exact K7 _
end Go.Proofs.YtkjilepjblffeaaDoor
