/- What the machine's calls of these functions come to: just what the plain functions say. Written by program. -/
import Derived.Test.YtkjilepjblffeaaDoorProg
import Derived.Test.YtkjilepjblffeaaDoorKitX
import Derived.Test.YtkjilepjblffeaaDoorUD
import Derived.Test.YtkjilepjblffeaaDoorShelf
import Derived.Test.YtkjilepjblffeaaDoorU9M1
set_option linter.unusedVariables false
set_option linter.unusedSimpArgs false
set_option maxRecDepth 100000
set_option maxHeartbeats 1000000
namespace Go.Proofs.YtkjilepjblffeaaDoor
open Go Go.RowKit Go.Proofs.YtkjilepjblffeaaDoor.Kit
noncomputable def C70:Ctx:={ P:=Tryd.prog,f:=70,N:=32,c:=bodyOf Tryd.f70 }
def S70 (F:List Ch) (H0:Hp) (r:Cache) (v:Value) (H:Hp) (cs:List Ch):Prop:=∃ (A0_2:Option Addr) (c0_2:Nat) (ch0_2:Ch) (A0_3:Option Addr) (c0_3:Nat) (ch0_3:Ch),v=.agg #[iv r.Room,iv r.Lease,.slice A0_2 r.Blobs.length c0_2,.slice A0_3 r.Entries.length c0_3]∧ch0_2::ch0_3::F=cs∧SlOwn kBlob 47 H A0_2 c0_2 r.Blobs ch0_2∧SlOwn kEntry 51 H A0_3 c0_3 r.Entries ch0_3
theorem cache_own.e1_c {w0:World} {H0:Hp} {F:List Ch} {r:Cache}:∀ (H:Hp) (a0:Cache) (g1:Nat) (g2:Nat) (y1:List Blob) (A1:Option Addr) (c1:Nat) (ch1:Ch) (v_c1_3:List Entry) (Av_c1_3:Option Addr) (nv_c1_3:Nat) (cv_c1_3:Nat) (chv_c1_3:Ch) ,SlOwn kBlob 47 H A1 c1 y1 ch1→SlOwn kEntry 51 H Av_c1_3 cv_c1_3 v_c1_3 chv_c1_3→nv_c1_3=v_c1_3.length→cache_own.e1 a0 y1 v_c1_3=some r→RunH C70 (S70 F H0 r) H0 w0 [.c [1,1,1,0],.c [1,1,1,1]] [(1,pg g1 0),(2,pg g2 0)] H (chv_c1_3::ch1::(some (g2,.cells #[iv 0,iv 0,.slice none 0 0,.slice none 0 0] 25 (0,0)))::(some (g1,.cells #[iv a0.Room,iv a0.Lease,.slice A1 y1.length c1,.slice Av_c1_3 nv_c1_3 cv_c1_3] 25 (0,0)))::F):=by
 intro H a0 g1 g2 y1 A1 c1 ch1 v_c1_3 Av_c1_3 nv_c1_3 cv_c1_3 chv_c1_3 ho1 hov_c1_3 hnv_c1_3 heq
 subst hnv_c1_3
 unfold cache_own.e1 at heq
 refine Rr<|Rv 1 [2,31] [iv a0.Room,iv a0.Lease,.slice A1 y1.length c1,.slice Av_c1_3 v_c1_3.length cv_c1_3] [.load ⟨g1,0,none⟩ (iv a0.Room),.load ⟨g1,1,none⟩ (iv a0.Lease),.load ⟨g1,2,none⟩ (.slice A1 y1.length c1),.load ⟨g1,3,none⟩ (.slice Av_c1_3 v_c1_3.length cv_c1_3)] [(2,pg g2 0),(31,.agg #[iv a0.Room,iv a0.Lease,.slice A1 y1.length c1,.slice Av_c1_3 v_c1_3.length cv_c1_3])] (fun w hh=>⟨(hh.box 3 rfl rfl),(hh.box 3 rfl rfl),(hh.box 3 rfl rfl),(hh.box 3 rfl rfl)⟩) ?_
 refine RgH.does (DoesH.store (k:=2) (g:=g2) (off:=0) (v:=.agg #[iv a0.Room,iv a0.Lease,.slice A1 y1.length c1,.slice Av_c1_3 v_c1_3.length cv_c1_3]) (cells':=#[iv a0.Room,iv a0.Lease,.slice A1 y1.length c1,.slice Av_c1_3 v_c1_3.length cv_c1_3]) (by kernel_rfl) rfl (by kernel_rfl) (by kernel_rfl)) ?_
 rintro _ _ _ _ ⟨rfl,rfl,rfl⟩
 refine Dn ?_
 obtain rfl:=Option.some.inj heq
 refine RunH.pick 4 [2,1,0] (cs':=(some (g2,.cells #[iv a0.Room,iv a0.Lease,.slice A1 y1.length c1,.slice Av_c1_3 v_c1_3.length cv_c1_3] 25 (0,0)))::ch1::chv_c1_3::F) (by kernel_rfl) rfl ?_
 exact RunH.doneM' 1 (vs:=[.agg #[iv a0.Room,iv a0.Lease,.slice A1 y1.length c1,.slice Av_c1_3 v_c1_3.length cv_c1_3]]) (v:=.agg #[iv a0.Room,iv a0.Lease,.slice A1 y1.length c1,.slice Av_c1_3 v_c1_3.length cv_c1_3]) (by kernel_rfl) Tryd.func70 (fun w hh=>show ResAll _ _ _ [.cell 2 25] _ from ⟨⟨⟨g2,0,none⟩,by kernel_rfl,trS_run _ (vs:=[iv a0.Room,iv a0.Lease,.slice A1 y1.length c1,.slice Av_c1_3 v_c1_3.length cv_c1_3]) (r:=[]) (es:=[.load ⟨g2,0,none⟩ (iv a0.Room),.load ⟨g2,1,none⟩ (iv a0.Lease),.load ⟨g2,2,none⟩ (.slice A1 y1.length c1),.load ⟨g2,3,none⟩ (.slice Av_c1_3 v_c1_3.length cv_c1_3)]) (by kernel_rfl) ⟨(hh.box 0 rfl rfl),(hh.box 0 rfl rfl),(hh.box 0 rfl rfl),(hh.box 0 rfl rfl)⟩⟩,trivial⟩) rfl (cs':=ch1::chv_c1_3::F) rfl ⟨A1,c1,ch1,Av_c1_3,cv_c1_3,chv_c1_3,rfl,rfl,ho1,hov_c1_3⟩
theorem cache_own.l2_c {w0:World} {H0:Hp} {F:List Ch} {r:Cache} (e1:Cache→(List Blob)→(List Entry)→Option Cache)
  (he1:∀ (H:Hp) (a0:Cache) (g1:Nat) (g2:Nat) (y1:List Blob) (A1:Option Addr) (c1:Nat) (ch1:Ch) (v_c1_3:List Entry) (Av_c1_3:Option Addr) (nv_c1_3:Nat) (cv_c1_3:Nat) (chv_c1_3:Ch) ,SlOwn kBlob 47 H A1 c1 y1 ch1→SlOwn kEntry 51 H Av_c1_3 cv_c1_3 v_c1_3 chv_c1_3→nv_c1_3=v_c1_3.length→e1 a0 y1 v_c1_3=some r→RunH C70 (S70 F H0 r) H0 w0 [.c [1,1,1,0],.c [1,1,1,1]] [(1,pg g1 0),(2,pg g2 0)] H (chv_c1_3::ch1::(some (g2,.cells #[iv 0,iv 0,.slice none 0 0,.slice none 0 0] 25 (0,0)))::(some (g1,.cells #[iv a0.Room,iv a0.Lease,.slice A1 y1.length c1,.slice Av_c1_3 nv_c1_3 cv_c1_3] 25 (0,0)))::F)):∀ (k:Nat),∀ (H:Hp) (a0:Cache) (g1:Nat) (g2:Nat) (y1:List Blob) (A1:Option Addr) (c1:Nat) (ch1:Ch) (y2:List Entry) (v_c1_3:List Entry) (Av_c1_3:Option Addr) (nv_c1_3:Nat) (cv_c1_3:Nat) (chv_c1_3:Ch) (v15:Int) ,SlOwn kBlob 47 H A1 c1 y1 ch1→SlOwn kEntry 51 H Av_c1_3 cv_c1_3 v_c1_3 chv_c1_3→nv_c1_3=v_c1_3.length→cache_own.l2 e1 k a0 y1 y2 v_c1_3 v15=some r→RunH C70 (S70 F H0 r) H0 w0 [.c [1,1,0,1,0,0],.l [1,1,0,1,0,0],.b 0,.c [1,1,1]] [(1,pg g1 0),(2,pg g2 0),(14,iv (y2.length:Int)),(15,iv v15)] H (chv_c1_3::ch1::(some (g2,.cells #[iv 0,iv 0,.slice none 0 0,.slice none 0 0] 25 (0,0)))::(some (g1,.cells #[iv a0.Room,iv a0.Lease,.slice A1 y1.length c1,.slice Av_c1_3 nv_c1_3 cv_c1_3] 25 (0,0)))::F):=by
 intro k
 induction k with
 | zero=>intro H a0 g1 g2 y1 A1 c1 ch1 y2 v_c1_3 Av_c1_3 nv_c1_3 cv_c1_3 chv_c1_3 v15 ho1 hov_c1_3 hnv_c1_3 heq; exact nomatch (show (none:Option Cache)=some r from heq)
 | succ k ihk =>
  intro H a0 g1 g2 y1 A1 c1 ch1 y2 v_c1_3 Av_c1_3 nv_c1_3 cv_c1_3 chv_c1_3 v15 ho1 hov_c1_3 hnv_c1_3 heq
  subst hnv_c1_3
  rw [cache_own.l2] at heq
  refine Ra 1 [1,1,0,1,0,0,0] [.c [1,1,0,1,0,0,1],.l [1,1,0,1,0,0],.b 0,.c [1,1,1]]<|Rd 1 [1,2,14,15,16] [(1,pg g1 0),(2,pg g2 0),(14,iv (y2.length:Int)),(15,iv v15),(16,.bool (decide (v15<(y2.length:Int))))]<|Ad 1 [.c [1,1,0,1,0,0,1,0],.c [1,1,0,1,0,0,1,1],.l [1,1,0,1,0,0],.b 0,.c [1,1,1]] ?_
  rcases bool_cases (decide (v15<(y2.length:Int))) with hb1 | hb1
  ·replace heq:=bif_true hb1 heq
   refine Ct (decide (v15<(y2.length:Int))) hb1<|Ra 4 [1,1,0,1,0,0,1,1,0,0,0] [.c [1,1,0,1,0,0,1,1,0,0,1],.b 1,.c [1,1,0,1,0,0,1,1,1],.l [1,1,0,1,0,0],.b 0,.c [1,1,1]]<|Rd 2 [1,2,3,14,15] [(1,pg g1 0),(2,pg g2 0),(3,iv v15),(14,iv (y2.length:Int)),(15,iv v15)]<|Kp [1,2,3,14,15] [(1,pg g1 0),(2,pg g2 0),(3,iv v15),(14,iv (y2.length:Int)),(15,iv v15)] ?_
   refine RunH.draw (fun w=>Heap H w0 w (chv_c1_3::ch1::(some (g2,.cells #[iv 0,iv 0,.slice none 0 0,.slice none 0 0] 25 (0,0)))::(some (g1,.cells #[iv a0.Room,iv a0.Lease,.slice A1 y1.length c1,.slice Av_c1_3 v_c1_3.length cv_c1_3] 25 (0,0)))::F)) (fun w=>Heap H w0 w (chv_c1_3::ch1::(some (g2,.cells #[iv 0,iv 0,.slice none 0 0,.slice none 0 0] 25 (0,0)))::(some (g1,.cells #[iv a0.Room,iv a0.Lease,.slice A1 y1.length c1,.slice Av_c1_3 v_c1_3.length cv_c1_3] 25 (0,0)))::F)) [3,3,3,3,3,3,3,3,3,0,0,3,2] (n:=13) (ls:=[false,false,false,false,false,false,false,false,false,false,false,false,false]) (by kernel_rfl) (by kernel_rfl) (by kernel_rfl) rfl ?_
   obtain ⟨x1,hx1,heq⟩:=bind_some heq
   obtain ⟨ha1,cs1,hK1,hcc1⟩:=hov_c1_3.get hx1
   obtain ⟨A3,c3,rfl,hc1,hr1⟩:=kEntry_open hK1
   refine Dk [0,1,2,3,4,5,6,7,8] 4 (nb 13 511) [.slice Av_c1_3 v_c1_3.length cv_c1_3,.slice Av_c1_3 v_c1_3.length cv_c1_3,.slice A3 x1.Refs.length c3] [.load ⟨g1,3,none⟩ (.slice Av_c1_3 v_c1_3.length cv_c1_3),.load ⟨g1,3,none⟩ (.slice Av_c1_3 v_c1_3.length cv_c1_3),.need (Av_c1_3=some (adr Av_c1_3)∧(0:Int)≤v15∧v15<((v_c1_3.length:Nat):Int)),.load (((adr Av_c1_3).add (v15.toNat*3)).add 1) (.slice A3 x1.Refs.length c3)] [1,2,14,15,19,20,26] [(1,pg g1 0),(2,pg g2 0),(14,iv (y2.length:Int)),(15,iv v15),(19,.slice Av_c1_3 v_c1_3.length cv_c1_3),(20,iv v15),(26,.slice A3 x1.Refs.length c3)] (Pk 4 [0,1,2,3]) (Pk 4 [0,1,2,3]) (fun w hh=>⟨(hh.box 3 rfl rfl),(hh.box 3 rfl rfl),⟨ha1,(at?_some hx1).1,(at?_some hx1).2.1⟩,(hcc1 _ (hh.chin 0 rfl) 1 _ rfl)⟩) ?_
   obtain ⟨y3,hy3,heq⟩:=bind_some heq
   refine DrH.does (n:=3) (ls':=[true,true,true,true,true,true,true,true,true,true,false,false,false]) 9 (by kernel_rfl) rfl (DoesH.call (d:=27) (g:=42) (args:=#[.slice A3 x1.Refs.length c3]) (by kernel_rfl) (slices_Clone_string_c (a0:=x1.Refs) (Rw.of hr1) hc1 rfl hy3)) ?_
   rintro _ _ _ _ ⟨_,rfl,A4,c4,ch3,rfl,rfl,rfl,ho3⟩
   refine ⟨fun _ w hh=>⟨fun _=>(Pk 5 [1,2,3,4]) w hh,fun _=>(Pk 5 [1,2,3,4]) w hh,(fun h=>by cases h)⟩,?_⟩
   refine Kr [1,2,14,15,19,20,27] [(1,pg g1 0),(2,pg g2 0),(14,iv (y2.length:Int)),(15,iv v15),(19,.slice Av_c1_3 v_c1_3.length cv_c1_3),(20,iv v15),(27,.slice A4 y3.length c4)] ?_
   obtain ⟨ha2,cs2,hK2,hcc2⟩:=hov_c1_3.get hx1
   obtain ⟨A5,c5,rfl,hc2,hr2⟩:=kEntry_open hK2
   refine DrH.does (n:=2) (ls':=[true,true,true,true,true,true,true,true,true,true,true,false,false]) 10 (by kernel_rfl) rfl (DoesH.pureop (d:=28) (v:=.pointer (some ((adr Av_c1_3).add (v15.toNat*3)))) (vs:=[]) (evs:=[.need (Av_c1_3=some (adr Av_c1_3)∧(0:Int)≤v15∧v15<((v_c1_3.length:Nat):Int))]) (by kernel_rfl) (fun w hh=>⟨ha2,(at?_some hx1).1,(at?_some hx1).2.1⟩)) ?_
   rintro _ _ _ _ ⟨rfl,rfl,rfl⟩
   refine ⟨fun _ w hh=>⟨fun _=>(Pk 5 [1,2,3,4]) w hh,fun _=>(Pk 5 [1,2,3,4]) w hh,(fun h=>by cases h)⟩,?_⟩
   refine Dk [11] 1 (nb 13 4095) [] [] [1,2,14,15,27,29] [(1,pg g1 0),(2,pg g2 0),(14,iv (y2.length:Int)),(15,iv v15),(27,.slice A4 y3.length c4),(29,.pointer (some (((adr Av_c1_3).add (v15.toNat*3)).add 1)))] (Pk 5 [1,2,3,4]) (Pk 4 [0,1,2,3]) (fun _ _=>trivial) ?_
   have hc3:=ho3.cap
   refine DrH.freezeS ho3 (fun H hl hr3=>?_)
   have hle:=hl
   replace ho1:=ho1.mono hl
   replace hov_c1_3:=hov_c1_3.mono hl
   obtain ⟨ha3,cs3,hK3,hcc3⟩:=hov_c1_3.get hx1
   obtain ⟨A6,c6,rfl,hc4,hr4⟩:=kEntry_open hK3
   refine DrH.does (n:=0) (ls':=[true,true,true,true,true,true,true,true,true,true,true,true,true]) 12 (by kernel_rfl) rfl (DoesH.storeEl (a:=(((adr Av_c1_3).add (v15.toNat*3)).add 1)) (k:=0) (kd:=kEntry) (c0:=[.string x1.Key,.slice A6 x1.Refs.length c6,iv x1.Used]) (x':=(⟨x1.Key,y3,x1.Used⟩:Entry)) (o:=1) (ix:=v15) (v:=.slice A4 y3.length c4) (by kernel_rfl) rfl hov_c1_3 hx1 (by kernel_rfl) hcc3 rfl (Nat.le_of_ble_eq_true (by kernel_rfl)) (kEntry_mk hc3 hr3)) ?_
   rintro _ _ _ _ ⟨ch4,rfl,rfl,rfl,ho4⟩
   have hn1:v_c1_3.length=(v_c1_3.set v15.toNat (⟨x1.Key,y3,x1.Used⟩:Entry)).length:=by rw [List.length_set]
   refine ⟨fun _ w hh=>⟨(fun h=>by cases h),(fun h=>absurd h (by decide)),(fun h=>by cases h)⟩,?_⟩
   refine Kr [1,2,14,15] [(1,pg g1 0),(2,pg g2 0),(14,iv (y2.length:Int)),(15,iv v15)] ?_
   refine DrH.done (by kernel_rfl) ?_
   refine Ra 1 [1,1,0,1,0,0,1,1,1] [.l [1,1,0,1,0,0],.b 0,.c [1,1,1]]<|Rd 2 [1,2,14,15] [(1,pg g1 0),(2,pg g2 0),(14,iv (y2.length:Int)),(15,iv (w64 (v15+1)))]<|Ad 1 [.c [1,1,0,1,0,0],.l [1,1,0,1,0,0],.b 0,.c [1,1,1]]<|Kp [1,2,14,15] [(1,pg g1 0),(2,pg g2 0),(14,iv (y2.length:Int)),(15,iv (w64 (v15+1)))] ?_
   exact ihk _ a0 _ _ y1 _ _ _ y2 (v_c1_3.set v15.toNat (⟨x1.Key,y3,x1.Used⟩:Entry)) _ _ _ _ (w64 (v15+1)) ho1 ho4 hn1 heq
  ·replace heq:=bif_false hb1 heq
   refine Cf (decide (v15<(y2.length:Int))) hb1<|Ad 2 [.c [1,1,1,0],.c [1,1,1,1]]<|Kp [1,2] [(1,pg g1 0),(2,pg g2 0)] ?_
   exact he1 _ a0 _ _ y1 _ _ _ v_c1_3 _ _ _ _ ho1 hov_c1_3 rfl heq
theorem cache_own_c {w0:World} {H0:Hp} {F:List Ch} {a0:Cache} {Aa0_2:Option Addr} {na0_2:Nat} {ca0_2:Nat} {Aa0_3:Option Addr} {na0_3:Nat} {ca0_3:Nat} {r:Cache} (hra0_2:Rw kBlob H0 F Aa0_2 a0.Blobs) (hca0_2:na0_2≤ca0_2) (hna0_2:na0_2=a0.Blobs.length) (hra0_3:Rw kEntry H0 F Aa0_3 a0.Entries) (hca0_3:na0_3≤ca0_3) (hna0_3:na0_3=a0.Entries.length) (heq:cache_own.f a0=some r):CallsH Tryd.prog 70 #[.agg #[iv a0.Room,iv a0.Lease,.slice Aa0_2 na0_2 ca0_2,.slice Aa0_3 na0_3 ca0_3]] H0 w0 (F) (S70 F H0 r):=by
 refine calls_of_runH (F:=C70) Tryd.func70 (by kernel_rfl) Tryd.ntmps70 (args:=[.agg #[iv a0.Room,iv a0.Lease,.slice Aa0_2 na0_2 ca0_2,.slice Aa0_3 na0_3 ca0_3]]) (by kernel_rfl) ?_
 subst hna0_2
 subst hna0_3
 unfold cache_own.f at heq
 suffices key:∀ (H:Hp),Rw kBlob H F Aa0_2 a0.Blobs→Rw kEntry H F Aa0_3 a0.Entries→RunH C70 (S70 F H0 r) H0 w0 [.c []] (argL 0 [.agg #[iv a0.Room,iv a0.Lease,.slice Aa0_2 (a0.Blobs.length) ca0_2,.slice Aa0_3 (a0.Entries.length) ca0_3]]) H (F) from key H0 hra0_2 hra0_3
 intro H hra0_2 hra0_3
 refine Ra 1 [0] [.c [1]] ?_
 refine RgH.does (DoesH.new (d:=1) (v:=fun g=>.pointer (some ⟨g,0,none⟩)) (o:=fun g=>.cells #[iv a0.Room,iv a0.Lease,.slice Aa0_2 a0.Blobs.length ca0_2,.slice Aa0_3 a0.Entries.length ca0_3] 25 (0,0)) (fun g=>by kernel_rfl)) ?_
 rintro _ _ _ _ ⟨g1,rfl,rfl,rfl⟩
 refine RgH.does (DoesH.new (d:=2) (v:=fun g=>.pointer (some ⟨g,0,none⟩)) (o:=fun g=>.cells #[iv 0,iv 0,.slice none 0 0,.slice none 0 0] 25 (0,0)) (fun g=>by kernel_rfl)) ?_
 rintro _ _ _ _ ⟨g2,rfl,rfl,rfl⟩
 refine Dn<|Ad 1 [.c [1,0],.c [1,1]]<|Kp [1,2] [(1,pg g1 0),(2,pg g2 0)] ?_
 refine RunH.draw (fun w=>Heap H w0 w ((some (g2,.cells #[iv 0,iv 0,.slice none 0 0,.slice none 0 0] 25 (0,0)))::(some (g1,.cells #[iv a0.Room,iv a0.Lease,.slice Aa0_2 a0.Blobs.length ca0_2,.slice Aa0_3 a0.Entries.length ca0_3] 25 (0,0)))::F)) (fun w=>Heap H w0 w ((some (g2,.cells #[iv 0,iv 0,.slice none 0 0,.slice none 0 0] 25 (0,0)))::F)) [3,3,0,3,3,0,3,1,3,2] (n:=10) (ls:=[false,false,false,false,false,false,false,false,false,false]) (by kernel_rfl) (by kernel_rfl) (by kernel_rfl) rfl ?_
 refine Dk [0,1,3,4] 6 (nb 10 27) [.slice Aa0_2 a0.Blobs.length ca0_2,.slice Aa0_3 a0.Entries.length ca0_3] [.load ⟨g1,2,none⟩ (.slice Aa0_2 a0.Blobs.length ca0_2),.load ⟨g1,3,none⟩ (.slice Aa0_3 a0.Entries.length ca0_3)] [1,2,5,8] [(1,pg g1 0),(2,pg g2 0),(5,.slice Aa0_2 a0.Blobs.length ca0_2),(8,.slice Aa0_3 a0.Entries.length ca0_3)] (Pk 2 [0,1]) (Pk 2 [0]) (fun w hh=>⟨(hh.box 1 rfl rfl),(hh.box 1 rfl rfl)⟩) ?_
 obtain ⟨y1,hy1,heq⟩:=bind_some heq
 refine DrH.does (n:=5) (ls':=[true,true,true,true,true,false,false,false,false,false]) 2 (by kernel_rfl) rfl (DoesH.call (d:=6) (g:=55) (args:=#[.slice Aa0_2 a0.Blobs.length ca0_2]) (by kernel_rfl) (slices_Clone_Blob_c (a0:=a0.Blobs) (hra0_2.wk (fun _ h=>(.tail _ (.tail _ h)))) hca0_2 rfl hy1)) ?_
 rintro _ _ _ _ ⟨_,rfl,A1,c1,ch1,rfl,rfl,rfl,ho1⟩
 refine ⟨fun _ w hh=>⟨fun _=>(Pk 3 [1,2]) w hh,fun _=>(Pk 3 [1]) w hh,(fun h=>by cases h)⟩,?_⟩
 refine Dk [6] 4 (nb 10 95) [] [] [1,2,6,8,10] [(1,pg g1 0),(2,pg g2 0),(6,.slice A1 y1.length c1),(8,.slice Aa0_3 a0.Entries.length ca0_3),(10,pg g1 2)] (Pk 3 [1,2]) (Pk 2 [0]) (fun _ _=>trivial) ?_
 obtain ⟨y2,hy2,heq⟩:=bind_some heq
 refine DrH.does (n:=3) (ls':=[true,true,true,true,true,true,true,false,false,false]) 5 (by kernel_rfl) rfl (DoesH.call (d:=9) (g:=108) (args:=#[.slice Aa0_3 a0.Entries.length ca0_3]) (by kernel_rfl) (slices_Clone_Entry_c (a0:=a0.Entries) (hra0_3.wk (fun _ h=>(.tail _ (.tail _ (.tail _ h))))) hca0_3 rfl hy2)) ?_
 rintro _ _ _ _ ⟨_,rfl,A2,c2,ch2,rfl,rfl,rfl,ho2⟩
 refine ⟨fun _ w hh=>⟨fun _=>(Pk 4 [2,3]) w hh,fun _=>(Pk 4 [2]) w hh,(fun h=>by cases h)⟩,?_⟩
 refine Kr [1,2,6,9,10] [(1,pg g1 0),(2,pg g2 0),(6,.slice A1 y1.length c1),(9,.slice A2 y2.length c2),(10,pg g1 2)] ?_
 refine DrH.does (n:=2) (ls':=[true,true,true,true,true,true,true,true,false,false]) 7 (by kernel_rfl) rfl (DoesH.store (k:=3) (g:=g1) (off:=2) (v:=.slice A1 y1.length c1) (cells':=#[iv a0.Room,iv a0.Lease,.slice A1 y1.length c1,.slice Aa0_3 a0.Entries.length ca0_3]) (by kernel_rfl) rfl (by kernel_rfl) (by kernel_rfl)) ?_
 rintro _ _ _ _ ⟨rfl,rfl,rfl⟩
 refine ⟨fun _ w hh=>⟨(fun h=>by cases h),fun _=>(Pk 4 [2]) w hh,(fun h=>by cases h)⟩,?_⟩
 refine De [8] 1 (nb 10 511) [] [] [1,2,9,11] [(1,pg g1 0),(2,pg g2 0),(9,.slice A2 y2.length c2),(11,pg g1 3)] (Pk 4 [2]) (fun _ _=>trivial) ?_
 refine DrH.does (n:=0) (ls':=[true,true,true,true,true,true,true,true,true,true]) 9 (by kernel_rfl) rfl (DoesH.store (k:=3) (g:=g1) (off:=3) (v:=.slice A2 y2.length c2) (cells':=#[iv a0.Room,iv a0.Lease,.slice A1 y1.length c1,.slice A2 y2.length c2]) (by kernel_rfl) rfl (by kernel_rfl) (by kernel_rfl)) ?_
 rintro _ _ _ _ ⟨rfl,rfl,rfl⟩
 refine ⟨fun _ w hh=>⟨(fun h=>by cases h),(fun h=>absurd h (by decide)),(fun h=>by cases h)⟩,?_⟩
 refine Kr [1,2] [(1,pg g1 0),(2,pg g2 0)] ?_
 refine DrH.done (by kernel_rfl) ?_
 refine Ra 2 [1,1,0,0] [.c [1,1,0,1],.c [1,1,1]]<|Rw' 4 [1,2,14,15] [.slice A2 y2.length c2] [.load ⟨g1,3,none⟩ (.slice A2 y2.length c2)] [(1,pg g1 0),(2,pg g2 0),(14,iv (y2.length:Int)),(15,iv 0)] (fun w hh=>(hh.box 3 rfl rfl))<|Ad 2 [.c [1,1,0,1,0,0],.l [1,1,0,1,0,0],.b 0,.c [1,1,1]]<|Kp [1,2,14,15] [(1,pg g1 0),(2,pg g2 0),(14,iv (y2.length:Int)),(15,iv 0)] ?_
 exact ((cache_own.l2_c (e1:=cache_own.e1) (cache_own.e1_c)) big) _ a0 _ _ y1 _ _ _ y2 y2 _ _ _ _ 0 ho1 ho2 rfl heq
noncomputable def C74:Ctx:={ P:=Tryd.prog,f:=74,N:=14,c:=bodyOf Tryd.f74 }
def S74 (F:List Ch) (H0:Hp) (r:Bool) (v:Value) (H:Hp) (cs:List Ch):Prop:=H0=H∧v=.bool r∧F=cs
theorem cache_held_c {w0:World} {H:Hp} {F:List Ch} {a0:Blob} {a1:Int} {r:Bool} (heq:cache_held.f a0 a1=some r):CallsH Tryd.prog 74 #[.agg #[.string a0.Digest,iv a0.Size,iv a0.Used,iv a0.Until,iv a0.Pins],iv a1] H w0 (F) (S74 F H r):=by
 refine calls_of_runH (F:=C74) Tryd.func74 (by kernel_rfl) Tryd.ntmps74 (args:=[.agg #[.string a0.Digest,iv a0.Size,iv a0.Used,iv a0.Until,iv a0.Pins],iv a1]) (by kernel_rfl) ?_
 unfold cache_held.f at heq
 refine Ra 1 [0] [.c [1]] ?_
 refine RgH.does (DoesH.new (d:=2) (v:=fun g=>.pointer (some ⟨g,0,none⟩)) (o:=fun g=>.cells #[.string a0.Digest,iv a0.Size,iv a0.Used,iv a0.Until,iv a0.Pins] 47 (0,0)) (fun g=>by kernel_rfl)) ?_
 rintro _ _ _ _ ⟨g1,rfl,rfl,rfl⟩
 refine Rd 2 [1,2] [(1,iv a1),(2,pg g1 0)]<|Ad 1 [.c [1,0],.c [1,1]] ?_
 obtain ⟨t1,ht1,heq⟩:=bind_some heq
 have K2:RunH C74 (S74 F H r) H w0 [.c [1,1]] [(4,.bool t1)] H (F):=by
  obtain rfl:=Option.some.inj heq
  exact RunH.done (by kernel_rfl) Tryd.func74 (v:=.bool t1) (by kernel_rfl) ⟨rfl,rfl,rfl⟩
 replace heq:=ht1
 refine Rr<|Rv 4 [8,1,2] [iv a0.Pins] [.load ⟨g1,4,none⟩ (iv a0.Pins)] [(8,.bool (decide (0<a0.Pins))),(1,iv a1),(2,pg g1 0)] (fun w hh=>(hh.box 0 rfl rfl)) ?_
 rcases bool_cases (decide (0<a0.Pins)) with hb1 | hb1
 ·replace heq:=bif_true hb1 heq
  refine RgH.val1 (v':=.bool true) (congrArg Value.bool hb1) ?_
  refine Rk 10 [4] [(4,.bool true)] ?_
  obtain rfl:=Option.some.inj heq
  refine Kg [4] [(4,.bool true)] ?_
  refine RgH.pick 1 [] (cs':=F) (by kernel_rfl) rfl ?_
  refine Dn ?_
  exact K2
 ·replace heq:=bif_false hb1 heq
  refine RgH.val1 (v':=.bool false) (congrArg Value.bool hb1) ?_
  refine Rv 10 [4] [iv a0.Until] [.load ⟨g1,3,none⟩ (iv a0.Until)] [(4,.bool (decide (a1<a0.Until)))] (fun w hh=>(hh.box 0 rfl rfl)) ?_
  obtain rfl:=Option.some.inj heq
  refine Kg [4] [(4,.bool (decide (a1<a0.Until)))] ?_
  refine RgH.pick 1 [] (cs':=F) (by kernel_rfl) rfl ?_
  refine Dn ?_
  exact K2
noncomputable def C73:Ctx:={ P:=Tryd.prog,f:=73,N:=14,c:=bodyOf Tryd.f73 }
def S73 (F:List Ch) (H0:Hp) (r:Bool) (v:Value) (H:Hp) (cs:List Ch):Prop:=H0=H∧v=.bool r∧F=cs
theorem cache_Swept_1_c {w0:World} {H:Hp} {F:List Ch} {a0:Blob} {ga1:Nat} {a1:Int} {ga2:Nat} {a2:List (ByteArray × Bool)} {Aa2_0:Option Nat} {r:Bool} (hga1:InG H F ga1 (.cells #[iv a1] 3 (0,0))) (hra2_0:Mw Value.string Kd.bool false H F Aa2_0 a2) (hga2:InG H F ga2 (.cells #[.map Aa2_0] 101 (0,0))) (heq:cache_Swept_1.f a0 a1 a2=some r):CallsH Tryd.prog 73 #[.agg #[.string a0.Digest,iv a0.Size,iv a0.Used,iv a0.Until,iv a0.Pins],.pointer (some ⟨ga1,0,none⟩),.pointer (some ⟨ga2,0,none⟩)] H w0 (F) (S73 F H r):=by
 refine calls_of_runH (F:=C73) Tryd.func73 (by kernel_rfl) Tryd.ntmps73 (args:=[.agg #[.string a0.Digest,iv a0.Size,iv a0.Used,iv a0.Until,iv a0.Pins],.pointer (some ⟨ga1,0,none⟩),.pointer (some ⟨ga2,0,none⟩)]) (by kernel_rfl) ?_
 unfold cache_Swept_1.f at heq
 refine Ra 1 [0] [.c [1]] ?_
 refine RgH.does (DoesH.new (d:=3) (v:=fun g=>.pointer (some ⟨g,0,none⟩)) (o:=fun g=>.cells #[.string a0.Digest,iv a0.Size,iv a0.Used,iv a0.Until,iv a0.Pins] 47 (0,0)) (fun g=>by kernel_rfl)) ?_
 rintro _ _ _ _ ⟨g1,rfl,rfl,rfl⟩
 refine Rd 2 [1,2,3] [(1,pg ga1 0),(2,pg ga2 0),(3,pg g1 0)]<|Ad 1 [.c [1,0],.c [1,1]] ?_
 obtain ⟨t1,ht1,heq⟩:=bind_some heq
 have K2:RunH C73 (S73 F H r) H w0 [.c [1,1]] [(4,.bool t1)] H (F):=by
  obtain rfl:=Option.some.inj heq
  exact RunH.done (by kernel_rfl) Tryd.func73 (v:=.bool t1) (by kernel_rfl) ⟨rfl,rfl,rfl⟩
 replace heq:=ht1
 refine Rr<|Rv 2 [2,3,5,6] [.string a0.Digest,iv a0.Size,iv a0.Used,iv a0.Until,iv a0.Pins,iv a1] [.load ⟨g1,0,none⟩ (.string a0.Digest),.load ⟨g1,1,none⟩ (iv a0.Size),.load ⟨g1,2,none⟩ (iv a0.Used),.load ⟨g1,3,none⟩ (iv a0.Until),.load ⟨g1,4,none⟩ (iv a0.Pins),.load ⟨ga1,0,none⟩ (iv a1)] [(2,pg ga2 0),(3,pg g1 0),(5,.agg #[.string a0.Digest,iv a0.Size,iv a0.Used,iv a0.Until,iv a0.Pins]),(6,iv a1)] (fun w hh=>⟨(hh.box 0 rfl rfl),(hh.box 0 rfl rfl),(hh.box 0 rfl rfl),(hh.box 0 rfl rfl),(hh.box 0 rfl rfl),(hga1.cell (hh.drop 1) rfl)⟩) ?_
 obtain ⟨y1,hy1,heq⟩:=bind_some heq
 refine RgH.does (DoesH.call (d:=7) (g:=74) (args:=#[.agg #[.string a0.Digest,iv a0.Size,iv a0.Used,iv a0.Until,iv a0.Pins],iv a1]) (by kernel_rfl) (cache_held_c (a0:=a0) (a1:=a1)  hy1)) ?_
 rintro _ _ _ _ ⟨_,rfl,rfl,rfl,rfl⟩
 refine Rk 4 [8,2,3] [(8,.bool y1),(2,pg ga2 0),(3,pg g1 0)] ?_
 rcases bool_cases (y1) with hb1 | hb1
 ·replace heq:=bif_true hb1 heq
  refine RgH.val1 (v':=.bool true) (congrArg Value.bool hb1) ?_
  refine Rk 10 [4] [(4,.bool true)] ?_
  obtain rfl:=Option.some.inj heq
  refine Kg [4] [(4,.bool true)] ?_
  refine RgH.pick 1 [] (cs':=F) (by kernel_rfl) rfl ?_
  refine Dn ?_
  exact K2
 ·replace heq:=bif_false hb1 heq
  refine RgH.val1 (v':=.bool false) (congrArg Value.bool hb1) ?_
  refine Rv 7 [8,9,11] [.map Aa2_0,.string a0.Digest] [.load ⟨ga2,0,none⟩ (.map Aa2_0),.load ⟨g1,0,none⟩ (.string a0.Digest)] [(8,.bool false),(9,.map Aa2_0),(11,.string a0.Digest)] (fun w hh=>⟨(hga2.cell (hh.drop 1) rfl),(hh.box 0 rfl rfl)⟩) ?_
  refine RgH.does (DoesH.lookup (d:=12) (t:=101) (m:=a2) (k:=a0.Digest) (z:=.bool false) (zc:=[.bool false]) (z0:=false) (ok:=false) (kd:=Kd.bool) (ag:=false) (by kernel_rfl) (KyAt.string Tryd.underlying9) rfl rfl (fun w hh=>hra2_0.on (hh.drop 1))) ?_
  rintro _ _ _ _ ⟨cc1,rfl,rfl,rfl,hcc1⟩
  obtain rfl:cc1=[.bool (mgetD a2 a0.Digest false)]:=hcc1
  refine RgH.val1 (v':=.bool (mgetD a2 a0.Digest false)) rfl ?_
  refine Rk 10 [4] [(4,.bool (mgetD a2 a0.Digest false))] ?_
  obtain rfl:=Option.some.inj heq
  refine Kg [4] [(4,.bool (mgetD a2 a0.Digest false))] ?_
  refine RgH.pick 1 [] (cs':=F) (by kernel_rfl) rfl ?_
  refine Dn ?_
  exact K2
noncomputable def C109:Ctx:={ P:=Tryd.prog,f:=109,N:=19,c:=bodyOf Tryd.f109 }
def S109 (F:List Ch) (H0:Hp) (r:Int) (v:Value) (H:Hp) (cs:List Ch):Prop:=H0=H∧v=iv r∧F=cs
theorem slices_IndexFunc_Blob.e1_c {w0:World} {H:Hp} {F:List Ch} {r:Int}:slices_IndexFunc_Blob.e1=some r→RunH C109 (S109 F H r) H w0 [.c [1,1,0],.c [1,1,1]] [] H (F):=by
 intro   heq
 unfold slices_IndexFunc_Blob.e1 at heq
 refine Rr<|Rd 1 [4] [(4,iv (-1))] ?_
 obtain rfl:=Option.some.inj heq
 exact RunH.done (by kernel_rfl) Tryd.func109 (v:=iv (-1)) (by kernel_rfl) ⟨rfl,rfl,rfl⟩
theorem slices_IndexFunc_Blob.l2_c {w0:World} {H:Hp} {F:List Ch} {r:Int} (e1:Option Int)
  (he1:e1=some r→RunH C109 (S109 F H r) H w0 [.c [1,1,0],.c [1,1,1]] [] H (F)):∀ (k:Nat),∀ (a0:List Blob) (Aa0:Option Addr) (ca0:Nat) (ga1q0:Nat) (a1q0:Int) (ga1q1:Nat) (a1q1:List (ByteArray × Bool)) (Aa1q1_0:Option Nat) (v8:Int) ,Rw kBlob H F Aa0 a0→a0.length≤ca0→InG H F ga1q0 (.cells #[iv a1q0] 3 (0,0))→Mw Value.string Kd.bool false H F Aa1q1_0 a1q1→InG H F ga1q1 (.cells #[.map Aa1q1_0] 101 (0,0))→slices_IndexFunc_Blob.l2 e1 k a0 a1q0 a1q1 v8=some r→RunH C109 (S109 F H r) H w0 [.c [1,0,1,0,0],.l [1,0,1,0,0],.b 0,.c [1,1]] [(0,.slice Aa0 a0.length ca0),(1,.func (.func 73) #[] #[.pointer (some ⟨ga1q0,0,none⟩),.pointer (some ⟨ga1q1,0,none⟩)]),(7,iv (a0.length:Int)),(8,iv v8)] H (F):=by
 intro k
 induction k with
 | zero=>intro a0 Aa0 ca0 ga1q0 a1q0 ga1q1 a1q1 Aa1q1_0 v8 hra0 hca0 hga1q0 hra1q1_0 hga1q1 heq; exact nomatch (show (none:Option Int)=some r from heq)
 | succ k ihk =>
  intro a0 Aa0 ca0 ga1q0 a1q0 ga1q1 a1q1 Aa1q1_0 v8 hra0 hca0 hga1q0 hra1q1_0 hga1q1 heq
  rw [slices_IndexFunc_Blob.l2] at heq
  refine Ra 1 [1,0,1,0,0,0] [.c [1,0,1,0,0,1],.l [1,0,1,0,0],.b 0,.c [1,1]]<|Rd 1 [0,1,7,8,9] [(0,.slice Aa0 a0.length ca0),(1,.func (.func 73) #[] #[.pointer (some ⟨ga1q0,0,none⟩),.pointer (some ⟨ga1q1,0,none⟩)]),(7,iv (a0.length:Int)),(8,iv v8),(9,.bool (decide (v8<(a0.length:Int))))]<|Ad 1 [.c [1,0,1,0,0,1,0],.c [1,0,1,0,0,1,1],.l [1,0,1,0,0],.b 0,.c [1,1]] ?_
  rcases bool_cases (decide (v8<(a0.length:Int))) with hb1 | hb1
  ·replace heq:=bif_true hb1 heq
   refine Ct (decide (v8<(a0.length:Int))) hb1<|Ra 4 [1,0,1,0,0,1,1,0,0,0] [.c [1,0,1,0,0,1,1,0,0,1],.b 1,.c [1,0,1,0,0,1,1,1],.l [1,0,1,0,0],.b 0,.c [1,1]]<|Rd 2 [0,1,5,7,8] [(0,.slice Aa0 a0.length ca0),(1,.func (.func 73) #[] #[.pointer (some ⟨ga1q0,0,none⟩),.pointer (some ⟨ga1q1,0,none⟩)]),(5,iv v8),(7,iv (a0.length:Int)),(8,iv v8)]<|Ra 1 [1,0,1,0,0,1,1,0,0,1,0] [.c [1,0,1,0,0,1,1,0,0,1,1],.b 1,.c [1,0,1,0,0,1,1,1],.l [1,0,1,0,0],.b 0,.c [1,1]] ?_
   obtain ⟨x1,hx1,heq⟩:=bind_some heq
   obtain ⟨ha1,cs1,hK1,hcc1⟩:=hra0.get hx1
   obtain ⟨rfl⟩:=kBlob_open hK1
   refine Rv 5 [0,1,5,7,8,11,15] [.string x1.Digest,iv x1.Size,iv x1.Used,iv x1.Until,iv x1.Pins] [.need (Aa0=some (adr Aa0)∧(0:Int)≤v8∧v8<((a0.length:Nat):Int)),.load (((adr Aa0).add (v8.toNat*5)).add 0) (.string x1.Digest),.load (((adr Aa0).add (v8.toNat*5)).add 1) (iv x1.Size),.load (((adr Aa0).add (v8.toNat*5)).add 2) (iv x1.Used),.load (((adr Aa0).add (v8.toNat*5)).add 3) (iv x1.Until),.load (((adr Aa0).add (v8.toNat*5)).add 4) (iv x1.Pins)] [(0,.slice Aa0 a0.length ca0),(1,.func (.func 73) #[] #[.pointer (some ⟨ga1q0,0,none⟩),.pointer (some ⟨ga1q1,0,none⟩)]),(5,iv v8),(7,iv (a0.length:Int)),(8,iv v8),(11,.func (.func 73) #[] #[.pointer (some ⟨ga1q0,0,none⟩),.pointer (some ⟨ga1q1,0,none⟩)]),(15,.agg #[.string x1.Digest,iv x1.Size,iv x1.Used,iv x1.Until,iv x1.Pins])] (fun w hh=>⟨⟨ha1,(at?_some hx1).1,(at?_some hx1).2.1⟩,(hcc1 _ _ (hh.drop 0) 0 _ rfl),(hcc1 _ _ (hh.drop 0) 1 _ rfl),(hcc1 _ _ (hh.drop 0) 2 _ rfl),(hcc1 _ _ (hh.drop 0) 3 _ rfl),(hcc1 _ _ (hh.drop 0) 4 _ rfl)⟩) ?_
   obtain ⟨y1,hy1,heq⟩:=bind_some heq
   refine RgH.does (DoesH.call (d:=16) (g:=73) (args:=#[.agg #[.string x1.Digest,iv x1.Size,iv x1.Used,iv x1.Until,iv x1.Pins],.pointer (some ⟨ga1q0,0,none⟩),.pointer (some ⟨ga1q1,0,none⟩)]) (by kernel_rfl) (cache_Swept_1_c (a0:=x1) (a1:=a1q0) (a2:=a1q1) hga1q0 hra1q1_0 hga1q1 hy1)) ?_
   rintro _ _ _ _ ⟨_,rfl,rfl,rfl,rfl⟩
   refine Dn ?_
   rcases bool_cases (y1) with hb2 | hb2
   ·replace heq:=bif_true hb2 heq
    refine Ct y1 hb2<|Ra 1 [1,0,1,0,0,1,1,0,0,1,1,0,0] [.c [1,0,1,0,0,1,1,0,0,1,1,0,1],.b 1,.c [1,0,1,0,0,1,1,1],.l [1,0,1,0,0],.b 0,.c [1,1]]<|Rd 2 [4] [(4,iv v8)] ?_
    obtain rfl:=Option.some.inj heq
    exact RunH.done (by kernel_rfl) Tryd.func109 (v:=iv v8) (by kernel_rfl) ⟨rfl,rfl,rfl⟩
   ·replace heq:=bif_false hb2 heq
    refine Cf y1 hb2<|Ra 2 [1,0,1,0,0,1,1,1] [.l [1,0,1,0,0],.b 0,.c [1,1]]<|Rd 2 [0,1,7,8] [(0,.slice Aa0 a0.length ca0),(1,.func (.func 73) #[] #[.pointer (some ⟨ga1q0,0,none⟩),.pointer (some ⟨ga1q1,0,none⟩)]),(7,iv (a0.length:Int)),(8,iv (w64 (v8+1)))]<|Ad 1 [.c [1,0,1,0,0],.l [1,0,1,0,0],.b 0,.c [1,1]]<|Kp [0,1,7,8] [(0,.slice Aa0 a0.length ca0),(1,.func (.func 73) #[] #[.pointer (some ⟨ga1q0,0,none⟩),.pointer (some ⟨ga1q1,0,none⟩)]),(7,iv (a0.length:Int)),(8,iv (w64 (v8+1)))] ?_
    exact ihk a0 _ _ _ a1q0 _ a1q1 _ (w64 (v8+1)) hra0 hca0 hga1q0 hra1q1_0 hga1q1 heq
  ·replace heq:=bif_false hb1 heq
   refine Cf (decide (v8<(a0.length:Int))) hb1<|Ad 2 [.c [1,1,0],.c [1,1,1]]<|Kp [] [] ?_
   exact he1 heq
theorem slices_IndexFunc_Blob_c {w0:World} {H:Hp} {F:List Ch} {a0:List Blob} {Aa0:Option Addr} {na0:Nat} {ca0:Nat} {ga1q0:Nat} {a1q0:Int} {ga1q1:Nat} {a1q1:List (ByteArray × Bool)} {Aa1q1_0:Option Nat} {r:Int} (hra0:Rw kBlob H F Aa0 a0) (hca0:na0≤ca0) (hna0:na0=a0.length) (hga1q0:InG H F ga1q0 (.cells #[iv a1q0] 3 (0,0))) (hra1q1_0:Mw Value.string Kd.bool false H F Aa1q1_0 a1q1) (hga1q1:InG H F ga1q1 (.cells #[.map Aa1q1_0] 101 (0,0))) (heq:slices_IndexFunc_Blob.f a0 a1q0 a1q1=some r):CallsH Tryd.prog 109 #[.slice Aa0 na0 ca0,.func (.func 73) #[] #[.pointer (some ⟨ga1q0,0,none⟩),.pointer (some ⟨ga1q1,0,none⟩)]] H w0 (F) (S109 F H r):=by
 refine calls_of_runH (F:=C109) Tryd.func109 (by kernel_rfl) Tryd.ntmps109 (args:=[.slice Aa0 na0 ca0,.func (.func 73) #[] #[.pointer (some ⟨ga1q0,0,none⟩),.pointer (some ⟨ga1q1,0,none⟩)]]) (by kernel_rfl) ?_
 subst hna0
 unfold slices_IndexFunc_Blob.f at heq
 refine Ra 1 [0] [.c [1]]<|Rd 1 [0,1] [(0,.slice Aa0 a0.length ca0),(1,.func (.func 73) #[] #[.pointer (some ⟨ga1q0,0,none⟩),.pointer (some ⟨ga1q1,0,none⟩)])]<|Ra 2 [1,0,0] [.c [1,0,1],.c [1,1]]<|Rd 3 [0,1,7,8] [(0,.slice Aa0 a0.length ca0),(1,.func (.func 73) #[] #[.pointer (some ⟨ga1q0,0,none⟩),.pointer (some ⟨ga1q1,0,none⟩)]),(7,iv (a0.length:Int)),(8,iv 0)]<|Ad 2 [.c [1,0,1,0,0],.l [1,0,1,0,0],.b 0,.c [1,1]]<|Kp [0,1,7,8] [(0,.slice Aa0 a0.length ca0),(1,.func (.func 73) #[] #[.pointer (some ⟨ga1q0,0,none⟩),.pointer (some ⟨ga1q1,0,none⟩)]),(7,iv (a0.length:Int)),(8,iv 0)] ?_
 exact ((slices_IndexFunc_Blob.l2_c (e1:=slices_IndexFunc_Blob.e1) (slices_IndexFunc_Blob.e1_c)) big) a0 _ _ _ a1q0 _ a1q1 _ 0 hra0 hca0 hga1q0 hra1q1_0 hga1q1 heq
noncomputable def C72:Ctx:={ P:=Tryd.prog,f:=72,N:=42,c:=bodyOf Tryd.f72 }
def S72 (F:List Ch) (H0:Hp) (r:(List Blob)) (v:Value) (H:Hp) (cs:List Ch):Prop:=∃ (A0:Option Addr) (c0:Nat) (ch0:Ch),H0=H∧v=.slice A0 r.length c0∧ch0::F=cs∧SlOwn kBlob 47 H A0 c0 r ch0
theorem slices_DeleteFunc_Blob.e1_c {w0:World} {H:Hp} {F:List Ch} {r:(List Blob)}:∀ (v_s0:List Blob) (Av_s0:Option Addr) (nv_s0:Nat) (cv_s0:Nat) (chv_s0:Ch) (v_i5:Int) ,SlOwn kBlob 47 H Av_s0 cv_s0 v_s0 chv_s0→nv_s0=v_s0.length→slices_DeleteFunc_Blob.e1 v_s0 v_i5=some r→RunH C72 (S72 F H r) H w0 [.c [1,1,1,1,0],.c [1,1,1,1,1]] [(0,.slice Av_s0 nv_s0 cv_s0),(5,iv v_i5)] H (chv_s0::F):=by
 intro v_s0 Av_s0 nv_s0 cv_s0 chv_s0 v_i5 hov_s0 hnv_s0 heq
 subst hnv_s0
 unfold slices_DeleteFunc_Blob.e1 at heq
 refine Rr ?_
 obtain ⟨hn2,heq⟩:=guard?_some heq
 have hn1:v_s0.length - v_i5.toNat=(v_s0.drop v_i5.toNat).length:=by have h1:=both_of hn2; have h3:=trivial; (try simp); (try omega)
 have ho1:=hov_s0.drop v_i5.toNat (by have h2:=hov_s0.cap; have h3:=trivial; have h1:=both_of hn2; omega)
 refine Rv 3 [0,5,38] [] [.need ((0:Int)≤v_i5∧v_i5≤((v_s0.length:Nat):Int))] [(0,.slice Av_s0 v_s0.length cv_s0),(5,iv v_i5),(38,.slice (shiftA cv_s0 v_i5.toNat 5 Av_s0) (v_s0.length - v_i5.toNat) (cv_s0 - v_i5.toNat))] (fun w hh=>(both_of hn2)) ?_
 refine RgH.does (DoesH.clear (k:=0) (j:=v_i5.toNat) (n:=v_s0.length - v_i5.toNat) (t:=22) (e:=47) (bytes:=48) (kd:=kBlob) (A:=Av_s0) (A2:=(shiftA cv_s0 v_i5.toNat 5 Av_s0)) (c:=cv_s0) (c2:=(cv_s0 - v_i5.toNat)) (xs:=v_s0) (z:=(⟨ByteArray.empty,0,0,0,0⟩:Blob)) (zc:=#[.string ByteArray.empty,iv 0,iv 0,iv 0,iv 0]) (by kernel_rfl) (by have h3:=trivial; omega) (by kernel_rfl) (by kernel_rfl) kBlob_mk (by kernel_rfl) rfl hov_s0 (by have h1:=both_of hn2; have h3:=trivial; omega) (fun h b off hA=>shiftA_at h hov_s0.cap hA)) ?_
 rintro _ _ _ _ ⟨ch1,rfl,rfl,rfl,ho2⟩
 have hn3:v_s0.length=(v_s0.take v_i5.toNat++List.replicate (v_s0.length - v_i5.toNat) (⟨ByteArray.empty,0,0,0,0⟩:Blob)).length:=by have h1:=both_of hn2; have h3:=trivial; simp; omega
 refine Dn<|Ra 1 [1,1,1,1,1,0] [.c [1,1,1,1,1,1]] ?_
 obtain ⟨hn5,heq⟩:=guard?_some heq
 have hn4:v_i5.toNat=((v_s0.take v_i5.toNat++List.replicate (v_s0.length - v_i5.toNat) (⟨ByteArray.empty,0,0,0,0⟩:Blob)).take v_i5.toNat).length:=by have h1:=both_of hn5; have h3:=hn3; (try simp); (try omega)
 have ho3:=ho2.take v_i5.toNat
 refine Rw' 4 [4] [] [.need ((0:Int)≤v_i5∧v_i5≤((cv_s0:Nat):Int))] [(4,.slice Av_s0 v_i5.toNat cv_s0)] (fun w hh=>⟨(both_of hn5).1,(by have h1:=(both_of hn5).2; have h2:=(show v_s0.length≤cv_s0 from by have:=ho2.cap; have:=hn3; omega); have h3:=hn3; omega)⟩) ?_
 obtain rfl:=Option.some.inj heq
 exact RunH.done (by kernel_rfl) Tryd.func72 (v:=.slice Av_s0 v_i5.toNat cv_s0) (by kernel_rfl) ⟨Av_s0,cv_s0,ch1,rfl,(by first | rfl | exact congrArg (fun q=>Value.slice _ q _) hn4 | (rw [hn4]) | (simp only [← hn4])),rfl,ho3⟩
theorem slices_DeleteFunc_Blob.j3_c {w0:World} {H:Hp} {F:List Ch} {r:(List Blob)} (backl2:Int→(List (ByteArray × Bool))→(List Blob)→Int→Int→Option (List Blob))
  (hbackl2:∀ (ga1q0:Nat) (a1q0:Int) (ga1q1:Nat) (a1q1:List (ByteArray × Bool)) (Aa1q1_0:Option Nat) (v_s0:List Blob) (Av_s0:Option Addr) (nv_s0:Nat) (cv_s0:Nat) (chv_s0:Ch) (v_i5:Int) (v_j6:Int) ,InG H F ga1q0 (.cells #[iv a1q0] 3 (0,0))→Mw Value.string Kd.bool false H F Aa1q1_0 a1q1→InG H F ga1q1 (.cells #[.map Aa1q1_0] 101 (0,0))→SlOwn kBlob 47 H Av_s0 cv_s0 v_s0 chv_s0→nv_s0=v_s0.length→backl2 a1q0 a1q1 v_s0 v_i5 v_j6=some r→RunH C72 (S72 F H r) H w0 [.c [1,1,1,0,1,0,0],.l [1,1,1,0,1,0,0],.b 0,.c [1,1,1,1]] [(0,.slice Av_s0 nv_s0 cv_s0),(1,.func (.func 73) #[] #[.pointer (some ⟨ga1q0,0,none⟩),.pointer (some ⟨ga1q1,0,none⟩)]),(5,iv v_i5),(6,iv v_j6)] H (chv_s0::F)):∀ (ga1q0:Nat) (a1q0:Int) (ga1q1:Nat) (a1q1:List (ByteArray × Bool)) (Aa1q1_0:Option Nat) (v_j6:Int) (v_s0:List Blob) (Av_s0:Option Addr) (nv_s0:Nat) (cv_s0:Nat) (chv_s0:Ch) (v_i5:Int) ,InG H F ga1q0 (.cells #[iv a1q0] 3 (0,0))→Mw Value.string Kd.bool false H F Aa1q1_0 a1q1→InG H F ga1q1 (.cells #[.map Aa1q1_0] 101 (0,0))→SlOwn kBlob 47 H Av_s0 cv_s0 v_s0 chv_s0→nv_s0=v_s0.length→slices_DeleteFunc_Blob.j3 backl2 a1q0 a1q1 v_j6 v_s0 v_i5=some r→RunH C72 (S72 F H r) H w0 [.c [1,1,1,0,1,0,0,1,1],.l [1,1,1,0,1,0,0],.b 0,.c [1,1,1,1]] [(0,.slice Av_s0 nv_s0 cv_s0),(1,.func (.func 73) #[] #[.pointer (some ⟨ga1q0,0,none⟩),.pointer (some ⟨ga1q1,0,none⟩)]),(5,iv v_i5),(6,iv v_j6)] H (chv_s0::F):=by
 intro ga1q0 a1q0 ga1q1 a1q1 Aa1q1_0 v_j6 v_s0 Av_s0 nv_s0 cv_s0 chv_s0 v_i5 hga1q0 hra1q1_0 hga1q1 hov_s0 hnv_s0 heq
 subst hnv_s0
 unfold slices_DeleteFunc_Blob.j3 at heq
 refine Rr<|Rd 3 [0,1,5,6] [(0,.slice Av_s0 v_s0.length cv_s0),(1,.func (.func 73) #[] #[.pointer (some ⟨ga1q0,0,none⟩),.pointer (some ⟨ga1q1,0,none⟩)]),(5,iv v_i5),(6,iv (w64 (v_j6+1)))]<|Ad 1 [.c [1,1,1,0,1,0,0],.l [1,1,1,0,1,0,0],.b 0,.c [1,1,1,1]]<|Kp [0,1,5,6] [(0,.slice Av_s0 v_s0.length cv_s0),(1,.func (.func 73) #[] #[.pointer (some ⟨ga1q0,0,none⟩),.pointer (some ⟨ga1q1,0,none⟩)]),(5,iv v_i5),(6,iv (w64 (v_j6+1)))] ?_
 exact hbackl2 _ a1q0 _ a1q1 _ v_s0 _ _ _ _ v_i5 (w64 (v_j6+1)) hga1q0 hra1q1_0 hga1q1 hov_s0 rfl heq
theorem slices_DeleteFunc_Blob.l2_c {w0:World} {H:Hp} {F:List Ch} {r:(List Blob)} (e1:(List Blob)→Int→Option (List Blob))
  (he1:∀ (v_s0:List Blob) (Av_s0:Option Addr) (nv_s0:Nat) (cv_s0:Nat) (chv_s0:Ch) (v_i5:Int) ,SlOwn kBlob 47 H Av_s0 cv_s0 v_s0 chv_s0→nv_s0=v_s0.length→e1 v_s0 v_i5=some r→RunH C72 (S72 F H r) H w0 [.c [1,1,1,1,0],.c [1,1,1,1,1]] [(0,.slice Av_s0 nv_s0 cv_s0),(5,iv v_i5)] H (chv_s0::F)):∀ (k:Nat),∀ (ga1q0:Nat) (a1q0:Int) (ga1q1:Nat) (a1q1:List (ByteArray × Bool)) (Aa1q1_0:Option Nat) (v_s0:List Blob) (Av_s0:Option Addr) (nv_s0:Nat) (cv_s0:Nat) (chv_s0:Ch) (v_i5:Int) (v_j6:Int) ,InG H F ga1q0 (.cells #[iv a1q0] 3 (0,0))→Mw Value.string Kd.bool false H F Aa1q1_0 a1q1→InG H F ga1q1 (.cells #[.map Aa1q1_0] 101 (0,0))→SlOwn kBlob 47 H Av_s0 cv_s0 v_s0 chv_s0→nv_s0=v_s0.length→slices_DeleteFunc_Blob.l2 e1 k a1q0 a1q1 v_s0 v_i5 v_j6=some r→RunH C72 (S72 F H r) H w0 [.c [1,1,1,0,1,0,0],.l [1,1,1,0,1,0,0],.b 0,.c [1,1,1,1]] [(0,.slice Av_s0 nv_s0 cv_s0),(1,.func (.func 73) #[] #[.pointer (some ⟨ga1q0,0,none⟩),.pointer (some ⟨ga1q1,0,none⟩)]),(5,iv v_i5),(6,iv v_j6)] H (chv_s0::F):=by
 intro k
 induction k with
 | zero=>intro ga1q0 a1q0 ga1q1 a1q1 Aa1q1_0 v_s0 Av_s0 nv_s0 cv_s0 chv_s0 v_i5 v_j6 hga1q0 hra1q1_0 hga1q1 hov_s0 hnv_s0 heq; exact nomatch (show (none:Option (List Blob))=some r from heq)
 | succ k ihk =>
  intro ga1q0 a1q0 ga1q1 a1q1 Aa1q1_0 v_s0 Av_s0 nv_s0 cv_s0 chv_s0 v_i5 v_j6 hga1q0 hra1q1_0 hga1q1 hov_s0 hnv_s0 heq
  subst hnv_s0
  rw [slices_DeleteFunc_Blob.l2] at heq
  refine Ra 2 [1,1,1,0,1,0,0,0,0] [.c [1,1,1,0,1,0,0,0,1],.c [1,1,1,0,1,0,0,1],.l [1,1,1,0,1,0,0],.b 0,.c [1,1,1,1]]<|Rd 4 [0,1,5,6,19] [(0,.slice Av_s0 v_s0.length cv_s0),(1,.func (.func 73) #[] #[.pointer (some ⟨ga1q0,0,none⟩),.pointer (some ⟨ga1q1,0,none⟩)]),(5,iv v_i5),(6,iv v_j6),(19,.bool (decide (v_j6<(v_s0.length:Int))))] ?_
  rcases bool_cases (decide (v_j6<(v_s0.length:Int))) with hb2 | hb2
  ·replace heq:=bif_true hb2 heq
   refine Ct (decide (v_j6<(v_s0.length:Int))) hb2<|Ra 4 [1,1,1,0,1,0,0,1,0,0,0] [.c [1,1,1,0,1,0,0,1,0,0,1],.b 1,.c [1,1,1,0,1,0,0,1,1],.l [1,1,1,0,1,0,0],.b 0,.c [1,1,1,1]] ?_
   obtain ⟨x1,hx1,heq⟩:=bind_some heq
   obtain ⟨ha1,cs1,hK1,hcc1⟩:=hov_s0.get hx1
   obtain ⟨rfl⟩:=kBlob_open hK1
   refine Rv 4 [0,1,5,6,25] [.string x1.Digest,iv x1.Size,iv x1.Used,iv x1.Until,iv x1.Pins] [.need (Av_s0=some (adr Av_s0)∧(0:Int)≤v_j6∧v_j6<((v_s0.length:Nat):Int)),.load (((adr Av_s0).add (v_j6.toNat*5)).add 0) (.string x1.Digest),.load (((adr Av_s0).add (v_j6.toNat*5)).add 1) (iv x1.Size),.load (((adr Av_s0).add (v_j6.toNat*5)).add 2) (iv x1.Used),.load (((adr Av_s0).add (v_j6.toNat*5)).add 3) (iv x1.Until),.load (((adr Av_s0).add (v_j6.toNat*5)).add 4) (iv x1.Pins)] [(0,.slice Av_s0 v_s0.length cv_s0),(1,.func (.func 73) #[] #[.pointer (some ⟨ga1q0,0,none⟩),.pointer (some ⟨ga1q1,0,none⟩)]),(5,iv v_i5),(6,iv v_j6),(25,.agg #[.string x1.Digest,iv x1.Size,iv x1.Used,iv x1.Until,iv x1.Pins])] (fun w hh=>⟨⟨ha1,(at?_some hx1).1,(at?_some hx1).2.1⟩,(hcc1 _ (hh.chin 0 rfl) 0 _ rfl),(hcc1 _ (hh.chin 0 rfl) 1 _ rfl),(hcc1 _ (hh.chin 0 rfl) 2 _ rfl),(hcc1 _ (hh.chin 0 rfl) 3 _ rfl),(hcc1 _ (hh.chin 0 rfl) 4 _ rfl)⟩) ?_
   refine RgH.does (DoesH.new (d:=7) (v:=fun g=>.pointer (some ⟨g,0,none⟩)) (o:=fun g=>.cells #[.string ByteArray.empty,iv 0,iv 0,iv 0,iv 0] 47 (0,0)) (fun g=>by kernel_rfl)) ?_
   rintro _ _ _ _ ⟨g1,rfl,rfl,rfl⟩
   refine RgH.does (DoesH.store (k:=0) (g:=g1) (off:=0) (v:=.agg #[.string x1.Digest,iv x1.Size,iv x1.Used,iv x1.Until,iv x1.Pins]) (cells':=#[.string x1.Digest,iv x1.Size,iv x1.Used,iv x1.Until,iv x1.Pins]) (by kernel_rfl) rfl (by kernel_rfl) (by kernel_rfl)) ?_
   rintro _ _ _ _ ⟨rfl,rfl,rfl⟩
   refine Dn<|Ra 1 [1,1,1,0,1,0,0,1,0,0,1,0] [.c [1,1,1,0,1,0,0,1,0,0,1,1],.b 1,.c [1,1,1,0,1,0,0,1,1],.l [1,1,1,0,1,0,0],.b 0,.c [1,1,1,1]]<|Rv 2 [0,1,5,6,7,26,27] [.string x1.Digest,iv x1.Size,iv x1.Used,iv x1.Until,iv x1.Pins] [.load ⟨g1,0,none⟩ (.string x1.Digest),.load ⟨g1,1,none⟩ (iv x1.Size),.load ⟨g1,2,none⟩ (iv x1.Used),.load ⟨g1,3,none⟩ (iv x1.Until),.load ⟨g1,4,none⟩ (iv x1.Pins)] [(0,.slice Av_s0 v_s0.length cv_s0),(1,.func (.func 73) #[] #[.pointer (some ⟨ga1q0,0,none⟩),.pointer (some ⟨ga1q1,0,none⟩)]),(5,iv v_i5),(6,iv v_j6),(7,pg g1 0),(26,.func (.func 73) #[] #[.pointer (some ⟨ga1q0,0,none⟩),.pointer (some ⟨ga1q1,0,none⟩)]),(27,.agg #[.string x1.Digest,iv x1.Size,iv x1.Used,iv x1.Until,iv x1.Pins])] (fun w hh=>⟨(hh.box 0 rfl rfl),(hh.box 0 rfl rfl),(hh.box 0 rfl rfl),(hh.box 0 rfl rfl),(hh.box 0 rfl rfl)⟩) ?_
   obtain ⟨y2,hy2,heq⟩:=bind_some heq
   refine RgH.does (DoesH.call (d:=28) (g:=73) (args:=#[.agg #[.string x1.Digest,iv x1.Size,iv x1.Used,iv x1.Until,iv x1.Pins],.pointer (some ⟨ga1q0,0,none⟩),.pointer (some ⟨ga1q1,0,none⟩)]) (by kernel_rfl) (cache_Swept_1_c (a0:=x1) (a1:=a1q0) (a2:=a1q1) (hga1q0.wk (fun _ h=>(.tail _ (.tail _ h)))) (hra1q1_0.wk (fun _ h=>(.tail _ (.tail _ h)))) (hga1q1.wk (fun _ h=>(.tail _ (.tail _ h)))) hy2)) ?_
   rintro _ _ _ _ ⟨_,rfl,rfl,rfl,rfl⟩
   refine Rd 4 [0,1,5,6,7,29] [(0,.slice Av_s0 v_s0.length cv_s0),(1,.func (.func 73) #[] #[.pointer (some ⟨ga1q0,0,none⟩),.pointer (some ⟨ga1q1,0,none⟩)]),(5,iv v_i5),(6,iv v_j6),(7,pg g1 0),(29,.bool (!y2))] ?_
   rcases bool_cases (!y2) with hb3 | hb3
   ·replace heq:=bif_true hb3 heq
    refine Ct (!y2) hb3<|Ra 1 [1,1,1,0,1,0,0,1,0,0,1,1,0,0] [.c [1,1,1,0,1,0,0,1,0,0,1,1,0,1],.b 1,.c [1,1,1,0,1,0,0,1,1],.l [1,1,1,0,1,0,0],.b 0,.c [1,1,1,1]] ?_
    obtain ⟨x2,hx2,heq⟩:=bind_some heq
    obtain ⟨ha2,cs2,hK2,hcc2⟩:=hov_s0.get hx2
    obtain ⟨rfl⟩:=kBlob_open hK2
    refine Rv 4 [0,1,5,6,32,33] [.string x1.Digest,iv x1.Size,iv x1.Used,iv x1.Until,iv x1.Pins] [.load ⟨g1,0,none⟩ (.string x1.Digest),.load ⟨g1,1,none⟩ (iv x1.Size),.load ⟨g1,2,none⟩ (iv x1.Used),.load ⟨g1,3,none⟩ (iv x1.Until),.load ⟨g1,4,none⟩ (iv x1.Pins),.need (Av_s0=some (adr Av_s0)∧(0:Int)≤v_i5∧v_i5<((v_s0.length:Nat):Int))] [(0,.slice Av_s0 v_s0.length cv_s0),(1,.func (.func 73) #[] #[.pointer (some ⟨ga1q0,0,none⟩),.pointer (some ⟨ga1q1,0,none⟩)]),(5,iv v_i5),(6,iv v_j6),(32,.agg #[.string x1.Digest,iv x1.Size,iv x1.Used,iv x1.Until,iv x1.Pins]),(33,.pointer (some ((adr Av_s0).add (v_i5.toNat*5))))] (fun w hh=>⟨(hh.box 0 rfl rfl),(hh.box 0 rfl rfl),(hh.box 0 rfl rfl),(hh.box 0 rfl rfl),(hh.box 0 rfl rfl),⟨ha2,(at?_some hx2).1,(at?_some hx2).2.1⟩⟩) ?_
    obtain ⟨ha3,cs3,hK3,hcc3⟩:=hov_s0.get hx2
    obtain ⟨rfl⟩:=kBlob_open hK3
    refine RgH.does (DoesH.storeEl (a:=((adr Av_s0).add (v_i5.toNat*5))) (k:=1) (kd:=kBlob) (c0:=[.string x2.Digest,iv x2.Size,iv x2.Used,iv x2.Until,iv x2.Pins]) (x':=x1) (o:=0) (ix:=v_i5) (v:=.agg #[.string x1.Digest,iv x1.Size,iv x1.Used,iv x1.Until,iv x1.Pins]) (by kernel_rfl) rfl hov_s0 hx2 (by kernel_rfl) hcc3 rfl (Nat.le_of_ble_eq_true (by kernel_rfl)) kBlob_mk) ?_
    rintro _ _ _ _ ⟨ch2,rfl,rfl,rfl,ho4⟩
    have hn6:v_s0.length=(v_s0.set v_i5.toNat x1).length:=by rw [List.length_set]
    refine Dn<|Rr<|Rd 3 [0,1,5,6] [(0,.slice Av_s0 v_s0.length cv_s0),(1,.func (.func 73) #[] #[.pointer (some ⟨ga1q0,0,none⟩),.pointer (some ⟨ga1q1,0,none⟩)]),(5,iv (w64 (v_i5+1))),(6,iv v_j6)]<|Ad 1 [.c [1,1,1,0,1,0,0,1,1],.l [1,1,1,0,1,0,0],.b 0,.c [1,1,1,1]]<|Kp [0,1,5,6] [(0,.slice Av_s0 v_s0.length cv_s0),(1,.func (.func 73) #[] #[.pointer (some ⟨ga1q0,0,none⟩),.pointer (some ⟨ga1q1,0,none⟩)]),(5,iv (w64 (v_i5+1))),(6,iv v_j6)] ?_
    refine RunH.pick 2 [1] (cs':=ch2::F) (by kernel_rfl) rfl ?_
    exact (slices_DeleteFunc_Blob.j3_c (backl2:=(slices_DeleteFunc_Blob.l2 e1 k)) ihk) _ a1q0 _ a1q1 _ v_j6 (v_s0.set v_i5.toNat x1) _ _ _ _ (w64 (v_i5+1)) hga1q0 hra1q1_0 hga1q1 ho4 hn6 heq
   ·replace heq:=bif_false hb3 heq
    refine Cf (!y2) hb3<|Ad 2 [.c [1,1,1,0,1,0,0,1,1],.l [1,1,1,0,1,0,0],.b 0,.c [1,1,1,1]]<|Kp [0,1,5,6] [(0,.slice Av_s0 v_s0.length cv_s0),(1,.func (.func 73) #[] #[.pointer (some ⟨ga1q0,0,none⟩),.pointer (some ⟨ga1q1,0,none⟩)]),(5,iv v_i5),(6,iv v_j6)] ?_
    refine RunH.pick 2 [1] (cs':=chv_s0::F) (by kernel_rfl) rfl ?_
    exact (slices_DeleteFunc_Blob.j3_c (backl2:=(slices_DeleteFunc_Blob.l2 e1 k)) ihk) _ a1q0 _ a1q1 _ v_j6 v_s0 _ _ _ _ v_i5 hga1q0 hra1q1_0 hga1q1 hov_s0 rfl heq
  ·replace heq:=bif_false hb2 heq
   refine Cf (decide (v_j6<(v_s0.length:Int))) hb2<|Ad 2 [.c [1,1,1,1,0],.c [1,1,1,1,1]]<|Kp [0,5] [(0,.slice Av_s0 v_s0.length cv_s0),(5,iv v_i5)] ?_
   exact he1 v_s0 _ _ _ _ v_i5 hov_s0 rfl heq
theorem slices_DeleteFunc_Blob_c {w0:World} {H:Hp} {F:List Ch} {a0:List Blob} {Aa0:Option Addr} {na0:Nat} {ca0:Nat} {cha0:Ch} {ga1q0:Nat} {a1q0:Int} {ga1q1:Nat} {a1q1:List (ByteArray × Bool)} {Aa1q1_0:Option Nat} {r:(List Blob)} (hoa0:SlOwn kBlob 47 H Aa0 ca0 a0 cha0) (hna0:na0=a0.length) (hga1q0:InG H F ga1q0 (.cells #[iv a1q0] 3 (0,0))) (hra1q1_0:Mw Value.string Kd.bool false H F Aa1q1_0 a1q1) (hga1q1:InG H F ga1q1 (.cells #[.map Aa1q1_0] 101 (0,0))) (heq:slices_DeleteFunc_Blob.f a0 a1q0 a1q1=some r):CallsH Tryd.prog 72 #[.slice Aa0 na0 ca0,.func (.func 73) #[] #[.pointer (some ⟨ga1q0,0,none⟩),.pointer (some ⟨ga1q1,0,none⟩)]] H w0 (cha0::F) (S72 F H r):=by
 refine calls_of_runH (F:=C72) Tryd.func72 (by kernel_rfl) Tryd.ntmps72 (args:=[.slice Aa0 na0 ca0,.func (.func 73) #[] #[.pointer (some ⟨ga1q0,0,none⟩),.pointer (some ⟨ga1q1,0,none⟩)]]) (by kernel_rfl) ?_
 subst hna0
 unfold slices_DeleteFunc_Blob.f at heq
 refine Ra 1 [0] [.c [1]]<|Rd 1 [0,1] [(0,.slice Aa0 a0.length ca0),(1,.func (.func 73) #[] #[.pointer (some ⟨ga1q0,0,none⟩),.pointer (some ⟨ga1q1,0,none⟩)])]<|Ra 1 [1,0] [.c [1,1]]<|Rk 2 [0,1,8,9] [(0,.slice Aa0 a0.length ca0),(1,.func (.func 73) #[] #[.pointer (some ⟨ga1q0,0,none⟩),.pointer (some ⟨ga1q1,0,none⟩)]),(8,.slice Aa0 a0.length ca0),(9,.func (.func 73) #[] #[.pointer (some ⟨ga1q0,0,none⟩),.pointer (some ⟨ga1q1,0,none⟩)])] ?_
 obtain ⟨y1,hy1,heq⟩:=bind_some heq
 refine RgH.does (DoesH.call (d:=10) (g:=109) (args:=#[.slice Aa0 a0.length ca0,.func (.func 73) #[] #[.pointer (some ⟨ga1q0,0,none⟩),.pointer (some ⟨ga1q1,0,none⟩)]]) (by kernel_rfl) (slices_IndexFunc_Blob_c (a0:=a0) (a1q0:=a1q0) (a1q1:=a1q1) (hoa0.rw (.head _)) hoa0.cap rfl (hga1q0.wk (fun _ h=>(.tail _ h))) (hra1q1_0.wk (fun _ h=>(.tail _ h))) (hga1q1.wk (fun _ h=>(.tail _ h))) hy1)) ?_
 rintro _ _ _ _ ⟨_,rfl,rfl,rfl,rfl⟩
 refine Rd 4 [0,1,5] [(0,.slice Aa0 a0.length ca0),(1,.func (.func 73) #[] #[.pointer (some ⟨ga1q0,0,none⟩),.pointer (some ⟨ga1q1,0,none⟩)]),(5,iv y1)]<|Ra 2 [1,1,0,0] [.c [1,1,0,1],.c [1,1,1]]<|Rd 2 [0,1,5,12] [(0,.slice Aa0 a0.length ca0),(1,.func (.func 73) #[] #[.pointer (some ⟨ga1q0,0,none⟩),.pointer (some ⟨ga1q1,0,none⟩)]),(5,iv y1),(12,.bool (y1 == (-1)))] ?_
 rcases bool_cases (y1 == (-1)) with hb1 | hb1
 ·replace heq:=bif_true hb1 heq
  refine Ct (y1 == (-1)) hb1<|Ra 1 [1,1,0,1,0,0] [.c [1,1,0,1,0,1],.c [1,1,1]]<|Rd 2 [4] [(4,.slice Aa0 a0.length ca0)] ?_
  obtain rfl:=Option.some.inj heq
  exact RunH.done (by kernel_rfl) Tryd.func72 (v:=.slice Aa0 a0.length ca0) (by kernel_rfl) ⟨Aa0,ca0,cha0,rfl,rfl,rfl,hoa0⟩
 ·replace heq:=bif_false hb1 heq
  refine Cf (y1 == (-1)) hb1<|Ra 3 [1,1,1,0,0] [.c [1,1,1,0,1],.c [1,1,1,1]]<|Rd 3 [0,1,5,6] [(0,.slice Aa0 a0.length ca0),(1,.func (.func 73) #[] #[.pointer (some ⟨ga1q0,0,none⟩),.pointer (some ⟨ga1q1,0,none⟩)]),(5,iv y1),(6,iv (w64 (y1+1)))]<|Ad 2 [.c [1,1,1,0,1,0,0],.l [1,1,1,0,1,0,0],.b 0,.c [1,1,1,1]]<|Kp [0,1,5,6] [(0,.slice Aa0 a0.length ca0),(1,.func (.func 73) #[] #[.pointer (some ⟨ga1q0,0,none⟩),.pointer (some ⟨ga1q1,0,none⟩)]),(5,iv y1),(6,iv (w64 (y1+1)))] ?_
  exact ((slices_DeleteFunc_Blob.l2_c (e1:=slices_DeleteFunc_Blob.e1) (slices_DeleteFunc_Blob.e1_c)) big) _ a1q0 _ a1q1 _ a0 _ _ _ _ y1 (w64 (y1+1)) hga1q0 hra1q1_0 hga1q1 hoa0 rfl heq
noncomputable def C71:Ctx:={ P:=Tryd.prog,f:=71,N:=19,c:=bodyOf Tryd.f71 }
def S71 (F:List Ch) (H0:Hp) (r:(List ByteArray)) (v:Value) (H:Hp) (cs:List Ch):Prop:=∃ (A0:Option Addr) (c0:Nat) (ch0:Ch),H0=H∧v=.slice A0 r.length c0∧ch0::F=cs∧SlOwn Kd.string 9 H A0 c0 r ch0
theorem cache_digestsOf.e1_c {w0:World} {H:Hp} {F:List Ch} {r:(List ByteArray)}:∀ (v_out3:List ByteArray) (Av_out3:Option Addr) (nv_out3:Nat) (cv_out3:Nat) (chv_out3:Ch) ,SlOwn Kd.string 9 H Av_out3 cv_out3 v_out3 chv_out3→nv_out3=v_out3.length→cache_digestsOf.e1 v_out3=some r→RunH C71 (S71 F H r) H w0 [.c [1,1,1,0],.c [1,1,1,1]] [(3,.slice Av_out3 nv_out3 cv_out3)] H (chv_out3::F):=by
 intro v_out3 Av_out3 nv_out3 cv_out3 chv_out3 hov_out3 hnv_out3 heq
 subst hnv_out3
 unfold cache_digestsOf.e1 at heq
 refine Rr<|Rd 2 [2] [(2,.slice Av_out3 v_out3.length cv_out3)] ?_
 obtain rfl:=Option.some.inj heq
 exact RunH.done (by kernel_rfl) Tryd.func71 (v:=.slice Av_out3 v_out3.length cv_out3) (by kernel_rfl) ⟨Av_out3,cv_out3,chv_out3,rfl,rfl,rfl,hov_out3⟩
theorem cache_digestsOf.l2_c {w0:World} {H:Hp} {F:List Ch} {r:(List ByteArray)} (e1:(List ByteArray)→Option (List ByteArray))
  (he1:∀ (v_out3:List ByteArray) (Av_out3:Option Addr) (nv_out3:Nat) (cv_out3:Nat) (chv_out3:Ch) ,SlOwn Kd.string 9 H Av_out3 cv_out3 v_out3 chv_out3→nv_out3=v_out3.length→e1 v_out3=some r→RunH C71 (S71 F H r) H w0 [.c [1,1,1,0],.c [1,1,1,1]] [(3,.slice Av_out3 nv_out3 cv_out3)] H (chv_out3::F)):∀ (k:Nat),∀ (a0:List Blob) (Aa0:Option Addr) (ca0:Nat) (v_out3:List ByteArray) (Av_out3:Option Addr) (nv_out3:Nat) (cv_out3:Nat) (chv_out3:Ch) (v8:Int) ,Rw kBlob H F Aa0 a0→a0.length≤ca0→SlOwn Kd.string 9 H Av_out3 cv_out3 v_out3 chv_out3→nv_out3=v_out3.length→cache_digestsOf.l2 e1 k a0 v_out3 v8=some r→RunH C71 (S71 F H r) H w0 [.c [1,1,0,1,0,0],.l [1,1,0,1,0,0],.b 0,.c [1,1,1]] [(3,.slice Av_out3 nv_out3 cv_out3),(6,.slice Aa0 a0.length ca0),(7,iv (a0.length:Int)),(8,iv v8)] H (chv_out3::F):=by
 intro k
 induction k with
 | zero=>intro a0 Aa0 ca0 v_out3 Av_out3 nv_out3 cv_out3 chv_out3 v8 hra0 hca0 hov_out3 hnv_out3 heq; exact nomatch (show (none:Option (List ByteArray))=some r from heq)
 | succ k ihk =>
  intro a0 Aa0 ca0 v_out3 Av_out3 nv_out3 cv_out3 chv_out3 v8 hra0 hca0 hov_out3 hnv_out3 heq
  subst hnv_out3
  rw [cache_digestsOf.l2] at heq
  refine Ra 1 [1,1,0,1,0,0,0] [.c [1,1,0,1,0,0,1],.l [1,1,0,1,0,0],.b 0,.c [1,1,1]]<|Rd 1 [3,6,7,8,9] [(3,.slice Av_out3 v_out3.length cv_out3),(6,.slice Aa0 a0.length ca0),(7,iv (a0.length:Int)),(8,iv v8),(9,.bool (decide (v8<(a0.length:Int))))]<|Ad 1 [.c [1,1,0,1,0,0,1,0],.c [1,1,0,1,0,0,1,1],.l [1,1,0,1,0,0],.b 0,.c [1,1,1]] ?_
  rcases bool_cases (decide (v8<(a0.length:Int))) with hb1 | hb1
  ·replace heq:=bif_true hb1 heq
   refine Ct (decide (v8<(a0.length:Int))) hb1<|Ra 4 [1,1,0,1,0,0,1,1,0,0,0] [.c [1,1,0,1,0,0,1,1,0,0,1],.b 1,.c [1,1,0,1,0,0,1,1,1],.l [1,1,0,1,0,0],.b 0,.c [1,1,1]] ?_
   obtain ⟨x1,hx1,heq⟩:=bind_some heq
   obtain ⟨ha1,cs1,hK1,hcc1⟩:=hra0.get hx1
   obtain ⟨rfl⟩:=kBlob_open hK1
   refine Rv 2 [3,6,7,8,11] [.string x1.Digest,iv x1.Size,iv x1.Used,iv x1.Until,iv x1.Pins] [.need (Aa0=some (adr Aa0)∧(0:Int)≤v8∧v8<((a0.length:Nat):Int)),.load (((adr Aa0).add (v8.toNat*5)).add 0) (.string x1.Digest),.load (((adr Aa0).add (v8.toNat*5)).add 1) (iv x1.Size),.load (((adr Aa0).add (v8.toNat*5)).add 2) (iv x1.Used),.load (((adr Aa0).add (v8.toNat*5)).add 3) (iv x1.Until),.load (((adr Aa0).add (v8.toNat*5)).add 4) (iv x1.Pins)] [(3,.slice Av_out3 v_out3.length cv_out3),(6,.slice Aa0 a0.length ca0),(7,iv (a0.length:Int)),(8,iv v8),(11,.agg #[.string x1.Digest,iv x1.Size,iv x1.Used,iv x1.Until,iv x1.Pins])] (fun w hh=>⟨⟨ha1,(at?_some hx1).1,(at?_some hx1).2.1⟩,(hcc1 _ _ (hh.drop 1) 0 _ rfl),(hcc1 _ _ (hh.drop 1) 1 _ rfl),(hcc1 _ _ (hh.drop 1) 2 _ rfl),(hcc1 _ _ (hh.drop 1) 3 _ rfl),(hcc1 _ _ (hh.drop 1) 4 _ rfl)⟩) ?_
   refine RgH.does (DoesH.new (d:=5) (v:=fun g=>.pointer (some ⟨g,0,none⟩)) (o:=fun g=>.cells #[.string ByteArray.empty,iv 0,iv 0,iv 0,iv 0] 47 (0,0)) (fun g=>by kernel_rfl)) ?_
   rintro _ _ _ _ ⟨g1,rfl,rfl,rfl⟩
   refine RgH.does (DoesH.store (k:=0) (g:=g1) (off:=0) (v:=.agg #[.string x1.Digest,iv x1.Size,iv x1.Used,iv x1.Until,iv x1.Pins]) (cells':=#[.string x1.Digest,iv x1.Size,iv x1.Used,iv x1.Until,iv x1.Pins]) (by kernel_rfl) rfl (by kernel_rfl) (by kernel_rfl)) ?_
   rintro _ _ _ _ ⟨rfl,rfl,rfl⟩
   refine Dn<|Rr<|Rv 3 [6,7,8,12,14] [.string x1.Digest] [.load ⟨g1,0,none⟩ (.string x1.Digest)] [(6,.slice Aa0 a0.length ca0),(7,iv (a0.length:Int)),(8,iv v8),(12,.slice Av_out3 v_out3.length cv_out3),(14,.string x1.Digest)] (fun w hh=>(hh.box 0 rfl rfl)) ?_
   refine RgH.does (DoesH.new (d:=15) (v:=fun g=>.slice (some ⟨g,0,none⟩) 1 1) (o:=fun g=>.cells #[.string x1.Digest] 9 (0,0)) (fun g=>by kernel_rfl)) ?_
   rintro _ _ _ _ ⟨g2,rfl,rfl,rfl⟩
   have ho1:SlOwn Kd.string 9 H (some ⟨g2,0,none⟩) 1 ([x1.Digest]:List ByteArray) (some (g2,.cells #[.string x1.Digest] 9 (0,0))):=SlOwn.lit (xs:=([x1.Digest]:List ByteArray)) (by kernel_rfl) (Nat.le_of_ble_eq_true (by kernel_rfl)) (Kd.Rep.scalars rfl)
   obtain ⟨hn1,heq⟩:=guard?_some heq
   refine RgH.does (DoesH.append (d:=16) (k:=2) (t:=34) (e:=9) (bytes:=16) (kd:=Kd.string) (n:=v_out3.length) (m:=1) (xs:=v_out3) (ys:=([x1.Digest]:List ByteArray)) (A:=Av_out3) (B:=(some ⟨g2,0,none⟩)) (c:=cv_out3) (cB:=1) (by kernel_rfl) rfl rfl (by kernel_rfl) rfl hov_out3 (fun w hh=>ho1.rdb (hh.chin 0 rfl)) (room_le hn1) (by have:=room_le hn1; omega)) ?_
   rintro _ _ _ _ ⟨A1,c1,ch1,rfl,rfl,rfl,ho2⟩
   refine Rd 6 [3,6,7,8] [(3,.slice A1 ((v_out3++([x1.Digest]:List ByteArray)).length) c1),(6,.slice Aa0 a0.length ca0),(7,iv (a0.length:Int)),(8,iv v8)]<|Ra 1 [1,1,0,1,0,0,1,1,1] [.l [1,1,0,1,0,0],.b 0,.c [1,1,1]]<|Rd 2 [3,6,7,8] [(3,.slice A1 ((v_out3++([x1.Digest]:List ByteArray)).length) c1),(6,.slice Aa0 a0.length ca0),(7,iv (a0.length:Int)),(8,iv (w64 (v8+1)))]<|Ad 1 [.c [1,1,0,1,0,0],.l [1,1,0,1,0,0],.b 0,.c [1,1,1]]<|Kp [3,6,7,8] [(3,.slice A1 ((v_out3++([x1.Digest]:List ByteArray)).length) c1),(6,.slice Aa0 a0.length ca0),(7,iv (a0.length:Int)),(8,iv (w64 (v8+1)))] ?_
   refine RunH.pick 3 [2] (cs':=ch1::F) (by kernel_rfl) rfl ?_
   exact ihk a0 _ _ (v_out3++([x1.Digest]:List ByteArray)) _ _ _ _ (w64 (v8+1)) hra0 hca0 ho2 rfl heq
  ·replace heq:=bif_false hb1 heq
   refine Cf (decide (v8<(a0.length:Int))) hb1<|Ad 2 [.c [1,1,1,0],.c [1,1,1,1]]<|Kp [3] [(3,.slice Av_out3 v_out3.length cv_out3)] ?_
   exact he1 v_out3 _ _ _ _ hov_out3 rfl heq
theorem cache_digestsOf_c {w0:World} {H:Hp} {F:List Ch} {a0:List Blob} {Aa0:Option Addr} {na0:Nat} {ca0:Nat} {r:(List ByteArray)} (hra0:Rw kBlob H F Aa0 a0) (hca0:na0≤ca0) (hna0:na0=a0.length) (heq:cache_digestsOf.f a0=some r):CallsH Tryd.prog 71 #[.slice Aa0 na0 ca0] H w0 (F) (S71 F H r):=by
 refine calls_of_runH (F:=C71) Tryd.func71 (by kernel_rfl) Tryd.ntmps71 (args:=[.slice Aa0 na0 ca0]) (by kernel_rfl) ?_
 subst hna0
 unfold cache_digestsOf.f at heq
 refine Ra 1 [0] [.c [1]]<|Rd 1 [0] [(0,.slice Aa0 a0.length ca0)]<|Ra 1 [1,0] [.c [1,1]]<|Rd 1 [0,3] [(0,.slice Aa0 a0.length ca0),(3,.slice none 0 0)]<|Ra 2 [1,1,0,0] [.c [1,1,0,1],.c [1,1,1]]<|Rd 3 [3,6,7,8] [(3,.slice none 0 0),(6,.slice Aa0 a0.length ca0),(7,iv (a0.length:Int)),(8,iv 0)]<|Ad 2 [.c [1,1,0,1,0,0],.l [1,1,0,1,0,0],.b 0,.c [1,1,1]]<|RunH.nilc ?_
 have ho3:SlOwn Kd.string 9 H none 0 ([]:List ByteArray) none:=SlOwn.nil
 refine Kp [3,6,7,8] [(3,.slice none 0 0),(6,.slice Aa0 a0.length ca0),(7,iv (a0.length:Int)),(8,iv 0)] ?_
 exact ((cache_digestsOf.l2_c (e1:=cache_digestsOf.e1) (cache_digestsOf.e1_c)) big) a0 _ _ ([]:List ByteArray) _ _ _ _ 0 hra0 hca0 ho3 rfl heq
noncomputable def C110:Ctx:={ P:=Tryd.prog,f:=110,N:=8,c:=bodyOf Tryd.f110 }
def S110 (F:List Ch) (H0:Hp) (r:Bool) (v:Value) (H:Hp) (cs:List Ch):Prop:=H0=H∧v=.bool r∧F=cs
theorem cache_drop_1_c {w0:World} {H:Hp} {F:List Ch} {a0:Blob} {ga1:Nat} {a1:List (ByteArray × Bool)} {Aa1_0:Option Nat} {r:Bool} (hra1_0:Mw Value.string Kd.bool false H F Aa1_0 a1) (hga1:InG H F ga1 (.cells #[.map Aa1_0] 101 (0,0))) (heq:cache_drop_1.f a0 a1=some r):CallsH Tryd.prog 110 #[.agg #[.string a0.Digest,iv a0.Size,iv a0.Used,iv a0.Until,iv a0.Pins],.pointer (some ⟨ga1,0,none⟩)] H w0 (F) (S110 F H r):=by
 refine calls_of_runH (F:=C110) Tryd.func110 (by kernel_rfl) Tryd.ntmps110 (args:=[.agg #[.string a0.Digest,iv a0.Size,iv a0.Used,iv a0.Until,iv a0.Pins],.pointer (some ⟨ga1,0,none⟩)]) (by kernel_rfl) ?_
 unfold cache_drop_1.f at heq
 refine Ra 1 [0] [.c [1]] ?_
 refine RgH.does (DoesH.new (d:=2) (v:=fun g=>.pointer (some ⟨g,0,none⟩)) (o:=fun g=>.cells #[.string a0.Digest,iv a0.Size,iv a0.Used,iv a0.Until,iv a0.Pins] 47 (0,0)) (fun g=>by kernel_rfl)) ?_
 rintro _ _ _ _ ⟨g1,rfl,rfl,rfl⟩
 refine Rd 2 [1,2] [(1,pg ga1 0),(2,pg g1 0)]<|Ra 1 [1,0] [.c [1,1]]<|Rv 3 [4,6] [.map Aa1_0,.string a0.Digest] [.load ⟨ga1,0,none⟩ (.map Aa1_0),.load ⟨g1,0,none⟩ (.string a0.Digest)] [(4,.map Aa1_0),(6,.string a0.Digest)] (fun w hh=>⟨(hga1.cell (hh.drop 1) rfl),(hh.box 0 rfl rfl)⟩) ?_
 refine RgH.does (DoesH.lookup (d:=7) (t:=101) (m:=a1) (k:=a0.Digest) (z:=.bool false) (zc:=[.bool false]) (z0:=false) (ok:=false) (kd:=Kd.bool) (ag:=false) (by kernel_rfl) (KyAt.string Tryd.underlying9) rfl rfl (fun w hh=>hra1_0.on (hh.drop 1))) ?_
 rintro _ _ _ _ ⟨cc1,rfl,rfl,rfl,hcc1⟩
 obtain rfl:cc1=[.bool (mgetD a1 a0.Digest false)]:=hcc1
 refine RgH.val1 (v':=.bool (mgetD a1 a0.Digest false)) rfl ?_
 refine Rd 5 [3] [(3,.bool (mgetD a1 a0.Digest false))] ?_
 obtain rfl:=Option.some.inj heq
 refine RunH.pick 1 [] (cs':=F) (by kernel_rfl) rfl ?_
 exact RunH.done (by kernel_rfl) Tryd.func110 (v:=.bool (mgetD a1 a0.Digest false)) (by kernel_rfl) ⟨rfl,rfl,rfl⟩
noncomputable def C109v2:Ctx:={ P:=Tryd.prog,f:=109,N:=19,c:=bodyOf Tryd.f109 }
def S109v2 (F:List Ch) (H0:Hp) (r:Int) (v:Value) (H:Hp) (cs:List Ch):Prop:=H0=H∧v=iv r∧F=cs
theorem slices_IndexFunc_Blob_2.e1_c {w0:World} {H:Hp} {F:List Ch} {r:Int}:slices_IndexFunc_Blob_2.e1=some r→RunH C109v2 (S109v2 F H r) H w0 [.c [1,1,0],.c [1,1,1]] [] H (F):=by
 intro   heq
 unfold slices_IndexFunc_Blob_2.e1 at heq
 refine Rr<|Rd 1 [4] [(4,iv (-1))] ?_
 obtain rfl:=Option.some.inj heq
 exact RunH.done (by kernel_rfl) Tryd.func109 (v:=iv (-1)) (by kernel_rfl) ⟨rfl,rfl,rfl⟩
theorem slices_IndexFunc_Blob_2.l2_c {w0:World} {H:Hp} {F:List Ch} {r:Int} (e1:Option Int)
  (he1:e1=some r→RunH C109v2 (S109v2 F H r) H w0 [.c [1,1,0],.c [1,1,1]] [] H (F)):∀ (k:Nat),∀ (a0:List Blob) (Aa0:Option Addr) (ca0:Nat) (ga1q0:Nat) (a1q0:List (ByteArray × Bool)) (Aa1q0_0:Option Nat) (v8:Int) ,Rw kBlob H F Aa0 a0→a0.length≤ca0→Mw Value.string Kd.bool false H F Aa1q0_0 a1q0→InG H F ga1q0 (.cells #[.map Aa1q0_0] 101 (0,0))→slices_IndexFunc_Blob_2.l2 e1 k a0 a1q0 v8=some r→RunH C109v2 (S109v2 F H r) H w0 [.c [1,0,1,0,0],.l [1,0,1,0,0],.b 0,.c [1,1]] [(0,.slice Aa0 a0.length ca0),(1,.func (.func 110) #[] #[.pointer (some ⟨ga1q0,0,none⟩)]),(7,iv (a0.length:Int)),(8,iv v8)] H (F):=by
 intro k
 induction k with
 | zero=>intro a0 Aa0 ca0 ga1q0 a1q0 Aa1q0_0 v8 hra0 hca0 hra1q0_0 hga1q0 heq; exact nomatch (show (none:Option Int)=some r from heq)
 | succ k ihk =>
  intro a0 Aa0 ca0 ga1q0 a1q0 Aa1q0_0 v8 hra0 hca0 hra1q0_0 hga1q0 heq
  rw [slices_IndexFunc_Blob_2.l2] at heq
  refine Ra 1 [1,0,1,0,0,0] [.c [1,0,1,0,0,1],.l [1,0,1,0,0],.b 0,.c [1,1]]<|Rd 1 [0,1,7,8,9] [(0,.slice Aa0 a0.length ca0),(1,.func (.func 110) #[] #[.pointer (some ⟨ga1q0,0,none⟩)]),(7,iv (a0.length:Int)),(8,iv v8),(9,.bool (decide (v8<(a0.length:Int))))]<|Ad 1 [.c [1,0,1,0,0,1,0],.c [1,0,1,0,0,1,1],.l [1,0,1,0,0],.b 0,.c [1,1]] ?_
  rcases bool_cases (decide (v8<(a0.length:Int))) with hb1 | hb1
  ·replace heq:=bif_true hb1 heq
   refine Ct (decide (v8<(a0.length:Int))) hb1<|Ra 4 [1,0,1,0,0,1,1,0,0,0] [.c [1,0,1,0,0,1,1,0,0,1],.b 1,.c [1,0,1,0,0,1,1,1],.l [1,0,1,0,0],.b 0,.c [1,1]]<|Rd 2 [0,1,5,7,8] [(0,.slice Aa0 a0.length ca0),(1,.func (.func 110) #[] #[.pointer (some ⟨ga1q0,0,none⟩)]),(5,iv v8),(7,iv (a0.length:Int)),(8,iv v8)]<|Ra 1 [1,0,1,0,0,1,1,0,0,1,0] [.c [1,0,1,0,0,1,1,0,0,1,1],.b 1,.c [1,0,1,0,0,1,1,1],.l [1,0,1,0,0],.b 0,.c [1,1]] ?_
   obtain ⟨x1,hx1,heq⟩:=bind_some heq
   obtain ⟨ha1,cs1,hK1,hcc1⟩:=hra0.get hx1
   obtain ⟨rfl⟩:=kBlob_open hK1
   refine Rv 5 [0,1,5,7,8,11,15] [.string x1.Digest,iv x1.Size,iv x1.Used,iv x1.Until,iv x1.Pins] [.need (Aa0=some (adr Aa0)∧(0:Int)≤v8∧v8<((a0.length:Nat):Int)),.load (((adr Aa0).add (v8.toNat*5)).add 0) (.string x1.Digest),.load (((adr Aa0).add (v8.toNat*5)).add 1) (iv x1.Size),.load (((adr Aa0).add (v8.toNat*5)).add 2) (iv x1.Used),.load (((adr Aa0).add (v8.toNat*5)).add 3) (iv x1.Until),.load (((adr Aa0).add (v8.toNat*5)).add 4) (iv x1.Pins)] [(0,.slice Aa0 a0.length ca0),(1,.func (.func 110) #[] #[.pointer (some ⟨ga1q0,0,none⟩)]),(5,iv v8),(7,iv (a0.length:Int)),(8,iv v8),(11,.func (.func 110) #[] #[.pointer (some ⟨ga1q0,0,none⟩)]),(15,.agg #[.string x1.Digest,iv x1.Size,iv x1.Used,iv x1.Until,iv x1.Pins])] (fun w hh=>⟨⟨ha1,(at?_some hx1).1,(at?_some hx1).2.1⟩,(hcc1 _ _ (hh.drop 0) 0 _ rfl),(hcc1 _ _ (hh.drop 0) 1 _ rfl),(hcc1 _ _ (hh.drop 0) 2 _ rfl),(hcc1 _ _ (hh.drop 0) 3 _ rfl),(hcc1 _ _ (hh.drop 0) 4 _ rfl)⟩) ?_
   obtain ⟨y1,hy1,heq⟩:=bind_some heq
   refine RgH.does (DoesH.call (d:=16) (g:=110) (args:=#[.agg #[.string x1.Digest,iv x1.Size,iv x1.Used,iv x1.Until,iv x1.Pins],.pointer (some ⟨ga1q0,0,none⟩)]) (by kernel_rfl) (cache_drop_1_c (a0:=x1) (a1:=a1q0) hra1q0_0 hga1q0 hy1)) ?_
   rintro _ _ _ _ ⟨_,rfl,rfl,rfl,rfl⟩
   refine Dn ?_
   rcases bool_cases (y1) with hb2 | hb2
   ·replace heq:=bif_true hb2 heq
    refine Ct y1 hb2<|Ra 1 [1,0,1,0,0,1,1,0,0,1,1,0,0] [.c [1,0,1,0,0,1,1,0,0,1,1,0,1],.b 1,.c [1,0,1,0,0,1,1,1],.l [1,0,1,0,0],.b 0,.c [1,1]]<|Rd 2 [4] [(4,iv v8)] ?_
    obtain rfl:=Option.some.inj heq
    exact RunH.done (by kernel_rfl) Tryd.func109 (v:=iv v8) (by kernel_rfl) ⟨rfl,rfl,rfl⟩
   ·replace heq:=bif_false hb2 heq
    refine Cf y1 hb2<|Ra 2 [1,0,1,0,0,1,1,1] [.l [1,0,1,0,0],.b 0,.c [1,1]]<|Rd 2 [0,1,7,8] [(0,.slice Aa0 a0.length ca0),(1,.func (.func 110) #[] #[.pointer (some ⟨ga1q0,0,none⟩)]),(7,iv (a0.length:Int)),(8,iv (w64 (v8+1)))]<|Ad 1 [.c [1,0,1,0,0],.l [1,0,1,0,0],.b 0,.c [1,1]]<|Kp [0,1,7,8] [(0,.slice Aa0 a0.length ca0),(1,.func (.func 110) #[] #[.pointer (some ⟨ga1q0,0,none⟩)]),(7,iv (a0.length:Int)),(8,iv (w64 (v8+1)))] ?_
    exact ihk a0 _ _ _ a1q0 _ (w64 (v8+1)) hra0 hca0 hra1q0_0 hga1q0 heq
  ·replace heq:=bif_false hb1 heq
   refine Cf (decide (v8<(a0.length:Int))) hb1<|Ad 2 [.c [1,1,0],.c [1,1,1]]<|Kp [] [] ?_
   exact he1 heq
theorem slices_IndexFunc_Blob_2_c {w0:World} {H:Hp} {F:List Ch} {a0:List Blob} {Aa0:Option Addr} {na0:Nat} {ca0:Nat} {ga1q0:Nat} {a1q0:List (ByteArray × Bool)} {Aa1q0_0:Option Nat} {r:Int} (hra0:Rw kBlob H F Aa0 a0) (hca0:na0≤ca0) (hna0:na0=a0.length) (hra1q0_0:Mw Value.string Kd.bool false H F Aa1q0_0 a1q0) (hga1q0:InG H F ga1q0 (.cells #[.map Aa1q0_0] 101 (0,0))) (heq:slices_IndexFunc_Blob_2.f a0 a1q0=some r):CallsH Tryd.prog 109 #[.slice Aa0 na0 ca0,.func (.func 110) #[] #[.pointer (some ⟨ga1q0,0,none⟩)]] H w0 (F) (S109v2 F H r):=by
 refine calls_of_runH (F:=C109v2) Tryd.func109 (by kernel_rfl) Tryd.ntmps109 (args:=[.slice Aa0 na0 ca0,.func (.func 110) #[] #[.pointer (some ⟨ga1q0,0,none⟩)]]) (by kernel_rfl) ?_
 subst hna0
 unfold slices_IndexFunc_Blob_2.f at heq
 refine Ra 1 [0] [.c [1]]<|Rd 1 [0,1] [(0,.slice Aa0 a0.length ca0),(1,.func (.func 110) #[] #[.pointer (some ⟨ga1q0,0,none⟩)])]<|Ra 2 [1,0,0] [.c [1,0,1],.c [1,1]]<|Rd 3 [0,1,7,8] [(0,.slice Aa0 a0.length ca0),(1,.func (.func 110) #[] #[.pointer (some ⟨ga1q0,0,none⟩)]),(7,iv (a0.length:Int)),(8,iv 0)]<|Ad 2 [.c [1,0,1,0,0],.l [1,0,1,0,0],.b 0,.c [1,1]]<|Kp [0,1,7,8] [(0,.slice Aa0 a0.length ca0),(1,.func (.func 110) #[] #[.pointer (some ⟨ga1q0,0,none⟩)]),(7,iv (a0.length:Int)),(8,iv 0)] ?_
 exact ((slices_IndexFunc_Blob_2.l2_c (e1:=slices_IndexFunc_Blob_2.e1) (slices_IndexFunc_Blob_2.e1_c)) big) a0 _ _ _ a1q0 _ 0 hra0 hca0 hra1q0_0 hga1q0 heq
noncomputable def C72v2:Ctx:={ P:=Tryd.prog,f:=72,N:=42,c:=bodyOf Tryd.f72 }
def S72v2 (F:List Ch) (H0:Hp) (r:(List Blob)) (v:Value) (H:Hp) (cs:List Ch):Prop:=∃ (A0:Option Addr) (c0:Nat) (ch0:Ch),H0=H∧v=.slice A0 r.length c0∧ch0::F=cs∧SlOwn kBlob 47 H A0 c0 r ch0
theorem slices_DeleteFunc_Blob_2.e1_c {w0:World} {H:Hp} {F:List Ch} {r:(List Blob)}:∀ (v_s0:List Blob) (Av_s0:Option Addr) (nv_s0:Nat) (cv_s0:Nat) (chv_s0:Ch) (v_i5:Int) ,SlOwn kBlob 47 H Av_s0 cv_s0 v_s0 chv_s0→nv_s0=v_s0.length→slices_DeleteFunc_Blob_2.e1 v_s0 v_i5=some r→RunH C72v2 (S72v2 F H r) H w0 [.c [1,1,1,1,0],.c [1,1,1,1,1]] [(0,.slice Av_s0 nv_s0 cv_s0),(5,iv v_i5)] H (chv_s0::F):=by
 intro v_s0 Av_s0 nv_s0 cv_s0 chv_s0 v_i5 hov_s0 hnv_s0 heq
 subst hnv_s0
 unfold slices_DeleteFunc_Blob_2.e1 at heq
 refine Rr ?_
 obtain ⟨hn2,heq⟩:=guard?_some heq
 have hn1:v_s0.length - v_i5.toNat=(v_s0.drop v_i5.toNat).length:=by have h1:=both_of hn2; have h3:=trivial; (try simp); (try omega)
 have ho1:=hov_s0.drop v_i5.toNat (by have h2:=hov_s0.cap; have h3:=trivial; have h1:=both_of hn2; omega)
 refine Rv 3 [0,5,38] [] [.need ((0:Int)≤v_i5∧v_i5≤((v_s0.length:Nat):Int))] [(0,.slice Av_s0 v_s0.length cv_s0),(5,iv v_i5),(38,.slice (shiftA cv_s0 v_i5.toNat 5 Av_s0) (v_s0.length - v_i5.toNat) (cv_s0 - v_i5.toNat))] (fun w hh=>(both_of hn2)) ?_
 refine RgH.does (DoesH.clear (k:=0) (j:=v_i5.toNat) (n:=v_s0.length - v_i5.toNat) (t:=22) (e:=47) (bytes:=48) (kd:=kBlob) (A:=Av_s0) (A2:=(shiftA cv_s0 v_i5.toNat 5 Av_s0)) (c:=cv_s0) (c2:=(cv_s0 - v_i5.toNat)) (xs:=v_s0) (z:=(⟨ByteArray.empty,0,0,0,0⟩:Blob)) (zc:=#[.string ByteArray.empty,iv 0,iv 0,iv 0,iv 0]) (by kernel_rfl) (by have h3:=trivial; omega) (by kernel_rfl) (by kernel_rfl) kBlob_mk (by kernel_rfl) rfl hov_s0 (by have h1:=both_of hn2; have h3:=trivial; omega) (fun h b off hA=>shiftA_at h hov_s0.cap hA)) ?_
 rintro _ _ _ _ ⟨ch1,rfl,rfl,rfl,ho2⟩
 have hn3:v_s0.length=(v_s0.take v_i5.toNat++List.replicate (v_s0.length - v_i5.toNat) (⟨ByteArray.empty,0,0,0,0⟩:Blob)).length:=by have h1:=both_of hn2; have h3:=trivial; simp; omega
 refine Dn<|Ra 1 [1,1,1,1,1,0] [.c [1,1,1,1,1,1]] ?_
 obtain ⟨hn5,heq⟩:=guard?_some heq
 have hn4:v_i5.toNat=((v_s0.take v_i5.toNat++List.replicate (v_s0.length - v_i5.toNat) (⟨ByteArray.empty,0,0,0,0⟩:Blob)).take v_i5.toNat).length:=by have h1:=both_of hn5; have h3:=hn3; (try simp); (try omega)
 have ho3:=ho2.take v_i5.toNat
 refine Rw' 4 [4] [] [.need ((0:Int)≤v_i5∧v_i5≤((cv_s0:Nat):Int))] [(4,.slice Av_s0 v_i5.toNat cv_s0)] (fun w hh=>⟨(both_of hn5).1,(by have h1:=(both_of hn5).2; have h2:=(show v_s0.length≤cv_s0 from by have:=ho2.cap; have:=hn3; omega); have h3:=hn3; omega)⟩) ?_
 obtain rfl:=Option.some.inj heq
 exact RunH.done (by kernel_rfl) Tryd.func72 (v:=.slice Av_s0 v_i5.toNat cv_s0) (by kernel_rfl) ⟨Av_s0,cv_s0,ch1,rfl,(by first | rfl | exact congrArg (fun q=>Value.slice _ q _) hn4 | (rw [hn4]) | (simp only [← hn4])),rfl,ho3⟩
theorem slices_DeleteFunc_Blob_2.j3_c {w0:World} {H:Hp} {F:List Ch} {r:(List Blob)} (backl2:(List (ByteArray × Bool))→(List Blob)→Int→Int→Option (List Blob))
  (hbackl2:∀ (ga1q0:Nat) (a1q0:List (ByteArray × Bool)) (Aa1q0_0:Option Nat) (v_s0:List Blob) (Av_s0:Option Addr) (nv_s0:Nat) (cv_s0:Nat) (chv_s0:Ch) (v_i5:Int) (v_j6:Int) ,Mw Value.string Kd.bool false H F Aa1q0_0 a1q0→InG H F ga1q0 (.cells #[.map Aa1q0_0] 101 (0,0))→SlOwn kBlob 47 H Av_s0 cv_s0 v_s0 chv_s0→nv_s0=v_s0.length→backl2 a1q0 v_s0 v_i5 v_j6=some r→RunH C72v2 (S72v2 F H r) H w0 [.c [1,1,1,0,1,0,0],.l [1,1,1,0,1,0,0],.b 0,.c [1,1,1,1]] [(0,.slice Av_s0 nv_s0 cv_s0),(1,.func (.func 110) #[] #[.pointer (some ⟨ga1q0,0,none⟩)]),(5,iv v_i5),(6,iv v_j6)] H (chv_s0::F)):∀ (ga1q0:Nat) (a1q0:List (ByteArray × Bool)) (Aa1q0_0:Option Nat) (v_j6:Int) (v_s0:List Blob) (Av_s0:Option Addr) (nv_s0:Nat) (cv_s0:Nat) (chv_s0:Ch) (v_i5:Int) ,Mw Value.string Kd.bool false H F Aa1q0_0 a1q0→InG H F ga1q0 (.cells #[.map Aa1q0_0] 101 (0,0))→SlOwn kBlob 47 H Av_s0 cv_s0 v_s0 chv_s0→nv_s0=v_s0.length→slices_DeleteFunc_Blob_2.j3 backl2 a1q0 v_j6 v_s0 v_i5=some r→RunH C72v2 (S72v2 F H r) H w0 [.c [1,1,1,0,1,0,0,1,1],.l [1,1,1,0,1,0,0],.b 0,.c [1,1,1,1]] [(0,.slice Av_s0 nv_s0 cv_s0),(1,.func (.func 110) #[] #[.pointer (some ⟨ga1q0,0,none⟩)]),(5,iv v_i5),(6,iv v_j6)] H (chv_s0::F):=by
 intro ga1q0 a1q0 Aa1q0_0 v_j6 v_s0 Av_s0 nv_s0 cv_s0 chv_s0 v_i5 hra1q0_0 hga1q0 hov_s0 hnv_s0 heq
 subst hnv_s0
 unfold slices_DeleteFunc_Blob_2.j3 at heq
 refine Rr<|Rd 3 [0,1,5,6] [(0,.slice Av_s0 v_s0.length cv_s0),(1,.func (.func 110) #[] #[.pointer (some ⟨ga1q0,0,none⟩)]),(5,iv v_i5),(6,iv (w64 (v_j6+1)))]<|Ad 1 [.c [1,1,1,0,1,0,0],.l [1,1,1,0,1,0,0],.b 0,.c [1,1,1,1]]<|Kp [0,1,5,6] [(0,.slice Av_s0 v_s0.length cv_s0),(1,.func (.func 110) #[] #[.pointer (some ⟨ga1q0,0,none⟩)]),(5,iv v_i5),(6,iv (w64 (v_j6+1)))] ?_
 exact hbackl2 _ a1q0 _ v_s0 _ _ _ _ v_i5 (w64 (v_j6+1)) hra1q0_0 hga1q0 hov_s0 rfl heq
theorem slices_DeleteFunc_Blob_2.l2_c {w0:World} {H:Hp} {F:List Ch} {r:(List Blob)} (e1:(List Blob)→Int→Option (List Blob))
  (he1:∀ (v_s0:List Blob) (Av_s0:Option Addr) (nv_s0:Nat) (cv_s0:Nat) (chv_s0:Ch) (v_i5:Int) ,SlOwn kBlob 47 H Av_s0 cv_s0 v_s0 chv_s0→nv_s0=v_s0.length→e1 v_s0 v_i5=some r→RunH C72v2 (S72v2 F H r) H w0 [.c [1,1,1,1,0],.c [1,1,1,1,1]] [(0,.slice Av_s0 nv_s0 cv_s0),(5,iv v_i5)] H (chv_s0::F)):∀ (k:Nat),∀ (ga1q0:Nat) (a1q0:List (ByteArray × Bool)) (Aa1q0_0:Option Nat) (v_s0:List Blob) (Av_s0:Option Addr) (nv_s0:Nat) (cv_s0:Nat) (chv_s0:Ch) (v_i5:Int) (v_j6:Int) ,Mw Value.string Kd.bool false H F Aa1q0_0 a1q0→InG H F ga1q0 (.cells #[.map Aa1q0_0] 101 (0,0))→SlOwn kBlob 47 H Av_s0 cv_s0 v_s0 chv_s0→nv_s0=v_s0.length→slices_DeleteFunc_Blob_2.l2 e1 k a1q0 v_s0 v_i5 v_j6=some r→RunH C72v2 (S72v2 F H r) H w0 [.c [1,1,1,0,1,0,0],.l [1,1,1,0,1,0,0],.b 0,.c [1,1,1,1]] [(0,.slice Av_s0 nv_s0 cv_s0),(1,.func (.func 110) #[] #[.pointer (some ⟨ga1q0,0,none⟩)]),(5,iv v_i5),(6,iv v_j6)] H (chv_s0::F):=by
 intro k
 induction k with
 | zero=>intro ga1q0 a1q0 Aa1q0_0 v_s0 Av_s0 nv_s0 cv_s0 chv_s0 v_i5 v_j6 hra1q0_0 hga1q0 hov_s0 hnv_s0 heq; exact nomatch (show (none:Option (List Blob))=some r from heq)
 | succ k ihk =>
  intro ga1q0 a1q0 Aa1q0_0 v_s0 Av_s0 nv_s0 cv_s0 chv_s0 v_i5 v_j6 hra1q0_0 hga1q0 hov_s0 hnv_s0 heq
  subst hnv_s0
  rw [slices_DeleteFunc_Blob_2.l2] at heq
  refine Ra 2 [1,1,1,0,1,0,0,0,0] [.c [1,1,1,0,1,0,0,0,1],.c [1,1,1,0,1,0,0,1],.l [1,1,1,0,1,0,0],.b 0,.c [1,1,1,1]]<|Rd 4 [0,1,5,6,19] [(0,.slice Av_s0 v_s0.length cv_s0),(1,.func (.func 110) #[] #[.pointer (some ⟨ga1q0,0,none⟩)]),(5,iv v_i5),(6,iv v_j6),(19,.bool (decide (v_j6<(v_s0.length:Int))))] ?_
  rcases bool_cases (decide (v_j6<(v_s0.length:Int))) with hb2 | hb2
  ·replace heq:=bif_true hb2 heq
   refine Ct (decide (v_j6<(v_s0.length:Int))) hb2<|Ra 4 [1,1,1,0,1,0,0,1,0,0,0] [.c [1,1,1,0,1,0,0,1,0,0,1],.b 1,.c [1,1,1,0,1,0,0,1,1],.l [1,1,1,0,1,0,0],.b 0,.c [1,1,1,1]] ?_
   obtain ⟨x1,hx1,heq⟩:=bind_some heq
   obtain ⟨ha1,cs1,hK1,hcc1⟩:=hov_s0.get hx1
   obtain ⟨rfl⟩:=kBlob_open hK1
   refine Rv 4 [0,1,5,6,25] [.string x1.Digest,iv x1.Size,iv x1.Used,iv x1.Until,iv x1.Pins] [.need (Av_s0=some (adr Av_s0)∧(0:Int)≤v_j6∧v_j6<((v_s0.length:Nat):Int)),.load (((adr Av_s0).add (v_j6.toNat*5)).add 0) (.string x1.Digest),.load (((adr Av_s0).add (v_j6.toNat*5)).add 1) (iv x1.Size),.load (((adr Av_s0).add (v_j6.toNat*5)).add 2) (iv x1.Used),.load (((adr Av_s0).add (v_j6.toNat*5)).add 3) (iv x1.Until),.load (((adr Av_s0).add (v_j6.toNat*5)).add 4) (iv x1.Pins)] [(0,.slice Av_s0 v_s0.length cv_s0),(1,.func (.func 110) #[] #[.pointer (some ⟨ga1q0,0,none⟩)]),(5,iv v_i5),(6,iv v_j6),(25,.agg #[.string x1.Digest,iv x1.Size,iv x1.Used,iv x1.Until,iv x1.Pins])] (fun w hh=>⟨⟨ha1,(at?_some hx1).1,(at?_some hx1).2.1⟩,(hcc1 _ (hh.chin 0 rfl) 0 _ rfl),(hcc1 _ (hh.chin 0 rfl) 1 _ rfl),(hcc1 _ (hh.chin 0 rfl) 2 _ rfl),(hcc1 _ (hh.chin 0 rfl) 3 _ rfl),(hcc1 _ (hh.chin 0 rfl) 4 _ rfl)⟩) ?_
   refine RgH.does (DoesH.new (d:=7) (v:=fun g=>.pointer (some ⟨g,0,none⟩)) (o:=fun g=>.cells #[.string ByteArray.empty,iv 0,iv 0,iv 0,iv 0] 47 (0,0)) (fun g=>by kernel_rfl)) ?_
   rintro _ _ _ _ ⟨g1,rfl,rfl,rfl⟩
   refine RgH.does (DoesH.store (k:=0) (g:=g1) (off:=0) (v:=.agg #[.string x1.Digest,iv x1.Size,iv x1.Used,iv x1.Until,iv x1.Pins]) (cells':=#[.string x1.Digest,iv x1.Size,iv x1.Used,iv x1.Until,iv x1.Pins]) (by kernel_rfl) rfl (by kernel_rfl) (by kernel_rfl)) ?_
   rintro _ _ _ _ ⟨rfl,rfl,rfl⟩
   refine Dn<|Ra 1 [1,1,1,0,1,0,0,1,0,0,1,0] [.c [1,1,1,0,1,0,0,1,0,0,1,1],.b 1,.c [1,1,1,0,1,0,0,1,1],.l [1,1,1,0,1,0,0],.b 0,.c [1,1,1,1]]<|Rv 2 [0,1,5,6,7,26,27] [.string x1.Digest,iv x1.Size,iv x1.Used,iv x1.Until,iv x1.Pins] [.load ⟨g1,0,none⟩ (.string x1.Digest),.load ⟨g1,1,none⟩ (iv x1.Size),.load ⟨g1,2,none⟩ (iv x1.Used),.load ⟨g1,3,none⟩ (iv x1.Until),.load ⟨g1,4,none⟩ (iv x1.Pins)] [(0,.slice Av_s0 v_s0.length cv_s0),(1,.func (.func 110) #[] #[.pointer (some ⟨ga1q0,0,none⟩)]),(5,iv v_i5),(6,iv v_j6),(7,pg g1 0),(26,.func (.func 110) #[] #[.pointer (some ⟨ga1q0,0,none⟩)]),(27,.agg #[.string x1.Digest,iv x1.Size,iv x1.Used,iv x1.Until,iv x1.Pins])] (fun w hh=>⟨(hh.box 0 rfl rfl),(hh.box 0 rfl rfl),(hh.box 0 rfl rfl),(hh.box 0 rfl rfl),(hh.box 0 rfl rfl)⟩) ?_
   obtain ⟨y2,hy2,heq⟩:=bind_some heq
   refine RgH.does (DoesH.call (d:=28) (g:=110) (args:=#[.agg #[.string x1.Digest,iv x1.Size,iv x1.Used,iv x1.Until,iv x1.Pins],.pointer (some ⟨ga1q0,0,none⟩)]) (by kernel_rfl) (cache_drop_1_c (a0:=x1) (a1:=a1q0) (hra1q0_0.wk (fun _ h=>(.tail _ (.tail _ h)))) (hga1q0.wk (fun _ h=>(.tail _ (.tail _ h)))) hy2)) ?_
   rintro _ _ _ _ ⟨_,rfl,rfl,rfl,rfl⟩
   refine Rd 4 [0,1,5,6,7,29] [(0,.slice Av_s0 v_s0.length cv_s0),(1,.func (.func 110) #[] #[.pointer (some ⟨ga1q0,0,none⟩)]),(5,iv v_i5),(6,iv v_j6),(7,pg g1 0),(29,.bool (!y2))] ?_
   rcases bool_cases (!y2) with hb3 | hb3
   ·replace heq:=bif_true hb3 heq
    refine Ct (!y2) hb3<|Ra 1 [1,1,1,0,1,0,0,1,0,0,1,1,0,0] [.c [1,1,1,0,1,0,0,1,0,0,1,1,0,1],.b 1,.c [1,1,1,0,1,0,0,1,1],.l [1,1,1,0,1,0,0],.b 0,.c [1,1,1,1]] ?_
    obtain ⟨x2,hx2,heq⟩:=bind_some heq
    obtain ⟨ha2,cs2,hK2,hcc2⟩:=hov_s0.get hx2
    obtain ⟨rfl⟩:=kBlob_open hK2
    refine Rv 4 [0,1,5,6,32,33] [.string x1.Digest,iv x1.Size,iv x1.Used,iv x1.Until,iv x1.Pins] [.load ⟨g1,0,none⟩ (.string x1.Digest),.load ⟨g1,1,none⟩ (iv x1.Size),.load ⟨g1,2,none⟩ (iv x1.Used),.load ⟨g1,3,none⟩ (iv x1.Until),.load ⟨g1,4,none⟩ (iv x1.Pins),.need (Av_s0=some (adr Av_s0)∧(0:Int)≤v_i5∧v_i5<((v_s0.length:Nat):Int))] [(0,.slice Av_s0 v_s0.length cv_s0),(1,.func (.func 110) #[] #[.pointer (some ⟨ga1q0,0,none⟩)]),(5,iv v_i5),(6,iv v_j6),(32,.agg #[.string x1.Digest,iv x1.Size,iv x1.Used,iv x1.Until,iv x1.Pins]),(33,.pointer (some ((adr Av_s0).add (v_i5.toNat*5))))] (fun w hh=>⟨(hh.box 0 rfl rfl),(hh.box 0 rfl rfl),(hh.box 0 rfl rfl),(hh.box 0 rfl rfl),(hh.box 0 rfl rfl),⟨ha2,(at?_some hx2).1,(at?_some hx2).2.1⟩⟩) ?_
    obtain ⟨ha3,cs3,hK3,hcc3⟩:=hov_s0.get hx2
    obtain ⟨rfl⟩:=kBlob_open hK3
    refine RgH.does (DoesH.storeEl (a:=((adr Av_s0).add (v_i5.toNat*5))) (k:=1) (kd:=kBlob) (c0:=[.string x2.Digest,iv x2.Size,iv x2.Used,iv x2.Until,iv x2.Pins]) (x':=x1) (o:=0) (ix:=v_i5) (v:=.agg #[.string x1.Digest,iv x1.Size,iv x1.Used,iv x1.Until,iv x1.Pins]) (by kernel_rfl) rfl hov_s0 hx2 (by kernel_rfl) hcc3 rfl (Nat.le_of_ble_eq_true (by kernel_rfl)) kBlob_mk) ?_
    rintro _ _ _ _ ⟨ch2,rfl,rfl,rfl,ho4⟩
    have hn6:v_s0.length=(v_s0.set v_i5.toNat x1).length:=by rw [List.length_set]
    refine Dn<|Rr<|Rd 3 [0,1,5,6] [(0,.slice Av_s0 v_s0.length cv_s0),(1,.func (.func 110) #[] #[.pointer (some ⟨ga1q0,0,none⟩)]),(5,iv (w64 (v_i5+1))),(6,iv v_j6)]<|Ad 1 [.c [1,1,1,0,1,0,0,1,1],.l [1,1,1,0,1,0,0],.b 0,.c [1,1,1,1]]<|Kp [0,1,5,6] [(0,.slice Av_s0 v_s0.length cv_s0),(1,.func (.func 110) #[] #[.pointer (some ⟨ga1q0,0,none⟩)]),(5,iv (w64 (v_i5+1))),(6,iv v_j6)] ?_
    refine RunH.pick 2 [1] (cs':=ch2::F) (by kernel_rfl) rfl ?_
    exact (slices_DeleteFunc_Blob_2.j3_c (backl2:=(slices_DeleteFunc_Blob_2.l2 e1 k)) ihk) _ a1q0 _ v_j6 (v_s0.set v_i5.toNat x1) _ _ _ _ (w64 (v_i5+1)) hra1q0_0 hga1q0 ho4 hn6 heq
   ·replace heq:=bif_false hb3 heq
    refine Cf (!y2) hb3<|Ad 2 [.c [1,1,1,0,1,0,0,1,1],.l [1,1,1,0,1,0,0],.b 0,.c [1,1,1,1]]<|Kp [0,1,5,6] [(0,.slice Av_s0 v_s0.length cv_s0),(1,.func (.func 110) #[] #[.pointer (some ⟨ga1q0,0,none⟩)]),(5,iv v_i5),(6,iv v_j6)] ?_
    refine RunH.pick 2 [1] (cs':=chv_s0::F) (by kernel_rfl) rfl ?_
    exact (slices_DeleteFunc_Blob_2.j3_c (backl2:=(slices_DeleteFunc_Blob_2.l2 e1 k)) ihk) _ a1q0 _ v_j6 v_s0 _ _ _ _ v_i5 hra1q0_0 hga1q0 hov_s0 rfl heq
  ·replace heq:=bif_false hb2 heq
   refine Cf (decide (v_j6<(v_s0.length:Int))) hb2<|Ad 2 [.c [1,1,1,1,0],.c [1,1,1,1,1]]<|Kp [0,5] [(0,.slice Av_s0 v_s0.length cv_s0),(5,iv v_i5)] ?_
   exact he1 v_s0 _ _ _ _ v_i5 hov_s0 rfl heq
theorem slices_DeleteFunc_Blob_2_c {w0:World} {H:Hp} {F:List Ch} {a0:List Blob} {Aa0:Option Addr} {na0:Nat} {ca0:Nat} {cha0:Ch} {ga1q0:Nat} {a1q0:List (ByteArray × Bool)} {Aa1q0_0:Option Nat} {r:(List Blob)} (hoa0:SlOwn kBlob 47 H Aa0 ca0 a0 cha0) (hna0:na0=a0.length) (hra1q0_0:Mw Value.string Kd.bool false H F Aa1q0_0 a1q0) (hga1q0:InG H F ga1q0 (.cells #[.map Aa1q0_0] 101 (0,0))) (heq:slices_DeleteFunc_Blob_2.f a0 a1q0=some r):CallsH Tryd.prog 72 #[.slice Aa0 na0 ca0,.func (.func 110) #[] #[.pointer (some ⟨ga1q0,0,none⟩)]] H w0 (cha0::F) (S72v2 F H r):=by
 refine calls_of_runH (F:=C72v2) Tryd.func72 (by kernel_rfl) Tryd.ntmps72 (args:=[.slice Aa0 na0 ca0,.func (.func 110) #[] #[.pointer (some ⟨ga1q0,0,none⟩)]]) (by kernel_rfl) ?_
 subst hna0
 unfold slices_DeleteFunc_Blob_2.f at heq
 refine Ra 1 [0] [.c [1]]<|Rd 1 [0,1] [(0,.slice Aa0 a0.length ca0),(1,.func (.func 110) #[] #[.pointer (some ⟨ga1q0,0,none⟩)])]<|Ra 1 [1,0] [.c [1,1]]<|Rk 2 [0,1,8,9] [(0,.slice Aa0 a0.length ca0),(1,.func (.func 110) #[] #[.pointer (some ⟨ga1q0,0,none⟩)]),(8,.slice Aa0 a0.length ca0),(9,.func (.func 110) #[] #[.pointer (some ⟨ga1q0,0,none⟩)])] ?_
 obtain ⟨y1,hy1,heq⟩:=bind_some heq
 refine RgH.does (DoesH.call (d:=10) (g:=109) (args:=#[.slice Aa0 a0.length ca0,.func (.func 110) #[] #[.pointer (some ⟨ga1q0,0,none⟩)]]) (by kernel_rfl) (slices_IndexFunc_Blob_2_c (a0:=a0) (a1q0:=a1q0) (hoa0.rw (.head _)) hoa0.cap rfl (hra1q0_0.wk (fun _ h=>(.tail _ h))) (hga1q0.wk (fun _ h=>(.tail _ h))) hy1)) ?_
 rintro _ _ _ _ ⟨_,rfl,rfl,rfl,rfl⟩
 refine Rd 4 [0,1,5] [(0,.slice Aa0 a0.length ca0),(1,.func (.func 110) #[] #[.pointer (some ⟨ga1q0,0,none⟩)]),(5,iv y1)]<|Ra 2 [1,1,0,0] [.c [1,1,0,1],.c [1,1,1]]<|Rd 2 [0,1,5,12] [(0,.slice Aa0 a0.length ca0),(1,.func (.func 110) #[] #[.pointer (some ⟨ga1q0,0,none⟩)]),(5,iv y1),(12,.bool (y1 == (-1)))] ?_
 rcases bool_cases (y1 == (-1)) with hb1 | hb1
 ·replace heq:=bif_true hb1 heq
  refine Ct (y1 == (-1)) hb1<|Ra 1 [1,1,0,1,0,0] [.c [1,1,0,1,0,1],.c [1,1,1]]<|Rd 2 [4] [(4,.slice Aa0 a0.length ca0)] ?_
  obtain rfl:=Option.some.inj heq
  exact RunH.done (by kernel_rfl) Tryd.func72 (v:=.slice Aa0 a0.length ca0) (by kernel_rfl) ⟨Aa0,ca0,cha0,rfl,rfl,rfl,hoa0⟩
 ·replace heq:=bif_false hb1 heq
  refine Cf (y1 == (-1)) hb1<|Ra 3 [1,1,1,0,0] [.c [1,1,1,0,1],.c [1,1,1,1]]<|Rd 3 [0,1,5,6] [(0,.slice Aa0 a0.length ca0),(1,.func (.func 110) #[] #[.pointer (some ⟨ga1q0,0,none⟩)]),(5,iv y1),(6,iv (w64 (y1+1)))]<|Ad 2 [.c [1,1,1,0,1,0,0],.l [1,1,1,0,1,0,0],.b 0,.c [1,1,1,1]]<|Kp [0,1,5,6] [(0,.slice Aa0 a0.length ca0),(1,.func (.func 110) #[] #[.pointer (some ⟨ga1q0,0,none⟩)]),(5,iv y1),(6,iv (w64 (y1+1)))] ?_
  exact ((slices_DeleteFunc_Blob_2.l2_c (e1:=slices_DeleteFunc_Blob_2.e1) (slices_DeleteFunc_Blob_2.e1_c)) big) _ a1q0 _ a0 _ _ _ _ y1 (w64 (y1+1)) hra1q0_0 hga1q0 hoa0 rfl heq
noncomputable def C75:Ctx:={ P:=Tryd.prog,f:=75,N:=26,c:=bodyOf Tryd.f75 }
def S75 (F:List Ch) (H0:Hp) (ga0:Nat) (r:Cache) (v:Value) (H:Hp) (cs:List Ch):Prop:=∃ (A0_2:Option Addr) (c0_2:Nat) (ch0_2:Ch) (A0_3:Option Addr) (c0_3:Nat) (ch0_3:Ch),H0=H∧v=.tuple #[]∧some (ga0,.cells #[iv r.Room,iv r.Lease,.slice A0_2 r.Blobs.length c0_2,.slice A0_3 r.Entries.length c0_3] 25 (0,0))::ch0_2::ch0_3::F=cs∧SlOwn kBlob 47 H A0_2 c0_2 r.Blobs ch0_2∧SlOwn kEntry 51 H A0_3 c0_3 r.Entries ch0_3
theorem cache_drop.e1_c {w0:World} {H:Hp} {F:List Ch} {r:Cache}:∀ (ga0:Nat) (a0:Cache) (Aa0_2:Option Addr) (ca0_2:Nat) (cha0_2:Ch) (Aa0_3:Option Addr) (ca0_3:Nat) (cha0_3:Ch) (g2:Nat) (v_has4_0:List (ByteArray × Bool)) (gv_has4_0:Nat) (chv_has4_0:Ch) ,SlOwn kBlob 47 H Aa0_2 ca0_2 a0.Blobs cha0_2→SlOwn kEntry 51 H Aa0_3 ca0_3 a0.Entries cha0_3→MpOwn Value.string Kd.bool false H gv_has4_0 v_has4_0 chv_has4_0→cache_drop.e1 a0 v_has4_0=some r→RunH C75 (S75 F H ga0 r) H w0 [.c [1,1]] [(0,pg ga0 0),(4,pg g2 0)] H ((some (g2,.cells #[.map (some gv_has4_0)] 101 (0,0)))::chv_has4_0::(some (ga0,.cells #[iv a0.Room,iv a0.Lease,.slice Aa0_2 a0.Blobs.length ca0_2,.slice Aa0_3 a0.Entries.length ca0_3] 25 (0,0)))::cha0_2::cha0_3::F):=by
 intro ga0 a0 Aa0_2 ca0_2 cha0_2 Aa0_3 ca0_3 cha0_3 g2 v_has4_0 gv_has4_0 chv_has4_0 hoa0_2 hoa0_3 hov_has4_0 heq
 unfold cache_drop.e1 at heq
 refine Rr<|Rv 6 [0,17,21,22] [.slice Aa0_2 a0.Blobs.length ca0_2] [.load ⟨ga0,2,none⟩ (.slice Aa0_2 a0.Blobs.length ca0_2)] [(0,pg ga0 0),(17,pg ga0 0),(21,.slice Aa0_2 a0.Blobs.length ca0_2),(22,.func (.func 110) #[] #[.pointer (some ⟨g2,0,none⟩)])] (fun w hh=>(hh.box 2 rfl rfl)) ?_
 refine RgH.pick 5 [3,0,1,2,4] (cs':=cha0_2::(some (g2,.cells #[.map (some gv_has4_0)] 101 (0,0)))::chv_has4_0::(some (ga0,.cells #[iv a0.Room,iv a0.Lease,.slice Aa0_2 a0.Blobs.length ca0_2,.slice Aa0_3 a0.Entries.length ca0_3] 25 (0,0)))::cha0_3::F) (by kernel_rfl) rfl ?_
 obtain ⟨y1,hy1,heq⟩:=bind_some heq
 refine RgH.does (DoesH.call (d:=23) (g:=72) (args:=#[.slice Aa0_2 a0.Blobs.length ca0_2,.func (.func 110) #[] #[.pointer (some ⟨g2,0,none⟩)]]) (by kernel_rfl) (slices_DeleteFunc_Blob_2_c (a0:=a0.Blobs) (a1q0:=v_has4_0) hoa0_2 rfl (hov_has4_0.mw (.tail _ (.head _))) (.inr (.head _)) hy1)) ?_
 rintro _ _ _ _ ⟨_,rfl,A1,c1,ch1,rfl,rfl,rfl,ho2⟩
 refine Rk 9 [0,23,25] [(0,pg ga0 0),(23,.slice A1 y1.length c1),(25,pg ga0 2)] ?_
 refine RgH.does (DoesH.store (k:=3) (g:=ga0) (off:=2) (v:=.slice A1 y1.length c1) (cells':=#[iv a0.Room,iv a0.Lease,.slice A1 y1.length c1,.slice Aa0_3 a0.Entries.length ca0_3]) (by kernel_rfl) rfl (by kernel_rfl) (by kernel_rfl)) ?_
 rintro _ _ _ _ ⟨rfl,rfl,rfl⟩
 refine Dn ?_
 obtain rfl:=Option.some.inj heq
 refine RunH.pick 5 [3,0,4] (cs':=(some (ga0,.cells #[iv a0.Room,iv a0.Lease,.slice A1 y1.length c1,.slice Aa0_3 a0.Entries.length ca0_3] 25 (0,0)))::ch1::cha0_3::F) (by kernel_rfl) rfl ?_
 exact RunH.done (by kernel_rfl) Tryd.func75 (v:=.tuple #[]) (by kernel_rfl) ⟨A1,c1,ch1,Aa0_3,ca0_3,cha0_3,rfl,rfl,rfl,ho2,hoa0_3⟩
theorem cache_drop.l2_c {w0:World} {H:Hp} {F:List Ch} {r:Cache} (e1:Cache→(List (ByteArray × Bool))→Option Cache)
  (he1:∀ (ga0:Nat) (a0:Cache) (Aa0_2:Option Addr) (ca0_2:Nat) (cha0_2:Ch) (Aa0_3:Option Addr) (ca0_3:Nat) (cha0_3:Ch) (g2:Nat) (v_has4_0:List (ByteArray × Bool)) (gv_has4_0:Nat) (chv_has4_0:Ch) ,SlOwn kBlob 47 H Aa0_2 ca0_2 a0.Blobs cha0_2→SlOwn kEntry 51 H Aa0_3 ca0_3 a0.Entries cha0_3→MpOwn Value.string Kd.bool false H gv_has4_0 v_has4_0 chv_has4_0→e1 a0 v_has4_0=some r→RunH C75 (S75 F H ga0 r) H w0 [.c [1,1]] [(0,pg ga0 0),(4,pg g2 0)] H ((some (g2,.cells #[.map (some gv_has4_0)] 101 (0,0)))::chv_has4_0::(some (ga0,.cells #[iv a0.Room,iv a0.Lease,.slice Aa0_2 a0.Blobs.length ca0_2,.slice Aa0_3 a0.Entries.length ca0_3] 25 (0,0)))::cha0_2::cha0_3::F)):∀ (k:Nat),∀ (ga0:Nat) (a0:Cache) (Aa0_2:Option Addr) (ca0_2:Nat) (cha0_2:Ch) (Aa0_3:Option Addr) (ca0_3:Nat) (cha0_3:Ch) (a1:List ByteArray) (Aa1:Option Addr) (ca1:Nat) (g2:Nat) (v_has4_0:List (ByteArray × Bool)) (gv_has4_0:Nat) (chv_has4_0:Ch) (v10:Int) ,SlOwn kBlob 47 H Aa0_2 ca0_2 a0.Blobs cha0_2→SlOwn kEntry 51 H Aa0_3 ca0_3 a0.Entries cha0_3→Rw Kd.string H F Aa1 a1→a1.length≤ca1→MpOwn Value.string Kd.bool false H gv_has4_0 v_has4_0 chv_has4_0→cache_drop.l2 e1 k a0 a1 v_has4_0 v10=some r→RunH C75 (S75 F H ga0 r) H w0 [.c [1,0,1,0,0],.l [1,0,1,0,0],.b 0,.c [1,1]] [(0,pg ga0 0),(4,pg g2 0),(8,.slice Aa1 a1.length ca1),(9,iv (a1.length:Int)),(10,iv v10)] H ((some (g2,.cells #[.map (some gv_has4_0)] 101 (0,0)))::chv_has4_0::(some (ga0,.cells #[iv a0.Room,iv a0.Lease,.slice Aa0_2 a0.Blobs.length ca0_2,.slice Aa0_3 a0.Entries.length ca0_3] 25 (0,0)))::cha0_2::cha0_3::F):=by
 intro k
 induction k with
 | zero=>intro ga0 a0 Aa0_2 ca0_2 cha0_2 Aa0_3 ca0_3 cha0_3 a1 Aa1 ca1 g2 v_has4_0 gv_has4_0 chv_has4_0 v10 hoa0_2 hoa0_3 hra1 hca1 hov_has4_0 heq; exact nomatch (show (none:Option Cache)=some r from heq)
 | succ k ihk =>
  intro ga0 a0 Aa0_2 ca0_2 cha0_2 Aa0_3 ca0_3 cha0_3 a1 Aa1 ca1 g2 v_has4_0 gv_has4_0 chv_has4_0 v10 hoa0_2 hoa0_3 hra1 hca1 hov_has4_0 heq
  rw [cache_drop.l2] at heq
  refine Ra 1 [1,0,1,0,0,0] [.c [1,0,1,0,0,1],.l [1,0,1,0,0],.b 0,.c [1,1]]<|Rd 1 [0,4,8,9,10,11] [(0,pg ga0 0),(4,pg g2 0),(8,.slice Aa1 a1.length ca1),(9,iv (a1.length:Int)),(10,iv v10),(11,.bool (decide (v10<(a1.length:Int))))]<|Ad 1 [.c [1,0,1,0,0,1,0],.c [1,0,1,0,0,1,1],.l [1,0,1,0,0],.b 0,.c [1,1]] ?_
  rcases bool_cases (decide (v10<(a1.length:Int))) with hb1 | hb1
  ·replace heq:=bif_true hb1 heq
   refine Ct (decide (v10<(a1.length:Int))) hb1<|Ra 4 [1,0,1,0,0,1,1,0,0,0] [.c [1,0,1,0,0,1,1,0,0,1],.b 1,.c [1,0,1,0,0,1,1,1],.l [1,0,1,0,0],.b 0,.c [1,1]] ?_
   obtain ⟨x1,hx1,heq⟩:=bind_some heq
   obtain ⟨ha1,cs1,hK1,hcc1⟩:=hra1.get hx1
   obtain rfl:cs1=[.string x1]:=hK1
   refine Rw' 3 [0,4,6,8,9,10] [.string x1] [.need (Aa1=some (adr Aa1)∧(0:Int)≤v10∧v10<((a1.length:Nat):Int)),.load ((adr Aa1).add (v10.toNat*1)) (.string x1)] [(0,pg ga0 0),(4,pg g2 0),(6,.string x1),(8,.slice Aa1 a1.length ca1),(9,iv (a1.length:Int)),(10,iv v10)] (fun w hh=>⟨⟨ha1,(at?_some hx1).1,(at?_some hx1).2.1⟩,(hcc1 _ _ (hh.drop 5) 0 _ rfl)⟩)<|Rr<|Rv 2 [0,4,8,9,10,14,15] [.map (some gv_has4_0)] [.load ⟨g2,0,none⟩ (.map (some gv_has4_0))] [(0,pg ga0 0),(4,pg g2 0),(8,.slice Aa1 a1.length ca1),(9,iv (a1.length:Int)),(10,iv v10),(14,.map (some gv_has4_0)),(15,.string x1)] (fun w hh=>(hh.box 0 rfl rfl)) ?_
   refine RgH.does (DoesH.mapUpdate (kk:=1) (cv:=[.bool true]) (k:=x1) (v:=true) (by kernel_rfl) (KyAt.string Tryd.underlying9) rfl rfl rfl hov_has4_0) ?_
   rintro _ _ _ _ ⟨ch2,rfl,rfl,rfl,ho3⟩
   refine Dn<|Ra 1 [1,0,1,0,0,1,1,1] [.l [1,0,1,0,0],.b 0,.c [1,1]]<|Rd 2 [0,4,8,9,10] [(0,pg ga0 0),(4,pg g2 0),(8,.slice Aa1 a1.length ca1),(9,iv (a1.length:Int)),(10,iv (w64 (v10+1)))]<|Ad 1 [.c [1,0,1,0,0],.l [1,0,1,0,0],.b 0,.c [1,1]]<|Kp [0,4,8,9,10] [(0,pg ga0 0),(4,pg g2 0),(8,.slice Aa1 a1.length ca1),(9,iv (a1.length:Int)),(10,iv (w64 (v10+1)))] ?_
   exact ihk _ a0 _ _ _ _ _ _ a1 _ _ _ (mput v_has4_0 x1 true) _ _ (w64 (v10+1)) hoa0_2 hoa0_3 hra1 hca1 ho3 heq
  ·replace heq:=bif_false hb1 heq
   refine Cf (decide (v10<(a1.length:Int))) hb1<|Ad 1 [.c [1,1]]<|Kp [0,4] [(0,pg ga0 0),(4,pg g2 0)] ?_
   exact he1 _ a0 _ _ _ _ _ _ _ v_has4_0 _ _ hoa0_2 hoa0_3 hov_has4_0 heq
theorem cache_drop_c {w0:World} {H:Hp} {F:List Ch} {ga0:Nat} {a0:Cache} {Aa0_2:Option Addr} {na0_2:Nat} {ca0_2:Nat} {cha0_2:Ch} {Aa0_3:Option Addr} {na0_3:Nat} {ca0_3:Nat} {cha0_3:Ch} {a1:List ByteArray} {Aa1:Option Addr} {na1:Nat} {ca1:Nat} {r:Cache} (hoa0_2:SlOwn kBlob 47 H Aa0_2 ca0_2 a0.Blobs cha0_2) (hna0_2:na0_2=a0.Blobs.length) (hoa0_3:SlOwn kEntry 51 H Aa0_3 ca0_3 a0.Entries cha0_3) (hna0_3:na0_3=a0.Entries.length) (hra1:Rw Kd.string H F Aa1 a1) (hca1:na1≤ca1) (hna1:na1=a1.length) (heq:cache_drop.f a0 a1=some r):CallsH Tryd.prog 75 #[.pointer (some ⟨ga0,0,none⟩),.slice Aa1 na1 ca1] H w0 ((some (ga0,.cells #[iv a0.Room,iv a0.Lease,.slice Aa0_2 na0_2 ca0_2,.slice Aa0_3 na0_3 ca0_3] 25 (0,0)))::cha0_2::cha0_3::F) (S75 F H ga0 r):=by
 refine calls_of_runH (F:=C75) Tryd.func75 (by kernel_rfl) Tryd.ntmps75 (args:=[.pointer (some ⟨ga0,0,none⟩),.slice Aa1 na1 ca1]) (by kernel_rfl) ?_
 subst hna0_2
 subst hna0_3
 subst hna1
 unfold cache_drop.f at heq
 refine Ra 1 [0] [.c [1]] ?_
 refine RgH.does (DoesH.new (d:=7) (v:=fun g=>.map (some g)) (o:=fun g=>.map #[] 0) (fun g=>by kernel_rfl)) ?_
 rintro _ _ _ _ ⟨g1,rfl,rfl,rfl⟩
 have ho1:MpOwn Value.string Kd.bool false H g1 ([]:List (ByteArray × Bool)) (some (g1,.map #[] 0)):=MpOwn.made
 refine RgH.does (DoesH.new (d:=4) (v:=fun g=>.pointer (some ⟨g,0,none⟩)) (o:=fun g=>.cells #[.map none] 101 (0,0)) (fun g=>by kernel_rfl)) ?_
 rintro _ _ _ _ ⟨g2,rfl,rfl,rfl⟩
 refine RgH.does (DoesH.store (k:=0) (g:=g2) (off:=0) (v:=.map (some g1)) (cells':=#[.map (some g1)]) (by kernel_rfl) rfl (by kernel_rfl) (by kernel_rfl)) ?_
 rintro _ _ _ _ ⟨rfl,rfl,rfl⟩
 refine Dn<|Ra 2 [1,0,0] [.c [1,0,1],.c [1,1]]<|Rd 3 [0,4,8,9,10] [(0,pg ga0 0),(4,pg g2 0),(8,.slice Aa1 a1.length ca1),(9,iv (a1.length:Int)),(10,iv 0)]<|Ad 2 [.c [1,0,1,0,0],.l [1,0,1,0,0],.b 0,.c [1,1]]<|Kp [0,4,8,9,10] [(0,pg ga0 0),(4,pg g2 0),(8,.slice Aa1 a1.length ca1),(9,iv (a1.length:Int)),(10,iv 0)] ?_
 exact ((cache_drop.l2_c (e1:=cache_drop.e1) (cache_drop.e1_c)) big) _ a0 _ _ _ _ _ _ a1 _ _ _ ([]:List (ByteArray × Bool)) _ _ 0 hoa0_2 hoa0_3 hra1 hca1 ho1 heq
noncomputable def C77:Ctx:={ P:=Tryd.prog,f:=77,N:=9,c:=bodyOf Tryd.f77 }
def S77 (F:List Ch) (H0:Hp) (r:Bool) (v:Value) (H:Hp) (cs:List Ch):Prop:=H0=H∧v=.bool r∧F=cs
theorem cache_Swept_2_c {w0:World} {H:Hp} {F:List Ch} {a0:Entry} {Aa0_1:Option Addr} {na0_1:Nat} {ca0_1:Nat} {ga1:Nat} {a1:List (ByteArray × Bool)} {Aa1_0:Option Nat} {r:Bool} (hra0_1:Rw Kd.string H F Aa0_1 a0.Refs) (hca0_1:na0_1≤ca0_1) (hna0_1:na0_1=a0.Refs.length) (hra1_0:Mw Value.string Kd.bool false H F Aa1_0 a1) (hga1:InG H F ga1 (.cells #[.map Aa1_0] 101 (0,0))) (heq:cache_Swept_2.f a0 a1=some r):CallsH Tryd.prog 77 #[.agg #[.string a0.Key,.slice Aa0_1 na0_1 ca0_1,iv a0.Used],.pointer (some ⟨ga1,0,none⟩)] H w0 (F) (S77 F H r):=by
 refine calls_of_runH (F:=C77) Tryd.func77 (by kernel_rfl) Tryd.ntmps77 (args:=[.agg #[.string a0.Key,.slice Aa0_1 na0_1 ca0_1,iv a0.Used],.pointer (some ⟨ga1,0,none⟩)]) (by kernel_rfl) ?_
 subst hna0_1
 unfold cache_Swept_2.f at heq
 refine Ra 1 [0] [.c [1]] ?_
 refine RgH.does (DoesH.new (d:=2) (v:=fun g=>.pointer (some ⟨g,0,none⟩)) (o:=fun g=>.cells #[.string a0.Key,.slice Aa0_1 a0.Refs.length ca0_1,iv a0.Used] 51 (0,0)) (fun g=>by kernel_rfl)) ?_
 rintro _ _ _ _ ⟨g1,rfl,rfl,rfl⟩
 refine Rd 2 [1,2] [(1,pg ga1 0),(2,pg g1 0)]<|Ra 1 [1,0] [.c [1,1]]<|Rv 3 [4,6] [.map Aa1_0,.string a0.Key] [.load ⟨ga1,0,none⟩ (.map Aa1_0),.load ⟨g1,0,none⟩ (.string a0.Key)] [(4,.map Aa1_0),(6,.string a0.Key)] (fun w hh=>⟨(hga1.cell (hh.drop 1) rfl),(hh.box 0 rfl rfl)⟩) ?_
 refine RgH.does (DoesH.lookup (d:=7) (t:=101) (m:=a1) (k:=a0.Key) (z:=.bool false) (zc:=[.bool false]) (z0:=false) (ok:=false) (kd:=Kd.bool) (ag:=false) (by kernel_rfl) (KyAt.string Tryd.underlying9) rfl rfl (fun w hh=>hra1_0.on (hh.drop 1))) ?_
 rintro _ _ _ _ ⟨cc1,rfl,rfl,rfl,hcc1⟩
 obtain rfl:cc1=[.bool (mgetD a1 a0.Key false)]:=hcc1
 refine RgH.val1 (v':=.bool (mgetD a1 a0.Key false)) rfl ?_
 refine Rd 6 [3] [(3,.bool (!(mgetD a1 a0.Key false)))] ?_
 obtain rfl:=Option.some.inj heq
 refine RunH.pick 1 [] (cs':=F) (by kernel_rfl) rfl ?_
 exact RunH.done (by kernel_rfl) Tryd.func77 (v:=.bool (!(mgetD a1 a0.Key false))) (by kernel_rfl) ⟨rfl,rfl,rfl⟩
noncomputable def C111:Ctx:={ P:=Tryd.prog,f:=111,N:=19,c:=bodyOf Tryd.f111 }
def S111 (F:List Ch) (H0:Hp) (r:Int) (v:Value) (H:Hp) (cs:List Ch):Prop:=H0=H∧v=iv r∧F=cs
theorem slices_IndexFunc_Entry.e1_c {w0:World} {H:Hp} {F:List Ch} {r:Int}:slices_IndexFunc_Entry.e1=some r→RunH C111 (S111 F H r) H w0 [.c [1,1,0],.c [1,1,1]] [] H (F):=by
 intro   heq
 unfold slices_IndexFunc_Entry.e1 at heq
 refine Rr<|Rd 1 [4] [(4,iv (-1))] ?_
 obtain rfl:=Option.some.inj heq
 exact RunH.done (by kernel_rfl) Tryd.func111 (v:=iv (-1)) (by kernel_rfl) ⟨rfl,rfl,rfl⟩
theorem slices_IndexFunc_Entry.l2_c {w0:World} {H:Hp} {F:List Ch} {r:Int} (e1:Option Int)
  (he1:e1=some r→RunH C111 (S111 F H r) H w0 [.c [1,1,0],.c [1,1,1]] [] H (F)):∀ (k:Nat),∀ (a0:List Entry) (Aa0:Option Addr) (ca0:Nat) (ga1q0:Nat) (a1q0:List (ByteArray × Bool)) (Aa1q0_0:Option Nat) (v8:Int) ,Rw kEntry H F Aa0 a0→a0.length≤ca0→Mw Value.string Kd.bool false H F Aa1q0_0 a1q0→InG H F ga1q0 (.cells #[.map Aa1q0_0] 101 (0,0))→slices_IndexFunc_Entry.l2 e1 k a0 a1q0 v8=some r→RunH C111 (S111 F H r) H w0 [.c [1,0,1,0,0],.l [1,0,1,0,0],.b 0,.c [1,1]] [(0,.slice Aa0 a0.length ca0),(1,.func (.func 77) #[] #[.pointer (some ⟨ga1q0,0,none⟩)]),(7,iv (a0.length:Int)),(8,iv v8)] H (F):=by
 intro k
 induction k with
 | zero=>intro a0 Aa0 ca0 ga1q0 a1q0 Aa1q0_0 v8 hra0 hca0 hra1q0_0 hga1q0 heq; exact nomatch (show (none:Option Int)=some r from heq)
 | succ k ihk =>
  intro a0 Aa0 ca0 ga1q0 a1q0 Aa1q0_0 v8 hra0 hca0 hra1q0_0 hga1q0 heq
  rw [slices_IndexFunc_Entry.l2] at heq
  refine Ra 1 [1,0,1,0,0,0] [.c [1,0,1,0,0,1],.l [1,0,1,0,0],.b 0,.c [1,1]]<|Rd 1 [0,1,7,8,9] [(0,.slice Aa0 a0.length ca0),(1,.func (.func 77) #[] #[.pointer (some ⟨ga1q0,0,none⟩)]),(7,iv (a0.length:Int)),(8,iv v8),(9,.bool (decide (v8<(a0.length:Int))))]<|Ad 1 [.c [1,0,1,0,0,1,0],.c [1,0,1,0,0,1,1],.l [1,0,1,0,0],.b 0,.c [1,1]] ?_
  rcases bool_cases (decide (v8<(a0.length:Int))) with hb1 | hb1
  ·replace heq:=bif_true hb1 heq
   refine Ct (decide (v8<(a0.length:Int))) hb1<|Ra 4 [1,0,1,0,0,1,1,0,0,0] [.c [1,0,1,0,0,1,1,0,0,1],.b 1,.c [1,0,1,0,0,1,1,1],.l [1,0,1,0,0],.b 0,.c [1,1]]<|Rd 2 [0,1,5,7,8] [(0,.slice Aa0 a0.length ca0),(1,.func (.func 77) #[] #[.pointer (some ⟨ga1q0,0,none⟩)]),(5,iv v8),(7,iv (a0.length:Int)),(8,iv v8)]<|Ra 1 [1,0,1,0,0,1,1,0,0,1,0] [.c [1,0,1,0,0,1,1,0,0,1,1],.b 1,.c [1,0,1,0,0,1,1,1],.l [1,0,1,0,0],.b 0,.c [1,1]] ?_
   obtain ⟨x1,hx1,heq⟩:=bind_some heq
   obtain ⟨ha1,cs1,hK1,hcc1⟩:=hra0.get hx1
   obtain ⟨A1,c1,rfl,hc1,hr1⟩:=kEntry_open hK1
   refine Rv 5 [0,1,5,7,8,11,15] [.string x1.Key,.slice A1 x1.Refs.length c1,iv x1.Used] [.need (Aa0=some (adr Aa0)∧(0:Int)≤v8∧v8<((a0.length:Nat):Int)),.load (((adr Aa0).add (v8.toNat*3)).add 0) (.string x1.Key),.load (((adr Aa0).add (v8.toNat*3)).add 1) (.slice A1 x1.Refs.length c1),.load (((adr Aa0).add (v8.toNat*3)).add 2) (iv x1.Used)] [(0,.slice Aa0 a0.length ca0),(1,.func (.func 77) #[] #[.pointer (some ⟨ga1q0,0,none⟩)]),(5,iv v8),(7,iv (a0.length:Int)),(8,iv v8),(11,.func (.func 77) #[] #[.pointer (some ⟨ga1q0,0,none⟩)]),(15,.agg #[.string x1.Key,.slice A1 x1.Refs.length c1,iv x1.Used])] (fun w hh=>⟨⟨ha1,(at?_some hx1).1,(at?_some hx1).2.1⟩,(hcc1 _ _ (hh.drop 0) 0 _ rfl),(hcc1 _ _ (hh.drop 0) 1 _ rfl),(hcc1 _ _ (hh.drop 0) 2 _ rfl)⟩) ?_
   obtain ⟨y1,hy1,heq⟩:=bind_some heq
   refine RgH.does (DoesH.call (d:=16) (g:=77) (args:=#[.agg #[.string x1.Key,.slice A1 x1.Refs.length c1,iv x1.Used],.pointer (some ⟨ga1q0,0,none⟩)]) (by kernel_rfl) (cache_Swept_2_c (a0:=x1) (a1:=a1q0) (Rw.of hr1) hc1 rfl hra1q0_0 hga1q0 hy1)) ?_
   rintro _ _ _ _ ⟨_,rfl,rfl,rfl,rfl⟩
   refine Dn ?_
   rcases bool_cases (y1) with hb2 | hb2
   ·replace heq:=bif_true hb2 heq
    refine Ct y1 hb2<|Ra 1 [1,0,1,0,0,1,1,0,0,1,1,0,0] [.c [1,0,1,0,0,1,1,0,0,1,1,0,1],.b 1,.c [1,0,1,0,0,1,1,1],.l [1,0,1,0,0],.b 0,.c [1,1]]<|Rd 2 [4] [(4,iv v8)] ?_
    obtain rfl:=Option.some.inj heq
    exact RunH.done (by kernel_rfl) Tryd.func111 (v:=iv v8) (by kernel_rfl) ⟨rfl,rfl,rfl⟩
   ·replace heq:=bif_false hb2 heq
    refine Cf y1 hb2<|Ra 2 [1,0,1,0,0,1,1,1] [.l [1,0,1,0,0],.b 0,.c [1,1]]<|Rd 2 [0,1,7,8] [(0,.slice Aa0 a0.length ca0),(1,.func (.func 77) #[] #[.pointer (some ⟨ga1q0,0,none⟩)]),(7,iv (a0.length:Int)),(8,iv (w64 (v8+1)))]<|Ad 1 [.c [1,0,1,0,0],.l [1,0,1,0,0],.b 0,.c [1,1]]<|Kp [0,1,7,8] [(0,.slice Aa0 a0.length ca0),(1,.func (.func 77) #[] #[.pointer (some ⟨ga1q0,0,none⟩)]),(7,iv (a0.length:Int)),(8,iv (w64 (v8+1)))] ?_
    exact ihk a0 _ _ _ a1q0 _ (w64 (v8+1)) hra0 hca0 hra1q0_0 hga1q0 heq
  ·replace heq:=bif_false hb1 heq
   refine Cf (decide (v8<(a0.length:Int))) hb1<|Ad 2 [.c [1,1,0],.c [1,1,1]]<|Kp [] [] ?_
   exact he1 heq
theorem slices_IndexFunc_Entry_c {w0:World} {H:Hp} {F:List Ch} {a0:List Entry} {Aa0:Option Addr} {na0:Nat} {ca0:Nat} {ga1q0:Nat} {a1q0:List (ByteArray × Bool)} {Aa1q0_0:Option Nat} {r:Int} (hra0:Rw kEntry H F Aa0 a0) (hca0:na0≤ca0) (hna0:na0=a0.length) (hra1q0_0:Mw Value.string Kd.bool false H F Aa1q0_0 a1q0) (hga1q0:InG H F ga1q0 (.cells #[.map Aa1q0_0] 101 (0,0))) (heq:slices_IndexFunc_Entry.f a0 a1q0=some r):CallsH Tryd.prog 111 #[.slice Aa0 na0 ca0,.func (.func 77) #[] #[.pointer (some ⟨ga1q0,0,none⟩)]] H w0 (F) (S111 F H r):=by
 refine calls_of_runH (F:=C111) Tryd.func111 (by kernel_rfl) Tryd.ntmps111 (args:=[.slice Aa0 na0 ca0,.func (.func 77) #[] #[.pointer (some ⟨ga1q0,0,none⟩)]]) (by kernel_rfl) ?_
 subst hna0
 unfold slices_IndexFunc_Entry.f at heq
 refine Ra 1 [0] [.c [1]]<|Rd 1 [0,1] [(0,.slice Aa0 a0.length ca0),(1,.func (.func 77) #[] #[.pointer (some ⟨ga1q0,0,none⟩)])]<|Ra 2 [1,0,0] [.c [1,0,1],.c [1,1]]<|Rd 3 [0,1,7,8] [(0,.slice Aa0 a0.length ca0),(1,.func (.func 77) #[] #[.pointer (some ⟨ga1q0,0,none⟩)]),(7,iv (a0.length:Int)),(8,iv 0)]<|Ad 2 [.c [1,0,1,0,0],.l [1,0,1,0,0],.b 0,.c [1,1]]<|Kp [0,1,7,8] [(0,.slice Aa0 a0.length ca0),(1,.func (.func 77) #[] #[.pointer (some ⟨ga1q0,0,none⟩)]),(7,iv (a0.length:Int)),(8,iv 0)] ?_
 exact ((slices_IndexFunc_Entry.l2_c (e1:=slices_IndexFunc_Entry.e1) (slices_IndexFunc_Entry.e1_c)) big) a0 _ _ _ a1q0 _ 0 hra0 hca0 hra1q0_0 hga1q0 heq
noncomputable def C76:Ctx:={ P:=Tryd.prog,f:=76,N:=42,c:=bodyOf Tryd.f76 }
def S76 (F:List Ch) (H0:Hp) (r:(List Entry)) (v:Value) (H:Hp) (cs:List Ch):Prop:=∃ (A0:Option Addr) (c0:Nat) (ch0:Ch),H0=H∧v=.slice A0 r.length c0∧ch0::F=cs∧SlOwn kEntry 51 H A0 c0 r ch0
theorem slices_DeleteFunc_Entry.e1_c {w0:World} {H:Hp} {F:List Ch} {r:(List Entry)}:∀ (v_s0:List Entry) (Av_s0:Option Addr) (nv_s0:Nat) (cv_s0:Nat) (chv_s0:Ch) (v_i5:Int) ,SlOwn kEntry 51 H Av_s0 cv_s0 v_s0 chv_s0→nv_s0=v_s0.length→slices_DeleteFunc_Entry.e1 v_s0 v_i5=some r→RunH C76 (S76 F H r) H w0 [.c [1,1,1,1,0],.c [1,1,1,1,1]] [(0,.slice Av_s0 nv_s0 cv_s0),(5,iv v_i5)] H (chv_s0::F):=by
 intro v_s0 Av_s0 nv_s0 cv_s0 chv_s0 v_i5 hov_s0 hnv_s0 heq
 subst hnv_s0
 unfold slices_DeleteFunc_Entry.e1 at heq
 refine Rr ?_
 obtain ⟨hn2,heq⟩:=guard?_some heq
 have hn1:v_s0.length - v_i5.toNat=(v_s0.drop v_i5.toNat).length:=by have h1:=both_of hn2; have h3:=trivial; (try simp); (try omega)
 have ho1:=hov_s0.drop v_i5.toNat (by have h2:=hov_s0.cap; have h3:=trivial; have h1:=both_of hn2; omega)
 refine Rv 3 [0,5,38] [] [.need ((0:Int)≤v_i5∧v_i5≤((v_s0.length:Nat):Int))] [(0,.slice Av_s0 v_s0.length cv_s0),(5,iv v_i5),(38,.slice (shiftA cv_s0 v_i5.toNat 3 Av_s0) (v_s0.length - v_i5.toNat) (cv_s0 - v_i5.toNat))] (fun w hh=>(both_of hn2)) ?_
 refine RgH.does (DoesH.clear (k:=0) (j:=v_i5.toNat) (n:=v_s0.length - v_i5.toNat) (t:=23) (e:=51) (bytes:=48) (kd:=kEntry) (A:=Av_s0) (A2:=(shiftA cv_s0 v_i5.toNat 3 Av_s0)) (c:=cv_s0) (c2:=(cv_s0 - v_i5.toNat)) (xs:=v_s0) (z:=(⟨ByteArray.empty,([]:List ByteArray),0⟩:Entry)) (zc:=#[.string ByteArray.empty,.slice none 0 0,iv 0]) (by kernel_rfl) (by have h3:=trivial; omega) (by kernel_rfl) (by kernel_rfl) (kEntry_mk (Nat.le_refl _) Kd.Row.none) (by kernel_rfl) rfl hov_s0 (by have h1:=both_of hn2; have h3:=trivial; omega) (fun h b off hA=>shiftA_at h hov_s0.cap hA)) ?_
 rintro _ _ _ _ ⟨ch1,rfl,rfl,rfl,ho2⟩
 have hn3:v_s0.length=(v_s0.take v_i5.toNat++List.replicate (v_s0.length - v_i5.toNat) (⟨ByteArray.empty,([]:List ByteArray),0⟩:Entry)).length:=by have h1:=both_of hn2; have h3:=trivial; simp; omega
 refine Dn<|Ra 1 [1,1,1,1,1,0] [.c [1,1,1,1,1,1]] ?_
 obtain ⟨hn5,heq⟩:=guard?_some heq
 have hn4:v_i5.toNat=((v_s0.take v_i5.toNat++List.replicate (v_s0.length - v_i5.toNat) (⟨ByteArray.empty,([]:List ByteArray),0⟩:Entry)).take v_i5.toNat).length:=by have h1:=both_of hn5; have h3:=hn3; (try simp); (try omega)
 have ho3:=ho2.take v_i5.toNat
 refine Rw' 4 [4] [] [.need ((0:Int)≤v_i5∧v_i5≤((cv_s0:Nat):Int))] [(4,.slice Av_s0 v_i5.toNat cv_s0)] (fun w hh=>⟨(both_of hn5).1,(by have h1:=(both_of hn5).2; have h2:=(show v_s0.length≤cv_s0 from by have:=ho2.cap; have:=hn3; omega); have h3:=hn3; omega)⟩) ?_
 obtain rfl:=Option.some.inj heq
 exact RunH.done (by kernel_rfl) Tryd.func76 (v:=.slice Av_s0 v_i5.toNat cv_s0) (by kernel_rfl) ⟨Av_s0,cv_s0,ch1,rfl,(by first | rfl | exact congrArg (fun q=>Value.slice _ q _) hn4 | (rw [hn4]) | (simp only [← hn4])),rfl,ho3⟩
theorem slices_DeleteFunc_Entry.j3_c {w0:World} {H:Hp} {F:List Ch} {r:(List Entry)} (backl2:(List (ByteArray × Bool))→(List Entry)→Int→Int→Option (List Entry))
  (hbackl2:∀ (ga1q0:Nat) (a1q0:List (ByteArray × Bool)) (Aa1q0_0:Option Nat) (v_s0:List Entry) (Av_s0:Option Addr) (nv_s0:Nat) (cv_s0:Nat) (chv_s0:Ch) (v_i5:Int) (v_j6:Int) ,Mw Value.string Kd.bool false H F Aa1q0_0 a1q0→InG H F ga1q0 (.cells #[.map Aa1q0_0] 101 (0,0))→SlOwn kEntry 51 H Av_s0 cv_s0 v_s0 chv_s0→nv_s0=v_s0.length→backl2 a1q0 v_s0 v_i5 v_j6=some r→RunH C76 (S76 F H r) H w0 [.c [1,1,1,0,1,0,0],.l [1,1,1,0,1,0,0],.b 0,.c [1,1,1,1]] [(0,.slice Av_s0 nv_s0 cv_s0),(1,.func (.func 77) #[] #[.pointer (some ⟨ga1q0,0,none⟩)]),(5,iv v_i5),(6,iv v_j6)] H (chv_s0::F)):∀ (ga1q0:Nat) (a1q0:List (ByteArray × Bool)) (Aa1q0_0:Option Nat) (v_j6:Int) (v_s0:List Entry) (Av_s0:Option Addr) (nv_s0:Nat) (cv_s0:Nat) (chv_s0:Ch) (v_i5:Int) ,Mw Value.string Kd.bool false H F Aa1q0_0 a1q0→InG H F ga1q0 (.cells #[.map Aa1q0_0] 101 (0,0))→SlOwn kEntry 51 H Av_s0 cv_s0 v_s0 chv_s0→nv_s0=v_s0.length→slices_DeleteFunc_Entry.j3 backl2 a1q0 v_j6 v_s0 v_i5=some r→RunH C76 (S76 F H r) H w0 [.c [1,1,1,0,1,0,0,1,1],.l [1,1,1,0,1,0,0],.b 0,.c [1,1,1,1]] [(0,.slice Av_s0 nv_s0 cv_s0),(1,.func (.func 77) #[] #[.pointer (some ⟨ga1q0,0,none⟩)]),(5,iv v_i5),(6,iv v_j6)] H (chv_s0::F):=by
 intro ga1q0 a1q0 Aa1q0_0 v_j6 v_s0 Av_s0 nv_s0 cv_s0 chv_s0 v_i5 hra1q0_0 hga1q0 hov_s0 hnv_s0 heq
 subst hnv_s0
 unfold slices_DeleteFunc_Entry.j3 at heq
 refine Rr<|Rd 3 [0,1,5,6] [(0,.slice Av_s0 v_s0.length cv_s0),(1,.func (.func 77) #[] #[.pointer (some ⟨ga1q0,0,none⟩)]),(5,iv v_i5),(6,iv (w64 (v_j6+1)))]<|Ad 1 [.c [1,1,1,0,1,0,0],.l [1,1,1,0,1,0,0],.b 0,.c [1,1,1,1]]<|Kp [0,1,5,6] [(0,.slice Av_s0 v_s0.length cv_s0),(1,.func (.func 77) #[] #[.pointer (some ⟨ga1q0,0,none⟩)]),(5,iv v_i5),(6,iv (w64 (v_j6+1)))] ?_
 exact hbackl2 _ a1q0 _ v_s0 _ _ _ _ v_i5 (w64 (v_j6+1)) hra1q0_0 hga1q0 hov_s0 rfl heq
theorem slices_DeleteFunc_Entry.l2_c {w0:World} {H:Hp} {F:List Ch} {r:(List Entry)} (e1:(List Entry)→Int→Option (List Entry))
  (he1:∀ (v_s0:List Entry) (Av_s0:Option Addr) (nv_s0:Nat) (cv_s0:Nat) (chv_s0:Ch) (v_i5:Int) ,SlOwn kEntry 51 H Av_s0 cv_s0 v_s0 chv_s0→nv_s0=v_s0.length→e1 v_s0 v_i5=some r→RunH C76 (S76 F H r) H w0 [.c [1,1,1,1,0],.c [1,1,1,1,1]] [(0,.slice Av_s0 nv_s0 cv_s0),(5,iv v_i5)] H (chv_s0::F)):∀ (k:Nat),∀ (ga1q0:Nat) (a1q0:List (ByteArray × Bool)) (Aa1q0_0:Option Nat) (v_s0:List Entry) (Av_s0:Option Addr) (nv_s0:Nat) (cv_s0:Nat) (chv_s0:Ch) (v_i5:Int) (v_j6:Int) ,Mw Value.string Kd.bool false H F Aa1q0_0 a1q0→InG H F ga1q0 (.cells #[.map Aa1q0_0] 101 (0,0))→SlOwn kEntry 51 H Av_s0 cv_s0 v_s0 chv_s0→nv_s0=v_s0.length→slices_DeleteFunc_Entry.l2 e1 k a1q0 v_s0 v_i5 v_j6=some r→RunH C76 (S76 F H r) H w0 [.c [1,1,1,0,1,0,0],.l [1,1,1,0,1,0,0],.b 0,.c [1,1,1,1]] [(0,.slice Av_s0 nv_s0 cv_s0),(1,.func (.func 77) #[] #[.pointer (some ⟨ga1q0,0,none⟩)]),(5,iv v_i5),(6,iv v_j6)] H (chv_s0::F):=by
 intro k
 induction k with
 | zero=>intro ga1q0 a1q0 Aa1q0_0 v_s0 Av_s0 nv_s0 cv_s0 chv_s0 v_i5 v_j6 hra1q0_0 hga1q0 hov_s0 hnv_s0 heq; exact nomatch (show (none:Option (List Entry))=some r from heq)
 | succ k ihk =>
  intro ga1q0 a1q0 Aa1q0_0 v_s0 Av_s0 nv_s0 cv_s0 chv_s0 v_i5 v_j6 hra1q0_0 hga1q0 hov_s0 hnv_s0 heq
  subst hnv_s0
  rw [slices_DeleteFunc_Entry.l2] at heq
  refine Ra 2 [1,1,1,0,1,0,0,0,0] [.c [1,1,1,0,1,0,0,0,1],.c [1,1,1,0,1,0,0,1],.l [1,1,1,0,1,0,0],.b 0,.c [1,1,1,1]]<|Rd 4 [0,1,5,6,19] [(0,.slice Av_s0 v_s0.length cv_s0),(1,.func (.func 77) #[] #[.pointer (some ⟨ga1q0,0,none⟩)]),(5,iv v_i5),(6,iv v_j6),(19,.bool (decide (v_j6<(v_s0.length:Int))))] ?_
  rcases bool_cases (decide (v_j6<(v_s0.length:Int))) with hb2 | hb2
  ·replace heq:=bif_true hb2 heq
   refine Ct (decide (v_j6<(v_s0.length:Int))) hb2<|Ra 4 [1,1,1,0,1,0,0,1,0,0,0] [.c [1,1,1,0,1,0,0,1,0,0,1],.b 1,.c [1,1,1,0,1,0,0,1,1],.l [1,1,1,0,1,0,0],.b 0,.c [1,1,1,1]] ?_
   obtain ⟨x1,hx1,heq⟩:=bind_some heq
   obtain ⟨ha1,cs1,hK1,hcc1⟩:=hov_s0.get hx1
   obtain ⟨A1,c1,rfl,hc1,hr1⟩:=kEntry_open hK1
   refine Rv 4 [0,1,5,6,25] [.string x1.Key,.slice A1 x1.Refs.length c1,iv x1.Used] [.need (Av_s0=some (adr Av_s0)∧(0:Int)≤v_j6∧v_j6<((v_s0.length:Nat):Int)),.load (((adr Av_s0).add (v_j6.toNat*3)).add 0) (.string x1.Key),.load (((adr Av_s0).add (v_j6.toNat*3)).add 1) (.slice A1 x1.Refs.length c1),.load (((adr Av_s0).add (v_j6.toNat*3)).add 2) (iv x1.Used)] [(0,.slice Av_s0 v_s0.length cv_s0),(1,.func (.func 77) #[] #[.pointer (some ⟨ga1q0,0,none⟩)]),(5,iv v_i5),(6,iv v_j6),(25,.agg #[.string x1.Key,.slice A1 x1.Refs.length c1,iv x1.Used])] (fun w hh=>⟨⟨ha1,(at?_some hx1).1,(at?_some hx1).2.1⟩,(hcc1 _ (hh.chin 0 rfl) 0 _ rfl),(hcc1 _ (hh.chin 0 rfl) 1 _ rfl),(hcc1 _ (hh.chin 0 rfl) 2 _ rfl)⟩) ?_
   refine RgH.does (DoesH.new (d:=7) (v:=fun g=>.pointer (some ⟨g,0,none⟩)) (o:=fun g=>.cells #[.string ByteArray.empty,.slice none 0 0,iv 0] 51 (0,0)) (fun g=>by kernel_rfl)) ?_
   rintro _ _ _ _ ⟨g1,rfl,rfl,rfl⟩
   refine RgH.does (DoesH.store (k:=0) (g:=g1) (off:=0) (v:=.agg #[.string x1.Key,.slice A1 x1.Refs.length c1,iv x1.Used]) (cells':=#[.string x1.Key,.slice A1 x1.Refs.length c1,iv x1.Used]) (by kernel_rfl) rfl (by kernel_rfl) (by kernel_rfl)) ?_
   rintro _ _ _ _ ⟨rfl,rfl,rfl⟩
   refine Dn<|Ra 1 [1,1,1,0,1,0,0,1,0,0,1,0] [.c [1,1,1,0,1,0,0,1,0,0,1,1],.b 1,.c [1,1,1,0,1,0,0,1,1],.l [1,1,1,0,1,0,0],.b 0,.c [1,1,1,1]]<|Rv 2 [0,1,5,6,7,26,27] [.string x1.Key,.slice A1 x1.Refs.length c1,iv x1.Used] [.load ⟨g1,0,none⟩ (.string x1.Key),.load ⟨g1,1,none⟩ (.slice A1 x1.Refs.length c1),.load ⟨g1,2,none⟩ (iv x1.Used)] [(0,.slice Av_s0 v_s0.length cv_s0),(1,.func (.func 77) #[] #[.pointer (some ⟨ga1q0,0,none⟩)]),(5,iv v_i5),(6,iv v_j6),(7,pg g1 0),(26,.func (.func 77) #[] #[.pointer (some ⟨ga1q0,0,none⟩)]),(27,.agg #[.string x1.Key,.slice A1 x1.Refs.length c1,iv x1.Used])] (fun w hh=>⟨(hh.box 0 rfl rfl),(hh.box 0 rfl rfl),(hh.box 0 rfl rfl)⟩) ?_
   obtain ⟨y2,hy2,heq⟩:=bind_some heq
   refine RgH.does (DoesH.call (d:=28) (g:=77) (args:=#[.agg #[.string x1.Key,.slice A1 x1.Refs.length c1,iv x1.Used],.pointer (some ⟨ga1q0,0,none⟩)]) (by kernel_rfl) (cache_Swept_2_c (a0:=x1) (a1:=a1q0) (Rw.of hr1) hc1 rfl (hra1q0_0.wk (fun _ h=>(.tail _ (.tail _ h)))) (hga1q0.wk (fun _ h=>(.tail _ (.tail _ h)))) hy2)) ?_
   rintro _ _ _ _ ⟨_,rfl,rfl,rfl,rfl⟩
   refine Rd 4 [0,1,5,6,7,29] [(0,.slice Av_s0 v_s0.length cv_s0),(1,.func (.func 77) #[] #[.pointer (some ⟨ga1q0,0,none⟩)]),(5,iv v_i5),(6,iv v_j6),(7,pg g1 0),(29,.bool (!y2))] ?_
   rcases bool_cases (!y2) with hb3 | hb3
   ·replace heq:=bif_true hb3 heq
    refine Ct (!y2) hb3<|Ra 1 [1,1,1,0,1,0,0,1,0,0,1,1,0,0] [.c [1,1,1,0,1,0,0,1,0,0,1,1,0,1],.b 1,.c [1,1,1,0,1,0,0,1,1],.l [1,1,1,0,1,0,0],.b 0,.c [1,1,1,1]] ?_
    obtain ⟨x2,hx2,heq⟩:=bind_some heq
    obtain ⟨ha2,cs2,hK2,hcc2⟩:=hov_s0.get hx2
    obtain ⟨A2,c2,rfl,hc2,hr2⟩:=kEntry_open hK2
    refine Rv 4 [0,1,5,6,32,33] [.string x1.Key,.slice A1 x1.Refs.length c1,iv x1.Used] [.load ⟨g1,0,none⟩ (.string x1.Key),.load ⟨g1,1,none⟩ (.slice A1 x1.Refs.length c1),.load ⟨g1,2,none⟩ (iv x1.Used),.need (Av_s0=some (adr Av_s0)∧(0:Int)≤v_i5∧v_i5<((v_s0.length:Nat):Int))] [(0,.slice Av_s0 v_s0.length cv_s0),(1,.func (.func 77) #[] #[.pointer (some ⟨ga1q0,0,none⟩)]),(5,iv v_i5),(6,iv v_j6),(32,.agg #[.string x1.Key,.slice A1 x1.Refs.length c1,iv x1.Used]),(33,.pointer (some ((adr Av_s0).add (v_i5.toNat*3))))] (fun w hh=>⟨(hh.box 0 rfl rfl),(hh.box 0 rfl rfl),(hh.box 0 rfl rfl),⟨ha2,(at?_some hx2).1,(at?_some hx2).2.1⟩⟩) ?_
    obtain ⟨ha3,cs3,hK3,hcc3⟩:=hov_s0.get hx2
    obtain ⟨A3,c3,rfl,hc3,hr3⟩:=kEntry_open hK3
    refine RgH.does (DoesH.storeEl (a:=((adr Av_s0).add (v_i5.toNat*3))) (k:=1) (kd:=kEntry) (c0:=[.string x2.Key,.slice A3 x2.Refs.length c3,iv x2.Used]) (x':=x1) (o:=0) (ix:=v_i5) (v:=.agg #[.string x1.Key,.slice A1 x1.Refs.length c1,iv x1.Used]) (by kernel_rfl) rfl hov_s0 hx2 (by kernel_rfl) hcc3 rfl (Nat.le_of_ble_eq_true (by kernel_rfl)) (kEntry_mk hc1 hr1)) ?_
    rintro _ _ _ _ ⟨ch2,rfl,rfl,rfl,ho4⟩
    have hn6:v_s0.length=(v_s0.set v_i5.toNat x1).length:=by rw [List.length_set]
    refine Dn<|Rr<|Rd 3 [0,1,5,6] [(0,.slice Av_s0 v_s0.length cv_s0),(1,.func (.func 77) #[] #[.pointer (some ⟨ga1q0,0,none⟩)]),(5,iv (w64 (v_i5+1))),(6,iv v_j6)]<|Ad 1 [.c [1,1,1,0,1,0,0,1,1],.l [1,1,1,0,1,0,0],.b 0,.c [1,1,1,1]]<|Kp [0,1,5,6] [(0,.slice Av_s0 v_s0.length cv_s0),(1,.func (.func 77) #[] #[.pointer (some ⟨ga1q0,0,none⟩)]),(5,iv (w64 (v_i5+1))),(6,iv v_j6)] ?_
    refine RunH.pick 2 [1] (cs':=ch2::F) (by kernel_rfl) rfl ?_
    exact (slices_DeleteFunc_Entry.j3_c (backl2:=(slices_DeleteFunc_Entry.l2 e1 k)) ihk) _ a1q0 _ v_j6 (v_s0.set v_i5.toNat x1) _ _ _ _ (w64 (v_i5+1)) hra1q0_0 hga1q0 ho4 hn6 heq
   ·replace heq:=bif_false hb3 heq
    refine Cf (!y2) hb3<|Ad 2 [.c [1,1,1,0,1,0,0,1,1],.l [1,1,1,0,1,0,0],.b 0,.c [1,1,1,1]]<|Kp [0,1,5,6] [(0,.slice Av_s0 v_s0.length cv_s0),(1,.func (.func 77) #[] #[.pointer (some ⟨ga1q0,0,none⟩)]),(5,iv v_i5),(6,iv v_j6)] ?_
    refine RunH.pick 2 [1] (cs':=chv_s0::F) (by kernel_rfl) rfl ?_
    exact (slices_DeleteFunc_Entry.j3_c (backl2:=(slices_DeleteFunc_Entry.l2 e1 k)) ihk) _ a1q0 _ v_j6 v_s0 _ _ _ _ v_i5 hra1q0_0 hga1q0 hov_s0 rfl heq
  ·replace heq:=bif_false hb2 heq
   refine Cf (decide (v_j6<(v_s0.length:Int))) hb2<|Ad 2 [.c [1,1,1,1,0],.c [1,1,1,1,1]]<|Kp [0,5] [(0,.slice Av_s0 v_s0.length cv_s0),(5,iv v_i5)] ?_
   exact he1 v_s0 _ _ _ _ v_i5 hov_s0 rfl heq
theorem slices_DeleteFunc_Entry_c {w0:World} {H:Hp} {F:List Ch} {a0:List Entry} {Aa0:Option Addr} {na0:Nat} {ca0:Nat} {cha0:Ch} {ga1q0:Nat} {a1q0:List (ByteArray × Bool)} {Aa1q0_0:Option Nat} {r:(List Entry)} (hoa0:SlOwn kEntry 51 H Aa0 ca0 a0 cha0) (hna0:na0=a0.length) (hra1q0_0:Mw Value.string Kd.bool false H F Aa1q0_0 a1q0) (hga1q0:InG H F ga1q0 (.cells #[.map Aa1q0_0] 101 (0,0))) (heq:slices_DeleteFunc_Entry.f a0 a1q0=some r):CallsH Tryd.prog 76 #[.slice Aa0 na0 ca0,.func (.func 77) #[] #[.pointer (some ⟨ga1q0,0,none⟩)]] H w0 (cha0::F) (S76 F H r):=by
 refine calls_of_runH (F:=C76) Tryd.func76 (by kernel_rfl) Tryd.ntmps76 (args:=[.slice Aa0 na0 ca0,.func (.func 77) #[] #[.pointer (some ⟨ga1q0,0,none⟩)]]) (by kernel_rfl) ?_
 subst hna0
 unfold slices_DeleteFunc_Entry.f at heq
 refine Ra 1 [0] [.c [1]]<|Rd 1 [0,1] [(0,.slice Aa0 a0.length ca0),(1,.func (.func 77) #[] #[.pointer (some ⟨ga1q0,0,none⟩)])]<|Ra 1 [1,0] [.c [1,1]]<|Rk 2 [0,1,8,9] [(0,.slice Aa0 a0.length ca0),(1,.func (.func 77) #[] #[.pointer (some ⟨ga1q0,0,none⟩)]),(8,.slice Aa0 a0.length ca0),(9,.func (.func 77) #[] #[.pointer (some ⟨ga1q0,0,none⟩)])] ?_
 obtain ⟨y1,hy1,heq⟩:=bind_some heq
 refine RgH.does (DoesH.call (d:=10) (g:=111) (args:=#[.slice Aa0 a0.length ca0,.func (.func 77) #[] #[.pointer (some ⟨ga1q0,0,none⟩)]]) (by kernel_rfl) (slices_IndexFunc_Entry_c (a0:=a0) (a1q0:=a1q0) (hoa0.rw (.head _)) hoa0.cap rfl (hra1q0_0.wk (fun _ h=>(.tail _ h))) (hga1q0.wk (fun _ h=>(.tail _ h))) hy1)) ?_
 rintro _ _ _ _ ⟨_,rfl,rfl,rfl,rfl⟩
 refine Rd 4 [0,1,5] [(0,.slice Aa0 a0.length ca0),(1,.func (.func 77) #[] #[.pointer (some ⟨ga1q0,0,none⟩)]),(5,iv y1)]<|Ra 2 [1,1,0,0] [.c [1,1,0,1],.c [1,1,1]]<|Rd 2 [0,1,5,12] [(0,.slice Aa0 a0.length ca0),(1,.func (.func 77) #[] #[.pointer (some ⟨ga1q0,0,none⟩)]),(5,iv y1),(12,.bool (y1 == (-1)))] ?_
 rcases bool_cases (y1 == (-1)) with hb1 | hb1
 ·replace heq:=bif_true hb1 heq
  refine Ct (y1 == (-1)) hb1<|Ra 1 [1,1,0,1,0,0] [.c [1,1,0,1,0,1],.c [1,1,1]]<|Rd 2 [4] [(4,.slice Aa0 a0.length ca0)] ?_
  obtain rfl:=Option.some.inj heq
  exact RunH.done (by kernel_rfl) Tryd.func76 (v:=.slice Aa0 a0.length ca0) (by kernel_rfl) ⟨Aa0,ca0,cha0,rfl,rfl,rfl,hoa0⟩
 ·replace heq:=bif_false hb1 heq
  refine Cf (y1 == (-1)) hb1<|Ra 3 [1,1,1,0,0] [.c [1,1,1,0,1],.c [1,1,1,1]]<|Rd 3 [0,1,5,6] [(0,.slice Aa0 a0.length ca0),(1,.func (.func 77) #[] #[.pointer (some ⟨ga1q0,0,none⟩)]),(5,iv y1),(6,iv (w64 (y1+1)))]<|Ad 2 [.c [1,1,1,0,1,0,0],.l [1,1,1,0,1,0,0],.b 0,.c [1,1,1,1]]<|Kp [0,1,5,6] [(0,.slice Aa0 a0.length ca0),(1,.func (.func 77) #[] #[.pointer (some ⟨ga1q0,0,none⟩)]),(5,iv y1),(6,iv (w64 (y1+1)))] ?_
  exact ((slices_DeleteFunc_Entry.l2_c (e1:=slices_DeleteFunc_Entry.e1) (slices_DeleteFunc_Entry.e1_c)) big) _ a1q0 _ a0 _ _ _ _ y1 (w64 (y1+1)) hra1q0_0 hga1q0 hoa0 rfl heq
noncomputable def C30:Ctx:={ P:=Tryd.prog,f:=30,N:=93,c:=bodyOf Tryd.f30 }
def S30 (F:List Ch) (H0:Hp) (r:Cache × (List ByteArray) × Int) (v:Value) (H:Hp) (cs:List Ch):Prop:=∃ (A0_2:Option Addr) (c0_2:Nat) (ch0_2:Ch) (A0_3:Option Addr) (c0_3:Nat) (ch0_3:Ch) (A1:Option Addr) (c1:Nat) (ch1:Ch),v=.tuple #[.agg #[iv r.1.Room,iv r.1.Lease,.slice A0_2 r.1.Blobs.length c0_2,.slice A0_3 r.1.Entries.length c0_3],.slice A1 r.2.1.length c1,iv r.2.2]∧ch0_2::ch0_3::ch1::F=cs∧SlOwn kBlob 47 H A0_2 c0_2 r.1.Blobs ch0_2∧SlOwn kEntry 51 H A0_3 c0_3 r.1.Entries ch0_3∧SlOwn Kd.string 9 H A1 c1 r.2.1 ch1
theorem cache_Swept.e2_c {w0:World} {H0:Hp} {F:List Ch} {r:Cache × (List ByteArray) × Int}:∀ (H:Hp) (a2:Int) (g1:Nat) (g2:Nat) (g3:Nat) (y3:Cache) (A1:Option Addr) (c1:Nat) (ch1:Ch) (A2:Option Addr) (c2:Nat) (ch2:Ch) (g6:Nat) (g7:Nat) (v_isRoot12_0:List (ByteArray × Bool)) (gv_isRoot12_0:Nat) (chv_isRoot12_0:Ch) (v_wanted11_0:List (ByteArray × Bool)) (gv_wanted11_0:Nat) (chv_wanted11_0:Ch) ,SlOwn kBlob 47 H A1 c1 y3.Blobs ch1→SlOwn kEntry 51 H A2 c2 y3.Entries ch2→MpOwn Value.string Kd.bool false H gv_isRoot12_0 v_isRoot12_0 chv_isRoot12_0→MpOwn Value.string Kd.bool false H gv_wanted11_0 v_wanted11_0 chv_wanted11_0→cache_Swept.e2 a2 y3 v_isRoot12_0 v_wanted11_0=some r→RunH C30 (S30 F H0 r) H0 w0 [.c [1,1,1,1,1,1,1,0],.c [1,1,1,1,1,1,1,1]] [(3,pg g1 0),(5,pg g2 0),(6,pg g3 0),(11,pg g6 0),(12,pg g7 0)] H ((some (g7,.cells #[.map (some gv_isRoot12_0)] 101 (0,0)))::(some (g6,.cells #[.map (some gv_wanted11_0)] 101 (0,0)))::chv_isRoot12_0::chv_wanted11_0::ch1::ch2::(some (g3,.cells #[iv 0,iv 0,.slice none 0 0,.slice none 0 0] 25 (0,0)))::(some (g2,.cells #[iv a2] 3 (0,0)))::(some (g1,.cells #[iv y3.Room,iv y3.Lease,.slice A1 y3.Blobs.length c1,.slice A2 y3.Entries.length c2] 25 (0,0)))::F):=by
 intro H a2 g1 g2 g3 y3 A1 c1 ch1 A2 c2 ch2 g6 g7 v_isRoot12_0 gv_isRoot12_0 chv_isRoot12_0 v_wanted11_0 gv_wanted11_0 chv_wanted11_0 ho7 ho8 hov_isRoot12_0 hov_wanted11_0 heq
 unfold cache_Swept.e2 at heq
 refine Rr<|Rv 2 [3,5,6,11,12,79] [.slice A1 y3.Blobs.length c1] [.load ⟨g1,2,none⟩ (.slice A1 y3.Blobs.length c1)] [(3,pg g1 0),(5,pg g2 0),(6,pg g3 0),(11,pg g6 0),(12,pg g7 0),(79,.slice A1 y3.Blobs.length c1)] (fun w hh=>(hh.box 8 rfl rfl)) ?_
 obtain ⟨y4,hy4,heq⟩:=bind_some heq
 refine RgH.does (DoesH.call (d:=80) (g:=55) (args:=#[.slice A1 y3.Blobs.length c1]) (by kernel_rfl) (slices_Clone_Blob_c (a0:=y3.Blobs) (ho7.rw (.tail _ (.tail _ (.tail _ (.tail _ (.head _)))))) ho7.cap rfl hy4)) ?_
 rintro _ _ _ _ ⟨_,rfl,A3,c3,ch3,rfl,rfl,rfl,ho11⟩
 refine Rk 4 [3,6,12,80,81] [(3,pg g1 0),(6,pg g3 0),(12,pg g7 0),(80,.slice A3 y4.length c3),(81,.func (.func 73) #[] #[.pointer (some ⟨g2,0,none⟩),.pointer (some ⟨g6,0,none⟩)])] ?_
 obtain ⟨y5,hy5,heq⟩:=bind_some heq
 refine RgH.does (DoesH.call (d:=82) (g:=72) (args:=#[.slice A3 y4.length c3,.func (.func 73) #[] #[.pointer (some ⟨g2,0,none⟩),.pointer (some ⟨g6,0,none⟩)]]) (by kernel_rfl) (slices_DeleteFunc_Blob_c (a0:=y4) (a1q0:=a2) (a1q1:=v_wanted11_0) ho11 rfl (.inr (.tail _ (.tail _ (.tail _ (.tail _ (.tail _ (.tail _ (.tail _ (.head _))))))))) (hov_wanted11_0.mw (.tail _ (.tail _ (.tail _ (.head _))))) (.inr (.tail _ (.head _))) hy5)) ?_
 rintro _ _ _ _ ⟨_,rfl,A4,c4,ch4,rfl,rfl,rfl,ho12⟩
 obtain ⟨y6,hy6,heq⟩:=bind_some heq
 refine RgH.does (DoesH.call (d:=83) (g:=71) (args:=#[.slice A4 y5.length c4]) (by kernel_rfl) (cache_digestsOf_c (a0:=y5) (ho12.rw (.head _)) ho12.cap rfl hy6)) ?_
 rintro _ _ _ _ ⟨_,rfl,A5,c5,ch5,rfl,rfl,rfl,ho13⟩
 refine Rd 7 [3,6,12,19] [(3,pg g1 0),(6,pg g3 0),(12,pg g7 0),(19,.slice A5 y6.length c5)]<|Ra 1 [1,1,1,1,1,1,1,1,0] [.c [1,1,1,1,1,1,1,1,1]]<|Rk 1 [3,6,12,19,84] [(3,pg g1 0),(6,pg g3 0),(12,pg g7 0),(19,.slice A5 y6.length c5),(84,.slice A5 y6.length c5)] ?_
 refine RgH.pick 11 [10,6,7,0,1,2,3,4,5,8,9] (cs':=(some (g1,.cells #[iv y3.Room,iv y3.Lease,.slice A1 y3.Blobs.length c1,.slice A2 y3.Entries.length c2] 25 (0,0)))::ch1::ch2::ch5::ch4::(some (g7,.cells #[.map (some gv_isRoot12_0)] 101 (0,0)))::(some (g6,.cells #[.map (some gv_wanted11_0)] 101 (0,0)))::chv_isRoot12_0::chv_wanted11_0::(some (g3,.cells #[iv 0,iv 0,.slice none 0 0,.slice none 0 0] 25 (0,0)))::(some (g2,.cells #[iv a2] 3 (0,0)))::F) (by kernel_rfl) rfl ?_
 obtain ⟨y7,hy7,heq⟩:=bind_some heq
 refine RgH.does (DoesH.call (d:=85) (g:=75) (args:=#[.pointer (some ⟨g1,0,none⟩),.slice A5 y6.length c5]) (by kernel_rfl) (cache_drop_c (a0:=(⟨y3.Room,y3.Lease,y3.Blobs,y3.Entries⟩:Cache)) (a1:=y6) ho7 rfl ho8 rfl (ho13.rw (.head _)) ho13.cap rfl hy7)) ?_
 rintro _ _ _ _ ⟨_,rfl,A6,c6,ch6,A7,c7,ch7,rfl,rfl,rfl,ho14,ho15⟩
 refine Dn<|Ra 1 [1,1,1,1,1,1,1,1,1,0] [.c [1,1,1,1,1,1,1,1,1,1]]<|Rv 3 [3,6,19,87,88] [.slice A7 y7.Entries.length c7] [.load ⟨g1,3,none⟩ (.slice A7 y7.Entries.length c7)] [(3,pg g1 0),(6,pg g3 0),(19,.slice A5 y6.length c5),(87,.slice A7 y7.Entries.length c7),(88,.func (.func 77) #[] #[.pointer (some ⟨g7,0,none⟩)])] (fun w hh=>(hh.box 0 rfl rfl)) ?_
 refine RgH.pick 11 [2,0,1,3,4,5,6,7,8,9,10] (cs':=ch7::(some (g1,.cells #[iv y7.Room,iv y7.Lease,.slice A6 y7.Blobs.length c6,.slice A7 y7.Entries.length c7] 25 (0,0)))::ch6::ch5::ch4::(some (g7,.cells #[.map (some gv_isRoot12_0)] 101 (0,0)))::(some (g6,.cells #[.map (some gv_wanted11_0)] 101 (0,0)))::chv_isRoot12_0::chv_wanted11_0::(some (g3,.cells #[iv 0,iv 0,.slice none 0 0,.slice none 0 0] 25 (0,0)))::(some (g2,.cells #[iv a2] 3 (0,0)))::F) (by kernel_rfl) rfl ?_
 obtain ⟨y8,hy8,heq⟩:=bind_some heq
 refine RgH.does (DoesH.call (d:=89) (g:=76) (args:=#[.slice A7 y7.Entries.length c7,.func (.func 77) #[] #[.pointer (some ⟨g7,0,none⟩)]]) (by kernel_rfl) (slices_DeleteFunc_Entry_c (a0:=y7.Entries) (a1q0:=v_isRoot12_0) ho15 rfl (hov_isRoot12_0.mw (.tail _ (.tail _ (.tail _ (.tail _ (.tail _ (.tail _ (.head _)))))))) (.inr (.tail _ (.tail _ (.tail _ (.tail _ (.head _)))))) hy8)) ?_
 rintro _ _ _ _ ⟨_,rfl,A8,c8,ch8,rfl,rfl,rfl,ho16⟩
 refine Rk 5 [3,6,19,89,90] [(3,pg g1 0),(6,pg g3 0),(19,.slice A5 y6.length c5),(89,.slice A8 y8.length c8),(90,pg g1 3)] ?_
 refine RgH.does (DoesH.store (k:=1) (g:=g1) (off:=3) (v:=.slice A8 y8.length c8) (cells':=#[iv y7.Room,iv y7.Lease,.slice A6 y7.Blobs.length c6,.slice A8 y8.length c8]) (by kernel_rfl) rfl (by kernel_rfl) (by kernel_rfl)) ?_
 rintro _ _ _ _ ⟨rfl,rfl,rfl⟩
 refine Dn<|Ra 1 [1,1,1,1,1,1,1,1,1,1,0] [.c [1,1,1,1,1,1,1,1,1,1,1]]<|Rv 2 [6,91,92] [iv y7.Room,iv y7.Lease,.slice A6 y7.Blobs.length c6,.slice A8 y8.length c8] [.load ⟨g1,0,none⟩ (iv y7.Room),.load ⟨g1,1,none⟩ (iv y7.Lease),.load ⟨g1,2,none⟩ (.slice A6 y7.Blobs.length c6),.load ⟨g1,3,none⟩ (.slice A8 y8.length c8)] [(6,pg g3 0),(91,.agg #[iv y7.Room,iv y7.Lease,.slice A6 y7.Blobs.length c6,.slice A8 y8.length c8]),(92,.slice A5 y6.length c5)] (fun w hh=>⟨(hh.box 1 rfl rfl),(hh.box 1 rfl rfl),(hh.box 1 rfl rfl),(hh.box 1 rfl rfl)⟩) ?_
 refine RgH.does (DoesH.store (k:=9) (g:=g3) (off:=0) (v:=.agg #[iv y7.Room,iv y7.Lease,.slice A6 y7.Blobs.length c6,.slice A8 y8.length c8]) (cells':=#[iv y7.Room,iv y7.Lease,.slice A6 y7.Blobs.length c6,.slice A8 y8.length c8]) (by kernel_rfl) rfl (by kernel_rfl) (by kernel_rfl)) ?_
 rintro _ _ _ _ ⟨rfl,rfl,rfl⟩
 refine Rd 5 [6,7,8] [(6,pg g3 0),(7,.slice A5 y6.length c5),(8,iv 0)] ?_
 obtain rfl:=Option.some.inj heq
 refine RunH.pick 11 [9,2,0,3] (cs':=(some (g3,.cells #[iv y7.Room,iv y7.Lease,.slice A6 y7.Blobs.length c6,.slice A8 y8.length c8] 25 (0,0)))::ch6::ch8::ch5::F) (by kernel_rfl) rfl ?_
 exact RunH.doneM' 1 (vs:=[.agg #[iv y7.Room,iv y7.Lease,.slice A6 y7.Blobs.length c6,.slice A8 y8.length c8],.slice A5 y6.length c5,iv 0]) (v:=.tuple #[.agg #[iv y7.Room,iv y7.Lease,.slice A6 y7.Blobs.length c6,.slice A8 y8.length c8],.slice A5 y6.length c5,iv 0]) (by kernel_rfl) Tryd.func30 (fun w hh=>show ResAll _ _ _ [.cell 6 25,.tmp 7,.tmp 8] _ from ⟨⟨⟨g3,0,none⟩,by kernel_rfl,trS_run _ (vs:=[iv y7.Room,iv y7.Lease,.slice A6 y7.Blobs.length c6,.slice A8 y8.length c8]) (r:=[]) (es:=[.load ⟨g3,0,none⟩ (iv y7.Room),.load ⟨g3,1,none⟩ (iv y7.Lease),.load ⟨g3,2,none⟩ (.slice A6 y7.Blobs.length c6),.load ⟨g3,3,none⟩ (.slice A8 y8.length c8)]) (by kernel_rfl) ⟨(hh.box 0 rfl rfl),(hh.box 0 rfl rfl),(hh.box 0 rfl rfl),(hh.box 0 rfl rfl)⟩⟩,(show lk _ _=some _ by kernel_rfl),(show lk _ _=some _ by kernel_rfl),trivial⟩) rfl (cs':=ch6::ch8::ch5::F) rfl ⟨A6,c6,ch6,A8,c8,ch8,A5,c5,ch5,rfl,rfl,ho14,ho16,ho13⟩
theorem cache_Swept.j4_c {w0:World} {H0:Hp} {F:List Ch} {r:Cache × (List ByteArray) × Int} (backl3:Int→Cache→(List (ByteArray × Bool))→(List (ByteArray × Bool))→Int→Option (Cache × (List ByteArray) × Int))
  (hbackl3:∀ (H:Hp) (a2:Int) (g1:Nat) (g2:Nat) (g3:Nat) (y3:Cache) (A1:Option Addr) (c1:Nat) (ch1:Ch) (A2:Option Addr) (c2:Nat) (ch2:Ch) (g6:Nat) (g7:Nat) (v_isRoot12_0:List (ByteArray × Bool)) (gv_isRoot12_0:Nat) (chv_isRoot12_0:Ch) (v_wanted11_0:List (ByteArray × Bool)) (gv_wanted11_0:Nat) (chv_wanted11_0:Ch) (v51:Int) ,SlOwn kBlob 47 H A1 c1 y3.Blobs ch1→SlOwn kEntry 51 H A2 c2 y3.Entries ch2→MpOwn Value.string Kd.bool false H gv_isRoot12_0 v_isRoot12_0 chv_isRoot12_0→MpOwn Value.string Kd.bool false H gv_wanted11_0 v_wanted11_0 chv_wanted11_0→backl3 a2 y3 v_isRoot12_0 v_wanted11_0 v51=some r→RunH C30 (S30 F H0 r) H0 w0 [.c [1,1,1,1,1,1,0,1,0,0],.l [1,1,1,1,1,1,0,1,0,0],.b 2,.c [1,1,1,1,1,1,1]] [(3,pg g1 0),(5,pg g2 0),(6,pg g3 0),(11,pg g6 0),(12,pg g7 0),(49,.slice A2 y3.Entries.length c2),(50,iv (y3.Entries.length:Int)),(51,iv v51)] H ((some (g7,.cells #[.map (some gv_isRoot12_0)] 101 (0,0)))::(some (g6,.cells #[.map (some gv_wanted11_0)] 101 (0,0)))::chv_isRoot12_0::chv_wanted11_0::ch1::ch2::(some (g3,.cells #[iv 0,iv 0,.slice none 0 0,.slice none 0 0] 25 (0,0)))::(some (g2,.cells #[iv a2] 3 (0,0)))::(some (g1,.cells #[iv y3.Room,iv y3.Lease,.slice A1 y3.Blobs.length c1,.slice A2 y3.Entries.length c2] 25 (0,0)))::F)):∀ (H:Hp) (a2:Int) (g1:Nat) (g2:Nat) (g3:Nat) (y3:Cache) (A1:Option Addr) (c1:Nat) (ch1:Ch) (A2:Option Addr) (c2:Nat) (ch2:Ch) (g6:Nat) (g7:Nat) (v_isRoot12_0:List (ByteArray × Bool)) (gv_isRoot12_0:Nat) (chv_isRoot12_0:Ch) (v51:Int) (v_wanted11_0:List (ByteArray × Bool)) (gv_wanted11_0:Nat) (chv_wanted11_0:Ch) ,SlOwn kBlob 47 H A1 c1 y3.Blobs ch1→SlOwn kEntry 51 H A2 c2 y3.Entries ch2→MpOwn Value.string Kd.bool false H gv_isRoot12_0 v_isRoot12_0 chv_isRoot12_0→MpOwn Value.string Kd.bool false H gv_wanted11_0 v_wanted11_0 chv_wanted11_0→cache_Swept.j4 backl3 a2 y3 v_isRoot12_0 v51 v_wanted11_0=some r→RunH C30 (S30 F H0 r) H0 w0 [.c [1,1,1,1,1,1,0,1,0,0,1,1,1],.l [1,1,1,1,1,1,0,1,0,0],.b 2,.c [1,1,1,1,1,1,1]] [(3,pg g1 0),(5,pg g2 0),(6,pg g3 0),(11,pg g6 0),(12,pg g7 0),(49,.slice A2 y3.Entries.length c2),(50,iv (y3.Entries.length:Int)),(51,iv v51)] H ((some (g7,.cells #[.map (some gv_isRoot12_0)] 101 (0,0)))::(some (g6,.cells #[.map (some gv_wanted11_0)] 101 (0,0)))::chv_isRoot12_0::chv_wanted11_0::ch1::ch2::(some (g3,.cells #[iv 0,iv 0,.slice none 0 0,.slice none 0 0] 25 (0,0)))::(some (g2,.cells #[iv a2] 3 (0,0)))::(some (g1,.cells #[iv y3.Room,iv y3.Lease,.slice A1 y3.Blobs.length c1,.slice A2 y3.Entries.length c2] 25 (0,0)))::F):=by
 intro H a2 g1 g2 g3 y3 A1 c1 ch1 A2 c2 ch2 g6 g7 v_isRoot12_0 gv_isRoot12_0 chv_isRoot12_0 v51 v_wanted11_0 gv_wanted11_0 chv_wanted11_0 ho7 ho8 hov_isRoot12_0 hov_wanted11_0 heq
 unfold cache_Swept.j4 at heq
 refine Rr<|Rd 2 [3,5,6,11,12,49,50,51] [(3,pg g1 0),(5,pg g2 0),(6,pg g3 0),(11,pg g6 0),(12,pg g7 0),(49,.slice A2 y3.Entries.length c2),(50,iv (y3.Entries.length:Int)),(51,iv (w64 (v51+1)))]<|Ad 1 [.c [1,1,1,1,1,1,0,1,0,0],.l [1,1,1,1,1,1,0,1,0,0],.b 2,.c [1,1,1,1,1,1,1]]<|Kp [3,5,6,11,12,49,50,51] [(3,pg g1 0),(5,pg g2 0),(6,pg g3 0),(11,pg g6 0),(12,pg g7 0),(49,.slice A2 y3.Entries.length c2),(50,iv (y3.Entries.length:Int)),(51,iv (w64 (v51+1)))] ?_
 exact hbackl3 _ a2 _ _ _ y3 _ _ _ _ _ _ _ _ v_isRoot12_0 _ _ v_wanted11_0 _ _ (w64 (v51+1)) ho7 ho8 hov_isRoot12_0 hov_wanted11_0 heq
theorem cache_Swept.l5_c {w0:World} {H0:Hp} {F:List Ch} {r:Cache × (List ByteArray) × Int} (j4:Int→Cache→(List (ByteArray × Bool))→Int→(List (ByteArray × Bool))→Option (Cache × (List ByteArray) × Int))
  (hj4:∀ (H:Hp) (a2:Int) (g1:Nat) (g2:Nat) (g3:Nat) (y3:Cache) (A1:Option Addr) (c1:Nat) (ch1:Ch) (A2:Option Addr) (c2:Nat) (ch2:Ch) (g6:Nat) (g7:Nat) (v_isRoot12_0:List (ByteArray × Bool)) (gv_isRoot12_0:Nat) (chv_isRoot12_0:Ch) (v51:Int) (v_wanted11_0:List (ByteArray × Bool)) (gv_wanted11_0:Nat) (chv_wanted11_0:Ch) ,SlOwn kBlob 47 H A1 c1 y3.Blobs ch1→SlOwn kEntry 51 H A2 c2 y3.Entries ch2→MpOwn Value.string Kd.bool false H gv_isRoot12_0 v_isRoot12_0 chv_isRoot12_0→MpOwn Value.string Kd.bool false H gv_wanted11_0 v_wanted11_0 chv_wanted11_0→j4 a2 y3 v_isRoot12_0 v51 v_wanted11_0=some r→RunH C30 (S30 F H0 r) H0 w0 [.c [1,1,1,1,1,1,0,1,0,0,1,1,1],.l [1,1,1,1,1,1,0,1,0,0],.b 2,.c [1,1,1,1,1,1,1]] [(3,pg g1 0),(5,pg g2 0),(6,pg g3 0),(11,pg g6 0),(12,pg g7 0),(49,.slice A2 y3.Entries.length c2),(50,iv (y3.Entries.length:Int)),(51,iv v51)] H ((some (g7,.cells #[.map (some gv_isRoot12_0)] 101 (0,0)))::(some (g6,.cells #[.map (some gv_wanted11_0)] 101 (0,0)))::chv_isRoot12_0::chv_wanted11_0::ch1::ch2::(some (g3,.cells #[iv 0,iv 0,.slice none 0 0,.slice none 0 0] 25 (0,0)))::(some (g2,.cells #[iv a2] 3 (0,0)))::(some (g1,.cells #[iv y3.Room,iv y3.Lease,.slice A1 y3.Blobs.length c1,.slice A2 y3.Entries.length c2] 25 (0,0)))::F)):∀ (k:Nat),∀ (H:Hp) (a2:Int) (g1:Nat) (g2:Nat) (g3:Nat) (y3:Cache) (A1:Option Addr) (c1:Nat) (ch1:Ch) (A2:Option Addr) (c2:Nat) (ch2:Ch) (g6:Nat) (g7:Nat) (v_isRoot12_0:List (ByteArray × Bool)) (gv_isRoot12_0:Nat) (chv_isRoot12_0:Ch) (v51:Int) (x1:Entry) (A9:Option Addr) (c9:Nat) (v_wanted11_0:List (ByteArray × Bool)) (gv_wanted11_0:Nat) (chv_wanted11_0:Ch) (v70:Int) ,SlOwn kBlob 47 H A1 c1 y3.Blobs ch1→SlOwn kEntry 51 H A2 c2 y3.Entries ch2→MpOwn Value.string Kd.bool false H gv_isRoot12_0 v_isRoot12_0 chv_isRoot12_0→Kd.Row Kd.string H A9 x1.Refs→x1.Refs.length≤c9→MpOwn Value.string Kd.bool false H gv_wanted11_0 v_wanted11_0 chv_wanted11_0→cache_Swept.l5 j4 k a2 y3 v_isRoot12_0 v51 x1 v_wanted11_0 v70=some r→RunH C30 (S30 F H0 r) H0 w0 [.c [1,1,1,1,1,1,0,1,0,0,1,1,0,0,1,1,0,1,0,0],.l [1,1,1,1,1,1,0,1,0,0,1,1,0,0,1,1,0,1,0,0],.b 4,.b 3,.c [1,1,1,1,1,1,0,1,0,0,1,1,1],.l [1,1,1,1,1,1,0,1,0,0],.b 2,.c [1,1,1,1,1,1,1]] [(3,pg g1 0),(5,pg g2 0),(6,pg g3 0),(11,pg g6 0),(12,pg g7 0),(49,.slice A2 y3.Entries.length c2),(50,iv (y3.Entries.length:Int)),(51,iv v51),(68,.slice A9 x1.Refs.length c9),(69,iv (x1.Refs.length:Int)),(70,iv v70)] H ((some (g7,.cells #[.map (some gv_isRoot12_0)] 101 (0,0)))::(some (g6,.cells #[.map (some gv_wanted11_0)] 101 (0,0)))::chv_isRoot12_0::chv_wanted11_0::ch1::ch2::(some (g3,.cells #[iv 0,iv 0,.slice none 0 0,.slice none 0 0] 25 (0,0)))::(some (g2,.cells #[iv a2] 3 (0,0)))::(some (g1,.cells #[iv y3.Room,iv y3.Lease,.slice A1 y3.Blobs.length c1,.slice A2 y3.Entries.length c2] 25 (0,0)))::F):=by
 intro k
 induction k with
 | zero=>intro H a2 g1 g2 g3 y3 A1 c1 ch1 A2 c2 ch2 g6 g7 v_isRoot12_0 gv_isRoot12_0 chv_isRoot12_0 v51 x1 A9 c9 v_wanted11_0 gv_wanted11_0 chv_wanted11_0 v70 ho7 ho8 hov_isRoot12_0 hr1 hc1 hov_wanted11_0 heq; exact nomatch (show (none:Option (Cache × (List ByteArray) × Int))=some r from heq)
 | succ k ihk =>
  intro H a2 g1 g2 g3 y3 A1 c1 ch1 A2 c2 ch2 g6 g7 v_isRoot12_0 gv_isRoot12_0 chv_isRoot12_0 v51 x1 A9 c9 v_wanted11_0 gv_wanted11_0 chv_wanted11_0 v70 ho7 ho8 hov_isRoot12_0 hr1 hc1 hov_wanted11_0 heq
  rw [cache_Swept.l5] at heq
  refine Ra 1 [1,1,1,1,1,1,0,1,0,0,1,1,0,0,1,1,0,1,0,0,0] [.c [1,1,1,1,1,1,0,1,0,0,1,1,0,0,1,1,0,1,0,0,1],.l [1,1,1,1,1,1,0,1,0,0,1,1,0,0,1,1,0,1,0,0],.b 4,.b 3,.c [1,1,1,1,1,1,0,1,0,0,1,1,1],.l [1,1,1,1,1,1,0,1,0,0],.b 2,.c [1,1,1,1,1,1,1]]<|Rd 1 [3,5,6,11,12,49,50,51,68,69,70,71] [(3,pg g1 0),(5,pg g2 0),(6,pg g3 0),(11,pg g6 0),(12,pg g7 0),(49,.slice A2 y3.Entries.length c2),(50,iv (y3.Entries.length:Int)),(51,iv v51),(68,.slice A9 x1.Refs.length c9),(69,iv (x1.Refs.length:Int)),(70,iv v70),(71,.bool (decide (v70<(x1.Refs.length:Int))))]<|Ad 1 [.c [1,1,1,1,1,1,0,1,0,0,1,1,0,0,1,1,0,1,0,0,1,0],.c [1,1,1,1,1,1,0,1,0,0,1,1,0,0,1,1,0,1,0,0,1,1],.l [1,1,1,1,1,1,0,1,0,0,1,1,0,0,1,1,0,1,0,0],.b 4,.b 3,.c [1,1,1,1,1,1,0,1,0,0,1,1,1],.l [1,1,1,1,1,1,0,1,0,0],.b 2,.c [1,1,1,1,1,1,1]] ?_
  rcases bool_cases (decide (v70<(x1.Refs.length:Int))) with hb6 | hb6
  ·replace heq:=bif_true hb6 heq
   refine Ct (decide (v70<(x1.Refs.length:Int))) hb6<|Ra 4 [1,1,1,1,1,1,0,1,0,0,1,1,0,0,1,1,0,1,0,0,1,1,0,0,0] [.c [1,1,1,1,1,1,0,1,0,0,1,1,0,0,1,1,0,1,0,0,1,1,0,0,1],.b 5,.c [1,1,1,1,1,1,0,1,0,0,1,1,0,0,1,1,0,1,0,0,1,1,1],.l [1,1,1,1,1,1,0,1,0,0,1,1,0,0,1,1,0,1,0,0],.b 4,.b 3,.c [1,1,1,1,1,1,0,1,0,0,1,1,1],.l [1,1,1,1,1,1,0,1,0,0],.b 2,.c [1,1,1,1,1,1,1]] ?_
   obtain ⟨x2,hx2,heq⟩:=bind_some heq
   obtain ⟨ha2,cs2,hK2,hcc3⟩:=(Rw.of (F:=F) hr1).get hx2
   obtain rfl:cs2=[.string x2]:=hK2
   refine Rw' 3 [3,5,6,11,12,18,49,50,51,68,69,70] [.string x2] [.need (A9=some (adr A9)∧(0:Int)≤v70∧v70<((x1.Refs.length:Nat):Int)),.load ((adr A9).add (v70.toNat*1)) (.string x2)] [(3,pg g1 0),(5,pg g2 0),(6,pg g3 0),(11,pg g6 0),(12,pg g7 0),(18,.string x2),(49,.slice A2 y3.Entries.length c2),(50,iv (y3.Entries.length:Int)),(51,iv v51),(68,.slice A9 x1.Refs.length c9),(69,iv (x1.Refs.length:Int)),(70,iv v70)] (fun w hh=>⟨⟨ha2,(at?_some hx2).1,(at?_some hx2).2.1⟩,(hcc3 _ _ (hh.drop 9) 0 _ rfl)⟩)<|Rr<|Rv 2 [3,5,6,11,12,49,50,51,68,69,70,74,75] [.map (some gv_wanted11_0)] [.load ⟨g6,0,none⟩ (.map (some gv_wanted11_0))] [(3,pg g1 0),(5,pg g2 0),(6,pg g3 0),(11,pg g6 0),(12,pg g7 0),(49,.slice A2 y3.Entries.length c2),(50,iv (y3.Entries.length:Int)),(51,iv v51),(68,.slice A9 x1.Refs.length c9),(69,iv (x1.Refs.length:Int)),(70,iv v70),(74,.map (some gv_wanted11_0)),(75,.string x2)] (fun w hh=>(hh.box 1 rfl rfl)) ?_
   refine RgH.does (DoesH.mapUpdate (kk:=3) (cv:=[.bool true]) (k:=x2) (v:=true) (by kernel_rfl) (KyAt.string Tryd.underlying9) rfl rfl rfl hov_wanted11_0) ?_
   rintro _ _ _ _ ⟨ch10,rfl,rfl,rfl,ho18⟩
   refine Dn<|Ra 1 [1,1,1,1,1,1,0,1,0,0,1,1,0,0,1,1,0,1,0,0,1,1,1] [.l [1,1,1,1,1,1,0,1,0,0,1,1,0,0,1,1,0,1,0,0],.b 4,.b 3,.c [1,1,1,1,1,1,0,1,0,0,1,1,1],.l [1,1,1,1,1,1,0,1,0,0],.b 2,.c [1,1,1,1,1,1,1]]<|Rd 2 [3,5,6,11,12,49,50,51,68,69,70] [(3,pg g1 0),(5,pg g2 0),(6,pg g3 0),(11,pg g6 0),(12,pg g7 0),(49,.slice A2 y3.Entries.length c2),(50,iv (y3.Entries.length:Int)),(51,iv v51),(68,.slice A9 x1.Refs.length c9),(69,iv (x1.Refs.length:Int)),(70,iv (w64 (v70+1)))]<|Ad 1 [.c [1,1,1,1,1,1,0,1,0,0,1,1,0,0,1,1,0,1,0,0],.l [1,1,1,1,1,1,0,1,0,0,1,1,0,0,1,1,0,1,0,0],.b 4,.b 3,.c [1,1,1,1,1,1,0,1,0,0,1,1,1],.l [1,1,1,1,1,1,0,1,0,0],.b 2,.c [1,1,1,1,1,1,1]]<|Kp [3,5,6,11,12,49,50,51,68,69,70] [(3,pg g1 0),(5,pg g2 0),(6,pg g3 0),(11,pg g6 0),(12,pg g7 0),(49,.slice A2 y3.Entries.length c2),(50,iv (y3.Entries.length:Int)),(51,iv v51),(68,.slice A9 x1.Refs.length c9),(69,iv (x1.Refs.length:Int)),(70,iv (w64 (v70+1)))] ?_
   exact ihk _ a2 _ _ _ y3 _ _ _ _ _ _ _ _ v_isRoot12_0 _ _ v51 x1 _ _ (mput v_wanted11_0 x2 true) _ _ (w64 (v70+1)) ho7 ho8 hov_isRoot12_0 hr1 hc1 ho18 heq
  ·replace heq:=bif_false hb6 heq
   refine Cf (decide (v70<(x1.Refs.length:Int))) hb6<|Ad 2 [.c [1,1,1,1,1,1,0,1,0,0,1,1,1],.l [1,1,1,1,1,1,0,1,0,0],.b 2,.c [1,1,1,1,1,1,1]]<|Kp [3,5,6,11,12,49,50,51] [(3,pg g1 0),(5,pg g2 0),(6,pg g3 0),(11,pg g6 0),(12,pg g7 0),(49,.slice A2 y3.Entries.length c2),(50,iv (y3.Entries.length:Int)),(51,iv v51)] ?_
   exact hj4 _ a2 _ _ _ y3 _ _ _ _ _ _ _ _ v_isRoot12_0 _ _ v51 v_wanted11_0 _ _ ho7 ho8 hov_isRoot12_0 hov_wanted11_0 heq
theorem cache_Swept.l3_c {w0:World} {H0:Hp} {F:List Ch} {r:Cache × (List ByteArray) × Int} (e2:Int→Cache→(List (ByteArray × Bool))→(List (ByteArray × Bool))→Option (Cache × (List ByteArray) × Int))
  (he2:∀ (H:Hp) (a2:Int) (g1:Nat) (g2:Nat) (g3:Nat) (y3:Cache) (A1:Option Addr) (c1:Nat) (ch1:Ch) (A2:Option Addr) (c2:Nat) (ch2:Ch) (g6:Nat) (g7:Nat) (v_isRoot12_0:List (ByteArray × Bool)) (gv_isRoot12_0:Nat) (chv_isRoot12_0:Ch) (v_wanted11_0:List (ByteArray × Bool)) (gv_wanted11_0:Nat) (chv_wanted11_0:Ch) ,SlOwn kBlob 47 H A1 c1 y3.Blobs ch1→SlOwn kEntry 51 H A2 c2 y3.Entries ch2→MpOwn Value.string Kd.bool false H gv_isRoot12_0 v_isRoot12_0 chv_isRoot12_0→MpOwn Value.string Kd.bool false H gv_wanted11_0 v_wanted11_0 chv_wanted11_0→e2 a2 y3 v_isRoot12_0 v_wanted11_0=some r→RunH C30 (S30 F H0 r) H0 w0 [.c [1,1,1,1,1,1,1,0],.c [1,1,1,1,1,1,1,1]] [(3,pg g1 0),(5,pg g2 0),(6,pg g3 0),(11,pg g6 0),(12,pg g7 0)] H ((some (g7,.cells #[.map (some gv_isRoot12_0)] 101 (0,0)))::(some (g6,.cells #[.map (some gv_wanted11_0)] 101 (0,0)))::chv_isRoot12_0::chv_wanted11_0::ch1::ch2::(some (g3,.cells #[iv 0,iv 0,.slice none 0 0,.slice none 0 0] 25 (0,0)))::(some (g2,.cells #[iv a2] 3 (0,0)))::(some (g1,.cells #[iv y3.Room,iv y3.Lease,.slice A1 y3.Blobs.length c1,.slice A2 y3.Entries.length c2] 25 (0,0)))::F)):∀ (k:Nat),∀ (H:Hp) (a2:Int) (g1:Nat) (g2:Nat) (g3:Nat) (y3:Cache) (A1:Option Addr) (c1:Nat) (ch1:Ch) (A2:Option Addr) (c2:Nat) (ch2:Ch) (g6:Nat) (g7:Nat) (v_isRoot12_0:List (ByteArray × Bool)) (gv_isRoot12_0:Nat) (chv_isRoot12_0:Ch) (v_wanted11_0:List (ByteArray × Bool)) (gv_wanted11_0:Nat) (chv_wanted11_0:Ch) (v51:Int) ,SlOwn kBlob 47 H A1 c1 y3.Blobs ch1→SlOwn kEntry 51 H A2 c2 y3.Entries ch2→MpOwn Value.string Kd.bool false H gv_isRoot12_0 v_isRoot12_0 chv_isRoot12_0→MpOwn Value.string Kd.bool false H gv_wanted11_0 v_wanted11_0 chv_wanted11_0→cache_Swept.l3 e2 k a2 y3 v_isRoot12_0 v_wanted11_0 v51=some r→RunH C30 (S30 F H0 r) H0 w0 [.c [1,1,1,1,1,1,0,1,0,0],.l [1,1,1,1,1,1,0,1,0,0],.b 2,.c [1,1,1,1,1,1,1]] [(3,pg g1 0),(5,pg g2 0),(6,pg g3 0),(11,pg g6 0),(12,pg g7 0),(49,.slice A2 y3.Entries.length c2),(50,iv (y3.Entries.length:Int)),(51,iv v51)] H ((some (g7,.cells #[.map (some gv_isRoot12_0)] 101 (0,0)))::(some (g6,.cells #[.map (some gv_wanted11_0)] 101 (0,0)))::chv_isRoot12_0::chv_wanted11_0::ch1::ch2::(some (g3,.cells #[iv 0,iv 0,.slice none 0 0,.slice none 0 0] 25 (0,0)))::(some (g2,.cells #[iv a2] 3 (0,0)))::(some (g1,.cells #[iv y3.Room,iv y3.Lease,.slice A1 y3.Blobs.length c1,.slice A2 y3.Entries.length c2] 25 (0,0)))::F):=by
 intro k
 induction k with
 | zero=>intro H a2 g1 g2 g3 y3 A1 c1 ch1 A2 c2 ch2 g6 g7 v_isRoot12_0 gv_isRoot12_0 chv_isRoot12_0 v_wanted11_0 gv_wanted11_0 chv_wanted11_0 v51 ho7 ho8 hov_isRoot12_0 hov_wanted11_0 heq; exact nomatch (show (none:Option (Cache × (List ByteArray) × Int))=some r from heq)
 | succ k ihk =>
  intro H a2 g1 g2 g3 y3 A1 c1 ch1 A2 c2 ch2 g6 g7 v_isRoot12_0 gv_isRoot12_0 chv_isRoot12_0 v_wanted11_0 gv_wanted11_0 chv_wanted11_0 v51 ho7 ho8 hov_isRoot12_0 hov_wanted11_0 heq
  rw [cache_Swept.l3] at heq
  refine Ra 1 [1,1,1,1,1,1,0,1,0,0,0] [.c [1,1,1,1,1,1,0,1,0,0,1],.l [1,1,1,1,1,1,0,1,0,0],.b 2,.c [1,1,1,1,1,1,1]]<|Rd 1 [3,5,6,11,12,49,50,51,52] [(3,pg g1 0),(5,pg g2 0),(6,pg g3 0),(11,pg g6 0),(12,pg g7 0),(49,.slice A2 y3.Entries.length c2),(50,iv (y3.Entries.length:Int)),(51,iv v51),(52,.bool (decide (v51<(y3.Entries.length:Int))))]<|Ad 1 [.c [1,1,1,1,1,1,0,1,0,0,1,0],.c [1,1,1,1,1,1,0,1,0,0,1,1],.l [1,1,1,1,1,1,0,1,0,0],.b 2,.c [1,1,1,1,1,1,1]] ?_
  rcases bool_cases (decide (v51<(y3.Entries.length:Int))) with hb3 | hb3
  ·replace heq:=bif_true hb3 heq
   refine Ct (decide (v51<(y3.Entries.length:Int))) hb3<|Ra 4 [1,1,1,1,1,1,0,1,0,0,1,1,0,0,0] [.c [1,1,1,1,1,1,0,1,0,0,1,1,0,0,1],.b 3,.c [1,1,1,1,1,1,0,1,0,0,1,1,1],.l [1,1,1,1,1,1,0,1,0,0],.b 2,.c [1,1,1,1,1,1,1]] ?_
   obtain ⟨x1,hx1,heq⟩:=bind_some heq
   obtain ⟨ha1,cs1,hK1,hcc1⟩:=ho8.get hx1
   obtain ⟨A9,c9,rfl,hc1,hr1⟩:=kEntry_open hK1
   refine Rv 2 [3,5,6,11,12,49,50,51,54] [.string x1.Key,.slice A9 x1.Refs.length c9,iv x1.Used] [.need (A2=some (adr A2)∧(0:Int)≤v51∧v51<((y3.Entries.length:Nat):Int)),.load (((adr A2).add (v51.toNat*3)).add 0) (.string x1.Key),.load (((adr A2).add (v51.toNat*3)).add 1) (.slice A9 x1.Refs.length c9),.load (((adr A2).add (v51.toNat*3)).add 2) (iv x1.Used)] [(3,pg g1 0),(5,pg g2 0),(6,pg g3 0),(11,pg g6 0),(12,pg g7 0),(49,.slice A2 y3.Entries.length c2),(50,iv (y3.Entries.length:Int)),(51,iv v51),(54,.agg #[.string x1.Key,.slice A9 x1.Refs.length c9,iv x1.Used])] (fun w hh=>⟨⟨ha1,(at?_some hx1).1,(at?_some hx1).2.1⟩,(hcc1 _ (hh.chin 5 rfl) 0 _ rfl),(hcc1 _ (hh.chin 5 rfl) 1 _ rfl),(hcc1 _ (hh.chin 5 rfl) 2 _ rfl)⟩) ?_
   refine RgH.does (DoesH.new (d:=16) (v:=fun g=>.pointer (some ⟨g,0,none⟩)) (o:=fun g=>.cells #[.string ByteArray.empty,.slice none 0 0,iv 0] 51 (0,0)) (fun g=>by kernel_rfl)) ?_
   rintro _ _ _ _ ⟨g8,rfl,rfl,rfl⟩
   refine RgH.does (DoesH.store (k:=0) (g:=g8) (off:=0) (v:=.agg #[.string x1.Key,.slice A9 x1.Refs.length c9,iv x1.Used]) (cells':=#[.string x1.Key,.slice A9 x1.Refs.length c9,iv x1.Used]) (by kernel_rfl) rfl (by kernel_rfl) (by kernel_rfl)) ?_
   rintro _ _ _ _ ⟨rfl,rfl,rfl⟩
   refine Dn<|Ad 1 [.c [1,1,1,1,1,1,0,1,0,0,1,1,0,0,1,0],.c [1,1,1,1,1,1,0,1,0,0,1,1,0,0,1,1],.b 3,.c [1,1,1,1,1,1,0,1,0,0,1,1,1],.l [1,1,1,1,1,1,0,1,0,0],.b 2,.c [1,1,1,1,1,1,1]] ?_
   obtain ⟨t1,ht1,heq⟩:=bind_some heq
   have K28:∀ (H:Hp),SlOwn kBlob 47 H A1 c1 y3.Blobs ch1→SlOwn kEntry 51 H A2 c2 y3.Entries ch2→MpOwn Value.string Kd.bool false H gv_isRoot12_0 v_isRoot12_0 chv_isRoot12_0→MpOwn Value.string Kd.bool false H gv_wanted11_0 v_wanted11_0 chv_wanted11_0→Kd.Row Kd.string H A9 x1.Refs→RunH C30 (S30 F H0 r) H0 w0 [.c [1,1,1,1,1,1,0,1,0,0,1,1,0,0,1,1],.b 3,.c [1,1,1,1,1,1,0,1,0,0,1,1,1],.l [1,1,1,1,1,1,0,1,0,0],.b 2,.c [1,1,1,1,1,1,1]] [(3,pg g1 0),(5,pg g2 0),(6,pg g3 0),(11,pg g6 0),(12,pg g7 0),(16,pg g8 0),(49,.slice A2 y3.Entries.length c2),(50,iv (y3.Entries.length:Int)),(51,iv v51),(66,.bool t1)] H ((some (g8,.cells #[.string x1.Key,.slice A9 x1.Refs.length c9,iv x1.Used] 51 (0,0)))::(some (g7,.cells #[.map (some gv_isRoot12_0)] 101 (0,0)))::(some (g6,.cells #[.map (some gv_wanted11_0)] 101 (0,0)))::chv_isRoot12_0::chv_wanted11_0::ch1::ch2::(some (g3,.cells #[iv 0,iv 0,.slice none 0 0,.slice none 0 0] 25 (0,0)))::(some (g2,.cells #[iv a2] 3 (0,0)))::(some (g1,.cells #[iv y3.Room,iv y3.Lease,.slice A1 y3.Blobs.length c1,.slice A2 y3.Entries.length c2] 25 (0,0)))::F):=by
    intro H ho7 ho8 hov_isRoot12_0 hov_wanted11_0 hr1
    rcases bool_cases (t1) with hb5 | hb5
    ·replace heq:=bif_true hb5 heq
     refine Ct t1 hb5<|Ra 1 [1,1,1,1,1,1,0,1,0,0,1,1,0,0,1,1,0,0] [.c [1,1,1,1,1,1,0,1,0,0,1,1,0,0,1,1,0,1],.b 3,.c [1,1,1,1,1,1,0,1,0,0,1,1,1],.l [1,1,1,1,1,1,0,1,0,0],.b 2,.c [1,1,1,1,1,1,1]]<|Rw' 4 [3,5,6,11,12,49,50,51,68,69,70] [.slice A9 x1.Refs.length c9] [.load ⟨g8,1,none⟩ (.slice A9 x1.Refs.length c9)] [(3,pg g1 0),(5,pg g2 0),(6,pg g3 0),(11,pg g6 0),(12,pg g7 0),(49,.slice A2 y3.Entries.length c2),(50,iv (y3.Entries.length:Int)),(51,iv v51),(68,.slice A9 x1.Refs.length c9),(69,iv (x1.Refs.length:Int)),(70,iv 0)] (fun w hh=>(hh.box 0 rfl rfl))<|Ad 2 [.c [1,1,1,1,1,1,0,1,0,0,1,1,0,0,1,1,0,1,0,0],.l [1,1,1,1,1,1,0,1,0,0,1,1,0,0,1,1,0,1,0,0],.b 4,.b 3,.c [1,1,1,1,1,1,0,1,0,0,1,1,1],.l [1,1,1,1,1,1,0,1,0,0],.b 2,.c [1,1,1,1,1,1,1]]<|Kp [3,5,6,11,12,49,50,51,68,69,70] [(3,pg g1 0),(5,pg g2 0),(6,pg g3 0),(11,pg g6 0),(12,pg g7 0),(49,.slice A2 y3.Entries.length c2),(50,iv (y3.Entries.length:Int)),(51,iv v51),(68,.slice A9 x1.Refs.length c9),(69,iv (x1.Refs.length:Int)),(70,iv 0)] ?_
     refine RunH.pick 10 [1,2,3,4,5,6,7,8,9] (cs':=(some (g7,.cells #[.map (some gv_isRoot12_0)] 101 (0,0)))::(some (g6,.cells #[.map (some gv_wanted11_0)] 101 (0,0)))::chv_isRoot12_0::chv_wanted11_0::ch1::ch2::(some (g3,.cells #[iv 0,iv 0,.slice none 0 0,.slice none 0 0] 25 (0,0)))::(some (g2,.cells #[iv a2] 3 (0,0)))::(some (g1,.cells #[iv y3.Room,iv y3.Lease,.slice A1 y3.Blobs.length c1,.slice A2 y3.Entries.length c2] 25 (0,0)))::F) (by kernel_rfl) rfl ?_
     exact ((cache_Swept.l5_c (j4:=cache_Swept.j4 ((cache_Swept.l3 e2 k))) (cache_Swept.j4_c (backl3:=(cache_Swept.l3 e2 k)) ihk)) big) _ a2 _ _ _ y3 _ _ _ _ _ _ _ _ v_isRoot12_0 _ _ v51 x1 _ _ v_wanted11_0 _ _ 0 ho7 ho8 hov_isRoot12_0 hr1 hc1 hov_wanted11_0 heq
    ·replace heq:=bif_false hb5 heq
     refine Cf t1 hb5<|Ad 2 [.c [1,1,1,1,1,1,0,1,0,0,1,1,1],.l [1,1,1,1,1,1,0,1,0,0],.b 2,.c [1,1,1,1,1,1,1]]<|Kp [3,5,6,11,12,49,50,51] [(3,pg g1 0),(5,pg g2 0),(6,pg g3 0),(11,pg g6 0),(12,pg g7 0),(49,.slice A2 y3.Entries.length c2),(50,iv (y3.Entries.length:Int)),(51,iv v51)] ?_
     refine RunH.pick 10 [1,2,3,4,5,6,7,8,9] (cs':=(some (g7,.cells #[.map (some gv_isRoot12_0)] 101 (0,0)))::(some (g6,.cells #[.map (some gv_wanted11_0)] 101 (0,0)))::chv_isRoot12_0::chv_wanted11_0::ch1::ch2::(some (g3,.cells #[iv 0,iv 0,.slice none 0 0,.slice none 0 0] 25 (0,0)))::(some (g2,.cells #[iv a2] 3 (0,0)))::(some (g1,.cells #[iv y3.Room,iv y3.Lease,.slice A1 y3.Blobs.length c1,.slice A2 y3.Entries.length c2] 25 (0,0)))::F) (by kernel_rfl) rfl ?_
     exact (cache_Swept.j4_c (backl3:=(cache_Swept.l3 e2 k)) ihk) _ a2 _ _ _ y3 _ _ _ _ _ _ _ _ v_isRoot12_0 _ _ v51 v_wanted11_0 _ _ ho7 ho8 hov_isRoot12_0 hov_wanted11_0 heq
   replace heq:=ht1
   refine Rr<|Rv 3 [3,5,6,11,12,16,49,50,51,55,57] [.map (some gv_isRoot12_0),.string x1.Key] [.load ⟨g7,0,none⟩ (.map (some gv_isRoot12_0)),.load ⟨g8,0,none⟩ (.string x1.Key)] [(3,pg g1 0),(5,pg g2 0),(6,pg g3 0),(11,pg g6 0),(12,pg g7 0),(16,pg g8 0),(49,.slice A2 y3.Entries.length c2),(50,iv (y3.Entries.length:Int)),(51,iv v51),(55,.map (some gv_isRoot12_0)),(57,.string x1.Key)] (fun w hh=>⟨(hh.box 1 rfl rfl),(hh.box 0 rfl rfl)⟩) ?_
   refine RgH.does (DoesH.lookup (d:=58) (t:=101) (m:=v_isRoot12_0) (k:=x1.Key) (z:=.bool false) (zc:=[.bool false]) (z0:=false) (ok:=false) (kd:=Kd.bool) (ag:=false) (by kernel_rfl) (KyAt.string Tryd.underlying9) rfl rfl (fun w hh=>hov_isRoot12_0.on (hh.chin 3 rfl))) ?_
   rintro _ _ _ _ ⟨cc1,rfl,rfl,rfl,hcc2⟩
   obtain rfl:cc1=[.bool (mgetD v_isRoot12_0 x1.Key false)]:=hcc2
   refine RgH.val1 (v':=.bool (mgetD v_isRoot12_0 x1.Key false)) rfl ?_
   refine Rk 5 [59,3,5,6,11,12,16,49,50,51] [(59,.bool (mgetD v_isRoot12_0 x1.Key false)),(3,pg g1 0),(5,pg g2 0),(6,pg g3 0),(11,pg g6 0),(12,pg g7 0),(16,pg g8 0),(49,.slice A2 y3.Entries.length c2),(50,iv (y3.Entries.length:Int)),(51,iv v51)] ?_
   rcases bool_cases (mgetD v_isRoot12_0 x1.Key false) with hb4 | hb4
   ·replace heq:=bif_true hb4 heq
    refine RgH.val1 (v':=.bool true) (congrArg Value.bool hb4) ?_
    refine Rv 8 [3,5,6,11,12,16,49,50,51,59,60,62] [iv y3.Room,iv y3.Lease,.slice A1 y3.Blobs.length c1,.slice A2 y3.Entries.length c2,.slice A9 x1.Refs.length c9] [.load ⟨g1,0,none⟩ (iv y3.Room),.load ⟨g1,1,none⟩ (iv y3.Lease),.load ⟨g1,2,none⟩ (.slice A1 y3.Blobs.length c1),.load ⟨g1,3,none⟩ (.slice A2 y3.Entries.length c2),.load ⟨g8,1,none⟩ (.slice A9 x1.Refs.length c9)] [(3,pg g1 0),(5,pg g2 0),(6,pg g3 0),(11,pg g6 0),(12,pg g7 0),(16,pg g8 0),(49,.slice A2 y3.Entries.length c2),(50,iv (y3.Entries.length:Int)),(51,iv v51),(59,.bool true),(60,.agg #[iv y3.Room,iv y3.Lease,.slice A1 y3.Blobs.length c1,.slice A2 y3.Entries.length c2]),(62,.slice A9 x1.Refs.length c9)] (fun w hh=>⟨(hh.box 9 rfl rfl),(hh.box 9 rfl rfl),(hh.box 9 rfl rfl),(hh.box 9 rfl rfl),(hh.box 0 rfl rfl)⟩) ?_
    obtain ⟨y9,hy9,heq⟩:=bind_some heq
    refine RgH.does (DoesH.call (d:=63) (g:=67) (args:=#[.agg #[iv y3.Room,iv y3.Lease,.slice A1 y3.Blobs.length c1,.slice A2 y3.Entries.length c2],.slice A9 x1.Refs.length c9]) (by kernel_rfl) (cache_missing_c (a0:=(⟨y3.Room,y3.Lease,y3.Blobs,y3.Entries⟩:Cache)) (a1:=x1.Refs) (ho7.rw (.tail _ (.tail _ (.tail _ (.tail _ (.tail _ (.head _))))))) ho7.cap rfl (ho8.rw (.tail _ (.tail _ (.tail _ (.tail _ (.tail _ (.tail _ (.head _)))))))) ho8.cap rfl (Rw.of hr1) hc1 rfl hy9)) ?_
    rintro _ _ _ _ ⟨_,rfl,A10,c10,ch9,rfl,rfl,rfl,ho17⟩
    refine Rk 12 [3,5,6,11,12,16,49,50,51,66] [(3,pg g1 0),(5,pg g2 0),(6,pg g3 0),(11,pg g6 0),(12,pg g7 0),(16,pg g8 0),(49,.slice A2 y3.Entries.length c2),(50,iv (y3.Entries.length:Int)),(51,iv v51),(66,.bool ((y9.length:Int) == 0))] ?_
    obtain rfl:=Option.some.inj heq
    refine Kg [3,5,6,11,12,16,49,50,51,66] [(3,pg g1 0),(5,pg g2 0),(6,pg g3 0),(11,pg g6 0),(12,pg g7 0),(16,pg g8 0),(49,.slice A2 y3.Entries.length c2),(50,iv (y3.Entries.length:Int)),(51,iv v51),(66,.bool ((y9.length:Int) == 0))] ?_
    refine RgH.pick 11 [1,2,3,4,5,6,7,8,9,10] (cs':=(some (g8,.cells #[.string x1.Key,.slice A9 x1.Refs.length c9,iv x1.Used] 51 (0,0)))::(some (g7,.cells #[.map (some gv_isRoot12_0)] 101 (0,0)))::(some (g6,.cells #[.map (some gv_wanted11_0)] 101 (0,0)))::chv_isRoot12_0::chv_wanted11_0::ch1::ch2::(some (g3,.cells #[iv 0,iv 0,.slice none 0 0,.slice none 0 0] 25 (0,0)))::(some (g2,.cells #[iv a2] 3 (0,0)))::(some (g1,.cells #[iv y3.Room,iv y3.Lease,.slice A1 y3.Blobs.length c1,.slice A2 y3.Entries.length c2] 25 (0,0)))::F) (by kernel_rfl) rfl ?_
    refine Dn ?_
    exact K28 _ ho7 ho8 hov_isRoot12_0 hov_wanted11_0 hr1
   ·replace heq:=bif_false hb4 heq
    refine RgH.val1 (v':=.bool false) (congrArg Value.bool hb4) ?_
    refine Rk 12 [3,5,6,11,12,16,49,50,51,66] [(3,pg g1 0),(5,pg g2 0),(6,pg g3 0),(11,pg g6 0),(12,pg g7 0),(16,pg g8 0),(49,.slice A2 y3.Entries.length c2),(50,iv (y3.Entries.length:Int)),(51,iv v51),(66,.bool false)] ?_
    obtain rfl:=Option.some.inj heq
    refine Kg [3,5,6,11,12,16,49,50,51,66] [(3,pg g1 0),(5,pg g2 0),(6,pg g3 0),(11,pg g6 0),(12,pg g7 0),(16,pg g8 0),(49,.slice A2 y3.Entries.length c2),(50,iv (y3.Entries.length:Int)),(51,iv v51),(66,.bool false)]<|Dn ?_
    exact K28 _ ho7 ho8 hov_isRoot12_0 hov_wanted11_0 hr1
  ·replace heq:=bif_false hb3 heq
   refine Cf (decide (v51<(y3.Entries.length:Int))) hb3<|Ad 2 [.c [1,1,1,1,1,1,1,0],.c [1,1,1,1,1,1,1,1]]<|Kp [3,5,6,11,12] [(3,pg g1 0),(5,pg g2 0),(6,pg g3 0),(11,pg g6 0),(12,pg g7 0)] ?_
   exact he2 _ a2 _ _ _ y3 _ _ _ _ _ _ _ _ v_isRoot12_0 _ _ v_wanted11_0 _ _ ho7 ho8 hov_isRoot12_0 hov_wanted11_0 heq
theorem cache_Swept.e1_c {w0:World} {H0:Hp} {F:List Ch} {r:Cache × (List ByteArray) × Int}:∀ (H:Hp) (a2:Int) (g1:Nat) (g2:Nat) (g3:Nat) (y3:Cache) (A1:Option Addr) (c1:Nat) (ch1:Ch) (A2:Option Addr) (c2:Nat) (ch2:Ch) (g6:Nat) (g7:Nat) (v_wanted11_0:List (ByteArray × Bool)) (gv_wanted11_0:Nat) (chv_wanted11_0:Ch) (v_isRoot12_0:List (ByteArray × Bool)) (gv_isRoot12_0:Nat) (chv_isRoot12_0:Ch) ,SlOwn kBlob 47 H A1 c1 y3.Blobs ch1→SlOwn kEntry 51 H A2 c2 y3.Entries ch2→MpOwn Value.string Kd.bool false H gv_wanted11_0 v_wanted11_0 chv_wanted11_0→MpOwn Value.string Kd.bool false H gv_isRoot12_0 v_isRoot12_0 chv_isRoot12_0→cache_Swept.e1 a2 y3 v_wanted11_0 v_isRoot12_0=some r→RunH C30 (S30 F H0 r) H0 w0 [.c [1,1,1,1,1,1,0,0],.c [1,1,1,1,1,1,0,1],.c [1,1,1,1,1,1,1]] [(3,pg g1 0),(5,pg g2 0),(6,pg g3 0),(11,pg g6 0),(12,pg g7 0)] H ((some (g7,.cells #[.map (some gv_isRoot12_0)] 101 (0,0)))::(some (g6,.cells #[.map (some gv_wanted11_0)] 101 (0,0)))::chv_isRoot12_0::chv_wanted11_0::ch1::ch2::(some (g3,.cells #[iv 0,iv 0,.slice none 0 0,.slice none 0 0] 25 (0,0)))::(some (g2,.cells #[iv a2] 3 (0,0)))::(some (g1,.cells #[iv y3.Room,iv y3.Lease,.slice A1 y3.Blobs.length c1,.slice A2 y3.Entries.length c2] 25 (0,0)))::F):=by
 intro H a2 g1 g2 g3 y3 A1 c1 ch1 A2 c2 ch2 g6 g7 v_wanted11_0 gv_wanted11_0 chv_wanted11_0 v_isRoot12_0 gv_isRoot12_0 chv_isRoot12_0 ho7 ho8 hov_wanted11_0 hov_isRoot12_0 heq
 unfold cache_Swept.e1 at heq
 refine Rr<|Rw' 4 [3,5,6,11,12,49,50,51] [.slice A2 y3.Entries.length c2] [.load ⟨g1,3,none⟩ (.slice A2 y3.Entries.length c2)] [(3,pg g1 0),(5,pg g2 0),(6,pg g3 0),(11,pg g6 0),(12,pg g7 0),(49,.slice A2 y3.Entries.length c2),(50,iv (y3.Entries.length:Int)),(51,iv 0)] (fun w hh=>(hh.box 8 rfl rfl))<|Ad 2 [.c [1,1,1,1,1,1,0,1,0,0],.l [1,1,1,1,1,1,0,1,0,0],.b 2,.c [1,1,1,1,1,1,1]]<|Kp [3,5,6,11,12,49,50,51] [(3,pg g1 0),(5,pg g2 0),(6,pg g3 0),(11,pg g6 0),(12,pg g7 0),(49,.slice A2 y3.Entries.length c2),(50,iv (y3.Entries.length:Int)),(51,iv 0)] ?_
 exact ((cache_Swept.l3_c (e2:=cache_Swept.e2) (cache_Swept.e2_c)) big) _ a2 _ _ _ y3 _ _ _ _ _ _ _ _ v_isRoot12_0 _ _ v_wanted11_0 _ _ 0 ho7 ho8 hov_isRoot12_0 hov_wanted11_0 heq
theorem cache_Swept.l6_c {w0:World} {H0:Hp} {F:List Ch} {r:Cache × (List ByteArray) × Int} (e1:Int→Cache→(List (ByteArray × Bool))→(List (ByteArray × Bool))→Option (Cache × (List ByteArray) × Int))
  (he1:∀ (H:Hp) (a2:Int) (g1:Nat) (g2:Nat) (g3:Nat) (y3:Cache) (A1:Option Addr) (c1:Nat) (ch1:Ch) (A2:Option Addr) (c2:Nat) (ch2:Ch) (g6:Nat) (g7:Nat) (v_wanted11_0:List (ByteArray × Bool)) (gv_wanted11_0:Nat) (chv_wanted11_0:Ch) (v_isRoot12_0:List (ByteArray × Bool)) (gv_isRoot12_0:Nat) (chv_isRoot12_0:Ch) ,SlOwn kBlob 47 H A1 c1 y3.Blobs ch1→SlOwn kEntry 51 H A2 c2 y3.Entries ch2→MpOwn Value.string Kd.bool false H gv_wanted11_0 v_wanted11_0 chv_wanted11_0→MpOwn Value.string Kd.bool false H gv_isRoot12_0 v_isRoot12_0 chv_isRoot12_0→e1 a2 y3 v_wanted11_0 v_isRoot12_0=some r→RunH C30 (S30 F H0 r) H0 w0 [.c [1,1,1,1,1,1,0,0],.c [1,1,1,1,1,1,0,1],.c [1,1,1,1,1,1,1]] [(3,pg g1 0),(5,pg g2 0),(6,pg g3 0),(11,pg g6 0),(12,pg g7 0)] H ((some (g7,.cells #[.map (some gv_isRoot12_0)] 101 (0,0)))::(some (g6,.cells #[.map (some gv_wanted11_0)] 101 (0,0)))::chv_isRoot12_0::chv_wanted11_0::ch1::ch2::(some (g3,.cells #[iv 0,iv 0,.slice none 0 0,.slice none 0 0] 25 (0,0)))::(some (g2,.cells #[iv a2] 3 (0,0)))::(some (g1,.cells #[iv y3.Room,iv y3.Lease,.slice A1 y3.Blobs.length c1,.slice A2 y3.Entries.length c2] 25 (0,0)))::F)):∀ (k:Nat),∀ (H:Hp) (a1:List ByteArray) (Aa1:Option Addr) (ca1:Nat) (a2:Int) (g1:Nat) (g2:Nat) (g3:Nat) (y3:Cache) (A1:Option Addr) (c1:Nat) (ch1:Ch) (A2:Option Addr) (c2:Nat) (ch2:Ch) (g6:Nat) (g7:Nat) (v_wanted11_0:List (ByteArray × Bool)) (gv_wanted11_0:Nat) (chv_wanted11_0:Ch) (v_isRoot12_0:List (ByteArray × Bool)) (gv_isRoot12_0:Nat) (chv_isRoot12_0:Ch) (v39:Int) ,Rw Kd.string H F Aa1 a1→a1.length≤ca1→SlOwn kBlob 47 H A1 c1 y3.Blobs ch1→SlOwn kEntry 51 H A2 c2 y3.Entries ch2→MpOwn Value.string Kd.bool false H gv_wanted11_0 v_wanted11_0 chv_wanted11_0→MpOwn Value.string Kd.bool false H gv_isRoot12_0 v_isRoot12_0 chv_isRoot12_0→cache_Swept.l6 e1 k a1 a2 y3 v_wanted11_0 v_isRoot12_0 v39=some r→RunH C30 (S30 F H0 r) H0 w0 [.c [1,1,1,1,1,0,1,0,0],.l [1,1,1,1,1,0,1,0,0],.b 0,.c [1,1,1,1,1,1]] [(3,pg g1 0),(5,pg g2 0),(6,pg g3 0),(11,pg g6 0),(12,pg g7 0),(37,.slice Aa1 a1.length ca1),(38,iv (a1.length:Int)),(39,iv v39)] H ((some (g7,.cells #[.map (some gv_isRoot12_0)] 101 (0,0)))::(some (g6,.cells #[.map (some gv_wanted11_0)] 101 (0,0)))::chv_isRoot12_0::chv_wanted11_0::ch1::ch2::(some (g3,.cells #[iv 0,iv 0,.slice none 0 0,.slice none 0 0] 25 (0,0)))::(some (g2,.cells #[iv a2] 3 (0,0)))::(some (g1,.cells #[iv y3.Room,iv y3.Lease,.slice A1 y3.Blobs.length c1,.slice A2 y3.Entries.length c2] 25 (0,0)))::F):=by
 intro k
 induction k with
 | zero=>intro H a1 Aa1 ca1 a2 g1 g2 g3 y3 A1 c1 ch1 A2 c2 ch2 g6 g7 v_wanted11_0 gv_wanted11_0 chv_wanted11_0 v_isRoot12_0 gv_isRoot12_0 chv_isRoot12_0 v39 hra1 hca1 ho7 ho8 hov_wanted11_0 hov_isRoot12_0 heq; exact nomatch (show (none:Option (Cache × (List ByteArray) × Int))=some r from heq)
 | succ k ihk =>
  intro H a1 Aa1 ca1 a2 g1 g2 g3 y3 A1 c1 ch1 A2 c2 ch2 g6 g7 v_wanted11_0 gv_wanted11_0 chv_wanted11_0 v_isRoot12_0 gv_isRoot12_0 chv_isRoot12_0 v39 hra1 hca1 ho7 ho8 hov_wanted11_0 hov_isRoot12_0 heq
  rw [cache_Swept.l6] at heq
  refine Ra 1 [1,1,1,1,1,0,1,0,0,0] [.c [1,1,1,1,1,0,1,0,0,1],.l [1,1,1,1,1,0,1,0,0],.b 0,.c [1,1,1,1,1,1]]<|Rd 1 [3,5,6,11,12,37,38,39,40] [(3,pg g1 0),(5,pg g2 0),(6,pg g3 0),(11,pg g6 0),(12,pg g7 0),(37,.slice Aa1 a1.length ca1),(38,iv (a1.length:Int)),(39,iv v39),(40,.bool (decide (v39<(a1.length:Int))))]<|Ad 1 [.c [1,1,1,1,1,0,1,0,0,1,0],.c [1,1,1,1,1,0,1,0,0,1,1],.l [1,1,1,1,1,0,1,0,0],.b 0,.c [1,1,1,1,1,1]] ?_
  rcases bool_cases (decide (v39<(a1.length:Int))) with hb7 | hb7
  ·replace heq:=bif_true hb7 heq
   refine Ct (decide (v39<(a1.length:Int))) hb7<|Ra 4 [1,1,1,1,1,0,1,0,0,1,1,0,0,0] [.c [1,1,1,1,1,0,1,0,0,1,1,0,0,1],.b 1,.c [1,1,1,1,1,0,1,0,0,1,1,1],.l [1,1,1,1,1,0,1,0,0],.b 0,.c [1,1,1,1,1,1]] ?_
   obtain ⟨x3,hx3,heq⟩:=bind_some heq
   obtain ⟨ha3,cs3,hK3,hcc4⟩:=hra1.get hx3
   obtain rfl:cs3=[.string x3]:=hK3
   refine Rw' 3 [3,5,6,11,12,14,37,38,39] [.string x3] [.need (Aa1=some (adr Aa1)∧(0:Int)≤v39∧v39<((a1.length:Nat):Int)),.load ((adr Aa1).add (v39.toNat*1)) (.string x3)] [(3,pg g1 0),(5,pg g2 0),(6,pg g3 0),(11,pg g6 0),(12,pg g7 0),(14,.string x3),(37,.slice Aa1 a1.length ca1),(38,iv (a1.length:Int)),(39,iv v39)] (fun w hh=>⟨⟨ha3,(at?_some hx3).1,(at?_some hx3).2.1⟩,(hcc4 _ _ (hh.drop 9) 0 _ rfl)⟩)<|Kp [3,5,6,11,12,14,37,38,39] [(3,pg g1 0),(5,pg g2 0),(6,pg g3 0),(11,pg g6 0),(12,pg g7 0),(14,.string x3),(37,.slice Aa1 a1.length ca1),(38,iv (a1.length:Int)),(39,iv v39)] ?_
   refine RunH.draw (fun w=>Heap H w0 w ((some (g7,.cells #[.map (some gv_isRoot12_0)] 101 (0,0)))::(some (g6,.cells #[.map (some gv_wanted11_0)] 101 (0,0)))::chv_isRoot12_0::chv_wanted11_0::ch1::ch2::(some (g3,.cells #[iv 0,iv 0,.slice none 0 0,.slice none 0 0] 25 (0,0)))::(some (g2,.cells #[iv a2] 3 (0,0)))::(some (g1,.cells #[iv y3.Room,iv y3.Lease,.slice A1 y3.Blobs.length c1,.slice A2 y3.Entries.length c2] 25 (0,0)))::F)) (fun w=>Heap H w0 w ((some (g7,.cells #[.map (some gv_isRoot12_0)] 101 (0,0)))::(some (g6,.cells #[.map (some gv_wanted11_0)] 101 (0,0)))::chv_isRoot12_0::ch1::ch2::(some (g3,.cells #[iv 0,iv 0,.slice none 0 0,.slice none 0 0] 25 (0,0)))::(some (g2,.cells #[iv a2] 3 (0,0)))::(some (g1,.cells #[iv y3.Room,iv y3.Lease,.slice A1 y3.Blobs.length c1,.slice A2 y3.Entries.length c2] 25 (0,0)))::F)) [3,3,3,3,1,2] (n:=6) (ls:=[false,false,false,false,false,false]) (by kernel_rfl) (by kernel_rfl) (by kernel_rfl) rfl ?_
   refine Dk [0,1] 4 (nb 6 3) [.map (some gv_wanted11_0)] [.load ⟨g6,0,none⟩ (.map (some gv_wanted11_0))] [3,5,6,11,12,14,37,38,39,43,44] [(3,pg g1 0),(5,pg g2 0),(6,pg g3 0),(11,pg g6 0),(12,pg g7 0),(14,.string x3),(37,.slice Aa1 a1.length ca1),(38,iv (a1.length:Int)),(39,iv v39),(43,.map (some gv_wanted11_0)),(44,.string x3)] (Pk 9 [0,1,2,3,4,5,6,7,8]) (Pk 9 [0,1,2,4,5,6,7,8]) (fun w hh=>(hh.box 1 rfl rfl))<|De [2,3] 2 (nb 6 15) [.map (some gv_isRoot12_0)] [.load ⟨g7,0,none⟩ (.map (some gv_isRoot12_0))] [3,5,6,11,12,37,38,39,43,44,45,46] [(3,pg g1 0),(5,pg g2 0),(6,pg g3 0),(11,pg g6 0),(12,pg g7 0),(37,.slice Aa1 a1.length ca1),(38,iv (a1.length:Int)),(39,iv v39),(43,.map (some gv_wanted11_0)),(44,.string x3),(45,.map (some gv_isRoot12_0)),(46,.string x3)] (Pk 9 [0,1,2,4,5,6,7,8]) (fun w hh=>(hh.box 0 rfl rfl)) ?_
   refine DrH.does (n:=1) (ls':=[true,true,true,true,true,false]) 4 (by kernel_rfl) rfl (DoesH.mapUpdate (kk:=3) (cv:=[.bool true]) (k:=x3) (v:=true) (by kernel_rfl) (KyAt.string Tryd.underlying9) rfl rfl rfl hov_wanted11_0) ?_
   rintro _ _ _ _ ⟨ch11,rfl,rfl,rfl,ho19⟩
   refine ⟨fun _ w hh=>⟨(fun h=>by cases h),fun _=>(Pk 9 [0,1,2,4,5,6,7,8]) w hh,(fun h=>by cases h)⟩,?_⟩
   refine Kr [3,5,6,11,12,37,38,39,45,46] [(3,pg g1 0),(5,pg g2 0),(6,pg g3 0),(11,pg g6 0),(12,pg g7 0),(37,.slice Aa1 a1.length ca1),(38,iv (a1.length:Int)),(39,iv v39),(45,.map (some gv_isRoot12_0)),(46,.string x3)] ?_
   refine DrH.does (n:=0) (ls':=[true,true,true,true,true,true]) 5 (by kernel_rfl) rfl (DoesH.mapUpdate (kk:=2) (cv:=[.bool true]) (k:=x3) (v:=true) (by kernel_rfl) (KyAt.string Tryd.underlying9) rfl rfl rfl hov_isRoot12_0) ?_
   rintro _ _ _ _ ⟨ch12,rfl,rfl,rfl,ho20⟩
   refine ⟨fun _ w hh=>⟨(fun h=>by cases h),(fun h=>absurd h (by decide)),(fun h=>by cases h)⟩,?_⟩
   refine Kr [3,5,6,11,12,37,38,39] [(3,pg g1 0),(5,pg g2 0),(6,pg g3 0),(11,pg g6 0),(12,pg g7 0),(37,.slice Aa1 a1.length ca1),(38,iv (a1.length:Int)),(39,iv v39)] ?_
   refine DrH.done (by kernel_rfl) ?_
   refine Ra 1 [1,1,1,1,1,0,1,0,0,1,1,1] [.l [1,1,1,1,1,0,1,0,0],.b 0,.c [1,1,1,1,1,1]]<|Rd 2 [3,5,6,11,12,37,38,39] [(3,pg g1 0),(5,pg g2 0),(6,pg g3 0),(11,pg g6 0),(12,pg g7 0),(37,.slice Aa1 a1.length ca1),(38,iv (a1.length:Int)),(39,iv (w64 (v39+1)))]<|Ad 1 [.c [1,1,1,1,1,0,1,0,0],.l [1,1,1,1,1,0,1,0,0],.b 0,.c [1,1,1,1,1,1]]<|Kp [3,5,6,11,12,37,38,39] [(3,pg g1 0),(5,pg g2 0),(6,pg g3 0),(11,pg g6 0),(12,pg g7 0),(37,.slice Aa1 a1.length ca1),(38,iv (a1.length:Int)),(39,iv (w64 (v39+1)))] ?_
   exact ihk _ a1 _ _ a2 _ _ _ y3 _ _ _ _ _ _ _ _ (mput v_wanted11_0 x3 true) _ _ (mput v_isRoot12_0 x3 true) _ _ (w64 (v39+1)) hra1 hca1 ho7 ho8 ho19 ho20 heq
  ·replace heq:=bif_false hb7 heq
   refine Cf (decide (v39<(a1.length:Int))) hb7<|Ad 3 [.c [1,1,1,1,1,1,0,0],.c [1,1,1,1,1,1,0,1],.c [1,1,1,1,1,1,1]]<|Kp [3,5,6,11,12] [(3,pg g1 0),(5,pg g2 0),(6,pg g3 0),(11,pg g6 0),(12,pg g7 0)] ?_
   exact he1 _ a2 _ _ _ y3 _ _ _ _ _ _ _ _ v_wanted11_0 _ _ v_isRoot12_0 _ _ ho7 ho8 hov_wanted11_0 hov_isRoot12_0 heq
theorem cache_Swept_c {w0:World} {H0:Hp} {F:List Ch} {a0:Cache} {Aa0_2:Option Addr} {na0_2:Nat} {ca0_2:Nat} {Aa0_3:Option Addr} {na0_3:Nat} {ca0_3:Nat} {a1:List ByteArray} {Aa1:Option Addr} {na1:Nat} {ca1:Nat} {a2:Int} {r:Cache × (List ByteArray) × Int} (hra0_2:Rw kBlob H0 F Aa0_2 a0.Blobs) (hca0_2:na0_2≤ca0_2) (hna0_2:na0_2=a0.Blobs.length) (hra0_3:Rw kEntry H0 F Aa0_3 a0.Entries) (hca0_3:na0_3≤ca0_3) (hna0_3:na0_3=a0.Entries.length) (hra1:Rw Kd.string H0 F Aa1 a1) (hca1:na1≤ca1) (hna1:na1=a1.length) (heq:cache_Swept.f a0 a1 a2=some r):CallsH Tryd.prog 30 #[.agg #[iv a0.Room,iv a0.Lease,.slice Aa0_2 na0_2 ca0_2,.slice Aa0_3 na0_3 ca0_3],.slice Aa1 na1 ca1,iv a2] H0 w0 (F) (S30 F H0 r):=by
 refine calls_of_runH (F:=C30) Tryd.func30 (by kernel_rfl) Tryd.ntmps30 (args:=[.agg #[iv a0.Room,iv a0.Lease,.slice Aa0_2 na0_2 ca0_2,.slice Aa0_3 na0_3 ca0_3],.slice Aa1 na1 ca1,iv a2]) (by kernel_rfl) ?_
 subst hna0_2
 subst hna0_3
 subst hna1
 unfold cache_Swept.f at heq
 suffices key:∀ (H:Hp),Rw kBlob H F Aa0_2 a0.Blobs→Rw kEntry H F Aa0_3 a0.Entries→Rw Kd.string H F Aa1 a1→RunH C30 (S30 F H0 r) H0 w0 [.c []] (argL 0 [.agg #[iv a0.Room,iv a0.Lease,.slice Aa0_2 (a0.Blobs.length) ca0_2,.slice Aa0_3 (a0.Entries.length) ca0_3],.slice Aa1 (a1.length) ca1,iv a2]) H (F) from key H0 hra0_2 hra0_3 hra1
 intro H hra0_2 hra0_3 hra1
 refine Ra 1 [0] [.c [1]] ?_
 refine RgH.does (DoesH.new (d:=3) (v:=fun g=>.pointer (some ⟨g,0,none⟩)) (o:=fun g=>.cells #[iv a0.Room,iv a0.Lease,.slice Aa0_2 a0.Blobs.length ca0_2,.slice Aa0_3 a0.Entries.length ca0_3] 25 (0,0)) (fun g=>by kernel_rfl)) ?_
 rintro _ _ _ _ ⟨g1,rfl,rfl,rfl⟩
 refine RgH.does (DoesH.new (d:=5) (v:=fun g=>.pointer (some ⟨g,0,none⟩)) (o:=fun g=>.cells #[iv a2] 3 (0,0)) (fun g=>by kernel_rfl)) ?_
 rintro _ _ _ _ ⟨g2,rfl,rfl,rfl⟩
 refine RgH.does (DoesH.new (d:=6) (v:=fun g=>.pointer (some ⟨g,0,none⟩)) (o:=fun g=>.cells #[iv 0,iv 0,.slice none 0 0,.slice none 0 0] 25 (0,0)) (fun g=>by kernel_rfl)) ?_
 rintro _ _ _ _ ⟨g3,rfl,rfl,rfl⟩
 refine Rd 5 [1,3,5,6] [(1,.slice Aa1 a1.length ca1),(3,pg g1 0),(5,pg g2 0),(6,pg g3 0)]<|Ra 2 [1,0,0] [.c [1,0,1],.c [1,1]]<|Rv 2 [1,3,5,6,20,21] [iv a0.Room,iv a0.Lease,.slice Aa0_2 a0.Blobs.length ca0_2,.slice Aa0_3 a0.Entries.length ca0_3,iv a2] [.load ⟨g1,0,none⟩ (iv a0.Room),.load ⟨g1,1,none⟩ (iv a0.Lease),.load ⟨g1,2,none⟩ (.slice Aa0_2 a0.Blobs.length ca0_2),.load ⟨g1,3,none⟩ (.slice Aa0_3 a0.Entries.length ca0_3),.load ⟨g2,0,none⟩ (iv a2)] [(1,.slice Aa1 a1.length ca1),(3,pg g1 0),(5,pg g2 0),(6,pg g3 0),(20,.agg #[iv a0.Room,iv a0.Lease,.slice Aa0_2 a0.Blobs.length ca0_2,.slice Aa0_3 a0.Entries.length ca0_3]),(21,iv a2)] (fun w hh=>⟨(hh.box 2 rfl rfl),(hh.box 2 rfl rfl),(hh.box 2 rfl rfl),(hh.box 2 rfl rfl),(hh.box 1 rfl rfl)⟩) ?_
 obtain ⟨y1,hy1,heq⟩:=bind_some heq
 refine RgH.does (DoesH.call (d:=22) (g:=69) (args:=#[.agg #[iv a0.Room,iv a0.Lease,.slice Aa0_2 a0.Blobs.length ca0_2,.slice Aa0_3 a0.Entries.length ca0_3],iv a2]) (by kernel_rfl) (cache_checkAt_c (a0:=a0) (a1:=a2) (hra0_2.wk (fun _ h=>(.tail _ (.tail _ (.tail _ h))))) hca0_2 rfl (hra0_3.wk (fun _ h=>(.tail _ (.tail _ (.tail _ h))))) hca0_3 rfl hy1)) ?_
 rintro _ _ _ _ ⟨_,rfl,rfl,rfl,rfl⟩
 refine Rd 4 [1,3,5,6,9] [(1,.slice Aa1 a1.length ca1),(3,pg g1 0),(5,pg g2 0),(6,pg g3 0),(9,iv y1)]<|Ra 1 [1,0,1,0] [.c [1,0,1,1],.c [1,1]]<|Rd 2 [1,3,5,6,9,24] [(1,.slice Aa1 a1.length ca1),(3,pg g1 0),(5,pg g2 0),(6,pg g3 0),(9,iv y1),(24,.bool (y1 != 0))] ?_
 rcases bool_cases (y1 != 0) with hb1 | hb1
 ·replace heq:=bif_true hb1 heq
  refine Ct (y1 != 0) hb1<|Ra 1 [1,0,1,1,0,0] [.c [1,0,1,1,0,1],.c [1,1]]<|Rk 2 [6,25,26] [(6,pg g3 0),(25,.agg #[iv 0,iv 0,.slice none 0 0,.slice none 0 0]),(26,iv y1)] ?_
  refine RgH.does (DoesH.store (k:=0) (g:=g3) (off:=0) (v:=.agg #[iv 0,iv 0,.slice none 0 0,.slice none 0 0]) (cells':=#[iv 0,iv 0,.slice none 0 0,.slice none 0 0]) (by kernel_rfl) rfl (by kernel_rfl) (by kernel_rfl)) ?_
  rintro _ _ _ _ ⟨rfl,rfl,rfl⟩
  refine Rd 5 [6,7,8] [(6,pg g3 0),(7,.slice none 0 0),(8,iv y1)]<|RunH.nilc ?_
  have ho1:SlOwn kBlob 47 H none 0 ([]:List Blob) none:=SlOwn.nil
  refine RunH.nilc ?_
  have ho2:SlOwn kEntry 51 H none 0 ([]:List Entry) none:=SlOwn.nil
  refine RunH.nilc ?_
  have ho3:SlOwn Kd.string 9 H none 0 ([]:List ByteArray) none:=SlOwn.nil
  obtain rfl:=Option.some.inj heq
  refine RunH.pick 6 [3,2,1,0] (cs':=(some (g3,.cells #[iv 0,iv 0,.slice none 0 0,.slice none 0 0] 25 (0,0)))::none::none::none::F) (by kernel_rfl) rfl ?_
  exact RunH.doneM' 1 (vs:=[.agg #[iv 0,iv 0,.slice none 0 0,.slice none 0 0],.slice none 0 0,iv y1]) (v:=.tuple #[.agg #[iv 0,iv 0,.slice none 0 0,.slice none 0 0],.slice none 0 0,iv y1]) (by kernel_rfl) Tryd.func30 (fun w hh=>show ResAll _ _ _ [.cell 6 25,.tmp 7,.tmp 8] _ from ⟨⟨⟨g3,0,none⟩,by kernel_rfl,trS_run _ (vs:=[iv 0,iv 0,.slice none 0 0,.slice none 0 0]) (r:=[]) (es:=[.load ⟨g3,0,none⟩ (iv 0),.load ⟨g3,1,none⟩ (iv 0),.load ⟨g3,2,none⟩ (.slice none 0 0),.load ⟨g3,3,none⟩ (.slice none 0 0)]) (by kernel_rfl) ⟨(hh.box 0 rfl rfl),(hh.box 0 rfl rfl),(hh.box 0 rfl rfl),(hh.box 0 rfl rfl)⟩⟩,(show lk _ _=some _ by kernel_rfl),(show lk _ _=some _ by kernel_rfl),trivial⟩) rfl (cs':=none::none::none::F) rfl ⟨none,0,none,none,0,none,none,0,none,rfl,rfl,ho1,ho2,ho3⟩
 ·replace heq:=bif_false hb1 heq
  refine Cf (y1 != 0) hb1<|Ra 3 [1,1,0,0] [.c [1,1,0,1],.c [1,1,1]]<|Rk 1 [1,3,5,6,27] [(1,.slice Aa1 a1.length ca1),(3,pg g1 0),(5,pg g2 0),(6,pg g3 0),(27,.slice Aa1 a1.length ca1)] ?_
  obtain ⟨y2,hy2,heq⟩:=bind_some heq
  refine RgH.does (DoesH.call (d:=28) (g:=60) (args:=#[.slice Aa1 a1.length ca1,iv 3000]) (by kernel_rfl) (cache_checkDigests_c (a0:=a1) (a1:=3000) (hra1.wk (fun _ h=>(.tail _ (.tail _ (.tail _ h))))) hca1 rfl hy2)) ?_
  rintro _ _ _ _ ⟨_,rfl,rfl,rfl,rfl⟩
  refine Rd 3 [1,3,5,6,10] [(1,.slice Aa1 a1.length ca1),(3,pg g1 0),(5,pg g2 0),(6,pg g3 0),(10,iv y2)]<|Ra 1 [1,1,0,1,0] [.c [1,1,0,1,1],.c [1,1,1]]<|Rd 2 [1,3,5,6,10,30] [(1,.slice Aa1 a1.length ca1),(3,pg g1 0),(5,pg g2 0),(6,pg g3 0),(10,iv y2),(30,.bool (y2 != 0))] ?_
  rcases bool_cases (y2 != 0) with hb2 | hb2
  ·replace heq:=bif_true hb2 heq
   refine Ct (y2 != 0) hb2<|Ra 1 [1,1,0,1,1,0,0] [.c [1,1,0,1,1,0,1],.c [1,1,1]]<|Rk 2 [6,31,32] [(6,pg g3 0),(31,.agg #[iv 0,iv 0,.slice none 0 0,.slice none 0 0]),(32,iv y2)] ?_
   refine RgH.does (DoesH.store (k:=0) (g:=g3) (off:=0) (v:=.agg #[iv 0,iv 0,.slice none 0 0,.slice none 0 0]) (cells':=#[iv 0,iv 0,.slice none 0 0,.slice none 0 0]) (by kernel_rfl) rfl (by kernel_rfl) (by kernel_rfl)) ?_
   rintro _ _ _ _ ⟨rfl,rfl,rfl⟩
   refine Rd 5 [6,7,8] [(6,pg g3 0),(7,.slice none 0 0),(8,iv y2)]<|RunH.nilc ?_
   have ho4:SlOwn kBlob 47 H none 0 ([]:List Blob) none:=SlOwn.nil
   refine RunH.nilc ?_
   have ho5:SlOwn kEntry 51 H none 0 ([]:List Entry) none:=SlOwn.nil
   refine RunH.nilc ?_
   have ho6:SlOwn Kd.string 9 H none 0 ([]:List ByteArray) none:=SlOwn.nil
   obtain rfl:=Option.some.inj heq
   refine RunH.pick 6 [3,2,1,0] (cs':=(some (g3,.cells #[iv 0,iv 0,.slice none 0 0,.slice none 0 0] 25 (0,0)))::none::none::none::F) (by kernel_rfl) rfl ?_
   exact RunH.doneM' 1 (vs:=[.agg #[iv 0,iv 0,.slice none 0 0,.slice none 0 0],.slice none 0 0,iv y2]) (v:=.tuple #[.agg #[iv 0,iv 0,.slice none 0 0,.slice none 0 0],.slice none 0 0,iv y2]) (by kernel_rfl) Tryd.func30 (fun w hh=>show ResAll _ _ _ [.cell 6 25,.tmp 7,.tmp 8] _ from ⟨⟨⟨g3,0,none⟩,by kernel_rfl,trS_run _ (vs:=[iv 0,iv 0,.slice none 0 0,.slice none 0 0]) (r:=[]) (es:=[.load ⟨g3,0,none⟩ (iv 0),.load ⟨g3,1,none⟩ (iv 0),.load ⟨g3,2,none⟩ (.slice none 0 0),.load ⟨g3,3,none⟩ (.slice none 0 0)]) (by kernel_rfl) ⟨(hh.box 0 rfl rfl),(hh.box 0 rfl rfl),(hh.box 0 rfl rfl),(hh.box 0 rfl rfl)⟩⟩,(show lk _ _=some _ by kernel_rfl),(show lk _ _=some _ by kernel_rfl),trivial⟩) rfl (cs':=none::none::none::F) rfl ⟨none,0,none,none,0,none,none,0,none,rfl,rfl,ho4,ho5,ho6⟩
  ·replace heq:=bif_false hb2 heq
   refine Cf (y2 != 0) hb2<|Ra 2 [1,1,1,0] [.c [1,1,1,1]]<|Rv 1 [1,3,5,6,33] [iv a0.Room,iv a0.Lease,.slice Aa0_2 a0.Blobs.length ca0_2,.slice Aa0_3 a0.Entries.length ca0_3] [.load ⟨g1,0,none⟩ (iv a0.Room),.load ⟨g1,1,none⟩ (iv a0.Lease),.load ⟨g1,2,none⟩ (.slice Aa0_2 a0.Blobs.length ca0_2),.load ⟨g1,3,none⟩ (.slice Aa0_3 a0.Entries.length ca0_3)] [(1,.slice Aa1 a1.length ca1),(3,pg g1 0),(5,pg g2 0),(6,pg g3 0),(33,.agg #[iv a0.Room,iv a0.Lease,.slice Aa0_2 a0.Blobs.length ca0_2,.slice Aa0_3 a0.Entries.length ca0_3])] (fun w hh=>⟨(hh.box 2 rfl rfl),(hh.box 2 rfl rfl),(hh.box 2 rfl rfl),(hh.box 2 rfl rfl)⟩) ?_
   obtain ⟨y3,hy3,heq⟩:=bind_some heq
   refine RgH.does (DoesH.call (d:=34) (g:=70) (args:=#[.agg #[iv a0.Room,iv a0.Lease,.slice Aa0_2 a0.Blobs.length ca0_2,.slice Aa0_3 a0.Entries.length ca0_3]]) (by kernel_rfl) (cache_own_c (a0:=a0) (hra0_2.wk (fun _ h=>(.tail _ (.tail _ (.tail _ h))))) hca0_2 rfl (hra0_3.wk (fun _ h=>(.tail _ (.tail _ (.tail _ h))))) hca0_3 rfl hy3)) ?_
   rintro _ H _ hl ⟨_,rfl,A1,c1,ch1,A2,c2,ch2,rfl,rfl,ho7,ho8⟩
   replace hra1:=hra1.mono hl
   replace hra0_2:=hra0_2.mono hl
   replace hra0_3:=hra0_3.mono hl
   refine RgH.does (DoesH.store (k:=4) (g:=g1) (off:=0) (v:=.agg #[iv y3.Room,iv y3.Lease,.slice A1 y3.Blobs.length c1,.slice A2 y3.Entries.length c2]) (cells':=#[iv y3.Room,iv y3.Lease,.slice A1 y3.Blobs.length c1,.slice A2 y3.Entries.length c2]) (by kernel_rfl) rfl (by kernel_rfl) (by kernel_rfl)) ?_
   rintro _ _ _ _ ⟨rfl,rfl,rfl⟩
   refine Dn<|Ra 1 [1,1,1,1,0] [.c [1,1,1,1,1]] ?_
   refine RgH.does (DoesH.new (d:=35) (v:=fun g=>.map (some g)) (o:=fun g=>.map #[] 0) (fun g=>by kernel_rfl)) ?_
   rintro _ _ _ _ ⟨g4,rfl,rfl,rfl⟩
   have ho9:MpOwn Value.string Kd.bool false H g4 ([]:List (ByteArray × Bool)) (some (g4,.map #[] 0)):=MpOwn.made
   refine RgH.does (DoesH.new (d:=36) (v:=fun g=>.map (some g)) (o:=fun g=>.map #[] 0) (fun g=>by kernel_rfl)) ?_
   rintro _ _ _ _ ⟨g5,rfl,rfl,rfl⟩
   have ho10:MpOwn Value.string Kd.bool false H g5 ([]:List (ByteArray × Bool)) (some (g5,.map #[] 0)):=MpOwn.made
   refine RgH.does (DoesH.new (d:=11) (v:=fun g=>.pointer (some ⟨g,0,none⟩)) (o:=fun g=>.cells #[.map none] 101 (0,0)) (fun g=>by kernel_rfl)) ?_
   rintro _ _ _ _ ⟨g6,rfl,rfl,rfl⟩
   refine RgH.does (DoesH.new (d:=12) (v:=fun g=>.pointer (some ⟨g,0,none⟩)) (o:=fun g=>.cells #[.map none] 101 (0,0)) (fun g=>by kernel_rfl)) ?_
   rintro _ _ _ _ ⟨g7,rfl,rfl,rfl⟩
   refine RgH.does (DoesH.store (k:=1) (g:=g6) (off:=0) (v:=.map (some g4)) (cells':=#[.map (some g4)]) (by kernel_rfl) rfl (by kernel_rfl) (by kernel_rfl)) ?_
   rintro _ _ _ _ ⟨rfl,rfl,rfl⟩
   refine RgH.does (DoesH.store (k:=0) (g:=g7) (off:=0) (v:=.map (some g5)) (cells':=#[.map (some g5)]) (by kernel_rfl) rfl (by kernel_rfl) (by kernel_rfl)) ?_
   rintro _ _ _ _ ⟨rfl,rfl,rfl⟩
   refine Dn<|Ra 2 [1,1,1,1,1,0,0] [.c [1,1,1,1,1,0,1],.c [1,1,1,1,1,1]]<|Rd 3 [3,5,6,11,12,37,38,39] [(3,pg g1 0),(5,pg g2 0),(6,pg g3 0),(11,pg g6 0),(12,pg g7 0),(37,.slice Aa1 a1.length ca1),(38,iv (a1.length:Int)),(39,iv 0)]<|Ad 2 [.c [1,1,1,1,1,0,1,0,0],.l [1,1,1,1,1,0,1,0,0],.b 0,.c [1,1,1,1,1,1]]<|Kp [3,5,6,11,12,37,38,39] [(3,pg g1 0),(5,pg g2 0),(6,pg g3 0),(11,pg g6 0),(12,pg g7 0),(37,.slice Aa1 a1.length ca1),(38,iv (a1.length:Int)),(39,iv 0)] ?_
   exact ((cache_Swept.l6_c (e1:=cache_Swept.e1) (cache_Swept.e1_c)) big) _ a1 _ _ a2 _ _ _ y3 _ _ _ _ _ _ _ _ ([]:List (ByteArray × Bool)) _ _ ([]:List (ByteArray × Bool)) _ _ 0 hra1 hca1 ho7 ho8 ho9 ho10 heq
noncomputable def C82:Ctx:={ P:=Tryd.prog,f:=82,N:=63,c:=bodyOf Tryd.f82 }
def S82 (F:List Ch) (H0:Hp) (r:Cache) (v:Value) (H:Hp) (cs:List Ch):Prop:=∃ (g0:Nat) (A0_2:Option Addr) (c0_2:Nat) (ch0_2:Ch) (A0_3:Option Addr) (c0_3:Nat) (ch0_3:Ch),v=.pointer (some ⟨g0,0,none⟩)∧some (g0,.cells #[iv r.Room,iv r.Lease,.slice A0_2 r.Blobs.length c0_2,.slice A0_3 r.Entries.length c0_3] 25 (0,0))::ch0_2::ch0_3::F=cs∧SlOwn kBlob 47 H A0_2 c0_2 r.Blobs ch0_2∧SlOwn kEntry 51 H A0_3 c0_3 r.Entries ch0_3
theorem smithyardref7_copied.e1_c {w0:World} {H0:Hp} {F:List Ch} {r:Cache}:∀ (H:Hp) (a0:Cache) (g2:Nat) (A1:Option Addr) (c1:Nat) (ch1:Ch) (v_out3_3:List Entry) (Av_out3_3:Option Addr) (nv_out3_3:Nat) (cv_out3_3:Nat) (chv_out3_3:Ch) ,SlOwn kBlob 47 H A1 c1 (([]:List Blob)++a0.Blobs) ch1→SlOwn kEntry 51 H Av_out3_3 cv_out3_3 v_out3_3 chv_out3_3→nv_out3_3=v_out3_3.length→smithyardref7_copied.e1 a0 v_out3_3=some r→RunH C82 (S82 F H0 r) H0 w0 [.c [1,1,1,1,0],.c [1,1,1,1,1]] [(3,pg g2 0)] H (chv_out3_3::ch1::(some (g2,.cells #[iv a0.Room,iv a0.Lease,.slice A1 ((([]:List Blob)++a0.Blobs).length) c1,.slice Av_out3_3 nv_out3_3 cv_out3_3] 25 (0,0)))::F):=by
 intro H a0 g2 A1 c1 ch1 v_out3_3 Av_out3_3 nv_out3_3 cv_out3_3 chv_out3_3 ho2 hov_out3_3 hnv_out3_3 heq
 subst hnv_out3_3
 unfold smithyardref7_copied.e1 at heq
 refine Rr<|Rd 2 [2] [(2,pg g2 0)] ?_
 obtain rfl:=Option.some.inj heq
 refine RunH.pick 3 [2,1,0] (cs':=(some (g2,.cells #[iv a0.Room,iv a0.Lease,.slice A1 ((([]:List Blob)++a0.Blobs).length) c1,.slice Av_out3_3 v_out3_3.length cv_out3_3] 25 (0,0)))::ch1::chv_out3_3::F) (by kernel_rfl) rfl ?_
 exact RunH.done (by kernel_rfl) Tryd.func82 (v:=.pointer (some ⟨g2,0,none⟩)) (by kernel_rfl) ⟨g2,A1,c1,ch1,Av_out3_3,cv_out3_3,chv_out3_3,rfl,rfl,ho2,hov_out3_3⟩
theorem smithyardref7_copied.l2_c {w0:World} {H0:Hp} {F:List Ch} {r:Cache} (e1:Cache→(List Entry)→Option Cache)
  (he1:∀ (H:Hp) (a0:Cache) (g2:Nat) (A1:Option Addr) (c1:Nat) (ch1:Ch) (v_out3_3:List Entry) (Av_out3_3:Option Addr) (nv_out3_3:Nat) (cv_out3_3:Nat) (chv_out3_3:Ch) ,SlOwn kBlob 47 H A1 c1 (([]:List Blob)++a0.Blobs) ch1→SlOwn kEntry 51 H Av_out3_3 cv_out3_3 v_out3_3 chv_out3_3→nv_out3_3=v_out3_3.length→e1 a0 v_out3_3=some r→RunH C82 (S82 F H0 r) H0 w0 [.c [1,1,1,1,0],.c [1,1,1,1,1]] [(3,pg g2 0)] H (chv_out3_3::ch1::(some (g2,.cells #[iv a0.Room,iv a0.Lease,.slice A1 ((([]:List Blob)++a0.Blobs).length) c1,.slice Av_out3_3 nv_out3_3 cv_out3_3] 25 (0,0)))::F)):∀ (k:Nat),∀ (H:Hp) (a0:Cache) (Aa0_2:Option Addr) (ca0_2:Nat) (Aa0_3:Option Addr) (ca0_3:Nat) (g1:Nat) (g2:Nat) (A1:Option Addr) (c1:Nat) (ch1:Ch) (v_out3_3:List Entry) (Av_out3_3:Option Addr) (nv_out3_3:Nat) (cv_out3_3:Nat) (chv_out3_3:Ch) (v_i4:Int) ,Rw kBlob H F Aa0_2 a0.Blobs→a0.Blobs.length≤ca0_2→Rw kEntry H F Aa0_3 a0.Entries→a0.Entries.length≤ca0_3→SlOwn kBlob 47 H A1 c1 (([]:List Blob)++a0.Blobs) ch1→SlOwn kEntry 51 H Av_out3_3 cv_out3_3 v_out3_3 chv_out3_3→nv_out3_3=v_out3_3.length→smithyardref7_copied.l2 e1 k a0 v_out3_3 v_i4=some r→RunH C82 (S82 F H0 r) H0 w0 [.c [1,1,1,0,1,0,0],.l [1,1,1,0,1,0,0],.b 0,.c [1,1,1,1]] [(1,pg g1 0),(3,pg g2 0),(4,iv v_i4)] H (chv_out3_3::ch1::(some (g2,.cells #[iv a0.Room,iv a0.Lease,.slice A1 ((([]:List Blob)++a0.Blobs).length) c1,.slice Av_out3_3 nv_out3_3 cv_out3_3] 25 (0,0)))::(some (g1,.cells #[iv a0.Room,iv a0.Lease,.slice Aa0_2 a0.Blobs.length ca0_2,.slice Aa0_3 a0.Entries.length ca0_3] 25 (0,0)))::F):=by
 intro k
 induction k with
 | zero=>intro H a0 Aa0_2 ca0_2 Aa0_3 ca0_3 g1 g2 A1 c1 ch1 v_out3_3 Av_out3_3 nv_out3_3 cv_out3_3 chv_out3_3 v_i4 hra0_2 hca0_2 hra0_3 hca0_3 ho2 hov_out3_3 hnv_out3_3 heq; exact nomatch (show (none:Option Cache)=some r from heq)
 | succ k ihk =>
  intro H a0 Aa0_2 ca0_2 Aa0_3 ca0_3 g1 g2 A1 c1 ch1 v_out3_3 Av_out3_3 nv_out3_3 cv_out3_3 chv_out3_3 v_i4 hra0_2 hca0_2 hra0_3 hca0_3 ho2 hov_out3_3 hnv_out3_3 heq
  subst hnv_out3_3
  rw [smithyardref7_copied.l2] at heq
  refine Ra 2 [1,1,1,0,1,0,0,0,0] [.c [1,1,1,0,1,0,0,0,1],.c [1,1,1,0,1,0,0,1],.l [1,1,1,0,1,0,0],.b 0,.c [1,1,1,1]]<|Rw' 5 [1,3,4,26] [.slice Aa0_3 a0.Entries.length ca0_3] [.load ⟨g1,3,none⟩ (.slice Aa0_3 a0.Entries.length ca0_3)] [(1,pg g1 0),(3,pg g2 0),(4,iv v_i4),(26,.bool (decide (v_i4<(a0.Entries.length:Int))))] (fun w hh=>(hh.box 3 rfl rfl)) ?_
  rcases bool_cases (decide (v_i4<(a0.Entries.length:Int))) with hb1 | hb1
  ·replace heq:=bif_true hb1 heq
   refine Ct (decide (v_i4<(a0.Entries.length:Int))) hb1<|Ad 4 [.c [1,1,1,0,1,0,0,1,0,0,0],.c [1,1,1,0,1,0,0,1,0,0,1],.b 1,.c [1,1,1,0,1,0,0,1,1],.l [1,1,1,0,1,0,0],.b 0,.c [1,1,1,1]]<|Kp [1,3,4] [(1,pg g1 0),(3,pg g2 0),(4,iv v_i4)] ?_
   refine RunH.draw (fun w=>Heap H w0 w (chv_out3_3::ch1::(some (g2,.cells #[iv a0.Room,iv a0.Lease,.slice A1 ((([]:List Blob)++a0.Blobs).length) c1,.slice Av_out3_3 v_out3_3.length cv_out3_3] 25 (0,0)))::(some (g1,.cells #[iv a0.Room,iv a0.Lease,.slice Aa0_2 a0.Blobs.length ca0_2,.slice Aa0_3 a0.Entries.length ca0_3] 25 (0,0)))::F)) (fun w=>Heap H w0 w (chv_out3_3::ch1::(some (g2,.cells #[iv a0.Room,iv a0.Lease,.slice A1 ((([]:List Blob)++a0.Blobs).length) c1,.slice Av_out3_3 v_out3_3.length cv_out3_3] 25 (0,0)))::(some (g1,.cells #[iv a0.Room,iv a0.Lease,.slice Aa0_2 a0.Blobs.length ca0_2,.slice Aa0_3 a0.Entries.length ca0_3] 25 (0,0)))::F)) [3,3,3,3,3,3,3,3,3,3,3,3,3,0,0] (n:=15) (ls:=[false,false,false,false,false,false,false,false,false,false,false,false,false,false,false]) (by kernel_rfl) (by kernel_rfl) (by kernel_rfl) rfl ?_
   obtain ⟨x1,hx1,heq⟩:=bind_some heq
   obtain ⟨ha1,cs1,hK1,hcc1⟩:=hra0_3.get hx1
   obtain ⟨A2,c2,rfl,hc1,hr1⟩:=kEntry_open hK1
   refine Dk [0,1,2,3,4,5,6,7,8,9,10,11,12] 2 (nb 15 8191) [.slice Aa0_3 a0.Entries.length ca0_3,.string x1.Key,.slice Aa0_3 a0.Entries.length ca0_3,iv x1.Used] [.load ⟨g1,3,none⟩ (.slice Aa0_3 a0.Entries.length ca0_3),.need (Aa0_3=some (adr Aa0_3)∧(0:Int)≤v_i4∧v_i4<((a0.Entries.length:Nat):Int)),.load (((adr Aa0_3).add (v_i4.toNat*3)).add 0) (.string x1.Key),.load ⟨g1,3,none⟩ (.slice Aa0_3 a0.Entries.length ca0_3),.need (Aa0_3=some (adr Aa0_3)∧(0:Int)≤v_i4∧v_i4<((a0.Entries.length:Nat):Int)),.load (((adr Aa0_3).add (v_i4.toNat*3)).add 2) (iv x1.Used)] [1,3,4,41] [(1,pg g1 0),(3,pg g2 0),(4,iv v_i4),(41,.agg #[.string x1.Key,.slice none 0 0,iv x1.Used])] (Pk 4 [0,1,2,3]) (Pk 4 [0,1,2,3]) (fun w hh=>⟨(hh.box 3 rfl rfl),⟨ha1,(at?_some hx1).1,(at?_some hx1).2.1⟩,(hcc1 _ _ (hh.drop 4) 0 _ rfl),(hh.box 3 rfl rfl),⟨ha1,(at?_some hx1).1,(at?_some hx1).2.1⟩,(hcc1 _ _ (hh.drop 4) 2 _ rfl)⟩) ?_
   refine DrH.does (n:=1) (ls':=[true,true,true,true,true,true,true,true,true,true,true,true,true,true,false]) 13 (by kernel_rfl) rfl (DoesH.new (d:=5) (v:=fun g=>.pointer (some ⟨g,0,none⟩)) (o:=fun g=>.cells #[.string ByteArray.empty,.slice none 0 0,iv 0] 51 (0,0)) (fun g=>by kernel_rfl)) ?_
   rintro _ _ _ _ ⟨g3,rfl,rfl,rfl⟩
   refine ⟨fun _ w hh=>⟨fun _=>(Pk 5 [1,2,3,4]) w hh,fun _=>(Pk 5 [1,2,3,4]) w hh,(fun h=>by cases h)⟩,?_⟩
   refine Kr [1,3,4,5,41] [(1,pg g1 0),(3,pg g2 0),(4,iv v_i4),(5,pg g3 0),(41,.agg #[.string x1.Key,.slice none 0 0,iv x1.Used])] ?_
   refine DrH.does (n:=0) (ls':=[true,true,true,true,true,true,true,true,true,true,true,true,true,true,true]) 14 (by kernel_rfl) rfl (DoesH.store (k:=0) (g:=g3) (off:=0) (v:=.agg #[.string x1.Key,.slice none 0 0,iv x1.Used]) (cells':=#[.string x1.Key,.slice none 0 0,iv x1.Used]) (by kernel_rfl) rfl (by kernel_rfl) (by kernel_rfl)) ?_
   rintro _ _ _ _ ⟨rfl,rfl,rfl⟩
   refine ⟨fun _ w hh=>⟨fun _=>(Pk 5 [1,2,3,4]) w hh,fun _=>(Pk 5 [1,2,3,4]) w hh,(fun h=>by cases h)⟩,?_⟩
   refine Kr [1,3,4,5] [(1,pg g1 0),(3,pg g2 0),(4,iv v_i4),(5,pg g3 0)] ?_
   refine DrH.done (by kernel_rfl) ?_
   refine Ad 1 [.c [1,1,1,0,1,0,0,1,0,0,1,0],.c [1,1,1,0,1,0,0,1,0,0,1,1],.b 1,.c [1,1,1,0,1,0,0,1,1],.l [1,1,1,0,1,0,0],.b 0,.c [1,1,1,1]]<|Kp [1,3,4,5] [(1,pg g1 0),(3,pg g2 0),(4,iv v_i4),(5,pg g3 0)] ?_
   refine RunH.draw (fun w=>Heap H w0 w ((some (g3,.cells #[.string x1.Key,.slice none 0 0,iv x1.Used] 51 (0,0)))::chv_out3_3::ch1::(some (g2,.cells #[iv a0.Room,iv a0.Lease,.slice A1 ((([]:List Blob)++a0.Blobs).length) c1,.slice Av_out3_3 v_out3_3.length cv_out3_3] 25 (0,0)))::(some (g1,.cells #[iv a0.Room,iv a0.Lease,.slice Aa0_2 a0.Blobs.length ca0_2,.slice Aa0_3 a0.Entries.length ca0_3] 25 (0,0)))::F)) (fun w=>Heap H w0 w ((some (g3,.cells #[.string x1.Key,.slice none 0 0,iv x1.Used] 51 (0,0)))::chv_out3_3::ch1::(some (g2,.cells #[iv a0.Room,iv a0.Lease,.slice A1 ((([]:List Blob)++a0.Blobs).length) c1,.slice Av_out3_3 v_out3_3.length cv_out3_3] 25 (0,0)))::(some (g1,.cells #[iv a0.Room,iv a0.Lease,.slice Aa0_2 a0.Blobs.length ca0_2,.slice Aa0_3 a0.Entries.length ca0_3] 25 (0,0)))::F)) [3,3,3,3,3,3,3,3,0,3,2] (n:=11) (ls:=[false,false,false,false,false,false,false,false,false,false,false]) (by kernel_rfl) (by kernel_rfl) (by kernel_rfl) rfl ?_
   obtain ⟨x2,hx2,heq⟩:=bind_some heq
   obtain ⟨ha2,cs2,hK2,hcc2⟩:=hra0_3.get hx2
   obtain ⟨A3,c3,rfl,hc2,hr2⟩:=kEntry_open hK2
   refine Dk [0,1,2,3,4,5,6,7] 3 (nb 11 255) [.slice none 0 0,.slice Aa0_3 a0.Entries.length ca0_3,.slice A3 x2.Refs.length c3] [.load ⟨g3,1,none⟩ (.slice none 0 0),.load ⟨g1,3,none⟩ (.slice Aa0_3 a0.Entries.length ca0_3),.need (Aa0_3=some (adr Aa0_3)∧(0:Int)≤v_i4∧v_i4<((a0.Entries.length:Nat):Int)),.load (((adr Aa0_3).add (v_i4.toNat*3)).add 1) (.slice A3 x2.Refs.length c3)] [1,3,4,5,43,49] [(1,pg g1 0),(3,pg g2 0),(4,iv v_i4),(5,pg g3 0),(43,.slice none 0 0),(49,.slice A3 x2.Refs.length c3)] (Pk 5 [0,1,2,3,4]) (Pk 5 [0,1,2,3,4]) (fun w hh=>⟨(hh.box 0 rfl rfl),(hh.box 4 rfl rfl),⟨ha2,(at?_some hx2).1,(at?_some hx2).2.1⟩,(hcc2 _ _ (hh.drop 5) 1 _ rfl)⟩)<|DrH.nilc ?_
   have ho3:SlOwn Kd.string 9 H none 0 ([]:List ByteArray) none:=SlOwn.nil
   obtain ⟨hn2,heq⟩:=guard?_some heq
   refine DrH.does (n:=2) (ls':=[true,true,true,true,true,true,true,true,true,false,false]) 8 (by kernel_rfl) rfl (DoesH.append (d:=50) (k:=0) (t:=34) (e:=9) (bytes:=16) (kd:=Kd.string) (n:=0) (m:=x2.Refs.length) (xs:=([]:List ByteArray)) (ys:=x2.Refs) (A:=none) (B:=A3) (c:=0) (cB:=c3) (by kernel_rfl) rfl rfl (by kernel_rfl) rfl ho3 (fun w hh=>(Rw.of (F:=F) hr2).rdb (hh.drop 6)) (room_le hn2) (by have:=room_le hn2; omega)) ?_
   rintro _ _ _ _ ⟨A4,c4,ch2,rfl,rfl,rfl,ho4⟩
   refine ⟨fun _ w hh=>⟨fun _=>(Pk 6 [1,2,3,4,5]) w hh,fun _=>(Pk 6 [1,2,3,4,5]) w hh,(fun h=>by cases h)⟩,?_⟩
   refine Dk [9] 1 (nb 11 1023) [] [] [1,3,4,5,50,51] [(1,pg g1 0),(3,pg g2 0),(4,iv v_i4),(5,pg g3 0),(50,.slice A4 ((([]:List ByteArray)++x2.Refs).length) c4),(51,pg g3 1)] (Pk 6 [1,2,3,4,5]) (Pk 5 [0,1,2,3,4]) (fun _ _=>trivial) ?_
   refine DrH.does (n:=0) (ls':=[true,true,true,true,true,true,true,true,true,true,true]) 10 (by kernel_rfl) rfl (DoesH.store (k:=1) (g:=g3) (off:=1) (v:=.slice A4 ((([]:List ByteArray)++x2.Refs).length) c4) (cells':=#[.string x1.Key,.slice A4 ((([]:List ByteArray)++x2.Refs).length) c4,iv x1.Used]) (by kernel_rfl) rfl (by kernel_rfl) (by kernel_rfl)) ?_
   rintro _ _ _ _ ⟨rfl,rfl,rfl⟩
   refine ⟨fun _ w hh=>⟨(fun h=>by cases h),(fun h=>absurd h (by decide)),(fun h=>by cases h)⟩,?_⟩
   refine Kr [1,3,4,5] [(1,pg g1 0),(3,pg g2 0),(4,iv v_i4),(5,pg g3 0)] ?_
   refine DrH.done (by kernel_rfl) ?_
   refine Kp [1,3,4,5] [(1,pg g1 0),(3,pg g2 0),(4,iv v_i4),(5,pg g3 0)] ?_
   refine RunH.draw (fun w=>Heap H w0 w (ch2::(some (g3,.cells #[.string x1.Key,.slice A4 ((([]:List ByteArray)++x2.Refs).length) c4,iv x1.Used] 51 (0,0)))::chv_out3_3::ch1::(some (g2,.cells #[iv a0.Room,iv a0.Lease,.slice A1 ((([]:List Blob)++a0.Blobs).length) c1,.slice Av_out3_3 v_out3_3.length cv_out3_3] 25 (0,0)))::(some (g1,.cells #[iv a0.Room,iv a0.Lease,.slice Aa0_2 a0.Blobs.length ca0_2,.slice Aa0_3 a0.Entries.length ca0_3] 25 (0,0)))::F)) (fun w=>Heap H w0 w ((some (g3,.cells #[.string x1.Key,.slice A4 ((([]:List ByteArray)++x2.Refs).length) c4,iv x1.Used] 51 (0,0)))::ch1::(some (g2,.cells #[iv a0.Room,iv a0.Lease,.slice A1 ((([]:List Blob)++a0.Blobs).length) c1,.slice Av_out3_3 v_out3_3.length cv_out3_3] 25 (0,0)))::(some (g1,.cells #[iv a0.Room,iv a0.Lease,.slice Aa0_2 a0.Blobs.length ca0_2,.slice Aa0_3 a0.Entries.length ca0_3] 25 (0,0)))::F)) [3,3,3,3,3,3,1,1,1,3,2] (n:=11) (ls:=[false,false,false,false,false,false,false,false,false,false,false]) (by kernel_rfl) (by kernel_rfl) (by kernel_rfl) rfl ?_
   refine De [0,1,2,3,4,5] 5 (nb 11 63) [.slice Av_out3_3 v_out3_3.length cv_out3_3,.string x1.Key,.slice A4 ((([]:List ByteArray)++x2.Refs).length) c4,iv x1.Used] [.load ⟨g2,3,none⟩ (.slice Av_out3_3 v_out3_3.length cv_out3_3),.load ⟨g3,0,none⟩ (.string x1.Key),.load ⟨g3,1,none⟩ (.slice A4 ((([]:List ByteArray)++x2.Refs).length) c4),.load ⟨g3,2,none⟩ (iv x1.Used)] [1,3,4,52,56,57] [(1,pg g1 0),(3,pg g2 0),(4,iv v_i4),(52,pg g2 0),(56,.slice Av_out3_3 v_out3_3.length cv_out3_3),(57,.agg #[.string x1.Key,.slice A4 ((([]:List ByteArray)++x2.Refs).length) c4,iv x1.Used])] (Pk 6 [1,3,4,5]) (fun w hh=>⟨(hh.box 2 rfl rfl),(hh.box 0 rfl rfl),(hh.box 0 rfl rfl),(hh.box 0 rfl rfl)⟩) ?_
   have hc3:=ho4.cap
   refine DrH.freezeS ho4 (fun H hl hr3=>?_)
   have hle:=hl
   replace hra0_2:=hra0_2.mono hl
   replace hra0_3:=hra0_3.mono hl
   replace ho2:=ho2.mono hl
   replace hov_out3_3:=hov_out3_3.mono hl
   refine DrH.does (n:=4) (ls':=[true,true,true,true,true,true,true,false,false,false,false]) 6 (by kernel_rfl) rfl (DoesH.new (d:=58) (v:=fun g=>.slice (some ⟨g,0,none⟩) 1 1) (o:=fun g=>.cells #[.string x1.Key,.slice A4 ((([]:List ByteArray)++x2.Refs).length) c4,iv x1.Used] 51 (0,0)) (fun g=>by kernel_rfl)) ?_
   rintro _ _ _ _ ⟨g4,rfl,rfl,rfl⟩
   have ho5:SlOwn kEntry 51 H (some ⟨g4,0,none⟩) 1 ([(⟨x1.Key,(([]:List ByteArray)++x2.Refs),x1.Used⟩:Entry)]:List Entry) (some (g4,.cells #[.string x1.Key,.slice A4 ((([]:List ByteArray)++x2.Refs).length) c4,iv x1.Used] 51 (0,0))):=SlOwn.lit (xs:=([(⟨x1.Key,(([]:List ByteArray)++x2.Refs),x1.Used⟩:Entry)]:List Entry)) (by kernel_rfl) (Nat.le_of_ble_eq_true (by kernel_rfl)) (Kd.Rep.one (kEntry_mk hc3 hr3))
   refine ⟨fun _ w hh=>⟨(fun h=>by cases h),fun _=>(fun w hh=>(hh.le hle).pick 6 [1,3,4,5] (by kernel_rfl)) w hh,(fun h=>by cases h)⟩,?_⟩
   refine Kr [1,3,4,52,56,58] [(1,pg g1 0),(3,pg g2 0),(4,iv v_i4),(52,pg g2 0),(56,.slice Av_out3_3 v_out3_3.length cv_out3_3),(58,.slice (some ⟨g4,0,none⟩) 1 1)] ?_
   obtain ⟨hn3,heq⟩:=guard?_some heq
   refine DrH.does (n:=3) (ls':=[true,true,true,true,true,true,true,true,false,false,false]) 7 (by kernel_rfl) rfl (DoesH.append (d:=59) (k:=2) (t:=23) (e:=51) (bytes:=48) (kd:=kEntry) (n:=v_out3_3.length) (m:=1) (xs:=v_out3_3) (ys:=([(⟨x1.Key,(([]:List ByteArray)++x2.Refs),x1.Used⟩:Entry)]:List Entry)) (A:=Av_out3_3) (B:=(some ⟨g4,0,none⟩)) (c:=cv_out3_3) (cB:=1) (by kernel_rfl) rfl rfl (by kernel_rfl) rfl hov_out3_3 (fun w hh=>ho5.rdb (hh.chin 0 rfl)) (room_le hn3) (by have:=room_le hn3; omega)) ?_
   rintro _ _ _ _ ⟨A5,c5,ch3,rfl,rfl,rfl,ho6⟩
   refine ⟨fun _ w hh=>⟨(fun h=>by cases h),fun _=>(fun w hh=>(hh.le hle).pick 6 [1,3,4,5] (by kernel_rfl)) w hh,(fun h=>by cases h)⟩,?_⟩
   refine Kr [59,1,3,4,52,58] [(59,.slice A5 ((v_out3_3++([(⟨x1.Key,(([]:List ByteArray)++x2.Refs),x1.Used⟩:Entry)]:List Entry)).length) c5),(1,pg g1 0),(3,pg g2 0),(4,iv v_i4),(52,pg g2 0),(58,.slice (some ⟨g4,0,none⟩) 1 1)]<|Kr [1,3,4,52,59] [(1,pg g1 0),(3,pg g2 0),(4,iv v_i4),(52,pg g2 0),(59,.slice A5 ((v_out3_3++([(⟨x1.Key,(([]:List ByteArray)++x2.Refs),x1.Used⟩:Entry)]:List Entry)).length) c5)] ?_
   refine DrH.does (n:=2) (ls':=[true,true,true,true,true,true,true,true,true,false,false]) 8 (by kernel_rfl) rfl (DoesH.pureop (d:=60) (v:=.pointer (some ⟨g2,0,none⟩)) (vs:=[]) (evs:=[]) (by kernel_rfl) (fun _ _=>trivial)) ?_
   rintro _ _ _ _ ⟨rfl,rfl,rfl⟩
   refine ⟨fun _ w hh=>⟨(fun h=>by cases h),fun _=>(fun w hh=>(hh.le hle).pick 6 [1,3,4,5] (by kernel_rfl)) w hh,(fun h=>by cases h)⟩,?_⟩
   refine De [9] 1 (nb 11 1023) [] [] [1,3,4,59,61] [(1,pg g1 0),(3,pg g2 0),(4,iv v_i4),(59,.slice A5 ((v_out3_3++([(⟨x1.Key,(([]:List ByteArray)++x2.Refs),x1.Used⟩:Entry)]:List Entry)).length) c5),(61,pg g2 3)] (fun w hh=>(hh.le hle).pick 6 [1,3,4,5] (by kernel_rfl)) (fun _ _=>trivial) ?_
   refine DrH.does (n:=0) (ls':=[true,true,true,true,true,true,true,true,true,true,true]) 10 (by kernel_rfl) rfl (DoesH.store (k:=4) (g:=g2) (off:=3) (v:=.slice A5 ((v_out3_3++([(⟨x1.Key,(([]:List ByteArray)++x2.Refs),x1.Used⟩:Entry)]:List Entry)).length) c5) (cells':=#[iv a0.Room,iv a0.Lease,.slice A1 ((([]:List Blob)++a0.Blobs).length) c1,.slice A5 ((v_out3_3++([(⟨x1.Key,(([]:List ByteArray)++x2.Refs),x1.Used⟩:Entry)]:List Entry)).length) c5]) (by kernel_rfl) rfl (by kernel_rfl) (by kernel_rfl)) ?_
   rintro _ _ _ _ ⟨rfl,rfl,rfl⟩
   refine ⟨fun _ w hh=>⟨(fun h=>by cases h),(fun h=>absurd h (by decide)),(fun h=>by cases h)⟩,?_⟩
   refine Kr [1,3,4] [(1,pg g1 0),(3,pg g2 0),(4,iv v_i4)] ?_
   refine DrH.done (by kernel_rfl) ?_
   refine Ra 1 [1,1,1,0,1,0,0,1,1] [.l [1,1,1,0,1,0,0],.b 0,.c [1,1,1,1]]<|Rd 3 [1,3,4] [(1,pg g1 0),(3,pg g2 0),(4,iv (w64 (v_i4+1)))]<|Ad 1 [.c [1,1,1,0,1,0,0],.l [1,1,1,0,1,0,0],.b 0,.c [1,1,1,1]]<|Kp [1,3,4] [(1,pg g1 0),(3,pg g2 0),(4,iv (w64 (v_i4+1)))] ?_
   refine RunH.pick 6 [2,3,4,5] (cs':=ch3::ch1::(some (g2,.cells #[iv a0.Room,iv a0.Lease,.slice A1 ((([]:List Blob)++a0.Blobs).length) c1,.slice A5 ((v_out3_3++([(⟨x1.Key,(([]:List ByteArray)++x2.Refs),x1.Used⟩:Entry)]:List Entry)).length) c5] 25 (0,0)))::(some (g1,.cells #[iv a0.Room,iv a0.Lease,.slice Aa0_2 a0.Blobs.length ca0_2,.slice Aa0_3 a0.Entries.length ca0_3] 25 (0,0)))::F) (by kernel_rfl) rfl ?_
   exact ihk _ a0 _ _ _ _ _ _ _ _ _ (v_out3_3++([(⟨x1.Key,(([]:List ByteArray)++x2.Refs),x1.Used⟩:Entry)]:List Entry)) _ _ _ _ (w64 (v_i4+1)) hra0_2 hca0_2 hra0_3 hca0_3 ho2 ho6 rfl heq
  ·replace heq:=bif_false hb1 heq
   refine Cf (decide (v_i4<(a0.Entries.length:Int))) hb1<|Ad 2 [.c [1,1,1,1,0],.c [1,1,1,1,1]]<|Kp [3] [(3,pg g2 0)] ?_
   refine RunH.pick 4 [0,1,2] (cs':=chv_out3_3::ch1::(some (g2,.cells #[iv a0.Room,iv a0.Lease,.slice A1 ((([]:List Blob)++a0.Blobs).length) c1,.slice Av_out3_3 v_out3_3.length cv_out3_3] 25 (0,0)))::F) (by kernel_rfl) rfl ?_
   exact he1 _ a0 _ _ _ _ v_out3_3 _ _ _ _ ho2 hov_out3_3 rfl heq
theorem smithyardref7_copied_c {w0:World} {H0:Hp} {F:List Ch} {a0:Cache} {Aa0_2:Option Addr} {na0_2:Nat} {ca0_2:Nat} {Aa0_3:Option Addr} {na0_3:Nat} {ca0_3:Nat} {r:Cache} (hra0_2:Rw kBlob H0 F Aa0_2 a0.Blobs) (hca0_2:na0_2≤ca0_2) (hna0_2:na0_2=a0.Blobs.length) (hra0_3:Rw kEntry H0 F Aa0_3 a0.Entries) (hca0_3:na0_3≤ca0_3) (hna0_3:na0_3=a0.Entries.length) (heq:smithyardref7_copied.f a0=some r):CallsH Tryd.prog 82 #[.agg #[iv a0.Room,iv a0.Lease,.slice Aa0_2 na0_2 ca0_2,.slice Aa0_3 na0_3 ca0_3]] H0 w0 (F) (S82 F H0 r):=by
 refine calls_of_runH (F:=C82) Tryd.func82 (by kernel_rfl) Tryd.ntmps82 (args:=[.agg #[iv a0.Room,iv a0.Lease,.slice Aa0_2 na0_2 ca0_2,.slice Aa0_3 na0_3 ca0_3]]) (by kernel_rfl) ?_
 subst hna0_2
 subst hna0_3
 unfold smithyardref7_copied.f at heq
 suffices key:∀ (H:Hp),Rw kBlob H F Aa0_2 a0.Blobs→Rw kEntry H F Aa0_3 a0.Entries→RunH C82 (S82 F H0 r) H0 w0 [.c []] (argL 0 [.agg #[iv a0.Room,iv a0.Lease,.slice Aa0_2 (a0.Blobs.length) ca0_2,.slice Aa0_3 (a0.Entries.length) ca0_3]]) H (F) from key H0 hra0_2 hra0_3
 intro H hra0_2 hra0_3
 refine Ra 1 [0] [.c [1]] ?_
 refine RgH.does (DoesH.new (d:=1) (v:=fun g=>.pointer (some ⟨g,0,none⟩)) (o:=fun g=>.cells #[iv a0.Room,iv a0.Lease,.slice Aa0_2 a0.Blobs.length ca0_2,.slice Aa0_3 a0.Entries.length ca0_3] 25 (0,0)) (fun g=>by kernel_rfl)) ?_
 rintro _ _ _ _ ⟨g1,rfl,rfl,rfl⟩
 refine Rd 2 [1] [(1,pg g1 0)]<|Ra 1 [1,0] [.c [1,1]]<|Rv 5 [1,10] [iv a0.Room,iv a0.Lease] [.load ⟨g1,0,none⟩ (iv a0.Room),.load ⟨g1,1,none⟩ (iv a0.Lease)] [(1,pg g1 0),(10,.agg #[iv a0.Room,iv a0.Lease,.slice none 0 0,.slice none 0 0])] (fun w hh=>⟨(hh.box 0 rfl rfl),(hh.box 0 rfl rfl)⟩) ?_
 refine RgH.does (DoesH.new (d:=11) (v:=fun g=>.pointer (some ⟨g,0,none⟩)) (o:=fun g=>.cells #[iv a0.Room,iv a0.Lease,.slice none 0 0,.slice none 0 0] 25 (0,0)) (fun g=>by kernel_rfl)) ?_
 rintro _ _ _ _ ⟨g2,rfl,rfl,rfl⟩
 refine Rd 7 [1,3] [(1,pg g1 0),(3,pg g2 0)]<|Ad 1 [.c [1,1,0],.c [1,1,1]]<|Kp [1,3] [(1,pg g1 0),(3,pg g2 0)] ?_
 refine RunH.draw (fun w=>Heap H w0 w ((some (g2,.cells #[iv a0.Room,iv a0.Lease,.slice none 0 0,.slice none 0 0] 25 (0,0)))::(some (g1,.cells #[iv a0.Room,iv a0.Lease,.slice Aa0_2 a0.Blobs.length ca0_2,.slice Aa0_3 a0.Entries.length ca0_3] 25 (0,0)))::F)) (fun w=>Heap H w0 w ((some (g2,.cells #[iv a0.Room,iv a0.Lease,.slice none 0 0,.slice none 0 0] 25 (0,0)))::(some (g1,.cells #[iv a0.Room,iv a0.Lease,.slice Aa0_2 a0.Blobs.length ca0_2,.slice Aa0_3 a0.Entries.length ca0_3] 25 (0,0)))::F)) [3,3,3,3,3,3,3,0,0,3,2] (n:=11) (ls:=[false,false,false,false,false,false,false,false,false,false,false]) (by kernel_rfl) (by kernel_rfl) (by kernel_rfl) rfl ?_
 refine Dk [0,1,2,3,4,5,6] 4 (nb 11 127) [.slice none 0 0,.slice Aa0_2 a0.Blobs.length ca0_2] [.load ⟨g2,2,none⟩ (.slice none 0 0),.load ⟨g1,2,none⟩ (.slice Aa0_2 a0.Blobs.length ca0_2)] [1,3,12,16,18] [(1,pg g1 0),(3,pg g2 0),(12,pg g2 0),(16,.slice none 0 0),(18,.slice Aa0_2 a0.Blobs.length ca0_2)] (Pk 2 [0,1]) (Pk 2 [0,1]) (fun w hh=>⟨(hh.box 0 rfl rfl),(hh.box 1 rfl rfl)⟩)<|DrH.nilc ?_
 have ho1:SlOwn kBlob 47 H none 0 ([]:List Blob) none:=SlOwn.nil
 obtain ⟨hn1,heq⟩:=guard?_some heq
 refine DrH.does (n:=3) (ls':=[true,true,true,true,true,true,true,true,false,false,false]) 7 (by kernel_rfl) rfl (DoesH.append (d:=19) (k:=0) (t:=22) (e:=47) (bytes:=48) (kd:=kBlob) (n:=0) (m:=a0.Blobs.length) (xs:=([]:List Blob)) (ys:=a0.Blobs) (A:=none) (B:=Aa0_2) (c:=0) (cB:=ca0_2) (by kernel_rfl) rfl rfl (by kernel_rfl) rfl ho1 (fun w hh=>hra0_2.rdb (hh.drop 3)) (room_le hn1) (by have:=room_le hn1; omega)) ?_
 rintro _ _ _ _ ⟨A1,c1,ch1,rfl,rfl,rfl,ho2⟩
 refine ⟨fun _ w hh=>⟨fun _=>(Pk 3 [1,2]) w hh,fun _=>(Pk 3 [1,2]) w hh,(fun h=>by cases h)⟩,?_⟩
 refine Kr [1,3,12,19] [(1,pg g1 0),(3,pg g2 0),(12,pg g2 0),(19,.slice A1 ((([]:List Blob)++a0.Blobs).length) c1)] ?_
 refine DrH.does (n:=2) (ls':=[true,true,true,true,true,true,true,true,true,false,false]) 8 (by kernel_rfl) rfl (DoesH.pureop (d:=20) (v:=.pointer (some ⟨g2,0,none⟩)) (vs:=[]) (evs:=[]) (by kernel_rfl) (fun _ _=>trivial)) ?_
 rintro _ _ _ _ ⟨rfl,rfl,rfl⟩
 refine ⟨fun _ w hh=>⟨fun _=>(Pk 3 [1,2]) w hh,fun _=>(Pk 3 [1,2]) w hh,(fun h=>by cases h)⟩,?_⟩
 refine Dk [9] 1 (nb 11 1023) [] [] [1,3,19,21] [(1,pg g1 0),(3,pg g2 0),(19,.slice A1 ((([]:List Blob)++a0.Blobs).length) c1),(21,pg g2 2)] (Pk 3 [1,2]) (Pk 2 [0,1]) (fun _ _=>trivial) ?_
 refine DrH.does (n:=0) (ls':=[true,true,true,true,true,true,true,true,true,true,true]) 10 (by kernel_rfl) rfl (DoesH.store (k:=1) (g:=g2) (off:=2) (v:=.slice A1 ((([]:List Blob)++a0.Blobs).length) c1) (cells':=#[iv a0.Room,iv a0.Lease,.slice A1 ((([]:List Blob)++a0.Blobs).length) c1,.slice none 0 0]) (by kernel_rfl) rfl (by kernel_rfl) (by kernel_rfl)) ?_
 rintro _ _ _ _ ⟨rfl,rfl,rfl⟩
 refine ⟨fun _ w hh=>⟨(fun h=>by cases h),(fun h=>absurd h (by decide)),(fun h=>by cases h)⟩,?_⟩
 refine Kr [1,3] [(1,pg g1 0),(3,pg g2 0)] ?_
 refine DrH.done (by kernel_rfl) ?_
 refine Ra 2 [1,1,1,0,0] [.c [1,1,1,0,1],.c [1,1,1,1]]<|Rd 1 [1,3,4] [(1,pg g1 0),(3,pg g2 0),(4,iv 0)]<|Ad 2 [.c [1,1,1,0,1,0,0],.l [1,1,1,0,1,0,0],.b 0,.c [1,1,1,1]]<|RunH.nilc ?_
 have ho7:SlOwn kEntry 51 H none 0 ([]:List Entry) none:=SlOwn.nil
 refine Kp [1,3,4] [(1,pg g1 0),(3,pg g2 0),(4,iv 0)] ?_
 exact ((smithyardref7_copied.l2_c (e1:=smithyardref7_copied.e1) (smithyardref7_copied.e1_c)) big) _ a0 _ _ _ _ _ _ _ _ _ ([]:List Entry) _ _ _ _ 0 hra0_2 hca0_2 hra0_3 hca0_3 ho2 ho7 rfl heq
noncomputable def C121:Ctx:={ P:=Tryd.prog,f:=121,N:=7,c:=bodyOf Tryd.f121 }
def S121 (F:List Ch) (H0:Hp) (r:Bool) (v:Value) (H:Hp) (cs:List Ch):Prop:=H0=H∧v=.bool r∧F=cs
theorem cache_leaving_1_c {w0:World} {H:Hp} {F:List Ch} {a0:Blob} {ga1:Nat} {a1:Int} {r:Bool} (hga1:InG H F ga1 (.cells #[iv a1] 3 (0,0))) (heq:cache_leaving_1.f a0 a1=some r):CallsH Tryd.prog 121 #[.agg #[.string a0.Digest,iv a0.Size,iv a0.Used,iv a0.Until,iv a0.Pins],.pointer (some ⟨ga1,0,none⟩)] H w0 (F) (S121 F H r):=by
 refine calls_of_runH (F:=C121) Tryd.func121 (by kernel_rfl) Tryd.ntmps121 (args:=[.agg #[.string a0.Digest,iv a0.Size,iv a0.Used,iv a0.Until,iv a0.Pins],.pointer (some ⟨ga1,0,none⟩)]) (by kernel_rfl) ?_
 unfold cache_leaving_1.f at heq
 refine Ra 1 [0] [.c [1]] ?_
 refine RgH.does (DoesH.new (d:=2) (v:=fun g=>.pointer (some ⟨g,0,none⟩)) (o:=fun g=>.cells #[.string a0.Digest,iv a0.Size,iv a0.Used,iv a0.Until,iv a0.Pins] 47 (0,0)) (fun g=>by kernel_rfl)) ?_
 rintro _ _ _ _ ⟨g1,rfl,rfl,rfl⟩
 refine Rd 2 [1,2] [(1,pg ga1 0),(2,pg g1 0)]<|Ra 1 [1,0] [.c [1,1]]<|Rv 2 [4,5] [.string a0.Digest,iv a0.Size,iv a0.Used,iv a0.Until,iv a0.Pins,iv a1] [.load ⟨g1,0,none⟩ (.string a0.Digest),.load ⟨g1,1,none⟩ (iv a0.Size),.load ⟨g1,2,none⟩ (iv a0.Used),.load ⟨g1,3,none⟩ (iv a0.Until),.load ⟨g1,4,none⟩ (iv a0.Pins),.load ⟨ga1,0,none⟩ (iv a1)] [(4,.agg #[.string a0.Digest,iv a0.Size,iv a0.Used,iv a0.Until,iv a0.Pins]),(5,iv a1)] (fun w hh=>⟨(hh.box 0 rfl rfl),(hh.box 0 rfl rfl),(hh.box 0 rfl rfl),(hh.box 0 rfl rfl),(hh.box 0 rfl rfl),(hga1.cell (hh.drop 1) rfl)⟩) ?_
 obtain ⟨y1,hy1,heq⟩:=bind_some heq
 refine RgH.does (DoesH.call (d:=6) (g:=74) (args:=#[.agg #[.string a0.Digest,iv a0.Size,iv a0.Used,iv a0.Until,iv a0.Pins],iv a1]) (by kernel_rfl) (cache_held_c (a0:=a0) (a1:=a1)  hy1)) ?_
 rintro _ _ _ _ ⟨_,rfl,rfl,rfl,rfl⟩
 refine Rd 4 [3] [(3,.bool y1)] ?_
 obtain rfl:=Option.some.inj heq
 refine RunH.pick 1 [] (cs':=F) (by kernel_rfl) rfl ?_
 exact RunH.done (by kernel_rfl) Tryd.func121 (v:=.bool y1) (by kernel_rfl) ⟨rfl,rfl,rfl⟩
noncomputable def C109v3:Ctx:={ P:=Tryd.prog,f:=109,N:=19,c:=bodyOf Tryd.f109 }
def S109v3 (F:List Ch) (H0:Hp) (r:Int) (v:Value) (H:Hp) (cs:List Ch):Prop:=H0=H∧v=iv r∧F=cs
theorem slices_IndexFunc_Blob_3.e1_c {w0:World} {H:Hp} {F:List Ch} {r:Int}:slices_IndexFunc_Blob_3.e1=some r→RunH C109v3 (S109v3 F H r) H w0 [.c [1,1,0],.c [1,1,1]] [] H (F):=by
 intro   heq
 unfold slices_IndexFunc_Blob_3.e1 at heq
 refine Rr<|Rd 1 [4] [(4,iv (-1))] ?_
 obtain rfl:=Option.some.inj heq
 exact RunH.done (by kernel_rfl) Tryd.func109 (v:=iv (-1)) (by kernel_rfl) ⟨rfl,rfl,rfl⟩
theorem slices_IndexFunc_Blob_3.l2_c {w0:World} {H:Hp} {F:List Ch} {r:Int} (e1:Option Int)
  (he1:e1=some r→RunH C109v3 (S109v3 F H r) H w0 [.c [1,1,0],.c [1,1,1]] [] H (F)):∀ (k:Nat),∀ (a0:List Blob) (Aa0:Option Addr) (ca0:Nat) (ga1q0:Nat) (a1q0:Int) (v8:Int) ,Rw kBlob H F Aa0 a0→a0.length≤ca0→InG H F ga1q0 (.cells #[iv a1q0] 3 (0,0))→slices_IndexFunc_Blob_3.l2 e1 k a0 a1q0 v8=some r→RunH C109v3 (S109v3 F H r) H w0 [.c [1,0,1,0,0],.l [1,0,1,0,0],.b 0,.c [1,1]] [(0,.slice Aa0 a0.length ca0),(1,.func (.func 121) #[] #[.pointer (some ⟨ga1q0,0,none⟩)]),(7,iv (a0.length:Int)),(8,iv v8)] H (F):=by
 intro k
 induction k with
 | zero=>intro a0 Aa0 ca0 ga1q0 a1q0 v8 hra0 hca0 hga1q0 heq; exact nomatch (show (none:Option Int)=some r from heq)
 | succ k ihk =>
  intro a0 Aa0 ca0 ga1q0 a1q0 v8 hra0 hca0 hga1q0 heq
  rw [slices_IndexFunc_Blob_3.l2] at heq
  refine Ra 1 [1,0,1,0,0,0] [.c [1,0,1,0,0,1],.l [1,0,1,0,0],.b 0,.c [1,1]]<|Rd 1 [0,1,7,8,9] [(0,.slice Aa0 a0.length ca0),(1,.func (.func 121) #[] #[.pointer (some ⟨ga1q0,0,none⟩)]),(7,iv (a0.length:Int)),(8,iv v8),(9,.bool (decide (v8<(a0.length:Int))))]<|Ad 1 [.c [1,0,1,0,0,1,0],.c [1,0,1,0,0,1,1],.l [1,0,1,0,0],.b 0,.c [1,1]] ?_
  rcases bool_cases (decide (v8<(a0.length:Int))) with hb1 | hb1
  ·replace heq:=bif_true hb1 heq
   refine Ct (decide (v8<(a0.length:Int))) hb1<|Ra 4 [1,0,1,0,0,1,1,0,0,0] [.c [1,0,1,0,0,1,1,0,0,1],.b 1,.c [1,0,1,0,0,1,1,1],.l [1,0,1,0,0],.b 0,.c [1,1]]<|Rd 2 [0,1,5,7,8] [(0,.slice Aa0 a0.length ca0),(1,.func (.func 121) #[] #[.pointer (some ⟨ga1q0,0,none⟩)]),(5,iv v8),(7,iv (a0.length:Int)),(8,iv v8)]<|Ra 1 [1,0,1,0,0,1,1,0,0,1,0] [.c [1,0,1,0,0,1,1,0,0,1,1],.b 1,.c [1,0,1,0,0,1,1,1],.l [1,0,1,0,0],.b 0,.c [1,1]] ?_
   obtain ⟨x1,hx1,heq⟩:=bind_some heq
   obtain ⟨ha1,cs1,hK1,hcc1⟩:=hra0.get hx1
   obtain ⟨rfl⟩:=kBlob_open hK1
   refine Rv 5 [0,1,5,7,8,11,15] [.string x1.Digest,iv x1.Size,iv x1.Used,iv x1.Until,iv x1.Pins] [.need (Aa0=some (adr Aa0)∧(0:Int)≤v8∧v8<((a0.length:Nat):Int)),.load (((adr Aa0).add (v8.toNat*5)).add 0) (.string x1.Digest),.load (((adr Aa0).add (v8.toNat*5)).add 1) (iv x1.Size),.load (((adr Aa0).add (v8.toNat*5)).add 2) (iv x1.Used),.load (((adr Aa0).add (v8.toNat*5)).add 3) (iv x1.Until),.load (((adr Aa0).add (v8.toNat*5)).add 4) (iv x1.Pins)] [(0,.slice Aa0 a0.length ca0),(1,.func (.func 121) #[] #[.pointer (some ⟨ga1q0,0,none⟩)]),(5,iv v8),(7,iv (a0.length:Int)),(8,iv v8),(11,.func (.func 121) #[] #[.pointer (some ⟨ga1q0,0,none⟩)]),(15,.agg #[.string x1.Digest,iv x1.Size,iv x1.Used,iv x1.Until,iv x1.Pins])] (fun w hh=>⟨⟨ha1,(at?_some hx1).1,(at?_some hx1).2.1⟩,(hcc1 _ _ (hh.drop 0) 0 _ rfl),(hcc1 _ _ (hh.drop 0) 1 _ rfl),(hcc1 _ _ (hh.drop 0) 2 _ rfl),(hcc1 _ _ (hh.drop 0) 3 _ rfl),(hcc1 _ _ (hh.drop 0) 4 _ rfl)⟩) ?_
   obtain ⟨y1,hy1,heq⟩:=bind_some heq
   refine RgH.does (DoesH.call (d:=16) (g:=121) (args:=#[.agg #[.string x1.Digest,iv x1.Size,iv x1.Used,iv x1.Until,iv x1.Pins],.pointer (some ⟨ga1q0,0,none⟩)]) (by kernel_rfl) (cache_leaving_1_c (a0:=x1) (a1:=a1q0) hga1q0 hy1)) ?_
   rintro _ _ _ _ ⟨_,rfl,rfl,rfl,rfl⟩
   refine Dn ?_
   rcases bool_cases (y1) with hb2 | hb2
   ·replace heq:=bif_true hb2 heq
    refine Ct y1 hb2<|Ra 1 [1,0,1,0,0,1,1,0,0,1,1,0,0] [.c [1,0,1,0,0,1,1,0,0,1,1,0,1],.b 1,.c [1,0,1,0,0,1,1,1],.l [1,0,1,0,0],.b 0,.c [1,1]]<|Rd 2 [4] [(4,iv v8)] ?_
    obtain rfl:=Option.some.inj heq
    exact RunH.done (by kernel_rfl) Tryd.func109 (v:=iv v8) (by kernel_rfl) ⟨rfl,rfl,rfl⟩
   ·replace heq:=bif_false hb2 heq
    refine Cf y1 hb2<|Ra 2 [1,0,1,0,0,1,1,1] [.l [1,0,1,0,0],.b 0,.c [1,1]]<|Rd 2 [0,1,7,8] [(0,.slice Aa0 a0.length ca0),(1,.func (.func 121) #[] #[.pointer (some ⟨ga1q0,0,none⟩)]),(7,iv (a0.length:Int)),(8,iv (w64 (v8+1)))]<|Ad 1 [.c [1,0,1,0,0],.l [1,0,1,0,0],.b 0,.c [1,1]]<|Kp [0,1,7,8] [(0,.slice Aa0 a0.length ca0),(1,.func (.func 121) #[] #[.pointer (some ⟨ga1q0,0,none⟩)]),(7,iv (a0.length:Int)),(8,iv (w64 (v8+1)))] ?_
    exact ihk a0 _ _ _ a1q0 (w64 (v8+1)) hra0 hca0 hga1q0 heq
  ·replace heq:=bif_false hb1 heq
   refine Cf (decide (v8<(a0.length:Int))) hb1<|Ad 2 [.c [1,1,0],.c [1,1,1]]<|Kp [] [] ?_
   exact he1 heq
theorem slices_IndexFunc_Blob_3_c {w0:World} {H:Hp} {F:List Ch} {a0:List Blob} {Aa0:Option Addr} {na0:Nat} {ca0:Nat} {ga1q0:Nat} {a1q0:Int} {r:Int} (hra0:Rw kBlob H F Aa0 a0) (hca0:na0≤ca0) (hna0:na0=a0.length) (hga1q0:InG H F ga1q0 (.cells #[iv a1q0] 3 (0,0))) (heq:slices_IndexFunc_Blob_3.f a0 a1q0=some r):CallsH Tryd.prog 109 #[.slice Aa0 na0 ca0,.func (.func 121) #[] #[.pointer (some ⟨ga1q0,0,none⟩)]] H w0 (F) (S109v3 F H r):=by
 refine calls_of_runH (F:=C109v3) Tryd.func109 (by kernel_rfl) Tryd.ntmps109 (args:=[.slice Aa0 na0 ca0,.func (.func 121) #[] #[.pointer (some ⟨ga1q0,0,none⟩)]]) (by kernel_rfl) ?_
 subst hna0
 unfold slices_IndexFunc_Blob_3.f at heq
 refine Ra 1 [0] [.c [1]]<|Rd 1 [0,1] [(0,.slice Aa0 a0.length ca0),(1,.func (.func 121) #[] #[.pointer (some ⟨ga1q0,0,none⟩)])]<|Ra 2 [1,0,0] [.c [1,0,1],.c [1,1]]<|Rd 3 [0,1,7,8] [(0,.slice Aa0 a0.length ca0),(1,.func (.func 121) #[] #[.pointer (some ⟨ga1q0,0,none⟩)]),(7,iv (a0.length:Int)),(8,iv 0)]<|Ad 2 [.c [1,0,1,0,0],.l [1,0,1,0,0],.b 0,.c [1,1]]<|Kp [0,1,7,8] [(0,.slice Aa0 a0.length ca0),(1,.func (.func 121) #[] #[.pointer (some ⟨ga1q0,0,none⟩)]),(7,iv (a0.length:Int)),(8,iv 0)] ?_
 exact ((slices_IndexFunc_Blob_3.l2_c (e1:=slices_IndexFunc_Blob_3.e1) (slices_IndexFunc_Blob_3.e1_c)) big) a0 _ _ _ a1q0 0 hra0 hca0 hga1q0 heq
noncomputable def C72v3:Ctx:={ P:=Tryd.prog,f:=72,N:=42,c:=bodyOf Tryd.f72 }
def S72v3 (F:List Ch) (H0:Hp) (r:(List Blob)) (v:Value) (H:Hp) (cs:List Ch):Prop:=∃ (A0:Option Addr) (c0:Nat) (ch0:Ch),H0=H∧v=.slice A0 r.length c0∧ch0::F=cs∧SlOwn kBlob 47 H A0 c0 r ch0
theorem slices_DeleteFunc_Blob_3.e1_c {w0:World} {H:Hp} {F:List Ch} {r:(List Blob)}:∀ (v_s0:List Blob) (Av_s0:Option Addr) (nv_s0:Nat) (cv_s0:Nat) (chv_s0:Ch) (v_i5:Int) ,SlOwn kBlob 47 H Av_s0 cv_s0 v_s0 chv_s0→nv_s0=v_s0.length→slices_DeleteFunc_Blob_3.e1 v_s0 v_i5=some r→RunH C72v3 (S72v3 F H r) H w0 [.c [1,1,1,1,0],.c [1,1,1,1,1]] [(0,.slice Av_s0 nv_s0 cv_s0),(5,iv v_i5)] H (chv_s0::F):=by
 intro v_s0 Av_s0 nv_s0 cv_s0 chv_s0 v_i5 hov_s0 hnv_s0 heq
 subst hnv_s0
 unfold slices_DeleteFunc_Blob_3.e1 at heq
 refine Rr ?_
 obtain ⟨hn2,heq⟩:=guard?_some heq
 have hn1:v_s0.length - v_i5.toNat=(v_s0.drop v_i5.toNat).length:=by have h1:=both_of hn2; have h3:=trivial; (try simp); (try omega)
 have ho1:=hov_s0.drop v_i5.toNat (by have h2:=hov_s0.cap; have h3:=trivial; have h1:=both_of hn2; omega)
 refine Rv 3 [0,5,38] [] [.need ((0:Int)≤v_i5∧v_i5≤((v_s0.length:Nat):Int))] [(0,.slice Av_s0 v_s0.length cv_s0),(5,iv v_i5),(38,.slice (shiftA cv_s0 v_i5.toNat 5 Av_s0) (v_s0.length - v_i5.toNat) (cv_s0 - v_i5.toNat))] (fun w hh=>(both_of hn2)) ?_
 refine RgH.does (DoesH.clear (k:=0) (j:=v_i5.toNat) (n:=v_s0.length - v_i5.toNat) (t:=22) (e:=47) (bytes:=48) (kd:=kBlob) (A:=Av_s0) (A2:=(shiftA cv_s0 v_i5.toNat 5 Av_s0)) (c:=cv_s0) (c2:=(cv_s0 - v_i5.toNat)) (xs:=v_s0) (z:=(⟨ByteArray.empty,0,0,0,0⟩:Blob)) (zc:=#[.string ByteArray.empty,iv 0,iv 0,iv 0,iv 0]) (by kernel_rfl) (by have h3:=trivial; omega) (by kernel_rfl) (by kernel_rfl) kBlob_mk (by kernel_rfl) rfl hov_s0 (by have h1:=both_of hn2; have h3:=trivial; omega) (fun h b off hA=>shiftA_at h hov_s0.cap hA)) ?_
 rintro _ _ _ _ ⟨ch1,rfl,rfl,rfl,ho2⟩
 have hn3:v_s0.length=(v_s0.take v_i5.toNat++List.replicate (v_s0.length - v_i5.toNat) (⟨ByteArray.empty,0,0,0,0⟩:Blob)).length:=by have h1:=both_of hn2; have h3:=trivial; simp; omega
 refine Dn<|Ra 1 [1,1,1,1,1,0] [.c [1,1,1,1,1,1]] ?_
 obtain ⟨hn5,heq⟩:=guard?_some heq
 have hn4:v_i5.toNat=((v_s0.take v_i5.toNat++List.replicate (v_s0.length - v_i5.toNat) (⟨ByteArray.empty,0,0,0,0⟩:Blob)).take v_i5.toNat).length:=by have h1:=both_of hn5; have h3:=hn3; (try simp); (try omega)
 have ho3:=ho2.take v_i5.toNat
 refine Rw' 4 [4] [] [.need ((0:Int)≤v_i5∧v_i5≤((cv_s0:Nat):Int))] [(4,.slice Av_s0 v_i5.toNat cv_s0)] (fun w hh=>⟨(both_of hn5).1,(by have h1:=(both_of hn5).2; have h2:=(show v_s0.length≤cv_s0 from by have:=ho2.cap; have:=hn3; omega); have h3:=hn3; omega)⟩) ?_
 obtain rfl:=Option.some.inj heq
 exact RunH.done (by kernel_rfl) Tryd.func72 (v:=.slice Av_s0 v_i5.toNat cv_s0) (by kernel_rfl) ⟨Av_s0,cv_s0,ch1,rfl,(by first | rfl | exact congrArg (fun q=>Value.slice _ q _) hn4 | (rw [hn4]) | (simp only [← hn4])),rfl,ho3⟩
theorem slices_DeleteFunc_Blob_3.j3_c {w0:World} {H:Hp} {F:List Ch} {r:(List Blob)} (backl2:Int→(List Blob)→Int→Int→Option (List Blob))
  (hbackl2:∀ (ga1q0:Nat) (a1q0:Int) (v_s0:List Blob) (Av_s0:Option Addr) (nv_s0:Nat) (cv_s0:Nat) (chv_s0:Ch) (v_i5:Int) (v_j6:Int) ,InG H F ga1q0 (.cells #[iv a1q0] 3 (0,0))→SlOwn kBlob 47 H Av_s0 cv_s0 v_s0 chv_s0→nv_s0=v_s0.length→backl2 a1q0 v_s0 v_i5 v_j6=some r→RunH C72v3 (S72v3 F H r) H w0 [.c [1,1,1,0,1,0,0],.l [1,1,1,0,1,0,0],.b 0,.c [1,1,1,1]] [(0,.slice Av_s0 nv_s0 cv_s0),(1,.func (.func 121) #[] #[.pointer (some ⟨ga1q0,0,none⟩)]),(5,iv v_i5),(6,iv v_j6)] H (chv_s0::F)):∀ (ga1q0:Nat) (a1q0:Int) (v_j6:Int) (v_s0:List Blob) (Av_s0:Option Addr) (nv_s0:Nat) (cv_s0:Nat) (chv_s0:Ch) (v_i5:Int) ,InG H F ga1q0 (.cells #[iv a1q0] 3 (0,0))→SlOwn kBlob 47 H Av_s0 cv_s0 v_s0 chv_s0→nv_s0=v_s0.length→slices_DeleteFunc_Blob_3.j3 backl2 a1q0 v_j6 v_s0 v_i5=some r→RunH C72v3 (S72v3 F H r) H w0 [.c [1,1,1,0,1,0,0,1,1],.l [1,1,1,0,1,0,0],.b 0,.c [1,1,1,1]] [(0,.slice Av_s0 nv_s0 cv_s0),(1,.func (.func 121) #[] #[.pointer (some ⟨ga1q0,0,none⟩)]),(5,iv v_i5),(6,iv v_j6)] H (chv_s0::F):=by
 intro ga1q0 a1q0 v_j6 v_s0 Av_s0 nv_s0 cv_s0 chv_s0 v_i5 hga1q0 hov_s0 hnv_s0 heq
 subst hnv_s0
 unfold slices_DeleteFunc_Blob_3.j3 at heq
 refine Rr<|Rd 3 [0,1,5,6] [(0,.slice Av_s0 v_s0.length cv_s0),(1,.func (.func 121) #[] #[.pointer (some ⟨ga1q0,0,none⟩)]),(5,iv v_i5),(6,iv (w64 (v_j6+1)))]<|Ad 1 [.c [1,1,1,0,1,0,0],.l [1,1,1,0,1,0,0],.b 0,.c [1,1,1,1]]<|Kp [0,1,5,6] [(0,.slice Av_s0 v_s0.length cv_s0),(1,.func (.func 121) #[] #[.pointer (some ⟨ga1q0,0,none⟩)]),(5,iv v_i5),(6,iv (w64 (v_j6+1)))] ?_
 exact hbackl2 _ a1q0 v_s0 _ _ _ _ v_i5 (w64 (v_j6+1)) hga1q0 hov_s0 rfl heq
theorem slices_DeleteFunc_Blob_3.l2_c {w0:World} {H:Hp} {F:List Ch} {r:(List Blob)} (e1:(List Blob)→Int→Option (List Blob))
  (he1:∀ (v_s0:List Blob) (Av_s0:Option Addr) (nv_s0:Nat) (cv_s0:Nat) (chv_s0:Ch) (v_i5:Int) ,SlOwn kBlob 47 H Av_s0 cv_s0 v_s0 chv_s0→nv_s0=v_s0.length→e1 v_s0 v_i5=some r→RunH C72v3 (S72v3 F H r) H w0 [.c [1,1,1,1,0],.c [1,1,1,1,1]] [(0,.slice Av_s0 nv_s0 cv_s0),(5,iv v_i5)] H (chv_s0::F)):∀ (k:Nat),∀ (ga1q0:Nat) (a1q0:Int) (v_s0:List Blob) (Av_s0:Option Addr) (nv_s0:Nat) (cv_s0:Nat) (chv_s0:Ch) (v_i5:Int) (v_j6:Int) ,InG H F ga1q0 (.cells #[iv a1q0] 3 (0,0))→SlOwn kBlob 47 H Av_s0 cv_s0 v_s0 chv_s0→nv_s0=v_s0.length→slices_DeleteFunc_Blob_3.l2 e1 k a1q0 v_s0 v_i5 v_j6=some r→RunH C72v3 (S72v3 F H r) H w0 [.c [1,1,1,0,1,0,0],.l [1,1,1,0,1,0,0],.b 0,.c [1,1,1,1]] [(0,.slice Av_s0 nv_s0 cv_s0),(1,.func (.func 121) #[] #[.pointer (some ⟨ga1q0,0,none⟩)]),(5,iv v_i5),(6,iv v_j6)] H (chv_s0::F):=by
 intro k
 induction k with
 | zero=>intro ga1q0 a1q0 v_s0 Av_s0 nv_s0 cv_s0 chv_s0 v_i5 v_j6 hga1q0 hov_s0 hnv_s0 heq; exact nomatch (show (none:Option (List Blob))=some r from heq)
 | succ k ihk =>
  intro ga1q0 a1q0 v_s0 Av_s0 nv_s0 cv_s0 chv_s0 v_i5 v_j6 hga1q0 hov_s0 hnv_s0 heq
  subst hnv_s0
  rw [slices_DeleteFunc_Blob_3.l2] at heq
  refine Ra 2 [1,1,1,0,1,0,0,0,0] [.c [1,1,1,0,1,0,0,0,1],.c [1,1,1,0,1,0,0,1],.l [1,1,1,0,1,0,0],.b 0,.c [1,1,1,1]]<|Rd 4 [0,1,5,6,19] [(0,.slice Av_s0 v_s0.length cv_s0),(1,.func (.func 121) #[] #[.pointer (some ⟨ga1q0,0,none⟩)]),(5,iv v_i5),(6,iv v_j6),(19,.bool (decide (v_j6<(v_s0.length:Int))))] ?_
  rcases bool_cases (decide (v_j6<(v_s0.length:Int))) with hb2 | hb2
  ·replace heq:=bif_true hb2 heq
   refine Ct (decide (v_j6<(v_s0.length:Int))) hb2<|Ra 4 [1,1,1,0,1,0,0,1,0,0,0] [.c [1,1,1,0,1,0,0,1,0,0,1],.b 1,.c [1,1,1,0,1,0,0,1,1],.l [1,1,1,0,1,0,0],.b 0,.c [1,1,1,1]] ?_
   obtain ⟨x1,hx1,heq⟩:=bind_some heq
   obtain ⟨ha1,cs1,hK1,hcc1⟩:=hov_s0.get hx1
   obtain ⟨rfl⟩:=kBlob_open hK1
   refine Rv 4 [0,1,5,6,25] [.string x1.Digest,iv x1.Size,iv x1.Used,iv x1.Until,iv x1.Pins] [.need (Av_s0=some (adr Av_s0)∧(0:Int)≤v_j6∧v_j6<((v_s0.length:Nat):Int)),.load (((adr Av_s0).add (v_j6.toNat*5)).add 0) (.string x1.Digest),.load (((adr Av_s0).add (v_j6.toNat*5)).add 1) (iv x1.Size),.load (((adr Av_s0).add (v_j6.toNat*5)).add 2) (iv x1.Used),.load (((adr Av_s0).add (v_j6.toNat*5)).add 3) (iv x1.Until),.load (((adr Av_s0).add (v_j6.toNat*5)).add 4) (iv x1.Pins)] [(0,.slice Av_s0 v_s0.length cv_s0),(1,.func (.func 121) #[] #[.pointer (some ⟨ga1q0,0,none⟩)]),(5,iv v_i5),(6,iv v_j6),(25,.agg #[.string x1.Digest,iv x1.Size,iv x1.Used,iv x1.Until,iv x1.Pins])] (fun w hh=>⟨⟨ha1,(at?_some hx1).1,(at?_some hx1).2.1⟩,(hcc1 _ (hh.chin 0 rfl) 0 _ rfl),(hcc1 _ (hh.chin 0 rfl) 1 _ rfl),(hcc1 _ (hh.chin 0 rfl) 2 _ rfl),(hcc1 _ (hh.chin 0 rfl) 3 _ rfl),(hcc1 _ (hh.chin 0 rfl) 4 _ rfl)⟩) ?_
   refine RgH.does (DoesH.new (d:=7) (v:=fun g=>.pointer (some ⟨g,0,none⟩)) (o:=fun g=>.cells #[.string ByteArray.empty,iv 0,iv 0,iv 0,iv 0] 47 (0,0)) (fun g=>by kernel_rfl)) ?_
   rintro _ _ _ _ ⟨g1,rfl,rfl,rfl⟩
   refine RgH.does (DoesH.store (k:=0) (g:=g1) (off:=0) (v:=.agg #[.string x1.Digest,iv x1.Size,iv x1.Used,iv x1.Until,iv x1.Pins]) (cells':=#[.string x1.Digest,iv x1.Size,iv x1.Used,iv x1.Until,iv x1.Pins]) (by kernel_rfl) rfl (by kernel_rfl) (by kernel_rfl)) ?_
   rintro _ _ _ _ ⟨rfl,rfl,rfl⟩
   refine Dn<|Ra 1 [1,1,1,0,1,0,0,1,0,0,1,0] [.c [1,1,1,0,1,0,0,1,0,0,1,1],.b 1,.c [1,1,1,0,1,0,0,1,1],.l [1,1,1,0,1,0,0],.b 0,.c [1,1,1,1]]<|Rv 2 [0,1,5,6,7,26,27] [.string x1.Digest,iv x1.Size,iv x1.Used,iv x1.Until,iv x1.Pins] [.load ⟨g1,0,none⟩ (.string x1.Digest),.load ⟨g1,1,none⟩ (iv x1.Size),.load ⟨g1,2,none⟩ (iv x1.Used),.load ⟨g1,3,none⟩ (iv x1.Until),.load ⟨g1,4,none⟩ (iv x1.Pins)] [(0,.slice Av_s0 v_s0.length cv_s0),(1,.func (.func 121) #[] #[.pointer (some ⟨ga1q0,0,none⟩)]),(5,iv v_i5),(6,iv v_j6),(7,pg g1 0),(26,.func (.func 121) #[] #[.pointer (some ⟨ga1q0,0,none⟩)]),(27,.agg #[.string x1.Digest,iv x1.Size,iv x1.Used,iv x1.Until,iv x1.Pins])] (fun w hh=>⟨(hh.box 0 rfl rfl),(hh.box 0 rfl rfl),(hh.box 0 rfl rfl),(hh.box 0 rfl rfl),(hh.box 0 rfl rfl)⟩) ?_
   obtain ⟨y2,hy2,heq⟩:=bind_some heq
   refine RgH.does (DoesH.call (d:=28) (g:=121) (args:=#[.agg #[.string x1.Digest,iv x1.Size,iv x1.Used,iv x1.Until,iv x1.Pins],.pointer (some ⟨ga1q0,0,none⟩)]) (by kernel_rfl) (cache_leaving_1_c (a0:=x1) (a1:=a1q0) (hga1q0.wk (fun _ h=>(.tail _ (.tail _ h)))) hy2)) ?_
   rintro _ _ _ _ ⟨_,rfl,rfl,rfl,rfl⟩
   refine Rd 4 [0,1,5,6,7,29] [(0,.slice Av_s0 v_s0.length cv_s0),(1,.func (.func 121) #[] #[.pointer (some ⟨ga1q0,0,none⟩)]),(5,iv v_i5),(6,iv v_j6),(7,pg g1 0),(29,.bool (!y2))] ?_
   rcases bool_cases (!y2) with hb3 | hb3
   ·replace heq:=bif_true hb3 heq
    refine Ct (!y2) hb3<|Ra 1 [1,1,1,0,1,0,0,1,0,0,1,1,0,0] [.c [1,1,1,0,1,0,0,1,0,0,1,1,0,1],.b 1,.c [1,1,1,0,1,0,0,1,1],.l [1,1,1,0,1,0,0],.b 0,.c [1,1,1,1]] ?_
    obtain ⟨x2,hx2,heq⟩:=bind_some heq
    obtain ⟨ha2,cs2,hK2,hcc2⟩:=hov_s0.get hx2
    obtain ⟨rfl⟩:=kBlob_open hK2
    refine Rv 4 [0,1,5,6,32,33] [.string x1.Digest,iv x1.Size,iv x1.Used,iv x1.Until,iv x1.Pins] [.load ⟨g1,0,none⟩ (.string x1.Digest),.load ⟨g1,1,none⟩ (iv x1.Size),.load ⟨g1,2,none⟩ (iv x1.Used),.load ⟨g1,3,none⟩ (iv x1.Until),.load ⟨g1,4,none⟩ (iv x1.Pins),.need (Av_s0=some (adr Av_s0)∧(0:Int)≤v_i5∧v_i5<((v_s0.length:Nat):Int))] [(0,.slice Av_s0 v_s0.length cv_s0),(1,.func (.func 121) #[] #[.pointer (some ⟨ga1q0,0,none⟩)]),(5,iv v_i5),(6,iv v_j6),(32,.agg #[.string x1.Digest,iv x1.Size,iv x1.Used,iv x1.Until,iv x1.Pins]),(33,.pointer (some ((adr Av_s0).add (v_i5.toNat*5))))] (fun w hh=>⟨(hh.box 0 rfl rfl),(hh.box 0 rfl rfl),(hh.box 0 rfl rfl),(hh.box 0 rfl rfl),(hh.box 0 rfl rfl),⟨ha2,(at?_some hx2).1,(at?_some hx2).2.1⟩⟩) ?_
    obtain ⟨ha3,cs3,hK3,hcc3⟩:=hov_s0.get hx2
    obtain ⟨rfl⟩:=kBlob_open hK3
    refine RgH.does (DoesH.storeEl (a:=((adr Av_s0).add (v_i5.toNat*5))) (k:=1) (kd:=kBlob) (c0:=[.string x2.Digest,iv x2.Size,iv x2.Used,iv x2.Until,iv x2.Pins]) (x':=x1) (o:=0) (ix:=v_i5) (v:=.agg #[.string x1.Digest,iv x1.Size,iv x1.Used,iv x1.Until,iv x1.Pins]) (by kernel_rfl) rfl hov_s0 hx2 (by kernel_rfl) hcc3 rfl (Nat.le_of_ble_eq_true (by kernel_rfl)) kBlob_mk) ?_
    rintro _ _ _ _ ⟨ch2,rfl,rfl,rfl,ho4⟩
    have hn6:v_s0.length=(v_s0.set v_i5.toNat x1).length:=by rw [List.length_set]
    refine Dn<|Rr<|Rd 3 [0,1,5,6] [(0,.slice Av_s0 v_s0.length cv_s0),(1,.func (.func 121) #[] #[.pointer (some ⟨ga1q0,0,none⟩)]),(5,iv (w64 (v_i5+1))),(6,iv v_j6)]<|Ad 1 [.c [1,1,1,0,1,0,0,1,1],.l [1,1,1,0,1,0,0],.b 0,.c [1,1,1,1]]<|Kp [0,1,5,6] [(0,.slice Av_s0 v_s0.length cv_s0),(1,.func (.func 121) #[] #[.pointer (some ⟨ga1q0,0,none⟩)]),(5,iv (w64 (v_i5+1))),(6,iv v_j6)] ?_
    refine RunH.pick 2 [1] (cs':=ch2::F) (by kernel_rfl) rfl ?_
    exact (slices_DeleteFunc_Blob_3.j3_c (backl2:=(slices_DeleteFunc_Blob_3.l2 e1 k)) ihk) _ a1q0 v_j6 (v_s0.set v_i5.toNat x1) _ _ _ _ (w64 (v_i5+1)) hga1q0 ho4 hn6 heq
   ·replace heq:=bif_false hb3 heq
    refine Cf (!y2) hb3<|Ad 2 [.c [1,1,1,0,1,0,0,1,1],.l [1,1,1,0,1,0,0],.b 0,.c [1,1,1,1]]<|Kp [0,1,5,6] [(0,.slice Av_s0 v_s0.length cv_s0),(1,.func (.func 121) #[] #[.pointer (some ⟨ga1q0,0,none⟩)]),(5,iv v_i5),(6,iv v_j6)] ?_
    refine RunH.pick 2 [1] (cs':=chv_s0::F) (by kernel_rfl) rfl ?_
    exact (slices_DeleteFunc_Blob_3.j3_c (backl2:=(slices_DeleteFunc_Blob_3.l2 e1 k)) ihk) _ a1q0 v_j6 v_s0 _ _ _ _ v_i5 hga1q0 hov_s0 rfl heq
  ·replace heq:=bif_false hb2 heq
   refine Cf (decide (v_j6<(v_s0.length:Int))) hb2<|Ad 2 [.c [1,1,1,1,0],.c [1,1,1,1,1]]<|Kp [0,5] [(0,.slice Av_s0 v_s0.length cv_s0),(5,iv v_i5)] ?_
   exact he1 v_s0 _ _ _ _ v_i5 hov_s0 rfl heq
theorem slices_DeleteFunc_Blob_3_c {w0:World} {H:Hp} {F:List Ch} {a0:List Blob} {Aa0:Option Addr} {na0:Nat} {ca0:Nat} {cha0:Ch} {ga1q0:Nat} {a1q0:Int} {r:(List Blob)} (hoa0:SlOwn kBlob 47 H Aa0 ca0 a0 cha0) (hna0:na0=a0.length) (hga1q0:InG H F ga1q0 (.cells #[iv a1q0] 3 (0,0))) (heq:slices_DeleteFunc_Blob_3.f a0 a1q0=some r):CallsH Tryd.prog 72 #[.slice Aa0 na0 ca0,.func (.func 121) #[] #[.pointer (some ⟨ga1q0,0,none⟩)]] H w0 (cha0::F) (S72v3 F H r):=by
 refine calls_of_runH (F:=C72v3) Tryd.func72 (by kernel_rfl) Tryd.ntmps72 (args:=[.slice Aa0 na0 ca0,.func (.func 121) #[] #[.pointer (some ⟨ga1q0,0,none⟩)]]) (by kernel_rfl) ?_
 subst hna0
 unfold slices_DeleteFunc_Blob_3.f at heq
 refine Ra 1 [0] [.c [1]]<|Rd 1 [0,1] [(0,.slice Aa0 a0.length ca0),(1,.func (.func 121) #[] #[.pointer (some ⟨ga1q0,0,none⟩)])]<|Ra 1 [1,0] [.c [1,1]]<|Rk 2 [0,1,8,9] [(0,.slice Aa0 a0.length ca0),(1,.func (.func 121) #[] #[.pointer (some ⟨ga1q0,0,none⟩)]),(8,.slice Aa0 a0.length ca0),(9,.func (.func 121) #[] #[.pointer (some ⟨ga1q0,0,none⟩)])] ?_
 obtain ⟨y1,hy1,heq⟩:=bind_some heq
 refine RgH.does (DoesH.call (d:=10) (g:=109) (args:=#[.slice Aa0 a0.length ca0,.func (.func 121) #[] #[.pointer (some ⟨ga1q0,0,none⟩)]]) (by kernel_rfl) (slices_IndexFunc_Blob_3_c (a0:=a0) (a1q0:=a1q0) (hoa0.rw (.head _)) hoa0.cap rfl (hga1q0.wk (fun _ h=>(.tail _ h))) hy1)) ?_
 rintro _ _ _ _ ⟨_,rfl,rfl,rfl,rfl⟩
 refine Rd 4 [0,1,5] [(0,.slice Aa0 a0.length ca0),(1,.func (.func 121) #[] #[.pointer (some ⟨ga1q0,0,none⟩)]),(5,iv y1)]<|Ra 2 [1,1,0,0] [.c [1,1,0,1],.c [1,1,1]]<|Rd 2 [0,1,5,12] [(0,.slice Aa0 a0.length ca0),(1,.func (.func 121) #[] #[.pointer (some ⟨ga1q0,0,none⟩)]),(5,iv y1),(12,.bool (y1 == (-1)))] ?_
 rcases bool_cases (y1 == (-1)) with hb1 | hb1
 ·replace heq:=bif_true hb1 heq
  refine Ct (y1 == (-1)) hb1<|Ra 1 [1,1,0,1,0,0] [.c [1,1,0,1,0,1],.c [1,1,1]]<|Rd 2 [4] [(4,.slice Aa0 a0.length ca0)] ?_
  obtain rfl:=Option.some.inj heq
  exact RunH.done (by kernel_rfl) Tryd.func72 (v:=.slice Aa0 a0.length ca0) (by kernel_rfl) ⟨Aa0,ca0,cha0,rfl,rfl,rfl,hoa0⟩
 ·replace heq:=bif_false hb1 heq
  refine Cf (y1 == (-1)) hb1<|Ra 3 [1,1,1,0,0] [.c [1,1,1,0,1],.c [1,1,1,1]]<|Rd 3 [0,1,5,6] [(0,.slice Aa0 a0.length ca0),(1,.func (.func 121) #[] #[.pointer (some ⟨ga1q0,0,none⟩)]),(5,iv y1),(6,iv (w64 (y1+1)))]<|Ad 2 [.c [1,1,1,0,1,0,0],.l [1,1,1,0,1,0,0],.b 0,.c [1,1,1,1]]<|Kp [0,1,5,6] [(0,.slice Aa0 a0.length ca0),(1,.func (.func 121) #[] #[.pointer (some ⟨ga1q0,0,none⟩)]),(5,iv y1),(6,iv (w64 (y1+1)))] ?_
  exact ((slices_DeleteFunc_Blob_3.l2_c (e1:=slices_DeleteFunc_Blob_3.e1) (slices_DeleteFunc_Blob_3.e1_c)) big) _ a1q0 a0 _ _ _ _ y1 (w64 (y1+1)) hga1q0 hoa0 rfl heq
noncomputable def C150:Ctx:={ P:=Tryd.prog,f:=150,N:=6,c:=bodyOf Tryd.f150 }
def S150 (F:List Ch) (H0:Hp) (r:Bool) (v:Value) (H:Hp) (cs:List Ch):Prop:=H0=H∧v=.bool r∧F=cs
theorem cmp_isNaN_int_c {w0:World} {H:Hp} {F:List Ch} {a0:Int} {r:Bool} (heq:cmp_isNaN_int.f a0=some r):CallsH Tryd.prog 150 #[iv a0] H w0 (F) (S150 F H r):=by
 refine calls_of_runH (F:=C150) Tryd.func150 (by kernel_rfl) Tryd.ntmps150 (args:=[iv a0]) (by kernel_rfl) ?_
 unfold cmp_isNaN_int.f at heq
 refine Ra 1 [0] [.c [1]]<|Rd 1 [0] [(0,iv a0)]<|Ra 1 [1,0] [.c [1,1]]<|Rd 4 [2] [(2,.bool (a0 != a0))] ?_
 obtain rfl:=Option.some.inj heq
 exact RunH.done (by kernel_rfl) Tryd.func150 (v:=.bool (a0 != a0)) (by kernel_rfl) ⟨rfl,rfl,rfl⟩
noncomputable def C124:Ctx:={ P:=Tryd.prog,f:=124,N:=20,c:=bodyOf Tryd.f124 }
def S124 (F:List Ch) (H0:Hp) (r:Int) (v:Value) (H:Hp) (cs:List Ch):Prop:=H0=H∧v=iv r∧F=cs
theorem cmp_Compare_int_c {w0:World} {H:Hp} {F:List Ch} {a0:Int} {a1:Int} {r:Int} (heq:cmp_Compare_int.f a0 a1=some r):CallsH Tryd.prog 124 #[iv a0,iv a1] H w0 (F) (S124 F H r):=by
 refine calls_of_runH (F:=C124) Tryd.func124 (by kernel_rfl) Tryd.ntmps124 (args:=[iv a0,iv a1]) (by kernel_rfl) ?_
 unfold cmp_Compare_int.f at heq
 refine Ra 1 [0] [.c [1]]<|Rd 1 [0,1] [(0,iv a0),(1,iv a1)]<|Ra 1 [1,0] [.c [1,1]]<|Rk 1 [0,1,7] [(0,iv a0),(1,iv a1),(7,iv a0)] ?_
 obtain ⟨y1,hy1,heq⟩:=bind_some heq
 refine RgH.does (DoesH.call (d:=8) (g:=150) (args:=#[iv a0]) (by kernel_rfl) (cmp_isNaN_int_c (a0:=a0)  hy1)) ?_
 rintro _ _ _ _ ⟨_,rfl,rfl,rfl,rfl⟩
 refine Rd 3 [0,1,5] [(0,iv a0),(1,iv a1),(5,.bool y1)]<|Ra 1 [1,1,0] [.c [1,1,1]]<|Rk 1 [0,1,5,9] [(0,iv a0),(1,iv a1),(5,.bool y1),(9,iv a1)] ?_
 obtain ⟨y2,hy2,heq⟩:=bind_some heq
 refine RgH.does (DoesH.call (d:=10) (g:=150) (args:=#[iv a1]) (by kernel_rfl) (cmp_isNaN_int_c (a0:=a1)  hy2)) ?_
 rintro _ _ _ _ ⟨_,rfl,rfl,rfl,rfl⟩
 refine Rd 3 [0,1,5,6] [(0,iv a0),(1,iv a1),(5,.bool y1),(6,.bool y2)]<|Ra 2 [1,1,1,0,0] [.c [1,1,1,0,1],.c [1,1,1,1]]<|Rd 1 [0,1,6,11] [(0,iv a0),(1,iv a1),(6,.bool y2),(11,.bool y1)] ?_
 rcases bool_cases (y1) with hb1 | hb1
 ·replace heq:=bif_true hb1 heq
  refine Ct y1 hb1<|Ra 2 [1,1,1,0,1,0,0,0] [.c [1,1,1,0,1,0,0,1],.c [1,1,1,0,1,0,1],.c [1,1,1,1]]<|Rd 1 [12] [(12,.bool y2)] ?_
  rcases bool_cases (y2) with hb2 | hb2
  ·replace heq:=bif_true hb2 heq
   refine Ct y2 hb2<|Ra 1 [1,1,1,0,1,0,0,1,0,0] [.c [1,1,1,0,1,0,0,1,0,1],.c [1,1,1,0,1,0,1],.c [1,1,1,1]]<|Rd 1 [4] [(4,iv 0)] ?_
   obtain rfl:=Option.some.inj heq
   exact RunH.done (by kernel_rfl) Tryd.func124 (v:=iv 0) (by kernel_rfl) ⟨rfl,rfl,rfl⟩
  ·replace heq:=bif_false hb2 heq
   refine Cf y2 hb2<|Ra 2 [1,1,1,0,1,0,1,0] [.c [1,1,1,0,1,0,1,1],.c [1,1,1,1]]<|Rd 1 [4] [(4,iv (-1))] ?_
   obtain rfl:=Option.some.inj heq
   exact RunH.done (by kernel_rfl) Tryd.func124 (v:=iv (-1)) (by kernel_rfl) ⟨rfl,rfl,rfl⟩
 ·replace heq:=bif_false hb1 heq
  refine Cf y1 hb1<|Ra 3 [1,1,1,1,0,0] [.c [1,1,1,1,0,1],.c [1,1,1,1,1]]<|Rd 1 [0,1,13] [(0,iv a0),(1,iv a1),(13,.bool y2)] ?_
  rcases bool_cases (y2) with hb3 | hb3
  ·replace heq:=bif_true hb3 heq
   refine Ct y2 hb3<|Ra 1 [1,1,1,1,0,1,0,0] [.c [1,1,1,1,0,1,0,1],.c [1,1,1,1,1]]<|Rd 1 [4] [(4,iv 1)] ?_
   obtain rfl:=Option.some.inj heq
   exact RunH.done (by kernel_rfl) Tryd.func124 (v:=iv 1) (by kernel_rfl) ⟨rfl,rfl,rfl⟩
  ·replace heq:=bif_false hb3 heq
   refine Cf y2 hb3<|Ra 3 [1,1,1,1,1,0,0] [.c [1,1,1,1,1,0,1],.c [1,1,1,1,1,1]]<|Rd 3 [0,1,16] [(0,iv a0),(1,iv a1),(16,.bool (decide (a0<a1)))] ?_
   rcases bool_cases (decide (a0<a1)) with hb4 | hb4
   ·replace heq:=bif_true hb4 heq
    refine Ct (decide (a0<a1)) hb4<|Ra 1 [1,1,1,1,1,0,1,0,0] [.c [1,1,1,1,1,0,1,0,1],.c [1,1,1,1,1,1]]<|Rd 1 [4] [(4,iv (-1))] ?_
    obtain rfl:=Option.some.inj heq
    exact RunH.done (by kernel_rfl) Tryd.func124 (v:=iv (-1)) (by kernel_rfl) ⟨rfl,rfl,rfl⟩
   ·replace heq:=bif_false hb4 heq
    refine Cf (decide (a0<a1)) hb4<|Ra 3 [1,1,1,1,1,1,0,0] [.c [1,1,1,1,1,1,0,1],.c [1,1,1,1,1,1,1]]<|Rd 3 [19] [(19,.bool (decide (a1<a0)))] ?_
    rcases bool_cases (decide (a1<a0)) with hb5 | hb5
    ·replace heq:=bif_true hb5 heq
     refine Ct (decide (a1<a0)) hb5<|Ra 1 [1,1,1,1,1,1,0,1,0,0] [.c [1,1,1,1,1,1,0,1,0,1],.c [1,1,1,1,1,1,1]]<|Rd 1 [4] [(4,iv 1)] ?_
     obtain rfl:=Option.some.inj heq
     exact RunH.done (by kernel_rfl) Tryd.func124 (v:=iv 1) (by kernel_rfl) ⟨rfl,rfl,rfl⟩
    ·replace heq:=bif_false hb5 heq
     refine Cf (decide (a1<a0)) hb5<|Ra 2 [1,1,1,1,1,1,1,0] [.c [1,1,1,1,1,1,1,1]]<|Rd 1 [4] [(4,iv 0)] ?_
     obtain rfl:=Option.some.inj heq
     exact RunH.done (by kernel_rfl) Tryd.func124 (v:=iv 0) (by kernel_rfl) ⟨rfl,rfl,rfl⟩
noncomputable def C123:Ctx:={ P:=Tryd.prog,f:=123,N:=10,c:=bodyOf Tryd.f123 }
def S123 (F:List Ch) (H0:Hp) (r:Int) (v:Value) (H:Hp) (cs:List Ch):Prop:=H0=H∧v=iv r∧F=cs
theorem cache_leaving_2_c {w0:World} {H:Hp} {F:List Ch} {a0:Blob} {a1:Blob} {r:Int} (heq:cache_leaving_2.f a0 a1=some r):CallsH Tryd.prog 123 #[.agg #[.string a0.Digest,iv a0.Size,iv a0.Used,iv a0.Until,iv a0.Pins],.agg #[.string a1.Digest,iv a1.Size,iv a1.Used,iv a1.Until,iv a1.Pins]] H w0 (F) (S123 F H r):=by
 refine calls_of_runH (F:=C123) Tryd.func123 (by kernel_rfl) Tryd.ntmps123 (args:=[.agg #[.string a0.Digest,iv a0.Size,iv a0.Used,iv a0.Until,iv a0.Pins],.agg #[.string a1.Digest,iv a1.Size,iv a1.Used,iv a1.Until,iv a1.Pins]]) (by kernel_rfl) ?_
 unfold cache_leaving_2.f at heq
 refine Ra 1 [0] [.c [1]] ?_
 refine RgH.does (DoesH.new (d:=2) (v:=fun g=>.pointer (some ⟨g,0,none⟩)) (o:=fun g=>.cells #[.string a0.Digest,iv a0.Size,iv a0.Used,iv a0.Until,iv a0.Pins] 47 (0,0)) (fun g=>by kernel_rfl)) ?_
 rintro _ _ _ _ ⟨g1,rfl,rfl,rfl⟩
 refine RgH.does (DoesH.new (d:=3) (v:=fun g=>.pointer (some ⟨g,0,none⟩)) (o:=fun g=>.cells #[.string a1.Digest,iv a1.Size,iv a1.Used,iv a1.Until,iv a1.Pins] 47 (0,0)) (fun g=>by kernel_rfl)) ?_
 rintro _ _ _ _ ⟨g2,rfl,rfl,rfl⟩
 refine Rd 3 [2,3] [(2,pg g1 0),(3,pg g2 0)]<|Ra 1 [1,0] [.c [1,1]]<|Rv 4 [6,8] [iv a0.Used,iv a1.Used] [.load ⟨g1,2,none⟩ (iv a0.Used),.load ⟨g2,2,none⟩ (iv a1.Used)] [(6,iv a0.Used),(8,iv a1.Used)] (fun w hh=>⟨(hh.box 1 rfl rfl),(hh.box 0 rfl rfl)⟩) ?_
 obtain ⟨y1,hy1,heq⟩:=bind_some heq
 refine RgH.does (DoesH.call (d:=9) (g:=124) (args:=#[iv a0.Used,iv a1.Used]) (by kernel_rfl) (cmp_Compare_int_c (a0:=a0.Used) (a1:=a1.Used)  hy1)) ?_
 rintro _ _ _ _ ⟨_,rfl,rfl,rfl,rfl⟩
 refine Rd 6 [4] [(4,iv y1)] ?_
 obtain rfl:=Option.some.inj heq
 refine RunH.pick 2 [] (cs':=F) (by kernel_rfl) rfl ?_
 exact RunH.done (by kernel_rfl) Tryd.func123 (v:=iv y1) (by kernel_rfl) ⟨rfl,rfl,rfl⟩
end Go.Proofs.YtkjilepjblffeaaDoor
