/- What the machine's calls of these functions come to: just what the plain functions say. Written by program. -/
import Derived.Test.YteljhhgffmpgnaaDoorProg
import Derived.Test.YteljhhgffmpgnaaDoorKitX
import Derived.Test.YteljhhgffmpgnaaDoorZD
import Derived.Test.YteljhhgffmpgnaaDoorShelf
import Derived.Test.YteljhhgffmpgnaaDoorZ3M1
set_option linter.unusedVariables false
set_option linter.unusedSimpArgs false
set_option maxRecDepth 100000
set_option maxHeartbeats 1000000
namespace Go.Proofs.YteljhhgffmpgnaaDoor
open Go Go.RowKit Go.Proofs.YteljhhgffmpgnaaDoor.Kit
noncomputable def C56:Ctx:={ P:=Tryd.prog,f:=56,N:=19,c:=bodyOf Tryd.f56 }
def S56 (F:List Ch) (H0:Hp) (r:Int) (v:Value) (H:Hp) (cs:List Ch):Prop:=H0=H∧v=iv r∧F=cs
theorem slices_IndexFunc_string.e1_c {w0:World} {H:Hp} {F:List Ch} {r:Int}:slices_IndexFunc_string.e1=some r→RunH C56 (S56 F H r) H w0 [.c [1,1,0],.c [1,1,1]] [] H (F):=by
 intro   heq
 unfold slices_IndexFunc_string.e1 at heq
 refine Rr<|Rd 1 [4] [(4,iv (-1))] ?_
 obtain rfl:=Option.some.inj heq
 exact RunH.done (by kernel_rfl) Tryd.func56 (v:=iv (-1)) (by kernel_rfl) ⟨rfl,rfl,rfl⟩
theorem slices_IndexFunc_string.l2_c {w0:World} {H:Hp} {F:List Ch} {r:Int} (e1:Option Int)
  (he1:e1=some r→RunH C56 (S56 F H r) H w0 [.c [1,1,0],.c [1,1,1]] [] H (F)):∀ (k:Nat),∀ (a0:List ByteArray) (Aa0:Option Addr) (ca0:Nat) (ga1q0:Nat) (a1q0:List Work) (Aa1q0_0:Option Addr) (ca1q0_0:Nat) (ga1q1:Nat) (a1q1:List Bool) (Aa1q1_0:Option Addr) (ca1q1_0:Nat) (v8:Int) ,Rw Kd.string H F Aa0 a0→a0.length≤ca0→Rw kWork H F Aa1q0_0 a1q0→a1q0.length≤ca1q0_0→InG H F ga1q0 (.cells #[.slice Aa1q0_0 a1q0.length ca1q0_0] 23 (0,0))→Rw Kd.bool H F Aa1q1_0 a1q1→a1q1.length≤ca1q1_0→InG H F ga1q1 (.cells #[.slice Aa1q1_0 a1q1.length ca1q1_0] 77 (0,0))→slices_IndexFunc_string.l2 e1 k a0 a1q0 a1q1 v8=some r→RunH C56 (S56 F H r) H w0 [.c [1,0,1,0,0],.l [1,0,1,0,0],.b 0,.c [1,1]] [(0,.slice Aa0 a0.length ca0),(1,.func (.func 50) #[] #[.pointer (some ⟨ga1q0,0,none⟩),.pointer (some ⟨ga1q1,0,none⟩)]),(7,iv (a0.length:Int)),(8,iv v8)] H (F):=by
 intro k
 induction k with
 | zero=>intro a0 Aa0 ca0 ga1q0 a1q0 Aa1q0_0 ca1q0_0 ga1q1 a1q1 Aa1q1_0 ca1q1_0 v8 hra0 hca0 hra1q0_0 hca1q0_0 hga1q0 hra1q1_0 hca1q1_0 hga1q1 heq; exact nomatch (show (none:Option Int)=some r from heq)
 | succ k ihk =>
  intro a0 Aa0 ca0 ga1q0 a1q0 Aa1q0_0 ca1q0_0 ga1q1 a1q1 Aa1q1_0 ca1q1_0 v8 hra0 hca0 hra1q0_0 hca1q0_0 hga1q0 hra1q1_0 hca1q1_0 hga1q1 heq
  rw [slices_IndexFunc_string.l2] at heq
  refine Ra 1 [1,0,1,0,0,0] [.c [1,0,1,0,0,1],.l [1,0,1,0,0],.b 0,.c [1,1]]<|Rd 1 [0,1,7,8,9] [(0,.slice Aa0 a0.length ca0),(1,.func (.func 50) #[] #[.pointer (some ⟨ga1q0,0,none⟩),.pointer (some ⟨ga1q1,0,none⟩)]),(7,iv (a0.length:Int)),(8,iv v8),(9,.bool (decide (v8<(a0.length:Int))))]<|Ad 1 [.c [1,0,1,0,0,1,0],.c [1,0,1,0,0,1,1],.l [1,0,1,0,0],.b 0,.c [1,1]] ?_
  rcases bool_cases (decide (v8<(a0.length:Int))) with hb1 | hb1
  ·replace heq:=bif_true hb1 heq
   refine Ct (decide (v8<(a0.length:Int))) hb1<|Ra 4 [1,0,1,0,0,1,1,0,0,0] [.c [1,0,1,0,0,1,1,0,0,1],.b 1,.c [1,0,1,0,0,1,1,1],.l [1,0,1,0,0],.b 0,.c [1,1]]<|Rd 2 [0,1,5,7,8] [(0,.slice Aa0 a0.length ca0),(1,.func (.func 50) #[] #[.pointer (some ⟨ga1q0,0,none⟩),.pointer (some ⟨ga1q1,0,none⟩)]),(5,iv v8),(7,iv (a0.length:Int)),(8,iv v8)]<|Ra 1 [1,0,1,0,0,1,1,0,0,1,0] [.c [1,0,1,0,0,1,1,0,0,1,1],.b 1,.c [1,0,1,0,0,1,1,1],.l [1,0,1,0,0],.b 0,.c [1,1]] ?_
   obtain ⟨x1,hx1,heq⟩:=bind_some heq
   obtain ⟨ha1,cs1,hK1,hcc1⟩:=hra0.get hx1
   obtain rfl:cs1=[.string x1]:=hK1
   refine Rv 5 [0,1,5,7,8,11,15] [.string x1] [.need (Aa0=some (adr Aa0)∧(0:Int)≤v8∧v8<((a0.length:Nat):Int)),.load ((adr Aa0).add (v8.toNat*1)) (.string x1)] [(0,.slice Aa0 a0.length ca0),(1,.func (.func 50) #[] #[.pointer (some ⟨ga1q0,0,none⟩),.pointer (some ⟨ga1q1,0,none⟩)]),(5,iv v8),(7,iv (a0.length:Int)),(8,iv v8),(11,.func (.func 50) #[] #[.pointer (some ⟨ga1q0,0,none⟩),.pointer (some ⟨ga1q1,0,none⟩)]),(15,.string x1)] (fun w hh=>⟨⟨ha1,(at?_some hx1).1,(at?_some hx1).2.1⟩,(hcc1 _ _ (hh.drop 0) 0 _ rfl)⟩) ?_
   obtain ⟨y1,hy1,heq⟩:=bind_some heq
   refine RgH.does (DoesH.call (d:=16) (g:=50) (args:=#[.string x1,.pointer (some ⟨ga1q0,0,none⟩),.pointer (some ⟨ga1q1,0,none⟩)]) (by kernel_rfl) (workers_ordered_1_c (a0:=x1) (a1:=a1q0) (a2:=a1q1) hra1q0_0 hca1q0_0 rfl hga1q0 hra1q1_0 hca1q1_0 rfl hga1q1 hy1)) ?_
   rintro _ _ _ _ ⟨_,rfl,rfl,rfl,rfl⟩
   refine Dn ?_
   rcases bool_cases (y1) with hb2 | hb2
   ·replace heq:=bif_true hb2 heq
    refine Ct y1 hb2<|Ra 1 [1,0,1,0,0,1,1,0,0,1,1,0,0] [.c [1,0,1,0,0,1,1,0,0,1,1,0,1],.b 1,.c [1,0,1,0,0,1,1,1],.l [1,0,1,0,0],.b 0,.c [1,1]]<|Rd 2 [4] [(4,iv v8)] ?_
    obtain rfl:=Option.some.inj heq
    exact RunH.done (by kernel_rfl) Tryd.func56 (v:=iv v8) (by kernel_rfl) ⟨rfl,rfl,rfl⟩
   ·replace heq:=bif_false hb2 heq
    refine Cf y1 hb2<|Ra 2 [1,0,1,0,0,1,1,1] [.l [1,0,1,0,0],.b 0,.c [1,1]]<|Rd 2 [0,1,7,8] [(0,.slice Aa0 a0.length ca0),(1,.func (.func 50) #[] #[.pointer (some ⟨ga1q0,0,none⟩),.pointer (some ⟨ga1q1,0,none⟩)]),(7,iv (a0.length:Int)),(8,iv (w64 (v8+1)))]<|Ad 1 [.c [1,0,1,0,0],.l [1,0,1,0,0],.b 0,.c [1,1]]<|Kp [0,1,7,8] [(0,.slice Aa0 a0.length ca0),(1,.func (.func 50) #[] #[.pointer (some ⟨ga1q0,0,none⟩),.pointer (some ⟨ga1q1,0,none⟩)]),(7,iv (a0.length:Int)),(8,iv (w64 (v8+1)))] ?_
    exact ihk a0 _ _ _ a1q0 _ _ _ a1q1 _ _ (w64 (v8+1)) hra0 hca0 hra1q0_0 hca1q0_0 hga1q0 hra1q1_0 hca1q1_0 hga1q1 heq
  ·replace heq:=bif_false hb1 heq
   refine Cf (decide (v8<(a0.length:Int))) hb1<|Ad 2 [.c [1,1,0],.c [1,1,1]]<|Kp [] [] ?_
   exact he1 heq
theorem slices_IndexFunc_string_c {w0:World} {H:Hp} {F:List Ch} {a0:List ByteArray} {Aa0:Option Addr} {na0:Nat} {ca0:Nat} {ga1q0:Nat} {a1q0:List Work} {Aa1q0_0:Option Addr} {na1q0_0:Nat} {ca1q0_0:Nat} {ga1q1:Nat} {a1q1:List Bool} {Aa1q1_0:Option Addr} {na1q1_0:Nat} {ca1q1_0:Nat} {r:Int} (hra0:Rw Kd.string H F Aa0 a0) (hca0:na0≤ca0) (hna0:na0=a0.length) (hra1q0_0:Rw kWork H F Aa1q0_0 a1q0) (hca1q0_0:na1q0_0≤ca1q0_0) (hna1q0_0:na1q0_0=a1q0.length) (hga1q0:InG H F ga1q0 (.cells #[.slice Aa1q0_0 na1q0_0 ca1q0_0] 23 (0,0))) (hra1q1_0:Rw Kd.bool H F Aa1q1_0 a1q1) (hca1q1_0:na1q1_0≤ca1q1_0) (hna1q1_0:na1q1_0=a1q1.length) (hga1q1:InG H F ga1q1 (.cells #[.slice Aa1q1_0 na1q1_0 ca1q1_0] 77 (0,0))) (heq:slices_IndexFunc_string.f a0 a1q0 a1q1=some r):CallsH Tryd.prog 56 #[.slice Aa0 na0 ca0,.func (.func 50) #[] #[.pointer (some ⟨ga1q0,0,none⟩),.pointer (some ⟨ga1q1,0,none⟩)]] H w0 (F) (S56 F H r):=by
 refine calls_of_runH (F:=C56) Tryd.func56 (by kernel_rfl) Tryd.ntmps56 (args:=[.slice Aa0 na0 ca0,.func (.func 50) #[] #[.pointer (some ⟨ga1q0,0,none⟩),.pointer (some ⟨ga1q1,0,none⟩)]]) (by kernel_rfl) ?_
 subst hna0
 subst hna1q0_0
 subst hna1q1_0
 unfold slices_IndexFunc_string.f at heq
 refine Ra 1 [0] [.c [1]]<|Rd 1 [0,1] [(0,.slice Aa0 a0.length ca0),(1,.func (.func 50) #[] #[.pointer (some ⟨ga1q0,0,none⟩),.pointer (some ⟨ga1q1,0,none⟩)])]<|Ra 2 [1,0,0] [.c [1,0,1],.c [1,1]]<|Rd 3 [0,1,7,8] [(0,.slice Aa0 a0.length ca0),(1,.func (.func 50) #[] #[.pointer (some ⟨ga1q0,0,none⟩),.pointer (some ⟨ga1q1,0,none⟩)]),(7,iv (a0.length:Int)),(8,iv 0)]<|Ad 2 [.c [1,0,1,0,0],.l [1,0,1,0,0],.b 0,.c [1,1]]<|Kp [0,1,7,8] [(0,.slice Aa0 a0.length ca0),(1,.func (.func 50) #[] #[.pointer (some ⟨ga1q0,0,none⟩),.pointer (some ⟨ga1q1,0,none⟩)]),(7,iv (a0.length:Int)),(8,iv 0)] ?_
 exact ((slices_IndexFunc_string.l2_c (e1:=slices_IndexFunc_string.e1) (slices_IndexFunc_string.e1_c)) big) a0 _ _ _ a1q0 _ _ _ a1q1 _ _ 0 hra0 hca0 hra1q0_0 hca1q0_0 hga1q0 hra1q1_0 hca1q1_0 hga1q1 heq
noncomputable def C49:Ctx:={ P:=Tryd.prog,f:=49,N:=9,c:=bodyOf Tryd.f49 }
def S49 (F:List Ch) (H0:Hp) (r:Bool) (v:Value) (H:Hp) (cs:List Ch):Prop:=H0=H∧v=.bool r∧F=cs
theorem slices_ContainsFunc_string_c {w0:World} {H:Hp} {F:List Ch} {a0:List ByteArray} {Aa0:Option Addr} {na0:Nat} {ca0:Nat} {ga1q0:Nat} {a1q0:List Work} {Aa1q0_0:Option Addr} {na1q0_0:Nat} {ca1q0_0:Nat} {ga1q1:Nat} {a1q1:List Bool} {Aa1q1_0:Option Addr} {na1q1_0:Nat} {ca1q1_0:Nat} {r:Bool} (hra0:Rw Kd.string H F Aa0 a0) (hca0:na0≤ca0) (hna0:na0=a0.length) (hra1q0_0:Rw kWork H F Aa1q0_0 a1q0) (hca1q0_0:na1q0_0≤ca1q0_0) (hna1q0_0:na1q0_0=a1q0.length) (hga1q0:InG H F ga1q0 (.cells #[.slice Aa1q0_0 na1q0_0 ca1q0_0] 23 (0,0))) (hra1q1_0:Rw Kd.bool H F Aa1q1_0 a1q1) (hca1q1_0:na1q1_0≤ca1q1_0) (hna1q1_0:na1q1_0=a1q1.length) (hga1q1:InG H F ga1q1 (.cells #[.slice Aa1q1_0 na1q1_0 ca1q1_0] 77 (0,0))) (heq:slices_ContainsFunc_string.f a0 a1q0 a1q1=some r):CallsH Tryd.prog 49 #[.slice Aa0 na0 ca0,.func (.func 50) #[] #[.pointer (some ⟨ga1q0,0,none⟩),.pointer (some ⟨ga1q1,0,none⟩)]] H w0 (F) (S49 F H r):=by
 refine calls_of_runH (F:=C49) Tryd.func49 (by kernel_rfl) Tryd.ntmps49 (args:=[.slice Aa0 na0 ca0,.func (.func 50) #[] #[.pointer (some ⟨ga1q0,0,none⟩),.pointer (some ⟨ga1q1,0,none⟩)]]) (by kernel_rfl) ?_
 subst hna0
 subst hna1q0_0
 subst hna1q1_0
 unfold slices_ContainsFunc_string.f at heq
 refine Ra 1 [0] [.c [1]]<|Rd 1 [0,1] [(0,.slice Aa0 a0.length ca0),(1,.func (.func 50) #[] #[.pointer (some ⟨ga1q0,0,none⟩),.pointer (some ⟨ga1q1,0,none⟩)])]<|Ra 1 [1,0] [.c [1,1]]<|Rk 2 [5,6] [(5,.slice Aa0 a0.length ca0),(6,.func (.func 50) #[] #[.pointer (some ⟨ga1q0,0,none⟩),.pointer (some ⟨ga1q1,0,none⟩)])] ?_
 obtain ⟨y1,hy1,heq⟩:=bind_some heq
 refine RgH.does (DoesH.call (d:=7) (g:=56) (args:=#[.slice Aa0 a0.length ca0,.func (.func 50) #[] #[.pointer (some ⟨ga1q0,0,none⟩),.pointer (some ⟨ga1q1,0,none⟩)]]) (by kernel_rfl) (slices_IndexFunc_string_c (a0:=a0) (a1q0:=a1q0) (a1q1:=a1q1) hra0 hca0 rfl hra1q0_0 hca1q0_0 rfl hga1q0 hra1q1_0 hca1q1_0 rfl hga1q1 hy1)) ?_
 rintro _ _ _ _ ⟨_,rfl,rfl,rfl,rfl⟩
 refine Rd 5 [4] [(4,.bool (decide (0≤y1)))] ?_
 obtain rfl:=Option.some.inj heq
 exact RunH.done (by kernel_rfl) Tryd.func49 (v:=.bool (decide (0≤y1))) (by kernel_rfl) ⟨rfl,rfl,rfl⟩
noncomputable def C29:Ctx:={ P:=Tryd.prog,f:=29,N:=44,c:=bodyOf Tryd.f29 }
def S29 (F:List Ch) (H0:Hp) (r:(List Int) × Bool) (v:Value) (H:Hp) (cs:List Ch):Prop:=∃ (A0:Option Addr) (c0:Nat) (ch0:Ch),H0=H∧v=.tuple #[.slice A0 r.1.length c0,.bool r.2]∧ch0::F=cs∧SlOwn (Kd.int .i64) 3 H A0 c0 r.1 ch0
theorem workers_ordered.e1_c {w0:World} {H:Hp} {F:List Ch} {r:(List Int) × Bool}:∀ (a0:List Work) (Aa0:Option Addr) (ca0:Nat) (g1:Nat) (v_out5:List Int) (Av_out5:Option Addr) (nv_out5:Nat) (cv_out5:Nat) (chv_out5:Ch) ,Rw kWork H F Aa0 a0→a0.length≤ca0→SlOwn (Kd.int .i64) 3 H Av_out5 cv_out5 v_out5 chv_out5→nv_out5=v_out5.length→workers_ordered.e1 a0 v_out5=some r→RunH C29 (S29 F H r) H w0 [.c [1,1,1,1,0],.c [1,1,1,1,1]] [(1,pg g1 0),(5,.slice Av_out5 nv_out5 cv_out5)] H (chv_out5::(some (g1,.cells #[.slice Aa0 a0.length ca0] 23 (0,0)))::F):=by
 intro a0 Aa0 ca0 g1 v_out5 Av_out5 nv_out5 cv_out5 chv_out5 hra0 hca0 hov_out5 hnv_out5 heq
 subst hnv_out5
 unfold workers_ordered.e1 at heq
 refine Kp [1,5] [(1,pg g1 0),(5,.slice Av_out5 v_out5.length cv_out5)] ?_
 refine RunH.draw (fun w=>Heap H w0 w (chv_out5::(some (g1,.cells #[.slice Aa0 a0.length ca0] 23 (0,0)))::F)) (fun w=>Heap H w0 w (chv_out5::(some (g1,.cells #[.slice Aa0 a0.length ca0] 23 (0,0)))::F)) [3,3,3,3,3,3,3,3] (n:=8) (ls:=[false,false,false,false,false,false,false,false]) (by kernel_rfl) (by kernel_rfl) (by kernel_rfl) rfl ?_
 refine Dk [0,1,2,3,4,5,6,7] 0 (nb 8 255) [.slice Aa0 a0.length ca0] [.load ⟨g1,0,none⟩ (.slice Aa0 a0.length ca0)] [2,3] [(2,.slice Av_out5 v_out5.length cv_out5),(3,.bool ((v_out5.length:Int) == (a0.length:Int)))] (Pk 2 [0,1]) (Pk 2 [0,1]) (fun w hh=>(hh.box 1 rfl rfl)) ?_
 refine DrH.done (by kernel_rfl) ?_
 obtain rfl:=Option.some.inj heq
 refine RunH.pick 2 [0] (cs':=chv_out5::F) (by kernel_rfl) rfl ?_
 exact RunH.done (by kernel_rfl) Tryd.func29 (v:=.tuple #[.slice Av_out5 v_out5.length cv_out5,.bool ((v_out5.length:Int) == (a0.length:Int))]) (by kernel_rfl) ⟨Av_out5,cv_out5,chv_out5,rfl,rfl,rfl,hov_out5⟩
theorem workers_ordered.j4_c {w0:World} {H:Hp} {F:List Ch} {r:(List Int) × Bool} (backl3:(List Work)→(List Bool)→(List Int)→Bool→Int→Option ((List Int) × Bool))
  (hbackl3:∀ (a0:List Work) (Aa0:Option Addr) (ca0:Nat) (g1:Nat) (g3:Nat) (v_done4_0:List Bool) (Av_done4_0:Option Addr) (nv_done4_0:Nat) (cv_done4_0:Nat) (chv_done4_0:Ch) (v_out5:List Int) (Av_out5:Option Addr) (nv_out5:Nat) (cv_out5:Nat) (chv_out5:Ch) (v_more6:Bool) (v15:Int) ,Rw kWork H F Aa0 a0→a0.length≤ca0→SlOwn Kd.bool 4 H Av_done4_0 cv_done4_0 v_done4_0 chv_done4_0→nv_done4_0=v_done4_0.length→SlOwn (Kd.int .i64) 3 H Av_out5 cv_out5 v_out5 chv_out5→nv_out5=v_out5.length→backl3 a0 v_done4_0 v_out5 v_more6 v15=some r→RunH C29 (S29 F H r) H w0 [.c [1,1,1,0,1,0,0,1,0,1,1,0,0],.l [1,1,1,0,1,0,0,1,0,1,1,0,0],.b 2,.b 1,.l [1,1,1,0,1,0,0],.b 0,.c [1,1,1,1]] [(1,pg g1 0),(4,pg g3 0),(5,.slice Av_out5 nv_out5 cv_out5),(6,.bool v_more6),(13,.slice Aa0 a0.length ca0),(14,iv (a0.length:Int)),(15,iv v15)] H (chv_out5::(some (g3,.cells #[.slice Av_done4_0 nv_done4_0 cv_done4_0] 77 (0,0)))::chv_done4_0::(some (g1,.cells #[.slice Aa0 a0.length ca0] 23 (0,0)))::F)):∀ (a0:List Work) (Aa0:Option Addr) (ca0:Nat) (g1:Nat) (g3:Nat) (v15:Int) (v_done4_0:List Bool) (Av_done4_0:Option Addr) (nv_done4_0:Nat) (cv_done4_0:Nat) (chv_done4_0:Ch) (v_out5:List Int) (Av_out5:Option Addr) (nv_out5:Nat) (cv_out5:Nat) (chv_out5:Ch) (v_more6:Bool) ,Rw kWork H F Aa0 a0→a0.length≤ca0→SlOwn Kd.bool 4 H Av_done4_0 cv_done4_0 v_done4_0 chv_done4_0→nv_done4_0=v_done4_0.length→SlOwn (Kd.int .i64) 3 H Av_out5 cv_out5 v_out5 chv_out5→nv_out5=v_out5.length→workers_ordered.j4 backl3 a0 v15 v_done4_0 v_out5 v_more6=some r→RunH C29 (S29 F H r) H w0 [.c [1,1,1,0,1,0,0,1,0,1,1,0,0,1,1,1],.l [1,1,1,0,1,0,0,1,0,1,1,0,0],.b 2,.b 1,.l [1,1,1,0,1,0,0],.b 0,.c [1,1,1,1]] [(1,pg g1 0),(4,pg g3 0),(5,.slice Av_out5 nv_out5 cv_out5),(6,.bool v_more6),(13,.slice Aa0 a0.length ca0),(14,iv (a0.length:Int)),(15,iv v15)] H (chv_out5::(some (g3,.cells #[.slice Av_done4_0 nv_done4_0 cv_done4_0] 77 (0,0)))::chv_done4_0::(some (g1,.cells #[.slice Aa0 a0.length ca0] 23 (0,0)))::F):=by
 intro a0 Aa0 ca0 g1 g3 v15 v_done4_0 Av_done4_0 nv_done4_0 cv_done4_0 chv_done4_0 v_out5 Av_out5 nv_out5 cv_out5 chv_out5 v_more6 hra0 hca0 hov_done4_0 hnv_done4_0 hov_out5 hnv_out5 heq
 subst hnv_done4_0
 subst hnv_out5
 unfold workers_ordered.j4 at heq
 refine Rr<|Rd 2 [1,4,5,6,13,14,15] [(1,pg g1 0),(4,pg g3 0),(5,.slice Av_out5 v_out5.length cv_out5),(6,.bool v_more6),(13,.slice Aa0 a0.length ca0),(14,iv (a0.length:Int)),(15,iv (w64 (v15+1)))]<|Ad 1 [.c [1,1,1,0,1,0,0,1,0,1,1,0,0],.l [1,1,1,0,1,0,0,1,0,1,1,0,0],.b 2,.b 1,.l [1,1,1,0,1,0,0],.b 0,.c [1,1,1,1]]<|Kp [1,4,5,6,13,14,15] [(1,pg g1 0),(4,pg g3 0),(5,.slice Av_out5 v_out5.length cv_out5),(6,.bool v_more6),(13,.slice Aa0 a0.length ca0),(14,iv (a0.length:Int)),(15,iv (w64 (v15+1)))] ?_
 exact hbackl3 a0 _ _ _ _ v_done4_0 _ _ _ _ v_out5 _ _ _ _ v_more6 (w64 (v15+1)) hra0 hca0 hov_done4_0 rfl hov_out5 rfl heq
theorem workers_ordered.l3_c {w0:World} {H:Hp} {F:List Ch} {r:(List Int) × Bool} (backl2:(List Work)→(List Bool)→(List Int)→Bool→Option ((List Int) × Bool))
  (hbackl2:∀ (a0:List Work) (Aa0:Option Addr) (ca0:Nat) (g1:Nat) (g3:Nat) (v_done4_0:List Bool) (Av_done4_0:Option Addr) (nv_done4_0:Nat) (cv_done4_0:Nat) (chv_done4_0:Ch) (v_out5:List Int) (Av_out5:Option Addr) (nv_out5:Nat) (cv_out5:Nat) (chv_out5:Ch) (v_more6:Bool) ,Rw kWork H F Aa0 a0→a0.length≤ca0→SlOwn Kd.bool 4 H Av_done4_0 cv_done4_0 v_done4_0 chv_done4_0→nv_done4_0=v_done4_0.length→SlOwn (Kd.int .i64) 3 H Av_out5 cv_out5 v_out5 chv_out5→nv_out5=v_out5.length→backl2 a0 v_done4_0 v_out5 v_more6=some r→RunH C29 (S29 F H r) H w0 [.c [1,1,1,0,1,0,0],.l [1,1,1,0,1,0,0],.b 0,.c [1,1,1,1]] [(1,pg g1 0),(4,pg g3 0),(5,.slice Av_out5 nv_out5 cv_out5),(6,.bool v_more6)] H (chv_out5::(some (g3,.cells #[.slice Av_done4_0 nv_done4_0 cv_done4_0] 77 (0,0)))::chv_done4_0::(some (g1,.cells #[.slice Aa0 a0.length ca0] 23 (0,0)))::F)):∀ (k:Nat),∀ (a0:List Work) (Aa0:Option Addr) (ca0:Nat) (g1:Nat) (g3:Nat) (v_done4_0:List Bool) (Av_done4_0:Option Addr) (nv_done4_0:Nat) (cv_done4_0:Nat) (chv_done4_0:Ch) (v_out5:List Int) (Av_out5:Option Addr) (nv_out5:Nat) (cv_out5:Nat) (chv_out5:Ch) (v_more6:Bool) (v15:Int) ,Rw kWork H F Aa0 a0→a0.length≤ca0→SlOwn Kd.bool 4 H Av_done4_0 cv_done4_0 v_done4_0 chv_done4_0→nv_done4_0=v_done4_0.length→SlOwn (Kd.int .i64) 3 H Av_out5 cv_out5 v_out5 chv_out5→nv_out5=v_out5.length→workers_ordered.l3 backl2 k a0 v_done4_0 v_out5 v_more6 v15=some r→RunH C29 (S29 F H r) H w0 [.c [1,1,1,0,1,0,0,1,0,1,1,0,0],.l [1,1,1,0,1,0,0,1,0,1,1,0,0],.b 2,.b 1,.l [1,1,1,0,1,0,0],.b 0,.c [1,1,1,1]] [(1,pg g1 0),(4,pg g3 0),(5,.slice Av_out5 nv_out5 cv_out5),(6,.bool v_more6),(13,.slice Aa0 a0.length ca0),(14,iv (a0.length:Int)),(15,iv v15)] H (chv_out5::(some (g3,.cells #[.slice Av_done4_0 nv_done4_0 cv_done4_0] 77 (0,0)))::chv_done4_0::(some (g1,.cells #[.slice Aa0 a0.length ca0] 23 (0,0)))::F):=by
 intro k
 induction k with
 | zero=>intro a0 Aa0 ca0 g1 g3 v_done4_0 Av_done4_0 nv_done4_0 cv_done4_0 chv_done4_0 v_out5 Av_out5 nv_out5 cv_out5 chv_out5 v_more6 v15 hra0 hca0 hov_done4_0 hnv_done4_0 hov_out5 hnv_out5 heq; exact nomatch (show (none:Option ((List Int) × Bool))=some r from heq)
 | succ k ihk =>
  intro a0 Aa0 ca0 g1 g3 v_done4_0 Av_done4_0 nv_done4_0 cv_done4_0 chv_done4_0 v_out5 Av_out5 nv_out5 cv_out5 chv_out5 v_more6 v15 hra0 hca0 hov_done4_0 hnv_done4_0 hov_out5 hnv_out5 heq
  subst hnv_done4_0
  subst hnv_out5
  rw [workers_ordered.l3] at heq
  refine Ra 1 [1,1,1,0,1,0,0,1,0,1,1,0,0,0] [.c [1,1,1,0,1,0,0,1,0,1,1,0,0,1],.l [1,1,1,0,1,0,0,1,0,1,1,0,0],.b 2,.b 1,.l [1,1,1,0,1,0,0],.b 0,.c [1,1,1,1]]<|Rd 1 [1,4,5,6,13,14,15,16] [(1,pg g1 0),(4,pg g3 0),(5,.slice Av_out5 v_out5.length cv_out5),(6,.bool v_more6),(13,.slice Aa0 a0.length ca0),(14,iv (a0.length:Int)),(15,iv v15),(16,.bool (decide (v15<(a0.length:Int))))]<|Ad 1 [.c [1,1,1,0,1,0,0,1,0,1,1,0,0,1,0],.c [1,1,1,0,1,0,0,1,0,1,1,0,0,1,1],.l [1,1,1,0,1,0,0,1,0,1,1,0,0],.b 2,.b 1,.l [1,1,1,0,1,0,0],.b 0,.c [1,1,1,1]] ?_
  rcases bool_cases (decide (v15<(a0.length:Int))) with hb2 | hb2
  ·replace heq:=bif_true hb2 heq
   refine Ct (decide (v15<(a0.length:Int))) hb2<|Ra 4 [1,1,1,0,1,0,0,1,0,1,1,0,0,1,1,0,0,0] [.c [1,1,1,0,1,0,0,1,0,1,1,0,0,1,1,0,0,1],.b 3,.c [1,1,1,0,1,0,0,1,0,1,1,0,0,1,1,1],.l [1,1,1,0,1,0,0,1,0,1,1,0,0],.b 2,.b 1,.l [1,1,1,0,1,0,0],.b 0,.c [1,1,1,1]] ?_
   obtain ⟨x1,hx1,heq⟩:=bind_some heq
   obtain ⟨ha1,cs1,hK1,hcc1⟩:=hra0.get hx1
   obtain ⟨A1,c1,A2,c2,rfl,hc1,hr1,hc2,hr2⟩:=kWork_open hK1
   refine Rv 3 [1,4,5,6,13,14,15,17,19] [.string x1.Id,.slice A1 x1.Needs.length c1,iv x1.Size,.slice A2 x1.After.length c2] [.need (Aa0=some (adr Aa0)∧(0:Int)≤v15∧v15<((a0.length:Nat):Int)),.load (((adr Aa0).add (v15.toNat*4)).add 0) (.string x1.Id),.load (((adr Aa0).add (v15.toNat*4)).add 1) (.slice A1 x1.Needs.length c1),.load (((adr Aa0).add (v15.toNat*4)).add 2) (iv x1.Size),.load (((adr Aa0).add (v15.toNat*4)).add 3) (.slice A2 x1.After.length c2)] [(1,pg g1 0),(4,pg g3 0),(5,.slice Av_out5 v_out5.length cv_out5),(6,.bool v_more6),(13,.slice Aa0 a0.length ca0),(14,iv (a0.length:Int)),(15,iv v15),(17,iv v15),(19,.agg #[.string x1.Id,.slice A1 x1.Needs.length c1,iv x1.Size,.slice A2 x1.After.length c2])] (fun w hh=>⟨⟨ha1,(at?_some hx1).1,(at?_some hx1).2.1⟩,(hcc1 _ _ (hh.drop 4) 0 _ rfl),(hcc1 _ _ (hh.drop 4) 1 _ rfl),(hcc1 _ _ (hh.drop 4) 2 _ rfl),(hcc1 _ _ (hh.drop 4) 3 _ rfl)⟩) ?_
   refine RgH.does (DoesH.new (d:=8) (v:=fun g=>.pointer (some ⟨g,0,none⟩)) (o:=fun g=>.cells #[.string ByteArray.empty,.slice none 0 0,iv 0,.slice none 0 0] 30 (0,0)) (fun g=>by kernel_rfl)) ?_
   rintro _ _ _ _ ⟨g4,rfl,rfl,rfl⟩
   refine Rk 5 [1,4,5,6,7,8,13,14,15,19] [(1,pg g1 0),(4,pg g3 0),(5,.slice Av_out5 v_out5.length cv_out5),(6,.bool v_more6),(7,iv v15),(8,pg g4 0),(13,.slice Aa0 a0.length ca0),(14,iv (a0.length:Int)),(15,iv v15),(19,.agg #[.string x1.Id,.slice A1 x1.Needs.length c1,iv x1.Size,.slice A2 x1.After.length c2])] ?_
   refine RgH.does (DoesH.store (k:=0) (g:=g4) (off:=0) (v:=.agg #[.string x1.Id,.slice A1 x1.Needs.length c1,iv x1.Size,.slice A2 x1.After.length c2]) (cells':=#[.string x1.Id,.slice A1 x1.Needs.length c1,iv x1.Size,.slice A2 x1.After.length c2]) (by kernel_rfl) rfl (by kernel_rfl) (by kernel_rfl)) ?_
   rintro _ _ _ _ ⟨rfl,rfl,rfl⟩
   refine Dn<|Ad 2 [.c [1,1,1,0,1,0,0,1,0,1,1,0,0,1,1,0,0,1,0,0],.c [1,1,1,0,1,0,0,1,0,1,1,0,0,1,1,0,0,1,0,1],.c [1,1,1,0,1,0,0,1,0,1,1,0,0,1,1,0,0,1,1],.b 3,.c [1,1,1,0,1,0,0,1,0,1,1,0,0,1,1,1],.l [1,1,1,0,1,0,0,1,0,1,1,0,0],.b 2,.b 1,.l [1,1,1,0,1,0,0],.b 0,.c [1,1,1,1]] ?_
   obtain ⟨t1,ht1,heq⟩:=bind_some heq
   have K10:RunH C29 (S29 F H r) H w0 [.c [1,1,1,0,1,0,0,1,0,1,1,0,0,1,1,0,0,1,0,1],.c [1,1,1,0,1,0,0,1,0,1,1,0,0,1,1,0,0,1,1],.b 3,.c [1,1,1,0,1,0,0,1,0,1,1,0,0,1,1,1],.l [1,1,1,0,1,0,0,1,0,1,1,0,0],.b 2,.b 1,.l [1,1,1,0,1,0,0],.b 0,.c [1,1,1,1]] [(1,pg g1 0),(4,pg g3 0),(5,.slice Av_out5 v_out5.length cv_out5),(6,.bool v_more6),(7,iv v15),(13,.slice Aa0 a0.length ca0),(14,iv (a0.length:Int)),(15,iv v15),(29,.bool t1)] H (chv_out5::(some (g3,.cells #[.slice Av_done4_0 v_done4_0.length cv_done4_0] 77 (0,0)))::chv_done4_0::(some (g1,.cells #[.slice Aa0 a0.length ca0] 23 (0,0)))::F):=by
    rcases bool_cases (t1) with hb4 | hb4
    ·replace heq:=bif_true hb4 heq
     refine Ct t1 hb4<|Ad 1 [.c [1,1,1,0,1,0,0,1,0,1,1,0,0,1,1,1],.l [1,1,1,0,1,0,0,1,0,1,1,0,0],.b 2,.b 1,.l [1,1,1,0,1,0,0],.b 0,.c [1,1,1,1]]<|Kp [1,4,5,6,13,14,15] [(1,pg g1 0),(4,pg g3 0),(5,.slice Av_out5 v_out5.length cv_out5),(6,.bool v_more6),(13,.slice Aa0 a0.length ca0),(14,iv (a0.length:Int)),(15,iv v15)] ?_
     exact (workers_ordered.j4_c (backl3:=(workers_ordered.l3 backl2 k)) ihk) a0 _ _ _ _ v15 v_done4_0 _ _ _ _ v_out5 _ _ _ _ v_more6 hra0 hca0 hov_done4_0 rfl hov_out5 rfl heq
    ·replace heq:=bif_false hb4 heq
     refine Cf t1 hb4<|Ra 2 [1,1,1,0,1,0,0,1,0,1,1,0,0,1,1,0,0,1,1,0] [.c [1,1,1,0,1,0,0,1,0,1,1,0,0,1,1,0,0,1,1,1],.b 3,.c [1,1,1,0,1,0,0,1,0,1,1,0,0,1,1,1],.l [1,1,1,0,1,0,0,1,0,1,1,0,0],.b 2,.b 1,.l [1,1,1,0,1,0,0],.b 0,.c [1,1,1,1]] ?_
     obtain ⟨x3,hx3,heq⟩:=bind_some heq
     obtain ⟨ha3,cs3,hK3,hcc3⟩:=hov_done4_0.get hx3
     obtain rfl:cs3=[.bool x3]:=hK3
     refine Rv 3 [1,4,5,7,13,14,15,32] [.slice Av_done4_0 v_done4_0.length cv_done4_0] [.load ⟨g3,0,none⟩ (.slice Av_done4_0 v_done4_0.length cv_done4_0),.need (Av_done4_0=some (adr Av_done4_0)∧(0:Int)≤v15∧v15<((v_done4_0.length:Nat):Int))] [(1,pg g1 0),(4,pg g3 0),(5,.slice Av_out5 v_out5.length cv_out5),(7,iv v15),(13,.slice Aa0 a0.length ca0),(14,iv (a0.length:Int)),(15,iv v15),(32,.pointer (some ((adr Av_done4_0).add (v15.toNat*1))))] (fun w hh=>⟨(hh.box 1 rfl rfl),⟨ha3,(at?_some hx3).1,(at?_some hx3).2.1⟩⟩) ?_
     obtain ⟨ha4,cs4,hK4,hcc4⟩:=hov_done4_0.get hx3
     obtain rfl:cs4=[.bool x3]:=hK4
     refine RgH.does (DoesH.storeEl (a:=((adr Av_done4_0).add (v15.toNat*1))) (k:=2) (kd:=Kd.bool) (c0:=[.bool x3]) (x':=true) (o:=0) (ix:=v15) (v:=.bool true) (by kernel_rfl) rfl hov_done4_0 hx3 (by kernel_rfl) hcc4 rfl (Nat.le_of_ble_eq_true (by kernel_rfl)) rfl) ?_
     rintro _ _ _ _ ⟨ch2,rfl,rfl,rfl,ho2⟩
     have hn2:v_done4_0.length=(v_done4_0.set v15.toNat true).length:=by rw [List.length_set]
     refine Rd 5 [1,4,5,6,7,13,14,15] [(1,pg g1 0),(4,pg g3 0),(5,.slice Av_out5 v_out5.length cv_out5),(6,.bool true),(7,iv v15),(13,.slice Aa0 a0.length ca0),(14,iv (a0.length:Int)),(15,iv v15)]<|Rr<|Rk 2 [1,4,6,13,14,15,33,34] [(1,pg g1 0),(4,pg g3 0),(6,.bool true),(13,.slice Aa0 a0.length ca0),(14,iv (a0.length:Int)),(15,iv v15),(33,.slice Av_out5 v_out5.length cv_out5),(34,iv v15)] ?_
     refine RgH.does (DoesH.new (d:=35) (v:=fun g=>.slice (some ⟨g,0,none⟩) 1 1) (o:=fun g=>.cells #[iv v15] 3 (0,0)) (fun g=>by kernel_rfl)) ?_
     rintro _ _ _ _ ⟨g5,rfl,rfl,rfl⟩
     have ho3:SlOwn (Kd.int .i64) 3 H (some ⟨g5,0,none⟩) 1 ([v15]:List Int) (some (g5,.cells #[iv v15] 3 (0,0))):=SlOwn.lit (xs:=([v15]:List Int)) (by kernel_rfl) (Nat.le_of_ble_eq_true (by kernel_rfl)) (Kd.Rep.scalars rfl)
     obtain ⟨hn3,heq⟩:=guard?_some heq
     refine RgH.does (DoesH.append (d:=36) (k:=1) (t:=59) (e:=3) (bytes:=8) (kd:=(Kd.int .i64)) (n:=v_out5.length) (m:=1) (xs:=v_out5) (ys:=([v15]:List Int)) (A:=Av_out5) (B:=(some ⟨g5,0,none⟩)) (c:=cv_out5) (cB:=1) (by kernel_rfl) rfl rfl (by kernel_rfl) rfl hov_out5 (fun w hh=>ho3.rdb (hh.chin 0 rfl)) (room_le hn3) (by have:=room_le hn3; omega)) ?_
     rintro _ _ _ _ ⟨A3,c3,ch3,rfl,rfl,rfl,ho4⟩
     refine Rd 5 [1,4,5,6,13,14,15] [(1,pg g1 0),(4,pg g3 0),(5,.slice A3 ((v_out5++([v15]:List Int)).length) c3),(6,.bool true),(13,.slice Aa0 a0.length ca0),(14,iv (a0.length:Int)),(15,iv v15)]<|Ad 1 [.c [1,1,1,0,1,0,0,1,0,1,1,0,0,1,1,1],.l [1,1,1,0,1,0,0,1,0,1,1,0,0],.b 2,.b 1,.l [1,1,1,0,1,0,0],.b 0,.c [1,1,1,1]]<|Kp [1,4,5,6,13,14,15] [(1,pg g1 0),(4,pg g3 0),(5,.slice A3 ((v_out5++([v15]:List Int)).length) c3),(6,.bool true),(13,.slice Aa0 a0.length ca0),(14,iv (a0.length:Int)),(15,iv v15)] ?_
     refine RunH.pick 5 [1,2,3,4] (cs':=ch3::(some (g3,.cells #[.slice Av_done4_0 v_done4_0.length cv_done4_0] 77 (0,0)))::ch2::(some (g1,.cells #[.slice Aa0 a0.length ca0] 23 (0,0)))::F) (by kernel_rfl) rfl ?_
     exact (workers_ordered.j4_c (backl3:=(workers_ordered.l3 backl2 k)) ihk) a0 _ _ _ _ v15 (v_done4_0.set v15.toNat true) _ _ _ _ (v_out5++([v15]:List Int)) _ _ _ _ true hra0 hca0 ho2 hn2 ho4 rfl heq
   replace heq:=ht1
   refine Rr ?_
   obtain ⟨x2,hx2,heq⟩:=bind_some heq
   obtain ⟨ha2,cs2,hK2,hcc2⟩:=hov_done4_0.get hx2
   obtain rfl:cs2=[.bool x2]:=hK2
   refine Rv 5 [24,1,4,5,6,7,8,13,14,15] [.slice Av_done4_0 v_done4_0.length cv_done4_0,.bool x2] [.load ⟨g3,0,none⟩ (.slice Av_done4_0 v_done4_0.length cv_done4_0),.need (Av_done4_0=some (adr Av_done4_0)∧(0:Int)≤v15∧v15<((v_done4_0.length:Nat):Int)),.load ((adr Av_done4_0).add (v15.toNat*1)) (.bool x2)] [(24,.bool x2),(1,pg g1 0),(4,pg g3 0),(5,.slice Av_out5 v_out5.length cv_out5),(6,.bool v_more6),(7,iv v15),(8,pg g4 0),(13,.slice Aa0 a0.length ca0),(14,iv (a0.length:Int)),(15,iv v15)] (fun w hh=>⟨(hh.box 2 rfl rfl),⟨ha2,(at?_some hx2).1,(at?_some hx2).2.1⟩,(hcc2 _ (hh.chin 3 rfl) 0 _ rfl)⟩) ?_
   rcases bool_cases (x2) with hb3 | hb3
   ·replace heq:=bif_true hb3 heq
    refine RgH.val1 (v':=.bool true) (congrArg Value.bool hb3) ?_
    refine Rk 10 [1,4,5,6,7,13,14,15,29] [(1,pg g1 0),(4,pg g3 0),(5,.slice Av_out5 v_out5.length cv_out5),(6,.bool v_more6),(7,iv v15),(13,.slice Aa0 a0.length ca0),(14,iv (a0.length:Int)),(15,iv v15),(29,.bool true)] ?_
    obtain rfl:=Option.some.inj heq
    refine Kg [1,4,5,6,7,13,14,15,29] [(1,pg g1 0),(4,pg g3 0),(5,.slice Av_out5 v_out5.length cv_out5),(6,.bool v_more6),(7,iv v15),(13,.slice Aa0 a0.length ca0),(14,iv (a0.length:Int)),(15,iv v15),(29,.bool true)] ?_
    refine RgH.pick 5 [1,2,3,4] (cs':=chv_out5::(some (g3,.cells #[.slice Av_done4_0 v_done4_0.length cv_done4_0] 77 (0,0)))::chv_done4_0::(some (g1,.cells #[.slice Aa0 a0.length ca0] 23 (0,0)))::F) (by kernel_rfl) rfl ?_
    refine Dn ?_
    exact K10
   ·replace heq:=bif_false hb3 heq
    refine RgH.val1 (v':=.bool false) (congrArg Value.bool hb3) ?_
    refine Rv 8 [1,4,5,6,7,13,14,15,24,26,27] [.slice A2 x1.After.length c2] [.load ⟨g4,3,none⟩ (.slice A2 x1.After.length c2)] [(1,pg g1 0),(4,pg g3 0),(5,.slice Av_out5 v_out5.length cv_out5),(6,.bool v_more6),(7,iv v15),(13,.slice Aa0 a0.length ca0),(14,iv (a0.length:Int)),(15,iv v15),(24,.bool false),(26,.slice A2 x1.After.length c2),(27,.func (.func 50) #[] #[.pointer (some ⟨g1,0,none⟩),.pointer (some ⟨g3,0,none⟩)])] (fun w hh=>(hh.box 0 rfl rfl)) ?_
    obtain ⟨y1,hy1,heq⟩:=bind_some heq
    refine RgH.does (DoesH.call (d:=28) (g:=49) (args:=#[.slice A2 x1.After.length c2,.func (.func 50) #[] #[.pointer (some ⟨g1,0,none⟩),.pointer (some ⟨g3,0,none⟩)]]) (by kernel_rfl) (slices_ContainsFunc_string_c (a0:=x1.After) (a1q0:=a0) (a1q1:=v_done4_0) (Rw.of hr2) hc2 rfl (hra0.wk (fun _ h=>(.tail _ (.tail _ (.tail _ (.tail _ (.tail _ h))))))) hca0 rfl (.inr (.tail _ (.tail _ (.tail _ (.tail _ (.head _)))))) (hov_done4_0.rw (.tail _ (.tail _ (.tail _ (.head _))))) hov_done4_0.cap rfl (.inr (.tail _ (.tail _ (.head _)))) hy1)) ?_
    rintro _ _ _ _ ⟨_,rfl,rfl,rfl,rfl⟩
    refine Rk 10 [1,4,5,6,7,13,14,15,29] [(1,pg g1 0),(4,pg g3 0),(5,.slice Av_out5 v_out5.length cv_out5),(6,.bool v_more6),(7,iv v15),(13,.slice Aa0 a0.length ca0),(14,iv (a0.length:Int)),(15,iv v15),(29,.bool y1)] ?_
    obtain rfl:=Option.some.inj heq
    refine Kg [1,4,5,6,7,13,14,15,29] [(1,pg g1 0),(4,pg g3 0),(5,.slice Av_out5 v_out5.length cv_out5),(6,.bool v_more6),(7,iv v15),(13,.slice Aa0 a0.length ca0),(14,iv (a0.length:Int)),(15,iv v15),(29,.bool y1)] ?_
    refine RgH.pick 5 [1,2,3,4] (cs':=chv_out5::(some (g3,.cells #[.slice Av_done4_0 v_done4_0.length cv_done4_0] 77 (0,0)))::chv_done4_0::(some (g1,.cells #[.slice Aa0 a0.length ca0] 23 (0,0)))::F) (by kernel_rfl) rfl ?_
    refine Dn ?_
    exact K10
  ·replace heq:=bif_false hb2 heq
   refine Cf (decide (v15<(a0.length:Int))) hb2<|Ad 3 [.c [1,1,1,0,1,0,0],.l [1,1,1,0,1,0,0],.b 0,.c [1,1,1,1]]<|Kp [1,4,5,6] [(1,pg g1 0),(4,pg g3 0),(5,.slice Av_out5 v_out5.length cv_out5),(6,.bool v_more6)] ?_
   exact hbackl2 a0 _ _ _ _ v_done4_0 _ _ _ _ v_out5 _ _ _ _ v_more6 hra0 hca0 hov_done4_0 rfl hov_out5 rfl heq
theorem workers_ordered.l2_c {w0:World} {H:Hp} {F:List Ch} {r:(List Int) × Bool} (e1:(List Work)→(List Int)→Option ((List Int) × Bool))
  (he1:∀ (a0:List Work) (Aa0:Option Addr) (ca0:Nat) (g1:Nat) (v_out5:List Int) (Av_out5:Option Addr) (nv_out5:Nat) (cv_out5:Nat) (chv_out5:Ch) ,Rw kWork H F Aa0 a0→a0.length≤ca0→SlOwn (Kd.int .i64) 3 H Av_out5 cv_out5 v_out5 chv_out5→nv_out5=v_out5.length→e1 a0 v_out5=some r→RunH C29 (S29 F H r) H w0 [.c [1,1,1,1,0],.c [1,1,1,1,1]] [(1,pg g1 0),(5,.slice Av_out5 nv_out5 cv_out5)] H (chv_out5::(some (g1,.cells #[.slice Aa0 a0.length ca0] 23 (0,0)))::F)):∀ (k:Nat),∀ (a0:List Work) (Aa0:Option Addr) (ca0:Nat) (g1:Nat) (g3:Nat) (v_done4_0:List Bool) (Av_done4_0:Option Addr) (nv_done4_0:Nat) (cv_done4_0:Nat) (chv_done4_0:Ch) (v_out5:List Int) (Av_out5:Option Addr) (nv_out5:Nat) (cv_out5:Nat) (chv_out5:Ch) (v_more6:Bool) ,Rw kWork H F Aa0 a0→a0.length≤ca0→SlOwn Kd.bool 4 H Av_done4_0 cv_done4_0 v_done4_0 chv_done4_0→nv_done4_0=v_done4_0.length→SlOwn (Kd.int .i64) 3 H Av_out5 cv_out5 v_out5 chv_out5→nv_out5=v_out5.length→workers_ordered.l2 e1 k a0 v_done4_0 v_out5 v_more6=some r→RunH C29 (S29 F H r) H w0 [.c [1,1,1,0,1,0,0],.l [1,1,1,0,1,0,0],.b 0,.c [1,1,1,1]] [(1,pg g1 0),(4,pg g3 0),(5,.slice Av_out5 nv_out5 cv_out5),(6,.bool v_more6)] H (chv_out5::(some (g3,.cells #[.slice Av_done4_0 nv_done4_0 cv_done4_0] 77 (0,0)))::chv_done4_0::(some (g1,.cells #[.slice Aa0 a0.length ca0] 23 (0,0)))::F):=by
 intro k
 induction k with
 | zero=>intro a0 Aa0 ca0 g1 g3 v_done4_0 Av_done4_0 nv_done4_0 cv_done4_0 chv_done4_0 v_out5 Av_out5 nv_out5 cv_out5 chv_out5 v_more6 hra0 hca0 hov_done4_0 hnv_done4_0 hov_out5 hnv_out5 heq; exact nomatch (show (none:Option ((List Int) × Bool))=some r from heq)
 | succ k ihk =>
  intro a0 Aa0 ca0 g1 g3 v_done4_0 Av_done4_0 nv_done4_0 cv_done4_0 chv_done4_0 v_out5 Av_out5 nv_out5 cv_out5 chv_out5 v_more6 hra0 hca0 hov_done4_0 hnv_done4_0 hov_out5 hnv_out5 heq
  subst hnv_done4_0
  subst hnv_out5
  rw [workers_ordered.l2] at heq
  refine Ra 2 [1,1,1,0,1,0,0,0,0] [.c [1,1,1,0,1,0,0,0,1],.c [1,1,1,0,1,0,0,1],.l [1,1,1,0,1,0,0],.b 0,.c [1,1,1,1]]<|Rd 1 [1,4,5,12] [(1,pg g1 0),(4,pg g3 0),(5,.slice Av_out5 v_out5.length cv_out5),(12,.bool v_more6)] ?_
  rcases bool_cases (v_more6) with hb1 | hb1
  ·replace heq:=bif_true hb1 heq
   refine Ct v_more6 hb1<|Ra 3 [1,1,1,0,1,0,0,1,0,0] [.c [1,1,1,0,1,0,0,1,0,1],.b 1,.l [1,1,1,0,1,0,0],.b 0,.c [1,1,1,1]]<|Rd 1 [1,4,5,6] [(1,pg g1 0),(4,pg g3 0),(5,.slice Av_out5 v_out5.length cv_out5),(6,.bool false)]<|Ra 1 [1,1,1,0,1,0,0,1,0,1,0] [.c [1,1,1,0,1,0,0,1,0,1,1],.b 1,.l [1,1,1,0,1,0,0],.b 0,.c [1,1,1,1]]<|Rw' 3 [1,4,5,6,13,14,15] [.slice Aa0 a0.length ca0] [.load ⟨g1,0,none⟩ (.slice Aa0 a0.length ca0)] [(1,pg g1 0),(4,pg g3 0),(5,.slice Av_out5 v_out5.length cv_out5),(6,.bool false),(13,.slice Aa0 a0.length ca0),(14,iv (a0.length:Int)),(15,iv 0)] (fun w hh=>(hh.box 3 rfl rfl))<|Ad 2 [.c [1,1,1,0,1,0,0,1,0,1,1,0,0],.l [1,1,1,0,1,0,0,1,0,1,1,0,0],.b 2,.b 1,.l [1,1,1,0,1,0,0],.b 0,.c [1,1,1,1]]<|Kp [1,4,5,6,13,14,15] [(1,pg g1 0),(4,pg g3 0),(5,.slice Av_out5 v_out5.length cv_out5),(6,.bool false),(13,.slice Aa0 a0.length ca0),(14,iv (a0.length:Int)),(15,iv 0)] ?_
   exact ((workers_ordered.l3_c (backl2:=(workers_ordered.l2 e1 k)) ihk) big) a0 _ _ _ _ v_done4_0 _ _ _ _ v_out5 _ _ _ _ false 0 hra0 hca0 hov_done4_0 rfl hov_out5 rfl heq
  ·replace heq:=bif_false hb1 heq
   refine Cf v_more6 hb1<|Ad 2 [.c [1,1,1,1,0],.c [1,1,1,1,1]]<|Kp [1,5] [(1,pg g1 0),(5,.slice Av_out5 v_out5.length cv_out5)] ?_
   refine RunH.pick 4 [0,3] (cs':=chv_out5::(some (g1,.cells #[.slice Aa0 a0.length ca0] 23 (0,0)))::F) (by kernel_rfl) rfl ?_
   exact he1 a0 _ _ _ v_out5 _ _ _ _ hra0 hca0 hov_out5 rfl heq
theorem workers_ordered_c {w0:World} {H:Hp} {F:List Ch} {a0:List Work} {Aa0:Option Addr} {na0:Nat} {ca0:Nat} {r:(List Int) × Bool} (hra0:Rw kWork H F Aa0 a0) (hca0:na0≤ca0) (hna0:na0=a0.length) (heq:workers_ordered.f a0=some r):CallsH Tryd.prog 29 #[.slice Aa0 na0 ca0] H w0 (F) (S29 F H r):=by
 refine calls_of_runH (F:=C29) Tryd.func29 (by kernel_rfl) Tryd.ntmps29 (args:=[.slice Aa0 na0 ca0]) (by kernel_rfl) ?_
 subst hna0
 unfold workers_ordered.f at heq
 refine Ra 1 [0] [.c [1]] ?_
 refine RgH.does (DoesH.new (d:=1) (v:=fun g=>.pointer (some ⟨g,0,none⟩)) (o:=fun g=>.cells #[.slice Aa0 a0.length ca0] 23 (0,0)) (fun g=>by kernel_rfl)) ?_
 rintro _ _ _ _ ⟨g1,rfl,rfl,rfl⟩
 refine Rd 3 [1] [(1,pg g1 0)]<|Ra 1 [1,0] [.c [1,1]]<|Rv 2 [1,10] [.slice Aa0 a0.length ca0] [.load ⟨g1,0,none⟩ (.slice Aa0 a0.length ca0)] [(1,pg g1 0),(10,iv (a0.length:Int))] (fun w hh=>(hh.box 0 rfl rfl)) ?_
 obtain ⟨hn1,heq⟩:=guard?_some heq
 simp only [Bool.and_eq_true,decide_eq_true_eq] at hn1
 refine RgH.does (DoesH.makeSlice (d:=11) (e:=4) (bytes:=1) (kd:=Kd.bool) (zc:=#[.bool false]) (z:=false) (n:=(a0.length:Int)) (by kernel_rfl) hn1.1 (by have:=room_le hn1.2; simpa using this) (by have:=room_le hn1.2; simp at this; omega) rfl (by decide)) ?_
 rintro _ _ _ _ ⟨g2,ch1,rfl,rfl,rfl,ho1⟩
 refine RgH.does (DoesH.new (d:=4) (v:=fun g=>.pointer (some ⟨g,0,none⟩)) (o:=fun g=>.cells #[.slice none 0 0] 77 (0,0)) (fun g=>by kernel_rfl)) ?_
 rintro _ _ _ _ ⟨g3,rfl,rfl,rfl⟩
 refine RgH.does (DoesH.store (k:=0) (g:=g3) (off:=0) (v:=.slice (some ⟨g2,0,none⟩) ((List.replicate (a0.length:Int).toNat (false)).length) ((a0.length:Int).toNat)) (cells':=#[.slice (some ⟨g2,0,none⟩) ((List.replicate (a0.length:Int).toNat (false)).length) ((a0.length:Int).toNat)]) (by kernel_rfl) rfl (by kernel_rfl) (by kernel_rfl)) ?_
 rintro _ _ _ _ ⟨rfl,rfl,rfl⟩
 refine Dn<|Ra 1 [1,1,0] [.c [1,1,1]]<|Rd 1 [1,4,5] [(1,pg g1 0),(4,pg g3 0),(5,.slice none 0 0)]<|Ra 2 [1,1,1,0,0] [.c [1,1,1,0,1],.c [1,1,1,1]]<|Rd 1 [1,4,5,6] [(1,pg g1 0),(4,pg g3 0),(5,.slice none 0 0),(6,.bool true)]<|Ad 2 [.c [1,1,1,0,1,0,0],.l [1,1,1,0,1,0,0],.b 0,.c [1,1,1,1]]<|RunH.nilc ?_
 have ho5:SlOwn (Kd.int .i64) 3 H none 0 ([]:List Int) none:=SlOwn.nil
 refine Kp [1,4,5,6] [(1,pg g1 0),(4,pg g3 0),(5,.slice none 0 0),(6,.bool true)] ?_
 exact ((workers_ordered.l2_c (e1:=workers_ordered.e1) (workers_ordered.e1_c)) big) a0 _ _ _ _ (List.replicate (a0.length:Int).toNat (false)) _ _ _ _ ([]:List Int) _ _ _ _ true hra0 hca0 ho1 rfl ho5 rfl heq
noncomputable def C12:Ctx:={ P:=Tryd.prog,f:=12,N:=73,c:=bodyOf Tryd.f12 }
def S12 (F:List Ch) (H0:Hp) (r:Int) (v:Value) (H:Hp) (cs:List Ch):Prop:=H0=H∧v=iv r∧F=cs
theorem workers_CheckWorks.e2_c {w0:World} {H:Hp} {F:List Ch} {r:Int}:∀ (a0:List Work) (Aa0:Option Addr) (ca0:Nat) ,Rw kWork H F Aa0 a0→a0.length≤ca0→workers_CheckWorks.e2 a0=some r→RunH C12 (S12 F H r) H w0 [.c [1,1,1,1,0,0],.c [1,1,1,1,0,1],.c [1,1,1,1,1]] [(0,.slice Aa0 a0.length ca0)] H (F):=by
 intro a0 Aa0 ca0 hra0 hca0 heq
 unfold workers_CheckWorks.e2 at heq
 refine Rr<|Rk 1 [67] [(67,.slice Aa0 a0.length ca0)] ?_
 obtain ⟨y1,hy1,heq⟩:=bind_some heq
 refine RgH.does (DoesH.call (d:=68) (g:=29) (args:=#[.slice Aa0 a0.length ca0]) (by kernel_rfl) (workers_ordered_c (a0:=a0) hra0 hca0 rfl hy1)) ?_
 rintro _ _ _ _ ⟨_,rfl,A1,c1,ch1,rfl,rfl,rfl,ho1⟩
 refine Rd 7 [13] [(13,.bool y1.2)]<|Ra 1 [1,1,1,1,0,1,0] [.c [1,1,1,1,0,1,1],.c [1,1,1,1,1]]<|Rd 2 [72] [(72,.bool (!y1.2))] ?_
 rcases bool_cases (!y1.2) with hb2 | hb2
 ·replace heq:=bif_true hb2 heq
  refine Ct (!y1.2) hb2<|Ra 1 [1,1,1,1,0,1,1,0,0] [.c [1,1,1,1,0,1,1,0,1],.c [1,1,1,1,1]]<|Rd 1 [2] [(2,iv 17)] ?_
  obtain rfl:=Option.some.inj heq
  refine RunH.pick 1 [] (cs':=F) (by kernel_rfl) rfl ?_
  exact RunH.done (by kernel_rfl) Tryd.func12 (v:=iv 17) (by kernel_rfl) ⟨rfl,rfl,rfl⟩
 ·replace heq:=bif_false hb2 heq
  refine Cf (!y1.2) hb2<|Ra 2 [1,1,1,1,1,0] [.c [1,1,1,1,1,1]]<|Rd 1 [2] [(2,iv 0)] ?_
  obtain rfl:=Option.some.inj heq
  refine RunH.pick 1 [] (cs':=F) (by kernel_rfl) rfl ?_
  exact RunH.done (by kernel_rfl) Tryd.func12 (v:=iv 0) (by kernel_rfl) ⟨rfl,rfl,rfl⟩
theorem workers_CheckWorks.e4_c {w0:World} {H:Hp} {F:List Ch} {r:Int} (backl3:(List Work)→Int→Option Int)
  (hbackl3:∀ (a0:List Work) (Aa0:Option Addr) (ca0:Nat) (v45:Int) ,Rw kWork H F Aa0 a0→a0.length≤ca0→backl3 a0 v45=some r→RunH C12 (S12 F H r) H w0 [.c [1,1,1,0,1,0,0],.l [1,1,1,0,1,0,0],.b 2,.c [1,1,1,1]] [(0,.slice Aa0 a0.length ca0),(43,.slice Aa0 a0.length ca0),(44,iv (a0.length:Int)),(45,iv v45)] H (F)):∀ (a0:List Work) (Aa0:Option Addr) (ca0:Nat) (v45:Int) ,Rw kWork H F Aa0 a0→a0.length≤ca0→workers_CheckWorks.e4 backl3 a0 v45=some r→RunH C12 (S12 F H r) H w0 [.c [1,1,1,0,1,0,0,1,1,1],.l [1,1,1,0,1,0,0],.b 2,.c [1,1,1,1]] [(0,.slice Aa0 a0.length ca0),(43,.slice Aa0 a0.length ca0),(44,iv (a0.length:Int)),(45,iv v45)] H (F):=by
 intro a0 Aa0 ca0 v45 hra0 hca0 heq
 unfold workers_CheckWorks.e4 at heq
 refine Rr<|Rd 2 [0,43,44,45] [(0,.slice Aa0 a0.length ca0),(43,.slice Aa0 a0.length ca0),(44,iv (a0.length:Int)),(45,iv (w64 (v45+1)))]<|Ad 1 [.c [1,1,1,0,1,0,0],.l [1,1,1,0,1,0,0],.b 2,.c [1,1,1,1]]<|Kp [0,43,44,45] [(0,.slice Aa0 a0.length ca0),(43,.slice Aa0 a0.length ca0),(44,iv (a0.length:Int)),(45,iv (w64 (v45+1)))] ?_
 exact hbackl3 a0 _ _ (w64 (v45+1)) hra0 hca0 heq
theorem workers_CheckWorks.l5_c {w0:World} {H:Hp} {F:List Ch} {r:Int} (e4:(List Work)→Int→Option Int)
  (he4:∀ (a0:List Work) (Aa0:Option Addr) (ca0:Nat) (v45:Int) ,Rw kWork H F Aa0 a0→a0.length≤ca0→e4 a0 v45=some r→RunH C12 (S12 F H r) H w0 [.c [1,1,1,0,1,0,0,1,1,1],.l [1,1,1,0,1,0,0],.b 2,.c [1,1,1,1]] [(0,.slice Aa0 a0.length ca0),(43,.slice Aa0 a0.length ca0),(44,iv (a0.length:Int)),(45,iv v45)] H (F)):∀ (k:Nat),∀ (a0:List Work) (Aa0:Option Addr) (ca0:Nat) (v45:Int) (x1:Work) (A3:Option Addr) (c3:Nat) (v52:Int) ,Rw kWork H F Aa0 a0→a0.length≤ca0→Kd.Row Kd.string H A3 x1.After→x1.After.length≤c3→workers_CheckWorks.l5 e4 k a0 v45 x1 v52=some r→RunH C12 (S12 F H r) H w0 [.c [1,1,1,0,1,0,0,1,1,0,0,1,1,0,0],.l [1,1,1,0,1,0,0,1,1,0,0,1,1,0,0],.b 4,.b 3,.c [1,1,1,0,1,0,0,1,1,1],.l [1,1,1,0,1,0,0],.b 2,.c [1,1,1,1]] [(0,.slice Aa0 a0.length ca0),(43,.slice Aa0 a0.length ca0),(44,iv (a0.length:Int)),(45,iv v45),(50,.slice A3 x1.After.length c3),(51,iv (x1.After.length:Int)),(52,iv v52)] H (F):=by
 intro k
 induction k with
 | zero=>intro a0 Aa0 ca0 v45 x1 A3 c3 v52 hra0 hca0 hr2 hc2 heq; exact nomatch (show (none:Option Int)=some r from heq)
 | succ k ihk =>
  intro a0 Aa0 ca0 v45 x1 A3 c3 v52 hra0 hca0 hr2 hc2 heq
  rw [workers_CheckWorks.l5] at heq
  refine Ra 1 [1,1,1,0,1,0,0,1,1,0,0,1,1,0,0,0] [.c [1,1,1,0,1,0,0,1,1,0,0,1,1,0,0,1],.l [1,1,1,0,1,0,0,1,1,0,0,1,1,0,0],.b 4,.b 3,.c [1,1,1,0,1,0,0,1,1,1],.l [1,1,1,0,1,0,0],.b 2,.c [1,1,1,1]]<|Rd 1 [0,43,44,45,50,51,52,53] [(0,.slice Aa0 a0.length ca0),(43,.slice Aa0 a0.length ca0),(44,iv (a0.length:Int)),(45,iv v45),(50,.slice A3 x1.After.length c3),(51,iv (x1.After.length:Int)),(52,iv v52),(53,.bool (decide (v52<(x1.After.length:Int))))]<|Ad 1 [.c [1,1,1,0,1,0,0,1,1,0,0,1,1,0,0,1,0],.c [1,1,1,0,1,0,0,1,1,0,0,1,1,0,0,1,1],.l [1,1,1,0,1,0,0,1,1,0,0,1,1,0,0],.b 4,.b 3,.c [1,1,1,0,1,0,0,1,1,1],.l [1,1,1,0,1,0,0],.b 2,.c [1,1,1,1]] ?_
  rcases bool_cases (decide (v52<(x1.After.length:Int))) with hb4 | hb4
  ·replace heq:=bif_true hb4 heq
   refine Ct (decide (v52<(x1.After.length:Int))) hb4<|Ra 4 [1,1,1,0,1,0,0,1,1,0,0,1,1,0,0,1,1,0,0,0] [.c [1,1,1,0,1,0,0,1,1,0,0,1,1,0,0,1,1,0,0,1],.b 5,.c [1,1,1,0,1,0,0,1,1,0,0,1,1,0,0,1,1,1],.l [1,1,1,0,1,0,0,1,1,0,0,1,1,0,0],.b 4,.b 3,.c [1,1,1,0,1,0,0,1,1,1],.l [1,1,1,0,1,0,0],.b 2,.c [1,1,1,1]] ?_
   obtain ⟨x2,hx2,heq⟩:=bind_some heq
   obtain ⟨ha2,cs2,hK2,hcc2⟩:=(Rw.of (F:=F) hr2).get hx2
   obtain rfl:cs2=[.string x2]:=hK2
   refine Rw' 3 [0,9,43,44,45,50,51,52] [.string x2] [.need (A3=some (adr A3)∧(0:Int)≤v52∧v52<((x1.After.length:Nat):Int)),.load ((adr A3).add (v52.toNat*1)) (.string x2)] [(0,.slice Aa0 a0.length ca0),(9,.string x2),(43,.slice Aa0 a0.length ca0),(44,iv (a0.length:Int)),(45,iv v45),(50,.slice A3 x1.After.length c3),(51,iv (x1.After.length:Int)),(52,iv v52)] (fun w hh=>⟨⟨ha2,(at?_some hx2).1,(at?_some hx2).2.1⟩,(hcc2 _ _ (hh.drop 0) 0 _ rfl)⟩)<|Ra 1 [1,1,1,0,1,0,0,1,1,0,0,1,1,0,0,1,1,0,0,1,0] [.c [1,1,1,0,1,0,0,1,1,0,0,1,1,0,0,1,1,0,0,1,1],.b 5,.c [1,1,1,0,1,0,0,1,1,0,0,1,1,0,0,1,1,1],.l [1,1,1,0,1,0,0,1,1,0,0,1,1,0,0],.b 4,.b 3,.c [1,1,1,0,1,0,0,1,1,1],.l [1,1,1,0,1,0,0],.b 2,.c [1,1,1,1]]<|Rk 2 [0,43,44,45,50,51,52,57,58] [(0,.slice Aa0 a0.length ca0),(43,.slice Aa0 a0.length ca0),(44,iv (a0.length:Int)),(45,iv v45),(50,.slice A3 x1.After.length c3),(51,iv (x1.After.length:Int)),(52,iv v52),(57,.slice Aa0 a0.length ca0),(58,.string x2)] ?_
   obtain ⟨y2,hy2,heq⟩:=bind_some heq
   refine RgH.does (DoesH.call (d:=59) (g:=28) (args:=#[.slice Aa0 a0.length ca0,.string x2]) (by kernel_rfl) (workers_workAt_c (a0:=a0) (a1:=x2) hra0 hca0 rfl hy2)) ?_
   rintro _ _ _ _ ⟨_,rfl,rfl,rfl,rfl⟩
   refine Rd 8 [0,11,43,44,45,50,51,52] [(0,.slice Aa0 a0.length ca0),(11,.bool y2.2),(43,.slice Aa0 a0.length ca0),(44,iv (a0.length:Int)),(45,iv v45),(50,.slice A3 x1.After.length c3),(51,iv (x1.After.length:Int)),(52,iv v52)]<|Ra 1 [1,1,1,0,1,0,0,1,1,0,0,1,1,0,0,1,1,0,0,1,1,0] [.c [1,1,1,0,1,0,0,1,1,0,0,1,1,0,0,1,1,0,0,1,1,1],.b 5,.c [1,1,1,0,1,0,0,1,1,0,0,1,1,0,0,1,1,1],.l [1,1,1,0,1,0,0,1,1,0,0,1,1,0,0],.b 4,.b 3,.c [1,1,1,0,1,0,0,1,1,1],.l [1,1,1,0,1,0,0],.b 2,.c [1,1,1,1]]<|Rd 2 [0,43,44,45,50,51,52,63] [(0,.slice Aa0 a0.length ca0),(43,.slice Aa0 a0.length ca0),(44,iv (a0.length:Int)),(45,iv v45),(50,.slice A3 x1.After.length c3),(51,iv (x1.After.length:Int)),(52,iv v52),(63,.bool (!y2.2))] ?_
   rcases bool_cases (!y2.2) with hb5 | hb5
   ·replace heq:=bif_true hb5 heq
    refine Ct (!y2.2) hb5<|Ra 1 [1,1,1,0,1,0,0,1,1,0,0,1,1,0,0,1,1,0,0,1,1,1,0,0] [.c [1,1,1,0,1,0,0,1,1,0,0,1,1,0,0,1,1,0,0,1,1,1,0,1],.b 5,.c [1,1,1,0,1,0,0,1,1,0,0,1,1,0,0,1,1,1],.l [1,1,1,0,1,0,0,1,1,0,0,1,1,0,0],.b 4,.b 3,.c [1,1,1,0,1,0,0,1,1,1],.l [1,1,1,0,1,0,0],.b 2,.c [1,1,1,1]]<|Rd 1 [2] [(2,iv 9)] ?_
    obtain rfl:=Option.some.inj heq
    exact RunH.done (by kernel_rfl) Tryd.func12 (v:=iv 9) (by kernel_rfl) ⟨rfl,rfl,rfl⟩
   ·replace heq:=bif_false hb5 heq
    refine Cf (!y2.2) hb5<|Ra 2 [1,1,1,0,1,0,0,1,1,0,0,1,1,0,0,1,1,1] [.l [1,1,1,0,1,0,0,1,1,0,0,1,1,0,0],.b 4,.b 3,.c [1,1,1,0,1,0,0,1,1,1],.l [1,1,1,0,1,0,0],.b 2,.c [1,1,1,1]]<|Rd 2 [0,43,44,45,50,51,52] [(0,.slice Aa0 a0.length ca0),(43,.slice Aa0 a0.length ca0),(44,iv (a0.length:Int)),(45,iv v45),(50,.slice A3 x1.After.length c3),(51,iv (x1.After.length:Int)),(52,iv (w64 (v52+1)))]<|Ad 1 [.c [1,1,1,0,1,0,0,1,1,0,0,1,1,0,0],.l [1,1,1,0,1,0,0,1,1,0,0,1,1,0,0],.b 4,.b 3,.c [1,1,1,0,1,0,0,1,1,1],.l [1,1,1,0,1,0,0],.b 2,.c [1,1,1,1]]<|Kp [0,43,44,45,50,51,52] [(0,.slice Aa0 a0.length ca0),(43,.slice Aa0 a0.length ca0),(44,iv (a0.length:Int)),(45,iv v45),(50,.slice A3 x1.After.length c3),(51,iv (x1.After.length:Int)),(52,iv (w64 (v52+1)))] ?_
    exact ihk a0 _ _ v45 x1 _ _ (w64 (v52+1)) hra0 hca0 hr2 hc2 heq
  ·replace heq:=bif_false hb4 heq
   refine Cf (decide (v52<(x1.After.length:Int))) hb4<|Ad 2 [.c [1,1,1,0,1,0,0,1,1,1],.l [1,1,1,0,1,0,0],.b 2,.c [1,1,1,1]]<|Kp [0,43,44,45] [(0,.slice Aa0 a0.length ca0),(43,.slice Aa0 a0.length ca0),(44,iv (a0.length:Int)),(45,iv v45)] ?_
   exact he4 a0 _ _ v45 hra0 hca0 heq
theorem workers_CheckWorks.l3_c {w0:World} {H:Hp} {F:List Ch} {r:Int} (e2:(List Work)→Option Int)
  (he2:∀ (a0:List Work) (Aa0:Option Addr) (ca0:Nat) ,Rw kWork H F Aa0 a0→a0.length≤ca0→e2 a0=some r→RunH C12 (S12 F H r) H w0 [.c [1,1,1,1,0,0],.c [1,1,1,1,0,1],.c [1,1,1,1,1]] [(0,.slice Aa0 a0.length ca0)] H (F)):∀ (k:Nat),∀ (a0:List Work) (Aa0:Option Addr) (ca0:Nat) (v45:Int) ,Rw kWork H F Aa0 a0→a0.length≤ca0→workers_CheckWorks.l3 e2 k a0 v45=some r→RunH C12 (S12 F H r) H w0 [.c [1,1,1,0,1,0,0],.l [1,1,1,0,1,0,0],.b 2,.c [1,1,1,1]] [(0,.slice Aa0 a0.length ca0),(43,.slice Aa0 a0.length ca0),(44,iv (a0.length:Int)),(45,iv v45)] H (F):=by
 intro k
 induction k with
 | zero=>intro a0 Aa0 ca0 v45 hra0 hca0 heq; exact nomatch (show (none:Option Int)=some r from heq)
 | succ k ihk =>
  intro a0 Aa0 ca0 v45 hra0 hca0 heq
  rw [workers_CheckWorks.l3] at heq
  refine Ra 1 [1,1,1,0,1,0,0,0] [.c [1,1,1,0,1,0,0,1],.l [1,1,1,0,1,0,0],.b 2,.c [1,1,1,1]]<|Rd 1 [0,43,44,45,46] [(0,.slice Aa0 a0.length ca0),(43,.slice Aa0 a0.length ca0),(44,iv (a0.length:Int)),(45,iv v45),(46,.bool (decide (v45<(a0.length:Int))))]<|Ad 1 [.c [1,1,1,0,1,0,0,1,0],.c [1,1,1,0,1,0,0,1,1],.l [1,1,1,0,1,0,0],.b 2,.c [1,1,1,1]] ?_
  rcases bool_cases (decide (v45<(a0.length:Int))) with hb3 | hb3
  ·replace heq:=bif_true hb3 heq
   refine Ct (decide (v45<(a0.length:Int))) hb3<|Ra 4 [1,1,1,0,1,0,0,1,1,0,0,0] [.c [1,1,1,0,1,0,0,1,1,0,0,1],.b 3,.c [1,1,1,0,1,0,0,1,1,1],.l [1,1,1,0,1,0,0],.b 2,.c [1,1,1,1]] ?_
   obtain ⟨x1,hx1,heq⟩:=bind_some heq
   obtain ⟨ha1,cs1,hK1,hcc1⟩:=hra0.get hx1
   obtain ⟨A2,c2,A3,c3,rfl,hc1,hr1,hc2,hr2⟩:=kWork_open hK1
   refine Rv 2 [0,43,44,45,48] [.string x1.Id,.slice A2 x1.Needs.length c2,iv x1.Size,.slice A3 x1.After.length c3] [.need (Aa0=some (adr Aa0)∧(0:Int)≤v45∧v45<((a0.length:Nat):Int)),.load (((adr Aa0).add (v45.toNat*4)).add 0) (.string x1.Id),.load (((adr Aa0).add (v45.toNat*4)).add 1) (.slice A2 x1.Needs.length c2),.load (((adr Aa0).add (v45.toNat*4)).add 2) (iv x1.Size),.load (((adr Aa0).add (v45.toNat*4)).add 3) (.slice A3 x1.After.length c3)] [(0,.slice Aa0 a0.length ca0),(43,.slice Aa0 a0.length ca0),(44,iv (a0.length:Int)),(45,iv v45),(48,.agg #[.string x1.Id,.slice A2 x1.Needs.length c2,iv x1.Size,.slice A3 x1.After.length c3])] (fun w hh=>⟨⟨ha1,(at?_some hx1).1,(at?_some hx1).2.1⟩,(hcc1 _ _ (hh.drop 0) 0 _ rfl),(hcc1 _ _ (hh.drop 0) 1 _ rfl),(hcc1 _ _ (hh.drop 0) 2 _ rfl),(hcc1 _ _ (hh.drop 0) 3 _ rfl)⟩) ?_
   refine RgH.does (DoesH.new (d:=7) (v:=fun g=>.pointer (some ⟨g,0,none⟩)) (o:=fun g=>.cells #[.string ByteArray.empty,.slice none 0 0,iv 0,.slice none 0 0] 30 (0,0)) (fun g=>by kernel_rfl)) ?_
   rintro _ _ _ _ ⟨g1,rfl,rfl,rfl⟩
   refine RgH.does (DoesH.store (k:=0) (g:=g1) (off:=0) (v:=.agg #[.string x1.Id,.slice A2 x1.Needs.length c2,iv x1.Size,.slice A3 x1.After.length c3]) (cells':=#[.string x1.Id,.slice A2 x1.Needs.length c2,iv x1.Size,.slice A3 x1.After.length c3]) (by kernel_rfl) rfl (by kernel_rfl) (by kernel_rfl)) ?_
   rintro _ _ _ _ ⟨rfl,rfl,rfl⟩
   refine Dn<|Ra 1 [1,1,1,0,1,0,0,1,1,0,0,1,0] [.c [1,1,1,0,1,0,0,1,1,0,0,1,1],.b 3,.c [1,1,1,0,1,0,0,1,1,1],.l [1,1,1,0,1,0,0],.b 2,.c [1,1,1,1]]<|Rw' 4 [0,43,44,45,50,51,52] [.slice A3 x1.After.length c3] [.load ⟨g1,3,none⟩ (.slice A3 x1.After.length c3)] [(0,.slice Aa0 a0.length ca0),(43,.slice Aa0 a0.length ca0),(44,iv (a0.length:Int)),(45,iv v45),(50,.slice A3 x1.After.length c3),(51,iv (x1.After.length:Int)),(52,iv 0)] (fun w hh=>(hh.box 0 rfl rfl))<|Ad 2 [.c [1,1,1,0,1,0,0,1,1,0,0,1,1,0,0],.l [1,1,1,0,1,0,0,1,1,0,0,1,1,0,0],.b 4,.b 3,.c [1,1,1,0,1,0,0,1,1,1],.l [1,1,1,0,1,0,0],.b 2,.c [1,1,1,1]]<|Kp [0,43,44,45,50,51,52] [(0,.slice Aa0 a0.length ca0),(43,.slice Aa0 a0.length ca0),(44,iv (a0.length:Int)),(45,iv v45),(50,.slice A3 x1.After.length c3),(51,iv (x1.After.length:Int)),(52,iv 0)] ?_
   refine RunH.pick 1 [] (cs':=F) (by kernel_rfl) rfl ?_
   exact ((workers_CheckWorks.l5_c (e4:=workers_CheckWorks.e4 ((workers_CheckWorks.l3 e2 k))) (workers_CheckWorks.e4_c (backl3:=(workers_CheckWorks.l3 e2 k)) ihk)) big) a0 _ _ v45 x1 _ _ 0 hra0 hca0 hr2 hc2 heq
  ·replace heq:=bif_false hb3 heq
   refine Cf (decide (v45<(a0.length:Int))) hb3<|Ad 3 [.c [1,1,1,1,0,0],.c [1,1,1,1,0,1],.c [1,1,1,1,1]]<|Kp [0] [(0,.slice Aa0 a0.length ca0)] ?_
   exact he2 a0 _ _ hra0 hca0 heq
theorem workers_CheckWorks.e1_c {w0:World} {H:Hp} {F:List Ch} {r:Int}:∀ (a0:List Work) (Aa0:Option Addr) (ca0:Nat) ,Rw kWork H F Aa0 a0→a0.length≤ca0→workers_CheckWorks.e1 a0=some r→RunH C12 (S12 F H r) H w0 [.c [1,1,1,0,0],.c [1,1,1,0,1],.c [1,1,1,1]] [(0,.slice Aa0 a0.length ca0)] H (F):=by
 intro a0 Aa0 ca0 hra0 hca0 heq
 unfold workers_CheckWorks.e1 at heq
 refine Rr<|Rd 3 [0,43,44,45] [(0,.slice Aa0 a0.length ca0),(43,.slice Aa0 a0.length ca0),(44,iv (a0.length:Int)),(45,iv 0)]<|Ad 2 [.c [1,1,1,0,1,0,0],.l [1,1,1,0,1,0,0],.b 2,.c [1,1,1,1]]<|Kp [0,43,44,45] [(0,.slice Aa0 a0.length ca0),(43,.slice Aa0 a0.length ca0),(44,iv (a0.length:Int)),(45,iv 0)] ?_
 exact ((workers_CheckWorks.l3_c (e2:=workers_CheckWorks.e2) (workers_CheckWorks.e2_c)) big) a0 _ _ 0 hra0 hca0 heq
theorem workers_CheckWorks.l6_c {w0:World} {H:Hp} {F:List Ch} {r:Int} (e1:(List Work)→Option Int)
  (he1:∀ (a0:List Work) (Aa0:Option Addr) (ca0:Nat) ,Rw kWork H F Aa0 a0→a0.length≤ca0→e1 a0=some r→RunH C12 (S12 F H r) H w0 [.c [1,1,1,0,0],.c [1,1,1,0,1],.c [1,1,1,1]] [(0,.slice Aa0 a0.length ca0)] H (F)):∀ (k:Nat),∀ (a0:List Work) (Aa0:Option Addr) (ca0:Nat) (v19:Int) ,Rw kWork H F Aa0 a0→a0.length≤ca0→workers_CheckWorks.l6 e1 k a0 v19=some r→RunH C12 (S12 F H r) H w0 [.c [1,1,0,1,0,0],.l [1,1,0,1,0,0],.b 0,.c [1,1,1]] [(0,.slice Aa0 a0.length ca0),(17,.slice Aa0 a0.length ca0),(18,iv (a0.length:Int)),(19,iv v19)] H (F):=by
 intro k
 induction k with
 | zero=>intro a0 Aa0 ca0 v19 hra0 hca0 heq; exact nomatch (show (none:Option Int)=some r from heq)
 | succ k ihk =>
  intro a0 Aa0 ca0 v19 hra0 hca0 heq
  rw [workers_CheckWorks.l6] at heq
  refine Ra 1 [1,1,0,1,0,0,0] [.c [1,1,0,1,0,0,1],.l [1,1,0,1,0,0],.b 0,.c [1,1,1]]<|Rd 1 [0,17,18,19,20] [(0,.slice Aa0 a0.length ca0),(17,.slice Aa0 a0.length ca0),(18,iv (a0.length:Int)),(19,iv v19),(20,.bool (decide (v19<(a0.length:Int))))]<|Ad 1 [.c [1,1,0,1,0,0,1,0],.c [1,1,0,1,0,0,1,1],.l [1,1,0,1,0,0],.b 0,.c [1,1,1]] ?_
  rcases bool_cases (decide (v19<(a0.length:Int))) with hb6 | hb6
  ·replace heq:=bif_true hb6 heq
   refine Ct (decide (v19<(a0.length:Int))) hb6<|Ra 4 [1,1,0,1,0,0,1,1,0,0,0] [.c [1,1,0,1,0,0,1,1,0,0,1],.b 1,.c [1,1,0,1,0,0,1,1,1],.l [1,1,0,1,0,0],.b 0,.c [1,1,1]] ?_
   obtain ⟨x3,hx3,heq⟩:=bind_some heq
   obtain ⟨ha3,cs3,hK3,hcc3⟩:=hra0.get hx3
   obtain ⟨A4,c4,A5,c5,rfl,hc3,hr3,hc4,hr4⟩:=kWork_open hK3
   refine Rv 3 [0,17,18,19,21,23] [.string x3.Id,.slice A4 x3.Needs.length c4,iv x3.Size,.slice A5 x3.After.length c5] [.need (Aa0=some (adr Aa0)∧(0:Int)≤v19∧v19<((a0.length:Nat):Int)),.load (((adr Aa0).add (v19.toNat*4)).add 0) (.string x3.Id),.load (((adr Aa0).add (v19.toNat*4)).add 1) (.slice A4 x3.Needs.length c4),.load (((adr Aa0).add (v19.toNat*4)).add 2) (iv x3.Size),.load (((adr Aa0).add (v19.toNat*4)).add 3) (.slice A5 x3.After.length c5)] [(0,.slice Aa0 a0.length ca0),(17,.slice Aa0 a0.length ca0),(18,iv (a0.length:Int)),(19,iv v19),(21,iv v19),(23,.agg #[.string x3.Id,.slice A4 x3.Needs.length c4,iv x3.Size,.slice A5 x3.After.length c5])] (fun w hh=>⟨⟨ha3,(at?_some hx3).1,(at?_some hx3).2.1⟩,(hcc3 _ _ (hh.drop 0) 0 _ rfl),(hcc3 _ _ (hh.drop 0) 1 _ rfl),(hcc3 _ _ (hh.drop 0) 2 _ rfl),(hcc3 _ _ (hh.drop 0) 3 _ rfl)⟩) ?_
   refine RgH.does (DoesH.new (d:=4) (v:=fun g=>.pointer (some ⟨g,0,none⟩)) (o:=fun g=>.cells #[.string ByteArray.empty,.slice none 0 0,iv 0,.slice none 0 0] 30 (0,0)) (fun g=>by kernel_rfl)) ?_
   rintro _ _ _ _ ⟨g2,rfl,rfl,rfl⟩
   refine Rk 5 [0,3,4,17,18,19,23] [(0,.slice Aa0 a0.length ca0),(3,iv v19),(4,pg g2 0),(17,.slice Aa0 a0.length ca0),(18,iv (a0.length:Int)),(19,iv v19),(23,.agg #[.string x3.Id,.slice A4 x3.Needs.length c4,iv x3.Size,.slice A5 x3.After.length c5])] ?_
   refine RgH.does (DoesH.store (k:=0) (g:=g2) (off:=0) (v:=.agg #[.string x3.Id,.slice A4 x3.Needs.length c4,iv x3.Size,.slice A5 x3.After.length c5]) (cells':=#[.string x3.Id,.slice A4 x3.Needs.length c4,iv x3.Size,.slice A5 x3.After.length c5]) (by kernel_rfl) rfl (by kernel_rfl) (by kernel_rfl)) ?_
   rintro _ _ _ _ ⟨rfl,rfl,rfl⟩
   refine Dn<|Ra 2 [1,1,0,1,0,0,1,1,0,0,1,0,0] [.c [1,1,0,1,0,0,1,1,0,0,1,0,1],.c [1,1,0,1,0,0,1,1,0,0,1,1],.b 1,.c [1,1,0,1,0,0,1,1,1],.l [1,1,0,1,0,0],.b 0,.c [1,1,1]]<|Rv 1 [0,3,4,17,18,19,24] [.string x3.Id,.slice A4 x3.Needs.length c4,iv x3.Size,.slice A5 x3.After.length c5] [.load ⟨g2,0,none⟩ (.string x3.Id),.load ⟨g2,1,none⟩ (.slice A4 x3.Needs.length c4),.load ⟨g2,2,none⟩ (iv x3.Size),.load ⟨g2,3,none⟩ (.slice A5 x3.After.length c5)] [(0,.slice Aa0 a0.length ca0),(3,iv v19),(4,pg g2 0),(17,.slice Aa0 a0.length ca0),(18,iv (a0.length:Int)),(19,iv v19),(24,.agg #[.string x3.Id,.slice A4 x3.Needs.length c4,iv x3.Size,.slice A5 x3.After.length c5])] (fun w hh=>⟨(hh.box 0 rfl rfl),(hh.box 0 rfl rfl),(hh.box 0 rfl rfl),(hh.box 0 rfl rfl)⟩) ?_
   obtain ⟨y3,hy3,heq⟩:=bind_some heq
   refine RgH.does (DoesH.call (d:=25) (g:=23) (args:=#[.agg #[.string x3.Id,.slice A4 x3.Needs.length c4,iv x3.Size,.slice A5 x3.After.length c5]]) (by kernel_rfl) (workers_checkWork_c (a0:=x3) (Rw.of hr3) hc3 rfl (Rw.of hr4) hc4 rfl hy3)) ?_
   rintro _ _ _ _ ⟨_,rfl,rfl,rfl,rfl⟩
   refine Rd 3 [0,3,4,5,17,18,19] [(0,.slice Aa0 a0.length ca0),(3,iv v19),(4,pg g2 0),(5,iv y3),(17,.slice Aa0 a0.length ca0),(18,iv (a0.length:Int)),(19,iv v19)]<|Ra 1 [1,1,0,1,0,0,1,1,0,0,1,0,1,0] [.c [1,1,0,1,0,0,1,1,0,0,1,0,1,1],.c [1,1,0,1,0,0,1,1,0,0,1,1],.b 1,.c [1,1,0,1,0,0,1,1,1],.l [1,1,0,1,0,0],.b 0,.c [1,1,1]]<|Rd 2 [0,3,4,5,17,18,19,27] [(0,.slice Aa0 a0.length ca0),(3,iv v19),(4,pg g2 0),(5,iv y3),(17,.slice Aa0 a0.length ca0),(18,iv (a0.length:Int)),(19,iv v19),(27,.bool (y3 != 0))] ?_
   rcases bool_cases (y3 != 0) with hb7 | hb7
   ·replace heq:=bif_true hb7 heq
    refine Ct (y3 != 0) hb7<|Ra 1 [1,1,0,1,0,0,1,1,0,0,1,0,1,1,0,0] [.c [1,1,0,1,0,0,1,1,0,0,1,0,1,1,0,1],.c [1,1,0,1,0,0,1,1,0,0,1,1],.b 1,.c [1,1,0,1,0,0,1,1,1],.l [1,1,0,1,0,0],.b 0,.c [1,1,1]]<|Rd 2 [2] [(2,iv y3)] ?_
    obtain rfl:=Option.some.inj heq
    refine RunH.pick 1 [] (cs':=F) (by kernel_rfl) rfl ?_
    exact RunH.done (by kernel_rfl) Tryd.func12 (v:=iv y3) (by kernel_rfl) ⟨rfl,rfl,rfl⟩
   ·replace heq:=bif_false hb7 heq
    refine Cf (y3 != 0) hb7<|Ad 2 [.c [1,1,0,1,0,0,1,1,0,0,1,1,0],.c [1,1,0,1,0,0,1,1,0,0,1,1,1],.b 1,.c [1,1,0,1,0,0,1,1,1],.l [1,1,0,1,0,0],.b 0,.c [1,1,1]] ?_
    obtain ⟨t1,ht1,heq⟩:=bind_some heq
    have K4:RunH C12 (S12 F H r) H w0 [.c [1,1,0,1,0,0,1,1,0,0,1,1,1],.b 1,.c [1,1,0,1,0,0,1,1,1],.l [1,1,0,1,0,0],.b 0,.c [1,1,1]] [(0,.slice Aa0 a0.length ca0),(17,.slice Aa0 a0.length ca0),(18,iv (a0.length:Int)),(19,iv v19),(41,.bool t1)] H (F):=by
     rcases bool_cases (t1) with hb9 | hb9
     ·replace heq:=bif_true hb9 heq
      refine Ct t1 hb9<|Ra 1 [1,1,0,1,0,0,1,1,0,0,1,1,1,0,0] [.c [1,1,0,1,0,0,1,1,0,0,1,1,1,0,1],.b 1,.c [1,1,0,1,0,0,1,1,1],.l [1,1,0,1,0,0],.b 0,.c [1,1,1]]<|Rd 1 [2] [(2,iv 8)] ?_
      obtain rfl:=Option.some.inj heq
      exact RunH.done (by kernel_rfl) Tryd.func12 (v:=iv 8) (by kernel_rfl) ⟨rfl,rfl,rfl⟩
     ·replace heq:=bif_false hb9 heq
      refine Cf t1 hb9<|Ra 2 [1,1,0,1,0,0,1,1,1] [.l [1,1,0,1,0,0],.b 0,.c [1,1,1]]<|Rd 2 [0,17,18,19] [(0,.slice Aa0 a0.length ca0),(17,.slice Aa0 a0.length ca0),(18,iv (a0.length:Int)),(19,iv (w64 (v19+1)))]<|Ad 1 [.c [1,1,0,1,0,0],.l [1,1,0,1,0,0],.b 0,.c [1,1,1]]<|Kp [0,17,18,19] [(0,.slice Aa0 a0.length ca0),(17,.slice Aa0 a0.length ca0),(18,iv (a0.length:Int)),(19,iv (w64 (v19+1)))] ?_
      exact ihk a0 _ _ (w64 (v19+1)) hra0 hca0 heq
    replace heq:=ht1
    refine Kp [0,3,4,17,18,19] [(0,.slice Aa0 a0.length ca0),(3,iv v19),(4,pg g2 0),(17,.slice Aa0 a0.length ca0),(18,iv (a0.length:Int)),(19,iv v19)] ?_
    refine RunH.draw (fun w=>Heap H w0 w ((some (g2,.cells #[.string x3.Id,.slice A4 x3.Needs.length c4,iv x3.Size,.slice A5 x3.After.length c5] 30 (0,0)))::F)) (fun w=>Heap H w0 w ((some (g2,.cells #[.string x3.Id,.slice A4 x3.Needs.length c4,iv x3.Size,.slice A5 x3.After.length c5] 30 (0,0)))::F)) [3,3,3,3,3,3,3,3,3,3,3,3,3] (n:=13) (ls:=[false,false,false,false,false,false,false,false,false,false,false,false,false]) (by kernel_rfl) (by kernel_rfl) (by kernel_rfl) rfl ?_
    refine Dk [0,1,2] 10 (nb 13 7) [] [] [31,0,3,4,17,18,19] [(31,.bool (decide (0<v19))),(0,.slice Aa0 a0.length ca0),(3,iv v19),(4,pg g2 0),(17,.slice Aa0 a0.length ca0),(18,iv (a0.length:Int)),(19,iv v19)] (Pk 1 [0]) (Pk 1 [0]) (fun _ _=>trivial) ?_
    rcases bool_cases (decide (0<v19)) with hb8 | hb8
    ·replace heq:=bif_true hb8 heq
     refine DrH.val1 (v':=.bool true) (congrArg Value.bool hb8) ?_
     obtain ⟨x4,hx4,heq⟩:=bind_some heq
     obtain ⟨ha4,cs4,hK4,hcc4⟩:=hra0.get hx4
     obtain ⟨A6,c6,A7,c7,rfl,hc5,hr5,hc6,hr6⟩:=kWork_open hK4
     refine Dk [3,4,5,6,7,8,9,10,11,12] 0 (nb 13 8191) [.string x3.Id,.string x4.Id] [.load ⟨g2,0,none⟩ (.string x3.Id),.need (Aa0=some (adr Aa0)∧(0:Int)≤(w64 (v19 - 1))∧(w64 (v19 - 1))<((a0.length:Nat):Int)),.load (((adr Aa0).add ((w64 (v19 - 1)).toNat*4)).add 0) (.string x4.Id)] [0,17,18,19,41] [(0,.slice Aa0 a0.length ca0),(17,.slice Aa0 a0.length ca0),(18,iv (a0.length:Int)),(19,iv v19),(41,.bool (sLt x3.Id x4.Id||sEq x3.Id x4.Id))] (Pk 1 [0]) (Pk 1 [0]) (fun w hh=>⟨(hh.box 0 rfl rfl),⟨ha4,(at?_some hx4).1,(at?_some hx4).2.1⟩,(hcc4 _ _ (hh.drop 1) 0 _ rfl)⟩) ?_
     obtain rfl:=Option.some.inj heq
     refine Kr [0,17,18,19,41] [(0,.slice Aa0 a0.length ca0),(17,.slice Aa0 a0.length ca0),(18,iv (a0.length:Int)),(19,iv v19),(41,.bool (sLt x3.Id x4.Id||sEq x3.Id x4.Id))] ?_
     refine DrH.pick 1 [] (cs':=F) (by kernel_rfl) rfl ?_
     refine DrH.done (by kernel_rfl) ?_
     exact K4
    ·replace heq:=bif_false hb8 heq
     refine DrH.val1 (v':=.bool false) (congrArg Value.bool hb8) ?_
     refine Dk [3,4,5,6,7,8,9,10,11,12] 0 (nb 13 8191) [] [] [0,17,18,19,41] [(0,.slice Aa0 a0.length ca0),(17,.slice Aa0 a0.length ca0),(18,iv (a0.length:Int)),(19,iv v19),(41,.bool false)] (Pk 1 [0]) (Pk 1 [0]) (fun _ _=>trivial) ?_
     obtain rfl:=Option.some.inj heq
     refine Kr [0,17,18,19,41] [(0,.slice Aa0 a0.length ca0),(17,.slice Aa0 a0.length ca0),(18,iv (a0.length:Int)),(19,iv v19),(41,.bool false)] ?_
     refine DrH.pick 1 [] (cs':=F) (by kernel_rfl) rfl ?_
     refine DrH.done (by kernel_rfl) ?_
     exact K4
  ·replace heq:=bif_false hb6 heq
   refine Cf (decide (v19<(a0.length:Int))) hb6<|Ad 3 [.c [1,1,1,0,0],.c [1,1,1,0,1],.c [1,1,1,1]]<|Kp [0] [(0,.slice Aa0 a0.length ca0)] ?_
   exact he1 a0 _ _ hra0 hca0 heq
theorem workers_CheckWorks_c {w0:World} {H:Hp} {F:List Ch} {a0:List Work} {Aa0:Option Addr} {na0:Nat} {ca0:Nat} {r:Int} (hra0:Rw kWork H F Aa0 a0) (hca0:na0≤ca0) (hna0:na0=a0.length) (heq:workers_CheckWorks.f a0=some r):CallsH Tryd.prog 12 #[.slice Aa0 na0 ca0] H w0 (F) (S12 F H r):=by
 refine calls_of_runH (F:=C12) Tryd.func12 (by kernel_rfl) Tryd.ntmps12 (args:=[.slice Aa0 na0 ca0]) (by kernel_rfl) ?_
 subst hna0
 unfold workers_CheckWorks.f at heq
 refine Ra 1 [0] [.c [1]]<|Rd 1 [0] [(0,.slice Aa0 a0.length ca0)]<|Ra 2 [1,0,0] [.c [1,0,1],.c [1,1]]<|Rd 3 [0,16] [(0,.slice Aa0 a0.length ca0),(16,.bool (decide (200<(a0.length:Int))))] ?_
 rcases bool_cases (decide (200<(a0.length:Int))) with hb1 | hb1
 ·replace heq:=bif_true hb1 heq
  refine Ct (decide (200<(a0.length:Int))) hb1<|Ra 1 [1,0,1,0,0] [.c [1,0,1,0,1],.c [1,1]]<|Rd 1 [2] [(2,iv 2)] ?_
  obtain rfl:=Option.some.inj heq
  exact RunH.done (by kernel_rfl) Tryd.func12 (v:=iv 2) (by kernel_rfl) ⟨rfl,rfl,rfl⟩
 ·replace heq:=bif_false hb1 heq
  refine Cf (decide (200<(a0.length:Int))) hb1<|Ra 3 [1,1,0,0] [.c [1,1,0,1],.c [1,1,1]]<|Rd 3 [0,17,18,19] [(0,.slice Aa0 a0.length ca0),(17,.slice Aa0 a0.length ca0),(18,iv (a0.length:Int)),(19,iv 0)]<|Ad 2 [.c [1,1,0,1,0,0],.l [1,1,0,1,0,0],.b 0,.c [1,1,1]]<|Kp [0,17,18,19] [(0,.slice Aa0 a0.length ca0),(17,.slice Aa0 a0.length ca0),(18,iv (a0.length:Int)),(19,iv 0)] ?_
  exact ((workers_CheckWorks.l6_c (e1:=workers_CheckWorks.e1) (workers_CheckWorks.e1_c)) big) a0 _ _ 0 hra0 hca0 heq
noncomputable def C30:Ctx:={ P:=Tryd.prog,f:=30,N:=20,c:=bodyOf Tryd.f30 }
def S30 (F:List Ch) (H0:Hp) (r:Int) (v:Value) (H:Hp) (cs:List Ch):Prop:=H0=H∧v=iv r∧F=cs
theorem smithyardref9_workOf.e1_c {w0:World} {H:Hp} {F:List Ch} {r:Int}:smithyardref9_workOf.e1=some r→RunH C30 (S30 F H r) H w0 [.c [1,1,0],.c [1,1,1]] [] H (F):=by
 intro   heq
 unfold smithyardref9_workOf.e1 at heq
 refine Rr<|Rd 1 [4] [(4,iv (-1))] ?_
 obtain rfl:=Option.some.inj heq
 exact RunH.done (by kernel_rfl) Tryd.func30 (v:=iv (-1)) (by kernel_rfl) ⟨rfl,rfl,rfl⟩
theorem smithyardref9_workOf.l2_c {w0:World} {H:Hp} {F:List Ch} {r:Int} (e1:Option Int)
  (he1:e1=some r→RunH C30 (S30 F H r) H w0 [.c [1,1,0],.c [1,1,1]] [] H (F)):∀ (k:Nat),∀ (a0:List Work) (Aa0:Option Addr) (ca0:Nat) (a1:ByteArray) (v9:Int) ,Rw kWork H F Aa0 a0→a0.length≤ca0→smithyardref9_workOf.l2 e1 k a0 a1 v9=some r→RunH C30 (S30 F H r) H w0 [.c [1,0,1,0,0],.l [1,0,1,0,0],.b 0,.c [1,1]] [(1,.string a1),(7,.slice Aa0 a0.length ca0),(8,iv (a0.length:Int)),(9,iv v9)] H (F):=by
 intro k
 induction k with
 | zero=>intro a0 Aa0 ca0 a1 v9 hra0 hca0 heq; exact nomatch (show (none:Option Int)=some r from heq)
 | succ k ihk =>
  intro a0 Aa0 ca0 a1 v9 hra0 hca0 heq
  rw [smithyardref9_workOf.l2] at heq
  refine Ra 1 [1,0,1,0,0,0] [.c [1,0,1,0,0,1],.l [1,0,1,0,0],.b 0,.c [1,1]]<|Rd 1 [1,7,8,9,10] [(1,.string a1),(7,.slice Aa0 a0.length ca0),(8,iv (a0.length:Int)),(9,iv v9),(10,.bool (decide (v9<(a0.length:Int))))]<|Ad 1 [.c [1,0,1,0,0,1,0],.c [1,0,1,0,0,1,1],.l [1,0,1,0,0],.b 0,.c [1,1]] ?_
  rcases bool_cases (decide (v9<(a0.length:Int))) with hb1 | hb1
  ·replace heq:=bif_true hb1 heq
   refine Ct (decide (v9<(a0.length:Int))) hb1<|Ra 4 [1,0,1,0,0,1,1,0,0,0] [.c [1,0,1,0,0,1,1,0,0,1],.b 1,.c [1,0,1,0,0,1,1,1],.l [1,0,1,0,0],.b 0,.c [1,1]] ?_
   obtain ⟨x1,hx1,heq⟩:=bind_some heq
   obtain ⟨ha1,cs1,hK1,hcc1⟩:=hra0.get hx1
   obtain ⟨A1,c1,A2,c2,rfl,hc1,hr1,hc2,hr2⟩:=kWork_open hK1
   refine Rv 3 [1,7,8,9,11,13] [.string x1.Id,.slice A1 x1.Needs.length c1,iv x1.Size,.slice A2 x1.After.length c2] [.need (Aa0=some (adr Aa0)∧(0:Int)≤v9∧v9<((a0.length:Nat):Int)),.load (((adr Aa0).add (v9.toNat*4)).add 0) (.string x1.Id),.load (((adr Aa0).add (v9.toNat*4)).add 1) (.slice A1 x1.Needs.length c1),.load (((adr Aa0).add (v9.toNat*4)).add 2) (iv x1.Size),.load (((adr Aa0).add (v9.toNat*4)).add 3) (.slice A2 x1.After.length c2)] [(1,.string a1),(7,.slice Aa0 a0.length ca0),(8,iv (a0.length:Int)),(9,iv v9),(11,iv v9),(13,.agg #[.string x1.Id,.slice A1 x1.Needs.length c1,iv x1.Size,.slice A2 x1.After.length c2])] (fun w hh=>⟨⟨ha1,(at?_some hx1).1,(at?_some hx1).2.1⟩,(hcc1 _ _ (hh.drop 0) 0 _ rfl),(hcc1 _ _ (hh.drop 0) 1 _ rfl),(hcc1 _ _ (hh.drop 0) 2 _ rfl),(hcc1 _ _ (hh.drop 0) 3 _ rfl)⟩) ?_
   refine RgH.does (DoesH.new (d:=6) (v:=fun g=>.pointer (some ⟨g,0,none⟩)) (o:=fun g=>.cells #[.string ByteArray.empty,.slice none 0 0,iv 0,.slice none 0 0] 30 (0,0)) (fun g=>by kernel_rfl)) ?_
   rintro _ _ _ _ ⟨g1,rfl,rfl,rfl⟩
   refine Rk 5 [1,5,6,7,8,9,13] [(1,.string a1),(5,iv v9),(6,pg g1 0),(7,.slice Aa0 a0.length ca0),(8,iv (a0.length:Int)),(9,iv v9),(13,.agg #[.string x1.Id,.slice A1 x1.Needs.length c1,iv x1.Size,.slice A2 x1.After.length c2])] ?_
   refine RgH.does (DoesH.store (k:=0) (g:=g1) (off:=0) (v:=.agg #[.string x1.Id,.slice A1 x1.Needs.length c1,iv x1.Size,.slice A2 x1.After.length c2]) (cells':=#[.string x1.Id,.slice A1 x1.Needs.length c1,iv x1.Size,.slice A2 x1.After.length c2]) (by kernel_rfl) rfl (by kernel_rfl) (by kernel_rfl)) ?_
   rintro _ _ _ _ ⟨rfl,rfl,rfl⟩
   refine Dn<|Ra 1 [1,0,1,0,0,1,1,0,0,1,0] [.c [1,0,1,0,0,1,1,0,0,1,1],.b 1,.c [1,0,1,0,0,1,1,1],.l [1,0,1,0,0],.b 0,.c [1,1]]<|Rw' 4 [1,5,7,8,9,17] [.string x1.Id] [.load ⟨g1,0,none⟩ (.string x1.Id)] [(1,.string a1),(5,iv v9),(7,.slice Aa0 a0.length ca0),(8,iv (a0.length:Int)),(9,iv v9),(17,.bool (sEq x1.Id a1))] (fun w hh=>(hh.box 0 rfl rfl)) ?_
   rcases bool_cases (sEq x1.Id a1) with hb2 | hb2
   ·replace heq:=bif_true hb2 heq
    refine Ct (sEq x1.Id a1) hb2<|Ra 1 [1,0,1,0,0,1,1,0,0,1,1,0,0] [.c [1,0,1,0,0,1,1,0,0,1,1,0,1],.b 1,.c [1,0,1,0,0,1,1,1],.l [1,0,1,0,0],.b 0,.c [1,1]]<|Rd 2 [4] [(4,iv v9)] ?_
    obtain rfl:=Option.some.inj heq
    refine RunH.pick 1 [] (cs':=F) (by kernel_rfl) rfl ?_
    exact RunH.done (by kernel_rfl) Tryd.func30 (v:=iv v9) (by kernel_rfl) ⟨rfl,rfl,rfl⟩
   ·replace heq:=bif_false hb2 heq
    refine Cf (sEq x1.Id a1) hb2<|Ra 2 [1,0,1,0,0,1,1,1] [.l [1,0,1,0,0],.b 0,.c [1,1]]<|Rd 2 [1,7,8,9] [(1,.string a1),(7,.slice Aa0 a0.length ca0),(8,iv (a0.length:Int)),(9,iv (w64 (v9+1)))]<|Ad 1 [.c [1,0,1,0,0],.l [1,0,1,0,0],.b 0,.c [1,1]]<|Kp [1,7,8,9] [(1,.string a1),(7,.slice Aa0 a0.length ca0),(8,iv (a0.length:Int)),(9,iv (w64 (v9+1)))] ?_
    refine RunH.pick 1 [] (cs':=F) (by kernel_rfl) rfl ?_
    exact ihk a0 _ _ a1 (w64 (v9+1)) hra0 hca0 heq
  ·replace heq:=bif_false hb1 heq
   refine Cf (decide (v9<(a0.length:Int))) hb1<|Ad 2 [.c [1,1,0],.c [1,1,1]]<|Kp [] [] ?_
   exact he1 heq
theorem smithyardref9_workOf_c {w0:World} {H:Hp} {F:List Ch} {a0:List Work} {Aa0:Option Addr} {na0:Nat} {ca0:Nat} {a1:ByteArray} {r:Int} (hra0:Rw kWork H F Aa0 a0) (hca0:na0≤ca0) (hna0:na0=a0.length) (heq:smithyardref9_workOf.f a0 a1=some r):CallsH Tryd.prog 30 #[.slice Aa0 na0 ca0,.string a1] H w0 (F) (S30 F H r):=by
 refine calls_of_runH (F:=C30) Tryd.func30 (by kernel_rfl) Tryd.ntmps30 (args:=[.slice Aa0 na0 ca0,.string a1]) (by kernel_rfl) ?_
 subst hna0
 unfold smithyardref9_workOf.f at heq
 refine Ra 1 [0] [.c [1]]<|Rd 1 [0,1] [(0,.slice Aa0 a0.length ca0),(1,.string a1)]<|Ra 2 [1,0,0] [.c [1,0,1],.c [1,1]]<|Rd 3 [1,7,8,9] [(1,.string a1),(7,.slice Aa0 a0.length ca0),(8,iv (a0.length:Int)),(9,iv 0)]<|Ad 2 [.c [1,0,1,0,0],.l [1,0,1,0,0],.b 0,.c [1,1]]<|Kp [1,7,8,9] [(1,.string a1),(7,.slice Aa0 a0.length ca0),(8,iv (a0.length:Int)),(9,iv 0)] ?_
 exact ((smithyardref9_workOf.l2_c (e1:=smithyardref9_workOf.e1) (smithyardref9_workOf.e1_c)) big) a0 _ _ a1 0 hra0 hca0 heq
noncomputable def C31:Ctx:={ P:=Tryd.prog,f:=31,N:=53,c:=bodyOf Tryd.f31 }
def S31 (F:List Ch) (H0:Hp) (r:Bool) (v:Value) (H:Hp) (cs:List Ch):Prop:=H0=H∧v=.bool r∧F=cs
theorem smithyardref9_loops.e1_c {w0:World} {H:Hp} {F:List Ch} {r:Bool}:smithyardref9_loops.e1=some r→RunH C31 (S31 F H r) H w0 [.c [1,1,1,1,0],.c [1,1,1,1,1]] [] H (F):=by
 intro   heq
 unfold smithyardref9_loops.e1 at heq
 refine Rr<|Rd 1 [4] [(4,.bool false)] ?_
 obtain rfl:=Option.some.inj heq
 exact RunH.done (by kernel_rfl) Tryd.func31 (v:=.bool false) (by kernel_rfl) ⟨rfl,rfl,rfl⟩
theorem smithyardref9_loops.j4_c {w0:World} {H:Hp} {F:List Ch} {r:Bool} (backl3:(List Work)→Int→Work→(List Bool)→(List Int)→Int→Option Bool)
  (hbackl3:∀ (a0:List Work) (Aa0:Option Addr) (ca0:Nat) (a1:Int) (x2:Work) (A2:Option Addr) (c2:Nat) (v_seen5:List Bool) (Av_seen5:Option Addr) (nv_seen5:Nat) (cv_seen5:Nat) (chv_seen5:Ch) (v_next6:List Int) (Av_next6:Option Addr) (nv_next6:Nat) (cv_next6:Nat) (chv_next6:Ch) (v30:Int) ,Rw kWork H F Aa0 a0→a0.length≤ca0→Kd.Row Kd.string H A2 x2.After→x2.After.length≤c2→SlOwn Kd.bool 4 H Av_seen5 cv_seen5 v_seen5 chv_seen5→nv_seen5=v_seen5.length→SlOwn (Kd.int .i64) 3 H Av_next6 cv_next6 v_next6 chv_next6→nv_next6=v_next6.length→backl3 a0 a1 x2 v_seen5 v_next6 v30=some r→RunH C31 (S31 F H r) H w0 [.c [1,1,1,0,0,0,1,0,1,1,1,0,0],.l [1,1,1,0,0,0,1,0,1,1,1,0,0],.b 2,.b 1,.l [1,1,1,0,0,0],.b 0,.c [1,1,1,1]] [(0,.slice Aa0 a0.length ca0),(1,iv a1),(5,.slice Av_seen5 nv_seen5 cv_seen5),(6,.slice Av_next6 nv_next6 cv_next6),(28,.slice A2 x2.After.length c2),(29,iv (x2.After.length:Int)),(30,iv v30)] H (chv_next6::chv_seen5::F)):∀ (a0:List Work) (Aa0:Option Addr) (ca0:Nat) (a1:Int) (x2:Work) (A2:Option Addr) (c2:Nat) (v30:Int) (v_seen5:List Bool) (Av_seen5:Option Addr) (nv_seen5:Nat) (cv_seen5:Nat) (chv_seen5:Ch) (v_next6:List Int) (Av_next6:Option Addr) (nv_next6:Nat) (cv_next6:Nat) (chv_next6:Ch) ,Rw kWork H F Aa0 a0→a0.length≤ca0→Kd.Row Kd.string H A2 x2.After→x2.After.length≤c2→SlOwn Kd.bool 4 H Av_seen5 cv_seen5 v_seen5 chv_seen5→nv_seen5=v_seen5.length→SlOwn (Kd.int .i64) 3 H Av_next6 cv_next6 v_next6 chv_next6→nv_next6=v_next6.length→smithyardref9_loops.j4 backl3 a0 a1 x2 v30 v_seen5 v_next6=some r→RunH C31 (S31 F H r) H w0 [.c [1,1,1,0,0,0,1,0,1,1,1,0,0,1,1,1],.l [1,1,1,0,0,0,1,0,1,1,1,0,0],.b 2,.b 1,.l [1,1,1,0,0,0],.b 0,.c [1,1,1,1]] [(0,.slice Aa0 a0.length ca0),(1,iv a1),(5,.slice Av_seen5 nv_seen5 cv_seen5),(6,.slice Av_next6 nv_next6 cv_next6),(28,.slice A2 x2.After.length c2),(29,iv (x2.After.length:Int)),(30,iv v30)] H (chv_next6::chv_seen5::F):=by
 intro a0 Aa0 ca0 a1 x2 A2 c2 v30 v_seen5 Av_seen5 nv_seen5 cv_seen5 chv_seen5 v_next6 Av_next6 nv_next6 cv_next6 chv_next6 hra0 hca0 hr2 hc2 hov_seen5 hnv_seen5 hov_next6 hnv_next6 heq
 subst hnv_seen5
 subst hnv_next6
 unfold smithyardref9_loops.j4 at heq
 refine Rr<|Rd 2 [0,1,5,6,28,29,30] [(0,.slice Aa0 a0.length ca0),(1,iv a1),(5,.slice Av_seen5 v_seen5.length cv_seen5),(6,.slice Av_next6 v_next6.length cv_next6),(28,.slice A2 x2.After.length c2),(29,iv (x2.After.length:Int)),(30,iv (w64 (v30+1)))]<|Ad 1 [.c [1,1,1,0,0,0,1,0,1,1,1,0,0],.l [1,1,1,0,0,0,1,0,1,1,1,0,0],.b 2,.b 1,.l [1,1,1,0,0,0],.b 0,.c [1,1,1,1]]<|Kp [0,1,5,6,28,29,30] [(0,.slice Aa0 a0.length ca0),(1,iv a1),(5,.slice Av_seen5 v_seen5.length cv_seen5),(6,.slice Av_next6 v_next6.length cv_next6),(28,.slice A2 x2.After.length c2),(29,iv (x2.After.length:Int)),(30,iv (w64 (v30+1)))] ?_
 exact hbackl3 a0 _ _ a1 x2 _ _ v_seen5 _ _ _ _ v_next6 _ _ _ _ (w64 (v30+1)) hra0 hca0 hr2 hc2 hov_seen5 rfl hov_next6 rfl heq
theorem smithyardref9_loops.l3_c {w0:World} {H:Hp} {F:List Ch} {r:Bool} (backl2:(List Work)→Int→(List Bool)→(List Int)→Option Bool)
  (hbackl2:∀ (a0:List Work) (Aa0:Option Addr) (ca0:Nat) (a1:Int) (v_seen5:List Bool) (Av_seen5:Option Addr) (nv_seen5:Nat) (cv_seen5:Nat) (chv_seen5:Ch) (v_next6:List Int) (Av_next6:Option Addr) (nv_next6:Nat) (cv_next6:Nat) (chv_next6:Ch) ,Rw kWork H F Aa0 a0→a0.length≤ca0→SlOwn Kd.bool 4 H Av_seen5 cv_seen5 v_seen5 chv_seen5→nv_seen5=v_seen5.length→SlOwn (Kd.int .i64) 3 H Av_next6 cv_next6 v_next6 chv_next6→nv_next6=v_next6.length→backl2 a0 a1 v_seen5 v_next6=some r→RunH C31 (S31 F H r) H w0 [.c [1,1,1,0,0,0],.l [1,1,1,0,0,0],.b 0,.c [1,1,1,1]] [(0,.slice Aa0 a0.length ca0),(1,iv a1),(5,.slice Av_seen5 nv_seen5 cv_seen5),(6,.slice Av_next6 nv_next6 cv_next6)] H (chv_next6::chv_seen5::F)):∀ (k:Nat),∀ (a0:List Work) (Aa0:Option Addr) (ca0:Nat) (a1:Int) (x2:Work) (A2:Option Addr) (c2:Nat) (v_seen5:List Bool) (Av_seen5:Option Addr) (nv_seen5:Nat) (cv_seen5:Nat) (chv_seen5:Ch) (v_next6:List Int) (Av_next6:Option Addr) (nv_next6:Nat) (cv_next6:Nat) (chv_next6:Ch) (v30:Int) ,Rw kWork H F Aa0 a0→a0.length≤ca0→Kd.Row Kd.string H A2 x2.After→x2.After.length≤c2→SlOwn Kd.bool 4 H Av_seen5 cv_seen5 v_seen5 chv_seen5→nv_seen5=v_seen5.length→SlOwn (Kd.int .i64) 3 H Av_next6 cv_next6 v_next6 chv_next6→nv_next6=v_next6.length→smithyardref9_loops.l3 backl2 k a0 a1 x2 v_seen5 v_next6 v30=some r→RunH C31 (S31 F H r) H w0 [.c [1,1,1,0,0,0,1,0,1,1,1,0,0],.l [1,1,1,0,0,0,1,0,1,1,1,0,0],.b 2,.b 1,.l [1,1,1,0,0,0],.b 0,.c [1,1,1,1]] [(0,.slice Aa0 a0.length ca0),(1,iv a1),(5,.slice Av_seen5 nv_seen5 cv_seen5),(6,.slice Av_next6 nv_next6 cv_next6),(28,.slice A2 x2.After.length c2),(29,iv (x2.After.length:Int)),(30,iv v30)] H (chv_next6::chv_seen5::F):=by
 intro k
 induction k with
 | zero=>intro a0 Aa0 ca0 a1 x2 A2 c2 v_seen5 Av_seen5 nv_seen5 cv_seen5 chv_seen5 v_next6 Av_next6 nv_next6 cv_next6 chv_next6 v30 hra0 hca0 hr2 hc2 hov_seen5 hnv_seen5 hov_next6 hnv_next6 heq; exact nomatch (show (none:Option Bool)=some r from heq)
 | succ k ihk =>
  intro a0 Aa0 ca0 a1 x2 A2 c2 v_seen5 Av_seen5 nv_seen5 cv_seen5 chv_seen5 v_next6 Av_next6 nv_next6 cv_next6 chv_next6 v30 hra0 hca0 hr2 hc2 hov_seen5 hnv_seen5 hov_next6 hnv_next6 heq
  subst hnv_seen5
  subst hnv_next6
  rw [smithyardref9_loops.l3] at heq
  refine Ra 1 [1,1,1,0,0,0,1,0,1,1,1,0,0,0] [.c [1,1,1,0,0,0,1,0,1,1,1,0,0,1],.l [1,1,1,0,0,0,1,0,1,1,1,0,0],.b 2,.b 1,.l [1,1,1,0,0,0],.b 0,.c [1,1,1,1]]<|Rd 1 [0,1,5,6,28,29,30,31] [(0,.slice Aa0 a0.length ca0),(1,iv a1),(5,.slice Av_seen5 v_seen5.length cv_seen5),(6,.slice Av_next6 v_next6.length cv_next6),(28,.slice A2 x2.After.length c2),(29,iv (x2.After.length:Int)),(30,iv v30),(31,.bool (decide (v30<(x2.After.length:Int))))]<|Ad 1 [.c [1,1,1,0,0,0,1,0,1,1,1,0,0,1,0],.c [1,1,1,0,0,0,1,0,1,1,1,0,0,1,1],.l [1,1,1,0,0,0,1,0,1,1,1,0,0],.b 2,.b 1,.l [1,1,1,0,0,0],.b 0,.c [1,1,1,1]] ?_
  rcases bool_cases (decide (v30<(x2.After.length:Int))) with hb2 | hb2
  ·replace heq:=bif_true hb2 heq
   refine Ct (decide (v30<(x2.After.length:Int))) hb2<|Ra 4 [1,1,1,0,0,0,1,0,1,1,1,0,0,1,1,0,0,0] [.c [1,1,1,0,0,0,1,0,1,1,1,0,0,1,1,0,0,1],.b 3,.c [1,1,1,0,0,0,1,0,1,1,1,0,0,1,1,1],.l [1,1,1,0,0,0,1,0,1,1,1,0,0],.b 2,.b 1,.l [1,1,1,0,0,0],.b 0,.c [1,1,1,1]] ?_
   obtain ⟨x3,hx3,heq⟩:=bind_some heq
   obtain ⟨ha3,cs3,hK3,hcc3⟩:=(Rw.of (F:=F) hr2).get hx3
   obtain rfl:cs3=[.string x3]:=hK3
   refine Rw' 3 [0,1,5,6,9,28,29,30] [.string x3] [.need (A2=some (adr A2)∧(0:Int)≤v30∧v30<((x2.After.length:Nat):Int)),.load ((adr A2).add (v30.toNat*1)) (.string x3)] [(0,.slice Aa0 a0.length ca0),(1,iv a1),(5,.slice Av_seen5 v_seen5.length cv_seen5),(6,.slice Av_next6 v_next6.length cv_next6),(9,.string x3),(28,.slice A2 x2.After.length c2),(29,iv (x2.After.length:Int)),(30,iv v30)] (fun w hh=>⟨⟨ha3,(at?_some hx3).1,(at?_some hx3).2.1⟩,(hcc3 _ _ (hh.drop 2) 0 _ rfl)⟩)<|Ra 1 [1,1,1,0,0,0,1,0,1,1,1,0,0,1,1,0,0,1,0] [.c [1,1,1,0,0,0,1,0,1,1,1,0,0,1,1,0,0,1,1],.b 3,.c [1,1,1,0,0,0,1,0,1,1,1,0,0,1,1,1],.l [1,1,1,0,0,0,1,0,1,1,1,0,0],.b 2,.b 1,.l [1,1,1,0,0,0],.b 0,.c [1,1,1,1]]<|Rk 2 [0,1,5,6,28,29,30,34,35] [(0,.slice Aa0 a0.length ca0),(1,iv a1),(5,.slice Av_seen5 v_seen5.length cv_seen5),(6,.slice Av_next6 v_next6.length cv_next6),(28,.slice A2 x2.After.length c2),(29,iv (x2.After.length:Int)),(30,iv v30),(34,.slice Aa0 a0.length ca0),(35,.string x3)] ?_
   obtain ⟨y1,hy1,heq⟩:=bind_some heq
   refine RgH.does (DoesH.call (d:=36) (g:=30) (args:=#[.slice Aa0 a0.length ca0,.string x3]) (by kernel_rfl) (smithyardref9_workOf_c (a0:=a0) (a1:=x3) (hra0.wk (fun _ h=>(.tail _ (.tail _ h)))) hca0 rfl hy1)) ?_
   rintro _ _ _ _ ⟨_,rfl,rfl,rfl,rfl⟩
   refine Rd 4 [0,1,5,6,10,28,29,30] [(0,.slice Aa0 a0.length ca0),(1,iv a1),(5,.slice Av_seen5 v_seen5.length cv_seen5),(6,.slice Av_next6 v_next6.length cv_next6),(10,iv y1),(28,.slice A2 x2.After.length c2),(29,iv (x2.After.length:Int)),(30,iv v30)]<|Ra 2 [1,1,1,0,0,0,1,0,1,1,1,0,0,1,1,0,0,1,1,0,0] [.c [1,1,1,0,0,0,1,0,1,1,1,0,0,1,1,0,0,1,1,0,1],.c [1,1,1,0,0,0,1,0,1,1,1,0,0,1,1,0,0,1,1,1],.b 3,.c [1,1,1,0,0,0,1,0,1,1,1,0,0,1,1,1],.l [1,1,1,0,0,0,1,0,1,1,1,0,0],.b 2,.b 1,.l [1,1,1,0,0,0],.b 0,.c [1,1,1,1]]<|Rd 3 [0,1,5,6,10,28,29,30,39] [(0,.slice Aa0 a0.length ca0),(1,iv a1),(5,.slice Av_seen5 v_seen5.length cv_seen5),(6,.slice Av_next6 v_next6.length cv_next6),(10,iv y1),(28,.slice A2 x2.After.length c2),(29,iv (x2.After.length:Int)),(30,iv v30),(39,.bool (y1 == a1))] ?_
   rcases bool_cases (y1 == a1) with hb3 | hb3
   ·replace heq:=bif_true hb3 heq
    refine Ct (y1 == a1) hb3<|Ra 1 [1,1,1,0,0,0,1,0,1,1,1,0,0,1,1,0,0,1,1,0,1,0,0] [.c [1,1,1,0,0,0,1,0,1,1,1,0,0,1,1,0,0,1,1,0,1,0,1],.c [1,1,1,0,0,0,1,0,1,1,1,0,0,1,1,0,0,1,1,1],.b 3,.c [1,1,1,0,0,0,1,0,1,1,1,0,0,1,1,1],.l [1,1,1,0,0,0,1,0,1,1,1,0,0],.b 2,.b 1,.l [1,1,1,0,0,0],.b 0,.c [1,1,1,1]]<|Rd 1 [4] [(4,.bool true)] ?_
    obtain rfl:=Option.some.inj heq
    refine RunH.pick 2 [] (cs':=F) (by kernel_rfl) rfl ?_
    exact RunH.done (by kernel_rfl) Tryd.func31 (v:=.bool true) (by kernel_rfl) ⟨rfl,rfl,rfl⟩
   ·replace heq:=bif_false hb3 heq
    refine Cf (y1 == a1) hb3<|Ra 2 [1,1,1,0,0,0,1,0,1,1,1,0,0,1,1,0,0,1,1,1,0] [.c [1,1,1,0,0,0,1,0,1,1,1,0,0,1,1,0,0,1,1,1,1],.b 3,.c [1,1,1,0,0,0,1,0,1,1,1,0,0,1,1,1],.l [1,1,1,0,0,0,1,0,1,1,1,0,0],.b 2,.b 1,.l [1,1,1,0,0,0],.b 0,.c [1,1,1,1]] ?_
    obtain ⟨x4,hx4,heq⟩:=bind_some heq
    obtain ⟨ha4,cs4,hK4,hcc4⟩:=hov_seen5.get hx4
    obtain rfl:cs4=[.bool x4]:=hK4
    refine Rw' 5 [0,1,5,6,10,28,29,30,44] [.bool x4] [.need (Av_seen5=some (adr Av_seen5)∧(0:Int)≤y1∧y1<((v_seen5.length:Nat):Int)),.load ((adr Av_seen5).add (y1.toNat*1)) (.bool x4)] [(0,.slice Aa0 a0.length ca0),(1,iv a1),(5,.slice Av_seen5 v_seen5.length cv_seen5),(6,.slice Av_next6 v_next6.length cv_next6),(10,iv y1),(28,.slice A2 x2.After.length c2),(29,iv (x2.After.length:Int)),(30,iv v30),(44,.bool (!x4))] (fun w hh=>⟨⟨ha4,(at?_some hx4).1,(at?_some hx4).2.1⟩,(hcc4 _ (hh.chin 1 rfl) 0 _ rfl)⟩) ?_
    rcases bool_cases (!x4) with hb4 | hb4
    ·replace heq:=bif_true hb4 heq
     refine Ct (!x4) hb4<|Rr<|Rk 4 [0,1,5,28,29,30,45,46,47,48] [(0,.slice Aa0 a0.length ca0),(1,iv a1),(5,.slice Av_seen5 v_seen5.length cv_seen5),(28,.slice A2 x2.After.length c2),(29,iv (x2.After.length:Int)),(30,iv v30),(45,.slice Av_seen5 v_seen5.length cv_seen5),(46,iv y1),(47,.slice Av_next6 v_next6.length cv_next6),(48,iv y1)] ?_
     refine RgH.does (DoesH.new (d:=49) (v:=fun g=>.slice (some ⟨g,0,none⟩) 1 1) (o:=fun g=>.cells #[iv y1] 3 (0,0)) (fun g=>by kernel_rfl)) ?_
     rintro _ _ _ _ ⟨g3,rfl,rfl,rfl⟩
     have ho4:SlOwn (Kd.int .i64) 3 H (some ⟨g3,0,none⟩) 1 ([y1]:List Int) (some (g3,.cells #[iv y1] 3 (0,0))):=SlOwn.lit (xs:=([y1]:List Int)) (by kernel_rfl) (Nat.le_of_ble_eq_true (by kernel_rfl)) (Kd.Rep.scalars rfl)
     obtain ⟨hn4,heq⟩:=guard?_some heq
     refine RgH.does (DoesH.append (d:=50) (k:=1) (t:=59) (e:=3) (bytes:=8) (kd:=(Kd.int .i64)) (n:=v_next6.length) (m:=1) (xs:=v_next6) (ys:=([y1]:List Int)) (A:=Av_next6) (B:=(some ⟨g3,0,none⟩)) (c:=cv_next6) (cB:=1) (by kernel_rfl) rfl rfl (by kernel_rfl) rfl hov_next6 (fun w hh=>ho4.rdb (hh.chin 0 rfl)) (room_le hn4) (by have:=room_le hn4; omega)) ?_
     rintro _ _ _ _ ⟨A3,c3,ch2,rfl,rfl,rfl,ho5⟩
     obtain ⟨x5,hx5,heq⟩:=bind_some heq
     obtain ⟨ha5,cs5,hK5,hcc5⟩:=hov_seen5.get hx5
     obtain rfl:cs5=[.bool x5]:=hK5
     refine Rv 7 [0,1,5,28,29,30,50,51] [] [.need (Av_seen5=some (adr Av_seen5)∧(0:Int)≤y1∧y1<((v_seen5.length:Nat):Int))] [(0,.slice Aa0 a0.length ca0),(1,iv a1),(5,.slice Av_seen5 v_seen5.length cv_seen5),(28,.slice A2 x2.After.length c2),(29,iv (x2.After.length:Int)),(30,iv v30),(50,.slice A3 ((v_next6++([y1]:List Int)).length) c3),(51,.pointer (some ((adr Av_seen5).add (y1.toNat*1))))] (fun w hh=>⟨ha5,(at?_some hx5).1,(at?_some hx5).2.1⟩) ?_
     obtain ⟨ha6,cs6,hK6,hcc6⟩:=hov_seen5.get hx5
     obtain rfl:cs6=[.bool x5]:=hK6
     refine RgH.does (DoesH.storeEl (a:=((adr Av_seen5).add (y1.toNat*1))) (k:=2) (kd:=Kd.bool) (c0:=[.bool x5]) (x':=true) (o:=0) (ix:=y1) (v:=.bool true) (by kernel_rfl) rfl hov_seen5 hx5 (by kernel_rfl) hcc6 rfl (Nat.le_of_ble_eq_true (by kernel_rfl)) rfl) ?_
     rintro _ _ _ _ ⟨ch3,rfl,rfl,rfl,ho6⟩
     have hn5:v_seen5.length=(v_seen5.set y1.toNat true).length:=by rw [List.length_set]
     refine Rd 9 [0,1,5,6,28,29,30] [(0,.slice Aa0 a0.length ca0),(1,iv a1),(5,.slice Av_seen5 v_seen5.length cv_seen5),(6,.slice A3 ((v_next6++([y1]:List Int)).length) c3),(28,.slice A2 x2.After.length c2),(29,iv (x2.After.length:Int)),(30,iv v30)]<|Ad 1 [.c [1,1,1,0,0,0,1,0,1,1,1,0,0,1,1,1],.l [1,1,1,0,0,0,1,0,1,1,1,0,0],.b 2,.b 1,.l [1,1,1,0,0,0],.b 0,.c [1,1,1,1]]<|Kp [0,1,5,6,28,29,30] [(0,.slice Aa0 a0.length ca0),(1,iv a1),(5,.slice Av_seen5 v_seen5.length cv_seen5),(6,.slice A3 ((v_next6++([y1]:List Int)).length) c3),(28,.slice A2 x2.After.length c2),(29,iv (x2.After.length:Int)),(30,iv v30)] ?_
     refine RunH.pick 3 [1,2] (cs':=ch2::ch3::F) (by kernel_rfl) rfl ?_
     exact (smithyardref9_loops.j4_c (backl3:=(smithyardref9_loops.l3 backl2 k)) ihk) a0 _ _ a1 x2 _ _ v30 (v_seen5.set y1.toNat true) _ _ _ _ (v_next6++([y1]:List Int)) _ _ _ _ hra0 hca0 hr2 hc2 ho6 hn5 ho5 rfl heq
    ·replace heq:=bif_false hb4 heq
     refine Cf (!x4) hb4<|Ad 2 [.c [1,1,1,0,0,0,1,0,1,1,1,0,0,1,1,1],.l [1,1,1,0,0,0,1,0,1,1,1,0,0],.b 2,.b 1,.l [1,1,1,0,0,0],.b 0,.c [1,1,1,1]]<|Kp [0,1,5,6,28,29,30] [(0,.slice Aa0 a0.length ca0),(1,iv a1),(5,.slice Av_seen5 v_seen5.length cv_seen5),(6,.slice Av_next6 v_next6.length cv_next6),(28,.slice A2 x2.After.length c2),(29,iv (x2.After.length:Int)),(30,iv v30)] ?_
     exact (smithyardref9_loops.j4_c (backl3:=(smithyardref9_loops.l3 backl2 k)) ihk) a0 _ _ a1 x2 _ _ v30 v_seen5 _ _ _ _ v_next6 _ _ _ _ hra0 hca0 hr2 hc2 hov_seen5 rfl hov_next6 rfl heq
  ·replace heq:=bif_false hb2 heq
   refine Cf (decide (v30<(x2.After.length:Int))) hb2<|Ad 3 [.c [1,1,1,0,0,0],.l [1,1,1,0,0,0],.b 0,.c [1,1,1,1]]<|Kp [0,1,5,6] [(0,.slice Aa0 a0.length ca0),(1,iv a1),(5,.slice Av_seen5 v_seen5.length cv_seen5),(6,.slice Av_next6 v_next6.length cv_next6)] ?_
   exact hbackl2 a0 _ _ a1 v_seen5 _ _ _ _ v_next6 _ _ _ _ hra0 hca0 hov_seen5 rfl hov_next6 rfl heq
theorem smithyardref9_loops.l2_c {w0:World} {H:Hp} {F:List Ch} {r:Bool} (e1:Option Bool)
  (he1:e1=some r→RunH C31 (S31 F H r) H w0 [.c [1,1,1,1,0],.c [1,1,1,1,1]] [] H (F)):∀ (k:Nat),∀ (a0:List Work) (Aa0:Option Addr) (ca0:Nat) (a1:Int) (v_seen5:List Bool) (Av_seen5:Option Addr) (nv_seen5:Nat) (cv_seen5:Nat) (chv_seen5:Ch) (v_next6:List Int) (Av_next6:Option Addr) (nv_next6:Nat) (cv_next6:Nat) (chv_next6:Ch) ,Rw kWork H F Aa0 a0→a0.length≤ca0→SlOwn Kd.bool 4 H Av_seen5 cv_seen5 v_seen5 chv_seen5→nv_seen5=v_seen5.length→SlOwn (Kd.int .i64) 3 H Av_next6 cv_next6 v_next6 chv_next6→nv_next6=v_next6.length→smithyardref9_loops.l2 e1 k a0 a1 v_seen5 v_next6=some r→RunH C31 (S31 F H r) H w0 [.c [1,1,1,0,0,0],.l [1,1,1,0,0,0],.b 0,.c [1,1,1,1]] [(0,.slice Aa0 a0.length ca0),(1,iv a1),(5,.slice Av_seen5 nv_seen5 cv_seen5),(6,.slice Av_next6 nv_next6 cv_next6)] H (chv_next6::chv_seen5::F):=by
 intro k
 induction k with
 | zero=>intro a0 Aa0 ca0 a1 v_seen5 Av_seen5 nv_seen5 cv_seen5 chv_seen5 v_next6 Av_next6 nv_next6 cv_next6 chv_next6 hra0 hca0 hov_seen5 hnv_seen5 hov_next6 hnv_next6 heq; exact nomatch (show (none:Option Bool)=some r from heq)
 | succ k ihk =>
  intro a0 Aa0 ca0 a1 v_seen5 Av_seen5 nv_seen5 cv_seen5 chv_seen5 v_next6 Av_next6 nv_next6 cv_next6 chv_next6 hra0 hca0 hov_seen5 hnv_seen5 hov_next6 hnv_next6 heq
  subst hnv_seen5
  subst hnv_next6
  rw [smithyardref9_loops.l2] at heq
  refine Ra 2 [1,1,1,0,0,0,0,0] [.c [1,1,1,0,0,0,0,1],.c [1,1,1,0,0,0,1],.l [1,1,1,0,0,0],.b 0,.c [1,1,1,1]]<|Rd 3 [0,1,5,6,18] [(0,.slice Aa0 a0.length ca0),(1,iv a1),(5,.slice Av_seen5 v_seen5.length cv_seen5),(6,.slice Av_next6 v_next6.length cv_next6),(18,.bool (decide (0<(v_next6.length:Int))))] ?_
  rcases bool_cases (decide (0<(v_next6.length:Int))) with hb1 | hb1
  ·replace heq:=bif_true hb1 heq
   refine Ct (decide (0<(v_next6.length:Int))) hb1<|Ra 3 [1,1,1,0,0,0,1,0,0] [.c [1,1,1,0,0,0,1,0,1],.b 1,.l [1,1,1,0,0,0],.b 0,.c [1,1,1,1]] ?_
   obtain ⟨x1,hx1,heq⟩:=bind_some heq
   obtain ⟨ha1,cs1,hK1,hcc1⟩:=hov_next6.get hx1
   obtain rfl:cs1=[iv x1]:=hK1
   refine Rw' 4 [0,1,5,6,7] [iv x1] [.need (Av_next6=some (adr Av_next6)∧(0:Int)≤0∧0<((v_next6.length:Nat):Int)),.load ((adr Av_next6).add (0*1)) (iv x1)] [(0,.slice Aa0 a0.length ca0),(1,iv a1),(5,.slice Av_seen5 v_seen5.length cv_seen5),(6,.slice Av_next6 v_next6.length cv_next6),(7,iv x1)] (fun w hh=>⟨⟨ha1,(at?_some hx1).1,(at?_some hx1).2.1⟩,(hcc1 _ (hh.chin 0 rfl) 0 _ rfl)⟩)<|Ra 1 [1,1,1,0,0,0,1,0,1,0] [.c [1,1,1,0,0,0,1,0,1,1],.b 1,.l [1,1,1,0,0,0],.b 0,.c [1,1,1,1]] ?_
   obtain ⟨hn3,heq⟩:=guard?_some heq
   have hn2:v_next6.length - 1=(v_next6.drop 1).length:=by have h1:=both_of hn3; have h3:=trivial; (try simp); (try omega)
   have ho3:=hov_next6.drop 1 (by have h2:=hov_next6.cap; have h3:=trivial; have h1:=both_of hn3; omega)
   refine Rw' 3 [0,1,5,6,7] [] [.need ((0:Int)≤1∧1≤((v_next6.length:Nat):Int))] [(0,.slice Aa0 a0.length ca0),(1,iv a1),(5,.slice Av_seen5 v_seen5.length cv_seen5),(6,.slice (shiftA cv_next6 1 1 Av_next6) (v_next6.length - 1) (cv_next6 - 1)),(7,iv x1)] (fun w hh=>(both_of hn3))<|Ra 1 [1,1,1,0,0,0,1,0,1,1,0] [.c [1,1,1,0,0,0,1,0,1,1,1],.b 1,.l [1,1,1,0,0,0],.b 0,.c [1,1,1,1]] ?_
   obtain ⟨x2,hx2,heq⟩:=bind_some heq
   obtain ⟨ha2,cs2,hK2,hcc2⟩:=hra0.get hx2
   obtain ⟨A1,c1,A2,c2,rfl,hc1,hr1,hc2,hr2⟩:=kWork_open hK2
   refine Rw' 7 [0,1,5,6,28,29,30] [.slice A2 x2.After.length c2] [.need (Aa0=some (adr Aa0)∧(0:Int)≤x1∧x1<((a0.length:Nat):Int)),.load (((adr Aa0).add (x1.toNat*4)).add 3) (.slice A2 x2.After.length c2)] [(0,.slice Aa0 a0.length ca0),(1,iv a1),(5,.slice Av_seen5 v_seen5.length cv_seen5),(6,.slice (shiftA cv_next6 1 1 Av_next6) (v_next6.length - 1) (cv_next6 - 1)),(28,.slice A2 x2.After.length c2),(29,iv (x2.After.length:Int)),(30,iv 0)] (fun w hh=>⟨⟨ha2,(at?_some hx2).1,(at?_some hx2).2.1⟩,(hcc2 _ _ (hh.drop 2) 3 _ rfl)⟩)<|Ad 2 [.c [1,1,1,0,0,0,1,0,1,1,1,0,0],.l [1,1,1,0,0,0,1,0,1,1,1,0,0],.b 2,.b 1,.l [1,1,1,0,0,0],.b 0,.c [1,1,1,1]]<|Kp [0,1,5,6,28,29,30] [(0,.slice Aa0 a0.length ca0),(1,iv a1),(5,.slice Av_seen5 v_seen5.length cv_seen5),(6,.slice (shiftA cv_next6 1 1 Av_next6) (v_next6.length - 1) (cv_next6 - 1)),(28,.slice A2 x2.After.length c2),(29,iv (x2.After.length:Int)),(30,iv 0)] ?_
   exact ((smithyardref9_loops.l3_c (backl2:=(smithyardref9_loops.l2 e1 k)) ihk) big) a0 _ _ a1 x2 _ _ v_seen5 _ _ _ _ (v_next6.drop 1) _ _ _ _ 0 hra0 hca0 hr2 hc2 hov_seen5 rfl ho3 hn2 heq
  ·replace heq:=bif_false hb1 heq
   refine Cf (decide (0<(v_next6.length:Int))) hb1<|Ad 2 [.c [1,1,1,1,0],.c [1,1,1,1,1]]<|Kp [] [] ?_
   refine RunH.pick 2 [] (cs':=F) (by kernel_rfl) rfl ?_
   exact he1 heq
theorem smithyardref9_loops_c {w0:World} {H:Hp} {F:List Ch} {a0:List Work} {Aa0:Option Addr} {na0:Nat} {ca0:Nat} {a1:Int} {r:Bool} (hra0:Rw kWork H F Aa0 a0) (hca0:na0≤ca0) (hna0:na0=a0.length) (heq:smithyardref9_loops.f a0 a1=some r):CallsH Tryd.prog 31 #[.slice Aa0 na0 ca0,iv a1] H w0 (F) (S31 F H r):=by
 refine calls_of_runH (F:=C31) Tryd.func31 (by kernel_rfl) Tryd.ntmps31 (args:=[.slice Aa0 na0 ca0,iv a1]) (by kernel_rfl) ?_
 subst hna0
 unfold smithyardref9_loops.f at heq
 refine Ra 1 [0] [.c [1]]<|Rd 1 [0,1] [(0,.slice Aa0 a0.length ca0),(1,iv a1)]<|Ra 1 [1,0] [.c [1,1]]<|Rk 2 [0,1,12] [(0,.slice Aa0 a0.length ca0),(1,iv a1),(12,iv (a0.length:Int))] ?_
 obtain ⟨hn1,heq⟩:=guard?_some heq
 simp only [Bool.and_eq_true,decide_eq_true_eq] at hn1
 refine RgH.does (DoesH.makeSlice (d:=13) (e:=4) (bytes:=1) (kd:=Kd.bool) (zc:=#[.bool false]) (z:=false) (n:=(a0.length:Int)) (by kernel_rfl) hn1.1 (by have:=room_le hn1.2; simpa using this) (by have:=room_le hn1.2; simp at this; omega) rfl (by decide)) ?_
 rintro _ _ _ _ ⟨g1,ch1,rfl,rfl,rfl,ho1⟩
 refine Rd 4 [0,1,5] [(0,.slice Aa0 a0.length ca0),(1,iv a1),(5,.slice (some ⟨g1,0,none⟩) ((List.replicate (a0.length:Int).toNat (false)).length) ((a0.length:Int).toNat))]<|Ra 1 [1,1,0] [.c [1,1,1]]<|Rk 1 [0,1,5,14] [(0,.slice Aa0 a0.length ca0),(1,iv a1),(5,.slice (some ⟨g1,0,none⟩) ((List.replicate (a0.length:Int).toNat (false)).length) ((a0.length:Int).toNat)),(14,iv a1)] ?_
 refine RgH.does (DoesH.new (d:=15) (v:=fun g=>.slice (some ⟨g,0,none⟩) 1 1) (o:=fun g=>.cells #[iv a1] 3 (0,0)) (fun g=>by kernel_rfl)) ?_
 rintro _ _ _ _ ⟨g2,rfl,rfl,rfl⟩
 have ho2:SlOwn (Kd.int .i64) 3 H (some ⟨g2,0,none⟩) 1 ([a1]:List Int) (some (g2,.cells #[iv a1] 3 (0,0))):=SlOwn.lit (xs:=([a1]:List Int)) (by kernel_rfl) (Nat.le_of_ble_eq_true (by kernel_rfl)) (Kd.Rep.scalars rfl)
 refine Rd 3 [0,1,5,6] [(0,.slice Aa0 a0.length ca0),(1,iv a1),(5,.slice (some ⟨g1,0,none⟩) ((List.replicate (a0.length:Int).toNat (false)).length) ((a0.length:Int).toNat)),(6,.slice (some ⟨g2,0,none⟩) 1 1)]<|Ad 3 [.c [1,1,1,0,0,0],.l [1,1,1,0,0,0],.b 0,.c [1,1,1,1]]<|Kp [0,1,5,6] [(0,.slice Aa0 a0.length ca0),(1,iv a1),(5,.slice (some ⟨g1,0,none⟩) ((List.replicate (a0.length:Int).toNat (false)).length) ((a0.length:Int).toNat)),(6,.slice (some ⟨g2,0,none⟩) 1 1)] ?_
 exact ((smithyardref9_loops.l2_c (e1:=smithyardref9_loops.e1) (smithyardref9_loops.e1_c)) big) a0 _ _ a1 (List.replicate (a0.length:Int).toNat (false)) _ _ _ _ ([a1]:List Int) _ _ _ _ hra0 hca0 ho1 rfl ho2 rfl heq
noncomputable def C13:Ctx:={ P:=Tryd.prog,f:=13,N:=68,c:=bodyOf Tryd.f13 }
def S13 (F:List Ch) (H0:Hp) (r:Int) (v:Value) (H:Hp) (cs:List Ch):Prop:=H0=H∧v=iv r∧F=cs
theorem smithyardref9_CheckWorks.e3_c {w0:World} {H:Hp} {F:List Ch} {r:Int}:smithyardref9_CheckWorks.e3=some r→RunH C13 (S13 F H r) H w0 [.c [1,1,1,1,1,0],.c [1,1,1,1,1,1]] [] H (F):=by
 intro   heq
 unfold smithyardref9_CheckWorks.e3 at heq
 refine Rr<|Rd 1 [2] [(2,iv 0)] ?_
 obtain rfl:=Option.some.inj heq
 exact RunH.done (by kernel_rfl) Tryd.func13 (v:=iv 0) (by kernel_rfl) ⟨rfl,rfl,rfl⟩
theorem smithyardref9_CheckWorks.l4_c {w0:World} {H:Hp} {F:List Ch} {r:Int} (e3:Option Int)
  (he3:e3=some r→RunH C13 (S13 F H r) H w0 [.c [1,1,1,1,1,0],.c [1,1,1,1,1,1]] [] H (F)):∀ (k:Nat),∀ (a0:List Work) (Aa0:Option Addr) (ca0:Nat) (v61:Int) ,Rw kWork H F Aa0 a0→a0.length≤ca0→smithyardref9_CheckWorks.l4 e3 k a0 v61=some r→RunH C13 (S13 F H r) H w0 [.c [1,1,1,1,0,1,0,0],.l [1,1,1,1,0,1,0,0],.b 6,.c [1,1,1,1,1]] [(0,.slice Aa0 a0.length ca0),(60,iv (a0.length:Int)),(61,iv v61)] H (F):=by
 intro k
 induction k with
 | zero=>intro a0 Aa0 ca0 v61 hra0 hca0 heq; exact nomatch (show (none:Option Int)=some r from heq)
 | succ k ihk =>
  intro a0 Aa0 ca0 v61 hra0 hca0 heq
  rw [smithyardref9_CheckWorks.l4] at heq
  refine Ra 1 [1,1,1,1,0,1,0,0,0] [.c [1,1,1,1,0,1,0,0,1],.l [1,1,1,1,0,1,0,0],.b 6,.c [1,1,1,1,1]]<|Rd 1 [0,60,61,62] [(0,.slice Aa0 a0.length ca0),(60,iv (a0.length:Int)),(61,iv v61),(62,.bool (decide (v61<(a0.length:Int))))]<|Ad 1 [.c [1,1,1,1,0,1,0,0,1,0],.c [1,1,1,1,0,1,0,0,1,1],.l [1,1,1,1,0,1,0,0],.b 6,.c [1,1,1,1,1]] ?_
  rcases bool_cases (decide (v61<(a0.length:Int))) with hb2 | hb2
  ·replace heq:=bif_true hb2 heq
   refine Ct (decide (v61<(a0.length:Int))) hb2<|Ra 4 [1,1,1,1,0,1,0,0,1,1,0,0,0] [.c [1,1,1,1,0,1,0,0,1,1,0,0,1],.b 7,.c [1,1,1,1,0,1,0,0,1,1,1],.l [1,1,1,1,0,1,0,0],.b 6,.c [1,1,1,1,1]]<|Rd 2 [0,10,60,61] [(0,.slice Aa0 a0.length ca0),(10,iv v61),(60,iv (a0.length:Int)),(61,iv v61)]<|Ra 1 [1,1,1,1,0,1,0,0,1,1,0,0,1,0] [.c [1,1,1,1,0,1,0,0,1,1,0,0,1,1],.b 7,.c [1,1,1,1,0,1,0,0,1,1,1],.l [1,1,1,1,0,1,0,0],.b 6,.c [1,1,1,1,1]]<|Rk 2 [0,60,61,64,65] [(0,.slice Aa0 a0.length ca0),(60,iv (a0.length:Int)),(61,iv v61),(64,.slice Aa0 a0.length ca0),(65,iv v61)] ?_
   obtain ⟨y1,hy1,heq⟩:=bind_some heq
   refine RgH.does (DoesH.call (d:=66) (g:=31) (args:=#[.slice Aa0 a0.length ca0,iv v61]) (by kernel_rfl) (smithyardref9_loops_c (a0:=a0) (a1:=v61) hra0 hca0 rfl hy1)) ?_
   rintro _ _ _ _ ⟨_,rfl,rfl,rfl,rfl⟩
   refine Dn ?_
   rcases bool_cases (y1) with hb3 | hb3
   ·replace heq:=bif_true hb3 heq
    refine Ct y1 hb3<|Ra 1 [1,1,1,1,0,1,0,0,1,1,0,0,1,1,0,0] [.c [1,1,1,1,0,1,0,0,1,1,0,0,1,1,0,1],.b 7,.c [1,1,1,1,0,1,0,0,1,1,1],.l [1,1,1,1,0,1,0,0],.b 6,.c [1,1,1,1,1]]<|Rd 1 [2] [(2,iv 17)] ?_
    obtain rfl:=Option.some.inj heq
    exact RunH.done (by kernel_rfl) Tryd.func13 (v:=iv 17) (by kernel_rfl) ⟨rfl,rfl,rfl⟩
   ·replace heq:=bif_false hb3 heq
    refine Cf y1 hb3<|Ra 2 [1,1,1,1,0,1,0,0,1,1,1] [.l [1,1,1,1,0,1,0,0],.b 6,.c [1,1,1,1,1]]<|Rd 2 [0,60,61] [(0,.slice Aa0 a0.length ca0),(60,iv (a0.length:Int)),(61,iv (w64 (v61+1)))]<|Ad 1 [.c [1,1,1,1,0,1,0,0],.l [1,1,1,1,0,1,0,0],.b 6,.c [1,1,1,1,1]]<|Kp [0,60,61] [(0,.slice Aa0 a0.length ca0),(60,iv (a0.length:Int)),(61,iv (w64 (v61+1)))] ?_
    exact ihk a0 _ _ (w64 (v61+1)) hra0 hca0 heq
  ·replace heq:=bif_false hb2 heq
   refine Cf (decide (v61<(a0.length:Int))) hb2<|Ad 2 [.c [1,1,1,1,1,0],.c [1,1,1,1,1,1]]<|Kp [] [] ?_
   exact he3 heq
theorem smithyardref9_CheckWorks.e2_c {w0:World} {H:Hp} {F:List Ch} {r:Int}:∀ (a0:List Work) (Aa0:Option Addr) (ca0:Nat) ,Rw kWork H F Aa0 a0→a0.length≤ca0→smithyardref9_CheckWorks.e2 a0=some r→RunH C13 (S13 F H r) H w0 [.c [1,1,1,1,0,0],.c [1,1,1,1,0,1],.c [1,1,1,1,1]] [(0,.slice Aa0 a0.length ca0)] H (F):=by
 intro a0 Aa0 ca0 hra0 hca0 heq
 unfold smithyardref9_CheckWorks.e2 at heq
 refine Rr<|Rd 3 [0,60,61] [(0,.slice Aa0 a0.length ca0),(60,iv (a0.length:Int)),(61,iv 0)]<|Ad 2 [.c [1,1,1,1,0,1,0,0],.l [1,1,1,1,0,1,0,0],.b 6,.c [1,1,1,1,1]]<|Kp [0,60,61] [(0,.slice Aa0 a0.length ca0),(60,iv (a0.length:Int)),(61,iv 0)] ?_
 exact ((smithyardref9_CheckWorks.l4_c (e3:=smithyardref9_CheckWorks.e3) (smithyardref9_CheckWorks.e3_c)) big) a0 _ _ 0 hra0 hca0 heq
theorem smithyardref9_CheckWorks.e6_c {w0:World} {H:Hp} {F:List Ch} {r:Int} (backl5:(List Work)→Int→Option Int)
  (hbackl5:∀ (a0:List Work) (Aa0:Option Addr) (ca0:Nat) (v42:Int) ,Rw kWork H F Aa0 a0→a0.length≤ca0→backl5 a0 v42=some r→RunH C13 (S13 F H r) H w0 [.c [1,1,1,0,1,0,0],.l [1,1,1,0,1,0,0],.b 2,.c [1,1,1,1]] [(0,.slice Aa0 a0.length ca0),(40,.slice Aa0 a0.length ca0),(41,iv (a0.length:Int)),(42,iv v42)] H (F)):∀ (a0:List Work) (Aa0:Option Addr) (ca0:Nat) (v42:Int) ,Rw kWork H F Aa0 a0→a0.length≤ca0→smithyardref9_CheckWorks.e6 backl5 a0 v42=some r→RunH C13 (S13 F H r) H w0 [.c [1,1,1,0,1,0,0,1,1,1],.l [1,1,1,0,1,0,0],.b 2,.c [1,1,1,1]] [(0,.slice Aa0 a0.length ca0),(40,.slice Aa0 a0.length ca0),(41,iv (a0.length:Int)),(42,iv v42)] H (F):=by
 intro a0 Aa0 ca0 v42 hra0 hca0 heq
 unfold smithyardref9_CheckWorks.e6 at heq
 refine Rr<|Rd 2 [0,40,41,42] [(0,.slice Aa0 a0.length ca0),(40,.slice Aa0 a0.length ca0),(41,iv (a0.length:Int)),(42,iv (w64 (v42+1)))]<|Ad 1 [.c [1,1,1,0,1,0,0],.l [1,1,1,0,1,0,0],.b 2,.c [1,1,1,1]]<|Kp [0,40,41,42] [(0,.slice Aa0 a0.length ca0),(40,.slice Aa0 a0.length ca0),(41,iv (a0.length:Int)),(42,iv (w64 (v42+1)))] ?_
 exact hbackl5 a0 _ _ (w64 (v42+1)) hra0 hca0 heq
theorem smithyardref9_CheckWorks.l7_c {w0:World} {H:Hp} {F:List Ch} {r:Int} (e6:(List Work)→Int→Option Int)
  (he6:∀ (a0:List Work) (Aa0:Option Addr) (ca0:Nat) (v42:Int) ,Rw kWork H F Aa0 a0→a0.length≤ca0→e6 a0 v42=some r→RunH C13 (S13 F H r) H w0 [.c [1,1,1,0,1,0,0,1,1,1],.l [1,1,1,0,1,0,0],.b 2,.c [1,1,1,1]] [(0,.slice Aa0 a0.length ca0),(40,.slice Aa0 a0.length ca0),(41,iv (a0.length:Int)),(42,iv v42)] H (F)):∀ (k:Nat),∀ (a0:List Work) (Aa0:Option Addr) (ca0:Nat) (v42:Int) (x1:Work) (A2:Option Addr) (c2:Nat) (v49:Int) ,Rw kWork H F Aa0 a0→a0.length≤ca0→Kd.Row Kd.string H A2 x1.After→x1.After.length≤c2→smithyardref9_CheckWorks.l7 e6 k a0 v42 x1 v49=some r→RunH C13 (S13 F H r) H w0 [.c [1,1,1,0,1,0,0,1,1,0,0,1,1,0,0],.l [1,1,1,0,1,0,0,1,1,0,0,1,1,0,0],.b 4,.b 3,.c [1,1,1,0,1,0,0,1,1,1],.l [1,1,1,0,1,0,0],.b 2,.c [1,1,1,1]] [(0,.slice Aa0 a0.length ca0),(40,.slice Aa0 a0.length ca0),(41,iv (a0.length:Int)),(42,iv v42),(47,.slice A2 x1.After.length c2),(48,iv (x1.After.length:Int)),(49,iv v49)] H (F):=by
 intro k
 induction k with
 | zero=>intro a0 Aa0 ca0 v42 x1 A2 c2 v49 hra0 hca0 hr2 hc2 heq; exact nomatch (show (none:Option Int)=some r from heq)
 | succ k ihk =>
  intro a0 Aa0 ca0 v42 x1 A2 c2 v49 hra0 hca0 hr2 hc2 heq
  rw [smithyardref9_CheckWorks.l7] at heq
  refine Ra 1 [1,1,1,0,1,0,0,1,1,0,0,1,1,0,0,0] [.c [1,1,1,0,1,0,0,1,1,0,0,1,1,0,0,1],.l [1,1,1,0,1,0,0,1,1,0,0,1,1,0,0],.b 4,.b 3,.c [1,1,1,0,1,0,0,1,1,1],.l [1,1,1,0,1,0,0],.b 2,.c [1,1,1,1]]<|Rd 1 [0,40,41,42,47,48,49,50] [(0,.slice Aa0 a0.length ca0),(40,.slice Aa0 a0.length ca0),(41,iv (a0.length:Int)),(42,iv v42),(47,.slice A2 x1.After.length c2),(48,iv (x1.After.length:Int)),(49,iv v49),(50,.bool (decide (v49<(x1.After.length:Int))))]<|Ad 1 [.c [1,1,1,0,1,0,0,1,1,0,0,1,1,0,0,1,0],.c [1,1,1,0,1,0,0,1,1,0,0,1,1,0,0,1,1],.l [1,1,1,0,1,0,0,1,1,0,0,1,1,0,0],.b 4,.b 3,.c [1,1,1,0,1,0,0,1,1,1],.l [1,1,1,0,1,0,0],.b 2,.c [1,1,1,1]] ?_
  rcases bool_cases (decide (v49<(x1.After.length:Int))) with hb5 | hb5
  ·replace heq:=bif_true hb5 heq
   refine Ct (decide (v49<(x1.After.length:Int))) hb5<|Ra 4 [1,1,1,0,1,0,0,1,1,0,0,1,1,0,0,1,1,0,0,0] [.c [1,1,1,0,1,0,0,1,1,0,0,1,1,0,0,1,1,0,0,1],.b 5,.c [1,1,1,0,1,0,0,1,1,0,0,1,1,0,0,1,1,1],.l [1,1,1,0,1,0,0,1,1,0,0,1,1,0,0],.b 4,.b 3,.c [1,1,1,0,1,0,0,1,1,1],.l [1,1,1,0,1,0,0],.b 2,.c [1,1,1,1]] ?_
   obtain ⟨x2,hx2,heq⟩:=bind_some heq
   obtain ⟨ha2,cs2,hK2,hcc2⟩:=(Rw.of (F:=F) hr2).get hx2
   obtain rfl:cs2=[.string x2]:=hK2
   refine Rw' 3 [0,9,40,41,42,47,48,49] [.string x2] [.need (A2=some (adr A2)∧(0:Int)≤v49∧v49<((x1.After.length:Nat):Int)),.load ((adr A2).add (v49.toNat*1)) (.string x2)] [(0,.slice Aa0 a0.length ca0),(9,.string x2),(40,.slice Aa0 a0.length ca0),(41,iv (a0.length:Int)),(42,iv v42),(47,.slice A2 x1.After.length c2),(48,iv (x1.After.length:Int)),(49,iv v49)] (fun w hh=>⟨⟨ha2,(at?_some hx2).1,(at?_some hx2).2.1⟩,(hcc2 _ _ (hh.drop 0) 0 _ rfl)⟩)<|Ra 1 [1,1,1,0,1,0,0,1,1,0,0,1,1,0,0,1,1,0,0,1,0] [.c [1,1,1,0,1,0,0,1,1,0,0,1,1,0,0,1,1,0,0,1,1],.b 5,.c [1,1,1,0,1,0,0,1,1,0,0,1,1,0,0,1,1,1],.l [1,1,1,0,1,0,0,1,1,0,0,1,1,0,0],.b 4,.b 3,.c [1,1,1,0,1,0,0,1,1,1],.l [1,1,1,0,1,0,0],.b 2,.c [1,1,1,1]]<|Rk 2 [0,40,41,42,47,48,49,53,54] [(0,.slice Aa0 a0.length ca0),(40,.slice Aa0 a0.length ca0),(41,iv (a0.length:Int)),(42,iv v42),(47,.slice A2 x1.After.length c2),(48,iv (x1.After.length:Int)),(49,iv v49),(53,.slice Aa0 a0.length ca0),(54,.string x2)] ?_
   obtain ⟨y2,hy2,heq⟩:=bind_some heq
   refine RgH.does (DoesH.call (d:=55) (g:=30) (args:=#[.slice Aa0 a0.length ca0,.string x2]) (by kernel_rfl) (smithyardref9_workOf_c (a0:=a0) (a1:=x2) hra0 hca0 rfl hy2)) ?_
   rintro _ _ _ _ ⟨_,rfl,rfl,rfl,rfl⟩
   refine Rd 4 [0,40,41,42,47,48,49,56] [(0,.slice Aa0 a0.length ca0),(40,.slice Aa0 a0.length ca0),(41,iv (a0.length:Int)),(42,iv v42),(47,.slice A2 x1.After.length c2),(48,iv (x1.After.length:Int)),(49,iv v49),(56,.bool (decide (y2<0)))] ?_
   rcases bool_cases (decide (y2<0)) with hb6 | hb6
   ·replace heq:=bif_true hb6 heq
    refine Ct (decide (y2<0)) hb6<|Ra 1 [1,1,1,0,1,0,0,1,1,0,0,1,1,0,0,1,1,0,0,1,1,0,0] [.c [1,1,1,0,1,0,0,1,1,0,0,1,1,0,0,1,1,0,0,1,1,0,1],.b 5,.c [1,1,1,0,1,0,0,1,1,0,0,1,1,0,0,1,1,1],.l [1,1,1,0,1,0,0,1,1,0,0,1,1,0,0],.b 4,.b 3,.c [1,1,1,0,1,0,0,1,1,1],.l [1,1,1,0,1,0,0],.b 2,.c [1,1,1,1]]<|Rd 1 [2] [(2,iv 9)] ?_
    obtain rfl:=Option.some.inj heq
    exact RunH.done (by kernel_rfl) Tryd.func13 (v:=iv 9) (by kernel_rfl) ⟨rfl,rfl,rfl⟩
   ·replace heq:=bif_false hb6 heq
    refine Cf (decide (y2<0)) hb6<|Ra 2 [1,1,1,0,1,0,0,1,1,0,0,1,1,0,0,1,1,1] [.l [1,1,1,0,1,0,0,1,1,0,0,1,1,0,0],.b 4,.b 3,.c [1,1,1,0,1,0,0,1,1,1],.l [1,1,1,0,1,0,0],.b 2,.c [1,1,1,1]]<|Rd 2 [0,40,41,42,47,48,49] [(0,.slice Aa0 a0.length ca0),(40,.slice Aa0 a0.length ca0),(41,iv (a0.length:Int)),(42,iv v42),(47,.slice A2 x1.After.length c2),(48,iv (x1.After.length:Int)),(49,iv (w64 (v49+1)))]<|Ad 1 [.c [1,1,1,0,1,0,0,1,1,0,0,1,1,0,0],.l [1,1,1,0,1,0,0,1,1,0,0,1,1,0,0],.b 4,.b 3,.c [1,1,1,0,1,0,0,1,1,1],.l [1,1,1,0,1,0,0],.b 2,.c [1,1,1,1]]<|Kp [0,40,41,42,47,48,49] [(0,.slice Aa0 a0.length ca0),(40,.slice Aa0 a0.length ca0),(41,iv (a0.length:Int)),(42,iv v42),(47,.slice A2 x1.After.length c2),(48,iv (x1.After.length:Int)),(49,iv (w64 (v49+1)))] ?_
    exact ihk a0 _ _ v42 x1 _ _ (w64 (v49+1)) hra0 hca0 hr2 hc2 heq
  ·replace heq:=bif_false hb5 heq
   refine Cf (decide (v49<(x1.After.length:Int))) hb5<|Ad 2 [.c [1,1,1,0,1,0,0,1,1,1],.l [1,1,1,0,1,0,0],.b 2,.c [1,1,1,1]]<|Kp [0,40,41,42] [(0,.slice Aa0 a0.length ca0),(40,.slice Aa0 a0.length ca0),(41,iv (a0.length:Int)),(42,iv v42)] ?_
   exact he6 a0 _ _ v42 hra0 hca0 heq
theorem smithyardref9_CheckWorks.l5_c {w0:World} {H:Hp} {F:List Ch} {r:Int} (e2:(List Work)→Option Int)
  (he2:∀ (a0:List Work) (Aa0:Option Addr) (ca0:Nat) ,Rw kWork H F Aa0 a0→a0.length≤ca0→e2 a0=some r→RunH C13 (S13 F H r) H w0 [.c [1,1,1,1,0,0],.c [1,1,1,1,0,1],.c [1,1,1,1,1]] [(0,.slice Aa0 a0.length ca0)] H (F)):∀ (k:Nat),∀ (a0:List Work) (Aa0:Option Addr) (ca0:Nat) (v42:Int) ,Rw kWork H F Aa0 a0→a0.length≤ca0→smithyardref9_CheckWorks.l5 e2 k a0 v42=some r→RunH C13 (S13 F H r) H w0 [.c [1,1,1,0,1,0,0],.l [1,1,1,0,1,0,0],.b 2,.c [1,1,1,1]] [(0,.slice Aa0 a0.length ca0),(40,.slice Aa0 a0.length ca0),(41,iv (a0.length:Int)),(42,iv v42)] H (F):=by
 intro k
 induction k with
 | zero=>intro a0 Aa0 ca0 v42 hra0 hca0 heq; exact nomatch (show (none:Option Int)=some r from heq)
 | succ k ihk =>
  intro a0 Aa0 ca0 v42 hra0 hca0 heq
  rw [smithyardref9_CheckWorks.l5] at heq
  refine Ra 1 [1,1,1,0,1,0,0,0] [.c [1,1,1,0,1,0,0,1],.l [1,1,1,0,1,0,0],.b 2,.c [1,1,1,1]]<|Rd 1 [0,40,41,42,43] [(0,.slice Aa0 a0.length ca0),(40,.slice Aa0 a0.length ca0),(41,iv (a0.length:Int)),(42,iv v42),(43,.bool (decide (v42<(a0.length:Int))))]<|Ad 1 [.c [1,1,1,0,1,0,0,1,0],.c [1,1,1,0,1,0,0,1,1],.l [1,1,1,0,1,0,0],.b 2,.c [1,1,1,1]] ?_
  rcases bool_cases (decide (v42<(a0.length:Int))) with hb4 | hb4
  ·replace heq:=bif_true hb4 heq
   refine Ct (decide (v42<(a0.length:Int))) hb4<|Ra 4 [1,1,1,0,1,0,0,1,1,0,0,0] [.c [1,1,1,0,1,0,0,1,1,0,0,1],.b 3,.c [1,1,1,0,1,0,0,1,1,1],.l [1,1,1,0,1,0,0],.b 2,.c [1,1,1,1]] ?_
   obtain ⟨x1,hx1,heq⟩:=bind_some heq
   obtain ⟨ha1,cs1,hK1,hcc1⟩:=hra0.get hx1
   obtain ⟨A1,c1,A2,c2,rfl,hc1,hr1,hc2,hr2⟩:=kWork_open hK1
   refine Rv 2 [0,40,41,42,45] [.string x1.Id,.slice A1 x1.Needs.length c1,iv x1.Size,.slice A2 x1.After.length c2] [.need (Aa0=some (adr Aa0)∧(0:Int)≤v42∧v42<((a0.length:Nat):Int)),.load (((adr Aa0).add (v42.toNat*4)).add 0) (.string x1.Id),.load (((adr Aa0).add (v42.toNat*4)).add 1) (.slice A1 x1.Needs.length c1),.load (((adr Aa0).add (v42.toNat*4)).add 2) (iv x1.Size),.load (((adr Aa0).add (v42.toNat*4)).add 3) (.slice A2 x1.After.length c2)] [(0,.slice Aa0 a0.length ca0),(40,.slice Aa0 a0.length ca0),(41,iv (a0.length:Int)),(42,iv v42),(45,.agg #[.string x1.Id,.slice A1 x1.Needs.length c1,iv x1.Size,.slice A2 x1.After.length c2])] (fun w hh=>⟨⟨ha1,(at?_some hx1).1,(at?_some hx1).2.1⟩,(hcc1 _ _ (hh.drop 0) 0 _ rfl),(hcc1 _ _ (hh.drop 0) 1 _ rfl),(hcc1 _ _ (hh.drop 0) 2 _ rfl),(hcc1 _ _ (hh.drop 0) 3 _ rfl)⟩) ?_
   refine RgH.does (DoesH.new (d:=7) (v:=fun g=>.pointer (some ⟨g,0,none⟩)) (o:=fun g=>.cells #[.string ByteArray.empty,.slice none 0 0,iv 0,.slice none 0 0] 30 (0,0)) (fun g=>by kernel_rfl)) ?_
   rintro _ _ _ _ ⟨g1,rfl,rfl,rfl⟩
   refine RgH.does (DoesH.store (k:=0) (g:=g1) (off:=0) (v:=.agg #[.string x1.Id,.slice A1 x1.Needs.length c1,iv x1.Size,.slice A2 x1.After.length c2]) (cells':=#[.string x1.Id,.slice A1 x1.Needs.length c1,iv x1.Size,.slice A2 x1.After.length c2]) (by kernel_rfl) rfl (by kernel_rfl) (by kernel_rfl)) ?_
   rintro _ _ _ _ ⟨rfl,rfl,rfl⟩
   refine Dn<|Ra 1 [1,1,1,0,1,0,0,1,1,0,0,1,0] [.c [1,1,1,0,1,0,0,1,1,0,0,1,1],.b 3,.c [1,1,1,0,1,0,0,1,1,1],.l [1,1,1,0,1,0,0],.b 2,.c [1,1,1,1]]<|Rw' 4 [0,40,41,42,47,48,49] [.slice A2 x1.After.length c2] [.load ⟨g1,3,none⟩ (.slice A2 x1.After.length c2)] [(0,.slice Aa0 a0.length ca0),(40,.slice Aa0 a0.length ca0),(41,iv (a0.length:Int)),(42,iv v42),(47,.slice A2 x1.After.length c2),(48,iv (x1.After.length:Int)),(49,iv 0)] (fun w hh=>(hh.box 0 rfl rfl))<|Ad 2 [.c [1,1,1,0,1,0,0,1,1,0,0,1,1,0,0],.l [1,1,1,0,1,0,0,1,1,0,0,1,1,0,0],.b 4,.b 3,.c [1,1,1,0,1,0,0,1,1,1],.l [1,1,1,0,1,0,0],.b 2,.c [1,1,1,1]]<|Kp [0,40,41,42,47,48,49] [(0,.slice Aa0 a0.length ca0),(40,.slice Aa0 a0.length ca0),(41,iv (a0.length:Int)),(42,iv v42),(47,.slice A2 x1.After.length c2),(48,iv (x1.After.length:Int)),(49,iv 0)] ?_
   refine RunH.pick 1 [] (cs':=F) (by kernel_rfl) rfl ?_
   exact ((smithyardref9_CheckWorks.l7_c (e6:=smithyardref9_CheckWorks.e6 ((smithyardref9_CheckWorks.l5 e2 k))) (smithyardref9_CheckWorks.e6_c (backl5:=(smithyardref9_CheckWorks.l5 e2 k)) ihk)) big) a0 _ _ v42 x1 _ _ 0 hra0 hca0 hr2 hc2 heq
  ·replace heq:=bif_false hb4 heq
   refine Cf (decide (v42<(a0.length:Int))) hb4<|Ad 3 [.c [1,1,1,1,0,0],.c [1,1,1,1,0,1],.c [1,1,1,1,1]]<|Kp [0] [(0,.slice Aa0 a0.length ca0)] ?_
   exact he2 a0 _ _ hra0 hca0 heq
theorem smithyardref9_CheckWorks.e1_c {w0:World} {H:Hp} {F:List Ch} {r:Int}:∀ (a0:List Work) (Aa0:Option Addr) (ca0:Nat) ,Rw kWork H F Aa0 a0→a0.length≤ca0→smithyardref9_CheckWorks.e1 a0=some r→RunH C13 (S13 F H r) H w0 [.c [1,1,1,0,0],.c [1,1,1,0,1],.c [1,1,1,1]] [(0,.slice Aa0 a0.length ca0)] H (F):=by
 intro a0 Aa0 ca0 hra0 hca0 heq
 unfold smithyardref9_CheckWorks.e1 at heq
 refine Rr<|Rd 3 [0,40,41,42] [(0,.slice Aa0 a0.length ca0),(40,.slice Aa0 a0.length ca0),(41,iv (a0.length:Int)),(42,iv 0)]<|Ad 2 [.c [1,1,1,0,1,0,0],.l [1,1,1,0,1,0,0],.b 2,.c [1,1,1,1]]<|Kp [0,40,41,42] [(0,.slice Aa0 a0.length ca0),(40,.slice Aa0 a0.length ca0),(41,iv (a0.length:Int)),(42,iv 0)] ?_
 exact ((smithyardref9_CheckWorks.l5_c (e2:=smithyardref9_CheckWorks.e2) (smithyardref9_CheckWorks.e2_c)) big) a0 _ _ 0 hra0 hca0 heq
theorem smithyardref9_CheckWorks.l8_c {w0:World} {H:Hp} {F:List Ch} {r:Int} (e1:(List Work)→Option Int)
  (he1:∀ (a0:List Work) (Aa0:Option Addr) (ca0:Nat) ,Rw kWork H F Aa0 a0→a0.length≤ca0→e1 a0=some r→RunH C13 (S13 F H r) H w0 [.c [1,1,1,0,0],.c [1,1,1,0,1],.c [1,1,1,1]] [(0,.slice Aa0 a0.length ca0)] H (F)):∀ (k:Nat),∀ (a0:List Work) (Aa0:Option Addr) (ca0:Nat) (v16:Int) ,Rw kWork H F Aa0 a0→a0.length≤ca0→smithyardref9_CheckWorks.l8 e1 k a0 v16=some r→RunH C13 (S13 F H r) H w0 [.c [1,1,0,1,0,0],.l [1,1,0,1,0,0],.b 0,.c [1,1,1]] [(0,.slice Aa0 a0.length ca0),(14,.slice Aa0 a0.length ca0),(15,iv (a0.length:Int)),(16,iv v16)] H (F):=by
 intro k
 induction k with
 | zero=>intro a0 Aa0 ca0 v16 hra0 hca0 heq; exact nomatch (show (none:Option Int)=some r from heq)
 | succ k ihk =>
  intro a0 Aa0 ca0 v16 hra0 hca0 heq
  rw [smithyardref9_CheckWorks.l8] at heq
  refine Ra 1 [1,1,0,1,0,0,0] [.c [1,1,0,1,0,0,1],.l [1,1,0,1,0,0],.b 0,.c [1,1,1]]<|Rd 1 [0,14,15,16,17] [(0,.slice Aa0 a0.length ca0),(14,.slice Aa0 a0.length ca0),(15,iv (a0.length:Int)),(16,iv v16),(17,.bool (decide (v16<(a0.length:Int))))]<|Ad 1 [.c [1,1,0,1,0,0,1,0],.c [1,1,0,1,0,0,1,1],.l [1,1,0,1,0,0],.b 0,.c [1,1,1]] ?_
  rcases bool_cases (decide (v16<(a0.length:Int))) with hb7 | hb7
  ·replace heq:=bif_true hb7 heq
   refine Ct (decide (v16<(a0.length:Int))) hb7<|Ra 4 [1,1,0,1,0,0,1,1,0,0,0] [.c [1,1,0,1,0,0,1,1,0,0,1],.b 1,.c [1,1,0,1,0,0,1,1,1],.l [1,1,0,1,0,0],.b 0,.c [1,1,1]] ?_
   obtain ⟨x3,hx3,heq⟩:=bind_some heq
   obtain ⟨ha3,cs3,hK3,hcc3⟩:=hra0.get hx3
   obtain ⟨A3,c3,A4,c4,rfl,hc3,hr3,hc4,hr4⟩:=kWork_open hK3
   refine Rv 3 [0,14,15,16,18,20] [.string x3.Id,.slice A3 x3.Needs.length c3,iv x3.Size,.slice A4 x3.After.length c4] [.need (Aa0=some (adr Aa0)∧(0:Int)≤v16∧v16<((a0.length:Nat):Int)),.load (((adr Aa0).add (v16.toNat*4)).add 0) (.string x3.Id),.load (((adr Aa0).add (v16.toNat*4)).add 1) (.slice A3 x3.Needs.length c3),.load (((adr Aa0).add (v16.toNat*4)).add 2) (iv x3.Size),.load (((adr Aa0).add (v16.toNat*4)).add 3) (.slice A4 x3.After.length c4)] [(0,.slice Aa0 a0.length ca0),(14,.slice Aa0 a0.length ca0),(15,iv (a0.length:Int)),(16,iv v16),(18,iv v16),(20,.agg #[.string x3.Id,.slice A3 x3.Needs.length c3,iv x3.Size,.slice A4 x3.After.length c4])] (fun w hh=>⟨⟨ha3,(at?_some hx3).1,(at?_some hx3).2.1⟩,(hcc3 _ _ (hh.drop 0) 0 _ rfl),(hcc3 _ _ (hh.drop 0) 1 _ rfl),(hcc3 _ _ (hh.drop 0) 2 _ rfl),(hcc3 _ _ (hh.drop 0) 3 _ rfl)⟩) ?_
   refine RgH.does (DoesH.new (d:=4) (v:=fun g=>.pointer (some ⟨g,0,none⟩)) (o:=fun g=>.cells #[.string ByteArray.empty,.slice none 0 0,iv 0,.slice none 0 0] 30 (0,0)) (fun g=>by kernel_rfl)) ?_
   rintro _ _ _ _ ⟨g2,rfl,rfl,rfl⟩
   refine Rk 5 [0,3,4,14,15,16,20] [(0,.slice Aa0 a0.length ca0),(3,iv v16),(4,pg g2 0),(14,.slice Aa0 a0.length ca0),(15,iv (a0.length:Int)),(16,iv v16),(20,.agg #[.string x3.Id,.slice A3 x3.Needs.length c3,iv x3.Size,.slice A4 x3.After.length c4])] ?_
   refine RgH.does (DoesH.store (k:=0) (g:=g2) (off:=0) (v:=.agg #[.string x3.Id,.slice A3 x3.Needs.length c3,iv x3.Size,.slice A4 x3.After.length c4]) (cells':=#[.string x3.Id,.slice A3 x3.Needs.length c3,iv x3.Size,.slice A4 x3.After.length c4]) (by kernel_rfl) rfl (by kernel_rfl) (by kernel_rfl)) ?_
   rintro _ _ _ _ ⟨rfl,rfl,rfl⟩
   refine Dn<|Ra 2 [1,1,0,1,0,0,1,1,0,0,1,0,0] [.c [1,1,0,1,0,0,1,1,0,0,1,0,1],.c [1,1,0,1,0,0,1,1,0,0,1,1],.b 1,.c [1,1,0,1,0,0,1,1,1],.l [1,1,0,1,0,0],.b 0,.c [1,1,1]]<|Rv 1 [0,3,4,14,15,16,21] [.string x3.Id,.slice A3 x3.Needs.length c3,iv x3.Size,.slice A4 x3.After.length c4] [.load ⟨g2,0,none⟩ (.string x3.Id),.load ⟨g2,1,none⟩ (.slice A3 x3.Needs.length c3),.load ⟨g2,2,none⟩ (iv x3.Size),.load ⟨g2,3,none⟩ (.slice A4 x3.After.length c4)] [(0,.slice Aa0 a0.length ca0),(3,iv v16),(4,pg g2 0),(14,.slice Aa0 a0.length ca0),(15,iv (a0.length:Int)),(16,iv v16),(21,.agg #[.string x3.Id,.slice A3 x3.Needs.length c3,iv x3.Size,.slice A4 x3.After.length c4])] (fun w hh=>⟨(hh.box 0 rfl rfl),(hh.box 0 rfl rfl),(hh.box 0 rfl rfl),(hh.box 0 rfl rfl)⟩) ?_
   obtain ⟨y3,hy3,heq⟩:=bind_some heq
   refine RgH.does (DoesH.call (d:=22) (g:=26) (args:=#[.agg #[.string x3.Id,.slice A3 x3.Needs.length c3,iv x3.Size,.slice A4 x3.After.length c4]]) (by kernel_rfl) (smithyardref9_checkWork_c (a0:=x3) (Rw.of hr3) hc3 rfl (Rw.of hr4) hc4 rfl hy3)) ?_
   rintro _ _ _ _ ⟨_,rfl,rfl,rfl,rfl⟩
   refine Rd 3 [0,3,4,5,14,15,16] [(0,.slice Aa0 a0.length ca0),(3,iv v16),(4,pg g2 0),(5,iv y3),(14,.slice Aa0 a0.length ca0),(15,iv (a0.length:Int)),(16,iv v16)]<|Ra 1 [1,1,0,1,0,0,1,1,0,0,1,0,1,0] [.c [1,1,0,1,0,0,1,1,0,0,1,0,1,1],.c [1,1,0,1,0,0,1,1,0,0,1,1],.b 1,.c [1,1,0,1,0,0,1,1,1],.l [1,1,0,1,0,0],.b 0,.c [1,1,1]]<|Rd 2 [0,3,4,5,14,15,16,24] [(0,.slice Aa0 a0.length ca0),(3,iv v16),(4,pg g2 0),(5,iv y3),(14,.slice Aa0 a0.length ca0),(15,iv (a0.length:Int)),(16,iv v16),(24,.bool (y3 != 0))] ?_
   rcases bool_cases (y3 != 0) with hb8 | hb8
   ·replace heq:=bif_true hb8 heq
    refine Ct (y3 != 0) hb8<|Ra 1 [1,1,0,1,0,0,1,1,0,0,1,0,1,1,0,0] [.c [1,1,0,1,0,0,1,1,0,0,1,0,1,1,0,1],.c [1,1,0,1,0,0,1,1,0,0,1,1],.b 1,.c [1,1,0,1,0,0,1,1,1],.l [1,1,0,1,0,0],.b 0,.c [1,1,1]]<|Rd 2 [2] [(2,iv y3)] ?_
    obtain rfl:=Option.some.inj heq
    refine RunH.pick 1 [] (cs':=F) (by kernel_rfl) rfl ?_
    exact RunH.done (by kernel_rfl) Tryd.func13 (v:=iv y3) (by kernel_rfl) ⟨rfl,rfl,rfl⟩
   ·replace heq:=bif_false hb8 heq
    refine Cf (y3 != 0) hb8<|Ad 2 [.c [1,1,0,1,0,0,1,1,0,0,1,1,0],.c [1,1,0,1,0,0,1,1,0,0,1,1,1],.b 1,.c [1,1,0,1,0,0,1,1,1],.l [1,1,0,1,0,0],.b 0,.c [1,1,1]] ?_
    obtain ⟨t1,ht1,heq⟩:=bind_some heq
    have K3:RunH C13 (S13 F H r) H w0 [.c [1,1,0,1,0,0,1,1,0,0,1,1,1],.b 1,.c [1,1,0,1,0,0,1,1,1],.l [1,1,0,1,0,0],.b 0,.c [1,1,1]] [(0,.slice Aa0 a0.length ca0),(14,.slice Aa0 a0.length ca0),(15,iv (a0.length:Int)),(16,iv v16),(38,.bool t1)] H (F):=by
     rcases bool_cases (t1) with hb10 | hb10
     ·replace heq:=bif_true hb10 heq
      refine Ct t1 hb10<|Ra 1 [1,1,0,1,0,0,1,1,0,0,1,1,1,0,0] [.c [1,1,0,1,0,0,1,1,0,0,1,1,1,0,1],.b 1,.c [1,1,0,1,0,0,1,1,1],.l [1,1,0,1,0,0],.b 0,.c [1,1,1]]<|Rd 1 [2] [(2,iv 8)] ?_
      obtain rfl:=Option.some.inj heq
      exact RunH.done (by kernel_rfl) Tryd.func13 (v:=iv 8) (by kernel_rfl) ⟨rfl,rfl,rfl⟩
     ·replace heq:=bif_false hb10 heq
      refine Cf t1 hb10<|Ra 2 [1,1,0,1,0,0,1,1,1] [.l [1,1,0,1,0,0],.b 0,.c [1,1,1]]<|Rd 2 [0,14,15,16] [(0,.slice Aa0 a0.length ca0),(14,.slice Aa0 a0.length ca0),(15,iv (a0.length:Int)),(16,iv (w64 (v16+1)))]<|Ad 1 [.c [1,1,0,1,0,0],.l [1,1,0,1,0,0],.b 0,.c [1,1,1]]<|Kp [0,14,15,16] [(0,.slice Aa0 a0.length ca0),(14,.slice Aa0 a0.length ca0),(15,iv (a0.length:Int)),(16,iv (w64 (v16+1)))] ?_
      exact ihk a0 _ _ (w64 (v16+1)) hra0 hca0 heq
    replace heq:=ht1
    refine Kp [0,3,4,14,15,16] [(0,.slice Aa0 a0.length ca0),(3,iv v16),(4,pg g2 0),(14,.slice Aa0 a0.length ca0),(15,iv (a0.length:Int)),(16,iv v16)] ?_
    refine RunH.draw (fun w=>Heap H w0 w ((some (g2,.cells #[.string x3.Id,.slice A3 x3.Needs.length c3,iv x3.Size,.slice A4 x3.After.length c4] 30 (0,0)))::F)) (fun w=>Heap H w0 w ((some (g2,.cells #[.string x3.Id,.slice A3 x3.Needs.length c3,iv x3.Size,.slice A4 x3.After.length c4] 30 (0,0)))::F)) [3,3,3,3,3,3,3,3,3,3,3,3,3] (n:=13) (ls:=[false,false,false,false,false,false,false,false,false,false,false,false,false]) (by kernel_rfl) (by kernel_rfl) (by kernel_rfl) rfl ?_
    refine Dk [0,1,2] 10 (nb 13 7) [] [] [28,0,3,4,14,15,16] [(28,.bool (decide (0<v16))),(0,.slice Aa0 a0.length ca0),(3,iv v16),(4,pg g2 0),(14,.slice Aa0 a0.length ca0),(15,iv (a0.length:Int)),(16,iv v16)] (Pk 1 [0]) (Pk 1 [0]) (fun _ _=>trivial) ?_
    rcases bool_cases (decide (0<v16)) with hb9 | hb9
    ·replace heq:=bif_true hb9 heq
     refine DrH.val1 (v':=.bool true) (congrArg Value.bool hb9) ?_
     obtain ⟨x4,hx4,heq⟩:=bind_some heq
     obtain ⟨ha4,cs4,hK4,hcc4⟩:=hra0.get hx4
     obtain ⟨A5,c5,A6,c6,rfl,hc5,hr5,hc6,hr6⟩:=kWork_open hK4
     refine Dk [3,4,5,6,7,8,9,10,11,12] 0 (nb 13 8191) [.string x3.Id,.string x4.Id] [.load ⟨g2,0,none⟩ (.string x3.Id),.need (Aa0=some (adr Aa0)∧(0:Int)≤(w64 (v16 - 1))∧(w64 (v16 - 1))<((a0.length:Nat):Int)),.load (((adr Aa0).add ((w64 (v16 - 1)).toNat*4)).add 0) (.string x4.Id)] [0,14,15,16,38] [(0,.slice Aa0 a0.length ca0),(14,.slice Aa0 a0.length ca0),(15,iv (a0.length:Int)),(16,iv v16),(38,.bool (sLt x3.Id x4.Id||sEq x3.Id x4.Id))] (Pk 1 [0]) (Pk 1 [0]) (fun w hh=>⟨(hh.box 0 rfl rfl),⟨ha4,(at?_some hx4).1,(at?_some hx4).2.1⟩,(hcc4 _ _ (hh.drop 1) 0 _ rfl)⟩) ?_
     obtain rfl:=Option.some.inj heq
     refine Kr [0,14,15,16,38] [(0,.slice Aa0 a0.length ca0),(14,.slice Aa0 a0.length ca0),(15,iv (a0.length:Int)),(16,iv v16),(38,.bool (sLt x3.Id x4.Id||sEq x3.Id x4.Id))] ?_
     refine DrH.pick 1 [] (cs':=F) (by kernel_rfl) rfl ?_
     refine DrH.done (by kernel_rfl) ?_
     exact K3
    ·replace heq:=bif_false hb9 heq
     refine DrH.val1 (v':=.bool false) (congrArg Value.bool hb9) ?_
     refine Dk [3,4,5,6,7,8,9,10,11,12] 0 (nb 13 8191) [] [] [0,14,15,16,38] [(0,.slice Aa0 a0.length ca0),(14,.slice Aa0 a0.length ca0),(15,iv (a0.length:Int)),(16,iv v16),(38,.bool false)] (Pk 1 [0]) (Pk 1 [0]) (fun _ _=>trivial) ?_
     obtain rfl:=Option.some.inj heq
     refine Kr [0,14,15,16,38] [(0,.slice Aa0 a0.length ca0),(14,.slice Aa0 a0.length ca0),(15,iv (a0.length:Int)),(16,iv v16),(38,.bool false)] ?_
     refine DrH.pick 1 [] (cs':=F) (by kernel_rfl) rfl ?_
     refine DrH.done (by kernel_rfl) ?_
     exact K3
  ·replace heq:=bif_false hb7 heq
   refine Cf (decide (v16<(a0.length:Int))) hb7<|Ad 3 [.c [1,1,1,0,0],.c [1,1,1,0,1],.c [1,1,1,1]]<|Kp [0] [(0,.slice Aa0 a0.length ca0)] ?_
   exact he1 a0 _ _ hra0 hca0 heq
theorem smithyardref9_CheckWorks_c {w0:World} {H:Hp} {F:List Ch} {a0:List Work} {Aa0:Option Addr} {na0:Nat} {ca0:Nat} {r:Int} (hra0:Rw kWork H F Aa0 a0) (hca0:na0≤ca0) (hna0:na0=a0.length) (heq:smithyardref9_CheckWorks.f a0=some r):CallsH Tryd.prog 13 #[.slice Aa0 na0 ca0] H w0 (F) (S13 F H r):=by
 refine calls_of_runH (F:=C13) Tryd.func13 (by kernel_rfl) Tryd.ntmps13 (args:=[.slice Aa0 na0 ca0]) (by kernel_rfl) ?_
 subst hna0
 unfold smithyardref9_CheckWorks.f at heq
 refine Ra 1 [0] [.c [1]]<|Rd 1 [0] [(0,.slice Aa0 a0.length ca0)]<|Ra 2 [1,0,0] [.c [1,0,1],.c [1,1]]<|Rd 3 [0,13] [(0,.slice Aa0 a0.length ca0),(13,.bool (decide (200<(a0.length:Int))))] ?_
 rcases bool_cases (decide (200<(a0.length:Int))) with hb1 | hb1
 ·replace heq:=bif_true hb1 heq
  refine Ct (decide (200<(a0.length:Int))) hb1<|Ra 1 [1,0,1,0,0] [.c [1,0,1,0,1],.c [1,1]]<|Rd 1 [2] [(2,iv 2)] ?_
  obtain rfl:=Option.some.inj heq
  exact RunH.done (by kernel_rfl) Tryd.func13 (v:=iv 2) (by kernel_rfl) ⟨rfl,rfl,rfl⟩
 ·replace heq:=bif_false hb1 heq
  refine Cf (decide (200<(a0.length:Int))) hb1<|Ra 3 [1,1,0,0] [.c [1,1,0,1],.c [1,1,1]]<|Rd 3 [0,14,15,16] [(0,.slice Aa0 a0.length ca0),(14,.slice Aa0 a0.length ca0),(15,iv (a0.length:Int)),(16,iv 0)]<|Ad 2 [.c [1,1,0,1,0,0],.l [1,1,0,1,0,0],.b 0,.c [1,1,1]]<|Kp [0,14,15,16] [(0,.slice Aa0 a0.length ca0),(14,.slice Aa0 a0.length ca0),(15,iv (a0.length:Int)),(16,iv 0)] ?_
  exact ((smithyardref9_CheckWorks.l8_c (e1:=smithyardref9_CheckWorks.e1) (smithyardref9_CheckWorks.e1_c)) big) a0 _ _ 0 hra0 hca0 heq
noncomputable def C32:Ctx:={ P:=Tryd.prog,f:=32,N:=26,c:=bodyOf Tryd.f32 }
def S32 (F:List Ch) (H0:Hp) (r:Bool) (v:Value) (H:Hp) (cs:List Ch):Prop:=H0=H∧v=.bool r∧F=cs
theorem slices_Equal_Pair.e1_c {w0:World} {H:Hp} {F:List Ch} {r:Bool}:slices_Equal_Pair.e1=some r→RunH C32 (S32 F H r) H w0 [.c [1,1,1,0],.c [1,1,1,1]] [] H (F):=by
 intro   heq
 unfold slices_Equal_Pair.e1 at heq
 refine Rr<|Rd 1 [4] [(4,.bool true)] ?_
 obtain rfl:=Option.some.inj heq
 exact RunH.done (by kernel_rfl) Tryd.func32 (v:=.bool true) (by kernel_rfl) ⟨rfl,rfl,rfl⟩
theorem slices_Equal_Pair.l2_c {w0:World} {H:Hp} {F:List Ch} {r:Bool} (e1:Option Bool)
  (he1:e1=some r→RunH C32 (S32 F H r) H w0 [.c [1,1,1,0],.c [1,1,1,1]] [] H (F)):∀ (k:Nat),∀ (a0:List Pair) (Aa0:Option Addr) (ca0:Nat) (a1:List Pair) (Aa1:Option Addr) (ca1:Nat) (v13:Int) ,Rw kPair H F Aa0 a0→a0.length≤ca0→Rw kPair H F Aa1 a1→a1.length≤ca1→slices_Equal_Pair.l2 e1 k a0 a1 v13=some r→RunH C32 (S32 F H r) H w0 [.c [1,1,0,1,0,0],.l [1,1,0,1,0,0],.b 0,.c [1,1,1]] [(0,.slice Aa0 a0.length ca0),(1,.slice Aa1 a1.length ca1),(12,iv (a0.length:Int)),(13,iv v13)] H (F):=by
 intro k
 induction k with
 | zero=>intro a0 Aa0 ca0 a1 Aa1 ca1 v13 hra0 hca0 hra1 hca1 heq; exact nomatch (show (none:Option Bool)=some r from heq)
 | succ k ihk =>
  intro a0 Aa0 ca0 a1 Aa1 ca1 v13 hra0 hca0 hra1 hca1 heq
  rw [slices_Equal_Pair.l2] at heq
  refine Ra 1 [1,1,0,1,0,0,0] [.c [1,1,0,1,0,0,1],.l [1,1,0,1,0,0],.b 0,.c [1,1,1]]<|Rd 1 [0,1,12,13,14] [(0,.slice Aa0 a0.length ca0),(1,.slice Aa1 a1.length ca1),(12,iv (a0.length:Int)),(13,iv v13),(14,.bool (decide (v13<(a0.length:Int))))]<|Ad 1 [.c [1,1,0,1,0,0,1,0],.c [1,1,0,1,0,0,1,1],.l [1,1,0,1,0,0],.b 0,.c [1,1,1]] ?_
  rcases bool_cases (decide (v13<(a0.length:Int))) with hb2 | hb2
  ·replace heq:=bif_true hb2 heq
   refine Ct (decide (v13<(a0.length:Int))) hb2<|Ra 4 [1,1,0,1,0,0,1,1,0,0,0] [.c [1,1,0,1,0,0,1,1,0,0,1],.b 1,.c [1,1,0,1,0,0,1,1,1],.l [1,1,0,1,0,0],.b 0,.c [1,1,1]]<|Rd 2 [0,1,5,12,13] [(0,.slice Aa0 a0.length ca0),(1,.slice Aa1 a1.length ca1),(5,iv v13),(12,iv (a0.length:Int)),(13,iv v13)]<|Ad 1 [.c [1,1,0,1,0,0,1,1,0,0,1,0],.c [1,1,0,1,0,0,1,1,0,0,1,1],.b 1,.c [1,1,0,1,0,0,1,1,1],.l [1,1,0,1,0,0],.b 0,.c [1,1,1]]<|Kp [0,1,5,12,13] [(0,.slice Aa0 a0.length ca0),(1,.slice Aa1 a1.length ca1),(5,iv v13),(12,iv (a0.length:Int)),(13,iv v13)] ?_
   refine RunH.draw (fun w=>Heap H w0 w (F)) (fun w=>Heap H w0 w (F)) [3,3,3,3,3,3,3,3,3] (n:=9) (ls:=[false,false,false,false,false,false,false,false,false]) (by kernel_rfl) (by kernel_rfl) (by kernel_rfl) rfl ?_
   obtain ⟨x1,hx1,heq⟩:=bind_some heq
   obtain ⟨ha1,cs1,hK1,hcc1⟩:=hra0.get hx1
   obtain ⟨rfl⟩:=kPair_open hK1
   obtain ⟨x2,hx2,heq⟩:=bind_some heq
   obtain ⟨ha2,cs2,hK2,hcc2⟩:=hra1.get hx2
   obtain ⟨rfl⟩:=kPair_open hK2
   refine Dk [0,1,2,3,4,5,6,7,8] 0 (nb 9 511) [.string x1.Name,.string x1.Value,.string x2.Name,.string x2.Value] [.need (Aa0=some (adr Aa0)∧(0:Int)≤v13∧v13<((a0.length:Nat):Int)),.load (((adr Aa0).add (v13.toNat*2)).add 0) (.string x1.Name),.load (((adr Aa0).add (v13.toNat*2)).add 1) (.string x1.Value),.need (Aa1=some (adr Aa1)∧(0:Int)≤v13∧v13<((a1.length:Nat):Int)),.load (((adr Aa1).add (v13.toNat*2)).add 0) (.string x2.Name),.load (((adr Aa1).add (v13.toNat*2)).add 1) (.string x2.Value)] [0,1,12,13,24] [(0,.slice Aa0 a0.length ca0),(1,.slice Aa1 a1.length ca1),(12,iv (a0.length:Int)),(13,iv v13),(24,.bool (!(sEq x1.Name x2.Name&&(sEq x1.Value x2.Value&&true))))] (Pk 0 []) (Pk 0 []) (fun w hh=>⟨⟨ha1,(at?_some hx1).1,(at?_some hx1).2.1⟩,(hcc1 _ _ (hh.drop 0) 0 _ rfl),(hcc1 _ _ (hh.drop 0) 1 _ rfl),⟨ha2,(at?_some hx2).1,(at?_some hx2).2.1⟩,(hcc2 _ _ (hh.drop 0) 0 _ rfl),(hcc2 _ _ (hh.drop 0) 1 _ rfl)⟩) ?_
   refine DrH.done (by kernel_rfl) ?_
   rcases bool_cases (!(sEq x1.Name x2.Name&&(sEq x1.Value x2.Value&&true))) with hb3 | hb3
   ·replace heq:=bif_true hb3 heq
    refine Ct (!(sEq x1.Name x2.Name&&(sEq x1.Value x2.Value&&true))) hb3<|Ra 1 [1,1,0,1,0,0,1,1,0,0,1,1,0,0] [.c [1,1,0,1,0,0,1,1,0,0,1,1,0,1],.b 1,.c [1,1,0,1,0,0,1,1,1],.l [1,1,0,1,0,0],.b 0,.c [1,1,1]]<|Rd 1 [4] [(4,.bool false)] ?_
    obtain rfl:=Option.some.inj heq
    exact RunH.done (by kernel_rfl) Tryd.func32 (v:=.bool false) (by kernel_rfl) ⟨rfl,rfl,rfl⟩
   ·replace heq:=bif_false hb3 heq
    refine Cf (!(sEq x1.Name x2.Name&&(sEq x1.Value x2.Value&&true))) hb3<|Ra 2 [1,1,0,1,0,0,1,1,1] [.l [1,1,0,1,0,0],.b 0,.c [1,1,1]]<|Rd 2 [0,1,12,13] [(0,.slice Aa0 a0.length ca0),(1,.slice Aa1 a1.length ca1),(12,iv (a0.length:Int)),(13,iv (w64 (v13+1)))]<|Ad 1 [.c [1,1,0,1,0,0],.l [1,1,0,1,0,0],.b 0,.c [1,1,1]]<|Kp [0,1,12,13] [(0,.slice Aa0 a0.length ca0),(1,.slice Aa1 a1.length ca1),(12,iv (a0.length:Int)),(13,iv (w64 (v13+1)))] ?_
    exact ihk a0 _ _ a1 _ _ (w64 (v13+1)) hra0 hca0 hra1 hca1 heq
  ·replace heq:=bif_false hb2 heq
   refine Cf (decide (v13<(a0.length:Int))) hb2<|Ad 2 [.c [1,1,1,0],.c [1,1,1,1]]<|Kp [] [] ?_
   exact he1 heq
theorem slices_Equal_Pair_c {w0:World} {H:Hp} {F:List Ch} {a0:List Pair} {Aa0:Option Addr} {na0:Nat} {ca0:Nat} {a1:List Pair} {Aa1:Option Addr} {na1:Nat} {ca1:Nat} {r:Bool} (hra0:Rw kPair H F Aa0 a0) (hca0:na0≤ca0) (hna0:na0=a0.length) (hra1:Rw kPair H F Aa1 a1) (hca1:na1≤ca1) (hna1:na1=a1.length) (heq:slices_Equal_Pair.f a0 a1=some r):CallsH Tryd.prog 32 #[.slice Aa0 na0 ca0,.slice Aa1 na1 ca1] H w0 (F) (S32 F H r):=by
 refine calls_of_runH (F:=C32) Tryd.func32 (by kernel_rfl) Tryd.ntmps32 (args:=[.slice Aa0 na0 ca0,.slice Aa1 na1 ca1]) (by kernel_rfl) ?_
 subst hna0
 subst hna1
 unfold slices_Equal_Pair.f at heq
 refine Ra 1 [0] [.c [1]]<|Rd 1 [0,1] [(0,.slice Aa0 a0.length ca0),(1,.slice Aa1 a1.length ca1)]<|Ra 2 [1,0,0] [.c [1,0,1],.c [1,1]]<|Rd 5 [0,1,10] [(0,.slice Aa0 a0.length ca0),(1,.slice Aa1 a1.length ca1),(10,.bool ((a0.length:Int) != (a1.length:Int)))] ?_
 rcases bool_cases ((a0.length:Int) != (a1.length:Int)) with hb1 | hb1
 ·replace heq:=bif_true hb1 heq
  refine Ct ((a0.length:Int) != (a1.length:Int)) hb1<|Ra 1 [1,0,1,0,0] [.c [1,0,1,0,1],.c [1,1]]<|Rd 1 [4] [(4,.bool false)] ?_
  obtain rfl:=Option.some.inj heq
  exact RunH.done (by kernel_rfl) Tryd.func32 (v:=.bool false) (by kernel_rfl) ⟨rfl,rfl,rfl⟩
 ·replace heq:=bif_false hb1 heq
  refine Cf ((a0.length:Int) != (a1.length:Int)) hb1<|Ra 3 [1,1,0,0] [.c [1,1,0,1],.c [1,1,1]]<|Rd 3 [0,1,12,13] [(0,.slice Aa0 a0.length ca0),(1,.slice Aa1 a1.length ca1),(12,iv (a0.length:Int)),(13,iv 0)]<|Ad 2 [.c [1,1,0,1,0,0],.l [1,1,0,1,0,0],.b 0,.c [1,1,1]]<|Kp [0,1,12,13] [(0,.slice Aa0 a0.length ca0),(1,.slice Aa1 a1.length ca1),(12,iv (a0.length:Int)),(13,iv 0)] ?_
  exact ((slices_Equal_Pair.l2_c (e1:=slices_Equal_Pair.e1) (slices_Equal_Pair.e1_c)) big) a0 _ _ a1 _ _ 0 hra0 hca0 hra1 hca1 heq
noncomputable def C33:Ctx:={ P:=Tryd.prog,f:=33,N:=26,c:=bodyOf Tryd.f33 }
def S33 (F:List Ch) (H0:Hp) (r:Bool) (v:Value) (H:Hp) (cs:List Ch):Prop:=H0=H∧v=.bool r∧F=cs
theorem slices_Equal_Span.e1_c {w0:World} {H:Hp} {F:List Ch} {r:Bool}:slices_Equal_Span.e1=some r→RunH C33 (S33 F H r) H w0 [.c [1,1,1,0],.c [1,1,1,1]] [] H (F):=by
 intro   heq
 unfold slices_Equal_Span.e1 at heq
 refine Rr<|Rd 1 [4] [(4,.bool true)] ?_
 obtain rfl:=Option.some.inj heq
 exact RunH.done (by kernel_rfl) Tryd.func33 (v:=.bool true) (by kernel_rfl) ⟨rfl,rfl,rfl⟩
theorem slices_Equal_Span.l2_c {w0:World} {H:Hp} {F:List Ch} {r:Bool} (e1:Option Bool)
  (he1:e1=some r→RunH C33 (S33 F H r) H w0 [.c [1,1,1,0],.c [1,1,1,1]] [] H (F)):∀ (k:Nat),∀ (a0:List Span) (Aa0:Option Addr) (ca0:Nat) (a1:List Span) (Aa1:Option Addr) (ca1:Nat) (v13:Int) ,Rw kSpan H F Aa0 a0→a0.length≤ca0→Rw kSpan H F Aa1 a1→a1.length≤ca1→slices_Equal_Span.l2 e1 k a0 a1 v13=some r→RunH C33 (S33 F H r) H w0 [.c [1,1,0,1,0,0],.l [1,1,0,1,0,0],.b 0,.c [1,1,1]] [(0,.slice Aa0 a0.length ca0),(1,.slice Aa1 a1.length ca1),(12,iv (a0.length:Int)),(13,iv v13)] H (F):=by
 intro k
 induction k with
 | zero=>intro a0 Aa0 ca0 a1 Aa1 ca1 v13 hra0 hca0 hra1 hca1 heq; exact nomatch (show (none:Option Bool)=some r from heq)
 | succ k ihk =>
  intro a0 Aa0 ca0 a1 Aa1 ca1 v13 hra0 hca0 hra1 hca1 heq
  rw [slices_Equal_Span.l2] at heq
  refine Ra 1 [1,1,0,1,0,0,0] [.c [1,1,0,1,0,0,1],.l [1,1,0,1,0,0],.b 0,.c [1,1,1]]<|Rd 1 [0,1,12,13,14] [(0,.slice Aa0 a0.length ca0),(1,.slice Aa1 a1.length ca1),(12,iv (a0.length:Int)),(13,iv v13),(14,.bool (decide (v13<(a0.length:Int))))]<|Ad 1 [.c [1,1,0,1,0,0,1,0],.c [1,1,0,1,0,0,1,1],.l [1,1,0,1,0,0],.b 0,.c [1,1,1]] ?_
  rcases bool_cases (decide (v13<(a0.length:Int))) with hb2 | hb2
  ·replace heq:=bif_true hb2 heq
   refine Ct (decide (v13<(a0.length:Int))) hb2<|Ra 4 [1,1,0,1,0,0,1,1,0,0,0] [.c [1,1,0,1,0,0,1,1,0,0,1],.b 1,.c [1,1,0,1,0,0,1,1,1],.l [1,1,0,1,0,0],.b 0,.c [1,1,1]]<|Rd 2 [0,1,5,12,13] [(0,.slice Aa0 a0.length ca0),(1,.slice Aa1 a1.length ca1),(5,iv v13),(12,iv (a0.length:Int)),(13,iv v13)]<|Ad 1 [.c [1,1,0,1,0,0,1,1,0,0,1,0],.c [1,1,0,1,0,0,1,1,0,0,1,1],.b 1,.c [1,1,0,1,0,0,1,1,1],.l [1,1,0,1,0,0],.b 0,.c [1,1,1]]<|Kp [0,1,5,12,13] [(0,.slice Aa0 a0.length ca0),(1,.slice Aa1 a1.length ca1),(5,iv v13),(12,iv (a0.length:Int)),(13,iv v13)] ?_
   refine RunH.draw (fun w=>Heap H w0 w (F)) (fun w=>Heap H w0 w (F)) [3,3,3,3,3,3,3,3,3] (n:=9) (ls:=[false,false,false,false,false,false,false,false,false]) (by kernel_rfl) (by kernel_rfl) (by kernel_rfl) rfl ?_
   obtain ⟨x1,hx1,heq⟩:=bind_some heq
   obtain ⟨ha1,cs1,hK1,hcc1⟩:=hra0.get hx1
   obtain ⟨rfl⟩:=kSpan_open hK1
   obtain ⟨x2,hx2,heq⟩:=bind_some heq
   obtain ⟨ha2,cs2,hK2,hcc2⟩:=hra1.get hx2
   obtain ⟨rfl⟩:=kSpan_open hK2
   refine Dk [0,1,2,3,4,5,6,7,8] 0 (nb 9 511) [iv x1.From,iv x1.To,iv x2.From,iv x2.To] [.need (Aa0=some (adr Aa0)∧(0:Int)≤v13∧v13<((a0.length:Nat):Int)),.load (((adr Aa0).add (v13.toNat*2)).add 0) (iv x1.From),.load (((adr Aa0).add (v13.toNat*2)).add 1) (iv x1.To),.need (Aa1=some (adr Aa1)∧(0:Int)≤v13∧v13<((a1.length:Nat):Int)),.load (((adr Aa1).add (v13.toNat*2)).add 0) (iv x2.From),.load (((adr Aa1).add (v13.toNat*2)).add 1) (iv x2.To)] [0,1,12,13,24] [(0,.slice Aa0 a0.length ca0),(1,.slice Aa1 a1.length ca1),(12,iv (a0.length:Int)),(13,iv v13),(24,.bool (!(x1.From == x2.From&&(x1.To == x2.To&&true))))] (Pk 0 []) (Pk 0 []) (fun w hh=>⟨⟨ha1,(at?_some hx1).1,(at?_some hx1).2.1⟩,(hcc1 _ _ (hh.drop 0) 0 _ rfl),(hcc1 _ _ (hh.drop 0) 1 _ rfl),⟨ha2,(at?_some hx2).1,(at?_some hx2).2.1⟩,(hcc2 _ _ (hh.drop 0) 0 _ rfl),(hcc2 _ _ (hh.drop 0) 1 _ rfl)⟩) ?_
   refine DrH.done (by kernel_rfl) ?_
   rcases bool_cases (!(x1.From == x2.From&&(x1.To == x2.To&&true))) with hb3 | hb3
   ·replace heq:=bif_true hb3 heq
    refine Ct (!(x1.From == x2.From&&(x1.To == x2.To&&true))) hb3<|Ra 1 [1,1,0,1,0,0,1,1,0,0,1,1,0,0] [.c [1,1,0,1,0,0,1,1,0,0,1,1,0,1],.b 1,.c [1,1,0,1,0,0,1,1,1],.l [1,1,0,1,0,0],.b 0,.c [1,1,1]]<|Rd 1 [4] [(4,.bool false)] ?_
    obtain rfl:=Option.some.inj heq
    exact RunH.done (by kernel_rfl) Tryd.func33 (v:=.bool false) (by kernel_rfl) ⟨rfl,rfl,rfl⟩
   ·replace heq:=bif_false hb3 heq
    refine Cf (!(x1.From == x2.From&&(x1.To == x2.To&&true))) hb3<|Ra 2 [1,1,0,1,0,0,1,1,1] [.l [1,1,0,1,0,0],.b 0,.c [1,1,1]]<|Rd 2 [0,1,12,13] [(0,.slice Aa0 a0.length ca0),(1,.slice Aa1 a1.length ca1),(12,iv (a0.length:Int)),(13,iv (w64 (v13+1)))]<|Ad 1 [.c [1,1,0,1,0,0],.l [1,1,0,1,0,0],.b 0,.c [1,1,1]]<|Kp [0,1,12,13] [(0,.slice Aa0 a0.length ca0),(1,.slice Aa1 a1.length ca1),(12,iv (a0.length:Int)),(13,iv (w64 (v13+1)))] ?_
    exact ihk a0 _ _ a1 _ _ (w64 (v13+1)) hra0 hca0 hra1 hca1 heq
  ·replace heq:=bif_false hb2 heq
   refine Cf (decide (v13<(a0.length:Int))) hb2<|Ad 2 [.c [1,1,1,0],.c [1,1,1,1]]<|Kp [] [] ?_
   exact he1 heq
theorem slices_Equal_Span_c {w0:World} {H:Hp} {F:List Ch} {a0:List Span} {Aa0:Option Addr} {na0:Nat} {ca0:Nat} {a1:List Span} {Aa1:Option Addr} {na1:Nat} {ca1:Nat} {r:Bool} (hra0:Rw kSpan H F Aa0 a0) (hca0:na0≤ca0) (hna0:na0=a0.length) (hra1:Rw kSpan H F Aa1 a1) (hca1:na1≤ca1) (hna1:na1=a1.length) (heq:slices_Equal_Span.f a0 a1=some r):CallsH Tryd.prog 33 #[.slice Aa0 na0 ca0,.slice Aa1 na1 ca1] H w0 (F) (S33 F H r):=by
 refine calls_of_runH (F:=C33) Tryd.func33 (by kernel_rfl) Tryd.ntmps33 (args:=[.slice Aa0 na0 ca0,.slice Aa1 na1 ca1]) (by kernel_rfl) ?_
 subst hna0
 subst hna1
 unfold slices_Equal_Span.f at heq
 refine Ra 1 [0] [.c [1]]<|Rd 1 [0,1] [(0,.slice Aa0 a0.length ca0),(1,.slice Aa1 a1.length ca1)]<|Ra 2 [1,0,0] [.c [1,0,1],.c [1,1]]<|Rd 5 [0,1,10] [(0,.slice Aa0 a0.length ca0),(1,.slice Aa1 a1.length ca1),(10,.bool ((a0.length:Int) != (a1.length:Int)))] ?_
 rcases bool_cases ((a0.length:Int) != (a1.length:Int)) with hb1 | hb1
 ·replace heq:=bif_true hb1 heq
  refine Ct ((a0.length:Int) != (a1.length:Int)) hb1<|Ra 1 [1,0,1,0,0] [.c [1,0,1,0,1],.c [1,1]]<|Rd 1 [4] [(4,.bool false)] ?_
  obtain rfl:=Option.some.inj heq
  exact RunH.done (by kernel_rfl) Tryd.func33 (v:=.bool false) (by kernel_rfl) ⟨rfl,rfl,rfl⟩
 ·replace heq:=bif_false hb1 heq
  refine Cf ((a0.length:Int) != (a1.length:Int)) hb1<|Ra 3 [1,1,0,0] [.c [1,1,0,1],.c [1,1,1]]<|Rd 3 [0,1,12,13] [(0,.slice Aa0 a0.length ca0),(1,.slice Aa1 a1.length ca1),(12,iv (a0.length:Int)),(13,iv 0)]<|Ad 2 [.c [1,1,0,1,0,0],.l [1,1,0,1,0,0],.b 0,.c [1,1,1]]<|Kp [0,1,12,13] [(0,.slice Aa0 a0.length ca0),(1,.slice Aa1 a1.length ca1),(12,iv (a0.length:Int)),(13,iv 0)] ?_
  exact ((slices_Equal_Span.l2_c (e1:=slices_Equal_Span.e1) (slices_Equal_Span.e1_c)) big) a0 _ _ a1 _ _ 0 hra0 hca0 hra1 hca1 heq
noncomputable def C16:Ctx:={ P:=Tryd.prog,f:=16,N:=52,c:=bodyOf Tryd.f16 }
def S16 (F:List Ch) (H0:Hp) (r:Bool) (v:Value) (H:Hp) (cs:List Ch):Prop:=H0=H∧v=.bool r∧F=cs
theorem smithyardref9_SameWorker_c {w0:World} {H:Hp} {F:List Ch} {a0:Worker} {Aa0_1:Option Addr} {na0_1:Nat} {ca0_1:Nat} {Aa0_6:Option Addr} {na0_6:Nat} {ca0_6:Nat} {a1:Worker} {Aa1_1:Option Addr} {na1_1:Nat} {ca1_1:Nat} {Aa1_6:Option Addr} {na1_6:Nat} {ca1_6:Nat} {r:Bool} (hra0_1:Rw kPair H F Aa0_1 a0.Has) (hca0_1:na0_1≤ca0_1) (hna0_1:na0_1=a0.Has.length) (hra0_6:Rw kSpan H F Aa0_6 a0.Stands) (hca0_6:na0_6≤ca0_6) (hna0_6:na0_6=a0.Stands.length) (hra1_1:Rw kPair H F Aa1_1 a1.Has) (hca1_1:na1_1≤ca1_1) (hna1_1:na1_1=a1.Has.length) (hra1_6:Rw kSpan H F Aa1_6 a1.Stands) (hca1_6:na1_6≤ca1_6) (hna1_6:na1_6=a1.Stands.length) (heq:smithyardref9_SameWorker.f a0 a1=some r):CallsH Tryd.prog 16 #[.agg #[.string a0.Name,.slice Aa0_1 na0_1 ca0_1,iv a0.Slots,iv a0.Speed,iv a0.From,iv a0.To,.slice Aa0_6 na0_6 ca0_6],.agg #[.string a1.Name,.slice Aa1_1 na1_1 ca1_1,iv a1.Slots,iv a1.Speed,iv a1.From,iv a1.To,.slice Aa1_6 na1_6 ca1_6]] H w0 (F) (S16 F H r):=by
 refine calls_of_runH (F:=C16) Tryd.func16 (by kernel_rfl) Tryd.ntmps16 (args:=[.agg #[.string a0.Name,.slice Aa0_1 na0_1 ca0_1,iv a0.Slots,iv a0.Speed,iv a0.From,iv a0.To,.slice Aa0_6 na0_6 ca0_6],.agg #[.string a1.Name,.slice Aa1_1 na1_1 ca1_1,iv a1.Slots,iv a1.Speed,iv a1.From,iv a1.To,.slice Aa1_6 na1_6 ca1_6]]) (by kernel_rfl) ?_
 subst hna0_1
 subst hna0_6
 subst hna1_1
 subst hna1_6
 unfold smithyardref9_SameWorker.f at heq
 refine Ra 1 [0] [.c [1]] ?_
 refine RgH.does (DoesH.new (d:=2) (v:=fun g=>.pointer (some ⟨g,0,none⟩)) (o:=fun g=>.cells #[.string a0.Name,.slice Aa0_1 a0.Has.length ca0_1,iv a0.Slots,iv a0.Speed,iv a0.From,iv a0.To,.slice Aa0_6 a0.Stands.length ca0_6] 27 (0,0)) (fun g=>by kernel_rfl)) ?_
 rintro _ _ _ _ ⟨g1,rfl,rfl,rfl⟩
 refine RgH.does (DoesH.new (d:=3) (v:=fun g=>.pointer (some ⟨g,0,none⟩)) (o:=fun g=>.cells #[.string a1.Name,.slice Aa1_1 a1.Has.length ca1_1,iv a1.Slots,iv a1.Speed,iv a1.From,iv a1.To,.slice Aa1_6 a1.Stands.length ca1_6] 27 (0,0)) (fun g=>by kernel_rfl)) ?_
 rintro _ _ _ _ ⟨g2,rfl,rfl,rfl⟩
 refine Rd 3 [2,3] [(2,pg g1 0),(3,pg g2 0)]<|Ad 1 [.c [1,0],.c [1,1]] ?_
 obtain ⟨t1,ht1,heq⟩:=bind_some heq
 have K3:RunH C16 (S16 F H r) H w0 [.c [1,1]] [(4,.bool t1)] H (F):=by
  obtain rfl:=Option.some.inj heq
  exact RunH.done (by kernel_rfl) Tryd.func16 (v:=.bool t1) (by kernel_rfl) ⟨rfl,rfl,rfl⟩
 replace heq:=ht1
 refine Rr<|Rv 6 [10,2,3] [.string a0.Name,.string a1.Name] [.load ⟨g1,0,none⟩ (.string a0.Name),.load ⟨g2,0,none⟩ (.string a1.Name)] [(10,.bool (sEq a0.Name a1.Name)),(2,pg g1 0),(3,pg g2 0)] (fun w hh=>⟨(hh.box 1 rfl rfl),(hh.box 0 rfl rfl)⟩) ?_
 rcases bool_cases (sEq a0.Name a1.Name) with hb1 | hb1
 ·replace heq:=bif_true hb1 heq
  refine RgH.val1 (v':=.bool true) (congrArg Value.bool hb1) ?_
  refine Rv 10 [2,3,10,12,14] [.slice Aa0_1 a0.Has.length ca0_1,.slice Aa1_1 a1.Has.length ca1_1] [.load ⟨g1,1,none⟩ (.slice Aa0_1 a0.Has.length ca0_1),.load ⟨g2,1,none⟩ (.slice Aa1_1 a1.Has.length ca1_1)] [(2,pg g1 0),(3,pg g2 0),(10,.bool true),(12,.slice Aa0_1 a0.Has.length ca0_1),(14,.slice Aa1_1 a1.Has.length ca1_1)] (fun w hh=>⟨(hh.box 1 rfl rfl),(hh.box 0 rfl rfl)⟩) ?_
  obtain ⟨y1,hy1,heq⟩:=bind_some heq
  refine RgH.does (DoesH.call (d:=15) (g:=32) (args:=#[.slice Aa0_1 a0.Has.length ca0_1,.slice Aa1_1 a1.Has.length ca1_1]) (by kernel_rfl) (slices_Equal_Pair_c (a0:=a0.Has) (a1:=a1.Has) (hra0_1.wk (fun _ h=>(.tail _ (.tail _ h)))) hca0_1 rfl (hra1_1.wk (fun _ h=>(.tail _ (.tail _ h)))) hca1_1 rfl hy1)) ?_
  rintro _ _ _ _ ⟨_,rfl,rfl,rfl,rfl⟩
  refine Rk 13 [17,2,3] [(17,.bool y1),(2,pg g1 0),(3,pg g2 0)] ?_
  rcases bool_cases (y1) with hb2 | hb2
  ·replace heq:=bif_true hb2 heq
   refine RgH.val1 (v':=.bool true) (congrArg Value.bool hb2) ?_
   refine Rv 20 [24,2,3] [iv a0.Slots,iv a1.Slots] [.load ⟨g1,2,none⟩ (iv a0.Slots),.load ⟨g2,2,none⟩ (iv a1.Slots)] [(24,.bool (a0.Slots == a1.Slots)),(2,pg g1 0),(3,pg g2 0)] (fun w hh=>⟨(hh.box 1 rfl rfl),(hh.box 0 rfl rfl)⟩) ?_
   rcases bool_cases (a0.Slots == a1.Slots) with hb3 | hb3
   ·replace heq:=bif_true hb3 heq
    refine RgH.val1 (v':=.bool true) (congrArg Value.bool hb3) ?_
    refine Rv 27 [31,2,3] [iv a0.Speed,iv a1.Speed] [.load ⟨g1,3,none⟩ (iv a0.Speed),.load ⟨g2,3,none⟩ (iv a1.Speed)] [(31,.bool (a0.Speed == a1.Speed)),(2,pg g1 0),(3,pg g2 0)] (fun w hh=>⟨(hh.box 1 rfl rfl),(hh.box 0 rfl rfl)⟩) ?_
    rcases bool_cases (a0.Speed == a1.Speed) with hb4 | hb4
    ·replace heq:=bif_true hb4 heq
     refine RgH.val1 (v':=.bool true) (congrArg Value.bool hb4) ?_
     refine Rv 34 [38,2,3] [iv a0.From,iv a1.From] [.load ⟨g1,4,none⟩ (iv a0.From),.load ⟨g2,4,none⟩ (iv a1.From)] [(38,.bool (a0.From == a1.From)),(2,pg g1 0),(3,pg g2 0)] (fun w hh=>⟨(hh.box 1 rfl rfl),(hh.box 0 rfl rfl)⟩) ?_
     rcases bool_cases (a0.From == a1.From) with hb5 | hb5
     ·replace heq:=bif_true hb5 heq
      refine RgH.val1 (v':=.bool true) (congrArg Value.bool hb5) ?_
      refine Rv 41 [45,2,3] [iv a0.To,iv a1.To] [.load ⟨g1,5,none⟩ (iv a0.To),.load ⟨g2,5,none⟩ (iv a1.To)] [(45,.bool (a0.To == a1.To)),(2,pg g1 0),(3,pg g2 0)] (fun w hh=>⟨(hh.box 1 rfl rfl),(hh.box 0 rfl rfl)⟩) ?_
      rcases bool_cases (a0.To == a1.To) with hb6 | hb6
      ·replace heq:=bif_true hb6 heq
       refine RgH.val1 (v':=.bool true) (congrArg Value.bool hb6) ?_
       refine Rv 45 [45,47,49] [.slice Aa0_6 a0.Stands.length ca0_6,.slice Aa1_6 a1.Stands.length ca1_6] [.load ⟨g1,6,none⟩ (.slice Aa0_6 a0.Stands.length ca0_6),.load ⟨g2,6,none⟩ (.slice Aa1_6 a1.Stands.length ca1_6)] [(45,.bool true),(47,.slice Aa0_6 a0.Stands.length ca0_6),(49,.slice Aa1_6 a1.Stands.length ca1_6)] (fun w hh=>⟨(hh.box 1 rfl rfl),(hh.box 0 rfl rfl)⟩) ?_
       obtain ⟨y2,hy2,heq⟩:=bind_some heq
       refine RgH.does (DoesH.call (d:=50) (g:=33) (args:=#[.slice Aa0_6 a0.Stands.length ca0_6,.slice Aa1_6 a1.Stands.length ca1_6]) (by kernel_rfl) (slices_Equal_Span_c (a0:=a0.Stands) (a1:=a1.Stands) (hra0_6.wk (fun _ h=>(.tail _ (.tail _ h)))) hca0_6 rfl (hra1_6.wk (fun _ h=>(.tail _ (.tail _ h)))) hca1_6 rfl hy2)) ?_
       rintro _ _ _ _ ⟨_,rfl,rfl,rfl,rfl⟩
       refine Rk 48 [4] [(4,.bool y2)] ?_
       obtain rfl:=Option.some.inj heq
       refine Kg [4] [(4,.bool y2)] ?_
       refine RgH.pick 2 [] (cs':=F) (by kernel_rfl) rfl ?_
       refine Dn ?_
       exact K3
      ·replace heq:=bif_false hb6 heq
       refine RgH.val1 (v':=.bool false) (congrArg Value.bool hb6) ?_
       refine Rk 48 [4] [(4,.bool false)] ?_
       obtain rfl:=Option.some.inj heq
       refine Kg [4] [(4,.bool false)] ?_
       refine RgH.pick 2 [] (cs':=F) (by kernel_rfl) rfl ?_
       refine Dn ?_
       exact K3
     ·replace heq:=bif_false hb5 heq
      refine RgH.val1 (v':=.bool false) (congrArg Value.bool hb5) ?_
      refine Rk 48 [4] [(4,.bool false)] ?_
      obtain rfl:=Option.some.inj heq
      refine Kg [4] [(4,.bool false)] ?_
      refine RgH.pick 2 [] (cs':=F) (by kernel_rfl) rfl ?_
      refine Dn ?_
      exact K3
    ·replace heq:=bif_false hb4 heq
     refine RgH.val1 (v':=.bool false) (congrArg Value.bool hb4) ?_
     refine Rk 48 [4] [(4,.bool false)] ?_
     obtain rfl:=Option.some.inj heq
     refine Kg [4] [(4,.bool false)] ?_
     refine RgH.pick 2 [] (cs':=F) (by kernel_rfl) rfl ?_
     refine Dn ?_
     exact K3
   ·replace heq:=bif_false hb3 heq
    refine RgH.val1 (v':=.bool false) (congrArg Value.bool hb3) ?_
    refine Rk 48 [4] [(4,.bool false)] ?_
    obtain rfl:=Option.some.inj heq
    refine Kg [4] [(4,.bool false)] ?_
    refine RgH.pick 2 [] (cs':=F) (by kernel_rfl) rfl ?_
    refine Dn ?_
    exact K3
  ·replace heq:=bif_false hb2 heq
   refine RgH.val1 (v':=.bool false) (congrArg Value.bool hb2) ?_
   refine Rk 48 [4] [(4,.bool false)] ?_
   obtain rfl:=Option.some.inj heq
   refine Kg [4] [(4,.bool false)] ?_
   refine RgH.pick 2 [] (cs':=F) (by kernel_rfl) rfl ?_
   refine Dn ?_
   exact K3
 ·replace heq:=bif_false hb1 heq
  refine RgH.val1 (v':=.bool false) (congrArg Value.bool hb1) ?_
  refine Rk 48 [4] [(4,.bool false)] ?_
  obtain rfl:=Option.some.inj heq
  refine Kg [4] [(4,.bool false)] ?_
  refine RgH.pick 2 [] (cs':=F) (by kernel_rfl) rfl ?_
  refine Dn ?_
  exact K3
noncomputable def C14:Ctx:={ P:=Tryd.prog,f:=14,N:=27,c:=bodyOf Tryd.f14 }
def S14 (F:List Ch) (H0:Hp) (r:Bool) (v:Value) (H:Hp) (cs:List Ch):Prop:=H0=H∧v=.bool r∧F=cs
theorem smithyardref9_SameWorkers.e1_c {w0:World} {H:Hp} {F:List Ch} {r:Bool}:smithyardref9_SameWorkers.e1=some r→RunH C14 (S14 F H r) H w0 [.c [1,1,1,0],.c [1,1,1,1]] [] H (F):=by
 intro   heq
 unfold smithyardref9_SameWorkers.e1 at heq
 refine Rr<|Rd 1 [4] [(4,.bool true)] ?_
 obtain rfl:=Option.some.inj heq
 exact RunH.done (by kernel_rfl) Tryd.func14 (v:=.bool true) (by kernel_rfl) ⟨rfl,rfl,rfl⟩
theorem smithyardref9_SameWorkers.l2_c {w0:World} {H:Hp} {F:List Ch} {r:Bool} (e1:Option Bool)
  (he1:e1=some r→RunH C14 (S14 F H r) H w0 [.c [1,1,1,0],.c [1,1,1,1]] [] H (F)):∀ (k:Nat),∀ (a0:List Worker) (Aa0:Option Addr) (ca0:Nat) (a1:List Worker) (Aa1:Option Addr) (ca1:Nat) (v13:Int) ,Rw kWorker H F Aa0 a0→a0.length≤ca0→Rw kWorker H F Aa1 a1→a1.length≤ca1→smithyardref9_SameWorkers.l2 e1 k a0 a1 v13=some r→RunH C14 (S14 F H r) H w0 [.c [1,1,0,1,0,0],.l [1,1,0,1,0,0],.b 0,.c [1,1,1]] [(0,.slice Aa0 a0.length ca0),(1,.slice Aa1 a1.length ca1),(12,iv (a0.length:Int)),(13,iv v13)] H (F):=by
 intro k
 induction k with
 | zero=>intro a0 Aa0 ca0 a1 Aa1 ca1 v13 hra0 hca0 hra1 hca1 heq; exact nomatch (show (none:Option Bool)=some r from heq)
 | succ k ihk =>
  intro a0 Aa0 ca0 a1 Aa1 ca1 v13 hra0 hca0 hra1 hca1 heq
  rw [smithyardref9_SameWorkers.l2] at heq
  refine Ra 1 [1,1,0,1,0,0,0] [.c [1,1,0,1,0,0,1],.l [1,1,0,1,0,0],.b 0,.c [1,1,1]]<|Rd 1 [0,1,12,13,14] [(0,.slice Aa0 a0.length ca0),(1,.slice Aa1 a1.length ca1),(12,iv (a0.length:Int)),(13,iv v13),(14,.bool (decide (v13<(a0.length:Int))))]<|Ad 1 [.c [1,1,0,1,0,0,1,0],.c [1,1,0,1,0,0,1,1],.l [1,1,0,1,0,0],.b 0,.c [1,1,1]] ?_
  rcases bool_cases (decide (v13<(a0.length:Int))) with hb2 | hb2
  ·replace heq:=bif_true hb2 heq
   refine Ct (decide (v13<(a0.length:Int))) hb2<|Ra 4 [1,1,0,1,0,0,1,1,0,0,0] [.c [1,1,0,1,0,0,1,1,0,0,1],.b 1,.c [1,1,0,1,0,0,1,1,1],.l [1,1,0,1,0,0],.b 0,.c [1,1,1]]<|Rd 2 [0,1,5,12,13] [(0,.slice Aa0 a0.length ca0),(1,.slice Aa1 a1.length ca1),(5,iv v13),(12,iv (a0.length:Int)),(13,iv v13)]<|Ad 1 [.c [1,1,0,1,0,0,1,1,0,0,1,0],.c [1,1,0,1,0,0,1,1,0,0,1,1],.b 1,.c [1,1,0,1,0,0,1,1,1],.l [1,1,0,1,0,0],.b 0,.c [1,1,1]]<|Kp [0,1,5,12,13] [(0,.slice Aa0 a0.length ca0),(1,.slice Aa1 a1.length ca1),(5,iv v13),(12,iv (a0.length:Int)),(13,iv v13)] ?_
   refine RunH.draw (fun w=>Heap H w0 w (F)) (fun w=>Heap H w0 w (F)) [3,3,3,3,3,3,3,3,0,3] (n:=10) (ls:=[false,false,false,false,false,false,false,false,false,false]) (by kernel_rfl) (by kernel_rfl) (by kernel_rfl) rfl ?_
   obtain ⟨x1,hx1,heq⟩:=bind_some heq
   obtain ⟨ha1,cs1,hK1,hcc1⟩:=hra0.get hx1
   obtain ⟨A1,c1,A2,c2,rfl,hc1,hr1,hc2,hr2⟩:=kWorker_open hK1
   obtain ⟨x2,hx2,heq⟩:=bind_some heq
   obtain ⟨ha2,cs2,hK2,hcc2⟩:=hra1.get hx2
   obtain ⟨A3,c3,A4,c4,rfl,hc3,hr3,hc4,hr4⟩:=kWorker_open hK2
   refine Dk [0,1,2,3,4,5,6,7] 2 (nb 10 255) [.string x1.Name,.slice A1 x1.Has.length c1,iv x1.Slots,iv x1.Speed,iv x1.From,iv x1.To,.slice A2 x1.Stands.length c2,.string x2.Name,.slice A3 x2.Has.length c3,iv x2.Slots,iv x2.Speed,iv x2.From,iv x2.To,.slice A4 x2.Stands.length c4] [.need (Aa0=some (adr Aa0)∧(0:Int)≤v13∧v13<((a0.length:Nat):Int)),.load (((adr Aa0).add (v13.toNat*7)).add 0) (.string x1.Name),.load (((adr Aa0).add (v13.toNat*7)).add 1) (.slice A1 x1.Has.length c1),.load (((adr Aa0).add (v13.toNat*7)).add 2) (iv x1.Slots),.load (((adr Aa0).add (v13.toNat*7)).add 3) (iv x1.Speed),.load (((adr Aa0).add (v13.toNat*7)).add 4) (iv x1.From),.load (((adr Aa0).add (v13.toNat*7)).add 5) (iv x1.To),.load (((adr Aa0).add (v13.toNat*7)).add 6) (.slice A2 x1.Stands.length c2),.need (Aa1=some (adr Aa1)∧(0:Int)≤v13∧v13<((a1.length:Nat):Int)),.load (((adr Aa1).add (v13.toNat*7)).add 0) (.string x2.Name),.load (((adr Aa1).add (v13.toNat*7)).add 1) (.slice A3 x2.Has.length c3),.load (((adr Aa1).add (v13.toNat*7)).add 2) (iv x2.Slots),.load (((adr Aa1).add (v13.toNat*7)).add 3) (iv x2.Speed),.load (((adr Aa1).add (v13.toNat*7)).add 4) (iv x2.From),.load (((adr Aa1).add (v13.toNat*7)).add 5) (iv x2.To),.load (((adr Aa1).add (v13.toNat*7)).add 6) (.slice A4 x2.Stands.length c4)] [0,1,12,13,19,23] [(0,.slice Aa0 a0.length ca0),(1,.slice Aa1 a1.length ca1),(12,iv (a0.length:Int)),(13,iv v13),(19,.agg #[.string x1.Name,.slice A1 x1.Has.length c1,iv x1.Slots,iv x1.Speed,iv x1.From,iv x1.To,.slice A2 x1.Stands.length c2]),(23,.agg #[.string x2.Name,.slice A3 x2.Has.length c3,iv x2.Slots,iv x2.Speed,iv x2.From,iv x2.To,.slice A4 x2.Stands.length c4])] (Pk 0 []) (Pk 0 []) (fun w hh=>⟨⟨ha1,(at?_some hx1).1,(at?_some hx1).2.1⟩,(hcc1 _ _ (hh.drop 0) 0 _ rfl),(hcc1 _ _ (hh.drop 0) 1 _ rfl),(hcc1 _ _ (hh.drop 0) 2 _ rfl),(hcc1 _ _ (hh.drop 0) 3 _ rfl),(hcc1 _ _ (hh.drop 0) 4 _ rfl),(hcc1 _ _ (hh.drop 0) 5 _ rfl),(hcc1 _ _ (hh.drop 0) 6 _ rfl),⟨ha2,(at?_some hx2).1,(at?_some hx2).2.1⟩,(hcc2 _ _ (hh.drop 0) 0 _ rfl),(hcc2 _ _ (hh.drop 0) 1 _ rfl),(hcc2 _ _ (hh.drop 0) 2 _ rfl),(hcc2 _ _ (hh.drop 0) 3 _ rfl),(hcc2 _ _ (hh.drop 0) 4 _ rfl),(hcc2 _ _ (hh.drop 0) 5 _ rfl),(hcc2 _ _ (hh.drop 0) 6 _ rfl)⟩) ?_
   obtain ⟨y1,hy1,heq⟩:=bind_some heq
   refine DrH.does (n:=1) (ls':=[true,true,true,true,true,true,true,true,true,false]) 8 (by kernel_rfl) rfl (DoesH.call (d:=24) (g:=16) (args:=#[.agg #[.string x1.Name,.slice A1 x1.Has.length c1,iv x1.Slots,iv x1.Speed,iv x1.From,iv x1.To,.slice A2 x1.Stands.length c2],.agg #[.string x2.Name,.slice A3 x2.Has.length c3,iv x2.Slots,iv x2.Speed,iv x2.From,iv x2.To,.slice A4 x2.Stands.length c4]]) (by kernel_rfl) (smithyardref9_SameWorker_c (a0:=x1) (a1:=x2) (Rw.of hr1) hc1 rfl (Rw.of hr2) hc2 rfl (Rw.of hr3) hc3 rfl (Rw.of hr4) hc4 rfl hy1)) ?_
   rintro _ _ _ _ ⟨_,rfl,rfl,rfl,rfl⟩
   refine ⟨fun _ w hh=>⟨fun _=>(Pk 0 []) w hh,fun _=>(Pk 0 []) w hh,(fun h=>by cases h)⟩,?_⟩
   refine Dk [9] 0 (nb 10 1023) [] [] [0,1,12,13,25] [(0,.slice Aa0 a0.length ca0),(1,.slice Aa1 a1.length ca1),(12,iv (a0.length:Int)),(13,iv v13),(25,.bool (!y1))] (Pk 0 []) (Pk 0 []) (fun _ _=>trivial) ?_
   refine DrH.done (by kernel_rfl) ?_
   rcases bool_cases (!y1) with hb3 | hb3
   ·replace heq:=bif_true hb3 heq
    refine Ct (!y1) hb3<|Ra 1 [1,1,0,1,0,0,1,1,0,0,1,1,0,0] [.c [1,1,0,1,0,0,1,1,0,0,1,1,0,1],.b 1,.c [1,1,0,1,0,0,1,1,1],.l [1,1,0,1,0,0],.b 0,.c [1,1,1]]<|Rd 1 [4] [(4,.bool false)] ?_
    obtain rfl:=Option.some.inj heq
    exact RunH.done (by kernel_rfl) Tryd.func14 (v:=.bool false) (by kernel_rfl) ⟨rfl,rfl,rfl⟩
   ·replace heq:=bif_false hb3 heq
    refine Cf (!y1) hb3<|Ra 2 [1,1,0,1,0,0,1,1,1] [.l [1,1,0,1,0,0],.b 0,.c [1,1,1]]<|Rd 2 [0,1,12,13] [(0,.slice Aa0 a0.length ca0),(1,.slice Aa1 a1.length ca1),(12,iv (a0.length:Int)),(13,iv (w64 (v13+1)))]<|Ad 1 [.c [1,1,0,1,0,0],.l [1,1,0,1,0,0],.b 0,.c [1,1,1]]<|Kp [0,1,12,13] [(0,.slice Aa0 a0.length ca0),(1,.slice Aa1 a1.length ca1),(12,iv (a0.length:Int)),(13,iv (w64 (v13+1)))] ?_
    exact ihk a0 _ _ a1 _ _ (w64 (v13+1)) hra0 hca0 hra1 hca1 heq
  ·replace heq:=bif_false hb2 heq
   refine Cf (decide (v13<(a0.length:Int))) hb2<|Ad 2 [.c [1,1,1,0],.c [1,1,1,1]]<|Kp [] [] ?_
   exact he1 heq
theorem smithyardref9_SameWorkers_c {w0:World} {H:Hp} {F:List Ch} {a0:List Worker} {Aa0:Option Addr} {na0:Nat} {ca0:Nat} {a1:List Worker} {Aa1:Option Addr} {na1:Nat} {ca1:Nat} {r:Bool} (hra0:Rw kWorker H F Aa0 a0) (hca0:na0≤ca0) (hna0:na0=a0.length) (hra1:Rw kWorker H F Aa1 a1) (hca1:na1≤ca1) (hna1:na1=a1.length) (heq:smithyardref9_SameWorkers.f a0 a1=some r):CallsH Tryd.prog 14 #[.slice Aa0 na0 ca0,.slice Aa1 na1 ca1] H w0 (F) (S14 F H r):=by
 refine calls_of_runH (F:=C14) Tryd.func14 (by kernel_rfl) Tryd.ntmps14 (args:=[.slice Aa0 na0 ca0,.slice Aa1 na1 ca1]) (by kernel_rfl) ?_
 subst hna0
 subst hna1
 unfold smithyardref9_SameWorkers.f at heq
 refine Ra 1 [0] [.c [1]]<|Rd 1 [0,1] [(0,.slice Aa0 a0.length ca0),(1,.slice Aa1 a1.length ca1)]<|Ra 2 [1,0,0] [.c [1,0,1],.c [1,1]]<|Rd 5 [0,1,10] [(0,.slice Aa0 a0.length ca0),(1,.slice Aa1 a1.length ca1),(10,.bool ((a0.length:Int) != (a1.length:Int)))] ?_
 rcases bool_cases ((a0.length:Int) != (a1.length:Int)) with hb1 | hb1
 ·replace heq:=bif_true hb1 heq
  refine Ct ((a0.length:Int) != (a1.length:Int)) hb1<|Ra 1 [1,0,1,0,0] [.c [1,0,1,0,1],.c [1,1]]<|Rd 1 [4] [(4,.bool false)] ?_
  obtain rfl:=Option.some.inj heq
  exact RunH.done (by kernel_rfl) Tryd.func14 (v:=.bool false) (by kernel_rfl) ⟨rfl,rfl,rfl⟩
 ·replace heq:=bif_false hb1 heq
  refine Cf ((a0.length:Int) != (a1.length:Int)) hb1<|Ra 3 [1,1,0,0] [.c [1,1,0,1],.c [1,1,1]]<|Rd 3 [0,1,12,13] [(0,.slice Aa0 a0.length ca0),(1,.slice Aa1 a1.length ca1),(12,iv (a0.length:Int)),(13,iv 0)]<|Ad 2 [.c [1,1,0,1,0,0],.l [1,1,0,1,0,0],.b 0,.c [1,1,1]]<|Kp [0,1,12,13] [(0,.slice Aa0 a0.length ca0),(1,.slice Aa1 a1.length ca1),(12,iv (a0.length:Int)),(13,iv 0)] ?_
  exact ((smithyardref9_SameWorkers.l2_c (e1:=smithyardref9_SameWorkers.e1) (smithyardref9_SameWorkers.e1_c)) big) a0 _ _ a1 _ _ 0 hra0 hca0 hra1 hca1 heq
noncomputable def C34:Ctx:={ P:=Tryd.prog,f:=34,N:=26,c:=bodyOf Tryd.f34 }
def S34 (F:List Ch) (H0:Hp) (r:Bool) (v:Value) (H:Hp) (cs:List Ch):Prop:=H0=H∧v=.bool r∧F=cs
theorem slices_Equal_string.e1_c {w0:World} {H:Hp} {F:List Ch} {r:Bool}:slices_Equal_string.e1=some r→RunH C34 (S34 F H r) H w0 [.c [1,1,1,0],.c [1,1,1,1]] [] H (F):=by
 intro   heq
 unfold slices_Equal_string.e1 at heq
 refine Rr<|Rd 1 [4] [(4,.bool true)] ?_
 obtain rfl:=Option.some.inj heq
 exact RunH.done (by kernel_rfl) Tryd.func34 (v:=.bool true) (by kernel_rfl) ⟨rfl,rfl,rfl⟩
theorem slices_Equal_string.l2_c {w0:World} {H:Hp} {F:List Ch} {r:Bool} (e1:Option Bool)
  (he1:e1=some r→RunH C34 (S34 F H r) H w0 [.c [1,1,1,0],.c [1,1,1,1]] [] H (F)):∀ (k:Nat),∀ (a0:List ByteArray) (Aa0:Option Addr) (ca0:Nat) (a1:List ByteArray) (Aa1:Option Addr) (ca1:Nat) (v13:Int) ,Rw Kd.string H F Aa0 a0→a0.length≤ca0→Rw Kd.string H F Aa1 a1→a1.length≤ca1→slices_Equal_string.l2 e1 k a0 a1 v13=some r→RunH C34 (S34 F H r) H w0 [.c [1,1,0,1,0,0],.l [1,1,0,1,0,0],.b 0,.c [1,1,1]] [(0,.slice Aa0 a0.length ca0),(1,.slice Aa1 a1.length ca1),(12,iv (a0.length:Int)),(13,iv v13)] H (F):=by
 intro k
 induction k with
 | zero=>intro a0 Aa0 ca0 a1 Aa1 ca1 v13 hra0 hca0 hra1 hca1 heq; exact nomatch (show (none:Option Bool)=some r from heq)
 | succ k ihk =>
  intro a0 Aa0 ca0 a1 Aa1 ca1 v13 hra0 hca0 hra1 hca1 heq
  rw [slices_Equal_string.l2] at heq
  refine Ra 1 [1,1,0,1,0,0,0] [.c [1,1,0,1,0,0,1],.l [1,1,0,1,0,0],.b 0,.c [1,1,1]]<|Rd 1 [0,1,12,13,14] [(0,.slice Aa0 a0.length ca0),(1,.slice Aa1 a1.length ca1),(12,iv (a0.length:Int)),(13,iv v13),(14,.bool (decide (v13<(a0.length:Int))))]<|Ad 1 [.c [1,1,0,1,0,0,1,0],.c [1,1,0,1,0,0,1,1],.l [1,1,0,1,0,0],.b 0,.c [1,1,1]] ?_
  rcases bool_cases (decide (v13<(a0.length:Int))) with hb2 | hb2
  ·replace heq:=bif_true hb2 heq
   refine Ct (decide (v13<(a0.length:Int))) hb2<|Ra 4 [1,1,0,1,0,0,1,1,0,0,0] [.c [1,1,0,1,0,0,1,1,0,0,1],.b 1,.c [1,1,0,1,0,0,1,1,1],.l [1,1,0,1,0,0],.b 0,.c [1,1,1]]<|Rd 2 [0,1,5,12,13] [(0,.slice Aa0 a0.length ca0),(1,.slice Aa1 a1.length ca1),(5,iv v13),(12,iv (a0.length:Int)),(13,iv v13)]<|Ad 1 [.c [1,1,0,1,0,0,1,1,0,0,1,0],.c [1,1,0,1,0,0,1,1,0,0,1,1],.b 1,.c [1,1,0,1,0,0,1,1,1],.l [1,1,0,1,0,0],.b 0,.c [1,1,1]]<|Kp [0,1,5,12,13] [(0,.slice Aa0 a0.length ca0),(1,.slice Aa1 a1.length ca1),(5,iv v13),(12,iv (a0.length:Int)),(13,iv v13)] ?_
   refine RunH.draw (fun w=>Heap H w0 w (F)) (fun w=>Heap H w0 w (F)) [3,3,3,3,3,3,3,3,3] (n:=9) (ls:=[false,false,false,false,false,false,false,false,false]) (by kernel_rfl) (by kernel_rfl) (by kernel_rfl) rfl ?_
   obtain ⟨x1,hx1,heq⟩:=bind_some heq
   obtain ⟨ha1,cs1,hK1,hcc1⟩:=hra0.get hx1
   obtain rfl:cs1=[.string x1]:=hK1
   obtain ⟨x2,hx2,heq⟩:=bind_some heq
   obtain ⟨ha2,cs2,hK2,hcc2⟩:=hra1.get hx2
   obtain rfl:cs2=[.string x2]:=hK2
   refine Dk [0,1,2,3,4,5,6,7,8] 0 (nb 9 511) [.string x1,.string x2] [.need (Aa0=some (adr Aa0)∧(0:Int)≤v13∧v13<((a0.length:Nat):Int)),.load ((adr Aa0).add (v13.toNat*1)) (.string x1),.need (Aa1=some (adr Aa1)∧(0:Int)≤v13∧v13<((a1.length:Nat):Int)),.load ((adr Aa1).add (v13.toNat*1)) (.string x2)] [0,1,12,13,24] [(0,.slice Aa0 a0.length ca0),(1,.slice Aa1 a1.length ca1),(12,iv (a0.length:Int)),(13,iv v13),(24,.bool (!sEq x1 x2))] (Pk 0 []) (Pk 0 []) (fun w hh=>⟨⟨ha1,(at?_some hx1).1,(at?_some hx1).2.1⟩,(hcc1 _ _ (hh.drop 0) 0 _ rfl),⟨ha2,(at?_some hx2).1,(at?_some hx2).2.1⟩,(hcc2 _ _ (hh.drop 0) 0 _ rfl)⟩) ?_
   refine DrH.done (by kernel_rfl) ?_
   rcases bool_cases (!sEq x1 x2) with hb3 | hb3
   ·replace heq:=bif_true hb3 heq
    refine Ct (!sEq x1 x2) hb3<|Ra 1 [1,1,0,1,0,0,1,1,0,0,1,1,0,0] [.c [1,1,0,1,0,0,1,1,0,0,1,1,0,1],.b 1,.c [1,1,0,1,0,0,1,1,1],.l [1,1,0,1,0,0],.b 0,.c [1,1,1]]<|Rd 1 [4] [(4,.bool false)] ?_
    obtain rfl:=Option.some.inj heq
    exact RunH.done (by kernel_rfl) Tryd.func34 (v:=.bool false) (by kernel_rfl) ⟨rfl,rfl,rfl⟩
   ·replace heq:=bif_false hb3 heq
    refine Cf (!sEq x1 x2) hb3<|Ra 2 [1,1,0,1,0,0,1,1,1] [.l [1,1,0,1,0,0],.b 0,.c [1,1,1]]<|Rd 2 [0,1,12,13] [(0,.slice Aa0 a0.length ca0),(1,.slice Aa1 a1.length ca1),(12,iv (a0.length:Int)),(13,iv (w64 (v13+1)))]<|Ad 1 [.c [1,1,0,1,0,0],.l [1,1,0,1,0,0],.b 0,.c [1,1,1]]<|Kp [0,1,12,13] [(0,.slice Aa0 a0.length ca0),(1,.slice Aa1 a1.length ca1),(12,iv (a0.length:Int)),(13,iv (w64 (v13+1)))] ?_
    exact ihk a0 _ _ a1 _ _ (w64 (v13+1)) hra0 hca0 hra1 hca1 heq
  ·replace heq:=bif_false hb2 heq
   refine Cf (decide (v13<(a0.length:Int))) hb2<|Ad 2 [.c [1,1,1,0],.c [1,1,1,1]]<|Kp [] [] ?_
   exact he1 heq
theorem slices_Equal_string_c {w0:World} {H:Hp} {F:List Ch} {a0:List ByteArray} {Aa0:Option Addr} {na0:Nat} {ca0:Nat} {a1:List ByteArray} {Aa1:Option Addr} {na1:Nat} {ca1:Nat} {r:Bool} (hra0:Rw Kd.string H F Aa0 a0) (hca0:na0≤ca0) (hna0:na0=a0.length) (hra1:Rw Kd.string H F Aa1 a1) (hca1:na1≤ca1) (hna1:na1=a1.length) (heq:slices_Equal_string.f a0 a1=some r):CallsH Tryd.prog 34 #[.slice Aa0 na0 ca0,.slice Aa1 na1 ca1] H w0 (F) (S34 F H r):=by
 refine calls_of_runH (F:=C34) Tryd.func34 (by kernel_rfl) Tryd.ntmps34 (args:=[.slice Aa0 na0 ca0,.slice Aa1 na1 ca1]) (by kernel_rfl) ?_
 subst hna0
 subst hna1
 unfold slices_Equal_string.f at heq
 refine Ra 1 [0] [.c [1]]<|Rd 1 [0,1] [(0,.slice Aa0 a0.length ca0),(1,.slice Aa1 a1.length ca1)]<|Ra 2 [1,0,0] [.c [1,0,1],.c [1,1]]<|Rd 5 [0,1,10] [(0,.slice Aa0 a0.length ca0),(1,.slice Aa1 a1.length ca1),(10,.bool ((a0.length:Int) != (a1.length:Int)))] ?_
 rcases bool_cases ((a0.length:Int) != (a1.length:Int)) with hb1 | hb1
 ·replace heq:=bif_true hb1 heq
  refine Ct ((a0.length:Int) != (a1.length:Int)) hb1<|Ra 1 [1,0,1,0,0] [.c [1,0,1,0,1],.c [1,1]]<|Rd 1 [4] [(4,.bool false)] ?_
  obtain rfl:=Option.some.inj heq
  exact RunH.done (by kernel_rfl) Tryd.func34 (v:=.bool false) (by kernel_rfl) ⟨rfl,rfl,rfl⟩
 ·replace heq:=bif_false hb1 heq
  refine Cf ((a0.length:Int) != (a1.length:Int)) hb1<|Ra 3 [1,1,0,0] [.c [1,1,0,1],.c [1,1,1]]<|Rd 3 [0,1,12,13] [(0,.slice Aa0 a0.length ca0),(1,.slice Aa1 a1.length ca1),(12,iv (a0.length:Int)),(13,iv 0)]<|Ad 2 [.c [1,1,0,1,0,0],.l [1,1,0,1,0,0],.b 0,.c [1,1,1]]<|Kp [0,1,12,13] [(0,.slice Aa0 a0.length ca0),(1,.slice Aa1 a1.length ca1),(12,iv (a0.length:Int)),(13,iv 0)] ?_
  exact ((slices_Equal_string.l2_c (e1:=slices_Equal_string.e1) (slices_Equal_string.e1_c)) big) a0 _ _ a1 _ _ 0 hra0 hca0 hra1 hca1 heq
noncomputable def C17:Ctx:={ P:=Tryd.prog,f:=17,N:=31,c:=bodyOf Tryd.f17 }
def S17 (F:List Ch) (H0:Hp) (r:Bool) (v:Value) (H:Hp) (cs:List Ch):Prop:=H0=H∧v=.bool r∧F=cs
theorem smithyardref9_SameWork_c {w0:World} {H:Hp} {F:List Ch} {a0:Work} {Aa0_1:Option Addr} {na0_1:Nat} {ca0_1:Nat} {Aa0_3:Option Addr} {na0_3:Nat} {ca0_3:Nat} {a1:Work} {Aa1_1:Option Addr} {na1_1:Nat} {ca1_1:Nat} {Aa1_3:Option Addr} {na1_3:Nat} {ca1_3:Nat} {r:Bool} (hra0_1:Rw kPair H F Aa0_1 a0.Needs) (hca0_1:na0_1≤ca0_1) (hna0_1:na0_1=a0.Needs.length) (hra0_3:Rw Kd.string H F Aa0_3 a0.After) (hca0_3:na0_3≤ca0_3) (hna0_3:na0_3=a0.After.length) (hra1_1:Rw kPair H F Aa1_1 a1.Needs) (hca1_1:na1_1≤ca1_1) (hna1_1:na1_1=a1.Needs.length) (hra1_3:Rw Kd.string H F Aa1_3 a1.After) (hca1_3:na1_3≤ca1_3) (hna1_3:na1_3=a1.After.length) (heq:smithyardref9_SameWork.f a0 a1=some r):CallsH Tryd.prog 17 #[.agg #[.string a0.Id,.slice Aa0_1 na0_1 ca0_1,iv a0.Size,.slice Aa0_3 na0_3 ca0_3],.agg #[.string a1.Id,.slice Aa1_1 na1_1 ca1_1,iv a1.Size,.slice Aa1_3 na1_3 ca1_3]] H w0 (F) (S17 F H r):=by
 refine calls_of_runH (F:=C17) Tryd.func17 (by kernel_rfl) Tryd.ntmps17 (args:=[.agg #[.string a0.Id,.slice Aa0_1 na0_1 ca0_1,iv a0.Size,.slice Aa0_3 na0_3 ca0_3],.agg #[.string a1.Id,.slice Aa1_1 na1_1 ca1_1,iv a1.Size,.slice Aa1_3 na1_3 ca1_3]]) (by kernel_rfl) ?_
 subst hna0_1
 subst hna0_3
 subst hna1_1
 subst hna1_3
 unfold smithyardref9_SameWork.f at heq
 refine Ra 1 [0] [.c [1]] ?_
 refine RgH.does (DoesH.new (d:=2) (v:=fun g=>.pointer (some ⟨g,0,none⟩)) (o:=fun g=>.cells #[.string a0.Id,.slice Aa0_1 a0.Needs.length ca0_1,iv a0.Size,.slice Aa0_3 a0.After.length ca0_3] 30 (0,0)) (fun g=>by kernel_rfl)) ?_
 rintro _ _ _ _ ⟨g1,rfl,rfl,rfl⟩
 refine RgH.does (DoesH.new (d:=3) (v:=fun g=>.pointer (some ⟨g,0,none⟩)) (o:=fun g=>.cells #[.string a1.Id,.slice Aa1_1 a1.Needs.length ca1_1,iv a1.Size,.slice Aa1_3 a1.After.length ca1_3] 30 (0,0)) (fun g=>by kernel_rfl)) ?_
 rintro _ _ _ _ ⟨g2,rfl,rfl,rfl⟩
 refine Rd 3 [2,3] [(2,pg g1 0),(3,pg g2 0)]<|Ad 1 [.c [1,0],.c [1,1]] ?_
 obtain ⟨t1,ht1,heq⟩:=bind_some heq
 have K3:RunH C17 (S17 F H r) H w0 [.c [1,1]] [(4,.bool t1)] H (F):=by
  obtain rfl:=Option.some.inj heq
  exact RunH.done (by kernel_rfl) Tryd.func17 (v:=.bool t1) (by kernel_rfl) ⟨rfl,rfl,rfl⟩
 replace heq:=ht1
 refine Rr<|Rv 6 [10,2,3] [.string a0.Id,.string a1.Id] [.load ⟨g1,0,none⟩ (.string a0.Id),.load ⟨g2,0,none⟩ (.string a1.Id)] [(10,.bool (sEq a0.Id a1.Id)),(2,pg g1 0),(3,pg g2 0)] (fun w hh=>⟨(hh.box 1 rfl rfl),(hh.box 0 rfl rfl)⟩) ?_
 rcases bool_cases (sEq a0.Id a1.Id) with hb1 | hb1
 ·replace heq:=bif_true hb1 heq
  refine RgH.val1 (v':=.bool true) (congrArg Value.bool hb1) ?_
  refine Rv 10 [2,3,10,12,14] [.slice Aa0_1 a0.Needs.length ca0_1,.slice Aa1_1 a1.Needs.length ca1_1] [.load ⟨g1,1,none⟩ (.slice Aa0_1 a0.Needs.length ca0_1),.load ⟨g2,1,none⟩ (.slice Aa1_1 a1.Needs.length ca1_1)] [(2,pg g1 0),(3,pg g2 0),(10,.bool true),(12,.slice Aa0_1 a0.Needs.length ca0_1),(14,.slice Aa1_1 a1.Needs.length ca1_1)] (fun w hh=>⟨(hh.box 1 rfl rfl),(hh.box 0 rfl rfl)⟩) ?_
  obtain ⟨y1,hy1,heq⟩:=bind_some heq
  refine RgH.does (DoesH.call (d:=15) (g:=32) (args:=#[.slice Aa0_1 a0.Needs.length ca0_1,.slice Aa1_1 a1.Needs.length ca1_1]) (by kernel_rfl) (slices_Equal_Pair_c (a0:=a0.Needs) (a1:=a1.Needs) (hra0_1.wk (fun _ h=>(.tail _ (.tail _ h)))) hca0_1 rfl (hra1_1.wk (fun _ h=>(.tail _ (.tail _ h)))) hca1_1 rfl hy1)) ?_
  rintro _ _ _ _ ⟨_,rfl,rfl,rfl,rfl⟩
  refine Rk 13 [17,2,3] [(17,.bool y1),(2,pg g1 0),(3,pg g2 0)] ?_
  rcases bool_cases (y1) with hb2 | hb2
  ·replace heq:=bif_true hb2 heq
   refine RgH.val1 (v':=.bool true) (congrArg Value.bool hb2) ?_
   refine Rv 20 [24,2,3] [iv a0.Size,iv a1.Size] [.load ⟨g1,2,none⟩ (iv a0.Size),.load ⟨g2,2,none⟩ (iv a1.Size)] [(24,.bool (a0.Size == a1.Size)),(2,pg g1 0),(3,pg g2 0)] (fun w hh=>⟨(hh.box 1 rfl rfl),(hh.box 0 rfl rfl)⟩) ?_
   rcases bool_cases (a0.Size == a1.Size) with hb3 | hb3
   ·replace heq:=bif_true hb3 heq
    refine RgH.val1 (v':=.bool true) (congrArg Value.bool hb3) ?_
    refine Rv 24 [24,26,28] [.slice Aa0_3 a0.After.length ca0_3,.slice Aa1_3 a1.After.length ca1_3] [.load ⟨g1,3,none⟩ (.slice Aa0_3 a0.After.length ca0_3),.load ⟨g2,3,none⟩ (.slice Aa1_3 a1.After.length ca1_3)] [(24,.bool true),(26,.slice Aa0_3 a0.After.length ca0_3),(28,.slice Aa1_3 a1.After.length ca1_3)] (fun w hh=>⟨(hh.box 1 rfl rfl),(hh.box 0 rfl rfl)⟩) ?_
    obtain ⟨y2,hy2,heq⟩:=bind_some heq
    refine RgH.does (DoesH.call (d:=29) (g:=34) (args:=#[.slice Aa0_3 a0.After.length ca0_3,.slice Aa1_3 a1.After.length ca1_3]) (by kernel_rfl) (slices_Equal_string_c (a0:=a0.After) (a1:=a1.After) (hra0_3.wk (fun _ h=>(.tail _ (.tail _ h)))) hca0_3 rfl (hra1_3.wk (fun _ h=>(.tail _ (.tail _ h)))) hca1_3 rfl hy2)) ?_
    rintro _ _ _ _ ⟨_,rfl,rfl,rfl,rfl⟩
    refine Rk 27 [4] [(4,.bool y2)] ?_
    obtain rfl:=Option.some.inj heq
    refine Kg [4] [(4,.bool y2)] ?_
    refine RgH.pick 2 [] (cs':=F) (by kernel_rfl) rfl ?_
    refine Dn ?_
    exact K3
   ·replace heq:=bif_false hb3 heq
    refine RgH.val1 (v':=.bool false) (congrArg Value.bool hb3) ?_
    refine Rk 27 [4] [(4,.bool false)] ?_
    obtain rfl:=Option.some.inj heq
    refine Kg [4] [(4,.bool false)] ?_
    refine RgH.pick 2 [] (cs':=F) (by kernel_rfl) rfl ?_
    refine Dn ?_
    exact K3
  ·replace heq:=bif_false hb2 heq
   refine RgH.val1 (v':=.bool false) (congrArg Value.bool hb2) ?_
   refine Rk 27 [4] [(4,.bool false)] ?_
   obtain rfl:=Option.some.inj heq
   refine Kg [4] [(4,.bool false)] ?_
   refine RgH.pick 2 [] (cs':=F) (by kernel_rfl) rfl ?_
   refine Dn ?_
   exact K3
 ·replace heq:=bif_false hb1 heq
  refine RgH.val1 (v':=.bool false) (congrArg Value.bool hb1) ?_
  refine Rk 27 [4] [(4,.bool false)] ?_
  obtain rfl:=Option.some.inj heq
  refine Kg [4] [(4,.bool false)] ?_
  refine RgH.pick 2 [] (cs':=F) (by kernel_rfl) rfl ?_
  refine Dn ?_
  exact K3
noncomputable def C15:Ctx:={ P:=Tryd.prog,f:=15,N:=27,c:=bodyOf Tryd.f15 }
def S15 (F:List Ch) (H0:Hp) (r:Bool) (v:Value) (H:Hp) (cs:List Ch):Prop:=H0=H∧v=.bool r∧F=cs
theorem smithyardref9_SameWorks.e1_c {w0:World} {H:Hp} {F:List Ch} {r:Bool}:smithyardref9_SameWorks.e1=some r→RunH C15 (S15 F H r) H w0 [.c [1,1,1,0],.c [1,1,1,1]] [] H (F):=by
 intro   heq
 unfold smithyardref9_SameWorks.e1 at heq
 refine Rr<|Rd 1 [4] [(4,.bool true)] ?_
 obtain rfl:=Option.some.inj heq
 exact RunH.done (by kernel_rfl) Tryd.func15 (v:=.bool true) (by kernel_rfl) ⟨rfl,rfl,rfl⟩
theorem smithyardref9_SameWorks.l2_c {w0:World} {H:Hp} {F:List Ch} {r:Bool} (e1:Option Bool)
  (he1:e1=some r→RunH C15 (S15 F H r) H w0 [.c [1,1,1,0],.c [1,1,1,1]] [] H (F)):∀ (k:Nat),∀ (a0:List Work) (Aa0:Option Addr) (ca0:Nat) (a1:List Work) (Aa1:Option Addr) (ca1:Nat) (v13:Int) ,Rw kWork H F Aa0 a0→a0.length≤ca0→Rw kWork H F Aa1 a1→a1.length≤ca1→smithyardref9_SameWorks.l2 e1 k a0 a1 v13=some r→RunH C15 (S15 F H r) H w0 [.c [1,1,0,1,0,0],.l [1,1,0,1,0,0],.b 0,.c [1,1,1]] [(0,.slice Aa0 a0.length ca0),(1,.slice Aa1 a1.length ca1),(12,iv (a0.length:Int)),(13,iv v13)] H (F):=by
 intro k
 induction k with
 | zero=>intro a0 Aa0 ca0 a1 Aa1 ca1 v13 hra0 hca0 hra1 hca1 heq; exact nomatch (show (none:Option Bool)=some r from heq)
 | succ k ihk =>
  intro a0 Aa0 ca0 a1 Aa1 ca1 v13 hra0 hca0 hra1 hca1 heq
  rw [smithyardref9_SameWorks.l2] at heq
  refine Ra 1 [1,1,0,1,0,0,0] [.c [1,1,0,1,0,0,1],.l [1,1,0,1,0,0],.b 0,.c [1,1,1]]<|Rd 1 [0,1,12,13,14] [(0,.slice Aa0 a0.length ca0),(1,.slice Aa1 a1.length ca1),(12,iv (a0.length:Int)),(13,iv v13),(14,.bool (decide (v13<(a0.length:Int))))]<|Ad 1 [.c [1,1,0,1,0,0,1,0],.c [1,1,0,1,0,0,1,1],.l [1,1,0,1,0,0],.b 0,.c [1,1,1]] ?_
  rcases bool_cases (decide (v13<(a0.length:Int))) with hb2 | hb2
  ·replace heq:=bif_true hb2 heq
   refine Ct (decide (v13<(a0.length:Int))) hb2<|Ra 4 [1,1,0,1,0,0,1,1,0,0,0] [.c [1,1,0,1,0,0,1,1,0,0,1],.b 1,.c [1,1,0,1,0,0,1,1,1],.l [1,1,0,1,0,0],.b 0,.c [1,1,1]]<|Rd 2 [0,1,5,12,13] [(0,.slice Aa0 a0.length ca0),(1,.slice Aa1 a1.length ca1),(5,iv v13),(12,iv (a0.length:Int)),(13,iv v13)]<|Ad 1 [.c [1,1,0,1,0,0,1,1,0,0,1,0],.c [1,1,0,1,0,0,1,1,0,0,1,1],.b 1,.c [1,1,0,1,0,0,1,1,1],.l [1,1,0,1,0,0],.b 0,.c [1,1,1]]<|Kp [0,1,5,12,13] [(0,.slice Aa0 a0.length ca0),(1,.slice Aa1 a1.length ca1),(5,iv v13),(12,iv (a0.length:Int)),(13,iv v13)] ?_
   refine RunH.draw (fun w=>Heap H w0 w (F)) (fun w=>Heap H w0 w (F)) [3,3,3,3,3,3,3,3,0,3] (n:=10) (ls:=[false,false,false,false,false,false,false,false,false,false]) (by kernel_rfl) (by kernel_rfl) (by kernel_rfl) rfl ?_
   obtain ⟨x1,hx1,heq⟩:=bind_some heq
   obtain ⟨ha1,cs1,hK1,hcc1⟩:=hra0.get hx1
   obtain ⟨A1,c1,A2,c2,rfl,hc1,hr1,hc2,hr2⟩:=kWork_open hK1
   obtain ⟨x2,hx2,heq⟩:=bind_some heq
   obtain ⟨ha2,cs2,hK2,hcc2⟩:=hra1.get hx2
   obtain ⟨A3,c3,A4,c4,rfl,hc3,hr3,hc4,hr4⟩:=kWork_open hK2
   refine Dk [0,1,2,3,4,5,6,7] 2 (nb 10 255) [.string x1.Id,.slice A1 x1.Needs.length c1,iv x1.Size,.slice A2 x1.After.length c2,.string x2.Id,.slice A3 x2.Needs.length c3,iv x2.Size,.slice A4 x2.After.length c4] [.need (Aa0=some (adr Aa0)∧(0:Int)≤v13∧v13<((a0.length:Nat):Int)),.load (((adr Aa0).add (v13.toNat*4)).add 0) (.string x1.Id),.load (((adr Aa0).add (v13.toNat*4)).add 1) (.slice A1 x1.Needs.length c1),.load (((adr Aa0).add (v13.toNat*4)).add 2) (iv x1.Size),.load (((adr Aa0).add (v13.toNat*4)).add 3) (.slice A2 x1.After.length c2),.need (Aa1=some (adr Aa1)∧(0:Int)≤v13∧v13<((a1.length:Nat):Int)),.load (((adr Aa1).add (v13.toNat*4)).add 0) (.string x2.Id),.load (((adr Aa1).add (v13.toNat*4)).add 1) (.slice A3 x2.Needs.length c3),.load (((adr Aa1).add (v13.toNat*4)).add 2) (iv x2.Size),.load (((adr Aa1).add (v13.toNat*4)).add 3) (.slice A4 x2.After.length c4)] [0,1,12,13,19,23] [(0,.slice Aa0 a0.length ca0),(1,.slice Aa1 a1.length ca1),(12,iv (a0.length:Int)),(13,iv v13),(19,.agg #[.string x1.Id,.slice A1 x1.Needs.length c1,iv x1.Size,.slice A2 x1.After.length c2]),(23,.agg #[.string x2.Id,.slice A3 x2.Needs.length c3,iv x2.Size,.slice A4 x2.After.length c4])] (Pk 0 []) (Pk 0 []) (fun w hh=>⟨⟨ha1,(at?_some hx1).1,(at?_some hx1).2.1⟩,(hcc1 _ _ (hh.drop 0) 0 _ rfl),(hcc1 _ _ (hh.drop 0) 1 _ rfl),(hcc1 _ _ (hh.drop 0) 2 _ rfl),(hcc1 _ _ (hh.drop 0) 3 _ rfl),⟨ha2,(at?_some hx2).1,(at?_some hx2).2.1⟩,(hcc2 _ _ (hh.drop 0) 0 _ rfl),(hcc2 _ _ (hh.drop 0) 1 _ rfl),(hcc2 _ _ (hh.drop 0) 2 _ rfl),(hcc2 _ _ (hh.drop 0) 3 _ rfl)⟩) ?_
   obtain ⟨y1,hy1,heq⟩:=bind_some heq
   refine DrH.does (n:=1) (ls':=[true,true,true,true,true,true,true,true,true,false]) 8 (by kernel_rfl) rfl (DoesH.call (d:=24) (g:=17) (args:=#[.agg #[.string x1.Id,.slice A1 x1.Needs.length c1,iv x1.Size,.slice A2 x1.After.length c2],.agg #[.string x2.Id,.slice A3 x2.Needs.length c3,iv x2.Size,.slice A4 x2.After.length c4]]) (by kernel_rfl) (smithyardref9_SameWork_c (a0:=x1) (a1:=x2) (Rw.of hr1) hc1 rfl (Rw.of hr2) hc2 rfl (Rw.of hr3) hc3 rfl (Rw.of hr4) hc4 rfl hy1)) ?_
   rintro _ _ _ _ ⟨_,rfl,rfl,rfl,rfl⟩
   refine ⟨fun _ w hh=>⟨fun _=>(Pk 0 []) w hh,fun _=>(Pk 0 []) w hh,(fun h=>by cases h)⟩,?_⟩
   refine Dk [9] 0 (nb 10 1023) [] [] [0,1,12,13,25] [(0,.slice Aa0 a0.length ca0),(1,.slice Aa1 a1.length ca1),(12,iv (a0.length:Int)),(13,iv v13),(25,.bool (!y1))] (Pk 0 []) (Pk 0 []) (fun _ _=>trivial) ?_
   refine DrH.done (by kernel_rfl) ?_
   rcases bool_cases (!y1) with hb3 | hb3
   ·replace heq:=bif_true hb3 heq
    refine Ct (!y1) hb3<|Ra 1 [1,1,0,1,0,0,1,1,0,0,1,1,0,0] [.c [1,1,0,1,0,0,1,1,0,0,1,1,0,1],.b 1,.c [1,1,0,1,0,0,1,1,1],.l [1,1,0,1,0,0],.b 0,.c [1,1,1]]<|Rd 1 [4] [(4,.bool false)] ?_
    obtain rfl:=Option.some.inj heq
    exact RunH.done (by kernel_rfl) Tryd.func15 (v:=.bool false) (by kernel_rfl) ⟨rfl,rfl,rfl⟩
   ·replace heq:=bif_false hb3 heq
    refine Cf (!y1) hb3<|Ra 2 [1,1,0,1,0,0,1,1,1] [.l [1,1,0,1,0,0],.b 0,.c [1,1,1]]<|Rd 2 [0,1,12,13] [(0,.slice Aa0 a0.length ca0),(1,.slice Aa1 a1.length ca1),(12,iv (a0.length:Int)),(13,iv (w64 (v13+1)))]<|Ad 1 [.c [1,1,0,1,0,0],.l [1,1,0,1,0,0],.b 0,.c [1,1,1]]<|Kp [0,1,12,13] [(0,.slice Aa0 a0.length ca0),(1,.slice Aa1 a1.length ca1),(12,iv (a0.length:Int)),(13,iv (w64 (v13+1)))] ?_
    exact ihk a0 _ _ a1 _ _ (w64 (v13+1)) hra0 hca0 hra1 hca1 heq
  ·replace heq:=bif_false hb2 heq
   refine Cf (decide (v13<(a0.length:Int))) hb2<|Ad 2 [.c [1,1,1,0],.c [1,1,1,1]]<|Kp [] [] ?_
   exact he1 heq
theorem smithyardref9_SameWorks_c {w0:World} {H:Hp} {F:List Ch} {a0:List Work} {Aa0:Option Addr} {na0:Nat} {ca0:Nat} {a1:List Work} {Aa1:Option Addr} {na1:Nat} {ca1:Nat} {r:Bool} (hra0:Rw kWork H F Aa0 a0) (hca0:na0≤ca0) (hna0:na0=a0.length) (hra1:Rw kWork H F Aa1 a1) (hca1:na1≤ca1) (hna1:na1=a1.length) (heq:smithyardref9_SameWorks.f a0 a1=some r):CallsH Tryd.prog 15 #[.slice Aa0 na0 ca0,.slice Aa1 na1 ca1] H w0 (F) (S15 F H r):=by
 refine calls_of_runH (F:=C15) Tryd.func15 (by kernel_rfl) Tryd.ntmps15 (args:=[.slice Aa0 na0 ca0,.slice Aa1 na1 ca1]) (by kernel_rfl) ?_
 subst hna0
 subst hna1
 unfold smithyardref9_SameWorks.f at heq
 refine Ra 1 [0] [.c [1]]<|Rd 1 [0,1] [(0,.slice Aa0 a0.length ca0),(1,.slice Aa1 a1.length ca1)]<|Ra 2 [1,0,0] [.c [1,0,1],.c [1,1]]<|Rd 5 [0,1,10] [(0,.slice Aa0 a0.length ca0),(1,.slice Aa1 a1.length ca1),(10,.bool ((a0.length:Int) != (a1.length:Int)))] ?_
 rcases bool_cases ((a0.length:Int) != (a1.length:Int)) with hb1 | hb1
 ·replace heq:=bif_true hb1 heq
  refine Ct ((a0.length:Int) != (a1.length:Int)) hb1<|Ra 1 [1,0,1,0,0] [.c [1,0,1,0,1],.c [1,1]]<|Rd 1 [4] [(4,.bool false)] ?_
  obtain rfl:=Option.some.inj heq
  exact RunH.done (by kernel_rfl) Tryd.func15 (v:=.bool false) (by kernel_rfl) ⟨rfl,rfl,rfl⟩
 ·replace heq:=bif_false hb1 heq
  refine Cf ((a0.length:Int) != (a1.length:Int)) hb1<|Ra 3 [1,1,0,0] [.c [1,1,0,1],.c [1,1,1]]<|Rd 3 [0,1,12,13] [(0,.slice Aa0 a0.length ca0),(1,.slice Aa1 a1.length ca1),(12,iv (a0.length:Int)),(13,iv 0)]<|Ad 2 [.c [1,1,0,1,0,0],.l [1,1,0,1,0,0],.b 0,.c [1,1,1]]<|Kp [0,1,12,13] [(0,.slice Aa0 a0.length ca0),(1,.slice Aa1 a1.length ca1),(12,iv (a0.length:Int)),(13,iv 0)] ?_
  exact ((smithyardref9_SameWorks.l2_c (e1:=smithyardref9_SameWorks.e1) (smithyardref9_SameWorks.e1_c)) big) a0 _ _ a1 _ _ 0 hra0 hca0 hra1 hca1 heq
noncomputable def C51:Ctx:={ P:=Tryd.prog,f:=51,N:=14,c:=bodyOf Tryd.f51 }
def S51 (F:List Ch) (H0:Hp) (r:Int) (v:Value) (H:Hp) (cs:List Ch):Prop:=H0=H∧v=iv r∧F=cs
theorem workers_checkSize_c {w0:World} {H:Hp} {F:List Ch} {a0:Worker} {Aa0_1:Option Addr} {na0_1:Nat} {ca0_1:Nat} {Aa0_6:Option Addr} {na0_6:Nat} {ca0_6:Nat} {a1:Int} {r:Int} (hra0_1:Rw kPair H F Aa0_1 a0.Has) (hca0_1:na0_1≤ca0_1) (hna0_1:na0_1=a0.Has.length) (hra0_6:Rw kSpan H F Aa0_6 a0.Stands) (hca0_6:na0_6≤ca0_6) (hna0_6:na0_6=a0.Stands.length) (heq:workers_checkSize.f a0 a1=some r):CallsH Tryd.prog 51 #[.agg #[.string a0.Name,.slice Aa0_1 na0_1 ca0_1,iv a0.Slots,iv a0.Speed,iv a0.From,iv a0.To,.slice Aa0_6 na0_6 ca0_6],iv a1] H w0 (F) (S51 F H r):=by
 refine calls_of_runH (F:=C51) Tryd.func51 (by kernel_rfl) Tryd.ntmps51 (args:=[.agg #[.string a0.Name,.slice Aa0_1 na0_1 ca0_1,iv a0.Slots,iv a0.Speed,iv a0.From,iv a0.To,.slice Aa0_6 na0_6 ca0_6],iv a1]) (by kernel_rfl) ?_
 subst hna0_1
 subst hna0_6
 unfold workers_checkSize.f at heq
 refine Ra 1 [0] [.c [1]] ?_
 refine RgH.does (DoesH.new (d:=2) (v:=fun g=>.pointer (some ⟨g,0,none⟩)) (o:=fun g=>.cells #[.string a0.Name,.slice Aa0_1 a0.Has.length ca0_1,iv a0.Slots,iv a0.Speed,iv a0.From,iv a0.To,.slice Aa0_6 a0.Stands.length ca0_6] 27 (0,0)) (fun g=>by kernel_rfl)) ?_
 rintro _ _ _ _ ⟨g1,rfl,rfl,rfl⟩
 refine Rd 2 [1,2] [(1,iv a1),(2,pg g1 0)]<|Ra 2 [1,0,0] [.c [1,0,1],.c [1,1]]<|Rv 1 [1,6] [.string a0.Name,.slice Aa0_1 a0.Has.length ca0_1,iv a0.Slots,iv a0.Speed,iv a0.From,iv a0.To,.slice Aa0_6 a0.Stands.length ca0_6] [.load ⟨g1,0,none⟩ (.string a0.Name),.load ⟨g1,1,none⟩ (.slice Aa0_1 a0.Has.length ca0_1),.load ⟨g1,2,none⟩ (iv a0.Slots),.load ⟨g1,3,none⟩ (iv a0.Speed),.load ⟨g1,4,none⟩ (iv a0.From),.load ⟨g1,5,none⟩ (iv a0.To),.load ⟨g1,6,none⟩ (.slice Aa0_6 a0.Stands.length ca0_6)] [(1,iv a1),(6,.agg #[.string a0.Name,.slice Aa0_1 a0.Has.length ca0_1,iv a0.Slots,iv a0.Speed,iv a0.From,iv a0.To,.slice Aa0_6 a0.Stands.length ca0_6])] (fun w hh=>⟨(hh.box 0 rfl rfl),(hh.box 0 rfl rfl),(hh.box 0 rfl rfl),(hh.box 0 rfl rfl),(hh.box 0 rfl rfl),(hh.box 0 rfl rfl),(hh.box 0 rfl rfl)⟩) ?_
 obtain ⟨y1,hy1,heq⟩:=bind_some heq
 refine RgH.does (DoesH.call (d:=7) (g:=22) (args:=#[.agg #[.string a0.Name,.slice Aa0_1 a0.Has.length ca0_1,iv a0.Slots,iv a0.Speed,iv a0.From,iv a0.To,.slice Aa0_6 a0.Stands.length ca0_6]]) (by kernel_rfl) (workers_checkWorker_c (a0:=a0) (hra0_1.wk (fun _ h=>(.tail _ h))) hca0_1 rfl (hra0_6.wk (fun _ h=>(.tail _ h))) hca0_6 rfl hy1)) ?_
 rintro _ _ _ _ ⟨_,rfl,rfl,rfl,rfl⟩
 refine Rd 3 [1,5] [(1,iv a1),(5,iv y1)]<|Ra 1 [1,0,1,0] [.c [1,0,1,1],.c [1,1]]<|Rd 2 [1,5,9] [(1,iv a1),(5,iv y1),(9,.bool (y1 != 0))] ?_
 rcases bool_cases (y1 != 0) with hb1 | hb1
 ·replace heq:=bif_true hb1 heq
  refine Ct (y1 != 0) hb1<|Ra 1 [1,0,1,1,0,0] [.c [1,0,1,1,0,1],.c [1,1]]<|Rd 2 [4] [(4,iv y1)] ?_
  obtain rfl:=Option.some.inj heq
  refine RunH.pick 1 [] (cs':=F) (by kernel_rfl) rfl ?_
  exact RunH.done (by kernel_rfl) Tryd.func51 (v:=iv y1) (by kernel_rfl) ⟨rfl,rfl,rfl⟩
 ·replace heq:=bif_false hb1 heq
  refine Cf (y1 != 0) hb1<|Ra 3 [1,1,0,0] [.c [1,1,0,1],.c [1,1,1]]<|Rk 1 [11] [(11,iv a1)] ?_
  obtain ⟨y2,hy2,heq⟩:=bind_some heq
  refine RgH.does (DoesH.call (d:=12) (g:=38) (args:=#[iv a1,iv 1,iv 1000000]) (by kernel_rfl) (workers_within_c (a0:=a1) (a1:=1) (a2:=1000000)  hy2)) ?_
  rintro _ _ _ _ ⟨_,rfl,rfl,rfl,rfl⟩
  refine Rd 3 [13] [(13,.bool (!y2))] ?_
  rcases bool_cases (!y2) with hb2 | hb2
  ·replace heq:=bif_true hb2 heq
   refine Ct (!y2) hb2<|Ra 1 [1,1,0,1,0,0] [.c [1,1,0,1,0,1],.c [1,1,1]]<|Rd 1 [4] [(4,iv 1)] ?_
   obtain rfl:=Option.some.inj heq
   refine RunH.pick 1 [] (cs':=F) (by kernel_rfl) rfl ?_
   exact RunH.done (by kernel_rfl) Tryd.func51 (v:=iv 1) (by kernel_rfl) ⟨rfl,rfl,rfl⟩
  ·replace heq:=bif_false hb2 heq
   refine Cf (!y2) hb2<|Ra 2 [1,1,1,0] [.c [1,1,1,1]]<|Rd 1 [4] [(4,iv 0)] ?_
   obtain rfl:=Option.some.inj heq
   refine RunH.pick 1 [] (cs':=F) (by kernel_rfl) rfl ?_
   exact RunH.done (by kernel_rfl) Tryd.func51 (v:=iv 0) (by kernel_rfl) ⟨rfl,rfl,rfl⟩
noncomputable def C52:Ctx:={ P:=Tryd.prog,f:=52,N:=13,c:=bodyOf Tryd.f52 }
def S52 (F:List Ch) (H0:Hp) (r:Int) (v:Value) (H:Hp) (cs:List Ch):Prop:=H0=H∧v=iv r∧F=cs
theorem workers_seconds_c {w0:World} {H:Hp} {F:List Ch} {a0:Worker} {Aa0_1:Option Addr} {na0_1:Nat} {ca0_1:Nat} {Aa0_6:Option Addr} {na0_6:Nat} {ca0_6:Nat} {a1:Int} {r:Int} (hra0_1:Rw kPair H F Aa0_1 a0.Has) (hca0_1:na0_1≤ca0_1) (hna0_1:na0_1=a0.Has.length) (hra0_6:Rw kSpan H F Aa0_6 a0.Stands) (hca0_6:na0_6≤ca0_6) (hna0_6:na0_6=a0.Stands.length) (heq:workers_seconds.f a0 a1=some r):CallsH Tryd.prog 52 #[.agg #[.string a0.Name,.slice Aa0_1 na0_1 ca0_1,iv a0.Slots,iv a0.Speed,iv a0.From,iv a0.To,.slice Aa0_6 na0_6 ca0_6],iv a1] H w0 (F) (S52 F H r):=by
 refine calls_of_runH (F:=C52) Tryd.func52 (by kernel_rfl) Tryd.ntmps52 (args:=[.agg #[.string a0.Name,.slice Aa0_1 na0_1 ca0_1,iv a0.Slots,iv a0.Speed,iv a0.From,iv a0.To,.slice Aa0_6 na0_6 ca0_6],iv a1]) (by kernel_rfl) ?_
 subst hna0_1
 subst hna0_6
 unfold workers_seconds.f at heq
 refine Ra 1 [0] [.c [1]] ?_
 refine RgH.does (DoesH.new (d:=2) (v:=fun g=>.pointer (some ⟨g,0,none⟩)) (o:=fun g=>.cells #[.string a0.Name,.slice Aa0_1 a0.Has.length ca0_1,iv a0.Slots,iv a0.Speed,iv a0.From,iv a0.To,.slice Aa0_6 a0.Stands.length ca0_6] 27 (0,0)) (fun g=>by kernel_rfl)) ?_
 rintro _ _ _ _ ⟨g1,rfl,rfl,rfl⟩
 refine Rd 2 [1,2] [(1,iv a1),(2,pg g1 0)]<|Ra 1 [1,0] [.c [1,1]] ?_
 obtain ⟨hn1,heq⟩:=guard?_some heq
 refine Rw' 9 [4] [iv a0.Speed,iv a0.Speed] [.load ⟨g1,3,none⟩ (iv a0.Speed),.load ⟨g1,3,none⟩ (iv a0.Speed),.need (a0.Speed≠(0:Int))] [(4,iv (w64 ((w64 ((w64 (a1+a0.Speed)) - 1)).tdiv a0.Speed)))] (fun w hh=>⟨(hh.box 0 rfl rfl),(hh.box 0 rfl rfl),(ne_of_bne hn1)⟩) ?_
 obtain rfl:=Option.some.inj heq
 refine RunH.pick 1 [] (cs':=F) (by kernel_rfl) rfl ?_
 exact RunH.done (by kernel_rfl) Tryd.func52 (v:=iv (w64 ((w64 ((w64 (a1+a0.Speed)) - 1)).tdiv a0.Speed))) (by kernel_rfl) ⟨rfl,rfl,rfl⟩
noncomputable def C35:Ctx:={ P:=Tryd.prog,f:=35,N:=16,c:=bodyOf Tryd.f35 }
def S35 (F:List Ch) (H0:Hp) (r:Int × Int) (v:Value) (H:Hp) (cs:List Ch):Prop:=H0=H∧v=.tuple #[iv r.1,iv r.2]∧F=cs
theorem workers_Seconds_c {w0:World} {H:Hp} {F:List Ch} {a0:Worker} {Aa0_1:Option Addr} {na0_1:Nat} {ca0_1:Nat} {Aa0_6:Option Addr} {na0_6:Nat} {ca0_6:Nat} {a1:Int} {r:Int × Int} (hra0_1:Rw kPair H F Aa0_1 a0.Has) (hca0_1:na0_1≤ca0_1) (hna0_1:na0_1=a0.Has.length) (hra0_6:Rw kSpan H F Aa0_6 a0.Stands) (hca0_6:na0_6≤ca0_6) (hna0_6:na0_6=a0.Stands.length) (heq:workers_Seconds.f a0 a1=some r):CallsH Tryd.prog 35 #[.agg #[.string a0.Name,.slice Aa0_1 na0_1 ca0_1,iv a0.Slots,iv a0.Speed,iv a0.From,iv a0.To,.slice Aa0_6 na0_6 ca0_6],iv a1] H w0 (F) (S35 F H r):=by
 refine calls_of_runH (F:=C35) Tryd.func35 (by kernel_rfl) Tryd.ntmps35 (args:=[.agg #[.string a0.Name,.slice Aa0_1 na0_1 ca0_1,iv a0.Slots,iv a0.Speed,iv a0.From,iv a0.To,.slice Aa0_6 na0_6 ca0_6],iv a1]) (by kernel_rfl) ?_
 subst hna0_1
 subst hna0_6
 unfold workers_Seconds.f at heq
 refine Ra 1 [0] [.c [1]] ?_
 refine RgH.does (DoesH.new (d:=2) (v:=fun g=>.pointer (some ⟨g,0,none⟩)) (o:=fun g=>.cells #[.string a0.Name,.slice Aa0_1 a0.Has.length ca0_1,iv a0.Slots,iv a0.Speed,iv a0.From,iv a0.To,.slice Aa0_6 a0.Stands.length ca0_6] 27 (0,0)) (fun g=>by kernel_rfl)) ?_
 rintro _ _ _ _ ⟨g1,rfl,rfl,rfl⟩
 refine Rd 3 [1,2] [(1,iv a1),(2,pg g1 0)]<|Ra 2 [1,0,0] [.c [1,0,1],.c [1,1]]<|Rv 2 [1,2,7,8] [.string a0.Name,.slice Aa0_1 a0.Has.length ca0_1,iv a0.Slots,iv a0.Speed,iv a0.From,iv a0.To,.slice Aa0_6 a0.Stands.length ca0_6] [.load ⟨g1,0,none⟩ (.string a0.Name),.load ⟨g1,1,none⟩ (.slice Aa0_1 a0.Has.length ca0_1),.load ⟨g1,2,none⟩ (iv a0.Slots),.load ⟨g1,3,none⟩ (iv a0.Speed),.load ⟨g1,4,none⟩ (iv a0.From),.load ⟨g1,5,none⟩ (iv a0.To),.load ⟨g1,6,none⟩ (.slice Aa0_6 a0.Stands.length ca0_6)] [(1,iv a1),(2,pg g1 0),(7,.agg #[.string a0.Name,.slice Aa0_1 a0.Has.length ca0_1,iv a0.Slots,iv a0.Speed,iv a0.From,iv a0.To,.slice Aa0_6 a0.Stands.length ca0_6]),(8,iv a1)] (fun w hh=>⟨(hh.box 0 rfl rfl),(hh.box 0 rfl rfl),(hh.box 0 rfl rfl),(hh.box 0 rfl rfl),(hh.box 0 rfl rfl),(hh.box 0 rfl rfl),(hh.box 0 rfl rfl)⟩) ?_
 obtain ⟨y1,hy1,heq⟩:=bind_some heq
 refine RgH.does (DoesH.call (d:=9) (g:=51) (args:=#[.agg #[.string a0.Name,.slice Aa0_1 a0.Has.length ca0_1,iv a0.Slots,iv a0.Speed,iv a0.From,iv a0.To,.slice Aa0_6 a0.Stands.length ca0_6],iv a1]) (by kernel_rfl) (workers_checkSize_c (a0:=a0) (a1:=a1) (hra0_1.wk (fun _ h=>(.tail _ h))) hca0_1 rfl (hra0_6.wk (fun _ h=>(.tail _ h))) hca0_6 rfl hy1)) ?_
 rintro _ _ _ _ ⟨_,rfl,rfl,rfl,rfl⟩
 refine Rd 4 [1,2,6] [(1,iv a1),(2,pg g1 0),(6,iv y1)]<|Ra 1 [1,0,1,0] [.c [1,0,1,1],.c [1,1]]<|Rd 2 [1,2,6,11] [(1,iv a1),(2,pg g1 0),(6,iv y1),(11,.bool (y1 != 0))] ?_
 rcases bool_cases (y1 != 0) with hb1 | hb1
 ·replace heq:=bif_true hb1 heq
  refine Ct (y1 != 0) hb1<|Ra 1 [1,0,1,1,0,0] [.c [1,0,1,1,0,1],.c [1,1]]<|Rd 3 [4,5] [(4,iv 0),(5,iv y1)] ?_
  obtain rfl:=Option.some.inj heq
  refine RunH.pick 1 [] (cs':=F) (by kernel_rfl) rfl ?_
  exact RunH.done (by kernel_rfl) Tryd.func35 (v:=.tuple #[iv 0,iv y1]) (by kernel_rfl) ⟨rfl,rfl,rfl⟩
 ·replace heq:=bif_false hb1 heq
  refine Cf (y1 != 0) hb1<|Ra 2 [1,1,0] [.c [1,1,1]]<|Rv 2 [13,14] [.string a0.Name,.slice Aa0_1 a0.Has.length ca0_1,iv a0.Slots,iv a0.Speed,iv a0.From,iv a0.To,.slice Aa0_6 a0.Stands.length ca0_6] [.load ⟨g1,0,none⟩ (.string a0.Name),.load ⟨g1,1,none⟩ (.slice Aa0_1 a0.Has.length ca0_1),.load ⟨g1,2,none⟩ (iv a0.Slots),.load ⟨g1,3,none⟩ (iv a0.Speed),.load ⟨g1,4,none⟩ (iv a0.From),.load ⟨g1,5,none⟩ (iv a0.To),.load ⟨g1,6,none⟩ (.slice Aa0_6 a0.Stands.length ca0_6)] [(13,.agg #[.string a0.Name,.slice Aa0_1 a0.Has.length ca0_1,iv a0.Slots,iv a0.Speed,iv a0.From,iv a0.To,.slice Aa0_6 a0.Stands.length ca0_6]),(14,iv a1)] (fun w hh=>⟨(hh.box 0 rfl rfl),(hh.box 0 rfl rfl),(hh.box 0 rfl rfl),(hh.box 0 rfl rfl),(hh.box 0 rfl rfl),(hh.box 0 rfl rfl),(hh.box 0 rfl rfl)⟩) ?_
  obtain ⟨y2,hy2,heq⟩:=bind_some heq
  refine RgH.does (DoesH.call (d:=15) (g:=52) (args:=#[.agg #[.string a0.Name,.slice Aa0_1 a0.Has.length ca0_1,iv a0.Slots,iv a0.Speed,iv a0.From,iv a0.To,.slice Aa0_6 a0.Stands.length ca0_6],iv a1]) (by kernel_rfl) (workers_seconds_c (a0:=a0) (a1:=a1) (hra0_1.wk (fun _ h=>(.tail _ h))) hca0_1 rfl (hra0_6.wk (fun _ h=>(.tail _ h))) hca0_6 rfl hy2)) ?_
  rintro _ _ _ _ ⟨_,rfl,rfl,rfl,rfl⟩
  refine Rd 5 [4,5] [(4,iv y2),(5,iv 0)] ?_
  obtain rfl:=Option.some.inj heq
  refine RunH.pick 1 [] (cs':=F) (by kernel_rfl) rfl ?_
  exact RunH.done (by kernel_rfl) Tryd.func35 (v:=.tuple #[iv y2,iv 0]) (by kernel_rfl) ⟨rfl,rfl,rfl⟩
noncomputable def C18:Ctx:={ P:=Tryd.prog,f:=18,N:=14,c:=bodyOf Tryd.f18 }
def S18 (F:List Ch) (H0:Hp) (r:Bool) (v:Value) (H:Hp) (cs:List Ch):Prop:=H0=H∧v=.bool r∧F=cs
theorem smithyardlaw9_awake_c {w0:World} {H:Hp} {F:List Ch} {r:Bool} (heq:smithyardlaw9_awake.f=some r):CallsH Tryd.prog 18 (List.toArray []) H w0 (F) (S18 F H r):=by
 refine calls_of_runH (F:=C18) Tryd.func18 (by kernel_rfl) Tryd.ntmps18 (args:=[]) (by kernel_rfl) ?_
 unfold smithyardlaw9_awake.f at heq
 refine Ra 1 [0] [.c [1]]<|Rd 1 [] []<|Ra 1 [1,0] [.c [1,1]]<|Rk 1 [4] [(4,.agg #[.string ({ data:=#[97] }:ByteArray),.slice none 0 0,iv 1,iv 2,iv 0,iv 1,.slice none 0 0])] ?_
 obtain ⟨y1,hy1,heq⟩:=bind_some heq
 refine RgH.does (DoesH.call (d:=5) (g:=35) (args:=#[.agg #[.string ({ data:=#[97] }:ByteArray),.slice none 0 0,iv 1,iv 2,iv 0,iv 1,.slice none 0 0],iv 3]) (by kernel_rfl) (workers_Seconds_c (a0:=(⟨({ data:=#[97] }:ByteArray),([]:List Pair),1,2,0,1,([]:List Span)⟩:Worker)) (a1:=3) Rw.nil (Nat.le_refl _) rfl Rw.nil (Nat.le_refl _) rfl hy1)) ?_
 rintro _ _ _ _ ⟨_,rfl,rfl,rfl,rfl⟩
 refine Rd 7 [1,2] [(1,iv y1.1),(2,iv y1.2)]<|Ad 1 [.c [1,1,0],.c [1,1,1]] ?_
 obtain ⟨t1,ht1,heq⟩:=bind_some heq
 have K1:RunH C18 (S18 F H r) H w0 [.c [1,1,1]] [(0,.bool t1)] H (F):=by
  obtain rfl:=Option.some.inj heq
  exact RunH.done (by kernel_rfl) Tryd.func18 (v:=.bool t1) (by kernel_rfl) ⟨rfl,rfl,rfl⟩
 replace heq:=ht1
 refine Rr<|Rk 3 [10,1] [(10,.bool (y1.2 == 0)),(1,iv y1.1)] ?_
 rcases bool_cases (y1.2 == 0) with hb1 | hb1
 ·replace heq:=bif_true hb1 heq
  refine RgH.val1 (v':=.bool true) (congrArg Value.bool hb1) ?_
  refine Rk 7 [0] [(0,.bool (y1.1 == 2))] ?_
  obtain rfl:=Option.some.inj heq
  refine Kg [0] [(0,.bool (y1.1 == 2))]<|Dn ?_
  exact K1
 ·replace heq:=bif_false hb1 heq
  refine RgH.val1 (v':=.bool false) (congrArg Value.bool hb1) ?_
  refine Rk 7 [0] [(0,.bool false)] ?_
  obtain rfl:=Option.some.inj heq
  refine Kg [0] [(0,.bool false)]<|Dn ?_
  exact K1
noncomputable def C3:Ctx:={ P:=Tryd.prog,f:=3,N:=82,c:=bodyOf Tryd.f3 }
def S3 (F:List Ch) (H0:Hp) (r:Bool) (v:Value) (H:Hp) (cs:List Ch):Prop:=v=.bool r∧F=cs
theorem smithyardlaw9_WorkersChecksMatchSpec_c {w0:World} {H0:Hp} {F:List Ch} {a0:List Worker} {Aa0:Option Addr} {na0:Nat} {ca0:Nat} {a1:List Work} {Aa1:Option Addr} {na1:Nat} {ca1:Nat} {a2:Worker} {Aa2_1:Option Addr} {na2_1:Nat} {ca2_1:Nat} {Aa2_6:Option Addr} {na2_6:Nat} {ca2_6:Nat} {a3:Work} {Aa3_1:Option Addr} {na3_1:Nat} {ca3_1:Nat} {Aa3_3:Option Addr} {na3_3:Nat} {ca3_3:Nat} {r:Bool} (hra0:Rw kWorker H0 F Aa0 a0) (hca0:na0≤ca0) (hna0:na0=a0.length) (hra1:Rw kWork H0 F Aa1 a1) (hca1:na1≤ca1) (hna1:na1=a1.length) (hra2_1:Rw kPair H0 F Aa2_1 a2.Has) (hca2_1:na2_1≤ca2_1) (hna2_1:na2_1=a2.Has.length) (hra2_6:Rw kSpan H0 F Aa2_6 a2.Stands) (hca2_6:na2_6≤ca2_6) (hna2_6:na2_6=a2.Stands.length) (hra3_1:Rw kPair H0 F Aa3_1 a3.Needs) (hca3_1:na3_1≤ca3_1) (hna3_1:na3_1=a3.Needs.length) (hra3_3:Rw Kd.string H0 F Aa3_3 a3.After) (hca3_3:na3_3≤ca3_3) (hna3_3:na3_3=a3.After.length) (heq:smithyardlaw9_WorkersChecksMatchSpec.f a0 a1 a2 a3=some r):CallsH Tryd.prog 3 #[.slice Aa0 na0 ca0,.slice Aa1 na1 ca1,.agg #[.string a2.Name,.slice Aa2_1 na2_1 ca2_1,iv a2.Slots,iv a2.Speed,iv a2.From,iv a2.To,.slice Aa2_6 na2_6 ca2_6],.agg #[.string a3.Id,.slice Aa3_1 na3_1 ca3_1,iv a3.Size,.slice Aa3_3 na3_3 ca3_3]] H0 w0 (F) (S3 F H0 r):=by
 refine calls_of_runH (F:=C3) Tryd.func3 (by kernel_rfl) Tryd.ntmps3 (args:=[.slice Aa0 na0 ca0,.slice Aa1 na1 ca1,.agg #[.string a2.Name,.slice Aa2_1 na2_1 ca2_1,iv a2.Slots,iv a2.Speed,iv a2.From,iv a2.To,.slice Aa2_6 na2_6 ca2_6],.agg #[.string a3.Id,.slice Aa3_1 na3_1 ca3_1,iv a3.Size,.slice Aa3_3 na3_3 ca3_3]]) (by kernel_rfl) ?_
 subst hna0
 subst hna1
 subst hna2_1
 subst hna2_6
 subst hna3_1
 subst hna3_3
 unfold smithyardlaw9_WorkersChecksMatchSpec.f at heq
 suffices key:∀ (H:Hp),Rw kWorker H F Aa0 a0→Rw kWork H F Aa1 a1→Rw kPair H F Aa2_1 a2.Has→Rw kSpan H F Aa2_6 a2.Stands→Rw kPair H F Aa3_1 a3.Needs→Rw Kd.string H F Aa3_3 a3.After→RunH C3 (S3 F H0 r) H0 w0 [.c []] (argL 0 [.slice Aa0 (a0.length) ca0,.slice Aa1 (a1.length) ca1,.agg #[.string a2.Name,.slice Aa2_1 (a2.Has.length) ca2_1,iv a2.Slots,iv a2.Speed,iv a2.From,iv a2.To,.slice Aa2_6 (a2.Stands.length) ca2_6],.agg #[.string a3.Id,.slice Aa3_1 (a3.Needs.length) ca3_1,iv a3.Size,.slice Aa3_3 (a3.After.length) ca3_3]]) H (F) from key H0 hra0 hra1 hra2_1 hra2_6 hra3_1 hra3_3
 intro H hra0 hra1 hra2_1 hra2_6 hra3_1 hra3_3
 refine Ra 1 [0] [.c [1]] ?_
 refine RgH.does (DoesH.new (d:=6) (v:=fun g=>.pointer (some ⟨g,0,none⟩)) (o:=fun g=>.cells #[.string a2.Name,.slice Aa2_1 a2.Has.length ca2_1,iv a2.Slots,iv a2.Speed,iv a2.From,iv a2.To,.slice Aa2_6 a2.Stands.length ca2_6] 27 (0,0)) (fun g=>by kernel_rfl)) ?_
 rintro _ _ _ _ ⟨g1,rfl,rfl,rfl⟩
 refine RgH.does (DoesH.new (d:=7) (v:=fun g=>.pointer (some ⟨g,0,none⟩)) (o:=fun g=>.cells #[.string a3.Id,.slice Aa3_1 a3.Needs.length ca3_1,iv a3.Size,.slice Aa3_3 a3.After.length ca3_3] 30 (0,0)) (fun g=>by kernel_rfl)) ?_
 rintro _ _ _ _ ⟨g2,rfl,rfl,rfl⟩
 refine Rd 3 [0,1,6,7] [(0,.slice Aa0 a0.length ca0),(1,.slice Aa1 a1.length ca1),(6,pg g1 0),(7,pg g2 0)]<|Ad 1 [.c [1,0],.c [1,1]]<|Kp [0,1,6,7] [(0,.slice Aa0 a0.length ca0),(1,.slice Aa1 a1.length ca1),(6,pg g1 0),(7,pg g2 0)] ?_
 refine RunH.draw (fun w=>Heap H w0 w ((some (g2,.cells #[.string a3.Id,.slice Aa3_1 a3.Needs.length ca3_1,iv a3.Size,.slice Aa3_3 a3.After.length ca3_3] 30 (0,0)))::(some (g1,.cells #[.string a2.Name,.slice Aa2_1 a2.Has.length ca2_1,iv a2.Slots,iv a2.Speed,iv a2.From,iv a2.To,.slice Aa2_6 a2.Stands.length ca2_6] 27 (0,0)))::F)) (fun w=>Heap H w0 w ((some (g2,.cells #[.string a3.Id,.slice Aa3_1 a3.Needs.length ca3_1,iv a3.Size,.slice Aa3_3 a3.After.length ca3_3] 30 (0,0)))::(some (g1,.cells #[.string a2.Name,.slice Aa2_1 a2.Has.length ca2_1,iv a2.Slots,iv a2.Speed,iv a2.From,iv a2.To,.slice Aa2_6 a2.Stands.length ca2_6] 27 (0,0)))::F)) [3,0,3,0,3,0,3,0,0,0,3,3,0,0] (n:=14) (ls:=[false,false,false,false,false,false,false,false,false,false,false,false,false,false]) (by kernel_rfl) (by kernel_rfl) (by kernel_rfl) rfl ?_
 refine Dk [0,2,4,6] 10 (nb 14 85) [.string a2.Name,.slice Aa2_1 a2.Has.length ca2_1,iv a2.Slots,iv a2.Speed,iv a2.From,iv a2.To,.slice Aa2_6 a2.Stands.length ca2_6,.string a3.Id,.slice Aa3_1 a3.Needs.length ca3_1,iv a3.Size,.slice Aa3_3 a3.After.length ca3_3] [.load ⟨g1,0,none⟩ (.string a2.Name),.load ⟨g1,1,none⟩ (.slice Aa2_1 a2.Has.length ca2_1),.load ⟨g1,2,none⟩ (iv a2.Slots),.load ⟨g1,3,none⟩ (iv a2.Speed),.load ⟨g1,4,none⟩ (iv a2.From),.load ⟨g1,5,none⟩ (iv a2.To),.load ⟨g1,6,none⟩ (.slice Aa2_6 a2.Stands.length ca2_6),.load ⟨g2,0,none⟩ (.string a3.Id),.load ⟨g2,1,none⟩ (.slice Aa3_1 a3.Needs.length ca3_1),.load ⟨g2,2,none⟩ (iv a3.Size),.load ⟨g2,3,none⟩ (.slice Aa3_3 a3.After.length ca3_3)] [0,1,6,7,17,19,21,23] [(0,.slice Aa0 a0.length ca0),(1,.slice Aa1 a1.length ca1),(6,pg g1 0),(7,pg g2 0),(17,.slice Aa0 a0.length ca0),(19,.slice Aa1 a1.length ca1),(21,.agg #[.string a2.Name,.slice Aa2_1 a2.Has.length ca2_1,iv a2.Slots,iv a2.Speed,iv a2.From,iv a2.To,.slice Aa2_6 a2.Stands.length ca2_6]),(23,.agg #[.string a3.Id,.slice Aa3_1 a3.Needs.length ca3_1,iv a3.Size,.slice Aa3_3 a3.After.length ca3_3])] (Pk 2 [0,1]) (Pk 2 [0,1]) (fun w hh=>⟨(hh.box 1 rfl rfl),(hh.box 1 rfl rfl),(hh.box 1 rfl rfl),(hh.box 1 rfl rfl),(hh.box 1 rfl rfl),(hh.box 1 rfl rfl),(hh.box 1 rfl rfl),(hh.box 0 rfl rfl),(hh.box 0 rfl rfl),(hh.box 0 rfl rfl),(hh.box 0 rfl rfl)⟩) ?_
 refine DrF.start [(8,11,none,.cells #[.string ByteArray.empty,.slice none 0 0,iv 0,iv 0,iv 0,iv 0,.slice none 0 0] 27 (0,0)),(9,12,none,.cells #[.string ByteArray.empty,.slice none 0 0,iv 0,.slice none 0 0] 30 (0,0))] (n:=8) (by kernel_rfl) ?_
 refine DrF.keep [0,1,6,7,17,19,21,23] (L':=[(0,.slice Aa0 a0.length ca0),(1,.slice Aa1 a1.length ca1),(6,pg g1 0),(7,pg g2 0),(17,.slice Aa0 a0.length ca0),(19,.slice Aa1 a1.length ca1),(21,.agg #[.string a2.Name,.slice Aa2_1 a2.Has.length ca2_1,iv a2.Slots,iv a2.Speed,iv a2.From,iv a2.To,.slice Aa2_6 a2.Stands.length ca2_6]),(23,.agg #[.string a3.Id,.slice Aa3_1 a3.Needs.length ca3_1,iv a3.Size,.slice Aa3_3 a3.After.length ca3_3])]) (by kernel_rfl) (by kernel_rfl) ?_
 obtain ⟨y1,hy1,heq⟩:=bind_some heq
 refine DrF.does2 (n:=7) (ls':=[true,true,true,false,true,false,true,false,false,false,false,false,false,false]) (by kernel_rfl) 1 ⟨fun E g=>by kernel_rfl,fun E g=>by kernel_rfl,trivial⟩ (by kernel_rfl) (by kernel_rfl) rfl (fun w hh=>⟨(Pk 2 [0,1]) w hh,(Pk 2 [0,1]) w hh⟩) (fun fc1 fc2 fE1=>DoesH.call (d:=18) (g:=4) (args:=#[.slice Aa0 a0.length ca0]) (by kernel_rfl) (smithyardref9_CopyWorkers_c (a0:=a0) (hra0.wk (fun _ h=>(.tail _ (.tail _ (.tail _ (.tail _ h)))))) hca0 rfl hy1)) ?_
 rintro fc1 fc2 fE1
 rintro _ H _ hl ⟨_,rfl,A1,c1,ch1,rfl,rfl,ho1⟩
 have hle:=hl
 replace hra0:=hra0.mono hl
 replace hra1:=hra1.mono hl
 replace hra2_1:=hra2_1.mono hl
 replace hra2_6:=hra2_6.mono hl
 replace hra3_1:=hra3_1.mono hl
 replace hra3_3:=hra3_3.mono hl
 refine ⟨fun _ w hh=>⟨fun _=>(fun w hh=>(hh.le hle).pick 5 [3,4] (by kernel_rfl)) w hh,fun _=>(fun w hh=>(hh.le hle).pick 5 [3,4] (by kernel_rfl)) w hh,(fun h=>by cases h)⟩,[(18,.slice A1 y1.length c1),(0,.slice Aa0 a0.length ca0),(1,.slice Aa1 a1.length ca1),(6,pg g1 0),(7,pg g2 0),(17,.slice Aa0 a0.length ca0),(19,.slice Aa1 a1.length ca1),(21,.agg #[.string a2.Name,.slice Aa2_1 a2.Has.length ca2_1,iv a2.Slots,iv a2.Speed,iv a2.From,iv a2.To,.slice Aa2_6 a2.Stands.length ca2_6]),(23,.agg #[.string a3.Id,.slice Aa3_1 a3.Needs.length ca3_1,iv a3.Size,.slice Aa3_3 a3.After.length ca3_3])],ch1::(some (g2,.cells #[.string a3.Id,.slice Aa3_1 a3.Needs.length ca3_1,iv a3.Size,.slice Aa3_3 a3.After.length ca3_3] 30 (0,0)))::(some (g1,.cells #[.string a2.Name,.slice Aa2_1 a2.Has.length ca2_1,iv a2.Slots,iv a2.Speed,iv a2.From,iv a2.To,.slice Aa2_6 a2.Stands.length ca2_6] 27 (0,0)))::F,rfl,(Pk 5 [1,2,0,3,4]),?_⟩
 refine DrF.keep [0,1,6,7,18,19,21,23] (L':=[(0,.slice Aa0 a0.length ca0),(1,.slice Aa1 a1.length ca1),(6,pg g1 0),(7,pg g2 0),(18,.slice A1 y1.length c1),(19,.slice Aa1 a1.length ca1),(21,.agg #[.string a2.Name,.slice Aa2_1 a2.Has.length ca2_1,iv a2.Slots,iv a2.Speed,iv a2.From,iv a2.To,.slice Aa2_6 a2.Stands.length ca2_6]),(23,.agg #[.string a3.Id,.slice Aa3_1 a3.Needs.length ca3_1,iv a3.Size,.slice Aa3_3 a3.After.length ca3_3])]) (by kernel_rfl) (by kernel_rfl) ?_
 obtain ⟨y2,hy2,heq⟩:=bind_some heq
 refine DrF.does2 (n:=6) (ls':=[true,true,true,true,true,false,true,false,false,false,false,false,false,false]) (by kernel_rfl) 3 ⟨fun E g=>by kernel_rfl,fun E g=>by kernel_rfl,trivial⟩ (by kernel_rfl) (by kernel_rfl) rfl (fun w hh=>⟨(fun w hh=>(hh.le hle).pick 3 [1,2] (by kernel_rfl)) w hh,(fun w hh=>(hh.le hle).pick 3 [1,2] (by kernel_rfl)) w hh⟩) (fun fc3 fc4 fE2=>DoesH.call (d:=20) (g:=5) (args:=#[.slice Aa1 a1.length ca1]) (by kernel_rfl) (smithyardref9_CopyWorks_c (a0:=a1) (hra1.wk (fun _ h=>(.tail _ (.tail _ (.tail _ (.tail _ (.tail _ h))))))) hca1 rfl hy2)) ?_
 rintro fc3 fc4 fE2
 rintro _ H _ hl ⟨_,rfl,A2,c2,ch2,rfl,rfl,ho2⟩
 replace hle:=hle.then hl
 replace hra0:=hra0.mono hl
 replace hra1:=hra1.mono hl
 replace hra2_1:=hra2_1.mono hl
 replace hra2_6:=hra2_6.mono hl
 replace hra3_1:=hra3_1.mono hl
 replace hra3_3:=hra3_3.mono hl
 replace ho1:=ho1.mono hl
 refine ⟨fun _ w hh=>⟨fun _=>(fun w hh=>(hh.le hle).pick 6 [4,5] (by kernel_rfl)) w hh,fun _=>(fun w hh=>(hh.le hle).pick 6 [4,5] (by kernel_rfl)) w hh,(fun h=>by cases h)⟩,[(20,.slice A2 y2.length c2),(0,.slice Aa0 a0.length ca0),(1,.slice Aa1 a1.length ca1),(6,pg g1 0),(7,pg g2 0),(18,.slice A1 y1.length c1),(19,.slice Aa1 a1.length ca1),(21,.agg #[.string a2.Name,.slice Aa2_1 a2.Has.length ca2_1,iv a2.Slots,iv a2.Speed,iv a2.From,iv a2.To,.slice Aa2_6 a2.Stands.length ca2_6]),(23,.agg #[.string a3.Id,.slice Aa3_1 a3.Needs.length ca3_1,iv a3.Size,.slice Aa3_3 a3.After.length ca3_3])],ch2::ch1::(some (g2,.cells #[.string a3.Id,.slice Aa3_1 a3.Needs.length ca3_1,iv a3.Size,.slice Aa3_3 a3.After.length ca3_3] 30 (0,0)))::(some (g1,.cells #[.string a2.Name,.slice Aa2_1 a2.Has.length ca2_1,iv a2.Slots,iv a2.Speed,iv a2.From,iv a2.To,.slice Aa2_6 a2.Stands.length ca2_6] 27 (0,0)))::F,rfl,(Pk 6 [1,2,0,3,4,5]),?_⟩
 refine DrF.keep [0,1,6,7,18,20,21,23] (L':=[(0,.slice Aa0 a0.length ca0),(1,.slice Aa1 a1.length ca1),(6,pg g1 0),(7,pg g2 0),(18,.slice A1 y1.length c1),(20,.slice A2 y2.length c2),(21,.agg #[.string a2.Name,.slice Aa2_1 a2.Has.length ca2_1,iv a2.Slots,iv a2.Speed,iv a2.From,iv a2.To,.slice Aa2_6 a2.Stands.length ca2_6]),(23,.agg #[.string a3.Id,.slice Aa3_1 a3.Needs.length ca3_1,iv a3.Size,.slice Aa3_3 a3.After.length ca3_3])]) (by kernel_rfl) (by kernel_rfl) ?_
 obtain ⟨y3,hy3,heq⟩:=bind_some heq
 refine DrF.does2 (n:=5) (ls':=[true,true,true,true,true,true,true,false,false,false,false,false,false,false]) (by kernel_rfl) 5 ⟨fun E g=>by kernel_rfl,fun E g=>by kernel_rfl,trivial⟩ (by kernel_rfl) (by kernel_rfl) rfl (fun w hh=>⟨(fun w hh=>(hh.le hle).pick 4 [2,3] (by kernel_rfl)) w hh,(fun w hh=>(hh.le hle).pick 4 [2,3] (by kernel_rfl)) w hh⟩) (fun fc5 fc6 fE3=>DoesH.call (d:=22) (g:=6) (args:=#[.agg #[.string a2.Name,.slice Aa2_1 a2.Has.length ca2_1,iv a2.Slots,iv a2.Speed,iv a2.From,iv a2.To,.slice Aa2_6 a2.Stands.length ca2_6]]) (by kernel_rfl) (smithyardref9_CopyWorker_c (a0:=a2) (hra2_1.wk (fun _ h=>(.tail _ (.tail _ (.tail _ (.tail _ (.tail _ (.tail _ h)))))))) hca2_1 rfl (hra2_6.wk (fun _ h=>(.tail _ (.tail _ (.tail _ (.tail _ (.tail _ (.tail _ h)))))))) hca2_6 rfl hy3)) ?_
 rintro fc5 fc6 fE3
 rintro _ _ _ _ ⟨_,rfl,A3,c3,ch3,A4,c4,ch4,rfl,rfl,rfl,ho3,ho4⟩
 refine ⟨fun _ w hh=>⟨fun _=>(fun w hh=>(hh.le hle).pick 8 [6,7] (by kernel_rfl)) w hh,fun _=>(fun w hh=>(hh.le hle).pick 8 [6,7] (by kernel_rfl)) w hh,(fun h=>by cases h)⟩,[(22,.agg #[.string y3.Name,.slice A3 y3.Has.length c3,iv y3.Slots,iv y3.Speed,iv y3.From,iv y3.To,.slice A4 y3.Stands.length c4]),(0,.slice Aa0 a0.length ca0),(1,.slice Aa1 a1.length ca1),(6,pg g1 0),(7,pg g2 0),(18,.slice A1 y1.length c1),(20,.slice A2 y2.length c2),(21,.agg #[.string a2.Name,.slice Aa2_1 a2.Has.length ca2_1,iv a2.Slots,iv a2.Speed,iv a2.From,iv a2.To,.slice Aa2_6 a2.Stands.length ca2_6]),(23,.agg #[.string a3.Id,.slice Aa3_1 a3.Needs.length ca3_1,iv a3.Size,.slice Aa3_3 a3.After.length ca3_3])],ch3::ch4::ch2::ch1::(some (g2,.cells #[.string a3.Id,.slice Aa3_1 a3.Needs.length ca3_1,iv a3.Size,.slice Aa3_3 a3.After.length ca3_3] 30 (0,0)))::(some (g1,.cells #[.string a2.Name,.slice Aa2_1 a2.Has.length ca2_1,iv a2.Slots,iv a2.Speed,iv a2.From,iv a2.To,.slice Aa2_6 a2.Stands.length ca2_6] 27 (0,0)))::F,rfl,(Pk 8 [2,3,0,1,4,5,6,7]),?_⟩
 refine DrF.keep [0,1,6,7,18,20,22,23] (L':=[(0,.slice Aa0 a0.length ca0),(1,.slice Aa1 a1.length ca1),(6,pg g1 0),(7,pg g2 0),(18,.slice A1 y1.length c1),(20,.slice A2 y2.length c2),(22,.agg #[.string y3.Name,.slice A3 y3.Has.length c3,iv y3.Slots,iv y3.Speed,iv y3.From,iv y3.To,.slice A4 y3.Stands.length c4]),(23,.agg #[.string a3.Id,.slice Aa3_1 a3.Needs.length ca3_1,iv a3.Size,.slice Aa3_3 a3.After.length ca3_3])]) (by kernel_rfl) (by kernel_rfl) ?_
 obtain ⟨y4,hy4,heq⟩:=bind_some heq
 refine DrF.does2 (n:=4) (ls':=[true,true,true,true,true,true,true,true,false,false,false,false,false,false]) (by kernel_rfl) 7 ⟨fun E g=>by kernel_rfl,fun E g=>by kernel_rfl,trivial⟩ (by kernel_rfl) (by kernel_rfl) rfl (fun w hh=>⟨(fun w hh=>(hh.le hle).pick 6 [4,5] (by kernel_rfl)) w hh,(fun w hh=>(hh.le hle).pick 6 [4,5] (by kernel_rfl)) w hh⟩) (fun fc7 fc8 fE4=>DoesH.call (d:=24) (g:=7) (args:=#[.agg #[.string a3.Id,.slice Aa3_1 a3.Needs.length ca3_1,iv a3.Size,.slice Aa3_3 a3.After.length ca3_3]]) (by kernel_rfl) (smithyardref9_CopyWork_c (a0:=a3) (hra3_1.wk (fun _ h=>(.tail _ (.tail _ (.tail _ (.tail _ (.tail _ (.tail _ (.tail _ (.tail _ h)))))))))) hca3_1 rfl (hra3_3.wk (fun _ h=>(.tail _ (.tail _ (.tail _ (.tail _ (.tail _ (.tail _ (.tail _ (.tail _ h)))))))))) hca3_3 rfl hy4)) ?_
 rintro fc7 fc8 fE4
 rintro _ _ _ _ ⟨_,rfl,A5,c5,ch5,A6,c6,ch6,rfl,rfl,rfl,ho5,ho6⟩
 refine ⟨fun _ w hh=>⟨fun _=>(fun w hh=>(hh.le hle).pick 10 [8,9] (by kernel_rfl)) w hh,fun _=>(fun w hh=>(hh.le hle).pick 10 [8,9] (by kernel_rfl)) w hh,(fun h=>by cases h)⟩,[(24,.agg #[.string y4.Id,.slice A5 y4.Needs.length c5,iv y4.Size,.slice A6 y4.After.length c6]),(0,.slice Aa0 a0.length ca0),(1,.slice Aa1 a1.length ca1),(6,pg g1 0),(7,pg g2 0),(18,.slice A1 y1.length c1),(20,.slice A2 y2.length c2),(22,.agg #[.string y3.Name,.slice A3 y3.Has.length c3,iv y3.Slots,iv y3.Speed,iv y3.From,iv y3.To,.slice A4 y3.Stands.length c4]),(23,.agg #[.string a3.Id,.slice Aa3_1 a3.Needs.length ca3_1,iv a3.Size,.slice Aa3_3 a3.After.length ca3_3])],ch5::ch6::ch3::ch4::ch2::ch1::(some (g2,.cells #[.string a3.Id,.slice Aa3_1 a3.Needs.length ca3_1,iv a3.Size,.slice Aa3_3 a3.After.length ca3_3] 30 (0,0)))::(some (g1,.cells #[.string a2.Name,.slice Aa2_1 a2.Has.length ca2_1,iv a2.Slots,iv a2.Speed,iv a2.From,iv a2.To,.slice Aa2_6 a2.Stands.length ca2_6] 27 (0,0)))::F,rfl,(Pk 10 [2,3,0,1,4,5,6,7,8,9]),?_⟩
 refine DrF.keep [0,1,6,7,18,20,22,24] (L':=[(0,.slice Aa0 a0.length ca0),(1,.slice Aa1 a1.length ca1),(6,pg g1 0),(7,pg g2 0),(18,.slice A1 y1.length c1),(20,.slice A2 y2.length c2),(22,.agg #[.string y3.Name,.slice A3 y3.Has.length c3,iv y3.Slots,iv y3.Speed,iv y3.From,iv y3.To,.slice A4 y3.Stands.length c4]),(24,.agg #[.string y4.Id,.slice A5 y4.Needs.length c5,iv y4.Size,.slice A6 y4.After.length c6])]) (by kernel_rfl) (by kernel_rfl) ?_
 refine DrF.close2 (n:=4) (ls':=[true,true,true,true,true,true,true,true,true,true,false,false,false,false]) (by kernel_rfl) ⟨fun E g=>by kernel_rfl,fun E g=>by kernel_rfl,trivial⟩ (by kernel_rfl) (by kernel_rfl) rfl (fun w hh=>⟨(fun w hh=>(hh.le hle).pick 8 [6,7] (by kernel_rfl)) w hh,(fun w hh=>(hh.le hle).pick 8 [6,7] (by kernel_rfl)) w hh⟩) ?_
 intro g3 g4
 refine Dk [10,11] 2 (nb 14 4095) [] [] [0,1,6,7,9,10,11,12,22,24] [(0,.slice Aa0 a0.length ca0),(1,.slice Aa1 a1.length ca1),(6,pg g1 0),(7,pg g2 0),(9,.slice A1 y1.length c1),(10,.slice A2 y2.length c2),(11,pg g3 0),(12,pg g4 0),(22,.agg #[.string y3.Name,.slice A3 y3.Has.length c3,iv y3.Slots,iv y3.Speed,iv y3.From,iv y3.To,.slice A4 y3.Stands.length c4]),(24,.agg #[.string y4.Id,.slice A5 y4.Needs.length c5,iv y4.Size,.slice A6 y4.After.length c6])] (fun w hh=>(hh.le hle).pick 10 [8,9] (by kernel_rfl)) (Pk 2 [0,1]) (fun _ _=>trivial) ?_
 refine DrH.does (n:=1) (ls':=[true,true,true,true,true,true,true,true,true,true,true,true,true,false]) 12 (by kernel_rfl) rfl (DoesH.store (k:=0) (g:=g3) (off:=0) (v:=.agg #[.string y3.Name,.slice A3 y3.Has.length c3,iv y3.Slots,iv y3.Speed,iv y3.From,iv y3.To,.slice A4 y3.Stands.length c4]) (cells':=#[.string y3.Name,.slice A3 y3.Has.length c3,iv y3.Slots,iv y3.Speed,iv y3.From,iv y3.To,.slice A4 y3.Stands.length c4]) (by kernel_rfl) rfl (by kernel_rfl) (by kernel_rfl)) ?_
 rintro _ _ _ _ ⟨rfl,rfl,rfl⟩
 refine ⟨fun _ w hh=>⟨fun _=>(fun w hh=>(hh.le hle).pick 10 [8,9] (by kernel_rfl)) w hh,fun _=>(fun w hh=>(hh.le hle).pick 10 [8,9] (by kernel_rfl)) w hh,(fun h=>by cases h)⟩,?_⟩
 refine Kr [0,1,6,7,9,10,11,12,24] [(0,.slice Aa0 a0.length ca0),(1,.slice Aa1 a1.length ca1),(6,pg g1 0),(7,pg g2 0),(9,.slice A1 y1.length c1),(10,.slice A2 y2.length c2),(11,pg g3 0),(12,pg g4 0),(24,.agg #[.string y4.Id,.slice A5 y4.Needs.length c5,iv y4.Size,.slice A6 y4.After.length c6])] ?_
 refine DrH.does (n:=0) (ls':=[true,true,true,true,true,true,true,true,true,true,true,true,true,true]) 13 (by kernel_rfl) rfl (DoesH.store (k:=1) (g:=g4) (off:=0) (v:=.agg #[.string y4.Id,.slice A5 y4.Needs.length c5,iv y4.Size,.slice A6 y4.After.length c6]) (cells':=#[.string y4.Id,.slice A5 y4.Needs.length c5,iv y4.Size,.slice A6 y4.After.length c6]) (by kernel_rfl) rfl (by kernel_rfl) (by kernel_rfl)) ?_
 rintro _ _ _ _ ⟨rfl,rfl,rfl⟩
 refine ⟨fun _ w hh=>⟨fun _=>(fun w hh=>(hh.le hle).pick 10 [8,9] (by kernel_rfl)) w hh,fun _=>(fun w hh=>(hh.le hle).pick 10 [8,9] (by kernel_rfl)) w hh,(fun h=>by cases h)⟩,?_⟩
 refine Kr [0,1,6,7,9,10,11,12] [(0,.slice Aa0 a0.length ca0),(1,.slice Aa1 a1.length ca1),(6,pg g1 0),(7,pg g2 0),(9,.slice A1 y1.length c1),(10,.slice A2 y2.length c2),(11,pg g3 0),(12,pg g4 0)] ?_
 refine DrH.done (by kernel_rfl) ?_
 refine Ra 1 [1,1,0] [.c [1,1,1]]<|Rv 2 [0,1,6,7,9,10,11,12,26,27] [.string a2.Name,.slice Aa2_1 a2.Has.length ca2_1,iv a2.Slots,iv a2.Speed,iv a2.From,iv a2.To,.slice Aa2_6 a2.Stands.length ca2_6,.string a3.Id,.slice Aa3_1 a3.Needs.length ca3_1,iv a3.Size,.slice Aa3_3 a3.After.length ca3_3] [.load ⟨g1,0,none⟩ (.string a2.Name),.load ⟨g1,1,none⟩ (.slice Aa2_1 a2.Has.length ca2_1),.load ⟨g1,2,none⟩ (iv a2.Slots),.load ⟨g1,3,none⟩ (iv a2.Speed),.load ⟨g1,4,none⟩ (iv a2.From),.load ⟨g1,5,none⟩ (iv a2.To),.load ⟨g1,6,none⟩ (.slice Aa2_6 a2.Stands.length ca2_6),.load ⟨g2,0,none⟩ (.string a3.Id),.load ⟨g2,1,none⟩ (.slice Aa3_1 a3.Needs.length ca3_1),.load ⟨g2,2,none⟩ (iv a3.Size),.load ⟨g2,3,none⟩ (.slice Aa3_3 a3.After.length ca3_3)] [(0,.slice Aa0 a0.length ca0),(1,.slice Aa1 a1.length ca1),(6,pg g1 0),(7,pg g2 0),(9,.slice A1 y1.length c1),(10,.slice A2 y2.length c2),(11,pg g3 0),(12,pg g4 0),(26,.agg #[.string a2.Name,.slice Aa2_1 a2.Has.length ca2_1,iv a2.Slots,iv a2.Speed,iv a2.From,iv a2.To,.slice Aa2_6 a2.Stands.length ca2_6]),(27,.agg #[.string a3.Id,.slice Aa3_1 a3.Needs.length ca3_1,iv a3.Size,.slice Aa3_3 a3.After.length ca3_3])] (fun w hh=>⟨(hh.box 9 rfl rfl),(hh.box 9 rfl rfl),(hh.box 9 rfl rfl),(hh.box 9 rfl rfl),(hh.box 9 rfl rfl),(hh.box 9 rfl rfl),(hh.box 9 rfl rfl),(hh.box 8 rfl rfl),(hh.box 8 rfl rfl),(hh.box 8 rfl rfl),(hh.box 8 rfl rfl)⟩) ?_
 obtain ⟨y5,hy5,heq⟩:=bind_some heq
 refine RgH.does (DoesH.call (d:=28) (g:=8) (args:=#[.agg #[.string a2.Name,.slice Aa2_1 a2.Has.length ca2_1,iv a2.Slots,iv a2.Speed,iv a2.From,iv a2.To,.slice Aa2_6 a2.Stands.length ca2_6],.agg #[.string a3.Id,.slice Aa3_1 a3.Needs.length ca3_1,iv a3.Size,.slice Aa3_3 a3.After.length ca3_3]]) (by kernel_rfl) (workers_Fits_c (a0:=a2) (a1:=a3) (hra2_1.wk (fun _ h=>(.tail _ (.tail _ (.tail _ (.tail _ (.tail _ (.tail _ (.tail _ (.tail _ (.tail _ (.tail _ h)))))))))))) hca2_1 rfl (hra2_6.wk (fun _ h=>(.tail _ (.tail _ (.tail _ (.tail _ (.tail _ (.tail _ (.tail _ (.tail _ (.tail _ (.tail _ h)))))))))))) hca2_6 rfl (hra3_1.wk (fun _ h=>(.tail _ (.tail _ (.tail _ (.tail _ (.tail _ (.tail _ (.tail _ (.tail _ (.tail _ (.tail _ h)))))))))))) hca3_1 rfl (hra3_3.wk (fun _ h=>(.tail _ (.tail _ (.tail _ (.tail _ (.tail _ (.tail _ (.tail _ (.tail _ (.tail _ (.tail _ h)))))))))))) hca3_3 rfl hy5)) ?_
 rintro _ _ _ _ ⟨_,rfl,rfl,rfl,rfl⟩
 refine Rd 8 [0,1,6,7,9,10,11,12,13,14] [(0,.slice Aa0 a0.length ca0),(1,.slice Aa1 a1.length ca1),(6,pg g1 0),(7,pg g2 0),(9,.slice A1 y1.length c1),(10,.slice A2 y2.length c2),(11,pg g3 0),(12,pg g4 0),(13,.bool y5.1),(14,iv y5.2)]<|Ra 1 [1,1,1,0] [.c [1,1,1,1]]<|Rv 2 [0,1,6,7,9,10,11,12,13,14,32,33] [.string y3.Name,.slice A3 y3.Has.length c3,iv y3.Slots,iv y3.Speed,iv y3.From,iv y3.To,.slice A4 y3.Stands.length c4,.string y4.Id,.slice A5 y4.Needs.length c5,iv y4.Size,.slice A6 y4.After.length c6] [.load ⟨g3,0,none⟩ (.string y3.Name),.load ⟨g3,1,none⟩ (.slice A3 y3.Has.length c3),.load ⟨g3,2,none⟩ (iv y3.Slots),.load ⟨g3,3,none⟩ (iv y3.Speed),.load ⟨g3,4,none⟩ (iv y3.From),.load ⟨g3,5,none⟩ (iv y3.To),.load ⟨g3,6,none⟩ (.slice A4 y3.Stands.length c4),.load ⟨g4,0,none⟩ (.string y4.Id),.load ⟨g4,1,none⟩ (.slice A5 y4.Needs.length c5),.load ⟨g4,2,none⟩ (iv y4.Size),.load ⟨g4,3,none⟩ (.slice A6 y4.After.length c6)] [(0,.slice Aa0 a0.length ca0),(1,.slice Aa1 a1.length ca1),(6,pg g1 0),(7,pg g2 0),(9,.slice A1 y1.length c1),(10,.slice A2 y2.length c2),(11,pg g3 0),(12,pg g4 0),(13,.bool y5.1),(14,iv y5.2),(32,.agg #[.string y3.Name,.slice A3 y3.Has.length c3,iv y3.Slots,iv y3.Speed,iv y3.From,iv y3.To,.slice A4 y3.Stands.length c4]),(33,.agg #[.string y4.Id,.slice A5 y4.Needs.length c5,iv y4.Size,.slice A6 y4.After.length c6])] (fun w hh=>⟨(hh.box 0 rfl rfl),(hh.box 0 rfl rfl),(hh.box 0 rfl rfl),(hh.box 0 rfl rfl),(hh.box 0 rfl rfl),(hh.box 0 rfl rfl),(hh.box 0 rfl rfl),(hh.box 1 rfl rfl),(hh.box 1 rfl rfl),(hh.box 1 rfl rfl),(hh.box 1 rfl rfl)⟩) ?_
 obtain ⟨y6,hy6,heq⟩:=bind_some heq
 refine RgH.does (DoesH.call (d:=34) (g:=9) (args:=#[.agg #[.string y3.Name,.slice A3 y3.Has.length c3,iv y3.Slots,iv y3.Speed,iv y3.From,iv y3.To,.slice A4 y3.Stands.length c4],.agg #[.string y4.Id,.slice A5 y4.Needs.length c5,iv y4.Size,.slice A6 y4.After.length c6]]) (by kernel_rfl) (smithyardref9_Fits_c (a0:=(⟨y3.Name,y3.Has,y3.Slots,y3.Speed,y3.From,y3.To,y3.Stands⟩:Worker)) (a1:=(⟨y4.Id,y4.Needs,y4.Size,y4.After⟩:Work)) (ho3.rw (.tail _ (.tail _ (.tail _ (.tail _ (.head _)))))) ho3.cap rfl (ho4.rw (.tail _ (.tail _ (.tail _ (.tail _ (.tail _ (.head _))))))) ho4.cap rfl (ho5.rw (.tail _ (.tail _ (.head _)))) ho5.cap rfl (ho6.rw (.tail _ (.tail _ (.tail _ (.head _))))) ho6.cap rfl hy6)) ?_
 rintro _ _ _ _ ⟨_,rfl,rfl,rfl,rfl⟩
 refine Rd 8 [0,1,6,7,9,10,11,12,13,14,15,16] [(0,.slice Aa0 a0.length ca0),(1,.slice Aa1 a1.length ca1),(6,pg g1 0),(7,pg g2 0),(9,.slice A1 y1.length c1),(10,.slice A2 y2.length c2),(11,pg g3 0),(12,pg g4 0),(13,.bool y5.1),(14,iv y5.2),(15,.bool y6.1),(16,iv y6.2)]<|Ad 1 [.c [1,1,1,1,0],.c [1,1,1,1,1]] ?_
 obtain ⟨t1,ht1,heq⟩:=bind_some heq
 have K19:∀ (H:Hp),RunH C3 (S3 F H0 r) H0 w0 [.c [1,1,1,1,1]] [(8,.bool t1)] H (F):=by
  intro H
  obtain rfl:=Option.some.inj heq
  exact RunH.done (by kernel_rfl) Tryd.func3 (v:=.bool t1) (by kernel_rfl) ⟨rfl,rfl⟩
 replace heq:=ht1
 refine Rr<|Rk 1 [0,1,6,7,9,10,11,12,13,14,15,16,37] [(0,.slice Aa0 a0.length ca0),(1,.slice Aa1 a1.length ca1),(6,pg g1 0),(7,pg g2 0),(9,.slice A1 y1.length c1),(10,.slice A2 y2.length c2),(11,pg g3 0),(12,pg g4 0),(13,.bool y5.1),(14,iv y5.2),(15,.bool y6.1),(16,iv y6.2),(37,.slice Aa0 a0.length ca0)] ?_
 obtain ⟨y7,hy7,heq⟩:=bind_some heq
 refine RgH.does (DoesH.call (d:=38) (g:=10) (args:=#[.slice Aa0 a0.length ca0]) (by kernel_rfl) (workers_CheckWorkers_c (a0:=a0) (hra0.wk (fun _ h=>(.tail _ (.tail _ (.tail _ (.tail _ (.tail _ (.tail _ (.tail _ (.tail _ (.tail _ (.tail _ h)))))))))))) hca0 rfl hy7)) ?_
 rintro _ _ _ _ ⟨_,rfl,rfl,rfl,rfl⟩
 refine Rk 3 [0,1,6,7,9,10,11,12,13,14,15,16,38,39] [(0,.slice Aa0 a0.length ca0),(1,.slice Aa1 a1.length ca1),(6,pg g1 0),(7,pg g2 0),(9,.slice A1 y1.length c1),(10,.slice A2 y2.length c2),(11,pg g3 0),(12,pg g4 0),(13,.bool y5.1),(14,iv y5.2),(15,.bool y6.1),(16,iv y6.2),(38,iv y7),(39,.slice A1 y1.length c1)] ?_
 obtain ⟨y8,hy8,heq⟩:=bind_some heq
 refine RgH.does (DoesH.call (d:=40) (g:=11) (args:=#[.slice A1 y1.length c1]) (by kernel_rfl) (smithyardref9_CheckWorkers_c (a0:=y1) (ho1.rw (.tail _ (.tail _ (.tail _ (.tail _ (.tail _ (.tail _ (.tail _ (.head _))))))))) ho1.cap rfl hy8)) ?_
 rintro _ _ _ _ ⟨_,rfl,rfl,rfl,rfl⟩
 refine Rk 6 [42,0,1,6,7,9,10,11,12,13,14,15,16] [(42,.bool (y7 == y8)),(0,.slice Aa0 a0.length ca0),(1,.slice Aa1 a1.length ca1),(6,pg g1 0),(7,pg g2 0),(9,.slice A1 y1.length c1),(10,.slice A2 y2.length c2),(11,pg g3 0),(12,pg g4 0),(13,.bool y5.1),(14,iv y5.2),(15,.bool y6.1),(16,iv y6.2)] ?_
 rcases bool_cases (y7 == y8) with hb1 | hb1
 ·replace heq:=bif_true hb1 heq
  refine RgH.val1 (v':=.bool true) (congrArg Value.bool hb1) ?_
  refine Rk 7 [0,1,6,7,9,10,11,12,13,14,15,16,42,43] [(0,.slice Aa0 a0.length ca0),(1,.slice Aa1 a1.length ca1),(6,pg g1 0),(7,pg g2 0),(9,.slice A1 y1.length c1),(10,.slice A2 y2.length c2),(11,pg g3 0),(12,pg g4 0),(13,.bool y5.1),(14,iv y5.2),(15,.bool y6.1),(16,iv y6.2),(42,.bool true),(43,.slice Aa1 a1.length ca1)] ?_
  obtain ⟨y9,hy9,heq⟩:=bind_some heq
  refine RgH.does (DoesH.call (d:=44) (g:=12) (args:=#[.slice Aa1 a1.length ca1]) (by kernel_rfl) (workers_CheckWorks_c (a0:=a1) (hra1.wk (fun _ h=>(.tail _ (.tail _ (.tail _ (.tail _ (.tail _ (.tail _ (.tail _ (.tail _ (.tail _ (.tail _ h)))))))))))) hca1 rfl hy9)) ?_
  rintro _ _ _ _ ⟨_,rfl,rfl,rfl,rfl⟩
  refine Rk 9 [0,1,6,7,9,10,11,12,13,14,15,16,42,44,45] [(0,.slice Aa0 a0.length ca0),(1,.slice Aa1 a1.length ca1),(6,pg g1 0),(7,pg g2 0),(9,.slice A1 y1.length c1),(10,.slice A2 y2.length c2),(11,pg g3 0),(12,pg g4 0),(13,.bool y5.1),(14,iv y5.2),(15,.bool y6.1),(16,iv y6.2),(42,.bool true),(44,iv y9),(45,.slice A2 y2.length c2)] ?_
  obtain ⟨y10,hy10,heq⟩:=bind_some heq
  refine RgH.does (DoesH.call (d:=46) (g:=13) (args:=#[.slice A2 y2.length c2]) (by kernel_rfl) (smithyardref9_CheckWorks_c (a0:=y2) (ho2.rw (.tail _ (.tail _ (.tail _ (.tail _ (.tail _ (.tail _ (.head _)))))))) ho2.cap rfl hy10)) ?_
  rintro _ _ _ _ ⟨_,rfl,rfl,rfl,rfl⟩
  refine Rk 13 [49,0,1,6,7,9,10,11,12,13,14,15,16] [(49,.bool (y9 == y10)),(0,.slice Aa0 a0.length ca0),(1,.slice Aa1 a1.length ca1),(6,pg g1 0),(7,pg g2 0),(9,.slice A1 y1.length c1),(10,.slice A2 y2.length c2),(11,pg g3 0),(12,pg g4 0),(13,.bool y5.1),(14,iv y5.2),(15,.bool y6.1),(16,iv y6.2)] ?_
  rcases bool_cases (y9 == y10) with hb2 | hb2
  ·replace heq:=bif_true hb2 heq
   refine RgH.val1 (v':=.bool true) (congrArg Value.bool hb2) ?_
   refine Rk 18 [54,0,1,6,7,9,10,11,12,13,15] [(54,.bool (y5.2 == y6.2)),(0,.slice Aa0 a0.length ca0),(1,.slice Aa1 a1.length ca1),(6,pg g1 0),(7,pg g2 0),(9,.slice A1 y1.length c1),(10,.slice A2 y2.length c2),(11,pg g3 0),(12,pg g4 0),(13,.bool y5.1),(15,.bool y6.1)] ?_
   rcases bool_cases (y5.2 == y6.2) with hb3 | hb3
   ·replace heq:=bif_true hb3 heq
    refine RgH.val1 (v':=.bool true) (congrArg Value.bool hb3) ?_
    refine Rk 23 [59,0,1,6,7,9,10,11,12] [(59,.bool (y5.1 == y6.1)),(0,.slice Aa0 a0.length ca0),(1,.slice Aa1 a1.length ca1),(6,pg g1 0),(7,pg g2 0),(9,.slice A1 y1.length c1),(10,.slice A2 y2.length c2),(11,pg g3 0),(12,pg g4 0)] ?_
    rcases bool_cases (y5.1 == y6.1) with hb4 | hb4
    ·replace heq:=bif_true hb4 heq
     refine RgH.val1 (v':=.bool true) (congrArg Value.bool hb4) ?_
     refine Rk 25 [1,6,7,10,11,12,59,60,61] [(1,.slice Aa1 a1.length ca1),(6,pg g1 0),(7,pg g2 0),(10,.slice A2 y2.length c2),(11,pg g3 0),(12,pg g4 0),(59,.bool true),(60,.slice Aa0 a0.length ca0),(61,.slice A1 y1.length c1)] ?_
     obtain ⟨y11,hy11,heq⟩:=bind_some heq
     refine RgH.does (DoesH.call (d:=62) (g:=14) (args:=#[.slice Aa0 a0.length ca0,.slice A1 y1.length c1]) (by kernel_rfl) (smithyardref9_SameWorkers_c (a0:=a0) (a1:=y1) (hra0.wk (fun _ h=>(.tail _ (.tail _ (.tail _ (.tail _ (.tail _ (.tail _ (.tail _ (.tail _ (.tail _ (.tail _ h)))))))))))) hca0 rfl (ho1.rw (.tail _ (.tail _ (.tail _ (.tail _ (.tail _ (.tail _ (.tail _ (.head _))))))))) ho1.cap rfl hy11)) ?_
     rintro _ _ _ _ ⟨_,rfl,rfl,rfl,rfl⟩
     refine Rk 28 [64,1,6,7,10,11,12] [(64,.bool y11),(1,.slice Aa1 a1.length ca1),(6,pg g1 0),(7,pg g2 0),(10,.slice A2 y2.length c2),(11,pg g3 0),(12,pg g4 0)] ?_
     rcases bool_cases (y11) with hb5 | hb5
     ·replace heq:=bif_true hb5 heq
      refine RgH.val1 (v':=.bool true) (congrArg Value.bool hb5) ?_
      refine Rk 30 [6,7,11,12,64,65,66] [(6,pg g1 0),(7,pg g2 0),(11,pg g3 0),(12,pg g4 0),(64,.bool true),(65,.slice Aa1 a1.length ca1),(66,.slice A2 y2.length c2)] ?_
      obtain ⟨y12,hy12,heq⟩:=bind_some heq
      refine RgH.does (DoesH.call (d:=67) (g:=15) (args:=#[.slice Aa1 a1.length ca1,.slice A2 y2.length c2]) (by kernel_rfl) (smithyardref9_SameWorks_c (a0:=a1) (a1:=y2) (hra1.wk (fun _ h=>(.tail _ (.tail _ (.tail _ (.tail _ (.tail _ (.tail _ (.tail _ (.tail _ (.tail _ (.tail _ h)))))))))))) hca1 rfl (ho2.rw (.tail _ (.tail _ (.tail _ (.tail _ (.tail _ (.tail _ (.head _)))))))) ho2.cap rfl hy12)) ?_
      rintro _ _ _ _ ⟨_,rfl,rfl,rfl,rfl⟩
      refine Rk 33 [69,6,7,11,12] [(69,.bool y12),(6,pg g1 0),(7,pg g2 0),(11,pg g3 0),(12,pg g4 0)] ?_
      rcases bool_cases (y12) with hb6 | hb6
      ·replace heq:=bif_true hb6 heq
       refine RgH.val1 (v':=.bool true) (congrArg Value.bool hb6) ?_
       refine Rv 35 [7,12,69,70,71] [.string a2.Name,.slice Aa2_1 a2.Has.length ca2_1,iv a2.Slots,iv a2.Speed,iv a2.From,iv a2.To,.slice Aa2_6 a2.Stands.length ca2_6,.string y3.Name,.slice A3 y3.Has.length c3,iv y3.Slots,iv y3.Speed,iv y3.From,iv y3.To,.slice A4 y3.Stands.length c4] [.load ⟨g1,0,none⟩ (.string a2.Name),.load ⟨g1,1,none⟩ (.slice Aa2_1 a2.Has.length ca2_1),.load ⟨g1,2,none⟩ (iv a2.Slots),.load ⟨g1,3,none⟩ (iv a2.Speed),.load ⟨g1,4,none⟩ (iv a2.From),.load ⟨g1,5,none⟩ (iv a2.To),.load ⟨g1,6,none⟩ (.slice Aa2_6 a2.Stands.length ca2_6),.load ⟨g3,0,none⟩ (.string y3.Name),.load ⟨g3,1,none⟩ (.slice A3 y3.Has.length c3),.load ⟨g3,2,none⟩ (iv y3.Slots),.load ⟨g3,3,none⟩ (iv y3.Speed),.load ⟨g3,4,none⟩ (iv y3.From),.load ⟨g3,5,none⟩ (iv y3.To),.load ⟨g3,6,none⟩ (.slice A4 y3.Stands.length c4)] [(7,pg g2 0),(12,pg g4 0),(69,.bool true),(70,.agg #[.string a2.Name,.slice Aa2_1 a2.Has.length ca2_1,iv a2.Slots,iv a2.Speed,iv a2.From,iv a2.To,.slice Aa2_6 a2.Stands.length ca2_6]),(71,.agg #[.string y3.Name,.slice A3 y3.Has.length c3,iv y3.Slots,iv y3.Speed,iv y3.From,iv y3.To,.slice A4 y3.Stands.length c4])] (fun w hh=>⟨(hh.box 9 rfl rfl),(hh.box 9 rfl rfl),(hh.box 9 rfl rfl),(hh.box 9 rfl rfl),(hh.box 9 rfl rfl),(hh.box 9 rfl rfl),(hh.box 9 rfl rfl),(hh.box 0 rfl rfl),(hh.box 0 rfl rfl),(hh.box 0 rfl rfl),(hh.box 0 rfl rfl),(hh.box 0 rfl rfl),(hh.box 0 rfl rfl),(hh.box 0 rfl rfl)⟩) ?_
       obtain ⟨y13,hy13,heq⟩:=bind_some heq
       refine RgH.does (DoesH.call (d:=72) (g:=16) (args:=#[.agg #[.string a2.Name,.slice Aa2_1 a2.Has.length ca2_1,iv a2.Slots,iv a2.Speed,iv a2.From,iv a2.To,.slice Aa2_6 a2.Stands.length ca2_6],.agg #[.string y3.Name,.slice A3 y3.Has.length c3,iv y3.Slots,iv y3.Speed,iv y3.From,iv y3.To,.slice A4 y3.Stands.length c4]]) (by kernel_rfl) (smithyardref9_SameWorker_c (a0:=a2) (a1:=(⟨y3.Name,y3.Has,y3.Slots,y3.Speed,y3.From,y3.To,y3.Stands⟩:Worker)) (hra2_1.wk (fun _ h=>(.tail _ (.tail _ (.tail _ (.tail _ (.tail _ (.tail _ (.tail _ (.tail _ (.tail _ (.tail _ h)))))))))))) hca2_1 rfl (hra2_6.wk (fun _ h=>(.tail _ (.tail _ (.tail _ (.tail _ (.tail _ (.tail _ (.tail _ (.tail _ (.tail _ (.tail _ h)))))))))))) hca2_6 rfl (ho3.rw (.tail _ (.tail _ (.tail _ (.tail _ (.head _)))))) ho3.cap rfl (ho4.rw (.tail _ (.tail _ (.tail _ (.tail _ (.tail _ (.head _))))))) ho4.cap rfl hy13)) ?_
       rintro _ _ _ _ ⟨_,rfl,rfl,rfl,rfl⟩
       refine Rk 38 [74,7,12] [(74,.bool y13),(7,pg g2 0),(12,pg g4 0)] ?_
       rcases bool_cases (y13) with hb7 | hb7
       ·replace heq:=bif_true hb7 heq
        refine RgH.val1 (v':=.bool true) (congrArg Value.bool hb7) ?_
        refine Rv 40 [74,75,76] [.string a3.Id,.slice Aa3_1 a3.Needs.length ca3_1,iv a3.Size,.slice Aa3_3 a3.After.length ca3_3,.string y4.Id,.slice A5 y4.Needs.length c5,iv y4.Size,.slice A6 y4.After.length c6] [.load ⟨g2,0,none⟩ (.string a3.Id),.load ⟨g2,1,none⟩ (.slice Aa3_1 a3.Needs.length ca3_1),.load ⟨g2,2,none⟩ (iv a3.Size),.load ⟨g2,3,none⟩ (.slice Aa3_3 a3.After.length ca3_3),.load ⟨g4,0,none⟩ (.string y4.Id),.load ⟨g4,1,none⟩ (.slice A5 y4.Needs.length c5),.load ⟨g4,2,none⟩ (iv y4.Size),.load ⟨g4,3,none⟩ (.slice A6 y4.After.length c6)] [(74,.bool true),(75,.agg #[.string a3.Id,.slice Aa3_1 a3.Needs.length ca3_1,iv a3.Size,.slice Aa3_3 a3.After.length ca3_3]),(76,.agg #[.string y4.Id,.slice A5 y4.Needs.length c5,iv y4.Size,.slice A6 y4.After.length c6])] (fun w hh=>⟨(hh.box 8 rfl rfl),(hh.box 8 rfl rfl),(hh.box 8 rfl rfl),(hh.box 8 rfl rfl),(hh.box 1 rfl rfl),(hh.box 1 rfl rfl),(hh.box 1 rfl rfl),(hh.box 1 rfl rfl)⟩) ?_
        obtain ⟨y14,hy14,heq⟩:=bind_some heq
        refine RgH.does (DoesH.call (d:=77) (g:=17) (args:=#[.agg #[.string a3.Id,.slice Aa3_1 a3.Needs.length ca3_1,iv a3.Size,.slice Aa3_3 a3.After.length ca3_3],.agg #[.string y4.Id,.slice A5 y4.Needs.length c5,iv y4.Size,.slice A6 y4.After.length c6]]) (by kernel_rfl) (smithyardref9_SameWork_c (a0:=a3) (a1:=(⟨y4.Id,y4.Needs,y4.Size,y4.After⟩:Work)) (hra3_1.wk (fun _ h=>(.tail _ (.tail _ (.tail _ (.tail _ (.tail _ (.tail _ (.tail _ (.tail _ (.tail _ (.tail _ h)))))))))))) hca3_1 rfl (hra3_3.wk (fun _ h=>(.tail _ (.tail _ (.tail _ (.tail _ (.tail _ (.tail _ (.tail _ (.tail _ (.tail _ (.tail _ h)))))))))))) hca3_3 rfl (ho5.rw (.tail _ (.tail _ (.head _)))) ho5.cap rfl (ho6.rw (.tail _ (.tail _ (.tail _ (.head _))))) ho6.cap rfl hy14)) ?_
        rintro _ _ _ _ ⟨_,rfl,rfl,rfl,rfl⟩
        refine Rk 43 [79] [(79,.bool y14)] ?_
        rcases bool_cases (y14) with hb8 | hb8
        ·replace heq:=bif_true hb8 heq
         refine RgH.val1 (v':=.bool true) (congrArg Value.bool hb8) ?_
         obtain ⟨y15,hy15,heq⟩:=bind_some heq
         refine RgH.does (DoesH.call (d:=80) (g:=18) (args:=(List.toArray [])) (by kernel_rfl) (smithyardlaw9_awake_c  hy15)) ?_
         rintro _ _ _ _ ⟨_,rfl,rfl,rfl,rfl⟩
         refine Rk 46 [8] [(8,.bool y15)] ?_
         obtain rfl:=Option.some.inj heq
         refine Kg [8] [(8,.bool y15)] ?_
         refine RgH.pick 10 [] (cs':=F) (by kernel_rfl) rfl ?_
         refine Dn ?_
         exact K19 _
        ·replace heq:=bif_false hb8 heq
         refine RgH.val1 (v':=.bool false) (congrArg Value.bool hb8) ?_
         refine Rk 46 [8] [(8,.bool false)] ?_
         obtain rfl:=Option.some.inj heq
         refine Kg [8] [(8,.bool false)] ?_
         refine RgH.pick 10 [] (cs':=F) (by kernel_rfl) rfl ?_
         refine Dn ?_
         exact K19 _
       ·replace heq:=bif_false hb7 heq
        refine RgH.val1 (v':=.bool false) (congrArg Value.bool hb7) ?_
        refine Rk 46 [8] [(8,.bool false)] ?_
        obtain rfl:=Option.some.inj heq
        refine Kg [8] [(8,.bool false)] ?_
        refine RgH.pick 10 [] (cs':=F) (by kernel_rfl) rfl ?_
        refine Dn ?_
        exact K19 _
      ·replace heq:=bif_false hb6 heq
       refine RgH.val1 (v':=.bool false) (congrArg Value.bool hb6) ?_
       refine Rk 46 [8] [(8,.bool false)] ?_
       obtain rfl:=Option.some.inj heq
       refine Kg [8] [(8,.bool false)] ?_
       refine RgH.pick 10 [] (cs':=F) (by kernel_rfl) rfl ?_
       refine Dn ?_
       exact K19 _
     ·replace heq:=bif_false hb5 heq
      refine RgH.val1 (v':=.bool false) (congrArg Value.bool hb5) ?_
      refine Rk 46 [8] [(8,.bool false)] ?_
      obtain rfl:=Option.some.inj heq
      refine Kg [8] [(8,.bool false)] ?_
      refine RgH.pick 10 [] (cs':=F) (by kernel_rfl) rfl ?_
      refine Dn ?_
      exact K19 _
    ·replace heq:=bif_false hb4 heq
     refine RgH.val1 (v':=.bool false) (congrArg Value.bool hb4) ?_
     refine Rk 46 [8] [(8,.bool false)] ?_
     obtain rfl:=Option.some.inj heq
     refine Kg [8] [(8,.bool false)] ?_
     refine RgH.pick 10 [] (cs':=F) (by kernel_rfl) rfl ?_
     refine Dn ?_
     exact K19 _
   ·replace heq:=bif_false hb3 heq
    refine RgH.val1 (v':=.bool false) (congrArg Value.bool hb3) ?_
    refine Rk 46 [8] [(8,.bool false)] ?_
    obtain rfl:=Option.some.inj heq
    refine Kg [8] [(8,.bool false)] ?_
    refine RgH.pick 10 [] (cs':=F) (by kernel_rfl) rfl ?_
    refine Dn ?_
    exact K19 _
  ·replace heq:=bif_false hb2 heq
   refine RgH.val1 (v':=.bool false) (congrArg Value.bool hb2) ?_
   refine Rk 46 [8] [(8,.bool false)] ?_
   obtain rfl:=Option.some.inj heq
   refine Kg [8] [(8,.bool false)] ?_
   refine RgH.pick 10 [] (cs':=F) (by kernel_rfl) rfl ?_
   refine Dn ?_
   exact K19 _
 ·replace heq:=bif_false hb1 heq
  refine RgH.val1 (v':=.bool false) (congrArg Value.bool hb1) ?_
  refine Rk 46 [8] [(8,.bool false)] ?_
  obtain rfl:=Option.some.inj heq
  refine Kg [8] [(8,.bool false)] ?_
  refine RgH.pick 10 [] (cs':=F) (by kernel_rfl) rfl ?_
  refine Dn ?_
  exact K19 _
end Go.Proofs.YteljhhgffmpgnaaDoor
