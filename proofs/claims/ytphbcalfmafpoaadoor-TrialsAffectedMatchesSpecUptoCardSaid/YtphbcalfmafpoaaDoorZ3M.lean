/- What the machine's calls of these functions come to: just what the plain functions say. Written by program. -/
import Derived.Test.YtphbcalfmafpoaaDoorProg
import Derived.Test.YtphbcalfmafpoaaDoorKitW
import Derived.Test.YtphbcalfmafpoaaDoorZD
import Derived.Test.YtphbcalfmafpoaaDoorShelf
import Derived.Test.YtphbcalfmafpoaaDoorZ3M1
set_option linter.unusedVariables false
set_option linter.unusedSimpArgs false
set_option maxRecDepth 100000
set_option maxHeartbeats 1000000
namespace Go.Proofs.YtphbcalfmafpoaaDoor
open Go Go.RowKit Go.Proofs.YtphbcalfmafpoaaDoor.Kit
noncomputable def C9:Ctx:={ P:=Tryd.prog,f:=9,N:=71,c:=bodyOf Tryd.f9 }
def S9 (F:List Ch) (H0:Hp) (r:Int) (v:Value) (H:Hp) (cs:List Ch):Prop:=H0=H∧v=iv r∧F=cs
theorem smithyardref10_CheckReads.e1_c {w0:World} [GlobI 0 w0] {H:Hp} {F:List Ch} {r:Int}:smithyardref10_CheckReads.e1=some r→RunH C9 (S9 F H r) H w0 [.c [1,1,1,0],.c [1,1,1,1]] [] H (F):=by
 intro   heq
 unfold smithyardref10_CheckReads.e1 at heq
 refine Rr<|Rd 1 [2] [(2,iv 0)] ?_
 obtain rfl:=Option.some.inj heq
 exact RunH.done (by kernel_rfl) Tryd.func9 (v:=iv 0) (by kernel_rfl) ⟨rfl,rfl,rfl⟩
theorem smithyardref10_CheckReads.e3_c {w0:World} [GlobI 0 w0] {H:Hp} {F:List Ch} {r:Int} (backl2:(List TestReads)→Int→Option Int)
  (hbackl2:∀ (a0:List TestReads) (Aa0:Option Addr) (ca0:Nat) (v14:Int) ,Rw kTestReads H F Aa0 a0→a0.length≤ca0→backl2 a0 v14=some r→RunH C9 (S9 F H r) H w0 [.c [1,1,0,1,0,0],.l [1,1,0,1,0,0],.b 0,.c [1,1,1]] [(0,.slice Aa0 a0.length ca0),(12,.slice Aa0 a0.length ca0),(13,iv (a0.length:Int)),(14,iv v14)] H (F)):∀ (a0:List TestReads) (Aa0:Option Addr) (ca0:Nat) (v14:Int) (x1:TestReads) (A1:Option Addr) (c1:Nat) (A2:Option Addr) (c2:Nat) (g1:Nat) ,Rw kTestReads H F Aa0 a0→a0.length≤ca0→Kd.Row Kd.string H A1 x1.Paths→x1.Paths.length≤c1→Kd.Row Kd.string H A2 x1.Looked→x1.Looked.length≤c2→smithyardref10_CheckReads.e3 backl2 a0 v14 x1=some r→RunH C9 (S9 F H r) H w0 [.c [1,1,0,1,0,0,1,1,0,0,1,1,1,1,1,1,0],.c [1,1,0,1,0,0,1,1,0,0,1,1,1,1,1,1,1],.b 1,.c [1,1,0,1,0,0,1,1,1],.l [1,1,0,1,0,0],.b 0,.c [1,1,1]] [(0,.slice Aa0 a0.length ca0),(3,iv v14),(4,pg g1 0),(12,.slice Aa0 a0.length ca0),(13,iv (a0.length:Int)),(14,iv v14)] H ((some (g1,.cells #[.string x1.Test,.slice A1 x1.Paths.length c1,.slice A2 x1.Looked.length c2] 39 (0,0)))::F):=by
 intro a0 Aa0 ca0 v14 x1 A1 c1 A2 c2 g1 hra0 hca0 hr1 hc1 hr2 hc2 heq
 unfold smithyardref10_CheckReads.e3 at heq
 obtain ⟨t2,ht2,heq⟩:=bind_some heq
 have K3:RunH C9 (S9 F H r) H w0 [.c [1,1,0,1,0,0,1,1,0,0,1,1,1,1,1,1,1],.b 1,.c [1,1,0,1,0,0,1,1,1],.l [1,1,0,1,0,0],.b 0,.c [1,1,1]] [(0,.slice Aa0 a0.length ca0),(12,.slice Aa0 a0.length ca0),(13,iv (a0.length:Int)),(14,iv v14),(69,.bool t2)] H (F):=by
  rcases bool_cases (t2) with hb9 | hb9
  ·replace heq:=bif_true hb9 heq
   refine Ct t2 hb9<|Ra 1 [1,1,0,1,0,0,1,1,0,0,1,1,1,1,1,1,1,0,0] [.c [1,1,0,1,0,0,1,1,0,0,1,1,1,1,1,1,1,0,1],.b 1,.c [1,1,0,1,0,0,1,1,1],.l [1,1,0,1,0,0],.b 0,.c [1,1,1]]<|Rd 1 [2] [(2,iv 8)] ?_
   obtain rfl:=Option.some.inj heq
   exact RunH.done (by kernel_rfl) Tryd.func9 (v:=iv 8) (by kernel_rfl) ⟨rfl,rfl,rfl⟩
  ·replace heq:=bif_false hb9 heq
   refine Cf t2 hb9<|Ra 2 [1,1,0,1,0,0,1,1,1] [.l [1,1,0,1,0,0],.b 0,.c [1,1,1]]<|Rd 2 [0,12,13,14] [(0,.slice Aa0 a0.length ca0),(12,.slice Aa0 a0.length ca0),(13,iv (a0.length:Int)),(14,iv (w64 (v14+1)))]<|Ad 1 [.c [1,1,0,1,0,0],.l [1,1,0,1,0,0],.b 0,.c [1,1,1]]<|Kp [0,12,13,14] [(0,.slice Aa0 a0.length ca0),(12,.slice Aa0 a0.length ca0),(13,iv (a0.length:Int)),(14,iv (w64 (v14+1)))] ?_
   exact hbackl2 a0 _ _ (w64 (v14+1)) hra0 hca0 heq
 replace heq:=ht2
 refine Kp [0,3,4,12,13,14] [(0,.slice Aa0 a0.length ca0),(3,iv v14),(4,pg g1 0),(12,.slice Aa0 a0.length ca0),(13,iv (a0.length:Int)),(14,iv v14)] ?_
 refine RunH.draw (fun w=>Heap H w0 w ((some (g1,.cells #[.string x1.Test,.slice A1 x1.Paths.length c1,.slice A2 x1.Looked.length c2] 39 (0,0)))::F)) (fun w=>Heap H w0 w ((some (g1,.cells #[.string x1.Test,.slice A1 x1.Paths.length c1,.slice A2 x1.Looked.length c2] 39 (0,0)))::F)) [3,3,3,3,3,3,3,3,3,3,3,3,3] (n:=13) (ls:=[false,false,false,false,false,false,false,false,false,false,false,false,false]) (by kernel_rfl) (by kernel_rfl) (by kernel_rfl) rfl ?_
 refine Dk [0,1,2] 10 (nb 13 7) [] [] [59,0,3,4,12,13,14] [(59,.bool (decide (0<v14))),(0,.slice Aa0 a0.length ca0),(3,iv v14),(4,pg g1 0),(12,.slice Aa0 a0.length ca0),(13,iv (a0.length:Int)),(14,iv v14)] (Pk 1 [0]) (Pk 1 [0]) (fun _ _=>trivial) ?_
 rcases bool_cases (decide (0<v14)) with hb8 | hb8
 ·replace heq:=bif_true hb8 heq
  refine DrH.val1 (v':=.bool true) (congrArg Value.bool hb8) ?_
  obtain ⟨x2,hx2,heq⟩:=bind_some heq
  obtain ⟨ha2,cs2,hK2,hcc2⟩:=hra0.get hx2
  obtain ⟨A3,c3,A4,c4,rfl,hc3,hr3,hc4,hr4⟩:=kTestReads_open hK2
  refine Dk [3,4,5,6,7,8,9,10,11,12] 0 (nb 13 8191) [.string x1.Test,.string x2.Test] [.load ⟨g1,0,none⟩ (.string x1.Test),.need (Aa0=some (adr Aa0)∧(0:Int)≤(w64 (v14 - 1))∧(w64 (v14 - 1))<((a0.length:Nat):Int)),.load (((adr Aa0).add ((w64 (v14 - 1)).toNat*3)).add 0) (.string x2.Test)] [0,12,13,14,69] [(0,.slice Aa0 a0.length ca0),(12,.slice Aa0 a0.length ca0),(13,iv (a0.length:Int)),(14,iv v14),(69,.bool (sLt x1.Test x2.Test||sEq x1.Test x2.Test))] (Pk 1 [0]) (Pk 1 [0]) (fun w hh=>⟨(hh.box 0 rfl rfl),⟨ha2,(at?_some hx2).1,(at?_some hx2).2.1⟩,(hcc2 _ _ (hh.drop 1) 0 _ rfl)⟩) ?_
  obtain rfl:=Option.some.inj heq
  refine Kr [0,12,13,14,69] [(0,.slice Aa0 a0.length ca0),(12,.slice Aa0 a0.length ca0),(13,iv (a0.length:Int)),(14,iv v14),(69,.bool (sLt x1.Test x2.Test||sEq x1.Test x2.Test))] ?_
  refine DrH.pick 1 [] (cs':=F) (by kernel_rfl) rfl ?_
  refine DrH.done (by kernel_rfl) ?_
  exact K3
 ·replace heq:=bif_false hb8 heq
  refine DrH.val1 (v':=.bool false) (congrArg Value.bool hb8) ?_
  refine Dk [3,4,5,6,7,8,9,10,11,12] 0 (nb 13 8191) [] [] [0,12,13,14,69] [(0,.slice Aa0 a0.length ca0),(12,.slice Aa0 a0.length ca0),(13,iv (a0.length:Int)),(14,iv v14),(69,.bool false)] (Pk 1 [0]) (Pk 1 [0]) (fun _ _=>trivial) ?_
  obtain rfl:=Option.some.inj heq
  refine Kr [0,12,13,14,69] [(0,.slice Aa0 a0.length ca0),(12,.slice Aa0 a0.length ca0),(13,iv (a0.length:Int)),(14,iv v14),(69,.bool false)] ?_
  refine DrH.pick 1 [] (cs':=F) (by kernel_rfl) rfl ?_
  refine DrH.done (by kernel_rfl) ?_
  exact K3
theorem smithyardref10_CheckReads.l4_c {w0:World} [GlobI 0 w0] {H:Hp} {F:List Ch} {r:Int} (e3:(List TestReads)→Int→TestReads→Option Int)
  (he3:∀ (a0:List TestReads) (Aa0:Option Addr) (ca0:Nat) (v14:Int) (x1:TestReads) (A1:Option Addr) (c1:Nat) (A2:Option Addr) (c2:Nat) (g1:Nat) ,Rw kTestReads H F Aa0 a0→a0.length≤ca0→Kd.Row Kd.string H A1 x1.Paths→x1.Paths.length≤c1→Kd.Row Kd.string H A2 x1.Looked→x1.Looked.length≤c2→e3 a0 v14 x1=some r→RunH C9 (S9 F H r) H w0 [.c [1,1,0,1,0,0,1,1,0,0,1,1,1,1,1,1,0],.c [1,1,0,1,0,0,1,1,0,0,1,1,1,1,1,1,1],.b 1,.c [1,1,0,1,0,0,1,1,1],.l [1,1,0,1,0,0],.b 0,.c [1,1,1]] [(0,.slice Aa0 a0.length ca0),(3,iv v14),(4,pg g1 0),(12,.slice Aa0 a0.length ca0),(13,iv (a0.length:Int)),(14,iv v14)] H ((some (g1,.cells #[.string x1.Test,.slice A1 x1.Paths.length c1,.slice A2 x1.Looked.length c2] 39 (0,0)))::F)):∀ (k:Nat),∀ (a0:List TestReads) (Aa0:Option Addr) (ca0:Nat) (v14:Int) (x1:TestReads) (A1:Option Addr) (c1:Nat) (A2:Option Addr) (c2:Nat) (g1:Nat) (v48:Int) ,Rw kTestReads H F Aa0 a0→a0.length≤ca0→Kd.Row Kd.string H A1 x1.Paths→x1.Paths.length≤c1→Kd.Row Kd.string H A2 x1.Looked→x1.Looked.length≤c2→smithyardref10_CheckReads.l4 e3 k a0 v14 x1 v48=some r→RunH C9 (S9 F H r) H w0 [.c [1,1,0,1,0,0,1,1,0,0,1,1,1,1,1,0,1,0,0],.l [1,1,0,1,0,0,1,1,0,0,1,1,1,1,1,0,1,0,0],.b 2,.c [1,1,0,1,0,0,1,1,0,0,1,1,1,1,1,1],.b 1,.c [1,1,0,1,0,0,1,1,1],.l [1,1,0,1,0,0],.b 0,.c [1,1,1]] [(0,.slice Aa0 a0.length ca0),(3,iv v14),(4,pg g1 0),(12,.slice Aa0 a0.length ca0),(13,iv (a0.length:Int)),(14,iv v14),(46,.slice A2 x1.Looked.length c2),(47,iv (x1.Looked.length:Int)),(48,iv v48)] H ((some (g1,.cells #[.string x1.Test,.slice A1 x1.Paths.length c1,.slice A2 x1.Looked.length c2] 39 (0,0)))::F):=by
 intro k
 induction k with
 | zero=>intro a0 Aa0 ca0 v14 x1 A1 c1 A2 c2 g1 v48 hra0 hca0 hr1 hc1 hr2 hc2 heq; exact nomatch (show (none:Option Int)=some r from heq)
 | succ k ihk =>
  intro a0 Aa0 ca0 v14 x1 A1 c1 A2 c2 g1 v48 hra0 hca0 hr1 hc1 hr2 hc2 heq
  rw [smithyardref10_CheckReads.l4] at heq
  refine Ra 1 [1,1,0,1,0,0,1,1,0,0,1,1,1,1,1,0,1,0,0,0] [.c [1,1,0,1,0,0,1,1,0,0,1,1,1,1,1,0,1,0,0,1],.l [1,1,0,1,0,0,1,1,0,0,1,1,1,1,1,0,1,0,0],.b 2,.c [1,1,0,1,0,0,1,1,0,0,1,1,1,1,1,1],.b 1,.c [1,1,0,1,0,0,1,1,1],.l [1,1,0,1,0,0],.b 0,.c [1,1,1]]<|Rd 1 [0,3,4,12,13,14,46,47,48,49] [(0,.slice Aa0 a0.length ca0),(3,iv v14),(4,pg g1 0),(12,.slice Aa0 a0.length ca0),(13,iv (a0.length:Int)),(14,iv v14),(46,.slice A2 x1.Looked.length c2),(47,iv (x1.Looked.length:Int)),(48,iv v48),(49,.bool (decide (v48<(x1.Looked.length:Int))))]<|Ad 1 [.c [1,1,0,1,0,0,1,1,0,0,1,1,1,1,1,0,1,0,0,1,0],.c [1,1,0,1,0,0,1,1,0,0,1,1,1,1,1,0,1,0,0,1,1],.l [1,1,0,1,0,0,1,1,0,0,1,1,1,1,1,0,1,0,0],.b 2,.c [1,1,0,1,0,0,1,1,0,0,1,1,1,1,1,1],.b 1,.c [1,1,0,1,0,0,1,1,1],.l [1,1,0,1,0,0],.b 0,.c [1,1,1]] ?_
  rcases bool_cases (decide (v48<(x1.Looked.length:Int))) with hb10 | hb10
  ·replace heq:=bif_true hb10 heq
   refine Ct (decide (v48<(x1.Looked.length:Int))) hb10<|Ra 4 [1,1,0,1,0,0,1,1,0,0,1,1,1,1,1,0,1,0,0,1,1,0,0,0] [.c [1,1,0,1,0,0,1,1,0,0,1,1,1,1,1,0,1,0,0,1,1,0,0,1],.b 3,.c [1,1,0,1,0,0,1,1,0,0,1,1,1,1,1,0,1,0,0,1,1,1],.l [1,1,0,1,0,0,1,1,0,0,1,1,1,1,1,0,1,0,0],.b 2,.c [1,1,0,1,0,0,1,1,0,0,1,1,1,1,1,1],.b 1,.c [1,1,0,1,0,0,1,1,1],.l [1,1,0,1,0,0],.b 0,.c [1,1,1]] ?_
   obtain ⟨x3,hx3,heq⟩:=bind_some heq
   obtain ⟨ha3,cs3,hK3,hcc3⟩:=(Rw.of (F:=F) hr2).get hx3
   obtain rfl:cs3=[.string x3]:=hK3
   refine Rw' 3 [0,3,4,8,12,13,14,46,47,48] [.string x3] [.need (A2=some (adr A2)∧(0:Int)≤v48∧v48<((x1.Looked.length:Nat):Int)),.load ((adr A2).add (v48.toNat*1)) (.string x3)] [(0,.slice Aa0 a0.length ca0),(3,iv v14),(4,pg g1 0),(8,.string x3),(12,.slice Aa0 a0.length ca0),(13,iv (a0.length:Int)),(14,iv v14),(46,.slice A2 x1.Looked.length c2),(47,iv (x1.Looked.length:Int)),(48,iv v48)] (fun w hh=>⟨⟨ha3,(at?_some hx3).1,(at?_some hx3).2.1⟩,(hcc3 _ _ (hh.drop 1) 0 _ rfl)⟩)<|Ra 1 [1,1,0,1,0,0,1,1,0,0,1,1,1,1,1,0,1,0,0,1,1,0,0,1,0] [.c [1,1,0,1,0,0,1,1,0,0,1,1,1,1,1,0,1,0,0,1,1,0,0,1,1],.b 3,.c [1,1,0,1,0,0,1,1,0,0,1,1,1,1,1,0,1,0,0,1,1,1],.l [1,1,0,1,0,0,1,1,0,0,1,1,1,1,1,0,1,0,0],.b 2,.c [1,1,0,1,0,0,1,1,0,0,1,1,1,1,1,1],.b 1,.c [1,1,0,1,0,0,1,1,1],.l [1,1,0,1,0,0],.b 0,.c [1,1,1]]<|Rv 3 [0,3,4,12,13,14,46,47,48,53,54] [.slice A1 x1.Paths.length c1] [.load ⟨g1,1,none⟩ (.slice A1 x1.Paths.length c1)] [(0,.slice Aa0 a0.length ca0),(3,iv v14),(4,pg g1 0),(12,.slice Aa0 a0.length ca0),(13,iv (a0.length:Int)),(14,iv v14),(46,.slice A2 x1.Looked.length c2),(47,iv (x1.Looked.length:Int)),(48,iv v48),(53,.slice A1 x1.Paths.length c1),(54,.string x3)] (fun w hh=>(hh.box 0 rfl rfl)) ?_
   obtain ⟨y4,hy4,heq⟩:=bind_some heq
   refine RgH.does (DoesH.call (d:=55) (g:=26) (args:=#[.slice A1 x1.Paths.length c1,.string x3]) (by kernel_rfl) (slices_Contains_string_c (a0:=x1.Paths) (a1:=x3) (Rw.of hr1) hc1 rfl hy4)) ?_
   rintro _ _ _ _ ⟨_,rfl,rfl,rfl,rfl⟩
   refine Dn ?_
   rcases bool_cases (y4) with hb11 | hb11
   ·replace heq:=bif_true hb11 heq
    refine Ct y4 hb11<|Ra 1 [1,1,0,1,0,0,1,1,0,0,1,1,1,1,1,0,1,0,0,1,1,0,0,1,1,0,0] [.c [1,1,0,1,0,0,1,1,0,0,1,1,1,1,1,0,1,0,0,1,1,0,0,1,1,0,1],.b 3,.c [1,1,0,1,0,0,1,1,0,0,1,1,1,1,1,0,1,0,0,1,1,1],.l [1,1,0,1,0,0,1,1,0,0,1,1,1,1,1,0,1,0,0],.b 2,.c [1,1,0,1,0,0,1,1,0,0,1,1,1,1,1,1],.b 1,.c [1,1,0,1,0,0,1,1,1],.l [1,1,0,1,0,0],.b 0,.c [1,1,1]]<|Rd 1 [2] [(2,iv 12)] ?_
    obtain rfl:=Option.some.inj heq
    refine RunH.pick 1 [] (cs':=F) (by kernel_rfl) rfl ?_
    exact RunH.done (by kernel_rfl) Tryd.func9 (v:=iv 12) (by kernel_rfl) ⟨rfl,rfl,rfl⟩
   ·replace heq:=bif_false hb11 heq
    refine Cf y4 hb11<|Ra 2 [1,1,0,1,0,0,1,1,0,0,1,1,1,1,1,0,1,0,0,1,1,1] [.l [1,1,0,1,0,0,1,1,0,0,1,1,1,1,1,0,1,0,0],.b 2,.c [1,1,0,1,0,0,1,1,0,0,1,1,1,1,1,1],.b 1,.c [1,1,0,1,0,0,1,1,1],.l [1,1,0,1,0,0],.b 0,.c [1,1,1]]<|Rd 2 [0,3,4,12,13,14,46,47,48] [(0,.slice Aa0 a0.length ca0),(3,iv v14),(4,pg g1 0),(12,.slice Aa0 a0.length ca0),(13,iv (a0.length:Int)),(14,iv v14),(46,.slice A2 x1.Looked.length c2),(47,iv (x1.Looked.length:Int)),(48,iv (w64 (v48+1)))]<|Ad 1 [.c [1,1,0,1,0,0,1,1,0,0,1,1,1,1,1,0,1,0,0],.l [1,1,0,1,0,0,1,1,0,0,1,1,1,1,1,0,1,0,0],.b 2,.c [1,1,0,1,0,0,1,1,0,0,1,1,1,1,1,1],.b 1,.c [1,1,0,1,0,0,1,1,1],.l [1,1,0,1,0,0],.b 0,.c [1,1,1]]<|Kp [0,3,4,12,13,14,46,47,48] [(0,.slice Aa0 a0.length ca0),(3,iv v14),(4,pg g1 0),(12,.slice Aa0 a0.length ca0),(13,iv (a0.length:Int)),(14,iv v14),(46,.slice A2 x1.Looked.length c2),(47,iv (x1.Looked.length:Int)),(48,iv (w64 (v48+1)))] ?_
    exact ihk a0 _ _ v14 x1 _ _ _ _ _ (w64 (v48+1)) hra0 hca0 hr1 hc1 hr2 hc2 heq
  ·replace heq:=bif_false hb10 heq
   refine Cf (decide (v48<(x1.Looked.length:Int))) hb10<|Ad 2 [.c [1,1,0,1,0,0,1,1,0,0,1,1,1,1,1,1,0],.c [1,1,0,1,0,0,1,1,0,0,1,1,1,1,1,1,1],.b 1,.c [1,1,0,1,0,0,1,1,1],.l [1,1,0,1,0,0],.b 0,.c [1,1,1]]<|Kp [0,3,4,12,13,14] [(0,.slice Aa0 a0.length ca0),(3,iv v14),(4,pg g1 0),(12,.slice Aa0 a0.length ca0),(13,iv (a0.length:Int)),(14,iv v14)] ?_
   exact he3 a0 _ _ v14 x1 _ _ _ _ _ hra0 hca0 hr1 hc1 hr2 hc2 heq
theorem smithyardref10_CheckReads.l2_c {w0:World} [GlobI 0 w0] {H:Hp} {F:List Ch} {r:Int} (e1:Option Int)
  (he1:e1=some r→RunH C9 (S9 F H r) H w0 [.c [1,1,1,0],.c [1,1,1,1]] [] H (F)):∀ (k:Nat),∀ (a0:List TestReads) (Aa0:Option Addr) (ca0:Nat) (v14:Int) ,Rw kTestReads H F Aa0 a0→a0.length≤ca0→smithyardref10_CheckReads.l2 e1 k a0 v14=some r→RunH C9 (S9 F H r) H w0 [.c [1,1,0,1,0,0],.l [1,1,0,1,0,0],.b 0,.c [1,1,1]] [(0,.slice Aa0 a0.length ca0),(12,.slice Aa0 a0.length ca0),(13,iv (a0.length:Int)),(14,iv v14)] H (F):=by
 intro k
 induction k with
 | zero=>intro a0 Aa0 ca0 v14 hra0 hca0 heq; exact nomatch (show (none:Option Int)=some r from heq)
 | succ k ihk =>
  intro a0 Aa0 ca0 v14 hra0 hca0 heq
  rw [smithyardref10_CheckReads.l2] at heq
  refine Ra 1 [1,1,0,1,0,0,0] [.c [1,1,0,1,0,0,1],.l [1,1,0,1,0,0],.b 0,.c [1,1,1]]<|Rd 1 [0,12,13,14,15] [(0,.slice Aa0 a0.length ca0),(12,.slice Aa0 a0.length ca0),(13,iv (a0.length:Int)),(14,iv v14),(15,.bool (decide (v14<(a0.length:Int))))]<|Ad 1 [.c [1,1,0,1,0,0,1,0],.c [1,1,0,1,0,0,1,1],.l [1,1,0,1,0,0],.b 0,.c [1,1,1]] ?_
  rcases bool_cases (decide (v14<(a0.length:Int))) with hb2 | hb2
  ·replace heq:=bif_true hb2 heq
   refine Ct (decide (v14<(a0.length:Int))) hb2<|Ra 4 [1,1,0,1,0,0,1,1,0,0,0] [.c [1,1,0,1,0,0,1,1,0,0,1],.b 1,.c [1,1,0,1,0,0,1,1,1],.l [1,1,0,1,0,0],.b 0,.c [1,1,1]] ?_
   obtain ⟨x1,hx1,heq⟩:=bind_some heq
   obtain ⟨ha1,cs1,hK1,hcc1⟩:=hra0.get hx1
   obtain ⟨A1,c1,A2,c2,rfl,hc1,hr1,hc2,hr2⟩:=kTestReads_open hK1
   refine Rv 3 [0,12,13,14,16,18] [.string x1.Test,.slice A1 x1.Paths.length c1,.slice A2 x1.Looked.length c2] [.need (Aa0=some (adr Aa0)∧(0:Int)≤v14∧v14<((a0.length:Nat):Int)),.load (((adr Aa0).add (v14.toNat*3)).add 0) (.string x1.Test),.load (((adr Aa0).add (v14.toNat*3)).add 1) (.slice A1 x1.Paths.length c1),.load (((adr Aa0).add (v14.toNat*3)).add 2) (.slice A2 x1.Looked.length c2)] [(0,.slice Aa0 a0.length ca0),(12,.slice Aa0 a0.length ca0),(13,iv (a0.length:Int)),(14,iv v14),(16,iv v14),(18,.agg #[.string x1.Test,.slice A1 x1.Paths.length c1,.slice A2 x1.Looked.length c2])] (fun w hh=>⟨⟨ha1,(at?_some hx1).1,(at?_some hx1).2.1⟩,(hcc1 _ _ (hh.drop 0) 0 _ rfl),(hcc1 _ _ (hh.drop 0) 1 _ rfl),(hcc1 _ _ (hh.drop 0) 2 _ rfl)⟩) ?_
   refine RgH.does (DoesH.new (d:=4) (v:=fun g=>.pointer (some ⟨g,0,none⟩)) (o:=fun g=>.cells #[.string ByteArray.empty,.slice none 0 0,.slice none 0 0] 39 (0,0)) (fun g=>by kernel_rfl)) ?_
   rintro _ _ _ _ ⟨g1,rfl,rfl,rfl⟩
   refine Rk 5 [0,3,4,12,13,14,18] [(0,.slice Aa0 a0.length ca0),(3,iv v14),(4,pg g1 0),(12,.slice Aa0 a0.length ca0),(13,iv (a0.length:Int)),(14,iv v14),(18,.agg #[.string x1.Test,.slice A1 x1.Paths.length c1,.slice A2 x1.Looked.length c2])] ?_
   refine RgH.does (DoesH.store (k:=0) (g:=g1) (off:=0) (v:=.agg #[.string x1.Test,.slice A1 x1.Paths.length c1,.slice A2 x1.Looked.length c2]) (cells':=#[.string x1.Test,.slice A1 x1.Paths.length c1,.slice A2 x1.Looked.length c2]) (by kernel_rfl) rfl (by kernel_rfl) (by kernel_rfl)) ?_
   rintro _ _ _ _ ⟨rfl,rfl,rfl⟩
   refine Dn<|Ra 2 [1,1,0,1,0,0,1,1,0,0,1,0,0] [.c [1,1,0,1,0,0,1,1,0,0,1,0,1],.c [1,1,0,1,0,0,1,1,0,0,1,1],.b 1,.c [1,1,0,1,0,0,1,1,1],.l [1,1,0,1,0,0],.b 0,.c [1,1,1]]<|Rv 2 [0,3,4,12,13,14,20] [.string x1.Test] [.load ⟨g1,0,none⟩ (.string x1.Test)] [(0,.slice Aa0 a0.length ca0),(3,iv v14),(4,pg g1 0),(12,.slice Aa0 a0.length ca0),(13,iv (a0.length:Int)),(14,iv v14),(20,.string x1.Test)] (fun w hh=>(hh.box 0 rfl rfl)) ?_
   obtain ⟨y1,hy1,heq⟩:=bind_some heq
   refine RgH.does (DoesH.call (d:=21) (g:=24) (args:=#[.string x1.Test]) (by kernel_rfl) (smithyardref10_isPath_c (a0:=x1.Test)  hy1)) ?_
   rintro _ _ _ _ ⟨_,rfl,rfl,rfl,rfl⟩
   refine Rd 4 [0,3,4,12,13,14,22] [(0,.slice Aa0 a0.length ca0),(3,iv v14),(4,pg g1 0),(12,.slice Aa0 a0.length ca0),(13,iv (a0.length:Int)),(14,iv v14),(22,.bool (!y1))] ?_
   rcases bool_cases (!y1) with hb3 | hb3
   ·replace heq:=bif_true hb3 heq
    refine Ct (!y1) hb3<|Ra 1 [1,1,0,1,0,0,1,1,0,0,1,0,1,0,0] [.c [1,1,0,1,0,0,1,1,0,0,1,0,1,0,1],.c [1,1,0,1,0,0,1,1,0,0,1,1],.b 1,.c [1,1,0,1,0,0,1,1,1],.l [1,1,0,1,0,0],.b 0,.c [1,1,1]]<|Rd 1 [2] [(2,iv 5)] ?_
    obtain rfl:=Option.some.inj heq
    refine RunH.pick 1 [] (cs':=F) (by kernel_rfl) rfl ?_
    exact RunH.done (by kernel_rfl) Tryd.func9 (v:=iv 5) (by kernel_rfl) ⟨rfl,rfl,rfl⟩
   ·replace heq:=bif_false hb3 heq
    refine Cf (!y1) hb3<|Ad 3 [.c [1,1,0,1,0,0,1,1,0,0,1,1,0,0],.c [1,1,0,1,0,0,1,1,0,0,1,1,0,1],.c [1,1,0,1,0,0,1,1,0,0,1,1,1],.b 1,.c [1,1,0,1,0,0,1,1,1],.l [1,1,0,1,0,0],.b 0,.c [1,1,1]] ?_
    obtain ⟨t1,ht1,heq⟩:=bind_some heq
    have K2:RunH C9 (S9 F H r) H w0 [.c [1,1,0,1,0,0,1,1,0,0,1,1,0,1],.c [1,1,0,1,0,0,1,1,0,0,1,1,1],.b 1,.c [1,1,0,1,0,0,1,1,1],.l [1,1,0,1,0,0],.b 0,.c [1,1,1]] [(0,.slice Aa0 a0.length ca0),(3,iv v14),(4,pg g1 0),(12,.slice Aa0 a0.length ca0),(13,iv (a0.length:Int)),(14,iv v14),(32,.bool t1)] H ((some (g1,.cells #[.string x1.Test,.slice A1 x1.Paths.length c1,.slice A2 x1.Looked.length c2] 39 (0,0)))::F):=by
     rcases bool_cases (t1) with hb5 | hb5
     ·replace heq:=bif_true hb5 heq
      refine Ct t1 hb5<|Ra 1 [1,1,0,1,0,0,1,1,0,0,1,1,0,1,0,0] [.c [1,1,0,1,0,0,1,1,0,0,1,1,0,1,0,1],.c [1,1,0,1,0,0,1,1,0,0,1,1,1],.b 1,.c [1,1,0,1,0,0,1,1,1],.l [1,1,0,1,0,0],.b 0,.c [1,1,1]]<|Rd 1 [2] [(2,iv 2)] ?_
      obtain rfl:=Option.some.inj heq
      refine RunH.pick 1 [] (cs':=F) (by kernel_rfl) rfl ?_
      exact RunH.done (by kernel_rfl) Tryd.func9 (v:=iv 2) (by kernel_rfl) ⟨rfl,rfl,rfl⟩
     ·replace heq:=bif_false hb5 heq
      refine Cf t1 hb5<|Ra 3 [1,1,0,1,0,0,1,1,0,0,1,1,1,0,0] [.c [1,1,0,1,0,0,1,1,0,0,1,1,1,0,1],.c [1,1,0,1,0,0,1,1,0,0,1,1,1,1],.b 1,.c [1,1,0,1,0,0,1,1,1],.l [1,1,0,1,0,0],.b 0,.c [1,1,1]]<|Rv 2 [0,3,4,12,13,14,34] [.slice A1 x1.Paths.length c1] [.load ⟨g1,1,none⟩ (.slice A1 x1.Paths.length c1)] [(0,.slice Aa0 a0.length ca0),(3,iv v14),(4,pg g1 0),(12,.slice Aa0 a0.length ca0),(13,iv (a0.length:Int)),(14,iv v14),(34,.slice A1 x1.Paths.length c1)] (fun w hh=>(hh.box 0 rfl rfl)) ?_
      obtain ⟨y2,hy2,heq⟩:=bind_some heq
      refine RgH.does (DoesH.call (d:=35) (g:=25) (args:=#[.slice A1 x1.Paths.length c1]) (by kernel_rfl) (smithyardref10_checkPaths_c (a0:=x1.Paths) (Rw.of hr1) hc1 rfl hy2)) ?_
      rintro _ _ _ _ ⟨_,rfl,rfl,rfl,rfl⟩
      refine Rd 4 [0,3,4,5,12,13,14] [(0,.slice Aa0 a0.length ca0),(3,iv v14),(4,pg g1 0),(5,iv y2),(12,.slice Aa0 a0.length ca0),(13,iv (a0.length:Int)),(14,iv v14)]<|Ra 1 [1,1,0,1,0,0,1,1,0,0,1,1,1,0,1,0] [.c [1,1,0,1,0,0,1,1,0,0,1,1,1,0,1,1],.c [1,1,0,1,0,0,1,1,0,0,1,1,1,1],.b 1,.c [1,1,0,1,0,0,1,1,1],.l [1,1,0,1,0,0],.b 0,.c [1,1,1]]<|Rd 2 [0,3,4,5,12,13,14,37] [(0,.slice Aa0 a0.length ca0),(3,iv v14),(4,pg g1 0),(5,iv y2),(12,.slice Aa0 a0.length ca0),(13,iv (a0.length:Int)),(14,iv v14),(37,.bool (y2 != 0))] ?_
      rcases bool_cases (y2 != 0) with hb6 | hb6
      ·replace heq:=bif_true hb6 heq
       refine Ct (y2 != 0) hb6<|Ra 1 [1,1,0,1,0,0,1,1,0,0,1,1,1,0,1,1,0,0] [.c [1,1,0,1,0,0,1,1,0,0,1,1,1,0,1,1,0,1],.c [1,1,0,1,0,0,1,1,0,0,1,1,1,1],.b 1,.c [1,1,0,1,0,0,1,1,1],.l [1,1,0,1,0,0],.b 0,.c [1,1,1]]<|Rd 2 [2] [(2,iv y2)] ?_
       obtain rfl:=Option.some.inj heq
       refine RunH.pick 1 [] (cs':=F) (by kernel_rfl) rfl ?_
       exact RunH.done (by kernel_rfl) Tryd.func9 (v:=iv y2) (by kernel_rfl) ⟨rfl,rfl,rfl⟩
      ·replace heq:=bif_false hb6 heq
       refine Cf (y2 != 0) hb6<|Ra 3 [1,1,0,1,0,0,1,1,0,0,1,1,1,1,0,0] [.c [1,1,0,1,0,0,1,1,0,0,1,1,1,1,0,1],.c [1,1,0,1,0,0,1,1,0,0,1,1,1,1,1],.b 1,.c [1,1,0,1,0,0,1,1,1],.l [1,1,0,1,0,0],.b 0,.c [1,1,1]]<|Rv 2 [0,3,4,12,13,14,40] [.slice A2 x1.Looked.length c2] [.load ⟨g1,2,none⟩ (.slice A2 x1.Looked.length c2)] [(0,.slice Aa0 a0.length ca0),(3,iv v14),(4,pg g1 0),(12,.slice Aa0 a0.length ca0),(13,iv (a0.length:Int)),(14,iv v14),(40,.slice A2 x1.Looked.length c2)] (fun w hh=>(hh.box 0 rfl rfl)) ?_
       obtain ⟨y3,hy3,heq⟩:=bind_some heq
       refine RgH.does (DoesH.call (d:=41) (g:=25) (args:=#[.slice A2 x1.Looked.length c2]) (by kernel_rfl) (smithyardref10_checkPaths_c (a0:=x1.Looked) (Rw.of hr2) hc2 rfl hy3)) ?_
       rintro _ _ _ _ ⟨_,rfl,rfl,rfl,rfl⟩
       refine Rd 4 [0,3,4,6,12,13,14] [(0,.slice Aa0 a0.length ca0),(3,iv v14),(4,pg g1 0),(6,iv y3),(12,.slice Aa0 a0.length ca0),(13,iv (a0.length:Int)),(14,iv v14)]<|Ra 1 [1,1,0,1,0,0,1,1,0,0,1,1,1,1,0,1,0] [.c [1,1,0,1,0,0,1,1,0,0,1,1,1,1,0,1,1],.c [1,1,0,1,0,0,1,1,0,0,1,1,1,1,1],.b 1,.c [1,1,0,1,0,0,1,1,1],.l [1,1,0,1,0,0],.b 0,.c [1,1,1]]<|Rd 2 [0,3,4,6,12,13,14,43] [(0,.slice Aa0 a0.length ca0),(3,iv v14),(4,pg g1 0),(6,iv y3),(12,.slice Aa0 a0.length ca0),(13,iv (a0.length:Int)),(14,iv v14),(43,.bool (y3 != 0))] ?_
       rcases bool_cases (y3 != 0) with hb7 | hb7
       ·replace heq:=bif_true hb7 heq
        refine Ct (y3 != 0) hb7<|Ra 1 [1,1,0,1,0,0,1,1,0,0,1,1,1,1,0,1,1,0,0] [.c [1,1,0,1,0,0,1,1,0,0,1,1,1,1,0,1,1,0,1],.c [1,1,0,1,0,0,1,1,0,0,1,1,1,1,1],.b 1,.c [1,1,0,1,0,0,1,1,1],.l [1,1,0,1,0,0],.b 0,.c [1,1,1]]<|Rd 2 [2] [(2,iv y3)] ?_
        obtain rfl:=Option.some.inj heq
        refine RunH.pick 1 [] (cs':=F) (by kernel_rfl) rfl ?_
        exact RunH.done (by kernel_rfl) Tryd.func9 (v:=iv y3) (by kernel_rfl) ⟨rfl,rfl,rfl⟩
       ·replace heq:=bif_false hb7 heq
        refine Cf (y3 != 0) hb7<|Ra 3 [1,1,0,1,0,0,1,1,0,0,1,1,1,1,1,0,0] [.c [1,1,0,1,0,0,1,1,0,0,1,1,1,1,1,0,1],.c [1,1,0,1,0,0,1,1,0,0,1,1,1,1,1,1],.b 1,.c [1,1,0,1,0,0,1,1,1],.l [1,1,0,1,0,0],.b 0,.c [1,1,1]]<|Rw' 4 [0,3,4,12,13,14,46,47,48] [.slice A2 x1.Looked.length c2] [.load ⟨g1,2,none⟩ (.slice A2 x1.Looked.length c2)] [(0,.slice Aa0 a0.length ca0),(3,iv v14),(4,pg g1 0),(12,.slice Aa0 a0.length ca0),(13,iv (a0.length:Int)),(14,iv v14),(46,.slice A2 x1.Looked.length c2),(47,iv (x1.Looked.length:Int)),(48,iv 0)] (fun w hh=>(hh.box 0 rfl rfl))<|Ad 2 [.c [1,1,0,1,0,0,1,1,0,0,1,1,1,1,1,0,1,0,0],.l [1,1,0,1,0,0,1,1,0,0,1,1,1,1,1,0,1,0,0],.b 2,.c [1,1,0,1,0,0,1,1,0,0,1,1,1,1,1,1],.b 1,.c [1,1,0,1,0,0,1,1,1],.l [1,1,0,1,0,0],.b 0,.c [1,1,1]]<|Kp [0,3,4,12,13,14,46,47,48] [(0,.slice Aa0 a0.length ca0),(3,iv v14),(4,pg g1 0),(12,.slice Aa0 a0.length ca0),(13,iv (a0.length:Int)),(14,iv v14),(46,.slice A2 x1.Looked.length c2),(47,iv (x1.Looked.length:Int)),(48,iv 0)] ?_
        exact ((smithyardref10_CheckReads.l4_c (e3:=smithyardref10_CheckReads.e3 ((smithyardref10_CheckReads.l2 e1 k))) (smithyardref10_CheckReads.e3_c (backl2:=(smithyardref10_CheckReads.l2 e1 k)) ihk)) big) a0 _ _ v14 x1 _ _ _ _ _ 0 hra0 hca0 hr1 hc1 hr2 hc2 heq
    replace heq:=ht1
    refine Rr<|Rv 5 [27,0,3,4,12,13,14] [.slice A1 x1.Paths.length c1] [.load ⟨g1,1,none⟩ (.slice A1 x1.Paths.length c1)] [(27,.bool (decide (1000<(x1.Paths.length:Int)))),(0,.slice Aa0 a0.length ca0),(3,iv v14),(4,pg g1 0),(12,.slice Aa0 a0.length ca0),(13,iv (a0.length:Int)),(14,iv v14)] (fun w hh=>(hh.box 0 rfl rfl)) ?_
    rcases bool_cases (decide (1000<(x1.Paths.length:Int))) with hb4 | hb4
    ·replace heq:=bif_true hb4 heq
     refine RgH.val1 (v':=.bool true) (congrArg Value.bool hb4) ?_
     refine Rk 10 [0,3,4,12,13,14,32] [(0,.slice Aa0 a0.length ca0),(3,iv v14),(4,pg g1 0),(12,.slice Aa0 a0.length ca0),(13,iv (a0.length:Int)),(14,iv v14),(32,.bool true)] ?_
     obtain rfl:=Option.some.inj heq
     refine Kg [0,3,4,12,13,14,32] [(0,.slice Aa0 a0.length ca0),(3,iv v14),(4,pg g1 0),(12,.slice Aa0 a0.length ca0),(13,iv (a0.length:Int)),(14,iv v14),(32,.bool true)]<|Dn ?_
     exact K2
    ·replace heq:=bif_false hb4 heq
     refine RgH.val1 (v':=.bool false) (congrArg Value.bool hb4) ?_
     refine Rv 10 [0,3,4,12,13,14,32] [.slice A2 x1.Looked.length c2] [.load ⟨g1,2,none⟩ (.slice A2 x1.Looked.length c2)] [(0,.slice Aa0 a0.length ca0),(3,iv v14),(4,pg g1 0),(12,.slice Aa0 a0.length ca0),(13,iv (a0.length:Int)),(14,iv v14),(32,.bool (decide (1000<(x1.Looked.length:Int))))] (fun w hh=>(hh.box 0 rfl rfl)) ?_
     obtain rfl:=Option.some.inj heq
     refine Kg [0,3,4,12,13,14,32] [(0,.slice Aa0 a0.length ca0),(3,iv v14),(4,pg g1 0),(12,.slice Aa0 a0.length ca0),(13,iv (a0.length:Int)),(14,iv v14),(32,.bool (decide (1000<(x1.Looked.length:Int))))]<|Dn ?_
     exact K2
  ·replace heq:=bif_false hb2 heq
   refine Cf (decide (v14<(a0.length:Int))) hb2<|Ad 2 [.c [1,1,1,0],.c [1,1,1,1]]<|Kp [] [] ?_
   exact he1 heq
theorem smithyardref10_CheckReads_c {w0:World} [GlobI 0 w0] {H:Hp} {F:List Ch} {a0:List TestReads} {Aa0:Option Addr} {na0:Nat} {ca0:Nat} {r:Int} (hra0:Rw kTestReads H F Aa0 a0) (hca0:na0≤ca0) (hna0:na0=a0.length) (heq:smithyardref10_CheckReads.f a0=some r):CallsH Tryd.prog 9 #[.slice Aa0 na0 ca0] H w0 (F) (S9 F H r):=by
 refine calls_of_runH (F:=C9) Tryd.func9 (by kernel_rfl) Tryd.ntmps9 (args:=[.slice Aa0 na0 ca0]) (by kernel_rfl) ?_
 subst hna0
 unfold smithyardref10_CheckReads.f at heq
 refine Ra 1 [0] [.c [1]]<|Rd 1 [0] [(0,.slice Aa0 a0.length ca0)]<|Ra 2 [1,0,0] [.c [1,0,1],.c [1,1]]<|Rd 3 [0,11] [(0,.slice Aa0 a0.length ca0),(11,.bool (decide (300<(a0.length:Int))))] ?_
 rcases bool_cases (decide (300<(a0.length:Int))) with hb1 | hb1
 ·replace heq:=bif_true hb1 heq
  refine Ct (decide (300<(a0.length:Int))) hb1<|Ra 1 [1,0,1,0,0] [.c [1,0,1,0,1],.c [1,1]]<|Rd 1 [2] [(2,iv 2)] ?_
  obtain rfl:=Option.some.inj heq
  exact RunH.done (by kernel_rfl) Tryd.func9 (v:=iv 2) (by kernel_rfl) ⟨rfl,rfl,rfl⟩
 ·replace heq:=bif_false hb1 heq
  refine Cf (decide (300<(a0.length:Int))) hb1<|Ra 3 [1,1,0,0] [.c [1,1,0,1],.c [1,1,1]]<|Rd 3 [0,12,13,14] [(0,.slice Aa0 a0.length ca0),(12,.slice Aa0 a0.length ca0),(13,iv (a0.length:Int)),(14,iv 0)]<|Ad 2 [.c [1,1,0,1,0,0],.l [1,1,0,1,0,0],.b 0,.c [1,1,1]]<|Kp [0,12,13,14] [(0,.slice Aa0 a0.length ca0),(12,.slice Aa0 a0.length ca0),(13,iv (a0.length:Int)),(14,iv 0)] ?_
  exact ((smithyardref10_CheckReads.l2_c (e1:=smithyardref10_CheckReads.e1) (smithyardref10_CheckReads.e1_c)) big) a0 _ _ 0 hra0 hca0 heq
noncomputable def C17:Ctx:={ P:=Tryd.prog,f:=17,N:=40,c:=bodyOf Tryd.f17 }
def S17 (F:List Ch) (H0:Hp) (r:Int) (v:Value) (H:Hp) (cs:List Ch):Prop:=H0=H∧v=iv r∧F=cs
theorem smithyardref10_checkChanges.e1_c {w0:World} [GlobI 0 w0] {H:Hp} {F:List Ch} {r:Int}:smithyardref10_checkChanges.e1=some r→RunH C17 (S17 F H r) H w0 [.c [1,1,1,0],.c [1,1,1,1]] [] H (F):=by
 intro   heq
 unfold smithyardref10_checkChanges.e1 at heq
 refine Rr<|Rd 1 [2] [(2,iv 0)] ?_
 obtain rfl:=Option.some.inj heq
 exact RunH.done (by kernel_rfl) Tryd.func17 (v:=iv 0) (by kernel_rfl) ⟨rfl,rfl,rfl⟩
theorem smithyardref10_checkChanges.l2_c {w0:World} [GlobI 0 w0] {H:Hp} {F:List Ch} {r:Int} (e1:Option Int)
  (he1:e1=some r→RunH C17 (S17 F H r) H w0 [.c [1,1,1,0],.c [1,1,1,1]] [] H (F)):∀ (k:Nat),∀ (a0:List TreeChange) (Aa0:Option Addr) (ca0:Nat) (v10:Int) ,Rw kTreeChange H F Aa0 a0→a0.length≤ca0→smithyardref10_checkChanges.l2 e1 k a0 v10=some r→RunH C17 (S17 F H r) H w0 [.c [1,1,0,1,0,0],.l [1,1,0,1,0,0],.b 0,.c [1,1,1]] [(0,.slice Aa0 a0.length ca0),(8,.slice Aa0 a0.length ca0),(9,iv (a0.length:Int)),(10,iv v10)] H (F):=by
 intro k
 induction k with
 | zero=>intro a0 Aa0 ca0 v10 hra0 hca0 heq; exact nomatch (show (none:Option Int)=some r from heq)
 | succ k ihk =>
  intro a0 Aa0 ca0 v10 hra0 hca0 heq
  rw [smithyardref10_checkChanges.l2] at heq
  refine Ra 1 [1,1,0,1,0,0,0] [.c [1,1,0,1,0,0,1],.l [1,1,0,1,0,0],.b 0,.c [1,1,1]]<|Rd 1 [0,8,9,10,11] [(0,.slice Aa0 a0.length ca0),(8,.slice Aa0 a0.length ca0),(9,iv (a0.length:Int)),(10,iv v10),(11,.bool (decide (v10<(a0.length:Int))))]<|Ad 1 [.c [1,1,0,1,0,0,1,0],.c [1,1,0,1,0,0,1,1],.l [1,1,0,1,0,0],.b 0,.c [1,1,1]] ?_
  rcases bool_cases (decide (v10<(a0.length:Int))) with hb2 | hb2
  ·replace heq:=bif_true hb2 heq
   refine Ct (decide (v10<(a0.length:Int))) hb2<|Ra 4 [1,1,0,1,0,0,1,1,0,0,0] [.c [1,1,0,1,0,0,1,1,0,0,1],.b 1,.c [1,1,0,1,0,0,1,1,1],.l [1,1,0,1,0,0],.b 0,.c [1,1,1]] ?_
   obtain ⟨x1,hx1,heq⟩:=bind_some heq
   obtain ⟨ha1,cs1,hK1,hcc1⟩:=hra0.get hx1
   obtain ⟨rfl⟩:=kTreeChange_open hK1
   refine Rv 3 [0,8,9,10,12,14] [.string x1.Path,iv x1.Kind] [.need (Aa0=some (adr Aa0)∧(0:Int)≤v10∧v10<((a0.length:Nat):Int)),.load (((adr Aa0).add (v10.toNat*2)).add 0) (.string x1.Path),.load (((adr Aa0).add (v10.toNat*2)).add 1) (iv x1.Kind)] [(0,.slice Aa0 a0.length ca0),(8,.slice Aa0 a0.length ca0),(9,iv (a0.length:Int)),(10,iv v10),(12,iv v10),(14,.agg #[.string x1.Path,iv x1.Kind])] (fun w hh=>⟨⟨ha1,(at?_some hx1).1,(at?_some hx1).2.1⟩,(hcc1 _ _ (hh.drop 0) 0 _ rfl),(hcc1 _ _ (hh.drop 0) 1 _ rfl)⟩) ?_
   refine RgH.does (DoesH.new (d:=4) (v:=fun g=>.pointer (some ⟨g,0,none⟩)) (o:=fun g=>.cells #[.string ByteArray.empty,iv 0] 27 (0,0)) (fun g=>by kernel_rfl)) ?_
   rintro _ _ _ _ ⟨g1,rfl,rfl,rfl⟩
   refine Rk 5 [0,3,4,8,9,10,14] [(0,.slice Aa0 a0.length ca0),(3,iv v10),(4,pg g1 0),(8,.slice Aa0 a0.length ca0),(9,iv (a0.length:Int)),(10,iv v10),(14,.agg #[.string x1.Path,iv x1.Kind])] ?_
   refine RgH.does (DoesH.store (k:=0) (g:=g1) (off:=0) (v:=.agg #[.string x1.Path,iv x1.Kind]) (cells':=#[.string x1.Path,iv x1.Kind]) (by kernel_rfl) rfl (by kernel_rfl) (by kernel_rfl)) ?_
   rintro _ _ _ _ ⟨rfl,rfl,rfl⟩
   refine Dn<|Ra 2 [1,1,0,1,0,0,1,1,0,0,1,0,0] [.c [1,1,0,1,0,0,1,1,0,0,1,0,1],.b 2,.b 1,.c [1,1,0,1,0,0,1,1,1],.l [1,1,0,1,0,0],.b 0,.c [1,1,1]]<|Rv 2 [0,3,4,8,9,10,17] [.string x1.Path] [.load ⟨g1,0,none⟩ (.string x1.Path)] [(0,.slice Aa0 a0.length ca0),(3,iv v10),(4,pg g1 0),(8,.slice Aa0 a0.length ca0),(9,iv (a0.length:Int)),(10,iv v10),(17,.string x1.Path)] (fun w hh=>(hh.box 0 rfl rfl)) ?_
   obtain ⟨y1,hy1,heq⟩:=bind_some heq
   refine RgH.does (DoesH.call (d:=18) (g:=24) (args:=#[.string x1.Path]) (by kernel_rfl) (smithyardref10_isPath_c (a0:=x1.Path)  hy1)) ?_
   rintro _ _ _ _ ⟨_,rfl,rfl,rfl,rfl⟩
   refine Rd 5 [0,3,4,8,9,10,15] [(0,.slice Aa0 a0.length ca0),(3,iv v10),(4,pg g1 0),(8,.slice Aa0 a0.length ca0),(9,iv (a0.length:Int)),(10,iv v10),(15,.bool (!y1))] ?_
   rcases bool_cases (!y1) with hb3 | hb3
   ·replace heq:=bif_true hb3 heq
    refine Ct (!y1) hb3<|Ra 1 [1,1,0,1,0,0,1,1,0,0,1,0,1,0,0] [.c [1,1,0,1,0,0,1,1,0,0,1,0,1,0,1],.b 2,.b 1,.c [1,1,0,1,0,0,1,1,1],.l [1,1,0,1,0,0],.b 0,.c [1,1,1]]<|Rd 1 [2] [(2,iv 3)] ?_
    obtain rfl:=Option.some.inj heq
    refine RunH.pick 1 [] (cs':=F) (by kernel_rfl) rfl ?_
    exact RunH.done (by kernel_rfl) Tryd.func17 (v:=iv 3) (by kernel_rfl) ⟨rfl,rfl,rfl⟩
   ·replace heq:=bif_false hb3 heq
    refine Cf (!y1) hb3<|Ra 1 [1,1,0,1,0,0,1,1,0,0,1,0,1,1,0] [.c [1,1,0,1,0,0,1,1,0,0,1,0,1,1,1],.b 2,.b 1,.c [1,1,0,1,0,0,1,1,1],.l [1,1,0,1,0,0],.b 0,.c [1,1,1]]<|Rv 2 [0,3,4,8,9,10,22] [iv x1.Kind] [.load ⟨g1,1,none⟩ (iv x1.Kind)] [(0,.slice Aa0 a0.length ca0),(3,iv v10),(4,pg g1 0),(8,.slice Aa0 a0.length ca0),(9,iv (a0.length:Int)),(10,iv v10),(22,iv x1.Kind)] (fun w hh=>(hh.box 0 rfl rfl)) ?_
    obtain ⟨y2,hy2,heq⟩:=bind_some heq
    refine RgH.does (DoesH.call (d:=23) (g:=33) (args:=#[iv x1.Kind,iv 1,iv 4]) (by kernel_rfl) (smithyardref10_within_c (a0:=x1.Kind) (a1:=1) (a2:=4)  hy2)) ?_
    rintro _ _ _ _ ⟨_,rfl,rfl,rfl,rfl⟩
    refine Rd 5 [0,3,4,8,9,10,20] [(0,.slice Aa0 a0.length ca0),(3,iv v10),(4,pg g1 0),(8,.slice Aa0 a0.length ca0),(9,iv (a0.length:Int)),(10,iv v10),(20,.bool (!y2))] ?_
    rcases bool_cases (!y2) with hb4 | hb4
    ·replace heq:=bif_true hb4 heq
     refine Ct (!y2) hb4<|Ra 1 [1,1,0,1,0,0,1,1,0,0,1,0,1,1,1,0,0] [.c [1,1,0,1,0,0,1,1,0,0,1,0,1,1,1,0,1],.b 2,.b 1,.c [1,1,0,1,0,0,1,1,1],.l [1,1,0,1,0,0],.b 0,.c [1,1,1]]<|Rd 1 [2] [(2,iv 4)] ?_
     obtain rfl:=Option.some.inj heq
     refine RunH.pick 1 [] (cs':=F) (by kernel_rfl) rfl ?_
     exact RunH.done (by kernel_rfl) Tryd.func17 (v:=iv 4) (by kernel_rfl) ⟨rfl,rfl,rfl⟩
    ·replace heq:=bif_false hb4 heq
     refine Cf (!y2) hb4<|Ad 1 [.c [1,1,0,1,0,0,1,1,0,0,1,0,1,1,1,1,0],.c [1,1,0,1,0,0,1,1,0,0,1,0,1,1,1,1,1],.b 2,.b 1,.c [1,1,0,1,0,0,1,1,1],.l [1,1,0,1,0,0],.b 0,.c [1,1,1]] ?_
     obtain ⟨t1,ht1,heq⟩:=bind_some heq
     have K2:RunH C17 (S17 F H r) H w0 [.c [1,1,0,1,0,0,1,1,0,0,1,0,1,1,1,1,1],.b 2,.b 1,.c [1,1,0,1,0,0,1,1,1],.l [1,1,0,1,0,0],.b 0,.c [1,1,1]] [(0,.slice Aa0 a0.length ca0),(8,.slice Aa0 a0.length ca0),(9,iv (a0.length:Int)),(10,iv v10),(25,.bool t1)] H (F):=by
      rcases bool_cases (t1) with hb6 | hb6
      ·replace heq:=bif_true hb6 heq
       refine Ct t1 hb6<|Ra 1 [1,1,0,1,0,0,1,1,0,0,1,0,1,1,1,1,1,0,0] [.c [1,1,0,1,0,0,1,1,0,0,1,0,1,1,1,1,1,0,1],.b 2,.b 1,.c [1,1,0,1,0,0,1,1,1],.l [1,1,0,1,0,0],.b 0,.c [1,1,1]]<|Rd 1 [2] [(2,iv 8)] ?_
       obtain rfl:=Option.some.inj heq
       exact RunH.done (by kernel_rfl) Tryd.func17 (v:=iv 8) (by kernel_rfl) ⟨rfl,rfl,rfl⟩
      ·replace heq:=bif_false hb6 heq
       refine Cf t1 hb6<|Ra 3 [1,1,0,1,0,0,1,1,1] [.l [1,1,0,1,0,0],.b 0,.c [1,1,1]]<|Rd 2 [0,8,9,10] [(0,.slice Aa0 a0.length ca0),(8,.slice Aa0 a0.length ca0),(9,iv (a0.length:Int)),(10,iv (w64 (v10+1)))]<|Ad 1 [.c [1,1,0,1,0,0],.l [1,1,0,1,0,0],.b 0,.c [1,1,1]]<|Kp [0,8,9,10] [(0,.slice Aa0 a0.length ca0),(8,.slice Aa0 a0.length ca0),(9,iv (a0.length:Int)),(10,iv (w64 (v10+1)))] ?_
       exact ihk a0 _ _ (w64 (v10+1)) hra0 hca0 heq
     replace heq:=ht1
     refine Kp [0,3,4,8,9,10] [(0,.slice Aa0 a0.length ca0),(3,iv v10),(4,pg g1 0),(8,.slice Aa0 a0.length ca0),(9,iv (a0.length:Int)),(10,iv v10)] ?_
     refine RunH.draw (fun w=>Heap H w0 w ((some (g1,.cells #[.string x1.Path,iv x1.Kind] 27 (0,0)))::F)) (fun w=>Heap H w0 w ((some (g1,.cells #[.string x1.Path,iv x1.Kind] 27 (0,0)))::F)) [3,3,3,3,3,3,3,3,3,3,3,3,3,3] (n:=14) (ls:=[false,false,false,false,false,false,false,false,false,false,false,false,false,false]) (by kernel_rfl) (by kernel_rfl) (by kernel_rfl) rfl ?_
     refine Dk [0,1,2] 11 (nb 14 7) [] [] [28,0,3,4,8,9,10] [(28,.bool (decide (0<v10))),(0,.slice Aa0 a0.length ca0),(3,iv v10),(4,pg g1 0),(8,.slice Aa0 a0.length ca0),(9,iv (a0.length:Int)),(10,iv v10)] (Pk 1 [0]) (Pk 1 [0]) (fun _ _=>trivial) ?_
     rcases bool_cases (decide (0<v10)) with hb5 | hb5
     ·replace heq:=bif_true hb5 heq
      refine DrH.val1 (v':=.bool true) (congrArg Value.bool hb5) ?_
      obtain ⟨x2,hx2,heq⟩:=bind_some heq
      obtain ⟨ha2,cs2,hK2,hcc2⟩:=hra0.get hx2
      obtain ⟨rfl⟩:=kTreeChange_open hK2
      refine Dk [3,4,5,6,7,8,9,10,11,12,13] 0 (nb 14 16383) [.string x1.Path,.string x2.Path] [.load ⟨g1,0,none⟩ (.string x1.Path),.need (Aa0=some (adr Aa0)∧(0:Int)≤(w64 (v10 - 1))∧(w64 (v10 - 1))<((a0.length:Nat):Int)),.load (((adr Aa0).add ((w64 (v10 - 1)).toNat*2)).add 0) (.string x2.Path)] [0,8,9,10,25] [(0,.slice Aa0 a0.length ca0),(8,.slice Aa0 a0.length ca0),(9,iv (a0.length:Int)),(10,iv v10),(25,.bool (sLt x1.Path x2.Path||sEq x1.Path x2.Path))] (Pk 1 [0]) (Pk 1 [0]) (fun w hh=>⟨(hh.box 0 rfl rfl),⟨ha2,(at?_some hx2).1,(at?_some hx2).2.1⟩,(hcc2 _ _ (hh.drop 1) 0 _ rfl)⟩) ?_
      obtain rfl:=Option.some.inj heq
      refine Kr [0,8,9,10,25] [(0,.slice Aa0 a0.length ca0),(8,.slice Aa0 a0.length ca0),(9,iv (a0.length:Int)),(10,iv v10),(25,.bool (sLt x1.Path x2.Path||sEq x1.Path x2.Path))] ?_
      refine DrH.pick 1 [] (cs':=F) (by kernel_rfl) rfl ?_
      refine DrH.done (by kernel_rfl) ?_
      exact K2
     ·replace heq:=bif_false hb5 heq
      refine DrH.val1 (v':=.bool false) (congrArg Value.bool hb5) ?_
      refine Dk [3,4,5,6,7,8,9,10,11,12,13] 0 (nb 14 16383) [] [] [0,8,9,10,25] [(0,.slice Aa0 a0.length ca0),(8,.slice Aa0 a0.length ca0),(9,iv (a0.length:Int)),(10,iv v10),(25,.bool false)] (Pk 1 [0]) (Pk 1 [0]) (fun _ _=>trivial) ?_
      obtain rfl:=Option.some.inj heq
      refine Kr [0,8,9,10,25] [(0,.slice Aa0 a0.length ca0),(8,.slice Aa0 a0.length ca0),(9,iv (a0.length:Int)),(10,iv v10),(25,.bool false)] ?_
      refine DrH.pick 1 [] (cs':=F) (by kernel_rfl) rfl ?_
      refine DrH.done (by kernel_rfl) ?_
      exact K2
  ·replace heq:=bif_false hb2 heq
   refine Cf (decide (v10<(a0.length:Int))) hb2<|Ad 2 [.c [1,1,1,0],.c [1,1,1,1]]<|Kp [] [] ?_
   exact he1 heq
theorem smithyardref10_checkChanges_c {w0:World} [GlobI 0 w0] {H:Hp} {F:List Ch} {a0:List TreeChange} {Aa0:Option Addr} {na0:Nat} {ca0:Nat} {r:Int} (hra0:Rw kTreeChange H F Aa0 a0) (hca0:na0≤ca0) (hna0:na0=a0.length) (heq:smithyardref10_checkChanges.f a0=some r):CallsH Tryd.prog 17 #[.slice Aa0 na0 ca0] H w0 (F) (S17 F H r):=by
 refine calls_of_runH (F:=C17) Tryd.func17 (by kernel_rfl) Tryd.ntmps17 (args:=[.slice Aa0 na0 ca0]) (by kernel_rfl) ?_
 subst hna0
 unfold smithyardref10_checkChanges.f at heq
 refine Ra 1 [0] [.c [1]]<|Rd 1 [0] [(0,.slice Aa0 a0.length ca0)]<|Ra 2 [1,0,0] [.c [1,0,1],.c [1,1]]<|Rd 3 [0,7] [(0,.slice Aa0 a0.length ca0),(7,.bool (decide (1000<(a0.length:Int))))] ?_
 rcases bool_cases (decide (1000<(a0.length:Int))) with hb1 | hb1
 ·replace heq:=bif_true hb1 heq
  refine Ct (decide (1000<(a0.length:Int))) hb1<|Ra 1 [1,0,1,0,0] [.c [1,0,1,0,1],.c [1,1]]<|Rd 1 [2] [(2,iv 2)] ?_
  obtain rfl:=Option.some.inj heq
  exact RunH.done (by kernel_rfl) Tryd.func17 (v:=iv 2) (by kernel_rfl) ⟨rfl,rfl,rfl⟩
 ·replace heq:=bif_false hb1 heq
  refine Cf (decide (1000<(a0.length:Int))) hb1<|Ra 3 [1,1,0,0] [.c [1,1,0,1],.c [1,1,1]]<|Rd 3 [0,8,9,10] [(0,.slice Aa0 a0.length ca0),(8,.slice Aa0 a0.length ca0),(9,iv (a0.length:Int)),(10,iv 0)]<|Ad 2 [.c [1,1,0,1,0,0],.l [1,1,0,1,0,0],.b 0,.c [1,1,1]]<|Kp [0,8,9,10] [(0,.slice Aa0 a0.length ca0),(8,.slice Aa0 a0.length ca0),(9,iv (a0.length:Int)),(10,iv 0)] ?_
  exact ((smithyardref10_checkChanges.l2_c (e1:=smithyardref10_checkChanges.e1) (smithyardref10_checkChanges.e1_c)) big) a0 _ _ 0 hra0 hca0 heq
noncomputable def C47:Ctx:={ P:=Tryd.prog,f:=47,N:=18,c:=bodyOf Tryd.f47 }
def S47 (F:List Ch) (H0:Hp) (r:Bool) (v:Value) (H:Hp) (cs:List Ch):Prop:=H0=H∧v=.bool r∧F=cs
theorem stringslite_HasPrefix_c {w0:World} [GlobI 0 w0] {H:Hp} {F:List Ch} {a0:ByteArray} {a1:ByteArray} {r:Bool} (heq:stringslite_HasPrefix.f a0 a1=some r):CallsH Tryd.prog 47 #[.string a0,.string a1] H w0 (F) (S47 F H r):=by
 refine calls_of_runH (F:=C47) Tryd.func47 (by kernel_rfl) Tryd.ntmps47 (args:=[.string a0,.string a1]) (by kernel_rfl) ?_
 unfold stringslite_HasPrefix.f at heq
 refine Ra 1 [0] [.c [1]]<|Rd 1 [0,1] [(0,.string a0),(1,.string a1)]<|Ad 1 [.c [1,0],.c [1,1]] ?_
 obtain ⟨t1,ht1,heq⟩:=bind_some heq
 have K1:RunH C47 (S47 F H r) H w0 [.c [1,1]] [(4,.bool t1)] H (F):=by
  obtain rfl:=Option.some.inj heq
  exact RunH.done (by kernel_rfl) Tryd.func47 (v:=.bool t1) (by kernel_rfl) ⟨rfl,rfl,rfl⟩
 replace heq:=ht1
 refine Rr<|Rk 6 [10,0,1] [(10,.bool (decide ((a1.size:Int)≤(a0.size:Int)))),(0,.string a0),(1,.string a1)] ?_
 rcases bool_cases (decide ((a1.size:Int)≤(a0.size:Int))) with hb1 | hb1
 ·replace heq:=bif_true hb1 heq
  refine RgH.val1 (v':=.bool true) (congrArg Value.bool hb1) ?_
  obtain ⟨hn1,heq⟩:=guard?_some heq
  refine Rv 14 [4] [] [.need ((0:Int)≤(a1.size:Int)∧(a1.size:Int)≤(a0.size:Int))] [(4,.bool (sEq (a0.extract 0 (a1.size:Int).toNat) a1))] (fun w hh=>(both_of hn1)) ?_
  obtain rfl:=Option.some.inj heq
  refine Kg [4] [(4,.bool (sEq (a0.extract 0 (a1.size:Int).toNat) a1))]<|Dn ?_
  exact K1
 ·replace heq:=bif_false hb1 heq
  refine RgH.val1 (v':=.bool false) (congrArg Value.bool hb1) ?_
  refine Rk 14 [4] [(4,.bool false)] ?_
  obtain rfl:=Option.some.inj heq
  refine Kg [4] [(4,.bool false)]<|Dn ?_
  exact K1
noncomputable def C42:Ctx:={ P:=Tryd.prog,f:=42,N:=8,c:=bodyOf Tryd.f42 }
def S42 (F:List Ch) (H0:Hp) (r:Bool) (v:Value) (H:Hp) (cs:List Ch):Prop:=H0=H∧v=.bool r∧F=cs
theorem strings_HasPrefix_c {w0:World} [GlobI 0 w0] {H:Hp} {F:List Ch} {a0:ByteArray} {a1:ByteArray} {r:Bool} (heq:strings_HasPrefix.f a0 a1=some r):CallsH Tryd.prog 42 #[.string a0,.string a1] H w0 (F) (S42 F H r):=by
 refine calls_of_runH (F:=C42) Tryd.func42 (by kernel_rfl) Tryd.ntmps42 (args:=[.string a0,.string a1]) (by kernel_rfl) ?_
 unfold strings_HasPrefix.f at heq
 refine Ra 1 [0] [.c [1]]<|Rd 1 [0,1] [(0,.string a0),(1,.string a1)]<|Ra 1 [1,0] [.c [1,1]]<|Rk 2 [5,6] [(5,.string a0),(6,.string a1)] ?_
 obtain ⟨y1,hy1,heq⟩:=bind_some heq
 refine RgH.does (DoesH.call (d:=7) (g:=47) (args:=#[.string a0,.string a1]) (by kernel_rfl) (stringslite_HasPrefix_c (a0:=a0) (a1:=a1)  hy1)) ?_
 rintro _ _ _ _ ⟨_,rfl,rfl,rfl,rfl⟩
 refine Rd 4 [4] [(4,.bool y1)] ?_
 obtain rfl:=Option.some.inj heq
 exact RunH.done (by kernel_rfl) Tryd.func42 (v:=.bool y1) (by kernel_rfl) ⟨rfl,rfl,rfl⟩
noncomputable def C34:Ctx:={ P:=Tryd.prog,f:=34,N:=9,c:=bodyOf Tryd.f34 }
def S34 (F:List Ch) (H0:Hp) (r:Bool) (v:Value) (H:Hp) (cs:List Ch):Prop:=H0=H∧v=.bool r∧F=cs
theorem smithyardref10_lies_c {w0:World} [GlobI 0 w0] {H:Hp} {F:List Ch} {a0:ByteArray} {a1:ByteArray} {r:Bool} (heq:smithyardref10_lies.f a0 a1=some r):CallsH Tryd.prog 34 #[.string a0,.string a1] H w0 (F) (S34 F H r):=by
 refine calls_of_runH (F:=C34) Tryd.func34 (by kernel_rfl) Tryd.ntmps34 (args:=[.string a0,.string a1]) (by kernel_rfl) ?_
 unfold smithyardref10_lies.f at heq
 refine Ra 1 [0] [.c [1]]<|Rd 1 [0,1] [(0,.string a0),(1,.string a1)]<|Ra 1 [1,0] [.c [1,1]] ?_
 obtain ⟨hn1,heq⟩:=guard?_some heq
 refine Rv 3 [5,7] [] [.need (a1.size+({ data:=#[47] }:ByteArray).size≤9223372036854775807)] [(5,.string a0),(7,.string (a1++({ data:=#[47] }:ByteArray)))] (fun w hh=>(of_decide_eq_true hn1:a1.size+({ data:=#[47] }:ByteArray).size≤9223372036854775807)) ?_
 obtain ⟨y1,hy1,heq⟩:=bind_some heq
 refine RgH.does (DoesH.call (d:=8) (g:=42) (args:=#[.string a0,.string (a1++({ data:=#[47] }:ByteArray))]) (by kernel_rfl) (strings_HasPrefix_c (a0:=a0) (a1:=a1++({ data:=#[47] }:ByteArray))  hy1)) ?_
 rintro _ _ _ _ ⟨_,rfl,rfl,rfl,rfl⟩
 refine Rd 5 [4] [(4,.bool y1)] ?_
 obtain rfl:=Option.some.inj heq
 exact RunH.done (by kernel_rfl) Tryd.func34 (v:=.bool y1) (by kernel_rfl) ⟨rfl,rfl,rfl⟩
noncomputable def C18:Ctx:={ P:=Tryd.prog,f:=18,N:=39,c:=bodyOf Tryd.f18 }
def S18 (F:List Ch) (H0:Hp) (r:Bool) (v:Value) (H:Hp) (cs:List Ch):Prop:=H0=H∧v=.bool r∧F=cs
theorem smithyardref10_touches.e1_c {w0:World} [GlobI 0 w0] {H:Hp} {F:List Ch} {r:Bool}:smithyardref10_touches.e1=some r→RunH C18 (S18 F H r) H w0 [.c [1,1,1,0],.c [1,1,1,1]] [] H (F):=by
 intro   heq
 unfold smithyardref10_touches.e1 at heq
 refine Rr<|Rd 1 [4] [(4,.bool false)] ?_
 obtain rfl:=Option.some.inj heq
 exact RunH.done (by kernel_rfl) Tryd.func18 (v:=.bool false) (by kernel_rfl) ⟨rfl,rfl,rfl⟩
theorem smithyardref10_touches.l2_c {w0:World} [GlobI 0 w0] {H:Hp} {F:List Ch} {r:Bool} (e1:Option Bool)
  (he1:e1=some r→RunH C18 (S18 F H r) H w0 [.c [1,1,1,0],.c [1,1,1,1]] [] H (F)):∀ (k:Nat),∀ (a0:TestReads) (Aa0_2:Option Addr) (ca0_2:Nat) (a1:TreeChange) (g2:Nat) (v18:Int) ,Rw Kd.string H F Aa0_2 a0.Looked→a0.Looked.length≤ca0_2→smithyardref10_touches.l2 e1 k a0 a1 v18=some r→RunH C18 (S18 F H r) H w0 [.c [1,1,0,1,0,0],.l [1,1,0,1,0,0],.b 0,.c [1,1,1]] [(3,pg g2 0),(16,.slice Aa0_2 a0.Looked.length ca0_2),(17,iv (a0.Looked.length:Int)),(18,iv v18)] H ((some (g2,.cells #[.string a1.Path,iv a1.Kind] 27 (0,0)))::F):=by
 intro k
 induction k with
 | zero=>intro a0 Aa0_2 ca0_2 a1 g2 v18 hra0_2 hca0_2 heq; exact nomatch (show (none:Option Bool)=some r from heq)
 | succ k ihk =>
  intro a0 Aa0_2 ca0_2 a1 g2 v18 hra0_2 hca0_2 heq
  rw [smithyardref10_touches.l2] at heq
  refine Ra 1 [1,1,0,1,0,0,0] [.c [1,1,0,1,0,0,1],.l [1,1,0,1,0,0],.b 0,.c [1,1,1]]<|Rd 1 [3,16,17,18,19] [(3,pg g2 0),(16,.slice Aa0_2 a0.Looked.length ca0_2),(17,iv (a0.Looked.length:Int)),(18,iv v18),(19,.bool (decide (v18<(a0.Looked.length:Int))))]<|Ad 1 [.c [1,1,0,1,0,0,1,0],.c [1,1,0,1,0,0,1,1],.l [1,1,0,1,0,0],.b 0,.c [1,1,1]] ?_
  rcases bool_cases (decide (v18<(a0.Looked.length:Int))) with hb2 | hb2
  ·replace heq:=bif_true hb2 heq
   refine Ct (decide (v18<(a0.Looked.length:Int))) hb2<|Ra 4 [1,1,0,1,0,0,1,1,0,0,0] [.c [1,1,0,1,0,0,1,1,0,0,1],.b 1,.c [1,1,0,1,0,0,1,1,1],.l [1,1,0,1,0,0],.b 0,.c [1,1,1]] ?_
   obtain ⟨x1,hx1,heq⟩:=bind_some heq
   obtain ⟨ha1,cs1,hK1,hcc1⟩:=hra0_2.get hx1
   obtain rfl:cs1=[.string x1]:=hK1
   refine Rw' 3 [3,6,16,17,18] [.string x1] [.need (Aa0_2=some (adr Aa0_2)∧(0:Int)≤v18∧v18<((a0.Looked.length:Nat):Int)),.load ((adr Aa0_2).add (v18.toNat*1)) (.string x1)] [(3,pg g2 0),(6,.string x1),(16,.slice Aa0_2 a0.Looked.length ca0_2),(17,iv (a0.Looked.length:Int)),(18,iv v18)] (fun w hh=>⟨⟨ha1,(at?_some hx1).1,(at?_some hx1).2.1⟩,(hcc1 _ _ (hh.drop 1) 0 _ rfl)⟩)<|Ad 1 [.c [1,1,0,1,0,0,1,1,0,0,1,0],.c [1,1,0,1,0,0,1,1,0,0,1,1],.b 1,.c [1,1,0,1,0,0,1,1,1],.l [1,1,0,1,0,0],.b 0,.c [1,1,1]] ?_
   obtain ⟨t1,ht1,heq⟩:=bind_some heq
   have K3:RunH C18 (S18 F H r) H w0 [.c [1,1,0,1,0,0,1,1,0,0,1,1],.b 1,.c [1,1,0,1,0,0,1,1,1],.l [1,1,0,1,0,0],.b 0,.c [1,1,1]] [(3,pg g2 0),(16,.slice Aa0_2 a0.Looked.length ca0_2),(17,iv (a0.Looked.length:Int)),(18,iv v18),(37,.bool t1)] H ((some (g2,.cells #[.string a1.Path,iv a1.Kind] 27 (0,0)))::F):=by
    rcases bool_cases (t1) with hb5 | hb5
    ·replace heq:=bif_true hb5 heq
     refine Ct t1 hb5<|Ra 1 [1,1,0,1,0,0,1,1,0,0,1,1,0,0] [.c [1,1,0,1,0,0,1,1,0,0,1,1,0,1],.b 1,.c [1,1,0,1,0,0,1,1,1],.l [1,1,0,1,0,0],.b 0,.c [1,1,1]]<|Rd 1 [4] [(4,.bool true)] ?_
     obtain rfl:=Option.some.inj heq
     refine RunH.pick 1 [] (cs':=F) (by kernel_rfl) rfl ?_
     exact RunH.done (by kernel_rfl) Tryd.func18 (v:=.bool true) (by kernel_rfl) ⟨rfl,rfl,rfl⟩
    ·replace heq:=bif_false hb5 heq
     refine Cf t1 hb5<|Ra 2 [1,1,0,1,0,0,1,1,1] [.l [1,1,0,1,0,0],.b 0,.c [1,1,1]]<|Rd 2 [3,16,17,18] [(3,pg g2 0),(16,.slice Aa0_2 a0.Looked.length ca0_2),(17,iv (a0.Looked.length:Int)),(18,iv (w64 (v18+1)))]<|Ad 1 [.c [1,1,0,1,0,0],.l [1,1,0,1,0,0],.b 0,.c [1,1,1]]<|Kp [3,16,17,18] [(3,pg g2 0),(16,.slice Aa0_2 a0.Looked.length ca0_2),(17,iv (a0.Looked.length:Int)),(18,iv (w64 (v18+1)))] ?_
     exact ihk a0 _ _ a1 _ (w64 (v18+1)) hra0_2 hca0_2 heq
   replace heq:=ht1
   refine Rr<|Rv 5 [26,3,6,16,17,18] [.string a1.Path] [.load ⟨g2,0,none⟩ (.string a1.Path)] [(26,.bool (sEq x1 a1.Path)),(3,pg g2 0),(6,.string x1),(16,.slice Aa0_2 a0.Looked.length ca0_2),(17,iv (a0.Looked.length:Int)),(18,iv v18)] (fun w hh=>(hh.box 0 rfl rfl)) ?_
   rcases bool_cases (sEq x1 a1.Path) with hb3 | hb3
   ·replace heq:=bif_true hb3 heq
    refine RgH.val1 (v':=.bool true) (congrArg Value.bool hb3) ?_
    refine Rk 16 [3,16,17,18,37] [(3,pg g2 0),(16,.slice Aa0_2 a0.Looked.length ca0_2),(17,iv (a0.Looked.length:Int)),(18,iv v18),(37,.bool true)] ?_
    obtain rfl:=Option.some.inj heq
    refine Kg [3,16,17,18,37] [(3,pg g2 0),(16,.slice Aa0_2 a0.Looked.length ca0_2),(17,iv (a0.Looked.length:Int)),(18,iv v18),(37,.bool true)]<|Dn ?_
    exact K3
   ·replace heq:=bif_false hb3 heq
    refine RgH.val1 (v':=.bool false) (congrArg Value.bool hb3) ?_
    refine Rv 8 [3,6,16,17,18,26,27,29] [.string a1.Path] [.load ⟨g2,0,none⟩ (.string a1.Path)] [(3,pg g2 0),(6,.string x1),(16,.slice Aa0_2 a0.Looked.length ca0_2),(17,iv (a0.Looked.length:Int)),(18,iv v18),(26,.bool false),(27,.string x1),(29,.string a1.Path)] (fun w hh=>(hh.box 0 rfl rfl)) ?_
    obtain ⟨y2,hy2,heq⟩:=bind_some heq
    refine RgH.does (DoesH.call (d:=30) (g:=34) (args:=#[.string x1,.string a1.Path]) (by kernel_rfl) (smithyardref10_lies_c (a0:=x1) (a1:=a1.Path)  hy2)) ?_
    rintro _ _ _ _ ⟨_,rfl,rfl,rfl,rfl⟩
    refine Rk 11 [32,3,6,16,17,18] [(32,.bool y2),(3,pg g2 0),(6,.string x1),(16,.slice Aa0_2 a0.Looked.length ca0_2),(17,iv (a0.Looked.length:Int)),(18,iv v18)] ?_
    rcases bool_cases (y2) with hb4 | hb4
    ·replace heq:=bif_true hb4 heq
     refine RgH.val1 (v':=.bool true) (congrArg Value.bool hb4) ?_
     refine Rk 16 [3,16,17,18,37] [(3,pg g2 0),(16,.slice Aa0_2 a0.Looked.length ca0_2),(17,iv (a0.Looked.length:Int)),(18,iv v18),(37,.bool true)] ?_
     obtain rfl:=Option.some.inj heq
     refine Kg [3,16,17,18,37] [(3,pg g2 0),(16,.slice Aa0_2 a0.Looked.length ca0_2),(17,iv (a0.Looked.length:Int)),(18,iv v18),(37,.bool true)]<|Dn ?_
     exact K3
    ·replace heq:=bif_false hb4 heq
     refine RgH.val1 (v':=.bool false) (congrArg Value.bool hb4) ?_
     refine Rv 14 [3,16,17,18,32,34,35] [.string a1.Path] [.load ⟨g2,0,none⟩ (.string a1.Path)] [(3,pg g2 0),(16,.slice Aa0_2 a0.Looked.length ca0_2),(17,iv (a0.Looked.length:Int)),(18,iv v18),(32,.bool false),(34,.string a1.Path),(35,.string x1)] (fun w hh=>(hh.box 0 rfl rfl)) ?_
     obtain ⟨y3,hy3,heq⟩:=bind_some heq
     refine RgH.does (DoesH.call (d:=36) (g:=34) (args:=#[.string a1.Path,.string x1]) (by kernel_rfl) (smithyardref10_lies_c (a0:=a1.Path) (a1:=x1)  hy3)) ?_
     rintro _ _ _ _ ⟨_,rfl,rfl,rfl,rfl⟩
     refine Rk 16 [3,16,17,18,37] [(3,pg g2 0),(16,.slice Aa0_2 a0.Looked.length ca0_2),(17,iv (a0.Looked.length:Int)),(18,iv v18),(37,.bool y3)] ?_
     obtain rfl:=Option.some.inj heq
     refine Kg [3,16,17,18,37] [(3,pg g2 0),(16,.slice Aa0_2 a0.Looked.length ca0_2),(17,iv (a0.Looked.length:Int)),(18,iv v18),(37,.bool y3)]<|Dn ?_
     exact K3
  ·replace heq:=bif_false hb2 heq
   refine Cf (decide (v18<(a0.Looked.length:Int))) hb2<|Ad 2 [.c [1,1,1,0],.c [1,1,1,1]]<|Kp [] [] ?_
   refine RunH.pick 1 [] (cs':=F) (by kernel_rfl) rfl ?_
   exact he1 heq
theorem smithyardref10_touches_c {w0:World} [GlobI 0 w0] {H:Hp} {F:List Ch} {a0:TestReads} {Aa0_1:Option Addr} {na0_1:Nat} {ca0_1:Nat} {Aa0_2:Option Addr} {na0_2:Nat} {ca0_2:Nat} {a1:TreeChange} {r:Bool} (hra0_1:Rw Kd.string H F Aa0_1 a0.Paths) (hca0_1:na0_1≤ca0_1) (hna0_1:na0_1=a0.Paths.length) (hra0_2:Rw Kd.string H F Aa0_2 a0.Looked) (hca0_2:na0_2≤ca0_2) (hna0_2:na0_2=a0.Looked.length) (heq:smithyardref10_touches.f a0 a1=some r):CallsH Tryd.prog 18 #[.agg #[.string a0.Test,.slice Aa0_1 na0_1 ca0_1,.slice Aa0_2 na0_2 ca0_2],.agg #[.string a1.Path,iv a1.Kind]] H w0 (F) (S18 F H r):=by
 refine calls_of_runH (F:=C18) Tryd.func18 (by kernel_rfl) Tryd.ntmps18 (args:=[.agg #[.string a0.Test,.slice Aa0_1 na0_1 ca0_1,.slice Aa0_2 na0_2 ca0_2],.agg #[.string a1.Path,iv a1.Kind]]) (by kernel_rfl) ?_
 subst hna0_1
 subst hna0_2
 unfold smithyardref10_touches.f at heq
 refine Ra 1 [0] [.c [1]] ?_
 refine RgH.does (DoesH.new (d:=2) (v:=fun g=>.pointer (some ⟨g,0,none⟩)) (o:=fun g=>.cells #[.string a0.Test,.slice Aa0_1 a0.Paths.length ca0_1,.slice Aa0_2 a0.Looked.length ca0_2] 39 (0,0)) (fun g=>by kernel_rfl)) ?_
 rintro _ _ _ _ ⟨g1,rfl,rfl,rfl⟩
 refine RgH.does (DoesH.new (d:=3) (v:=fun g=>.pointer (some ⟨g,0,none⟩)) (o:=fun g=>.cells #[.string a1.Path,iv a1.Kind] 27 (0,0)) (fun g=>by kernel_rfl)) ?_
 rintro _ _ _ _ ⟨g2,rfl,rfl,rfl⟩
 refine Rd 3 [2,3] [(2,pg g1 0),(3,pg g2 0)]<|Ra 2 [1,0,0] [.c [1,0,1],.c [1,1]]<|Rw' 3 [2,3,9] [iv a1.Kind] [.load ⟨g2,1,none⟩ (iv a1.Kind)] [(2,pg g1 0),(3,pg g2 0),(9,.bool (a1.Kind != 1))] (fun w hh=>(hh.box 0 rfl rfl)) ?_
 rcases bool_cases (a1.Kind != 1) with hb1 | hb1
 ·replace heq:=bif_true hb1 heq
  refine Ct (a1.Kind != 1) hb1<|Ra 1 [1,0,1,0,0] [.c [1,0,1,0,1],.c [1,1]]<|Rv 4 [11,13] [.slice Aa0_1 a0.Paths.length ca0_1,.string a1.Path] [.load ⟨g1,1,none⟩ (.slice Aa0_1 a0.Paths.length ca0_1),.load ⟨g2,0,none⟩ (.string a1.Path)] [(11,.slice Aa0_1 a0.Paths.length ca0_1),(13,.string a1.Path)] (fun w hh=>⟨(hh.box 1 rfl rfl),(hh.box 0 rfl rfl)⟩) ?_
  obtain ⟨y1,hy1,heq⟩:=bind_some heq
  refine RgH.does (DoesH.call (d:=14) (g:=26) (args:=#[.slice Aa0_1 a0.Paths.length ca0_1,.string a1.Path]) (by kernel_rfl) (slices_Contains_string_c (a0:=a0.Paths) (a1:=a1.Path) (hra0_1.wk (fun _ h=>(.tail _ (.tail _ h)))) hca0_1 rfl hy1)) ?_
  rintro _ _ _ _ ⟨_,rfl,rfl,rfl,rfl⟩
  refine Rd 6 [4] [(4,.bool y1)] ?_
  obtain rfl:=Option.some.inj heq
  refine RunH.pick 2 [] (cs':=F) (by kernel_rfl) rfl ?_
  exact RunH.done (by kernel_rfl) Tryd.func18 (v:=.bool y1) (by kernel_rfl) ⟨rfl,rfl,rfl⟩
 ·replace heq:=bif_false hb1 heq
  refine Cf (a1.Kind != 1) hb1<|Ra 3 [1,1,0,0] [.c [1,1,0,1],.c [1,1,1]]<|Rw' 4 [3,16,17,18] [.slice Aa0_2 a0.Looked.length ca0_2] [.load ⟨g1,2,none⟩ (.slice Aa0_2 a0.Looked.length ca0_2)] [(3,pg g2 0),(16,.slice Aa0_2 a0.Looked.length ca0_2),(17,iv (a0.Looked.length:Int)),(18,iv 0)] (fun w hh=>(hh.box 1 rfl rfl))<|Ad 2 [.c [1,1,0,1,0,0],.l [1,1,0,1,0,0],.b 0,.c [1,1,1]]<|Kp [3,16,17,18] [(3,pg g2 0),(16,.slice Aa0_2 a0.Looked.length ca0_2),(17,iv (a0.Looked.length:Int)),(18,iv 0)] ?_
  refine RunH.pick 2 [0] (cs':=(some (g2,.cells #[.string a1.Path,iv a1.Kind] 27 (0,0)))::F) (by kernel_rfl) rfl ?_
  exact ((smithyardref10_touches.l2_c (e1:=smithyardref10_touches.e1) (smithyardref10_touches.e1_c)) big) a0 _ _ a1 _ 0 hra0_2 hca0_2 heq
noncomputable def C7:Ctx:={ P:=Tryd.prog,f:=7,N:=51,c:=bodyOf Tryd.f7 }
def S7 (F:List Ch) (H0:Hp) (r:(List ByteArray) × Int) (v:Value) (H:Hp) (cs:List Ch):Prop:=∃ (A0:Option Addr) (c0:Nat) (ch0:Ch),H0=H∧v=.tuple #[.slice A0 r.1.length c0,iv r.2]∧ch0::F=cs∧SlOwn Kd.string 9 H A0 c0 r.1 ch0
theorem smithyardref10_Affected.e1_c {w0:World} [GlobI 0 w0] {H:Hp} {F:List Ch} {r:(List ByteArray) × Int}:∀ (v_out8:List ByteArray) (Av_out8:Option Addr) (nv_out8:Nat) (cv_out8:Nat) (chv_out8:Ch) ,SlOwn Kd.string 9 H Av_out8 cv_out8 v_out8 chv_out8→nv_out8=v_out8.length→smithyardref10_Affected.e1 v_out8=some r→RunH C7 (S7 F H r) H w0 [.c [1,1,1,1,1,0],.c [1,1,1,1,1,1]] [(8,.slice Av_out8 nv_out8 cv_out8)] H (chv_out8::F):=by
 intro v_out8 Av_out8 nv_out8 cv_out8 chv_out8 hov_out8 hnv_out8 heq
 subst hnv_out8
 unfold smithyardref10_Affected.e1 at heq
 refine Rr<|Rd 3 [4,5] [(4,.slice Av_out8 v_out8.length cv_out8),(5,iv 0)] ?_
 obtain rfl:=Option.some.inj heq
 exact RunH.done (by kernel_rfl) Tryd.func7 (v:=.tuple #[.slice Av_out8 v_out8.length cv_out8,iv 0]) (by kernel_rfl) ⟨Av_out8,cv_out8,chv_out8,rfl,rfl,rfl,hov_out8⟩
theorem smithyardref10_Affected.j4_c {w0:World} [GlobI 0 w0] {H:Hp} {F:List Ch} {r:(List ByteArray) × Int} (backl2:(List TestReads)→(List TreeChange)→(List ByteArray)→Int→Option ((List ByteArray) × Int))
  (hbackl2:∀ (a0:List TestReads) (Aa0:Option Addr) (ca0:Nat) (a1:List TreeChange) (Aa1:Option Addr) (ca1:Nat) (v_out8:List ByteArray) (Av_out8:Option Addr) (nv_out8:Nat) (cv_out8:Nat) (chv_out8:Ch) (v26:Int) ,Rw kTestReads H F Aa0 a0→a0.length≤ca0→Rw kTreeChange H F Aa1 a1→a1.length≤ca1→SlOwn Kd.string 9 H Av_out8 cv_out8 v_out8 chv_out8→nv_out8=v_out8.length→backl2 a0 a1 v_out8 v26=some r→RunH C7 (S7 F H r) H w0 [.c [1,1,1,1,0,1,0,0],.l [1,1,1,1,0,1,0,0],.b 0,.c [1,1,1,1,1]] [(1,.slice Aa1 a1.length ca1),(8,.slice Av_out8 nv_out8 cv_out8),(24,.slice Aa0 a0.length ca0),(25,iv (a0.length:Int)),(26,iv v26)] H (chv_out8::F)):∀ (a0:List TestReads) (Aa0:Option Addr) (ca0:Nat) (a1:List TreeChange) (Aa1:Option Addr) (ca1:Nat) (v26:Int) (v_out8:List ByteArray) (Av_out8:Option Addr) (nv_out8:Nat) (cv_out8:Nat) (chv_out8:Ch) ,Rw kTestReads H F Aa0 a0→a0.length≤ca0→Rw kTreeChange H F Aa1 a1→a1.length≤ca1→SlOwn Kd.string 9 H Av_out8 cv_out8 v_out8 chv_out8→nv_out8=v_out8.length→smithyardref10_Affected.j4 backl2 a0 a1 v26 v_out8=some r→RunH C7 (S7 F H r) H w0 [.c [1,1,1,1,0,1,0,0,1,1,1],.l [1,1,1,1,0,1,0,0],.b 0,.c [1,1,1,1,1]] [(1,.slice Aa1 a1.length ca1),(8,.slice Av_out8 nv_out8 cv_out8),(24,.slice Aa0 a0.length ca0),(25,iv (a0.length:Int)),(26,iv v26)] H (chv_out8::F):=by
 intro a0 Aa0 ca0 a1 Aa1 ca1 v26 v_out8 Av_out8 nv_out8 cv_out8 chv_out8 hra0 hca0 hra1 hca1 hov_out8 hnv_out8 heq
 subst hnv_out8
 unfold smithyardref10_Affected.j4 at heq
 refine Rr<|Rd 2 [1,8,24,25,26] [(1,.slice Aa1 a1.length ca1),(8,.slice Av_out8 v_out8.length cv_out8),(24,.slice Aa0 a0.length ca0),(25,iv (a0.length:Int)),(26,iv (w64 (v26+1)))]<|Ad 1 [.c [1,1,1,1,0,1,0,0],.l [1,1,1,1,0,1,0,0],.b 0,.c [1,1,1,1,1]]<|Kp [1,8,24,25,26] [(1,.slice Aa1 a1.length ca1),(8,.slice Av_out8 v_out8.length cv_out8),(24,.slice Aa0 a0.length ca0),(25,iv (a0.length:Int)),(26,iv (w64 (v26+1)))] ?_
 exact hbackl2 a0 _ _ a1 _ _ v_out8 _ _ _ _ (w64 (v26+1)) hra0 hca0 hra1 hca1 hov_out8 rfl heq
theorem smithyardref10_Affected.e3_c {w0:World} [GlobI 0 w0] {H:Hp} {F:List Ch} {r:(List ByteArray) × Int} (backl2:(List TestReads)→(List TreeChange)→(List ByteArray)→Int→Option ((List ByteArray) × Int))
  (hbackl2:∀ (a0:List TestReads) (Aa0:Option Addr) (ca0:Nat) (a1:List TreeChange) (Aa1:Option Addr) (ca1:Nat) (v_out8:List ByteArray) (Av_out8:Option Addr) (nv_out8:Nat) (cv_out8:Nat) (chv_out8:Ch) (v26:Int) ,Rw kTestReads H F Aa0 a0→a0.length≤ca0→Rw kTreeChange H F Aa1 a1→a1.length≤ca1→SlOwn Kd.string 9 H Av_out8 cv_out8 v_out8 chv_out8→nv_out8=v_out8.length→backl2 a0 a1 v_out8 v26=some r→RunH C7 (S7 F H r) H w0 [.c [1,1,1,1,0,1,0,0],.l [1,1,1,1,0,1,0,0],.b 0,.c [1,1,1,1,1]] [(1,.slice Aa1 a1.length ca1),(8,.slice Av_out8 nv_out8 cv_out8),(24,.slice Aa0 a0.length ca0),(25,iv (a0.length:Int)),(26,iv v26)] H (chv_out8::F)):∀ (a0:List TestReads) (Aa0:Option Addr) (ca0:Nat) (a1:List TreeChange) (Aa1:Option Addr) (ca1:Nat) (v_out8:List ByteArray) (Av_out8:Option Addr) (cv_out8:Nat) (chv_out8:Ch) (v26:Int) (x1:TestReads) (A1:Option Addr) (c1:Nat) (A2:Option Addr) (c2:Nat) (g1:Nat) (v_hit11:Bool) ,Rw kTestReads H F Aa0 a0→a0.length≤ca0→Rw kTreeChange H F Aa1 a1→a1.length≤ca1→SlOwn Kd.string 9 H Av_out8 cv_out8 v_out8 chv_out8→Kd.Row Kd.string H A1 x1.Paths→x1.Paths.length≤c1→Kd.Row Kd.string H A2 x1.Looked→x1.Looked.length≤c2→smithyardref10_Affected.e3 backl2 a0 a1 v_out8 v26 x1 v_hit11=some r→RunH C7 (S7 F H r) H w0 [.c [1,1,1,1,0,1,0,0,1,1,0,0,1,1,1,0],.c [1,1,1,1,0,1,0,0,1,1,0,0,1,1,1,1],.b 1,.c [1,1,1,1,0,1,0,0,1,1,1],.l [1,1,1,1,0,1,0,0],.b 0,.c [1,1,1,1,1]] [(1,.slice Aa1 a1.length ca1),(8,.slice Av_out8 v_out8.length cv_out8),(10,pg g1 0),(11,.bool v_hit11),(24,.slice Aa0 a0.length ca0),(25,iv (a0.length:Int)),(26,iv v26)] H ((some (g1,.cells #[.string x1.Test,.slice A1 x1.Paths.length c1,.slice A2 x1.Looked.length c2] 39 (0,0)))::chv_out8::F):=by
 intro a0 Aa0 ca0 a1 Aa1 ca1 v_out8 Av_out8 cv_out8 chv_out8 v26 x1 A1 c1 A2 c2 g1 v_hit11 hra0 hca0 hra1 hca1 hov_out8 hr1 hc1 hr2 hc2 heq
 unfold smithyardref10_Affected.e3 at heq
 refine Rr<|Rd 1 [1,8,10,24,25,26,43] [(1,.slice Aa1 a1.length ca1),(8,.slice Av_out8 v_out8.length cv_out8),(10,pg g1 0),(24,.slice Aa0 a0.length ca0),(25,iv (a0.length:Int)),(26,iv v26),(43,.bool v_hit11)] ?_
 rcases bool_cases (v_hit11) with hb4 | hb4
 ·replace heq:=bif_true hb4 heq
  refine Ct v_hit11 hb4<|Rr<|Rv 3 [1,24,25,26,44,46] [.string x1.Test] [.load ⟨g1,0,none⟩ (.string x1.Test)] [(1,.slice Aa1 a1.length ca1),(24,.slice Aa0 a0.length ca0),(25,iv (a0.length:Int)),(26,iv v26),(44,.slice Av_out8 v_out8.length cv_out8),(46,.string x1.Test)] (fun w hh=>(hh.box 0 rfl rfl)) ?_
  refine RgH.does (DoesH.new (d:=47) (v:=fun g=>.slice (some ⟨g,0,none⟩) 1 1) (o:=fun g=>.cells #[.string x1.Test] 9 (0,0)) (fun g=>by kernel_rfl)) ?_
  rintro _ _ _ _ ⟨g2,rfl,rfl,rfl⟩
  have ho3:SlOwn Kd.string 9 H (some ⟨g2,0,none⟩) 1 ([x1.Test]:List ByteArray) (some (g2,.cells #[.string x1.Test] 9 (0,0))):=SlOwn.lit (xs:=([x1.Test]:List ByteArray)) (by kernel_rfl) (Nat.le_of_ble_eq_true (by kernel_rfl)) (Kd.Rep.scalars rfl)
  obtain ⟨hn1,heq⟩:=guard?_some heq
  refine RgH.does (DoesH.append (d:=48) (k:=2) (t:=28) (e:=9) (bytes:=16) (kd:=Kd.string) (n:=v_out8.length) (m:=1) (xs:=v_out8) (ys:=([x1.Test]:List ByteArray)) (A:=Av_out8) (B:=(some ⟨g2,0,none⟩)) (c:=cv_out8) (cB:=1) (by kernel_rfl) rfl rfl (by kernel_rfl) rfl hov_out8 (fun w hh=>ho3.rdb (hh.chin 0 rfl)) (room_le hn1) (by have:=room_le hn1; omega)) ?_
  rintro _ _ _ _ ⟨A3,c3,ch1,rfl,rfl,rfl,ho4⟩
  refine Rd 6 [1,8,24,25,26] [(1,.slice Aa1 a1.length ca1),(8,.slice A3 ((v_out8++([x1.Test]:List ByteArray)).length) c3),(24,.slice Aa0 a0.length ca0),(25,iv (a0.length:Int)),(26,iv v26)]<|Ad 1 [.c [1,1,1,1,0,1,0,0,1,1,1],.l [1,1,1,1,0,1,0,0],.b 0,.c [1,1,1,1,1]]<|Kp [1,8,24,25,26] [(1,.slice Aa1 a1.length ca1),(8,.slice A3 ((v_out8++([x1.Test]:List ByteArray)).length) c3),(24,.slice Aa0 a0.length ca0),(25,iv (a0.length:Int)),(26,iv v26)] ?_
  refine RunH.pick 3 [2] (cs':=ch1::F) (by kernel_rfl) rfl ?_
  exact (smithyardref10_Affected.j4_c (backl2:=backl2) hbackl2) a0 _ _ a1 _ _ v26 (v_out8++([x1.Test]:List ByteArray)) _ _ _ _ hra0 hca0 hra1 hca1 ho4 rfl heq
 ·replace heq:=bif_false hb4 heq
  refine Cf v_hit11 hb4<|Ad 2 [.c [1,1,1,1,0,1,0,0,1,1,1],.l [1,1,1,1,0,1,0,0],.b 0,.c [1,1,1,1,1]]<|Kp [1,8,24,25,26] [(1,.slice Aa1 a1.length ca1),(8,.slice Av_out8 v_out8.length cv_out8),(24,.slice Aa0 a0.length ca0),(25,iv (a0.length:Int)),(26,iv v26)] ?_
  refine RunH.pick 2 [1] (cs':=chv_out8::F) (by kernel_rfl) rfl ?_
  exact (smithyardref10_Affected.j4_c (backl2:=backl2) hbackl2) a0 _ _ a1 _ _ v26 v_out8 _ _ _ _ hra0 hca0 hra1 hca1 hov_out8 rfl heq
theorem smithyardref10_Affected.l5_c {w0:World} [GlobI 0 w0] {H:Hp} {F:List Ch} {r:(List ByteArray) × Int} (e3:(List TestReads)→(List TreeChange)→(List ByteArray)→Int→TestReads→Bool→Option ((List ByteArray) × Int))
  (he3:∀ (a0:List TestReads) (Aa0:Option Addr) (ca0:Nat) (a1:List TreeChange) (Aa1:Option Addr) (ca1:Nat) (v_out8:List ByteArray) (Av_out8:Option Addr) (cv_out8:Nat) (chv_out8:Ch) (v26:Int) (x1:TestReads) (A1:Option Addr) (c1:Nat) (A2:Option Addr) (c2:Nat) (g1:Nat) (v_hit11:Bool) ,Rw kTestReads H F Aa0 a0→a0.length≤ca0→Rw kTreeChange H F Aa1 a1→a1.length≤ca1→SlOwn Kd.string 9 H Av_out8 cv_out8 v_out8 chv_out8→Kd.Row Kd.string H A1 x1.Paths→x1.Paths.length≤c1→Kd.Row Kd.string H A2 x1.Looked→x1.Looked.length≤c2→e3 a0 a1 v_out8 v26 x1 v_hit11=some r→RunH C7 (S7 F H r) H w0 [.c [1,1,1,1,0,1,0,0,1,1,0,0,1,1,1,0],.c [1,1,1,1,0,1,0,0,1,1,0,0,1,1,1,1],.b 1,.c [1,1,1,1,0,1,0,0,1,1,1],.l [1,1,1,1,0,1,0,0],.b 0,.c [1,1,1,1,1]] [(1,.slice Aa1 a1.length ca1),(8,.slice Av_out8 v_out8.length cv_out8),(10,pg g1 0),(11,.bool v_hit11),(24,.slice Aa0 a0.length ca0),(25,iv (a0.length:Int)),(26,iv v26)] H ((some (g1,.cells #[.string x1.Test,.slice A1 x1.Paths.length c1,.slice A2 x1.Looked.length c2] 39 (0,0)))::chv_out8::F)):∀ (k:Nat),∀ (a0:List TestReads) (Aa0:Option Addr) (ca0:Nat) (a1:List TreeChange) (Aa1:Option Addr) (ca1:Nat) (v_out8:List ByteArray) (Av_out8:Option Addr) (cv_out8:Nat) (chv_out8:Ch) (v26:Int) (x1:TestReads) (A1:Option Addr) (c1:Nat) (A2:Option Addr) (c2:Nat) (g1:Nat) (v_hit11:Bool) (v32:Int) ,Rw kTestReads H F Aa0 a0→a0.length≤ca0→Rw kTreeChange H F Aa1 a1→a1.length≤ca1→SlOwn Kd.string 9 H Av_out8 cv_out8 v_out8 chv_out8→Kd.Row Kd.string H A1 x1.Paths→x1.Paths.length≤c1→Kd.Row Kd.string H A2 x1.Looked→x1.Looked.length≤c2→smithyardref10_Affected.l5 e3 k a0 a1 v_out8 v26 x1 v_hit11 v32=some r→RunH C7 (S7 F H r) H w0 [.c [1,1,1,1,0,1,0,0,1,1,0,0,1,1,0,1,0,0],.l [1,1,1,1,0,1,0,0,1,1,0,0,1,1,0,1,0,0],.b 2,.c [1,1,1,1,0,1,0,0,1,1,0,0,1,1,1],.b 1,.c [1,1,1,1,0,1,0,0,1,1,1],.l [1,1,1,1,0,1,0,0],.b 0,.c [1,1,1,1,1]] [(1,.slice Aa1 a1.length ca1),(8,.slice Av_out8 v_out8.length cv_out8),(10,pg g1 0),(11,.bool v_hit11),(24,.slice Aa0 a0.length ca0),(25,iv (a0.length:Int)),(26,iv v26),(30,.slice Aa1 a1.length ca1),(31,iv (a1.length:Int)),(32,iv v32)] H ((some (g1,.cells #[.string x1.Test,.slice A1 x1.Paths.length c1,.slice A2 x1.Looked.length c2] 39 (0,0)))::chv_out8::F):=by
 intro k
 induction k with
 | zero=>intro a0 Aa0 ca0 a1 Aa1 ca1 v_out8 Av_out8 cv_out8 chv_out8 v26 x1 A1 c1 A2 c2 g1 v_hit11 v32 hra0 hca0 hra1 hca1 hov_out8 hr1 hc1 hr2 hc2 heq; exact nomatch (show (none:Option ((List ByteArray) × Int))=some r from heq)
 | succ k ihk =>
  intro a0 Aa0 ca0 a1 Aa1 ca1 v_out8 Av_out8 cv_out8 chv_out8 v26 x1 A1 c1 A2 c2 g1 v_hit11 v32 hra0 hca0 hra1 hca1 hov_out8 hr1 hc1 hr2 hc2 heq
  rw [smithyardref10_Affected.l5] at heq
  refine Ra 1 [1,1,1,1,0,1,0,0,1,1,0,0,1,1,0,1,0,0,0] [.c [1,1,1,1,0,1,0,0,1,1,0,0,1,1,0,1,0,0,1],.l [1,1,1,1,0,1,0,0,1,1,0,0,1,1,0,1,0,0],.b 2,.c [1,1,1,1,0,1,0,0,1,1,0,0,1,1,1],.b 1,.c [1,1,1,1,0,1,0,0,1,1,1],.l [1,1,1,1,0,1,0,0],.b 0,.c [1,1,1,1,1]]<|Rd 1 [1,8,10,11,24,25,26,30,31,32,33] [(1,.slice Aa1 a1.length ca1),(8,.slice Av_out8 v_out8.length cv_out8),(10,pg g1 0),(11,.bool v_hit11),(24,.slice Aa0 a0.length ca0),(25,iv (a0.length:Int)),(26,iv v26),(30,.slice Aa1 a1.length ca1),(31,iv (a1.length:Int)),(32,iv v32),(33,.bool (decide (v32<(a1.length:Int))))]<|Ad 1 [.c [1,1,1,1,0,1,0,0,1,1,0,0,1,1,0,1,0,0,1,0],.c [1,1,1,1,0,1,0,0,1,1,0,0,1,1,0,1,0,0,1,1],.l [1,1,1,1,0,1,0,0,1,1,0,0,1,1,0,1,0,0],.b 2,.c [1,1,1,1,0,1,0,0,1,1,0,0,1,1,1],.b 1,.c [1,1,1,1,0,1,0,0,1,1,1],.l [1,1,1,1,0,1,0,0],.b 0,.c [1,1,1,1,1]] ?_
  rcases bool_cases (decide (v32<(a1.length:Int))) with hb5 | hb5
  ·replace heq:=bif_true hb5 heq
   refine Ct (decide (v32<(a1.length:Int))) hb5<|Ra 4 [1,1,1,1,0,1,0,0,1,1,0,0,1,1,0,1,0,0,1,1,0,0,0] [.c [1,1,1,1,0,1,0,0,1,1,0,0,1,1,0,1,0,0,1,1,0,0,1],.b 3,.c [1,1,1,1,0,1,0,0,1,1,0,0,1,1,0,1,0,0,1,1,1],.l [1,1,1,1,0,1,0,0,1,1,0,0,1,1,0,1,0,0],.b 2,.c [1,1,1,1,0,1,0,0,1,1,0,0,1,1,1],.b 1,.c [1,1,1,1,0,1,0,0,1,1,1],.l [1,1,1,1,0,1,0,0],.b 0,.c [1,1,1,1,1]] ?_
   obtain ⟨x2,hx2,heq⟩:=bind_some heq
   obtain ⟨ha2,cs2,hK2,hcc2⟩:=hra1.get hx2
   obtain ⟨rfl⟩:=kTreeChange_open hK2
   refine Rv 2 [1,8,10,11,24,25,26,30,31,32,35] [.string x2.Path,iv x2.Kind] [.need (Aa1=some (adr Aa1)∧(0:Int)≤v32∧v32<((a1.length:Nat):Int)),.load (((adr Aa1).add (v32.toNat*2)).add 0) (.string x2.Path),.load (((adr Aa1).add (v32.toNat*2)).add 1) (iv x2.Kind)] [(1,.slice Aa1 a1.length ca1),(8,.slice Av_out8 v_out8.length cv_out8),(10,pg g1 0),(11,.bool v_hit11),(24,.slice Aa0 a0.length ca0),(25,iv (a0.length:Int)),(26,iv v26),(30,.slice Aa1 a1.length ca1),(31,iv (a1.length:Int)),(32,iv v32),(35,.agg #[.string x2.Path,iv x2.Kind])] (fun w hh=>⟨⟨ha2,(at?_some hx2).1,(at?_some hx2).2.1⟩,(hcc2 _ _ (hh.drop 2) 0 _ rfl),(hcc2 _ _ (hh.drop 2) 1 _ rfl)⟩) ?_
   refine RgH.does (DoesH.new (d:=13) (v:=fun g=>.pointer (some ⟨g,0,none⟩)) (o:=fun g=>.cells #[.string ByteArray.empty,iv 0] 27 (0,0)) (fun g=>by kernel_rfl)) ?_
   rintro _ _ _ _ ⟨g3,rfl,rfl,rfl⟩
   refine RgH.does (DoesH.store (k:=0) (g:=g3) (off:=0) (v:=.agg #[.string x2.Path,iv x2.Kind]) (cells':=#[.string x2.Path,iv x2.Kind]) (by kernel_rfl) rfl (by kernel_rfl) (by kernel_rfl)) ?_
   rintro _ _ _ _ ⟨rfl,rfl,rfl⟩
   refine Dn ?_
   obtain ⟨t1,ht1,heq⟩:=bind_some heq
   have K9:RunH C7 (S7 F H r) H w0 [.b 3,.c [1,1,1,1,0,1,0,0,1,1,0,0,1,1,0,1,0,0,1,1,1],.l [1,1,1,1,0,1,0,0,1,1,0,0,1,1,0,1,0,0],.b 2,.c [1,1,1,1,0,1,0,0,1,1,0,0,1,1,1],.b 1,.c [1,1,1,1,0,1,0,0,1,1,1],.l [1,1,1,1,0,1,0,0],.b 0,.c [1,1,1,1,1]] [(1,.slice Aa1 a1.length ca1),(8,.slice Av_out8 v_out8.length cv_out8),(10,pg g1 0),(11,.bool t1),(24,.slice Aa0 a0.length ca0),(25,iv (a0.length:Int)),(26,iv v26),(30,.slice Aa1 a1.length ca1),(31,iv (a1.length:Int)),(32,iv v32)] H ((some (g1,.cells #[.string x1.Test,.slice A1 x1.Paths.length c1,.slice A2 x1.Looked.length c2] 39 (0,0)))::chv_out8::F):=by
    refine Ra 1 [1,1,1,1,0,1,0,0,1,1,0,0,1,1,0,1,0,0,1,1,1] [.l [1,1,1,1,0,1,0,0,1,1,0,0,1,1,0,1,0,0],.b 2,.c [1,1,1,1,0,1,0,0,1,1,0,0,1,1,1],.b 1,.c [1,1,1,1,0,1,0,0,1,1,1],.l [1,1,1,1,0,1,0,0],.b 0,.c [1,1,1,1,1]]<|Rd 2 [1,8,10,11,24,25,26,30,31,32] [(1,.slice Aa1 a1.length ca1),(8,.slice Av_out8 v_out8.length cv_out8),(10,pg g1 0),(11,.bool t1),(24,.slice Aa0 a0.length ca0),(25,iv (a0.length:Int)),(26,iv v26),(30,.slice Aa1 a1.length ca1),(31,iv (a1.length:Int)),(32,iv (w64 (v32+1)))]<|Ad 1 [.c [1,1,1,1,0,1,0,0,1,1,0,0,1,1,0,1,0,0],.l [1,1,1,1,0,1,0,0,1,1,0,0,1,1,0,1,0,0],.b 2,.c [1,1,1,1,0,1,0,0,1,1,0,0,1,1,1],.b 1,.c [1,1,1,1,0,1,0,0,1,1,1],.l [1,1,1,1,0,1,0,0],.b 0,.c [1,1,1,1,1]]<|Kp [1,8,10,11,24,25,26,30,31,32] [(1,.slice Aa1 a1.length ca1),(8,.slice Av_out8 v_out8.length cv_out8),(10,pg g1 0),(11,.bool t1),(24,.slice Aa0 a0.length ca0),(25,iv (a0.length:Int)),(26,iv v26),(30,.slice Aa1 a1.length ca1),(31,iv (a1.length:Int)),(32,iv (w64 (v32+1)))] ?_
    exact ihk a0 _ _ a1 _ _ v_out8 _ _ _ v26 x1 _ _ _ _ _ t1 (w64 (v32+1)) hra0 hca0 hra1 hca1 hov_out8 hr1 hc1 hr2 hc2 heq
   replace heq:=ht1
   refine Rr<|Rk 2 [37,1,8,10,13,24,25,26,30,31,32] [(37,.bool v_hit11),(1,.slice Aa1 a1.length ca1),(8,.slice Av_out8 v_out8.length cv_out8),(10,pg g1 0),(13,pg g3 0),(24,.slice Aa0 a0.length ca0),(25,iv (a0.length:Int)),(26,iv v26),(30,.slice Aa1 a1.length ca1),(31,iv (a1.length:Int)),(32,iv v32)] ?_
   rcases bool_cases (v_hit11) with hb6 | hb6
   ·replace heq:=bif_true hb6 heq
    refine RgH.val1 (v':=.bool true) (congrArg Value.bool hb6) ?_
    refine Rk 7 [1,8,10,11,24,25,26,30,31,32] [(1,.slice Aa1 a1.length ca1),(8,.slice Av_out8 v_out8.length cv_out8),(10,pg g1 0),(11,.bool true),(24,.slice Aa0 a0.length ca0),(25,iv (a0.length:Int)),(26,iv v26),(30,.slice Aa1 a1.length ca1),(31,iv (a1.length:Int)),(32,iv v32)] ?_
    obtain rfl:=Option.some.inj heq
    refine Kg [1,8,10,11,24,25,26,30,31,32] [(1,.slice Aa1 a1.length ca1),(8,.slice Av_out8 v_out8.length cv_out8),(10,pg g1 0),(11,.bool true),(24,.slice Aa0 a0.length ca0),(25,iv (a0.length:Int)),(26,iv v26),(30,.slice Aa1 a1.length ca1),(31,iv (a1.length:Int)),(32,iv v32)] ?_
    refine RgH.pick 3 [1,2] (cs':=(some (g1,.cells #[.string x1.Test,.slice A1 x1.Paths.length c1,.slice A2 x1.Looked.length c2] 39 (0,0)))::chv_out8::F) (by kernel_rfl) rfl ?_
    refine Dn ?_
    exact K9
   ·replace heq:=bif_false hb6 heq
    refine RgH.val1 (v':=.bool false) (congrArg Value.bool hb6) ?_
    refine Rv 4 [1,8,10,24,25,26,30,31,32,37,38,39] [.string x1.Test,.slice A1 x1.Paths.length c1,.slice A2 x1.Looked.length c2,.string x2.Path,iv x2.Kind] [.load ⟨g1,0,none⟩ (.string x1.Test),.load ⟨g1,1,none⟩ (.slice A1 x1.Paths.length c1),.load ⟨g1,2,none⟩ (.slice A2 x1.Looked.length c2),.load ⟨g3,0,none⟩ (.string x2.Path),.load ⟨g3,1,none⟩ (iv x2.Kind)] [(1,.slice Aa1 a1.length ca1),(8,.slice Av_out8 v_out8.length cv_out8),(10,pg g1 0),(24,.slice Aa0 a0.length ca0),(25,iv (a0.length:Int)),(26,iv v26),(30,.slice Aa1 a1.length ca1),(31,iv (a1.length:Int)),(32,iv v32),(37,.bool false),(38,.agg #[.string x1.Test,.slice A1 x1.Paths.length c1,.slice A2 x1.Looked.length c2]),(39,.agg #[.string x2.Path,iv x2.Kind])] (fun w hh=>⟨(hh.box 1 rfl rfl),(hh.box 1 rfl rfl),(hh.box 1 rfl rfl),(hh.box 0 rfl rfl),(hh.box 0 rfl rfl)⟩) ?_
    obtain ⟨y3,hy3,heq⟩:=bind_some heq
    refine RgH.does (DoesH.call (d:=40) (g:=18) (args:=#[.agg #[.string x1.Test,.slice A1 x1.Paths.length c1,.slice A2 x1.Looked.length c2],.agg #[.string x2.Path,iv x2.Kind]]) (by kernel_rfl) (smithyardref10_touches_c (a0:=x1) (a1:=x2) (Rw.of hr1) hc1 rfl (Rw.of hr2) hc2 rfl hy3)) ?_
    rintro _ _ _ _ ⟨_,rfl,rfl,rfl,rfl⟩
    refine Rk 7 [1,8,10,11,24,25,26,30,31,32] [(1,.slice Aa1 a1.length ca1),(8,.slice Av_out8 v_out8.length cv_out8),(10,pg g1 0),(11,.bool y3),(24,.slice Aa0 a0.length ca0),(25,iv (a0.length:Int)),(26,iv v26),(30,.slice Aa1 a1.length ca1),(31,iv (a1.length:Int)),(32,iv v32)] ?_
    obtain rfl:=Option.some.inj heq
    refine Kg [1,8,10,11,24,25,26,30,31,32] [(1,.slice Aa1 a1.length ca1),(8,.slice Av_out8 v_out8.length cv_out8),(10,pg g1 0),(11,.bool y3),(24,.slice Aa0 a0.length ca0),(25,iv (a0.length:Int)),(26,iv v26),(30,.slice Aa1 a1.length ca1),(31,iv (a1.length:Int)),(32,iv v32)] ?_
    refine RgH.pick 3 [1,2] (cs':=(some (g1,.cells #[.string x1.Test,.slice A1 x1.Paths.length c1,.slice A2 x1.Looked.length c2] 39 (0,0)))::chv_out8::F) (by kernel_rfl) rfl ?_
    refine Dn ?_
    exact K9
  ·replace heq:=bif_false hb5 heq
   refine Cf (decide (v32<(a1.length:Int))) hb5<|Ad 2 [.c [1,1,1,1,0,1,0,0,1,1,0,0,1,1,1,0],.c [1,1,1,1,0,1,0,0,1,1,0,0,1,1,1,1],.b 1,.c [1,1,1,1,0,1,0,0,1,1,1],.l [1,1,1,1,0,1,0,0],.b 0,.c [1,1,1,1,1]]<|Kp [1,8,10,11,24,25,26] [(1,.slice Aa1 a1.length ca1),(8,.slice Av_out8 v_out8.length cv_out8),(10,pg g1 0),(11,.bool v_hit11),(24,.slice Aa0 a0.length ca0),(25,iv (a0.length:Int)),(26,iv v26)] ?_
   exact he3 a0 _ _ a1 _ _ v_out8 _ _ _ v26 x1 _ _ _ _ _ v_hit11 hra0 hca0 hra1 hca1 hov_out8 hr1 hc1 hr2 hc2 heq
theorem smithyardref10_Affected.l2_c {w0:World} [GlobI 0 w0] {H:Hp} {F:List Ch} {r:(List ByteArray) × Int} (e1:(List ByteArray)→Option ((List ByteArray) × Int))
  (he1:∀ (v_out8:List ByteArray) (Av_out8:Option Addr) (nv_out8:Nat) (cv_out8:Nat) (chv_out8:Ch) ,SlOwn Kd.string 9 H Av_out8 cv_out8 v_out8 chv_out8→nv_out8=v_out8.length→e1 v_out8=some r→RunH C7 (S7 F H r) H w0 [.c [1,1,1,1,1,0],.c [1,1,1,1,1,1]] [(8,.slice Av_out8 nv_out8 cv_out8)] H (chv_out8::F)):∀ (k:Nat),∀ (a0:List TestReads) (Aa0:Option Addr) (ca0:Nat) (a1:List TreeChange) (Aa1:Option Addr) (ca1:Nat) (v_out8:List ByteArray) (Av_out8:Option Addr) (nv_out8:Nat) (cv_out8:Nat) (chv_out8:Ch) (v26:Int) ,Rw kTestReads H F Aa0 a0→a0.length≤ca0→Rw kTreeChange H F Aa1 a1→a1.length≤ca1→SlOwn Kd.string 9 H Av_out8 cv_out8 v_out8 chv_out8→nv_out8=v_out8.length→smithyardref10_Affected.l2 e1 k a0 a1 v_out8 v26=some r→RunH C7 (S7 F H r) H w0 [.c [1,1,1,1,0,1,0,0],.l [1,1,1,1,0,1,0,0],.b 0,.c [1,1,1,1,1]] [(1,.slice Aa1 a1.length ca1),(8,.slice Av_out8 nv_out8 cv_out8),(24,.slice Aa0 a0.length ca0),(25,iv (a0.length:Int)),(26,iv v26)] H (chv_out8::F):=by
 intro k
 induction k with
 | zero=>intro a0 Aa0 ca0 a1 Aa1 ca1 v_out8 Av_out8 nv_out8 cv_out8 chv_out8 v26 hra0 hca0 hra1 hca1 hov_out8 hnv_out8 heq; exact nomatch (show (none:Option ((List ByteArray) × Int))=some r from heq)
 | succ k ihk =>
  intro a0 Aa0 ca0 a1 Aa1 ca1 v_out8 Av_out8 nv_out8 cv_out8 chv_out8 v26 hra0 hca0 hra1 hca1 hov_out8 hnv_out8 heq
  subst hnv_out8
  rw [smithyardref10_Affected.l2] at heq
  refine Ra 1 [1,1,1,1,0,1,0,0,0] [.c [1,1,1,1,0,1,0,0,1],.l [1,1,1,1,0,1,0,0],.b 0,.c [1,1,1,1,1]]<|Rd 1 [1,8,24,25,26,27] [(1,.slice Aa1 a1.length ca1),(8,.slice Av_out8 v_out8.length cv_out8),(24,.slice Aa0 a0.length ca0),(25,iv (a0.length:Int)),(26,iv v26),(27,.bool (decide (v26<(a0.length:Int))))]<|Ad 1 [.c [1,1,1,1,0,1,0,0,1,0],.c [1,1,1,1,0,1,0,0,1,1],.l [1,1,1,1,0,1,0,0],.b 0,.c [1,1,1,1,1]] ?_
  rcases bool_cases (decide (v26<(a0.length:Int))) with hb3 | hb3
  ·replace heq:=bif_true hb3 heq
   refine Ct (decide (v26<(a0.length:Int))) hb3<|Ra 4 [1,1,1,1,0,1,0,0,1,1,0,0,0] [.c [1,1,1,1,0,1,0,0,1,1,0,0,1],.b 1,.c [1,1,1,1,0,1,0,0,1,1,1],.l [1,1,1,1,0,1,0,0],.b 0,.c [1,1,1,1,1]] ?_
   obtain ⟨x1,hx1,heq⟩:=bind_some heq
   obtain ⟨ha1,cs1,hK1,hcc1⟩:=hra0.get hx1
   obtain ⟨A1,c1,A2,c2,rfl,hc1,hr1,hc2,hr2⟩:=kTestReads_open hK1
   refine Rv 2 [1,8,24,25,26,29] [.string x1.Test,.slice A1 x1.Paths.length c1,.slice A2 x1.Looked.length c2] [.need (Aa0=some (adr Aa0)∧(0:Int)≤v26∧v26<((a0.length:Nat):Int)),.load (((adr Aa0).add (v26.toNat*3)).add 0) (.string x1.Test),.load (((adr Aa0).add (v26.toNat*3)).add 1) (.slice A1 x1.Paths.length c1),.load (((adr Aa0).add (v26.toNat*3)).add 2) (.slice A2 x1.Looked.length c2)] [(1,.slice Aa1 a1.length ca1),(8,.slice Av_out8 v_out8.length cv_out8),(24,.slice Aa0 a0.length ca0),(25,iv (a0.length:Int)),(26,iv v26),(29,.agg #[.string x1.Test,.slice A1 x1.Paths.length c1,.slice A2 x1.Looked.length c2])] (fun w hh=>⟨⟨ha1,(at?_some hx1).1,(at?_some hx1).2.1⟩,(hcc1 _ _ (hh.drop 1) 0 _ rfl),(hcc1 _ _ (hh.drop 1) 1 _ rfl),(hcc1 _ _ (hh.drop 1) 2 _ rfl)⟩) ?_
   refine RgH.does (DoesH.new (d:=10) (v:=fun g=>.pointer (some ⟨g,0,none⟩)) (o:=fun g=>.cells #[.string ByteArray.empty,.slice none 0 0,.slice none 0 0] 39 (0,0)) (fun g=>by kernel_rfl)) ?_
   rintro _ _ _ _ ⟨g1,rfl,rfl,rfl⟩
   refine RgH.does (DoesH.store (k:=0) (g:=g1) (off:=0) (v:=.agg #[.string x1.Test,.slice A1 x1.Paths.length c1,.slice A2 x1.Looked.length c2]) (cells':=#[.string x1.Test,.slice A1 x1.Paths.length c1,.slice A2 x1.Looked.length c2]) (by kernel_rfl) rfl (by kernel_rfl) (by kernel_rfl)) ?_
   rintro _ _ _ _ ⟨rfl,rfl,rfl⟩
   refine Dn<|Ra 1 [1,1,1,1,0,1,0,0,1,1,0,0,1,0] [.c [1,1,1,1,0,1,0,0,1,1,0,0,1,1],.b 1,.c [1,1,1,1,0,1,0,0,1,1,1],.l [1,1,1,1,0,1,0,0],.b 0,.c [1,1,1,1,1]]<|Rd 1 [1,8,10,11,24,25,26] [(1,.slice Aa1 a1.length ca1),(8,.slice Av_out8 v_out8.length cv_out8),(10,pg g1 0),(11,.bool false),(24,.slice Aa0 a0.length ca0),(25,iv (a0.length:Int)),(26,iv v26)]<|Ra 2 [1,1,1,1,0,1,0,0,1,1,0,0,1,1,0,0] [.c [1,1,1,1,0,1,0,0,1,1,0,0,1,1,0,1],.c [1,1,1,1,0,1,0,0,1,1,0,0,1,1,1],.b 1,.c [1,1,1,1,0,1,0,0,1,1,1],.l [1,1,1,1,0,1,0,0],.b 0,.c [1,1,1,1,1]]<|Rd 3 [1,8,10,11,24,25,26,30,31,32] [(1,.slice Aa1 a1.length ca1),(8,.slice Av_out8 v_out8.length cv_out8),(10,pg g1 0),(11,.bool false),(24,.slice Aa0 a0.length ca0),(25,iv (a0.length:Int)),(26,iv v26),(30,.slice Aa1 a1.length ca1),(31,iv (a1.length:Int)),(32,iv 0)]<|Ad 2 [.c [1,1,1,1,0,1,0,0,1,1,0,0,1,1,0,1,0,0],.l [1,1,1,1,0,1,0,0,1,1,0,0,1,1,0,1,0,0],.b 2,.c [1,1,1,1,0,1,0,0,1,1,0,0,1,1,1],.b 1,.c [1,1,1,1,0,1,0,0,1,1,1],.l [1,1,1,1,0,1,0,0],.b 0,.c [1,1,1,1,1]]<|Kp [1,8,10,11,24,25,26,30,31,32] [(1,.slice Aa1 a1.length ca1),(8,.slice Av_out8 v_out8.length cv_out8),(10,pg g1 0),(11,.bool false),(24,.slice Aa0 a0.length ca0),(25,iv (a0.length:Int)),(26,iv v26),(30,.slice Aa1 a1.length ca1),(31,iv (a1.length:Int)),(32,iv 0)] ?_
   exact ((smithyardref10_Affected.l5_c (e3:=smithyardref10_Affected.e3 ((smithyardref10_Affected.l2 e1 k))) (smithyardref10_Affected.e3_c (backl2:=(smithyardref10_Affected.l2 e1 k)) ihk)) big) a0 _ _ a1 _ _ v_out8 _ _ _ v26 x1 _ _ _ _ _ false 0 hra0 hca0 hra1 hca1 hov_out8 hr1 hc1 hr2 hc2 heq
  ·replace heq:=bif_false hb3 heq
   refine Cf (decide (v26<(a0.length:Int))) hb3<|Ad 2 [.c [1,1,1,1,1,0],.c [1,1,1,1,1,1]]<|Kp [8] [(8,.slice Av_out8 v_out8.length cv_out8)] ?_
   exact he1 v_out8 _ _ _ _ hov_out8 rfl heq
theorem smithyardref10_Affected_c {w0:World} [GlobI 0 w0] {H:Hp} {F:List Ch} {a0:List TestReads} {Aa0:Option Addr} {na0:Nat} {ca0:Nat} {a1:List TreeChange} {Aa1:Option Addr} {na1:Nat} {ca1:Nat} {r:(List ByteArray) × Int} (hra0:Rw kTestReads H F Aa0 a0) (hca0:na0≤ca0) (hna0:na0=a0.length) (hra1:Rw kTreeChange H F Aa1 a1) (hca1:na1≤ca1) (hna1:na1=a1.length) (heq:smithyardref10_Affected.f a0 a1=some r):CallsH Tryd.prog 7 #[.slice Aa0 na0 ca0,.slice Aa1 na1 ca1] H w0 (F) (S7 F H r):=by
 refine calls_of_runH (F:=C7) Tryd.func7 (by kernel_rfl) Tryd.ntmps7 (args:=[.slice Aa0 na0 ca0,.slice Aa1 na1 ca1]) (by kernel_rfl) ?_
 subst hna0
 subst hna1
 unfold smithyardref10_Affected.f at heq
 refine Ra 1 [0] [.c [1]]<|Rd 2 [0,1] [(0,.slice Aa0 a0.length ca0),(1,.slice Aa1 a1.length ca1)]<|Ra 2 [1,0,0] [.c [1,0,1],.c [1,1]]<|Rk 1 [0,1,14] [(0,.slice Aa0 a0.length ca0),(1,.slice Aa1 a1.length ca1),(14,.slice Aa0 a0.length ca0)] ?_
 obtain ⟨y1,hy1,heq⟩:=bind_some heq
 refine RgH.does (DoesH.call (d:=15) (g:=9) (args:=#[.slice Aa0 a0.length ca0]) (by kernel_rfl) (smithyardref10_CheckReads_c (a0:=a0) hra0 hca0 rfl hy1)) ?_
 rintro _ _ _ _ ⟨_,rfl,rfl,rfl,rfl⟩
 refine Rd 3 [0,1,6] [(0,.slice Aa0 a0.length ca0),(1,.slice Aa1 a1.length ca1),(6,iv y1)]<|Ra 1 [1,0,1,0] [.c [1,0,1,1],.c [1,1]]<|Rd 2 [0,1,6,17] [(0,.slice Aa0 a0.length ca0),(1,.slice Aa1 a1.length ca1),(6,iv y1),(17,.bool (y1 != 0))] ?_
 rcases bool_cases (y1 != 0) with hb1 | hb1
 ·replace heq:=bif_true hb1 heq
  refine Ct (y1 != 0) hb1<|Ra 1 [1,0,1,1,0,0] [.c [1,0,1,1,0,1],.c [1,1]]<|Rd 3 [4,5] [(4,.slice none 0 0),(5,iv y1)]<|RunH.nilc ?_
  have ho1:SlOwn Kd.string 9 H none 0 ([]:List ByteArray) none:=SlOwn.nil
  obtain rfl:=Option.some.inj heq
  exact RunH.done (by kernel_rfl) Tryd.func7 (v:=.tuple #[.slice none 0 0,iv y1]) (by kernel_rfl) ⟨none,0,none,rfl,rfl,rfl,ho1⟩
 ·replace heq:=bif_false hb1 heq
  refine Cf (y1 != 0) hb1<|Ra 3 [1,1,0,0] [.c [1,1,0,1],.c [1,1,1]]<|Rk 1 [0,1,19] [(0,.slice Aa0 a0.length ca0),(1,.slice Aa1 a1.length ca1),(19,.slice Aa1 a1.length ca1)] ?_
  obtain ⟨y2,hy2,heq⟩:=bind_some heq
  refine RgH.does (DoesH.call (d:=20) (g:=17) (args:=#[.slice Aa1 a1.length ca1]) (by kernel_rfl) (smithyardref10_checkChanges_c (a0:=a1) hra1 hca1 rfl hy2)) ?_
  rintro _ _ _ _ ⟨_,rfl,rfl,rfl,rfl⟩
  refine Rd 3 [0,1,7] [(0,.slice Aa0 a0.length ca0),(1,.slice Aa1 a1.length ca1),(7,iv y2)]<|Ra 1 [1,1,0,1,0] [.c [1,1,0,1,1],.c [1,1,1]]<|Rd 2 [0,1,7,22] [(0,.slice Aa0 a0.length ca0),(1,.slice Aa1 a1.length ca1),(7,iv y2),(22,.bool (y2 != 0))] ?_
  rcases bool_cases (y2 != 0) with hb2 | hb2
  ·replace heq:=bif_true hb2 heq
   refine Ct (y2 != 0) hb2<|Ra 1 [1,1,0,1,1,0,0] [.c [1,1,0,1,1,0,1],.c [1,1,1]]<|Rd 3 [4,5] [(4,.slice none 0 0),(5,iv y2)]<|RunH.nilc ?_
   have ho2:SlOwn Kd.string 9 H none 0 ([]:List ByteArray) none:=SlOwn.nil
   obtain rfl:=Option.some.inj heq
   exact RunH.done (by kernel_rfl) Tryd.func7 (v:=.tuple #[.slice none 0 0,iv y2]) (by kernel_rfl) ⟨none,0,none,rfl,rfl,rfl,ho2⟩
  ·replace heq:=bif_false hb2 heq
   refine Cf (y2 != 0) hb2<|Ra 2 [1,1,1,0] [.c [1,1,1,1]]<|Rd 1 [0,1,8] [(0,.slice Aa0 a0.length ca0),(1,.slice Aa1 a1.length ca1),(8,.slice none 0 0)]<|Ra 2 [1,1,1,1,0,0] [.c [1,1,1,1,0,1],.c [1,1,1,1,1]]<|Rd 3 [1,8,24,25,26] [(1,.slice Aa1 a1.length ca1),(8,.slice none 0 0),(24,.slice Aa0 a0.length ca0),(25,iv (a0.length:Int)),(26,iv 0)]<|Ad 2 [.c [1,1,1,1,0,1,0,0],.l [1,1,1,1,0,1,0,0],.b 0,.c [1,1,1,1,1]]<|RunH.nilc ?_
   have ho5:SlOwn Kd.string 9 H none 0 ([]:List ByteArray) none:=SlOwn.nil
   refine Kp [1,8,24,25,26] [(1,.slice Aa1 a1.length ca1),(8,.slice none 0 0),(24,.slice Aa0 a0.length ca0),(25,iv (a0.length:Int)),(26,iv 0)] ?_
   exact ((smithyardref10_Affected.l2_c (e1:=smithyardref10_Affected.e1) (smithyardref10_Affected.e1_c)) big) a0 _ _ a1 _ _ ([]:List ByteArray) _ _ _ _ 0 hra0 hca0 hra1 hca1 ho5 rfl heq
noncomputable def C10:Ctx:={ P:=Tryd.prog,f:=10,N:=26,c:=bodyOf Tryd.f10 }
def S10 (F:List Ch) (H0:Hp) (r:Bool) (v:Value) (H:Hp) (cs:List Ch):Prop:=H0=H∧v=.bool r∧F=cs
theorem slices_Equal_string.e1_c {w0:World} [GlobI 0 w0] {H:Hp} {F:List Ch} {r:Bool}:slices_Equal_string.e1=some r→RunH C10 (S10 F H r) H w0 [.c [1,1,1,0],.c [1,1,1,1]] [] H (F):=by
 intro   heq
 unfold slices_Equal_string.e1 at heq
 refine Rr<|Rd 1 [4] [(4,.bool true)] ?_
 obtain rfl:=Option.some.inj heq
 exact RunH.done (by kernel_rfl) Tryd.func10 (v:=.bool true) (by kernel_rfl) ⟨rfl,rfl,rfl⟩
theorem slices_Equal_string.l2_c {w0:World} [GlobI 0 w0] {H:Hp} {F:List Ch} {r:Bool} (e1:Option Bool)
  (he1:e1=some r→RunH C10 (S10 F H r) H w0 [.c [1,1,1,0],.c [1,1,1,1]] [] H (F)):∀ (k:Nat),∀ (a0:List ByteArray) (Aa0:Option Addr) (ca0:Nat) (a1:List ByteArray) (Aa1:Option Addr) (ca1:Nat) (v13:Int) ,Rw Kd.string H F Aa0 a0→a0.length≤ca0→Rw Kd.string H F Aa1 a1→a1.length≤ca1→slices_Equal_string.l2 e1 k a0 a1 v13=some r→RunH C10 (S10 F H r) H w0 [.c [1,1,0,1,0,0],.l [1,1,0,1,0,0],.b 0,.c [1,1,1]] [(0,.slice Aa0 a0.length ca0),(1,.slice Aa1 a1.length ca1),(12,iv (a0.length:Int)),(13,iv v13)] H (F):=by
 intro k
 induction k with
 | zero=>intro a0 Aa0 ca0 a1 Aa1 ca1 v13 hra0 hca0 hra1 hca1 heq; exact nomatch (show (none:Option Bool)=some r from heq)
 | succ k ihk =>
  intro a0 Aa0 ca0 a1 Aa1 ca1 v13 hra0 hca0 hra1 hca1 heq
  rw [slices_Equal_string.l2] at heq
  refine Ra 1 [1,1,0,1,0,0,0] [.c [1,1,0,1,0,0,1],.l [1,1,0,1,0,0],.b 0,.c [1,1,1]]<|Rd 1 [0,1,12,13,14] [(0,.slice Aa0 a0.length ca0),(1,.slice Aa1 a1.length ca1),(12,iv (a0.length:Int)),(13,iv v13),(14,.bool (decide (v13<(a0.length:Int))))]<|Ad 1 [.c [1,1,0,1,0,0,1,0],.c [1,1,0,1,0,0,1,1],.l [1,1,0,1,0,0],.b 0,.c [1,1,1]] ?_
  rcases bool_cases (decide (v13<(a0.length:Int))) with hb2 | hb2
  ·replace heq:=bif_true hb2 heq
   refine Ct (decide (v13<(a0.length:Int))) hb2<|Ra 4 [1,1,0,1,0,0,1,1,0,0,0] [.c [1,1,0,1,0,0,1,1,0,0,1],.b 1,.c [1,1,0,1,0,0,1,1,1],.l [1,1,0,1,0,0],.b 0,.c [1,1,1]]<|Rd 2 [0,1,5,12,13] [(0,.slice Aa0 a0.length ca0),(1,.slice Aa1 a1.length ca1),(5,iv v13),(12,iv (a0.length:Int)),(13,iv v13)]<|Ad 1 [.c [1,1,0,1,0,0,1,1,0,0,1,0],.c [1,1,0,1,0,0,1,1,0,0,1,1],.b 1,.c [1,1,0,1,0,0,1,1,1],.l [1,1,0,1,0,0],.b 0,.c [1,1,1]]<|Kp [0,1,5,12,13] [(0,.slice Aa0 a0.length ca0),(1,.slice Aa1 a1.length ca1),(5,iv v13),(12,iv (a0.length:Int)),(13,iv v13)] ?_
   refine RunH.draw (fun w=>Heap H w0 w (F)) (fun w=>Heap H w0 w (F)) [3,3,3,3,3,3,3,3,3] (n:=9) (ls:=[false,false,false,false,false,false,false,false,false]) (by kernel_rfl) (by kernel_rfl) (by kernel_rfl) rfl ?_
   obtain ⟨x1,hx1,heq⟩:=bind_some heq
   obtain ⟨ha1,cs1,hK1,hcc1⟩:=hra0.get hx1
   obtain rfl:cs1=[.string x1]:=hK1
   obtain ⟨x2,hx2,heq⟩:=bind_some heq
   obtain ⟨ha2,cs2,hK2,hcc2⟩:=hra1.get hx2
   obtain rfl:cs2=[.string x2]:=hK2
   refine Dk [0,1,2,3,4,5,6,7,8] 0 (nb 9 511) [.string x1,.string x2] [.need (Aa0=some (adr Aa0)∧(0:Int)≤v13∧v13<((a0.length:Nat):Int)),.load ((adr Aa0).add (v13.toNat*1)) (.string x1),.need (Aa1=some (adr Aa1)∧(0:Int)≤v13∧v13<((a1.length:Nat):Int)),.load ((adr Aa1).add (v13.toNat*1)) (.string x2)] [0,1,12,13,24] [(0,.slice Aa0 a0.length ca0),(1,.slice Aa1 a1.length ca1),(12,iv (a0.length:Int)),(13,iv v13),(24,.bool (!sEq x1 x2))] (Pk 0 []) (Pk 0 []) (fun w hh=>⟨⟨ha1,(at?_some hx1).1,(at?_some hx1).2.1⟩,(hcc1 _ _ (hh.drop 0) 0 _ rfl),⟨ha2,(at?_some hx2).1,(at?_some hx2).2.1⟩,(hcc2 _ _ (hh.drop 0) 0 _ rfl)⟩) ?_
   refine DrH.done (by kernel_rfl) ?_
   rcases bool_cases (!sEq x1 x2) with hb3 | hb3
   ·replace heq:=bif_true hb3 heq
    refine Ct (!sEq x1 x2) hb3<|Ra 1 [1,1,0,1,0,0,1,1,0,0,1,1,0,0] [.c [1,1,0,1,0,0,1,1,0,0,1,1,0,1],.b 1,.c [1,1,0,1,0,0,1,1,1],.l [1,1,0,1,0,0],.b 0,.c [1,1,1]]<|Rd 1 [4] [(4,.bool false)] ?_
    obtain rfl:=Option.some.inj heq
    exact RunH.done (by kernel_rfl) Tryd.func10 (v:=.bool false) (by kernel_rfl) ⟨rfl,rfl,rfl⟩
   ·replace heq:=bif_false hb3 heq
    refine Cf (!sEq x1 x2) hb3<|Ra 2 [1,1,0,1,0,0,1,1,1] [.l [1,1,0,1,0,0],.b 0,.c [1,1,1]]<|Rd 2 [0,1,12,13] [(0,.slice Aa0 a0.length ca0),(1,.slice Aa1 a1.length ca1),(12,iv (a0.length:Int)),(13,iv (w64 (v13+1)))]<|Ad 1 [.c [1,1,0,1,0,0],.l [1,1,0,1,0,0],.b 0,.c [1,1,1]]<|Kp [0,1,12,13] [(0,.slice Aa0 a0.length ca0),(1,.slice Aa1 a1.length ca1),(12,iv (a0.length:Int)),(13,iv (w64 (v13+1)))] ?_
    exact ihk a0 _ _ a1 _ _ (w64 (v13+1)) hra0 hca0 hra1 hca1 heq
  ·replace heq:=bif_false hb2 heq
   refine Cf (decide (v13<(a0.length:Int))) hb2<|Ad 2 [.c [1,1,1,0],.c [1,1,1,1]]<|Kp [] [] ?_
   exact he1 heq
theorem slices_Equal_string_c {w0:World} [GlobI 0 w0] {H:Hp} {F:List Ch} {a0:List ByteArray} {Aa0:Option Addr} {na0:Nat} {ca0:Nat} {a1:List ByteArray} {Aa1:Option Addr} {na1:Nat} {ca1:Nat} {r:Bool} (hra0:Rw Kd.string H F Aa0 a0) (hca0:na0≤ca0) (hna0:na0=a0.length) (hra1:Rw Kd.string H F Aa1 a1) (hca1:na1≤ca1) (hna1:na1=a1.length) (heq:slices_Equal_string.f a0 a1=some r):CallsH Tryd.prog 10 #[.slice Aa0 na0 ca0,.slice Aa1 na1 ca1] H w0 (F) (S10 F H r):=by
 refine calls_of_runH (F:=C10) Tryd.func10 (by kernel_rfl) Tryd.ntmps10 (args:=[.slice Aa0 na0 ca0,.slice Aa1 na1 ca1]) (by kernel_rfl) ?_
 subst hna0
 subst hna1
 unfold slices_Equal_string.f at heq
 refine Ra 1 [0] [.c [1]]<|Rd 1 [0,1] [(0,.slice Aa0 a0.length ca0),(1,.slice Aa1 a1.length ca1)]<|Ra 2 [1,0,0] [.c [1,0,1],.c [1,1]]<|Rd 5 [0,1,10] [(0,.slice Aa0 a0.length ca0),(1,.slice Aa1 a1.length ca1),(10,.bool ((a0.length:Int) != (a1.length:Int)))] ?_
 rcases bool_cases ((a0.length:Int) != (a1.length:Int)) with hb1 | hb1
 ·replace heq:=bif_true hb1 heq
  refine Ct ((a0.length:Int) != (a1.length:Int)) hb1<|Ra 1 [1,0,1,0,0] [.c [1,0,1,0,1],.c [1,1]]<|Rd 1 [4] [(4,.bool false)] ?_
  obtain rfl:=Option.some.inj heq
  exact RunH.done (by kernel_rfl) Tryd.func10 (v:=.bool false) (by kernel_rfl) ⟨rfl,rfl,rfl⟩
 ·replace heq:=bif_false hb1 heq
  refine Cf ((a0.length:Int) != (a1.length:Int)) hb1<|Ra 3 [1,1,0,0] [.c [1,1,0,1],.c [1,1,1]]<|Rd 3 [0,1,12,13] [(0,.slice Aa0 a0.length ca0),(1,.slice Aa1 a1.length ca1),(12,iv (a0.length:Int)),(13,iv 0)]<|Ad 2 [.c [1,1,0,1,0,0],.l [1,1,0,1,0,0],.b 0,.c [1,1,1]]<|Kp [0,1,12,13] [(0,.slice Aa0 a0.length ca0),(1,.slice Aa1 a1.length ca1),(12,iv (a0.length:Int)),(13,iv 0)] ?_
  exact ((slices_Equal_string.l2_c (e1:=slices_Equal_string.e1) (slices_Equal_string.e1_c)) big) a0 _ _ a1 _ _ 0 hra0 hca0 hra1 hca1 heq
noncomputable def C11:Ctx:={ P:=Tryd.prog,f:=11,N:=56,c:=bodyOf Tryd.f11 }
def S11 (F:List Ch) (H0:Hp) (r:Bool) (v:Value) (H:Hp) (cs:List Ch):Prop:=H0=H∧v=.bool r∧F=cs
theorem smithyardref10_SameReads.e1_c {w0:World} [GlobI 0 w0] {H:Hp} {F:List Ch} {r:Bool}:smithyardref10_SameReads.e1=some r→RunH C11 (S11 F H r) H w0 [.c [1,1,1,0],.c [1,1,1,1]] [] H (F):=by
 intro   heq
 unfold smithyardref10_SameReads.e1 at heq
 refine Rr<|Rd 1 [4] [(4,.bool true)] ?_
 obtain rfl:=Option.some.inj heq
 exact RunH.done (by kernel_rfl) Tryd.func11 (v:=.bool true) (by kernel_rfl) ⟨rfl,rfl,rfl⟩
theorem smithyardref10_SameReads.l2_c {w0:World} [GlobI 0 w0] {H:Hp} {F:List Ch} {r:Bool} (e1:Option Bool)
  (he1:e1=some r→RunH C11 (S11 F H r) H w0 [.c [1,1,1,0],.c [1,1,1,1]] [] H (F)):∀ (k:Nat),∀ (a0:List TestReads) (Aa0:Option Addr) (ca0:Nat) (a1:List TestReads) (Aa1:Option Addr) (ca1:Nat) (v13:Int) ,Rw kTestReads H F Aa0 a0→a0.length≤ca0→Rw kTestReads H F Aa1 a1→a1.length≤ca1→smithyardref10_SameReads.l2 e1 k a0 a1 v13=some r→RunH C11 (S11 F H r) H w0 [.c [1,1,0,1,0,0],.l [1,1,0,1,0,0],.b 0,.c [1,1,1]] [(0,.slice Aa0 a0.length ca0),(1,.slice Aa1 a1.length ca1),(12,iv (a0.length:Int)),(13,iv v13)] H (F):=by
 intro k
 induction k with
 | zero=>intro a0 Aa0 ca0 a1 Aa1 ca1 v13 hra0 hca0 hra1 hca1 heq; exact nomatch (show (none:Option Bool)=some r from heq)
 | succ k ihk =>
  intro a0 Aa0 ca0 a1 Aa1 ca1 v13 hra0 hca0 hra1 hca1 heq
  rw [smithyardref10_SameReads.l2] at heq
  refine Ra 1 [1,1,0,1,0,0,0] [.c [1,1,0,1,0,0,1],.l [1,1,0,1,0,0],.b 0,.c [1,1,1]]<|Rd 1 [0,1,12,13,14] [(0,.slice Aa0 a0.length ca0),(1,.slice Aa1 a1.length ca1),(12,iv (a0.length:Int)),(13,iv v13),(14,.bool (decide (v13<(a0.length:Int))))]<|Ad 1 [.c [1,1,0,1,0,0,1,0],.c [1,1,0,1,0,0,1,1],.l [1,1,0,1,0,0],.b 0,.c [1,1,1]] ?_
  rcases bool_cases (decide (v13<(a0.length:Int))) with hb2 | hb2
  ·replace heq:=bif_true hb2 heq
   refine Ct (decide (v13<(a0.length:Int))) hb2<|Ra 4 [1,1,0,1,0,0,1,1,0,0,0] [.c [1,1,0,1,0,0,1,1,0,0,1],.b 1,.c [1,1,0,1,0,0,1,1,1],.l [1,1,0,1,0,0],.b 0,.c [1,1,1]]<|Rd 2 [0,1,5,12,13] [(0,.slice Aa0 a0.length ca0),(1,.slice Aa1 a1.length ca1),(5,iv v13),(12,iv (a0.length:Int)),(13,iv v13)]<|Ad 1 [.c [1,1,0,1,0,0,1,1,0,0,1,0],.c [1,1,0,1,0,0,1,1,0,0,1,1],.b 1,.c [1,1,0,1,0,0,1,1,1],.l [1,1,0,1,0,0],.b 0,.c [1,1,1]] ?_
   obtain ⟨t1,ht1,heq⟩:=bind_some heq
   have K1:RunH C11 (S11 F H r) H w0 [.c [1,1,0,1,0,0,1,1,0,0,1,1],.b 1,.c [1,1,0,1,0,0,1,1,1],.l [1,1,0,1,0,0],.b 0,.c [1,1,1]] [(0,.slice Aa0 a0.length ca0),(1,.slice Aa1 a1.length ca1),(12,iv (a0.length:Int)),(13,iv v13),(54,.bool t1)] H (F):=by
    rcases bool_cases (t1) with hb5 | hb5
    ·replace heq:=bif_true hb5 heq
     refine Ct t1 hb5<|Ra 1 [1,1,0,1,0,0,1,1,0,0,1,1,0,0] [.c [1,1,0,1,0,0,1,1,0,0,1,1,0,1],.b 1,.c [1,1,0,1,0,0,1,1,1],.l [1,1,0,1,0,0],.b 0,.c [1,1,1]]<|Rd 1 [4] [(4,.bool false)] ?_
     obtain rfl:=Option.some.inj heq
     exact RunH.done (by kernel_rfl) Tryd.func11 (v:=.bool false) (by kernel_rfl) ⟨rfl,rfl,rfl⟩
    ·replace heq:=bif_false hb5 heq
     refine Cf t1 hb5<|Ra 2 [1,1,0,1,0,0,1,1,1] [.l [1,1,0,1,0,0],.b 0,.c [1,1,1]]<|Rd 2 [0,1,12,13] [(0,.slice Aa0 a0.length ca0),(1,.slice Aa1 a1.length ca1),(12,iv (a0.length:Int)),(13,iv (w64 (v13+1)))]<|Ad 1 [.c [1,1,0,1,0,0],.l [1,1,0,1,0,0],.b 0,.c [1,1,1]]<|Kp [0,1,12,13] [(0,.slice Aa0 a0.length ca0),(1,.slice Aa1 a1.length ca1),(12,iv (a0.length:Int)),(13,iv (w64 (v13+1)))] ?_
     exact ihk a0 _ _ a1 _ _ (w64 (v13+1)) hra0 hca0 hra1 hca1 heq
   replace heq:=ht1
   refine Kp [0,1,5,12,13] [(0,.slice Aa0 a0.length ca0),(1,.slice Aa1 a1.length ca1),(5,iv v13),(12,iv (a0.length:Int)),(13,iv v13)] ?_
   refine RunH.draw (fun w=>Heap H w0 w (F)) (fun w=>Heap H w0 w (F)) [3,3,3,3,3,3,3,3,3,3,3,3,3,3,3,3,3,3,3,3,3,3,0,3,3,3,3,3,3,3,3,3,3,3,3,3,0,3,3] (n:=39) (ls:=[false,false,false,false,false,false,false,false,false,false,false,false,false,false,false,false,false,false,false,false,false,false,false,false,false,false,false,false,false,false,false,false,false,false,false,false,false,false,false]) (by kernel_rfl) (by kernel_rfl) (by kernel_rfl) rfl ?_
   obtain ⟨x1,hx1,heq⟩:=bind_some heq
   obtain ⟨ha1,cs1,hK1,hcc1⟩:=hra0.get hx1
   obtain ⟨A1,c1,A2,c2,rfl,hc1,hr1,hc2,hr2⟩:=kTestReads_open hK1
   obtain ⟨x2,hx2,heq⟩:=bind_some heq
   obtain ⟨ha2,cs2,hK2,hcc2⟩:=hra1.get hx2
   obtain ⟨A3,c3,A4,c4,rfl,hc3,hr3,hc4,hr4⟩:=kTestReads_open hK2
   refine Dk [0,1,2,3,4,5,6,7,8,9,10,11] 27 (nb 39 4095) [.string x1.Test,.string x2.Test] [.need (Aa0=some (adr Aa0)∧(0:Int)≤v13∧v13<((a0.length:Nat):Int)),.load (((adr Aa0).add (v13.toNat*3)).add 0) (.string x1.Test),.need (Aa1=some (adr Aa1)∧(0:Int)≤v13∧v13<((a1.length:Nat):Int)),.load (((adr Aa1).add (v13.toNat*3)).add 0) (.string x2.Test)] [27,0,1,5,12,13] [(27,.bool (!sEq x1.Test x2.Test)),(0,.slice Aa0 a0.length ca0),(1,.slice Aa1 a1.length ca1),(5,iv v13),(12,iv (a0.length:Int)),(13,iv v13)] (Pk 0 []) (Pk 0 []) (fun w hh=>⟨⟨ha1,(at?_some hx1).1,(at?_some hx1).2.1⟩,(hcc1 _ _ (hh.drop 0) 0 _ rfl),⟨ha2,(at?_some hx2).1,(at?_some hx2).2.1⟩,(hcc2 _ _ (hh.drop 0) 0 _ rfl)⟩) ?_
   rcases bool_cases (!sEq x1.Test x2.Test) with hb3 | hb3
   ·replace heq:=bif_true hb3 heq
    refine DrH.val1 (v':=.bool true) (congrArg Value.bool hb3) ?_
    refine Dk [12,13,14,15,16,17,18,19,20,21,22,23,24,25,26,27,28,29,30,31,32,33,34,35,36,37,38] 0 (nb 39 549755813887) [] [] [0,1,12,13,54] [(0,.slice Aa0 a0.length ca0),(1,.slice Aa1 a1.length ca1),(12,iv (a0.length:Int)),(13,iv v13),(54,.bool true)] (Pk 0 []) (Pk 0 []) (fun _ _=>trivial) ?_
    obtain rfl:=Option.some.inj heq
    refine Kr [0,1,12,13,54] [(0,.slice Aa0 a0.length ca0),(1,.slice Aa1 a1.length ca1),(12,iv (a0.length:Int)),(13,iv v13),(54,.bool true)] ?_
    refine DrH.done (by kernel_rfl) ?_
    exact K1
   ·replace heq:=bif_false hb3 heq
    refine DrH.val1 (v':=.bool false) (congrArg Value.bool hb3) ?_
    obtain ⟨ha3,cs3,hK3,hcc3⟩:=hra0.get hx1
    obtain ⟨A5,c5,A6,c6,rfl,hc5,hr5,hc6,hr6⟩:=kTestReads_open hK3
    obtain ⟨ha4,cs4,hK4,hcc4⟩:=hra1.get hx2
    obtain ⟨A7,c7,A8,c8,rfl,hc7,hr7,hc8,hr8⟩:=kTestReads_open hK4
    refine Dk [12,13,14,15,16,17,18,19,20,21] 17 (nb 39 4194303) [.slice A5 x1.Paths.length c5,.slice A7 x2.Paths.length c7] [.need (Aa0=some (adr Aa0)∧(0:Int)≤v13∧v13<((a0.length:Nat):Int)),.load (((adr Aa0).add (v13.toNat*3)).add 1) (.slice A5 x1.Paths.length c5),.need (Aa1=some (adr Aa1)∧(0:Int)≤v13∧v13<((a1.length:Nat):Int)),.load (((adr Aa1).add (v13.toNat*3)).add 1) (.slice A7 x2.Paths.length c7)] [0,1,5,12,13,27,32,37] [(0,.slice Aa0 a0.length ca0),(1,.slice Aa1 a1.length ca1),(5,iv v13),(12,iv (a0.length:Int)),(13,iv v13),(27,.bool false),(32,.slice A5 x1.Paths.length c5),(37,.slice A7 x2.Paths.length c7)] (Pk 0 []) (Pk 0 []) (fun w hh=>⟨⟨ha3,(at?_some hx1).1,(at?_some hx1).2.1⟩,(hcc3 _ _ (hh.drop 0) 1 _ rfl),⟨ha4,(at?_some hx2).1,(at?_some hx2).2.1⟩,(hcc4 _ _ (hh.drop 0) 1 _ rfl)⟩) ?_
    obtain ⟨y1,hy1,heq⟩:=bind_some heq
    refine DrH.does (n:=16) (ls':=[true,true,true,true,true,true,true,true,true,true,true,true,true,true,true,true,true,true,true,true,true,true,true,false,false,false,false,false,false,false,false,false,false,false,false,false,false,false,false]) 22 (by kernel_rfl) rfl (DoesH.call (d:=38) (g:=10) (args:=#[.slice A5 x1.Paths.length c5,.slice A7 x2.Paths.length c7]) (by kernel_rfl) (slices_Equal_string_c (a0:=x1.Paths) (a1:=x2.Paths) (Rw.of hr5) hc5 rfl (Rw.of hr7) hc7 rfl hy1)) ?_
    rintro _ _ _ _ ⟨_,rfl,rfl,rfl,rfl⟩
    refine ⟨fun _ w hh=>⟨fun _=>(Pk 0 []) w hh,fun _=>(Pk 0 []) w hh,(fun h=>by cases h)⟩,?_⟩
    refine Dk [23,24,25] 13 (nb 39 67108863) [] [] [41,0,1,5,12,13] [(41,.bool (!y1)),(0,.slice Aa0 a0.length ca0),(1,.slice Aa1 a1.length ca1),(5,iv v13),(12,iv (a0.length:Int)),(13,iv v13)] (Pk 0 []) (Pk 0 []) (fun _ _=>trivial) ?_
    rcases bool_cases (!y1) with hb4 | hb4
    ·replace heq:=bif_true hb4 heq
     refine DrH.val1 (v':=.bool true) (congrArg Value.bool hb4) ?_
     refine Dk [26,27,28,29,30,31,32,33,34,35,36,37,38] 0 (nb 39 549755813887) [] [] [0,1,12,13,54] [(0,.slice Aa0 a0.length ca0),(1,.slice Aa1 a1.length ca1),(12,iv (a0.length:Int)),(13,iv v13),(54,.bool true)] (Pk 0 []) (Pk 0 []) (fun _ _=>trivial) ?_
     obtain rfl:=Option.some.inj heq
     refine Kr [0,1,12,13,54] [(0,.slice Aa0 a0.length ca0),(1,.slice Aa1 a1.length ca1),(12,iv (a0.length:Int)),(13,iv v13),(54,.bool true)] ?_
     refine DrH.done (by kernel_rfl) ?_
     exact K1
    ·replace heq:=bif_false hb4 heq
     refine DrH.val1 (v':=.bool false) (congrArg Value.bool hb4) ?_
     obtain ⟨ha5,cs5,hK5,hcc5⟩:=hra0.get hx1
     obtain ⟨A9,c9,A10,c10,rfl,hc9,hr9,hc10,hr10⟩:=kTestReads_open hK5
     obtain ⟨ha6,cs6,hK6,hcc6⟩:=hra1.get hx2
     obtain ⟨A11,c11,A12,c12,rfl,hc11,hr11,hc12,hr12⟩:=kTestReads_open hK6
     refine Dk [26,27,28,29,30,31,32,33,34,35] 3 (nb 39 68719476735) [.slice A10 x1.Looked.length c10,.slice A12 x2.Looked.length c12] [.need (Aa0=some (adr Aa0)∧(0:Int)≤v13∧v13<((a0.length:Nat):Int)),.load (((adr Aa0).add (v13.toNat*3)).add 2) (.slice A10 x1.Looked.length c10),.need (Aa1=some (adr Aa1)∧(0:Int)≤v13∧v13<((a1.length:Nat):Int)),.load (((adr Aa1).add (v13.toNat*3)).add 2) (.slice A12 x2.Looked.length c12)] [0,1,12,13,41,46,51] [(0,.slice Aa0 a0.length ca0),(1,.slice Aa1 a1.length ca1),(12,iv (a0.length:Int)),(13,iv v13),(41,.bool false),(46,.slice A10 x1.Looked.length c10),(51,.slice A12 x2.Looked.length c12)] (Pk 0 []) (Pk 0 []) (fun w hh=>⟨⟨ha5,(at?_some hx1).1,(at?_some hx1).2.1⟩,(hcc5 _ _ (hh.drop 0) 2 _ rfl),⟨ha6,(at?_some hx2).1,(at?_some hx2).2.1⟩,(hcc6 _ _ (hh.drop 0) 2 _ rfl)⟩) ?_
     obtain ⟨y2,hy2,heq⟩:=bind_some heq
     refine DrH.does (n:=2) (ls':=[true,true,true,true,true,true,true,true,true,true,true,true,true,true,true,true,true,true,true,true,true,true,true,true,true,true,true,true,true,true,true,true,true,true,true,true,true,false,false]) 36 (by kernel_rfl) rfl (DoesH.call (d:=52) (g:=10) (args:=#[.slice A10 x1.Looked.length c10,.slice A12 x2.Looked.length c12]) (by kernel_rfl) (slices_Equal_string_c (a0:=x1.Looked) (a1:=x2.Looked) (Rw.of hr10) hc10 rfl (Rw.of hr12) hc12 rfl hy2)) ?_
     rintro _ _ _ _ ⟨_,rfl,rfl,rfl,rfl⟩
     refine ⟨fun _ w hh=>⟨fun _=>(Pk 0 []) w hh,fun _=>(Pk 0 []) w hh,(fun h=>by cases h)⟩,?_⟩
     refine Dk [37,38] 0 (nb 39 549755813887) [] [] [0,1,12,13,54] [(0,.slice Aa0 a0.length ca0),(1,.slice Aa1 a1.length ca1),(12,iv (a0.length:Int)),(13,iv v13),(54,.bool (!y2))] (Pk 0 []) (Pk 0 []) (fun _ _=>trivial) ?_
     obtain rfl:=Option.some.inj heq
     refine Kr [0,1,12,13,54] [(0,.slice Aa0 a0.length ca0),(1,.slice Aa1 a1.length ca1),(12,iv (a0.length:Int)),(13,iv v13),(54,.bool (!y2))] ?_
     refine DrH.done (by kernel_rfl) ?_
     exact K1
  ·replace heq:=bif_false hb2 heq
   refine Cf (decide (v13<(a0.length:Int))) hb2<|Ad 2 [.c [1,1,1,0],.c [1,1,1,1]]<|Kp [] [] ?_
   exact he1 heq
theorem smithyardref10_SameReads_c {w0:World} [GlobI 0 w0] {H:Hp} {F:List Ch} {a0:List TestReads} {Aa0:Option Addr} {na0:Nat} {ca0:Nat} {a1:List TestReads} {Aa1:Option Addr} {na1:Nat} {ca1:Nat} {r:Bool} (hra0:Rw kTestReads H F Aa0 a0) (hca0:na0≤ca0) (hna0:na0=a0.length) (hra1:Rw kTestReads H F Aa1 a1) (hca1:na1≤ca1) (hna1:na1=a1.length) (heq:smithyardref10_SameReads.f a0 a1=some r):CallsH Tryd.prog 11 #[.slice Aa0 na0 ca0,.slice Aa1 na1 ca1] H w0 (F) (S11 F H r):=by
 refine calls_of_runH (F:=C11) Tryd.func11 (by kernel_rfl) Tryd.ntmps11 (args:=[.slice Aa0 na0 ca0,.slice Aa1 na1 ca1]) (by kernel_rfl) ?_
 subst hna0
 subst hna1
 unfold smithyardref10_SameReads.f at heq
 refine Ra 1 [0] [.c [1]]<|Rd 1 [0,1] [(0,.slice Aa0 a0.length ca0),(1,.slice Aa1 a1.length ca1)]<|Ra 2 [1,0,0] [.c [1,0,1],.c [1,1]]<|Rd 5 [0,1,10] [(0,.slice Aa0 a0.length ca0),(1,.slice Aa1 a1.length ca1),(10,.bool ((a0.length:Int) != (a1.length:Int)))] ?_
 rcases bool_cases ((a0.length:Int) != (a1.length:Int)) with hb1 | hb1
 ·replace heq:=bif_true hb1 heq
  refine Ct ((a0.length:Int) != (a1.length:Int)) hb1<|Ra 1 [1,0,1,0,0] [.c [1,0,1,0,1],.c [1,1]]<|Rd 1 [4] [(4,.bool false)] ?_
  obtain rfl:=Option.some.inj heq
  exact RunH.done (by kernel_rfl) Tryd.func11 (v:=.bool false) (by kernel_rfl) ⟨rfl,rfl,rfl⟩
 ·replace heq:=bif_false hb1 heq
  refine Cf ((a0.length:Int) != (a1.length:Int)) hb1<|Ra 3 [1,1,0,0] [.c [1,1,0,1],.c [1,1,1]]<|Rd 3 [0,1,12,13] [(0,.slice Aa0 a0.length ca0),(1,.slice Aa1 a1.length ca1),(12,iv (a0.length:Int)),(13,iv 0)]<|Ad 2 [.c [1,1,0,1,0,0],.l [1,1,0,1,0,0],.b 0,.c [1,1,1]]<|Kp [0,1,12,13] [(0,.slice Aa0 a0.length ca0),(1,.slice Aa1 a1.length ca1),(12,iv (a0.length:Int)),(13,iv 0)] ?_
  exact ((smithyardref10_SameReads.l2_c (e1:=smithyardref10_SameReads.e1) (smithyardref10_SameReads.e1_c)) big) a0 _ _ a1 _ _ 0 hra0 hca0 hra1 hca1 heq
noncomputable def C12:Ctx:={ P:=Tryd.prog,f:=12,N:=26,c:=bodyOf Tryd.f12 }
def S12 (F:List Ch) (H0:Hp) (r:Bool) (v:Value) (H:Hp) (cs:List Ch):Prop:=H0=H∧v=.bool r∧F=cs
theorem slices_Equal_TreeChange.e1_c {w0:World} [GlobI 0 w0] {H:Hp} {F:List Ch} {r:Bool}:slices_Equal_TreeChange.e1=some r→RunH C12 (S12 F H r) H w0 [.c [1,1,1,0],.c [1,1,1,1]] [] H (F):=by
 intro   heq
 unfold slices_Equal_TreeChange.e1 at heq
 refine Rr<|Rd 1 [4] [(4,.bool true)] ?_
 obtain rfl:=Option.some.inj heq
 exact RunH.done (by kernel_rfl) Tryd.func12 (v:=.bool true) (by kernel_rfl) ⟨rfl,rfl,rfl⟩
theorem slices_Equal_TreeChange.l2_c {w0:World} [GlobI 0 w0] {H:Hp} {F:List Ch} {r:Bool} (e1:Option Bool)
  (he1:e1=some r→RunH C12 (S12 F H r) H w0 [.c [1,1,1,0],.c [1,1,1,1]] [] H (F)):∀ (k:Nat),∀ (a0:List TreeChange) (Aa0:Option Addr) (ca0:Nat) (a1:List TreeChange) (Aa1:Option Addr) (ca1:Nat) (v13:Int) ,Rw kTreeChange H F Aa0 a0→a0.length≤ca0→Rw kTreeChange H F Aa1 a1→a1.length≤ca1→slices_Equal_TreeChange.l2 e1 k a0 a1 v13=some r→RunH C12 (S12 F H r) H w0 [.c [1,1,0,1,0,0],.l [1,1,0,1,0,0],.b 0,.c [1,1,1]] [(0,.slice Aa0 a0.length ca0),(1,.slice Aa1 a1.length ca1),(12,iv (a0.length:Int)),(13,iv v13)] H (F):=by
 intro k
 induction k with
 | zero=>intro a0 Aa0 ca0 a1 Aa1 ca1 v13 hra0 hca0 hra1 hca1 heq; exact nomatch (show (none:Option Bool)=some r from heq)
 | succ k ihk =>
  intro a0 Aa0 ca0 a1 Aa1 ca1 v13 hra0 hca0 hra1 hca1 heq
  rw [slices_Equal_TreeChange.l2] at heq
  refine Ra 1 [1,1,0,1,0,0,0] [.c [1,1,0,1,0,0,1],.l [1,1,0,1,0,0],.b 0,.c [1,1,1]]<|Rd 1 [0,1,12,13,14] [(0,.slice Aa0 a0.length ca0),(1,.slice Aa1 a1.length ca1),(12,iv (a0.length:Int)),(13,iv v13),(14,.bool (decide (v13<(a0.length:Int))))]<|Ad 1 [.c [1,1,0,1,0,0,1,0],.c [1,1,0,1,0,0,1,1],.l [1,1,0,1,0,0],.b 0,.c [1,1,1]] ?_
  rcases bool_cases (decide (v13<(a0.length:Int))) with hb2 | hb2
  ·replace heq:=bif_true hb2 heq
   refine Ct (decide (v13<(a0.length:Int))) hb2<|Ra 4 [1,1,0,1,0,0,1,1,0,0,0] [.c [1,1,0,1,0,0,1,1,0,0,1],.b 1,.c [1,1,0,1,0,0,1,1,1],.l [1,1,0,1,0,0],.b 0,.c [1,1,1]]<|Rd 2 [0,1,5,12,13] [(0,.slice Aa0 a0.length ca0),(1,.slice Aa1 a1.length ca1),(5,iv v13),(12,iv (a0.length:Int)),(13,iv v13)]<|Ad 1 [.c [1,1,0,1,0,0,1,1,0,0,1,0],.c [1,1,0,1,0,0,1,1,0,0,1,1],.b 1,.c [1,1,0,1,0,0,1,1,1],.l [1,1,0,1,0,0],.b 0,.c [1,1,1]]<|Kp [0,1,5,12,13] [(0,.slice Aa0 a0.length ca0),(1,.slice Aa1 a1.length ca1),(5,iv v13),(12,iv (a0.length:Int)),(13,iv v13)] ?_
   refine RunH.draw (fun w=>Heap H w0 w (F)) (fun w=>Heap H w0 w (F)) [3,3,3,3,3,3,3,3,3] (n:=9) (ls:=[false,false,false,false,false,false,false,false,false]) (by kernel_rfl) (by kernel_rfl) (by kernel_rfl) rfl ?_
   obtain ⟨x1,hx1,heq⟩:=bind_some heq
   obtain ⟨ha1,cs1,hK1,hcc1⟩:=hra0.get hx1
   obtain ⟨rfl⟩:=kTreeChange_open hK1
   obtain ⟨x2,hx2,heq⟩:=bind_some heq
   obtain ⟨ha2,cs2,hK2,hcc2⟩:=hra1.get hx2
   obtain ⟨rfl⟩:=kTreeChange_open hK2
   refine Dk [0,1,2,3,4,5,6,7,8] 0 (nb 9 511) [.string x1.Path,iv x1.Kind,.string x2.Path,iv x2.Kind] [.need (Aa0=some (adr Aa0)∧(0:Int)≤v13∧v13<((a0.length:Nat):Int)),.load (((adr Aa0).add (v13.toNat*2)).add 0) (.string x1.Path),.load (((adr Aa0).add (v13.toNat*2)).add 1) (iv x1.Kind),.need (Aa1=some (adr Aa1)∧(0:Int)≤v13∧v13<((a1.length:Nat):Int)),.load (((adr Aa1).add (v13.toNat*2)).add 0) (.string x2.Path),.load (((adr Aa1).add (v13.toNat*2)).add 1) (iv x2.Kind)] [0,1,12,13,24] [(0,.slice Aa0 a0.length ca0),(1,.slice Aa1 a1.length ca1),(12,iv (a0.length:Int)),(13,iv v13),(24,.bool (!(sEq x1.Path x2.Path&&(x1.Kind == x2.Kind&&true))))] (Pk 0 []) (Pk 0 []) (fun w hh=>⟨⟨ha1,(at?_some hx1).1,(at?_some hx1).2.1⟩,(hcc1 _ _ (hh.drop 0) 0 _ rfl),(hcc1 _ _ (hh.drop 0) 1 _ rfl),⟨ha2,(at?_some hx2).1,(at?_some hx2).2.1⟩,(hcc2 _ _ (hh.drop 0) 0 _ rfl),(hcc2 _ _ (hh.drop 0) 1 _ rfl)⟩) ?_
   refine DrH.done (by kernel_rfl) ?_
   rcases bool_cases (!(sEq x1.Path x2.Path&&(x1.Kind == x2.Kind&&true))) with hb3 | hb3
   ·replace heq:=bif_true hb3 heq
    refine Ct (!(sEq x1.Path x2.Path&&(x1.Kind == x2.Kind&&true))) hb3<|Ra 1 [1,1,0,1,0,0,1,1,0,0,1,1,0,0] [.c [1,1,0,1,0,0,1,1,0,0,1,1,0,1],.b 1,.c [1,1,0,1,0,0,1,1,1],.l [1,1,0,1,0,0],.b 0,.c [1,1,1]]<|Rd 1 [4] [(4,.bool false)] ?_
    obtain rfl:=Option.some.inj heq
    exact RunH.done (by kernel_rfl) Tryd.func12 (v:=.bool false) (by kernel_rfl) ⟨rfl,rfl,rfl⟩
   ·replace heq:=bif_false hb3 heq
    refine Cf (!(sEq x1.Path x2.Path&&(x1.Kind == x2.Kind&&true))) hb3<|Ra 2 [1,1,0,1,0,0,1,1,1] [.l [1,1,0,1,0,0],.b 0,.c [1,1,1]]<|Rd 2 [0,1,12,13] [(0,.slice Aa0 a0.length ca0),(1,.slice Aa1 a1.length ca1),(12,iv (a0.length:Int)),(13,iv (w64 (v13+1)))]<|Ad 1 [.c [1,1,0,1,0,0],.l [1,1,0,1,0,0],.b 0,.c [1,1,1]]<|Kp [0,1,12,13] [(0,.slice Aa0 a0.length ca0),(1,.slice Aa1 a1.length ca1),(12,iv (a0.length:Int)),(13,iv (w64 (v13+1)))] ?_
    exact ihk a0 _ _ a1 _ _ (w64 (v13+1)) hra0 hca0 hra1 hca1 heq
  ·replace heq:=bif_false hb2 heq
   refine Cf (decide (v13<(a0.length:Int))) hb2<|Ad 2 [.c [1,1,1,0],.c [1,1,1,1]]<|Kp [] [] ?_
   exact he1 heq
theorem slices_Equal_TreeChange_c {w0:World} [GlobI 0 w0] {H:Hp} {F:List Ch} {a0:List TreeChange} {Aa0:Option Addr} {na0:Nat} {ca0:Nat} {a1:List TreeChange} {Aa1:Option Addr} {na1:Nat} {ca1:Nat} {r:Bool} (hra0:Rw kTreeChange H F Aa0 a0) (hca0:na0≤ca0) (hna0:na0=a0.length) (hra1:Rw kTreeChange H F Aa1 a1) (hca1:na1≤ca1) (hna1:na1=a1.length) (heq:slices_Equal_TreeChange.f a0 a1=some r):CallsH Tryd.prog 12 #[.slice Aa0 na0 ca0,.slice Aa1 na1 ca1] H w0 (F) (S12 F H r):=by
 refine calls_of_runH (F:=C12) Tryd.func12 (by kernel_rfl) Tryd.ntmps12 (args:=[.slice Aa0 na0 ca0,.slice Aa1 na1 ca1]) (by kernel_rfl) ?_
 subst hna0
 subst hna1
 unfold slices_Equal_TreeChange.f at heq
 refine Ra 1 [0] [.c [1]]<|Rd 1 [0,1] [(0,.slice Aa0 a0.length ca0),(1,.slice Aa1 a1.length ca1)]<|Ra 2 [1,0,0] [.c [1,0,1],.c [1,1]]<|Rd 5 [0,1,10] [(0,.slice Aa0 a0.length ca0),(1,.slice Aa1 a1.length ca1),(10,.bool ((a0.length:Int) != (a1.length:Int)))] ?_
 rcases bool_cases ((a0.length:Int) != (a1.length:Int)) with hb1 | hb1
 ·replace heq:=bif_true hb1 heq
  refine Ct ((a0.length:Int) != (a1.length:Int)) hb1<|Ra 1 [1,0,1,0,0] [.c [1,0,1,0,1],.c [1,1]]<|Rd 1 [4] [(4,.bool false)] ?_
  obtain rfl:=Option.some.inj heq
  exact RunH.done (by kernel_rfl) Tryd.func12 (v:=.bool false) (by kernel_rfl) ⟨rfl,rfl,rfl⟩
 ·replace heq:=bif_false hb1 heq
  refine Cf ((a0.length:Int) != (a1.length:Int)) hb1<|Ra 3 [1,1,0,0] [.c [1,1,0,1],.c [1,1,1]]<|Rd 3 [0,1,12,13] [(0,.slice Aa0 a0.length ca0),(1,.slice Aa1 a1.length ca1),(12,iv (a0.length:Int)),(13,iv 0)]<|Ad 2 [.c [1,1,0,1,0,0],.l [1,1,0,1,0,0],.b 0,.c [1,1,1]]<|Kp [0,1,12,13] [(0,.slice Aa0 a0.length ca0),(1,.slice Aa1 a1.length ca1),(12,iv (a0.length:Int)),(13,iv 0)] ?_
  exact ((slices_Equal_TreeChange.l2_c (e1:=slices_Equal_TreeChange.e1) (slices_Equal_TreeChange.e1_c)) big) a0 _ _ a1 _ _ 0 hra0 hca0 hra1 hca1 heq
noncomputable def C27:Ctx:={ P:=Tryd.prog,f:=27,N:=64,c:=bodyOf Tryd.f27 }
def S27 (F:List Ch) (H0:Hp) (r:Int × Int × Int) (v:Value) (H:Hp) (cs:List Ch):Prop:=H0=H∧v=.tuple #[iv r.1,iv r.2.1,iv r.2.2]∧F=cs
theorem trials_Tried.e1_c {w0:World} [GlobI 0 w0] {H:Hp} {F:List Ch} {r:Int × Int × Int}:∀ (a0:Int) ,trials_Tried.e1 a0=some r→RunH C27 (S27 F H r) H w0 [.c [1,1,1,1,1,0],.c [1,1,1,1,1,1]] [(0,iv a0)] H (F):=by
 intro a0  heq
 unfold trials_Tried.e1 at heq
 refine Rr<|Rd 4 [6,7,8] [(6,iv 3),(7,iv a0),(8,iv 0)] ?_
 obtain rfl:=Option.some.inj heq
 exact RunH.done (by kernel_rfl) Tryd.func27 (v:=.tuple #[iv 3,iv a0,iv 0]) (by kernel_rfl) ⟨rfl,rfl,rfl⟩
theorem trials_Tried.j3_c {w0:World} [GlobI 0 w0] {H:Hp} {F:List Ch} {r:Int × Int × Int} (backl2:Int→Int→(List Bool)→Int→Int→Option (Int × Int × Int))
  (hbackl2:∀ (a0:Int) (a1:Int) (a2:List Bool) (Aa2:Option Addr) (ca2:Nat) (v_passed9:Int) (v28:Int) ,Rw Kd.bool H F Aa2 a2→a2.length≤ca2→backl2 a0 a1 a2 v_passed9 v28=some r→RunH C27 (S27 F H r) H w0 [.c [1,1,1,1,0,1,0,0],.l [1,1,1,1,0,1,0,0],.b 0,.c [1,1,1,1,1]] [(0,iv a0),(1,iv a1),(9,iv v_passed9),(26,.slice Aa2 a2.length ca2),(27,iv (a2.length:Int)),(28,iv v28)] H (F)):∀ (a0:Int) (a1:Int) (a2:List Bool) (Aa2:Option Addr) (ca2:Nat) (v28:Int) (v_passed9:Int) ,Rw Kd.bool H F Aa2 a2→a2.length≤ca2→trials_Tried.j3 backl2 a0 a1 a2 v28 v_passed9=some r→RunH C27 (S27 F H r) H w0 [.c [1,1,1,1,0,1,0,0,1,1,0,0,1,1,0],.c [1,1,1,1,0,1,0,0,1,1,0,0,1,1,1],.b 1,.c [1,1,1,1,0,1,0,0,1,1,1],.l [1,1,1,1,0,1,0,0],.b 0,.c [1,1,1,1,1]] [(0,iv a0),(1,iv a1),(9,iv v_passed9),(10,iv v28),(26,.slice Aa2 a2.length ca2),(27,iv (a2.length:Int)),(28,iv v28)] H (F):=by
 intro a0 a1 a2 Aa2 ca2 v28 v_passed9 hra2 hca2 heq
 unfold trials_Tried.j3 at heq
 refine Rr<|Rd 3 [0,1,9,12,26,27,28] [(0,iv a0),(1,iv a1),(9,iv v_passed9),(12,iv (w64 (v28+1))),(26,.slice Aa2 a2.length ca2),(27,iv (a2.length:Int)),(28,iv v28)]<|Ad 2 [.c [1,1,1,1,0,1,0,0,1,1,0,0,1,1,1,0,0],.c [1,1,1,1,0,1,0,0,1,1,0,0,1,1,1,0,1],.b 2,.b 1,.c [1,1,1,1,0,1,0,0,1,1,1],.l [1,1,1,1,0,1,0,0],.b 0,.c [1,1,1,1,1]] ?_
 obtain ⟨t2,ht2,heq⟩:=bind_some heq
 have K2:RunH C27 (S27 F H r) H w0 [.c [1,1,1,1,0,1,0,0,1,1,0,0,1,1,1,0,1],.b 2,.b 1,.c [1,1,1,1,0,1,0,0,1,1,1],.l [1,1,1,1,0,1,0,0],.b 0,.c [1,1,1,1,1]] [(0,iv a0),(1,iv a1),(9,iv v_passed9),(12,iv (w64 (v28+1))),(26,.slice Aa2 a2.length ca2),(27,iv (a2.length:Int)),(28,iv v28),(38,.bool t2)] H (F):=by
  rcases bool_cases (t2) with hb6 | hb6
  ·replace heq:=bif_true hb6 heq
   refine Ct t2 hb6<|Ra 1 [1,1,1,1,0,1,0,0,1,1,0,0,1,1,1,0,1,0,0] [.c [1,1,1,1,0,1,0,0,1,1,0,0,1,1,1,0,1,0,1],.b 2,.b 1,.c [1,1,1,1,0,1,0,0,1,1,1],.l [1,1,1,1,0,1,0,0],.b 0,.c [1,1,1,1,1]]<|Rd 4 [6,7,8] [(6,iv 2),(7,iv (w64 (v28+1))),(8,iv 0)] ?_
   obtain rfl:=Option.some.inj heq
   exact RunH.done (by kernel_rfl) Tryd.func27 (v:=.tuple #[iv 2,iv (w64 (v28+1)),iv 0]) (by kernel_rfl) ⟨rfl,rfl,rfl⟩
  ·replace heq:=bif_false hb6 heq
   refine Cf t2 hb6<|Ra 1 [1,1,1,1,0,1,0,0,1,1,0,0,1,1,1,0,1,1,0] [.c [1,1,1,1,0,1,0,0,1,1,0,0,1,1,1,0,1,1,1],.b 2,.b 1,.c [1,1,1,1,0,1,0,0,1,1,1],.l [1,1,1,1,0,1,0,0],.b 0,.c [1,1,1,1,1]]<|Rd 4 [0,1,9,12,26,27,28,48] [(0,iv a0),(1,iv a1),(9,iv v_passed9),(12,iv (w64 (v28+1))),(26,.slice Aa2 a2.length ca2),(27,iv (a2.length:Int)),(28,iv v28),(48,.bool (v_passed9 == a1))] ?_
   rcases bool_cases (v_passed9 == a1) with hb7 | hb7
   ·replace heq:=bif_true hb7 heq
    refine Ct (v_passed9 == a1) hb7<|Ra 1 [1,1,1,1,0,1,0,0,1,1,0,0,1,1,1,0,1,1,1,0,0] [.c [1,1,1,1,0,1,0,0,1,1,0,0,1,1,1,0,1,1,1,0,1],.b 2,.b 1,.c [1,1,1,1,0,1,0,0,1,1,1],.l [1,1,1,1,0,1,0,0],.b 0,.c [1,1,1,1,1]]<|Rd 4 [6,7,8] [(6,iv 4),(7,iv (w64 (v28+1))),(8,iv 0)] ?_
    obtain rfl:=Option.some.inj heq
    exact RunH.done (by kernel_rfl) Tryd.func27 (v:=.tuple #[iv 4,iv (w64 (v28+1)),iv 0]) (by kernel_rfl) ⟨rfl,rfl,rfl⟩
   ·replace heq:=bif_false hb7 heq
    refine Cf (v_passed9 == a1) hb7<|Ra 1 [1,1,1,1,0,1,0,0,1,1,0,0,1,1,1,0,1,1,1,1,0] [.c [1,1,1,1,0,1,0,0,1,1,0,0,1,1,1,0,1,1,1,1,1],.b 2,.b 1,.c [1,1,1,1,0,1,0,0,1,1,1],.l [1,1,1,1,0,1,0,0],.b 0,.c [1,1,1,1,1]]<|Rd 8 [0,1,9,12,26,27,28,53] [(0,iv a0),(1,iv a1),(9,iv v_passed9),(12,iv (w64 (v28+1))),(26,.slice Aa2 a2.length ca2),(27,iv (a2.length:Int)),(28,iv v28),(53,.bool (decide ((w64 ((w64 (v_passed9+a0)) - (w64 (v28+1))))<a1)))] ?_
    rcases bool_cases (decide ((w64 ((w64 (v_passed9+a0)) - (w64 (v28+1))))<a1)) with hb8 | hb8
    ·replace heq:=bif_true hb8 heq
     refine Ct (decide ((w64 ((w64 (v_passed9+a0)) - (w64 (v28+1))))<a1)) hb8<|Ra 1 [1,1,1,1,0,1,0,0,1,1,0,0,1,1,1,0,1,1,1,1,1,0,0] [.c [1,1,1,1,0,1,0,0,1,1,0,0,1,1,1,0,1,1,1,1,1,0,1],.b 2,.b 1,.c [1,1,1,1,0,1,0,0,1,1,1],.l [1,1,1,1,0,1,0,0],.b 0,.c [1,1,1,1,1]]<|Rd 4 [6,7,8] [(6,iv 3),(7,iv (w64 (v28+1))),(8,iv 0)] ?_
     obtain rfl:=Option.some.inj heq
     exact RunH.done (by kernel_rfl) Tryd.func27 (v:=.tuple #[iv 3,iv (w64 (v28+1)),iv 0]) (by kernel_rfl) ⟨rfl,rfl,rfl⟩
    ·replace heq:=bif_false hb8 heq
     refine Cf (decide ((w64 ((w64 (v_passed9+a0)) - (w64 (v28+1))))<a1)) hb8<|Ra 3 [1,1,1,1,0,1,0,0,1,1,1] [.l [1,1,1,1,0,1,0,0],.b 0,.c [1,1,1,1,1]]<|Rd 2 [0,1,9,26,27,28] [(0,iv a0),(1,iv a1),(9,iv v_passed9),(26,.slice Aa2 a2.length ca2),(27,iv (a2.length:Int)),(28,iv (w64 (v28+1)))]<|Ad 1 [.c [1,1,1,1,0,1,0,0],.l [1,1,1,1,0,1,0,0],.b 0,.c [1,1,1,1,1]]<|Kp [0,1,9,26,27,28] [(0,iv a0),(1,iv a1),(9,iv v_passed9),(26,.slice Aa2 a2.length ca2),(27,iv (a2.length:Int)),(28,iv (w64 (v28+1)))] ?_
     exact hbackl2 a0 a1 a2 _ _ v_passed9 (w64 (v28+1)) hra2 hca2 heq
 replace heq:=ht2
 refine Rr<|Rk 4 [42,0,1,9,12,26,27,28] [(42,.bool (v_passed9 == a1)),(0,iv a0),(1,iv a1),(9,iv v_passed9),(12,iv (w64 (v28+1))),(26,.slice Aa2 a2.length ca2),(27,iv (a2.length:Int)),(28,iv v28)] ?_
 rcases bool_cases (v_passed9 == a1) with hb5 | hb5
 ·replace heq:=bif_true hb5 heq
  refine RgH.val1 (v':=.bool true) (congrArg Value.bool hb5) ?_
  refine Rk 9 [0,1,9,12,26,27,28,38] [(0,iv a0),(1,iv a1),(9,iv v_passed9),(12,iv (w64 (v28+1))),(26,.slice Aa2 a2.length ca2),(27,iv (a2.length:Int)),(28,iv v28),(38,.bool ((w64 (v28+1)) == a1))] ?_
  obtain rfl:=Option.some.inj heq
  refine Kg [0,1,9,12,26,27,28,38] [(0,iv a0),(1,iv a1),(9,iv v_passed9),(12,iv (w64 (v28+1))),(26,.slice Aa2 a2.length ca2),(27,iv (a2.length:Int)),(28,iv v28),(38,.bool ((w64 (v28+1)) == a1))]<|Dn ?_
  exact K2
 ·replace heq:=bif_false hb5 heq
  refine RgH.val1 (v':=.bool false) (congrArg Value.bool hb5) ?_
  refine Rk 9 [0,1,9,12,26,27,28,38] [(0,iv a0),(1,iv a1),(9,iv v_passed9),(12,iv (w64 (v28+1))),(26,.slice Aa2 a2.length ca2),(27,iv (a2.length:Int)),(28,iv v28),(38,.bool false)] ?_
  obtain rfl:=Option.some.inj heq
  refine Kg [0,1,9,12,26,27,28,38] [(0,iv a0),(1,iv a1),(9,iv v_passed9),(12,iv (w64 (v28+1))),(26,.slice Aa2 a2.length ca2),(27,iv (a2.length:Int)),(28,iv v28),(38,.bool false)]<|Dn ?_
  exact K2
theorem trials_Tried.l2_c {w0:World} [GlobI 0 w0] {H:Hp} {F:List Ch} {r:Int × Int × Int} (e1:Int→Option (Int × Int × Int))
  (he1:∀ (a0:Int) ,e1 a0=some r→RunH C27 (S27 F H r) H w0 [.c [1,1,1,1,1,0],.c [1,1,1,1,1,1]] [(0,iv a0)] H (F)):∀ (k:Nat),∀ (a0:Int) (a1:Int) (a2:List Bool) (Aa2:Option Addr) (ca2:Nat) (v_passed9:Int) (v28:Int) ,Rw Kd.bool H F Aa2 a2→a2.length≤ca2→trials_Tried.l2 e1 k a0 a1 a2 v_passed9 v28=some r→RunH C27 (S27 F H r) H w0 [.c [1,1,1,1,0,1,0,0],.l [1,1,1,1,0,1,0,0],.b 0,.c [1,1,1,1,1]] [(0,iv a0),(1,iv a1),(9,iv v_passed9),(26,.slice Aa2 a2.length ca2),(27,iv (a2.length:Int)),(28,iv v28)] H (F):=by
 intro k
 induction k with
 | zero=>intro a0 a1 a2 Aa2 ca2 v_passed9 v28 hra2 hca2 heq; exact nomatch (show (none:Option (Int × Int × Int))=some r from heq)
 | succ k ihk =>
  intro a0 a1 a2 Aa2 ca2 v_passed9 v28 hra2 hca2 heq
  rw [trials_Tried.l2] at heq
  refine Ra 1 [1,1,1,1,0,1,0,0,0] [.c [1,1,1,1,0,1,0,0,1],.l [1,1,1,1,0,1,0,0],.b 0,.c [1,1,1,1,1]]<|Rd 1 [0,1,9,26,27,28,29] [(0,iv a0),(1,iv a1),(9,iv v_passed9),(26,.slice Aa2 a2.length ca2),(27,iv (a2.length:Int)),(28,iv v28),(29,.bool (decide (v28<(a2.length:Int))))]<|Ad 1 [.c [1,1,1,1,0,1,0,0,1,0],.c [1,1,1,1,0,1,0,0,1,1],.l [1,1,1,1,0,1,0,0],.b 0,.c [1,1,1,1,1]] ?_
  rcases bool_cases (decide (v28<(a2.length:Int))) with hb4 | hb4
  ·replace heq:=bif_true hb4 heq
   refine Ct (decide (v28<(a2.length:Int))) hb4<|Ra 4 [1,1,1,1,0,1,0,0,1,1,0,0,0] [.c [1,1,1,1,0,1,0,0,1,1,0,0,1],.b 1,.c [1,1,1,1,0,1,0,0,1,1,1],.l [1,1,1,1,0,1,0,0],.b 0,.c [1,1,1,1,1]] ?_
   obtain ⟨x1,hx1,heq⟩:=bind_some heq
   obtain ⟨ha1,cs1,hK1,hcc1⟩:=hra2.get hx1
   obtain rfl:cs1=[.bool x1]:=hK1
   refine Rw' 5 [0,1,9,10,11,26,27,28] [.bool x1] [.need (Aa2=some (adr Aa2)∧(0:Int)≤v28∧v28<((a2.length:Nat):Int)),.load ((adr Aa2).add (v28.toNat*1)) (.bool x1)] [(0,iv a0),(1,iv a1),(9,iv v_passed9),(10,iv v28),(11,.bool x1),(26,.slice Aa2 a2.length ca2),(27,iv (a2.length:Int)),(28,iv v28)] (fun w hh=>⟨⟨ha1,(at?_some hx1).1,(at?_some hx1).2.1⟩,(hcc1 _ _ (hh.drop 0) 0 _ rfl)⟩)<|Ra 2 [1,1,1,1,0,1,0,0,1,1,0,0,1,0,0] [.c [1,1,1,1,0,1,0,0,1,1,0,0,1,0,1],.c [1,1,1,1,0,1,0,0,1,1,0,0,1,1],.b 1,.c [1,1,1,1,0,1,0,0,1,1,1],.l [1,1,1,1,0,1,0,0],.b 0,.c [1,1,1,1,1]]<|Rd 1 [0,1,9,10,26,27,28,33] [(0,iv a0),(1,iv a1),(9,iv v_passed9),(10,iv v28),(26,.slice Aa2 a2.length ca2),(27,iv (a2.length:Int)),(28,iv v28),(33,.bool x1)] ?_
   rcases bool_cases (x1) with hb9 | hb9
   ·replace heq:=bif_true hb9 heq
    refine Ct x1 hb9<|Rr<|Rd 3 [0,1,9,10,26,27,28] [(0,iv a0),(1,iv a1),(9,iv (w64 (v_passed9+1))),(10,iv v28),(26,.slice Aa2 a2.length ca2),(27,iv (a2.length:Int)),(28,iv v28)]<|Ad 1 [.c [1,1,1,1,0,1,0,0,1,1,0,0,1,1,0],.c [1,1,1,1,0,1,0,0,1,1,0,0,1,1,1],.b 1,.c [1,1,1,1,0,1,0,0,1,1,1],.l [1,1,1,1,0,1,0,0],.b 0,.c [1,1,1,1,1]]<|Kp [0,1,9,10,26,27,28] [(0,iv a0),(1,iv a1),(9,iv (w64 (v_passed9+1))),(10,iv v28),(26,.slice Aa2 a2.length ca2),(27,iv (a2.length:Int)),(28,iv v28)] ?_
    exact (trials_Tried.j3_c (backl2:=(trials_Tried.l2 e1 k)) ihk) a0 a1 a2 _ _ v28 (w64 (v_passed9+1)) hra2 hca2 heq
   ·replace heq:=bif_false hb9 heq
    refine Cf x1 hb9<|Ad 2 [.c [1,1,1,1,0,1,0,0,1,1,0,0,1,1,0],.c [1,1,1,1,0,1,0,0,1,1,0,0,1,1,1],.b 1,.c [1,1,1,1,0,1,0,0,1,1,1],.l [1,1,1,1,0,1,0,0],.b 0,.c [1,1,1,1,1]]<|Kp [0,1,9,10,26,27,28] [(0,iv a0),(1,iv a1),(9,iv v_passed9),(10,iv v28),(26,.slice Aa2 a2.length ca2),(27,iv (a2.length:Int)),(28,iv v28)] ?_
    exact (trials_Tried.j3_c (backl2:=(trials_Tried.l2 e1 k)) ihk) a0 a1 a2 _ _ v28 v_passed9 hra2 hca2 heq
  ·replace heq:=bif_false hb4 heq
   refine Cf (decide (v28<(a2.length:Int))) hb4<|Ad 2 [.c [1,1,1,1,1,0],.c [1,1,1,1,1,1]]<|Kp [0] [(0,iv a0)] ?_
   exact he1 a0 heq
theorem trials_Tried_c {w0:World} [GlobI 0 w0] {H:Hp} {F:List Ch} {a0:Int} {a1:Int} {a2:List Bool} {Aa2:Option Addr} {na2:Nat} {ca2:Nat} {r:Int × Int × Int} (hra2:Rw Kd.bool H F Aa2 a2) (hca2:na2≤ca2) (hna2:na2=a2.length) (heq:trials_Tried.f a0 a1 a2=some r):CallsH Tryd.prog 27 #[iv a0,iv a1,.slice Aa2 na2 ca2] H w0 (F) (S27 F H r):=by
 refine calls_of_runH (F:=C27) Tryd.func27 (by kernel_rfl) Tryd.ntmps27 (args:=[iv a0,iv a1,.slice Aa2 na2 ca2]) (by kernel_rfl) ?_
 subst hna2
 unfold trials_Tried.f at heq
 refine Ra 1 [0] [.c [1]]<|Rd 3 [0,1,2] [(0,iv a0),(1,iv a1),(2,.slice Aa2 a2.length ca2)]<|Ad 2 [.c [1,0,0],.c [1,0,1],.c [1,1]] ?_
 obtain ⟨t1,ht1,heq⟩:=bind_some heq
 have K1:RunH C27 (S27 F H r) H w0 [.c [1,0,1],.c [1,1]] [(0,iv a0),(1,iv a1),(2,.slice Aa2 a2.length ca2),(21,.bool t1)] H (F):=by
  rcases bool_cases (t1) with hb2 | hb2
  ·replace heq:=bif_true hb2 heq
   refine Ct t1 hb2<|Ra 1 [1,0,1,0,0] [.c [1,0,1,0,1],.c [1,1]]<|Rd 3 [6,7,8] [(6,iv 0),(7,iv 0),(8,iv 1)] ?_
   obtain rfl:=Option.some.inj heq
   exact RunH.done (by kernel_rfl) Tryd.func27 (v:=.tuple #[iv 0,iv 0,iv 1]) (by kernel_rfl) ⟨rfl,rfl,rfl⟩
  ·replace heq:=bif_false hb2 heq
   refine Cf t1 hb2<|Ra 3 [1,1,0,0] [.c [1,1,0,1],.c [1,1,1]]<|Rd 4 [0,1,2,25] [(0,iv a0),(1,iv a1),(2,.slice Aa2 a2.length ca2),(25,.bool ((a2.length:Int) != a0))] ?_
   rcases bool_cases ((a2.length:Int) != a0) with hb3 | hb3
   ·replace heq:=bif_true hb3 heq
    refine Ct ((a2.length:Int) != a0) hb3<|Ra 1 [1,1,0,1,0,0] [.c [1,1,0,1,0,1],.c [1,1,1]]<|Rd 3 [6,7,8] [(6,iv 0),(7,iv 0),(8,iv 3)] ?_
    obtain rfl:=Option.some.inj heq
    exact RunH.done (by kernel_rfl) Tryd.func27 (v:=.tuple #[iv 0,iv 0,iv 3]) (by kernel_rfl) ⟨rfl,rfl,rfl⟩
   ·replace heq:=bif_false hb3 heq
    refine Cf ((a2.length:Int) != a0) hb3<|Ra 2 [1,1,1,0] [.c [1,1,1,1]]<|Rd 1 [0,1,2,9] [(0,iv a0),(1,iv a1),(2,.slice Aa2 a2.length ca2),(9,iv 0)]<|Ra 2 [1,1,1,1,0,0] [.c [1,1,1,1,0,1],.c [1,1,1,1,1]]<|Rd 3 [0,1,9,26,27,28] [(0,iv a0),(1,iv a1),(9,iv 0),(26,.slice Aa2 a2.length ca2),(27,iv (a2.length:Int)),(28,iv 0)]<|Ad 2 [.c [1,1,1,1,0,1,0,0],.l [1,1,1,1,0,1,0,0],.b 0,.c [1,1,1,1,1]]<|Kp [0,1,9,26,27,28] [(0,iv a0),(1,iv a1),(9,iv 0),(26,.slice Aa2 a2.length ca2),(27,iv (a2.length:Int)),(28,iv 0)] ?_
    exact ((trials_Tried.l2_c (e1:=trials_Tried.e1) (trials_Tried.e1_c)) big) a0 a1 a2 _ _ 0 0 hra2 hca2 heq
 replace heq:=ht1
 refine Rr<|Rk 1 [0,1,2,13] [(0,iv a0),(1,iv a1),(2,.slice Aa2 a2.length ca2),(13,iv a0)] ?_
 obtain ⟨y1,hy1,heq⟩:=bind_some heq
 refine RgH.does (DoesH.call (d:=14) (g:=28) (args:=#[iv a0,iv 1,iv 100]) (by kernel_rfl) (trials_within_c (a0:=a0) (a1:=1) (a2:=100)  hy1)) ?_
 rintro _ _ _ _ ⟨_,rfl,rfl,rfl,rfl⟩
 refine Rk 4 [16,0,1,2] [(16,.bool (!y1)),(0,iv a0),(1,iv a1),(2,.slice Aa2 a2.length ca2)] ?_
 rcases bool_cases (!y1) with hb1 | hb1
 ·replace heq:=bif_true hb1 heq
  refine RgH.val1 (v':=.bool true) (congrArg Value.bool hb1) ?_
  refine Rk 9 [0,1,2,21] [(0,iv a0),(1,iv a1),(2,.slice Aa2 a2.length ca2),(21,.bool true)] ?_
  obtain rfl:=Option.some.inj heq
  refine Kg [0,1,2,21] [(0,iv a0),(1,iv a1),(2,.slice Aa2 a2.length ca2),(21,.bool true)]<|Dn ?_
  exact K1
 ·replace heq:=bif_false hb1 heq
  refine RgH.val1 (v':=.bool false) (congrArg Value.bool hb1) ?_
  refine Rk 6 [0,1,2,16,17,18] [(0,iv a0),(1,iv a1),(2,.slice Aa2 a2.length ca2),(16,.bool false),(17,iv a1),(18,iv a0)] ?_
  obtain ⟨y2,hy2,heq⟩:=bind_some heq
  refine RgH.does (DoesH.call (d:=19) (g:=28) (args:=#[iv a1,iv 1,iv a0]) (by kernel_rfl) (trials_within_c (a0:=a1) (a1:=1) (a2:=a0)  hy2)) ?_
  rintro _ _ _ _ ⟨_,rfl,rfl,rfl,rfl⟩
  refine Rk 9 [0,1,2,21] [(0,iv a0),(1,iv a1),(2,.slice Aa2 a2.length ca2),(21,.bool (!y2))] ?_
  obtain rfl:=Option.some.inj heq
  refine Kg [0,1,2,21] [(0,iv a0),(1,iv a1),(2,.slice Aa2 a2.length ca2),(21,.bool (!y2))]<|Dn ?_
  exact K1
noncomputable def C13:Ctx:={ P:=Tryd.prog,f:=13,N:=20,c:=bodyOf Tryd.f13 }
def S13 (F:List Ch) (H0:Hp) (r:Bool) (v:Value) (H:Hp) (cs:List Ch):Prop:=H0=H∧v=.bool r∧F=cs
theorem smithyardlaw10_awake_c {w0:World} [GlobI 0 w0] {H:Hp} {F:List Ch} {r:Bool} (heq:smithyardlaw10_awake.f=some r):CallsH Tryd.prog 13 (List.toArray []) H w0 (F) (S13 F H r):=by
 refine calls_of_runH (F:=C13) Tryd.func13 (by kernel_rfl) Tryd.ntmps13 (args:=[]) (by kernel_rfl) ?_
 unfold smithyardlaw10_awake.f at heq
 refine Ra 1 [0] [.c [1]]<|Rd 1 [] []<|Ra 1 [1,0] [.c [1,1]] ?_
 refine RgH.does (DoesH.new (d:=5) (v:=fun g=>.slice (some ⟨g,0,none⟩) 3 3) (o:=fun g=>.cells #[.bool false,.bool true,.bool true] 4 (0,0)) (fun g=>by kernel_rfl)) ?_
 rintro _ _ _ _ ⟨g1,rfl,rfl,rfl⟩
 have ho1:SlOwn Kd.bool 4 H (some ⟨g1,0,none⟩) 3 ([false,true,true]:List Bool) (some (g1,.cells #[.bool false,.bool true,.bool true] 4 (0,0))):=SlOwn.lit (xs:=([false,true,true]:List Bool)) (by kernel_rfl) (Nat.le_of_ble_eq_true (by kernel_rfl)) (Kd.Rep.scalars rfl)
 obtain ⟨y1,hy1,heq⟩:=bind_some heq
 refine RgH.does (DoesH.call (d:=6) (g:=27) (args:=#[iv 3,iv 1,.slice (some ⟨g1,0,none⟩) 3 3]) (by kernel_rfl) (trials_Tried_c (a0:=3) (a1:=1) (a2:=([false,true,true]:List Bool)) (ho1.rw (.head _)) ho1.cap rfl hy1)) ?_
 rintro _ _ _ _ ⟨_,rfl,rfl,rfl,rfl⟩
 refine Rd 9 [1,2,3] [(1,iv y1.1),(2,iv y1.2.1),(3,iv y1.2.2)]<|Ad 1 [.c [1,1,0],.c [1,1,1]] ?_
 obtain ⟨t1,ht1,heq⟩:=bind_some heq
 have K2:RunH C13 (S13 F H r) H w0 [.c [1,1,1]] [(0,.bool t1)] H (F):=by
  obtain rfl:=Option.some.inj heq
  exact RunH.done (by kernel_rfl) Tryd.func13 (v:=.bool t1) (by kernel_rfl) ⟨rfl,rfl,rfl⟩
 replace heq:=ht1
 refine Rr<|Rk 3 [12,1,2] [(12,.bool (y1.2.2 == 0)),(1,iv y1.1),(2,iv y1.2.1)] ?_
 rcases bool_cases (y1.2.2 == 0) with hb1 | hb1
 ·replace heq:=bif_true hb1 heq
  refine RgH.val1 (v':=.bool true) (congrArg Value.bool hb1) ?_
  refine Rk 7 [16,2] [(16,.bool (y1.1 == 4)),(2,iv y1.2.1)] ?_
  rcases bool_cases (y1.1 == 4) with hb2 | hb2
  ·replace heq:=bif_true hb2 heq
   refine RgH.val1 (v':=.bool true) (congrArg Value.bool hb2) ?_
   refine Rk 11 [0] [(0,.bool (y1.2.1 == 2))] ?_
   obtain rfl:=Option.some.inj heq
   refine Kg [0] [(0,.bool (y1.2.1 == 2))] ?_
   refine RgH.pick 1 [] (cs':=F) (by kernel_rfl) rfl ?_
   refine Dn ?_
   exact K2
  ·replace heq:=bif_false hb2 heq
   refine RgH.val1 (v':=.bool false) (congrArg Value.bool hb2) ?_
   refine Rk 11 [0] [(0,.bool false)] ?_
   obtain rfl:=Option.some.inj heq
   refine Kg [0] [(0,.bool false)] ?_
   refine RgH.pick 1 [] (cs':=F) (by kernel_rfl) rfl ?_
   refine Dn ?_
   exact K2
 ·replace heq:=bif_false hb1 heq
  refine RgH.val1 (v':=.bool false) (congrArg Value.bool hb1) ?_
  refine Rk 11 [0] [(0,.bool false)] ?_
  obtain rfl:=Option.some.inj heq
  refine Kg [0] [(0,.bool false)] ?_
  refine RgH.pick 1 [] (cs':=F) (by kernel_rfl) rfl ?_
  refine Dn ?_
  exact K2
noncomputable def C3:Ctx:={ P:=Tryd.prog,f:=3,N:=55,c:=bodyOf Tryd.f3 }
def S3 (F:List Ch) (H0:Hp) (r:Bool) (v:Value) (H:Hp) (cs:List Ch):Prop:=v=.bool r∧F=cs
theorem smithyardlaw10_TrialsAffectedMatchesSpec_c {w0:World} [GlobI 0 w0] {H0:Hp} {F:List Ch} {a0:List TestReads} {Aa0:Option Addr} {na0:Nat} {ca0:Nat} {a1:List TreeChange} {Aa1:Option Addr} {na1:Nat} {ca1:Nat} {r:Bool} (hra0:Rw kTestReads H0 F Aa0 a0) (hca0:na0≤ca0) (hna0:na0=a0.length) (hra1:Rw kTreeChange H0 F Aa1 a1) (hca1:na1≤ca1) (hna1:na1=a1.length) (heq:smithyardlaw10_TrialsAffectedMatchesSpec.f a0 a1=some r):CallsH Tryd.prog 3 #[.slice Aa0 na0 ca0,.slice Aa1 na1 ca1] H0 w0 (F) (S3 F H0 r):=by
 refine calls_of_runH (F:=C3) Tryd.func3 (by kernel_rfl) Tryd.ntmps3 (args:=[.slice Aa0 na0 ca0,.slice Aa1 na1 ca1]) (by kernel_rfl) ?_
 subst hna0
 subst hna1
 unfold smithyardlaw10_TrialsAffectedMatchesSpec.f at heq
 suffices key:∀ (H:Hp),Rw kTestReads H F Aa0 a0→Rw kTreeChange H F Aa1 a1→RunH C3 (S3 F H0 r) H0 w0 [.c []] (argL 0 [.slice Aa0 (a0.length) ca0,.slice Aa1 (a1.length) ca1]) H (F) from key H0 hra0 hra1
 intro H hra0 hra1
 refine Ra 1 [0] [.c [1]]<|Rd 1 [0,1] [(0,.slice Aa0 a0.length ca0),(1,.slice Aa1 a1.length ca1)]<|Ra 1 [1,0] [.c [1,1]]<|Rk 1 [0,1,11] [(0,.slice Aa0 a0.length ca0),(1,.slice Aa1 a1.length ca1),(11,.slice Aa0 a0.length ca0)] ?_
 obtain ⟨y1,hy1,heq⟩:=bind_some heq
 refine RgH.does (DoesH.call (d:=12) (g:=4) (args:=#[.slice Aa0 a0.length ca0]) (by kernel_rfl) (smithyardref10_CopyReads_c (a0:=a0) hra0 hca0 rfl hy1)) ?_
 rintro _ H _ hl ⟨_,rfl,A1,c1,ch1,rfl,rfl,ho1⟩
 replace hra0:=hra0.mono hl
 replace hra1:=hra1.mono hl
 refine Rk 3 [0,1,12,13] [(0,.slice Aa0 a0.length ca0),(1,.slice Aa1 a1.length ca1),(12,.slice A1 y1.length c1),(13,.slice Aa1 a1.length ca1)] ?_
 obtain ⟨y2,hy2,heq⟩:=bind_some heq
 refine RgH.does (DoesH.call (d:=14) (g:=5) (args:=#[.slice Aa1 a1.length ca1]) (by kernel_rfl) (slices_Clone_TreeChange_c (a0:=a1) (hra1.wk (fun _ h=>(.tail _ h))) hca1 rfl hy2)) ?_
 rintro _ _ _ _ ⟨_,rfl,A2,c2,ch2,rfl,rfl,rfl,ho2⟩
 refine Rd 6 [0,1,5,6] [(0,.slice Aa0 a0.length ca0),(1,.slice Aa1 a1.length ca1),(5,.slice A1 y1.length c1),(6,.slice A2 y2.length c2)]<|Ra 1 [1,1,0] [.c [1,1,1]]<|Rk 2 [0,1,5,6,16,17] [(0,.slice Aa0 a0.length ca0),(1,.slice Aa1 a1.length ca1),(5,.slice A1 y1.length c1),(6,.slice A2 y2.length c2),(16,.slice Aa0 a0.length ca0),(17,.slice Aa1 a1.length ca1)] ?_
 obtain ⟨y3,hy3,heq⟩:=bind_some heq
 refine RgH.does (DoesH.call (d:=18) (g:=6) (args:=#[.slice Aa0 a0.length ca0,.slice Aa1 a1.length ca1]) (by kernel_rfl) (trials_Affected_c (a0:=a0) (a1:=a1) (hra0.wk (fun _ h=>(.tail _ (.tail _ h)))) hca0 rfl (hra1.wk (fun _ h=>(.tail _ (.tail _ h)))) hca1 rfl hy3)) ?_
 rintro _ _ _ _ ⟨_,rfl,A3,c3,ch3,rfl,rfl,rfl,ho3⟩
 refine Rd 8 [0,1,5,6,7,8] [(0,.slice Aa0 a0.length ca0),(1,.slice Aa1 a1.length ca1),(5,.slice A1 y1.length c1),(6,.slice A2 y2.length c2),(7,.slice A3 y3.1.length c3),(8,iv y3.2)]<|Ra 1 [1,1,1,0] [.c [1,1,1,1]]<|Rk 2 [0,1,5,6,7,8,22,23] [(0,.slice Aa0 a0.length ca0),(1,.slice Aa1 a1.length ca1),(5,.slice A1 y1.length c1),(6,.slice A2 y2.length c2),(7,.slice A3 y3.1.length c3),(8,iv y3.2),(22,.slice A1 y1.length c1),(23,.slice A2 y2.length c2)] ?_
 obtain ⟨y4,hy4,heq⟩:=bind_some heq
 refine RgH.does (DoesH.call (d:=24) (g:=7) (args:=#[.slice A1 y1.length c1,.slice A2 y2.length c2]) (by kernel_rfl) (smithyardref10_Affected_c (a0:=y1) (a1:=y2) (ho1.rw (.tail _ (.tail _ (.head _)))) ho1.cap rfl (ho2.rw (.tail _ (.head _))) ho2.cap rfl hy4)) ?_
 rintro _ _ _ _ ⟨_,rfl,A4,c4,ch4,rfl,rfl,rfl,ho4⟩
 refine Rd 8 [0,1,5,6,7,8,9,10] [(0,.slice Aa0 a0.length ca0),(1,.slice Aa1 a1.length ca1),(5,.slice A1 y1.length c1),(6,.slice A2 y2.length c2),(7,.slice A3 y3.1.length c3),(8,iv y3.2),(9,.slice A4 y4.1.length c4),(10,iv y4.2)]<|Ad 1 [.c [1,1,1,1,0],.c [1,1,1,1,1]] ?_
 obtain ⟨t1,ht1,heq⟩:=bind_some heq
 have K5:∀ (H:Hp),RunH C3 (S3 F H0 r) H0 w0 [.c [1,1,1,1,1]] [(4,.bool t1)] H (F):=by
  intro H
  obtain rfl:=Option.some.inj heq
  exact RunH.done (by kernel_rfl) Tryd.func3 (v:=.bool t1) (by kernel_rfl) ⟨rfl,rfl⟩
 replace heq:=ht1
 refine Rr<|Rk 1 [0,1,5,6,7,8,9,10,27] [(0,.slice Aa0 a0.length ca0),(1,.slice Aa1 a1.length ca1),(5,.slice A1 y1.length c1),(6,.slice A2 y2.length c2),(7,.slice A3 y3.1.length c3),(8,iv y3.2),(9,.slice A4 y4.1.length c4),(10,iv y4.2),(27,.slice Aa0 a0.length ca0)] ?_
 obtain ⟨y5,hy5,heq⟩:=bind_some heq
 refine RgH.does (DoesH.call (d:=28) (g:=8) (args:=#[.slice Aa0 a0.length ca0]) (by kernel_rfl) (trials_CheckReads_c (a0:=a0) (hra0.wk (fun _ h=>(.tail _ (.tail _ (.tail _ (.tail _ h)))))) hca0 rfl hy5)) ?_
 rintro _ _ _ _ ⟨_,rfl,rfl,rfl,rfl⟩
 refine Rk 3 [0,1,5,6,7,8,9,10,28,29] [(0,.slice Aa0 a0.length ca0),(1,.slice Aa1 a1.length ca1),(5,.slice A1 y1.length c1),(6,.slice A2 y2.length c2),(7,.slice A3 y3.1.length c3),(8,iv y3.2),(9,.slice A4 y4.1.length c4),(10,iv y4.2),(28,iv y5),(29,.slice A1 y1.length c1)] ?_
 obtain ⟨y6,hy6,heq⟩:=bind_some heq
 refine RgH.does (DoesH.call (d:=30) (g:=9) (args:=#[.slice A1 y1.length c1]) (by kernel_rfl) (smithyardref10_CheckReads_c (a0:=y1) (ho1.rw (.tail _ (.tail _ (.tail _ (.head _))))) ho1.cap rfl hy6)) ?_
 rintro _ _ _ _ ⟨_,rfl,rfl,rfl,rfl⟩
 refine Rk 6 [32,0,1,5,6,7,8,9,10] [(32,.bool (y5 == y6)),(0,.slice Aa0 a0.length ca0),(1,.slice Aa1 a1.length ca1),(5,.slice A1 y1.length c1),(6,.slice A2 y2.length c2),(7,.slice A3 y3.1.length c3),(8,iv y3.2),(9,.slice A4 y4.1.length c4),(10,iv y4.2)] ?_
 rcases bool_cases (y5 == y6) with hb1 | hb1
 ·replace heq:=bif_true hb1 heq
  refine RgH.val1 (v':=.bool true) (congrArg Value.bool hb1) ?_
  refine Rk 11 [37,0,1,5,6,7,9] [(37,.bool (y3.2 == y4.2)),(0,.slice Aa0 a0.length ca0),(1,.slice Aa1 a1.length ca1),(5,.slice A1 y1.length c1),(6,.slice A2 y2.length c2),(7,.slice A3 y3.1.length c3),(9,.slice A4 y4.1.length c4)] ?_
  rcases bool_cases (y3.2 == y4.2) with hb2 | hb2
  ·replace heq:=bif_true hb2 heq
   refine RgH.val1 (v':=.bool true) (congrArg Value.bool hb2) ?_
   refine Rk 13 [0,1,5,6,37,38,39] [(0,.slice Aa0 a0.length ca0),(1,.slice Aa1 a1.length ca1),(5,.slice A1 y1.length c1),(6,.slice A2 y2.length c2),(37,.bool true),(38,.slice A3 y3.1.length c3),(39,.slice A4 y4.1.length c4)] ?_
   obtain ⟨y7,hy7,heq⟩:=bind_some heq
   refine RgH.does (DoesH.call (d:=40) (g:=10) (args:=#[.slice A3 y3.1.length c3,.slice A4 y4.1.length c4]) (by kernel_rfl) (slices_Equal_string_c (a0:=y3.1) (a1:=y4.1) (ho3.rw (.tail _ (.head _))) ho3.cap rfl (ho4.rw (.head _)) ho4.cap rfl hy7)) ?_
   rintro _ _ _ _ ⟨_,rfl,rfl,rfl,rfl⟩
   refine Rk 16 [42,0,1,5,6] [(42,.bool y7),(0,.slice Aa0 a0.length ca0),(1,.slice Aa1 a1.length ca1),(5,.slice A1 y1.length c1),(6,.slice A2 y2.length c2)] ?_
   rcases bool_cases (y7) with hb3 | hb3
   ·replace heq:=bif_true hb3 heq
    refine RgH.val1 (v':=.bool true) (congrArg Value.bool hb3) ?_
    refine Rk 18 [1,6,42,43,44] [(1,.slice Aa1 a1.length ca1),(6,.slice A2 y2.length c2),(42,.bool true),(43,.slice Aa0 a0.length ca0),(44,.slice A1 y1.length c1)] ?_
    obtain ⟨y8,hy8,heq⟩:=bind_some heq
    refine RgH.does (DoesH.call (d:=45) (g:=11) (args:=#[.slice Aa0 a0.length ca0,.slice A1 y1.length c1]) (by kernel_rfl) (smithyardref10_SameReads_c (a0:=a0) (a1:=y1) (hra0.wk (fun _ h=>(.tail _ (.tail _ (.tail _ (.tail _ h)))))) hca0 rfl (ho1.rw (.tail _ (.tail _ (.tail _ (.head _))))) ho1.cap rfl hy8)) ?_
    rintro _ _ _ _ ⟨_,rfl,rfl,rfl,rfl⟩
    refine Rk 21 [47,1,6] [(47,.bool y8),(1,.slice Aa1 a1.length ca1),(6,.slice A2 y2.length c2)] ?_
    rcases bool_cases (y8) with hb4 | hb4
    ·replace heq:=bif_true hb4 heq
     refine RgH.val1 (v':=.bool true) (congrArg Value.bool hb4) ?_
     refine Rk 23 [47,48,49] [(47,.bool true),(48,.slice Aa1 a1.length ca1),(49,.slice A2 y2.length c2)] ?_
     obtain ⟨y9,hy9,heq⟩:=bind_some heq
     refine RgH.does (DoesH.call (d:=50) (g:=12) (args:=#[.slice Aa1 a1.length ca1,.slice A2 y2.length c2]) (by kernel_rfl) (slices_Equal_TreeChange_c (a0:=a1) (a1:=y2) (hra1.wk (fun _ h=>(.tail _ (.tail _ (.tail _ (.tail _ h)))))) hca1 rfl (ho2.rw (.tail _ (.tail _ (.head _)))) ho2.cap rfl hy9)) ?_
     rintro _ _ _ _ ⟨_,rfl,rfl,rfl,rfl⟩
     refine Rk 26 [52] [(52,.bool y9)] ?_
     rcases bool_cases (y9) with hb5 | hb5
     ·replace heq:=bif_true hb5 heq
      refine RgH.val1 (v':=.bool true) (congrArg Value.bool hb5) ?_
      obtain ⟨y10,hy10,heq⟩:=bind_some heq
      refine RgH.does (DoesH.call (d:=53) (g:=13) (args:=(List.toArray [])) (by kernel_rfl) (smithyardlaw10_awake_c  hy10)) ?_
      rintro _ _ _ _ ⟨_,rfl,rfl,rfl,rfl⟩
      refine Rk 29 [4] [(4,.bool y10)] ?_
      obtain rfl:=Option.some.inj heq
      refine Kg [4] [(4,.bool y10)] ?_
      refine RgH.pick 4 [] (cs':=F) (by kernel_rfl) rfl ?_
      refine Dn ?_
      exact K5 _
     ·replace heq:=bif_false hb5 heq
      refine RgH.val1 (v':=.bool false) (congrArg Value.bool hb5) ?_
      refine Rk 29 [4] [(4,.bool false)] ?_
      obtain rfl:=Option.some.inj heq
      refine Kg [4] [(4,.bool false)] ?_
      refine RgH.pick 4 [] (cs':=F) (by kernel_rfl) rfl ?_
      refine Dn ?_
      exact K5 _
    ·replace heq:=bif_false hb4 heq
     refine RgH.val1 (v':=.bool false) (congrArg Value.bool hb4) ?_
     refine Rk 29 [4] [(4,.bool false)] ?_
     obtain rfl:=Option.some.inj heq
     refine Kg [4] [(4,.bool false)] ?_
     refine RgH.pick 4 [] (cs':=F) (by kernel_rfl) rfl ?_
     refine Dn ?_
     exact K5 _
   ·replace heq:=bif_false hb3 heq
    refine RgH.val1 (v':=.bool false) (congrArg Value.bool hb3) ?_
    refine Rk 29 [4] [(4,.bool false)] ?_
    obtain rfl:=Option.some.inj heq
    refine Kg [4] [(4,.bool false)] ?_
    refine RgH.pick 4 [] (cs':=F) (by kernel_rfl) rfl ?_
    refine Dn ?_
    exact K5 _
  ·replace heq:=bif_false hb2 heq
   refine RgH.val1 (v':=.bool false) (congrArg Value.bool hb2) ?_
   refine Rk 29 [4] [(4,.bool false)] ?_
   obtain rfl:=Option.some.inj heq
   refine Kg [4] [(4,.bool false)] ?_
   refine RgH.pick 4 [] (cs':=F) (by kernel_rfl) rfl ?_
   refine Dn ?_
   exact K5 _
 ·replace heq:=bif_false hb1 heq
  refine RgH.val1 (v':=.bool false) (congrArg Value.bool hb1) ?_
  refine Rk 29 [4] [(4,.bool false)] ?_
  obtain rfl:=Option.some.inj heq
  refine Kg [4] [(4,.bool false)] ?_
  refine RgH.pick 4 [] (cs':=F) (by kernel_rfl) rfl ?_
  refine Dn ?_
  exact K5 _
end Go.Proofs.YtphbcalfmafpoaaDoor
