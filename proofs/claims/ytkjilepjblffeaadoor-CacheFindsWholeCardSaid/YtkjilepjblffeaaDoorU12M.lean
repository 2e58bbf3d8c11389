/- What the machine's calls of these functions come to: just what the plain functions say. Written by program. -/
import Derived.Test.YtkjilepjblffeaaDoorProg
import Derived.Test.YtkjilepjblffeaaDoorKitX
import Derived.Test.YtkjilepjblffeaaDoorUD
import Derived.Test.YtkjilepjblffeaaDoorShelf
import Derived.Test.YtkjilepjblffeaaDoorU12M3
set_option linter.unusedVariables false
set_option linter.unusedSimpArgs false
set_option maxRecDepth 100000
set_option maxHeartbeats 1000000
namespace Go.Proofs.YtkjilepjblffeaaDoor
open Go Go.RowKit Go.Proofs.YtkjilepjblffeaaDoor.Kit
noncomputable def C47:Ctx:={ P:=Tryd.prog,f:=47,N:=70,c:=bodyOf Tryd.f47 }
def S47 (F:List Ch) (H0:Hp) (r:Bool) (v:Value) (H:Hp) (cs:List Ch):Prop:=H0=H∧v=.bool r∧F=cs
theorem smithyardlaw7_leased.e1_c {w0:World} {H:Hp} {F:List Ch} {r:Bool}:smithyardlaw7_leased.e1=some r→RunH C47 (S47 F H r) H w0 [.c [1,1,0],.c [1,1,1]] [] H (F):=by
 intro   heq
 unfold smithyardlaw7_leased.e1 at heq
 refine Rr<|Rd 1 [6] [(6,.bool true)] ?_
 obtain rfl:=Option.some.inj heq
 exact RunH.done (by kernel_rfl) Tryd.func47 (v:=.bool true) (by kernel_rfl) ⟨rfl,rfl,rfl⟩
theorem smithyardlaw7_leased.e3_c {w0:World} {H:Hp} {F:List Ch} {r:Bool} (backl2:Cache→ByteArray→Int→Int→Option Bool)
  (hbackl2:∀ (a0:Cache) (Aa0_2:Option Addr) (ca0_2:Nat) (Aa0_3:Option Addr) (ca0_3:Nat) (a1:ByteArray) (a2:Int) (g1:Nat) (v_i7:Int) ,Rw kBlob H F Aa0_2 a0.Blobs→a0.Blobs.length≤ca0_2→Rw kEntry H F Aa0_3 a0.Entries→a0.Entries.length≤ca0_3→backl2 a0 a1 a2 v_i7=some r→RunH C47 (S47 F H r) H w0 [.c [1,0,1,0,0],.l [1,0,1,0,0],.b 0,.c [1,1]] [(1,.string a1),(2,iv a2),(3,pg g1 0),(7,iv v_i7)] H ((some (g1,.cells #[iv a0.Room,iv a0.Lease,.slice Aa0_2 a0.Blobs.length ca0_2,.slice Aa0_3 a0.Entries.length ca0_3] 25 (0,0)))::F)):∀ (a0:Cache) (Aa0_2:Option Addr) (ca0_2:Nat) (Aa0_3:Option Addr) (ca0_3:Nat) (a1:ByteArray) (a2:Int) (g1:Nat) (v_i7:Int) ,Rw kBlob H F Aa0_2 a0.Blobs→a0.Blobs.length≤ca0_2→Rw kEntry H F Aa0_3 a0.Entries→a0.Entries.length≤ca0_3→smithyardlaw7_leased.e3 backl2 a0 a1 a2 v_i7=some r→RunH C47 (S47 F H r) H w0 [.c [1,0,1,0,0,1,1],.l [1,0,1,0,0],.b 0,.c [1,1]] [(1,.string a1),(2,iv a2),(3,pg g1 0),(7,iv v_i7)] H ((some (g1,.cells #[iv a0.Room,iv a0.Lease,.slice Aa0_2 a0.Blobs.length ca0_2,.slice Aa0_3 a0.Entries.length ca0_3] 25 (0,0)))::F):=by
 intro a0 Aa0_2 ca0_2 Aa0_3 ca0_3 a1 a2 g1 v_i7 hra0_2 hca0_2 hra0_3 hca0_3 heq
 unfold smithyardlaw7_leased.e3 at heq
 refine Rr<|Rd 3 [1,2,3,7] [(1,.string a1),(2,iv a2),(3,pg g1 0),(7,iv (w64 (v_i7+1)))]<|Ad 1 [.c [1,0,1,0,0],.l [1,0,1,0,0],.b 0,.c [1,1]]<|Kp [1,2,3,7] [(1,.string a1),(2,iv a2),(3,pg g1 0),(7,iv (w64 (v_i7+1)))] ?_
 exact hbackl2 a0 _ _ _ _ a1 a2 _ (w64 (v_i7+1)) hra0_2 hca0_2 hra0_3 hca0_3 heq
theorem smithyardlaw7_leased.l4_c {w0:World} {H:Hp} {F:List Ch} {r:Bool} (e3:Cache→ByteArray→Int→Int→Option Bool)
  (he3:∀ (a0:Cache) (Aa0_2:Option Addr) (ca0_2:Nat) (Aa0_3:Option Addr) (ca0_3:Nat) (a1:ByteArray) (a2:Int) (g1:Nat) (v_i7:Int) ,Rw kBlob H F Aa0_2 a0.Blobs→a0.Blobs.length≤ca0_2→Rw kEntry H F Aa0_3 a0.Entries→a0.Entries.length≤ca0_3→e3 a0 a1 a2 v_i7=some r→RunH C47 (S47 F H r) H w0 [.c [1,0,1,0,0,1,1],.l [1,0,1,0,0],.b 0,.c [1,1]] [(1,.string a1),(2,iv a2),(3,pg g1 0),(7,iv v_i7)] H ((some (g1,.cells #[iv a0.Room,iv a0.Lease,.slice Aa0_2 a0.Blobs.length ca0_2,.slice Aa0_3 a0.Entries.length ca0_3] 25 (0,0)))::F)):∀ (k:Nat),∀ (a0:Cache) (Aa0_2:Option Addr) (ca0_2:Nat) (Aa0_3:Option Addr) (ca0_3:Nat) (a1:ByteArray) (a2:Int) (g1:Nat) (v_i7:Int) (v_k8:Int) ,Rw kBlob H F Aa0_2 a0.Blobs→a0.Blobs.length≤ca0_2→Rw kEntry H F Aa0_3 a0.Entries→a0.Entries.length≤ca0_3→smithyardlaw7_leased.l4 e3 k a0 a1 a2 v_i7 v_k8=some r→RunH C47 (S47 F H r) H w0 [.c [1,0,1,0,0,1,0,0,1,0,0],.l [1,0,1,0,0,1,0,0,1,0,0],.b 2,.b 1,.c [1,0,1,0,0,1,1],.l [1,0,1,0,0],.b 0,.c [1,1]] [(1,.string a1),(2,iv a2),(3,pg g1 0),(7,iv v_i7),(8,iv v_k8)] H ((some (g1,.cells #[iv a0.Room,iv a0.Lease,.slice Aa0_2 a0.Blobs.length ca0_2,.slice Aa0_3 a0.Entries.length ca0_3] 25 (0,0)))::F):=by
 intro k
 induction k with
 | zero=>intro a0 Aa0_2 ca0_2 Aa0_3 ca0_3 a1 a2 g1 v_i7 v_k8 hra0_2 hca0_2 hra0_3 hca0_3 heq; exact nomatch (show (none:Option Bool)=some r from heq)
 | succ k ihk =>
  intro a0 Aa0_2 ca0_2 Aa0_3 ca0_3 a1 a2 g1 v_i7 v_k8 hra0_2 hca0_2 hra0_3 hca0_3 heq
  rw [smithyardlaw7_leased.l4] at heq
  refine Ad 2 [.c [1,0,1,0,0,1,0,0,1,0,0,0,0],.c [1,0,1,0,0,1,0,0,1,0,0,0,1],.c [1,0,1,0,0,1,0,0,1,0,0,1],.l [1,0,1,0,0,1,0,0,1,0,0],.b 2,.b 1,.c [1,0,1,0,0,1,1],.l [1,0,1,0,0],.b 0,.c [1,1]] ?_
  obtain ⟨t1,ht1,heq⟩:=bind_some heq
  have K2:RunH C47 (S47 F H r) H w0 [.c [1,0,1,0,0,1,0,0,1,0,0,0,1],.c [1,0,1,0,0,1,0,0,1,0,0,1],.l [1,0,1,0,0,1,0,0,1,0,0],.b 2,.b 1,.c [1,0,1,0,0,1,1],.l [1,0,1,0,0],.b 0,.c [1,1]] [(1,.string a1),(2,iv a2),(3,pg g1 0),(7,iv v_i7),(8,iv v_k8),(36,.bool t1)] H ((some (g1,.cells #[iv a0.Room,iv a0.Lease,.slice Aa0_2 a0.Blobs.length ca0_2,.slice Aa0_3 a0.Entries.length ca0_3] 25 (0,0)))::F):=by
   rcases bool_cases (t1) with hb3 | hb3
   ·replace heq:=bif_true hb3 heq
    refine Ct t1 hb3<|Ad 4 [.c [1,0,1,0,0,1,0,0,1,0,0,1,0,0,0],.c [1,0,1,0,0,1,0,0,1,0,0,1,0,0,1],.b 3,.c [1,0,1,0,0,1,0,0,1,0,0,1,1],.l [1,0,1,0,0,1,0,0,1,0,0],.b 2,.b 1,.c [1,0,1,0,0,1,1],.l [1,0,1,0,0],.b 0,.c [1,1]]<|Kp [1,2,3,7,8] [(1,.string a1),(2,iv a2),(3,pg g1 0),(7,iv v_i7),(8,iv v_k8)] ?_
    refine RunH.draw (fun w=>Heap H w0 w ((some (g1,.cells #[iv a0.Room,iv a0.Lease,.slice Aa0_2 a0.Blobs.length ca0_2,.slice Aa0_3 a0.Entries.length ca0_3] 25 (0,0)))::F)) (fun w=>Heap H w0 w ((some (g1,.cells #[iv a0.Room,iv a0.Lease,.slice Aa0_2 a0.Blobs.length ca0_2,.slice Aa0_3 a0.Entries.length ca0_3] 25 (0,0)))::F)) [3,3,3,3,3,3,3,3,3,3,0,3,3,3,0,0,3] (n:=17) (ls:=[false,false,false,false,false,false,false,false,false,false,false,false,false,false,false,false,false]) (by kernel_rfl) (by kernel_rfl) (by kernel_rfl) rfl ?_
    obtain ⟨x2,hx2,heq⟩:=bind_some heq
    obtain ⟨ha3,cs3,hK3,hcc3⟩:=hra0_3.get hx2
    obtain ⟨A3,c3,rfl,hc3,hr3⟩:=kEntry_open hK3
    obtain ⟨x3,hx3,heq⟩:=bind_some heq
    obtain ⟨ha4,cs4,hK4,hcc4⟩:=(Rw.of (F:=F) hr3).get hx3
    obtain rfl:cs4=[.string x3]:=hK4
    refine Dk [0,1,2,3,4,5,6,7,8,9] 7 (nb 17 1023) [iv a0.Room,iv a0.Lease,.slice Aa0_2 a0.Blobs.length ca0_2,.slice Aa0_3 a0.Entries.length ca0_3,.slice Aa0_3 a0.Entries.length ca0_3,.slice A3 x2.Refs.length c3,.string x3] [.load ⟨g1,0,none⟩ (iv a0.Room),.load ⟨g1,1,none⟩ (iv a0.Lease),.load ⟨g1,2,none⟩ (.slice Aa0_2 a0.Blobs.length ca0_2),.load ⟨g1,3,none⟩ (.slice Aa0_3 a0.Entries.length ca0_3),.load ⟨g1,3,none⟩ (.slice Aa0_3 a0.Entries.length ca0_3),.need (Aa0_3=some (adr Aa0_3)∧(0:Int)≤v_i7∧v_i7<((a0.Entries.length:Nat):Int)),.load (((adr Aa0_3).add (v_i7.toNat*3)).add 1) (.slice A3 x2.Refs.length c3),.need (A3=some (adr A3)∧(0:Int)≤v_k8∧v_k8<((x2.Refs.length:Nat):Int)),.load ((adr A3).add (v_k8.toNat*1)) (.string x3)] [1,2,3,7,8,40,49] [(1,.string a1),(2,iv a2),(3,pg g1 0),(7,iv v_i7),(8,iv v_k8),(40,.agg #[iv a0.Room,iv a0.Lease,.slice Aa0_2 a0.Blobs.length ca0_2,.slice Aa0_3 a0.Entries.length ca0_3]),(49,.string x3)] (Pk 1 [0]) (Pk 1 [0]) (fun w hh=>⟨(hh.box 0 rfl rfl),(hh.box 0 rfl rfl),(hh.box 0 rfl rfl),(hh.box 0 rfl rfl),(hh.box 0 rfl rfl),⟨ha3,(at?_some hx2).1,(at?_some hx2).2.1⟩,(hcc3 _ _ (hh.drop 1) 1 _ rfl),⟨ha4,(at?_some hx3).1,(at?_some hx3).2.1⟩,(hcc4 _ _ (hh.drop 1) 0 _ rfl)⟩) ?_
    refine DrF.start [(14,9,.cells #[.string ByteArray.empty,iv 0,iv 0,iv 0,iv 0] 47 (0,0))] (n:=6) (by kernel_rfl) ?_
    refine DrF.keep [1,2,3,7,8,40,49] (L':=[(1,.string a1),(2,iv a2),(3,pg g1 0),(7,iv v_i7),(8,iv v_k8),(40,.agg #[iv a0.Room,iv a0.Lease,.slice Aa0_2 a0.Blobs.length ca0_2,.slice Aa0_3 a0.Entries.length ca0_3]),(49,.string x3)]) (by kernel_rfl) (by kernel_rfl) ?_
    obtain ⟨y1,hy1,heq⟩:=bind_some heq
    refine DrF.does1 (n:=5) (ls':=[true,true,true,true,true,true,true,true,true,true,true,false,false,false,false,false,false]) (by kernel_rfl) 10 ⟨fun E g=>by kernel_rfl,trivial⟩ (by kernel_rfl) (by kernel_rfl) rfl (fun w hh=>⟨(Pk 1 [0]) w hh,(Pk 1 [0]) w hh⟩) (fun fc1 fE1=>DoesH.call (d:=50) (g:=34) (args:=#[.agg #[iv a0.Room,iv a0.Lease,.slice Aa0_2 a0.Blobs.length ca0_2,.slice Aa0_3 a0.Entries.length ca0_3],.string x3]) (by kernel_rfl) (smithyardlaw7_blob_c (a0:=a0) (a1:=x3) (hra0_2.wk (fun _ h=>(.tail _ (.tail _ h)))) hca0_2 rfl (hra0_3.wk (fun _ h=>(.tail _ (.tail _ h)))) hca0_3 rfl hy1)) ?_
    rintro fc1 fE1
    rintro _ _ _ _ ⟨_,rfl,rfl,rfl,rfl⟩
    refine ⟨fun _ w hh=>⟨fun _=>(Pk 2 [1]) w hh,fun _=>(Pk 2 [1]) w hh,(fun h=>by cases h)⟩,[(50,.tuple #[.agg #[.string y1.1.Digest,iv y1.1.Size,iv y1.1.Used,iv y1.1.Until,iv y1.1.Pins],.bool y1.2]),(1,.string a1),(2,iv a2),(3,pg g1 0),(7,iv v_i7),(8,iv v_k8),(40,.agg #[iv a0.Room,iv a0.Lease,.slice Aa0_2 a0.Blobs.length ca0_2,.slice Aa0_3 a0.Entries.length ca0_3]),(49,.string x3)],(some (g1,.cells #[iv a0.Room,iv a0.Lease,.slice Aa0_2 a0.Blobs.length ca0_2,.slice Aa0_3 a0.Entries.length ca0_3] 25 (0,0)))::F,rfl,(Pk 2 [0,1]),?_⟩
    refine DrF.run [11,12,13] (m:=2) (ls':=[true,true,true,true,true,true,true,true,true,true,true,true,true,true,false,false,false]) (vs:=[]) (evs:=[]) (L':=[(52,.bool y1.2),(51,.agg #[.string y1.1.Digest,iv y1.1.Size,iv y1.1.Used,iv y1.1.Until,iv y1.1.Pins]),(39,.tuple #[.agg #[.string y1.1.Digest,iv y1.1.Size,iv y1.1.Used,iv y1.1.Until,iv y1.1.Pins],.bool y1.2]),(50,.tuple #[.agg #[.string y1.1.Digest,iv y1.1.Size,iv y1.1.Used,iv y1.1.Until,iv y1.1.Pins],.bool y1.2]),(1,.string a1),(2,iv a2),(3,pg g1 0),(7,iv v_i7),(8,iv v_k8),(40,.agg #[iv a0.Room,iv a0.Lease,.slice Aa0_2 a0.Blobs.length ca0_2,.slice Aa0_3 a0.Entries.length ca0_3]),(49,.string x3)]) (by kernel_rfl) (Pk 1 [0]) (Pk 1 [0]) (pats1 (fun E=>by kernel_rfl) (fun E=>by kernel_rfl)) (fun _ _=>trivial) (by kernel_rfl) ?_
    refine DrF.keep [1,2,3,7,8,51,52] (L':=[(1,.string a1),(2,iv a2),(3,pg g1 0),(7,iv v_i7),(8,iv v_k8),(51,.agg #[.string y1.1.Digest,iv y1.1.Size,iv y1.1.Used,iv y1.1.Until,iv y1.1.Pins]),(52,.bool y1.2)]) (by kernel_rfl) (by kernel_rfl) ?_
    refine DrF.close1 (n:=2) (ls':=[true,true,true,true,true,true,true,true,true,true,true,true,true,true,true,false,false]) (by kernel_rfl) ⟨fun E g=>by kernel_rfl,trivial⟩ (by kernel_rfl) (by kernel_rfl) rfl (fun w hh=>⟨(Pk 1 [0]) w hh,(Pk 1 [0]) w hh⟩) ?_
    intro g2
    refine Kr [1,2,3,7,8,9,51,52] [(1,.string a1),(2,iv a2),(3,pg g1 0),(7,iv v_i7),(8,iv v_k8),(9,pg g2 0),(51,.agg #[.string y1.1.Digest,iv y1.1.Size,iv y1.1.Used,iv y1.1.Until,iv y1.1.Pins]),(52,.bool y1.2)] ?_
    refine DrH.does (n:=1) (ls':=[true,true,true,true,true,true,true,true,true,true,true,true,true,true,true,true,false]) 15 (by kernel_rfl) rfl (DoesH.store (k:=0) (g:=g2) (off:=0) (v:=.agg #[.string y1.1.Digest,iv y1.1.Size,iv y1.1.Used,iv y1.1.Until,iv y1.1.Pins]) (cells':=#[.string y1.1.Digest,iv y1.1.Size,iv y1.1.Used,iv y1.1.Until,iv y1.1.Pins]) (by kernel_rfl) rfl (by kernel_rfl) (by kernel_rfl)) ?_
    rintro _ _ _ _ ⟨rfl,rfl,rfl⟩
    refine ⟨fun _ w hh=>⟨fun _=>(Pk 2 [1]) w hh,fun _=>(Pk 2 [1]) w hh,(fun h=>by cases h)⟩,?_⟩
    refine Dk [16] 0 (nb 17 131071) [] [] [1,2,3,7,8,9,10] [(1,.string a1),(2,iv a2),(3,pg g1 0),(7,iv v_i7),(8,iv v_k8),(9,pg g2 0),(10,.bool y1.2)] (Pk 2 [1]) (Pk 1 [0]) (fun _ _=>trivial) ?_
    refine DrH.done (by kernel_rfl) ?_
    refine Ad 1 [.c [1,0,1,0,0,1,0,0,1,0,0,1,0,0,1,0],.c [1,0,1,0,0,1,0,0,1,0,0,1,0,0,1,1],.b 3,.c [1,0,1,0,0,1,0,0,1,0,0,1,1],.l [1,0,1,0,0,1,0,0,1,0,0],.b 2,.b 1,.c [1,0,1,0,0,1,1],.l [1,0,1,0,0],.b 0,.c [1,1]] ?_
    obtain ⟨t2,ht2,heq⟩:=bind_some heq
    have K5:RunH C47 (S47 F H r) H w0 [.c [1,0,1,0,0,1,0,0,1,0,0,1,0,0,1,1],.b 3,.c [1,0,1,0,0,1,0,0,1,0,0,1,1],.l [1,0,1,0,0,1,0,0,1,0,0],.b 2,.b 1,.c [1,0,1,0,0,1,1],.l [1,0,1,0,0],.b 0,.c [1,1]] [(1,.string a1),(2,iv a2),(3,pg g1 0),(7,iv v_i7),(8,iv v_k8),(69,.bool t2)] H ((some (g1,.cells #[iv a0.Room,iv a0.Lease,.slice Aa0_2 a0.Blobs.length ca0_2,.slice Aa0_3 a0.Entries.length ca0_3] 25 (0,0)))::F):=by
     rcases bool_cases (t2) with hb6 | hb6
     ·replace heq:=bif_true hb6 heq
      refine Ct t2 hb6<|Ra 1 [1,0,1,0,0,1,0,0,1,0,0,1,0,0,1,1,0,0] [.c [1,0,1,0,0,1,0,0,1,0,0,1,0,0,1,1,0,1],.b 3,.c [1,0,1,0,0,1,0,0,1,0,0,1,1],.l [1,0,1,0,0,1,0,0,1,0,0],.b 2,.b 1,.c [1,0,1,0,0,1,1],.l [1,0,1,0,0],.b 0,.c [1,1]]<|Rd 1 [6] [(6,.bool false)] ?_
      obtain rfl:=Option.some.inj heq
      refine RunH.pick 1 [] (cs':=F) (by kernel_rfl) rfl ?_
      exact RunH.done (by kernel_rfl) Tryd.func47 (v:=.bool false) (by kernel_rfl) ⟨rfl,rfl,rfl⟩
     ·replace heq:=bif_false hb6 heq
      refine Cf t2 hb6<|Ra 2 [1,0,1,0,0,1,0,0,1,0,0,1,1] [.l [1,0,1,0,0,1,0,0,1,0,0],.b 2,.b 1,.c [1,0,1,0,0,1,1],.l [1,0,1,0,0],.b 0,.c [1,1]]<|Rd 3 [1,2,3,7,8] [(1,.string a1),(2,iv a2),(3,pg g1 0),(7,iv v_i7),(8,iv (w64 (v_k8+1)))]<|Ad 1 [.c [1,0,1,0,0,1,0,0,1,0,0],.l [1,0,1,0,0,1,0,0,1,0,0],.b 2,.b 1,.c [1,0,1,0,0,1,1],.l [1,0,1,0,0],.b 0,.c [1,1]]<|Kp [1,2,3,7,8] [(1,.string a1),(2,iv a2),(3,pg g1 0),(7,iv v_i7),(8,iv (w64 (v_k8+1)))] ?_
      exact ihk a0 _ _ _ _ a1 a2 _ v_i7 (w64 (v_k8+1)) hra0_2 hca0_2 hra0_3 hca0_3 heq
    replace heq:=ht2
    refine Rr<|Rk 3 [55,1,2,3,7,8,9] [(55,.bool (!y1.2)),(1,.string a1),(2,iv a2),(3,pg g1 0),(7,iv v_i7),(8,iv v_k8),(9,pg g2 0)] ?_
    rcases bool_cases (!y1.2) with hb4 | hb4
    ·replace heq:=bif_true hb4 heq
     refine RgH.val1 (v':=.bool true) (congrArg Value.bool hb4) ?_
     refine Rk 17 [1,2,3,7,8,69] [(1,.string a1),(2,iv a2),(3,pg g1 0),(7,iv v_i7),(8,iv v_k8),(69,.bool true)] ?_
     obtain rfl:=Option.some.inj heq
     refine Kg [1,2,3,7,8,69] [(1,.string a1),(2,iv a2),(3,pg g1 0),(7,iv v_i7),(8,iv v_k8),(69,.bool true)] ?_
     refine RgH.pick 2 [1] (cs':=(some (g1,.cells #[iv a0.Room,iv a0.Lease,.slice Aa0_2 a0.Blobs.length ca0_2,.slice Aa0_3 a0.Entries.length ca0_3] 25 (0,0)))::F) (by kernel_rfl) rfl ?_
     refine Dn ?_
     exact K5
    ·replace heq:=bif_false hb4 heq
     refine RgH.val1 (v':=.bool false) (congrArg Value.bool hb4) ?_
     refine Rv 9 [61,1,2,3,7,8,9] [iv y1.1.Used] [.load ⟨g2,2,none⟩ (iv y1.1.Used)] [(61,.bool (y1.1.Used != a2)),(1,.string a1),(2,iv a2),(3,pg g1 0),(7,iv v_i7),(8,iv v_k8),(9,pg g2 0)] (fun w hh=>(hh.box 0 rfl rfl)) ?_
     rcases bool_cases (y1.1.Used != a2) with hb5 | hb5
     ·replace heq:=bif_true hb5 heq
      refine RgH.val1 (v':=.bool true) (congrArg Value.bool hb5) ?_
      refine Rk 17 [1,2,3,7,8,69] [(1,.string a1),(2,iv a2),(3,pg g1 0),(7,iv v_i7),(8,iv v_k8),(69,.bool true)] ?_
      obtain rfl:=Option.some.inj heq
      refine Kg [1,2,3,7,8,69] [(1,.string a1),(2,iv a2),(3,pg g1 0),(7,iv v_i7),(8,iv v_k8),(69,.bool true)] ?_
      refine RgH.pick 2 [1] (cs':=(some (g1,.cells #[iv a0.Room,iv a0.Lease,.slice Aa0_2 a0.Blobs.length ca0_2,.slice Aa0_3 a0.Entries.length ca0_3] 25 (0,0)))::F) (by kernel_rfl) rfl ?_
      refine Dn ?_
      exact K5
     ·replace heq:=bif_false hb5 heq
      refine RgH.val1 (v':=.bool false) (congrArg Value.bool hb5) ?_
      refine Rv 17 [1,2,3,7,8,69] [iv y1.1.Until,iv a0.Lease] [.load ⟨g2,3,none⟩ (iv y1.1.Until),.load ⟨g1,1,none⟩ (iv a0.Lease)] [(1,.string a1),(2,iv a2),(3,pg g1 0),(7,iv v_i7),(8,iv v_k8),(69,.bool (decide (y1.1.Until<(w64 (a2+a0.Lease)))))] (fun w hh=>⟨(hh.box 0 rfl rfl),(hh.box 1 rfl rfl)⟩) ?_
      obtain rfl:=Option.some.inj heq
      refine Kg [1,2,3,7,8,69] [(1,.string a1),(2,iv a2),(3,pg g1 0),(7,iv v_i7),(8,iv v_k8),(69,.bool (decide (y1.1.Until<(w64 (a2+a0.Lease)))))] ?_
      refine RgH.pick 2 [1] (cs':=(some (g1,.cells #[iv a0.Room,iv a0.Lease,.slice Aa0_2 a0.Blobs.length ca0_2,.slice Aa0_3 a0.Entries.length ca0_3] 25 (0,0)))::F) (by kernel_rfl) rfl ?_
      refine Dn ?_
      exact K5
   ·replace heq:=bif_false hb3 heq
    refine Cf t1 hb3<|Ad 2 [.c [1,0,1,0,0,1,1],.l [1,0,1,0,0],.b 0,.c [1,1]]<|Kp [1,2,3,7] [(1,.string a1),(2,iv a2),(3,pg g1 0),(7,iv v_i7)] ?_
    exact he3 a0 _ _ _ _ a1 a2 _ v_i7 hra0_2 hca0_2 hra0_3 hca0_3 heq
  replace heq:=ht1
  refine Rr ?_
  obtain ⟨x1,hx1,heq⟩:=bind_some heq
  obtain ⟨ha1,cs1,hK1,hcc1⟩:=hra0_3.get hx1
  obtain ⟨A1,c1,rfl,hc1,hr1⟩:=kEntry_open hK1
  refine Rv 10 [27,1,2,3,7,8] [.slice Aa0_3 a0.Entries.length ca0_3,.slice A1 x1.Refs.length c1] [.load ⟨g1,3,none⟩ (.slice Aa0_3 a0.Entries.length ca0_3),.need (Aa0_3=some (adr Aa0_3)∧(0:Int)≤v_i7∧v_i7<((a0.Entries.length:Nat):Int)),.load (((adr Aa0_3).add (v_i7.toNat*3)).add 1) (.slice A1 x1.Refs.length c1)] [(27,.bool (decide (v_k8<(x1.Refs.length:Int)))),(1,.string a1),(2,iv a2),(3,pg g1 0),(7,iv v_i7),(8,iv v_k8)] (fun w hh=>⟨(hh.box 0 rfl rfl),⟨ha1,(at?_some hx1).1,(at?_some hx1).2.1⟩,(hcc1 _ _ (hh.drop 1) 1 _ rfl)⟩) ?_
  rcases bool_cases (decide (v_k8<(x1.Refs.length:Int))) with hb2 | hb2
  ·replace heq:=bif_true hb2 heq
   refine RgH.val1 (v':=.bool true) (congrArg Value.bool hb2) ?_
   obtain ⟨ha2,cs2,hK2,hcc2⟩:=hra0_3.get hx1
   obtain ⟨A2,c2,rfl,hc2,hr2⟩:=kEntry_open hK2
   refine Rv 19 [1,2,3,7,8,36] [.slice Aa0_3 a0.Entries.length ca0_3,.string x1.Key] [.load ⟨g1,3,none⟩ (.slice Aa0_3 a0.Entries.length ca0_3),.need (Aa0_3=some (adr Aa0_3)∧(0:Int)≤v_i7∧v_i7<((a0.Entries.length:Nat):Int)),.load (((adr Aa0_3).add (v_i7.toNat*3)).add 0) (.string x1.Key)] [(1,.string a1),(2,iv a2),(3,pg g1 0),(7,iv v_i7),(8,iv v_k8),(36,.bool (sEq x1.Key a1))] (fun w hh=>⟨(hh.box 0 rfl rfl),⟨ha2,(at?_some hx1).1,(at?_some hx1).2.1⟩,(hcc2 _ _ (hh.drop 1) 0 _ rfl)⟩) ?_
   obtain rfl:=Option.some.inj heq
   refine Kg [1,2,3,7,8,36] [(1,.string a1),(2,iv a2),(3,pg g1 0),(7,iv v_i7),(8,iv v_k8),(36,.bool (sEq x1.Key a1))]<|Dn ?_
   exact K2
  ·replace heq:=bif_false hb2 heq
   refine RgH.val1 (v':=.bool false) (congrArg Value.bool hb2) ?_
   refine Rk 19 [1,2,3,7,8,36] [(1,.string a1),(2,iv a2),(3,pg g1 0),(7,iv v_i7),(8,iv v_k8),(36,.bool false)] ?_
   obtain rfl:=Option.some.inj heq
   refine Kg [1,2,3,7,8,36] [(1,.string a1),(2,iv a2),(3,pg g1 0),(7,iv v_i7),(8,iv v_k8),(36,.bool false)]<|Dn ?_
   exact K2
theorem smithyardlaw7_leased.l2_c {w0:World} {H:Hp} {F:List Ch} {r:Bool} (e1:Option Bool)
  (he1:e1=some r→RunH C47 (S47 F H r) H w0 [.c [1,1,0],.c [1,1,1]] [] H (F)):∀ (k:Nat),∀ (a0:Cache) (Aa0_2:Option Addr) (ca0_2:Nat) (Aa0_3:Option Addr) (ca0_3:Nat) (a1:ByteArray) (a2:Int) (g1:Nat) (v_i7:Int) ,Rw kBlob H F Aa0_2 a0.Blobs→a0.Blobs.length≤ca0_2→Rw kEntry H F Aa0_3 a0.Entries→a0.Entries.length≤ca0_3→smithyardlaw7_leased.l2 e1 k a0 a1 a2 v_i7=some r→RunH C47 (S47 F H r) H w0 [.c [1,0,1,0,0],.l [1,0,1,0,0],.b 0,.c [1,1]] [(1,.string a1),(2,iv a2),(3,pg g1 0),(7,iv v_i7)] H ((some (g1,.cells #[iv a0.Room,iv a0.Lease,.slice Aa0_2 a0.Blobs.length ca0_2,.slice Aa0_3 a0.Entries.length ca0_3] 25 (0,0)))::F):=by
 intro k
 induction k with
 | zero=>intro a0 Aa0_2 ca0_2 Aa0_3 ca0_3 a1 a2 g1 v_i7 hra0_2 hca0_2 hra0_3 hca0_3 heq; exact nomatch (show (none:Option Bool)=some r from heq)
 | succ k ihk =>
  intro a0 Aa0_2 ca0_2 Aa0_3 ca0_3 a1 a2 g1 v_i7 hra0_2 hca0_2 hra0_3 hca0_3 heq
  rw [smithyardlaw7_leased.l2] at heq
  refine Ra 2 [1,0,1,0,0,0,0] [.c [1,0,1,0,0,0,1],.c [1,0,1,0,0,1],.l [1,0,1,0,0],.b 0,.c [1,1]]<|Rw' 5 [1,2,3,7,15] [.slice Aa0_3 a0.Entries.length ca0_3] [.load ⟨g1,3,none⟩ (.slice Aa0_3 a0.Entries.length ca0_3)] [(1,.string a1),(2,iv a2),(3,pg g1 0),(7,iv v_i7),(15,.bool (decide (v_i7<(a0.Entries.length:Int))))] (fun w hh=>(hh.box 0 rfl rfl)) ?_
  rcases bool_cases (decide (v_i7<(a0.Entries.length:Int))) with hb1 | hb1
  ·replace heq:=bif_true hb1 heq
   refine Ct (decide (v_i7<(a0.Entries.length:Int))) hb1<|Ra 4 [1,0,1,0,0,1,0,0,0] [.c [1,0,1,0,0,1,0,0,1],.b 1,.c [1,0,1,0,0,1,1],.l [1,0,1,0,0],.b 0,.c [1,1]]<|Rd 1 [1,2,3,7,8] [(1,.string a1),(2,iv a2),(3,pg g1 0),(7,iv v_i7),(8,iv 0)]<|Ad 2 [.c [1,0,1,0,0,1,0,0,1,0,0],.l [1,0,1,0,0,1,0,0,1,0,0],.b 2,.b 1,.c [1,0,1,0,0,1,1],.l [1,0,1,0,0],.b 0,.c [1,1]]<|Kp [1,2,3,7,8] [(1,.string a1),(2,iv a2),(3,pg g1 0),(7,iv v_i7),(8,iv 0)] ?_
   exact ((smithyardlaw7_leased.l4_c (e3:=smithyardlaw7_leased.e3 ((smithyardlaw7_leased.l2 e1 k))) (smithyardlaw7_leased.e3_c (backl2:=(smithyardlaw7_leased.l2 e1 k)) ihk)) big) a0 _ _ _ _ a1 a2 _ v_i7 0 hra0_2 hca0_2 hra0_3 hca0_3 heq
  ·replace heq:=bif_false hb1 heq
   refine Cf (decide (v_i7<(a0.Entries.length:Int))) hb1<|Ad 2 [.c [1,1,0],.c [1,1,1]]<|Kp [] [] ?_
   refine RunH.pick 1 [] (cs':=F) (by kernel_rfl) rfl ?_
   exact he1 heq
theorem smithyardlaw7_leased_c {w0:World} {H:Hp} {F:List Ch} {a0:Cache} {Aa0_2:Option Addr} {na0_2:Nat} {ca0_2:Nat} {Aa0_3:Option Addr} {na0_3:Nat} {ca0_3:Nat} {a1:ByteArray} {a2:Int} {r:Bool} (hra0_2:Rw kBlob H F Aa0_2 a0.Blobs) (hca0_2:na0_2≤ca0_2) (hna0_2:na0_2=a0.Blobs.length) (hra0_3:Rw kEntry H F Aa0_3 a0.Entries) (hca0_3:na0_3≤ca0_3) (hna0_3:na0_3=a0.Entries.length) (heq:smithyardlaw7_leased.f a0 a1 a2=some r):CallsH Tryd.prog 47 #[.agg #[iv a0.Room,iv a0.Lease,.slice Aa0_2 na0_2 ca0_2,.slice Aa0_3 na0_3 ca0_3],.string a1,iv a2] H w0 (F) (S47 F H r):=by
 refine calls_of_runH (F:=C47) Tryd.func47 (by kernel_rfl) Tryd.ntmps47 (args:=[.agg #[iv a0.Room,iv a0.Lease,.slice Aa0_2 na0_2 ca0_2,.slice Aa0_3 na0_3 ca0_3],.string a1,iv a2]) (by kernel_rfl) ?_
 subst hna0_2
 subst hna0_3
 unfold smithyardlaw7_leased.f at heq
 refine Ra 1 [0] [.c [1]] ?_
 refine RgH.does (DoesH.new (d:=3) (v:=fun g=>.pointer (some ⟨g,0,none⟩)) (o:=fun g=>.cells #[iv a0.Room,iv a0.Lease,.slice Aa0_2 a0.Blobs.length ca0_2,.slice Aa0_3 a0.Entries.length ca0_3] 25 (0,0)) (fun g=>by kernel_rfl)) ?_
 rintro _ _ _ _ ⟨g1,rfl,rfl,rfl⟩
 refine Rd 2 [1,2,3] [(1,.string a1),(2,iv a2),(3,pg g1 0)]<|Ra 2 [1,0,0] [.c [1,0,1],.c [1,1]]<|Rd 1 [1,2,3,7] [(1,.string a1),(2,iv a2),(3,pg g1 0),(7,iv 0)]<|Ad 2 [.c [1,0,1,0,0],.l [1,0,1,0,0],.b 0,.c [1,1]]<|Kp [1,2,3,7] [(1,.string a1),(2,iv a2),(3,pg g1 0),(7,iv 0)] ?_
 exact ((smithyardlaw7_leased.l2_c (e1:=smithyardlaw7_leased.e1) (smithyardlaw7_leased.e1_c)) big) a0 _ _ _ _ a1 a2 _ 0 hra0_2 hca0_2 hra0_3 hca0_3 heq
noncomputable def C12:Ctx:={ P:=Tryd.prog,f:=12,N:=131,c:=bodyOf Tryd.f12 }
def S12 (F:List Ch) (H0:Hp) (r:Bool) (v:Value) (H:Hp) (cs:List Ch):Prop:=v=.bool r∧F=cs
theorem smithyardlaw7_CacheFindsWhole.j1_c {w0:World} {H0:Hp} {F:List Ch} {r:Bool}:∀ (H:Hp) (a0:Cache) (Aa0_2:Option Addr) (ca0_2:Nat) (Aa0_3:Option Addr) (ca0_3:Nat) (a1:ByteArray) (a2:List ByteArray) (Aa2:Option Addr) (ca2:Nat) (a3:Int) (g1:Nat) ,Rw kBlob H F Aa0_2 a0.Blobs→a0.Blobs.length≤ca0_2→Rw kEntry H F Aa0_3 a0.Entries→a0.Entries.length≤ca0_3→Rw Kd.string H F Aa2 a2→a2.length≤ca2→smithyardlaw7_CacheFindsWhole.j1 a0 a1 a2 a3=some r→RunH C12 (S12 F H0 r) H0 w0 [.c [1,1,1,0],.c [1,1,1,1]] [(1,.string a1),(2,.slice Aa2 a2.length ca2),(3,iv a3),(4,pg g1 0)] H ((some (g1,.cells #[iv a0.Room,iv a0.Lease,.slice Aa0_2 a0.Blobs.length ca0_2,.slice Aa0_3 a0.Entries.length ca0_3] 25 (0,0)))::F):=by
 intro H a0 Aa0_2 ca0_2 Aa0_3 ca0_3 a1 a2 Aa2 ca2 a3 g1 hra0_2 hca0_2 hra0_3 hca0_3 hra2 hca2 heq
 unfold smithyardlaw7_CacheFindsWhole.j1 at heq
 refine Rr<|Rv 5 [1,2,3,57,61] [iv a0.Room,iv a0.Lease,.slice Aa0_2 a0.Blobs.length ca0_2,.slice Aa0_3 a0.Entries.length ca0_3] [.load ⟨g1,0,none⟩ (iv a0.Room),.load ⟨g1,1,none⟩ (iv a0.Lease),.load ⟨g1,2,none⟩ (.slice Aa0_2 a0.Blobs.length ca0_2),.load ⟨g1,3,none⟩ (.slice Aa0_3 a0.Entries.length ca0_3)] [(1,.string a1),(2,.slice Aa2 a2.length ca2),(3,iv a3),(57,.agg #[iv a0.Room,iv a0.Lease,.slice Aa0_2 a0.Blobs.length ca0_2,.slice Aa0_3 a0.Entries.length ca0_3]),(61,.agg #[iv 6,iv a3,.string ByteArray.empty,.slice Aa2 a2.length ca2,.string a1,iv 0])] (fun w hh=>⟨(hh.box 0 rfl rfl),(hh.box 0 rfl rfl),(hh.box 0 rfl rfl),(hh.box 0 rfl rfl)⟩) ?_
 obtain ⟨y2,hy2,heq⟩:=bind_some heq
 refine RgH.does (DoesH.call (d:=62) (g:=45) (args:=#[.agg #[iv a0.Room,iv a0.Lease,.slice Aa0_2 a0.Blobs.length ca0_2,.slice Aa0_3 a0.Entries.length ca0_3],.agg #[iv 6,iv a3,.string ByteArray.empty,.slice Aa2 a2.length ca2,.string a1,iv 0]]) (by kernel_rfl) (cache_Do_c (a0:=a0) (a1:=(⟨6,a3,ByteArray.empty,a2,a1,0⟩:CacheEvent)) (hra0_2.wk (fun _ h=>(.tail _ h))) hca0_2 rfl (hra0_3.wk (fun _ h=>(.tail _ h))) hca0_3 rfl (hra2.wk (fun _ h=>(.tail _ h))) hca2 rfl hy2)) ?_
 rintro _ H _ hl ⟨_,rfl,A5,c5,ch5,A6,c6,ch6,A7,c7,ch7,A8,c8,ch8,rfl,rfl,ho5,ho6,ho7,ho8⟩
 replace hra2:=hra2.mono hl
 replace hra0_2:=hra0_2.mono hl
 replace hra0_3:=hra0_3.mono hl
 refine Rk 10 [1,2,3,63,64,65] [(1,.string a1),(2,.slice Aa2 a2.length ca2),(3,iv a3),(63,.agg #[iv y2.1.Room,iv y2.1.Lease,.slice A5 y2.1.Blobs.length c5,.slice A6 y2.1.Entries.length c6]),(64,.agg #[.bool y2.2.1.Done,.slice A7 y2.2.1.Missing.length c7,.slice A8 y2.2.1.Gone.length c8]),(65,iv y2.2.2)] ?_
 refine RgH.does (DoesH.new (d:=14) (v:=fun g=>.pointer (some ⟨g,0,none⟩)) (o:=fun g=>.cells #[iv 0,iv 0,.slice none 0 0,.slice none 0 0] 25 (0,0)) (fun g=>by kernel_rfl)) ?_
 rintro _ _ _ _ ⟨g4,rfl,rfl,rfl⟩
 refine RgH.does (DoesH.new (d:=15) (v:=fun g=>.pointer (some ⟨g,0,none⟩)) (o:=fun g=>.cells #[.bool false,.slice none 0 0,.slice none 0 0] 63 (0,0)) (fun g=>by kernel_rfl)) ?_
 rintro _ _ _ _ ⟨g5,rfl,rfl,rfl⟩
 refine RgH.does (DoesH.store (k:=1) (g:=g4) (off:=0) (v:=.agg #[iv y2.1.Room,iv y2.1.Lease,.slice A5 y2.1.Blobs.length c5,.slice A6 y2.1.Entries.length c6]) (cells':=#[iv y2.1.Room,iv y2.1.Lease,.slice A5 y2.1.Blobs.length c5,.slice A6 y2.1.Entries.length c6]) (by kernel_rfl) rfl (by kernel_rfl) (by kernel_rfl)) ?_
 rintro _ _ _ _ ⟨rfl,rfl,rfl⟩
 refine RgH.does (DoesH.store (k:=0) (g:=g5) (off:=0) (v:=.agg #[.bool y2.2.1.Done,.slice A7 y2.2.1.Missing.length c7,.slice A8 y2.2.1.Gone.length c8]) (cells':=#[.bool y2.2.1.Done,.slice A7 y2.2.1.Missing.length c7,.slice A8 y2.2.1.Gone.length c8]) (by kernel_rfl) rfl (by kernel_rfl) (by kernel_rfl)) ?_
 rintro _ _ _ _ ⟨rfl,rfl,rfl⟩
 refine Rd 15 [1,2,3,11,14,15] [(1,.string a1),(2,.slice Aa2 a2.length ca2),(3,iv a3),(11,iv y2.2.2),(14,pg g4 0),(15,pg g5 0)]<|Ad 2 [.c [1,1,1,1,0,0],.c [1,1,1,1,0,1],.c [1,1,1,1,1]] ?_
 obtain ⟨t2,ht2,heq⟩:=bind_some heq
 have K15:∀ (H:Hp),Rw Kd.string H F Aa2 a2→SlOwn kBlob 47 H A5 c5 y2.1.Blobs ch5→SlOwn kEntry 51 H A6 c6 y2.1.Entries ch6→SlOwn Kd.string 9 H A7 c7 y2.2.1.Missing ch7→SlOwn Kd.string 9 H A8 c8 y2.2.1.Gone ch8→RunH C12 (S12 F H0 r) H0 w0 [.c [1,1,1,1,0,1],.c [1,1,1,1,1]] [(1,.string a1),(2,.slice Aa2 a2.length ca2),(3,iv a3),(14,pg g4 0),(15,pg g5 0),(72,.bool t2)] H ((some (g5,.cells #[.bool y2.2.1.Done,.slice A7 y2.2.1.Missing.length c7,.slice A8 y2.2.1.Gone.length c8] 63 (0,0)))::(some (g4,.cells #[iv y2.1.Room,iv y2.1.Lease,.slice A5 y2.1.Blobs.length c5,.slice A6 y2.1.Entries.length c6] 25 (0,0)))::ch5::ch6::ch7::ch8::F):=by
  intro H hra2 ho5 ho6 ho7 ho8
  rcases bool_cases (t2) with hb3 | hb3
  ·replace heq:=bif_true hb3 heq
   refine Ct t2 hb3<|Ad 1 [.c [1,1,1,1,0,1,0,0],.c [1,1,1,1,0,1,0,1],.c [1,1,1,1,1]] ?_
   obtain ⟨t3,ht3,heq⟩:=bind_some heq
   have K16:∀ (H:Hp),RunH C12 (S12 F H0 r) H0 w0 [.c [1,1,1,1,0,1,0,1],.c [1,1,1,1,1]] [(8,.bool t3)] H (F):=by
    intro H
    obtain rfl:=Option.some.inj heq
    exact RunH.done (by kernel_rfl) Tryd.func12 (v:=.bool t3) (by kernel_rfl) ⟨rfl,rfl⟩
   replace heq:=ht3
   refine Rr<|Rv 4 [76] [.bool y2.2.1.Done] [.load ⟨g5,0,none⟩ (.bool y2.2.1.Done)] [(76,.bool (!y2.2.1.Done))] (fun w hh=>(hh.box 0 rfl rfl)) ?_
   rcases bool_cases (!y2.2.1.Done) with hb4 | hb4
   ·replace heq:=bif_true hb4 heq
    refine RgH.val1 (v':=.bool true) (congrArg Value.bool hb4) ?_
    obtain ⟨y3,hy3,heq⟩:=bind_some heq
    refine RgH.does (DoesH.call (d:=77) (g:=29) (args:=(List.toArray [])) (by kernel_rfl) (smithyardlaw7_awake_c  hy3)) ?_
    rintro _ _ _ _ ⟨_,rfl,rfl,rfl,rfl⟩
    refine Rk 7 [8] [(8,.bool y3)] ?_
    obtain rfl:=Option.some.inj heq
    refine Kg [8] [(8,.bool y3)] ?_
    refine RgH.pick 6 [] (cs':=F) (by kernel_rfl) rfl ?_
    refine Dn ?_
    exact K16 _
   ·replace heq:=bif_false hb4 heq
    refine RgH.val1 (v':=.bool false) (congrArg Value.bool hb4) ?_
    refine Rk 7 [8] [(8,.bool false)] ?_
    obtain rfl:=Option.some.inj heq
    refine Kg [8] [(8,.bool false)] ?_
    refine RgH.pick 6 [] (cs':=F) (by kernel_rfl) rfl ?_
    refine Dn ?_
    exact K16 _
  ·replace heq:=bif_false hb3 heq
   refine Cf t2 hb3<|Ra 2 [1,1,1,1,1,0] [.c [1,1,1,1,1,1]]<|Rv 2 [1,2,3,14,80,81] [iv y2.1.Room,iv y2.1.Lease,.slice A5 y2.1.Blobs.length c5,.slice A6 y2.1.Entries.length c6] [.load ⟨g4,0,none⟩ (iv y2.1.Room),.load ⟨g4,1,none⟩ (iv y2.1.Lease),.load ⟨g4,2,none⟩ (.slice A5 y2.1.Blobs.length c5),.load ⟨g4,3,none⟩ (.slice A6 y2.1.Entries.length c6)] [(1,.string a1),(2,.slice Aa2 a2.length ca2),(3,iv a3),(14,pg g4 0),(80,.agg #[iv y2.1.Room,iv y2.1.Lease,.slice A5 y2.1.Blobs.length c5,.slice A6 y2.1.Entries.length c6]),(81,.string a1)] (fun w hh=>⟨(hh.box 1 rfl rfl),(hh.box 1 rfl rfl),(hh.box 1 rfl rfl),(hh.box 1 rfl rfl)⟩) ?_
   obtain ⟨y4,hy4,heq⟩:=bind_some heq
   refine RgH.does (DoesH.call (d:=82) (g:=31) (args:=#[.agg #[iv y2.1.Room,iv y2.1.Lease,.slice A5 y2.1.Blobs.length c5,.slice A6 y2.1.Entries.length c6],.string a1]) (by kernel_rfl) (cache_Whole_c (a0:=(⟨y2.1.Room,y2.1.Lease,y2.1.Blobs,y2.1.Entries⟩:Cache)) (a1:=a1) (ho5.rw (.tail _ (.tail _ (.head _)))) ho5.cap rfl (ho6.rw (.tail _ (.tail _ (.tail _ (.head _))))) ho6.cap rfl hy4)) ?_
   rintro _ _ _ _ ⟨_,rfl,rfl,rfl,rfl⟩
   refine Rd 8 [1,2,3,11,14,16] [(1,.string a1),(2,.slice Aa2 a2.length ca2),(3,iv a3),(11,iv y4.2),(14,pg g4 0),(16,.bool y4.1)]<|Ra 1 [1,1,1,1,1,1,0] [.c [1,1,1,1,1,1,1]]<|Rv 2 [1,2,3,11,14,16,86,87] [iv y2.1.Room,iv y2.1.Lease,.slice A5 y2.1.Blobs.length c5,.slice A6 y2.1.Entries.length c6] [.load ⟨g4,0,none⟩ (iv y2.1.Room),.load ⟨g4,1,none⟩ (iv y2.1.Lease),.load ⟨g4,2,none⟩ (.slice A5 y2.1.Blobs.length c5),.load ⟨g4,3,none⟩ (.slice A6 y2.1.Entries.length c6)] [(1,.string a1),(2,.slice Aa2 a2.length ca2),(3,iv a3),(11,iv y4.2),(14,pg g4 0),(16,.bool y4.1),(86,.agg #[iv y2.1.Room,iv y2.1.Lease,.slice A5 y2.1.Blobs.length c5,.slice A6 y2.1.Entries.length c6]),(87,.string a1)] (fun w hh=>⟨(hh.box 1 rfl rfl),(hh.box 1 rfl rfl),(hh.box 1 rfl rfl),(hh.box 1 rfl rfl)⟩) ?_
   obtain ⟨y5,hy5,heq⟩:=bind_some heq
   refine RgH.does (DoesH.call (d:=88) (g:=35) (args:=#[.agg #[iv y2.1.Room,iv y2.1.Lease,.slice A5 y2.1.Blobs.length c5,.slice A6 y2.1.Entries.length c6],.string a1]) (by kernel_rfl) (smithyardlaw7_entry_c (a0:=(⟨y2.1.Room,y2.1.Lease,y2.1.Blobs,y2.1.Entries⟩:Cache)) (a1:=a1) (ho5.rw (.tail _ (.tail _ (.head _)))) ho5.cap rfl (ho6.rw (.tail _ (.tail _ (.tail _ (.head _))))) ho6.cap rfl hy5)) ?_
   rintro _ _ _ _ ⟨_,rfl,A9,c9,rfl,rfl,rfl,hr1,hc1⟩
   refine Rk 6 [1,2,3,11,14,16,89,90] [(1,.string a1),(2,.slice Aa2 a2.length ca2),(3,iv a3),(11,iv y4.2),(14,pg g4 0),(16,.bool y4.1),(89,.agg #[.string y5.1.Key,.slice A9 y5.1.Refs.length c9,iv y5.1.Used]),(90,.bool y5.2)] ?_
   refine RgH.does (DoesH.new (d:=17) (v:=fun g=>.pointer (some ⟨g,0,none⟩)) (o:=fun g=>.cells #[.string ByteArray.empty,.slice none 0 0,iv 0] 51 (0,0)) (fun g=>by kernel_rfl)) ?_
   rintro _ _ _ _ ⟨g6,rfl,rfl,rfl⟩
   refine RgH.does (DoesH.store (k:=0) (g:=g6) (off:=0) (v:=.agg #[.string y5.1.Key,.slice A9 y5.1.Refs.length c9,iv y5.1.Used]) (cells':=#[.string y5.1.Key,.slice A9 y5.1.Refs.length c9,iv y5.1.Used]) (by kernel_rfl) rfl (by kernel_rfl) (by kernel_rfl)) ?_
   rintro _ _ _ _ ⟨rfl,rfl,rfl⟩
   refine Rd 9 [1,2,3,11,14,16,17,18] [(1,.string a1),(2,.slice Aa2 a2.length ca2),(3,iv a3),(11,iv y4.2),(14,pg g4 0),(16,.bool y4.1),(17,pg g6 0),(18,.bool y5.2)]<|Ra 1 [1,1,1,1,1,1,1,0] [.c [1,1,1,1,1,1,1,1]]<|Rv 4 [1,2,3,11,16,17,18,92,95] [iv y2.1.Room,iv y2.1.Lease,.slice A5 y2.1.Blobs.length c5,.slice A6 y2.1.Entries.length c6] [.load ⟨g4,0,none⟩ (iv y2.1.Room),.load ⟨g4,1,none⟩ (iv y2.1.Lease),.load ⟨g4,2,none⟩ (.slice A5 y2.1.Blobs.length c5),.load ⟨g4,3,none⟩ (.slice A6 y2.1.Entries.length c6)] [(1,.string a1),(2,.slice Aa2 a2.length ca2),(3,iv a3),(11,iv y4.2),(16,.bool y4.1),(17,pg g6 0),(18,.bool y5.2),(92,.agg #[iv y2.1.Room,iv y2.1.Lease,.slice A5 y2.1.Blobs.length c5,.slice A6 y2.1.Entries.length c6]),(95,.agg #[iv 7,iv a3,.string ByteArray.empty,.slice none 0 0,.string a1,iv 0])] (fun w hh=>⟨(hh.box 2 rfl rfl),(hh.box 2 rfl rfl),(hh.box 2 rfl rfl),(hh.box 2 rfl rfl)⟩) ?_
   obtain ⟨y6,hy6,heq⟩:=bind_some heq
   refine RgH.does (DoesH.call (d:=96) (g:=45) (args:=#[.agg #[iv y2.1.Room,iv y2.1.Lease,.slice A5 y2.1.Blobs.length c5,.slice A6 y2.1.Entries.length c6],.agg #[iv 7,iv a3,.string ByteArray.empty,.slice none 0 0,.string a1,iv 0]]) (by kernel_rfl) (cache_Do_c (a0:=(⟨y2.1.Room,y2.1.Lease,y2.1.Blobs,y2.1.Entries⟩:Cache)) (a1:=(⟨7,a3,ByteArray.empty,([]:List ByteArray),a1,0⟩:CacheEvent)) (ho5.rw (.tail _ (.tail _ (.tail _ (.head _))))) ho5.cap rfl (ho6.rw (.tail _ (.tail _ (.tail _ (.tail _ (.head _)))))) ho6.cap rfl Rw.nil (Nat.le_refl _) rfl hy6)) ?_
   rintro _ H _ hl ⟨_,rfl,A10,c10,ch9,A11,c11,ch10,A12,c12,ch11,A13,c13,ch12,rfl,rfl,ho9,ho10,ho11,ho12⟩
   replace hra2:=hra2.mono hl
   replace hr1:=hr1.mono hl
   replace ho5:=ho5.mono hl
   replace ho6:=ho6.mono hl
   refine Rk 9 [1,2,3,11,16,17,18,97,98,99] [(1,.string a1),(2,.slice Aa2 a2.length ca2),(3,iv a3),(11,iv y4.2),(16,.bool y4.1),(17,pg g6 0),(18,.bool y5.2),(97,.agg #[iv y6.1.Room,iv y6.1.Lease,.slice A10 y6.1.Blobs.length c10,.slice A11 y6.1.Entries.length c11]),(98,.agg #[.bool y6.2.1.Done,.slice A12 y6.2.1.Missing.length c12,.slice A13 y6.2.1.Gone.length c13]),(99,iv y6.2.2)] ?_
   refine RgH.does (DoesH.new (d:=19) (v:=fun g=>.pointer (some ⟨g,0,none⟩)) (o:=fun g=>.cells #[iv 0,iv 0,.slice none 0 0,.slice none 0 0] 25 (0,0)) (fun g=>by kernel_rfl)) ?_
   rintro _ _ _ _ ⟨g7,rfl,rfl,rfl⟩
   refine RgH.does (DoesH.new (d:=20) (v:=fun g=>.pointer (some ⟨g,0,none⟩)) (o:=fun g=>.cells #[.bool false,.slice none 0 0,.slice none 0 0] 63 (0,0)) (fun g=>by kernel_rfl)) ?_
   rintro _ _ _ _ ⟨g8,rfl,rfl,rfl⟩
   refine RgH.does (DoesH.store (k:=1) (g:=g7) (off:=0) (v:=.agg #[iv y6.1.Room,iv y6.1.Lease,.slice A10 y6.1.Blobs.length c10,.slice A11 y6.1.Entries.length c11]) (cells':=#[iv y6.1.Room,iv y6.1.Lease,.slice A10 y6.1.Blobs.length c10,.slice A11 y6.1.Entries.length c11]) (by kernel_rfl) rfl (by kernel_rfl) (by kernel_rfl)) ?_
   rintro _ _ _ _ ⟨rfl,rfl,rfl⟩
   refine RgH.does (DoesH.store (k:=0) (g:=g8) (off:=0) (v:=.agg #[.bool y6.2.1.Done,.slice A12 y6.2.1.Missing.length c12,.slice A13 y6.2.1.Gone.length c13]) (cells':=#[.bool y6.2.1.Done,.slice A12 y6.2.1.Missing.length c12,.slice A13 y6.2.1.Gone.length c13]) (by kernel_rfl) rfl (by kernel_rfl) (by kernel_rfl)) ?_
   rintro _ _ _ _ ⟨rfl,rfl,rfl⟩
   refine Rd 14 [1,2,3,11,16,17,18,19,20,21] [(1,.string a1),(2,.slice Aa2 a2.length ca2),(3,iv a3),(11,iv y4.2),(16,.bool y4.1),(17,pg g6 0),(18,.bool y5.2),(19,pg g7 0),(20,pg g8 0),(21,iv y6.2.2)]<|Ad 1 [.c [1,1,1,1,1,1,1,1,0],.c [1,1,1,1,1,1,1,1,1]] ?_
   obtain ⟨t4,ht4,heq⟩:=bind_some heq
   have K24:∀ (H:Hp),RunH C12 (S12 F H0 r) H0 w0 [.c [1,1,1,1,1,1,1,1,1]] [(8,.bool t4)] H (F):=by
    intro H
    obtain rfl:=Option.some.inj heq
    exact RunH.done (by kernel_rfl) Tryd.func12 (v:=.bool t4) (by kernel_rfl) ⟨rfl,rfl⟩
   replace heq:=ht4
   refine Rr<|Rk 3 [102,1,2,3,16,17,18,19,20,21] [(102,.bool (y4.2 == 0)),(1,.string a1),(2,.slice Aa2 a2.length ca2),(3,iv a3),(16,.bool y4.1),(17,pg g6 0),(18,.bool y5.2),(19,pg g7 0),(20,pg g8 0),(21,iv y6.2.2)] ?_
   rcases bool_cases (y4.2 == 0) with hb5 | hb5
   ·replace heq:=bif_true hb5 heq
    refine RgH.val1 (v':=.bool true) (congrArg Value.bool hb5) ?_
    refine Rk 6 [105,1,2,3,17,18,19,20,21] [(105,.bool y4.1),(1,.string a1),(2,.slice Aa2 a2.length ca2),(3,iv a3),(17,pg g6 0),(18,.bool y5.2),(19,pg g7 0),(20,pg g8 0),(21,iv y6.2.2)] ?_
    rcases bool_cases (y4.1) with hb6 | hb6
    ·replace heq:=bif_true hb6 heq
     refine RgH.val1 (v':=.bool true) (congrArg Value.bool hb6) ?_
     refine Rk 9 [108,1,2,3,17,19,20,21] [(108,.bool y5.2),(1,.string a1),(2,.slice Aa2 a2.length ca2),(3,iv a3),(17,pg g6 0),(19,pg g7 0),(20,pg g8 0),(21,iv y6.2.2)] ?_
     rcases bool_cases (y5.2) with hb7 | hb7
     ·replace heq:=bif_true hb7 heq
      refine RgH.val1 (v':=.bool true) (congrArg Value.bool hb7) ?_
      refine Rv 12 [1,3,19,20,21,108,110,111] [.slice A9 y5.1.Refs.length c9] [.load ⟨g6,1,none⟩ (.slice A9 y5.1.Refs.length c9)] [(1,.string a1),(3,iv a3),(19,pg g7 0),(20,pg g8 0),(21,iv y6.2.2),(108,.bool true),(110,.slice A9 y5.1.Refs.length c9),(111,.slice Aa2 a2.length ca2)] (fun w hh=>(hh.box 6 rfl rfl)) ?_
      obtain ⟨y7,hy7,heq⟩:=bind_some heq
      refine RgH.does (DoesH.call (d:=112) (g:=28) (args:=#[.slice A9 y5.1.Refs.length c9,.slice Aa2 a2.length ca2]) (by kernel_rfl) (slices_Equal_string_c (a0:=y5.1.Refs) (a1:=a2) (Rw.of hr1) hc1 rfl (hra2.wk (fun _ h=>(.tail _ (.tail _ (.tail _ (.tail _ (.tail _ (.tail _ (.tail _ (.tail _ (.tail _ (.tail _ (.tail _ (.tail _ (.tail _ h))))))))))))))) hca2 rfl hy7)) ?_
      rintro _ _ _ _ ⟨_,rfl,rfl,rfl,rfl⟩
      refine Rk 15 [114,1,3,19,20,21] [(114,.bool y7),(1,.string a1),(3,iv a3),(19,pg g7 0),(20,pg g8 0),(21,iv y6.2.2)] ?_
      rcases bool_cases (y7) with hb8 | hb8
      ·replace heq:=bif_true hb8 heq
       refine RgH.val1 (v':=.bool true) (congrArg Value.bool hb8) ?_
       refine Rk 19 [118,1,3,19,20] [(118,.bool (y6.2.2 == 0)),(1,.string a1),(3,iv a3),(19,pg g7 0),(20,pg g8 0)] ?_
       rcases bool_cases (y6.2.2 == 0) with hb9 | hb9
       ·replace heq:=bif_true hb9 heq
        refine RgH.val1 (v':=.bool true) (congrArg Value.bool hb9) ?_
        refine Rv 23 [122,1,3,19] [.bool y6.2.1.Done] [.load ⟨g8,0,none⟩ (.bool y6.2.1.Done)] [(122,.bool y6.2.1.Done),(1,.string a1),(3,iv a3),(19,pg g7 0)] (fun w hh=>(hh.box 0 rfl rfl)) ?_
        rcases bool_cases (y6.2.1.Done) with hb10 | hb10
        ·replace heq:=bif_true hb10 heq
         refine RgH.val1 (v':=.bool true) (congrArg Value.bool hb10) ?_
         refine Rv 26 [122,123,124,125] [iv y6.1.Room,iv y6.1.Lease,.slice A10 y6.1.Blobs.length c10,.slice A11 y6.1.Entries.length c11] [.load ⟨g7,0,none⟩ (iv y6.1.Room),.load ⟨g7,1,none⟩ (iv y6.1.Lease),.load ⟨g7,2,none⟩ (.slice A10 y6.1.Blobs.length c10),.load ⟨g7,3,none⟩ (.slice A11 y6.1.Entries.length c11)] [(122,.bool true),(123,.agg #[iv y6.1.Room,iv y6.1.Lease,.slice A10 y6.1.Blobs.length c10,.slice A11 y6.1.Entries.length c11]),(124,.string a1),(125,iv a3)] (fun w hh=>⟨(hh.box 1 rfl rfl),(hh.box 1 rfl rfl),(hh.box 1 rfl rfl),(hh.box 1 rfl rfl)⟩) ?_
         obtain ⟨y8,hy8,heq⟩:=bind_some heq
         refine RgH.does (DoesH.call (d:=126) (g:=47) (args:=#[.agg #[iv y6.1.Room,iv y6.1.Lease,.slice A10 y6.1.Blobs.length c10,.slice A11 y6.1.Entries.length c11],.string a1,iv a3]) (by kernel_rfl) (smithyardlaw7_leased_c (a0:=(⟨y6.1.Room,y6.1.Lease,y6.1.Blobs,y6.1.Entries⟩:Cache)) (a1:=a1) (a2:=a3) (ho9.rw (.tail _ (.tail _ (.head _)))) ho9.cap rfl (ho10.rw (.tail _ (.tail _ (.tail _ (.head _))))) ho10.cap rfl hy8)) ?_
         rintro _ _ _ _ ⟨_,rfl,rfl,rfl,rfl⟩
         refine Rk 29 [128] [(128,.bool y8)] ?_
         rcases bool_cases (y8) with hb11 | hb11
         ·replace heq:=bif_true hb11 heq
          refine RgH.val1 (v':=.bool true) (congrArg Value.bool hb11) ?_
          obtain ⟨y9,hy9,heq⟩:=bind_some heq
          refine RgH.does (DoesH.call (d:=129) (g:=29) (args:=(List.toArray [])) (by kernel_rfl) (smithyardlaw7_awake_c  hy9)) ?_
          rintro _ _ _ _ ⟨_,rfl,rfl,rfl,rfl⟩
          refine Rk 32 [8] [(8,.bool y9)] ?_
          obtain rfl:=Option.some.inj heq
          refine Kg [8] [(8,.bool y9)] ?_
          refine RgH.pick 13 [] (cs':=F) (by kernel_rfl) rfl ?_
          refine Dn ?_
          exact K24 _
         ·replace heq:=bif_false hb11 heq
          refine RgH.val1 (v':=.bool false) (congrArg Value.bool hb11) ?_
          refine Rk 32 [8] [(8,.bool false)] ?_
          obtain rfl:=Option.some.inj heq
          refine Kg [8] [(8,.bool false)] ?_
          refine RgH.pick 13 [] (cs':=F) (by kernel_rfl) rfl ?_
          refine Dn ?_
          exact K24 _
        ·replace heq:=bif_false hb10 heq
         refine RgH.val1 (v':=.bool false) (congrArg Value.bool hb10) ?_
         refine Rk 32 [8] [(8,.bool false)] ?_
         obtain rfl:=Option.some.inj heq
         refine Kg [8] [(8,.bool false)] ?_
         refine RgH.pick 13 [] (cs':=F) (by kernel_rfl) rfl ?_
         refine Dn ?_
         exact K24 _
       ·replace heq:=bif_false hb9 heq
        refine RgH.val1 (v':=.bool false) (congrArg Value.bool hb9) ?_
        refine Rk 32 [8] [(8,.bool false)] ?_
        obtain rfl:=Option.some.inj heq
        refine Kg [8] [(8,.bool false)] ?_
        refine RgH.pick 13 [] (cs':=F) (by kernel_rfl) rfl ?_
        refine Dn ?_
        exact K24 _
      ·replace heq:=bif_false hb8 heq
       refine RgH.val1 (v':=.bool false) (congrArg Value.bool hb8) ?_
       refine Rk 32 [8] [(8,.bool false)] ?_
       obtain rfl:=Option.some.inj heq
       refine Kg [8] [(8,.bool false)] ?_
       refine RgH.pick 13 [] (cs':=F) (by kernel_rfl) rfl ?_
       refine Dn ?_
       exact K24 _
     ·replace heq:=bif_false hb7 heq
      refine RgH.val1 (v':=.bool false) (congrArg Value.bool hb7) ?_
      refine Rk 32 [8] [(8,.bool false)] ?_
      obtain rfl:=Option.some.inj heq
      refine Kg [8] [(8,.bool false)] ?_
      refine RgH.pick 13 [] (cs':=F) (by kernel_rfl) rfl ?_
      refine Dn ?_
      exact K24 _
    ·replace heq:=bif_false hb6 heq
     refine RgH.val1 (v':=.bool false) (congrArg Value.bool hb6) ?_
     refine Rk 32 [8] [(8,.bool false)] ?_
     obtain rfl:=Option.some.inj heq
     refine Kg [8] [(8,.bool false)] ?_
     refine RgH.pick 13 [] (cs':=F) (by kernel_rfl) rfl ?_
     refine Dn ?_
     exact K24 _
   ·replace heq:=bif_false hb5 heq
    refine RgH.val1 (v':=.bool false) (congrArg Value.bool hb5) ?_
    refine Rk 32 [8] [(8,.bool false)] ?_
    obtain rfl:=Option.some.inj heq
    refine Kg [8] [(8,.bool false)] ?_
    refine RgH.pick 13 [] (cs':=F) (by kernel_rfl) rfl ?_
    refine Dn ?_
    exact K24 _
 replace heq:=ht2
 refine Rr<|Rk 3 [68,1,2,3,14,15] [(68,.bool (y2.2.2 != 0)),(1,.string a1),(2,.slice Aa2 a2.length ca2),(3,iv a3),(14,pg g4 0),(15,pg g5 0)] ?_
 rcases bool_cases (y2.2.2 != 0) with hb2 | hb2
 ·replace heq:=bif_true hb2 heq
  refine RgH.val1 (v':=.bool true) (congrArg Value.bool hb2) ?_
  refine Rk 7 [1,2,3,14,15,72] [(1,.string a1),(2,.slice Aa2 a2.length ca2),(3,iv a3),(14,pg g4 0),(15,pg g5 0),(72,.bool true)] ?_
  obtain rfl:=Option.some.inj heq
  refine Kg [1,2,3,14,15,72] [(1,.string a1),(2,.slice Aa2 a2.length ca2),(3,iv a3),(14,pg g4 0),(15,pg g5 0),(72,.bool true)] ?_
  refine RgH.pick 7 [0,1,2,3,4,5] (cs':=(some (g5,.cells #[.bool y2.2.1.Done,.slice A7 y2.2.1.Missing.length c7,.slice A8 y2.2.1.Gone.length c8] 63 (0,0)))::(some (g4,.cells #[iv y2.1.Room,iv y2.1.Lease,.slice A5 y2.1.Blobs.length c5,.slice A6 y2.1.Entries.length c6] 25 (0,0)))::ch5::ch6::ch7::ch8::F) (by kernel_rfl) rfl ?_
  refine Dn ?_
  exact K15 _ hra2 ho5 ho6 ho7 ho8
 ·replace heq:=bif_false hb2 heq
  refine RgH.val1 (v':=.bool false) (congrArg Value.bool hb2) ?_
  refine Rv 7 [1,2,3,14,15,72] [.bool y2.2.1.Done] [.load ⟨g5,0,none⟩ (.bool y2.2.1.Done)] [(1,.string a1),(2,.slice Aa2 a2.length ca2),(3,iv a3),(14,pg g4 0),(15,pg g5 0),(72,.bool (!y2.2.1.Done))] (fun w hh=>(hh.box 0 rfl rfl)) ?_
  obtain rfl:=Option.some.inj heq
  refine Kg [1,2,3,14,15,72] [(1,.string a1),(2,.slice Aa2 a2.length ca2),(3,iv a3),(14,pg g4 0),(15,pg g5 0),(72,.bool (!y2.2.1.Done))] ?_
  refine RgH.pick 7 [0,1,2,3,4,5] (cs':=(some (g5,.cells #[.bool y2.2.1.Done,.slice A7 y2.2.1.Missing.length c7,.slice A8 y2.2.1.Gone.length c8] 63 (0,0)))::(some (g4,.cells #[iv y2.1.Room,iv y2.1.Lease,.slice A5 y2.1.Blobs.length c5,.slice A6 y2.1.Entries.length c6] 25 (0,0)))::ch5::ch6::ch7::ch8::F) (by kernel_rfl) rfl ?_
  refine Dn ?_
  exact K15 _ hra2 ho5 ho6 ho7 ho8
theorem smithyardlaw7_CacheFindsWhole_c {w0:World} {H0:Hp} {F:List Ch} {a0:Cache} {Aa0_2:Option Addr} {na0_2:Nat} {ca0_2:Nat} {Aa0_3:Option Addr} {na0_3:Nat} {ca0_3:Nat} {a1:ByteArray} {a2:List ByteArray} {Aa2:Option Addr} {na2:Nat} {ca2:Nat} {a3:Int} {r:Bool} (hra0_2:Rw kBlob H0 F Aa0_2 a0.Blobs) (hca0_2:na0_2≤ca0_2) (hna0_2:na0_2=a0.Blobs.length) (hra0_3:Rw kEntry H0 F Aa0_3 a0.Entries) (hca0_3:na0_3≤ca0_3) (hna0_3:na0_3=a0.Entries.length) (hra2:Rw Kd.string H0 F Aa2 a2) (hca2:na2≤ca2) (hna2:na2=a2.length) (heq:smithyardlaw7_CacheFindsWhole.f a0 a1 a2 a3=some r):CallsH Tryd.prog 12 #[.agg #[iv a0.Room,iv a0.Lease,.slice Aa0_2 na0_2 ca0_2,.slice Aa0_3 na0_3 ca0_3],.string a1,.slice Aa2 na2 ca2,iv a3] H0 w0 (F) (S12 F H0 r):=by
 refine calls_of_runH (F:=C12) Tryd.func12 (by kernel_rfl) Tryd.ntmps12 (args:=[.agg #[iv a0.Room,iv a0.Lease,.slice Aa0_2 na0_2 ca0_2,.slice Aa0_3 na0_3 ca0_3],.string a1,.slice Aa2 na2 ca2,iv a3]) (by kernel_rfl) ?_
 subst hna0_2
 subst hna0_3
 subst hna2
 unfold smithyardlaw7_CacheFindsWhole.f at heq
 suffices key:∀ (H:Hp),Rw kBlob H F Aa0_2 a0.Blobs→Rw kEntry H F Aa0_3 a0.Entries→Rw Kd.string H F Aa2 a2→RunH C12 (S12 F H0 r) H0 w0 [.c []] (argL 0 [.agg #[iv a0.Room,iv a0.Lease,.slice Aa0_2 (a0.Blobs.length) ca0_2,.slice Aa0_3 (a0.Entries.length) ca0_3],.string a1,.slice Aa2 (a2.length) ca2,iv a3]) H (F) from key H0 hra0_2 hra0_3 hra2
 intro H hra0_2 hra0_3 hra2
 refine Ra 1 [0] [.c [1]] ?_
 refine RgH.does (DoesH.new (d:=4) (v:=fun g=>.pointer (some ⟨g,0,none⟩)) (o:=fun g=>.cells #[iv a0.Room,iv a0.Lease,.slice Aa0_2 a0.Blobs.length ca0_2,.slice Aa0_3 a0.Entries.length ca0_3] 25 (0,0)) (fun g=>by kernel_rfl)) ?_
 rintro _ _ _ _ ⟨g1,rfl,rfl,rfl⟩
 refine Rd 2 [1,2,3,4] [(1,.string a1),(2,.slice Aa2 a2.length ca2),(3,iv a3),(4,pg g1 0)]<|Ra 1 [1,0] [.c [1,1]]<|Rv 4 [1,2,3,4,23,26] [iv a0.Room,iv a0.Lease,.slice Aa0_2 a0.Blobs.length ca0_2,.slice Aa0_3 a0.Entries.length ca0_3] [.load ⟨g1,0,none⟩ (iv a0.Room),.load ⟨g1,1,none⟩ (iv a0.Lease),.load ⟨g1,2,none⟩ (.slice Aa0_2 a0.Blobs.length ca0_2),.load ⟨g1,3,none⟩ (.slice Aa0_3 a0.Entries.length ca0_3)] [(1,.string a1),(2,.slice Aa2 a2.length ca2),(3,iv a3),(4,pg g1 0),(23,.agg #[iv a0.Room,iv a0.Lease,.slice Aa0_2 a0.Blobs.length ca0_2,.slice Aa0_3 a0.Entries.length ca0_3]),(26,.agg #[iv 7,iv a3,.string ByteArray.empty,.slice none 0 0,.string a1,iv 0])] (fun w hh=>⟨(hh.box 0 rfl rfl),(hh.box 0 rfl rfl),(hh.box 0 rfl rfl),(hh.box 0 rfl rfl)⟩) ?_
 obtain ⟨y1,hy1,heq⟩:=bind_some heq
 refine RgH.does (DoesH.call (d:=27) (g:=45) (args:=#[.agg #[iv a0.Room,iv a0.Lease,.slice Aa0_2 a0.Blobs.length ca0_2,.slice Aa0_3 a0.Entries.length ca0_3],.agg #[iv 7,iv a3,.string ByteArray.empty,.slice none 0 0,.string a1,iv 0]]) (by kernel_rfl) (cache_Do_c (a0:=a0) (a1:=(⟨7,a3,ByteArray.empty,([]:List ByteArray),a1,0⟩:CacheEvent)) (hra0_2.wk (fun _ h=>(.tail _ h))) hca0_2 rfl (hra0_3.wk (fun _ h=>(.tail _ h))) hca0_3 rfl Rw.nil (Nat.le_refl _) rfl hy1)) ?_
 rintro _ H _ hl ⟨_,rfl,A1,c1,ch1,A2,c2,ch2,A3,c3,ch3,A4,c4,ch4,rfl,rfl,ho1,ho2,ho3,ho4⟩
 replace hra2:=hra2.mono hl
 replace hra0_2:=hra0_2.mono hl
 replace hra0_3:=hra0_3.mono hl
 refine Rk 9 [1,2,3,4,28,29,30] [(1,.string a1),(2,.slice Aa2 a2.length ca2),(3,iv a3),(4,pg g1 0),(28,.agg #[iv y1.1.Room,iv y1.1.Lease,.slice A1 y1.1.Blobs.length c1,.slice A2 y1.1.Entries.length c2]),(29,.agg #[.bool y1.2.1.Done,.slice A3 y1.2.1.Missing.length c3,.slice A4 y1.2.1.Gone.length c4]),(30,iv y1.2.2)] ?_
 refine RgH.does (DoesH.new (d:=9) (v:=fun g=>.pointer (some ⟨g,0,none⟩)) (o:=fun g=>.cells #[iv 0,iv 0,.slice none 0 0,.slice none 0 0] 25 (0,0)) (fun g=>by kernel_rfl)) ?_
 rintro _ _ _ _ ⟨g2,rfl,rfl,rfl⟩
 refine RgH.does (DoesH.new (d:=10) (v:=fun g=>.pointer (some ⟨g,0,none⟩)) (o:=fun g=>.cells #[.bool false,.slice none 0 0,.slice none 0 0] 63 (0,0)) (fun g=>by kernel_rfl)) ?_
 rintro _ _ _ _ ⟨g3,rfl,rfl,rfl⟩
 refine RgH.does (DoesH.store (k:=1) (g:=g2) (off:=0) (v:=.agg #[iv y1.1.Room,iv y1.1.Lease,.slice A1 y1.1.Blobs.length c1,.slice A2 y1.1.Entries.length c2]) (cells':=#[iv y1.1.Room,iv y1.1.Lease,.slice A1 y1.1.Blobs.length c1,.slice A2 y1.1.Entries.length c2]) (by kernel_rfl) rfl (by kernel_rfl) (by kernel_rfl)) ?_
 rintro _ _ _ _ ⟨rfl,rfl,rfl⟩
 refine RgH.does (DoesH.store (k:=0) (g:=g3) (off:=0) (v:=.agg #[.bool y1.2.1.Done,.slice A3 y1.2.1.Missing.length c3,.slice A4 y1.2.1.Gone.length c4]) (cells':=#[.bool y1.2.1.Done,.slice A3 y1.2.1.Missing.length c3,.slice A4 y1.2.1.Gone.length c4]) (by kernel_rfl) rfl (by kernel_rfl) (by kernel_rfl)) ?_
 rintro _ _ _ _ ⟨rfl,rfl,rfl⟩
 refine Rd 14 [1,2,3,4,9,10,11] [(1,.string a1),(2,.slice Aa2 a2.length ca2),(3,iv a3),(4,pg g1 0),(9,pg g2 0),(10,pg g3 0),(11,iv y1.2.2)]<|Ad 2 [.c [1,1,0,0],.c [1,1,0,1],.c [1,1,1]] ?_
 obtain ⟨t1,ht1,heq⟩:=bind_some heq
 have K8:∀ (H:Hp),Rw kBlob H F Aa0_2 a0.Blobs→Rw kEntry H F Aa0_3 a0.Entries→Rw Kd.string H F Aa2 a2→SlOwn kBlob 47 H A1 c1 y1.1.Blobs ch1→SlOwn kEntry 51 H A2 c2 y1.1.Entries ch2→RunH C12 (S12 F H0 r) H0 w0 [.c [1,1,0,1],.c [1,1,1]] [(1,.string a1),(2,.slice Aa2 a2.length ca2),(3,iv a3),(4,pg g1 0),(9,pg g2 0),(36,.bool t1)] H ((some (g2,.cells #[iv y1.1.Room,iv y1.1.Lease,.slice A1 y1.1.Blobs.length c1,.slice A2 y1.1.Entries.length c2] 25 (0,0)))::ch1::ch2::(some (g1,.cells #[iv a0.Room,iv a0.Lease,.slice Aa0_2 a0.Blobs.length ca0_2,.slice Aa0_3 a0.Entries.length ca0_3] 25 (0,0)))::F):=by
  intro H hra0_2 hra0_3 hra2 ho1 ho2
  rcases bool_cases (t1) with hb12 | hb12
  ·replace heq:=bif_true hb12 heq
   refine Ct t1 hb12<|Ra 1 [1,1,0,1,0,0] [.c [1,1,0,1,0,1],.c [1,1,1]]<|Rv 2 [1,2,3,4,9,38,39] [iv y1.1.Room,iv y1.1.Lease,.slice A1 y1.1.Blobs.length c1,.slice A2 y1.1.Entries.length c2] [.load ⟨g2,0,none⟩ (iv y1.1.Room),.load ⟨g2,1,none⟩ (iv y1.1.Lease),.load ⟨g2,2,none⟩ (.slice A1 y1.1.Blobs.length c1),.load ⟨g2,3,none⟩ (.slice A2 y1.1.Entries.length c2)] [(1,.string a1),(2,.slice Aa2 a2.length ca2),(3,iv a3),(4,pg g1 0),(9,pg g2 0),(38,.agg #[iv y1.1.Room,iv y1.1.Lease,.slice A1 y1.1.Blobs.length c1,.slice A2 y1.1.Entries.length c2]),(39,.string a1)] (fun w hh=>⟨(hh.box 0 rfl rfl),(hh.box 0 rfl rfl),(hh.box 0 rfl rfl),(hh.box 0 rfl rfl)⟩) ?_
   obtain ⟨y10,hy10,heq⟩:=bind_some heq
   refine RgH.does (DoesH.call (d:=40) (g:=31) (args:=#[.agg #[iv y1.1.Room,iv y1.1.Lease,.slice A1 y1.1.Blobs.length c1,.slice A2 y1.1.Entries.length c2],.string a1]) (by kernel_rfl) (cache_Whole_c (a0:=(⟨y1.1.Room,y1.1.Lease,y1.1.Blobs,y1.1.Entries⟩:Cache)) (a1:=a1) (ho1.rw (.tail _ (.head _))) ho1.cap rfl (ho2.rw (.tail _ (.tail _ (.head _)))) ho2.cap rfl hy10)) ?_
   rintro _ _ _ _ ⟨_,rfl,rfl,rfl,rfl⟩
   refine Rd 8 [1,2,3,4,9,12,13] [(1,.string a1),(2,.slice Aa2 a2.length ca2),(3,iv a3),(4,pg g1 0),(9,pg g2 0),(12,.bool y10.1),(13,iv y10.2)]<|Ad 1 [.c [1,1,0,1,0,1,0],.c [1,1,0,1,0,1,1],.c [1,1,1]] ?_
   obtain ⟨t5,ht5,heq⟩:=bind_some heq
   have K25:∀ (H:Hp),Rw kBlob H F Aa0_2 a0.Blobs→Rw kEntry H F Aa0_3 a0.Entries→Rw Kd.string H F Aa2 a2→RunH C12 (S12 F H0 r) H0 w0 [.c [1,1,0,1,0,1,1],.c [1,1,1]] [(1,.string a1),(2,.slice Aa2 a2.length ca2),(3,iv a3),(4,pg g1 0),(55,.bool t5)] H ((some (g1,.cells #[iv a0.Room,iv a0.Lease,.slice Aa0_2 a0.Blobs.length ca0_2,.slice Aa0_3 a0.Entries.length ca0_3] 25 (0,0)))::F):=by
    intro H hra0_2 hra0_3 hra2
    rcases bool_cases (t5) with hb15 | hb15
    ·replace heq:=bif_true hb15 heq
     refine Ct t5 hb15<|Ra 1 [1,1,0,1,0,1,1,0,0] [.c [1,1,0,1,0,1,1,0,1],.c [1,1,1]]<|Rd 1 [8] [(8,.bool false)] ?_
     obtain rfl:=Option.some.inj heq
     refine RunH.pick 1 [] (cs':=F) (by kernel_rfl) rfl ?_
     exact RunH.done (by kernel_rfl) Tryd.func12 (v:=.bool false) (by kernel_rfl) ⟨rfl,rfl⟩
    ·replace heq:=bif_false hb15 heq
     refine Cf t5 hb15<|Ad 2 [.c [1,1,1,0],.c [1,1,1,1]]<|Kp [1,2,3,4] [(1,.string a1),(2,.slice Aa2 a2.length ca2),(3,iv a3),(4,pg g1 0)] ?_
     exact (smithyardlaw7_CacheFindsWhole.j1_c) _ a0 _ _ _ _ a1 a2 _ _ a3 _ hra0_2 hca0_2 hra0_3 hca0_3 hra2 hca2 heq
   replace heq:=ht5
   refine Rr<|Rk 3 [45,1,2,3,4,9,12] [(45,.bool (y10.2 != 0)),(1,.string a1),(2,.slice Aa2 a2.length ca2),(3,iv a3),(4,pg g1 0),(9,pg g2 0),(12,.bool y10.1)] ?_
   rcases bool_cases (y10.2 != 0) with hb13 | hb13
   ·replace heq:=bif_true hb13 heq
    refine RgH.val1 (v':=.bool true) (congrArg Value.bool hb13) ?_
    refine Rk 13 [1,2,3,4,55] [(1,.string a1),(2,.slice Aa2 a2.length ca2),(3,iv a3),(4,pg g1 0),(55,.bool true)] ?_
    obtain rfl:=Option.some.inj heq
    refine Kg [1,2,3,4,55] [(1,.string a1),(2,.slice Aa2 a2.length ca2),(3,iv a3),(4,pg g1 0),(55,.bool true)] ?_
    refine RgH.pick 4 [3] (cs':=(some (g1,.cells #[iv a0.Room,iv a0.Lease,.slice Aa0_2 a0.Blobs.length ca0_2,.slice Aa0_3 a0.Entries.length ca0_3] 25 (0,0)))::F) (by kernel_rfl) rfl ?_
    refine Dn ?_
    exact K25 _ hra0_2 hra0_3 hra2
   ·replace heq:=bif_false hb13 heq
    refine RgH.val1 (v':=.bool false) (congrArg Value.bool hb13) ?_
    refine Rk 7 [49,1,2,3,4,9] [(49,.bool (!y10.1)),(1,.string a1),(2,.slice Aa2 a2.length ca2),(3,iv a3),(4,pg g1 0),(9,pg g2 0)] ?_
    rcases bool_cases (!y10.1) with hb14 | hb14
    ·replace heq:=bif_true hb14 heq
     refine RgH.val1 (v':=.bool true) (congrArg Value.bool hb14) ?_
     refine Rk 13 [1,2,3,4,55] [(1,.string a1),(2,.slice Aa2 a2.length ca2),(3,iv a3),(4,pg g1 0),(55,.bool true)] ?_
     obtain rfl:=Option.some.inj heq
     refine Kg [1,2,3,4,55] [(1,.string a1),(2,.slice Aa2 a2.length ca2),(3,iv a3),(4,pg g1 0),(55,.bool true)] ?_
     refine RgH.pick 4 [3] (cs':=(some (g1,.cells #[iv a0.Room,iv a0.Lease,.slice Aa0_2 a0.Blobs.length ca0_2,.slice Aa0_3 a0.Entries.length ca0_3] 25 (0,0)))::F) (by kernel_rfl) rfl ?_
     refine Dn ?_
     exact K25 _ hra0_2 hra0_3 hra2
    ·replace heq:=bif_false hb14 heq
     refine RgH.val1 (v':=.bool false) (congrArg Value.bool hb14) ?_
     refine Rv 10 [1,2,3,4,49,50,51,52] [iv y1.1.Room,iv y1.1.Lease,.slice A1 y1.1.Blobs.length c1,.slice A2 y1.1.Entries.length c2] [.load ⟨g2,0,none⟩ (iv y1.1.Room),.load ⟨g2,1,none⟩ (iv y1.1.Lease),.load ⟨g2,2,none⟩ (.slice A1 y1.1.Blobs.length c1),.load ⟨g2,3,none⟩ (.slice A2 y1.1.Entries.length c2)] [(1,.string a1),(2,.slice Aa2 a2.length ca2),(3,iv a3),(4,pg g1 0),(49,.bool false),(50,.agg #[iv y1.1.Room,iv y1.1.Lease,.slice A1 y1.1.Blobs.length c1,.slice A2 y1.1.Entries.length c2]),(51,.string a1),(52,iv a3)] (fun w hh=>⟨(hh.box 0 rfl rfl),(hh.box 0 rfl rfl),(hh.box 0 rfl rfl),(hh.box 0 rfl rfl)⟩) ?_
     obtain ⟨y11,hy11,heq⟩:=bind_some heq
     refine RgH.does (DoesH.call (d:=53) (g:=47) (args:=#[.agg #[iv y1.1.Room,iv y1.1.Lease,.slice A1 y1.1.Blobs.length c1,.slice A2 y1.1.Entries.length c2],.string a1,iv a3]) (by kernel_rfl) (smithyardlaw7_leased_c (a0:=(⟨y1.1.Room,y1.1.Lease,y1.1.Blobs,y1.1.Entries⟩:Cache)) (a1:=a1) (a2:=a3) (ho1.rw (.tail _ (.head _))) ho1.cap rfl (ho2.rw (.tail _ (.tail _ (.head _)))) ho2.cap rfl hy11)) ?_
     rintro _ _ _ _ ⟨_,rfl,rfl,rfl,rfl⟩
     refine Rk 13 [1,2,3,4,55] [(1,.string a1),(2,.slice Aa2 a2.length ca2),(3,iv a3),(4,pg g1 0),(55,.bool (!y11))] ?_
     obtain rfl:=Option.some.inj heq
     refine Kg [1,2,3,4,55] [(1,.string a1),(2,.slice Aa2 a2.length ca2),(3,iv a3),(4,pg g1 0),(55,.bool (!y11))] ?_
     refine RgH.pick 4 [3] (cs':=(some (g1,.cells #[iv a0.Room,iv a0.Lease,.slice Aa0_2 a0.Blobs.length ca0_2,.slice Aa0_3 a0.Entries.length ca0_3] 25 (0,0)))::F) (by kernel_rfl) rfl ?_
     refine Dn ?_
     exact K25 _ hra0_2 hra0_3 hra2
  ·replace heq:=bif_false hb12 heq
   refine Cf t1 hb12<|Ad 2 [.c [1,1,1,0],.c [1,1,1,1]]<|Kp [1,2,3,4] [(1,.string a1),(2,.slice Aa2 a2.length ca2),(3,iv a3),(4,pg g1 0)] ?_
   refine RunH.pick 4 [3] (cs':=(some (g1,.cells #[iv a0.Room,iv a0.Lease,.slice Aa0_2 a0.Blobs.length ca0_2,.slice Aa0_3 a0.Entries.length ca0_3] 25 (0,0)))::F) (by kernel_rfl) rfl ?_
   exact (smithyardlaw7_CacheFindsWhole.j1_c) _ a0 _ _ _ _ a1 a2 _ _ a3 _ hra0_2 hca0_2 hra0_3 hca0_3 hra2 hca2 heq
 replace heq:=ht1
 refine Rr<|Rk 3 [33,1,2,3,4,9,10] [(33,.bool (y1.2.2 == 0)),(1,.string a1),(2,.slice Aa2 a2.length ca2),(3,iv a3),(4,pg g1 0),(9,pg g2 0),(10,pg g3 0)] ?_
 rcases bool_cases (y1.2.2 == 0) with hb1 | hb1
 ·replace heq:=bif_true hb1 heq
  refine RgH.val1 (v':=.bool true) (congrArg Value.bool hb1) ?_
  refine Rv 6 [1,2,3,4,9,36] [.bool y1.2.1.Done] [.load ⟨g3,0,none⟩ (.bool y1.2.1.Done)] [(1,.string a1),(2,.slice Aa2 a2.length ca2),(3,iv a3),(4,pg g1 0),(9,pg g2 0),(36,.bool y1.2.1.Done)] (fun w hh=>(hh.box 0 rfl rfl)) ?_
  obtain rfl:=Option.some.inj heq
  refine Kg [1,2,3,4,9,36] [(1,.string a1),(2,.slice Aa2 a2.length ca2),(3,iv a3),(4,pg g1 0),(9,pg g2 0),(36,.bool y1.2.1.Done)] ?_
  refine RgH.pick 7 [1,2,3,6] (cs':=(some (g2,.cells #[iv y1.1.Room,iv y1.1.Lease,.slice A1 y1.1.Blobs.length c1,.slice A2 y1.1.Entries.length c2] 25 (0,0)))::ch1::ch2::(some (g1,.cells #[iv a0.Room,iv a0.Lease,.slice Aa0_2 a0.Blobs.length ca0_2,.slice Aa0_3 a0.Entries.length ca0_3] 25 (0,0)))::F) (by kernel_rfl) rfl ?_
  refine Dn ?_
  exact K8 _ hra0_2 hra0_3 hra2 ho1 ho2
 ·replace heq:=bif_false hb1 heq
  refine RgH.val1 (v':=.bool false) (congrArg Value.bool hb1) ?_
  refine Rk 6 [1,2,3,4,9,36] [(1,.string a1),(2,.slice Aa2 a2.length ca2),(3,iv a3),(4,pg g1 0),(9,pg g2 0),(36,.bool false)] ?_
  obtain rfl:=Option.some.inj heq
  refine Kg [1,2,3,4,9,36] [(1,.string a1),(2,.slice Aa2 a2.length ca2),(3,iv a3),(4,pg g1 0),(9,pg g2 0),(36,.bool false)] ?_
  refine RgH.pick 7 [1,2,3,6] (cs':=(some (g2,.cells #[iv y1.1.Room,iv y1.1.Lease,.slice A1 y1.1.Blobs.length c1,.slice A2 y1.1.Entries.length c2] 25 (0,0)))::ch1::ch2::(some (g1,.cells #[iv a0.Room,iv a0.Lease,.slice Aa0_2 a0.Blobs.length ca0_2,.slice Aa0_3 a0.Entries.length ca0_3] 25 (0,0)))::F) (by kernel_rfl) rfl ?_
  refine Dn ?_
  exact K8 _ hra0_2 hra0_3 hra2 ho1 ho2
end Go.Proofs.YtkjilepjblffeaaDoor
