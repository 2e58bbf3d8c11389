/- What the machine's calls of these functions come to: just what the plain functions say. Written by program. -/
import Derived.Test.YtkjilepjblffeaaDoorProg
import Derived.Test.YtkjilepjblffeaaDoorKitX
import Derived.Test.YtkjilepjblffeaaDoorUD
import Derived.Test.YtkjilepjblffeaaDoorShelf
import Derived.Test.YtkjilepjblffeaaDoorU10M3
set_option linter.unusedVariables false
set_option linter.unusedSimpArgs false
set_option maxRecDepth 100000
set_option maxHeartbeats 1000000
namespace Go.Proofs.YtkjilepjblffeaaDoor
open Go Go.RowKit Go.Proofs.YtkjilepjblffeaaDoor.Kit
noncomputable def C10:Ctx:={ P:=Tryd.prog,f:=10,N:=65,c:=bodyOf Tryd.f10 }
def S10 (F:List Ch) (H0:Hp) (r:Bool) (v:Value) (H:Hp) (cs:List Ch):Prop:=v=.bool r∧F=cs
theorem smithyardlaw7_CachePutIsThere_c {w0:World} {H0:Hp} {F:List Ch} {a0:Cache} {Aa0_2:Option Addr} {na0_2:Nat} {ca0_2:Nat} {Aa0_3:Option Addr} {na0_3:Nat} {ca0_3:Nat} {a1:ByteArray} {a2:Int} {a3:Int} {r:Bool} (hra0_2:Rw kBlob H0 F Aa0_2 a0.Blobs) (hca0_2:na0_2≤ca0_2) (hna0_2:na0_2=a0.Blobs.length) (hra0_3:Rw kEntry H0 F Aa0_3 a0.Entries) (hca0_3:na0_3≤ca0_3) (hna0_3:na0_3=a0.Entries.length) (heq:smithyardlaw7_CachePutIsThere.f a0 a1 a2 a3=some r):CallsH Tryd.prog 10 #[.agg #[iv a0.Room,iv a0.Lease,.slice Aa0_2 na0_2 ca0_2,.slice Aa0_3 na0_3 ca0_3],.string a1,iv a2,iv a3] H0 w0 (F) (S10 F H0 r):=by
 refine calls_of_runH (F:=C10) Tryd.func10 (by kernel_rfl) Tryd.ntmps10 (args:=[.agg #[iv a0.Room,iv a0.Lease,.slice Aa0_2 na0_2 ca0_2,.slice Aa0_3 na0_3 ca0_3],.string a1,iv a2,iv a3]) (by kernel_rfl) ?_
 subst hna0_2
 subst hna0_3
 unfold smithyardlaw7_CachePutIsThere.f at heq
 suffices key:∀ (H:Hp),Rw kBlob H F Aa0_2 a0.Blobs→Rw kEntry H F Aa0_3 a0.Entries→RunH C10 (S10 F H0 r) H0 w0 [.c []] (argL 0 [.agg #[iv a0.Room,iv a0.Lease,.slice Aa0_2 (a0.Blobs.length) ca0_2,.slice Aa0_3 (a0.Entries.length) ca0_3],.string a1,iv a2,iv a3]) H (F) from key H0 hra0_2 hra0_3
 intro H hra0_2 hra0_3
 refine Ra 1 [0] [.c [1]] ?_
 refine RgH.does (DoesH.new (d:=4) (v:=fun g=>.pointer (some ⟨g,0,none⟩)) (o:=fun g=>.cells #[iv a0.Room,iv a0.Lease,.slice Aa0_2 a0.Blobs.length ca0_2,.slice Aa0_3 a0.Entries.length ca0_3] 25 (0,0)) (fun g=>by kernel_rfl)) ?_
 rintro _ _ _ _ ⟨g1,rfl,rfl,rfl⟩
 refine Rd 2 [1,2,3,4] [(1,.string a1),(2,iv a2),(3,iv a3),(4,pg g1 0)]<|Ra 1 [1,0] [.c [1,1]]<|Rv 5 [1,3,4,15,19] [iv a0.Room,iv a0.Lease,.slice Aa0_2 a0.Blobs.length ca0_2,.slice Aa0_3 a0.Entries.length ca0_3] [.load ⟨g1,0,none⟩ (iv a0.Room),.load ⟨g1,1,none⟩ (iv a0.Lease),.load ⟨g1,2,none⟩ (.slice Aa0_2 a0.Blobs.length ca0_2),.load ⟨g1,3,none⟩ (.slice Aa0_3 a0.Entries.length ca0_3)] [(1,.string a1),(3,iv a3),(4,pg g1 0),(15,.agg #[iv a0.Room,iv a0.Lease,.slice Aa0_2 a0.Blobs.length ca0_2,.slice Aa0_3 a0.Entries.length ca0_3]),(19,.agg #[iv 1,iv a3,.string a1,.slice none 0 0,.string ByteArray.empty,iv a2])] (fun w hh=>⟨(hh.box 0 rfl rfl),(hh.box 0 rfl rfl),(hh.box 0 rfl rfl),(hh.box 0 rfl rfl)⟩) ?_
 obtain ⟨y1,hy1,heq⟩:=bind_some heq
 refine RgH.does (DoesH.call (d:=20) (g:=45) (args:=#[.agg #[iv a0.Room,iv a0.Lease,.slice Aa0_2 a0.Blobs.length ca0_2,.slice Aa0_3 a0.Entries.length ca0_3],.agg #[iv 1,iv a3,.string a1,.slice none 0 0,.string ByteArray.empty,iv a2]]) (by kernel_rfl) (cache_Do_c (a0:=a0) (a1:=(⟨1,a3,a1,([]:List ByteArray),ByteArray.empty,a2⟩:CacheEvent)) (hra0_2.wk (fun _ h=>(.tail _ h))) hca0_2 rfl (hra0_3.wk (fun _ h=>(.tail _ h))) hca0_3 rfl Rw.nil (Nat.le_refl _) rfl hy1)) ?_
 rintro _ H _ hl ⟨_,rfl,A1,c1,ch1,A2,c2,ch2,A3,c3,ch3,A4,c4,ch4,rfl,rfl,ho1,ho2,ho3,ho4⟩
 replace hra0_2:=hra0_2.mono hl
 replace hra0_3:=hra0_3.mono hl
 refine Rk 10 [1,3,4,21,22,23] [(1,.string a1),(3,iv a3),(4,pg g1 0),(21,.agg #[iv y1.1.Room,iv y1.1.Lease,.slice A1 y1.1.Blobs.length c1,.slice A2 y1.1.Entries.length c2]),(22,.agg #[.bool y1.2.1.Done,.slice A3 y1.2.1.Missing.length c3,.slice A4 y1.2.1.Gone.length c4]),(23,iv y1.2.2)] ?_
 refine RgH.does (DoesH.new (d:=9) (v:=fun g=>.pointer (some ⟨g,0,none⟩)) (o:=fun g=>.cells #[iv 0,iv 0,.slice none 0 0,.slice none 0 0] 25 (0,0)) (fun g=>by kernel_rfl)) ?_
 rintro _ _ _ _ ⟨g2,rfl,rfl,rfl⟩
 refine RgH.does (DoesH.new (d:=10) (v:=fun g=>.pointer (some ⟨g,0,none⟩)) (o:=fun g=>.cells #[.bool false,.slice none 0 0,.slice none 0 0] 63 (0,0)) (fun g=>by kernel_rfl)) ?_
 rintro _ _ _ _ ⟨g3,rfl,rfl,rfl⟩
 refine RgH.does (DoesH.store (k:=1) (g:=g2) (off:=0) (v:=.agg #[iv y1.1.Room,iv y1.1.Lease,.slice A1 y1.1.Blobs.length c1,.slice A2 y1.1.Entries.length c2]) (cells':=#[iv y1.1.Room,iv y1.1.Lease,.slice A1 y1.1.Blobs.length c1,.slice A2 y1.1.Entries.length c2]) (by kernel_rfl) rfl (by kernel_rfl) (by kernel_rfl)) ?_
 rintro _ _ _ _ ⟨rfl,rfl,rfl⟩
 refine RgH.does (DoesH.store (k:=0) (g:=g3) (off:=0) (v:=.agg #[.bool y1.2.1.Done,.slice A3 y1.2.1.Missing.length c3,.slice A4 y1.2.1.Gone.length c4]) (cells':=#[.bool y1.2.1.Done,.slice A3 y1.2.1.Missing.length c3,.slice A4 y1.2.1.Gone.length c4]) (by kernel_rfl) rfl (by kernel_rfl) (by kernel_rfl)) ?_
 rintro _ _ _ _ ⟨rfl,rfl,rfl⟩
 refine Rd 15 [1,3,4,9,10,11] [(1,.string a1),(3,iv a3),(4,pg g1 0),(9,pg g2 0),(10,pg g3 0),(11,iv y1.2.2)]<|Ra 2 [1,1,0,0] [.c [1,1,0,1],.c [1,1,1]]<|Rd 2 [1,3,4,9,10,25] [(1,.string a1),(3,iv a3),(4,pg g1 0),(9,pg g2 0),(10,pg g3 0),(25,.bool (y1.2.2 != 0))] ?_
 rcases bool_cases (y1.2.2 != 0) with hb1 | hb1
 ·replace heq:=bif_true hb1 heq
  refine Ct (y1.2.2 != 0) hb1<|Ad 1 [.c [1,1,0,1,0,0],.c [1,1,0,1,0,1],.c [1,1,1]] ?_
  obtain ⟨t1,ht1,heq⟩:=bind_some heq
  have K8:∀ (H:Hp),RunH C10 (S10 F H0 r) H0 w0 [.c [1,1,0,1,0,1],.c [1,1,1]] [(8,.bool t1)] H (F):=by
   intro H
   obtain rfl:=Option.some.inj heq
   exact RunH.done (by kernel_rfl) Tryd.func10 (v:=.bool t1) (by kernel_rfl) ⟨rfl,rfl⟩
  replace heq:=ht1
  refine Rr<|Rv 4 [29] [.bool y1.2.1.Done] [.load ⟨g3,0,none⟩ (.bool y1.2.1.Done)] [(29,.bool (!y1.2.1.Done))] (fun w hh=>(hh.box 0 rfl rfl)) ?_
  rcases bool_cases (!y1.2.1.Done) with hb2 | hb2
  ·replace heq:=bif_true hb2 heq
   refine RgH.val1 (v':=.bool true) (congrArg Value.bool hb2) ?_
   obtain ⟨y2,hy2,heq⟩:=bind_some heq
   refine RgH.does (DoesH.call (d:=30) (g:=29) (args:=(List.toArray [])) (by kernel_rfl) (smithyardlaw7_awake_c  hy2)) ?_
   rintro _ _ _ _ ⟨_,rfl,rfl,rfl,rfl⟩
   refine Rk 7 [8] [(8,.bool y2)] ?_
   obtain rfl:=Option.some.inj heq
   refine Kg [8] [(8,.bool y2)] ?_
   refine RgH.pick 7 [] (cs':=F) (by kernel_rfl) rfl ?_
   refine Dn ?_
   exact K8 _
  ·replace heq:=bif_false hb2 heq
   refine RgH.val1 (v':=.bool false) (congrArg Value.bool hb2) ?_
   refine Rk 7 [8] [(8,.bool false)] ?_
   obtain rfl:=Option.some.inj heq
   refine Kg [8] [(8,.bool false)] ?_
   refine RgH.pick 7 [] (cs':=F) (by kernel_rfl) rfl ?_
   refine Dn ?_
   exact K8 _
 ·replace heq:=bif_false hb1 heq
  refine Cf (y1.2.2 != 0) hb1<|Ra 2 [1,1,1,0] [.c [1,1,1,1]]<|Rv 4 [4,9,10,33,36] [iv y1.1.Room,iv y1.1.Lease,.slice A1 y1.1.Blobs.length c1,.slice A2 y1.1.Entries.length c2] [.load ⟨g2,0,none⟩ (iv y1.1.Room),.load ⟨g2,1,none⟩ (iv y1.1.Lease),.load ⟨g2,2,none⟩ (.slice A1 y1.1.Blobs.length c1),.load ⟨g2,3,none⟩ (.slice A2 y1.1.Entries.length c2)] [(4,pg g1 0),(9,pg g2 0),(10,pg g3 0),(33,.agg #[iv y1.1.Room,iv y1.1.Lease,.slice A1 y1.1.Blobs.length c1,.slice A2 y1.1.Entries.length c2]),(36,.agg #[iv 2,iv a3,.string a1,.slice none 0 0,.string ByteArray.empty,iv 0])] (fun w hh=>⟨(hh.box 1 rfl rfl),(hh.box 1 rfl rfl),(hh.box 1 rfl rfl),(hh.box 1 rfl rfl)⟩) ?_
  obtain ⟨y3,hy3,heq⟩:=bind_some heq
  refine RgH.does (DoesH.call (d:=37) (g:=45) (args:=#[.agg #[iv y1.1.Room,iv y1.1.Lease,.slice A1 y1.1.Blobs.length c1,.slice A2 y1.1.Entries.length c2],.agg #[iv 2,iv a3,.string a1,.slice none 0 0,.string ByteArray.empty,iv 0]]) (by kernel_rfl) (cache_Do_c (a0:=(⟨y1.1.Room,y1.1.Lease,y1.1.Blobs,y1.1.Entries⟩:Cache)) (a1:=(⟨2,a3,a1,([]:List ByteArray),ByteArray.empty,0⟩:CacheEvent)) (ho1.rw (.tail _ (.tail _ (.head _)))) ho1.cap rfl (ho2.rw (.tail _ (.tail _ (.tail _ (.head _))))) ho2.cap rfl Rw.nil (Nat.le_refl _) rfl hy3)) ?_
  rintro _ H _ hl ⟨_,rfl,A5,c5,ch5,A6,c6,ch6,A7,c7,ch7,A8,c8,ch8,rfl,rfl,ho5,ho6,ho7,ho8⟩
  replace hra0_2:=hra0_2.mono hl
  replace hra0_3:=hra0_3.mono hl
  replace ho1:=ho1.mono hl
  replace ho2:=ho2.mono hl
  replace ho3:=ho3.mono hl
  replace ho4:=ho4.mono hl
  refine Rk 9 [4,9,10,38,39,40] [(4,pg g1 0),(9,pg g2 0),(10,pg g3 0),(38,.agg #[iv y3.1.Room,iv y3.1.Lease,.slice A5 y3.1.Blobs.length c5,.slice A6 y3.1.Entries.length c6]),(39,.agg #[.bool y3.2.1.Done,.slice A7 y3.2.1.Missing.length c7,.slice A8 y3.2.1.Gone.length c8]),(40,iv y3.2.2)] ?_
  refine RgH.does (DoesH.new (d:=12) (v:=fun g=>.pointer (some ⟨g,0,none⟩)) (o:=fun g=>.cells #[iv 0,iv 0,.slice none 0 0,.slice none 0 0] 25 (0,0)) (fun g=>by kernel_rfl)) ?_
  rintro _ _ _ _ ⟨g4,rfl,rfl,rfl⟩
  refine RgH.does (DoesH.new (d:=13) (v:=fun g=>.pointer (some ⟨g,0,none⟩)) (o:=fun g=>.cells #[.bool false,.slice none 0 0,.slice none 0 0] 63 (0,0)) (fun g=>by kernel_rfl)) ?_
  rintro _ _ _ _ ⟨g5,rfl,rfl,rfl⟩
  refine RgH.does (DoesH.store (k:=1) (g:=g4) (off:=0) (v:=.agg #[iv y3.1.Room,iv y3.1.Lease,.slice A5 y3.1.Blobs.length c5,.slice A6 y3.1.Entries.length c6]) (cells':=#[iv y3.1.Room,iv y3.1.Lease,.slice A5 y3.1.Blobs.length c5,.slice A6 y3.1.Entries.length c6]) (by kernel_rfl) rfl (by kernel_rfl) (by kernel_rfl)) ?_
  rintro _ _ _ _ ⟨rfl,rfl,rfl⟩
  refine RgH.does (DoesH.store (k:=0) (g:=g5) (off:=0) (v:=.agg #[.bool y3.2.1.Done,.slice A7 y3.2.1.Missing.length c7,.slice A8 y3.2.1.Gone.length c8]) (cells':=#[.bool y3.2.1.Done,.slice A7 y3.2.1.Missing.length c7,.slice A8 y3.2.1.Gone.length c8]) (by kernel_rfl) rfl (by kernel_rfl) (by kernel_rfl)) ?_
  rintro _ _ _ _ ⟨rfl,rfl,rfl⟩
  refine Rd 14 [4,9,10,11,13] [(4,pg g1 0),(9,pg g2 0),(10,pg g3 0),(11,iv y3.2.2),(13,pg g5 0)]<|Ad 2 [.c [1,1,1,1,0,0],.c [1,1,1,1,0,1],.c [1,1,1,1,1]] ?_
  obtain ⟨t2,ht2,heq⟩:=bind_some heq
  have K15:∀ (H:Hp),Rw kBlob H F Aa0_2 a0.Blobs→Rw kEntry H F Aa0_3 a0.Entries→SlOwn kBlob 47 H A1 c1 y1.1.Blobs ch1→SlOwn kEntry 51 H A2 c2 y1.1.Entries ch2→SlOwn Kd.string 9 H A3 c3 y1.2.1.Missing ch3→SlOwn Kd.string 9 H A4 c4 y1.2.1.Gone ch4→RunH C10 (S10 F H0 r) H0 w0 [.c [1,1,1,1,0,1],.c [1,1,1,1,1]] [(4,pg g1 0),(9,pg g2 0),(10,pg g3 0),(49,.bool t2)] H ((some (g3,.cells #[.bool y1.2.1.Done,.slice A3 y1.2.1.Missing.length c3,.slice A4 y1.2.1.Gone.length c4] 63 (0,0)))::(some (g2,.cells #[iv y1.1.Room,iv y1.1.Lease,.slice A1 y1.1.Blobs.length c1,.slice A2 y1.1.Entries.length c2] 25 (0,0)))::ch1::ch2::ch3::ch4::(some (g1,.cells #[iv a0.Room,iv a0.Lease,.slice Aa0_2 a0.Blobs.length ca0_2,.slice Aa0_3 a0.Entries.length ca0_3] 25 (0,0)))::F):=by
   intro H hra0_2 hra0_3 ho1 ho2 ho3 ho4
   rcases bool_cases (t2) with hb4 | hb4
   ·replace heq:=bif_true hb4 heq
    refine Ct t2 hb4<|Ra 1 [1,1,1,1,0,1,0,0] [.c [1,1,1,1,0,1,0,1],.c [1,1,1,1,1]]<|Rd 1 [8] [(8,.bool false)] ?_
    obtain rfl:=Option.some.inj heq
    refine RunH.pick 7 [] (cs':=F) (by kernel_rfl) rfl ?_
    exact RunH.done (by kernel_rfl) Tryd.func10 (v:=.bool false) (by kernel_rfl) ⟨rfl,rfl⟩
   ·replace heq:=bif_false hb4 heq
    refine Cf t2 hb4<|Ra 3 [1,1,1,1,1,0,0] [.c [1,1,1,1,1,0,1],.c [1,1,1,1,1,1]]<|Rw' 2 [4,9,10,51] [.bool y1.2.1.Done] [.load ⟨g3,0,none⟩ (.bool y1.2.1.Done)] [(4,pg g1 0),(9,pg g2 0),(10,pg g3 0),(51,.bool y1.2.1.Done)] (fun w hh=>(hh.box 0 rfl rfl)) ?_
    rcases bool_cases (y1.2.1.Done) with hb5 | hb5
    ·replace heq:=bif_true hb5 heq
     refine Ct y1.2.1.Done hb5<|Ra 1 [1,1,1,1,1,0,1,0,0] [.c [1,1,1,1,1,0,1,0,1],.c [1,1,1,1,1,1]] ?_
     obtain ⟨y4,hy4,heq⟩:=bind_some heq
     refine RgH.does (DoesH.call (d:=52) (g:=29) (args:=(List.toArray [])) (by kernel_rfl) (smithyardlaw7_awake_c  hy4)) ?_
     rintro _ _ _ _ ⟨_,rfl,rfl,rfl,rfl⟩
     refine Rd 2 [8] [(8,.bool y4)] ?_
     obtain rfl:=Option.some.inj heq
     refine RunH.pick 7 [] (cs':=F) (by kernel_rfl) rfl ?_
     exact RunH.done (by kernel_rfl) Tryd.func10 (v:=.bool y4) (by kernel_rfl) ⟨rfl,rfl⟩
    ·replace heq:=bif_false hb5 heq
     refine Cf y1.2.1.Done hb5<|Ad 2 [.c [1,1,1,1,1,1,0],.c [1,1,1,1,1,1,1]] ?_
     obtain ⟨t3,ht3,heq⟩:=bind_some heq
     have K16:∀ (H:Hp),RunH C10 (S10 F H0 r) H0 w0 [.c [1,1,1,1,1,1,1]] [(8,.bool t3)] H (F):=by
      intro H
      obtain rfl:=Option.some.inj heq
      exact RunH.done (by kernel_rfl) Tryd.func10 (v:=.bool t3) (by kernel_rfl) ⟨rfl,rfl⟩
     replace heq:=ht3
     refine Rr<|Rv 2 [10,53,54] [iv y1.1.Room,iv y1.1.Lease,.slice A1 y1.1.Blobs.length c1,.slice A2 y1.1.Entries.length c2,iv a0.Room,iv a0.Lease,.slice Aa0_2 a0.Blobs.length ca0_2,.slice Aa0_3 a0.Entries.length ca0_3] [.load ⟨g2,0,none⟩ (iv y1.1.Room),.load ⟨g2,1,none⟩ (iv y1.1.Lease),.load ⟨g2,2,none⟩ (.slice A1 y1.1.Blobs.length c1),.load ⟨g2,3,none⟩ (.slice A2 y1.1.Entries.length c2),.load ⟨g1,0,none⟩ (iv a0.Room),.load ⟨g1,1,none⟩ (iv a0.Lease),.load ⟨g1,2,none⟩ (.slice Aa0_2 a0.Blobs.length ca0_2),.load ⟨g1,3,none⟩ (.slice Aa0_3 a0.Entries.length ca0_3)] [(10,pg g3 0),(53,.agg #[iv y1.1.Room,iv y1.1.Lease,.slice A1 y1.1.Blobs.length c1,.slice A2 y1.1.Entries.length c2]),(54,.agg #[iv a0.Room,iv a0.Lease,.slice Aa0_2 a0.Blobs.length ca0_2,.slice Aa0_3 a0.Entries.length ca0_3])] (fun w hh=>⟨(hh.box 1 rfl rfl),(hh.box 1 rfl rfl),(hh.box 1 rfl rfl),(hh.box 1 rfl rfl),(hh.box 6 rfl rfl),(hh.box 6 rfl rfl),(hh.box 6 rfl rfl),(hh.box 6 rfl rfl)⟩) ?_
     obtain ⟨y5,hy5,heq⟩:=bind_some heq
     refine RgH.does (DoesH.call (d:=55) (g:=21) (args:=#[.agg #[iv y1.1.Room,iv y1.1.Lease,.slice A1 y1.1.Blobs.length c1,.slice A2 y1.1.Entries.length c2],.agg #[iv a0.Room,iv a0.Lease,.slice Aa0_2 a0.Blobs.length ca0_2,.slice Aa0_3 a0.Entries.length ca0_3]]) (by kernel_rfl) (smithyardref7_Same_c (a0:=(⟨y1.1.Room,y1.1.Lease,y1.1.Blobs,y1.1.Entries⟩:Cache)) (a1:=a0) (ho1.rw (.tail _ (.tail _ (.head _)))) ho1.cap rfl (ho2.rw (.tail _ (.tail _ (.tail _ (.head _))))) ho2.cap rfl (hra0_2.wk (fun _ h=>(.tail _ (.tail _ (.tail _ (.tail _ (.tail _ (.tail _ (.tail _ h))))))))) hca0_2 rfl (hra0_3.wk (fun _ h=>(.tail _ (.tail _ (.tail _ (.tail _ (.tail _ (.tail _ (.tail _ h))))))))) hca0_3 rfl hy5)) ?_
     rintro _ _ _ _ ⟨_,rfl,rfl,rfl,rfl⟩
     refine Rk 4 [56,10] [(56,.bool y5),(10,pg g3 0)] ?_
     rcases bool_cases (y5) with hb6 | hb6
     ·replace heq:=bif_true hb6 heq
      refine RgH.val1 (v':=.bool true) (congrArg Value.bool hb6) ?_
      refine Rv 10 [62] [.slice A4 y1.2.1.Gone.length c4] [.load ⟨g3,2,none⟩ (.slice A4 y1.2.1.Gone.length c4)] [(62,.bool ((y1.2.1.Gone.length:Int) == 0))] (fun w hh=>(hh.box 0 rfl rfl)) ?_
      rcases bool_cases ((y1.2.1.Gone.length:Int) == 0) with hb7 | hb7
      ·replace heq:=bif_true hb7 heq
       refine RgH.val1 (v':=.bool true) (congrArg Value.bool hb7) ?_
       obtain ⟨y6,hy6,heq⟩:=bind_some heq
       refine RgH.does (DoesH.call (d:=63) (g:=29) (args:=(List.toArray [])) (by kernel_rfl) (smithyardlaw7_awake_c  hy6)) ?_
       rintro _ _ _ _ ⟨_,rfl,rfl,rfl,rfl⟩
       refine Rk 13 [8] [(8,.bool y6)] ?_
       obtain rfl:=Option.some.inj heq
       refine Kg [8] [(8,.bool y6)] ?_
       refine RgH.pick 7 [] (cs':=F) (by kernel_rfl) rfl ?_
       refine Dn ?_
       exact K16 _
      ·replace heq:=bif_false hb7 heq
       refine RgH.val1 (v':=.bool false) (congrArg Value.bool hb7) ?_
       refine Rk 13 [8] [(8,.bool false)] ?_
       obtain rfl:=Option.some.inj heq
       refine Kg [8] [(8,.bool false)] ?_
       refine RgH.pick 7 [] (cs':=F) (by kernel_rfl) rfl ?_
       refine Dn ?_
       exact K16 _
     ·replace heq:=bif_false hb6 heq
      refine RgH.val1 (v':=.bool false) (congrArg Value.bool hb6) ?_
      refine Rk 13 [8] [(8,.bool false)] ?_
      obtain rfl:=Option.some.inj heq
      refine Kg [8] [(8,.bool false)] ?_
      refine RgH.pick 7 [] (cs':=F) (by kernel_rfl) rfl ?_
      refine Dn ?_
      exact K16 _
  replace heq:=ht2
  refine Rr<|Rk 3 [43,4,9,10,13] [(43,.bool (y3.2.2 != 0)),(4,pg g1 0),(9,pg g2 0),(10,pg g3 0),(13,pg g5 0)] ?_
  rcases bool_cases (y3.2.2 != 0) with hb3 | hb3
  ·replace heq:=bif_true hb3 heq
   refine RgH.val1 (v':=.bool true) (congrArg Value.bool hb3) ?_
   refine Rk 9 [4,9,10,49] [(4,pg g1 0),(9,pg g2 0),(10,pg g3 0),(49,.bool true)] ?_
   obtain rfl:=Option.some.inj heq
   refine Kg [4,9,10,49] [(4,pg g1 0),(9,pg g2 0),(10,pg g3 0),(49,.bool true)] ?_
   refine RgH.pick 13 [6,7,8,9,10,11,12] (cs':=(some (g3,.cells #[.bool y1.2.1.Done,.slice A3 y1.2.1.Missing.length c3,.slice A4 y1.2.1.Gone.length c4] 63 (0,0)))::(some (g2,.cells #[iv y1.1.Room,iv y1.1.Lease,.slice A1 y1.1.Blobs.length c1,.slice A2 y1.1.Entries.length c2] 25 (0,0)))::ch1::ch2::ch3::ch4::(some (g1,.cells #[iv a0.Room,iv a0.Lease,.slice Aa0_2 a0.Blobs.length ca0_2,.slice Aa0_3 a0.Entries.length ca0_3] 25 (0,0)))::F) (by kernel_rfl) rfl ?_
   refine Dn ?_
   exact K15 _ hra0_2 hra0_3 ho1 ho2 ho3 ho4
  ·replace heq:=bif_false hb3 heq
   refine RgH.val1 (v':=.bool false) (congrArg Value.bool hb3) ?_
   refine Rv 9 [4,9,10,49] [.bool y1.2.1.Done,.bool y3.2.1.Done] [.load ⟨g3,0,none⟩ (.bool y1.2.1.Done),.load ⟨g5,0,none⟩ (.bool y3.2.1.Done)] [(4,pg g1 0),(9,pg g2 0),(10,pg g3 0),(49,.bool (!(y1.2.1.Done == y3.2.1.Done)))] (fun w hh=>⟨(hh.box 6 rfl rfl),(hh.box 0 rfl rfl)⟩) ?_
   obtain rfl:=Option.some.inj heq
   refine Kg [4,9,10,49] [(4,pg g1 0),(9,pg g2 0),(10,pg g3 0),(49,.bool (!(y1.2.1.Done == y3.2.1.Done)))] ?_
   refine RgH.pick 13 [6,7,8,9,10,11,12] (cs':=(some (g3,.cells #[.bool y1.2.1.Done,.slice A3 y1.2.1.Missing.length c3,.slice A4 y1.2.1.Gone.length c4] 63 (0,0)))::(some (g2,.cells #[iv y1.1.Room,iv y1.1.Lease,.slice A1 y1.1.Blobs.length c1,.slice A2 y1.1.Entries.length c2] 25 (0,0)))::ch1::ch2::ch3::ch4::(some (g1,.cells #[iv a0.Room,iv a0.Lease,.slice Aa0_2 a0.Blobs.length ca0_2,.slice Aa0_3 a0.Entries.length ca0_3] 25 (0,0)))::F) (by kernel_rfl) rfl ?_
   refine Dn ?_
   exact K15 _ hra0_2 hra0_3 ho1 ho2 ho3 ho4
end Go.Proofs.YtkjilepjblffeaaDoor
