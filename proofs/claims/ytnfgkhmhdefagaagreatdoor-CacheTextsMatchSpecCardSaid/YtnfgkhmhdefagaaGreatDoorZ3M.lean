/- What the machine's calls of these functions come to: just what the plain functions say. Written by program. -/
import Derived.Test.YtnfgkhmhdefagaaGreatDoorProg
import Derived.Test.YtnfgkhmhdefagaaGreatDoorKitXi
import Derived.Test.YtnfgkhmhdefagaaGreatDoorKitW
import Derived.Test.YtnfgkhmhdefagaaGreatDoorZD
import Derived.Test.YtnfgkhmhdefagaaGreatDoorShelf
import Derived.Test.YtnfgkhmhdefagaaGreatDoorKitBl
import Derived.Test.YtnfgkhmhdefagaaGreatDoorKitZ
import Derived.Test.YtnfgkhmhdefagaaGreatDoorZ3M1
set_option linter.unusedVariables false
set_option linter.unnecessarySimpa false
set_option linter.unusedSimpArgs false
set_option maxRecDepth 100000
set_option maxHeartbeats 1000000
namespace Go.Proofs.YtnfgkhmhdefagaaGreatDoor
open Go Go.RowKit Go.Proofs.YtnfgkhmhdefagaaGreatDoor.Kit
variable {w0 : World} {H0 H : Hp} {F : List Ch}
noncomputable def C10:Ctx:={ P:=Tryz.prog,f:=10,N:=19,c:=bodyOf Tryz.f10 }
def S10 (F:List Ch) (H0:Hp) (r:Bool) (v:Value) (H:Hp) (cs:List Ch):Prop:=H0=H∧v=.bool r∧F=cs
theorem smithyardlaw7_awake_c [Wz w0] {r:Bool} (heq:smithyardlaw7_awake.f=some r):CallsH Tryz.prog 10 (List.toArray []) H w0 (F) (S10 F H r):=by
 refine Co C10 Tryz.func10 Tryz.ntmps10 ?_
 unfold smithyardlaw7_awake.f at heq
 refine Sa 1<|Zd 1<|Sa 1 ?_
 obtain ⟨y1,hy1,heq⟩:=bind_some heq
 refine RgH.does (cal 4 (cache_New_c hy1 )) ?_
 rintro _ _ _ _ ⟨_,rfl,A1,c1,ch1,A2,c2,ch2,rfl,rfl,rfl,ho1,ho2⟩
 refine Zk 4 ?_
 refine RgH.does (DoesH.new (d:=1) (v:=fun g=>.pointer (some ⟨g,0,none⟩)) (o:=fun g=>.cells #[iv 0,iv 0,.slice none 0 0,.slice none 0 0] 25 (0,0)) (fun g=>by kernel_rfl)) ?_
 rintro _ _ _ _ ⟨g1,rfl,rfl,rfl⟩
 refine RgH.does (DoesH.store (k:=0) (g:=g1) (off:=0) (v:=.agg #[iv y1.1.Room,iv y1.1.Lease,.slice A1 y1.1.Blobs.length c1,.slice A2 y1.1.Entries.length c2]) (cells':=#[iv y1.1.Room,iv y1.1.Lease,.slice A1 y1.1.Blobs.length c1,.slice A2 y1.1.Entries.length c2]) (by kernel_rfl) rfl (by kernel_rfl) (by kernel_rfl)) ?_
 rintro _ _ _ _ ⟨rfl,rfl,rfl⟩
 refine Zd 7<|An 1 ?_
 obtain ⟨t1,ht1,heq⟩:=bind_some heq
 have K4:RunH C10 (S10 F H r) H w0 [.c [1,1,1]] [(0,.bool t1)] H (F):=by
  obtain rfl:=Option.some.inj heq
  exact RunH.done (by kernel_rfl) Tryz.func10 (v:=.bool t1) (by kernel_rfl) ⟨rfl,rfl,rfl⟩
 replace heq:=ht1
 refine Sa 0<|Zk 3 ?_
 rcases bool_cases (y1.2 == 0) with hb1 | hb1
 ·replace heq:=bif_true hb1 heq
  refine Zs 9 (congrArg Value.bool hb1)<|Zv 8 [bx 0 0] ?_
  rcases bool_cases (y1.1.Room == 5) with hb2 | hb2
  ·replace heq:=bif_true hb2 heq
   refine Zs 14 (congrArg Value.bool hb2)<|Zv 13 [bx 0 1] ?_
   obtain rfl:=Option.some.inj heq
   refine Dn ?_
   exact Gt 3 [] (K4)
  ·replace heq:=bif_false hb2 heq
   refine Zs 14 (congrArg Value.bool hb2)<|Zk 13 ?_
   obtain rfl:=Option.some.inj heq
   refine Dn ?_
   exact Gt 3 [] (K4)
 ·replace heq:=bif_false hb1 heq
  refine Zs 9 (congrArg Value.bool hb1)<|Zk 13 ?_
  obtain rfl:=Option.some.inj heq
  refine Dn ?_
  exact Gt 3 [] (K4)
noncomputable def C3:Ctx:={ P:=Tryz.prog,f:=3,N:=71,c:=bodyOf Tryz.f3 }
def S3 (F:List Ch) (H0:Hp) (r:Bool) (v:Value) (H:Hp) (cs:List Ch):Prop:=v=.bool r∧F=cs
theorem smithyardlaw7_CacheTextsMatchSpec_c [Wz w0] {a0:Cache} {Aa0_2:Option Addr} {na0_2 ca0_2:Nat} {Aa0_3:Option Addr} {na0_3 ca0_3:Nat} {a1:ByteArray} {r:Bool} (heq:smithyardlaw7_CacheTextsMatchSpec.f a0 a1=some r) (hra0_2:Rw kBlob H0 F Aa0_2 a0.Blobs) (hca0_2:na0_2≤ca0_2) (hna0_2:na0_2=a0.Blobs.length) (hra0_3:Rw kEntry H0 F Aa0_3 a0.Entries) (hca0_3:na0_3≤ca0_3) (hna0_3:na0_3=a0.Entries.length):CallsH Tryz.prog 3 #[.agg #[iv a0.Room,iv a0.Lease,.slice Aa0_2 na0_2 ca0_2,.slice Aa0_3 na0_3 ca0_3],.string a1] H0 w0 (F) (S3 F H0 r):=by
 refine Co C3 Tryz.func3 Tryz.ntmps3 ?_
 subst hna0_2
 subst hna0_3
 unfold smithyardlaw7_CacheTextsMatchSpec.f at heq
 suffices key:∀ (H:Hp),Rw kBlob H F Aa0_2 a0.Blobs→Rw kEntry H F Aa0_3 a0.Entries→RunH C3 (S3 F H0 r) H0 w0 [.c []] (argL 0 [.agg #[iv a0.Room,iv a0.Lease,.slice Aa0_2 (a0.Blobs.length) ca0_2,.slice Aa0_3 (a0.Entries.length) ca0_3],.string a1]) H (F) from key H0 hra0_2 hra0_3
 intro H hra0_2 hra0_3
 refine Sa 1 ?_
 refine RgH.does (DoesH.new (d:=2) (v:=fun g=>.pointer (some ⟨g,0,none⟩)) (o:=fun g=>.cells #[iv a0.Room,iv a0.Lease,.slice Aa0_2 a0.Blobs.length ca0_2,.slice Aa0_3 a0.Entries.length ca0_3] 25 (0,0)) (fun g=>by kernel_rfl)) ?_
 rintro _ _ _ _ ⟨g1,rfl,rfl,rfl⟩
 refine Zd 2<|Sa 1<|Zv 1 (bxs 0) ?_
 obtain ⟨y1,hy1,heq⟩:=bind_some heq
 refine RgH.does (cal 17 (smithyardref7_Copy_c hy1 (hra0_2.wk (fun _ h=>(.tail _ h))) hca0_2 rfl (hra0_3.wk (fun _ h=>(.tail _ h))) hca0_3 rfl)) ?_
 rintro _ H _ hl ⟨_,rfl,A1,c1,ch1,A2,c2,ch2,rfl,rfl,ho1,ho2⟩
 replace hra0_2:=hra0_2.mono hl
 replace hra0_3:=hra0_3.mono hl
 refine RgH.does (DoesH.new (d:=5) (v:=fun g=>.pointer (some ⟨g,0,none⟩)) (o:=fun g=>.cells #[iv 0,iv 0,.slice none 0 0,.slice none 0 0] 25 (0,0)) (fun g=>by kernel_rfl)) ?_
 rintro _ _ _ _ ⟨g2,rfl,rfl,rfl⟩
 refine RgH.does (DoesH.store (k:=0) (g:=g2) (off:=0) (v:=.agg #[iv y1.Room,iv y1.Lease,.slice A1 y1.Blobs.length c1,.slice A2 y1.Entries.length c2]) (cells':=#[iv y1.Room,iv y1.Lease,.slice A1 y1.Blobs.length c1,.slice A2 y1.Entries.length c2]) (by kernel_rfl) rfl (by kernel_rfl) (by kernel_rfl)) ?_
 rintro _ _ _ _ ⟨rfl,rfl,rfl⟩
 refine Dn<|Sa 1<|Zv 1 (bxs 3) ?_
 obtain ⟨y2,hy2,heq⟩:=bind_some heq
 refine RgH.does (cal 20 (cache_Text_c hy2 (hra0_2.wk (fun _ h=>(.tail _ (.tail _ (.tail _ (.tail _ h)))))) hca0_2 rfl (hra0_3.wk (fun _ h=>(.tail _ (.tail _ (.tail _ (.tail _ h)))))) hca0_3 rfl)) ?_
 rintro _ _ _ _ ⟨_,rfl,rfl,rfl,rfl⟩
 refine Zd 7<|Sa 1<|Zv 1 (bxs 0) ?_
 obtain ⟨y3,hy3,heq⟩:=bind_some heq
 refine RgH.does (cal 25 (smithyardref7_Text_c hy3 (ho1.rw (.tail _ (.head _))) ho1.cap rfl (ho2.rw (.tail _ (.tail _ (.head _)))) ho2.cap rfl)) ?_
 rintro _ _ _ _ ⟨_,rfl,rfl,rfl,rfl⟩
 refine Zd 7<|Sa 1<|Zk 1 ?_
 obtain ⟨y4,hy4,heq⟩:=bind_some heq
 refine RgH.does (cal 30 (cache_Read_c hy4 )) ?_
 rintro _ H _ hl ⟨_,rfl,A3,c3,ch3,A4,c4,ch4,rfl,rfl,ho3,ho4⟩
 replace hra0_2:=hra0_2.mono hl
 replace hra0_3:=hra0_3.mono hl
 replace ho1:=ho1.mono hl
 replace ho2:=ho2.mono hl
 refine Zk 6 ?_
 refine RgH.does (DoesH.new (d:=10) (v:=fun g=>.pointer (some ⟨g,0,none⟩)) (o:=fun g=>.cells #[iv 0,iv 0,.slice none 0 0,.slice none 0 0] 25 (0,0)) (fun g=>by kernel_rfl)) ?_
 rintro _ _ _ _ ⟨g3,rfl,rfl,rfl⟩
 refine RgH.does (DoesH.store (k:=0) (g:=g3) (off:=0) (v:=.agg #[iv y4.1.Room,iv y4.1.Lease,.slice A3 y4.1.Blobs.length c3,.slice A4 y4.1.Entries.length c4]) (cells':=#[iv y4.1.Room,iv y4.1.Lease,.slice A3 y4.1.Blobs.length c3,.slice A4 y4.1.Entries.length c4]) (by kernel_rfl) rfl (by kernel_rfl) (by kernel_rfl)) ?_
 rintro _ _ _ _ ⟨rfl,rfl,rfl⟩
 refine Zd 10<|Sa 1<|Zk 1 ?_
 obtain ⟨y5,hy5,heq⟩:=bind_some heq
 refine RgH.does (cal 36 (smithyardref7_Read_c hy5 )) ?_
 rintro _ H _ hl ⟨_,rfl,A5,c5,ch5,A6,c6,ch6,rfl,rfl,ho5,ho6⟩
 replace hra0_2:=hra0_2.mono hl
 replace hra0_3:=hra0_3.mono hl
 replace ho1:=ho1.mono hl
 replace ho2:=ho2.mono hl
 replace ho3:=ho3.mono hl
 replace ho4:=ho4.mono hl
 refine Zk 6 ?_
 refine RgH.does (DoesH.new (d:=13) (v:=fun g=>.pointer (some ⟨g,0,none⟩)) (o:=fun g=>.cells #[iv 0,iv 0,.slice none 0 0,.slice none 0 0] 25 (0,0)) (fun g=>by kernel_rfl)) ?_
 rintro _ _ _ _ ⟨g4,rfl,rfl,rfl⟩
 refine RgH.does (DoesH.store (k:=0) (g:=g4) (off:=0) (v:=.agg #[iv y5.1.Room,iv y5.1.Lease,.slice A5 y5.1.Blobs.length c5,.slice A6 y5.1.Entries.length c6]) (cells':=#[iv y5.1.Room,iv y5.1.Lease,.slice A5 y5.1.Blobs.length c5,.slice A6 y5.1.Entries.length c6]) (by kernel_rfl) rfl (by kernel_rfl) (by kernel_rfl)) ?_
 rintro _ _ _ _ ⟨rfl,rfl,rfl⟩
 refine Zd 10<|An 1 ?_
 obtain ⟨t1,ht1,heq⟩:=bind_some heq
 have K11:∀ (H:Hp),RunH C3 (S3 F H0 r) H0 w0 [.c [1,1,1,1,1,1,1]] [(4,.bool t1)] H (F):=by
  intro H
  obtain rfl:=Option.some.inj heq
  exact RunH.done (by kernel_rfl) Tryz.func3 (v:=.bool t1) (by kernel_rfl) ⟨rfl,rfl⟩
 replace heq:=ht1
 refine Sa 0<|Zk 4 ?_
 rcases bool_cases (sEq y2.1 y3.1) with hb1 | hb1
 ·replace heq:=bif_true hb1 heq
  refine Zs 43 (congrArg Value.bool hb1)<|Zk 9 ?_
  rcases bool_cases (y2.2 == y3.2) with hb2 | hb2
  ·replace heq:=bif_true hb2 heq
   refine Zs 48 (congrArg Value.bool hb2)<|Zv 11 (bxs 3++bxs 0) ?_
   obtain ⟨y6,hy6,heq⟩:=bind_some heq
   refine RgH.does (cal 51 (smithyardref7_Same_c hy6 (ho3.rw (.tail _ (.tail _ (.tail _ (.tail _ (.head _)))))) ho3.cap rfl (ho4.rw (.tail _ (.tail _ (.tail _ (.tail _ (.tail _ (.head _))))))) ho4.cap rfl (ho5.rw (.tail _ (.head _))) ho5.cap rfl (ho6.rw (.tail _ (.tail _ (.head _)))) ho6.cap rfl)) ?_
   rintro _ _ _ _ ⟨_,rfl,rfl,rfl,rfl⟩
   refine Zk 14 ?_
   rcases bool_cases (y6) with hb3 | hb3
   ·replace heq:=bif_true hb3 heq
    refine Zs 53 (congrArg Value.bool hb3)<|Zk 19 ?_
    rcases bool_cases (y4.2.1 == y5.2.1) with hb4 | hb4
    ·replace heq:=bif_true hb4 heq
     refine Zs 58 (congrArg Value.bool hb4)<|Zk 24 ?_
     rcases bool_cases (y4.2.2 == y5.2.2) with hb5 | hb5
     ·replace heq:=bif_true hb5 heq
      refine Zs 63 (congrArg Value.bool hb5)<|Zv 26 (bxs 9++bxs 6) ?_
      obtain ⟨y7,hy7,heq⟩:=bind_some heq
      refine RgH.does (cal 66 (smithyardref7_Same_c hy7 (hra0_2.wk (fun _ h=>(.tail _ (.tail _ (.tail _ (.tail _ (.tail _ (.tail _ (.tail _ (.tail _ (.tail _ (.tail _ h)))))))))))) hca0_2 rfl (hra0_3.wk (fun _ h=>(.tail _ (.tail _ (.tail _ (.tail _ (.tail _ (.tail _ (.tail _ (.tail _ (.tail _ (.tail _ h)))))))))))) hca0_3 rfl (ho1.rw (.tail _ (.tail _ (.tail _ (.tail _ (.tail _ (.tail _ (.tail _ (.head _))))))))) ho1.cap rfl (ho2.rw (.tail _ (.tail _ (.tail _ (.tail _ (.tail _ (.tail _ (.tail _ (.tail _ (.head _)))))))))) ho2.cap rfl)) ?_
      rintro _ _ _ _ ⟨_,rfl,rfl,rfl,rfl⟩
      refine Zk 29 ?_
      rcases bool_cases (y7) with hb6 | hb6
      ·replace heq:=bif_true hb6 heq
       refine Zs 68 (congrArg Value.bool hb6) ?_
       obtain ⟨y8,hy8,heq⟩:=bind_some heq
       refine RgH.does (cal 69 (smithyardlaw7_awake_c hy8 )) ?_
       rintro _ _ _ _ ⟨_,rfl,rfl,rfl,rfl⟩
       refine Zk 32 ?_
       obtain rfl:=Option.some.inj heq
       refine Dn ?_
       exact Gt 10 [] (K11 _)
      ·replace heq:=bif_false hb6 heq
       refine Zs 68 (congrArg Value.bool hb6)<|Zk 32 ?_
       obtain rfl:=Option.some.inj heq
       refine Dn ?_
       exact Gt 10 [] (K11 _)
     ·replace heq:=bif_false hb5 heq
      refine Zs 63 (congrArg Value.bool hb5)<|Zk 32 ?_
      obtain rfl:=Option.some.inj heq
      refine Dn ?_
      exact Gt 10 [] (K11 _)
    ·replace heq:=bif_false hb4 heq
     refine Zs 58 (congrArg Value.bool hb4)<|Zk 32 ?_
     obtain rfl:=Option.some.inj heq
     refine Dn ?_
     exact Gt 10 [] (K11 _)
   ·replace heq:=bif_false hb3 heq
    refine Zs 53 (congrArg Value.bool hb3)<|Zk 32 ?_
    obtain rfl:=Option.some.inj heq
    refine Dn ?_
    exact Gt 10 [] (K11 _)
  ·replace heq:=bif_false hb2 heq
   refine Zs 48 (congrArg Value.bool hb2)<|Zk 32 ?_
   obtain rfl:=Option.some.inj heq
   refine Dn ?_
   exact Gt 10 [] (K11 _)
 ·replace heq:=bif_false hb1 heq
  refine Zs 43 (congrArg Value.bool hb1)<|Zk 32 ?_
  obtain rfl:=Option.some.inj heq
  refine Dn ?_
  exact Gt 10 [] (K11 _)
end Go.Proofs.YtnfgkhmhdefagaaGreatDoor
