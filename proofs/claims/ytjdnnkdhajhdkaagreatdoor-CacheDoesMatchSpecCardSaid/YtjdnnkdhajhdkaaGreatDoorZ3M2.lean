/- What the machine's calls of these functions come to: just what the plain functions say. Written by program. -/
import Derived.Test.YtjdnnkdhajhdkaaGreatDoorProg
import Derived.Test.YtjdnnkdhajhdkaaGreatDoorKitXi
import Derived.Test.YtjdnnkdhajhdkaaGreatDoorZD
import Derived.Test.YtjdnnkdhajhdkaaGreatDoorShelf
import Derived.Test.YtjdnnkdhajhdkaaGreatDoorZ3M1
set_option linter.unusedVariables false
set_option linter.unnecessarySimpa false
set_option linter.unusedSimpArgs false
set_option maxRecDepth 100000
set_option maxHeartbeats 1000000
namespace Go.Proofs.YtjdnnkdhajhdkaaGreatDoor
open Go Go.RowKit Go.Proofs.YtjdnnkdhajhdkaaGreatDoor.Kit
variable {w0 : World} {H0 H : Hp} {F : List Ch}
noncomputable def C31v2:Ctx:={ P:=Tryz.prog,f:=31,N:=99,c:=bodyOf Tryz.f31 }
def S31v2 (F:List Ch) (H0:Hp) (ga0:Nat) (r:CacheAnswer × Int × Cache) (v:Value) (H:Hp) (cs:List Ch):Prop:=∃ (A0_1:Option Addr) (c0_1:Nat) (ch0_1:Ch) (A0_2:Option Addr) (c0_2:Nat) (ch0_2:Ch) (A2_2:Option Addr) (c2_2:Nat) (ch2_2:Ch) (A2_3:Option Addr) (c2_3:Nat) (ch2_3:Ch),H0=H∧v=.tuple #[.agg #[.bool r.1.Done,.slice A0_1 r.1.Missing.length c0_1,.slice A0_2 r.1.Gone.length c0_2],iv r.2.1]∧ch0_1::ch0_2::some (ga0,.cells #[iv r.2.2.Room,iv r.2.2.Lease,.slice A2_2 r.2.2.Blobs.length c2_2,.slice A2_3 r.2.2.Entries.length c2_3] 25 (0,0))::ch2_2::ch2_3::F=cs∧SlOwn Kd.string 9 H A0_1 c0_1 r.1.Missing ch0_1∧SlOwn Kd.string 9 H A0_2 c0_2 r.1.Gone ch0_2∧SlOwn kBlob 45 H A2_2 c2_2 r.2.2.Blobs ch2_2∧SlOwn kEntry 47 H A2_3 c2_3 r.2.2.Entries ch2_3
theorem cache_put_2_c {ga0:Nat} {a0:Cache} {Aa0_2:Option Addr} {na0_2 ca0_2:Nat} {cha0_2:Ch} {Aa0_3:Option Addr} {na0_3 ca0_3:Nat} {cha0_3:Ch} {a1:CacheEvent} {Aa1_3:Option Addr} {na1_3 ca1_3:Nat} {r:CacheAnswer × Int × Cache} (heq:cache_put_2.f a0 a1=some r) (hoa0_2:SlOwn kBlob 45 H Aa0_2 ca0_2 a0.Blobs cha0_2) (hna0_2:na0_2=a0.Blobs.length) (hoa0_3:SlOwn kEntry 47 H Aa0_3 ca0_3 a0.Entries cha0_3) (hna0_3:na0_3=a0.Entries.length) (hra1_3:Rw Kd.string H F Aa1_3 a1.Digests) (hca1_3:na1_3≤ca1_3) (hna1_3:na1_3=a1.Digests.length):CallsH Tryz.prog 31 #[.pointer (some ⟨ga0,0,none⟩),.agg #[iv a1.Kind,iv a1.At,.string a1.Digest,.slice Aa1_3 na1_3 ca1_3,.string a1.Key,iv a1.Size]] H w0 ((some (ga0,.cells #[iv a0.Room,iv a0.Lease,.slice Aa0_2 na0_2 ca0_2,.slice Aa0_3 na0_3 ca0_3] 25 (0,0)))::cha0_2::cha0_3::F) (S31v2 F H ga0 r):=by
 refine Co C31v2 Tryz.func31 Tryz.ntmps31 ?_
 subst hna0_2
 subst hna0_3
 subst hna1_3
 unfold cache_put_2.f at heq
 refine Sa 1 ?_
 refine RgH.does (DoesH.new (d:=3) (v:=fun g=>.pointer (some ⟨g,0,none⟩)) (o:=fun g=>.cells #[iv a1.Kind,iv a1.At,.string a1.Digest,.slice Aa1_3 a1.Digests.length ca1_3,.string a1.Key,iv a1.Size] 28 (0,0)) (fun g=>by kernel_rfl)) ?_
 rintro _ _ _ _ ⟨g1,rfl,rfl,rfl⟩
 refine RgH.does (DoesH.new (d:=4) (v:=fun g=>.pointer (some ⟨g,0,none⟩)) (o:=fun g=>.cells #[.bool false,.slice none 0 0,.slice none 0 0] 33 (0,0)) (fun g=>by kernel_rfl)) ?_
 rintro _ _ _ _ ⟨g2,rfl,rfl,rfl⟩
 refine Zd 3<|An 1<|Sd 0 11 [] [3,3,3,3,3,0,3,3,3,3,3]<|Zr [0,1,2,3,4] 6 (bxs 2++[bx 1 2]) (Pk 5 [0,1,2,3,4]) (Pk 5 [0,1,2,3,4]) ?_
 obtain ⟨y1,hy1,heq⟩:=bind_some heq
 refine Dz 5 (cal 16 (cache_find_c hy1 (hoa0_2.rw (.tail _ (.tail _ (.tail _ (.head _))))) hoa0_2.cap rfl (hoa0_3.rw (.tail _ (.tail _ (.tail _ (.tail _ (.head _)))))) hoa0_3.cap rfl)) ?_
 rintro _ _ _ _ ⟨_,rfl,rfl,rfl,rfl⟩
 refine ⟨fun _ w hh=>⟨fun _=>(Pk 5 [0,1,2,3,4]) w hh,fun _=>(Pk 5 [0,1,2,3,4]) w hh,(fun h=>by cases h)⟩,?_⟩
 refine Zr [6,7,8,9,10] 0 [] (Pk 5 [0,1,2,3,4]) (Pk 5 [0,1,2,3,4]) ?_
 refine DrH.done (by kernel_rfl) ?_
 refine Sa 2<|Zd 1 ?_
 refine Cb heq ?_ ?_
 ·intro hb1 heq
  refine An 2<|Sd 0 11 [] [3,3,3,3,3,3,3,3,3,3,3] ?_
  obtain ⟨x1,hx1,heq⟩:=bind_some heq
  obtain ⟨ha1,cs1,hK1,hcc1⟩:=hoa0_2.get hx1
  obtain ⟨rfl⟩:=kBlob_open hK1
  refine Zr [0,1,2,3,4,5,6,7,8,9,10] 0 [bx 2 2,nx ha1 hx1,el hcc1 3 1,bx 1 5] (Pk 5 [0,1,2,3,4]) (Pk 5 [0,1,2,3,4]) ?_
  refine DrH.done (by kernel_rfl) ?_
  refine Cb heq ?_ ?_
  ·intro hb2 heq
   refine Sa 1<|Zk 1 ?_
   refine RgH.does (DoesH.store (k:=0) (g:=g2) (off:=0) (v:=.agg #[.bool false,.slice none 0 0,.slice none 0 0]) (cells':=#[.bool false,.slice none 0 0,.slice none 0 0]) (by kernel_rfl) rfl (by kernel_rfl) (by kernel_rfl)) ?_
   rintro _ _ _ _ ⟨rfl,rfl,rfl⟩
   refine RgH.nrm ?_
   refine Zd 3<|RunH.nilc ?_
   have ho1:SlOwn Kd.string 9 H none 0 ([]:List ByteArray) none:=SlOwn.nil
   refine RunH.nilc ?_
   have ho2:SlOwn Kd.string 9 H none 0 ([]:List ByteArray) none:=SlOwn.nil
   obtain rfl:=Option.some.inj heq
   refine Up 4 [2,1,0] ?_
   exact RunH.doneM' 1 (vs:=[.agg #[.bool false,.slice none 0 0,.slice none 0 0],iv 12]) (v:=.tuple #[.agg #[.bool false,.slice none 0 0,.slice none 0 0],iv 12]) (by kernel_rfl) Tryz.func31 (fun w hh=>show ResAll _ _ _ [.cell 4 33,.tmp 5] _ from ⟨⟨⟨g2,0,none⟩,by kernel_rfl,trS_run _ (vs:=[.bool false,.slice none 0 0,.slice none 0 0]) (r:=[]) (es:=[.load ⟨g2,0,none⟩ (.bool false),.load ⟨g2,1,none⟩ (.slice none 0 0),.load ⟨g2,2,none⟩ (.slice none 0 0)]) (by kernel_rfl) ⟨(hh.box 0 rfl rfl),(hh.box 0 rfl rfl),(hh.box 0 rfl rfl)⟩⟩,(show lk _ _=some _ by kernel_rfl),trivial⟩) rfl (cs':=none::none::(some (ga0,.cells #[iv a0.Room,iv a0.Lease,.slice Aa0_2 a0.Blobs.length ca0_2,.slice Aa0_3 a0.Entries.length ca0_3] 25 (0,0)))::cha0_2::cha0_3::F) rfl ⟨none,0,none,none,0,none,Aa0_2,ca0_2,cha0_2,Aa0_3,ca0_3,cha0_3,rfl,rfl,rfl,ho1,ho2,hoa0_2,hoa0_3⟩
  ·intro hb2 heq
   refine Sa 2<|Zv 3 [bx 1 2] ?_
   refine RgH.does (DoesH.new (d:=35) (v:=fun g=>.slice (some ⟨g,0,none⟩) 1 1) (o:=fun g=>.cells #[.string a1.Digest] 9 (0,0)) (fun g=>by kernel_rfl)) ?_
   rintro _ _ _ _ ⟨g3,rfl,rfl,rfl⟩
   have ho3:SlOwn Kd.string 9 H (some ⟨g3,0,none⟩) 1 ([a1.Digest]:List ByteArray) (some (g3,.cells #[.string a1.Digest] 9 (0,0))):=SlOwn.lit (xs:=([a1.Digest]:List ByteArray)) (by kernel_rfl) (Nat.le_of_ble_eq_true (by kernel_rfl)) (Kd.Rep.scalars rfl)
   refine Zv 6 [bx 2 1]<|Ug 6 [3,4,5,0,1,2] ?_
   obtain ⟨y2,hy2,heq⟩:=bind_some heq
   refine RgH.does (cal 38 (cache_touch_3_c hy2 hoa0_2 rfl hoa0_3 rfl (ho3.rw (.head _)) ho3.cap rfl)) ?_
   rintro _ _ _ _ ⟨_,rfl,A1,c1,ch1,A2,c2,ch2,rfl,rfl,rfl,ho4,ho5⟩
   refine Dn<|Sa 1<|Zk 1 ?_
   refine RgH.does (DoesH.store (k:=4) (g:=g2) (off:=0) (v:=.agg #[.bool true,.slice none 0 0,.slice none 0 0]) (cells':=#[.bool true,.slice none 0 0,.slice none 0 0]) (by kernel_rfl) rfl (by kernel_rfl) (by kernel_rfl)) ?_
   rintro _ _ _ _ ⟨rfl,rfl,rfl⟩
   refine RgH.nrm ?_
   refine Zd 3<|RunH.nilc ?_
   have ho6:SlOwn Kd.string 9 H none 0 ([]:List ByteArray) none:=SlOwn.nil
   refine RunH.nilc ?_
   have ho7:SlOwn Kd.string 9 H none 0 ([]:List ByteArray) none:=SlOwn.nil
   obtain rfl:=Option.some.inj heq
   refine Up 8 [6,1,0,2,3,4] ?_
   exact RunH.doneM' 1 (vs:=[.agg #[.bool true,.slice none 0 0,.slice none 0 0],iv 0]) (v:=.tuple #[.agg #[.bool true,.slice none 0 0,.slice none 0 0],iv 0]) (by kernel_rfl) Tryz.func31 (fun w hh=>show ResAll _ _ _ [.cell 4 33,.tmp 5] _ from ⟨⟨⟨g2,0,none⟩,by kernel_rfl,trS_run _ (vs:=[.bool true,.slice none 0 0,.slice none 0 0]) (r:=[]) (es:=[.load ⟨g2,0,none⟩ (.bool true),.load ⟨g2,1,none⟩ (.slice none 0 0),.load ⟨g2,2,none⟩ (.slice none 0 0)]) (by kernel_rfl) ⟨(hh.box 0 rfl rfl),(hh.box 0 rfl rfl),(hh.box 0 rfl rfl)⟩⟩,(show lk _ _=some _ by kernel_rfl),trivial⟩) rfl (cs':=none::none::(some (ga0,.cells #[iv y2.Room,iv y2.Lease,.slice A1 y2.Blobs.length c1,.slice A2 y2.Entries.length c2] 25 (0,0)))::ch1::ch2::F) rfl ⟨none,0,none,none,0,none,A1,c1,ch1,A2,c2,ch2,rfl,rfl,rfl,ho6,ho7,ho4,ho5⟩
 ·intro hb1 heq
  refine An 2<|Sd 5 16 [0,1] [3,3,3,3,0,3,3,3,3,3,1,3,3,3,3,3]<|Zr [0] 15 [] (Pk 5 [0,1,2,3,4]) (Pk 5 [0,1])<|Zt [1,2,3,5,6,8] 9 [bx 1 5] (Pk 5 [0,1])<|Zr [9] 8 [bx 1 1] (Pk 5 [0,1,2,3,4]) (Pk 5 [0,1]) ?_
  refine Dz 4 (DoesH.pureop (d:=45) (v:=iv a0.Room) (vs:=[iv a0.Room]) (evs:=[.load ⟨ga0,0,none⟩ (iv a0.Room)]) (by kernel_rfl) (fun w hh=>(hh.box 2 rfl rfl))) ?_
  rintro _ _ _ _ ⟨rfl,rfl,rfl⟩
  refine ⟨fun _ w hh=>⟨fun _=>(Pk 5 [0,1,2,3,4]) w hh,fun _=>(Pk 5 [0,1]) w hh,(fun h=>by cases h)⟩,?_⟩
  refine Zr [7] 6 [] (Pk 5 [0,1,2,3,4]) (Pk 5 [0,1])<|Ur 5 [2,3,4,0,1] ?_
  obtain ⟨y3,hy3,heq⟩:=bind_some heq
  refine Dz 10 (cal 51 (cache_clear_2_c hy3 hoa0_2 rfl hoa0_3 rfl)) ?_
  rintro _ _ _ _ ⟨_,rfl,A3,c3,ch3,A4,c4,ch4,A5,c5,ch5,rfl,rfl,rfl,ho8,ho9,ho10⟩
  refine ⟨fun _ w hh=>⟨(fun h=>by cases h),fun _=>(Pk 6 [4,5]) w hh,(fun h=>by cases h)⟩,?_⟩
  refine Zt [11,12,13,14,15] 0 [] (Pk 6 [4,5]) ?_
  refine DrH.done (by kernel_rfl) ?_
  refine Sa 2<|Zd 2 ?_
  refine Cb heq ?_ ?_
  ·intro hb3 heq
   refine Sa 1<|Zk 1 ?_
   refine RgH.does (DoesH.store (k:=4) (g:=g2) (off:=0) (v:=.agg #[.bool false,.slice none 0 0,.slice none 0 0]) (cells':=#[.bool false,.slice none 0 0,.slice none 0 0]) (by kernel_rfl) rfl (by kernel_rfl) (by kernel_rfl)) ?_
   rintro _ _ _ _ ⟨rfl,rfl,rfl⟩
   refine RgH.nrm ?_
   refine Zd 3<|RunH.nilc ?_
   have ho11:SlOwn Kd.string 9 H none 0 ([]:List ByteArray) none:=SlOwn.nil
   refine RunH.nilc ?_
   have ho12:SlOwn Kd.string 9 H none 0 ([]:List ByteArray) none:=SlOwn.nil
   obtain rfl:=Option.some.inj heq
   refine Up 8 [6,1,0,3,4,5] ?_
   exact RunH.doneM' 1 (vs:=[.agg #[.bool false,.slice none 0 0,.slice none 0 0],iv 0]) (v:=.tuple #[.agg #[.bool false,.slice none 0 0,.slice none 0 0],iv 0]) (by kernel_rfl) Tryz.func31 (fun w hh=>show ResAll _ _ _ [.cell 4 33,.tmp 5] _ from ⟨⟨⟨g2,0,none⟩,by kernel_rfl,trS_run _ (vs:=[.bool false,.slice none 0 0,.slice none 0 0]) (r:=[]) (es:=[.load ⟨g2,0,none⟩ (.bool false),.load ⟨g2,1,none⟩ (.slice none 0 0),.load ⟨g2,2,none⟩ (.slice none 0 0)]) (by kernel_rfl) ⟨(hh.box 0 rfl rfl),(hh.box 0 rfl rfl),(hh.box 0 rfl rfl)⟩⟩,(show lk _ _=some _ by kernel_rfl),trivial⟩) rfl (cs':=none::none::(some (ga0,.cells #[iv y3.2.2.Room,iv y3.2.2.Lease,.slice A4 y3.2.2.Blobs.length c4,.slice A5 y3.2.2.Entries.length c5] 25 (0,0)))::ch4::ch5::F) rfl ⟨none,0,none,none,0,none,A4,c4,ch4,A5,c5,ch5,rfl,rfl,rfl,ho11,ho12,ho9,ho10⟩
  ·intro hb3 heq
   refine Sa 3<|Zw 6 [bx 1 2] ?_
   refine Cb heq ?_ ?_
   ·intro hb4 heq
    refine Sa 1<|Zk 1 ?_
    refine RgH.does (DoesH.store (k:=4) (g:=g2) (off:=0) (v:=.agg #[.bool false,.slice none 0 0,.slice none 0 0]) (cells':=#[.bool false,.slice none 0 0,.slice none 0 0]) (by kernel_rfl) rfl (by kernel_rfl) (by kernel_rfl)) ?_
    rintro _ _ _ _ ⟨rfl,rfl,rfl⟩
    refine RgH.nrm ?_
    refine Zd 3<|RunH.nilc ?_
    have ho13:SlOwn Kd.string 9 H none 0 ([]:List ByteArray) none:=SlOwn.nil
    refine RunH.nilc ?_
    have ho14:SlOwn Kd.string 9 H none 0 ([]:List ByteArray) none:=SlOwn.nil
    obtain rfl:=Option.some.inj heq
    refine Up 8 [6,1,0,3,4,5] ?_
    exact RunH.doneM' 1 (vs:=[.agg #[.bool false,.slice none 0 0,.slice none 0 0],iv 16]) (v:=.tuple #[.agg #[.bool false,.slice none 0 0,.slice none 0 0],iv 16]) (by kernel_rfl) Tryz.func31 (fun w hh=>show ResAll _ _ _ [.cell 4 33,.tmp 5] _ from ⟨⟨⟨g2,0,none⟩,by kernel_rfl,trS_run _ (vs:=[.bool false,.slice none 0 0,.slice none 0 0]) (r:=[]) (es:=[.load ⟨g2,0,none⟩ (.bool false),.load ⟨g2,1,none⟩ (.slice none 0 0),.load ⟨g2,2,none⟩ (.slice none 0 0)]) (by kernel_rfl) ⟨(hh.box 0 rfl rfl),(hh.box 0 rfl rfl),(hh.box 0 rfl rfl)⟩⟩,(show lk _ _=some _ by kernel_rfl),trivial⟩) rfl (cs':=none::none::(some (ga0,.cells #[iv y3.2.2.Room,iv y3.2.2.Lease,.slice A4 y3.2.2.Blobs.length c4,.slice A5 y3.2.2.Entries.length c5] 25 (0,0)))::ch4::ch5::F) rfl ⟨none,0,none,none,0,none,A4,c4,ch4,A5,c5,ch5,rfl,rfl,rfl,ho13,ho14,ho9,ho10⟩
   ·intro hb4 heq
    refine An 2<|Sd 0 10 [] [3,3,3,3,3,0,3,3,3,3]<|Zr [0,1,2,3,4] 5 (bxs 1++[bx 5 2]) (Pk 6 [0,1,2,3,4,5]) (Pk 6 [0,1,2,3,4,5]) ?_
    obtain ⟨y4,hy4,heq⟩:=bind_some heq
    refine Dz 5 (cal 70 (cache_find_c hy4 (ho9.rw (.tail _ (.tail _ (.head _)))) ho9.cap rfl (ho10.rw (.tail _ (.tail _ (.tail _ (.head _))))) ho10.cap rfl)) ?_
    rintro _ _ _ _ ⟨_,rfl,rfl,rfl,rfl⟩
    refine ⟨fun _ w hh=>⟨fun _=>(Pk 6 [0,1,2,3,4,5]) w hh,fun _=>(Pk 6 [0,1,2,3,4,5]) w hh,(fun h=>by cases h)⟩,?_⟩
    refine Zr [6,7,8,9] 0 [] (Pk 6 [0,1,2,3,4,5]) (Pk 6 [0,1,2,3,4,5]) ?_
    refine DrH.done (by kernel_rfl) ?_
    refine An 1<|Sd 3 25 [0,1] [3,3,3,3,3,3,3,3,3,3,3,3,3,3,3,3,3,3,3,3,0,1,1,3,2]<|Zt [0,1,2,3] 21 [] (Pk 6 [0,1,3,4,5])<|Zr [4,5] 19 [bx 1 2] (Pk 6 [0,1,2,3,4,5]) (Pk 6 [0,1,3,4,5])<|Zt [6,7,8,9,10,11,12,13,14,15,16,17,18,19] 5 [bx 4 2,bx 4 5,bx 4 1,bx 4 1,bx 1 1] (Pk 6 [0,1,3,4,5]) ?_
    refine Dz 20 (DoesH.new (d:=93) (v:=fun g=>.slice (some ⟨g,0,none⟩) 1 1) (o:=fun g=>.cells #[.string a1.Digest,iv a1.Size,iv a1.At,iv (w64 (a1.At+y3.2.2.Lease)),iv 0] 45 (0,0)) (fun g=>by kernel_rfl)) ?_
    rintro _ _ _ _ ⟨g4,rfl,rfl,rfl⟩
    have ho15:SlOwn kBlob 45 H (some ⟨g4,0,none⟩) 1 ([(⟨a1.Digest,a1.Size,a1.At,w64 (a1.At+y3.2.2.Lease),0⟩:Blob)]:List Blob) (some (g4,.cells #[.string a1.Digest,iv a1.Size,iv a1.At,iv (w64 (a1.At+y3.2.2.Lease)),iv 0] 45 (0,0))):=SlOwn.lit (xs:=([(⟨a1.Digest,a1.Size,a1.At,w64 (a1.At+y3.2.2.Lease),0⟩:Blob)]:List Blob)) (by kernel_rfl) (Nat.le_of_ble_eq_true (by kernel_rfl)) (Kd.Rep.one kBlob_mk)
    refine ⟨fun _ w hh=>⟨fun _=>(Pk 7 [1,2,3,4,5,6]) w hh,fun _=>(Pk 7 [1,2,4,5,6]) w hh,(fun h=>by cases h)⟩,?_⟩
    refine Ur 4 [3,0,1,2] ?_
    obtain ⟨y5,hy5,heq⟩:=bind_some heq
    refine Dz 21 (cal 94 (slices_Insert_Blob_c (a0:=y3.2.2.Blobs) (a1:=y4.1) (a2:=([(⟨a1.Digest,a1.Size,a1.At,w64 (a1.At+y3.2.2.Lease),0⟩:Blob)]:List Blob)) ho9 rfl ho15 rfl hy5)) ?_
    rintro _ _ _ _ ⟨_,rfl,A6,c6,ch6,rfl,rfl,rfl,ho16⟩
    refine ⟨fun _ w hh=>⟨(fun h=>by cases h),fun _=>(Pk 6 [1,2,3,4,5]) w hh,(fun h=>by cases h)⟩,?_⟩
    refine Dz 22 (DoesH.pureop (d:=95) (v:=.pointer (some ⟨ga0,0,none⟩)) (vs:=[]) (evs:=[]) (by kernel_rfl) (fun _ _=>trivial)) ?_
    rintro _ _ _ _ ⟨rfl,rfl,rfl⟩
    refine ⟨fun _ w hh=>⟨(fun h=>by cases h),fun _=>(Pk 6 [1,2,3,4,5]) w hh,(fun h=>by cases h)⟩,?_⟩
    refine Zt [23] 1 [] (Pk 6 [1,2,3,4,5]) ?_
    refine Dz 24 (DoesH.store (k:=2) (g:=ga0) (off:=2) (v:=.slice A6 y5.length c6) (cells':=#[iv y3.2.2.Room,iv y3.2.2.Lease,.slice A6 y5.length c6,.slice A5 y3.2.2.Entries.length c5]) (by kernel_rfl) rfl (by kernel_rfl) (by kernel_rfl)) ?_
    rintro _ _ _ _ ⟨rfl,rfl,rfl⟩
    refine ⟨fun _ w hh=>⟨(fun h=>by cases h),(fun h=>absurd h (by decide)),(fun h=>by cases h)⟩,?_⟩
    refine DrH.nrm ?_
    refine DrH.done (by kernel_rfl) ?_
    refine Sa 1<|Zk 2 ?_
    refine RgH.does (DoesH.store (k:=4) (g:=g2) (off:=0) (v:=.agg #[.bool true,.slice none 0 0,.slice A3 y3.1.length c3]) (cells':=#[.bool true,.slice none 0 0,.slice A3 y3.1.length c3]) (by kernel_rfl) rfl (by kernel_rfl) (by kernel_rfl)) ?_
    rintro _ _ _ _ ⟨rfl,rfl,rfl⟩
    refine RgH.nrm ?_
    refine Zd 4<|RunH.nilc ?_
    have ho17:SlOwn Kd.string 9 H none 0 ([]:List ByteArray) none:=SlOwn.nil
    obtain rfl:=Option.some.inj heq
    refine Up 7 [5,0,2,3,1,4] ?_
    exact RunH.doneM' 1 (vs:=[.agg #[.bool true,.slice none 0 0,.slice A3 y3.1.length c3],iv 0]) (v:=.tuple #[.agg #[.bool true,.slice none 0 0,.slice A3 y3.1.length c3],iv 0]) (by kernel_rfl) Tryz.func31 (fun w hh=>show ResAll _ _ _ [.cell 4 33,.tmp 5] _ from ⟨⟨⟨g2,0,none⟩,by kernel_rfl,trS_run _ (vs:=[.bool true,.slice none 0 0,.slice A3 y3.1.length c3]) (r:=[]) (es:=[.load ⟨g2,0,none⟩ (.bool true),.load ⟨g2,1,none⟩ (.slice none 0 0),.load ⟨g2,2,none⟩ (.slice A3 y3.1.length c3)]) (by kernel_rfl) ⟨(hh.box 0 rfl rfl),(hh.box 0 rfl rfl),(hh.box 0 rfl rfl)⟩⟩,(show lk _ _=some _ by kernel_rfl),trivial⟩) rfl (cs':=none::ch3::(some (ga0,.cells #[iv y3.2.2.Room,iv y3.2.2.Lease,.slice A6 y5.length c6,.slice A5 y3.2.2.Entries.length c5] 25 (0,0)))::ch6::ch5::F) rfl ⟨none,0,none,A3,c3,ch3,A6,c6,ch6,A5,c5,ch5,rfl,rfl,rfl,ho17,ho8,ho16,ho10⟩
noncomputable def C33:Ctx:={ P:=Tryz.prog,f:=33,N:=30,c:=bodyOf Tryz.f33 }
def S33 (F:List Ch) (H0:Hp) (r:(List ByteArray)) (v:Value) (H:Hp) (cs:List Ch):Prop:=∃ (A0:Option Addr) (c0:Nat) (ch0:Ch),H0=H∧v=.slice A0 r.length c0∧ch0::F=cs∧SlOwn Kd.string 9 H A0 c0 r ch0
theorem cache_missing.e1_c {r:(List ByteArray)}:∀ (v_out5:List ByteArray) (Av_out5:Option Addr) (nv_out5 cv_out5:Nat) (chv_out5:Ch) ,SlOwn Kd.string 9 H Av_out5 cv_out5 v_out5 chv_out5→nv_out5=v_out5.length→cache_missing.e1 v_out5=some r→RunH C33 (S33 F H r) H w0 [.c [1,1,1,0],.c [1,1,1,1]] [(5,.slice Av_out5 nv_out5 cv_out5)] H (chv_out5::F):=by
 intro v_out5 Av_out5 nv_out5 cv_out5 chv_out5 hov_out5 hnv_out5 heq
 subst hnv_out5
 unfold cache_missing.e1 at heq
 refine Sa 0<|Zd 2 ?_
 obtain rfl:=Option.some.inj heq
 exact RunH.done (by kernel_rfl) Tryz.func33 (v:=.slice Av_out5 v_out5.length cv_out5) (by kernel_rfl) ⟨Av_out5,cv_out5,chv_out5,rfl,rfl,rfl,hov_out5⟩
theorem cache_missing.j3_c {r:(List ByteArray)} (backl2:Cache→(List ByteArray)→(List ByteArray)→Int→Option (List ByteArray))
  (hbackl2:∀ (a0:Cache) (Aa0_2:Option Addr) (ca0_2:Nat) (Aa0_3:Option Addr) (ca0_3:Nat) (a1:List ByteArray) (Aa1:Option Addr) (ca1 g1:Nat) (v_out5:List ByteArray) (Av_out5:Option Addr) (nv_out5 cv_out5:Nat) (chv_out5:Ch) (v12:Int) ,Rw kBlob H F Aa0_2 a0.Blobs→a0.Blobs.length≤ca0_2→Rw kEntry H F Aa0_3 a0.Entries→a0.Entries.length≤ca0_3→Rw Kd.string H F Aa1 a1→a1.length≤ca1→SlOwn Kd.string 9 H Av_out5 cv_out5 v_out5 chv_out5→nv_out5=v_out5.length→backl2 a0 a1 v_out5 v12=some r→RunH C33 (S33 F H r) H w0 [.c [1,1,0,1,0,0],.l [1,1,0,1,0,0],.b 0,.c [1,1,1]] [(2,pg g1 0),(5,.slice Av_out5 nv_out5 cv_out5),(10,.slice Aa1 a1.length ca1),(11,iv (a1.length:Int)),(12,iv v12)] H (chv_out5::(some (g1,.cells #[iv a0.Room,iv a0.Lease,.slice Aa0_2 a0.Blobs.length ca0_2,.slice Aa0_3 a0.Entries.length ca0_3] 25 (0,0)))::F)):∀ (a0:Cache) (Aa0_2:Option Addr) (ca0_2:Nat) (Aa0_3:Option Addr) (ca0_3:Nat) (a1:List ByteArray) (Aa1:Option Addr) (ca1 g1:Nat) (v12:Int) (v_out5:List ByteArray) (Av_out5:Option Addr) (nv_out5 cv_out5:Nat) (chv_out5:Ch) ,Rw kBlob H F Aa0_2 a0.Blobs→a0.Blobs.length≤ca0_2→Rw kEntry H F Aa0_3 a0.Entries→a0.Entries.length≤ca0_3→Rw Kd.string H F Aa1 a1→a1.length≤ca1→SlOwn Kd.string 9 H Av_out5 cv_out5 v_out5 chv_out5→nv_out5=v_out5.length→cache_missing.j3 backl2 a0 a1 v12 v_out5=some r→RunH C33 (S33 F H r) H w0 [.c [1,1,0,1,0,0,1,1,1],.l [1,1,0,1,0,0],.b 0,.c [1,1,1]] [(2,pg g1 0),(5,.slice Av_out5 nv_out5 cv_out5),(10,.slice Aa1 a1.length ca1),(11,iv (a1.length:Int)),(12,iv v12)] H (chv_out5::(some (g1,.cells #[iv a0.Room,iv a0.Lease,.slice Aa0_2 a0.Blobs.length ca0_2,.slice Aa0_3 a0.Entries.length ca0_3] 25 (0,0)))::F):=by
 intro a0 Aa0_2 ca0_2 Aa0_3 ca0_3 a1 Aa1 ca1 g1 v12 v_out5 Av_out5 nv_out5 cv_out5 chv_out5 hra0_2 hca0_2 hra0_3 hca0_3 hra1 hca1 hov_out5 hnv_out5 heq
 subst hnv_out5
 unfold cache_missing.j3 at heq
 refine Sa 0<|Zd 2<|An 1 ?_
 exact Gt 0 [] (hbackl2 a0 _ _ _ _ a1 _ _ _ v_out5 _ _ _ _ (w64 (v12+1)) hra0_2 hca0_2 hra0_3 hca0_3 hra1 hca1 hov_out5 rfl heq)
theorem cache_missing.l2_c {r:(List ByteArray)} (e1:(List ByteArray)→Option (List ByteArray))
  (he1:∀ (v_out5:List ByteArray) (Av_out5:Option Addr) (nv_out5 cv_out5:Nat) (chv_out5:Ch) ,SlOwn Kd.string 9 H Av_out5 cv_out5 v_out5 chv_out5→nv_out5=v_out5.length→e1 v_out5=some r→RunH C33 (S33 F H r) H w0 [.c [1,1,1,0],.c [1,1,1,1]] [(5,.slice Av_out5 nv_out5 cv_out5)] H (chv_out5::F)):∀ (k:Nat),∀ (a0:Cache) (Aa0_2:Option Addr) (ca0_2:Nat) (Aa0_3:Option Addr) (ca0_3:Nat) (a1:List ByteArray) (Aa1:Option Addr) (ca1 g1:Nat) (v_out5:List ByteArray) (Av_out5:Option Addr) (nv_out5 cv_out5:Nat) (chv_out5:Ch) (v12:Int) ,Rw kBlob H F Aa0_2 a0.Blobs→a0.Blobs.length≤ca0_2→Rw kEntry H F Aa0_3 a0.Entries→a0.Entries.length≤ca0_3→Rw Kd.string H F Aa1 a1→a1.length≤ca1→SlOwn Kd.string 9 H Av_out5 cv_out5 v_out5 chv_out5→nv_out5=v_out5.length→cache_missing.l2 e1 k a0 a1 v_out5 v12=some r→RunH C33 (S33 F H r) H w0 [.c [1,1,0,1,0,0],.l [1,1,0,1,0,0],.b 0,.c [1,1,1]] [(2,pg g1 0),(5,.slice Av_out5 nv_out5 cv_out5),(10,.slice Aa1 a1.length ca1),(11,iv (a1.length:Int)),(12,iv v12)] H (chv_out5::(some (g1,.cells #[iv a0.Room,iv a0.Lease,.slice Aa0_2 a0.Blobs.length ca0_2,.slice Aa0_3 a0.Entries.length ca0_3] 25 (0,0)))::F):=by
 intro k
 induction k with
 | zero=>intro a0 Aa0_2 ca0_2 Aa0_3 ca0_3 a1 Aa1 ca1 g1 v_out5 Av_out5 nv_out5 cv_out5 chv_out5 v12 hra0_2 hca0_2 hra0_3 hca0_3 hra1 hca1 hov_out5 hnv_out5 heq; exact nomatch (show (none:Option (List ByteArray))=some r from heq)
 | succ k ihk =>
  intro a0 Aa0_2 ca0_2 Aa0_3 ca0_3 a1 Aa1 ca1 g1 v_out5 Av_out5 nv_out5 cv_out5 chv_out5 v12 hra0_2 hca0_2 hra0_3 hca0_3 hra1 hca1 hov_out5 hnv_out5 heq
  subst hnv_out5
  rw [cache_missing.l2] at heq
  refine Sa 1<|Zd 1<|An 1 ?_
  refine Cb heq ?_ ?_
  ·intro hb1 heq
   refine Sa 4 ?_
   obtain ⟨x1,hx1,heq⟩:=bind_some heq
   obtain ⟨ha1,cs1,hK1,hcc1⟩:=hra1.get hx1
   obtain rfl:cs1=[.string x1]:=hK1
   refine Zw 3 [nx ha1 hx1,er hcc1 2 0]<|Sa 1<|Zv 2 (bxs 1) ?_
   obtain ⟨y1,hy1,heq⟩:=bind_some heq
   refine RgH.does (cal 19 (cache_find_c hy1 (hra0_2.wk (fun _ h=>(.tail _ (.tail _ h)))) hca0_2 rfl (hra0_3.wk (fun _ h=>(.tail _ (.tail _ h)))) hca0_3 rfl)) ?_
   rintro _ _ _ _ ⟨_,rfl,rfl,rfl,rfl⟩
   refine Zd 8<|Sa 1<|Zd 2 ?_
   refine Cb heq ?_ ?_
   ·intro hb2 heq
    refine Sa 0<|Zk 2 ?_
    refine RgH.does (DoesH.new (d:=26) (v:=fun g=>.slice (some ⟨g,0,none⟩) 1 1) (o:=fun g=>.cells #[.string x1] 9 (0,0)) (fun g=>by kernel_rfl)) ?_
    rintro _ _ _ _ ⟨g2,rfl,rfl,rfl⟩
    have ho1:SlOwn Kd.string 9 H (some ⟨g2,0,none⟩) 1 ([x1]:List ByteArray) (some (g2,.cells #[.string x1] 9 (0,0))):=SlOwn.lit (xs:=([x1]:List ByteArray)) (by kernel_rfl) (Nat.le_of_ble_eq_true (by kernel_rfl)) (Kd.Rep.scalars rfl)
    obtain ⟨hn1,heq⟩:=guard?_some heq
    refine RgH.does (DoesH.append (d:=27) (k:=1) (t:=26) (e:=9) (bytes:=16) (kd:=Kd.string) (n:=v_out5.length) (m:=1) (xs:=v_out5) (ys:=([x1]:List ByteArray)) (A:=Av_out5) (B:=(some ⟨g2,0,none⟩)) (c:=cv_out5) (cB:=1) (by kernel_rfl) rfl rfl (by kernel_rfl) rfl hov_out5 (fun w hh=>ho1.rdb (hh.chin 0 rfl)) (room_le hn1) (by have:=room_le hn1; omega)) ?_
    rintro _ _ _ _ ⟨A1,c1,ch1,rfl,rfl,rfl,ho2⟩
    refine RgH.nrm ?_
    refine Zd 5<|An 1 ?_
    exact Gt 1 [] ((cache_missing.j3_c (backl2:=(cache_missing.l2 e1 k)) ihk) a0 _ _ _ _ a1 _ _ _ v12 (v_out5++([x1]:List ByteArray)) _ _ _ _ hra0_2 hca0_2 hra0_3 hca0_3 hra1 hca1 ho2 rfl heq)
   ·intro hb2 heq
    refine An 2 ?_
    exact Gt 0 [] ((cache_missing.j3_c (backl2:=(cache_missing.l2 e1 k)) ihk) a0 _ _ _ _ a1 _ _ _ v12 v_out5 _ _ _ _ hra0_2 hca0_2 hra0_3 hca0_3 hra1 hca1 hov_out5 rfl heq)
  ·intro hb1 heq
   refine An 2 ?_
   exact Gt 2 [0] (he1 v_out5 _ _ _ _ hov_out5 rfl heq)
theorem cache_missing_c {a0:Cache} {Aa0_2:Option Addr} {na0_2 ca0_2:Nat} {Aa0_3:Option Addr} {na0_3 ca0_3:Nat} {a1:List ByteArray} {Aa1:Option Addr} {na1 ca1:Nat} {r:(List ByteArray)} (heq:cache_missing.f a0 a1=some r) (hra0_2:Rw kBlob H F Aa0_2 a0.Blobs) (hca0_2:na0_2≤ca0_2) (hna0_2:na0_2=a0.Blobs.length) (hra0_3:Rw kEntry H F Aa0_3 a0.Entries) (hca0_3:na0_3≤ca0_3) (hna0_3:na0_3=a0.Entries.length) (hra1:Rw Kd.string H F Aa1 a1) (hca1:na1≤ca1) (hna1:na1=a1.length):CallsH Tryz.prog 33 #[.agg #[iv a0.Room,iv a0.Lease,.slice Aa0_2 na0_2 ca0_2,.slice Aa0_3 na0_3 ca0_3],.slice Aa1 na1 ca1] H w0 (F) (S33 F H r):=by
 refine Co C33 Tryz.func33 Tryz.ntmps33 ?_
 subst hna0_2
 subst hna0_3
 subst hna1
 unfold cache_missing.f at heq
 refine Sa 1 ?_
 refine RgH.does (DoesH.new (d:=2) (v:=fun g=>.pointer (some ⟨g,0,none⟩)) (o:=fun g=>.cells #[iv a0.Room,iv a0.Lease,.slice Aa0_2 a0.Blobs.length ca0_2,.slice Aa0_3 a0.Entries.length ca0_3] 25 (0,0)) (fun g=>by kernel_rfl)) ?_
 rintro _ _ _ _ ⟨g1,rfl,rfl,rfl⟩
 refine Zd 2<|Sa 1<|Zd 1<|Sa 2<|Zd 3<|An 2<|RunH.nilc ?_
 have ho3:SlOwn Kd.string 9 H none 0 ([]:List ByteArray) none:=SlOwn.nil
 exact Gt 0 [] (((cache_missing.l2_c (e1:=cache_missing.e1) (cache_missing.e1_c)) big) a0 _ _ _ _ a1 _ _ _ ([]:List ByteArray) _ _ _ _ 0 hra0_2 hca0_2 hra0_3 hca0_3 hra1 hca1 ho3 rfl heq)
noncomputable def C34:Ctx:={ P:=Tryz.prog,f:=34,N:=75,c:=bodyOf Tryz.f34 }
def S34 (F:List Ch) (H0:Hp) (ga0:Nat) (r:CacheAnswer × Int × Cache) (v:Value) (H:Hp) (cs:List Ch):Prop:=∃ (A0_1:Option Addr) (c0_1:Nat) (ch0_1:Ch) (A0_2:Option Addr) (c0_2:Nat) (ch0_2:Ch) (A2_2:Option Addr) (c2_2:Nat) (ch2_2:Ch) (A2_3:Option Addr) (c2_3:Nat) (ch2_3:Ch),H0=H∧v=.tuple #[.agg #[.bool r.1.Done,.slice A0_1 r.1.Missing.length c0_1,.slice A0_2 r.1.Gone.length c0_2],iv r.2.1]∧ch0_1::ch0_2::some (ga0,.cells #[iv r.2.2.Room,iv r.2.2.Lease,.slice A2_2 r.2.2.Blobs.length c2_2,.slice A2_3 r.2.2.Entries.length c2_3] 25 (0,0))::ch2_2::ch2_3::F=cs∧SlOwn Kd.string 9 H A0_1 c0_1 r.1.Missing ch0_1∧SlOwn Kd.string 9 H A0_2 c0_2 r.1.Gone ch0_2∧SlOwn kBlob 45 H A2_2 c2_2 r.2.2.Blobs ch2_2∧SlOwn kEntry 47 H A2_3 c2_3 r.2.2.Entries ch2_3
theorem cache_pin.j1_c {r:CacheAnswer × Int × Cache}:∀ (ga0:Nat) (a0:Cache) (Aa0_3:Option Addr) (ca0_3:Nat) (cha0_3:Ch) (g2:Nat) (v_c0_2:List Blob) (Av_c0_2:Option Addr) (nv_c0_2 cv_c0_2:Nat) (chv_c0_2:Ch) ,SlOwn kEntry 47 H Aa0_3 ca0_3 a0.Entries cha0_3→SlOwn kBlob 45 H Av_c0_2 cv_c0_2 v_c0_2 chv_c0_2→nv_c0_2=v_c0_2.length→cache_pin.j1 a0 v_c0_2=some r→RunH C34 (S34 F H ga0 r) H w0 [.c [1,1,1,0],.c [1,1,1,1]] [(0,pg ga0 0),(4,pg g2 0)] H ((some (g2,.cells #[.bool false,.slice none 0 0,.slice none 0 0] 33 (0,0)))::(some (ga0,.cells #[iv a0.Room,iv a0.Lease,.slice Av_c0_2 nv_c0_2 cv_c0_2,.slice Aa0_3 a0.Entries.length ca0_3] 25 (0,0)))::chv_c0_2::cha0_3::F):=by
 intro ga0 a0 Aa0_3 ca0_3 cha0_3 g2 v_c0_2 Av_c0_2 nv_c0_2 cv_c0_2 chv_c0_2 hoa0_3 hov_c0_2 hnv_c0_2 heq
 subst hnv_c0_2
 unfold cache_pin.j1 at heq
 refine Sa 0<|Zk 1 ?_
 refine RgH.does (DoesH.store (k:=0) (g:=g2) (off:=0) (v:=.agg #[.bool true,.slice none 0 0,.slice none 0 0]) (cells':=#[.bool true,.slice none 0 0,.slice none 0 0]) (by kernel_rfl) rfl (by kernel_rfl) (by kernel_rfl)) ?_
 rintro _ _ _ _ ⟨rfl,rfl,rfl⟩
 refine RgH.nrm ?_
 refine Zd 3<|RunH.nilc ?_
 have ho3:SlOwn Kd.string 9 H none 0 ([]:List ByteArray) none:=SlOwn.nil
 refine RunH.nilc ?_
 have ho4:SlOwn Kd.string 9 H none 0 ([]:List ByteArray) none:=SlOwn.nil
 obtain rfl:=Option.some.inj heq
 refine Up 3 [2,1,0] ?_
 exact RunH.doneM' 1 (vs:=[.agg #[.bool true,.slice none 0 0,.slice none 0 0],iv 0]) (v:=.tuple #[.agg #[.bool true,.slice none 0 0,.slice none 0 0],iv 0]) (by kernel_rfl) Tryz.func34 (fun w hh=>show ResAll _ _ _ [.cell 4 33,.tmp 5] _ from ⟨⟨⟨g2,0,none⟩,by kernel_rfl,trS_run _ (vs:=[.bool true,.slice none 0 0,.slice none 0 0]) (r:=[]) (es:=[.load ⟨g2,0,none⟩ (.bool true),.load ⟨g2,1,none⟩ (.slice none 0 0),.load ⟨g2,2,none⟩ (.slice none 0 0)]) (by kernel_rfl) ⟨(hh.box 0 rfl rfl),(hh.box 0 rfl rfl),(hh.box 0 rfl rfl)⟩⟩,(show lk _ _=some _ by kernel_rfl),trivial⟩) rfl (cs':=none::none::(some (ga0,.cells #[iv a0.Room,iv a0.Lease,.slice Av_c0_2 v_c0_2.length cv_c0_2,.slice Aa0_3 a0.Entries.length ca0_3] 25 (0,0)))::chv_c0_2::cha0_3::F) rfl ⟨none,0,none,none,0,none,Av_c0_2,cv_c0_2,chv_c0_2,Aa0_3,ca0_3,cha0_3,rfl,rfl,rfl,ho3,ho4,hov_c0_2,hoa0_3⟩
theorem cache_pin_c {ga0:Nat} {a0:Cache} {Aa0_2:Option Addr} {na0_2 ca0_2:Nat} {cha0_2:Ch} {Aa0_3:Option Addr} {na0_3 ca0_3:Nat} {cha0_3:Ch} {a1:CacheEvent} {Aa1_3:Option Addr} {na1_3 ca1_3:Nat} {r:CacheAnswer × Int × Cache} (heq:cache_pin.f a0 a1=some r) (hoa0_2:SlOwn kBlob 45 H Aa0_2 ca0_2 a0.Blobs cha0_2) (hna0_2:na0_2=a0.Blobs.length) (hoa0_3:SlOwn kEntry 47 H Aa0_3 ca0_3 a0.Entries cha0_3) (hna0_3:na0_3=a0.Entries.length) (hra1_3:Rw Kd.string H F Aa1_3 a1.Digests) (hca1_3:na1_3≤ca1_3) (hna1_3:na1_3=a1.Digests.length):CallsH Tryz.prog 34 #[.pointer (some ⟨ga0,0,none⟩),.agg #[iv a1.Kind,iv a1.At,.string a1.Digest,.slice Aa1_3 na1_3 ca1_3,.string a1.Key,iv a1.Size]] H w0 ((some (ga0,.cells #[iv a0.Room,iv a0.Lease,.slice Aa0_2 na0_2 ca0_2,.slice Aa0_3 na0_3 ca0_3] 25 (0,0)))::cha0_2::cha0_3::F) (S34 F H ga0 r):=by
 refine Co C34 Tryz.func34 Tryz.ntmps34 ?_
 subst hna0_2
 subst hna0_3
 subst hna1_3
 unfold cache_pin.f at heq
 refine Sa 1 ?_
 refine RgH.does (DoesH.new (d:=3) (v:=fun g=>.pointer (some ⟨g,0,none⟩)) (o:=fun g=>.cells #[iv a1.Kind,iv a1.At,.string a1.Digest,.slice Aa1_3 a1.Digests.length ca1_3,.string a1.Key,iv a1.Size] 28 (0,0)) (fun g=>by kernel_rfl)) ?_
 rintro _ _ _ _ ⟨g1,rfl,rfl,rfl⟩
 refine RgH.does (DoesH.new (d:=4) (v:=fun g=>.pointer (some ⟨g,0,none⟩)) (o:=fun g=>.cells #[.bool false,.slice none 0 0,.slice none 0 0] 33 (0,0)) (fun g=>by kernel_rfl)) ?_
 rintro _ _ _ _ ⟨g2,rfl,rfl,rfl⟩
 refine Zd 3<|An 1<|Sd 0 11 [] [3,3,3,3,3,0,3,3,3,3,3]<|Zr [0,1,2,3,4] 6 (bxs 2++[bx 1 2]) (Pk 5 [0,1,2,3,4]) (Pk 5 [0,1,2,3,4]) ?_
 obtain ⟨y1,hy1,heq⟩:=bind_some heq
 refine Dz 5 (cal 14 (cache_find_c hy1 (hoa0_2.rw (.tail _ (.tail _ (.tail _ (.head _))))) hoa0_2.cap rfl (hoa0_3.rw (.tail _ (.tail _ (.tail _ (.tail _ (.head _)))))) hoa0_3.cap rfl)) ?_
 rintro _ _ _ _ ⟨_,rfl,rfl,rfl,rfl⟩
 refine ⟨fun _ w hh=>⟨fun _=>(Pk 5 [0,1,2,3,4]) w hh,fun _=>(Pk 5 [0,1,2,3,4]) w hh,(fun h=>by cases h)⟩,?_⟩
 refine Zr [6,7,8,9,10] 0 [] (Pk 5 [0,1,2,3,4]) (Pk 5 [0,1,2,3,4]) ?_
 refine DrH.done (by kernel_rfl) ?_
 refine An 3 ?_
 obtain ⟨t1,ht1,heq⟩:=bind_some heq
 have K6:RunH C34 (S34 F H ga0 r) H w0 [.c [1,1,0,0,1],.b 0,.c [1,1,1]] [(0,pg ga0 0),(3,pg g1 0),(4,pg g2 0),(6,iv y1.1),(28,.bool t1)] H ((some (g2,.cells #[.bool false,.slice none 0 0,.slice none 0 0] 33 (0,0)))::(some (g1,.cells #[iv a1.Kind,iv a1.At,.string a1.Digest,.slice Aa1_3 a1.Digests.length ca1_3,.string a1.Key,iv a1.Size] 28 (0,0)))::(some (ga0,.cells #[iv a0.Room,iv a0.Lease,.slice Aa0_2 a0.Blobs.length ca0_2,.slice Aa0_3 a0.Entries.length ca0_3] 25 (0,0)))::cha0_2::cha0_3::F):=by
  refine Cb heq ?_ ?_
  ·intro hb3 heq
   refine Sa 1<|Zk 1 ?_
   refine RgH.does (DoesH.store (k:=0) (g:=g2) (off:=0) (v:=.agg #[.bool false,.slice none 0 0,.slice none 0 0]) (cells':=#[.bool false,.slice none 0 0,.slice none 0 0]) (by kernel_rfl) rfl (by kernel_rfl) (by kernel_rfl)) ?_
   rintro _ _ _ _ ⟨rfl,rfl,rfl⟩
   refine RgH.nrm ?_
   refine Zd 3<|RunH.nilc ?_
   have ho1:SlOwn Kd.string 9 H none 0 ([]:List ByteArray) none:=SlOwn.nil
   refine RunH.nilc ?_
   have ho2:SlOwn Kd.string 9 H none 0 ([]:List ByteArray) none:=SlOwn.nil
   obtain rfl:=Option.some.inj heq
   refine Up 4 [2,1,0] ?_
   exact RunH.doneM' 1 (vs:=[.agg #[.bool false,.slice none 0 0,.slice none 0 0],iv 0]) (v:=.tuple #[.agg #[.bool false,.slice none 0 0,.slice none 0 0],iv 0]) (by kernel_rfl) Tryz.func34 (fun w hh=>show ResAll _ _ _ [.cell 4 33,.tmp 5] _ from ⟨⟨⟨g2,0,none⟩,by kernel_rfl,trS_run _ (vs:=[.bool false,.slice none 0 0,.slice none 0 0]) (r:=[]) (es:=[.load ⟨g2,0,none⟩ (.bool false),.load ⟨g2,1,none⟩ (.slice none 0 0),.load ⟨g2,2,none⟩ (.slice none 0 0)]) (by kernel_rfl) ⟨(hh.box 0 rfl rfl),(hh.box 0 rfl rfl),(hh.box 0 rfl rfl)⟩⟩,(show lk _ _=some _ by kernel_rfl),trivial⟩) rfl (cs':=none::none::(some (ga0,.cells #[iv a0.Room,iv a0.Lease,.slice Aa0_2 a0.Blobs.length ca0_2,.slice Aa0_3 a0.Entries.length ca0_3] 25 (0,0)))::cha0_2::cha0_3::F) rfl ⟨none,0,none,none,0,none,Aa0_2,ca0_2,cha0_2,Aa0_3,ca0_3,cha0_3,rfl,rfl,rfl,ho1,ho2,hoa0_2,hoa0_3⟩
  ·intro hb3 heq
   refine Sa 1<|Zw 4 [bx 1 0] ?_
   refine Cb heq ?_ ?_
   ·intro hb4 heq
    refine Sa 0 ?_
    obtain ⟨x2,hx2,heq⟩:=bind_some heq
    obtain ⟨ha2,cs2,hK2,hcc2⟩:=hoa0_2.get hx2
    obtain ⟨rfl⟩:=kBlob_open hK2
    refine Zv 11 [bx 2 2,nx ha2 hx2,el hcc2 3 4,nx ha2 hx2] ?_
    obtain ⟨ha3,cs3,hK3,hcc3⟩:=hoa0_2.get hx2
    obtain ⟨rfl⟩:=kBlob_open hK3
    refine RgH.does (DoesH.storeEl (a:=(((adr Aa0_2).add (y1.1.toNat*5)).add 4)) (k:=3) (kd:=kBlob) (c0:=[.string x2.Digest,iv x2.Size,iv x2.Used,iv x2.Until,iv x2.Pins]) (x':=(⟨x2.Digest,x2.Size,x2.Used,x2.Until,w64 (x2.Pins - 1)⟩:Blob)) (o:=4) (ix:=y1.1) (v:=iv (w64 (x2.Pins - 1))) (by kernel_rfl) rfl hoa0_2 hx2 (by kernel_rfl) hcc3 rfl (Nat.le_of_ble_eq_true (by kernel_rfl)) kBlob_mk) ?_
    rintro _ _ _ _ ⟨ch1,rfl,rfl,rfl,ho5⟩
    have hn1:a0.Blobs.length=(a0.Blobs.set y1.1.toNat (⟨x2.Digest,x2.Size,x2.Used,x2.Until,w64 (x2.Pins - 1)⟩:Blob)).length:=by rw [List.length_set]
    refine RgH.nrm ?_
    refine Dn<|An 2 ?_
    exact Gt 2 [0] ((cache_pin.j1_c) _ a0 _ _ _ _ (a0.Blobs.set y1.1.toNat (⟨x2.Digest,x2.Size,x2.Used,x2.Until,w64 (x2.Pins - 1)⟩:Blob)) _ _ _ _ hoa0_3 ho5 hn1 heq)
   ·intro hb4 heq
    refine Sa 1 ?_
    obtain ⟨x3,hx3,heq⟩:=bind_some heq
    obtain ⟨ha4,cs4,hK4,hcc4⟩:=hoa0_2.get hx3
    obtain ⟨rfl⟩:=kBlob_open hK4
    refine Zw 10 [bx 2 2,nx ha4 hx3,el hcc4 3 4] ?_
    refine Cb heq ?_ ?_
    ·intro hb5 heq
     refine Sa 1<|Zk 1 ?_
     refine RgH.does (DoesH.store (k:=0) (g:=g2) (off:=0) (v:=.agg #[.bool false,.slice none 0 0,.slice none 0 0]) (cells':=#[.bool false,.slice none 0 0,.slice none 0 0]) (by kernel_rfl) rfl (by kernel_rfl) (by kernel_rfl)) ?_
     rintro _ _ _ _ ⟨rfl,rfl,rfl⟩
     refine RgH.nrm ?_
     refine Zd 3<|RunH.nilc ?_
     have ho6:SlOwn Kd.string 9 H none 0 ([]:List ByteArray) none:=SlOwn.nil
     refine RunH.nilc ?_
     have ho7:SlOwn Kd.string 9 H none 0 ([]:List ByteArray) none:=SlOwn.nil
     obtain rfl:=Option.some.inj heq
     refine Up 4 [2,1,0] ?_
     exact RunH.doneM' 1 (vs:=[.agg #[.bool false,.slice none 0 0,.slice none 0 0],iv 16]) (v:=.tuple #[.agg #[.bool false,.slice none 0 0,.slice none 0 0],iv 16]) (by kernel_rfl) Tryz.func34 (fun w hh=>show ResAll _ _ _ [.cell 4 33,.tmp 5] _ from ⟨⟨⟨g2,0,none⟩,by kernel_rfl,trS_run _ (vs:=[.bool false,.slice none 0 0,.slice none 0 0]) (r:=[]) (es:=[.load ⟨g2,0,none⟩ (.bool false),.load ⟨g2,1,none⟩ (.slice none 0 0),.load ⟨g2,2,none⟩ (.slice none 0 0)]) (by kernel_rfl) ⟨(hh.box 0 rfl rfl),(hh.box 0 rfl rfl),(hh.box 0 rfl rfl)⟩⟩,(show lk _ _=some _ by kernel_rfl),trivial⟩) rfl (cs':=none::none::(some (ga0,.cells #[iv a0.Room,iv a0.Lease,.slice Aa0_2 a0.Blobs.length ca0_2,.slice Aa0_3 a0.Entries.length ca0_3] 25 (0,0)))::cha0_2::cha0_3::F) rfl ⟨none,0,none,none,0,none,Aa0_2,ca0_2,cha0_2,Aa0_3,ca0_3,cha0_3,rfl,rfl,rfl,ho6,ho7,hoa0_2,hoa0_3⟩
    ·intro hb5 heq
     refine Sa 0 ?_
     obtain ⟨x4,hx4,heq⟩:=bind_some heq
     obtain ⟨ha5,cs5,hK5,hcc5⟩:=hoa0_2.get hx4
     obtain ⟨rfl⟩:=kBlob_open hK5
     refine Zv 11 [bx 2 2,nx ha5 hx4,el hcc5 3 4,nx ha5 hx4] ?_
     obtain ⟨ha6,cs6,hK6,hcc6⟩:=hoa0_2.get hx4
     obtain ⟨rfl⟩:=kBlob_open hK6
     refine RgH.does (DoesH.storeEl (a:=(((adr Aa0_2).add (y1.1.toNat*5)).add 4)) (k:=3) (kd:=kBlob) (c0:=[.string x4.Digest,iv x4.Size,iv x4.Used,iv x4.Until,iv x4.Pins]) (x':=(⟨x4.Digest,x4.Size,x4.Used,x4.Until,w64 (x4.Pins+1)⟩:Blob)) (o:=4) (ix:=y1.1) (v:=iv (w64 (x4.Pins+1))) (by kernel_rfl) rfl hoa0_2 hx4 (by kernel_rfl) hcc6 rfl (Nat.le_of_ble_eq_true (by kernel_rfl)) kBlob_mk) ?_
     rintro _ _ _ _ ⟨ch2,rfl,rfl,rfl,ho8⟩
     have hn2:a0.Blobs.length=(a0.Blobs.set y1.1.toNat (⟨x4.Digest,x4.Size,x4.Used,x4.Until,w64 (x4.Pins+1)⟩:Blob)).length:=by rw [List.length_set]
     refine RgH.nrm ?_
     refine Dn<|An 2 ?_
     exact Gt 2 [0] ((cache_pin.j1_c) _ a0 _ _ _ _ (a0.Blobs.set y1.1.toNat (⟨x4.Digest,x4.Size,x4.Used,x4.Until,w64 (x4.Pins+1)⟩:Blob)) _ _ _ _ hoa0_3 ho8 hn2 heq)
 replace heq:=ht1
 refine Sa 0<|Zk 3 ?_
 rcases bool_cases (!y1.2) with hb1 | hb1
 ·replace heq:=bif_true hb1 heq
  refine Zs 31 (congrArg Value.bool hb1)<|Zk 19 ?_
  obtain rfl:=Option.some.inj heq
  refine Dn ?_
  exact Gt 0 [] (K6)
 ·replace heq:=bif_false hb1 heq
  refine Zs 31 (congrArg Value.bool hb1)<|Zv 7 [bx 1 0] ?_
  rcases bool_cases (a1.Kind == 5) with hb2 | hb2
  ·replace heq:=bif_true hb2 heq
   refine Zs 35 (congrArg Value.bool hb2) ?_
   obtain ⟨x1,hx1,heq⟩:=bind_some heq
   obtain ⟨ha1,cs1,hK1,hcc1⟩:=hoa0_2.get hx1
   obtain ⟨rfl⟩:=kBlob_open hK1
   refine Zv 19 [bx 2 2,nx ha1 hx1,el hcc1 3 4] ?_
   obtain rfl:=Option.some.inj heq
   refine Dn ?_
   exact Gt 0 [] (K6)
  ·replace heq:=bif_false hb2 heq
   refine Zs 35 (congrArg Value.bool hb2)<|Zk 19 ?_
   obtain rfl:=Option.some.inj heq
   refine Dn ?_
   exact Gt 0 [] (K6)
noncomputable def C84:Ctx:={ P:=Tryz.prog,f:=84,N:=9,c:=bodyOf Tryz.f84 }
def S84 (F:List Ch) (H0:Hp) (r:Int) (v:Value) (H:Hp) (cs:List Ch):Prop:=H0=H∧v=iv r∧F=cs
theorem cache_entryAt_1_c {a0:Entry} {Aa0_1:Option Addr} {na0_1 ca0_1:Nat} {a1:ByteArray} {r:Int} (heq:cache_entryAt_1.f a0 a1=some r) (hra0_1:Rw Kd.string H F Aa0_1 a0.Refs) (hca0_1:na0_1≤ca0_1) (hna0_1:na0_1=a0.Refs.length):CallsH Tryz.prog 84 #[.agg #[.string a0.Key,.slice Aa0_1 na0_1 ca0_1,iv a0.Used],.string a1] H w0 (F) (S84 F H r):=by
 refine Co C84 Tryz.func84 Tryz.ntmps84 ?_
 subst hna0_1
 unfold cache_entryAt_1.f at heq
 refine Sa 1 ?_
 refine RgH.does (DoesH.new (d:=2) (v:=fun g=>.pointer (some ⟨g,0,none⟩)) (o:=fun g=>.cells #[.string a0.Key,.slice Aa0_1 a0.Refs.length ca0_1,iv a0.Used] 47 (0,0)) (fun g=>by kernel_rfl)) ?_
 rintro _ _ _ _ ⟨g1,rfl,rfl,rfl⟩
 refine Zd 2<|Sa 1<|Zv 3 [bx 0 0] ?_
 obtain ⟨y1,hy1,heq⟩:=bind_some heq
 refine RgH.does (cal 8 (strings_Compare_c (a0:=a0.Key) (a1:=a1)  hy1)) ?_
 rintro _ _ _ _ ⟨_,rfl,rfl,rfl,rfl⟩
 refine Zd 5 ?_
 obtain rfl:=Option.some.inj heq
 refine Up 1 [] ?_
 exact RunH.done (by kernel_rfl) Tryz.func84 (v:=iv y1) (by kernel_rfl) ⟨rfl,rfl,rfl⟩
noncomputable def C83:Ctx:={ P:=Tryz.prog,f:=83,N:=49,c:=bodyOf Tryz.f83 }
def S83 (F:List Ch) (H0:Hp) (r:Int × Bool) (v:Value) (H:Hp) (cs:List Ch):Prop:=H0=H∧v=.tuple #[iv r.1,.bool r.2]∧F=cs
theorem slices_BinarySearchFunc_Entry_string.e1_c {r:Int × Bool}:∀ (a0:List Entry) (Aa0:Option Addr) (ca0:Nat) (a1:ByteArray) (v_i9:Int) ,Rw kEntry H F Aa0 a0→a0.length≤ca0→slices_BinarySearchFunc_Entry_string.e1 a0 a1 v_i9=some r→RunH C83 (S83 F H r) H w0 [.c [1,1,1,1,0],.c [1,1,1,1,1]] [(0,.slice Aa0 a0.length ca0),(1,.string a1),(2,.func (.func 84) #[] #[]),(8,iv (a0.length:Int)),(9,iv v_i9)] H (F):=by
 intro a0 Aa0 ca0 a1 v_i9 hra0 hca0 heq
 unfold slices_BinarySearchFunc_Entry_string.e1 at heq
 obtain ⟨t1,ht1,heq⟩:=bind_some heq
 have K1:RunH C83 (S83 F H r) H w0 [.c [1,1,1,1,1]] [(6,iv v_i9),(7,.bool t1)] H (F):=by
  obtain rfl:=Option.some.inj heq
  exact RunH.done (by kernel_rfl) Tryz.func83 (v:=.tuple #[iv v_i9,.bool t1]) (by kernel_rfl) ⟨rfl,rfl,rfl⟩
 replace heq:=ht1
 refine Sa 0<|Zk 5 ?_
 rcases bool_cases (decide (v_i9<(a0.length:Int))) with hb1 | hb1
 ·replace heq:=bif_true hb1 heq
  refine Zs 39 (congrArg Value.bool hb1) ?_
  obtain ⟨x1,hx1,heq⟩:=bind_some heq
  obtain ⟨ha1,cs1,hK1,hcc1⟩:=hra0.get hx1
  obtain ⟨A1,c1,rfl,hc1,hr1⟩:=kEntry_open hK1
  refine Zv 11 ([nx ha1 hx1]++ers hcc1 0) ?_
  obtain ⟨y1,hy1,heq⟩:=bind_some heq
  refine RgH.does (cal 46 (cache_entryAt_1_c hy1 (Rw.of hr1) hc1 rfl)) ?_
  rintro _ _ _ _ ⟨_,rfl,rfl,rfl,rfl⟩
  refine Zk 16 ?_
  obtain rfl:=Option.some.inj heq
  refine Dn ?_
  exact Gt 0 [] (K1)
 ·replace heq:=bif_false hb1 heq
  refine Zs 39 (congrArg Value.bool hb1)<|Zk 16 ?_
  obtain rfl:=Option.some.inj heq
  refine Dn ?_
  exact Gt 0 [] (K1)
theorem slices_BinarySearchFunc_Entry_string.l2_c {r:Int × Bool} (e1:(List Entry)→ByteArray→Int→Option (Int × Bool))
  (he1:∀ (a0:List Entry) (Aa0:Option Addr) (ca0:Nat) (a1:ByteArray) (v_i9:Int) ,Rw kEntry H F Aa0 a0→a0.length≤ca0→e1 a0 a1 v_i9=some r→RunH C83 (S83 F H r) H w0 [.c [1,1,1,1,0],.c [1,1,1,1,1]] [(0,.slice Aa0 a0.length ca0),(1,.string a1),(2,.func (.func 84) #[] #[]),(8,iv (a0.length:Int)),(9,iv v_i9)] H (F)):∀ (k:Nat),∀ (a0:List Entry) (Aa0:Option Addr) (ca0:Nat) (a1:ByteArray) (v_i9 v_j10:Int) ,Rw kEntry H F Aa0 a0→a0.length≤ca0→slices_BinarySearchFunc_Entry_string.l2 e1 k a0 a1 v_i9 v_j10=some r→RunH C83 (S83 F H r) H w0 [.c [1,1,1,0,0,0],.l [1,1,1,0,0,0],.b 0,.c [1,1,1,1]] [(0,.slice Aa0 a0.length ca0),(1,.string a1),(2,.func (.func 84) #[] #[]),(8,iv (a0.length:Int)),(9,iv v_i9),(10,iv v_j10)] H (F):=by
 intro k
 induction k with
 | zero=>intro a0 Aa0 ca0 a1 v_i9 v_j10 hra0 hca0 heq; exact nomatch (show (none:Option (Int × Bool))=some r from heq)
 | succ k ihk =>
  intro a0 Aa0 ca0 a1 v_i9 v_j10 hra0 hca0 heq
  rw [slices_BinarySearchFunc_Entry_string.l2] at heq
  refine Sa 2<|Zd 3 ?_
  refine Cb heq ?_ ?_
  ·intro hb2 heq
   refine Sa 3<|Zw 7 [⟨.need ((0:Int)≤1),fun w hh=>(show (0:Int)≤1 by decide)⟩]<|Sa 1 ?_
   obtain ⟨x2,hx2,heq⟩:=bind_some heq
   obtain ⟨ha2,cs2,hK2,hcc2⟩:=hra0.get hx2
   obtain ⟨A2,c2,rfl,hc2,hr2⟩:=kEntry_open hK2
   refine Zv 6 ([nx ha2 hx2]++ers hcc2 0) ?_
   obtain ⟨y2,hy2,heq⟩:=bind_some heq
   refine RgH.does (cal 30 (cache_entryAt_1_c hy2 (Rw.of hr2) hc2 rfl)) ?_
   rintro _ _ _ _ ⟨_,rfl,rfl,rfl,rfl⟩
   refine Zd 8 ?_
   refine Cb heq ?_ ?_
   ·intro hb3 heq
    refine Sa 0<|Zd 3<|An 2 ?_
    exact Gt 0 [] (ihk a0 _ _ a1 (w64 ((w64 (iShr .u64 (IntKind.wrap .u64 (w64 (v_i9+v_j10))) 1))+1)) v_j10 hra0 hca0 heq)
   ·intro hb3 heq
    refine Sa 0<|Zd 2<|An 2 ?_
    exact Gt 0 [] (ihk a0 _ _ a1 v_i9 (w64 (iShr .u64 (IntKind.wrap .u64 (w64 (v_i9+v_j10))) 1)) hra0 hca0 heq)
  ·intro hb2 heq
   refine An 2 ?_
   exact Gt 0 [] (he1 a0 _ _ a1 v_i9 hra0 hca0 heq)
theorem slices_BinarySearchFunc_Entry_string_c {a0:List Entry} {Aa0:Option Addr} {na0 ca0:Nat} {a1:ByteArray} {r:Int × Bool} (heq:slices_BinarySearchFunc_Entry_string.f a0 a1=some r) (hra0:Rw kEntry H F Aa0 a0) (hca0:na0≤ca0) (hna0:na0=a0.length):CallsH Tryz.prog 83 #[.slice Aa0 na0 ca0,.string a1,.func (.func 84) #[] #[]] H w0 (F) (S83 F H r):=by
 refine Co C83 Tryz.func83 Tryz.ntmps83 ?_
 subst hna0
 unfold slices_BinarySearchFunc_Entry_string.f at heq
 refine Sa 1<|Zd 2<|Sa 1<|Zd 3<|Sa 1<|Zd 3<|An 3 ?_
 exact Gt 0 [] (((slices_BinarySearchFunc_Entry_string.l2_c (e1:=slices_BinarySearchFunc_Entry_string.e1) (slices_BinarySearchFunc_Entry_string.e1_c)) big) a0 _ _ a1 0 (a0.length:Int) hra0 hca0 heq)
noncomputable def C56:Ctx:={ P:=Tryz.prog,f:=56,N:=12,c:=bodyOf Tryz.f56 }
def S56 (F:List Ch) (H0:Hp) (r:Int × Bool) (v:Value) (H:Hp) (cs:List Ch):Prop:=H0=H∧v=.tuple #[iv r.1,.bool r.2]∧F=cs
theorem cache_entryAt_c {a0:Cache} {Aa0_2:Option Addr} {na0_2 ca0_2:Nat} {Aa0_3:Option Addr} {na0_3 ca0_3:Nat} {a1:ByteArray} {r:Int × Bool} (heq:cache_entryAt.f a0 a1=some r) (hra0_2:Rw kBlob H F Aa0_2 a0.Blobs) (hca0_2:na0_2≤ca0_2) (hna0_2:na0_2=a0.Blobs.length) (hra0_3:Rw kEntry H F Aa0_3 a0.Entries) (hca0_3:na0_3≤ca0_3) (hna0_3:na0_3=a0.Entries.length):CallsH Tryz.prog 56 #[.agg #[iv a0.Room,iv a0.Lease,.slice Aa0_2 na0_2 ca0_2,.slice Aa0_3 na0_3 ca0_3],.string a1] H w0 (F) (S56 F H r):=by
 refine Co C56 Tryz.func56 Tryz.ntmps56 ?_
 subst hna0_2
 subst hna0_3
 unfold cache_entryAt.f at heq
 refine Sa 1 ?_
 refine RgH.does (DoesH.new (d:=2) (v:=fun g=>.pointer (some ⟨g,0,none⟩)) (o:=fun g=>.cells #[iv a0.Room,iv a0.Lease,.slice Aa0_2 a0.Blobs.length ca0_2,.slice Aa0_3 a0.Entries.length ca0_3] 25 (0,0)) (fun g=>by kernel_rfl)) ?_
 rintro _ _ _ _ ⟨g1,rfl,rfl,rfl⟩
 refine Zd 3<|Sa 1<|Zv 3 [bx 0 3] ?_
 obtain ⟨y1,hy1,heq⟩:=bind_some heq
 refine RgH.does (cal 9 (slices_BinarySearchFunc_Entry_string_c hy1 (hra0_3.wk (fun _ h=>(.tail _ h))) hca0_3 rfl)) ?_
 rintro _ _ _ _ ⟨_,rfl,rfl,rfl,rfl⟩
 refine Zd 8 ?_
 obtain rfl:=Option.some.inj heq
 refine Up 1 [] ?_
 exact RunH.done (by kernel_rfl) Tryz.func56 (v:=.tuple #[iv y1.1,.bool y1.2]) (by kernel_rfl) ⟨rfl,rfl,rfl⟩
noncomputable def C58:Ctx:={ P:=Tryz.prog,f:=58,N:=95,c:=bodyOf Tryz.f58 }
def S58 (F:List Ch) (H0:Hp) (r:List Entry) (v:Value) (H:Hp) (cs:List Ch):Prop:=∃ (A0:Option Addr) (c0:Nat) (ch0:Ch),H0=H∧v=.slice A0 r.length c0∧ch0::F=cs∧SlOwn kEntry 47 H A0 c0 r ch0
theorem slices_Insert_Entry_c {a0:List Entry} {Aa0:Option Addr} {na0 ca0:Nat} {cha0:Ch} {a1:Int} {a2:List Entry} {Aa2:Option Addr} {na2 ca2:Nat} {cha2:Ch} {r:List Entry} (hoa0:SlOwn kEntry 47 H Aa0 ca0 a0 cha0) (hna0:na0=a0.length) (hoa2:SlOwn kEntry 47 H Aa2 ca2 a2 cha2) (hna2:na2=a2.length) (heq:slices_Insert_Entry.f a0 a1 a2=some r):CallsH Tryz.prog 58 #[.slice Aa0 na0 ca0,iv a1,.slice Aa2 na2 ca2] H w0 (cha0::cha2::F) (S58 F H r):=by
 refine calls_of_runH (F:=C58) Tryz.func58 (by kernel_rfl) Tryz.ntmps58 (args:=[.slice Aa0 na0 ca0,iv a1,.slice Aa2 na2 ca2]) (by kernel_rfl) ?_
 subst hna0 hna2
 unfold slices_Insert_Entry.f at heq
 obtain ⟨hn,heq⟩:=guard?_some heq
 obtain rfl:=Option.some.inj heq
 simp only [Bool.and_eq_true,decide_eq_true_eq] at hn
 obtain ⟨h0,h1,h2,h3⟩:=hn
 have h3:=room_le h3
 obtain ⟨I,rfl⟩:∃ I:Nat,a1=(I:Int):=⟨a1.toNat,by omega⟩
 have hI:I≤a0.length:=by omega
 have hbig:a0.length+a2.length≤140737490452480:=by
  have:(a0.length+a2.length)*1≤(a0.length+a2.length)*48:=Nat.mul_le_mul_left _ (by omega)
  omega
 have hw1:w64 ((a0.length:Int)+(a2.length:Int))=((a0.length+a2.length:Nat):Int):=by unfold w64; rw [IntKind.wrap_i64]; omega
 have hw2:w64 ((I:Int)+(a2.length:Int))=((I+a2.length:Nat):Int):=by unfold w64; rw [IntKind.wrap_i64]; omega
 have hw3:w64 (((a0.length+a2.length:Nat):Int) - (I:Int))=((a0.length+a2.length - I:Nat):Int):=by rw [show ((a0.length+a2.length:Nat):Int) - (I:Int)=((a0.length+a2.length - I:Nat):Int) by omega]; unfold w64; rw [IntKind.wrap_i64]; omega
 simp only [Int.toNat_natCast]
 refine An 1<|Rr<|Rd 1 [0,1,2] [(0,.slice Aa0 a0.length ca0),(1,iv (I:Int)),(2,.slice Aa2 a2.length ca2)]<|An 1<|Rr<|Rw' 3 [0,1,2] [] [.need ((0:Int)≤(I:Int)∧(I:Int)≤((a0.length:Nat):Int))] [(0,.slice Aa0 a0.length ca0),(1,iv (I:Int)),(2,.slice Aa2 a2.length ca2)] (fun w hh=>⟨h0,h1⟩)<|An 1<|Rr<|Rd 3 [0,1,2,7] [(0,.slice Aa0 a0.length ca0),(1,iv (I:Int)),(2,.slice Aa2 a2.length ca2),(7,iv (a2.length:Int))]<|An 2<|Rr<|Rd 2 [0,1,2,7,16] [(0,.slice Aa0 a0.length ca0),(1,iv (I:Int)),(2,.slice Aa2 a2.length ca2),(7,iv (a2.length:Int)),(16,.bool ((a2.length:Int) == 0))]<|Cf ((a2.length:Int) == 0) (beq_eq_false_iff_ne.2 (by omega))<|An 2<|Rr<|Rd 3 [0,1,2,7,8] [(0,.slice Aa0 a0.length ca0),(1,iv (I:Int)),(2,.slice Aa2 a2.length ca2),(7,iv (a2.length:Int)),(8,iv (a0.length:Int))]<|An 2<|Rr<|Rd 3 [0,1,2,7,8,22] [(0,.slice Aa0 a0.length ca0),(1,iv (I:Int)),(2,.slice Aa2 a2.length ca2),(7,iv (a2.length:Int)),(8,iv (a0.length:Int)),(22,.bool ((I:Int) == (a0.length:Int)))] ?_
 rcases bool_cases ((I:Int) == (a0.length:Int)) with hb | hb
 ·have hIn:I=a0.length:=by have:=eq_of_beq hb; omega
  have e:a0.take I++a2++a0.drop I=a0++a2:=by rw [hIn]; simp
  rw [e]
  refine Ct ((I:Int) == (a0.length:Int)) hb<|An 1<|Rr<|Rk 2 [23,24] [(23,.slice Aa0 a0.length ca0),(24,.slice Aa2 a2.length ca2)] ?_
  refine RgH.does (DoesH.append (d:=25) (k:=0) (t:=23) (e:=47) (bytes:=48) (kd:=kEntry) (n:=a0.length) (m:=a2.length) (xs:=a0) (ys:=a2) (A:=Aa0) (B:=Aa2) (c:=ca0) (cB:=ca2) (by kernel_rfl) rfl rfl (by kernel_rfl) rfl hoa0 (fun w hh=>hoa2.rdb (hh.chin 1 rfl)) h3 (by omega)) ?_
  rintro _ _ _ _ ⟨A1,c1,ch1,rfl,rfl,rfl,ho1⟩
  refine Rd 4 [6] [(6,.slice A1 (a0++a2).length c1)] ?_
  refine RunH.pick 2 [0] (cs':=ch1::F) (by kernel_rfl) rfl ?_
  exact RunH.done (by kernel_rfl) Tryz.func58 (v:=.slice A1 (a0++a2).length c1) (by kernel_rfl) ⟨A1,c1,ch1,rfl,rfl,rfl,ho1⟩
 ·have hIn:I<a0.length:=by have:=beq_eq_false_iff_ne.1 hb; omega
  have hx:a0≠[]:=by intro h; subst h; simp at hIn
  have hy:a2≠[]:=by intro h; subst h; simp at h2
  have hrl:(a0.take I++a2++a0.drop I).length=a0.length+a2.length:=by simp; omega
  rcases hoa0 with ⟨h,_⟩ | ⟨b,off,cells,rfl,rfl,k3,k4,k5,k6⟩
  ·exact absurd h hx
  rcases hoa2 with ⟨h,_⟩ | ⟨vb,voff,vcells,rfl,rfl,q3,q4,q5,q6⟩
  ·exact absurd h hy
  obtain ⟨newsV,v1,v2,v3,v4⟩:=Rep.toList q6
  obtain ⟨newsD,d1,d2,d3,d4⟩:=Rep.toList (Rep.drop k6 I)
  have hsz:(kEntry).sz=3:=rfl
  have hdl:(a0.drop I).length=a0.length - I:=by simp
  rw [hdl] at d1
  rw [hsz] at v1 d1 d2 k5 q5
  refine Cf ((I:Int) == (a0.length:Int)) hb<|An 3<|Rr<|Rd 6 [0,1,2,7,8,31] [(0,.slice (some ⟨b,off,none⟩) a0.length ca0),(1,iv (I:Int)),(2,.slice (some ⟨vb,voff,none⟩) a2.length ca2),(7,iv (a2.length:Int)),(8,iv (a0.length:Int)),(31,.bool (decide ((ca0:Int)<w64 ((a0.length:Int)+(a2.length:Int)))))] ?_
  rcases bool_cases (decide ((ca0:Int)<w64 ((a0.length:Int)+(a2.length:Int)))) with hc | hc
  ·have hroom:ca0<a0.length+a2.length:=by rw [hw1] at hc; have:=of_decide_eq_true hc; omega
   refine Ct (decide ((ca0:Int)<w64 ((a0.length:Int)+(a2.length:Int)))) hc<|An 1<|Rr<|Rv 8 [0,1,2,7,34,39] [] [.need ((0:Int)≤(I:Int)∧(I:Int)≤((ca0:Nat):Int))] [(0,.slice (some ⟨b,off,none⟩) a0.length ca0),(1,iv (I:Int)),(2,.slice (some ⟨vb,voff,none⟩) a2.length ca2),(7,iv (a2.length:Int)),(34,.slice (some ⟨b,off,none⟩) I ca0),(39,iv (w64 (w64 ((a0.length:Int)+(a2.length:Int)) - (I:Int))))] (fun w hh=>⟨h0,by omega⟩) ?_
   have hzq:w64 (w64 ((a0.length:Int)+(a2.length:Int)) - (I:Int))=((a0.length+a2.length - I:Nat):Int):=by rw [hw1,hw3]
   have hrt:Kd.Rep kEntry H cells off (a0.take I):=Rep.take k6 I
   have htl:(a0.take I).length=I:=by simp; omega
   refine RgH.does (DoesH.appendZeros (dd:=40) (kd:=kEntry) (t:=23) (tn:=3) (e:=47) (bytes:=48) (q:=a0.length+a2.length - I) (A:=some ⟨b,off,none⟩) (a:=⟨b,off,none⟩) (c:=ca0) (n:=I) (xs:=a0.take I) (by kernel_rfl) rfl hzq (by kernel_rfl) htl.symm (by kernel_rfl) (fun w hh hne=>⟨b,off,cells,47,(0,0),rfl,hh.chin 0 rfl,hrt⟩) (by omega) (by omega) (by rw [show I+(a0.length+a2.length - I)=a0.length+a2.length by omega]; exact h3) (by omega)) ?_
   rintro _ _ _ _ ⟨g,c',cells2,rfl,rfl,rfl,g1,g2,g3,g4⟩
   rw [hsz] at g3
   refine Rd 10 [0,1,2,7,9] [(0,.slice (some ⟨b,off,none⟩) a0.length ca0),(1,iv (I:Int)),(2,.slice (some ⟨vb,voff,none⟩) a2.length ca2),(7,iv (a2.length:Int)),(9,.slice (some ⟨g,0,none⟩) (I+(a0.length+a2.length - I)) c')]<|An 1<|Rr<|Rv 4 [0,1,2,7,9,43,44] [] [.need ((0:Int)≤(I:Int)∧(I:Int)≤((I+(a0.length+a2.length - I):Nat):Int))] [(0,.slice (some ⟨b,off,none⟩) a0.length ca0),(1,iv (I:Int)),(2,.slice (some ⟨vb,voff,none⟩) a2.length ca2),(7,iv (a2.length:Int)),(9,.slice (some ⟨g,0,none⟩) (I+(a0.length+a2.length - I)) c'),(43,.slice (shiftA c' I 3 (some ⟨g,0,none⟩)) (I+(a0.length+a2.length - I) - I) (c' - I)),(44,.slice (some ⟨vb,voff,none⟩) a2.length ca2)] (fun w hh=>⟨h0,by omega⟩) ?_
   refine RgH.does (DoesH.copyRaw (k:=0) (t:=23) (e:=47) (bytes:=48) (sz:=3) (A1:=shiftA c' I 3 (some ⟨g,0,none⟩)) (A2:=some ⟨vb,voff,none⟩) (dd:=some 45) (dc:=c' - I) (sc:=ca2) (dl:=I+(a0.length+a2.length - I) - I) (sl:=a2.length) (b:=g) (o:=0+I*3) (a:=⟨vb,voff,none⟩) (cells:=cells2) (news:=newsV) (by kernel_rfl) (shiftA_at (n:=I+1) (by omega) (by omega) rfl) rfl (by kernel_rfl) rfl (by rw [v1]; congr 1; simp only [Nat.min_def]; split <;> omega) (fun w hh j u hu=>by rw [add_plain]; exact blk_cell (hh.chin 2 rfl) (v2 j u hu)) v3 (by rw [v1]; omega)) ?_
   rintro _ _ _ _ ⟨rfl,rfl,rfl⟩
   refine Rd 5 [0,1,2,7,9] [(0,.slice (some ⟨b,off,none⟩) a0.length ca0),(1,iv (I:Int)),(2,.slice (some ⟨vb,voff,none⟩) a2.length ca2),(7,iv (a2.length:Int)),(9,.slice (some ⟨g,0,none⟩) (I+(a0.length+a2.length - I)) c')]<|An 1 ?_
   refine RunH.draw (fun w=>True) (fun w=>True) [3,3,3,3,3,3,3,3,0] (n:=9) (ls:=[false,false,false,false,false,false,false,false,false]) (by kernel_rfl) (by kernel_rfl) (by kernel_rfl) rfl ?_
   refine Dr [0,1,2,3,4,5,6,7] 1 (nb 9 255) [] [.need ((0:Int)≤w64 ((I:Int)+(a2.length:Int))∧w64 ((I:Int)+(a2.length:Int))≤((I+(a0.length+a2.length - I):Nat):Int)),.need ((0:Int)≤(I:Int)∧(I:Int)≤((a0.length:Nat):Int))] [(53,.slice (shiftA ca0 I 3 (some ⟨b,off,none⟩)) (a0.length - I) (ca0 - I)),(52,iv (I:Int)),(51,.slice (some ⟨b,off,none⟩) a0.length ca0),(50,.slice (shiftA c' (w64 ((I:Int)+(a2.length:Int))).toNat 3 (some ⟨g,0,none⟩)) (I+(a0.length+a2.length - I) - (w64 ((I:Int)+(a2.length:Int))).toNat) (c' - (w64 ((I:Int)+(a2.length:Int))).toNat)),(49,iv (w64 ((I:Int)+(a2.length:Int)))),(48,iv (a2.length:Int)),(47,iv (I:Int)),(46,.slice (some ⟨g,0,none⟩) (I+(a0.length+a2.length - I)) c'),(0,.slice (some ⟨b,off,none⟩) a0.length ca0),(1,iv (I:Int)),(2,.slice (some ⟨vb,voff,none⟩) a2.length ca2),(7,iv (a2.length:Int)),(9,.slice (some ⟨g,0,none⟩) (I+(a0.length+a2.length - I)) c')] (fun w hh=>trivial) (fun w hh=>trivial) (fun w hh=>⟨by rw [hw2]; constructor <;> omega,h0,h1⟩) ?_
   refine DrH.does (n:=0) (ls':=[true,true,true,true,true,true,true,true,true]) 8 (by kernel_rfl) rfl (DoesH.copyRaw (k:=0) (t:=23) (e:=47) (bytes:=48) (sz:=3) (A1:=shiftA c' (w64 ((I:Int)+(a2.length:Int))).toNat 3 (some ⟨g,0,none⟩)) (A2:=shiftA ca0 I 3 (some ⟨b,off,none⟩)) (dd:=some 54) (dc:=c' - (w64 ((I:Int)+(a2.length:Int))).toNat) (sc:=ca0 - I) (dl:=I+(a0.length+a2.length - I) - (w64 ((I:Int)+(a2.length:Int))).toNat) (sl:=a0.length - I) (b:=g) (o:=0+(I+a2.length)*3) (a:=⟨b,off+I*3,none⟩) (cells:=owr cells2 (0+I*3) newsV) (news:=newsD) (by kernel_rfl) (by rw [hw2]; exact shiftA_at (n:=I+a2.length+1) (by omega) (by omega) rfl) (shiftA_at hIn k3 rfl) (by kernel_rfl) rfl (by rw [d1,hw2]; congr 1; simp only [Nat.min_def,Int.toNat_natCast]; split <;> omega) (fun w hh j u hu=>by rw [add_plain]; exact blk_cell (hh.chin 1 rfl) (d2 j u hu)) d3 (by rw [owr_size,d1]; omega)) ?_
   rintro _ _ _ _ ⟨rfl,rfl,rfl⟩
   refine ⟨fun _ w hh=>⟨fun _=>trivial,fun _=>trivial,(fun h=>by cases h)⟩,?_⟩
   refine Kr [9] [(9,.slice (some ⟨g,0,none⟩) (I+(a0.length+a2.length - I)) c')] ?_
   refine DrH.done (by kernel_rfl) ?_
   refine An 1<|Rr<|Rd 2 [6] [(6,.slice (some ⟨g,0,none⟩) (I+(a0.length+a2.length - I)) c')] ?_
   have r1:Kd.Rep kEntry H (owr cells2 (0+I*3) newsV) 0 (a0.take I++a2):=by
    have:=Rep.owr g4 v4 (by rw [htl,hsz,v1]; omega)
    rwa [htl,hsz] at this
   have hl1:(a0.take I++a2).length=I+a2.length:=by rw [List.length_append,htl]
   have r2:Kd.Rep kEntry H (owr (owr cells2 (0+I*3) newsV) (0+(I+a2.length)*3) newsD) 0 (a0.take I++a2++a0.drop I):=by
    have:=Rep.owr r1 d4 (by rw [hl1,hsz,d1,owr_size]; omega)
    rwa [hl1,hsz] at this
   have ho:SlOwn kEntry 47 H (some ⟨g,0,none⟩) c' (a0.take I++a2++a0.drop I) (some (g,.cells (owr (owr cells2 (0+I*3) newsV) (0+(I+a2.length)*3) newsD) 47 (0,0))):=.inr ⟨g,0,_,rfl,rfl,by rw [hrl]; omega,g2,by rw [owr_size,owr_size,hsz]; exact g3,r2⟩
   refine RunH.pick 3 [0] (cs':=some (g,.cells (owr (owr cells2 (0+I*3) newsV) (0+(I+a2.length)*3) newsD) 47 (0,0))::F) (by kernel_rfl) rfl ?_
   exact RunH.done (by kernel_rfl) Tryz.func58 (v:=.slice (some ⟨g,0,none⟩) (I+(a0.length+a2.length - I)) c') (by kernel_rfl) ⟨some ⟨g,0,none⟩,c',_,rfl,by rw [hrl,show I+(a0.length+a2.length - I)=a0.length+a2.length by omega],rfl,ho⟩
  ·have hroom:a0.length+a2.length≤ca0:=by rw [hw1] at hc; have:=of_decide_eq_false hc; omega
   refine Cf (decide ((ca0:Int)<w64 ((a0.length:Int)+(a2.length:Int)))) hc<|An 2<|Rr<|Rv 6 [0,1,2,7] [] [.need ((0:Int)≤w64 ((a0.length:Int)+(a2.length:Int))∧w64 ((a0.length:Int)+(a2.length:Int))≤((ca0:Nat):Int))] [(0,.slice (some ⟨b,off,none⟩) (w64 ((a0.length:Int)+(a2.length:Int))).toNat ca0),(1,iv (I:Int)),(2,.slice (some ⟨vb,voff,none⟩) a2.length ca2),(7,iv (a2.length:Int))] (fun w hh=>by rw [hw1]; constructor <;> omega) ?_
   refine RgH.val1 (v':=.slice (some ⟨b,off,none⟩) (a0.length+a2.length) ca0) (by rw [hw1]; rfl) ?_
   refine Dn<|An 2<|Rr<|Rv 6 [0,1,2,7,61,66] [] [.need ((0:Int)≤w64 ((I:Int)+(a2.length:Int))∧w64 ((I:Int)+(a2.length:Int))≤((a0.length+a2.length:Nat):Int))] [(0,.slice (some ⟨b,off,none⟩) (a0.length+a2.length) ca0),(1,iv (I:Int)),(2,.slice (some ⟨vb,voff,none⟩) a2.length ca2),(7,iv (a2.length:Int)),(61,.slice (some ⟨vb,voff,none⟩) a2.length ca2),(66,.slice (shiftA ca0 (w64 ((I:Int)+(a2.length:Int))).toNat 3 (some ⟨b,off,none⟩)) (a0.length+a2.length - (w64 ((I:Int)+(a2.length:Int))).toNat) (ca0 - (w64 ((I:Int)+(a2.length:Int))).toNat))] (fun w hh=>by rw [hw2]; constructor <;> omega) ?_
   have hsh:shiftA ca0 (w64 ((I:Int)+(a2.length:Int))).toNat 3 (some ⟨b,off,none⟩)=some ⟨b,off+(I+a2.length)*3,none⟩:=by rw [hw2]; exact shiftA_at (n:=a0.length+a2.length) (by omega) hroom rfl
   have hne:∀ w,Heap H w0 w (some (b,.cells cells 47 (0,0))::some (vb,.cells vcells 47 (0,0))::F)→vb≠b:=fun w hh=>hh.dif 1 0 _ _ rfl rfl (by omega)
   refine RgH.does (DoesH.ext (d:=67) (g:=85) (args:=#[.slice (some ⟨vb,voff,none⟩) a2.length ca2,.slice (shiftA ca0 (w64 ((I:Int)+(a2.length:Int))).toNat 3 (some ⟨b,off,none⟩)) (a0.length+a2.length - (w64 ((I:Int)+(a2.length:Int))).toNat) (ca0 - (w64 ((I:Int)+(a2.length:Int))).toNat)]) (v:=.bool false) (by kernel_rfl) (fun w hh=>by rw [hsh]; exact run_overlaps_own (e:=4) Tryz.func85 (by kernel_rfl) (by kernel_rfl) (by kernel_rfl) (by kernel_rfl) (show elemOk Tryz.prog 23 47 3 48=true by kernel_rfl) (hh.chin 1 rfl) (hh.chin 0 rfl) (hne w hh) (by omega))) ?_
   rintro _ _ _ _ ⟨rfl,rfl,rfl⟩
   refine Rd 8 [0,1,2,7,68] [(0,.slice (some ⟨b,off,none⟩) (a0.length+a2.length) ca0),(1,iv (I:Int)),(2,.slice (some ⟨vb,voff,none⟩) a2.length ca2),(7,iv (a2.length:Int)),(68,.bool true)]<|Ct true rfl<|An 1 ?_
   refine RunH.draw (fun w=>True) (fun w=>True) [3,3,3,3,3,3,3,3,0] (n:=9) (ls:=[false,false,false,false,false,false,false,false,false]) (by kernel_rfl) (by kernel_rfl) (by kernel_rfl) rfl ?_
   refine Dr [0,1,2,3,4,5,6,7] 1 (nb 9 255) [] [.need ((0:Int)≤w64 ((I:Int)+(a2.length:Int))∧w64 ((I:Int)+(a2.length:Int))≤((a0.length+a2.length:Nat):Int)),.need ((0:Int)≤(I:Int)∧(I:Int)≤((a0.length+a2.length:Nat):Int))] [(76,.slice (shiftA ca0 I 3 (some ⟨b,off,none⟩)) (a0.length+a2.length - I) (ca0 - I)),(75,iv (I:Int)),(74,.slice (some ⟨b,off,none⟩) (a0.length+a2.length) ca0),(73,.slice (shiftA ca0 (w64 ((I:Int)+(a2.length:Int))).toNat 3 (some ⟨b,off,none⟩)) (a0.length+a2.length - (w64 ((I:Int)+(a2.length:Int))).toNat) (ca0 - (w64 ((I:Int)+(a2.length:Int))).toNat)),(72,iv (w64 ((I:Int)+(a2.length:Int)))),(71,iv (a2.length:Int)),(70,iv (I:Int)),(69,.slice (some ⟨b,off,none⟩) (a0.length+a2.length) ca0),(0,.slice (some ⟨b,off,none⟩) (a0.length+a2.length) ca0),(1,iv (I:Int)),(2,.slice (some ⟨vb,voff,none⟩) a2.length ca2),(7,iv (a2.length:Int)),(68,.bool true)] (fun w hh=>trivial) (fun w hh=>trivial) (fun w hh=>⟨by rw [hw2]; constructor <;> omega,h0,by omega⟩) ?_
   refine DrH.does (n:=0) (ls':=[true,true,true,true,true,true,true,true,true]) 8 (by kernel_rfl) rfl (DoesH.copyRaw (k:=0) (t:=23) (e:=47) (bytes:=48) (sz:=3) (A1:=shiftA ca0 (w64 ((I:Int)+(a2.length:Int))).toNat 3 (some ⟨b,off,none⟩)) (A2:=shiftA ca0 I 3 (some ⟨b,off,none⟩)) (dd:=some 77) (dc:=ca0 - (w64 ((I:Int)+(a2.length:Int))).toNat) (sc:=ca0 - I) (dl:=a0.length+a2.length - (w64 ((I:Int)+(a2.length:Int))).toNat) (sl:=a0.length+a2.length - I) (b:=b) (o:=off+(I+a2.length)*3) (a:=⟨b,off+I*3,none⟩) (cells:=cells) (news:=newsD) (by kernel_rfl) hsh (shiftA_at hIn k3 rfl) (by kernel_rfl) rfl (by rw [d1,hw2]; congr 1; simp only [Nat.min_def,Int.toNat_natCast]; split <;> omega) (fun w hh j u hu=>by rw [add_plain]; exact blk_cell (hh.chin 0 rfl) (d2 j u hu)) d3 (by rw [d1]; omega)) ?_
   rintro _ _ _ _ ⟨rfl,rfl,rfl⟩
   refine ⟨fun _ w hh=>⟨fun _=>trivial,fun _=>trivial,(fun h=>by cases h)⟩,?_⟩
   refine Kr [0,1,2] [(0,.slice (some ⟨b,off,none⟩) (a0.length+a2.length) ca0),(1,iv (I:Int)),(2,.slice (some ⟨vb,voff,none⟩) a2.length ca2)] ?_
   refine DrH.done (by kernel_rfl) ?_
   refine An 1<|Rr<|Rv 4 [0,80,81] [] [.need ((0:Int)≤(I:Int)∧(I:Int)≤((a0.length+a2.length:Nat):Int))] [(0,.slice (some ⟨b,off,none⟩) (a0.length+a2.length) ca0),(80,.slice (shiftA ca0 I 3 (some ⟨b,off,none⟩)) (a0.length+a2.length - I) (ca0 - I)),(81,.slice (some ⟨vb,voff,none⟩) a2.length ca2)] (fun w hh=>⟨h0,by omega⟩) ?_
   refine RgH.does (DoesH.copyRaw (k:=0) (t:=23) (e:=47) (bytes:=48) (sz:=3) (A1:=shiftA ca0 I 3 (some ⟨b,off,none⟩)) (A2:=some ⟨vb,voff,none⟩) (dd:=some 82) (dc:=ca0 - I) (sc:=ca2) (dl:=a0.length+a2.length - I) (sl:=a2.length) (b:=b) (o:=off+I*3) (a:=⟨vb,voff,none⟩) (cells:=owr cells (off+(I+a2.length)*3) newsD) (news:=newsV) (by kernel_rfl) (shiftA_at hIn k3 rfl) rfl (by kernel_rfl) rfl (by rw [v1]; congr 1; simp only [Nat.min_def]; split <;> omega) (fun w hh j u hu=>by rw [add_plain]; exact blk_cell (hh.chin 1 rfl) (v2 j u hu)) v3 (by rw [owr_size,v1]; omega)) ?_
   rintro _ _ _ _ ⟨rfl,rfl,rfl⟩
   refine Rd 5 [0] [(0,.slice (some ⟨b,off,none⟩) (a0.length+a2.length) ca0)]<|An 1<|Rr<|Rd 2 [6] [(6,.slice (some ⟨b,off,none⟩) (a0.length+a2.length) ca0)] ?_
   have htl:(a0.take I).length=I:=by simp; omega
   have s1:Kd.Rep kEntry H (owr (owr cells (off+(I+a2.length)*3) newsD) (off+I*3) newsV) off (a0.take I):=Rep.outw (Rep.outw (Rep.take k6 I) (by rw [d1]; omega) (by rw [htl,hsz]; omega)) (by rw [owr_size,v1]; omega) (by rw [htl,hsz]; omega)
   have s2:Kd.Rep kEntry H (owr (owr cells (off+(I+a2.length)*3) newsD) (off+I*3) newsV) (off+I*3) a2:=Rep.inw v4 (by rw [owr_size,v1]; omega)
   have s3:Kd.Rep kEntry H (owr (owr cells (off+(I+a2.length)*3) newsD) (off+I*3) newsV) (off+(I+a2.length)*3) (a0.drop I):=Rep.outw (Rep.inw d4 (by rw [d1]; omega)) (by rw [owr_size,v1]; omega) (by rw [v1]; omega)
   have hl1:(a0.take I++a2).length=I+a2.length:=by rw [List.length_append,htl]
   have r2:Kd.Rep kEntry H (owr (owr cells (off+(I+a2.length)*3) newsD) (off+I*3) newsV) off (a0.take I++a2++a0.drop I):=Rep.glue (Rep.glue s1 (by rw [htl,hsz]; exact s2)) (by rw [hl1,hsz]; exact s3)
   have ho:SlOwn kEntry 47 H (some ⟨b,off,none⟩) ca0 (a0.take I++a2++a0.drop I) (some (b,.cells (owr (owr cells (off+(I+a2.length)*3) newsD) (off+I*3) newsV) 47 (0,0))):=.inr ⟨b,off,_,rfl,rfl,by rw [hrl]; omega,k4,by rw [owr_size,owr_size,hsz]; exact k5,r2⟩
   refine RunH.pick 2 [0] (cs':=some (b,.cells (owr (owr cells (off+(I+a2.length)*3) newsD) (off+I*3) newsV) 47 (0,0))::F) (by kernel_rfl) rfl ?_
   exact RunH.done (by kernel_rfl) Tryz.func58 (v:=.slice (some ⟨b,off,none⟩) (a0.length+a2.length) ca0) (by kernel_rfl) ⟨some ⟨b,off,none⟩,ca0,_,rfl,by rw [hrl],rfl,ho⟩
noncomputable def C57:Ctx:={ P:=Tryz.prog,f:=57,N:=33,c:=bodyOf Tryz.f57 }
def S57 (F:List Ch) (H0:Hp) (r:List Entry) (v:Value) (H:Hp) (cs:List Ch):Prop:=∃ (A0:Option Addr) (c0:Nat) (ch0:Ch),H0=H∧v=.slice A0 r.length c0∧ch0::F=cs∧SlOwn kEntry 47 H A0 c0 r ch0
theorem slices_Delete_Entry_c {a0:List Entry} {Aa0:Option Addr} {na0 ca0:Nat} {cha0:Ch} {a1 a2:Int} {r:List Entry} (hoa0:SlOwn kEntry 47 H Aa0 ca0 a0 cha0) (hna0:na0=a0.length) (heq:slices_Delete_Entry.f a0 a1 a2=some r):CallsH Tryz.prog 57 #[.slice Aa0 na0 ca0,iv a1,iv a2] H w0 (cha0::F) (S57 F H r):=by
 refine calls_of_runH (F:=C57) Tryz.func57 (by kernel_rfl) Tryz.ntmps57 (args:=[.slice Aa0 na0 ca0,iv a1,iv a2]) (by kernel_rfl) ?_
 subst hna0
 unfold slices_Delete_Entry.f at heq
 obtain ⟨hn,heq⟩:=guard?_some heq
 obtain rfl:=Option.some.inj heq
 simp only [Bool.and_eq_true,decide_eq_true_eq] at hn
 obtain ⟨h0,h1,h2,h3⟩:=hn
 have h3:=room_le h3
 obtain ⟨I,rfl⟩:∃ I:Nat,a1=(I:Int):=⟨a1.toNat,by omega⟩
 obtain ⟨J,rfl⟩:∃ J:Nat,a2=(J:Int):=⟨a2.toNat,by omega⟩
 have hcap:=hoa0.cap
 have hbig:a0.length≤140737490452480:=by
  have:(a0.length+0)*1≤(a0.length+0)*48:=Nat.mul_le_mul_left _ (by omega)
  omega
 simp only [Int.toNat_natCast]
 refine An 1<|Rr<|Rd 1 [0,1,2] [(0,.slice Aa0 a0.length ca0),(1,iv (I:Int)),(2,iv (J:Int))]<|An 1<|Rr<|Rw' 6 [0,1,2] [] [.need ((0:Int)≤(I:Int)∧(I:Int)≤(J:Int)∧(J:Int)≤(a0.length:Int)∧(a0.length:Int)≤((ca0:Nat):Int))] [(0,.slice Aa0 a0.length ca0),(1,iv (I:Int)),(2,iv (J:Int))] (fun w hh=>⟨h0,h1,h2,by omega⟩)<|An 2<|Rr<|Rd 3 [0,1,2,16] [(0,.slice Aa0 a0.length ca0),(1,iv (I:Int)),(2,iv (J:Int)),(16,.bool ((I:Int) == (J:Int)))] ?_
 rcases bool_cases ((I:Int) == (J:Int)) with hb | hb
 ·have hIJ:I=J:=by have:=eq_of_beq hb; omega
  have e:a0.take I++a0.drop J=a0:=by rw [hIJ]; exact List.take_append_drop J a0
  rw [e]
  refine Ct ((I:Int) == (J:Int)) hb<|An 1<|Rr<|Rd 2 [6] [(6,.slice Aa0 a0.length ca0)] ?_
  exact RunH.done (by kernel_rfl) Tryz.func57 (v:=.slice Aa0 a0.length ca0) (by kernel_rfl) ⟨Aa0,ca0,cha0,rfl,rfl,rfl,hoa0⟩
 ·have hIJ:I<J:=by have:=beq_eq_false_iff_ne.1 hb; omega
  have hx:a0≠[]:=by intro h; subst h; simp at h2; omega
  rcases hoa0 with ⟨h,_⟩ | ⟨b,off,cells,rfl,rfl,k3,k4,k5,k6⟩
  ·exact absurd h hx
  have hsz:(kEntry).sz=3:=rfl
  have htl:(a0.take I).length=I:=by simp; omega
  have hdl:(a0.drop J).length=a0.length - J:=by simp
  have hl:(a0.take I++a0.drop J).length=I+(a0.length - J):=by rw [List.length_append,htl,hdl]
  refine Cf ((I:Int) == (J:Int)) hb<|An 2<|Rr<|Rd 3 [0,1,2,7] [(0,.slice (some ⟨b,off,none⟩) a0.length ca0),(1,iv (I:Int)),(2,iv (J:Int)),(7,iv (a0.length:Int))]<|An 1 ?_
  refine RunH.draw (fun w=>True) (fun w=>True) [3,3,3,3,3,3,0,3] (n:=8) (ls:=[false,false,false,false,false,false,false,false]) (by kernel_rfl) (by kernel_rfl) (by kernel_rfl) rfl ?_
  refine Dr [0,1,2,3,4,5] 2 (nb 8 63) [] [.need ((0:Int)≤(I:Int)∧(I:Int)≤((ca0:Nat):Int)),.need ((0:Int)≤(J:Int)∧(J:Int)≤((a0.length:Nat):Int))] [(25,.slice (shiftA ca0 J 3 (some ⟨b,off,none⟩)) (a0.length - J) (ca0 - J)),(24,iv (J:Int)),(23,.slice (some ⟨b,off,none⟩) a0.length ca0),(22,.slice (some ⟨b,off,none⟩) I ca0),(21,iv (I:Int)),(20,.slice (some ⟨b,off,none⟩) a0.length ca0),(0,.slice (some ⟨b,off,none⟩) a0.length ca0),(1,iv (I:Int)),(2,iv (J:Int)),(7,iv (a0.length:Int))] (fun w hh=>trivial) (fun w hh=>trivial) (fun w hh=>⟨⟨h0,by omega⟩,by omega,h2⟩) ?_
  refine DrH.does (n:=1) (ls':=[true,true,true,true,true,true,true,false]) 6 (by kernel_rfl) rfl (DoesH.appendRoom (dd:=26) (k:=0) (t:=23) (e:=47) (bytes:=48) (kd:=kEntry) (n:=I) (m:=a0.length - J) (xs:=a0.take I) (ys:=a0.drop J) (b:=b) (off:=off) (c:=ca0) (cB:=ca0 - J) (B:=shiftA ca0 J 3 (some ⟨b,off,none⟩)) (cells:=cells) (by kernel_rfl) htl.symm hdl.symm (by kernel_rfl) rfl k5 (Rep.take k6 I) (fun _=>by unfold shiftA; split <;> simp) (fun w hh=>(SlOwn.drop (.inr ⟨b,off,cells,rfl,rfl,k3,k4,k5,k6⟩:SlOwn kEntry 47 H (some ⟨b,off,none⟩) ca0 a0 (some (b,.cells cells 47 (0,0)))) J (by omega)).rdb (hh.chin 0 rfl)) (by omega)) ?_
  rintro _ _ _ _ ⟨news,rfl,rfl,rfl,g1,g2⟩
  refine ⟨fun _ w hh=>⟨fun _=>trivial,fun _=>trivial,(fun h=>by cases h)⟩,?_⟩
  refine Kr [26,7] [(26,.slice (some ⟨b,off,none⟩) (a0.take I++a0.drop J).length ca0),(7,iv (a0.length:Int))]<|Dk [7] 0 (nb 8 255) [] [] [0,7] [(0,.slice (some ⟨b,off,none⟩) (a0.take I++a0.drop J).length ca0),(7,iv (a0.length:Int))] (fun w hh=>trivial) (fun w hh=>trivial) (fun _ _=>trivial) ?_
  refine DrH.done (by kernel_rfl) ?_
  refine An 1 ?_
  have hmul:(I+(a0.length - J))*3≤ca0*3:=Nat.mul_le_mul_right _ (by omega)
  rw [hsz] at g1 k5
  rw [hdl] at g1
  have hll:(a0.drop (I+(a0.length - J))).length=a0.length - (I+(a0.length - J)):=by simp
  have r3:Kd.Rep kEntry H (owr cells (off+(a0.take I).length*(kEntry).sz) news) (off+(a0.take I++a0.drop J).length*3) (a0.drop (I+(a0.length - J))):=by
   rw [hl]
   exact Rep.outw (Rep.drop k6 (I+(a0.length - J))) (by rw [g1,htl,hsz]; omega) (by rw [g1,htl,hsz]; omega)
  have r4:=Rep.glue g2 r3
  have hl4:(a0.take I++a0.drop J++a0.drop (I+(a0.length - J))).length=a0.length:=by rw [List.length_append,hl,hll]; omega
  have ho4:SlOwn kEntry 47 H (some ⟨b,off,none⟩) ca0 (a0.take I++a0.drop J++a0.drop (I+(a0.length - J))) (some (b,.cells (owr cells (off+(a0.take I).length*(kEntry).sz) news) 47 (0,0))):=.inr ⟨b,off,_,rfl,rfl,by rw [hl4]; exact k3,k4,by rw [owr_size,hsz]; exact k5,r4⟩
  refine Rr<|Rv 5 [0,31] [] [.need ((0:Int)≤((a0.take I++a0.drop J).length:Int)∧((a0.take I++a0.drop J).length:Int)≤(a0.length:Int)∧(a0.length:Int)≤((ca0:Nat):Int))] [(0,.slice (some ⟨b,off,none⟩) (a0.take I++a0.drop J).length ca0),(31,.slice (shiftA ca0 (a0.take I++a0.drop J).length 3 (some ⟨b,off,none⟩)) (a0.length - (a0.take I++a0.drop J).length) (ca0 - (a0.take I++a0.drop J).length))] (fun w hh=>⟨by omega,by omega,by omega⟩) ?_
  refine RgH.does (DoesH.clear (k:=0) (j:=(a0.take I++a0.drop J).length) (n:=a0.length - (a0.take I++a0.drop J).length) (t:=23) (e:=47) (bytes:=48) (kd:=kEntry) (A:=some ⟨b,off,none⟩) (A2:=shiftA ca0 (a0.take I++a0.drop J).length 3 (some ⟨b,off,none⟩)) (c:=ca0) (c2:=ca0 - (a0.take I++a0.drop J).length) (xs:=a0.take I++a0.drop J++a0.drop (I+(a0.length - J))) (z:=(⟨ByteArray.empty,([]:List ByteArray),0⟩:Entry)) (zc:=#[.string ByteArray.empty,.slice none 0 0,iv 0]) (by kernel_rfl) (by rw [hl4]) (by kernel_rfl) (by kernel_rfl) (kEntry_mk (Nat.le_refl _) Kd.Row.none) (by kernel_rfl) rfl ho4 (by rw [hl4]; omega) (fun h b off hA=>shiftA_at h ho4.cap hA)) ?_
  rintro _ _ _ _ ⟨ch5,rfl,rfl,rfl,ho5⟩
  have ho6:=ho5.take (a0.take I++a0.drop J).length
  rw [List.take_append_of_le_length (by simp),List.take_take,Nat.min_self,List.take_append_of_le_length (Nat.le_refl _),List.take_length] at ho6
  refine Rd 6 [0] [(0,.slice (some ⟨b,off,none⟩) (a0.take I++a0.drop J).length ca0)]<|An 1<|Rr<|Rd 2 [6] [(6,.slice (some ⟨b,off,none⟩) (a0.take I++a0.drop J).length ca0)] ?_
  exact RunH.done (by kernel_rfl) Tryz.func57 (v:=.slice (some ⟨b,off,none⟩) (a0.take I++a0.drop J).length ca0) (by kernel_rfl) ⟨some ⟨b,off,none⟩,ca0,ch5,rfl,rfl,rfl,ho6⟩
noncomputable def C35:Ctx:={ P:=Tryz.prog,f:=35,N:=116,c:=bodyOf Tryz.f35 }
def S35 (F:List Ch) (H0:Hp) (ga0:Nat) (r:CacheAnswer × Cache) (v:Value) (H:Hp) (cs:List Ch):Prop:=∃ (A0_1:Option Addr) (c0_1:Nat) (ch0_1:Ch) (A0_2:Option Addr) (c0_2:Nat) (ch0_2:Ch) (A1_2:Option Addr) (c1_2:Nat) (ch1_2:Ch) (A1_3:Option Addr) (c1_3:Nat) (ch1_3:Ch),v=.agg #[.bool r.1.Done,.slice A0_1 r.1.Missing.length c0_1,.slice A0_2 r.1.Gone.length c0_2]∧ch0_1::ch0_2::some (ga0,.cells #[iv r.2.Room,iv r.2.Lease,.slice A1_2 r.2.Blobs.length c1_2,.slice A1_3 r.2.Entries.length c1_3] 25 (0,0))::ch1_2::ch1_3::F=cs∧SlOwn Kd.string 9 H A0_1 c0_1 r.1.Missing ch0_1∧SlOwn Kd.string 9 H A0_2 c0_2 r.1.Gone ch0_2∧SlOwn kBlob 45 H A1_2 c1_2 r.2.Blobs ch1_2∧SlOwn kEntry 47 H A1_3 c1_3 r.2.Entries ch1_3
theorem cache_store.j1_c {r:CacheAnswer × Cache}:∀ (H:Hp) (ga0:Nat) (a1:CacheEvent) (g2:Nat) (y2:Cache) (A2:Option Addr) (c2:Nat) (ch2:Ch) (y3:List ByteArray) (A4:Option Addr) (c4:Nat) (ch4:Ch) (g3:Nat) (v_c0_3:List Entry) (Av_c0_3:Option Addr) (nv_c0_3 cv_c0_3:Nat) (chv_c0_3:Ch) (v_k7:Int) ,SlOwn kBlob 45 H A2 c2 y2.Blobs ch2→SlOwn Kd.string 9 H A4 c4 y3 ch4→SlOwn kEntry 47 H Av_c0_3 cv_c0_3 v_c0_3 chv_c0_3→nv_c0_3=v_c0_3.length→cache_store.j1 a1 y2 y3 v_c0_3 v_k7=some r→RunH C35 (S35 F H0 ga0 r) H0 w0 [.c [1,1,1,1,1,1,1,0],.c [1,1,1,1,1,1,1,1]] [(0,pg ga0 0),(4,pg g2 0),(6,pg g3 0),(7,iv v_k7)] H ((some (g3,.cells #[.string a1.Key,.slice A4 y3.length c4,iv a1.At] 47 (0,0)))::ch4::(some (ga0,.cells #[iv y2.Room,iv y2.Lease,.slice A2 y2.Blobs.length c2,.slice Av_c0_3 nv_c0_3 cv_c0_3] 25 (0,0)))::ch2::chv_c0_3::(some (g2,.cells #[.bool false,.slice none 0 0,.slice none 0 0] 33 (0,0)))::F):=by
 intro H ga0 a1 g2 y2 A2 c2 ch2 y3 A4 c4 ch4 g3 v_c0_3 Av_c0_3 nv_c0_3 cv_c0_3 chv_c0_3 v_k7 ho3 ho5 hov_c0_3 hnv_c0_3 heq
 subst hnv_c0_3
 unfold cache_store.j1 at heq
 refine Sd 5 12 [0,2,3] [3,3,3,3,3,3,3,1,1,1,3,2]<|Zt [0,1,2,3,4,5,6] 5 ([bx 1 3]++bxs 0) (Pk 6 [0,2,3,5])<|Ur 2 [1,0] ?_
 have hc4:=ho5.cap
 refine DrH.freezeS ho5 (fun H hl hr4=>?_)
 have hle:=hl
 replace ho3:=ho3.mono hl
 replace hov_c0_3:=hov_c0_3.mono hl
 refine Dz 7 (DoesH.new (d:=111) (v:=fun g=>.slice (some ⟨g,0,none⟩) 1 1) (o:=fun g=>.cells #[.string a1.Key,.slice A4 y3.length c4,iv a1.At] 47 (0,0)) (fun g=>by kernel_rfl)) ?_
 rintro _ _ _ _ ⟨g4,rfl,rfl,rfl⟩
 have ho9:SlOwn kEntry 47 H (some ⟨g4,0,none⟩) 1 ([(⟨a1.Key,y3,a1.At⟩:Entry)]:List Entry) (some (g4,.cells #[.string a1.Key,.slice A4 y3.length c4,iv a1.At] 47 (0,0))):=SlOwn.lit (xs:=([(⟨a1.Key,y3,a1.At⟩:Entry)]:List Entry)) (by kernel_rfl) (Nat.le_of_ble_eq_true (by kernel_rfl)) (Kd.Rep.one (kEntry_mk hc4 hr4))
 refine ⟨fun _ w hh=>⟨(fun h=>by cases h),fun _=>(fun w hh=>(hh.le hle).pick 6 [1,2,3,5] (by kernel_rfl)) w hh,(fun h=>by cases h)⟩,?_⟩
 refine Ur 5 [4,0,1,2,3] ?_
 obtain ⟨y5,hy5,heq⟩:=bind_some heq
 refine Dz 8 (cal 112 (slices_Insert_Entry_c (a0:=v_c0_3) (a1:=v_k7) (a2:=([(⟨a1.Key,y3,a1.At⟩:Entry)]:List Entry)) hov_c0_3 rfl ho9 rfl hy5)) ?_
 rintro _ _ _ _ ⟨_,rfl,A7,c7,ch6,rfl,rfl,rfl,ho10⟩
 refine ⟨fun _ w hh=>⟨(fun h=>by cases h),fun _=>(fun w hh=>(hh.le hle).pick 5 [1,2,3,4] (by kernel_rfl)) w hh,(fun h=>by cases h)⟩,?_⟩
 refine Dz 9 (DoesH.pureop (d:=113) (v:=.pointer (some ⟨ga0,0,none⟩)) (vs:=[]) (evs:=[]) (by kernel_rfl) (fun _ _=>trivial)) ?_
 rintro _ _ _ _ ⟨rfl,rfl,rfl⟩
 refine ⟨fun _ w hh=>⟨(fun h=>by cases h),fun _=>(fun w hh=>(hh.le hle).pick 5 [1,2,3,4] (by kernel_rfl)) w hh,(fun h=>by cases h)⟩,?_⟩
 refine Zt [10] 1 [] (fun w hh=>(hh.le hle).pick 5 [1,2,3,4] (by kernel_rfl)) ?_
 refine Dz 11 (DoesH.store (k:=2) (g:=ga0) (off:=3) (v:=.slice A7 y5.length c7) (cells':=#[iv y2.Room,iv y2.Lease,.slice A2 y2.Blobs.length c2,.slice A7 y5.length c7]) (by kernel_rfl) rfl (by kernel_rfl) (by kernel_rfl)) ?_
 rintro _ _ _ _ ⟨rfl,rfl,rfl⟩
 refine ⟨fun _ w hh=>⟨(fun h=>by cases h),(fun h=>absurd h (by decide)),(fun h=>by cases h)⟩,?_⟩
 refine DrH.nrm ?_
 refine DrH.done (by kernel_rfl) ?_
 refine Sa 1<|Zk 1 ?_
 refine RgH.does (DoesH.store (k:=4) (g:=g2) (off:=0) (v:=.agg #[.bool true,.slice none 0 0,.slice none 0 0]) (cells':=#[.bool true,.slice none 0 0,.slice none 0 0]) (by kernel_rfl) rfl (by kernel_rfl) (by kernel_rfl)) ?_
 rintro _ _ _ _ ⟨rfl,rfl,rfl⟩
 refine RgH.nrm ?_
 refine Dn<|RunH.nilc ?_
 have ho11:SlOwn Kd.string 9 H none 0 ([]:List ByteArray) none:=SlOwn.nil
 refine RunH.nilc ?_
 have ho12:SlOwn Kd.string 9 H none 0 ([]:List ByteArray) none:=SlOwn.nil
 obtain rfl:=Option.some.inj heq
 refine Up 7 [6,1,0,4,5,2] ?_
 exact RunH.doneM' 1 (vs:=[.agg #[.bool true,.slice none 0 0,.slice none 0 0]]) (v:=.agg #[.bool true,.slice none 0 0,.slice none 0 0]) (by kernel_rfl) Tryz.func35 (fun w hh=>show ResAll _ _ _ [.cell 4 33] _ from ⟨⟨⟨g2,0,none⟩,by kernel_rfl,trS_run _ (vs:=[.bool true,.slice none 0 0,.slice none 0 0]) (r:=[]) (es:=[.load ⟨g2,0,none⟩ (.bool true),.load ⟨g2,1,none⟩ (.slice none 0 0),.load ⟨g2,2,none⟩ (.slice none 0 0)]) (by kernel_rfl) ⟨(hh.box 0 rfl rfl),(hh.box 0 rfl rfl),(hh.box 0 rfl rfl)⟩⟩,trivial⟩) rfl (cs':=none::none::(some (ga0,.cells #[iv y2.Room,iv y2.Lease,.slice A2 y2.Blobs.length c2,.slice A7 y5.length c7] 25 (0,0)))::ch2::ch6::F) rfl ⟨none,0,none,none,0,none,A2,c2,ch2,A7,c7,ch6,rfl,rfl,ho11,ho12,ho3,ho10⟩
theorem cache_store.e2_c {r:CacheAnswer × Cache} (j1:CacheEvent→Cache→(List ByteArray)→(List Entry)→Int→Option (CacheAnswer × Cache))
  (hj1:∀ (H:Hp) (ga0:Nat) (a1:CacheEvent) (g2:Nat) (y2:Cache) (A2:Option Addr) (c2:Nat) (ch2:Ch) (y3:List ByteArray) (A4:Option Addr) (c4:Nat) (ch4:Ch) (g3:Nat) (v_c0_3:List Entry) (Av_c0_3:Option Addr) (nv_c0_3 cv_c0_3:Nat) (chv_c0_3:Ch) (v_k7:Int) ,SlOwn kBlob 45 H A2 c2 y2.Blobs ch2→SlOwn Kd.string 9 H A4 c4 y3 ch4→SlOwn kEntry 47 H Av_c0_3 cv_c0_3 v_c0_3 chv_c0_3→nv_c0_3=v_c0_3.length→j1 a1 y2 y3 v_c0_3 v_k7=some r→RunH C35 (S35 F H0 ga0 r) H0 w0 [.c [1,1,1,1,1,1,1,0],.c [1,1,1,1,1,1,1,1]] [(0,pg ga0 0),(4,pg g2 0),(6,pg g3 0),(7,iv v_k7)] H ((some (g3,.cells #[.string a1.Key,.slice A4 y3.length c4,iv a1.At] 47 (0,0)))::ch4::(some (ga0,.cells #[iv y2.Room,iv y2.Lease,.slice A2 y2.Blobs.length c2,.slice Av_c0_3 nv_c0_3 cv_c0_3] 25 (0,0)))::ch2::chv_c0_3::(some (g2,.cells #[.bool false,.slice none 0 0,.slice none 0 0] 33 (0,0)))::F)):∀ (H:Hp) (ga0:Nat) (a1:CacheEvent) (Aa1_3:Option Addr) (ca1_3 g1 g2:Nat) (y2:Cache) (A2:Option Addr) (c2:Nat) (ch2:Ch) (A3:Option Addr) (c3:Nat) (ch3:Ch) (y3:List ByteArray) (A4:Option Addr) (c4:Nat) (ch4:Ch) (g3:Nat) (v_least9:Int) ,Rw Kd.string H F Aa1_3 a1.Digests→a1.Digests.length≤ca1_3→SlOwn kBlob 45 H A2 c2 y2.Blobs ch2→SlOwn kEntry 47 H A3 c3 y2.Entries ch3→SlOwn Kd.string 9 H A4 c4 y3 ch4→cache_store.e2 j1 a1 y2 y3 v_least9=some r→RunH C35 (S35 F H0 ga0 r) H0 w0 [.c [1,1,1,1,1,1,0,1,0,1,1,0],.c [1,1,1,1,1,1,0,1,0,1,1,1],.c [1,1,1,1,1,1,1]] [(0,pg ga0 0),(3,pg g1 0),(4,pg g2 0),(6,pg g3 0),(9,iv v_least9)] H ((some (g3,.cells #[.string a1.Key,.slice A4 y3.length c4,iv a1.At] 47 (0,0)))::ch4::(some (ga0,.cells #[iv y2.Room,iv y2.Lease,.slice A2 y2.Blobs.length c2,.slice A3 y2.Entries.length c3] 25 (0,0)))::ch2::ch3::(some (g2,.cells #[.bool false,.slice none 0 0,.slice none 0 0] 33 (0,0)))::(some (g1,.cells #[iv a1.Kind,iv a1.At,.string a1.Digest,.slice Aa1_3 a1.Digests.length ca1_3,.string a1.Key,iv a1.Size] 28 (0,0)))::F):=by
 intro H ga0 a1 Aa1_3 ca1_3 g1 g2 y2 A2 c2 ch2 A3 c3 ch3 y3 A4 c4 ch4 g3 v_least9 hra1_3 hca1_3 ho3 ho4 ho5 heq
 unfold cache_store.e2 at heq
 refine Sa 0<|Zv 8 [bx 2 3]<|Ug 5 [4,0,1,2,3] ?_
 obtain ⟨y6,hy6,heq⟩:=bind_some heq
 refine RgH.does (cal 92 (slices_Delete_Entry_c (a0:=y2.Entries) (a1:=v_least9) (a2:=w64 (v_least9+1)) ho4 rfl hy6)) ?_
 rintro _ _ _ _ ⟨_,rfl,A8,c8,ch7,rfl,rfl,rfl,ho13⟩
 refine Zk 11 ?_
 refine RgH.does (DoesH.store (k:=3) (g:=ga0) (off:=3) (v:=.slice A8 y6.length c8) (cells':=#[iv y2.Room,iv y2.Lease,.slice A2 y2.Blobs.length c2,.slice A8 y6.length c8]) (by kernel_rfl) rfl (by kernel_rfl) (by kernel_rfl)) ?_
 rintro _ _ _ _ ⟨rfl,rfl,rfl⟩
 refine RgH.nrm ?_
 refine Dn<|Sd 0 10 [] [3,3,3,3,3,0,3,3,3,3]<|Zr [0,1,2,3,4] 5 (bxs 3++[bx 6 4]) (Pk 7 [0,1,2,3,4,5,6]) (Pk 7 [0,1,2,3,4,5,6]) ?_
 obtain ⟨y7,hy7,heq⟩:=bind_some heq
 refine Dz 5 (cal 101 (cache_entryAt_c (a0:=(⟨y2.Room,y2.Lease,y2.Blobs,y6⟩:Cache)) hy7 (ho3.rw (.tail _ (.tail _ (.tail _ (.tail _ (.head _)))))) ho3.cap rfl (ho13.rw (.head _)) ho13.cap rfl)) ?_
 rintro _ _ _ _ ⟨_,rfl,rfl,rfl,rfl⟩
 refine ⟨fun _ w hh=>⟨fun _=>(Pk 7 [0,1,2,3,4,5,6]) w hh,fun _=>(Pk 7 [0,1,2,3,4,5,6]) w hh,(fun h=>by cases h)⟩,?_⟩
 refine Zr [6,7,8,9] 0 [] (Pk 7 [0,1,2,3,4,5,6]) (Pk 7 [0,1,2,3,4,5,6]) ?_
 refine DrH.done (by kernel_rfl) ?_
 refine An 1 ?_
 exact Gt 7 [1,2,3,4,0,5] (hj1 _ _ a1 _ y2 _ _ _ y3 _ _ _ _ y6 _ _ _ _ y7.1 ho3 ho5 ho13 rfl heq)
theorem cache_store.j4_c {r:CacheAnswer × Cache} (backl3:CacheEvent→Cache→(List ByteArray)→Int→Int→Option (CacheAnswer × Cache))
  (hbackl3:∀ (H:Hp) (ga0:Nat) (a1:CacheEvent) (Aa1_3:Option Addr) (ca1_3 g1 g2:Nat) (y2:Cache) (A2:Option Addr) (c2:Nat) (ch2:Ch) (A3:Option Addr) (c3:Nat) (ch3:Ch) (y3:List ByteArray) (A4:Option Addr) (c4:Nat) (ch4:Ch) (g3:Nat) (v_least9 v66:Int) ,Rw Kd.string H F Aa1_3 a1.Digests→a1.Digests.length≤ca1_3→SlOwn kBlob 45 H A2 c2 y2.Blobs ch2→SlOwn kEntry 47 H A3 c3 y2.Entries ch3→SlOwn Kd.string 9 H A4 c4 y3 ch4→backl3 a1 y2 y3 v_least9 v66=some r→RunH C35 (S35 F H0 ga0 r) H0 w0 [.c [1,1,1,1,1,1,0,1,0,1,0,1,0,0],.l [1,1,1,1,1,1,0,1,0,1,0,1,0,0],.b 0,.c [1,1,1,1,1,1,0,1,0,1,1],.c [1,1,1,1,1,1,1]] [(0,pg ga0 0),(3,pg g1 0),(4,pg g2 0),(6,pg g3 0),(9,iv v_least9),(64,.slice A3 y2.Entries.length c3),(65,iv (y2.Entries.length:Int)),(66,iv v66)] H ((some (g3,.cells #[.string a1.Key,.slice A4 y3.length c4,iv a1.At] 47 (0,0)))::ch4::(some (ga0,.cells #[iv y2.Room,iv y2.Lease,.slice A2 y2.Blobs.length c2,.slice A3 y2.Entries.length c3] 25 (0,0)))::ch2::ch3::(some (g2,.cells #[.bool false,.slice none 0 0,.slice none 0 0] 33 (0,0)))::(some (g1,.cells #[iv a1.Kind,iv a1.At,.string a1.Digest,.slice Aa1_3 a1.Digests.length ca1_3,.string a1.Key,iv a1.Size] 28 (0,0)))::F)):∀ (H:Hp) (ga0:Nat) (a1:CacheEvent) (Aa1_3:Option Addr) (ca1_3 g1 g2:Nat) (y2:Cache) (A2:Option Addr) (c2:Nat) (ch2:Ch) (A3:Option Addr) (c3:Nat) (ch3:Ch) (y3:List ByteArray) (A4:Option Addr) (c4:Nat) (ch4:Ch) (g3:Nat) (v66 v_least9:Int) ,Rw Kd.string H F Aa1_3 a1.Digests→a1.Digests.length≤ca1_3→SlOwn kBlob 45 H A2 c2 y2.Blobs ch2→SlOwn kEntry 47 H A3 c3 y2.Entries ch3→SlOwn Kd.string 9 H A4 c4 y3 ch4→cache_store.j4 backl3 a1 y2 y3 v66 v_least9=some r→RunH C35 (S35 F H0 ga0 r) H0 w0 [.c [1,1,1,1,1,1,0,1,0,1,0,1,0,0,1,1,1],.l [1,1,1,1,1,1,0,1,0,1,0,1,0,0],.b 0,.c [1,1,1,1,1,1,0,1,0,1,1],.c [1,1,1,1,1,1,1]] [(0,pg ga0 0),(3,pg g1 0),(4,pg g2 0),(6,pg g3 0),(9,iv v_least9),(64,.slice A3 y2.Entries.length c3),(65,iv (y2.Entries.length:Int)),(66,iv v66)] H ((some (g3,.cells #[.string a1.Key,.slice A4 y3.length c4,iv a1.At] 47 (0,0)))::ch4::(some (ga0,.cells #[iv y2.Room,iv y2.Lease,.slice A2 y2.Blobs.length c2,.slice A3 y2.Entries.length c3] 25 (0,0)))::ch2::ch3::(some (g2,.cells #[.bool false,.slice none 0 0,.slice none 0 0] 33 (0,0)))::(some (g1,.cells #[iv a1.Kind,iv a1.At,.string a1.Digest,.slice Aa1_3 a1.Digests.length ca1_3,.string a1.Key,iv a1.Size] 28 (0,0)))::F):=by
 intro H ga0 a1 Aa1_3 ca1_3 g1 g2 y2 A2 c2 ch2 A3 c3 ch3 y3 A4 c4 ch4 g3 v66 v_least9 hra1_3 hca1_3 ho3 ho4 ho5 heq
 unfold cache_store.j4 at heq
 refine Sa 0<|Zd 2<|An 1 ?_
 exact Gt 0 [] (hbackl3 _ _ a1 _ _ _ _ y2 _ _ _ _ _ _ y3 _ _ _ _ v_least9 (w64 (v66+1)) hra1_3 hca1_3 ho3 ho4 ho5 heq)
theorem cache_store.l3_c {r:CacheAnswer × Cache} (e2:CacheEvent→Cache→(List ByteArray)→Int→Option (CacheAnswer × Cache))
  (he2:∀ (H:Hp) (ga0:Nat) (a1:CacheEvent) (Aa1_3:Option Addr) (ca1_3 g1 g2:Nat) (y2:Cache) (A2:Option Addr) (c2:Nat) (ch2:Ch) (A3:Option Addr) (c3:Nat) (ch3:Ch) (y3:List ByteArray) (A4:Option Addr) (c4:Nat) (ch4:Ch) (g3:Nat) (v_least9:Int) ,Rw Kd.string H F Aa1_3 a1.Digests→a1.Digests.length≤ca1_3→SlOwn kBlob 45 H A2 c2 y2.Blobs ch2→SlOwn kEntry 47 H A3 c3 y2.Entries ch3→SlOwn Kd.string 9 H A4 c4 y3 ch4→e2 a1 y2 y3 v_least9=some r→RunH C35 (S35 F H0 ga0 r) H0 w0 [.c [1,1,1,1,1,1,0,1,0,1,1,0],.c [1,1,1,1,1,1,0,1,0,1,1,1],.c [1,1,1,1,1,1,1]] [(0,pg ga0 0),(3,pg g1 0),(4,pg g2 0),(6,pg g3 0),(9,iv v_least9)] H ((some (g3,.cells #[.string a1.Key,.slice A4 y3.length c4,iv a1.At] 47 (0,0)))::ch4::(some (ga0,.cells #[iv y2.Room,iv y2.Lease,.slice A2 y2.Blobs.length c2,.slice A3 y2.Entries.length c3] 25 (0,0)))::ch2::ch3::(some (g2,.cells #[.bool false,.slice none 0 0,.slice none 0 0] 33 (0,0)))::(some (g1,.cells #[iv a1.Kind,iv a1.At,.string a1.Digest,.slice Aa1_3 a1.Digests.length ca1_3,.string a1.Key,iv a1.Size] 28 (0,0)))::F)):∀ (k:Nat),∀ (H:Hp) (ga0:Nat) (a1:CacheEvent) (Aa1_3:Option Addr) (ca1_3 g1 g2:Nat) (y2:Cache) (A2:Option Addr) (c2:Nat) (ch2:Ch) (A3:Option Addr) (c3:Nat) (ch3:Ch) (y3:List ByteArray) (A4:Option Addr) (c4:Nat) (ch4:Ch) (g3:Nat) (v_least9 v66:Int) ,Rw Kd.string H F Aa1_3 a1.Digests→a1.Digests.length≤ca1_3→SlOwn kBlob 45 H A2 c2 y2.Blobs ch2→SlOwn kEntry 47 H A3 c3 y2.Entries ch3→SlOwn Kd.string 9 H A4 c4 y3 ch4→cache_store.l3 e2 k a1 y2 y3 v_least9 v66=some r→RunH C35 (S35 F H0 ga0 r) H0 w0 [.c [1,1,1,1,1,1,0,1,0,1,0,1,0,0],.l [1,1,1,1,1,1,0,1,0,1,0,1,0,0],.b 0,.c [1,1,1,1,1,1,0,1,0,1,1],.c [1,1,1,1,1,1,1]] [(0,pg ga0 0),(3,pg g1 0),(4,pg g2 0),(6,pg g3 0),(9,iv v_least9),(64,.slice A3 y2.Entries.length c3),(65,iv (y2.Entries.length:Int)),(66,iv v66)] H ((some (g3,.cells #[.string a1.Key,.slice A4 y3.length c4,iv a1.At] 47 (0,0)))::ch4::(some (ga0,.cells #[iv y2.Room,iv y2.Lease,.slice A2 y2.Blobs.length c2,.slice A3 y2.Entries.length c3] 25 (0,0)))::ch2::ch3::(some (g2,.cells #[.bool false,.slice none 0 0,.slice none 0 0] 33 (0,0)))::(some (g1,.cells #[iv a1.Kind,iv a1.At,.string a1.Digest,.slice Aa1_3 a1.Digests.length ca1_3,.string a1.Key,iv a1.Size] 28 (0,0)))::F):=by
 intro k
 induction k with
 | zero=>intro H ga0 a1 Aa1_3 ca1_3 g1 g2 y2 A2 c2 ch2 A3 c3 ch3 y3 A4 c4 ch4 g3 v_least9 v66 hra1_3 hca1_3 ho3 ho4 ho5 heq; exact nomatch (show (none:Option (CacheAnswer × Cache))=some r from heq)
 | succ k ihk =>
  intro H ga0 a1 Aa1_3 ca1_3 g1 g2 y2 A2 c2 ch2 A3 c3 ch3 y3 A4 c4 ch4 g3 v_least9 v66 hra1_3 hca1_3 ho3 ho4 ho5 heq
  rw [cache_store.l3] at heq
  refine Sa 1<|Zd 1<|An 1 ?_
  refine Cb heq ?_ ?_
  ·intro hb4 heq
   refine Sa 4 ?_
   obtain ⟨x2,hx2,heq⟩:=bind_some heq
   obtain ⟨ha3,cs3,hK3,hcc3⟩:=ho4.get hx2
   obtain ⟨A9,c9,rfl,hc5,hr5⟩:=kEntry_open hK3
   refine Zv 3 ([nx ha3 hx2]++els hcc3 4) ?_
   refine RgH.does (DoesH.new (d:=11) (v:=fun g=>.pointer (some ⟨g,0,none⟩)) (o:=fun g=>.cells #[.string ByteArray.empty,.slice none 0 0,iv 0] 47 (0,0)) (fun g=>by kernel_rfl)) ?_
   rintro _ _ _ _ ⟨g5,rfl,rfl,rfl⟩
   refine Zk 5 ?_
   refine RgH.does (DoesH.store (k:=0) (g:=g5) (off:=0) (v:=.agg #[.string x2.Key,.slice A9 x2.Refs.length c9,iv x2.Used]) (cells':=#[.string x2.Key,.slice A9 x2.Refs.length c9,iv x2.Used]) (by kernel_rfl) rfl (by kernel_rfl) (by kernel_rfl)) ?_
   rintro _ _ _ _ ⟨rfl,rfl,rfl⟩
   refine RgH.nrm ?_
   refine Dn<|An 1<|Sd 0 11 [] [3,3,3,3,3,3,3,3,3,3,3] ?_
   obtain ⟨x3,hx3,heq⟩:=bind_some heq
   obtain ⟨ha4,cs4,hK4,hcc4⟩:=ho4.get hx3
   obtain ⟨A10,c10,rfl,hc6,hr6⟩:=kEntry_open hK4
   refine Zr [0,1,2,3,4,5,6,7,8,9,10] 0 [bx 0 2,bx 3 3,nx ha4 hx3,el hcc4 5 2] (Pk 8 [0,1,2,3,4,5,6,7]) (Pk 8 [0,1,2,3,4,5,6,7]) ?_
   refine DrH.done (by kernel_rfl) ?_
   refine Cb heq ?_ ?_
   ·intro hb5 heq
    refine Sa 0<|Zd 2<|An 1 ?_
    exact Gt 1 [] ((cache_store.j4_c (backl3:=(cache_store.l3 e2 k)) ihk) _ _ a1 _ _ _ _ y2 _ _ _ _ _ _ y3 _ _ _ _ v66 v66 hra1_3 hca1_3 ho3 ho4 ho5 heq)
   ·intro hb5 heq
    refine An 2 ?_
    exact Gt 1 [] ((cache_store.j4_c (backl3:=(cache_store.l3 e2 k)) ihk) _ _ a1 _ _ _ _ y2 _ _ _ _ _ _ y3 _ _ _ _ v66 v_least9 hra1_3 hca1_3 ho3 ho4 ho5 heq)
  ·intro hb4 heq
   refine An 2 ?_
   exact Gt 0 [] (he2 _ _ a1 _ _ _ _ y2 _ _ _ _ _ _ y3 _ _ _ _ v_least9 hra1_3 hca1_3 ho3 ho4 ho5 heq)
theorem cache_store_c {ga0:Nat} {a0:Cache} {Aa0_2:Option Addr} {na0_2 ca0_2:Nat} {cha0_2:Ch} {Aa0_3:Option Addr} {na0_3 ca0_3:Nat} {cha0_3:Ch} {a1:CacheEvent} {Aa1_3:Option Addr} {na1_3 ca1_3:Nat} {r:CacheAnswer × Cache} (heq:cache_store.f a0 a1=some r) (hoa0_2:SlOwn kBlob 45 H0 Aa0_2 ca0_2 a0.Blobs cha0_2) (hna0_2:na0_2=a0.Blobs.length) (hoa0_3:SlOwn kEntry 47 H0 Aa0_3 ca0_3 a0.Entries cha0_3) (hna0_3:na0_3=a0.Entries.length) (hra1_3:Rw Kd.string H0 F Aa1_3 a1.Digests) (hca1_3:na1_3≤ca1_3) (hna1_3:na1_3=a1.Digests.length):CallsH Tryz.prog 35 #[.pointer (some ⟨ga0,0,none⟩),.agg #[iv a1.Kind,iv a1.At,.string a1.Digest,.slice Aa1_3 na1_3 ca1_3,.string a1.Key,iv a1.Size]] H0 w0 ((some (ga0,.cells #[iv a0.Room,iv a0.Lease,.slice Aa0_2 na0_2 ca0_2,.slice Aa0_3 na0_3 ca0_3] 25 (0,0)))::cha0_2::cha0_3::F) (S35 F H0 ga0 r):=by
 refine Co C35 Tryz.func35 Tryz.ntmps35 ?_
 subst hna0_2
 subst hna0_3
 subst hna1_3
 unfold cache_store.f at heq
 suffices key:∀ (H:Hp),SlOwn kBlob 45 H Aa0_2 ca0_2 a0.Blobs cha0_2→SlOwn kEntry 47 H Aa0_3 ca0_3 a0.Entries cha0_3→Rw Kd.string H F Aa1_3 a1.Digests→RunH C35 (S35 F H0 ga0 r) H0 w0 [.c []] (argL 0 [.pointer (some ⟨ga0,0,none⟩),.agg #[iv a1.Kind,iv a1.At,.string a1.Digest,.slice Aa1_3 (a1.Digests.length) ca1_3,.string a1.Key,iv a1.Size]]) H ((some (ga0,.cells #[iv a0.Room,iv a0.Lease,.slice Aa0_2 (a0.Blobs.length) ca0_2,.slice Aa0_3 (a0.Entries.length) ca0_3] 25 (0,0)))::cha0_2::cha0_3::F) from key H0 hoa0_2 hoa0_3 hra1_3
 intro H hoa0_2 hoa0_3 hra1_3
 refine Sa 1 ?_
 refine RgH.does (DoesH.new (d:=3) (v:=fun g=>.pointer (some ⟨g,0,none⟩)) (o:=fun g=>.cells #[iv a1.Kind,iv a1.At,.string a1.Digest,.slice Aa1_3 a1.Digests.length ca1_3,.string a1.Key,iv a1.Size] 28 (0,0)) (fun g=>by kernel_rfl)) ?_
 rintro _ _ _ _ ⟨g1,rfl,rfl,rfl⟩
 refine RgH.does (DoesH.new (d:=4) (v:=fun g=>.pointer (some ⟨g,0,none⟩)) (o:=fun g=>.cells #[.bool false,.slice none 0 0,.slice none 0 0] 33 (0,0)) (fun g=>by kernel_rfl)) ?_
 rintro _ _ _ _ ⟨g2,rfl,rfl,rfl⟩
 refine Dn<|An 2<|Sd 0 7 [] [3,3,3,3,3,0,3]<|Zr [0,1,2,3,4] 2 (bxs 2++[bx 1 3]) (Pk 5 [0,1,2,3,4]) (Pk 5 [0,1,2,3,4]) ?_
 obtain ⟨y1,hy1,heq⟩:=bind_some heq
 refine Dz 5 (cal 17 (cache_missing_c hy1 (hoa0_2.rw (.tail _ (.tail _ (.tail _ (.head _))))) hoa0_2.cap rfl (hoa0_3.rw (.tail _ (.tail _ (.tail _ (.tail _ (.head _)))))) hoa0_3.cap rfl (hra1_3.wk (fun _ h=>(.tail _ (.tail _ (.tail _ (.tail _ (.tail _ h))))))) hca1_3 rfl)) ?_
 rintro _ _ _ _ ⟨_,rfl,A1,c1,ch1,rfl,rfl,rfl,ho1⟩
 refine ⟨fun _ w hh=>⟨fun _=>(Pk 6 [1,2,3,4,5]) w hh,fun _=>(Pk 6 [1,2,3,4,5]) w hh,(fun h=>by cases h)⟩,?_⟩
 refine Zr [6] 0 [] (Pk 6 [1,2,3,4,5]) (Pk 5 [0,1,2,3,4]) ?_
 refine DrH.done (by kernel_rfl) ?_
 refine Sa 1<|Zd 3 ?_
 refine Cb heq ?_ ?_
 ·intro hb1 heq
  refine Sa 1<|Zk 2 ?_
  refine RgH.does (DoesH.store (k:=1) (g:=g2) (off:=0) (v:=.agg #[.bool false,.slice A1 y1.length c1,.slice none 0 0]) (cells':=#[.bool false,.slice A1 y1.length c1,.slice none 0 0]) (by kernel_rfl) rfl (by kernel_rfl) (by kernel_rfl)) ?_
  rintro _ _ _ _ ⟨rfl,rfl,rfl⟩
  refine RgH.nrm ?_
  refine Dn<|RunH.nilc ?_
  have ho2:SlOwn Kd.string 9 H none 0 ([]:List ByteArray) none:=SlOwn.nil
  obtain rfl:=Option.some.inj heq
  refine Up 4 [2,1,0] ?_
  exact RunH.doneM' 1 (vs:=[.agg #[.bool false,.slice A1 y1.length c1,.slice none 0 0]]) (v:=.agg #[.bool false,.slice A1 y1.length c1,.slice none 0 0]) (by kernel_rfl) Tryz.func35 (fun w hh=>show ResAll _ _ _ [.cell 4 33] _ from ⟨⟨⟨g2,0,none⟩,by kernel_rfl,trS_run _ (vs:=[.bool false,.slice A1 y1.length c1,.slice none 0 0]) (r:=[]) (es:=[.load ⟨g2,0,none⟩ (.bool false),.load ⟨g2,1,none⟩ (.slice A1 y1.length c1),.load ⟨g2,2,none⟩ (.slice none 0 0)]) (by kernel_rfl) ⟨(hh.box 0 rfl rfl),(hh.box 0 rfl rfl),(hh.box 0 rfl rfl)⟩⟩,trivial⟩) rfl (cs':=ch1::none::(some (ga0,.cells #[iv a0.Room,iv a0.Lease,.slice Aa0_2 a0.Blobs.length ca0_2,.slice Aa0_3 a0.Entries.length ca0_3] 25 (0,0)))::cha0_2::cha0_3::F) rfl ⟨A1,c1,ch1,none,0,none,Aa0_2,ca0_2,cha0_2,Aa0_3,ca0_3,cha0_3,rfl,rfl,ho1,ho2,hoa0_2,hoa0_3⟩
 ·intro hb1 heq
  refine Sa 2<|Zv 5 [bx 2 3,bx 2 1]<|Ug 6 [3,4,5,0,1,2] ?_
  obtain ⟨y2,hy2,heq⟩:=bind_some heq
  refine RgH.does (cal 28 (cache_touch_3_c hy2 hoa0_2 rfl hoa0_3 rfl (hra1_3.wk (fun _ h=>(.tail _ (.tail _ (.tail _ h))))) hca1_3 rfl)) ?_
  rintro _ _ _ _ ⟨_,rfl,A2,c2,ch2,A3,c3,ch3,rfl,rfl,rfl,ho3,ho4⟩
  refine Dn<|An 1<|Sd 0 10 [] [3,3,3,3,0,3,3,3,0,0]<|Zr [0,1,2,3,5,6] 4 [bx 5 4,bx 5 3,bx 5 1] (Pk 6 [0,1,2,3,4,5]) (Pk 6 [0,1,2,3,4,5])<|Kr [0,3,4,30,32,35] [(0,pg ga0 0),(3,pg g1 0),(4,pg g2 0),(30,.string a1.Key),(32,.slice Aa1_3 a1.Digests.length ca1_3),(35,iv a1.At)] ?_
  refine DrF.start [(8,6,none,.cells #[.string ByteArray.empty,.slice none 0 0,iv 0] 47 (0,0))] (n:=3) (by kernel_rfl) ?_
  refine DrF.keep [0,3,4,30,32,35] (L':=[(0,pg ga0 0),(3,pg g1 0),(4,pg g2 0),(30,.string a1.Key),(32,.slice Aa1_3 a1.Digests.length ca1_3),(35,iv a1.At)]) (by kernel_rfl) (by kernel_rfl) ?_
  obtain ⟨y3,hy3,heq⟩:=bind_some heq
  refine DrF.does1 (n:=2) (ls':=[true,true,true,true,true,true,true,false,false,false]) (by kernel_rfl) 4 ⟨fun E g=>by kernel_rfl,trivial⟩ (by kernel_rfl) (by kernel_rfl) rfl (fun w hh=>⟨(Pk 6 [0,1,2,3,4,5]) w hh,(Pk 6 [0,1,2,3,4,5]) w hh⟩) (fun fc1 fE1=>cal 33 (slices_Clone_string_c (a0:=a1.Digests) (hra1_3.wk (fun _ h=>(.tail _ (.tail _ (.tail _ (.tail _ (.tail _ (.tail _ (.tail _ h))))))))) hca1_3 rfl hy3)) ?_
  rintro fc1 fE1
  rintro _ _ _ _ ⟨_,rfl,A4,c4,ch4,rfl,rfl,rfl,ho5⟩
  refine ⟨fun _ w hh=>⟨fun _=>(Pk 8 [2,3,4,5,6,7]) w hh,fun _=>(Pk 8 [2,3,4,5,6,7]) w hh,(fun h=>by cases h)⟩,[(33,.slice A4 y3.length c4),(0,pg ga0 0),(3,pg g1 0),(4,pg g2 0),(30,.string a1.Key),(32,.slice Aa1_3 a1.Digests.length ca1_3),(35,iv a1.At)],ch4::(some (ga0,.cells #[iv y2.Room,iv y2.Lease,.slice A2 y2.Blobs.length c2,.slice A3 y2.Entries.length c3] 25 (0,0)))::ch2::ch3::ch1::(some (g2,.cells #[.bool false,.slice none 0 0,.slice none 0 0] 33 (0,0)))::(some (g1,.cells #[iv a1.Kind,iv a1.At,.string a1.Digest,.slice Aa1_3 a1.Digests.length ca1_3,.string a1.Key,iv a1.Size] 28 (0,0)))::F,rfl,(Pk 8 [1,0,2,3,4,5,6,7]),?_⟩
  refine DrF.run [7] (m:=1) (ls':=[true,true,true,true,true,true,true,true,false,false]) (vs:=[]) (evs:=[]) (L':=[(36,.agg #[.string a1.Key,.slice A4 y3.length c4,iv a1.At]),(33,.slice A4 y3.length c4),(0,pg ga0 0),(3,pg g1 0),(4,pg g2 0),(30,.string a1.Key),(32,.slice Aa1_3 a1.Digests.length ca1_3),(35,iv a1.At)]) (by kernel_rfl) (Pk 7 [1,2,3,4,5,6]) (Pk 6 [0,1,2,3,4,5]) (pats1 (fun E=>by kernel_rfl) (fun E=>by kernel_rfl)) (fun _ _=>trivial) (by kernel_rfl) ?_
  refine DrF.keep [0,3,4,36] (L':=[(0,pg ga0 0),(3,pg g1 0),(4,pg g2 0),(36,.agg #[.string a1.Key,.slice A4 y3.length c4,iv a1.At])]) (by kernel_rfl) (by kernel_rfl) ?_
  refine DrF.close1 (n:=1) (ls':=[true,true,true,true,true,true,true,true,true,false]) (by kernel_rfl) ⟨fun E g=>by kernel_rfl,trivial⟩ (by kernel_rfl) (by kernel_rfl) rfl (fun w hh=>⟨(Pk 7 [1,2,3,4,5,6]) w hh,(Pk 7 [1,2,3,4,5,6]) w hh⟩) ?_
  intro g3
  refine Dz 9 (DoesH.store (k:=0) (g:=g3) (off:=0) (v:=.agg #[.string a1.Key,.slice A4 y3.length c4,iv a1.At]) (cells':=#[.string a1.Key,.slice A4 y3.length c4,iv a1.At]) (by kernel_rfl) rfl (by kernel_rfl) (by kernel_rfl)) ?_
  rintro _ _ _ _ ⟨rfl,rfl,rfl⟩
  refine ⟨fun _ w hh=>⟨fun _=>(Pk 8 [2,3,4,5,6,7]) w hh,fun _=>(Pk 8 [2,3,4,5,6,7]) w hh,(fun h=>by cases h)⟩,?_⟩
  refine DrH.nrm ?_
  refine DrH.done (by kernel_rfl) ?_
  refine An 1<|Sd 0 11 [] [3,3,3,3,3,0,3,3,3,3,3]<|Zr [0,1,2,3,4] 6 (bxs 2++[bx 7 4]) (Pk 8 [0,1,2,3,4,5,6,7]) (Pk 8 [0,1,2,3,4,5,6,7]) ?_
  obtain ⟨y4,hy4,heq⟩:=bind_some heq
  refine Dz 5 (cal 43 (cache_entryAt_c hy4 (ho3.rw (.tail _ (.tail _ (.tail _ (.head _))))) ho3.cap rfl (ho4.rw (.tail _ (.tail _ (.tail _ (.tail _ (.head _)))))) ho4.cap rfl)) ?_
  rintro _ _ _ _ ⟨_,rfl,rfl,rfl,rfl⟩
  refine ⟨fun _ w hh=>⟨fun _=>(Pk 8 [0,1,2,3,4,5,6,7]) w hh,fun _=>(Pk 8 [0,1,2,3,4,5,6,7]) w hh,(fun h=>by cases h)⟩,?_⟩
  refine Zr [6,7,8,9,10] 0 [] (Pk 8 [0,1,2,3,4,5,6,7]) (Pk 8 [0,1,2,3,4,5,6,7]) ?_
  refine DrH.done (by kernel_rfl) ?_
  refine Sa 2<|Zd 1 ?_
  refine Cb heq ?_ ?_
  ·intro hb2 heq
   refine An 1<|Sd 0 8 [] [3,3,3,3,3,3,3,2] ?_
   obtain ⟨x1,hx1,heq⟩:=bind_some heq
   obtain ⟨ha1,cs1,hK1,hcc1⟩:=ho4.get hx1
   obtain ⟨A5,c5,rfl,hc1,hr1⟩:=kEntry_open hK1
   refine Zr [0,1,2,3,4,5,6] 1 ([bx 2 3]++bxs 0++[nx ha1 hx1]) (Pk 8 [0,1,2,3,4,5,6,7]) (Pk 8 [0,1,2,3,4,5,6,7])<|Ur 2 [1,0] ?_
   have hc2:=ho5.cap
   refine DrH.freezeS ho5 (fun H hl hr2=>?_)
   have hle:=hl
   replace ho3:=ho3.mono hl
   replace ho4:=ho4.mono hl
   obtain ⟨ha2,cs2,hK2,hcc2⟩:=ho4.get hx1
   obtain ⟨A6,c6,rfl,hc3,hr3⟩:=kEntry_open hK2
   refine Dz 7 (DoesH.storeEl (a:=((adr A3).add (y4.1.toNat*3))) (k:=3) (kd:=kEntry) (c0:=[.string x1.Key,.slice A6 x1.Refs.length c6,iv x1.Used]) (x':=(⟨a1.Key,y3,a1.At⟩:Entry)) (o:=0) (ix:=y4.1) (v:=.agg #[.string a1.Key,.slice A4 y3.length c4,iv a1.At]) (by kernel_rfl) rfl ho4 hx1 (by kernel_rfl) hcc2 rfl (Nat.le_of_ble_eq_true (by kernel_rfl)) (kEntry_mk hc2 hr2)) ?_
   rintro _ _ _ _ ⟨ch5,rfl,rfl,rfl,ho6⟩
   have hn1:y2.Entries.length=(y2.Entries.set y4.1.toNat (⟨a1.Key,y3,a1.At⟩:Entry)).length:=by rw [List.length_set]
   refine ⟨fun _ w hh=>⟨(fun h=>by cases h),(fun h=>absurd h (by decide)),(fun h=>by cases h)⟩,?_⟩
   refine DrH.nrm ?_
   refine DrH.done (by kernel_rfl) ?_
   refine Sa 1<|Zk 1 ?_
   refine RgH.does (DoesH.store (k:=5) (g:=g2) (off:=0) (v:=.agg #[.bool true,.slice none 0 0,.slice none 0 0]) (cells':=#[.bool true,.slice none 0 0,.slice none 0 0]) (by kernel_rfl) rfl (by kernel_rfl) (by kernel_rfl)) ?_
   rintro _ _ _ _ ⟨rfl,rfl,rfl⟩
   refine RgH.nrm ?_
   refine Dn<|RunH.nilc ?_
   have ho7:SlOwn Kd.string 9 H none 0 ([]:List ByteArray) none:=SlOwn.nil
   refine RunH.nilc ?_
   have ho8:SlOwn Kd.string 9 H none 0 ([]:List ByteArray) none:=SlOwn.nil
   obtain rfl:=Option.some.inj heq
   refine Up 9 [7,1,0,3,4,5] ?_
   exact RunH.doneM' 1 (vs:=[.agg #[.bool true,.slice none 0 0,.slice none 0 0]]) (v:=.agg #[.bool true,.slice none 0 0,.slice none 0 0]) (by kernel_rfl) Tryz.func35 (fun w hh=>show ResAll _ _ _ [.cell 4 33] _ from ⟨⟨⟨g2,0,none⟩,by kernel_rfl,trS_run _ (vs:=[.bool true,.slice none 0 0,.slice none 0 0]) (r:=[]) (es:=[.load ⟨g2,0,none⟩ (.bool true),.load ⟨g2,1,none⟩ (.slice none 0 0),.load ⟨g2,2,none⟩ (.slice none 0 0)]) (by kernel_rfl) ⟨(hh.box 0 rfl rfl),(hh.box 0 rfl rfl),(hh.box 0 rfl rfl)⟩⟩,trivial⟩) rfl (cs':=none::none::(some (ga0,.cells #[iv y2.Room,iv y2.Lease,.slice A2 y2.Blobs.length c2,.slice A3 y2.Entries.length c3] 25 (0,0)))::ch2::ch5::F) rfl ⟨none,0,none,none,0,none,A2,c2,ch2,A3,c3,ch5,(by first | rfl | exact congrArg (fun q=>Value.slice _ q _) hn1 | (rw [hn1]; done) | (simp only [← hn1])),(by first | rfl | (rw [hn1]; done) | (rw [hn1]; rfl) | (simp only [List.length_set]; done) | (simp only [List.length_set]; rfl)),ho7,ho8,ho3,ho6⟩
  ·intro hb2 heq
   refine Sa 3<|Zw 6 [bx 2 3] ?_
   refine Cb heq ?_ ?_
   ·intro hb3 heq
    refine Sa 1<|Zd 1<|Sa 2<|Zw 6 [bx 2 3]<|An 2 ?_
    exact Gt 6 [0,1,2,3,4] (((cache_store.l3_c (e2:=cache_store.e2 cache_store.j1) (cache_store.e2_c (j1:=cache_store.j1) (cache_store.j1_c))) big) _ _ a1 _ _ _ _ y2 _ _ _ _ _ _ y3 _ _ _ _ 0 0 hra1_3 hca1_3 ho3 ho4 ho5 heq)
   ·intro hb3 heq
    refine An 2 ?_
    exact Gt 8 [0,1,2,3,4,6] ((cache_store.j1_c) _ _ a1 _ y2 _ _ _ y3 _ _ _ _ y2.Entries _ _ _ _ y4.1 ho3 ho5 ho4 rfl heq)
noncomputable def C36:Ctx:={ P:=Tryz.prog,f:=36,N:=65,c:=bodyOf Tryz.f36 }
def S36 (F:List Ch) (H0:Hp) (ga0:Nat) (r:CacheAnswer × Cache) (v:Value) (H:Hp) (cs:List Ch):Prop:=∃ (A0_1:Option Addr) (c0_1:Nat) (ch0_1:Ch) (A0_2:Option Addr) (c0_2:Nat) (ch0_2:Ch) (A1_2:Option Addr) (c1_2:Nat) (ch1_2:Ch) (A1_3:Option Addr) (c1_3:Nat) (ch1_3:Ch),H0=H∧v=.agg #[.bool r.1.Done,.slice A0_1 r.1.Missing.length c0_1,.slice A0_2 r.1.Gone.length c0_2]∧ch0_1::ch0_2::some (ga0,.cells #[iv r.2.Room,iv r.2.Lease,.slice A1_2 r.2.Blobs.length c1_2,.slice A1_3 r.2.Entries.length c1_3] 25 (0,0))::ch1_2::ch1_3::F=cs∧SlOwn Kd.string 9 H A0_1 c0_1 r.1.Missing ch0_1∧SlOwn Kd.string 9 H A0_2 c0_2 r.1.Gone ch0_2∧SlOwn kBlob 45 H A1_2 c1_2 r.2.Blobs ch1_2∧SlOwn kEntry 47 H A1_3 c1_3 r.2.Entries ch1_3
theorem cache_search_c {ga0:Nat} {a0:Cache} {Aa0_2:Option Addr} {na0_2 ca0_2:Nat} {cha0_2:Ch} {Aa0_3:Option Addr} {na0_3 ca0_3:Nat} {cha0_3:Ch} {a1:CacheEvent} {Aa1_3:Option Addr} {na1_3 ca1_3:Nat} {r:CacheAnswer × Cache} (heq:cache_search.f a0 a1=some r) (hoa0_2:SlOwn kBlob 45 H Aa0_2 ca0_2 a0.Blobs cha0_2) (hna0_2:na0_2=a0.Blobs.length) (hoa0_3:SlOwn kEntry 47 H Aa0_3 ca0_3 a0.Entries cha0_3) (hna0_3:na0_3=a0.Entries.length) (hra1_3:Rw Kd.string H F Aa1_3 a1.Digests) (hca1_3:na1_3≤ca1_3) (hna1_3:na1_3=a1.Digests.length):CallsH Tryz.prog 36 #[.pointer (some ⟨ga0,0,none⟩),.agg #[iv a1.Kind,iv a1.At,.string a1.Digest,.slice Aa1_3 na1_3 ca1_3,.string a1.Key,iv a1.Size]] H w0 ((some (ga0,.cells #[iv a0.Room,iv a0.Lease,.slice Aa0_2 na0_2 ca0_2,.slice Aa0_3 na0_3 ca0_3] 25 (0,0)))::cha0_2::cha0_3::F) (S36 F H ga0 r):=by
 refine Co C36 Tryz.func36 Tryz.ntmps36 ?_
 subst hna0_2
 subst hna0_3
 subst hna1_3
 unfold cache_search.f at heq
 refine Sa 1 ?_
 refine RgH.does (DoesH.new (d:=3) (v:=fun g=>.pointer (some ⟨g,0,none⟩)) (o:=fun g=>.cells #[iv a1.Kind,iv a1.At,.string a1.Digest,.slice Aa1_3 a1.Digests.length ca1_3,.string a1.Key,iv a1.Size] 28 (0,0)) (fun g=>by kernel_rfl)) ?_
 rintro _ _ _ _ ⟨g1,rfl,rfl,rfl⟩
 refine RgH.does (DoesH.new (d:=4) (v:=fun g=>.pointer (some ⟨g,0,none⟩)) (o:=fun g=>.cells #[.bool false,.slice none 0 0,.slice none 0 0] 33 (0,0)) (fun g=>by kernel_rfl)) ?_
 rintro _ _ _ _ ⟨g2,rfl,rfl,rfl⟩
 refine Dn<|An 1<|Sd 0 11 [] [3,3,3,3,3,0,3,3,3,3,3]<|Zr [0,1,2,3,4] 6 (bxs 2++[bx 1 4]) (Pk 5 [0,1,2,3,4]) (Pk 5 [0,1,2,3,4]) ?_
 obtain ⟨y1,hy1,heq⟩:=bind_some heq
 refine Dz 5 (cal 15 (cache_entryAt_c hy1 (hoa0_2.rw (.tail _ (.tail _ (.tail _ (.head _))))) hoa0_2.cap rfl (hoa0_3.rw (.tail _ (.tail _ (.tail _ (.tail _ (.head _)))))) hoa0_3.cap rfl)) ?_
 rintro _ _ _ _ ⟨_,rfl,rfl,rfl,rfl⟩
 refine ⟨fun _ w hh=>⟨fun _=>(Pk 5 [0,1,2,3,4]) w hh,fun _=>(Pk 5 [0,1,2,3,4]) w hh,(fun h=>by cases h)⟩,?_⟩
 refine Zr [6,7,8,9,10] 0 [] (Pk 5 [0,1,2,3,4]) (Pk 5 [0,1,2,3,4]) ?_
 refine DrH.done (by kernel_rfl) ?_
 refine Sa 2<|Zd 2 ?_
 refine Cb heq ?_ ?_
 ·intro hb1 heq
  refine Sa 1<|Zk 1 ?_
  refine RgH.does (DoesH.store (k:=0) (g:=g2) (off:=0) (v:=.agg #[.bool false,.slice none 0 0,.slice none 0 0]) (cells':=#[.bool false,.slice none 0 0,.slice none 0 0]) (by kernel_rfl) rfl (by kernel_rfl) (by kernel_rfl)) ?_
  rintro _ _ _ _ ⟨rfl,rfl,rfl⟩
  refine RgH.nrm ?_
  refine Dn<|RunH.nilc ?_
  have ho1:SlOwn Kd.string 9 H none 0 ([]:List ByteArray) none:=SlOwn.nil
  refine RunH.nilc ?_
  have ho2:SlOwn Kd.string 9 H none 0 ([]:List ByteArray) none:=SlOwn.nil
  obtain rfl:=Option.some.inj heq
  refine Up 4 [2,1,0] ?_
  exact RunH.doneM' 1 (vs:=[.agg #[.bool false,.slice none 0 0,.slice none 0 0]]) (v:=.agg #[.bool false,.slice none 0 0,.slice none 0 0]) (by kernel_rfl) Tryz.func36 (fun w hh=>show ResAll _ _ _ [.cell 4 33] _ from ⟨⟨⟨g2,0,none⟩,by kernel_rfl,trS_run _ (vs:=[.bool false,.slice none 0 0,.slice none 0 0]) (r:=[]) (es:=[.load ⟨g2,0,none⟩ (.bool false),.load ⟨g2,1,none⟩ (.slice none 0 0),.load ⟨g2,2,none⟩ (.slice none 0 0)]) (by kernel_rfl) ⟨(hh.box 0 rfl rfl),(hh.box 0 rfl rfl),(hh.box 0 rfl rfl)⟩⟩,trivial⟩) rfl (cs':=none::none::(some (ga0,.cells #[iv a0.Room,iv a0.Lease,.slice Aa0_2 a0.Blobs.length ca0_2,.slice Aa0_3 a0.Entries.length ca0_3] 25 (0,0)))::cha0_2::cha0_3::F) rfl ⟨none,0,none,none,0,none,Aa0_2,ca0_2,cha0_2,Aa0_3,ca0_3,cha0_3,rfl,rfl,rfl,ho1,ho2,hoa0_2,hoa0_3⟩
 ·intro hb1 heq
  refine Sa 2 ?_
  obtain ⟨x1,hx1,heq⟩:=bind_some heq
  obtain ⟨ha1,cs1,hK1,hcc1⟩:=hoa0_3.get hx1
  obtain ⟨A1,c1,rfl,hc1,hr1⟩:=kEntry_open hK1
  refine Zw 9 [bx 2 3,nx ha1 hx1,el hcc1 4 1]<|Sa 2<|Zv 4 (bxs 2) ?_
  obtain ⟨y2,hy2,heq⟩:=bind_some heq
  refine RgH.does (cal 33 (cache_missing_c hy2 (hoa0_2.rw (.tail _ (.tail _ (.tail _ (.head _))))) hoa0_2.cap rfl (hoa0_3.rw (.tail _ (.tail _ (.tail _ (.tail _ (.head _)))))) hoa0_3.cap rfl (Rw.of hr1) hc1 rfl)) ?_
  rintro _ _ _ _ ⟨_,rfl,A2,c2,ch1,rfl,rfl,rfl,ho3⟩
  refine Zd 6<|Sa 1<|Zd 3 ?_
  refine Cb heq ?_ ?_
  ·intro hb2 heq
   refine Sa 1<|Zv 8 [bx 3 3]<|Ug 6 [5,0,1,2,3,4] ?_
   obtain ⟨y3,hy3,heq⟩:=bind_some heq
   refine RgH.does (cal 45 (slices_Delete_Entry_c (a0:=a0.Entries) (a1:=y1.1) (a2:=w64 (y1.1+1)) hoa0_3 rfl hy3)) ?_
   rintro _ _ _ _ ⟨_,rfl,A3,c3,ch2,rfl,rfl,rfl,ho4⟩
   refine Zk 11 ?_
   refine RgH.does (DoesH.store (k:=4) (g:=ga0) (off:=3) (v:=.slice A3 y3.length c3) (cells':=#[iv a0.Room,iv a0.Lease,.slice Aa0_2 a0.Blobs.length ca0_2,.slice A3 y3.length c3]) (by kernel_rfl) rfl (by kernel_rfl) (by kernel_rfl)) ?_
   rintro _ _ _ _ ⟨rfl,rfl,rfl⟩
   refine RgH.nrm ?_
   refine Dn<|Sa 1<|Zk 2 ?_
   refine RgH.does (DoesH.store (k:=2) (g:=g2) (off:=0) (v:=.agg #[.bool false,.slice A2 y2.length c2,.slice none 0 0]) (cells':=#[.bool false,.slice A2 y2.length c2,.slice none 0 0]) (by kernel_rfl) rfl (by kernel_rfl) (by kernel_rfl)) ?_
   rintro _ _ _ _ ⟨rfl,rfl,rfl⟩
   refine RgH.nrm ?_
   refine Dn<|RunH.nilc ?_
   have ho5:SlOwn Kd.string 9 H none 0 ([]:List ByteArray) none:=SlOwn.nil
   obtain rfl:=Option.some.inj heq
   refine Up 7 [3,2,0,5,6,1] ?_
   exact RunH.doneM' 1 (vs:=[.agg #[.bool false,.slice A2 y2.length c2,.slice none 0 0]]) (v:=.agg #[.bool false,.slice A2 y2.length c2,.slice none 0 0]) (by kernel_rfl) Tryz.func36 (fun w hh=>show ResAll _ _ _ [.cell 4 33] _ from ⟨⟨⟨g2,0,none⟩,by kernel_rfl,trS_run _ (vs:=[.bool false,.slice A2 y2.length c2,.slice none 0 0]) (r:=[]) (es:=[.load ⟨g2,0,none⟩ (.bool false),.load ⟨g2,1,none⟩ (.slice A2 y2.length c2),.load ⟨g2,2,none⟩ (.slice none 0 0)]) (by kernel_rfl) ⟨(hh.box 0 rfl rfl),(hh.box 0 rfl rfl),(hh.box 0 rfl rfl)⟩⟩,trivial⟩) rfl (cs':=ch1::none::(some (ga0,.cells #[iv a0.Room,iv a0.Lease,.slice Aa0_2 a0.Blobs.length ca0_2,.slice A3 y3.length c3] 25 (0,0)))::cha0_2::ch2::F) rfl ⟨A2,c2,ch1,none,0,none,Aa0_2,ca0_2,cha0_2,A3,c3,ch2,rfl,rfl,rfl,ho3,ho5,hoa0_2,ho4⟩
  ·intro hb2 heq
   refine An 2<|Sd 0 10 [] [3,3,3,3,3,3,3,0,3,2]<|Zr [0,1,2,3,4,5,6] 3 [bx 3 3,bx 2 1] (Pk 6 [0,1,2,3,4,5]) (Pk 6 [0,1,2,3,4,5]) ?_
   obtain ⟨x2,hx2,heq⟩:=bind_some heq
   obtain ⟨ha2,cs2,hK2,hcc2⟩:=hoa0_3.get hx2
   obtain ⟨A4,c4,rfl,hc2,hr2⟩:=kEntry_open hK2
   refine Dz 7 (DoesH.pureop (d:=57) (v:=.pointer (some ((adr Aa0_3).add (y1.1.toNat*3)))) (vs:=[]) (evs:=[.need (Aa0_3=some (adr Aa0_3)∧(0:Int)≤y1.1∧y1.1<((a0.Entries.length:Nat):Int))]) (by kernel_rfl) (fun w hh=>⟨ha2,(at?_some hx2).1,(at?_some hx2).2.1⟩)) ?_
   rintro _ _ _ _ ⟨rfl,rfl,rfl⟩
   refine ⟨fun _ w hh=>⟨fun _=>(Pk 6 [0,1,2,3,4,5]) w hh,fun _=>(Pk 6 [0,1,2,3,4,5]) w hh,(fun h=>by cases h)⟩,?_⟩
   refine Zr [8] 1 [] (Pk 6 [0,1,2,3,4,5]) (Pk 6 [0,1,2,3,4,5]) ?_
   obtain ⟨ha3,cs3,hK3,hcc3⟩:=hoa0_3.get hx2
   obtain ⟨A5,c5,rfl,hc3,hr3⟩:=kEntry_open hK3
   refine Dz 9 (DoesH.storeEl (a:=(((adr Aa0_3).add (y1.1.toNat*3)).add 2)) (k:=5) (kd:=kEntry) (c0:=[.string x2.Key,.slice A5 x2.Refs.length c5,iv x2.Used]) (x':=(⟨x2.Key,x2.Refs,a1.At⟩:Entry)) (o:=2) (ix:=y1.1) (v:=iv a1.At) (by kernel_rfl) rfl hoa0_3 hx2 (by kernel_rfl) hcc3 rfl (Nat.le_of_ble_eq_true (by kernel_rfl)) (kEntry_mk hc3 hr3)) ?_
   rintro _ _ _ _ ⟨ch3,rfl,rfl,rfl,ho6⟩
   have hn1:a0.Entries.length=(a0.Entries.set y1.1.toNat (⟨x2.Key,x2.Refs,a1.At⟩:Entry)).length:=by rw [List.length_set]
   refine ⟨fun _ w hh=>⟨(fun h=>by cases h),(fun h=>absurd h (by decide)),(fun h=>by cases h)⟩,?_⟩
   refine DrH.nrm ?_
   refine DrH.done (by kernel_rfl) ?_
   refine Sa 1<|Zv 4 [bx 2 1]<|Ug 6 [3,4,5,0,1,2] ?_
   obtain ⟨y4,hy4,heq⟩:=bind_some heq
   refine RgH.does (cal 63 (cache_touch_3_c (a0:=(⟨a0.Room,a0.Lease,a0.Blobs,(a0.Entries.set y1.1.toNat (⟨x2.Key,x2.Refs,a1.At⟩:Entry))⟩:Cache)) hy4 hoa0_2 rfl ho6 hn1 (Rw.of hr1) hc1 rfl)) ?_
   rintro _ _ _ _ ⟨_,rfl,A6,c6,ch4,A7,c7,ch5,rfl,rfl,rfl,ho7,ho8⟩
   refine Dn<|Sa 1<|Zk 1 ?_
   refine RgH.does (DoesH.store (k:=4) (g:=g2) (off:=0) (v:=.agg #[.bool true,.slice none 0 0,.slice none 0 0]) (cells':=#[.bool true,.slice none 0 0,.slice none 0 0]) (by kernel_rfl) rfl (by kernel_rfl) (by kernel_rfl)) ?_
   rintro _ _ _ _ ⟨rfl,rfl,rfl⟩
   refine RgH.nrm ?_
   refine Dn<|RunH.nilc ?_
   have ho9:SlOwn Kd.string 9 H none 0 ([]:List ByteArray) none:=SlOwn.nil
   refine RunH.nilc ?_
   have ho10:SlOwn Kd.string 9 H none 0 ([]:List ByteArray) none:=SlOwn.nil
   obtain rfl:=Option.some.inj heq
   refine Up 8 [6,1,0,2,3,4] ?_
   exact RunH.doneM' 1 (vs:=[.agg #[.bool true,.slice none 0 0,.slice none 0 0]]) (v:=.agg #[.bool true,.slice none 0 0,.slice none 0 0]) (by kernel_rfl) Tryz.func36 (fun w hh=>show ResAll _ _ _ [.cell 4 33] _ from ⟨⟨⟨g2,0,none⟩,by kernel_rfl,trS_run _ (vs:=[.bool true,.slice none 0 0,.slice none 0 0]) (r:=[]) (es:=[.load ⟨g2,0,none⟩ (.bool true),.load ⟨g2,1,none⟩ (.slice none 0 0),.load ⟨g2,2,none⟩ (.slice none 0 0)]) (by kernel_rfl) ⟨(hh.box 0 rfl rfl),(hh.box 0 rfl rfl),(hh.box 0 rfl rfl)⟩⟩,trivial⟩) rfl (cs':=none::none::(some (ga0,.cells #[iv y4.Room,iv y4.Lease,.slice A6 y4.Blobs.length c6,.slice A7 y4.Entries.length c7] 25 (0,0)))::ch4::ch5::F) rfl ⟨none,0,none,none,0,none,A6,c6,ch4,A7,c7,ch5,rfl,rfl,rfl,ho9,ho10,ho7,ho8⟩
noncomputable def C16:Ctx:={ P:=Tryz.prog,f:=16,N:=114,c:=bodyOf Tryz.f16 }
def S16 (F:List Ch) (H0:Hp) (ga0:Nat) (r:CacheAnswer × Int × Cache) (v:Value) (H:Hp) (cs:List Ch):Prop:=∃ (A0_1:Option Addr) (c0_1:Nat) (ch0_1:Ch) (A0_2:Option Addr) (c0_2:Nat) (ch0_2:Ch) (A2_2:Option Addr) (c2_2:Nat) (ch2_2:Ch) (A2_3:Option Addr) (c2_3:Nat) (ch2_3:Ch),v=.tuple #[.agg #[.bool r.1.Done,.slice A0_1 r.1.Missing.length c0_1,.slice A0_2 r.1.Gone.length c0_2],iv r.2.1]∧ch0_1::ch0_2::some (ga0,.cells #[iv r.2.2.Room,iv r.2.2.Lease,.slice A2_2 r.2.2.Blobs.length c2_2,.slice A2_3 r.2.2.Entries.length c2_3] 25 (0,0))::ch2_2::ch2_3::F=cs∧SlOwn Kd.string 9 H A0_1 c0_1 r.1.Missing ch0_1∧SlOwn Kd.string 9 H A0_2 c0_2 r.1.Gone ch0_2∧SlOwn kBlob 45 H A2_2 c2_2 r.2.2.Blobs ch2_2∧SlOwn kEntry 47 H A2_3 c2_3 r.2.2.Entries ch2_3
theorem cache_do.j1_c {r:CacheAnswer × Int × Cache}:∀ (H:Hp) (ga0:Nat) (a0:Cache) (Aa0_2:Option Addr) (ca0_2:Nat) (cha0_2:Ch) (Aa0_3:Option Addr) (ca0_3:Nat) (cha0_3:Ch) (a1:CacheEvent) (Aa1_3:Option Addr) (ca1_3 g1 g2:Nat) (y3:Int × Bool) (v72:Bool) ,SlOwn kBlob 45 H Aa0_2 ca0_2 a0.Blobs cha0_2→SlOwn kEntry 47 H Aa0_3 ca0_3 a0.Entries cha0_3→Rw Kd.string H F Aa1_3 a1.Digests→a1.Digests.length≤ca1_3→cache_do.j1 a0 a1 y3 v72=some r→RunH C16 (S16 F H0 ga0 r) H0 w0 [.c [1,1,1,1,0,1,0,1,1,1,1,1,1,1],.b 0,.c [1,1,1,1,1]] [(0,pg ga0 0),(3,pg g1 0),(4,pg g2 0),(7,iv y3.1),(8,.bool y3.2),(34,iv a1.Kind),(72,.bool v72)] H ((some (g2,.cells #[.bool false,.slice none 0 0,.slice none 0 0] 33 (0,0)))::(some (g1,.cells #[iv a1.Kind,iv a1.At,.string a1.Digest,.slice Aa1_3 a1.Digests.length ca1_3,.string a1.Key,iv a1.Size] 28 (0,0)))::(some (ga0,.cells #[iv a0.Room,iv a0.Lease,.slice Aa0_2 a0.Blobs.length ca0_2,.slice Aa0_3 a0.Entries.length ca0_3] 25 (0,0)))::cha0_2::cha0_3::F):=by
 intro H ga0 a0 Aa0_2 ca0_2 cha0_2 Aa0_3 ca0_3 cha0_3 a1 Aa1_3 ca1_3 g1 g2 y3 v72 hoa0_2 hoa0_3 hra1_3 hca1_3 heq
 unfold cache_do.j1 at heq
 refine Cb heq ?_ ?_
 ·intro hb6 heq
  refine Sa 1<|Zv 2 (bxs 1)<|Ug 5 [2,3,4,0,1] ?_
  obtain ⟨y8,hy8,heq⟩:=bind_some heq
  refine RgH.does (cal 77 (cache_pin_c hy8 hoa0_2 rfl hoa0_3 rfl (hra1_3.wk (fun _ h=>(.tail _ (.tail _ h)))) hca1_3 rfl)) ?_
  rintro _ _ _ _ ⟨_,rfl,A10,c10,ch10,A11,c11,ch11,A12,c12,ch12,A13,c13,ch13,rfl,rfl,rfl,ho18,ho19,ho20,ho21⟩
  refine Zk 5 ?_
  refine RgH.does (DoesH.store (k:=5) (g:=g2) (off:=0) (v:=.agg #[.bool y8.1.Done,.slice A10 y8.1.Missing.length c10,.slice A11 y8.1.Gone.length c11]) (cells':=#[.bool y8.1.Done,.slice A10 y8.1.Missing.length c10,.slice A11 y8.1.Gone.length c11]) (by kernel_rfl) rfl (by kernel_rfl) (by kernel_rfl)) ?_
  rintro _ _ _ _ ⟨rfl,rfl,rfl⟩
  refine RgH.nrm ?_
  refine Zd 7 ?_
  obtain rfl:=Option.some.inj heq
  refine Up 7 [5,0,1,2,3,4] ?_
  exact RunH.doneM' 1 (vs:=[.agg #[.bool y8.1.Done,.slice A10 y8.1.Missing.length c10,.slice A11 y8.1.Gone.length c11],iv y8.2.1]) (v:=.tuple #[.agg #[.bool y8.1.Done,.slice A10 y8.1.Missing.length c10,.slice A11 y8.1.Gone.length c11],iv y8.2.1]) (by kernel_rfl) Tryz.func16 (fun w hh=>show ResAll _ _ _ [.cell 4 33,.tmp 5] _ from ⟨⟨⟨g2,0,none⟩,by kernel_rfl,trS_run _ (vs:=[.bool y8.1.Done,.slice A10 y8.1.Missing.length c10,.slice A11 y8.1.Gone.length c11]) (r:=[]) (es:=[.load ⟨g2,0,none⟩ (.bool y8.1.Done),.load ⟨g2,1,none⟩ (.slice A10 y8.1.Missing.length c10),.load ⟨g2,2,none⟩ (.slice A11 y8.1.Gone.length c11)]) (by kernel_rfl) ⟨(hh.box 0 rfl rfl),(hh.box 0 rfl rfl),(hh.box 0 rfl rfl)⟩⟩,(show lk _ _=some _ by kernel_rfl),trivial⟩) rfl (cs':=ch10::ch11::(some (ga0,.cells #[iv y8.2.2.Room,iv y8.2.2.Lease,.slice A12 y8.2.2.Blobs.length c12,.slice A13 y8.2.2.Entries.length c13] 25 (0,0)))::ch12::ch13::F) rfl ⟨A10,c10,ch10,A11,c11,ch11,A12,c12,ch12,A13,c13,ch13,rfl,rfl,ho18,ho19,ho20,ho21⟩
 ·intro hb6 heq
  refine Sa 1<|Zd 2 ?_
  refine Cb heq ?_ ?_
  ·intro hb7 heq
   refine Sa 1<|Zv 2 (bxs 1)<|Ug 5 [2,3,4,0,1] ?_
   obtain ⟨y9,hy9,heq⟩:=bind_some heq
   refine RgH.does (cal 84 (cache_store_c hy9 hoa0_2 rfl hoa0_3 rfl (hra1_3.wk (fun _ h=>(.tail _ (.tail _ h)))) hca1_3 rfl)) ?_
   rintro _ H _ hl ⟨_,rfl,A14,c14,ch14,A15,c15,ch15,A16,c16,ch16,A17,c17,ch17,rfl,rfl,ho22,ho23,ho24,ho25⟩
   replace hoa0_2:=hoa0_2.mono hl
   replace hoa0_3:=hoa0_3.mono hl
   replace hra1_3:=hra1_3.mono hl
   refine RgH.does (DoesH.store (k:=5) (g:=g2) (off:=0) (v:=.agg #[.bool y9.1.Done,.slice A14 y9.1.Missing.length c14,.slice A15 y9.1.Gone.length c15]) (cells':=#[.bool y9.1.Done,.slice A14 y9.1.Missing.length c14,.slice A15 y9.1.Gone.length c15]) (by kernel_rfl) rfl (by kernel_rfl) (by kernel_rfl)) ?_
   rintro _ _ _ _ ⟨rfl,rfl,rfl⟩
   refine RgH.nrm ?_
   refine Zd 5 ?_
   obtain rfl:=Option.some.inj heq
   refine Up 7 [5,0,1,2,3,4] ?_
   exact RunH.doneM' 1 (vs:=[.agg #[.bool y9.1.Done,.slice A14 y9.1.Missing.length c14,.slice A15 y9.1.Gone.length c15],iv 0]) (v:=.tuple #[.agg #[.bool y9.1.Done,.slice A14 y9.1.Missing.length c14,.slice A15 y9.1.Gone.length c15],iv 0]) (by kernel_rfl) Tryz.func16 (fun w hh=>show ResAll _ _ _ [.cell 4 33,.tmp 5] _ from ⟨⟨⟨g2,0,none⟩,by kernel_rfl,trS_run _ (vs:=[.bool y9.1.Done,.slice A14 y9.1.Missing.length c14,.slice A15 y9.1.Gone.length c15]) (r:=[]) (es:=[.load ⟨g2,0,none⟩ (.bool y9.1.Done),.load ⟨g2,1,none⟩ (.slice A14 y9.1.Missing.length c14),.load ⟨g2,2,none⟩ (.slice A15 y9.1.Gone.length c15)]) (by kernel_rfl) ⟨(hh.box 0 rfl rfl),(hh.box 0 rfl rfl),(hh.box 0 rfl rfl)⟩⟩,(show lk _ _=some _ by kernel_rfl),trivial⟩) rfl (cs':=ch14::ch15::(some (ga0,.cells #[iv y9.2.Room,iv y9.2.Lease,.slice A16 y9.2.Blobs.length c16,.slice A17 y9.2.Entries.length c17] 25 (0,0)))::ch16::ch17::F) rfl ⟨A14,c14,ch14,A15,c15,ch15,A16,c16,ch16,A17,c17,ch17,rfl,rfl,ho22,ho23,ho24,ho25⟩
  ·intro hb7 heq
   refine Sa 1<|Zd 2 ?_
   refine Cb heq ?_ ?_
   ·intro hb8 heq
    refine Sa 1<|Zv 2 (bxs 1)<|Ug 5 [2,3,4,0,1] ?_
    obtain ⟨y10,hy10,heq⟩:=bind_some heq
    refine RgH.does (cal 89 (cache_search_c hy10 hoa0_2 rfl hoa0_3 rfl (hra1_3.wk (fun _ h=>(.tail _ (.tail _ h)))) hca1_3 rfl)) ?_
    rintro _ _ _ _ ⟨_,rfl,A18,c18,ch18,A19,c19,ch19,A20,c20,ch20,A21,c21,ch21,rfl,rfl,rfl,ho26,ho27,ho28,ho29⟩
    refine RgH.does (DoesH.store (k:=5) (g:=g2) (off:=0) (v:=.agg #[.bool y10.1.Done,.slice A18 y10.1.Missing.length c18,.slice A19 y10.1.Gone.length c19]) (cells':=#[.bool y10.1.Done,.slice A18 y10.1.Missing.length c18,.slice A19 y10.1.Gone.length c19]) (by kernel_rfl) rfl (by kernel_rfl) (by kernel_rfl)) ?_
    rintro _ _ _ _ ⟨rfl,rfl,rfl⟩
    refine RgH.nrm ?_
    refine Zd 5 ?_
    obtain rfl:=Option.some.inj heq
    refine Up 7 [5,0,1,2,3,4] ?_
    exact RunH.doneM' 1 (vs:=[.agg #[.bool y10.1.Done,.slice A18 y10.1.Missing.length c18,.slice A19 y10.1.Gone.length c19],iv 0]) (v:=.tuple #[.agg #[.bool y10.1.Done,.slice A18 y10.1.Missing.length c18,.slice A19 y10.1.Gone.length c19],iv 0]) (by kernel_rfl) Tryz.func16 (fun w hh=>show ResAll _ _ _ [.cell 4 33,.tmp 5] _ from ⟨⟨⟨g2,0,none⟩,by kernel_rfl,trS_run _ (vs:=[.bool y10.1.Done,.slice A18 y10.1.Missing.length c18,.slice A19 y10.1.Gone.length c19]) (r:=[]) (es:=[.load ⟨g2,0,none⟩ (.bool y10.1.Done),.load ⟨g2,1,none⟩ (.slice A18 y10.1.Missing.length c18),.load ⟨g2,2,none⟩ (.slice A19 y10.1.Gone.length c19)]) (by kernel_rfl) ⟨(hh.box 0 rfl rfl),(hh.box 0 rfl rfl),(hh.box 0 rfl rfl)⟩⟩,(show lk _ _=some _ by kernel_rfl),trivial⟩) rfl (cs':=ch18::ch19::(some (ga0,.cells #[iv y10.2.Room,iv y10.2.Lease,.slice A20 y10.2.Blobs.length c20,.slice A21 y10.2.Entries.length c21] 25 (0,0)))::ch20::ch21::F) rfl ⟨A18,c18,ch18,A19,c19,ch19,A20,c20,ch20,A21,c21,ch21,rfl,rfl,ho26,ho27,ho28,ho29⟩
   ·intro hb8 heq
    refine An 4 ?_
    obtain ⟨t1,ht1,heq⟩:=bind_some heq
    have K35:∀ (H:Hp),SlOwn kBlob 45 H Aa0_2 ca0_2 a0.Blobs cha0_2→SlOwn kEntry 47 H Aa0_3 ca0_3 a0.Entries cha0_3→Rw Kd.string H F Aa1_3 a1.Digests→RunH C16 (S16 F H0 ga0 r) H0 w0 [.c [1,1,1,1,1,0,1],.c [1,1,1,1,1,1]] [(0,pg ga0 0),(3,pg g1 0),(4,pg g2 0),(103,.bool t1)] H ((some (g2,.cells #[.bool false,.slice none 0 0,.slice none 0 0] 33 (0,0)))::(some (g1,.cells #[iv a1.Kind,iv a1.At,.string a1.Digest,.slice Aa1_3 a1.Digests.length ca1_3,.string a1.Key,iv a1.Size] 28 (0,0)))::(some (ga0,.cells #[iv a0.Room,iv a0.Lease,.slice Aa0_2 a0.Blobs.length ca0_2,.slice Aa0_3 a0.Entries.length ca0_3] 25 (0,0)))::cha0_2::cha0_3::F):=by
     intro H hoa0_2 hoa0_3 hra1_3
     refine Cb heq ?_ ?_
     ·intro hb10 heq
      refine Sa 1<|Zk 1 ?_
      refine RgH.does (DoesH.store (k:=0) (g:=g2) (off:=0) (v:=.agg #[.bool false,.slice none 0 0,.slice none 0 0]) (cells':=#[.bool false,.slice none 0 0,.slice none 0 0]) (by kernel_rfl) rfl (by kernel_rfl) (by kernel_rfl)) ?_
      rintro _ _ _ _ ⟨rfl,rfl,rfl⟩
      refine RgH.nrm ?_
      refine Zd 3<|RunH.nilc ?_
      have ho30:SlOwn Kd.string 9 H none 0 ([]:List ByteArray) none:=SlOwn.nil
      refine RunH.nilc ?_
      have ho31:SlOwn Kd.string 9 H none 0 ([]:List ByteArray) none:=SlOwn.nil
      obtain rfl:=Option.some.inj heq
      refine Up 4 [2,1,0] ?_
      exact RunH.doneM' 1 (vs:=[.agg #[.bool false,.slice none 0 0,.slice none 0 0],iv 0]) (v:=.tuple #[.agg #[.bool false,.slice none 0 0,.slice none 0 0],iv 0]) (by kernel_rfl) Tryz.func16 (fun w hh=>show ResAll _ _ _ [.cell 4 33,.tmp 5] _ from ⟨⟨⟨g2,0,none⟩,by kernel_rfl,trS_run _ (vs:=[.bool false,.slice none 0 0,.slice none 0 0]) (r:=[]) (es:=[.load ⟨g2,0,none⟩ (.bool false),.load ⟨g2,1,none⟩ (.slice none 0 0),.load ⟨g2,2,none⟩ (.slice none 0 0)]) (by kernel_rfl) ⟨(hh.box 0 rfl rfl),(hh.box 0 rfl rfl),(hh.box 0 rfl rfl)⟩⟩,(show lk _ _=some _ by kernel_rfl),trivial⟩) rfl (cs':=none::none::(some (ga0,.cells #[iv a0.Room,iv a0.Lease,.slice Aa0_2 a0.Blobs.length ca0_2,.slice Aa0_3 a0.Entries.length ca0_3] 25 (0,0)))::cha0_2::cha0_3::F) rfl ⟨none,0,none,none,0,none,Aa0_2,ca0_2,cha0_2,Aa0_3,ca0_3,cha0_3,rfl,rfl,ho30,ho31,hoa0_2,hoa0_3⟩
     ·intro hb10 heq
      refine Sa 2<|Zv 3 [bx 1 2] ?_
      refine RgH.does (DoesH.new (d:=108) (v:=fun g=>.slice (some ⟨g,0,none⟩) 1 1) (o:=fun g=>.cells #[.string a1.Digest] 9 (0,0)) (fun g=>by kernel_rfl)) ?_
      rintro _ _ _ _ ⟨g4,rfl,rfl,rfl⟩
      have ho32:SlOwn Kd.string 9 H (some ⟨g4,0,none⟩) 1 ([a1.Digest]:List ByteArray) (some (g4,.cells #[.string a1.Digest] 9 (0,0))):=SlOwn.lit (xs:=([a1.Digest]:List ByteArray)) (by kernel_rfl) (Nat.le_of_ble_eq_true (by kernel_rfl)) (Kd.Rep.scalars rfl)
      refine Ug 6 [3,4,5,0,1,2] ?_
      obtain ⟨y12,hy12,heq⟩:=bind_some heq
      refine RgH.does (cal 109 (cache_drop_3_c hy12 hoa0_2 rfl hoa0_3 rfl (ho32.rw (.head _)) ho32.cap rfl)) ?_
      rintro _ _ _ _ ⟨_,rfl,A22,c22,ch22,A23,c23,ch23,rfl,rfl,rfl,ho33,ho34⟩
      refine Dn<|Sa 1<|Zv 2 [bx 5 2] ?_
      refine RgH.does (DoesH.new (d:=112) (v:=fun g=>.slice (some ⟨g,0,none⟩) 1 1) (o:=fun g=>.cells #[.string a1.Digest] 9 (0,0)) (fun g=>by kernel_rfl)) ?_
      rintro _ _ _ _ ⟨g5,rfl,rfl,rfl⟩
      have ho35:SlOwn Kd.string 9 H (some ⟨g5,0,none⟩) 1 ([a1.Digest]:List ByteArray) (some (g5,.cells #[.string a1.Digest] 9 (0,0))):=SlOwn.lit (xs:=([a1.Digest]:List ByteArray)) (by kernel_rfl) (Nat.le_of_ble_eq_true (by kernel_rfl)) (Kd.Rep.scalars rfl)
      refine Zk 4 ?_
      refine RgH.does (DoesH.store (k:=5) (g:=g2) (off:=0) (v:=.agg #[.bool true,.slice none 0 0,.slice (some ⟨g5,0,none⟩) 1 1]) (cells':=#[.bool true,.slice none 0 0,.slice (some ⟨g5,0,none⟩) 1 1]) (by kernel_rfl) rfl (by kernel_rfl) (by kernel_rfl)) ?_
      rintro _ _ _ _ ⟨rfl,rfl,rfl⟩
      refine RgH.nrm ?_
      refine Zd 6<|RunH.nilc ?_
      have ho36:SlOwn Kd.string 9 H none 0 ([]:List ByteArray) none:=SlOwn.nil
      obtain rfl:=Option.some.inj heq
      refine Up 8 [6,0,1,2,3,4] ?_
      exact RunH.doneM' 1 (vs:=[.agg #[.bool true,.slice none 0 0,.slice (some ⟨g5,0,none⟩) 1 1],iv 0]) (v:=.tuple #[.agg #[.bool true,.slice none 0 0,.slice (some ⟨g5,0,none⟩) 1 1],iv 0]) (by kernel_rfl) Tryz.func16 (fun w hh=>show ResAll _ _ _ [.cell 4 33,.tmp 5] _ from ⟨⟨⟨g2,0,none⟩,by kernel_rfl,trS_run _ (vs:=[.bool true,.slice none 0 0,.slice (some ⟨g5,0,none⟩) 1 1]) (r:=[]) (es:=[.load ⟨g2,0,none⟩ (.bool true),.load ⟨g2,1,none⟩ (.slice none 0 0),.load ⟨g2,2,none⟩ (.slice (some ⟨g5,0,none⟩) 1 1)]) (by kernel_rfl) ⟨(hh.box 0 rfl rfl),(hh.box 0 rfl rfl),(hh.box 0 rfl rfl)⟩⟩,(show lk _ _=some _ by kernel_rfl),trivial⟩) rfl (cs':=none::(some (g5,.cells #[.string a1.Digest] 9 (0,0)))::(some (ga0,.cells #[iv y12.Room,iv y12.Lease,.slice A22 y12.Blobs.length c22,.slice A23 y12.Entries.length c23] 25 (0,0)))::ch22::ch23::F) rfl ⟨none,0,none,some ⟨g5,0,none⟩,1,(some (g5,.cells #[.string a1.Digest] 9 (0,0))),A22,c22,ch22,A23,c23,ch23,rfl,rfl,ho36,ho35,ho33,ho34⟩
    replace heq:=ht1
    refine Sd 0 14 [] [3,3,3,3,3,3,3,3,3,3,3,3,0,3]<|Zr [0,1,2] 11 [] (Pk 5 [0,1,2,3,4]) (Pk 5 [0,1,2,3,4]) ?_
    rcases bool_cases (!y3.2) with hb9 | hb9
    ·replace heq:=bif_true hb9 heq
     refine Zu 92 (congrArg Value.bool hb9)<|Zr [3,4,5,6,7,8,9,10,11,12,13] 0 [] (Pk 5 [0,1,2,3,4]) (Pk 5 [0,1,2,3,4]) ?_
     obtain rfl:=Option.some.inj heq
     refine DrH.done (by kernel_rfl) ?_
     exact Gt 0 [] (K35 _ hoa0_2 hoa0_3 hra1_3)
    ·replace heq:=bif_false hb9 heq
     refine Zu 92 (congrArg Value.bool hb9) ?_
     obtain ⟨x1,hx1,heq⟩:=bind_some heq
     obtain ⟨ha1,cs1,hK1,hcc1⟩:=hoa0_2.get hx1
     obtain ⟨rfl⟩:=kBlob_open hK1
     refine Zr [3,4,5,6,7,8,9,10,11] 2 ([bx 2 2,nx ha1 hx1]++els hcc1 3++[bx 1 1]) (Pk 5 [0,1,2,3,4]) (Pk 5 [0,1,2,3,4]) ?_
     obtain ⟨y11,hy11,heq⟩:=bind_some heq
     refine Dz 12 (cal 102 (cache_held_c hy11 )) ?_
     rintro _ _ _ _ ⟨_,rfl,rfl,rfl,rfl⟩
     refine ⟨fun _ w hh=>⟨fun _=>(Pk 5 [0,1,2,3,4]) w hh,fun _=>(Pk 5 [0,1,2,3,4]) w hh,(fun h=>by cases h)⟩,?_⟩
     refine Zr [13] 0 [] (Pk 5 [0,1,2,3,4]) (Pk 5 [0,1,2,3,4]) ?_
     obtain rfl:=Option.some.inj heq
     refine DrH.done (by kernel_rfl) ?_
     exact Gt 0 [] (K35 _ hoa0_2 hoa0_3 hra1_3)
theorem cache_do_c {ga0:Nat} {a0:Cache} {Aa0_2:Option Addr} {na0_2 ca0_2:Nat} {cha0_2:Ch} {Aa0_3:Option Addr} {na0_3 ca0_3:Nat} {cha0_3:Ch} {a1:CacheEvent} {Aa1_3:Option Addr} {na1_3 ca1_3:Nat} {r:CacheAnswer × Int × Cache} (heq:cache_do.f a0 a1=some r) (hoa0_2:SlOwn kBlob 45 H0 Aa0_2 ca0_2 a0.Blobs cha0_2) (hna0_2:na0_2=a0.Blobs.length) (hoa0_3:SlOwn kEntry 47 H0 Aa0_3 ca0_3 a0.Entries cha0_3) (hna0_3:na0_3=a0.Entries.length) (hra1_3:Rw Kd.string H0 F Aa1_3 a1.Digests) (hca1_3:na1_3≤ca1_3) (hna1_3:na1_3=a1.Digests.length):CallsH Tryz.prog 16 #[.pointer (some ⟨ga0,0,none⟩),.agg #[iv a1.Kind,iv a1.At,.string a1.Digest,.slice Aa1_3 na1_3 ca1_3,.string a1.Key,iv a1.Size]] H0 w0 ((some (ga0,.cells #[iv a0.Room,iv a0.Lease,.slice Aa0_2 na0_2 ca0_2,.slice Aa0_3 na0_3 ca0_3] 25 (0,0)))::cha0_2::cha0_3::F) (S16 F H0 ga0 r):=by
 refine Co C16 Tryz.func16 Tryz.ntmps16 ?_
 subst hna0_2
 subst hna0_3
 subst hna1_3
 unfold cache_do.f at heq
 suffices key:∀ (H:Hp),SlOwn kBlob 45 H Aa0_2 ca0_2 a0.Blobs cha0_2→SlOwn kEntry 47 H Aa0_3 ca0_3 a0.Entries cha0_3→Rw Kd.string H F Aa1_3 a1.Digests→RunH C16 (S16 F H0 ga0 r) H0 w0 [.c []] (argL 0 [.pointer (some ⟨ga0,0,none⟩),.agg #[iv a1.Kind,iv a1.At,.string a1.Digest,.slice Aa1_3 (a1.Digests.length) ca1_3,.string a1.Key,iv a1.Size]]) H ((some (ga0,.cells #[iv a0.Room,iv a0.Lease,.slice Aa0_2 (a0.Blobs.length) ca0_2,.slice Aa0_3 (a0.Entries.length) ca0_3] 25 (0,0)))::cha0_2::cha0_3::F) from key H0 hoa0_2 hoa0_3 hra1_3
 intro H hoa0_2 hoa0_3 hra1_3
 refine Sa 1 ?_
 refine RgH.does (DoesH.new (d:=3) (v:=fun g=>.pointer (some ⟨g,0,none⟩)) (o:=fun g=>.cells #[iv a1.Kind,iv a1.At,.string a1.Digest,.slice Aa1_3 a1.Digests.length ca1_3,.string a1.Key,iv a1.Size] 28 (0,0)) (fun g=>by kernel_rfl)) ?_
 rintro _ _ _ _ ⟨g1,rfl,rfl,rfl⟩
 refine RgH.does (DoesH.new (d:=4) (v:=fun g=>.pointer (some ⟨g,0,none⟩)) (o:=fun g=>.cells #[.bool false,.slice none 0 0,.slice none 0 0] 33 (0,0)) (fun g=>by kernel_rfl)) ?_
 rintro _ _ _ _ ⟨g2,rfl,rfl,rfl⟩
 refine Zd 3<|Sa 2<|Zv 1 (bxs 1) ?_
 obtain ⟨y1,hy1,heq⟩:=bind_some heq
 refine RgH.does (cal 11 (cache_checkEvent_c hy1 (hra1_3.wk (fun _ h=>(.tail _ (.tail _ (.tail _ (.tail _ (.tail _ h))))))) hca1_3 rfl)) ?_
 rintro _ _ _ _ ⟨_,rfl,rfl,rfl,rfl⟩
 refine Zd 3<|Sa 1<|Zd 2 ?_
 refine Cb heq ?_ ?_
 ·intro hb1 heq
  refine Sa 1<|Zk 2 ?_
  refine RgH.does (DoesH.store (k:=0) (g:=g2) (off:=0) (v:=.agg #[.bool false,.slice none 0 0,.slice none 0 0]) (cells':=#[.bool false,.slice none 0 0,.slice none 0 0]) (by kernel_rfl) rfl (by kernel_rfl) (by kernel_rfl)) ?_
  rintro _ _ _ _ ⟨rfl,rfl,rfl⟩
  refine RgH.nrm ?_
  refine Zd 4<|RunH.nilc ?_
  have ho1:SlOwn Kd.string 9 H none 0 ([]:List ByteArray) none:=SlOwn.nil
  refine RunH.nilc ?_
  have ho2:SlOwn Kd.string 9 H none 0 ([]:List ByteArray) none:=SlOwn.nil
  obtain rfl:=Option.some.inj heq
  refine Up 4 [2,1,0] ?_
  exact RunH.doneM' 1 (vs:=[.agg #[.bool false,.slice none 0 0,.slice none 0 0],iv y1]) (v:=.tuple #[.agg #[.bool false,.slice none 0 0,.slice none 0 0],iv y1]) (by kernel_rfl) Tryz.func16 (fun w hh=>show ResAll _ _ _ [.cell 4 33,.tmp 5] _ from ⟨⟨⟨g2,0,none⟩,by kernel_rfl,trS_run _ (vs:=[.bool false,.slice none 0 0,.slice none 0 0]) (r:=[]) (es:=[.load ⟨g2,0,none⟩ (.bool false),.load ⟨g2,1,none⟩ (.slice none 0 0),.load ⟨g2,2,none⟩ (.slice none 0 0)]) (by kernel_rfl) ⟨(hh.box 0 rfl rfl),(hh.box 0 rfl rfl),(hh.box 0 rfl rfl)⟩⟩,(show lk _ _=some _ by kernel_rfl),trivial⟩) rfl (cs':=none::none::(some (ga0,.cells #[iv a0.Room,iv a0.Lease,.slice Aa0_2 a0.Blobs.length ca0_2,.slice Aa0_3 a0.Entries.length ca0_3] 25 (0,0)))::cha0_2::cha0_3::F) rfl ⟨none,0,none,none,0,none,Aa0_2,ca0_2,cha0_2,Aa0_3,ca0_3,cha0_3,rfl,rfl,ho1,ho2,hoa0_2,hoa0_3⟩
 ·intro hb1 heq
  refine An 3<|Sd 0 7 [] [3,3,3,3,3,0,3]<|Zr [0,1,2,3,4] 2 ([bx 1 1]++bxs 2) (Pk 5 [0,1,2,3,4]) (Pk 5 [0,1,2,3,4]) ?_
  obtain ⟨y2,hy2,heq⟩:=bind_some heq
  refine Dz 5 (cal 21 (cache_newest_c hy2 (hoa0_2.rw (.tail _ (.tail _ (.tail _ (.head _))))) hoa0_2.cap rfl (hoa0_3.rw (.tail _ (.tail _ (.tail _ (.tail _ (.head _)))))) hoa0_3.cap rfl)) ?_
  rintro _ _ _ _ ⟨_,rfl,rfl,rfl,rfl⟩
  refine ⟨fun _ w hh=>⟨fun _=>(Pk 5 [0,1,2,3,4]) w hh,fun _=>(Pk 5 [0,1,2,3,4]) w hh,(fun h=>by cases h)⟩,?_⟩
  refine Zr [6] 0 [] (Pk 5 [0,1,2,3,4]) (Pk 5 [0,1,2,3,4]) ?_
  refine DrH.done (by kernel_rfl) ?_
  refine Cb heq ?_ ?_
  ·intro hb2 heq
   refine Sa 1<|Zk 1 ?_
   refine RgH.does (DoesH.store (k:=0) (g:=g2) (off:=0) (v:=.agg #[.bool false,.slice none 0 0,.slice none 0 0]) (cells':=#[.bool false,.slice none 0 0,.slice none 0 0]) (by kernel_rfl) rfl (by kernel_rfl) (by kernel_rfl)) ?_
   rintro _ _ _ _ ⟨rfl,rfl,rfl⟩
   refine RgH.nrm ?_
   refine Zd 3<|RunH.nilc ?_
   have ho3:SlOwn Kd.string 9 H none 0 ([]:List ByteArray) none:=SlOwn.nil
   refine RunH.nilc ?_
   have ho4:SlOwn Kd.string 9 H none 0 ([]:List ByteArray) none:=SlOwn.nil
   obtain rfl:=Option.some.inj heq
   refine Up 4 [2,1,0] ?_
   exact RunH.doneM' 1 (vs:=[.agg #[.bool false,.slice none 0 0,.slice none 0 0],iv 11]) (v:=.tuple #[.agg #[.bool false,.slice none 0 0,.slice none 0 0],iv 11]) (by kernel_rfl) Tryz.func16 (fun w hh=>show ResAll _ _ _ [.cell 4 33,.tmp 5] _ from ⟨⟨⟨g2,0,none⟩,by kernel_rfl,trS_run _ (vs:=[.bool false,.slice none 0 0,.slice none 0 0]) (r:=[]) (es:=[.load ⟨g2,0,none⟩ (.bool false),.load ⟨g2,1,none⟩ (.slice none 0 0),.load ⟨g2,2,none⟩ (.slice none 0 0)]) (by kernel_rfl) ⟨(hh.box 0 rfl rfl),(hh.box 0 rfl rfl),(hh.box 0 rfl rfl)⟩⟩,(show lk _ _=some _ by kernel_rfl),trivial⟩) rfl (cs':=none::none::(some (ga0,.cells #[iv a0.Room,iv a0.Lease,.slice Aa0_2 a0.Blobs.length ca0_2,.slice Aa0_3 a0.Entries.length ca0_3] 25 (0,0)))::cha0_2::cha0_3::F) rfl ⟨none,0,none,none,0,none,Aa0_2,ca0_2,cha0_2,Aa0_3,ca0_3,cha0_3,rfl,rfl,ho3,ho4,hoa0_2,hoa0_3⟩
  ·intro hb2 heq
   refine An 2<|Sd 0 11 [] [3,3,3,3,3,0,3,3,3,3,3]<|Zr [0,1,2,3,4] 6 (bxs 2++[bx 1 2]) (Pk 5 [0,1,2,3,4]) (Pk 5 [0,1,2,3,4]) ?_
   obtain ⟨y3,hy3,heq⟩:=bind_some heq
   refine Dz 5 (cal 30 (cache_find_c hy3 (hoa0_2.rw (.tail _ (.tail _ (.tail _ (.head _))))) hoa0_2.cap rfl (hoa0_3.rw (.tail _ (.tail _ (.tail _ (.tail _ (.head _)))))) hoa0_3.cap rfl)) ?_
   rintro _ _ _ _ ⟨_,rfl,rfl,rfl,rfl⟩
   refine ⟨fun _ w hh=>⟨fun _=>(Pk 5 [0,1,2,3,4]) w hh,fun _=>(Pk 5 [0,1,2,3,4]) w hh,(fun h=>by cases h)⟩,?_⟩
   refine Zr [6,7,8,9,10] 0 [] (Pk 5 [0,1,2,3,4]) (Pk 5 [0,1,2,3,4]) ?_
   refine DrH.done (by kernel_rfl) ?_
   refine Sa 2<|Zw 2 [bx 1 0]<|Sa 2<|Zd 2 ?_
   refine Cb heq ?_ ?_
   ·intro hb3 heq
    refine Sa 1<|Zv 2 (bxs 1)<|Ug 5 [2,3,4,0,1] ?_
    obtain ⟨y4,hy4,heq⟩:=bind_some heq
    refine RgH.does (cal 39 (cache_put_2_c hy4 hoa0_2 rfl hoa0_3 rfl (hra1_3.wk (fun _ h=>(.tail _ (.tail _ h)))) hca1_3 rfl)) ?_
    rintro _ _ _ _ ⟨_,rfl,A1,c1,ch1,A2,c2,ch2,A3,c3,ch3,A4,c4,ch4,rfl,rfl,rfl,ho5,ho6,ho7,ho8⟩
    refine Zk 5 ?_
    refine RgH.does (DoesH.store (k:=5) (g:=g2) (off:=0) (v:=.agg #[.bool y4.1.Done,.slice A1 y4.1.Missing.length c1,.slice A2 y4.1.Gone.length c2]) (cells':=#[.bool y4.1.Done,.slice A1 y4.1.Missing.length c1,.slice A2 y4.1.Gone.length c2]) (by kernel_rfl) rfl (by kernel_rfl) (by kernel_rfl)) ?_
    rintro _ _ _ _ ⟨rfl,rfl,rfl⟩
    refine RgH.nrm ?_
    refine Zd 7 ?_
    obtain rfl:=Option.some.inj heq
    refine Up 7 [5,0,1,2,3,4] ?_
    exact RunH.doneM' 1 (vs:=[.agg #[.bool y4.1.Done,.slice A1 y4.1.Missing.length c1,.slice A2 y4.1.Gone.length c2],iv y4.2.1]) (v:=.tuple #[.agg #[.bool y4.1.Done,.slice A1 y4.1.Missing.length c1,.slice A2 y4.1.Gone.length c2],iv y4.2.1]) (by kernel_rfl) Tryz.func16 (fun w hh=>show ResAll _ _ _ [.cell 4 33,.tmp 5] _ from ⟨⟨⟨g2,0,none⟩,by kernel_rfl,trS_run _ (vs:=[.bool y4.1.Done,.slice A1 y4.1.Missing.length c1,.slice A2 y4.1.Gone.length c2]) (r:=[]) (es:=[.load ⟨g2,0,none⟩ (.bool y4.1.Done),.load ⟨g2,1,none⟩ (.slice A1 y4.1.Missing.length c1),.load ⟨g2,2,none⟩ (.slice A2 y4.1.Gone.length c2)]) (by kernel_rfl) ⟨(hh.box 0 rfl rfl),(hh.box 0 rfl rfl),(hh.box 0 rfl rfl)⟩⟩,(show lk _ _=some _ by kernel_rfl),trivial⟩) rfl (cs':=ch1::ch2::(some (ga0,.cells #[iv y4.2.2.Room,iv y4.2.2.Lease,.slice A3 y4.2.2.Blobs.length c3,.slice A4 y4.2.2.Entries.length c4] 25 (0,0)))::ch3::ch4::F) rfl ⟨A1,c1,ch1,A2,c2,ch2,A3,c3,ch3,A4,c4,ch4,rfl,rfl,ho5,ho6,ho7,ho8⟩
   ·intro hb3 heq
    refine Sa 1<|Zd 2 ?_
    refine Cb heq ?_ ?_
    ·intro hb4 heq
     refine Sa 1<|Zv 3 [bx 1 2] ?_
     refine RgH.does (DoesH.new (d:=47) (v:=fun g=>.slice (some ⟨g,0,none⟩) 1 1) (o:=fun g=>.cells #[.string a1.Digest] 9 (0,0)) (fun g=>by kernel_rfl)) ?_
     rintro _ _ _ _ ⟨g3,rfl,rfl,rfl⟩
     have ho9:SlOwn Kd.string 9 H (some ⟨g3,0,none⟩) 1 ([a1.Digest]:List ByteArray) (some (g3,.cells #[.string a1.Digest] 9 (0,0))):=SlOwn.lit (xs:=([a1.Digest]:List ByteArray)) (by kernel_rfl) (Nat.le_of_ble_eq_true (by kernel_rfl)) (Kd.Rep.scalars rfl)
     refine Zv 6 [bx 2 1]<|Ug 6 [3,4,5,0,1,2] ?_
     obtain ⟨y5,hy5,heq⟩:=bind_some heq
     refine RgH.does (cal 50 (cache_touch_3_c hy5 hoa0_2 rfl hoa0_3 rfl (ho9.rw (.head _)) ho9.cap rfl)) ?_
     rintro _ _ _ _ ⟨_,rfl,A5,c5,ch5,A6,c6,ch6,rfl,rfl,rfl,ho10,ho11⟩
     refine Dn<|Sa 1<|Zk 2 ?_
     refine RgH.does (DoesH.store (k:=4) (g:=g2) (off:=0) (v:=.agg #[.bool y3.2,.slice none 0 0,.slice none 0 0]) (cells':=#[.bool y3.2,.slice none 0 0,.slice none 0 0]) (by kernel_rfl) rfl (by kernel_rfl) (by kernel_rfl)) ?_
     rintro _ _ _ _ ⟨rfl,rfl,rfl⟩
     refine RgH.nrm ?_
     refine Zd 4<|RunH.nilc ?_
     have ho12:SlOwn Kd.string 9 H none 0 ([]:List ByteArray) none:=SlOwn.nil
     refine RunH.nilc ?_
     have ho13:SlOwn Kd.string 9 H none 0 ([]:List ByteArray) none:=SlOwn.nil
     obtain rfl:=Option.some.inj heq
     refine Up 8 [6,1,0,2,3,4] ?_
     exact RunH.doneM' 1 (vs:=[.agg #[.bool y3.2,.slice none 0 0,.slice none 0 0],iv 0]) (v:=.tuple #[.agg #[.bool y3.2,.slice none 0 0,.slice none 0 0],iv 0]) (by kernel_rfl) Tryz.func16 (fun w hh=>show ResAll _ _ _ [.cell 4 33,.tmp 5] _ from ⟨⟨⟨g2,0,none⟩,by kernel_rfl,trS_run _ (vs:=[.bool y3.2,.slice none 0 0,.slice none 0 0]) (r:=[]) (es:=[.load ⟨g2,0,none⟩ (.bool y3.2),.load ⟨g2,1,none⟩ (.slice none 0 0),.load ⟨g2,2,none⟩ (.slice none 0 0)]) (by kernel_rfl) ⟨(hh.box 0 rfl rfl),(hh.box 0 rfl rfl),(hh.box 0 rfl rfl)⟩⟩,(show lk _ _=some _ by kernel_rfl),trivial⟩) rfl (cs':=none::none::(some (ga0,.cells #[iv y5.Room,iv y5.Lease,.slice A5 y5.Blobs.length c5,.slice A6 y5.Entries.length c6] 25 (0,0)))::ch5::ch6::F) rfl ⟨none,0,none,none,0,none,A5,c5,ch5,A6,c6,ch6,rfl,rfl,ho12,ho13,ho10,ho11⟩
    ·intro hb4 heq
     refine Sa 1<|Zd 2 ?_
     refine Cb heq ?_ ?_
     ·intro hb5 heq
      refine Sa 1<|Zv 5 [bx 1 3,bx 1 1]<|Ug 5 [2,3,4,0,1] ?_
      obtain ⟨y6,hy6,heq⟩:=bind_some heq
      refine RgH.does (cal 60 (cache_touch_3_c hy6 hoa0_2 rfl hoa0_3 rfl (hra1_3.wk (fun _ h=>(.tail _ (.tail _ h)))) hca1_3 rfl)) ?_
      rintro _ _ _ _ ⟨_,rfl,A7,c7,ch7,A8,c8,ch8,rfl,rfl,rfl,ho14,ho15⟩
      refine Dn<|An 1<|Sd 0 7 [] [3,3,3,3,3,0,3]<|Zr [0,1,2,3,4] 2 (bxs 0++[bx 4 3]) (Pk 5 [0,1,2,3,4]) (Pk 5 [0,1,2,3,4]) ?_
      obtain ⟨y7,hy7,heq⟩:=bind_some heq
      refine Dz 5 (cal 66 (cache_missing_c hy7 (ho14.rw (.tail _ (.head _))) ho14.cap rfl (ho15.rw (.tail _ (.tail _ (.head _)))) ho15.cap rfl (hra1_3.wk (fun _ h=>(.tail _ (.tail _ (.tail _ (.tail _ (.tail _ h))))))) hca1_3 rfl)) ?_
      rintro _ _ _ _ ⟨_,rfl,A9,c9,ch9,rfl,rfl,rfl,ho16⟩
      refine ⟨fun _ w hh=>⟨fun _=>(Pk 6 [1,2,3,4,5]) w hh,fun _=>(Pk 6 [1,2,3,4,5]) w hh,(fun h=>by cases h)⟩,?_⟩
      refine Zr [6] 0 [] (Pk 6 [1,2,3,4,5]) (Pk 5 [0,1,2,3,4]) ?_
      refine DrH.done (by kernel_rfl) ?_
      refine Sa 1<|Zk 5 ?_
      refine RgH.does (DoesH.store (k:=4) (g:=g2) (off:=0) (v:=.agg #[.bool ((y7.length:Int) == 0),.slice A9 y7.length c9,.slice none 0 0]) (cells':=#[.bool ((y7.length:Int) == 0),.slice A9 y7.length c9,.slice none 0 0]) (by kernel_rfl) rfl (by kernel_rfl) (by kernel_rfl)) ?_
      rintro _ _ _ _ ⟨rfl,rfl,rfl⟩
      refine RgH.nrm ?_
      refine Zd 7<|RunH.nilc ?_
      have ho17:SlOwn Kd.string 9 H none 0 ([]:List ByteArray) none:=SlOwn.nil
      obtain rfl:=Option.some.inj heq
      refine Up 7 [5,1,0,2,3,4] ?_
      exact RunH.doneM' 1 (vs:=[.agg #[.bool ((y7.length:Int) == 0),.slice A9 y7.length c9,.slice none 0 0],iv 0]) (v:=.tuple #[.agg #[.bool ((y7.length:Int) == 0),.slice A9 y7.length c9,.slice none 0 0],iv 0]) (by kernel_rfl) Tryz.func16 (fun w hh=>show ResAll _ _ _ [.cell 4 33,.tmp 5] _ from ⟨⟨⟨g2,0,none⟩,by kernel_rfl,trS_run _ (vs:=[.bool ((y7.length:Int) == 0),.slice A9 y7.length c9,.slice none 0 0]) (r:=[]) (es:=[.load ⟨g2,0,none⟩ (.bool ((y7.length:Int) == 0)),.load ⟨g2,1,none⟩ (.slice A9 y7.length c9),.load ⟨g2,2,none⟩ (.slice none 0 0)]) (by kernel_rfl) ⟨(hh.box 0 rfl rfl),(hh.box 0 rfl rfl),(hh.box 0 rfl rfl)⟩⟩,(show lk _ _=some _ by kernel_rfl),trivial⟩) rfl (cs':=ch9::none::(some (ga0,.cells #[iv y6.Room,iv y6.Lease,.slice A7 y6.Blobs.length c7,.slice A8 y6.Entries.length c8] 25 (0,0)))::ch7::ch8::F) rfl ⟨A9,c9,ch9,none,0,none,A7,c7,ch7,A8,c8,ch8,rfl,rfl,ho16,ho17,ho14,ho15⟩
     ·intro hb5 heq
      refine Sa 2<|Zd 2 ?_
      refine Cb heq ?_ ?_
      ·intro hb11 heq
       refine An 1 ?_
       exact Gt 0 [] ((cache_do.j1_c) _ _ a0 _ _ _ _ _ _ a1 _ _ _ _ y3 (a1.Kind == 4) hoa0_2 hoa0_3 hra1_3 hca1_3 heq)
      ·intro hb11 heq
       refine Sa 0<|Zd 2 ?_
       exact Gt 0 [] ((cache_do.j1_c) _ _ a0 _ _ _ _ _ _ a1 _ _ _ _ y3 (a1.Kind == 5) hoa0_2 hoa0_3 hra1_3 hca1_3 heq)
noncomputable def C6:Ctx:={ P:=Tryz.prog,f:=6,N:=31,c:=bodyOf Tryz.f6 }
def S6 (F:List Ch) (H0:Hp) (r:Cache × CacheAnswer × Int) (v:Value) (H:Hp) (cs:List Ch):Prop:=∃ (A0_2:Option Addr) (c0_2:Nat) (ch0_2:Ch) (A0_3:Option Addr) (c0_3:Nat) (ch0_3:Ch) (A1_1:Option Addr) (c1_1:Nat) (ch1_1:Ch) (A1_2:Option Addr) (c1_2:Nat) (ch1_2:Ch),v=.tuple #[.agg #[iv r.1.Room,iv r.1.Lease,.slice A0_2 r.1.Blobs.length c0_2,.slice A0_3 r.1.Entries.length c0_3],.agg #[.bool r.2.1.Done,.slice A1_1 r.2.1.Missing.length c1_1,.slice A1_2 r.2.1.Gone.length c1_2],iv r.2.2]∧ch0_2::ch0_3::ch1_1::ch1_2::F=cs∧SlOwn kBlob 45 H A0_2 c0_2 r.1.Blobs ch0_2∧SlOwn kEntry 47 H A0_3 c0_3 r.1.Entries ch0_3∧SlOwn Kd.string 9 H A1_1 c1_1 r.2.1.Missing ch1_1∧SlOwn Kd.string 9 H A1_2 c1_2 r.2.1.Gone ch1_2
theorem cache_Do_c {a0:Cache} {Aa0_2:Option Addr} {na0_2 ca0_2:Nat} {Aa0_3:Option Addr} {na0_3 ca0_3:Nat} {a1:CacheEvent} {Aa1_3:Option Addr} {na1_3 ca1_3:Nat} {r:Cache × CacheAnswer × Int} (heq:cache_Do.f a0 a1=some r) (hra0_2:Rw kBlob H0 F Aa0_2 a0.Blobs) (hca0_2:na0_2≤ca0_2) (hna0_2:na0_2=a0.Blobs.length) (hra0_3:Rw kEntry H0 F Aa0_3 a0.Entries) (hca0_3:na0_3≤ca0_3) (hna0_3:na0_3=a0.Entries.length) (hra1_3:Rw Kd.string H0 F Aa1_3 a1.Digests) (hca1_3:na1_3≤ca1_3) (hna1_3:na1_3=a1.Digests.length):CallsH Tryz.prog 6 #[.agg #[iv a0.Room,iv a0.Lease,.slice Aa0_2 na0_2 ca0_2,.slice Aa0_3 na0_3 ca0_3],.agg #[iv a1.Kind,iv a1.At,.string a1.Digest,.slice Aa1_3 na1_3 ca1_3,.string a1.Key,iv a1.Size]] H0 w0 (F) (S6 F H0 r):=by
 refine Co C6 Tryz.func6 Tryz.ntmps6 ?_
 subst hna0_2
 subst hna0_3
 subst hna1_3
 unfold cache_Do.f at heq
 suffices key:∀ (H:Hp),Rw kBlob H F Aa0_2 a0.Blobs→Rw kEntry H F Aa0_3 a0.Entries→Rw Kd.string H F Aa1_3 a1.Digests→RunH C6 (S6 F H0 r) H0 w0 [.c []] (argL 0 [.agg #[iv a0.Room,iv a0.Lease,.slice Aa0_2 (a0.Blobs.length) ca0_2,.slice Aa0_3 (a0.Entries.length) ca0_3],.agg #[iv a1.Kind,iv a1.At,.string a1.Digest,.slice Aa1_3 (a1.Digests.length) ca1_3,.string a1.Key,iv a1.Size]]) H (F) from key H0 hra0_2 hra0_3 hra1_3
 intro H hra0_2 hra0_3 hra1_3
 refine Sa 1 ?_
 refine RgH.does (DoesH.new (d:=2) (v:=fun g=>.pointer (some ⟨g,0,none⟩)) (o:=fun g=>.cells #[iv a0.Room,iv a0.Lease,.slice Aa0_2 a0.Blobs.length ca0_2,.slice Aa0_3 a0.Entries.length ca0_3] 25 (0,0)) (fun g=>by kernel_rfl)) ?_
 rintro _ _ _ _ ⟨g1,rfl,rfl,rfl⟩
 refine RgH.does (DoesH.new (d:=3) (v:=fun g=>.pointer (some ⟨g,0,none⟩)) (o:=fun g=>.cells #[iv a1.Kind,iv a1.At,.string a1.Digest,.slice Aa1_3 a1.Digests.length ca1_3,.string a1.Key,iv a1.Size] 28 (0,0)) (fun g=>by kernel_rfl)) ?_
 rintro _ _ _ _ ⟨g2,rfl,rfl,rfl⟩
 refine RgH.does (DoesH.new (d:=4) (v:=fun g=>.pointer (some ⟨g,0,none⟩)) (o:=fun g=>.cells #[iv 0,iv 0,.slice none 0 0,.slice none 0 0] 25 (0,0)) (fun g=>by kernel_rfl)) ?_
 rintro _ _ _ _ ⟨g3,rfl,rfl,rfl⟩
 refine RgH.does (DoesH.new (d:=5) (v:=fun g=>.pointer (some ⟨g,0,none⟩)) (o:=fun g=>.cells #[.bool false,.slice none 0 0,.slice none 0 0] 33 (0,0)) (fun g=>by kernel_rfl)) ?_
 rintro _ _ _ _ ⟨g4,rfl,rfl,rfl⟩
 refine Zd 5<|Sa 2<|Zv 1 (bxs 3) ?_
 obtain ⟨y1,hy1,heq⟩:=bind_some heq
 refine RgH.does (cal 11 (cache_CheckCache_c hy1 (hra0_2.wk (fun _ h=>(.tail _ (.tail _ (.tail _ (.tail _ h)))))) hca0_2 rfl (hra0_3.wk (fun _ h=>(.tail _ (.tail _ (.tail _ (.tail _ h)))))) hca0_3 rfl)) ?_
 rintro _ _ _ _ ⟨_,rfl,rfl,rfl,rfl⟩
 refine Zd 3<|Sa 1<|Zd 2 ?_
 refine Cb heq ?_ ?_
 ·intro hb1 heq
  refine Sa 1<|Zk 3 ?_
  refine RgH.does (DoesH.store (k:=1) (g:=g3) (off:=0) (v:=.agg #[iv 0,iv 0,.slice none 0 0,.slice none 0 0]) (cells':=#[iv 0,iv 0,.slice none 0 0,.slice none 0 0]) (by kernel_rfl) rfl (by kernel_rfl) (by kernel_rfl)) ?_
  rintro _ _ _ _ ⟨rfl,rfl,rfl⟩
  refine RgH.nrm ?_
  refine RgH.does (DoesH.store (k:=0) (g:=g4) (off:=0) (v:=.agg #[.bool false,.slice none 0 0,.slice none 0 0]) (cells':=#[.bool false,.slice none 0 0,.slice none 0 0]) (by kernel_rfl) rfl (by kernel_rfl) (by kernel_rfl)) ?_
  rintro _ _ _ _ ⟨rfl,rfl,rfl⟩
  refine RgH.nrm ?_
  refine Zd 6<|RunH.nilc ?_
  have ho1:SlOwn kBlob 45 H none 0 ([]:List Blob) none:=SlOwn.nil
  refine RunH.nilc ?_
  have ho2:SlOwn kEntry 47 H none 0 ([]:List Entry) none:=SlOwn.nil
  refine RunH.nilc ?_
  have ho3:SlOwn Kd.string 9 H none 0 ([]:List ByteArray) none:=SlOwn.nil
  refine RunH.nilc ?_
  have ho4:SlOwn Kd.string 9 H none 0 ([]:List ByteArray) none:=SlOwn.nil
  obtain rfl:=Option.some.inj heq
  refine Up 8 [4,5,3,2,1,0] ?_
  exact RunH.doneM' 2 (vs:=[.agg #[iv 0,iv 0,.slice none 0 0,.slice none 0 0],.agg #[.bool false,.slice none 0 0,.slice none 0 0],iv y1]) (v:=.tuple #[.agg #[iv 0,iv 0,.slice none 0 0,.slice none 0 0],.agg #[.bool false,.slice none 0 0,.slice none 0 0],iv y1]) (by kernel_rfl) Tryz.func6 (fun w hh=>show ResAll _ _ _ [.cell 4 25,.cell 5 33,.tmp 6] _ from ⟨⟨⟨g3,0,none⟩,by kernel_rfl,trS_run _ (vs:=[iv 0,iv 0,.slice none 0 0,.slice none 0 0]) (r:=[]) (es:=[.load ⟨g3,0,none⟩ (iv 0),.load ⟨g3,1,none⟩ (iv 0),.load ⟨g3,2,none⟩ (.slice none 0 0),.load ⟨g3,3,none⟩ (.slice none 0 0)]) (by kernel_rfl) ⟨(hh.box 1 rfl rfl),(hh.box 1 rfl rfl),(hh.box 1 rfl rfl),(hh.box 1 rfl rfl)⟩⟩,⟨⟨g4,0,none⟩,by kernel_rfl,trS_run _ (vs:=[.bool false,.slice none 0 0,.slice none 0 0]) (r:=[]) (es:=[.load ⟨g4,0,none⟩ (.bool false),.load ⟨g4,1,none⟩ (.slice none 0 0),.load ⟨g4,2,none⟩ (.slice none 0 0)]) (by kernel_rfl) ⟨(hh.box 0 rfl rfl),(hh.box 0 rfl rfl),(hh.box 0 rfl rfl)⟩⟩,(show lk _ _=some _ by kernel_rfl),trivial⟩) rfl (cs':=none::none::none::none::F) rfl ⟨none,0,none,none,0,none,none,0,none,none,0,none,rfl,rfl,ho1,ho2,ho3,ho4⟩
 ·intro hb1 heq
  refine Sa 2<|Zv 1 (bxs 3) ?_
  obtain ⟨y2,hy2,heq⟩:=bind_some heq
  refine RgH.does (cal 18 (cache_own_c hy2 (hra0_2.wk (fun _ h=>(.tail _ (.tail _ (.tail _ (.tail _ h)))))) hca0_2 rfl (hra0_3.wk (fun _ h=>(.tail _ (.tail _ (.tail _ (.tail _ h)))))) hca0_3 rfl)) ?_
  rintro _ H _ hl ⟨_,rfl,A1,c1,ch1,A2,c2,ch2,rfl,rfl,ho5,ho6⟩
  replace hra0_2:=hra0_2.mono hl
  replace hra0_3:=hra0_3.mono hl
  replace hra1_3:=hra1_3.mono hl
  refine RgH.does (DoesH.store (k:=5) (g:=g1) (off:=0) (v:=.agg #[iv y2.Room,iv y2.Lease,.slice A1 y2.Blobs.length c1,.slice A2 y2.Entries.length c2]) (cells':=#[iv y2.Room,iv y2.Lease,.slice A1 y2.Blobs.length c1,.slice A2 y2.Entries.length c2]) (by kernel_rfl) rfl (by kernel_rfl) (by kernel_rfl)) ?_
  rintro _ _ _ _ ⟨rfl,rfl,rfl⟩
  refine RgH.nrm ?_
  refine Dn<|Sa 1<|Zv 1 (bxs 4)<|Ug 6 [5,0,1,2,3,4] ?_
  obtain ⟨y3,hy3,heq⟩:=bind_some heq
  refine RgH.does (cal 21 (cache_do_c hy3 ho5 rfl ho6 rfl (hra1_3.wk (fun _ h=>(.tail _ (.tail _ (.tail _ h))))) hca1_3 rfl)) ?_
  rintro _ H _ hl ⟨_,rfl,A3,c3,ch3,A4,c4,ch4,A5,c5,ch5,A6,c6,ch6,rfl,rfl,ho7,ho8,ho9,ho10⟩
  replace ho5:=ho5.mono hl
  replace ho6:=ho6.mono hl
  replace hra1_3:=hra1_3.mono hl
  refine Zk 5 ?_
  refine RgH.does (DoesH.new (d:=8) (v:=fun g=>.pointer (some ⟨g,0,none⟩)) (o:=fun g=>.cells #[.bool false,.slice none 0 0,.slice none 0 0] 33 (0,0)) (fun g=>by kernel_rfl)) ?_
  rintro _ _ _ _ ⟨g5,rfl,rfl,rfl⟩
  refine RgH.does (DoesH.store (k:=0) (g:=g5) (off:=0) (v:=.agg #[.bool y3.1.Done,.slice A3 y3.1.Missing.length c3,.slice A4 y3.1.Gone.length c4]) (cells':=#[.bool y3.1.Done,.slice A3 y3.1.Missing.length c3,.slice A4 y3.1.Gone.length c4]) (by kernel_rfl) rfl (by kernel_rfl) (by kernel_rfl)) ?_
  rintro _ _ _ _ ⟨rfl,rfl,rfl⟩
  refine RgH.nrm ?_
  refine Zd 8<|Sa 2<|Zd 2 ?_
  refine Cb heq ?_ ?_
  ·intro hb2 heq
   refine Sa 1<|Zk 3 ?_
   refine RgH.does (DoesH.store (k:=7) (g:=g3) (off:=0) (v:=.agg #[iv 0,iv 0,.slice none 0 0,.slice none 0 0]) (cells':=#[iv 0,iv 0,.slice none 0 0,.slice none 0 0]) (by kernel_rfl) rfl (by kernel_rfl) (by kernel_rfl)) ?_
   rintro _ _ _ _ ⟨rfl,rfl,rfl⟩
   refine RgH.nrm ?_
   refine RgH.does (DoesH.store (k:=6) (g:=g4) (off:=0) (v:=.agg #[.bool false,.slice none 0 0,.slice none 0 0]) (cells':=#[.bool false,.slice none 0 0,.slice none 0 0]) (by kernel_rfl) rfl (by kernel_rfl) (by kernel_rfl)) ?_
   rintro _ _ _ _ ⟨rfl,rfl,rfl⟩
   refine RgH.nrm ?_
   refine Zd 6<|RunH.nilc ?_
   have ho11:SlOwn kBlob 45 H none 0 ([]:List Blob) none:=SlOwn.nil
   refine RunH.nilc ?_
   have ho12:SlOwn kEntry 47 H none 0 ([]:List Entry) none:=SlOwn.nil
   refine RunH.nilc ?_
   have ho13:SlOwn Kd.string 9 H none 0 ([]:List ByteArray) none:=SlOwn.nil
   refine RunH.nilc ?_
   have ho14:SlOwn Kd.string 9 H none 0 ([]:List ByteArray) none:=SlOwn.nil
   obtain rfl:=Option.some.inj heq
   refine Up 13 [10,11,3,2,1,0] ?_
   exact RunH.doneM' 2 (vs:=[.agg #[iv 0,iv 0,.slice none 0 0,.slice none 0 0],.agg #[.bool false,.slice none 0 0,.slice none 0 0],iv y3.2.1]) (v:=.tuple #[.agg #[iv 0,iv 0,.slice none 0 0,.slice none 0 0],.agg #[.bool false,.slice none 0 0,.slice none 0 0],iv y3.2.1]) (by kernel_rfl) Tryz.func6 (fun w hh=>show ResAll _ _ _ [.cell 4 25,.cell 5 33,.tmp 6] _ from ⟨⟨⟨g3,0,none⟩,by kernel_rfl,trS_run _ (vs:=[iv 0,iv 0,.slice none 0 0,.slice none 0 0]) (r:=[]) (es:=[.load ⟨g3,0,none⟩ (iv 0),.load ⟨g3,1,none⟩ (iv 0),.load ⟨g3,2,none⟩ (.slice none 0 0),.load ⟨g3,3,none⟩ (.slice none 0 0)]) (by kernel_rfl) ⟨(hh.box 1 rfl rfl),(hh.box 1 rfl rfl),(hh.box 1 rfl rfl),(hh.box 1 rfl rfl)⟩⟩,⟨⟨g4,0,none⟩,by kernel_rfl,trS_run _ (vs:=[.bool false,.slice none 0 0,.slice none 0 0]) (r:=[]) (es:=[.load ⟨g4,0,none⟩ (.bool false),.load ⟨g4,1,none⟩ (.slice none 0 0),.load ⟨g4,2,none⟩ (.slice none 0 0)]) (by kernel_rfl) ⟨(hh.box 0 rfl rfl),(hh.box 0 rfl rfl),(hh.box 0 rfl rfl)⟩⟩,(show lk _ _=some _ by kernel_rfl),trivial⟩) rfl (cs':=none::none::none::none::F) rfl ⟨none,0,none,none,0,none,none,0,none,none,0,none,rfl,rfl,ho11,ho12,ho13,ho14⟩
  ·intro hb2 heq
   refine An 2<|Sd 8 5 [0,1,2,3,4,5] [3,3,1,1,3]<|Zr [0] 4 (bxs 3) (Pk 9 [0,1,2,3,4,5,6,7,8]) (Pk 9 [0,1,2,3,4,5,8])<|Zt [1] 3 (bxs 0) (Pk 9 [0,1,2,3,4,5,8]) ?_
   refine Dz 2 (DoesH.store (k:=7) (g:=g3) (off:=0) (v:=.agg #[iv y3.2.2.Room,iv y3.2.2.Lease,.slice A5 y3.2.2.Blobs.length c5,.slice A6 y3.2.2.Entries.length c6]) (cells':=#[iv y3.2.2.Room,iv y3.2.2.Lease,.slice A5 y3.2.2.Blobs.length c5,.slice A6 y3.2.2.Entries.length c6]) (by kernel_rfl) rfl (by kernel_rfl) (by kernel_rfl)) ?_
   rintro _ _ _ _ ⟨rfl,rfl,rfl⟩
   refine ⟨fun _ w hh=>⟨(fun h=>by cases h),fun _=>(Pk 9 [0,1,2,3,4,5,8]) w hh,(fun h=>by cases h)⟩,?_⟩
   refine DrH.nrm ?_
   refine Dz 3 (DoesH.store (k:=6) (g:=g4) (off:=0) (v:=.agg #[.bool y3.1.Done,.slice A3 y3.1.Missing.length c3,.slice A4 y3.1.Gone.length c4]) (cells':=#[.bool y3.1.Done,.slice A3 y3.1.Missing.length c3,.slice A4 y3.1.Gone.length c4]) (by kernel_rfl) rfl (by kernel_rfl) (by kernel_rfl)) ?_
   rintro _ _ _ _ ⟨rfl,rfl,rfl⟩
   refine ⟨fun _ w hh=>⟨(fun h=>by cases h),fun _=>(Pk 9 [0,1,2,3,4,5,8]) w hh,(fun h=>by cases h)⟩,?_⟩
   refine DrH.nrm ?_
   refine Zt [4] 0 [] (Pk 9 [0,1,2,3,4,5,8]) ?_
   refine DrH.done (by kernel_rfl) ?_
   obtain rfl:=Option.some.inj heq
   refine Up 9 [6,7,4,5,1,2] ?_
   exact RunH.doneM' 2 (vs:=[.agg #[iv y3.2.2.Room,iv y3.2.2.Lease,.slice A5 y3.2.2.Blobs.length c5,.slice A6 y3.2.2.Entries.length c6],.agg #[.bool y3.1.Done,.slice A3 y3.1.Missing.length c3,.slice A4 y3.1.Gone.length c4],iv 0]) (v:=.tuple #[.agg #[iv y3.2.2.Room,iv y3.2.2.Lease,.slice A5 y3.2.2.Blobs.length c5,.slice A6 y3.2.2.Entries.length c6],.agg #[.bool y3.1.Done,.slice A3 y3.1.Missing.length c3,.slice A4 y3.1.Gone.length c4],iv 0]) (by kernel_rfl) Tryz.func6 (fun w hh=>show ResAll _ _ _ [.cell 4 25,.cell 5 33,.tmp 6] _ from ⟨⟨⟨g3,0,none⟩,by kernel_rfl,trS_run _ (vs:=[iv y3.2.2.Room,iv y3.2.2.Lease,.slice A5 y3.2.2.Blobs.length c5,.slice A6 y3.2.2.Entries.length c6]) (r:=[]) (es:=[.load ⟨g3,0,none⟩ (iv y3.2.2.Room),.load ⟨g3,1,none⟩ (iv y3.2.2.Lease),.load ⟨g3,2,none⟩ (.slice A5 y3.2.2.Blobs.length c5),.load ⟨g3,3,none⟩ (.slice A6 y3.2.2.Entries.length c6)]) (by kernel_rfl) ⟨(hh.box 1 rfl rfl),(hh.box 1 rfl rfl),(hh.box 1 rfl rfl),(hh.box 1 rfl rfl)⟩⟩,⟨⟨g4,0,none⟩,by kernel_rfl,trS_run _ (vs:=[.bool y3.1.Done,.slice A3 y3.1.Missing.length c3,.slice A4 y3.1.Gone.length c4]) (r:=[]) (es:=[.load ⟨g4,0,none⟩ (.bool y3.1.Done),.load ⟨g4,1,none⟩ (.slice A3 y3.1.Missing.length c3),.load ⟨g4,2,none⟩ (.slice A4 y3.1.Gone.length c4)]) (by kernel_rfl) ⟨(hh.box 0 rfl rfl),(hh.box 0 rfl rfl),(hh.box 0 rfl rfl)⟩⟩,(show lk _ _=some _ by kernel_rfl),trivial⟩) rfl (cs':=ch5::ch6::ch3::ch4::F) rfl ⟨A5,c5,ch5,A6,c6,ch6,A3,c3,ch3,A4,c4,ch4,rfl,rfl,ho9,ho10,ho7,ho8⟩
noncomputable def C39:Ctx:={ P:=Tryz.prog,f:=39,N:=15,c:=bodyOf Tryz.f39 }
def S39 (F:List Ch) (H0:Hp) (r:Bool) (v:Value) (H:Hp) (cs:List Ch):Prop:=H0=H∧v=.bool r∧F=cs
theorem smithyardref7_within_c {a0 a1 a2:Int} {r:Bool} (heq:smithyardref7_within.f a0 a1 a2=some r):CallsH Tryz.prog 39 #[iv a0,iv a1,iv a2] H w0 (F) (S39 F H r):=by
 refine Co C39 Tryz.func39 Tryz.ntmps39 ?_
 unfold smithyardref7_within.f at heq
 refine Sa 1<|Zd 1<|An 1 ?_
 obtain ⟨t1,ht1,heq⟩:=bind_some heq
 have K1:RunH C39 (S39 F H r) H w0 [.c [1,1]] [(6,.bool t1)] H (F):=by
  obtain rfl:=Option.some.inj heq
  exact RunH.done (by kernel_rfl) Tryz.func39 (v:=.bool t1) (by kernel_rfl) ⟨rfl,rfl,rfl⟩
 replace heq:=ht1
 refine Sa 0<|Zk 4 ?_
 rcases bool_cases (decide (a1≤a0)) with hb1 | hb1
 ·replace heq:=bif_true hb1 heq
  refine Zs 10 (congrArg Value.bool hb1)<|Zk 9 ?_
  obtain rfl:=Option.some.inj heq
  refine Dn ?_
  exact Gt 0 [] (K1)
 ·replace heq:=bif_false hb1 heq
  refine Zs 10 (congrArg Value.bool hb1)<|Zk 9 ?_
  obtain rfl:=Option.some.inj heq
  refine Dn ?_
  exact Gt 0 [] (K1)
noncomputable def C41:Ctx:={ P:=Tryz.prog,f:=41,N:=19,c:=bodyOf Tryz.f41 }
def S41 (F:List Ch) (H0:Hp) (r:Int) (v:Value) (H:Hp) (cs:List Ch):Prop:=H0=H∧v=iv r∧F=cs
theorem smithyardref7_bytesOf.e1_c {r:Int}:∀ (v_n3:Int) ,smithyardref7_bytesOf.e1 v_n3=some r→RunH C41 (S41 F H r) H w0 [.c [1,1,1,0],.c [1,1,1,1]] [(3,iv v_n3)] H (F):=by
 intro v_n3  heq
 unfold smithyardref7_bytesOf.e1 at heq
 refine Sa 0<|Zd 2 ?_
 obtain rfl:=Option.some.inj heq
 exact RunH.done (by kernel_rfl) Tryz.func41 (v:=iv v_n3) (by kernel_rfl) ⟨rfl,rfl,rfl⟩
theorem smithyardref7_bytesOf.l2_c {r:Int} (e1:Int→Option Int)
  (he1:∀ (v_n3:Int) ,e1 v_n3=some r→RunH C41 (S41 F H r) H w0 [.c [1,1,1,0],.c [1,1,1,1]] [(3,iv v_n3)] H (F)):∀ (k:Nat),∀ (a0:List Blob) (Aa0:Option Addr) (ca0:Nat) (v_n3 v_i4:Int) ,Rw kBlob H F Aa0 a0→a0.length≤ca0→smithyardref7_bytesOf.l2 e1 k a0 v_n3 v_i4=some r→RunH C41 (S41 F H r) H w0 [.c [1,1,0,1,0,0],.l [1,1,0,1,0,0],.b 0,.c [1,1,1]] [(0,.slice Aa0 a0.length ca0),(3,iv v_n3),(4,iv v_i4)] H (F):=by
 intro k
 induction k with
 | zero=>intro a0 Aa0 ca0 v_n3 v_i4 hra0 hca0 heq; exact nomatch (show (none:Option Int)=some r from heq)
 | succ k ihk =>
  intro a0 Aa0 ca0 v_n3 v_i4 hra0 hca0 heq
  rw [smithyardref7_bytesOf.l2] at heq
  refine Sa 2<|Zd 4 ?_
  refine Cb heq ?_ ?_
  ·intro hb1 heq
   refine Sa 3 ?_
   obtain ⟨x1,hx1,heq⟩:=bind_some heq
   obtain ⟨ha1,cs1,hK1,hcc1⟩:=hra0.get hx1
   obtain ⟨rfl⟩:=kBlob_open hK1
   refine Zw 8 [nx ha1 hx1,er hcc1 0 1]<|Sa 1<|Zd 3<|An 1 ?_
   exact Gt 0 [] (ihk a0 _ _ (w64 (v_n3+x1.Size)) (w64 (v_i4+1)) hra0 hca0 heq)
  ·intro hb1 heq
   refine An 2 ?_
   exact Gt 0 [] (he1 v_n3 heq)
theorem smithyardref7_bytesOf_c {a0:List Blob} {Aa0:Option Addr} {na0 ca0:Nat} {r:Int} (heq:smithyardref7_bytesOf.f a0=some r) (hra0:Rw kBlob H F Aa0 a0) (hca0:na0≤ca0) (hna0:na0=a0.length):CallsH Tryz.prog 41 #[.slice Aa0 na0 ca0] H w0 (F) (S41 F H r):=by
 refine Co C41 Tryz.func41 Tryz.ntmps41 ?_
 subst hna0
 unfold smithyardref7_bytesOf.f at heq
 refine Sa 1<|Zd 1<|Sa 1<|Zd 1<|Sa 2<|Zd 1<|An 2 ?_
 exact Gt 0 [] (((smithyardref7_bytesOf.l2_c (e1:=smithyardref7_bytesOf.e1) (smithyardref7_bytesOf.e1_c)) big) a0 _ _ 0 0 hra0 hca0 heq)
noncomputable def C40:Ctx:={ P:=Tryz.prog,f:=40,N:=36,c:=bodyOf Tryz.f40 }
def S40 (F:List Ch) (H0:Hp) (r:Bool) (v:Value) (H:Hp) (cs:List Ch):Prop:=H0=H∧v=.bool r∧F=cs
theorem smithyardref1_IsDigest.e1_c {r:Bool}:∀ (a0:ByteArray) ,smithyardref1_IsDigest.e1 a0=some r→RunH C40 (S40 F H r) H w0 [.c [1,1,0],.c [1,1,1]] [(0,.string a0)] H (F):=by
 intro a0  heq
 unfold smithyardref1_IsDigest.e1 at heq
 refine Sa 0<|Zd 4 ?_
 obtain rfl:=Option.some.inj heq
 exact RunH.done (by kernel_rfl) Tryz.func40 (v:=.bool ((a0.size:Int) == 16)) (by kernel_rfl) ⟨rfl,rfl,rfl⟩
theorem smithyardref1_IsDigest.l2_c {r:Bool} (e1:ByteArray→Option Bool)
  (he1:∀ (a0:ByteArray) ,e1 a0=some r→RunH C40 (S40 F H r) H w0 [.c [1,1,0],.c [1,1,1]] [(0,.string a0)] H (F)):∀ (k:Nat),∀ (a0:ByteArray) (v_i3:Int) ,smithyardref1_IsDigest.l2 e1 k a0 v_i3=some r→RunH C40 (S40 F H r) H w0 [.c [1,0,1,0,0],.l [1,0,1,0,0],.b 0,.c [1,1]] [(0,.string a0),(3,iv v_i3)] H (F):=by
 intro k
 induction k with
 | zero=>intro a0 v_i3  heq; exact nomatch (show (none:Option Bool)=some r from heq)
 | succ k ihk =>
  intro a0 v_i3  heq
  rw [smithyardref1_IsDigest.l2] at heq
  refine Sa 2<|Zd 4 ?_
  refine Cb heq ?_ ?_
  ·intro hb1 heq
   refine An 4 ?_
   obtain ⟨t1,ht1,heq⟩:=bind_some heq
   have K1:RunH C40 (S40 F H r) H w0 [.c [1,0,1,0,0,1,0,0,1],.b 1,.c [1,0,1,0,0,1,1],.l [1,0,1,0,0],.b 0,.c [1,1]] [(0,.string a0),(3,iv v_i3),(32,.bool t1)] H (F):=by
    refine Cb heq ?_ ?_
    ·intro hb6 heq
     refine Sa 1<|Zd 1 ?_
     obtain rfl:=Option.some.inj heq
     exact RunH.done (by kernel_rfl) Tryz.func40 (v:=.bool false) (by kernel_rfl) ⟨rfl,rfl,rfl⟩
    ·intro hb6 heq
     refine Sa 2<|Zd 3<|An 1 ?_
     exact Gt 0 [] (ihk a0 (w64 (v_i3+1)) heq)
   replace heq:=ht1
   refine Sa 0 ?_
   obtain ⟨hn1,heq⟩:=guard?_some heq
   refine Zv 5 [n2 hn1] ?_
   rcases bool_cases (decide (48≤(bt a0 v_i3))) with hb2 | hb2
   ·replace heq:=bif_true hb2 heq
    refine Zs 14 (congrArg Value.bool hb2) ?_
    obtain ⟨hn2,heq⟩:=guard?_some heq
    refine Zv 11 [n2 hn2] ?_
    rcases bool_cases (decide ((bt a0 v_i3)≤57)) with hb3 | hb3
    ·replace heq:=bif_true hb3 heq
     refine Zs 20 (congrArg Value.bool hb3)<|Zk 23 ?_
     obtain rfl:=Option.some.inj heq
     refine Dn ?_
     exact Gt 0 [] (K1)
    ·replace heq:=bif_false hb3 heq
     refine Zs 20 (congrArg Value.bool hb3) ?_
     obtain ⟨hn3,heq⟩:=guard?_some heq
     refine Zv 16 [n2 hn3] ?_
     rcases bool_cases (decide (97≤(bt a0 v_i3))) with hb4 | hb4
     ·replace heq:=bif_true hb4 heq
      refine Zs 25 (congrArg Value.bool hb4) ?_
      obtain ⟨hn4,heq⟩:=guard?_some heq
      refine Zv 23 [n2 hn4] ?_
      obtain rfl:=Option.some.inj heq
      refine Dn ?_
      exact Gt 0 [] (K1)
     ·replace heq:=bif_false hb4 heq
      refine Zs 25 (congrArg Value.bool hb4)<|Zk 23 ?_
      obtain rfl:=Option.some.inj heq
      refine Dn ?_
      exact Gt 0 [] (K1)
   ·replace heq:=bif_false hb2 heq
    refine Zs 14 (congrArg Value.bool hb2) ?_
    obtain ⟨hn5,heq⟩:=guard?_some heq
    refine Zv 16 [n2 hn5] ?_
    rcases bool_cases (decide (97≤(bt a0 v_i3))) with hb5 | hb5
    ·replace heq:=bif_true hb5 heq
     refine Zs 25 (congrArg Value.bool hb5) ?_
     obtain ⟨hn6,heq⟩:=guard?_some heq
     refine Zv 23 [n2 hn6] ?_
     obtain rfl:=Option.some.inj heq
     refine Dn ?_
     exact Gt 0 [] (K1)
    ·replace heq:=bif_false hb5 heq
     refine Zs 25 (congrArg Value.bool hb5)<|Zk 23 ?_
     obtain rfl:=Option.some.inj heq
     refine Dn ?_
     exact Gt 0 [] (K1)
  ·intro hb1 heq
   refine An 2 ?_
   exact Gt 0 [] (he1 a0 heq)
theorem smithyardref1_IsDigest_c {a0:ByteArray} {r:Bool} (heq:smithyardref1_IsDigest.f a0=some r):CallsH Tryz.prog 40 #[.string a0] H w0 (F) (S40 F H r):=by
 refine Co C40 Tryz.func40 Tryz.ntmps40 ?_
 unfold smithyardref1_IsDigest.f at heq
 refine Sa 1<|Zd 1<|Sa 2<|Zd 1<|An 2 ?_
 exact Gt 0 [] (((smithyardref1_IsDigest.l2_c (e1:=smithyardref1_IsDigest.e1) (smithyardref1_IsDigest.e1_c)) big) a0 0 heq)
noncomputable def C42:Ctx:={ P:=Tryz.prog,f:=42,N:=30,c:=bodyOf Tryz.f42 }
def S42 (F:List Ch) (H0:Hp) (r:Int) (v:Value) (H:Hp) (cs:List Ch):Prop:=H0=H∧v=iv r∧F=cs
theorem smithyardref7_rising.e1_c {r:Int}:smithyardref7_rising.e1=some r→RunH C42 (S42 F H r) H w0 [.c [1,1,0],.c [1,1,1]] [] H (F):=by
 intro   heq
 unfold smithyardref7_rising.e1 at heq
 refine Sa 0<|Zd 1 ?_
 obtain rfl:=Option.some.inj heq
 exact RunH.done (by kernel_rfl) Tryz.func42 (v:=iv 0) (by kernel_rfl) ⟨rfl,rfl,rfl⟩
theorem smithyardref7_rising.l2_c {r:Int} (e1:Option Int)
  (he1:e1=some r→RunH C42 (S42 F H r) H w0 [.c [1,1,0],.c [1,1,1]] [] H (F)):∀ (k:Nat),∀ (a0:List ByteArray) (Aa0:Option Addr) (ca0:Nat) (v_i3:Int) ,Rw Kd.string H F Aa0 a0→a0.length≤ca0→smithyardref7_rising.l2 e1 k a0 v_i3=some r→RunH C42 (S42 F H r) H w0 [.c [1,0,1,0,0],.l [1,0,1,0,0],.b 0,.c [1,1]] [(0,.slice Aa0 a0.length ca0),(3,iv v_i3)] H (F):=by
 intro k
 induction k with
 | zero=>intro a0 Aa0 ca0 v_i3 hra0 hca0 heq; exact nomatch (show (none:Option Int)=some r from heq)
 | succ k ihk =>
  intro a0 Aa0 ca0 v_i3 hra0 hca0 heq
  rw [smithyardref7_rising.l2] at heq
  refine Sa 2<|Zd 4 ?_
  refine Cb heq ?_ ?_
  ·intro hb1 heq
   refine Sa 5 ?_
   obtain ⟨x1,hx1,heq⟩:=bind_some heq
   obtain ⟨ha1,cs1,hK1,hcc1⟩:=hra0.get hx1
   obtain rfl:cs1=[.string x1]:=hK1
   refine Zv 4 [nx ha1 hx1,er hcc1 0 0] ?_
   obtain ⟨y1,hy1,heq⟩:=bind_some heq
   refine RgH.does (cal 14 (smithyardref1_IsDigest_c hy1 )) ?_
   rintro _ _ _ _ ⟨_,rfl,rfl,rfl,rfl⟩
   refine Zd 6 ?_
   refine Cb heq ?_ ?_
   ·intro hb2 heq
    refine Sa 1<|Zd 1 ?_
    obtain rfl:=Option.some.inj heq
    exact RunH.done (by kernel_rfl) Tryz.func42 (v:=iv 3) (by kernel_rfl) ⟨rfl,rfl,rfl⟩
   ·intro hb2 heq
    refine An 2 ?_
    obtain ⟨t1,ht1,heq⟩:=bind_some heq
    have K1:RunH C42 (S42 F H r) H w0 [.c [1,0,1,0,0,1,0,0,1,1],.b 1,.c [1,0,1,0,0,1,1],.l [1,0,1,0,0],.b 0,.c [1,1]] [(0,.slice Aa0 a0.length ca0),(3,iv v_i3),(29,.bool t1)] H (F):=by
     refine Cb heq ?_ ?_
     ·intro hb4 heq
      refine Sa 1<|Zd 1 ?_
      obtain rfl:=Option.some.inj heq
      exact RunH.done (by kernel_rfl) Tryz.func42 (v:=iv 8) (by kernel_rfl) ⟨rfl,rfl,rfl⟩
     ·intro hb4 heq
      refine Sa 2<|Zd 3<|An 1 ?_
      exact Gt 0 [] (ihk a0 _ _ (w64 (v_i3+1)) hra0 hca0 heq)
    replace heq:=ht1
    refine Sd 0 14 [] [3,3,3,3,3,3,3,3,3,3,3,3,3,3]<|Zr [0,1,2] 11 [] (Pk 0 []) (Pk 0 []) ?_
    rcases bool_cases (decide (0<v_i3)) with hb3 | hb3
    ·replace heq:=bif_true hb3 heq
     refine Zu 18 (congrArg Value.bool hb3) ?_
     obtain ⟨x2,hx2,heq⟩:=bind_some heq
     obtain ⟨ha2,cs2,hK2,hcc2⟩:=hra0.get hx2
     obtain rfl:cs2=[.string x2]:=hK2
     obtain ⟨x3,hx3,heq⟩:=bind_some heq
     obtain ⟨ha3,cs3,hK3,hcc3⟩:=hra0.get hx3
     obtain rfl:cs3=[.string x3]:=hK3
     refine Zr [3,4,5,6,7,8,9,10,11,12,13] 0 [nx ha2 hx2,er hcc2 0 0,nx ha3 hx3,er hcc3 0 0] (Pk 0 []) (Pk 0 []) ?_
     obtain rfl:=Option.some.inj heq
     refine DrH.done (by kernel_rfl) ?_
     exact Gt 0 [] (K1)
    ·replace heq:=bif_false hb3 heq
     refine Zu 18 (congrArg Value.bool hb3)<|Zr [3,4,5,6,7,8,9,10,11,12,13] 0 [] (Pk 0 []) (Pk 0 []) ?_
     obtain rfl:=Option.some.inj heq
     refine DrH.done (by kernel_rfl) ?_
     exact Gt 0 [] (K1)
  ·intro hb1 heq
   refine An 2 ?_
   exact Gt 0 [] (he1 heq)
theorem smithyardref7_rising_c {a0:List ByteArray} {Aa0:Option Addr} {na0 ca0:Nat} {r:Int} (heq:smithyardref7_rising.f a0=some r) (hra0:Rw Kd.string H F Aa0 a0) (hca0:na0≤ca0) (hna0:na0=a0.length):CallsH Tryz.prog 42 #[.slice Aa0 na0 ca0] H w0 (F) (S42 F H r):=by
 refine Co C42 Tryz.func42 Tryz.ntmps42 ?_
 subst hna0
 unfold smithyardref7_rising.f at heq
 refine Sa 1<|Zd 1<|Sa 2<|Zd 1<|An 2 ?_
 exact Gt 0 [] (((smithyardref7_rising.l2_c (e1:=smithyardref7_rising.e1) (smithyardref7_rising.e1_c)) big) a0 _ _ 0 hra0 hca0 heq)
noncomputable def C17:Ctx:={ P:=Tryz.prog,f:=17,N:=128,c:=bodyOf Tryz.f17 }
def S17 (F:List Ch) (H0:Hp) (r:Int) (v:Value) (H:Hp) (cs:List Ch):Prop:=H0=H∧v=iv r∧F=cs
theorem smithyardref7_CheckCache.e2_c {r:Int}:smithyardref7_CheckCache.e2=some r→RunH C17 (S17 F H r) H w0 [.c [1,1,1,1,1,1,1,0],.c [1,1,1,1,1,1,1,1]] [] H (F):=by
 intro   heq
 unfold smithyardref7_CheckCache.e2 at heq
 refine Sa 0<|Zd 1 ?_
 obtain rfl:=Option.some.inj heq
 exact RunH.done (by kernel_rfl) Tryz.func17 (v:=iv 0) (by kernel_rfl) ⟨rfl,rfl,rfl⟩
theorem smithyardref7_CheckCache.l3_c {r:Int} (e2:Option Int)
  (he2:e2=some r→RunH C17 (S17 F H r) H w0 [.c [1,1,1,1,1,1,1,0],.c [1,1,1,1,1,1,1,1]] [] H (F)):∀ (k:Nat),∀ (a0:Cache) (Aa0_2:Option Addr) (ca0_2:Nat) (Aa0_3:Option Addr) (ca0_3 g1:Nat) (v_i5:Int) ,Rw kBlob H F Aa0_2 a0.Blobs→a0.Blobs.length≤ca0_2→Rw kEntry H F Aa0_3 a0.Entries→a0.Entries.length≤ca0_3→smithyardref7_CheckCache.l3 e2 k a0 v_i5=some r→RunH C17 (S17 F H r) H w0 [.c [1,1,1,1,1,1,0,1,0,0],.l [1,1,1,1,1,1,0,1,0,0],.b 2,.c [1,1,1,1,1,1,1]] [(1,pg g1 0),(5,iv v_i5)] H ((some (g1,.cells #[iv a0.Room,iv a0.Lease,.slice Aa0_2 a0.Blobs.length ca0_2,.slice Aa0_3 a0.Entries.length ca0_3] 25 (0,0)))::F):=by
 intro k
 induction k with
 | zero=>intro a0 Aa0_2 ca0_2 Aa0_3 ca0_3 g1 v_i5 hra0_2 hca0_2 hra0_3 hca0_3 heq; exact nomatch (show (none:Option Int)=some r from heq)
 | succ k ihk =>
  intro a0 Aa0_2 ca0_2 Aa0_3 ca0_3 g1 v_i5 hra0_2 hca0_2 hra0_3 hca0_3 heq
  rw [smithyardref7_CheckCache.l3] at heq
  refine Sa 2<|Zw 5 [bx 0 3] ?_
  refine Cb heq ?_ ?_
  ·intro hb6 heq
   refine Sa 4 ?_
   obtain ⟨x1,hx1,heq⟩:=bind_some heq
   obtain ⟨ha1,cs1,hK1,hcc1⟩:=hra0_3.get hx1
   obtain ⟨A1,c1,rfl,hc1,hr1⟩:=kEntry_open hK1
   refine Zv 5 ([bx 0 3,nx ha1 hx1]++ers hcc1 1) ?_
   refine RgH.does (DoesH.new (d:=6) (v:=fun g=>.pointer (some ⟨g,0,none⟩)) (o:=fun g=>.cells #[.string ByteArray.empty,.slice none 0 0,iv 0] 47 (0,0)) (fun g=>by kernel_rfl)) ?_
   rintro _ _ _ _ ⟨g2,rfl,rfl,rfl⟩
   refine RgH.does (DoesH.store (k:=0) (g:=g2) (off:=0) (v:=.agg #[.string x1.Key,.slice A1 x1.Refs.length c1,iv x1.Used]) (cells':=#[.string x1.Key,.slice A1 x1.Refs.length c1,iv x1.Used]) (by kernel_rfl) rfl (by kernel_rfl) (by kernel_rfl)) ?_
   rintro _ _ _ _ ⟨rfl,rfl,rfl⟩
   refine RgH.nrm ?_
   refine Dn<|Sa 2<|Zv 2 [bx 0 0] ?_
   obtain ⟨y4,hy4,heq⟩:=bind_some heq
   refine RgH.does (cal 98 (smithyardref1_IsDigest_c hy4 )) ?_
   rintro _ _ _ _ ⟨_,rfl,rfl,rfl,rfl⟩
   refine Zd 4 ?_
   refine Cb heq ?_ ?_
   ·intro hb7 heq
    refine Sa 1<|Zd 1 ?_
    obtain rfl:=Option.some.inj heq
    refine Up 2 [] ?_
    exact RunH.done (by kernel_rfl) Tryz.func17 (v:=iv 3) (by kernel_rfl) ⟨rfl,rfl,rfl⟩
   ·intro hb7 heq
    refine Sa 3<|Zw 4 [bx 0 1] ?_
    refine Cb heq ?_ ?_
    ·intro hb8 heq
     refine Sa 1<|Zd 1 ?_
     obtain rfl:=Option.some.inj heq
     refine Up 2 [] ?_
     exact RunH.done (by kernel_rfl) Tryz.func17 (v:=iv 2) (by kernel_rfl) ⟨rfl,rfl,rfl⟩
    ·intro hb8 heq
     refine Sa 3<|Zv 2 [bx 0 1] ?_
     obtain ⟨y5,hy5,heq⟩:=bind_some heq
     refine RgH.does (cal 106 (smithyardref7_rising_c hy5 (Rw.of hr1) hc1 rfl)) ?_
     rintro _ _ _ _ ⟨_,rfl,rfl,rfl,rfl⟩
     refine Zd 4<|Sa 1<|Zd 2 ?_
     refine Cb heq ?_ ?_
     ·intro hb9 heq
      refine Sa 1<|Zd 2 ?_
      obtain rfl:=Option.some.inj heq
      refine Up 2 [] ?_
      exact RunH.done (by kernel_rfl) Tryz.func17 (v:=iv y5) (by kernel_rfl) ⟨rfl,rfl,rfl⟩
     ·intro hb9 heq
      refine Sa 3<|Zv 2 [bx 0 2] ?_
      obtain ⟨y6,hy6,heq⟩:=bind_some heq
      refine RgH.does (cal 112 (smithyardref7_within_c hy6 )) ?_
      rintro _ _ _ _ ⟨_,rfl,rfl,rfl,rfl⟩
      refine Zd 4 ?_
      refine Cb heq ?_ ?_
      ·intro hb10 heq
       refine Sa 1<|Zd 1 ?_
       obtain rfl:=Option.some.inj heq
       refine Up 2 [] ?_
       exact RunH.done (by kernel_rfl) Tryz.func17 (v:=iv 1) (by kernel_rfl) ⟨rfl,rfl,rfl⟩
      ·intro hb10 heq
       refine An 2 ?_
       obtain ⟨t2,ht2,heq⟩:=bind_some heq
       have K4:RunH C17 (S17 F H r) H w0 [.c [1,1,1,1,1,1,0,1,0,0,1,0,0,1,1,1,1,1,1],.b 3,.c [1,1,1,1,1,1,0,1,0,0,1,1],.l [1,1,1,1,1,1,0,1,0,0],.b 2,.c [1,1,1,1,1,1,1]] [(1,pg g1 0),(5,iv v_i5),(127,.bool t2)] H ((some (g1,.cells #[iv a0.Room,iv a0.Lease,.slice Aa0_2 a0.Blobs.length ca0_2,.slice Aa0_3 a0.Entries.length ca0_3] 25 (0,0)))::F):=by
        refine Cb heq ?_ ?_
        ·intro hb12 heq
         refine Sa 1<|Zd 1 ?_
         obtain rfl:=Option.some.inj heq
         refine Up 1 [] ?_
         exact RunH.done (by kernel_rfl) Tryz.func17 (v:=iv 8) (by kernel_rfl) ⟨rfl,rfl,rfl⟩
        ·intro hb12 heq
         refine Sa 2<|Zd 3<|An 1 ?_
         exact Gt 0 [] (ihk a0 _ _ _ _ _ (w64 (v_i5+1)) hra0_2 hca0_2 hra0_3 hca0_3 heq)
       replace heq:=ht2
       refine Sd 0 14 [] [3,3,3,3,3,3,3,3,3,3,3,3,3,3]<|Zr [0,1,2] 11 [] (Pk 2 [0,1]) (Pk 2 [0,1]) ?_
       rcases bool_cases (decide (0<v_i5)) with hb11 | hb11
       ·replace heq:=bif_true hb11 heq
        refine Zu 116 (congrArg Value.bool hb11) ?_
        obtain ⟨x2,hx2,heq⟩:=bind_some heq
        obtain ⟨ha2,cs2,hK2,hcc2⟩:=hra0_3.get hx2
        obtain ⟨A2,c2,rfl,hc2,hr2⟩:=kEntry_open hK2
        refine Zr [3,4,5,6,7,8,9,10,11,12,13] 0 [bx 0 0,bx 1 3,nx ha2 hx2,er hcc2 2 0] (Pk 2 [0,1]) (Pk 2 [0,1]) ?_
        obtain rfl:=Option.some.inj heq
        refine DrH.done (by kernel_rfl) ?_
        exact Gt 1 [] (K4)
       ·replace heq:=bif_false hb11 heq
        refine Zu 116 (congrArg Value.bool hb11)<|Zr [3,4,5,6,7,8,9,10,11,12,13] 0 [] (Pk 2 [0,1]) (Pk 2 [0,1]) ?_
        obtain rfl:=Option.some.inj heq
        refine DrH.done (by kernel_rfl) ?_
        exact Gt 1 [] (K4)
  ·intro hb6 heq
   refine An 2 ?_
   exact Gt 1 [] (he2 heq)
theorem smithyardref7_CheckCache.e1_c {r:Int}:∀ (a0:Cache) (Aa0_2:Option Addr) (ca0_2:Nat) (Aa0_3:Option Addr) (ca0_3 g1:Nat) ,Rw kBlob H F Aa0_2 a0.Blobs→a0.Blobs.length≤ca0_2→Rw kEntry H F Aa0_3 a0.Entries→a0.Entries.length≤ca0_3→smithyardref7_CheckCache.e1 a0=some r→RunH C17 (S17 F H r) H w0 [.c [1,1,1,1,0,0],.c [1,1,1,1,0,1],.c [1,1,1,1,1]] [(1,pg g1 0)] H ((some (g1,.cells #[iv a0.Room,iv a0.Lease,.slice Aa0_2 a0.Blobs.length ca0_2,.slice Aa0_3 a0.Entries.length ca0_3] 25 (0,0)))::F):=by
 intro a0 Aa0_2 ca0_2 Aa0_3 ca0_3 g1 hra0_2 hca0_2 hra0_3 hca0_3 heq
 unfold smithyardref7_CheckCache.e1 at heq
 refine Sd 0 6 [] [3,3,0,3,3,3]<|Zr [0,1,3,4] 2 [bx 0 2,bx 0 0] (Pk 1 [0]) (Pk 1 [0]) ?_
 obtain ⟨y3,hy3,heq⟩:=bind_some heq
 refine Dz 2 (cal 76 (smithyardref7_bytesOf_c hy3 (hra0_2.wk (fun _ h=>(.tail _ h))) hca0_2 rfl)) ?_
 rintro _ _ _ _ ⟨_,rfl,rfl,rfl,rfl⟩
 refine ⟨fun _ w hh=>⟨fun _=>(Pk 1 [0]) w hh,fun _=>(Pk 1 [0]) w hh,(fun h=>by cases h)⟩,?_⟩
 refine Zr [5] 0 [] (Pk 1 [0]) (Pk 1 [0]) ?_
 refine DrH.done (by kernel_rfl) ?_
 refine Cb heq ?_ ?_
 ·intro hb4 heq
  refine Sa 1<|Zd 1 ?_
  obtain rfl:=Option.some.inj heq
  refine Up 1 [] ?_
  exact RunH.done (by kernel_rfl) Tryz.func17 (v:=iv 16) (by kernel_rfl) ⟨rfl,rfl,rfl⟩
 ·intro hb4 heq
  refine Sa 3<|Zw 4 [bx 0 3] ?_
  refine Cb heq ?_ ?_
  ·intro hb5 heq
   refine Sa 1<|Zd 1 ?_
   obtain rfl:=Option.some.inj heq
   refine Up 1 [] ?_
   exact RunH.done (by kernel_rfl) Tryz.func17 (v:=iv 2) (by kernel_rfl) ⟨rfl,rfl,rfl⟩
  ·intro hb5 heq
   refine Sa 3<|Zd 1<|An 2 ?_
   exact Gt 0 [] (((smithyardref7_CheckCache.l3_c (e2:=smithyardref7_CheckCache.e2) (smithyardref7_CheckCache.e2_c)) big) a0 _ _ _ _ _ 0 hra0_2 hca0_2 hra0_3 hca0_3 heq)
theorem smithyardref7_CheckCache.l4_c {r:Int} (e1:Cache→Option Int)
  (he1:∀ (a0:Cache) (Aa0_2:Option Addr) (ca0_2:Nat) (Aa0_3:Option Addr) (ca0_3 g1:Nat) ,Rw kBlob H F Aa0_2 a0.Blobs→a0.Blobs.length≤ca0_2→Rw kEntry H F Aa0_3 a0.Entries→a0.Entries.length≤ca0_3→e1 a0=some r→RunH C17 (S17 F H r) H w0 [.c [1,1,1,1,0,0],.c [1,1,1,1,0,1],.c [1,1,1,1,1]] [(1,pg g1 0)] H ((some (g1,.cells #[iv a0.Room,iv a0.Lease,.slice Aa0_2 a0.Blobs.length ca0_2,.slice Aa0_3 a0.Entries.length ca0_3] 25 (0,0)))::F)):∀ (k:Nat),∀ (a0:Cache) (Aa0_2:Option Addr) (ca0_2:Nat) (Aa0_3:Option Addr) (ca0_3 g1:Nat) (v_i3:Int) ,Rw kBlob H F Aa0_2 a0.Blobs→a0.Blobs.length≤ca0_2→Rw kEntry H F Aa0_3 a0.Entries→a0.Entries.length≤ca0_3→smithyardref7_CheckCache.l4 e1 k a0 v_i3=some r→RunH C17 (S17 F H r) H w0 [.c [1,1,1,0,1,0,0],.l [1,1,1,0,1,0,0],.b 0,.c [1,1,1,1]] [(1,pg g1 0),(3,iv v_i3)] H ((some (g1,.cells #[iv a0.Room,iv a0.Lease,.slice Aa0_2 a0.Blobs.length ca0_2,.slice Aa0_3 a0.Entries.length ca0_3] 25 (0,0)))::F):=by
 intro k
 induction k with
 | zero=>intro a0 Aa0_2 ca0_2 Aa0_3 ca0_3 g1 v_i3 hra0_2 hca0_2 hra0_3 hca0_3 heq; exact nomatch (show (none:Option Int)=some r from heq)
 | succ k ihk =>
  intro a0 Aa0_2 ca0_2 Aa0_3 ca0_3 g1 v_i3 hra0_2 hca0_2 hra0_3 hca0_3 heq
  rw [smithyardref7_CheckCache.l4] at heq
  refine Sa 2<|Zw 5 [bx 0 2] ?_
  refine Cb heq ?_ ?_
  ·intro hb13 heq
   refine Sa 4 ?_
   obtain ⟨x3,hx3,heq⟩:=bind_some heq
   obtain ⟨ha3,cs3,hK3,hcc3⟩:=hra0_2.get hx3
   obtain ⟨rfl⟩:=kBlob_open hK3
   refine Zv 5 ([bx 0 2,nx ha3 hx3]++ers hcc3 1) ?_
   refine RgH.does (DoesH.new (d:=4) (v:=fun g=>.pointer (some ⟨g,0,none⟩)) (o:=fun g=>.cells #[.string ByteArray.empty,iv 0,iv 0,iv 0,iv 0] 45 (0,0)) (fun g=>by kernel_rfl)) ?_
   rintro _ _ _ _ ⟨g3,rfl,rfl,rfl⟩
   refine RgH.does (DoesH.store (k:=0) (g:=g3) (off:=0) (v:=.agg #[.string x3.Digest,iv x3.Size,iv x3.Used,iv x3.Until,iv x3.Pins]) (cells':=#[.string x3.Digest,iv x3.Size,iv x3.Used,iv x3.Until,iv x3.Pins]) (by kernel_rfl) rfl (by kernel_rfl) (by kernel_rfl)) ?_
   rintro _ _ _ _ ⟨rfl,rfl,rfl⟩
   refine RgH.nrm ?_
   refine Dn<|Sa 2<|Zv 2 [bx 0 0] ?_
   obtain ⟨y7,hy7,heq⟩:=bind_some heq
   refine RgH.does (cal 36 (smithyardref1_IsDigest_c hy7 )) ?_
   rintro _ _ _ _ ⟨_,rfl,rfl,rfl,rfl⟩
   refine Zd 4 ?_
   refine Cb heq ?_ ?_
   ·intro hb14 heq
    refine Sa 1<|Zd 1 ?_
    obtain rfl:=Option.some.inj heq
    refine Up 2 [] ?_
    exact RunH.done (by kernel_rfl) Tryz.func17 (v:=iv 3) (by kernel_rfl) ⟨rfl,rfl,rfl⟩
   ·intro hb14 heq
    refine An 3 ?_
    obtain ⟨t3,ht3,heq⟩:=bind_some heq
    have K6:RunH C17 (S17 F H r) H w0 [.c [1,1,1,0,1,0,0,1,0,0,1,1,0,1],.c [1,1,1,0,1,0,0,1,0,0,1,1,1],.b 1,.c [1,1,1,0,1,0,0,1,1],.l [1,1,1,0,1,0,0],.b 0,.c [1,1,1,1]] [(1,pg g1 0),(3,iv v_i3),(4,pg g3 0),(59,.bool t3)] H ((some (g3,.cells #[.string x3.Digest,iv x3.Size,iv x3.Used,iv x3.Until,iv x3.Pins] 45 (0,0)))::(some (g1,.cells #[iv a0.Room,iv a0.Lease,.slice Aa0_2 a0.Blobs.length ca0_2,.slice Aa0_3 a0.Entries.length ca0_3] 25 (0,0)))::F):=by
     refine Cb heq ?_ ?_
     ·intro hb18 heq
      refine Sa 1<|Zd 1 ?_
      obtain rfl:=Option.some.inj heq
      refine Up 2 [] ?_
      exact RunH.done (by kernel_rfl) Tryz.func17 (v:=iv 1) (by kernel_rfl) ⟨rfl,rfl,rfl⟩
     ·intro hb18 heq
      refine An 2 ?_
      obtain ⟨t4,ht4,heq⟩:=bind_some heq
      have K7:RunH C17 (S17 F H r) H w0 [.c [1,1,1,0,1,0,0,1,0,0,1,1,1,1],.b 1,.c [1,1,1,0,1,0,0,1,1],.l [1,1,1,0,1,0,0],.b 0,.c [1,1,1,1]] [(1,pg g1 0),(3,iv v_i3),(73,.bool t4)] H ((some (g1,.cells #[iv a0.Room,iv a0.Lease,.slice Aa0_2 a0.Blobs.length ca0_2,.slice Aa0_3 a0.Entries.length ca0_3] 25 (0,0)))::F):=by
       refine Cb heq ?_ ?_
       ·intro hb20 heq
        refine Sa 1<|Zd 1 ?_
        obtain rfl:=Option.some.inj heq
        refine Up 1 [] ?_
        exact RunH.done (by kernel_rfl) Tryz.func17 (v:=iv 8) (by kernel_rfl) ⟨rfl,rfl,rfl⟩
       ·intro hb20 heq
        refine Sa 2<|Zd 3<|An 1 ?_
        exact Gt 0 [] (ihk a0 _ _ _ _ _ (w64 (v_i3+1)) hra0_2 hca0_2 hra0_3 hca0_3 heq)
      replace heq:=ht4
      refine Sd 0 14 [] [3,3,3,3,3,3,3,3,3,3,3,3,3,3]<|Zr [0,1,2] 11 [] (Pk 2 [0,1]) (Pk 2 [0,1]) ?_
      rcases bool_cases (decide (0<v_i3)) with hb19 | hb19
      ·replace heq:=bif_true hb19 heq
       refine Zu 62 (congrArg Value.bool hb19) ?_
       obtain ⟨x4,hx4,heq⟩:=bind_some heq
       obtain ⟨ha4,cs4,hK4,hcc4⟩:=hra0_2.get hx4
       obtain ⟨rfl⟩:=kBlob_open hK4
       refine Zr [3,4,5,6,7,8,9,10,11,12,13] 0 [bx 0 0,bx 1 2,nx ha4 hx4,er hcc4 2 0] (Pk 2 [0,1]) (Pk 2 [0,1]) ?_
       obtain rfl:=Option.some.inj heq
       refine DrH.done (by kernel_rfl) ?_
       exact Gt 1 [] (K7)
      ·replace heq:=bif_false hb19 heq
       refine Zu 62 (congrArg Value.bool hb19)<|Zr [3,4,5,6,7,8,9,10,11,12,13] 0 [] (Pk 2 [0,1]) (Pk 2 [0,1]) ?_
       obtain rfl:=Option.some.inj heq
       refine DrH.done (by kernel_rfl) ?_
       exact Gt 1 [] (K7)
    replace heq:=ht3
    refine Sa 0<|Zv 2 [bx 0 1] ?_
    obtain ⟨y8,hy8,heq⟩:=bind_some heq
    refine RgH.does (cal 40 (smithyardref7_within_c hy8 )) ?_
    rintro _ _ _ _ ⟨_,rfl,rfl,rfl,rfl⟩
    refine Zk 5 ?_
    rcases bool_cases (!y8) with hb15 | hb15
    ·replace heq:=bif_true hb15 heq
     refine Zs 42 (congrArg Value.bool hb15)<|Zk 22 ?_
     obtain rfl:=Option.some.inj heq
     refine Dn ?_
     exact Gt 0 [] (K6)
    ·replace heq:=bif_false hb15 heq
     refine Zs 42 (congrArg Value.bool hb15)<|Zv 7 [bx 0 2] ?_
     obtain ⟨y9,hy9,heq⟩:=bind_some heq
     refine RgH.does (cal 45 (smithyardref7_within_c hy9 )) ?_
     rintro _ _ _ _ ⟨_,rfl,rfl,rfl,rfl⟩
     refine Zk 11 ?_
     rcases bool_cases (!y9) with hb16 | hb16
     ·replace heq:=bif_true hb16 heq
      refine Zs 48 (congrArg Value.bool hb16)<|Zk 22 ?_
      obtain rfl:=Option.some.inj heq
      refine Dn ?_
      exact Gt 0 [] (K6)
     ·replace heq:=bif_false hb16 heq
      refine Zs 48 (congrArg Value.bool hb16)<|Zv 13 [bx 0 3] ?_
      obtain ⟨y10,hy10,heq⟩:=bind_some heq
      refine RgH.does (cal 51 (smithyardref7_within_c hy10 )) ?_
      rintro _ _ _ _ ⟨_,rfl,rfl,rfl,rfl⟩
      refine Zk 17 ?_
      rcases bool_cases (!y10) with hb17 | hb17
      ·replace heq:=bif_true hb17 heq
       refine Zs 54 (congrArg Value.bool hb17)<|Zk 22 ?_
       obtain rfl:=Option.some.inj heq
       refine Dn ?_
       exact Gt 0 [] (K6)
      ·replace heq:=bif_false hb17 heq
       refine Zs 54 (congrArg Value.bool hb17)<|Zv 19 [bx 0 4] ?_
       obtain ⟨y11,hy11,heq⟩:=bind_some heq
       refine RgH.does (cal 57 (smithyardref7_within_c hy11 )) ?_
       rintro _ _ _ _ ⟨_,rfl,rfl,rfl,rfl⟩
       refine Zk 22 ?_
       obtain rfl:=Option.some.inj heq
       refine Dn ?_
       exact Gt 0 [] (K6)
  ·intro hb13 heq
   refine An 3 ?_
   exact Gt 0 [] (he1 a0 _ _ _ _ _ hra0_2 hca0_2 hra0_3 hca0_3 heq)
theorem smithyardref7_CheckCache_c {a0:Cache} {Aa0_2:Option Addr} {na0_2 ca0_2:Nat} {Aa0_3:Option Addr} {na0_3 ca0_3:Nat} {r:Int} (heq:smithyardref7_CheckCache.f a0=some r) (hra0_2:Rw kBlob H F Aa0_2 a0.Blobs) (hca0_2:na0_2≤ca0_2) (hna0_2:na0_2=a0.Blobs.length) (hra0_3:Rw kEntry H F Aa0_3 a0.Entries) (hca0_3:na0_3≤ca0_3) (hna0_3:na0_3=a0.Entries.length):CallsH Tryz.prog 17 #[.agg #[iv a0.Room,iv a0.Lease,.slice Aa0_2 na0_2 ca0_2,.slice Aa0_3 na0_3 ca0_3]] H w0 (F) (S17 F H r):=by
 refine Co C17 Tryz.func17 Tryz.ntmps17 ?_
 subst hna0_2
 subst hna0_3
 unfold smithyardref7_CheckCache.f at heq
 refine Sa 1 ?_
 refine RgH.does (DoesH.new (d:=1) (v:=fun g=>.pointer (some ⟨g,0,none⟩)) (o:=fun g=>.cells #[iv a0.Room,iv a0.Lease,.slice Aa0_2 a0.Blobs.length ca0_2,.slice Aa0_3 a0.Entries.length ca0_3] 25 (0,0)) (fun g=>by kernel_rfl)) ?_
 rintro _ _ _ _ ⟨g1,rfl,rfl,rfl⟩
 refine Zd 2<|An 2 ?_
 obtain ⟨t1,ht1,heq⟩:=bind_some heq
 have K2:RunH C17 (S17 F H r) H w0 [.c [1,0,1],.c [1,1]] [(1,pg g1 0),(17,.bool t1)] H ((some (g1,.cells #[iv a0.Room,iv a0.Lease,.slice Aa0_2 a0.Blobs.length ca0_2,.slice Aa0_3 a0.Entries.length ca0_3] 25 (0,0)))::F):=by
  refine Cb heq ?_ ?_
  ·intro hb2 heq
   refine Sa 1<|Zd 1 ?_
   obtain rfl:=Option.some.inj heq
   refine Up 1 [] ?_
   exact RunH.done (by kernel_rfl) Tryz.func17 (v:=iv 1) (by kernel_rfl) ⟨rfl,rfl,rfl⟩
  ·intro hb2 heq
   refine Sa 3<|Zw 4 [bx 0 2] ?_
   refine Cb heq ?_ ?_
   ·intro hb3 heq
    refine Sa 1<|Zd 1 ?_
    obtain rfl:=Option.some.inj heq
    refine Up 1 [] ?_
    exact RunH.done (by kernel_rfl) Tryz.func17 (v:=iv 2) (by kernel_rfl) ⟨rfl,rfl,rfl⟩
   ·intro hb3 heq
    refine Sa 3<|Zd 1<|An 2 ?_
    exact Gt 0 [] (((smithyardref7_CheckCache.l4_c (e1:=smithyardref7_CheckCache.e1) (smithyardref7_CheckCache.e1_c)) big) a0 _ _ _ _ _ 0 hra0_2 hca0_2 hra0_3 hca0_3 heq)
 replace heq:=ht1
 refine Sa 0<|Zv 2 [bx 0 0] ?_
 obtain ⟨y1,hy1,heq⟩:=bind_some heq
 refine RgH.does (cal 10 (smithyardref7_within_c hy1 )) ?_
 rintro _ _ _ _ ⟨_,rfl,rfl,rfl,rfl⟩
 refine Zk 5 ?_
 rcases bool_cases (!y1) with hb1 | hb1
 ·replace heq:=bif_true hb1 heq
  refine Zs 12 (congrArg Value.bool hb1)<|Zk 10 ?_
  obtain rfl:=Option.some.inj heq
  refine Dn ?_
  exact Gt 0 [] (K2)
 ·replace heq:=bif_false hb1 heq
  refine Zs 12 (congrArg Value.bool hb1)<|Zv 7 [bx 0 1] ?_
  obtain ⟨y2,hy2,heq⟩:=bind_some heq
  refine RgH.does (cal 15 (smithyardref7_within_c hy2 )) ?_
  rintro _ _ _ _ ⟨_,rfl,rfl,rfl,rfl⟩
  refine Zk 10 ?_
  obtain rfl:=Option.some.inj heq
  refine Dn ?_
  exact Gt 0 [] (K2)
noncomputable def C18:Ctx:={ P:=Tryz.prog,f:=18,N:=63,c:=bodyOf Tryz.f18 }
def S18 (F:List Ch) (H0:Hp) (r:Cache) (v:Value) (H:Hp) (cs:List Ch):Prop:=∃ (g0:Nat) (A0_2:Option Addr) (c0_2:Nat) (ch0_2:Ch) (A0_3:Option Addr) (c0_3:Nat) (ch0_3:Ch),v=.pointer (some ⟨g0,0,none⟩)∧some (g0,.cells #[iv r.Room,iv r.Lease,.slice A0_2 r.Blobs.length c0_2,.slice A0_3 r.Entries.length c0_3] 25 (0,0))::ch0_2::ch0_3::F=cs∧SlOwn kBlob 45 H A0_2 c0_2 r.Blobs ch0_2∧SlOwn kEntry 47 H A0_3 c0_3 r.Entries ch0_3
theorem smithyardref7_copied.e1_c {r:Cache}:∀ (H:Hp) (a0:Cache) (g2:Nat) (A1:Option Addr) (c1:Nat) (ch1:Ch) (v_out3_3:List Entry) (Av_out3_3:Option Addr) (nv_out3_3 cv_out3_3:Nat) (chv_out3_3:Ch) ,SlOwn kBlob 45 H A1 c1 (([]:List Blob)++a0.Blobs) ch1→SlOwn kEntry 47 H Av_out3_3 cv_out3_3 v_out3_3 chv_out3_3→nv_out3_3=v_out3_3.length→smithyardref7_copied.e1 a0 v_out3_3=some r→RunH C18 (S18 F H0 r) H0 w0 [.c [1,1,1,1,0],.c [1,1,1,1,1]] [(3,pg g2 0)] H (chv_out3_3::ch1::(some (g2,.cells #[iv a0.Room,iv a0.Lease,.slice A1 ((([]:List Blob)++a0.Blobs).length) c1,.slice Av_out3_3 nv_out3_3 cv_out3_3] 25 (0,0)))::F):=by
 intro H a0 g2 A1 c1 ch1 v_out3_3 Av_out3_3 nv_out3_3 cv_out3_3 chv_out3_3 ho2 hov_out3_3 hnv_out3_3 heq
 subst hnv_out3_3
 unfold smithyardref7_copied.e1 at heq
 refine Sa 0<|Zd 2 ?_
 obtain rfl:=Option.some.inj heq
 refine Up 3 [2,1,0] ?_
 exact RunH.done (by kernel_rfl) Tryz.func18 (v:=.pointer (some ⟨g2,0,none⟩)) (by kernel_rfl) ⟨g2,A1,c1,ch1,Av_out3_3,cv_out3_3,chv_out3_3,rfl,rfl,ho2,hov_out3_3⟩
theorem smithyardref7_copied.l2_c {r:Cache} (e1:Cache→(List Entry)→Option Cache)
  (he1:∀ (H:Hp) (a0:Cache) (g2:Nat) (A1:Option Addr) (c1:Nat) (ch1:Ch) (v_out3_3:List Entry) (Av_out3_3:Option Addr) (nv_out3_3 cv_out3_3:Nat) (chv_out3_3:Ch) ,SlOwn kBlob 45 H A1 c1 (([]:List Blob)++a0.Blobs) ch1→SlOwn kEntry 47 H Av_out3_3 cv_out3_3 v_out3_3 chv_out3_3→nv_out3_3=v_out3_3.length→e1 a0 v_out3_3=some r→RunH C18 (S18 F H0 r) H0 w0 [.c [1,1,1,1,0],.c [1,1,1,1,1]] [(3,pg g2 0)] H (chv_out3_3::ch1::(some (g2,.cells #[iv a0.Room,iv a0.Lease,.slice A1 ((([]:List Blob)++a0.Blobs).length) c1,.slice Av_out3_3 nv_out3_3 cv_out3_3] 25 (0,0)))::F)):∀ (k:Nat),∀ (H:Hp) (a0:Cache) (Aa0_2:Option Addr) (ca0_2:Nat) (Aa0_3:Option Addr) (ca0_3 g1 g2:Nat) (A1:Option Addr) (c1:Nat) (ch1:Ch) (v_out3_3:List Entry) (Av_out3_3:Option Addr) (nv_out3_3 cv_out3_3:Nat) (chv_out3_3:Ch) (v_i4:Int) ,Rw kBlob H F Aa0_2 a0.Blobs→a0.Blobs.length≤ca0_2→Rw kEntry H F Aa0_3 a0.Entries→a0.Entries.length≤ca0_3→SlOwn kBlob 45 H A1 c1 (([]:List Blob)++a0.Blobs) ch1→SlOwn kEntry 47 H Av_out3_3 cv_out3_3 v_out3_3 chv_out3_3→nv_out3_3=v_out3_3.length→smithyardref7_copied.l2 e1 k a0 v_out3_3 v_i4=some r→RunH C18 (S18 F H0 r) H0 w0 [.c [1,1,1,0,1,0,0],.l [1,1,1,0,1,0,0],.b 0,.c [1,1,1,1]] [(1,pg g1 0),(3,pg g2 0),(4,iv v_i4)] H (chv_out3_3::ch1::(some (g2,.cells #[iv a0.Room,iv a0.Lease,.slice A1 ((([]:List Blob)++a0.Blobs).length) c1,.slice Av_out3_3 nv_out3_3 cv_out3_3] 25 (0,0)))::(some (g1,.cells #[iv a0.Room,iv a0.Lease,.slice Aa0_2 a0.Blobs.length ca0_2,.slice Aa0_3 a0.Entries.length ca0_3] 25 (0,0)))::F):=by
 intro k
 induction k with
 | zero=>intro H a0 Aa0_2 ca0_2 Aa0_3 ca0_3 g1 g2 A1 c1 ch1 v_out3_3 Av_out3_3 nv_out3_3 cv_out3_3 chv_out3_3 v_i4 hra0_2 hca0_2 hra0_3 hca0_3 ho2 hov_out3_3 hnv_out3_3 heq; exact nomatch (show (none:Option Cache)=some r from heq)
 | succ k ihk =>
  intro H a0 Aa0_2 ca0_2 Aa0_3 ca0_3 g1 g2 A1 c1 ch1 v_out3_3 Av_out3_3 nv_out3_3 cv_out3_3 chv_out3_3 v_i4 hra0_2 hca0_2 hra0_3 hca0_3 ho2 hov_out3_3 hnv_out3_3 heq
  subst hnv_out3_3
  rw [smithyardref7_copied.l2] at heq
  refine Sa 2<|Zw 5 [bx 3 3] ?_
  refine Cb heq ?_ ?_
  ·intro hb1 heq
   refine An 4<|Sd 0 15 [] [3,3,3,3,3,3,3,3,3,3,3,3,3,0,0] ?_
   obtain ⟨x1,hx1,heq⟩:=bind_some heq
   obtain ⟨ha1,cs1,hK1,hcc1⟩:=hra0_3.get hx1
   obtain ⟨A2,c2,rfl,hc1,hr1⟩:=kEntry_open hK1
   refine Zr [0,1,2,3,4,5,6,7,8,9,10,11,12] 2 [bx 3 3,nx ha1 hx1,er hcc1 4 0,bx 3 3,nx ha1 hx1,er hcc1 4 2] (Pk 4 [0,1,2,3]) (Pk 4 [0,1,2,3]) ?_
   refine Dz 13 (DoesH.new (d:=5) (v:=fun g=>.pointer (some ⟨g,0,none⟩)) (o:=fun g=>.cells #[.string ByteArray.empty,.slice none 0 0,iv 0] 47 (0,0)) (fun g=>by kernel_rfl)) ?_
   rintro _ _ _ _ ⟨g3,rfl,rfl,rfl⟩
   refine ⟨fun _ w hh=>⟨fun _=>(Pk 5 [1,2,3,4]) w hh,fun _=>(Pk 5 [1,2,3,4]) w hh,(fun h=>by cases h)⟩,?_⟩
   refine Dz 14 (DoesH.store (k:=0) (g:=g3) (off:=0) (v:=.agg #[.string x1.Key,.slice none 0 0,iv x1.Used]) (cells':=#[.string x1.Key,.slice none 0 0,iv x1.Used]) (by kernel_rfl) rfl (by kernel_rfl) (by kernel_rfl)) ?_
   rintro _ _ _ _ ⟨rfl,rfl,rfl⟩
   refine ⟨fun _ w hh=>⟨fun _=>(Pk 5 [1,2,3,4]) w hh,fun _=>(Pk 5 [1,2,3,4]) w hh,(fun h=>by cases h)⟩,?_⟩
   refine DrH.nrm ?_
   refine DrH.done (by kernel_rfl) ?_
   refine An 1<|Sd 0 11 [] [3,3,3,3,3,3,3,3,0,3,2] ?_
   obtain ⟨x2,hx2,heq⟩:=bind_some heq
   obtain ⟨ha2,cs2,hK2,hcc2⟩:=hra0_3.get hx2
   obtain ⟨A3,c3,rfl,hc2,hr2⟩:=kEntry_open hK2
   refine Zr [0,1,2,3,4,5,6,7] 3 [bx 0 1,bx 4 3,nx ha2 hx2,er hcc2 5 1] (Pk 5 [0,1,2,3,4]) (Pk 5 [0,1,2,3,4])<|DrH.nilc ?_
   have ho3:SlOwn Kd.string 9 H none 0 ([]:List ByteArray) none:=SlOwn.nil
   obtain ⟨hn2,heq⟩:=guard?_some heq
   refine Dz 8 (DoesH.append (d:=50) (k:=0) (t:=26) (e:=9) (bytes:=16) (kd:=Kd.string) (n:=0) (m:=x2.Refs.length) (xs:=([]:List ByteArray)) (ys:=x2.Refs) (A:=none) (B:=A3) (c:=0) (cB:=c3) (by kernel_rfl) rfl rfl (by kernel_rfl) rfl ho3 (fun w hh=>(Rw.of (F:=F) hr2).rdb (hh.drop 6)) (room_le hn2) (by have:=room_le hn2; omega)) ?_
   rintro _ _ _ _ ⟨A4,c4,ch2,rfl,rfl,rfl,ho4⟩
   refine ⟨fun _ w hh=>⟨fun _=>(Pk 6 [1,2,3,4,5]) w hh,fun _=>(Pk 6 [1,2,3,4,5]) w hh,(fun h=>by cases h)⟩,?_⟩
   refine DrH.nrm ?_
   refine Zr [9] 1 [] (Pk 6 [1,2,3,4,5]) (Pk 5 [0,1,2,3,4]) ?_
   refine Dz 10 (DoesH.store (k:=1) (g:=g3) (off:=1) (v:=.slice A4 ((([]:List ByteArray)++x2.Refs).length) c4) (cells':=#[.string x1.Key,.slice A4 ((([]:List ByteArray)++x2.Refs).length) c4,iv x1.Used]) (by kernel_rfl) rfl (by kernel_rfl) (by kernel_rfl)) ?_
   rintro _ _ _ _ ⟨rfl,rfl,rfl⟩
   refine ⟨fun _ w hh=>⟨(fun h=>by cases h),(fun h=>absurd h (by decide)),(fun h=>by cases h)⟩,?_⟩
   refine DrH.nrm ?_
   refine DrH.done (by kernel_rfl) ?_
   refine Sd 3 11 [1] [3,3,3,3,3,3,1,1,1,3,2]<|Zt [0,1,2,3,4,5] 5 ([bx 2 3]++bxs 0) (Pk 6 [1,3,4,5]) ?_
   have hc3:=ho4.cap
   refine DrH.freezeS ho4 (fun H hl hr3=>?_)
   have hle:=hl
   replace hra0_2:=hra0_2.mono hl
   replace hra0_3:=hra0_3.mono hl
   replace ho2:=ho2.mono hl
   replace hov_out3_3:=hov_out3_3.mono hl
   refine Dz 6 (DoesH.new (d:=58) (v:=fun g=>.slice (some ⟨g,0,none⟩) 1 1) (o:=fun g=>.cells #[.string x1.Key,.slice A4 ((([]:List ByteArray)++x2.Refs).length) c4,iv x1.Used] 47 (0,0)) (fun g=>by kernel_rfl)) ?_
   rintro _ _ _ _ ⟨g4,rfl,rfl,rfl⟩
   have ho5:SlOwn kEntry 47 H (some ⟨g4,0,none⟩) 1 ([(⟨x1.Key,(([]:List ByteArray)++x2.Refs),x1.Used⟩:Entry)]:List Entry) (some (g4,.cells #[.string x1.Key,.slice A4 ((([]:List ByteArray)++x2.Refs).length) c4,iv x1.Used] 47 (0,0))):=SlOwn.lit (xs:=([(⟨x1.Key,(([]:List ByteArray)++x2.Refs),x1.Used⟩:Entry)]:List Entry)) (by kernel_rfl) (Nat.le_of_ble_eq_true (by kernel_rfl)) (Kd.Rep.one (kEntry_mk hc3 hr3))
   refine ⟨fun _ w hh=>⟨(fun h=>by cases h),fun _=>(fun w hh=>(hh.le hle).pick 6 [1,3,4,5] (by kernel_rfl)) w hh,(fun h=>by cases h)⟩,?_⟩
   obtain ⟨hn3,heq⟩:=guard?_some heq
   refine Dz 7 (DoesH.append (d:=59) (k:=2) (t:=23) (e:=47) (bytes:=48) (kd:=kEntry) (n:=v_out3_3.length) (m:=1) (xs:=v_out3_3) (ys:=([(⟨x1.Key,(([]:List ByteArray)++x2.Refs),x1.Used⟩:Entry)]:List Entry)) (A:=Av_out3_3) (B:=(some ⟨g4,0,none⟩)) (c:=cv_out3_3) (cB:=1) (by kernel_rfl) rfl rfl (by kernel_rfl) rfl hov_out3_3 (fun w hh=>ho5.rdb (hh.chin 0 rfl)) (room_le hn3) (by have:=room_le hn3; omega)) ?_
   rintro _ _ _ _ ⟨A5,c5,ch3,rfl,rfl,rfl,ho6⟩
   refine ⟨fun _ w hh=>⟨(fun h=>by cases h),fun _=>(fun w hh=>(hh.le hle).pick 6 [1,3,4,5] (by kernel_rfl)) w hh,(fun h=>by cases h)⟩,?_⟩
   refine DrH.nrm ?_
   refine Dz 8 (DoesH.pureop (d:=60) (v:=.pointer (some ⟨g2,0,none⟩)) (vs:=[]) (evs:=[]) (by kernel_rfl) (fun _ _=>trivial)) ?_
   rintro _ _ _ _ ⟨rfl,rfl,rfl⟩
   refine ⟨fun _ w hh=>⟨(fun h=>by cases h),fun _=>(fun w hh=>(hh.le hle).pick 6 [1,3,4,5] (by kernel_rfl)) w hh,(fun h=>by cases h)⟩,?_⟩
   refine Zt [9] 1 [] (fun w hh=>(hh.le hle).pick 6 [1,3,4,5] (by kernel_rfl)) ?_
   refine Dz 10 (DoesH.store (k:=4) (g:=g2) (off:=3) (v:=.slice A5 ((v_out3_3++([(⟨x1.Key,(([]:List ByteArray)++x2.Refs),x1.Used⟩:Entry)]:List Entry)).length) c5) (cells':=#[iv a0.Room,iv a0.Lease,.slice A1 ((([]:List Blob)++a0.Blobs).length) c1,.slice A5 ((v_out3_3++([(⟨x1.Key,(([]:List ByteArray)++x2.Refs),x1.Used⟩:Entry)]:List Entry)).length) c5]) (by kernel_rfl) rfl (by kernel_rfl) (by kernel_rfl)) ?_
   rintro _ _ _ _ ⟨rfl,rfl,rfl⟩
   refine ⟨fun _ w hh=>⟨(fun h=>by cases h),(fun h=>absurd h (by decide)),(fun h=>by cases h)⟩,?_⟩
   refine DrH.nrm ?_
   refine DrH.done (by kernel_rfl) ?_
   refine Sa 1<|Zd 3<|An 1 ?_
   exact Gt 2 [] (ihk _ a0 _ _ _ _ _ _ _ _ _ (v_out3_3++([(⟨x1.Key,(([]:List ByteArray)++x2.Refs),x1.Used⟩:Entry)]:List Entry)) _ _ _ _ (w64 (v_i4+1)) hra0_2 hca0_2 hra0_3 hca0_3 ho2 ho6 rfl heq)
  ·intro hb1 heq
   refine An 2 ?_
   exact Gt 4 [0,1,2] (he1 _ a0 _ _ _ _ v_out3_3 _ _ _ _ ho2 hov_out3_3 rfl heq)
theorem smithyardref7_copied_c {a0:Cache} {Aa0_2:Option Addr} {na0_2 ca0_2:Nat} {Aa0_3:Option Addr} {na0_3 ca0_3:Nat} {r:Cache} (heq:smithyardref7_copied.f a0=some r) (hra0_2:Rw kBlob H0 F Aa0_2 a0.Blobs) (hca0_2:na0_2≤ca0_2) (hna0_2:na0_2=a0.Blobs.length) (hra0_3:Rw kEntry H0 F Aa0_3 a0.Entries) (hca0_3:na0_3≤ca0_3) (hna0_3:na0_3=a0.Entries.length):CallsH Tryz.prog 18 #[.agg #[iv a0.Room,iv a0.Lease,.slice Aa0_2 na0_2 ca0_2,.slice Aa0_3 na0_3 ca0_3]] H0 w0 (F) (S18 F H0 r):=by
 refine Co C18 Tryz.func18 Tryz.ntmps18 ?_
 subst hna0_2
 subst hna0_3
 unfold smithyardref7_copied.f at heq
 suffices key:∀ (H:Hp),Rw kBlob H F Aa0_2 a0.Blobs→Rw kEntry H F Aa0_3 a0.Entries→RunH C18 (S18 F H0 r) H0 w0 [.c []] (argL 0 [.agg #[iv a0.Room,iv a0.Lease,.slice Aa0_2 (a0.Blobs.length) ca0_2,.slice Aa0_3 (a0.Entries.length) ca0_3]]) H (F) from key H0 hra0_2 hra0_3
 intro H hra0_2 hra0_3
 refine Sa 1 ?_
 refine RgH.does (DoesH.new (d:=1) (v:=fun g=>.pointer (some ⟨g,0,none⟩)) (o:=fun g=>.cells #[iv a0.Room,iv a0.Lease,.slice Aa0_2 a0.Blobs.length ca0_2,.slice Aa0_3 a0.Entries.length ca0_3] 25 (0,0)) (fun g=>by kernel_rfl)) ?_
 rintro _ _ _ _ ⟨g1,rfl,rfl,rfl⟩
 refine Zd 2<|Sa 1<|Zv 5 [bx 0 0,bx 0 1] ?_
 refine RgH.does (DoesH.new (d:=11) (v:=fun g=>.pointer (some ⟨g,0,none⟩)) (o:=fun g=>.cells #[iv a0.Room,iv a0.Lease,.slice none 0 0,.slice none 0 0] 25 (0,0)) (fun g=>by kernel_rfl)) ?_
 rintro _ _ _ _ ⟨g2,rfl,rfl,rfl⟩
 refine Zd 7<|An 1<|Sd 0 11 [] [3,3,3,3,3,3,3,0,0,3,2]<|Zr [0,1,2,3,4,5,6] 4 [bx 0 2,bx 1 2] (Pk 2 [0,1]) (Pk 2 [0,1])<|DrH.nilc ?_
 have ho1:SlOwn kBlob 45 H none 0 ([]:List Blob) none:=SlOwn.nil
 obtain ⟨hn1,heq⟩:=guard?_some heq
 refine Dz 7 (DoesH.append (d:=19) (k:=0) (t:=22) (e:=45) (bytes:=48) (kd:=kBlob) (n:=0) (m:=a0.Blobs.length) (xs:=([]:List Blob)) (ys:=a0.Blobs) (A:=none) (B:=Aa0_2) (c:=0) (cB:=ca0_2) (by kernel_rfl) rfl rfl (by kernel_rfl) rfl ho1 (fun w hh=>hra0_2.rdb (hh.drop 3)) (room_le hn1) (by have:=room_le hn1; omega)) ?_
 rintro _ _ _ _ ⟨A1,c1,ch1,rfl,rfl,rfl,ho2⟩
 refine ⟨fun _ w hh=>⟨fun _=>(Pk 3 [1,2]) w hh,fun _=>(Pk 3 [1,2]) w hh,(fun h=>by cases h)⟩,?_⟩
 refine DrH.nrm ?_
 refine Dz 8 (DoesH.pureop (d:=20) (v:=.pointer (some ⟨g2,0,none⟩)) (vs:=[]) (evs:=[]) (by kernel_rfl) (fun _ _=>trivial)) ?_
 rintro _ _ _ _ ⟨rfl,rfl,rfl⟩
 refine ⟨fun _ w hh=>⟨fun _=>(Pk 3 [1,2]) w hh,fun _=>(Pk 3 [1,2]) w hh,(fun h=>by cases h)⟩,?_⟩
 refine Zr [9] 1 [] (Pk 3 [1,2]) (Pk 2 [0,1]) ?_
 refine Dz 10 (DoesH.store (k:=1) (g:=g2) (off:=2) (v:=.slice A1 ((([]:List Blob)++a0.Blobs).length) c1) (cells':=#[iv a0.Room,iv a0.Lease,.slice A1 ((([]:List Blob)++a0.Blobs).length) c1,.slice none 0 0]) (by kernel_rfl) rfl (by kernel_rfl) (by kernel_rfl)) ?_
 rintro _ _ _ _ ⟨rfl,rfl,rfl⟩
 refine ⟨fun _ w hh=>⟨(fun h=>by cases h),(fun h=>absurd h (by decide)),(fun h=>by cases h)⟩,?_⟩
 refine DrH.nrm ?_
 refine DrH.done (by kernel_rfl) ?_
 refine Sa 2<|Zd 1<|An 2<|RunH.nilc ?_
 have ho7:SlOwn kEntry 47 H none 0 ([]:List Entry) none:=SlOwn.nil
 exact Gt 0 [] (((smithyardref7_copied.l2_c (e1:=smithyardref7_copied.e1) (smithyardref7_copied.e1_c)) big) _ a0 _ _ _ _ _ _ _ _ _ ([]:List Entry) _ _ _ _ 0 hra0_2 hca0_2 hra0_3 hca0_3 ho2 ho7 rfl heq)
noncomputable def C61:Ctx:={ P:=Tryz.prog,f:=61,N:=48,c:=bodyOf Tryz.f61 }
def S61 (F:List Ch) (H0:Hp) (r:Bool) (v:Value) (H:Hp) (cs:List Ch):Prop:=H0=H∧v=.bool r∧F=cs
theorem smithyardref7_fields.j1_c {r:Bool}:∀ (a0:CacheEvent) (Aa0_3:Option Addr) (ca0_3 g1:Nat) (v_digest3 v_digests4 v_key5 v_size6:Bool) ,Rw Kd.string H F Aa0_3 a0.Digests→a0.Digests.length≤ca0_3→smithyardref7_fields.j1 a0 v_digest3 v_digests4 v_key5 v_size6=some r→RunH C61 (S61 F H r) H w0 [.c [1,1,1,0],.c [1,1,1,1]] [(1,pg g1 0),(3,.bool v_digest3),(4,.bool v_digests4),(5,.bool v_key5),(6,.bool v_size6)] H ((some (g1,.cells #[iv a0.Kind,iv a0.At,.string a0.Digest,.slice Aa0_3 a0.Digests.length ca0_3,.string a0.Key,iv a0.Size] 28 (0,0)))::F):=by
 intro a0 Aa0_3 ca0_3 g1 v_digest3 v_digests4 v_key5 v_size6 hra0_3 hca0_3 heq
 unfold smithyardref7_fields.j1 at heq
 obtain ⟨t1,ht1,heq⟩:=bind_some heq
 have K2:RunH C61 (S61 F H r) H w0 [.c [1,1,1,1]] [(2,.bool t1)] H (F):=by
  obtain rfl:=Option.some.inj heq
  exact RunH.done (by kernel_rfl) Tryz.func61 (v:=.bool t1) (by kernel_rfl) ⟨rfl,rfl,rfl⟩
 replace heq:=ht1
 refine Sa 0<|Zk 2 ?_
 rcases bool_cases (v_digest3) with hb1 | hb1
 ·replace heq:=bif_true hb1 heq
  refine Zs 18 (congrArg Value.bool hb1)<|Zk 9 ?_
  rcases bool_cases (v_digests4) with hb2 | hb2
  ·replace heq:=bif_true hb2 heq
   refine Zs 25 (congrArg Value.bool hb2)<|Zk 18 ?_
   rcases bool_cases (v_key5) with hb3 | hb3
   ·replace heq:=bif_true hb3 heq
    refine Zs 34 (congrArg Value.bool hb3)<|Zk 26 ?_
    rcases bool_cases (v_size6) with hb4 | hb4
    ·replace heq:=bif_true hb4 heq
     refine Zs 42 (congrArg Value.bool hb4)<|Zk 32 ?_
     obtain rfl:=Option.some.inj heq
     refine Dn ?_
     exact Gt 1 [] (K2)
    ·replace heq:=bif_false hb4 heq
     refine Zs 42 (congrArg Value.bool hb4)<|Zv 32 [bx 0 5] ?_
     obtain rfl:=Option.some.inj heq
     refine Dn ?_
     exact Gt 1 [] (K2)
   ·replace heq:=bif_false hb3 heq
    refine Zs 34 (congrArg Value.bool hb3)<|Zv 24 [bx 0 4] ?_
    rcases bool_cases (sEq a0.Key ({ data:=#[] }:ByteArray)) with hb5 | hb5
    ·replace heq:=bif_true hb5 heq
     refine Zs 40 (congrArg Value.bool hb5)<|Zk 26 ?_
     rcases bool_cases (v_size6) with hb6 | hb6
     ·replace heq:=bif_true hb6 heq
      refine Zs 42 (congrArg Value.bool hb6)<|Zk 32 ?_
      obtain rfl:=Option.some.inj heq
      refine Dn ?_
      exact Gt 1 [] (K2)
     ·replace heq:=bif_false hb6 heq
      refine Zs 42 (congrArg Value.bool hb6)<|Zv 32 [bx 0 5] ?_
      obtain rfl:=Option.some.inj heq
      refine Dn ?_
      exact Gt 1 [] (K2)
    ·replace heq:=bif_false hb5 heq
     refine Zs 40 (congrArg Value.bool hb5)<|Zk 32 ?_
     obtain rfl:=Option.some.inj heq
     refine Dn ?_
     exact Gt 1 [] (K2)
  ·replace heq:=bif_false hb2 heq
   refine Zs 25 (congrArg Value.bool hb2)<|Zv 16 [bx 0 3] ?_
   rcases bool_cases ((a0.Digests.length:Int) == 0) with hb7 | hb7
   ·replace heq:=bif_true hb7 heq
    refine Zs 32 (congrArg Value.bool hb7)<|Zk 18 ?_
    rcases bool_cases (v_key5) with hb8 | hb8
    ·replace heq:=bif_true hb8 heq
     refine Zs 34 (congrArg Value.bool hb8)<|Zk 26 ?_
     rcases bool_cases (v_size6) with hb9 | hb9
     ·replace heq:=bif_true hb9 heq
      refine Zs 42 (congrArg Value.bool hb9)<|Zk 32 ?_
      obtain rfl:=Option.some.inj heq
      refine Dn ?_
      exact Gt 1 [] (K2)
     ·replace heq:=bif_false hb9 heq
      refine Zs 42 (congrArg Value.bool hb9)<|Zv 32 [bx 0 5] ?_
      obtain rfl:=Option.some.inj heq
      refine Dn ?_
      exact Gt 1 [] (K2)
    ·replace heq:=bif_false hb8 heq
     refine Zs 34 (congrArg Value.bool hb8)<|Zv 24 [bx 0 4] ?_
     rcases bool_cases (sEq a0.Key ({ data:=#[] }:ByteArray)) with hb10 | hb10
     ·replace heq:=bif_true hb10 heq
      refine Zs 40 (congrArg Value.bool hb10)<|Zk 26 ?_
      rcases bool_cases (v_size6) with hb11 | hb11
      ·replace heq:=bif_true hb11 heq
       refine Zs 42 (congrArg Value.bool hb11)<|Zk 32 ?_
       obtain rfl:=Option.some.inj heq
       refine Dn ?_
       exact Gt 1 [] (K2)
      ·replace heq:=bif_false hb11 heq
       refine Zs 42 (congrArg Value.bool hb11)<|Zv 32 [bx 0 5] ?_
       obtain rfl:=Option.some.inj heq
       refine Dn ?_
       exact Gt 1 [] (K2)
     ·replace heq:=bif_false hb10 heq
      refine Zs 40 (congrArg Value.bool hb10)<|Zk 32 ?_
      obtain rfl:=Option.some.inj heq
      refine Dn ?_
      exact Gt 1 [] (K2)
   ·replace heq:=bif_false hb7 heq
    refine Zs 32 (congrArg Value.bool hb7)<|Zk 32 ?_
    obtain rfl:=Option.some.inj heq
    refine Dn ?_
    exact Gt 1 [] (K2)
 ·replace heq:=bif_false hb1 heq
  refine Zs 18 (congrArg Value.bool hb1)<|Zv 7 [bx 0 2] ?_
  rcases bool_cases (sEq a0.Digest ({ data:=#[] }:ByteArray)) with hb12 | hb12
  ·replace heq:=bif_true hb12 heq
   refine Zs 23 (congrArg Value.bool hb12)<|Zk 9 ?_
   rcases bool_cases (v_digests4) with hb13 | hb13
   ·replace heq:=bif_true hb13 heq
    refine Zs 25 (congrArg Value.bool hb13)<|Zk 18 ?_
    rcases bool_cases (v_key5) with hb14 | hb14
    ·replace heq:=bif_true hb14 heq
     refine Zs 34 (congrArg Value.bool hb14)<|Zk 26 ?_
     rcases bool_cases (v_size6) with hb15 | hb15
     ·replace heq:=bif_true hb15 heq
      refine Zs 42 (congrArg Value.bool hb15)<|Zk 32 ?_
      obtain rfl:=Option.some.inj heq
      refine Dn ?_
      exact Gt 1 [] (K2)
     ·replace heq:=bif_false hb15 heq
      refine Zs 42 (congrArg Value.bool hb15)<|Zv 32 [bx 0 5] ?_
      obtain rfl:=Option.some.inj heq
      refine Dn ?_
      exact Gt 1 [] (K2)
    ·replace heq:=bif_false hb14 heq
     refine Zs 34 (congrArg Value.bool hb14)<|Zv 24 [bx 0 4] ?_
     rcases bool_cases (sEq a0.Key ({ data:=#[] }:ByteArray)) with hb16 | hb16
     ·replace heq:=bif_true hb16 heq
      refine Zs 40 (congrArg Value.bool hb16)<|Zk 26 ?_
      rcases bool_cases (v_size6) with hb17 | hb17
      ·replace heq:=bif_true hb17 heq
       refine Zs 42 (congrArg Value.bool hb17)<|Zk 32 ?_
       obtain rfl:=Option.some.inj heq
       refine Dn ?_
       exact Gt 1 [] (K2)
      ·replace heq:=bif_false hb17 heq
       refine Zs 42 (congrArg Value.bool hb17)<|Zv 32 [bx 0 5] ?_
       obtain rfl:=Option.some.inj heq
       refine Dn ?_
       exact Gt 1 [] (K2)
     ·replace heq:=bif_false hb16 heq
      refine Zs 40 (congrArg Value.bool hb16)<|Zk 32 ?_
      obtain rfl:=Option.some.inj heq
      refine Dn ?_
      exact Gt 1 [] (K2)
   ·replace heq:=bif_false hb13 heq
    refine Zs 25 (congrArg Value.bool hb13)<|Zv 16 [bx 0 3] ?_
    rcases bool_cases ((a0.Digests.length:Int) == 0) with hb18 | hb18
    ·replace heq:=bif_true hb18 heq
     refine Zs 32 (congrArg Value.bool hb18)<|Zk 18 ?_
     rcases bool_cases (v_key5) with hb19 | hb19
     ·replace heq:=bif_true hb19 heq
      refine Zs 34 (congrArg Value.bool hb19)<|Zk 26 ?_
      rcases bool_cases (v_size6) with hb20 | hb20
      ·replace heq:=bif_true hb20 heq
       refine Zs 42 (congrArg Value.bool hb20)<|Zk 32 ?_
       obtain rfl:=Option.some.inj heq
       refine Dn ?_
       exact Gt 1 [] (K2)
      ·replace heq:=bif_false hb20 heq
       refine Zs 42 (congrArg Value.bool hb20)<|Zv 32 [bx 0 5] ?_
       obtain rfl:=Option.some.inj heq
       refine Dn ?_
       exact Gt 1 [] (K2)
     ·replace heq:=bif_false hb19 heq
      refine Zs 34 (congrArg Value.bool hb19)<|Zv 24 [bx 0 4] ?_
      rcases bool_cases (sEq a0.Key ({ data:=#[] }:ByteArray)) with hb21 | hb21
      ·replace heq:=bif_true hb21 heq
       refine Zs 40 (congrArg Value.bool hb21)<|Zk 26 ?_
       rcases bool_cases (v_size6) with hb22 | hb22
       ·replace heq:=bif_true hb22 heq
        refine Zs 42 (congrArg Value.bool hb22)<|Zk 32 ?_
        obtain rfl:=Option.some.inj heq
        refine Dn ?_
        exact Gt 1 [] (K2)
       ·replace heq:=bif_false hb22 heq
        refine Zs 42 (congrArg Value.bool hb22)<|Zv 32 [bx 0 5] ?_
        obtain rfl:=Option.some.inj heq
        refine Dn ?_
        exact Gt 1 [] (K2)
      ·replace heq:=bif_false hb21 heq
       refine Zs 40 (congrArg Value.bool hb21)<|Zk 32 ?_
       obtain rfl:=Option.some.inj heq
       refine Dn ?_
       exact Gt 1 [] (K2)
    ·replace heq:=bif_false hb18 heq
     refine Zs 32 (congrArg Value.bool hb18)<|Zk 32 ?_
     obtain rfl:=Option.some.inj heq
     refine Dn ?_
     exact Gt 1 [] (K2)
  ·replace heq:=bif_false hb12 heq
   refine Zs 23 (congrArg Value.bool hb12)<|Zk 32 ?_
   obtain rfl:=Option.some.inj heq
   refine Dn ?_
   exact Gt 1 [] (K2)
theorem smithyardref7_fields_c {a0:CacheEvent} {Aa0_3:Option Addr} {na0_3 ca0_3:Nat} {r:Bool} (heq:smithyardref7_fields.f a0=some r) (hra0_3:Rw Kd.string H F Aa0_3 a0.Digests) (hca0_3:na0_3≤ca0_3) (hna0_3:na0_3=a0.Digests.length):CallsH Tryz.prog 61 #[.agg #[iv a0.Kind,iv a0.At,.string a0.Digest,.slice Aa0_3 na0_3 ca0_3,.string a0.Key,iv a0.Size]] H w0 (F) (S61 F H r):=by
 refine Co C61 Tryz.func61 Tryz.ntmps61 ?_
 subst hna0_3
 unfold smithyardref7_fields.f at heq
 refine Sa 1 ?_
 refine RgH.does (DoesH.new (d:=1) (v:=fun g=>.pointer (some ⟨g,0,none⟩)) (o:=fun g=>.cells #[iv a0.Kind,iv a0.At,.string a0.Digest,.slice Aa0_3 a0.Digests.length ca0_3,.string a0.Key,iv a0.Size] 28 (0,0)) (fun g=>by kernel_rfl)) ?_
 rintro _ _ _ _ ⟨g1,rfl,rfl,rfl⟩
 refine Zd 2<|Sa 1<|Zd 4<|Sa 2<|Zw 2 [bx 0 0]<|Sa 2<|Zd 2 ?_
 refine Cb heq ?_ ?_
 ·intro hb23 heq
  refine Sa 0<|Zd 2<|An 2 ?_
  exact Gt 0 [] ((smithyardref7_fields.j1_c) a0 _ _ _ true false false true hra0_3 hca0_3 heq)
 ·intro hb23 heq
  refine Sa 1<|Zd 2 ?_
  refine Cb heq ?_ ?_
  ·intro hb24 heq
   refine Sa 0<|Zd 1<|An 2 ?_
   exact Gt 0 [] ((smithyardref7_fields.j1_c) a0 _ _ _ false true false false hra0_3 hca0_3 heq)
  ·intro hb24 heq
   refine Sa 1<|Zd 2 ?_
   refine Cb heq ?_ ?_
   ·intro hb25 heq
    refine Sa 0<|Zd 2<|An 2 ?_
    exact Gt 0 [] ((smithyardref7_fields.j1_c) a0 _ _ _ false true true false hra0_3 hca0_3 heq)
   ·intro hb25 heq
    refine Sa 1<|Zd 2 ?_
    refine Cb heq ?_ ?_
    ·intro hb26 heq
     refine Sa 0<|Zd 1<|An 2 ?_
     exact Gt 0 [] ((smithyardref7_fields.j1_c) a0 _ _ _ false false true false hra0_3 hca0_3 heq)
    ·intro hb26 heq
     refine Sa 0<|Zd 1<|An 2 ?_
     exact Gt 0 [] ((smithyardref7_fields.j1_c) a0 _ _ _ true false false false hra0_3 hca0_3 heq)
noncomputable def C62:Ctx:={ P:=Tryz.prog,f:=62,N:=26,c:=bodyOf Tryz.f62 }
def S62 (F:List Ch) (H0:Hp) (r:Int) (v:Value) (H:Hp) (cs:List Ch):Prop:=H0=H∧v=iv r∧F=cs
theorem smithyardref7_blob.e1_c {r:Int}:smithyardref7_blob.e1=some r→RunH C62 (S62 F H r) H w0 [.c [1,1,0],.c [1,1,1]] [] H (F):=by
 intro   heq
 unfold smithyardref7_blob.e1 at heq
 refine Sa 0<|Zd 1 ?_
 obtain rfl:=Option.some.inj heq
 exact RunH.done (by kernel_rfl) Tryz.func62 (v:=iv (-1)) (by kernel_rfl) ⟨rfl,rfl,rfl⟩
theorem smithyardref7_blob.l2_c {r:Int} (e1:Option Int)
  (he1:e1=some r→RunH C62 (S62 F H r) H w0 [.c [1,1,0],.c [1,1,1]] [] H (F)):∀ (k:Nat),∀ (ga0:Nat) (a0:Cache) (Aa0_2:Option Addr) (ca0_2:Nat) (Aa0_3:Option Addr) (ca0_3:Nat) (a1:ByteArray) (v_i5:Int) ,Rw kBlob H F Aa0_2 a0.Blobs→a0.Blobs.length≤ca0_2→Rw kEntry H F Aa0_3 a0.Entries→a0.Entries.length≤ca0_3→InG H F ga0 (.cells #[iv a0.Room,iv a0.Lease,.slice Aa0_2 a0.Blobs.length ca0_2,.slice Aa0_3 a0.Entries.length ca0_3] 25 (0,0))→smithyardref7_blob.l2 e1 k a0 a1 v_i5=some r→RunH C62 (S62 F H r) H w0 [.c [1,0,1,0,0],.l [1,0,1,0,0],.b 0,.c [1,1]] [(0,pg ga0 0),(1,.string a1),(5,iv v_i5)] H (F):=by
 intro k
 induction k with
 | zero=>intro ga0 a0 Aa0_2 ca0_2 Aa0_3 ca0_3 a1 v_i5 hra0_2 hca0_2 hra0_3 hca0_3 hga0 heq; exact nomatch (show (none:Option Int)=some r from heq)
 | succ k ihk =>
  intro ga0 a0 Aa0_2 ca0_2 Aa0_3 ca0_3 a1 v_i5 hra0_2 hca0_2 hra0_3 hca0_3 hga0 heq
  rw [smithyardref7_blob.l2] at heq
  refine Sa 2<|Zw 7 [rb hga0 0 2] ?_
  refine Cb heq ?_ ?_
  ·intro hb1 heq
   refine Sa 4 ?_
   obtain ⟨x1,hx1,heq⟩:=bind_some heq
   obtain ⟨ha1,cs1,hK1,hcc1⟩:=hra0_2.get hx1
   obtain ⟨rfl⟩:=kBlob_open hK1
   refine Zw 10 [rb hga0 0 2,nx ha1 hx1,er hcc1 0 0] ?_
   refine Cb heq ?_ ?_
   ·intro hb2 heq
    refine Sa 1<|Zd 2 ?_
    obtain rfl:=Option.some.inj heq
    exact RunH.done (by kernel_rfl) Tryz.func62 (v:=iv v_i5) (by kernel_rfl) ⟨rfl,rfl,rfl⟩
   ·intro hb2 heq
    refine Sa 2<|Zd 3<|An 1 ?_
    exact Gt 0 [] (ihk _ a0 _ _ _ _ a1 (w64 (v_i5+1)) hra0_2 hca0_2 hra0_3 hca0_3 hga0 heq)
  ·intro hb1 heq
   refine An 2 ?_
   exact Gt 0 [] (he1 heq)
theorem smithyardref7_blob_c {ga0:Nat} {a0:Cache} {Aa0_2:Option Addr} {na0_2 ca0_2:Nat} {Aa0_3:Option Addr} {na0_3 ca0_3:Nat} {a1:ByteArray} {r:Int} (heq:smithyardref7_blob.f a0 a1=some r) (hra0_2:Rw kBlob H F Aa0_2 a0.Blobs) (hca0_2:na0_2≤ca0_2) (hna0_2:na0_2=a0.Blobs.length) (hra0_3:Rw kEntry H F Aa0_3 a0.Entries) (hca0_3:na0_3≤ca0_3) (hna0_3:na0_3=a0.Entries.length) (hga0:InG H F ga0 (.cells #[iv a0.Room,iv a0.Lease,.slice Aa0_2 na0_2 ca0_2,.slice Aa0_3 na0_3 ca0_3] 25 (0,0))):CallsH Tryz.prog 62 #[.pointer (some ⟨ga0,0,none⟩),.string a1] H w0 (F) (S62 F H r):=by
 refine Co C62 Tryz.func62 Tryz.ntmps62 ?_
 subst hna0_2
 subst hna0_3
 unfold smithyardref7_blob.f at heq
 refine Sa 1<|Zd 1<|Sa 2<|Zd 1<|An 2 ?_
 exact Gt 0 [] (((smithyardref7_blob.l2_c (e1:=smithyardref7_blob.e1) (smithyardref7_blob.e1_c)) big) _ a0 _ _ _ _ a1 0 hra0_2 hca0_2 hra0_3 hca0_3 hga0 heq)
noncomputable def C43:Ctx:={ P:=Tryz.prog,f:=43,N:=156,c:=bodyOf Tryz.f43 }
def S43 (F:List Ch) (H0:Hp) (r:Int) (v:Value) (H:Hp) (cs:List Ch):Prop:=H0=H∧v=iv r∧F=cs
theorem smithyardref7_checkEvent.e2_c {r:Int}:∀ (ga0:Nat) (a0:Cache) (Aa0_2:Option Addr) (ca0_2:Nat) (Aa0_3:Option Addr) (ca0_3:Nat) (a1:CacheEvent) (Aa1_3:Option Addr) (ca1_3 g1:Nat) ,Rw kBlob H F Aa0_2 a0.Blobs→a0.Blobs.length≤ca0_2→Rw kEntry H F Aa0_3 a0.Entries→a0.Entries.length≤ca0_3→InG H F ga0 (.cells #[iv a0.Room,iv a0.Lease,.slice Aa0_2 a0.Blobs.length ca0_2,.slice Aa0_3 a0.Entries.length ca0_3] 25 (0,0))→Rw Kd.string H F Aa1_3 a1.Digests→a1.Digests.length≤ca1_3→smithyardref7_checkEvent.e2 a0 a1=some r→RunH C43 (S43 F H r) H w0 [.c [1,1,1,1,1,1,1,1,1,1,1,0,0],.c [1,1,1,1,1,1,1,1,1,1,1,0,1],.c [1,1,1,1,1,1,1,1,1,1,1,1]] [(0,pg ga0 0),(3,pg g1 0)] H ((some (g1,.cells #[iv a1.Kind,iv a1.At,.string a1.Digest,.slice Aa1_3 a1.Digests.length ca1_3,.string a1.Key,iv a1.Size] 28 (0,0)))::F):=by
 intro ga0 a0 Aa0_2 ca0_2 Aa0_3 ca0_3 a1 Aa1_3 ca1_3 g1 hra0_2 hca0_2 hra0_3 hca0_3 hga0 hra1_3 hca1_3 heq
 unfold smithyardref7_checkEvent.e2 at heq
 refine Sa 0<|Zv 3 [bx 0 2] ?_
 obtain ⟨y9,hy9,heq⟩:=bind_some heq
 refine RgH.does (cal 113 (smithyardref7_blob_c hy9 (hra0_2.wk (fun _ h=>(.tail _ h))) hca0_2 rfl (hra0_3.wk (fun _ h=>(.tail _ h))) hca0_3 rfl (hga0.wk (fun _ h=>(.tail _ h))))) ?_
 rintro _ _ _ _ ⟨_,rfl,rfl,rfl,rfl⟩
 refine Zd 5<|An 1 ?_
 obtain ⟨t5,ht5,heq⟩:=bind_some heq
 have K6:RunH C43 (S43 F H r) H w0 [.c [1,1,1,1,1,1,1,1,1,1,1,0,1,1],.c [1,1,1,1,1,1,1,1,1,1,1,1]] [(0,pg ga0 0),(3,pg g1 0),(133,.bool t5)] H ((some (g1,.cells #[iv a1.Kind,iv a1.At,.string a1.Digest,.slice Aa1_3 a1.Digests.length ca1_3,.string a1.Key,iv a1.Size] 28 (0,0)))::F):=by
  refine Cb heq ?_ ?_
  ·intro hb16 heq
   refine Sa 1<|Zd 1 ?_
   obtain rfl:=Option.some.inj heq
   refine Up 1 [] ?_
   exact RunH.done (by kernel_rfl) Tryz.func43 (v:=iv 12) (by kernel_rfl) ⟨rfl,rfl,rfl⟩
  ·intro hb16 heq
   refine Sa 3<|Zv 3 [bx 0 2] ?_
   obtain ⟨y10,hy10,heq⟩:=bind_some heq
   refine RgH.does (cal 137 (smithyardref7_blob_c hy10 (hra0_2.wk (fun _ h=>(.tail _ h))) hca0_2 rfl (hra0_3.wk (fun _ h=>(.tail _ h))) hca0_3 rfl (hga0.wk (fun _ h=>(.tail _ h))))) ?_
   rintro _ _ _ _ ⟨_,rfl,rfl,rfl,rfl⟩
   refine Zd 5<|An 1 ?_
   obtain ⟨t6,ht6,heq⟩:=bind_some heq
   have K7:RunH C43 (S43 F H r) H w0 [.c [1,1,1,1,1,1,1,1,1,1,1,1,0,1,1],.c [1,1,1,1,1,1,1,1,1,1,1,1,1]] [(155,.bool t6)] H (F):=by
    refine Cb heq ?_ ?_
    ·intro hb19 heq
     refine Sa 1<|Zd 1 ?_
     obtain rfl:=Option.some.inj heq
     exact RunH.done (by kernel_rfl) Tryz.func43 (v:=iv 16) (by kernel_rfl) ⟨rfl,rfl,rfl⟩
    ·intro hb19 heq
     refine Sa 2<|Zd 1 ?_
     obtain rfl:=Option.some.inj heq
     exact RunH.done (by kernel_rfl) Tryz.func43 (v:=iv 0) (by kernel_rfl) ⟨rfl,rfl,rfl⟩
   replace heq:=ht6
   refine Sa 0<|Zv 4 [bx 0 0] ?_
   rcases bool_cases (a1.Kind == 4) with hb17 | hb17
   ·replace heq:=bif_true hb17 heq
    refine Zs 141 (congrArg Value.bool hb17)<|Zk 8 ?_
    rcases bool_cases (decide (0≤y10)) with hb18 | hb18
    ·replace heq:=bif_true hb18 heq
     refine Zs 145 (congrArg Value.bool hb18) ?_
     obtain ⟨x2,hx2,heq⟩:=bind_some heq
     obtain ⟨ha2,cs2,hK2,hcc2⟩:=hra0_2.get hx2
     obtain ⟨rfl⟩:=kBlob_open hK2
     refine Zv 18 [rb hga0 1 2,nx ha2 hx2,er hcc2 1 4] ?_
     obtain rfl:=Option.some.inj heq
     refine Dn ?_
     exact Gt 1 [] (K7)
    ·replace heq:=bif_false hb18 heq
     refine Zs 145 (congrArg Value.bool hb18)<|Zk 18 ?_
     obtain rfl:=Option.some.inj heq
     refine Dn ?_
     exact Gt 1 [] (K7)
   ·replace heq:=bif_false hb17 heq
    refine Zs 141 (congrArg Value.bool hb17)<|Zk 18 ?_
    obtain rfl:=Option.some.inj heq
    refine Dn ?_
    exact Gt 1 [] (K7)
 replace heq:=ht5
 refine Sd 0 20 [] [3,3,3,3,3,3,3,3,3,3,3,3,3,3,3,3,3,3,3,3]<|Zr [0,1,2,3] 16 [bx 0 0] (Pk 1 [0]) (Pk 1 [0]) ?_
 rcases bool_cases (a1.Kind == 1) with hb14 | hb14
 ·replace heq:=bif_true hb14 heq
  refine Zu 117 (congrArg Value.bool hb14)<|Zr [4,5,6,7] 12 [] (Pk 1 [0]) (Pk 1 [0]) ?_
  rcases bool_cases (decide (0≤y9)) with hb15 | hb15
  ·replace heq:=bif_true hb15 heq
   refine Zu 121 (congrArg Value.bool hb15) ?_
   obtain ⟨x1,hx1,heq⟩:=bind_some heq
   obtain ⟨ha1,cs1,hK1,hcc1⟩:=hra0_2.get hx1
   obtain ⟨rfl⟩:=kBlob_open hK1
   refine Zr [8,9,10,11,12,13,14,15,16,17,18,19] 0 [rb hga0 1 2,nx ha1 hx1,er hcc1 1 1,bx 0 5] (Pk 1 [0]) (Pk 1 [0]) ?_
   obtain rfl:=Option.some.inj heq
   refine DrH.done (by kernel_rfl) ?_
   exact Gt 0 [] (K6)
  ·replace heq:=bif_false hb15 heq
   refine Zu 121 (congrArg Value.bool hb15)<|Zr [8,9,10,11,12,13,14,15,16,17,18,19] 0 [] (Pk 1 [0]) (Pk 1 [0]) ?_
   obtain rfl:=Option.some.inj heq
   refine DrH.done (by kernel_rfl) ?_
   exact Gt 0 [] (K6)
 ·replace heq:=bif_false hb14 heq
  refine Zu 117 (congrArg Value.bool hb14)<|Zr [4,5,6,7,8,9,10,11,12,13,14,15,16,17,18,19] 0 [] (Pk 1 [0]) (Pk 1 [0]) ?_
  obtain rfl:=Option.some.inj heq
  refine DrH.done (by kernel_rfl) ?_
  exact Gt 0 [] (K6)
theorem smithyardref7_checkEvent.l3_c {r:Int} (e2:Cache→CacheEvent→Option Int)
  (he2:∀ (ga0:Nat) (a0:Cache) (Aa0_2:Option Addr) (ca0_2:Nat) (Aa0_3:Option Addr) (ca0_3:Nat) (a1:CacheEvent) (Aa1_3:Option Addr) (ca1_3 g1:Nat) ,Rw kBlob H F Aa0_2 a0.Blobs→a0.Blobs.length≤ca0_2→Rw kEntry H F Aa0_3 a0.Entries→a0.Entries.length≤ca0_3→InG H F ga0 (.cells #[iv a0.Room,iv a0.Lease,.slice Aa0_2 a0.Blobs.length ca0_2,.slice Aa0_3 a0.Entries.length ca0_3] 25 (0,0))→Rw Kd.string H F Aa1_3 a1.Digests→a1.Digests.length≤ca1_3→e2 a0 a1=some r→RunH C43 (S43 F H r) H w0 [.c [1,1,1,1,1,1,1,1,1,1,1,0,0],.c [1,1,1,1,1,1,1,1,1,1,1,0,1],.c [1,1,1,1,1,1,1,1,1,1,1,1]] [(0,pg ga0 0),(3,pg g1 0)] H ((some (g1,.cells #[iv a1.Kind,iv a1.At,.string a1.Digest,.slice Aa1_3 a1.Digests.length ca1_3,.string a1.Key,iv a1.Size] 28 (0,0)))::F)):∀ (k:Nat),∀ (ga0:Nat) (a0:Cache) (Aa0_2:Option Addr) (ca0_2:Nat) (Aa0_3:Option Addr) (ca0_3:Nat) (a1:CacheEvent) (Aa1_3:Option Addr) (ca1_3 g1:Nat) (v_i9:Int) ,Rw kBlob H F Aa0_2 a0.Blobs→a0.Blobs.length≤ca0_2→Rw kEntry H F Aa0_3 a0.Entries→a0.Entries.length≤ca0_3→InG H F ga0 (.cells #[iv a0.Room,iv a0.Lease,.slice Aa0_2 a0.Blobs.length ca0_2,.slice Aa0_3 a0.Entries.length ca0_3] 25 (0,0))→Rw Kd.string H F Aa1_3 a1.Digests→a1.Digests.length≤ca1_3→smithyardref7_checkEvent.l3 e2 k a0 a1 v_i9=some r→RunH C43 (S43 F H r) H w0 [.c [1,1,1,1,1,1,1,1,1,1,0,1,0,0],.l [1,1,1,1,1,1,1,1,1,1,0,1,0,0],.b 2,.c [1,1,1,1,1,1,1,1,1,1,1]] [(0,pg ga0 0),(3,pg g1 0),(9,iv v_i9)] H ((some (g1,.cells #[iv a1.Kind,iv a1.At,.string a1.Digest,.slice Aa1_3 a1.Digests.length ca1_3,.string a1.Key,iv a1.Size] 28 (0,0)))::F):=by
 intro k
 induction k with
 | zero=>intro ga0 a0 Aa0_2 ca0_2 Aa0_3 ca0_3 a1 Aa1_3 ca1_3 g1 v_i9 hra0_2 hca0_2 hra0_3 hca0_3 hga0 hra1_3 hca1_3 heq; exact nomatch (show (none:Option Int)=some r from heq)
 | succ k ihk =>
  intro ga0 a0 Aa0_2 ca0_2 Aa0_3 ca0_3 a1 Aa1_3 ca1_3 g1 v_i9 hra0_2 hca0_2 hra0_3 hca0_3 hga0 hra1_3 hca1_3 heq
  rw [smithyardref7_checkEvent.l3] at heq
  refine Sa 2<|Zw 7 [rb hga0 1 3] ?_
  refine Cb heq ?_ ?_
  ·intro hb20 heq
   refine An 4<|Sd 0 11 [] [3,3,3,3,3,3,3,3,3,3,3] ?_
   obtain ⟨x3,hx3,heq⟩:=bind_some heq
   obtain ⟨ha3,cs3,hK3,hcc3⟩:=hra0_3.get hx3
   obtain ⟨A1,c1,rfl,hc1,hr1⟩:=kEntry_open hK3
   refine Zr [0,1,2,3,4,5,6,7,8,9,10] 0 [rb hga0 1 3,nx ha3 hx3,er hcc3 1 2,bx 0 1] (Pk 1 [0]) (Pk 1 [0]) ?_
   refine DrH.done (by kernel_rfl) ?_
   refine Cb heq ?_ ?_
   ·intro hb21 heq
    refine Sa 1<|Zd 1 ?_
    obtain rfl:=Option.some.inj heq
    refine Up 1 [] ?_
    exact RunH.done (by kernel_rfl) Tryz.func43 (v:=iv 11) (by kernel_rfl) ⟨rfl,rfl,rfl⟩
   ·intro hb21 heq
    refine Sa 2<|Zd 3<|An 1 ?_
    exact Gt 0 [] (ihk _ a0 _ _ _ _ a1 _ _ _ (w64 (v_i9+1)) hra0_2 hca0_2 hra0_3 hca0_3 hga0 hra1_3 hca1_3 heq)
  ·intro hb20 heq
   refine An 3 ?_
   exact Gt 0 [] (he2 _ a0 _ _ _ _ a1 _ _ _ hra0_2 hca0_2 hra0_3 hca0_3 hga0 hra1_3 hca1_3 heq)
theorem smithyardref7_checkEvent.e1_c {r:Int}:∀ (ga0:Nat) (a0:Cache) (Aa0_2:Option Addr) (ca0_2:Nat) (Aa0_3:Option Addr) (ca0_3:Nat) (a1:CacheEvent) (Aa1_3:Option Addr) (ca1_3 g1:Nat) ,Rw kBlob H F Aa0_2 a0.Blobs→a0.Blobs.length≤ca0_2→Rw kEntry H F Aa0_3 a0.Entries→a0.Entries.length≤ca0_3→InG H F ga0 (.cells #[iv a0.Room,iv a0.Lease,.slice Aa0_2 a0.Blobs.length ca0_2,.slice Aa0_3 a0.Entries.length ca0_3] 25 (0,0))→Rw Kd.string H F Aa1_3 a1.Digests→a1.Digests.length≤ca1_3→smithyardref7_checkEvent.e1 a0 a1=some r→RunH C43 (S43 F H r) H w0 [.c [1,1,1,1,1,1,1,1,1,1,0,0],.c [1,1,1,1,1,1,1,1,1,1,0,1],.c [1,1,1,1,1,1,1,1,1,1,1]] [(0,pg ga0 0),(3,pg g1 0)] H ((some (g1,.cells #[iv a1.Kind,iv a1.At,.string a1.Digest,.slice Aa1_3 a1.Digests.length ca1_3,.string a1.Key,iv a1.Size] 28 (0,0)))::F):=by
 intro ga0 a0 Aa0_2 ca0_2 Aa0_3 ca0_3 a1 Aa1_3 ca1_3 g1 hra0_2 hca0_2 hra0_3 hca0_3 hga0 hra1_3 hca1_3 heq
 unfold smithyardref7_checkEvent.e1 at heq
 refine Sa 0<|Zd 1<|An 2 ?_
 exact Gt 0 [] (((smithyardref7_checkEvent.l3_c (e2:=smithyardref7_checkEvent.e2) (smithyardref7_checkEvent.e2_c)) big) _ a0 _ _ _ _ a1 _ _ _ 0 hra0_2 hca0_2 hra0_3 hca0_3 hga0 hra1_3 hca1_3 heq)
theorem smithyardref7_checkEvent.l4_c {r:Int} (e1:Cache→CacheEvent→Option Int)
  (he1:∀ (ga0:Nat) (a0:Cache) (Aa0_2:Option Addr) (ca0_2:Nat) (Aa0_3:Option Addr) (ca0_3:Nat) (a1:CacheEvent) (Aa1_3:Option Addr) (ca1_3 g1:Nat) ,Rw kBlob H F Aa0_2 a0.Blobs→a0.Blobs.length≤ca0_2→Rw kEntry H F Aa0_3 a0.Entries→a0.Entries.length≤ca0_3→InG H F ga0 (.cells #[iv a0.Room,iv a0.Lease,.slice Aa0_2 a0.Blobs.length ca0_2,.slice Aa0_3 a0.Entries.length ca0_3] 25 (0,0))→Rw Kd.string H F Aa1_3 a1.Digests→a1.Digests.length≤ca1_3→e1 a0 a1=some r→RunH C43 (S43 F H r) H w0 [.c [1,1,1,1,1,1,1,1,1,1,0,0],.c [1,1,1,1,1,1,1,1,1,1,0,1],.c [1,1,1,1,1,1,1,1,1,1,1]] [(0,pg ga0 0),(3,pg g1 0)] H ((some (g1,.cells #[iv a1.Kind,iv a1.At,.string a1.Digest,.slice Aa1_3 a1.Digests.length ca1_3,.string a1.Key,iv a1.Size] 28 (0,0)))::F)):∀ (k:Nat),∀ (ga0:Nat) (a0:Cache) (Aa0_2:Option Addr) (ca0_2:Nat) (Aa0_3:Option Addr) (ca0_3:Nat) (a1:CacheEvent) (Aa1_3:Option Addr) (ca1_3 g1:Nat) (v_i8:Int) ,Rw kBlob H F Aa0_2 a0.Blobs→a0.Blobs.length≤ca0_2→Rw kEntry H F Aa0_3 a0.Entries→a0.Entries.length≤ca0_3→InG H F ga0 (.cells #[iv a0.Room,iv a0.Lease,.slice Aa0_2 a0.Blobs.length ca0_2,.slice Aa0_3 a0.Entries.length ca0_3] 25 (0,0))→Rw Kd.string H F Aa1_3 a1.Digests→a1.Digests.length≤ca1_3→smithyardref7_checkEvent.l4 e1 k a0 a1 v_i8=some r→RunH C43 (S43 F H r) H w0 [.c [1,1,1,1,1,1,1,1,1,0,1,0,0],.l [1,1,1,1,1,1,1,1,1,0,1,0,0],.b 0,.c [1,1,1,1,1,1,1,1,1,1]] [(0,pg ga0 0),(3,pg g1 0),(8,iv v_i8)] H ((some (g1,.cells #[iv a1.Kind,iv a1.At,.string a1.Digest,.slice Aa1_3 a1.Digests.length ca1_3,.string a1.Key,iv a1.Size] 28 (0,0)))::F):=by
 intro k
 induction k with
 | zero=>intro ga0 a0 Aa0_2 ca0_2 Aa0_3 ca0_3 a1 Aa1_3 ca1_3 g1 v_i8 hra0_2 hca0_2 hra0_3 hca0_3 hga0 hra1_3 hca1_3 heq; exact nomatch (show (none:Option Int)=some r from heq)
 | succ k ihk =>
  intro ga0 a0 Aa0_2 ca0_2 Aa0_3 ca0_3 a1 Aa1_3 ca1_3 g1 v_i8 hra0_2 hca0_2 hra0_3 hca0_3 hga0 hra1_3 hca1_3 heq
  rw [smithyardref7_checkEvent.l4] at heq
  refine Sa 2<|Zw 7 [rb hga0 1 2] ?_
  refine Cb heq ?_ ?_
  ·intro hb22 heq
   refine An 4<|Sd 0 11 [] [3,3,3,3,3,3,3,3,3,3,3] ?_
   obtain ⟨x4,hx4,heq⟩:=bind_some heq
   obtain ⟨ha4,cs4,hK4,hcc4⟩:=hra0_2.get hx4
   obtain ⟨rfl⟩:=kBlob_open hK4
   refine Zr [0,1,2,3,4,5,6,7,8,9,10] 0 [rb hga0 1 2,nx ha4 hx4,er hcc4 1 2,bx 0 1] (Pk 1 [0]) (Pk 1 [0]) ?_
   refine DrH.done (by kernel_rfl) ?_
   refine Cb heq ?_ ?_
   ·intro hb23 heq
    refine Sa 1<|Zd 1 ?_
    obtain rfl:=Option.some.inj heq
    refine Up 1 [] ?_
    exact RunH.done (by kernel_rfl) Tryz.func43 (v:=iv 11) (by kernel_rfl) ⟨rfl,rfl,rfl⟩
   ·intro hb23 heq
    refine Sa 2<|Zd 3<|An 1 ?_
    exact Gt 0 [] (ihk _ a0 _ _ _ _ a1 _ _ _ (w64 (v_i8+1)) hra0_2 hca0_2 hra0_3 hca0_3 hga0 hra1_3 hca1_3 heq)
  ·intro hb22 heq
   refine An 3 ?_
   exact Gt 0 [] (he1 _ a0 _ _ _ _ a1 _ _ _ hra0_2 hca0_2 hra0_3 hca0_3 hga0 hra1_3 hca1_3 heq)
theorem smithyardref7_checkEvent_c {ga0:Nat} {a0:Cache} {Aa0_2:Option Addr} {na0_2 ca0_2:Nat} {Aa0_3:Option Addr} {na0_3 ca0_3:Nat} {a1:CacheEvent} {Aa1_3:Option Addr} {na1_3 ca1_3:Nat} {r:Int} (heq:smithyardref7_checkEvent.f a0 a1=some r) (hra0_2:Rw kBlob H F Aa0_2 a0.Blobs) (hca0_2:na0_2≤ca0_2) (hna0_2:na0_2=a0.Blobs.length) (hra0_3:Rw kEntry H F Aa0_3 a0.Entries) (hca0_3:na0_3≤ca0_3) (hna0_3:na0_3=a0.Entries.length) (hga0:InG H F ga0 (.cells #[iv a0.Room,iv a0.Lease,.slice Aa0_2 na0_2 ca0_2,.slice Aa0_3 na0_3 ca0_3] 25 (0,0))) (hra1_3:Rw Kd.string H F Aa1_3 a1.Digests) (hca1_3:na1_3≤ca1_3) (hna1_3:na1_3=a1.Digests.length):CallsH Tryz.prog 43 #[.pointer (some ⟨ga0,0,none⟩),.agg #[iv a1.Kind,iv a1.At,.string a1.Digest,.slice Aa1_3 na1_3 ca1_3,.string a1.Key,iv a1.Size]] H w0 (F) (S43 F H r):=by
 refine Co C43 Tryz.func43 Tryz.ntmps43 ?_
 subst hna0_2
 subst hna0_3
 subst hna1_3
 unfold smithyardref7_checkEvent.f at heq
 refine Sa 1 ?_
 refine RgH.does (DoesH.new (d:=3) (v:=fun g=>.pointer (some ⟨g,0,none⟩)) (o:=fun g=>.cells #[iv a1.Kind,iv a1.At,.string a1.Digest,.slice Aa1_3 a1.Digests.length ca1_3,.string a1.Key,iv a1.Size] 28 (0,0)) (fun g=>by kernel_rfl)) ?_
 rintro _ _ _ _ ⟨g1,rfl,rfl,rfl⟩
 refine Zd 2<|Sa 2<|Zv 2 [bx 0 0] ?_
 obtain ⟨y1,hy1,heq⟩:=bind_some heq
 refine RgH.does (cal 14 (smithyardref7_within_c hy1 )) ?_
 rintro _ _ _ _ ⟨_,rfl,rfl,rfl,rfl⟩
 refine Zd 4 ?_
 refine Cb heq ?_ ?_
 ·intro hb1 heq
  refine Sa 1<|Zd 1 ?_
  obtain rfl:=Option.some.inj heq
  refine Up 1 [] ?_
  exact RunH.done (by kernel_rfl) Tryz.func43 (v:=iv 4) (by kernel_rfl) ⟨rfl,rfl,rfl⟩
 ·intro hb1 heq
  refine Sa 3<|Zv 1 (bxs 0) ?_
  obtain ⟨y2,hy2,heq⟩:=bind_some heq
  refine RgH.does (cal 17 (smithyardref7_fields_c hy2 (hra1_3.wk (fun _ h=>(.tail _ h))) hca1_3 rfl)) ?_
  rintro _ _ _ _ ⟨_,rfl,rfl,rfl,rfl⟩
  refine Zd 3 ?_
  refine Cb heq ?_ ?_
  ·intro hb2 heq
   refine Sa 1<|Zd 1 ?_
   obtain rfl:=Option.some.inj heq
   refine Up 1 [] ?_
   exact RunH.done (by kernel_rfl) Tryz.func43 (v:=iv 3) (by kernel_rfl) ⟨rfl,rfl,rfl⟩
  ·intro hb2 heq
   refine An 2 ?_
   obtain ⟨t1,ht1,heq⟩:=bind_some heq
   have K2:RunH C43 (S43 F H r) H w0 [.c [1,1,1,1]] [(0,pg ga0 0),(3,pg g1 0),(5,.bool t1)] H ((some (g1,.cells #[iv a1.Kind,iv a1.At,.string a1.Digest,.slice Aa1_3 a1.Digests.length ca1_3,.string a1.Key,iv a1.Size] 28 (0,0)))::F):=by
    refine An 1 ?_
    obtain ⟨t2,ht2,heq⟩:=bind_some heq
    have K3:RunH C43 (S43 F H r) H w0 [.c [1,1,1,1,1]] [(0,pg ga0 0),(3,pg g1 0),(5,.bool t1),(6,.bool t2)] H ((some (g1,.cells #[iv a1.Kind,iv a1.At,.string a1.Digest,.slice Aa1_3 a1.Digests.length ca1_3,.string a1.Key,iv a1.Size] 28 (0,0)))::F):=by
     refine An 2 ?_
     obtain ⟨t3,ht3,heq⟩:=bind_some heq
     have K4:RunH C43 (S43 F H r) H w0 [.c [1,1,1,1,1,0,1],.c [1,1,1,1,1,1]] [(0,pg ga0 0),(3,pg g1 0),(49,.bool t3)] H ((some (g1,.cells #[iv a1.Kind,iv a1.At,.string a1.Digest,.slice Aa1_3 a1.Digests.length ca1_3,.string a1.Key,iv a1.Size] 28 (0,0)))::F):=by
      refine Cb heq ?_ ?_
      ·intro hb9 heq
       refine Sa 1<|Zd 1 ?_
       obtain rfl:=Option.some.inj heq
       refine Up 1 [] ?_
       exact RunH.done (by kernel_rfl) Tryz.func43 (v:=iv 3) (by kernel_rfl) ⟨rfl,rfl,rfl⟩
      ·intro hb9 heq
       refine Sa 3<|Zw 4 [bx 0 3] ?_
       refine Cb heq ?_ ?_
       ·intro hb10 heq
        refine Sa 1<|Zd 1 ?_
        obtain rfl:=Option.some.inj heq
        refine Up 1 [] ?_
        exact RunH.done (by kernel_rfl) Tryz.func43 (v:=iv 2) (by kernel_rfl) ⟨rfl,rfl,rfl⟩
       ·intro hb10 heq
        refine Sa 3<|Zv 2 [bx 0 3] ?_
        obtain ⟨y6,hy6,heq⟩:=bind_some heq
        refine RgH.does (cal 56 (smithyardref7_rising_c hy6 (hra1_3.wk (fun _ h=>(.tail _ h))) hca1_3 rfl)) ?_
        rintro _ _ _ _ ⟨_,rfl,rfl,rfl,rfl⟩
        refine Zd 4<|Sa 1<|Zd 2 ?_
        refine Cb heq ?_ ?_
        ·intro hb11 heq
         refine Sa 1<|Zd 2 ?_
         obtain rfl:=Option.some.inj heq
         refine Up 1 [] ?_
         exact RunH.done (by kernel_rfl) Tryz.func43 (v:=iv y6) (by kernel_rfl) ⟨rfl,rfl,rfl⟩
        ·intro hb11 heq
         refine An 3 ?_
         obtain ⟨t4,ht4,heq⟩:=bind_some heq
         have K5:RunH C43 (S43 F H r) H w0 [.c [1,1,1,1,1,1,1,1,0,1],.c [1,1,1,1,1,1,1,1,1]] [(0,pg ga0 0),(3,pg g1 0),(69,.bool t4)] H ((some (g1,.cells #[iv a1.Kind,iv a1.At,.string a1.Digest,.slice Aa1_3 a1.Digests.length ca1_3,.string a1.Key,iv a1.Size] 28 (0,0)))::F):=by
          refine Cb heq ?_ ?_
          ·intro hb13 heq
           refine Sa 1<|Zd 1 ?_
           obtain rfl:=Option.some.inj heq
           refine Up 1 [] ?_
           exact RunH.done (by kernel_rfl) Tryz.func43 (v:=iv 1) (by kernel_rfl) ⟨rfl,rfl,rfl⟩
          ·intro hb13 heq
           refine Sa 3<|Zd 1<|An 2 ?_
           exact Gt 0 [] (((smithyardref7_checkEvent.l4_c (e1:=smithyardref7_checkEvent.e1) (smithyardref7_checkEvent.e1_c)) big) _ a0 _ _ _ _ a1 _ _ _ 0 hra0_2 hca0_2 hra0_3 hca0_3 hga0 hra1_3 hca1_3 heq)
         replace heq:=ht4
         refine Sa 0<|Zv 2 [bx 0 5] ?_
         obtain ⟨y7,hy7,heq⟩:=bind_some heq
         refine RgH.does (cal 62 (smithyardref7_within_c hy7 )) ?_
         rintro _ _ _ _ ⟨_,rfl,rfl,rfl,rfl⟩
         refine Zk 5 ?_
         rcases bool_cases (!y7) with hb12 | hb12
         ·replace heq:=bif_true hb12 heq
          refine Zs 64 (congrArg Value.bool hb12)<|Zk 10 ?_
          obtain rfl:=Option.some.inj heq
          refine Dn ?_
          exact Gt 0 [] (K5)
         ·replace heq:=bif_false hb12 heq
          refine Zs 64 (congrArg Value.bool hb12)<|Zv 7 [bx 0 1] ?_
          obtain ⟨y8,hy8,heq⟩:=bind_some heq
          refine RgH.does (cal 67 (smithyardref7_within_c hy8 )) ?_
          rintro _ _ _ _ ⟨_,rfl,rfl,rfl,rfl⟩
          refine Zk 10 ?_
          obtain rfl:=Option.some.inj heq
          refine Dn ?_
          exact Gt 0 [] (K5)
     replace heq:=ht3
     refine Sa 0<|Zk 2 ?_
     rcases bool_cases (t2) with hb5 | hb5
     ·replace heq:=bif_true hb5 heq
      refine Zs 35 (congrArg Value.bool hb5)<|Zv 4 [bx 0 2] ?_
      obtain ⟨y3,hy3,heq⟩:=bind_some heq
      refine RgH.does (cal 38 (smithyardref1_IsDigest_c hy3 )) ?_
      rintro _ _ _ _ ⟨_,rfl,rfl,rfl,rfl⟩
      refine Zk 8 ?_
      rcases bool_cases (!y3) with hb6 | hb6
      ·replace heq:=bif_true hb6 heq
       refine Zs 41 (congrArg Value.bool hb6)<|Zk 16 ?_
       obtain rfl:=Option.some.inj heq
       refine Dn ?_
       exact Gt 0 [] (K4)
      ·replace heq:=bif_false hb6 heq
       refine Zs 41 (congrArg Value.bool hb6)<|Zk 10 ?_
       rcases bool_cases (t1) with hb7 | hb7
       ·replace heq:=bif_true hb7 heq
        refine Zs 43 (congrArg Value.bool hb7)<|Zv 12 [bx 0 4] ?_
        obtain ⟨y4,hy4,heq⟩:=bind_some heq
        refine RgH.does (cal 46 (smithyardref1_IsDigest_c hy4 )) ?_
        rintro _ _ _ _ ⟨_,rfl,rfl,rfl,rfl⟩
        refine Zk 16 ?_
        obtain rfl:=Option.some.inj heq
        refine Dn ?_
        exact Gt 0 [] (K4)
       ·replace heq:=bif_false hb7 heq
        refine Zs 43 (congrArg Value.bool hb7)<|Zk 16 ?_
        obtain rfl:=Option.some.inj heq
        refine Dn ?_
        exact Gt 0 [] (K4)
     ·replace heq:=bif_false hb5 heq
      refine Zs 35 (congrArg Value.bool hb5)<|Zk 10 ?_
      rcases bool_cases (t1) with hb8 | hb8
      ·replace heq:=bif_true hb8 heq
       refine Zs 43 (congrArg Value.bool hb8)<|Zv 12 [bx 0 4] ?_
       obtain ⟨y5,hy5,heq⟩:=bind_some heq
       refine RgH.does (cal 46 (smithyardref1_IsDigest_c hy5 )) ?_
       rintro _ _ _ _ ⟨_,rfl,rfl,rfl,rfl⟩
       refine Zk 16 ?_
       obtain rfl:=Option.some.inj heq
       refine Dn ?_
       exact Gt 0 [] (K4)
      ·replace heq:=bif_false hb8 heq
       refine Zs 43 (congrArg Value.bool hb8)<|Zk 16 ?_
       obtain rfl:=Option.some.inj heq
       refine Dn ?_
       exact Gt 0 [] (K4)
    replace heq:=ht2
    refine Sa 0<|Zk 3 ?_
    rcases bool_cases (!t1) with hb4 | hb4
    ·replace heq:=bif_true hb4 heq
     refine Zs 29 (congrArg Value.bool hb4)<|Zv 8 [bx 0 0] ?_
     obtain rfl:=Option.some.inj heq
     refine Dn ?_
     exact Gt 0 [] (K3)
    ·replace heq:=bif_false hb4 heq
     refine Zs 29 (congrArg Value.bool hb4)<|Zk 8 ?_
     obtain rfl:=Option.some.inj heq
     refine Dn ?_
     exact Gt 0 [] (K3)
   replace heq:=ht1
   refine Sa 0<|Zv 4 [bx 0 0] ?_
   rcases bool_cases (a1.Kind == 6) with hb3 | hb3
   ·replace heq:=bif_true hb3 heq
    refine Zs 22 (congrArg Value.bool hb3)<|Zk 9 ?_
    obtain rfl:=Option.some.inj heq
    refine Dn ?_
    exact Gt 0 [] (K2)
   ·replace heq:=bif_false hb3 heq
    refine Zs 22 (congrArg Value.bool hb3)<|Zv 9 [bx 0 0] ?_
    obtain rfl:=Option.some.inj heq
    refine Dn ?_
    exact Gt 0 [] (K2)
noncomputable def C68:Ctx:={ P:=Tryz.prog,f:=68,N:=14,c:=bodyOf Tryz.f68 }
def S68 (F:List Ch) (H0:Hp) (r:Bool) (v:Value) (H:Hp) (cs:List Ch):Prop:=H0=H∧v=.bool r∧F=cs
theorem smithyardref7_held_c {a0:Blob} {a1:Int} {r:Bool} (heq:smithyardref7_held.f a0 a1=some r):CallsH Tryz.prog 68 #[.agg #[.string a0.Digest,iv a0.Size,iv a0.Used,iv a0.Until,iv a0.Pins],iv a1] H w0 (F) (S68 F H r):=by
 refine Co C68 Tryz.func68 Tryz.ntmps68 ?_
 unfold smithyardref7_held.f at heq
 refine Sa 1 ?_
 refine RgH.does (DoesH.new (d:=2) (v:=fun g=>.pointer (some ⟨g,0,none⟩)) (o:=fun g=>.cells #[.string a0.Digest,iv a0.Size,iv a0.Used,iv a0.Until,iv a0.Pins] 45 (0,0)) (fun g=>by kernel_rfl)) ?_
 rintro _ _ _ _ ⟨g1,rfl,rfl,rfl⟩
 refine Zd 2<|An 1 ?_
 obtain ⟨t1,ht1,heq⟩:=bind_some heq
 have K2:RunH C68 (S68 F H r) H w0 [.c [1,1]] [(4,.bool t1)] H (F):=by
  obtain rfl:=Option.some.inj heq
  exact RunH.done (by kernel_rfl) Tryz.func68 (v:=.bool t1) (by kernel_rfl) ⟨rfl,rfl,rfl⟩
 replace heq:=ht1
 refine Sa 0<|Zv 4 [bx 0 4] ?_
 rcases bool_cases (decide (0<a0.Pins)) with hb1 | hb1
 ·replace heq:=bif_true hb1 heq
  refine Zs 8 (congrArg Value.bool hb1)<|Zk 10 ?_
  obtain rfl:=Option.some.inj heq
  refine Dn ?_
  exact Gt 1 [] (K2)
 ·replace heq:=bif_false hb1 heq
  refine Zs 8 (congrArg Value.bool hb1)<|Zv 10 [bx 0 3] ?_
  obtain rfl:=Option.some.inj heq
  refine Dn ?_
  exact Gt 1 [] (K2)
end Go.Proofs.YtjdnnkdhajhdkaaGreatDoor
