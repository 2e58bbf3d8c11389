/- What the machine's calls of these functions come to: just what the plain functions say. Written by program. -/
import Derived.Test.YtjdnnkdhajhdkaaGreatDoorProg
import Derived.Test.YtjdnnkdhajhdkaaGreatDoorKitXi
import Derived.Test.YtjdnnkdhajhdkaaGreatDoorZD
import Derived.Test.YtjdnnkdhajhdkaaGreatDoorShelf
import Derived.Test.YtjdnnkdhajhdkaaGreatDoorZ3M3
set_option linter.unusedVariables false
set_option linter.unnecessarySimpa false
set_option linter.unusedSimpArgs false
set_option maxRecDepth 100000
set_option maxHeartbeats 1000000
namespace Go.Proofs.YtjdnnkdhajhdkaaGreatDoor
open Go Go.RowKit Go.Proofs.YtjdnnkdhajhdkaaGreatDoor.Kit
variable {w0 : World} {H0 H : Hp} {F : List Ch}
noncomputable def C3:Ctx:={ P:=Tryz.prog,f:=3,N:=64,c:=bodyOf Tryz.f3 }
def S3 (F:List Ch) (H0:Hp) (r:Bool) (v:Value) (H:Hp) (cs:List Ch):Prop:=v=.bool r∧F=cs
theorem smithyardlaw7_CacheDoesMatchSpec_c {a0:Cache} {Aa0_2:Option Addr} {na0_2 ca0_2:Nat} {Aa0_3:Option Addr} {na0_3 ca0_3:Nat} {a1:CacheEvent} {Aa1_3:Option Addr} {na1_3 ca1_3:Nat} {r:Bool} (heq:smithyardlaw7_CacheDoesMatchSpec.f a0 a1=some r) (hra0_2:Rw kBlob H0 F Aa0_2 a0.Blobs) (hca0_2:na0_2≤ca0_2) (hna0_2:na0_2=a0.Blobs.length) (hra0_3:Rw kEntry H0 F Aa0_3 a0.Entries) (hca0_3:na0_3≤ca0_3) (hna0_3:na0_3=a0.Entries.length) (hra1_3:Kd.Row Kd.string H0 Aa1_3 a1.Digests) (hca1_3:na1_3≤ca1_3) (hna1_3:na1_3=a1.Digests.length):CallsH Tryz.prog 3 #[.agg #[iv a0.Room,iv a0.Lease,.slice Aa0_2 na0_2 ca0_2,.slice Aa0_3 na0_3 ca0_3],.agg #[iv a1.Kind,iv a1.At,.string a1.Digest,.slice Aa1_3 na1_3 ca1_3,.string a1.Key,iv a1.Size]] H0 w0 (F) (S3 F H0 r):=by
 refine Co C3 Tryz.func3 Tryz.ntmps3 ?_
 subst hna0_2
 subst hna0_3
 subst hna1_3
 unfold smithyardlaw7_CacheDoesMatchSpec.f at heq
 suffices key:∀ (H:Hp),Rw kBlob H F Aa0_2 a0.Blobs→Rw kEntry H F Aa0_3 a0.Entries→Kd.Row Kd.string H Aa1_3 a1.Digests→RunH C3 (S3 F H0 r) H0 w0 [.c []] (argL 0 [.agg #[iv a0.Room,iv a0.Lease,.slice Aa0_2 (a0.Blobs.length) ca0_2,.slice Aa0_3 (a0.Entries.length) ca0_3],.agg #[iv a1.Kind,iv a1.At,.string a1.Digest,.slice Aa1_3 (a1.Digests.length) ca1_3,.string a1.Key,iv a1.Size]]) H (F) from key H0 hra0_2 hra0_3 hra1_3
 intro H hra0_2 hra0_3 hra1_3
 refine Sa 1 ?_
 refine RgH.does (DoesH.new (d:=2) (v:=fun g=>.pointer (some ⟨g,0,none⟩)) (o:=fun g=>.cells #[iv a0.Room,iv a0.Lease,.slice Aa0_2 a0.Blobs.length ca0_2,.slice Aa0_3 a0.Entries.length ca0_3] 25 (0,0)) (fun g=>by kernel_rfl)) ?_
 rintro _ _ _ _ ⟨g1,rfl,rfl,rfl⟩
 refine RgH.does (DoesH.new (d:=3) (v:=fun g=>.pointer (some ⟨g,0,none⟩)) (o:=fun g=>.cells #[iv a1.Kind,iv a1.At,.string a1.Digest,.slice Aa1_3 a1.Digests.length ca1_3,.string a1.Key,iv a1.Size] 28 (0,0)) (fun g=>by kernel_rfl)) ?_
 rintro _ _ _ _ ⟨g2,rfl,rfl,rfl⟩
 refine Zd 3<|An 1<|Sd 0 11 [] [3,0,3,0,0,3,3,0,0,0,0]<|Zr [0,2] 9 (bxs 1++bxs 0) (Pk 2 [0,1]) (Pk 2 [0,1])<|Kr [2,3,13,15] [(2,pg g1 0),(3,pg g2 0),(13,.agg #[iv a0.Room,iv a0.Lease,.slice Aa0_2 a0.Blobs.length ca0_2,.slice Aa0_3 a0.Entries.length ca0_3]),(15,.agg #[iv a1.Kind,iv a1.At,.string a1.Digest,.slice Aa1_3 a1.Digests.length ca1_3,.string a1.Key,iv a1.Size])] ?_
 refine DrF.start [(7,5,none,.cells #[iv 0,iv 0,.slice none 0 0,.slice none 0 0] 25 (0,0)),(8,6,none,.cells #[iv 0,iv 0,.string ByteArray.empty,.slice none 0 0,.string ByteArray.empty,iv 0] 28 (0,0)),(3,16,some 1,.cells #[iv a1.Kind,iv a1.At,.string a1.Digest,.slice Aa1_3 a1.Digests.length ca1_3,.string a1.Key,iv a1.Size] 28 (0,0))] (n:=6) (by kernel_rfl) ?_
 refine DrF.keep [2,3,13,15] (L':=[(2,pg g1 0),(3,pg g2 0),(13,.agg #[iv a0.Room,iv a0.Lease,.slice Aa0_2 a0.Blobs.length ca0_2,.slice Aa0_3 a0.Entries.length ca0_3]),(15,.agg #[iv a1.Kind,iv a1.At,.string a1.Digest,.slice Aa1_3 a1.Digests.length ca1_3,.string a1.Key,iv a1.Size])]) (by kernel_rfl) (by kernel_rfl) ?_
 obtain ⟨y1,hy1,heq⟩:=bind_some heq
 refine DrF.does3 (n:=5) (ls':=[true,true,true,false,false,false,false,false,false,false,false]) (by kernel_rfl) 1 ⟨fun E g=>by kernel_rfl,fun E g=>by kernel_rfl,fun E g=>by kernel_rfl,trivial⟩ (by kernel_rfl) (by kernel_rfl) rfl (fun w hh=>⟨(Pk 2 [0,1]) w hh,(Pk 2 [0,1]) w hh⟩) (fun fc1 fc2 fc3 fE1=>cal 14 (smithyardref7_Copy_c hy1 (hra0_2.wk (fun _ h=>(.tail _ (.tail _ (.tail _ (.tail _ (.tail _ h))))))) hca0_2 rfl (hra0_3.wk (fun _ h=>(.tail _ (.tail _ (.tail _ (.tail _ (.tail _ h))))))) hca0_3 rfl)) ?_
 rintro fc1 fc2 fc3 fE1
 rintro _ H _ hl ⟨_,rfl,A1,c1,ch1,A2,c2,ch2,rfl,rfl,ho1,ho2⟩
 have hle:=hl
 replace hra0_2:=hra0_2.mono hl
 replace hra0_3:=hra0_3.mono hl
 replace hra1_3:=hra1_3.mono hl
 refine ⟨fun _ w hh=>⟨fun _=>(fun w hh=>(hh.le hle).pick 7 [5,6] (by kernel_rfl)) w hh,fun _=>(fun w hh=>(hh.le hle).pick 7 [5,6] (by kernel_rfl)) w hh,(fun h=>by cases h)⟩,[(14,.agg #[iv y1.Room,iv y1.Lease,.slice A1 y1.Blobs.length c1,.slice A2 y1.Entries.length c2]),(2,pg g1 0),(3,pg g2 0),(13,.agg #[iv a0.Room,iv a0.Lease,.slice Aa0_2 a0.Blobs.length ca0_2,.slice Aa0_3 a0.Entries.length ca0_3]),(15,.agg #[iv a1.Kind,iv a1.At,.string a1.Digest,.slice Aa1_3 a1.Digests.length ca1_3,.string a1.Key,iv a1.Size])],ch1::ch2::(some (g2,.cells #[iv a1.Kind,iv a1.At,.string a1.Digest,.slice Aa1_3 a1.Digests.length ca1_3,.string a1.Key,iv a1.Size] 28 (0,0)))::(some (g1,.cells #[iv a0.Room,iv a0.Lease,.slice Aa0_2 a0.Blobs.length ca0_2,.slice Aa0_3 a0.Entries.length ca0_3] 25 (0,0)))::F,rfl,(Pk 7 [2,3,4,0,1,5,6]),?_⟩
 refine DrF.keep [2,3,14,15] (L':=[(2,pg g1 0),(3,pg g2 0),(14,.agg #[iv y1.Room,iv y1.Lease,.slice A1 y1.Blobs.length c1,.slice A2 y1.Entries.length c2]),(15,.agg #[iv a1.Kind,iv a1.At,.string a1.Digest,.slice Aa1_3 a1.Digests.length ca1_3,.string a1.Key,iv a1.Size])]) (by kernel_rfl) (by kernel_rfl) ?_
 refine DrF.part (n:=5) (ls':=[true,true,true,true,false,false,false,false,false,false,false]) [(7,5,none,.cells #[iv 0,iv 0,.slice none 0 0,.slice none 0 0] 25 (0,0)),(8,6,none,.cells #[iv 0,iv 0,.string ByteArray.empty,.slice none 0 0,.string ByteArray.empty,iv 0] 28 (0,0))] 3 16 (some 1,.cells #[iv a1.Kind,iv a1.At,.string a1.Digest,.slice Aa1_3 a1.Digests.length ca1_3,.string a1.Key,iv a1.Size] 28 (0,0)) rfl (by kernel_rfl) ⟨fun E g=>by kernel_rfl,fun E g=>by kernel_rfl,fun E g=>by kernel_rfl,trivial⟩ (by kernel_rfl) (by kernel_rfl) (fun w hh=>⟨(fun w hh=>(hh.le hle).pick 4 [2,3] (by kernel_rfl)) w hh,(fun w hh=>(hh.le hle).pick 4 [2,3] (by kernel_rfl)) w hh⟩) rfl ?_
 intro g3
 have ho3:SlOwn kCacheEvent 28 H (some ⟨g3,0,none⟩) 1 ([a1]:List CacheEvent) (some (g3,.cells #[iv a1.Kind,iv a1.At,.string a1.Digest,.slice Aa1_3 a1.Digests.length ca1_3,.string a1.Key,iv a1.Size] 28 (0,0))):=SlOwn.lit (xs:=([a1]:List CacheEvent)) (by kernel_rfl) (Nat.le_of_ble_eq_true (by kernel_rfl)) (Kd.Rep.one (kCacheEvent_mk hca1_3 hra1_3))
 refine DrF.keep [2,3,14,16] (L':=[(2,pg g1 0),(3,pg g2 0),(14,.agg #[iv y1.Room,iv y1.Lease,.slice A1 y1.Blobs.length c1,.slice A2 y1.Entries.length c2]),(16,.slice (some ⟨g3,0,none⟩) 1 1)]) (by kernel_rfl) (by kernel_rfl) ?_
 obtain ⟨y2,hy2,heq⟩:=bind_some heq
 refine DrF.does2 (n:=4) (ls':=[true,true,true,true,true,false,false,false,false,false,false]) (by kernel_rfl) 4 ⟨fun E g=>by kernel_rfl,fun E g=>by kernel_rfl,trivial⟩ (by kernel_rfl) (by kernel_rfl) rfl (fun w hh=>⟨(fun w hh=>(hh.le hle).pick 5 [3,4] (by kernel_rfl)) w hh,(fun w hh=>(hh.le hle).pick 5 [3,4] (by kernel_rfl)) w hh⟩) (fun fc4 fc5 fE2=>cal 17 (smithyardref7_CopyEvents_c hy2 (ho3.rw (.tail _ (.tail _ (.head _)))) ho3.cap rfl)) ?_
 rintro fc4 fc5 fE2
 rintro _ H _ hl ⟨_,rfl,A3,c3,ch3,rfl,rfl,ho4⟩
 replace hle:=hle.then hl
 replace hra0_2:=hra0_2.mono hl
 replace hra0_3:=hra0_3.mono hl
 replace hra1_3:=hra1_3.mono hl
 replace ho1:=ho1.mono hl
 replace ho2:=ho2.mono hl
 replace ho3:=ho3.mono hl
 refine ⟨fun _ w hh=>⟨fun _=>(fun w hh=>(hh.le hle).pick 8 [6,7] (by kernel_rfl)) w hh,fun _=>(fun w hh=>(hh.le hle).pick 8 [6,7] (by kernel_rfl)) w hh,(fun h=>by cases h)⟩,[(17,.slice A3 y2.length c3),(2,pg g1 0),(3,pg g2 0),(14,.agg #[iv y1.Room,iv y1.Lease,.slice A1 y1.Blobs.length c1,.slice A2 y1.Entries.length c2]),(16,.slice (some ⟨g3,0,none⟩) 1 1)],ch3::(some (g3,.cells #[iv a1.Kind,iv a1.At,.string a1.Digest,.slice Aa1_3 a1.Digests.length ca1_3,.string a1.Key,iv a1.Size] 28 (0,0)))::ch1::ch2::(some (g2,.cells #[iv a1.Kind,iv a1.At,.string a1.Digest,.slice Aa1_3 a1.Digests.length ca1_3,.string a1.Key,iv a1.Size] 28 (0,0)))::(some (g1,.cells #[iv a0.Room,iv a0.Lease,.slice Aa0_2 a0.Blobs.length ca0_2,.slice Aa0_3 a0.Entries.length ca0_3] 25 (0,0)))::F,rfl,(Pk 8 [1,2,0,3,4,5,6,7]),?_⟩
 obtain ⟨x1,hx1,heq⟩:=bind_some heq
 obtain ⟨ha1,cs1,hK1,hcc1⟩:=ho4.get hx1
 obtain ⟨A4,c4,rfl,hc1,hr1⟩:=kCacheEvent_open hK1
 refine DrF.run [5] (m:=3) (ls':=[true,true,true,true,true,true,false,false,false,false,false]) (vs:=[]) (evs:=[.need (A3=some (adr A3)∧(0:Int)≤0∧0<((y2.length:Nat):Int))]) (L':=[(18,.pointer (some ((adr A3).add (0*6)))),(17,.slice A3 y2.length c3),(2,pg g1 0),(3,pg g2 0),(14,.agg #[iv y1.Room,iv y1.Lease,.slice A1 y1.Blobs.length c1,.slice A2 y1.Entries.length c2]),(16,.slice (some ⟨g3,0,none⟩) 1 1)]) (by kernel_rfl) (fun w hh=>(hh.le hle).pick 6 [4,5] (by kernel_rfl)) (Pk 2 [0,1]) (pats2 (fun E=>by kernel_rfl) (fun E=>by kernel_rfl) (fun E=>by kernel_rfl) (fun E=>by kernel_rfl)) (fun w hh=>⟨ha1,(at?_some hx1).1,(at?_some hx1).2.1⟩) (by kernel_rfl) ?_
 refine DrF.keep [2,3,14,18] (L':=[(2,pg g1 0),(3,pg g2 0),(14,.agg #[iv y1.Room,iv y1.Lease,.slice A1 y1.Blobs.length c1,.slice A2 y1.Entries.length c2]),(18,.pointer (some ((adr A3).add (0*6))))]) (by kernel_rfl) (by kernel_rfl) ?_
 refine DrF.reT (fun w=>Heap H w0 w (ch3::(some (g3,.cells #[iv a1.Kind,iv a1.At,.string a1.Digest,.slice Aa1_3 a1.Digests.length ca1_3,.string a1.Key,iv a1.Size] 28 (0,0)))::ch1::ch2::(some (g2,.cells #[iv a1.Kind,iv a1.At,.string a1.Digest,.slice Aa1_3 a1.Digests.length ca1_3,.string a1.Key,iv a1.Size] 28 (0,0)))::(some (g1,.cells #[iv a0.Room,iv a0.Lease,.slice Aa0_2 a0.Blobs.length ca0_2,.slice Aa0_3 a0.Entries.length ca0_3] 25 (0,0)))::F)) (fun w=>Heap H w0 w (ch3::(some (g3,.cells #[iv a1.Kind,iv a1.At,.string a1.Digest,.slice Aa1_3 a1.Digests.length ca1_3,.string a1.Key,iv a1.Size] 28 (0,0)))::ch1::ch2::(some (g2,.cells #[iv a1.Kind,iv a1.At,.string a1.Digest,.slice Aa1_3 a1.Digests.length ca1_3,.string a1.Key,iv a1.Size] 28 (0,0)))::(some (g1,.cells #[iv a0.Room,iv a0.Lease,.slice Aa0_2 a0.Blobs.length ca0_2,.slice Aa0_3 a0.Entries.length ca0_3] 25 (0,0)))::F)) (fun w hh=>(hh.le hle).pick 6 [4,5] (by kernel_rfl)) (fun w hh=>(hh.le hle).pick 6 [4,5] (by kernel_rfl)) ?_
 obtain ⟨ha2,cs2,hK2,hcc2⟩:=ho4.get hx1
 obtain ⟨A5,c5,rfl,hc2,hr2⟩:=kCacheEvent_open hK2
 refine DrF.run [6] (m:=2) (ls':=[true,true,true,true,true,true,true,false,false,false,false]) (vs:=[iv x1.Kind,iv x1.At,.string x1.Digest,.slice A5 x1.Digests.length c5,.string x1.Key,iv x1.Size]) (evs:=[.load (((adr A3).add (0*6)).add 0) (iv x1.Kind),.load (((adr A3).add (0*6)).add 1) (iv x1.At),.load (((adr A3).add (0*6)).add 2) (.string x1.Digest),.load (((adr A3).add (0*6)).add 3) (.slice A5 x1.Digests.length c5),.load (((adr A3).add (0*6)).add 4) (.string x1.Key),.load (((adr A3).add (0*6)).add 5) (iv x1.Size)]) (L':=[(19,.agg #[iv x1.Kind,iv x1.At,.string x1.Digest,.slice A5 x1.Digests.length c5,.string x1.Key,iv x1.Size]),(2,pg g1 0),(3,pg g2 0),(14,.agg #[iv y1.Room,iv y1.Lease,.slice A1 y1.Blobs.length c1,.slice A2 y1.Entries.length c2]),(18,.pointer (some ((adr A3).add (0*6))))]) (by kernel_rfl) (Pk 6 [0,1,2,3,4,5]) (Pk 6 [0,1,2,3,4,5]) (pats2 (fun E=>by kernel_rfl) (fun E=>by kernel_rfl) (fun E=>by kernel_rfl) (fun E=>by kernel_rfl)) (fun w hh=>⟨(hcc2 _ (hh.chin 0 rfl) 0 _ rfl),(hcc2 _ (hh.chin 0 rfl) 1 _ rfl),(hcc2 _ (hh.chin 0 rfl) 2 _ rfl),(hcc2 _ (hh.chin 0 rfl) 3 _ rfl),(hcc2 _ (hh.chin 0 rfl) 4 _ rfl),(hcc2 _ (hh.chin 0 rfl) 5 _ rfl)⟩) (by kernel_rfl) ?_
 refine DrF.keep [2,3,14,19] (L':=[(2,pg g1 0),(3,pg g2 0),(14,.agg #[iv y1.Room,iv y1.Lease,.slice A1 y1.Blobs.length c1,.slice A2 y1.Entries.length c2]),(19,.agg #[iv x1.Kind,iv x1.At,.string x1.Digest,.slice A5 x1.Digests.length c5,.string x1.Key,iv x1.Size])]) (by kernel_rfl) (by kernel_rfl) ?_
 refine DrF.close2 (n:=2) (ls':=[true,true,true,true,true,true,true,true,true,false,false]) (by kernel_rfl) ⟨fun E g=>by kernel_rfl,fun E g=>by kernel_rfl,trivial⟩ (by kernel_rfl) (by kernel_rfl) rfl (fun w hh=>⟨(Pk 6 [0,1,2,3,4,5]) w hh,(Pk 6 [0,1,2,3,4,5]) w hh⟩) ?_
 intro g4 g5
 refine Dz 9 (DoesH.store (k:=0) (g:=g4) (off:=0) (v:=.agg #[iv y1.Room,iv y1.Lease,.slice A1 y1.Blobs.length c1,.slice A2 y1.Entries.length c2]) (cells':=#[iv y1.Room,iv y1.Lease,.slice A1 y1.Blobs.length c1,.slice A2 y1.Entries.length c2]) (by kernel_rfl) rfl (by kernel_rfl) (by kernel_rfl)) ?_
 rintro _ _ _ _ ⟨rfl,rfl,rfl⟩
 refine ⟨fun _ w hh=>⟨fun _=>(Pk 8 [2,3,4,5,6,7]) w hh,fun _=>(Pk 8 [2,3,4,5,6,7]) w hh,(fun h=>by cases h)⟩,?_⟩
 refine DrH.nrm ?_
 refine Dz 10 (DoesH.store (k:=1) (g:=g5) (off:=0) (v:=.agg #[iv x1.Kind,iv x1.At,.string x1.Digest,.slice A5 x1.Digests.length c5,.string x1.Key,iv x1.Size]) (cells':=#[iv x1.Kind,iv x1.At,.string x1.Digest,.slice A5 x1.Digests.length c5,.string x1.Key,iv x1.Size]) (by kernel_rfl) rfl (by kernel_rfl) (by kernel_rfl)) ?_
 rintro _ _ _ _ ⟨rfl,rfl,rfl⟩
 refine ⟨fun _ w hh=>⟨fun _=>(Pk 8 [2,3,4,5,6,7]) w hh,fun _=>(Pk 8 [2,3,4,5,6,7]) w hh,(fun h=>by cases h)⟩,?_⟩
 refine DrH.nrm ?_
 refine DrH.done (by kernel_rfl) ?_
 refine Sa 1<|Zv 2 (bxs 7++bxs 6) ?_
 obtain ⟨y3,hy3,heq⟩:=bind_some heq
 refine RgH.does (cal 23 (cache_Do_c hy3 (hra0_2.wk (fun _ h=>(.tail _ (.tail _ (.tail _ (.tail _ (.tail _ (.tail _ (.tail _ (.tail _ h)))))))))) hca0_2 rfl (hra0_3.wk (fun _ h=>(.tail _ (.tail _ (.tail _ (.tail _ (.tail _ (.tail _ (.tail _ (.tail _ h)))))))))) hca0_3 rfl (Rw.of hra1_3) hca1_3 rfl)) ?_
 rintro _ H _ hl ⟨_,rfl,A6,c6,ch4,A7,c7,ch5,A8,c8,ch6,A9,c9,ch7,rfl,rfl,ho5,ho6,ho7,ho8⟩
 replace hra0_2:=hra0_2.mono hl
 replace hra0_3:=hra0_3.mono hl
 replace hra1_3:=hra1_3.mono hl
 replace ho1:=ho1.mono hl
 replace ho2:=ho2.mono hl
 replace hr2:=hr2.mono hl
 refine Zk 7 ?_
 refine RgH.does (DoesH.new (d:=7) (v:=fun g=>.pointer (some ⟨g,0,none⟩)) (o:=fun g=>.cells #[iv 0,iv 0,.slice none 0 0,.slice none 0 0] 25 (0,0)) (fun g=>by kernel_rfl)) ?_
 rintro _ _ _ _ ⟨g6,rfl,rfl,rfl⟩
 refine RgH.does (DoesH.new (d:=8) (v:=fun g=>.pointer (some ⟨g,0,none⟩)) (o:=fun g=>.cells #[.bool false,.slice none 0 0,.slice none 0 0] 33 (0,0)) (fun g=>by kernel_rfl)) ?_
 rintro _ _ _ _ ⟨g7,rfl,rfl,rfl⟩
 refine RgH.does (DoesH.store (k:=1) (g:=g6) (off:=0) (v:=.agg #[iv y3.1.Room,iv y3.1.Lease,.slice A6 y3.1.Blobs.length c6,.slice A7 y3.1.Entries.length c7]) (cells':=#[iv y3.1.Room,iv y3.1.Lease,.slice A6 y3.1.Blobs.length c6,.slice A7 y3.1.Entries.length c7]) (by kernel_rfl) rfl (by kernel_rfl) (by kernel_rfl)) ?_
 rintro _ _ _ _ ⟨rfl,rfl,rfl⟩
 refine RgH.nrm ?_
 refine RgH.does (DoesH.store (k:=0) (g:=g7) (off:=0) (v:=.agg #[.bool y3.2.1.Done,.slice A8 y3.2.1.Missing.length c8,.slice A9 y3.2.1.Gone.length c9]) (cells':=#[.bool y3.2.1.Done,.slice A8 y3.2.1.Missing.length c8,.slice A9 y3.2.1.Gone.length c9]) (by kernel_rfl) rfl (by kernel_rfl) (by kernel_rfl)) ?_
 rintro _ _ _ _ ⟨rfl,rfl,rfl⟩
 refine RgH.nrm ?_
 refine Zd 12<|Sa 1<|Zv 2 (bxs 6++bxs 7) ?_
 obtain ⟨y4,hy4,heq⟩:=bind_some heq
 refine RgH.does (cal 30 (smithyardref7_Do_c hy4 (ho1.rw (.tail _ (.tail _ (.tail _ (.tail _ (.tail _ (.tail _ (.tail _ (.tail _ (.tail _ (.tail _ (.head _)))))))))))) ho1.cap rfl (ho2.rw (.tail _ (.tail _ (.tail _ (.tail _ (.tail _ (.tail _ (.tail _ (.tail _ (.tail _ (.tail _ (.tail _ (.head _))))))))))))) ho2.cap rfl (Rw.of hr2) hc2 rfl)) ?_
 rintro _ H _ hl ⟨_,rfl,A10,c10,ch8,A11,c11,ch9,A12,c12,ch10,A13,c13,ch11,rfl,rfl,ho9,ho10,ho11,ho12⟩
 replace hra0_2:=hra0_2.mono hl
 replace hra0_3:=hra0_3.mono hl
 replace hra1_3:=hra1_3.mono hl
 replace ho1:=ho1.mono hl
 replace ho2:=ho2.mono hl
 replace hr2:=hr2.mono hl
 replace ho5:=ho5.mono hl
 replace ho6:=ho6.mono hl
 replace ho7:=ho7.mono hl
 replace ho8:=ho8.mono hl
 refine Zk 7 ?_
 refine RgH.does (DoesH.new (d:=10) (v:=fun g=>.pointer (some ⟨g,0,none⟩)) (o:=fun g=>.cells #[iv 0,iv 0,.slice none 0 0,.slice none 0 0] 25 (0,0)) (fun g=>by kernel_rfl)) ?_
 rintro _ _ _ _ ⟨g8,rfl,rfl,rfl⟩
 refine RgH.does (DoesH.new (d:=11) (v:=fun g=>.pointer (some ⟨g,0,none⟩)) (o:=fun g=>.cells #[.bool false,.slice none 0 0,.slice none 0 0] 33 (0,0)) (fun g=>by kernel_rfl)) ?_
 rintro _ _ _ _ ⟨g9,rfl,rfl,rfl⟩
 refine RgH.does (DoesH.store (k:=1) (g:=g8) (off:=0) (v:=.agg #[iv y4.1.Room,iv y4.1.Lease,.slice A10 y4.1.Blobs.length c10,.slice A11 y4.1.Entries.length c11]) (cells':=#[iv y4.1.Room,iv y4.1.Lease,.slice A10 y4.1.Blobs.length c10,.slice A11 y4.1.Entries.length c11]) (by kernel_rfl) rfl (by kernel_rfl) (by kernel_rfl)) ?_
 rintro _ _ _ _ ⟨rfl,rfl,rfl⟩
 refine RgH.nrm ?_
 refine RgH.does (DoesH.store (k:=0) (g:=g9) (off:=0) (v:=.agg #[.bool y4.2.1.Done,.slice A12 y4.2.1.Missing.length c12,.slice A13 y4.2.1.Gone.length c13]) (cells':=#[.bool y4.2.1.Done,.slice A12 y4.2.1.Missing.length c12,.slice A13 y4.2.1.Gone.length c13]) (by kernel_rfl) rfl (by kernel_rfl) (by kernel_rfl)) ?_
 rintro _ _ _ _ ⟨rfl,rfl,rfl⟩
 refine RgH.nrm ?_
 refine Zd 12<|An 1 ?_
 obtain ⟨t1,ht1,heq⟩:=bind_some heq
 have K30:∀ (H:Hp),RunH C3 (S3 F H0 r) H0 w0 [.c [1,1,1,1,1]] [(4,.bool t1)] H (F):=by
  intro H
  obtain rfl:=Option.some.inj heq
  exact RunH.done (by kernel_rfl) Tryz.func3 (v:=.bool t1) (by kernel_rfl) ⟨rfl,rfl⟩
 replace heq:=ht1
 refine Sa 0<|Zv 2 (bxs 7++bxs 1) ?_
 obtain ⟨y5,hy5,heq⟩:=bind_some heq
 refine RgH.does (cal 36 (smithyardref7_Same_c hy5 (ho5.rw (.tail _ (.tail _ (.tail _ (.tail _ (.tail _ (.tail _ (.tail _ (.tail _ (.head _)))))))))) ho5.cap rfl (ho6.rw (.tail _ (.tail _ (.tail _ (.tail _ (.tail _ (.tail _ (.tail _ (.tail _ (.tail _ (.head _))))))))))) ho6.cap rfl (ho9.rw (.tail _ (.tail _ (.head _)))) ho9.cap rfl (ho10.rw (.tail _ (.tail _ (.tail _ (.head _))))) ho10.cap rfl)) ?_
 rintro _ _ _ _ ⟨_,rfl,rfl,rfl,rfl⟩
 refine Zk 4 ?_
 rcases bool_cases (y5) with hb1 | hb1
 ·replace heq:=bif_true hb1 heq
  refine Zs 37 (congrArg Value.bool hb1)<|Zv 5 (bxs 6)<|Ug 11 [10,0,1,2,3,4,5,6,7,8,9] ?_
  have hc3:=ho7.cap
  refine Hs.freezeS ho7 (fun H hl hr3=>?_)
  replace hra0_2:=hra0_2.mono hl
  replace hra0_3:=hra0_3.mono hl
  replace hra1_3:=hra1_3.mono hl
  replace ho1:=ho1.mono hl
  replace ho2:=ho2.mono hl
  replace hr2:=hr2.mono hl
  replace ho11:=ho11.mono hl
  replace ho12:=ho12.mono hl
  replace ho8:=ho8.mono hl
  refine Ug 11 [10,0,1,2,3,4,5,6,7,8,9] ?_
  have hc4:=ho8.cap
  refine Hs.freezeS ho8 (fun H hl hr4=>?_)
  replace hra0_2:=hra0_2.mono hl
  replace hra0_3:=hra0_3.mono hl
  replace hra1_3:=hra1_3.mono hl
  replace ho1:=ho1.mono hl
  replace ho2:=ho2.mono hl
  replace hr2:=hr2.mono hl
  replace ho11:=ho11.mono hl
  replace ho12:=ho12.mono hl
  replace hr3:=hr3.mono hl
  refine RgH.does (DoesH.new (d:=39) (v:=fun g=>.slice (some ⟨g,0,none⟩) 1 1) (o:=fun g=>.cells #[.bool y3.2.1.Done,.slice A8 y3.2.1.Missing.length c8,.slice A9 y3.2.1.Gone.length c9] 33 (0,0)) (fun g=>by kernel_rfl)) ?_
  rintro _ _ _ _ ⟨g10,rfl,rfl,rfl⟩
  have ho13:SlOwn kCacheAnswer 33 H (some ⟨g10,0,none⟩) 1 ([(⟨y3.2.1.Done,y3.2.1.Missing,y3.2.1.Gone⟩:CacheAnswer)]:List CacheAnswer) (some (g10,.cells #[.bool y3.2.1.Done,.slice A8 y3.2.1.Missing.length c8,.slice A9 y3.2.1.Gone.length c9] 33 (0,0))):=SlOwn.lit (xs:=([(⟨y3.2.1.Done,y3.2.1.Missing,y3.2.1.Gone⟩:CacheAnswer)]:List CacheAnswer)) (by kernel_rfl) (Nat.le_of_ble_eq_true (by kernel_rfl)) (Kd.Rep.one (kCacheAnswer_mk hc3 hr3 hc4 hr4))
  refine Zv 7 (bxs 1)<|Ug 6 [5,0,1,2,3,4] ?_
  have hc5:=ho11.cap
  refine Hs.freezeS ho11 (fun H hl hr5=>?_)
  replace hra0_2:=hra0_2.mono hl
  replace hra0_3:=hra0_3.mono hl
  replace hra1_3:=hra1_3.mono hl
  replace ho1:=ho1.mono hl
  replace ho2:=ho2.mono hl
  replace hr2:=hr2.mono hl
  replace ho13:=ho13.mono hl
  replace ho12:=ho12.mono hl
  refine Ug 6 [5,0,1,2,3,4] ?_
  have hc6:=ho12.cap
  refine Hs.freezeS ho12 (fun H hl hr6=>?_)
  replace hra0_2:=hra0_2.mono hl
  replace hra0_3:=hra0_3.mono hl
  replace hra1_3:=hra1_3.mono hl
  replace ho1:=ho1.mono hl
  replace ho2:=ho2.mono hl
  replace hr2:=hr2.mono hl
  replace ho13:=ho13.mono hl
  replace hr5:=hr5.mono hl
  refine RgH.does (DoesH.new (d:=41) (v:=fun g=>.slice (some ⟨g,0,none⟩) 1 1) (o:=fun g=>.cells #[.bool y4.2.1.Done,.slice A12 y4.2.1.Missing.length c12,.slice A13 y4.2.1.Gone.length c13] 33 (0,0)) (fun g=>by kernel_rfl)) ?_
  rintro _ _ _ _ ⟨g11,rfl,rfl,rfl⟩
  have ho14:SlOwn kCacheAnswer 33 H (some ⟨g11,0,none⟩) 1 ([(⟨y4.2.1.Done,y4.2.1.Missing,y4.2.1.Gone⟩:CacheAnswer)]:List CacheAnswer) (some (g11,.cells #[.bool y4.2.1.Done,.slice A12 y4.2.1.Missing.length c12,.slice A13 y4.2.1.Gone.length c13] 33 (0,0))):=SlOwn.lit (xs:=([(⟨y4.2.1.Done,y4.2.1.Missing,y4.2.1.Gone⟩:CacheAnswer)]:List CacheAnswer)) (by kernel_rfl) (Nat.le_of_ble_eq_true (by kernel_rfl)) (Kd.Rep.one (kCacheAnswer_mk hc5 hr5 hc6 hr6))
  obtain ⟨y6,hy6,heq⟩:=bind_some heq
  refine RgH.does (cal 42 (smithyardref7_SameAnswers_c hy6 (ho13.rw (.tail _ (.head _))) ho13.cap rfl (ho14.rw (.head _)) ho14.cap rfl)) ?_
  rintro _ _ _ _ ⟨_,rfl,rfl,rfl,rfl⟩
  refine Zk 11 ?_
  rcases bool_cases (y6) with hb2 | hb2
  ·replace heq:=bif_true hb2 heq
   refine Zs 44 (congrArg Value.bool hb2)<|Zk 16 ?_
   rcases bool_cases (y3.2.2 == y4.2.2) with hb3 | hb3
   ·replace heq:=bif_true hb3 heq
    refine Zs 49 (congrArg Value.bool hb3)<|Zv 18 (bxs 17++bxs 10) ?_
    obtain ⟨y7,hy7,heq⟩:=bind_some heq
    refine RgH.does (cal 52 (smithyardref7_Same_c hy7 (hra0_2.wk (fun _ h=>(.tail _ (.tail _ (.tail _ (.tail _ (.tail _ (.tail _ (.tail _ (.tail _ (.tail _ (.tail _ (.tail _ (.tail _ (.tail _ (.tail _ (.tail _ (.tail _ (.tail _ (.tail _ h)))))))))))))))))))) hca0_2 rfl (hra0_3.wk (fun _ h=>(.tail _ (.tail _ (.tail _ (.tail _ (.tail _ (.tail _ (.tail _ (.tail _ (.tail _ (.tail _ (.tail _ (.tail _ (.tail _ (.tail _ (.tail _ (.tail _ (.tail _ (.tail _ h)))))))))))))))))))) hca0_3 rfl (ho1.rw (.tail _ (.tail _ (.tail _ (.tail _ (.tail _ (.tail _ (.tail _ (.tail _ (.tail _ (.tail _ (.tail _ (.tail _ (.tail _ (.tail _ (.head _)))))))))))))))) ho1.cap rfl (ho2.rw (.tail _ (.tail _ (.tail _ (.tail _ (.tail _ (.tail _ (.tail _ (.tail _ (.tail _ (.tail _ (.tail _ (.tail _ (.tail _ (.tail _ (.tail _ (.head _))))))))))))))))) ho2.cap rfl)) ?_
    rintro _ _ _ _ ⟨_,rfl,rfl,rfl,rfl⟩
    refine Zk 21 ?_
    rcases bool_cases (y7) with hb4 | hb4
    ·replace heq:=bif_true hb4 heq
     refine Zs 54 (congrArg Value.bool hb4)<|Zv 22 (bxs 16) ?_
     refine RgH.does (DoesH.new (d:=56) (v:=fun g=>.slice (some ⟨g,0,none⟩) 1 1) (o:=fun g=>.cells #[iv a1.Kind,iv a1.At,.string a1.Digest,.slice Aa1_3 a1.Digests.length ca1_3,.string a1.Key,iv a1.Size] 28 (0,0)) (fun g=>by kernel_rfl)) ?_
     rintro _ _ _ _ ⟨g12,rfl,rfl,rfl⟩
     have ho15:SlOwn kCacheEvent 28 H (some ⟨g12,0,none⟩) 1 ([a1]:List CacheEvent) (some (g12,.cells #[iv a1.Kind,iv a1.At,.string a1.Digest,.slice Aa1_3 a1.Digests.length ca1_3,.string a1.Key,iv a1.Size] 28 (0,0))):=SlOwn.lit (xs:=([a1]:List CacheEvent)) (by kernel_rfl) (Nat.le_of_ble_eq_true (by kernel_rfl)) (Kd.Rep.one (kCacheEvent_mk hca1_3 hra1_3))
     refine Zv 24 (bxs 12) ?_
     refine RgH.does (DoesH.new (d:=58) (v:=fun g=>.slice (some ⟨g,0,none⟩) 1 1) (o:=fun g=>.cells #[iv x1.Kind,iv x1.At,.string x1.Digest,.slice A5 x1.Digests.length c5,.string x1.Key,iv x1.Size] 28 (0,0)) (fun g=>by kernel_rfl)) ?_
     rintro _ _ _ _ ⟨g13,rfl,rfl,rfl⟩
     have ho16:SlOwn kCacheEvent 28 H (some ⟨g13,0,none⟩) 1 ([x1]:List CacheEvent) (some (g13,.cells #[iv x1.Kind,iv x1.At,.string x1.Digest,.slice A5 x1.Digests.length c5,.string x1.Key,iv x1.Size] 28 (0,0))):=SlOwn.lit (xs:=([x1]:List CacheEvent)) (by kernel_rfl) (Nat.le_of_ble_eq_true (by kernel_rfl)) (Kd.Rep.one (kCacheEvent_mk hc2 hr2))
     obtain ⟨y8,hy8,heq⟩:=bind_some heq
     refine RgH.does (cal 59 (smithyardref7_SameEvents_c hy8 (ho15.rw (.tail _ (.head _))) ho15.cap rfl (ho16.rw (.head _)) ho16.cap rfl)) ?_
     rintro _ _ _ _ ⟨_,rfl,rfl,rfl,rfl⟩
     refine Zk 28 ?_
     rcases bool_cases (y8) with hb5 | hb5
     ·replace heq:=bif_true hb5 heq
      refine Zs 61 (congrArg Value.bool hb5) ?_
      obtain ⟨y9,hy9,heq⟩:=bind_some heq
      refine RgH.does (cal 62 (smithyardlaw7_awake_c hy9 )) ?_
      rintro _ _ _ _ ⟨_,rfl,rfl,rfl,rfl⟩
      refine Zk 31 ?_
      obtain rfl:=Option.some.inj heq
      refine Dn ?_
      exact Gt 20 [] (K30 _)
     ·replace heq:=bif_false hb5 heq
      refine Zs 61 (congrArg Value.bool hb5)<|Zk 31 ?_
      obtain rfl:=Option.some.inj heq
      refine Dn ?_
      exact Gt 20 [] (K30 _)
    ·replace heq:=bif_false hb4 heq
     refine Zs 54 (congrArg Value.bool hb4)<|Zk 31 ?_
     obtain rfl:=Option.some.inj heq
     refine Dn ?_
     exact Gt 18 [] (K30 _)
   ·replace heq:=bif_false hb3 heq
    refine Zs 49 (congrArg Value.bool hb3)<|Zk 31 ?_
    obtain rfl:=Option.some.inj heq
    refine Dn ?_
    exact Gt 18 [] (K30 _)
  ·replace heq:=bif_false hb2 heq
   refine Zs 44 (congrArg Value.bool hb2)<|Zk 31 ?_
   obtain rfl:=Option.some.inj heq
   refine Dn ?_
   exact Gt 18 [] (K30 _)
 ·replace heq:=bif_false hb1 heq
  refine Zs 37 (congrArg Value.bool hb1)<|Zk 31 ?_
  obtain rfl:=Option.some.inj heq
  refine Dn ?_
  exact Gt 20 [] (K30 _)
end Go.Proofs.YtjdnnkdhajhdkaaGreatDoor
