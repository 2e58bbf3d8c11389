/- What the machine's calls of these functions come to: just what the plain functions say. Written by program. -/
import Derived.Test.YtedkdnhhohcocaaDoorProg
import Derived.Test.YtedkdnhhohcocaaDoorKitXi
import Derived.Test.YtedkdnhhohcocaaDoorKitW
import Derived.Test.YtedkdnhhohcocaaDoorZD
import Derived.Test.YtedkdnhhohcocaaDoorShelf
import Derived.Test.YtedkdnhhohcocaaDoorKitNs
import Derived.Test.YtedkdnhhohcocaaDoorKitY
set_option linter.unusedVariables false
set_option linter.unnecessarySimpa false
set_option linter.unusedSimpArgs false
set_option maxRecDepth 100000
set_option maxHeartbeats 1000000
namespace Go.Proofs.YtedkdnhhohcocaaDoor
open Go Go.RowKit Go.Proofs.YtedkdnhhohcocaaDoor.Kit
variable {w0 : World} {H0 H : Hp} {F : List Ch}
def kTestCase:Kd TestCase:=Kd.iso ((Kd.pair Kd.string (Kd.int .i64))) (fun x=>(x.Name,x.Seconds))
theorem kTestCase_open {H:Hp} {x:TestCase} {c:List Value} (h:kTestCase.K H x c):c=[.string x.Name,iv x.Seconds]:=by
 obtain ⟨p0,q0,rfl,g0,h0⟩:=h
 obtain rfl:p0=[_]:=g0
 obtain rfl:q0=[_]:=h0
 rfl
theorem kTestCase_mk {H:Hp} {x:TestCase}:kTestCase.K H x [.string x.Name,iv x.Seconds]:=⟨[.string x.Name],[iv x.Seconds],rfl,rfl,rfl⟩
def kTest:Kd Test:=Kd.iso ((Kd.pair Kd.string (Kd.slice kTestCase))) (fun x=>(x.Name,x.Cases))
theorem kTest_open {H:Hp} {x:Test} {c:List Value} (h:kTest.K H x c):∃ A1 c1,c=[.string x.Name,.slice A1 x.Cases.length c1]∧x.Cases.length≤c1∧Kd.Row kTestCase H A1 x.Cases:=by
 obtain ⟨p0,q0,rfl,g0,h0⟩:=h
 obtain rfl:p0=[_]:=g0
 obtain ⟨A1,c1,rfl,u1,v1⟩:=h0
 exact ⟨A1,c1,rfl,u1,v1⟩
theorem kTest_mk {H:Hp} {x:Test} {A1:Option Addr} {c1:Nat} (u1:x.Cases.length≤c1) (v1:Kd.Row kTestCase H A1 x.Cases):kTest.K H x [.string x.Name,.slice A1 x.Cases.length c1]:=⟨[.string x.Name],[.slice A1 x.Cases.length c1],rfl,rfl,⟨A1,c1,rfl,u1,v1⟩⟩
noncomputable def C15:Ctx:={ P:=Tryd.prog,f:=15,N:=8,c:=bodyOf Tryd.f15 }
def S15 (F:List Ch) (H0:Hp) (r:List TestCase) (v:Value) (H:Hp) (cs:List Ch):Prop:=∃ (A0:Option Addr) (c0:Nat) (ch0:Ch),H0=H∧v=.slice A0 r.length c0∧ch0::F=cs∧SlOwn kTestCase 40 H A0 c0 r ch0
theorem slices_Clone_TestCase_c [GlobI 0 w0] {a0:List TestCase} {Aa0:Option Addr} {na0 ca0:Nat} {r:List TestCase} (hra0:Rw kTestCase H F Aa0 a0) (hca0:na0≤ca0) (hna0:na0=a0.length) (heq:slices_Clone_TestCase.f a0=some r):CallsH Tryd.prog 15 #[.slice Aa0 na0 ca0] H w0 F (S15 F H r):=by
 refine calls_of_runH (F:=C15) Tryd.func15 (by kernel_rfl) Tryd.ntmps15 (args:=[.slice Aa0 na0 ca0]) (by kernel_rfl) ?_
 subst hna0
 unfold slices_Clone_TestCase.f at heq
 obtain ⟨hn,heq⟩:=guard?_some heq
 obtain rfl:=Option.some.inj heq
 refine Ra 1 [0] [.c [1]]<|Rd 1 [0] [(0,.slice Aa0 a0.length ca0)]<|Ra 2 [1,0,0] [.c [1,0,1],.c [1,1]] ?_
 cases Aa0 with
 | none =>
  have h0:a0=[]:=by
   cases a0 with
   | nil=>rfl
   | cons x xs=>obtain ⟨b,off,cs,e,fr,hA,_⟩:=hra0 (by simp); cases hA
  subst h0
  refine Rd 2 [4] [(4,.bool true)]<|Ct true rfl<|Ra 1 [1,0,1,0,0] [.c [1,0,1,0,1],.c [1,1]]<|Rd 1 [2] [(2,.slice none 0 0)]<|RunH.nilc ?_
  exact RunH.done (by kernel_rfl) Tryd.func15 (v:=.slice none ([]:List TestCase).length 0) (by kernel_rfl) ⟨none,0,none,rfl,rfl,rfl,SlOwn.nil⟩
 | some ad =>
  refine Rd 2 [0,4] [(0,.slice (some ad) a0.length ca0),(4,.bool false)]<|Cf false rfl<|Ra 2 [1,1,0] [.c [1,1,1]] ?_
  refine RgH.does (DoesH.new (d:=5) (v:=fun g=>.slice (some ⟨g,0,none⟩) 0 0) (o:=fun g=>.cells #[] 40 (0,0)) (fun g=>by kernel_rfl)) ?_
  rintro _ _ _ _ ⟨g,rfl,rfl,rfl⟩
  have ho:SlOwn kTestCase 40 H (some ⟨g,0,none⟩) 0 ([]:List TestCase) (some (g,.cells #[] 40 (0,0))):=.inr ⟨g,0,#[],rfl,rfl,by simp,by simp [maxLen],by simp,Kd.Rep.nil⟩
  refine Rk 2 [5,6] [(5,.slice (some ⟨g,0,none⟩) 0 0),(6,.slice (some ad) a0.length ca0)] ?_
  refine RgH.does (DoesH.append (d:=7) (k:=0) (t:=22) (e:=40) (bytes:=24) (kd:=kTestCase) (n:=0) (m:=a0.length) (xs:=([]:List TestCase)) (ys:=a0) (A:=some ⟨g,0,none⟩) (B:=some ad) (c:=0) (cB:=ca0) (by kernel_rfl) rfl rfl (by kernel_rfl) rfl ho (fun w hh=>hra0.rdb (hh.drop 1)) (room_le hn) (by have:=room_le hn; omega)) ?_
  rintro _ _ _ _ ⟨A1,c1,ch1,rfl,rfl,rfl,ho1⟩
  refine Rd 4 [2] [(2,.slice A1 (([]:List TestCase)++a0).length c1)] ?_
  exact RunH.done (by kernel_rfl) Tryd.func15 (v:=.slice A1 (([]:List TestCase)++a0).length c1) (by kernel_rfl) ⟨A1,c1,ch1,rfl,rfl,rfl,ho1⟩
noncomputable def C4:Ctx:={ P:=Tryd.prog,f:=4,N:=8,c:=bodyOf Tryd.f4 }
def S4 (F:List Ch) (H0:Hp) (r:Test) (v:Value) (H:Hp) (cs:List Ch):Prop:=∃ (A0_1:Option Addr) (c0_1:Nat) (ch0_1:Ch),H0=H∧v=.agg #[.string r.Name,.slice A0_1 r.Cases.length c0_1]∧ch0_1::F=cs∧SlOwn kTestCase 40 H A0_1 c0_1 r.Cases ch0_1
theorem smithyardref10_CopyTest_c [GlobI 0 w0] {a0:Test} {Aa0_1:Option Addr} {na0_1 ca0_1:Nat} {r:Test} (heq:smithyardref10_CopyTest.f a0=some r) (hra0_1:Rw kTestCase H F Aa0_1 a0.Cases) (hca0_1:na0_1≤ca0_1) (hna0_1:na0_1=a0.Cases.length):CallsH Tryd.prog 4 #[.agg #[.string a0.Name,.slice Aa0_1 na0_1 ca0_1]] H w0 (F) (S4 F H r):=by
 refine Co C4 Tryd.func4 Tryd.ntmps4 ?_
 subst hna0_1
 unfold smithyardref10_CopyTest.f at heq
 refine Sa 1 ?_
 refine RgH.does (DoesH.new (d:=1) (v:=fun g=>.pointer (some ⟨g,0,none⟩)) (o:=fun g=>.cells #[.string a0.Name,.slice Aa0_1 a0.Cases.length ca0_1] 24 (0,0)) (fun g=>by kernel_rfl)) ?_
 rintro _ _ _ _ ⟨g1,rfl,rfl,rfl⟩
 refine RgH.does (DoesH.new (d:=2) (v:=fun g=>.pointer (some ⟨g,0,none⟩)) (o:=fun g=>.cells #[.string ByteArray.empty,.slice none 0 0] 24 (0,0)) (fun g=>by kernel_rfl)) ?_
 rintro _ _ _ _ ⟨g2,rfl,rfl,rfl⟩
 refine Dn<|Sa 1<|Zv 2 [bx 1 1] ?_
 obtain ⟨y1,hy1,heq⟩:=bind_some heq
 refine RgH.does (cal 5 (slices_Clone_TestCase_c (a0:=a0.Cases) (hra0_1.wk (fun _ h=>(.tail _ (.tail _ h)))) hca0_1 rfl hy1)) ?_
 rintro _ _ _ _ ⟨_,rfl,A1,c1,ch1,rfl,rfl,rfl,ho1⟩
 refine Zk 4 ?_
 refine RgH.does (DoesH.store (k:=2) (g:=g1) (off:=1) (v:=.slice A1 y1.length c1) (cells':=#[.string a0.Name,.slice A1 y1.length c1]) (by kernel_rfl) rfl (by kernel_rfl) (by kernel_rfl)) ?_
 rintro _ _ _ _ ⟨rfl,rfl,rfl⟩
 refine RgH.nrm ?_
 refine Dn<|Sa 1<|Zv 1 (bxs 2) ?_
 refine RgH.does (DoesH.store (k:=1) (g:=g2) (off:=0) (v:=.agg #[.string a0.Name,.slice A1 y1.length c1]) (cells':=#[.string a0.Name,.slice A1 y1.length c1]) (by kernel_rfl) rfl (by kernel_rfl) (by kernel_rfl)) ?_
 rintro _ _ _ _ ⟨rfl,rfl,rfl⟩
 refine RgH.nrm ?_
 refine Dn ?_
 obtain rfl:=Option.some.inj heq
 refine Up 3 [1,0] ?_
 exact RunH.doneM' 1 (vs:=[.agg #[.string a0.Name,.slice A1 y1.length c1]]) (v:=.agg #[.string a0.Name,.slice A1 y1.length c1]) (by kernel_rfl) Tryd.func4 (fun w hh=>show ResAll _ _ _ [.cell 2 24] _ from ⟨⟨⟨g2,0,none⟩,by kernel_rfl,trS_run _ (vs:=[.string a0.Name,.slice A1 y1.length c1]) (r:=[]) (es:=[.load ⟨g2,0,none⟩ (.string a0.Name),.load ⟨g2,1,none⟩ (.slice A1 y1.length c1)]) (by kernel_rfl) ⟨(hh.box 0 rfl rfl),(hh.box 0 rfl rfl)⟩⟩,trivial⟩) rfl (cs':=ch1::F) rfl ⟨A1,c1,ch1,rfl,rfl,rfl,ho1⟩
noncomputable def C16:Ctx:={ P:=Tryd.prog,f:=16,N:=8,c:=bodyOf Tryd.f16 }
def S16 (F:List Ch) (H0:Hp) (r:List ByteArray) (v:Value) (H:Hp) (cs:List Ch):Prop:=∃ (A0:Option Addr) (c0:Nat) (ch0:Ch),H0=H∧v=.slice A0 r.length c0∧ch0::F=cs∧SlOwn Kd.string 9 H A0 c0 r ch0
theorem slices_Clone_string_c [GlobI 0 w0] {a0:List ByteArray} {Aa0:Option Addr} {na0 ca0:Nat} {r:List ByteArray} (hra0:Rw Kd.string H F Aa0 a0) (hca0:na0≤ca0) (hna0:na0=a0.length) (heq:slices_Clone_string.f a0=some r):CallsH Tryd.prog 16 #[.slice Aa0 na0 ca0] H w0 F (S16 F H r):=by
 refine calls_of_runH (F:=C16) Tryd.func16 (by kernel_rfl) Tryd.ntmps16 (args:=[.slice Aa0 na0 ca0]) (by kernel_rfl) ?_
 subst hna0
 unfold slices_Clone_string.f at heq
 obtain ⟨hn,heq⟩:=guard?_some heq
 obtain rfl:=Option.some.inj heq
 refine Ra 1 [0] [.c [1]]<|Rd 1 [0] [(0,.slice Aa0 a0.length ca0)]<|Ra 2 [1,0,0] [.c [1,0,1],.c [1,1]] ?_
 cases Aa0 with
 | none =>
  have h0:a0=[]:=by
   cases a0 with
   | nil=>rfl
   | cons x xs=>obtain ⟨b,off,cs,e,fr,hA,_⟩:=hra0 (by simp); cases hA
  subst h0
  refine Rd 2 [4] [(4,.bool true)]<|Ct true rfl<|Ra 1 [1,0,1,0,0] [.c [1,0,1,0,1],.c [1,1]]<|Rd 1 [2] [(2,.slice none 0 0)]<|RunH.nilc ?_
  exact RunH.done (by kernel_rfl) Tryd.func16 (v:=.slice none ([]:List ByteArray).length 0) (by kernel_rfl) ⟨none,0,none,rfl,rfl,rfl,SlOwn.nil⟩
 | some ad =>
  refine Rd 2 [0,4] [(0,.slice (some ad) a0.length ca0),(4,.bool false)]<|Cf false rfl<|Ra 2 [1,1,0] [.c [1,1,1]] ?_
  refine RgH.does (DoesH.new (d:=5) (v:=fun g=>.slice (some ⟨g,0,none⟩) 0 0) (o:=fun g=>.cells #[] 9 (0,0)) (fun g=>by kernel_rfl)) ?_
  rintro _ _ _ _ ⟨g,rfl,rfl,rfl⟩
  have ho:SlOwn Kd.string 9 H (some ⟨g,0,none⟩) 0 ([]:List ByteArray) (some (g,.cells #[] 9 (0,0))):=.inr ⟨g,0,#[],rfl,rfl,by simp,by simp [maxLen],by simp,Kd.Rep.nil⟩
  refine Rk 2 [5,6] [(5,.slice (some ⟨g,0,none⟩) 0 0),(6,.slice (some ad) a0.length ca0)] ?_
  refine RgH.does (DoesH.append (d:=7) (k:=0) (t:=41) (e:=9) (bytes:=16) (kd:=Kd.string) (n:=0) (m:=a0.length) (xs:=([]:List ByteArray)) (ys:=a0) (A:=some ⟨g,0,none⟩) (B:=some ad) (c:=0) (cB:=ca0) (by kernel_rfl) rfl rfl (by kernel_rfl) rfl ho (fun w hh=>hra0.rdb (hh.drop 1)) (room_le hn) (by have:=room_le hn; omega)) ?_
  rintro _ _ _ _ ⟨A1,c1,ch1,rfl,rfl,rfl,ho1⟩
  refine Rd 4 [2] [(2,.slice A1 (([]:List ByteArray)++a0).length c1)] ?_
  exact RunH.done (by kernel_rfl) Tryd.func16 (v:=.slice A1 (([]:List ByteArray)++a0).length c1) (by kernel_rfl) ⟨A1,c1,ch1,rfl,rfl,rfl,ho1⟩
noncomputable def C5:Ctx:={ P:=Tryd.prog,f:=5,N:=19,c:=bodyOf Tryd.f5 }
def S5 (F:List Ch) (H0:Hp) (r:(List (List ByteArray))) (v:Value) (H:Hp) (cs:List Ch):Prop:=∃ (A0:Option Addr) (c0:Nat) (ch0:Ch),v=.slice A0 r.length c0∧ch0::F=cs∧SlOwn (Kd.slice Kd.string) 41 H A0 c0 r ch0
theorem smithyardref10_CopyRows.e1_c [GlobI 0 w0] {r:(List (List ByteArray))}:∀ (H:Hp) (v_out3:List (List ByteArray)) (Av_out3:Option Addr) (nv_out3 cv_out3:Nat) (chv_out3:Ch) ,SlOwn (Kd.slice Kd.string) 41 H Av_out3 cv_out3 v_out3 chv_out3→nv_out3=v_out3.length→smithyardref10_CopyRows.e1 v_out3=some r→RunH C5 (S5 F H0 r) H0 w0 [.c [1,1,1,0],.c [1,1,1,1]] [(3,.slice Av_out3 nv_out3 cv_out3)] H (chv_out3::F):=by
 intro H v_out3 Av_out3 nv_out3 cv_out3 chv_out3 hov_out3 hnv_out3 heq
 subst hnv_out3
 unfold smithyardref10_CopyRows.e1 at heq
 refine Sa 0<|Zd 2 ?_
 obtain rfl:=Option.some.inj heq
 exact RunH.done (by kernel_rfl) Tryd.func5 (v:=.slice Av_out3 v_out3.length cv_out3) (by kernel_rfl) ⟨Av_out3,cv_out3,chv_out3,rfl,rfl,hov_out3⟩
theorem smithyardref10_CopyRows.l2_c [GlobI 0 w0] {r:(List (List ByteArray))} (e1:(List (List ByteArray))→Option (List (List ByteArray)))
  (he1:∀ (H:Hp) (v_out3:List (List ByteArray)) (Av_out3:Option Addr) (nv_out3 cv_out3:Nat) (chv_out3:Ch) ,SlOwn (Kd.slice Kd.string) 41 H Av_out3 cv_out3 v_out3 chv_out3→nv_out3=v_out3.length→e1 v_out3=some r→RunH C5 (S5 F H0 r) H0 w0 [.c [1,1,1,0],.c [1,1,1,1]] [(3,.slice Av_out3 nv_out3 cv_out3)] H (chv_out3::F)):∀ (k:Nat),∀ (H:Hp) (a0:List (List ByteArray)) (Aa0:Option Addr) (ca0:Nat) (v_out3:List (List ByteArray)) (Av_out3:Option Addr) (nv_out3 cv_out3:Nat) (chv_out3:Ch) (v8:Int) ,Rw (Kd.slice Kd.string) H F Aa0 a0→a0.length≤ca0→SlOwn (Kd.slice Kd.string) 41 H Av_out3 cv_out3 v_out3 chv_out3→nv_out3=v_out3.length→smithyardref10_CopyRows.l2 e1 k a0 v_out3 v8=some r→RunH C5 (S5 F H0 r) H0 w0 [.c [1,1,0,1,0,0],.l [1,1,0,1,0,0],.b 0,.c [1,1,1]] [(3,.slice Av_out3 nv_out3 cv_out3),(6,.slice Aa0 a0.length ca0),(7,iv (a0.length:Int)),(8,iv v8)] H (chv_out3::F):=by
 intro k
 induction k with
 | zero=>intro H a0 Aa0 ca0 v_out3 Av_out3 nv_out3 cv_out3 chv_out3 v8 hra0 hca0 hov_out3 hnv_out3 heq; exact nomatch (show (none:Option (List (List ByteArray)))=some r from heq)
 | succ k ihk =>
  intro H a0 Aa0 ca0 v_out3 Av_out3 nv_out3 cv_out3 chv_out3 v8 hra0 hca0 hov_out3 hnv_out3 heq
  subst hnv_out3
  rw [smithyardref10_CopyRows.l2] at heq
  refine Sa 1<|Zd 1<|An 1 ?_
  refine Cb heq ?_ ?_
  ·intro hb1 heq
   refine Sa 4 ?_
   obtain ⟨x1,hx1,heq⟩:=bind_some heq
   obtain ⟨ha1,cs1,hK1,hcc1⟩:=hra0.get hx1
   obtain ⟨A1,c1,rfl,hc1,hr1⟩:=hK1
   refine Zw 3 [nx ha1 hx1,er hcc1 1 0]<|Sa 0<|Zk 2 ?_
   obtain ⟨y1,hy1,heq⟩:=bind_some heq
   refine RgH.does (cal 14 (slices_Clone_string_c (a0:=x1) (Rw.of hr1) hc1 rfl hy1)) ?_
   rintro _ _ _ _ ⟨_,rfl,A2,c2,ch1,rfl,rfl,rfl,ho1⟩
   have hc2:=ho1.cap
   refine Hs.freezeS ho1 (fun H hl hr2=>?_)
   replace hra0:=hra0.mono hl
   replace hov_out3:=hov_out3.mono hl
   replace hr1:=hr1.mono hl
   refine RgH.does (DoesH.new (d:=15) (v:=fun g=>.slice (some ⟨g,0,none⟩) 1 1) (o:=fun g=>.cells #[.slice A2 y1.length c2] 41 (0,0)) (fun g=>by kernel_rfl)) ?_
   rintro _ _ _ _ ⟨g1,rfl,rfl,rfl⟩
   have ho2:SlOwn (Kd.slice Kd.string) 41 H (some ⟨g1,0,none⟩) 1 ([y1]:List (List ByteArray)) (some (g1,.cells #[.slice A2 y1.length c2] 41 (0,0))):=SlOwn.lit (xs:=([y1]:List (List ByteArray))) (by kernel_rfl) (Nat.le_of_ble_eq_true (by kernel_rfl)) (Kd.Rep.oneS hc2 hr2)
   obtain ⟨hn1,heq⟩:=guard?_some heq
   refine RgH.does (DoesH.append (d:=16) (k:=1) (t:=25) (e:=41) (bytes:=24) (kd:=(Kd.slice Kd.string)) (n:=v_out3.length) (m:=1) (xs:=v_out3) (ys:=([y1]:List (List ByteArray))) (A:=Av_out3) (B:=(some ⟨g1,0,none⟩)) (c:=cv_out3) (cB:=1) (by kernel_rfl) rfl rfl (by kernel_rfl) rfl hov_out3 (fun w hh=>ho2.rdb (hh.chin 0 rfl)) (room_le hn1) (by have:=room_le hn1; omega)) ?_
   rintro _ _ _ _ ⟨A3,c3,ch2,rfl,rfl,rfl,ho3⟩
   refine RgH.nrm ?_
   refine Zd 6<|Sa 1<|Zd 2<|An 1 ?_
   exact Gt 1 [] (ihk _ a0 _ _ (v_out3++([y1]:List (List ByteArray))) _ _ _ _ (w64 (v8+1)) hra0 hca0 ho3 rfl heq)
  ·intro hb1 heq
   refine An 2 ?_
   exact Gt 0 [] (he1 _ v_out3 _ _ _ _ hov_out3 rfl heq)
theorem smithyardref10_CopyRows_c [GlobI 0 w0] {a0:List (List ByteArray)} {Aa0:Option Addr} {na0 ca0:Nat} {r:(List (List ByteArray))} (heq:smithyardref10_CopyRows.f a0=some r) (hra0:Rw (Kd.slice Kd.string) H0 F Aa0 a0) (hca0:na0≤ca0) (hna0:na0=a0.length):CallsH Tryd.prog 5 #[.slice Aa0 na0 ca0] H0 w0 (F) (S5 F H0 r):=by
 refine Co C5 Tryd.func5 Tryd.ntmps5 ?_
 subst hna0
 unfold smithyardref10_CopyRows.f at heq
 suffices key:∀ (H:Hp),Rw (Kd.slice Kd.string) H F Aa0 a0→RunH C5 (S5 F H0 r) H0 w0 [.c []] (argL 0 [.slice Aa0 (a0.length) ca0]) H (F) from key H0 hra0
 intro H hra0
 refine Sa 1<|Zd 1<|Sa 1<|Zd 1<|Sa 2<|Zd 3<|An 2<|RunH.nilc ?_
 have ho4:SlOwn (Kd.slice Kd.string) 41 H none 0 ([]:List (List ByteArray)) none:=SlOwn.nil
 exact Gt 0 [] (((smithyardref10_CopyRows.l2_c (e1:=smithyardref10_CopyRows.e1) (smithyardref10_CopyRows.e1_c)) big) _ a0 _ _ ([]:List (List ByteArray)) _ _ _ _ 0 hra0 hca0 ho4 rfl heq)
def S41 (F:List Ch) (H0:Hp) (r:List ByteArray) (v:Value) (H:Hp) (cs:List Ch):Prop:=∃ (A0:Option Addr) (c0:Nat) (ch0:Ch),H0=H∧v=.slice A0 r.length c0∧ch0::F=cs∧SlOwn Kd.string 9 H A0 c0 r ch0
theorem strings_Split_c [GlobI 0 w0] {a0 a1:ByteArray} {r:List ByteArray} (heq:strings_Split.f a0 a1=some r):CallsH Tryd.prog 41 #[.string a0,.string a1] H w0 F (S41 F H r):=by
 intro w hh
 unfold strings_Split.f at heq
 obtain ⟨hn,heq⟩:=guard?_some heq
 obtain rfl:=Option.some.inj heq
 simp only [Bool.and_eq_true,decide_eq_true_eq] at hn
 obtain ⟨m,hm⟩:=GlobI.at (g:=0) hh
 refine (Shelf.Tryd.strings_Split a0 a1 m w hn.1 hm hn.2).mono ?_
 rintro e w' ⟨rfl,rfl⟩
 have hl:=Lib.splitB_all a1 hn.2 0 _ a0 rfl
 have hc:=Lib.countB_le a1 hn.2 a0.size a0 (Nat.le_refl _)
 obtain ⟨H',cs',hle,hh',A0,c0,ch0,rfl,hv,rfl,ho⟩:=split_post (e:=9) hh hl (by unfold maxLen; omega) rfl
 exact ⟨_,rfl,_,_,hle,hh',A0,c0,ch0,rfl,hv,rfl,ho⟩
def S69 (F:List Ch) (H0:Hp) (r:Int) (v:Value) (H:Hp) (cs:List Ch):Prop:=H0=H∧v=iv r∧F=cs
theorem strings_IndexByte_c [GlobI 0 w0] {a0:ByteArray} {a1:Int} {r:Int} (heq:strings_IndexByte.f a0 a1=some r):CallsH Tryd.prog 69 #[.string a0,.int .u8 a1] H w0 F (S69 F H r):=by
 intro w hh
 unfold strings_IndexByte.f at heq
 obtain rfl:=Option.some.inj heq
 refine (Shelf.Tryd.strings_IndexByte a0 a1 w).mono ?_
 rintro e w' ⟨rfl,rfl⟩
 exact ⟨_,rfl,H,F,Le.refl H,hh,rfl,rfl,rfl⟩
noncomputable def C61:Ctx:={ P:=Tryd.prog,f:=61,N:=30,c:=bodyOf Tryd.f61 }
def S61 (F:List Ch) (H0:Hp) (r:Bool) (v:Value) (H:Hp) (cs:List Ch):Prop:=H0=H∧v=.bool r∧F=cs
theorem blob_inPart_c [GlobI 0 w0] {a0:Int} {r:Bool} (heq:blob_inPart.f a0=some r):CallsH Tryd.prog 61 #[.int .u8 a0] H w0 (F) (S61 F H r):=by
 refine Co C61 Tryd.func61 Tryd.ntmps61 ?_
 unfold blob_inPart.f at heq
 refine Sa 1<|Zd 1<|An 1 ?_
 obtain ⟨t1,ht1,heq⟩:=bind_some heq
 have K1:RunH C61 (S61 F H r) H w0 [.c [1,1]] [(2,.bool t1)] H (F):=by
  obtain rfl:=Option.some.inj heq
  exact RunH.done (by kernel_rfl) Tryd.func61 (v:=.bool t1) (by kernel_rfl) ⟨rfl,rfl,rfl⟩
 replace heq:=ht1
 refine Sa 0<|Zk 3 ?_
 rcases bool_cases (decide (97≤a0)) with hb1 | hb1
 ·replace heq:=bif_true hb1 heq
  refine Zs 5 (congrArg Value.bool hb1)<|Zk 7 ?_
  rcases bool_cases (decide (a0≤122)) with hb2 | hb2
  ·replace heq:=bif_true hb2 heq
   refine Zs 9 (congrArg Value.bool hb2)<|Zk 28 ?_
   obtain rfl:=Option.some.inj heq
   refine Dn ?_
   exact Gt 0 [] (K1)
  ·replace heq:=bif_false hb2 heq
   refine Zs 9 (congrArg Value.bool hb2)<|Zk 10 ?_
   rcases bool_cases (decide (65≤a0)) with hb3 | hb3
   ·replace heq:=bif_true hb3 heq
    refine Zs 12 (congrArg Value.bool hb3)<|Zk 15 ?_
    rcases bool_cases (decide (a0≤90)) with hb4 | hb4
    ·replace heq:=bif_true hb4 heq
     refine Zs 17 (congrArg Value.bool hb4)<|Zk 28 ?_
     obtain rfl:=Option.some.inj heq
     refine Dn ?_
     exact Gt 0 [] (K1)
    ·replace heq:=bif_false hb4 heq
     refine Zs 17 (congrArg Value.bool hb4)<|Zk 18 ?_
     rcases bool_cases (decide (48≤a0)) with hb5 | hb5
     ·replace heq:=bif_true hb5 heq
      refine Zs 20 (congrArg Value.bool hb5)<|Zk 23 ?_
      rcases bool_cases (decide (a0≤57)) with hb6 | hb6
      ·replace heq:=bif_true hb6 heq
       refine Zs 25 (congrArg Value.bool hb6)<|Zk 28 ?_
       obtain rfl:=Option.some.inj heq
       refine Dn ?_
       exact Gt 0 [] (K1)
      ·replace heq:=bif_false hb6 heq
       refine Zs 25 (congrArg Value.bool hb6)<|Zk 24 ?_
       obtain ⟨y1,hy1,heq⟩:=bind_some heq
       refine RgH.does (cal 27 (strings_IndexByte_c (a0:=({ data:=#[46,95,45,43] }:ByteArray)) (a1:=a0)  hy1)) ?_
       rintro _ _ _ _ ⟨_,rfl,rfl,rfl,rfl⟩
       refine Zk 28 ?_
       obtain rfl:=Option.some.inj heq
       refine Dn ?_
       exact Gt 0 [] (K1)
     ·replace heq:=bif_false hb5 heq
      refine Zs 20 (congrArg Value.bool hb5)<|Zk 24 ?_
      obtain ⟨y2,hy2,heq⟩:=bind_some heq
      refine RgH.does (cal 27 (strings_IndexByte_c (a0:=({ data:=#[46,95,45,43] }:ByteArray)) (a1:=a0)  hy2)) ?_
      rintro _ _ _ _ ⟨_,rfl,rfl,rfl,rfl⟩
      refine Zk 28 ?_
      obtain rfl:=Option.some.inj heq
      refine Dn ?_
      exact Gt 0 [] (K1)
   ·replace heq:=bif_false hb3 heq
    refine Zs 12 (congrArg Value.bool hb3)<|Zk 18 ?_
    rcases bool_cases (decide (48≤a0)) with hb7 | hb7
    ·replace heq:=bif_true hb7 heq
     refine Zs 20 (congrArg Value.bool hb7)<|Zk 23 ?_
     rcases bool_cases (decide (a0≤57)) with hb8 | hb8
     ·replace heq:=bif_true hb8 heq
      refine Zs 25 (congrArg Value.bool hb8)<|Zk 28 ?_
      obtain rfl:=Option.some.inj heq
      refine Dn ?_
      exact Gt 0 [] (K1)
     ·replace heq:=bif_false hb8 heq
      refine Zs 25 (congrArg Value.bool hb8)<|Zk 24 ?_
      obtain ⟨y3,hy3,heq⟩:=bind_some heq
      refine RgH.does (cal 27 (strings_IndexByte_c (a0:=({ data:=#[46,95,45,43] }:ByteArray)) (a1:=a0)  hy3)) ?_
      rintro _ _ _ _ ⟨_,rfl,rfl,rfl,rfl⟩
      refine Zk 28 ?_
      obtain rfl:=Option.some.inj heq
      refine Dn ?_
      exact Gt 0 [] (K1)
    ·replace heq:=bif_false hb7 heq
     refine Zs 20 (congrArg Value.bool hb7)<|Zk 24 ?_
     obtain ⟨y4,hy4,heq⟩:=bind_some heq
     refine RgH.does (cal 27 (strings_IndexByte_c (a0:=({ data:=#[46,95,45,43] }:ByteArray)) (a1:=a0)  hy4)) ?_
     rintro _ _ _ _ ⟨_,rfl,rfl,rfl,rfl⟩
     refine Zk 28 ?_
     obtain rfl:=Option.some.inj heq
     refine Dn ?_
     exact Gt 0 [] (K1)
 ·replace heq:=bif_false hb1 heq
  refine Zs 5 (congrArg Value.bool hb1)<|Zk 10 ?_
  rcases bool_cases (decide (65≤a0)) with hb9 | hb9
  ·replace heq:=bif_true hb9 heq
   refine Zs 12 (congrArg Value.bool hb9)<|Zk 15 ?_
   rcases bool_cases (decide (a0≤90)) with hb10 | hb10
   ·replace heq:=bif_true hb10 heq
    refine Zs 17 (congrArg Value.bool hb10)<|Zk 28 ?_
    obtain rfl:=Option.some.inj heq
    refine Dn ?_
    exact Gt 0 [] (K1)
   ·replace heq:=bif_false hb10 heq
    refine Zs 17 (congrArg Value.bool hb10)<|Zk 18 ?_
    rcases bool_cases (decide (48≤a0)) with hb11 | hb11
    ·replace heq:=bif_true hb11 heq
     refine Zs 20 (congrArg Value.bool hb11)<|Zk 23 ?_
     rcases bool_cases (decide (a0≤57)) with hb12 | hb12
     ·replace heq:=bif_true hb12 heq
      refine Zs 25 (congrArg Value.bool hb12)<|Zk 28 ?_
      obtain rfl:=Option.some.inj heq
      refine Dn ?_
      exact Gt 0 [] (K1)
     ·replace heq:=bif_false hb12 heq
      refine Zs 25 (congrArg Value.bool hb12)<|Zk 24 ?_
      obtain ⟨y5,hy5,heq⟩:=bind_some heq
      refine RgH.does (cal 27 (strings_IndexByte_c (a0:=({ data:=#[46,95,45,43] }:ByteArray)) (a1:=a0)  hy5)) ?_
      rintro _ _ _ _ ⟨_,rfl,rfl,rfl,rfl⟩
      refine Zk 28 ?_
      obtain rfl:=Option.some.inj heq
      refine Dn ?_
      exact Gt 0 [] (K1)
    ·replace heq:=bif_false hb11 heq
     refine Zs 20 (congrArg Value.bool hb11)<|Zk 24 ?_
     obtain ⟨y6,hy6,heq⟩:=bind_some heq
     refine RgH.does (cal 27 (strings_IndexByte_c (a0:=({ data:=#[46,95,45,43] }:ByteArray)) (a1:=a0)  hy6)) ?_
     rintro _ _ _ _ ⟨_,rfl,rfl,rfl,rfl⟩
     refine Zk 28 ?_
     obtain rfl:=Option.some.inj heq
     refine Dn ?_
     exact Gt 0 [] (K1)
  ·replace heq:=bif_false hb9 heq
   refine Zs 12 (congrArg Value.bool hb9)<|Zk 18 ?_
   rcases bool_cases (decide (48≤a0)) with hb13 | hb13
   ·replace heq:=bif_true hb13 heq
    refine Zs 20 (congrArg Value.bool hb13)<|Zk 23 ?_
    rcases bool_cases (decide (a0≤57)) with hb14 | hb14
    ·replace heq:=bif_true hb14 heq
     refine Zs 25 (congrArg Value.bool hb14)<|Zk 28 ?_
     obtain rfl:=Option.some.inj heq
     refine Dn ?_
     exact Gt 0 [] (K1)
    ·replace heq:=bif_false hb14 heq
     refine Zs 25 (congrArg Value.bool hb14)<|Zk 24 ?_
     obtain ⟨y7,hy7,heq⟩:=bind_some heq
     refine RgH.does (cal 27 (strings_IndexByte_c (a0:=({ data:=#[46,95,45,43] }:ByteArray)) (a1:=a0)  hy7)) ?_
     rintro _ _ _ _ ⟨_,rfl,rfl,rfl,rfl⟩
     refine Zk 28 ?_
     obtain rfl:=Option.some.inj heq
     refine Dn ?_
     exact Gt 0 [] (K1)
   ·replace heq:=bif_false hb13 heq
    refine Zs 20 (congrArg Value.bool hb13)<|Zk 24 ?_
    obtain ⟨y8,hy8,heq⟩:=bind_some heq
    refine RgH.does (cal 27 (strings_IndexByte_c (a0:=({ data:=#[46,95,45,43] }:ByteArray)) (a1:=a0)  hy8)) ?_
    rintro _ _ _ _ ⟨_,rfl,rfl,rfl,rfl⟩
    refine Zk 28 ?_
    obtain rfl:=Option.some.inj heq
    refine Dn ?_
    exact Gt 0 [] (K1)
noncomputable def C42:Ctx:={ P:=Tryd.prog,f:=42,N:=25,c:=bodyOf Tryd.f42 }
def S42 (F:List Ch) (H0:Hp) (r:Bool) (v:Value) (H:Hp) (cs:List Ch):Prop:=H0=H∧v=.bool r∧F=cs
theorem blob_isPart.e1_c [GlobI 0 w0] {r:Bool}:∀ (a0:ByteArray) ,blob_isPart.e1 a0=some r→RunH C42 (S42 F H r) H w0 [.c [1,1,0],.c [1,1,1]] [(0,.string a0)] H (F):=by
 intro a0  heq
 unfold blob_isPart.e1 at heq
 obtain ⟨t1,ht1,heq⟩:=bind_some heq
 have K1:RunH C42 (S42 F H r) H w0 [.c [1,1,1]] [(2,.bool t1)] H (F):=by
  obtain rfl:=Option.some.inj heq
  exact RunH.done (by kernel_rfl) Tryd.func42 (v:=.bool t1) (by kernel_rfl) ⟨rfl,rfl,rfl⟩
 replace heq:=ht1
 refine Sa 0<|Zk 3 ?_
 rcases bool_cases (!sEq a0 ({ data:=#[] }:ByteArray)) with hb1 | hb1
 ·replace heq:=bif_true hb1 heq
  refine Zs 17 (congrArg Value.bool hb1)<|Zk 7 ?_
  rcases bool_cases (!sEq a0 ({ data:=#[46] }:ByteArray)) with hb2 | hb2
  ·replace heq:=bif_true hb2 heq
   refine Zs 21 (congrArg Value.bool hb2)<|Zk 11 ?_
   obtain rfl:=Option.some.inj heq
   refine Dn ?_
   exact Gt 0 [] (K1)
  ·replace heq:=bif_false hb2 heq
   refine Zs 21 (congrArg Value.bool hb2)<|Zk 11 ?_
   obtain rfl:=Option.some.inj heq
   refine Dn ?_
   exact Gt 0 [] (K1)
 ·replace heq:=bif_false hb1 heq
  refine Zs 17 (congrArg Value.bool hb1)<|Zk 11 ?_
  obtain rfl:=Option.some.inj heq
  refine Dn ?_
  exact Gt 0 [] (K1)
theorem blob_isPart.l2_c [GlobI 0 w0] {r:Bool} (e1:ByteArray→Option Bool)
  (he1:∀ (a0:ByteArray) ,e1 a0=some r→RunH C42 (S42 F H r) H w0 [.c [1,1,0],.c [1,1,1]] [(0,.string a0)] H (F)):∀ (k:Nat),∀ (a0:ByteArray) (v6:Int) ,blob_isPart.l2 e1 k a0 v6=some r→RunH C42 (S42 F H r) H w0 [.c [1,0,1,0,0],.l [1,0,1,0,0],.b 0,.c [1,1]] [(0,.string a0),(5,iv (a0.size:Int)),(6,iv v6)] H (F):=by
 intro k
 induction k with
 | zero=>intro a0 v6  heq; exact nomatch (show (none:Option Bool)=some r from heq)
 | succ k ihk =>
  intro a0 v6  heq
  rw [blob_isPart.l2] at heq
  refine Sa 1<|Zd 1<|An 1 ?_
  refine Cb heq ?_ ?_
  ·intro hb3 heq
   refine Sa 4<|Zd 2<|Sa 1 ?_
   obtain ⟨hn1,heq⟩:=guard?_some heq
   refine Zv 3 [n2 hn1] ?_
   obtain ⟨y1,hy1,heq⟩:=bind_some heq
   refine RgH.does (cal 12 (blob_inPart_c hy1 )) ?_
   rintro _ _ _ _ ⟨_,rfl,rfl,rfl,rfl⟩
   refine Zd 5 ?_
   refine Cb heq ?_ ?_
   ·intro hb4 heq
    refine Sa 1<|Zd 1 ?_
    obtain rfl:=Option.some.inj heq
    exact RunH.done (by kernel_rfl) Tryd.func42 (v:=.bool false) (by kernel_rfl) ⟨rfl,rfl,rfl⟩
   ·intro hb4 heq
    refine Sa 2<|Zd 2<|An 1 ?_
    exact Gt 0 [] (ihk a0 (w64 (v6+1)) heq)
  ·intro hb3 heq
   refine An 2 ?_
   exact Gt 0 [] (he1 a0 heq)
theorem blob_isPart_c [GlobI 0 w0] {a0:ByteArray} {r:Bool} (heq:blob_isPart.f a0=some r):CallsH Tryd.prog 42 #[.string a0] H w0 (F) (S42 F H r):=by
 refine Co C42 Tryd.func42 Tryd.ntmps42 ?_
 unfold blob_isPart.f at heq
 refine Sa 1<|Zd 1<|Sa 2<|Zd 3<|An 2 ?_
 exact Gt 0 [] (((blob_isPart.l2_c (e1:=blob_isPart.e1) (blob_isPart.e1_c)) big) a0 0 heq)
noncomputable def C26:Ctx:={ P:=Tryd.prog,f:=26,N:=24,c:=bodyOf Tryd.f26 }
def S26 (F:List Ch) (H0:Hp) (r:Bool) (v:Value) (H:Hp) (cs:List Ch):Prop:=H0=H∧v=.bool r∧F=cs
theorem blob_IsPath.e1_c [GlobI 0 w0] {r:Bool}:blob_IsPath.e1=some r→RunH C26 (S26 F H r) H w0 [.c [1,1,1,0],.c [1,1,1,1]] [] H (F):=by
 intro   heq
 unfold blob_IsPath.e1 at heq
 refine Sa 0<|Zd 1 ?_
 obtain rfl:=Option.some.inj heq
 exact RunH.done (by kernel_rfl) Tryd.func26 (v:=.bool true) (by kernel_rfl) ⟨rfl,rfl,rfl⟩
theorem blob_IsPath.l2_c [GlobI 0 w0] {r:Bool} (e1:Option Bool)
  (he1:e1=some r→RunH C26 (S26 F H r) H w0 [.c [1,1,1,0],.c [1,1,1,1]] [] H (F)):∀ (k:Nat),∀ (y1:List ByteArray) (A1:Option Addr) (c1:Nat) (ch1:Ch) (v16:Int) ,SlOwn Kd.string 9 H A1 c1 y1 ch1→blob_IsPath.l2 e1 k y1 v16=some r→RunH C26 (S26 F H r) H w0 [.c [1,1,0,1,0,0],.l [1,1,0,1,0,0],.b 0,.c [1,1,1]] [(14,.slice A1 y1.length c1),(15,iv (y1.length:Int)),(16,iv v16)] H (ch1::F):=by
 intro k
 induction k with
 | zero=>intro y1 A1 c1 ch1 v16 ho1 heq; exact nomatch (show (none:Option Bool)=some r from heq)
 | succ k ihk =>
  intro y1 A1 c1 ch1 v16 ho1 heq
  rw [blob_IsPath.l2] at heq
  refine Sa 1<|Zd 1<|An 1 ?_
  refine Cb heq ?_ ?_
  ·intro hb3 heq
   refine Sa 4 ?_
   obtain ⟨x1,hx1,heq⟩:=bind_some heq
   obtain ⟨ha1,cs1,hK1,hcc1⟩:=ho1.get hx1
   obtain rfl:cs1=[.string x1]:=hK1
   refine Zw 3 [nx ha1 hx1,el hcc1 0 0]<|Sa 1<|Zk 1 ?_
   obtain ⟨y2,hy2,heq⟩:=bind_some heq
   refine RgH.does (cal 21 (blob_isPart_c hy2 )) ?_
   rintro _ _ _ _ ⟨_,rfl,rfl,rfl,rfl⟩
   refine Zd 3 ?_
   refine Cb heq ?_ ?_
   ·intro hb4 heq
    refine Sa 1<|Zd 1 ?_
    obtain rfl:=Option.some.inj heq
    refine Up 1 [] ?_
    exact RunH.done (by kernel_rfl) Tryd.func26 (v:=.bool false) (by kernel_rfl) ⟨rfl,rfl,rfl⟩
   ·intro hb4 heq
    refine Sa 2<|Zd 2<|An 1 ?_
    exact Gt 0 [] (ihk y1 _ _ _ (w64 (v16+1)) ho1 heq)
  ·intro hb3 heq
   refine An 2 ?_
   exact Gt 1 [] (he1 heq)
theorem blob_IsPath_c [GlobI 0 w0] {a0:ByteArray} {r:Bool} (heq:blob_IsPath.f a0=some r):CallsH Tryd.prog 26 #[.string a0] H w0 (F) (S26 F H r):=by
 refine Co C26 Tryd.func26 Tryd.ntmps26 ?_
 unfold blob_IsPath.f at heq
 refine Sa 1<|Zd 1<|An 2 ?_
 obtain ⟨t1,ht1,heq⟩:=bind_some heq
 have K1:RunH C26 (S26 F H r) H w0 [.c [1,0,1],.c [1,1]] [(0,.string a0),(12,.bool t1)] H (F):=by
  refine Cb heq ?_ ?_
  ·intro hb2 heq
   refine Sa 1<|Zd 1 ?_
   obtain rfl:=Option.some.inj heq
   exact RunH.done (by kernel_rfl) Tryd.func26 (v:=.bool false) (by kernel_rfl) ⟨rfl,rfl,rfl⟩
  ·intro hb2 heq
   refine Sa 3<|Zk 1 ?_
   obtain ⟨y1,hy1,heq⟩:=bind_some heq
   refine RgH.does (cal 14 (strings_Split_c (a0:=a0) (a1:=({ data:=#[47] }:ByteArray))  hy1)) ?_
   rintro _ _ _ _ ⟨_,rfl,A1,c1,ch1,rfl,rfl,rfl,ho1⟩
   refine Zd 4<|An 2 ?_
   exact Gt 0 [] (((blob_IsPath.l2_c (e1:=blob_IsPath.e1) (blob_IsPath.e1_c)) big) y1 _ _ _ 0 ho1 heq)
 replace heq:=ht1
 refine Sa 0<|Zk 4 ?_
 rcases bool_cases (decide ((a0.size:Int)<1)) with hb1 | hb1
 ·replace heq:=bif_true hb1 heq
  refine Zs 8 (congrArg Value.bool hb1)<|Zk 8 ?_
  obtain rfl:=Option.some.inj heq
  refine Dn ?_
  exact Gt 0 [] (K1)
 ·replace heq:=bif_false hb1 heq
  refine Zs 8 (congrArg Value.bool hb1)<|Zk 8 ?_
  obtain rfl:=Option.some.inj heq
  refine Dn ?_
  exact Gt 0 [] (K1)
def S43 (F:List Ch) (H0:Hp) (r:ByteArray) (v:Value) (H:Hp) (cs:List Ch):Prop:=H0=H∧v=.string r∧F=cs
theorem strings_Trim_c [GlobI 0 w0] {a0:ByteArray} {a1:ByteArray} {r:ByteArray} (heq:strings_Trim.f a0 a1=some r):CallsH Tryd.prog 43 #[.string a0,.string a1] H w0 F (S43 F H r):=by
 intro w hh
 unfold strings_Trim.f at heq
 obtain ⟨hn,heq⟩:=guard?_some heq
 obtain rfl:=Option.some.inj heq
 refine (Shelf.Tryd.strings_Trim a0 a1 w (by simp at hn; exact hn.1) (by simp at hn; exact hn.2.1) (by have h:=hn; rw [Bool.and_eq_true,Bool.and_eq_true] at h; exact ascii_of_all h.2.2)).mono ?_
 rintro e w' ⟨rfl,hx⟩
 exact ⟨_,rfl,H,F,Le.refl H,hh.later hx,rfl,rfl,rfl⟩
noncomputable def C27:Ctx:={ P:=Tryd.prog,f:=27,N:=24,c:=bodyOf Tryd.f27 }
def S27 (F:List Ch) (H0:Hp) (r:Bool) (v:Value) (H:Hp) (cs:List Ch):Prop:=H0=H∧v=.bool r∧F=cs
theorem config_IsWord_c [GlobI 0 w0] {a0:ByteArray} {r:Bool} (heq:config_IsWord.f a0=some r):CallsH Tryd.prog 27 #[.string a0] H w0 (F) (S27 F H r):=by
 refine Co C27 Tryd.func27 Tryd.ntmps27 ?_
 unfold config_IsWord.f at heq
 refine Sa 1<|Zd 1<|An 2 ?_
 obtain ⟨t1,ht1,heq⟩:=bind_some heq
 have K1:RunH C27 (S27 F H r) H w0 [.c [1,0,1],.c [1,1]] [(0,.string a0),(20,.bool t1)] H (F):=by
  refine Cb heq ?_ ?_
  ·intro hb4 heq
   refine Sa 1<|Zd 1 ?_
   obtain rfl:=Option.some.inj heq
   exact RunH.done (by kernel_rfl) Tryd.func27 (v:=.bool false) (by kernel_rfl) ⟨rfl,rfl,rfl⟩
  ·intro hb4 heq
   refine Sa 2<|Zk 1 ?_
   obtain ⟨y1,hy1,heq⟩:=bind_some heq
   refine RgH.does (cal 22 (strings_Trim_c (a0:=a0) (a1:=({ data:=#[97,98,99,100,101,102,103,104,105,106,107,108,109,110,111,112,113,114,115,116,117,118,119,120,121,122,48,49,50,51,52,53,54,55,56,57,95,45] }:ByteArray))  hy1)) ?_
   rintro _ _ _ _ ⟨_,rfl,rfl,rfl,rfl⟩
   refine Zd 4 ?_
   obtain rfl:=Option.some.inj heq
   exact RunH.done (by kernel_rfl) Tryd.func27 (v:=.bool (sEq y1 ({ data:=#[] }:ByteArray))) (by kernel_rfl) ⟨rfl,rfl,rfl⟩
 replace heq:=ht1
 refine Sa 0<|Zk 4 ?_
 rcases bool_cases (decide ((a0.size:Int)<1)) with hb1 | hb1
 ·replace heq:=bif_true hb1 heq
  refine Zs 6 (congrArg Value.bool hb1)<|Zk 18 ?_
  obtain rfl:=Option.some.inj heq
  refine Dn ?_
  exact Gt 0 [] (K1)
 ·replace heq:=bif_false hb1 heq
  refine Zs 6 (congrArg Value.bool hb1)<|Zk 9 ?_
  rcases bool_cases (decide (40<(a0.size:Int))) with hb2 | hb2
  ·replace heq:=bif_true hb2 heq
   refine Zs 11 (congrArg Value.bool hb2)<|Zk 18 ?_
   obtain rfl:=Option.some.inj heq
   refine Dn ?_
   exact Gt 0 [] (K1)
  ·replace heq:=bif_false hb2 heq
   refine Zs 11 (congrArg Value.bool hb2) ?_
   obtain ⟨hn1,heq⟩:=guard?_some heq
   refine Zv 14 [n2 hn1] ?_
   rcases bool_cases (decide ((bt a0 0)<97)) with hb3 | hb3
   ·replace heq:=bif_true hb3 heq
    refine Zs 16 (congrArg Value.bool hb3)<|Zk 18 ?_
    obtain rfl:=Option.some.inj heq
    refine Dn ?_
    exact Gt 0 [] (K1)
   ·replace heq:=bif_false hb3 heq
    refine Zs 16 (congrArg Value.bool hb3) ?_
    obtain ⟨hn2,heq⟩:=guard?_some heq
    refine Zv 18 [n2 hn2] ?_
    obtain rfl:=Option.some.inj heq
    refine Dn ?_
    exact Gt 0 [] (K1)
noncomputable def C17:Ctx:={ P:=Tryd.prog,f:=17,N:=15,c:=bodyOf Tryd.f17 }
def S17 (F:List Ch) (H0:Hp) (r:Bool) (v:Value) (H:Hp) (cs:List Ch):Prop:=H0=H∧v=.bool r∧F=cs
theorem trials_within_c [GlobI 0 w0] {a0 a1 a2:Int} {r:Bool} (heq:trials_within.f a0 a1 a2=some r):CallsH Tryd.prog 17 #[iv a0,iv a1,iv a2] H w0 (F) (S17 F H r):=by
 refine Co C17 Tryd.func17 Tryd.ntmps17 ?_
 unfold trials_within.f at heq
 refine Sa 1<|Zd 1<|An 1 ?_
 obtain ⟨t1,ht1,heq⟩:=bind_some heq
 have K1:RunH C17 (S17 F H r) H w0 [.c [1,1]] [(6,.bool t1)] H (F):=by
  obtain rfl:=Option.some.inj heq
  exact RunH.done (by kernel_rfl) Tryd.func17 (v:=.bool t1) (by kernel_rfl) ⟨rfl,rfl,rfl⟩
 replace heq:=ht1
 refine Sa 0<|Zk 4 ?_
 rcases bool_cases (decide (a1≤a0)) with hb1 | hb1
 ·replace heq:=bif_true hb1 heq
  refine Zs 10 (congrArg Value.bool hb1)<|Zk 9 ?_
  obtain rfl:=Option.some.inj heq
  refine Dn ?_
  exact Gt 0 [] (K1)
 ·replace heq:=bif_false hb1 heq
  refine Zs 10 (congrArg Value.bool hb1)<|Zk 9 ?_
  obtain rfl:=Option.some.inj heq
  refine Dn ?_
  exact Gt 0 [] (K1)
noncomputable def C8:Ctx:={ P:=Tryd.prog,f:=8,N:=54,c:=bodyOf Tryd.f8 }
def S8 (F:List Ch) (H0:Hp) (r:Int) (v:Value) (H:Hp) (cs:List Ch):Prop:=H0=H∧v=iv r∧F=cs
theorem trials_CheckTest.e1_c [GlobI 0 w0] {r:Int}:trials_CheckTest.e1=some r→RunH C8 (S8 F H r) H w0 [.c [1,1,1,0],.c [1,1,1,1]] [] H (F):=by
 intro   heq
 unfold trials_CheckTest.e1 at heq
 refine Sa 0<|Zd 1 ?_
 obtain rfl:=Option.some.inj heq
 exact RunH.done (by kernel_rfl) Tryd.func8 (v:=iv 0) (by kernel_rfl) ⟨rfl,rfl,rfl⟩
theorem trials_CheckTest.l2_c [GlobI 0 w0] {r:Int} (e1:Option Int)
  (he1:e1=some r→RunH C8 (S8 F H r) H w0 [.c [1,1,1,0],.c [1,1,1,1]] [] H (F)):∀ (k:Nat),∀ (a0:Test) (Aa0_1:Option Addr) (ca0_1 g1:Nat) (v23:Int) ,Rw kTestCase H F Aa0_1 a0.Cases→a0.Cases.length≤ca0_1→trials_CheckTest.l2 e1 k a0 v23=some r→RunH C8 (S8 F H r) H w0 [.c [1,1,0,1,0,0],.l [1,1,0,1,0,0],.b 1,.c [1,1,1]] [(1,pg g1 0),(21,.slice Aa0_1 a0.Cases.length ca0_1),(22,iv (a0.Cases.length:Int)),(23,iv v23)] H ((some (g1,.cells #[.string a0.Name,.slice Aa0_1 a0.Cases.length ca0_1] 24 (0,0)))::F):=by
 intro k
 induction k with
 | zero=>intro a0 Aa0_1 ca0_1 g1 v23 hra0_1 hca0_1 heq; exact nomatch (show (none:Option Int)=some r from heq)
 | succ k ihk =>
  intro a0 Aa0_1 ca0_1 g1 v23 hra0_1 hca0_1 heq
  rw [trials_CheckTest.l2] at heq
  refine Sa 1<|Zd 1<|An 1 ?_
  refine Cb heq ?_ ?_
  ·intro hb4 heq
   refine Sa 4 ?_
   obtain ⟨x1,hx1,heq⟩:=bind_some heq
   obtain ⟨ha1,cs1,hK1,hcc1⟩:=hra0_1.get hx1
   obtain ⟨rfl⟩:=kTestCase_open hK1
   refine Zv 3 ([nx ha1 hx1]++ers hcc1 1) ?_
   refine RgH.does (DoesH.new (d:=4) (v:=fun g=>.pointer (some ⟨g,0,none⟩)) (o:=fun g=>.cells #[.string ByteArray.empty,iv 0] 40 (0,0)) (fun g=>by kernel_rfl)) ?_
   rintro _ _ _ _ ⟨g2,rfl,rfl,rfl⟩
   refine Zk 5 ?_
   refine RgH.does (DoesH.store (k:=0) (g:=g2) (off:=0) (v:=.agg #[.string x1.Name,iv x1.Seconds]) (cells':=#[.string x1.Name,iv x1.Seconds]) (by kernel_rfl) rfl (by kernel_rfl) (by kernel_rfl)) ?_
   rintro _ _ _ _ ⟨rfl,rfl,rfl⟩
   refine RgH.nrm ?_
   refine Dn<|Sa 2<|Zv 2 [bx 0 0] ?_
   obtain ⟨y2,hy2,heq⟩:=bind_some heq
   refine RgH.does (cal 31 (config_IsWord_c hy2 )) ?_
   rintro _ _ _ _ ⟨_,rfl,rfl,rfl,rfl⟩
   refine Zd 5 ?_
   refine Cb heq ?_ ?_
   ·intro hb5 heq
    refine Sa 1<|Zd 1 ?_
    obtain rfl:=Option.some.inj heq
    refine Up 2 [] ?_
    exact RunH.done (by kernel_rfl) Tryd.func8 (v:=iv 5) (by kernel_rfl) ⟨rfl,rfl,rfl⟩
   ·intro hb5 heq
    refine Sa 1<|Zv 2 [bx 0 1] ?_
    obtain ⟨y3,hy3,heq⟩:=bind_some heq
    refine RgH.does (cal 36 (trials_within_c hy3 )) ?_
    rintro _ _ _ _ ⟨_,rfl,rfl,rfl,rfl⟩
    refine Zd 5 ?_
    refine Cb heq ?_ ?_
    ·intro hb6 heq
     refine Sa 1<|Zd 1 ?_
     obtain rfl:=Option.some.inj heq
     refine Up 2 [] ?_
     exact RunH.done (by kernel_rfl) Tryd.func8 (v:=iv 1) (by kernel_rfl) ⟨rfl,rfl,rfl⟩
    ·intro hb6 heq
     refine An 1 ?_
     obtain ⟨t1,ht1,heq⟩:=bind_some heq
     have K3:RunH C8 (S8 F H r) H w0 [.c [1,1,0,1,0,0,1,1,0,0,1,0,1,1,1,1,1],.b 3,.b 2,.c [1,1,0,1,0,0,1,1,1],.l [1,1,0,1,0,0],.b 1,.c [1,1,1]] [(1,pg g1 0),(21,.slice Aa0_1 a0.Cases.length ca0_1),(22,iv (a0.Cases.length:Int)),(23,iv v23),(38,.bool t1)] H ((some (g1,.cells #[.string a0.Name,.slice Aa0_1 a0.Cases.length ca0_1] 24 (0,0)))::F):=by
      refine Cb heq ?_ ?_
      ·intro hb8 heq
       refine Sa 1<|Zd 1 ?_
       obtain rfl:=Option.some.inj heq
       refine Up 1 [] ?_
       exact RunH.done (by kernel_rfl) Tryd.func8 (v:=iv 8) (by kernel_rfl) ⟨rfl,rfl,rfl⟩
      ·intro hb8 heq
       refine Sa 3<|Zd 2<|An 1 ?_
       exact Gt 0 [] (ihk a0 _ _ _ (w64 (v23+1)) hra0_1 hca0_1 heq)
     replace heq:=ht1
     refine Sd 0 15 [] [3,3,3,3,3,3,3,3,3,3,3,3,3,3,3]<|Zr [0,1,2] 12 [] (Pk 2 [0,1]) (Pk 2 [0,1]) ?_
     rcases bool_cases (decide (0<v23)) with hb7 | hb7
     ·replace heq:=bif_true hb7 heq
      refine Zu 41 (congrArg Value.bool hb7) ?_
      obtain ⟨x2,hx2,heq⟩:=bind_some heq
      obtain ⟨ha2,cs2,hK2,hcc2⟩:=hra0_1.get hx2
      obtain ⟨rfl⟩:=kTestCase_open hK2
      refine Zr [3,4,5,6,7,8,9,10,11,12,13,14] 0 [bx 0 0,bx 1 1,nx ha2 hx2,er hcc2 2 0] (Pk 2 [0,1]) (Pk 2 [0,1]) ?_
      obtain rfl:=Option.some.inj heq
      refine DrH.done (by kernel_rfl) ?_
      exact Gt 1 [] (K3)
     ·replace heq:=bif_false hb7 heq
      refine Zu 41 (congrArg Value.bool hb7)<|Zr [3,4,5,6,7,8,9,10,11,12,13,14] 0 [] (Pk 2 [0,1]) (Pk 2 [0,1]) ?_
      obtain rfl:=Option.some.inj heq
      refine DrH.done (by kernel_rfl) ?_
      exact Gt 1 [] (K3)
  ·intro hb4 heq
   refine An 2 ?_
   exact Gt 1 [] (he1 heq)
theorem trials_CheckTest_c [GlobI 0 w0] {a0:Test} {Aa0_1:Option Addr} {na0_1 ca0_1:Nat} {r:Int} (heq:trials_CheckTest.f a0=some r) (hra0_1:Rw kTestCase H F Aa0_1 a0.Cases) (hca0_1:na0_1≤ca0_1) (hna0_1:na0_1=a0.Cases.length):CallsH Tryd.prog 8 #[.agg #[.string a0.Name,.slice Aa0_1 na0_1 ca0_1]] H w0 (F) (S8 F H r):=by
 refine Co C8 Tryd.func8 Tryd.ntmps8 ?_
 subst hna0_1
 unfold trials_CheckTest.f at heq
 refine Sa 1 ?_
 refine RgH.does (DoesH.new (d:=1) (v:=fun g=>.pointer (some ⟨g,0,none⟩)) (o:=fun g=>.cells #[.string a0.Name,.slice Aa0_1 a0.Cases.length ca0_1] 24 (0,0)) (fun g=>by kernel_rfl)) ?_
 rintro _ _ _ _ ⟨g1,rfl,rfl,rfl⟩
 refine Zd 2<|Sa 3<|Zv 2 [bx 0 0] ?_
 obtain ⟨y1,hy1,heq⟩:=bind_some heq
 refine RgH.does (cal 8 (blob_IsPath_c hy1 )) ?_
 rintro _ _ _ _ ⟨_,rfl,rfl,rfl,rfl⟩
 refine Zd 5 ?_
 refine Cb heq ?_ ?_
 ·intro hb1 heq
  refine Sa 1<|Zd 1 ?_
  obtain rfl:=Option.some.inj heq
  refine Up 1 [] ?_
  exact RunH.done (by kernel_rfl) Tryd.func8 (v:=iv 5) (by kernel_rfl) ⟨rfl,rfl,rfl⟩
 ·intro hb1 heq
  refine Sa 1<|Zw 5 [bx 0 1] ?_
  refine Cb heq ?_ ?_
  ·intro hb2 heq
   refine Sa 1<|Zd 1 ?_
   obtain rfl:=Option.some.inj heq
   refine Up 1 [] ?_
   exact RunH.done (by kernel_rfl) Tryd.func8 (v:=iv 9) (by kernel_rfl) ⟨rfl,rfl,rfl⟩
  ·intro hb2 heq
   refine Sa 1<|Zw 5 [bx 0 1] ?_
   refine Cb heq ?_ ?_
   ·intro hb3 heq
    refine Sa 1<|Zd 1 ?_
    obtain rfl:=Option.some.inj heq
    refine Up 1 [] ?_
    exact RunH.done (by kernel_rfl) Tryd.func8 (v:=iv 2) (by kernel_rfl) ⟨rfl,rfl,rfl⟩
   ·intro hb3 heq
    refine Sa 4<|Zw 4 [bx 0 1]<|An 2 ?_
    exact Gt 0 [] (((trials_CheckTest.l2_c (e1:=trials_CheckTest.e1) (trials_CheckTest.e1_c)) big) a0 _ _ _ 0 hra0_1 hca0_1 heq)
noncomputable def C36:Ctx:={ P:=Tryd.prog,f:=36,N:=6,c:=bodyOf Tryd.f36 }
def S36 (F:List Ch) (H0:Hp) (r:Bool) (v:Value) (H:Hp) (cs:List Ch):Prop:=H0=H∧v=.bool r∧F=cs
theorem cmp_isNaN_int_c [GlobI 0 w0] {a0:Int} {r:Bool} (heq:cmp_isNaN_int.f a0=some r):CallsH Tryd.prog 36 #[iv a0] H w0 (F) (S36 F H r):=by
 refine Co C36 Tryd.func36 Tryd.ntmps36 ?_
 unfold cmp_isNaN_int.f at heq
 refine Sa 1<|Zd 1<|Sa 1<|Zd 4 ?_
 obtain rfl:=Option.some.inj heq
 exact RunH.done (by kernel_rfl) Tryd.func36 (v:=.bool (a0 != a0)) (by kernel_rfl) ⟨rfl,rfl,rfl⟩
noncomputable def C20:Ctx:={ P:=Tryd.prog,f:=20,N:=20,c:=bodyOf Tryd.f20 }
def S20 (F:List Ch) (H0:Hp) (r:Int) (v:Value) (H:Hp) (cs:List Ch):Prop:=H0=H∧v=iv r∧F=cs
theorem cmp_Compare_int_c [GlobI 0 w0] {a0 a1:Int} {r:Int} (heq:cmp_Compare_int.f a0 a1=some r):CallsH Tryd.prog 20 #[iv a0,iv a1] H w0 (F) (S20 F H r):=by
 refine Co C20 Tryd.func20 Tryd.ntmps20 ?_
 unfold cmp_Compare_int.f at heq
 refine Sa 1<|Zd 1<|Sa 1<|Zk 1 ?_
 obtain ⟨y1,hy1,heq⟩:=bind_some heq
 refine RgH.does (cal 8 (cmp_isNaN_int_c hy1 )) ?_
 rintro _ _ _ _ ⟨_,rfl,rfl,rfl,rfl⟩
 refine Zd 3<|Sa 1<|Zk 1 ?_
 obtain ⟨y2,hy2,heq⟩:=bind_some heq
 refine RgH.does (cal 10 (cmp_isNaN_int_c hy2 )) ?_
 rintro _ _ _ _ ⟨_,rfl,rfl,rfl,rfl⟩
 refine Zd 3<|Sa 2<|Zd 1 ?_
 refine Cb heq ?_ ?_
 ·intro hb1 heq
  refine Sa 2<|Zd 1 ?_
  refine Cb heq ?_ ?_
  ·intro hb2 heq
   refine Sa 1<|Zd 1 ?_
   obtain rfl:=Option.some.inj heq
   exact RunH.done (by kernel_rfl) Tryd.func20 (v:=iv 0) (by kernel_rfl) ⟨rfl,rfl,rfl⟩
  ·intro hb2 heq
   refine Sa 2<|Zd 1 ?_
   obtain rfl:=Option.some.inj heq
   exact RunH.done (by kernel_rfl) Tryd.func20 (v:=iv (-1)) (by kernel_rfl) ⟨rfl,rfl,rfl⟩
 ·intro hb1 heq
  refine Sa 3<|Zd 1 ?_
  refine Cb heq ?_ ?_
  ·intro hb3 heq
   refine Sa 1<|Zd 1 ?_
   obtain rfl:=Option.some.inj heq
   exact RunH.done (by kernel_rfl) Tryd.func20 (v:=iv 1) (by kernel_rfl) ⟨rfl,rfl,rfl⟩
  ·intro hb3 heq
   refine Sa 3<|Zd 3 ?_
   refine Cb heq ?_ ?_
   ·intro hb4 heq
    refine Sa 1<|Zd 1 ?_
    obtain rfl:=Option.some.inj heq
    exact RunH.done (by kernel_rfl) Tryd.func20 (v:=iv (-1)) (by kernel_rfl) ⟨rfl,rfl,rfl⟩
   ·intro hb4 heq
    refine Sa 3<|Zd 3 ?_
    refine Cb heq ?_ ?_
    ·intro hb5 heq
     refine Sa 1<|Zd 1 ?_
     obtain rfl:=Option.some.inj heq
     exact RunH.done (by kernel_rfl) Tryd.func20 (v:=iv 1) (by kernel_rfl) ⟨rfl,rfl,rfl⟩
    ·intro hb5 heq
     refine Sa 2<|Zd 1 ?_
     obtain rfl:=Option.some.inj heq
     exact RunH.done (by kernel_rfl) Tryd.func20 (v:=iv 0) (by kernel_rfl) ⟨rfl,rfl,rfl⟩
noncomputable def C19:Ctx:={ P:=Tryd.prog,f:=19,N:=10,c:=bodyOf Tryd.f19 }
def S19 (F:List Ch) (H0:Hp) (r:Int) (v:Value) (H:Hp) (cs:List Ch):Prop:=H0=H∧v=iv r∧F=cs
theorem trials_Shards_1_c [GlobI 0 w0] {a0 a1:TestCase} {r:Int} (heq:trials_Shards_1.f a0 a1=some r):CallsH Tryd.prog 19 #[.agg #[.string a0.Name,iv a0.Seconds],.agg #[.string a1.Name,iv a1.Seconds]] H w0 (F) (S19 F H r):=by
 refine Co C19 Tryd.func19 Tryd.ntmps19 ?_
 unfold trials_Shards_1.f at heq
 refine Sa 1 ?_
 refine RgH.does (DoesH.new (d:=2) (v:=fun g=>.pointer (some ⟨g,0,none⟩)) (o:=fun g=>.cells #[.string a0.Name,iv a0.Seconds] 40 (0,0)) (fun g=>by kernel_rfl)) ?_
 rintro _ _ _ _ ⟨g1,rfl,rfl,rfl⟩
 refine RgH.does (DoesH.new (d:=3) (v:=fun g=>.pointer (some ⟨g,0,none⟩)) (o:=fun g=>.cells #[.string a1.Name,iv a1.Seconds] 40 (0,0)) (fun g=>by kernel_rfl)) ?_
 rintro _ _ _ _ ⟨g2,rfl,rfl,rfl⟩
 refine Zd 3<|Sa 1<|Zv 4 [bx 0 1,bx 1 1] ?_
 obtain ⟨y1,hy1,heq⟩:=bind_some heq
 refine RgH.does (cal 9 (cmp_Compare_int_c hy1 )) ?_
 rintro _ _ _ _ ⟨_,rfl,rfl,rfl,rfl⟩
 refine Zd 6 ?_
 obtain rfl:=Option.some.inj heq
 refine Up 2 [] ?_
 exact RunH.done (by kernel_rfl) Tryd.func19 (v:=iv y1) (by kernel_rfl) ⟨rfl,rfl,rfl⟩
noncomputable def C46:Ctx:={ P:=Tryd.prog,f:=46,N:=53,c:=bodyOf Tryd.f46 }
def S46 (F:List Ch) (H0:Hp) (Aa0:Option Addr) (ca0:Nat) (la0:Nat) (r:(List TestCase)) (v:Value) (H:Hp) (cs:List Ch):Prop:=∃ (ch0:Ch),H0=H∧v=.tuple #[]∧ch0::F=cs∧SlOwn kTestCase 40 H Aa0 ca0 r ch0∧la0=r.length
theorem slices_insertionSortCmpFunc_TestCase.e2_c [GlobI 0 w0] {r:(List TestCase)} (backl1:Int→Int→(List TestCase)→Int→Option (List TestCase))
  (hbackl1:∀ (Aa0:Option Addr) (ca0 la0:Nat) (a1 a2:Int) (v_data0:List TestCase) (chv_data0:Ch) (nv_data0:Nat) (v_i8:Int) ,nv_data0=v_data0.length→la0=nv_data0→SlOwn kTestCase 40 H Aa0 ca0 v_data0 chv_data0→backl1 a1 a2 v_data0 v_i8=some r→RunH C46 (S46 F H Aa0 ca0 la0 r) H w0 [.c [1,0,0],.l [1,0,0],.b 0] [(0,.slice Aa0 nv_data0 ca0),(1,iv a1),(2,iv a2),(3,.func (.func 19) #[] #[]),(8,iv v_i8)] H (chv_data0::F)):∀ (Aa0:Option Addr) (ca0 la0:Nat) (a1 a2 v_i8:Int) (v_data0:List TestCase) (chv_data0:Ch) (nv_data0:Nat) ,nv_data0=v_data0.length→la0=nv_data0→SlOwn kTestCase 40 H Aa0 ca0 v_data0 chv_data0→slices_insertionSortCmpFunc_TestCase.e2 backl1 a1 a2 v_i8 v_data0=some r→RunH C46 (S46 F H Aa0 ca0 la0 r) H w0 [.c [1,0,0,1,1],.l [1,0,0],.b 0] [(0,.slice Aa0 nv_data0 ca0),(1,iv a1),(2,iv a2),(3,.func (.func 19) #[] #[]),(8,iv v_i8)] H (chv_data0::F):=by
 intro Aa0 ca0 la0 a1 a2 v_i8 v_data0 chv_data0 nv_data0 hnv_data0 hlv_data0 hov_data0 heq
 subst hnv_data0
 unfold slices_insertionSortCmpFunc_TestCase.e2 at heq
 refine Sa 0<|Zd 3<|An 1 ?_
 exact Gt 0 [] (hbackl1 _ _ _ a1 a2 v_data0 _ _ (w64 (v_i8+1)) rfl hlv_data0 hov_data0 heq)
theorem slices_insertionSortCmpFunc_TestCase.l3_c [GlobI 0 w0] {r:(List TestCase)} (e2:Int→Int→Int→(List TestCase)→Option (List TestCase))
  (he2:∀ (Aa0:Option Addr) (ca0 la0:Nat) (a1 a2 v_i8:Int) (v_data0:List TestCase) (chv_data0:Ch) (nv_data0:Nat) ,nv_data0=v_data0.length→la0=nv_data0→SlOwn kTestCase 40 H Aa0 ca0 v_data0 chv_data0→e2 a1 a2 v_i8 v_data0=some r→RunH C46 (S46 F H Aa0 ca0 la0 r) H w0 [.c [1,0,0,1,1],.l [1,0,0],.b 0] [(0,.slice Aa0 nv_data0 ca0),(1,iv a1),(2,iv a2),(3,.func (.func 19) #[] #[]),(8,iv v_i8)] H (chv_data0::F)):∀ (k:Nat),∀ (Aa0:Option Addr) (ca0 la0:Nat) (a1 a2 v_i8:Int) (v_data0:List TestCase) (chv_data0:Ch) (nv_data0:Nat) (v_j9:Int) ,nv_data0=v_data0.length→la0=nv_data0→SlOwn kTestCase 40 H Aa0 ca0 v_data0 chv_data0→slices_insertionSortCmpFunc_TestCase.l3 e2 k a1 a2 v_i8 v_data0 v_j9=some r→RunH C46 (S46 F H Aa0 ca0 la0 r) H w0 [.c [1,0,0,1,0,0,1,0,0],.l [1,0,0,1,0,0,1,0,0],.b 2,.b 1,.c [1,0,0,1,1],.l [1,0,0],.b 0] [(0,.slice Aa0 nv_data0 ca0),(1,iv a1),(2,iv a2),(3,.func (.func 19) #[] #[]),(8,iv v_i8),(9,iv v_j9)] H (chv_data0::F):=by
 intro k
 induction k with
 | zero=>intro Aa0 ca0 la0 a1 a2 v_i8 v_data0 chv_data0 nv_data0 v_j9 hnv_data0 hlv_data0 hov_data0 heq; exact nomatch (show (none:Option (List TestCase))=some r from heq)
 | succ k ihk =>
  intro Aa0 ca0 la0 a1 a2 v_i8 v_data0 chv_data0 nv_data0 v_j9 hnv_data0 hlv_data0 hov_data0 heq
  subst hnv_data0
  rw [slices_insertionSortCmpFunc_TestCase.l3] at heq
  refine An 2 ?_
  obtain ⟨t1,ht1,heq⟩:=bind_some heq
  have K5:RunH C46 (S46 F H Aa0 ca0 la0 r) H w0 [.c [1,0,0,1,0,0,1,0,0,0,1],.c [1,0,0,1,0,0,1,0,0,1],.l [1,0,0,1,0,0,1,0,0],.b 2,.b 1,.c [1,0,0,1,1],.l [1,0,0],.b 0] [(0,.slice Aa0 v_data0.length ca0),(1,iv a1),(2,iv a2),(3,.func (.func 19) #[] #[]),(8,iv v_i8),(9,iv v_j9),(34,.bool t1)] H (chv_data0::F):=by
   refine Cb heq ?_ ?_
   ·intro hb3 heq
    refine An 3<|Sd 1 18 [] [3,3,3,3,3,3,3,3,3,3,3,3,3,3,3,1,3,2]<|Zr [0,1] 16 [] (Pk 1 [0]) (Pk 1 [])<|Zt [2,3,4] 13 [] (Pk 1 []) ?_
    obtain ⟨x3,hx3,heq⟩:=bind_some heq
    obtain ⟨ha3,cs3,hK3,hcc3⟩:=hov_data0.get hx3
    obtain ⟨rfl⟩:=kTestCase_open hK3
    refine Zr [5,6,7,8,9] 8 ([nx ha3 hx3]++els hcc3 0) (Pk 1 [0]) (Pk 1 []) ?_
    obtain ⟨x4,hx4,heq⟩:=bind_some heq
    obtain ⟨ha4,cs4,hK4,hcc4⟩:=hov_data0.get hx4
    obtain ⟨rfl⟩:=kTestCase_open hK4
    refine Zt [10,11,12] 5 [nx ha4 hx4] (Pk 1 []) ?_
    obtain ⟨ha5,cs5,hK5,hcc5⟩:=hov_data0.get hx4
    obtain ⟨rfl⟩:=kTestCase_open hK5
    refine Zr [13,14] 3 (els hcc5 0++[nx ha5 hx4]) (Pk 1 [0]) (Pk 1 []) ?_
    obtain ⟨ha6,cs6,hK6,hcc6⟩:=hov_data0.get hx4
    obtain ⟨rfl⟩:=kTestCase_open hK6
    refine Dz 15 (DoesH.storeEl (a:=((adr Aa0).add (v_j9.toNat*2))) (k:=0) (kd:=kTestCase) (c0:=[.string x4.Name,iv x4.Seconds]) (x':=x3) (o:=0) (ix:=v_j9) (v:=.agg #[.string x3.Name,iv x3.Seconds]) (by kernel_rfl) rfl hov_data0 hx4 (by kernel_rfl) hcc6 rfl (Nat.le_of_ble_eq_true (by kernel_rfl)) kTestCase_mk) ?_
    rintro _ _ _ _ ⟨ch1,rfl,rfl,rfl,ho1⟩
    have hn1:v_data0.length=(v_data0.set v_j9.toNat x3).length:=by rw [List.length_set]
    refine ⟨fun _ w hh=>⟨(fun h=>by cases h),fun _=>(Pk 1 []) w hh,(fun h=>by cases h)⟩,?_⟩
    refine DrH.nrm ?_
    obtain ⟨x5,hx5,heq⟩:=bind_some heq
    obtain ⟨ha7,cs7,hK7,hcc7⟩:=ho1.get hx5
    obtain ⟨rfl⟩:=kTestCase_open hK7
    refine Zt [16] 1 [ny ha7 hx5 (show v_data0.length=_ from hn1)] (Pk 1 []) ?_
    obtain ⟨ha8,cs8,hK8,hcc8⟩:=ho1.get hx5
    obtain ⟨rfl⟩:=kTestCase_open hK8
    refine Dz 17 (DoesH.storeEl (a:=((adr Aa0).add ((w64 (v_j9 - 1)).toNat*2))) (k:=0) (kd:=kTestCase) (c0:=[.string x5.Name,iv x5.Seconds]) (x':=x4) (o:=0) (ix:=(w64 (v_j9 - 1))) (v:=.agg #[.string x4.Name,iv x4.Seconds]) (by kernel_rfl) rfl ho1 hx5 (by kernel_rfl) hcc8 rfl (Nat.le_of_ble_eq_true (by kernel_rfl)) kTestCase_mk) ?_
    rintro _ _ _ _ ⟨ch2,rfl,rfl,rfl,ho2⟩
    have hn2:v_data0.length=((v_data0.set v_j9.toNat x3).set (w64 (v_j9 - 1)).toNat x4).length:=by rw [List.length_set]; exact hn1
    refine ⟨fun _ w hh=>⟨(fun h=>by cases h),(fun h=>absurd h (by decide)),(fun h=>by cases h)⟩,?_⟩
    refine DrH.nrm ?_
    refine DrH.done (by kernel_rfl) ?_
    refine Sa 1<|Zd 3<|An 1 ?_
    exact Gt 0 [] (ihk _ _ _ a1 a2 v_i8 ((v_data0.set v_j9.toNat x3).set (w64 (v_j9 - 1)).toNat x4) _ _ (w64 (v_j9 - 1)) hn2 hlv_data0 ho2 heq)
   ·intro hb3 heq
    refine An 2 ?_
    exact Gt 0 [] (he2 _ _ _ a1 a2 v_i8 v_data0 _ _ rfl hlv_data0 hov_data0 heq)
  replace heq:=ht1
  refine Sd 0 17 [] [3,3,3,3,3,3,3,3,3,3,3,3,3,3,0,3,3]<|Zr [0,1,2,3] 13 [] (Pk 1 [0]) (Pk 1 [0]) ?_
  rcases bool_cases (decide (a1<v_j9)) with hb2 | hb2
  ·replace heq:=bif_true hb2 heq
   refine Zu 21 (congrArg Value.bool hb2) ?_
   obtain ⟨x1,hx1,heq⟩:=bind_some heq
   obtain ⟨ha1,cs1,hK1,hcc1⟩:=hov_data0.get hx1
   obtain ⟨rfl⟩:=kTestCase_open hK1
   obtain ⟨x2,hx2,heq⟩:=bind_some heq
   obtain ⟨ha2,cs2,hK2,hcc2⟩:=hov_data0.get hx2
   obtain ⟨rfl⟩:=kTestCase_open hK2
   refine Zr [4,5,6,7,8,9,10,11,12,13] 3 ([nx ha1 hx1]++els hcc1 0++[nx ha2 hx2]++els hcc2 0) (Pk 1 [0]) (Pk 1 [0]) ?_
   obtain ⟨y1,hy1,heq⟩:=bind_some heq
   refine Dz 14 (cal 32 (trials_Shards_1_c hy1 )) ?_
   rintro _ _ _ _ ⟨_,rfl,rfl,rfl,rfl⟩
   refine ⟨fun _ w hh=>⟨fun _=>(Pk 1 [0]) w hh,fun _=>(Pk 1 [0]) w hh,(fun h=>by cases h)⟩,?_⟩
   refine Zr [15,16] 0 [] (Pk 1 [0]) (Pk 1 [0]) ?_
   obtain rfl:=Option.some.inj heq
   refine DrH.done (by kernel_rfl) ?_
   exact Gt 0 [] (K5)
  ·replace heq:=bif_false hb2 heq
   refine Zu 21 (congrArg Value.bool hb2)<|Zr [4,5,6,7,8,9,10,11,12,13,14,15,16] 0 [] (Pk 1 [0]) (Pk 1 [0]) ?_
   obtain rfl:=Option.some.inj heq
   refine DrH.done (by kernel_rfl) ?_
   exact Gt 0 [] (K5)
theorem slices_insertionSortCmpFunc_TestCase.l1_c [GlobI 0 w0] {r:(List TestCase)}:∀ (k:Nat),∀ (Aa0:Option Addr) (ca0 la0:Nat) (a1 a2:Int) (v_data0:List TestCase) (chv_data0:Ch) (nv_data0:Nat) (v_i8:Int) ,nv_data0=v_data0.length→la0=nv_data0→SlOwn kTestCase 40 H Aa0 ca0 v_data0 chv_data0→slices_insertionSortCmpFunc_TestCase.l1 k a1 a2 v_data0 v_i8=some r→RunH C46 (S46 F H Aa0 ca0 la0 r) H w0 [.c [1,0,0],.l [1,0,0],.b 0] [(0,.slice Aa0 nv_data0 ca0),(1,iv a1),(2,iv a2),(3,.func (.func 19) #[] #[]),(8,iv v_i8)] H (chv_data0::F):=by
 intro k
 induction k with
 | zero=>intro Aa0 ca0 la0 a1 a2 v_data0 chv_data0 nv_data0 v_i8 hnv_data0 hlv_data0 hov_data0 heq; exact nomatch (show (none:Option (List TestCase))=some r from heq)
 | succ k ihk =>
  intro Aa0 ca0 la0 a1 a2 v_data0 chv_data0 nv_data0 v_i8 hnv_data0 hlv_data0 hov_data0 heq
  subst hnv_data0
  rw [slices_insertionSortCmpFunc_TestCase.l1] at heq
  refine Sa 2<|Zd 3 ?_
  refine Cb heq ?_ ?_
  ·intro hb1 heq
   refine Sa 4<|Zd 2<|An 2 ?_
   exact Gt 0 [] (((slices_insertionSortCmpFunc_TestCase.l3_c (e2:=slices_insertionSortCmpFunc_TestCase.e2 ((slices_insertionSortCmpFunc_TestCase.l1 k))) (slices_insertionSortCmpFunc_TestCase.e2_c (backl1:=(slices_insertionSortCmpFunc_TestCase.l1 k)) ihk)) big) _ _ _ a1 a2 v_i8 v_data0 _ _ v_i8 rfl hlv_data0 hov_data0 heq)
  ·intro hb1 heq
   refine An 1 ?_
   obtain rfl:=Option.some.inj heq
   exact RunH.done (by kernel_rfl) Tryd.func46 (v:=.tuple #[]) (by kernel_rfl) ⟨chv_data0,rfl,rfl,rfl,hov_data0,(hlv_data0.trans rfl)⟩
theorem slices_insertionSortCmpFunc_TestCase_c [GlobI 0 w0] {a0:List TestCase} {Aa0:Option Addr} {na0 ca0:Nat} {cha0:Ch} {a1 a2:Int} {r:(List TestCase)} (heq:slices_insertionSortCmpFunc_TestCase.f a0 a1 a2=some r) (hoa0:SlOwn kTestCase 40 H Aa0 ca0 a0 cha0) (hna0:na0=a0.length):CallsH Tryd.prog 46 #[.slice Aa0 na0 ca0,iv a1,iv a2,.func (.func 19) #[] #[]] H w0 (cha0::F) (S46 F H Aa0 ca0 na0 r):=by
 refine Co C46 Tryd.func46 Tryd.ntmps46 ?_
 suffices key0:∀ (la0:Nat),la0=na0→RunH C46 (S46 F H Aa0 ca0 la0 r) H w0 [.c []] (argL 0 [.slice Aa0 na0 ca0,iv a1,iv a2,.func (.func 19) #[] #[]]) H (cha0::F) from key0 na0 rfl
 intro la0 hla0
 subst hna0
 unfold slices_insertionSortCmpFunc_TestCase.f at heq
 refine Sa 1<|Zd 3<|An 2 ?_
 exact Gt 0 [] (((slices_insertionSortCmpFunc_TestCase.l1_c) big) _ _ _ a1 a2 a0 _ _ (w64 (a1+1)) rfl hla0 hoa0 heq)
noncomputable def C86:Ctx:={ P:=Tryd.prog,f:=86,N:=38,c:=bodyOf Tryd.f86 }
def S86 (F:List Ch) (H0:Hp) (Aa0:Option Addr) (ca0:Nat) (la0:Nat) (r:(List TestCase)) (v:Value) (H:Hp) (cs:List Ch):Prop:=∃ (ch0:Ch),H0=H∧v=.tuple #[]∧ch0::F=cs∧SlOwn kTestCase 40 H Aa0 ca0 r ch0∧la0=r.length
theorem slices_swapRangeCmpFunc_TestCase.l1_c [GlobI 0 w0] {r:(List TestCase)}:∀ (k:Nat),∀ (Aa0:Option Addr) (ca0 la0:Nat) (a1 a2 a3:Int) (v_data0:List TestCase) (chv_data0:Ch) (nv_data0:Nat) (v_i10:Int) ,nv_data0=v_data0.length→la0=nv_data0→SlOwn kTestCase 40 H Aa0 ca0 v_data0 chv_data0→slices_swapRangeCmpFunc_TestCase.l1 k a1 a2 a3 v_data0 v_i10=some r→RunH C86 (S86 F H Aa0 ca0 la0 r) H w0 [.c [1,0,0],.l [1,0,0],.b 0] [(0,.slice Aa0 nv_data0 ca0),(1,iv a1),(2,iv a2),(3,iv a3),(10,iv v_i10)] H (chv_data0::F):=by
 intro k
 induction k with
 | zero=>intro Aa0 ca0 la0 a1 a2 a3 v_data0 chv_data0 nv_data0 v_i10 hnv_data0 hlv_data0 hov_data0 heq; exact nomatch (show (none:Option (List TestCase))=some r from heq)
 | succ k ihk =>
  intro Aa0 ca0 la0 a1 a2 a3 v_data0 chv_data0 nv_data0 v_i10 hnv_data0 hlv_data0 hov_data0 heq
  subst hnv_data0
  rw [slices_swapRangeCmpFunc_TestCase.l1] at heq
  refine Sa 2<|Zd 3 ?_
  refine Cb heq ?_ ?_
  ·intro hb1 heq
   refine An 3<|Sd 1 24 [] [3,3,3,3,3,3,3,3,3,3,3,3,3,3,3,3,3,3,3,3,3,1,3,2]<|Zr [0,1,2,3] 20 [] (Pk 1 [0]) (Pk 1 [])<|Zt [4,5,6,7] 16 [] (Pk 1 []) ?_
   obtain ⟨x1,hx1,heq⟩:=bind_some heq
   obtain ⟨ha1,cs1,hK1,hcc1⟩:=hov_data0.get hx1
   obtain ⟨rfl⟩:=kTestCase_open hK1
   refine Zr [8,9,10,11,12,13] 10 ([nx ha1 hx1]++els hcc1 0) (Pk 1 [0]) (Pk 1 []) ?_
   obtain ⟨x2,hx2,heq⟩:=bind_some heq
   obtain ⟨ha2,cs2,hK2,hcc2⟩:=hov_data0.get hx2
   obtain ⟨rfl⟩:=kTestCase_open hK2
   refine Zt [14,15,16,17,18] 5 [nx ha2 hx2] (Pk 1 []) ?_
   obtain ⟨ha3,cs3,hK3,hcc3⟩:=hov_data0.get hx2
   obtain ⟨rfl⟩:=kTestCase_open hK3
   refine Zr [19,20] 3 (els hcc3 0++[nx ha3 hx2]) (Pk 1 [0]) (Pk 1 []) ?_
   obtain ⟨ha4,cs4,hK4,hcc4⟩:=hov_data0.get hx2
   obtain ⟨rfl⟩:=kTestCase_open hK4
   refine Dz 21 (DoesH.storeEl (a:=((adr Aa0).add ((w64 (a1+v_i10)).toNat*2))) (k:=0) (kd:=kTestCase) (c0:=[.string x2.Name,iv x2.Seconds]) (x':=x1) (o:=0) (ix:=(w64 (a1+v_i10))) (v:=.agg #[.string x1.Name,iv x1.Seconds]) (by kernel_rfl) rfl hov_data0 hx2 (by kernel_rfl) hcc4 rfl (Nat.le_of_ble_eq_true (by kernel_rfl)) kTestCase_mk) ?_
   rintro _ _ _ _ ⟨ch1,rfl,rfl,rfl,ho1⟩
   have hn1:v_data0.length=(v_data0.set (w64 (a1+v_i10)).toNat x1).length:=by rw [List.length_set]
   refine ⟨fun _ w hh=>⟨(fun h=>by cases h),fun _=>(Pk 1 []) w hh,(fun h=>by cases h)⟩,?_⟩
   refine DrH.nrm ?_
   obtain ⟨x3,hx3,heq⟩:=bind_some heq
   obtain ⟨ha5,cs5,hK5,hcc5⟩:=ho1.get hx3
   obtain ⟨rfl⟩:=kTestCase_open hK5
   refine Zt [22] 1 [ny ha5 hx3 (show v_data0.length=_ from hn1)] (Pk 1 []) ?_
   obtain ⟨ha6,cs6,hK6,hcc6⟩:=ho1.get hx3
   obtain ⟨rfl⟩:=kTestCase_open hK6
   refine Dz 23 (DoesH.storeEl (a:=((adr Aa0).add ((w64 (a2+v_i10)).toNat*2))) (k:=0) (kd:=kTestCase) (c0:=[.string x3.Name,iv x3.Seconds]) (x':=x2) (o:=0) (ix:=(w64 (a2+v_i10))) (v:=.agg #[.string x2.Name,iv x2.Seconds]) (by kernel_rfl) rfl ho1 hx3 (by kernel_rfl) hcc6 rfl (Nat.le_of_ble_eq_true (by kernel_rfl)) kTestCase_mk) ?_
   rintro _ _ _ _ ⟨ch2,rfl,rfl,rfl,ho2⟩
   have hn2:v_data0.length=((v_data0.set (w64 (a1+v_i10)).toNat x1).set (w64 (a2+v_i10)).toNat x2).length:=by rw [List.length_set]; exact hn1
   refine ⟨fun _ w hh=>⟨(fun h=>by cases h),(fun h=>absurd h (by decide)),(fun h=>by cases h)⟩,?_⟩
   refine DrH.nrm ?_
   refine DrH.done (by kernel_rfl) ?_
   refine Sa 1<|Zd 3<|An 1 ?_
   exact Gt 0 [] (ihk _ _ _ a1 a2 a3 ((v_data0.set (w64 (a1+v_i10)).toNat x1).set (w64 (a2+v_i10)).toNat x2) _ _ (w64 (v_i10+1)) hn2 hlv_data0 ho2 heq)
  ·intro hb1 heq
   refine An 1 ?_
   obtain rfl:=Option.some.inj heq
   exact RunH.done (by kernel_rfl) Tryd.func86 (v:=.tuple #[]) (by kernel_rfl) ⟨chv_data0,rfl,rfl,rfl,hov_data0,(hlv_data0.trans rfl)⟩
theorem slices_swapRangeCmpFunc_TestCase_c [GlobI 0 w0] {a0:List TestCase} {Aa0:Option Addr} {na0 ca0:Nat} {cha0:Ch} {a1 a2 a3:Int} {r:(List TestCase)} (heq:slices_swapRangeCmpFunc_TestCase.f a0 a1 a2 a3=some r) (hoa0:SlOwn kTestCase 40 H Aa0 ca0 a0 cha0) (hna0:na0=a0.length):CallsH Tryd.prog 86 #[.slice Aa0 na0 ca0,iv a1,iv a2,iv a3,.func (.func 19) #[] #[]] H w0 (cha0::F) (S86 F H Aa0 ca0 na0 r):=by
 refine Co C86 Tryd.func86 Tryd.ntmps86 ?_
 suffices key0:∀ (la0:Nat),la0=na0→RunH C86 (S86 F H Aa0 ca0 la0 r) H w0 [.c []] (argL 0 [.slice Aa0 na0 ca0,iv a1,iv a2,iv a3,.func (.func 19) #[] #[]]) H (cha0::F) from key0 na0 rfl
 intro la0 hla0
 subst hna0
 unfold slices_swapRangeCmpFunc_TestCase.f at heq
 refine Sa 1<|Zd 1<|An 2 ?_
 exact Gt 0 [] (((slices_swapRangeCmpFunc_TestCase.l1_c) big) _ _ _ a1 a2 a3 a0 _ _ 0 rfl hla0 hoa0 heq)
noncomputable def C70:Ctx:={ P:=Tryd.prog,f:=70,N:=58,c:=bodyOf Tryd.f70 }
def S70 (F:List Ch) (H0:Hp) (Aa0:Option Addr) (ca0:Nat) (la0:Nat) (r:(List TestCase)) (v:Value) (H:Hp) (cs:List Ch):Prop:=∃ (ch0:Ch),H0=H∧v=.tuple #[]∧ch0::F=cs∧SlOwn kTestCase 40 H Aa0 ca0 r ch0∧la0=r.length
theorem slices_rotateCmpFunc_TestCase.e1_c [GlobI 0 w0] {r:(List TestCase)}:∀ (Aa0:Option Addr) (ca0 la0:Nat) (a2:Int) (v_data0:List TestCase) (chv_data0:Ch) (nv_data0:Nat) (v_i10:Int) ,nv_data0=v_data0.length→la0=nv_data0→SlOwn kTestCase 40 H Aa0 ca0 v_data0 chv_data0→slices_rotateCmpFunc_TestCase.e1 a2 v_data0 v_i10=some r→RunH C70 (S70 F H Aa0 ca0 la0 r) H w0 [.c [1,1,1]] [(0,.slice Aa0 nv_data0 ca0),(2,iv a2),(4,.func (.func 19) #[] #[]),(10,iv v_i10)] H (chv_data0::F):=by
 intro Aa0 ca0 la0 a2 v_data0 chv_data0 nv_data0 v_i10 hnv_data0 hlv_data0 hov_data0 heq
 subst hnv_data0
 unfold slices_rotateCmpFunc_TestCase.e1 at heq
 refine Sa 0<|Zk 7 ?_
 obtain ⟨y1,hy1,heq⟩:=bind_some heq
 refine RgH.does (cal 57 (slices_swapRangeCmpFunc_TestCase_c hy1 hov_data0 rfl)) ?_
 rintro _ _ _ _ ⟨_,rfl,ch1,rfl,rfl,rfl,ho1,hn1⟩
 refine Dn ?_
 obtain rfl:=Option.some.inj heq
 exact RunH.done (by kernel_rfl) Tryd.func70 (v:=.tuple #[]) (by kernel_rfl) ⟨ch1,rfl,rfl,rfl,ho1,(hlv_data0.trans hn1)⟩
theorem slices_rotateCmpFunc_TestCase.l2_c [GlobI 0 w0] {r:(List TestCase)} (e1:Int→(List TestCase)→Int→Option (List TestCase))
  (he1:∀ (Aa0:Option Addr) (ca0 la0:Nat) (a2:Int) (v_data0:List TestCase) (chv_data0:Ch) (nv_data0:Nat) (v_i10:Int) ,nv_data0=v_data0.length→la0=nv_data0→SlOwn kTestCase 40 H Aa0 ca0 v_data0 chv_data0→e1 a2 v_data0 v_i10=some r→RunH C70 (S70 F H Aa0 ca0 la0 r) H w0 [.c [1,1,1]] [(0,.slice Aa0 nv_data0 ca0),(2,iv a2),(4,.func (.func 19) #[] #[]),(10,iv v_i10)] H (chv_data0::F)):∀ (k:Nat),∀ (Aa0:Option Addr) (ca0 la0:Nat) (a2:Int) (v_data0:List TestCase) (chv_data0:Ch) (nv_data0:Nat) (v_i10 v_j11:Int) ,nv_data0=v_data0.length→la0=nv_data0→SlOwn kTestCase 40 H Aa0 ca0 v_data0 chv_data0→slices_rotateCmpFunc_TestCase.l2 e1 k a2 v_data0 v_i10 v_j11=some r→RunH C70 (S70 F H Aa0 ca0 la0 r) H w0 [.c [1,1,0,0,0],.l [1,1,0,0,0],.b 0,.c [1,1,1]] [(0,.slice Aa0 nv_data0 ca0),(2,iv a2),(4,.func (.func 19) #[] #[]),(10,iv v_i10),(11,iv v_j11)] H (chv_data0::F):=by
 intro k
 induction k with
 | zero=>intro Aa0 ca0 la0 a2 v_data0 chv_data0 nv_data0 v_i10 v_j11 hnv_data0 hlv_data0 hov_data0 heq; exact nomatch (show (none:Option (List TestCase))=some r from heq)
 | succ k ihk =>
  intro Aa0 ca0 la0 a2 v_data0 chv_data0 nv_data0 v_i10 v_j11 hnv_data0 hlv_data0 hov_data0 heq
  subst hnv_data0
  rw [slices_rotateCmpFunc_TestCase.l2] at heq
  refine Sa 2<|Zd 3 ?_
  refine Cb heq ?_ ?_
  ·intro hb1 heq
   refine Sa 3<|Zd 3 ?_
   refine Cb heq ?_ ?_
   ·intro hb2 heq
    refine Sa 1<|Zk 7 ?_
    obtain ⟨y2,hy2,heq⟩:=bind_some heq
    refine RgH.does (cal 31 (slices_swapRangeCmpFunc_TestCase_c hy2 hov_data0 rfl)) ?_
    rintro _ _ _ _ ⟨_,rfl,ch2,rfl,rfl,rfl,ho2,hn2⟩
    refine Dn<|Sa 0<|Zd 4<|An 2 ?_
    exact Gt 0 [] (ihk _ _ _ a2 y2 _ _ (w64 (v_i10 - v_j11)) v_j11 hn2 hlv_data0 ho2 heq)
   ·intro hb2 heq
    refine Sa 1<|Zk 11 ?_
    obtain ⟨y3,hy3,heq⟩:=bind_some heq
    refine RgH.does (cal 46 (slices_swapRangeCmpFunc_TestCase_c hy3 hov_data0 rfl)) ?_
    rintro _ _ _ _ ⟨_,rfl,ch3,rfl,rfl,rfl,ho3,hn3⟩
    refine Dn<|Sa 0<|Zd 4<|An 2 ?_
    exact Gt 0 [] (ihk _ _ _ a2 y3 _ _ v_i10 (w64 (v_j11 - v_i10)) hn3 hlv_data0 ho3 heq)
  ·intro hb1 heq
   refine An 1 ?_
   exact Gt 0 [] (he1 _ _ _ a2 v_data0 _ _ v_i10 rfl hlv_data0 hov_data0 heq)
theorem slices_rotateCmpFunc_TestCase_c [GlobI 0 w0] {a0:List TestCase} {Aa0:Option Addr} {na0 ca0:Nat} {cha0:Ch} {a1 a2 a3:Int} {r:(List TestCase)} (heq:slices_rotateCmpFunc_TestCase.f a0 a1 a2 a3=some r) (hoa0:SlOwn kTestCase 40 H Aa0 ca0 a0 cha0) (hna0:na0=a0.length):CallsH Tryd.prog 70 #[.slice Aa0 na0 ca0,iv a1,iv a2,iv a3,.func (.func 19) #[] #[]] H w0 (cha0::F) (S70 F H Aa0 ca0 na0 r):=by
 refine Co C70 Tryd.func70 Tryd.ntmps70 ?_
 suffices key0:∀ (la0:Nat),la0=na0→RunH C70 (S70 F H Aa0 ca0 la0 r) H w0 [.c []] (argL 0 [.slice Aa0 na0 ca0,iv a1,iv a2,iv a3,.func (.func 19) #[] #[]]) H (cha0::F) from key0 na0 rfl
 intro la0 hla0
 subst hna0
 unfold slices_rotateCmpFunc_TestCase.f at heq
 refine Sa 1<|Zd 4<|Sa 1<|Zd 4<|An 3 ?_
 exact Gt 0 [] (((slices_rotateCmpFunc_TestCase.l2_c (e1:=slices_rotateCmpFunc_TestCase.e1) (slices_rotateCmpFunc_TestCase.e1_c)) big) _ _ _ a2 a0 _ _ (w64 (a2 - a1)) (w64 (a3 - a2)) rfl hla0 hoa0 heq)
noncomputable def C47:Ctx:={ P:=Tryd.prog,f:=47,N:=220,c:=bodyOf Tryd.f47 }
def S47 (F:List Ch) (H0:Hp) (Aa0:Option Addr) (ca0:Nat) (la0:Nat) (r:(List TestCase)) (v:Value) (H:Hp) (cs:List Ch):Prop:=∃ (ch0:Ch),H0=H∧v=.tuple #[]∧ch0::F=cs∧SlOwn kTestCase 40 H Aa0 ca0 r ch0∧la0=r.length
theorem slices_symMergeCmpFunc_TestCase.l2_c [GlobI 0 w0] {r:(List TestCase)}:∀ (k:Nat),∀ (Aa0:Option Addr) (ca0 la0:Nat) (v_i10:Int) (v_data0:List TestCase) (chv_data0:Ch) (nv_data0:Nat) (v_k13:Int) ,nv_data0=v_data0.length→la0=nv_data0→SlOwn kTestCase 40 H Aa0 ca0 v_data0 chv_data0→slices_symMergeCmpFunc_TestCase.l2 k v_i10 v_data0 v_k13=some r→RunH C47 (S47 F H Aa0 ca0 la0 r) H w0 [.c [0,1,0,1,1,1,0,1,0,0],.l [0,1,0,1,1,1,0,1,0,0],.b 2,.c [0,1,0,1,1,1,1],.c [1]] [(0,.slice Aa0 nv_data0 ca0),(10,iv v_i10),(13,iv v_k13)] H (chv_data0::F):=by
 intro k
 induction k with
 | zero=>intro Aa0 ca0 la0 v_i10 v_data0 chv_data0 nv_data0 v_k13 hnv_data0 hlv_data0 hov_data0 heq; exact nomatch (show (none:Option (List TestCase))=some r from heq)
 | succ k ihk =>
  intro Aa0 ca0 la0 v_i10 v_data0 chv_data0 nv_data0 v_k13 hnv_data0 hlv_data0 hov_data0 heq
  subst hnv_data0
  rw [slices_symMergeCmpFunc_TestCase.l2] at heq
  refine Sa 2<|Zd 4 ?_
  refine Cb heq ?_ ?_
  ·intro hb2 heq
   refine An 3<|Sd 1 18 [] [3,3,3,3,3,3,3,3,3,3,3,3,3,3,3,1,3,2]<|Zr [0,1] 16 [] (Pk 1 [0]) (Pk 1 [])<|Zt [2,3,4] 13 [] (Pk 1 []) ?_
   obtain ⟨x1,hx1,heq⟩:=bind_some heq
   obtain ⟨ha1,cs1,hK1,hcc1⟩:=hov_data0.get hx1
   obtain ⟨rfl⟩:=kTestCase_open hK1
   refine Zr [5,6,7,8,9] 8 ([nx ha1 hx1]++els hcc1 0) (Pk 1 [0]) (Pk 1 []) ?_
   obtain ⟨x2,hx2,heq⟩:=bind_some heq
   obtain ⟨ha2,cs2,hK2,hcc2⟩:=hov_data0.get hx2
   obtain ⟨rfl⟩:=kTestCase_open hK2
   refine Zt [10,11,12] 5 [nx ha2 hx2] (Pk 1 []) ?_
   obtain ⟨ha3,cs3,hK3,hcc3⟩:=hov_data0.get hx2
   obtain ⟨rfl⟩:=kTestCase_open hK3
   refine Zr [13,14] 3 (els hcc3 0++[nx ha3 hx2]) (Pk 1 [0]) (Pk 1 []) ?_
   obtain ⟨ha4,cs4,hK4,hcc4⟩:=hov_data0.get hx2
   obtain ⟨rfl⟩:=kTestCase_open hK4
   refine Dz 15 (DoesH.storeEl (a:=((adr Aa0).add (v_k13.toNat*2))) (k:=0) (kd:=kTestCase) (c0:=[.string x2.Name,iv x2.Seconds]) (x':=x1) (o:=0) (ix:=v_k13) (v:=.agg #[.string x1.Name,iv x1.Seconds]) (by kernel_rfl) rfl hov_data0 hx2 (by kernel_rfl) hcc4 rfl (Nat.le_of_ble_eq_true (by kernel_rfl)) kTestCase_mk) ?_
   rintro _ _ _ _ ⟨ch1,rfl,rfl,rfl,ho1⟩
   have hn1:v_data0.length=(v_data0.set v_k13.toNat x1).length:=by rw [List.length_set]
   refine ⟨fun _ w hh=>⟨(fun h=>by cases h),fun _=>(Pk 1 []) w hh,(fun h=>by cases h)⟩,?_⟩
   refine DrH.nrm ?_
   obtain ⟨x3,hx3,heq⟩:=bind_some heq
   obtain ⟨ha5,cs5,hK5,hcc5⟩:=ho1.get hx3
   obtain ⟨rfl⟩:=kTestCase_open hK5
   refine Zt [16] 1 [ny ha5 hx3 (show v_data0.length=_ from hn1)] (Pk 1 []) ?_
   obtain ⟨ha6,cs6,hK6,hcc6⟩:=ho1.get hx3
   obtain ⟨rfl⟩:=kTestCase_open hK6
   refine Dz 17 (DoesH.storeEl (a:=((adr Aa0).add ((w64 (v_k13+1)).toNat*2))) (k:=0) (kd:=kTestCase) (c0:=[.string x3.Name,iv x3.Seconds]) (x':=x2) (o:=0) (ix:=(w64 (v_k13+1))) (v:=.agg #[.string x2.Name,iv x2.Seconds]) (by kernel_rfl) rfl ho1 hx3 (by kernel_rfl) hcc6 rfl (Nat.le_of_ble_eq_true (by kernel_rfl)) kTestCase_mk) ?_
   rintro _ _ _ _ ⟨ch2,rfl,rfl,rfl,ho2⟩
   have hn2:v_data0.length=((v_data0.set v_k13.toNat x1).set (w64 (v_k13+1)).toNat x2).length:=by rw [List.length_set]; exact hn1
   refine ⟨fun _ w hh=>⟨(fun h=>by cases h),(fun h=>absurd h (by decide)),(fun h=>by cases h)⟩,?_⟩
   refine DrH.nrm ?_
   refine DrH.done (by kernel_rfl) ?_
   refine Sa 1<|Zd 3<|An 1 ?_
   exact Gt 0 [] (ihk _ _ _ v_i10 ((v_data0.set v_k13.toNat x1).set (w64 (v_k13+1)).toNat x2) _ _ (w64 (v_k13+1)) hn2 hlv_data0 ho2 heq)
  ·intro hb2 heq
   refine An 1 ?_
   obtain rfl:=Option.some.inj heq
   exact RunH.done (by kernel_rfl) Tryd.func47 (v:=.tuple #[]) (by kernel_rfl) ⟨chv_data0,rfl,rfl,rfl,hov_data0,(hlv_data0.trans rfl)⟩
theorem slices_symMergeCmpFunc_TestCase.e1_c [GlobI 0 w0] {r:(List TestCase)}:∀ (a0:List TestCase) (Aa0:Option Addr) (ca0:Nat) (cha0:Ch) (la0:Nat) (a1 v_i10:Int) ,SlOwn kTestCase 40 H Aa0 ca0 a0 cha0→la0=a0.length→slices_symMergeCmpFunc_TestCase.e1 a0 a1 v_i10=some r→RunH C47 (S47 F H Aa0 ca0 la0 r) H w0 [.c [0,1,0,1,1,1,0,0],.c [0,1,0,1,1,1,0,1],.c [0,1,0,1,1,1,1],.c [1]] [(0,.slice Aa0 a0.length ca0),(1,iv a1),(10,iv v_i10)] H (cha0::F):=by
 intro a0 Aa0 ca0 cha0 la0 a1 v_i10 hoa0 hla0 heq
 unfold slices_symMergeCmpFunc_TestCase.e1 at heq
 refine Sa 0<|Zd 2<|An 2 ?_
 exact Gt 0 [] (((slices_symMergeCmpFunc_TestCase.l2_c) big) _ _ _ v_i10 a0 _ _ a1 rfl hla0 hoa0 heq)
theorem slices_symMergeCmpFunc_TestCase.l3_c [GlobI 0 w0] {r:(List TestCase)} (e1:(List TestCase)→Int→Int→Option (List TestCase))
  (he1:∀ (a0:List TestCase) (Aa0:Option Addr) (ca0:Nat) (cha0:Ch) (la0:Nat) (a1 v_i10:Int) ,SlOwn kTestCase 40 H Aa0 ca0 a0 cha0→la0=a0.length→e1 a0 a1 v_i10=some r→RunH C47 (S47 F H Aa0 ca0 la0 r) H w0 [.c [0,1,0,1,1,1,0,0],.c [0,1,0,1,1,1,0,1],.c [0,1,0,1,1,1,1],.c [1]] [(0,.slice Aa0 a0.length ca0),(1,iv a1),(10,iv v_i10)] H (cha0::F)):∀ (k:Nat),∀ (a0:List TestCase) (Aa0:Option Addr) (ca0:Nat) (cha0:Ch) (la0:Nat) (a1 v_i10 v_j11:Int) ,SlOwn kTestCase 40 H Aa0 ca0 a0 cha0→la0=a0.length→slices_symMergeCmpFunc_TestCase.l3 e1 k a0 a1 v_i10 v_j11=some r→RunH C47 (S47 F H Aa0 ca0 la0 r) H w0 [.c [0,1,0,1,1,0,0,0],.l [0,1,0,1,1,0,0,0],.b 0,.c [0,1,0,1,1,1],.c [1]] [(0,.slice Aa0 a0.length ca0),(1,iv a1),(4,.func (.func 19) #[] #[]),(10,iv v_i10),(11,iv v_j11)] H (cha0::F):=by
 intro k
 induction k with
 | zero=>intro a0 Aa0 ca0 cha0 la0 a1 v_i10 v_j11 hoa0 hla0 heq; exact nomatch (show (none:Option (List TestCase))=some r from heq)
 | succ k ihk =>
  intro a0 Aa0 ca0 cha0 la0 a1 v_i10 v_j11 hoa0 hla0 heq
  rw [slices_symMergeCmpFunc_TestCase.l3] at heq
  refine Sa 2<|Zd 3 ?_
  refine Cb heq ?_ ?_
  ·intro hb3 heq
   refine Sa 3<|Zw 7 [⟨.need ((0:Int)≤1),fun w hh=>(show (0:Int)≤1 by decide)⟩]<|An 1<|Sd 0 11 [] [3,3,3,3,3,3,3,3,3,0,3] ?_
   obtain ⟨x4,hx4,heq⟩:=bind_some heq
   obtain ⟨ha7,cs7,hK7,hcc7⟩:=hoa0.get hx4
   obtain ⟨rfl⟩:=kTestCase_open hK7
   obtain ⟨x5,hx5,heq⟩:=bind_some heq
   obtain ⟨ha8,cs8,hK8,hcc8⟩:=hoa0.get hx5
   obtain ⟨rfl⟩:=kTestCase_open hK8
   refine Zr [0,1,2,3,4,5,6,7,8] 2 ([nx ha7 hx4]++els hcc7 0++[nx ha8 hx5]++els hcc8 0) (Pk 1 [0]) (Pk 1 [0]) ?_
   obtain ⟨y1,hy1,heq⟩:=bind_some heq
   refine Dz 9 (cal 49 (trials_Shards_1_c hy1 )) ?_
   rintro _ _ _ _ ⟨_,rfl,rfl,rfl,rfl⟩
   refine ⟨fun _ w hh=>⟨fun _=>(Pk 1 [0]) w hh,fun _=>(Pk 1 [0]) w hh,(fun h=>by cases h)⟩,?_⟩
   refine Zr [10] 0 [] (Pk 1 [0]) (Pk 1 [0]) ?_
   refine DrH.done (by kernel_rfl) ?_
   refine Cb heq ?_ ?_
   ·intro hb4 heq
    refine Sa 0<|Zd 3<|An 2 ?_
    exact Gt 0 [] (ihk a0 _ _ _ _ a1 (w64 ((w64 (iShr .u64 (IntKind.wrap .u64 (w64 (v_i10+v_j11))) 1))+1)) v_j11 hoa0 hla0 heq)
   ·intro hb4 heq
    refine Sa 0<|Zd 2<|An 2 ?_
    exact Gt 0 [] (ihk a0 _ _ _ _ a1 v_i10 (w64 (iShr .u64 (IntKind.wrap .u64 (w64 (v_i10+v_j11))) 1)) hoa0 hla0 heq)
  ·intro hb3 heq
   refine An 3 ?_
   exact Gt 0 [] (he1 a0 _ _ _ _ a1 v_i10 hoa0 hla0 heq)
theorem slices_symMergeCmpFunc_TestCase.l5_c [GlobI 0 w0] {r:(List TestCase)}:∀ (k:Nat),∀ (Aa0:Option Addr) (ca0 la0:Nat) (v_i14:Int) (v_data0:List TestCase) (chv_data0:Ch) (nv_data0:Nat) (v_k17:Int) ,nv_data0=v_data0.length→la0=nv_data0→SlOwn kTestCase 40 H Aa0 ca0 v_data0 chv_data0→slices_symMergeCmpFunc_TestCase.l5 k v_i14 v_data0 v_k17=some r→RunH C47 (S47 F H Aa0 ca0 la0 r) H w0 [.c [1,0,1,0,1,1,1,0,1,0,0],.l [1,0,1,0,1,1,1,0,1,0,0],.b 6,.c [1,0,1,0,1,1,1,1],.c [1,1]] [(0,.slice Aa0 nv_data0 ca0),(14,iv v_i14),(17,iv v_k17)] H (chv_data0::F):=by
 intro k
 induction k with
 | zero=>intro Aa0 ca0 la0 v_i14 v_data0 chv_data0 nv_data0 v_k17 hnv_data0 hlv_data0 hov_data0 heq; exact nomatch (show (none:Option (List TestCase))=some r from heq)
 | succ k ihk =>
  intro Aa0 ca0 la0 v_i14 v_data0 chv_data0 nv_data0 v_k17 hnv_data0 hlv_data0 hov_data0 heq
  subst hnv_data0
  rw [slices_symMergeCmpFunc_TestCase.l5] at heq
  refine Sa 2<|Zd 3 ?_
  refine Cb heq ?_ ?_
  ·intro hb6 heq
   refine An 3<|Sd 1 18 [] [3,3,3,3,3,3,3,3,3,3,3,3,3,3,3,1,3,2]<|Zr [0,1] 16 [] (Pk 1 [0]) (Pk 1 [])<|Zt [2,3,4] 13 [] (Pk 1 []) ?_
   obtain ⟨x6,hx6,heq⟩:=bind_some heq
   obtain ⟨ha9,cs9,hK9,hcc9⟩:=hov_data0.get hx6
   obtain ⟨rfl⟩:=kTestCase_open hK9
   refine Zr [5,6,7,8,9] 8 ([nx ha9 hx6]++els hcc9 0) (Pk 1 [0]) (Pk 1 []) ?_
   obtain ⟨x7,hx7,heq⟩:=bind_some heq
   obtain ⟨ha10,cs10,hK10,hcc10⟩:=hov_data0.get hx7
   obtain ⟨rfl⟩:=kTestCase_open hK10
   refine Zt [10,11,12] 5 [nx ha10 hx7] (Pk 1 []) ?_
   obtain ⟨ha11,cs11,hK11,hcc11⟩:=hov_data0.get hx7
   obtain ⟨rfl⟩:=kTestCase_open hK11
   refine Zr [13,14] 3 (els hcc11 0++[nx ha11 hx7]) (Pk 1 [0]) (Pk 1 []) ?_
   obtain ⟨ha12,cs12,hK12,hcc12⟩:=hov_data0.get hx7
   obtain ⟨rfl⟩:=kTestCase_open hK12
   refine Dz 15 (DoesH.storeEl (a:=((adr Aa0).add (v_k17.toNat*2))) (k:=0) (kd:=kTestCase) (c0:=[.string x7.Name,iv x7.Seconds]) (x':=x6) (o:=0) (ix:=v_k17) (v:=.agg #[.string x6.Name,iv x6.Seconds]) (by kernel_rfl) rfl hov_data0 hx7 (by kernel_rfl) hcc12 rfl (Nat.le_of_ble_eq_true (by kernel_rfl)) kTestCase_mk) ?_
   rintro _ _ _ _ ⟨ch3,rfl,rfl,rfl,ho3⟩
   have hn3:v_data0.length=(v_data0.set v_k17.toNat x6).length:=by rw [List.length_set]
   refine ⟨fun _ w hh=>⟨(fun h=>by cases h),fun _=>(Pk 1 []) w hh,(fun h=>by cases h)⟩,?_⟩
   refine DrH.nrm ?_
   obtain ⟨x8,hx8,heq⟩:=bind_some heq
   obtain ⟨ha13,cs13,hK13,hcc13⟩:=ho3.get hx8
   obtain ⟨rfl⟩:=kTestCase_open hK13
   refine Zt [16] 1 [ny ha13 hx8 (show v_data0.length=_ from hn3)] (Pk 1 []) ?_
   obtain ⟨ha14,cs14,hK14,hcc14⟩:=ho3.get hx8
   obtain ⟨rfl⟩:=kTestCase_open hK14
   refine Dz 17 (DoesH.storeEl (a:=((adr Aa0).add ((w64 (v_k17 - 1)).toNat*2))) (k:=0) (kd:=kTestCase) (c0:=[.string x8.Name,iv x8.Seconds]) (x':=x7) (o:=0) (ix:=(w64 (v_k17 - 1))) (v:=.agg #[.string x7.Name,iv x7.Seconds]) (by kernel_rfl) rfl ho3 hx8 (by kernel_rfl) hcc14 rfl (Nat.le_of_ble_eq_true (by kernel_rfl)) kTestCase_mk) ?_
   rintro _ _ _ _ ⟨ch4,rfl,rfl,rfl,ho4⟩
   have hn4:v_data0.length=((v_data0.set v_k17.toNat x6).set (w64 (v_k17 - 1)).toNat x7).length:=by rw [List.length_set]; exact hn3
   refine ⟨fun _ w hh=>⟨(fun h=>by cases h),(fun h=>absurd h (by decide)),(fun h=>by cases h)⟩,?_⟩
   refine DrH.nrm ?_
   refine DrH.done (by kernel_rfl) ?_
   refine Sa 1<|Zd 3<|An 1 ?_
   exact Gt 0 [] (ihk _ _ _ v_i14 ((v_data0.set v_k17.toNat x6).set (w64 (v_k17 - 1)).toNat x7) _ _ (w64 (v_k17 - 1)) hn4 hlv_data0 ho4 heq)
  ·intro hb6 heq
   refine An 1 ?_
   obtain rfl:=Option.some.inj heq
   exact RunH.done (by kernel_rfl) Tryd.func47 (v:=.tuple #[]) (by kernel_rfl) ⟨chv_data0,rfl,rfl,rfl,hov_data0,(hlv_data0.trans rfl)⟩
theorem slices_symMergeCmpFunc_TestCase.e4_c [GlobI 0 w0] {r:(List TestCase)}:∀ (a0:List TestCase) (Aa0:Option Addr) (ca0:Nat) (cha0:Ch) (la0:Nat) (a2 v_i14:Int) ,SlOwn kTestCase 40 H Aa0 ca0 a0 cha0→la0=a0.length→slices_symMergeCmpFunc_TestCase.e4 a0 a2 v_i14=some r→RunH C47 (S47 F H Aa0 ca0 la0 r) H w0 [.c [1,0,1,0,1,1,1,0,0],.c [1,0,1,0,1,1,1,0,1],.c [1,0,1,0,1,1,1,1],.c [1,1]] [(0,.slice Aa0 a0.length ca0),(2,iv a2),(14,iv v_i14)] H (cha0::F):=by
 intro a0 Aa0 ca0 cha0 la0 a2 v_i14 hoa0 hla0 heq
 unfold slices_symMergeCmpFunc_TestCase.e4 at heq
 refine Sa 0<|Zd 2<|An 2 ?_
 exact Gt 0 [] (((slices_symMergeCmpFunc_TestCase.l5_c) big) _ _ _ v_i14 a0 _ _ a2 rfl hla0 hoa0 heq)
theorem slices_symMergeCmpFunc_TestCase.l6_c [GlobI 0 w0] {r:(List TestCase)} (e4:(List TestCase)→Int→Int→Option (List TestCase))
  (he4:∀ (a0:List TestCase) (Aa0:Option Addr) (ca0:Nat) (cha0:Ch) (la0:Nat) (a2 v_i14:Int) ,SlOwn kTestCase 40 H Aa0 ca0 a0 cha0→la0=a0.length→e4 a0 a2 v_i14=some r→RunH C47 (S47 F H Aa0 ca0 la0 r) H w0 [.c [1,0,1,0,1,1,1,0,0],.c [1,0,1,0,1,1,1,0,1],.c [1,0,1,0,1,1,1,1],.c [1,1]] [(0,.slice Aa0 a0.length ca0),(2,iv a2),(14,iv v_i14)] H (cha0::F)):∀ (k:Nat),∀ (a0:List TestCase) (Aa0:Option Addr) (ca0:Nat) (cha0:Ch) (la0:Nat) (a2 v_i14 v_j15:Int) ,SlOwn kTestCase 40 H Aa0 ca0 a0 cha0→la0=a0.length→slices_symMergeCmpFunc_TestCase.l6 e4 k a0 a2 v_i14 v_j15=some r→RunH C47 (S47 F H Aa0 ca0 la0 r) H w0 [.c [1,0,1,0,1,1,0,0,0],.l [1,0,1,0,1,1,0,0,0],.b 4,.c [1,0,1,0,1,1,1],.c [1,1]] [(0,.slice Aa0 a0.length ca0),(2,iv a2),(4,.func (.func 19) #[] #[]),(14,iv v_i14),(15,iv v_j15)] H (cha0::F):=by
 intro k
 induction k with
 | zero=>intro a0 Aa0 ca0 cha0 la0 a2 v_i14 v_j15 hoa0 hla0 heq; exact nomatch (show (none:Option (List TestCase))=some r from heq)
 | succ k ihk =>
  intro a0 Aa0 ca0 cha0 la0 a2 v_i14 v_j15 hoa0 hla0 heq
  rw [slices_symMergeCmpFunc_TestCase.l6] at heq
  refine Sa 2<|Zd 3 ?_
  refine Cb heq ?_ ?_
  ·intro hb7 heq
   refine Sa 3<|Zw 7 [⟨.need ((0:Int)≤1),fun w hh=>(show (0:Int)≤1 by decide)⟩]<|An 1<|Sd 0 12 [] [3,3,3,3,3,3,3,3,3,0,3,3] ?_
   obtain ⟨x9,hx9,heq⟩:=bind_some heq
   obtain ⟨ha15,cs15,hK15,hcc15⟩:=hoa0.get hx9
   obtain ⟨rfl⟩:=kTestCase_open hK15
   obtain ⟨x10,hx10,heq⟩:=bind_some heq
   obtain ⟨ha16,cs16,hK16,hcc16⟩:=hoa0.get hx10
   obtain ⟨rfl⟩:=kTestCase_open hK16
   refine Zr [0,1,2,3,4,5,6,7,8] 3 ([nx ha15 hx9]++els hcc15 0++[nx ha16 hx10]++els hcc16 0) (Pk 1 [0]) (Pk 1 [0]) ?_
   obtain ⟨y2,hy2,heq⟩:=bind_some heq
   refine Dz 9 (cal 101 (trials_Shards_1_c hy2 )) ?_
   rintro _ _ _ _ ⟨_,rfl,rfl,rfl,rfl⟩
   refine ⟨fun _ w hh=>⟨fun _=>(Pk 1 [0]) w hh,fun _=>(Pk 1 [0]) w hh,(fun h=>by cases h)⟩,?_⟩
   refine Zr [10,11] 0 [] (Pk 1 [0]) (Pk 1 [0]) ?_
   refine DrH.done (by kernel_rfl) ?_
   refine Cb heq ?_ ?_
   ·intro hb8 heq
    refine Sa 0<|Zd 3<|An 2 ?_
    exact Gt 0 [] (ihk a0 _ _ _ _ a2 (w64 ((w64 (iShr .u64 (IntKind.wrap .u64 (w64 (v_i14+v_j15))) 1))+1)) v_j15 hoa0 hla0 heq)
   ·intro hb8 heq
    refine Sa 0<|Zd 2<|An 2 ?_
    exact Gt 0 [] (ihk a0 _ _ _ _ a2 v_i14 (w64 (iShr .u64 (IntKind.wrap .u64 (w64 (v_i14+v_j15))) 1)) hoa0 hla0 heq)
  ·intro hb7 heq
   refine An 3 ?_
   exact Gt 0 [] (he4 a0 _ _ _ _ a2 v_i14 hoa0 hla0 heq)
theorem slices_symMergeCmpFunc_TestCase.j11_c [GlobI 0 w0] {r:(List TestCase)}:∀ (Aa0:Option Addr) (ca0 la0:Nat) (v_data0:List TestCase) (chv_data0:Ch) (nv_data0:Nat) ,nv_data0=v_data0.length→la0=nv_data0→SlOwn kTestCase 40 H Aa0 ca0 v_data0 chv_data0→slices_symMergeCmpFunc_TestCase.j11 v_data0=some r→RunH C47 (S47 F H Aa0 ca0 la0 r) H w0 [] [(0,.slice Aa0 nv_data0 ca0)] H (chv_data0::F):=by
 intro Aa0 ca0 la0 v_data0 chv_data0 nv_data0 hnv_data0 hlv_data0 hov_data0 heq
 subst hnv_data0
 unfold slices_symMergeCmpFunc_TestCase.j11 at heq
 obtain rfl:=Option.some.inj heq
 exact RunH.done (by kernel_rfl) Tryd.func47 (v:=.tuple #[]) (by kernel_rfl) ⟨chv_data0,rfl,rfl,rfl,hov_data0,(hlv_data0.trans rfl)⟩
theorem slices_symMergeCmpFunc_TestCase.j10_c [GlobI 0 w0] {r:(List TestCase)} (rec_:(List TestCase)→Int→Int→Int→Option (List TestCase))
  (hrec_:∀ {H:Hp} {F:List Ch} {a0:List TestCase} {Aa0:Option Addr} {na0:Nat} {ca0:Nat} {cha0:Ch} {a1:Int} {a2:Int} {a3:Int} {r:(List TestCase)},SlOwn kTestCase 40 H Aa0 ca0 a0 cha0→na0=a0.length→rec_ a0 a1 a2 a3=some r→CallsH Tryd.prog 47 #[.slice Aa0 na0 ca0,iv a1,iv a2,iv a3,.func (.func 19) #[] #[]] H w0 (cha0::F) (S47 F H Aa0 ca0 na0 r)):∀ (Aa0:Option Addr) (ca0 la0:Nat) (a1 a2 a3 v_start20:Int) (v_data0:List TestCase) (chv_data0:Ch) (nv_data0:Nat) ,nv_data0=v_data0.length→la0=nv_data0→SlOwn kTestCase 40 H Aa0 ca0 v_data0 chv_data0→slices_symMergeCmpFunc_TestCase.j10 rec_ a1 a2 a3 v_start20 v_data0=some r→RunH C47 (S47 F H Aa0 ca0 la0 r) H w0 [.c [1,1,1,1,1,1,1,1,1,1,1,0],.c [1,1,1,1,1,1,1,1,1,1,1,1]] [(0,.slice Aa0 nv_data0 ca0),(3,iv a3),(4,.func (.func 19) #[] #[]),(18,iv (w64 (iShr .u64 (IntKind.wrap .u64 (w64 (a1+a3))) 1))),(24,iv (w64 ((w64 ((w64 (iShr .u64 (IntKind.wrap .u64 (w64 (a1+a3))) 1))+a2)) - v_start20)))] H (chv_data0::F):=by
 intro Aa0 ca0 la0 a1 a2 a3 v_start20 v_data0 chv_data0 nv_data0 hnv_data0 hlv_data0 hov_data0 heq
 subst hnv_data0
 unfold slices_symMergeCmpFunc_TestCase.j10 at heq
 obtain ⟨t3,ht3,heq⟩:=bind_some heq
 have K8:RunH C47 (S47 F H Aa0 ca0 la0 r) H w0 [.c [1,1,1,1,1,1,1,1,1,1,1,1]] [(0,.slice Aa0 v_data0.length ca0),(3,iv a3),(4,.func (.func 19) #[] #[]),(18,iv (w64 (iShr .u64 (IntKind.wrap .u64 (w64 (a1+a3))) 1))),(24,iv (w64 ((w64 ((w64 (iShr .u64 (IntKind.wrap .u64 (w64 (a1+a3))) 1))+a2)) - v_start20))),(213,.bool t3)] H (chv_data0::F):=by
  refine Cb heq ?_ ?_
  ·intro hb12 heq
   refine Sa 0<|Zk 5 ?_
   obtain ⟨y3,hy3,heq⟩:=bind_some heq
   refine RgH.does (cal 219 (hrec_ (a0:=v_data0) (a1:=w64 (iShr .u64 (IntKind.wrap .u64 (w64 (a1+a3))) 1)) (a2:=w64 ((w64 ((w64 (iShr .u64 (IntKind.wrap .u64 (w64 (a1+a3))) 1))+a2)) - v_start20)) (a3:=a3) hov_data0 rfl hy3)) ?_
   rintro _ _ _ _ ⟨_,rfl,ch5,rfl,rfl,rfl,ho5,hn5⟩
   refine Dn ?_
   exact Gt 0 [] ((slices_symMergeCmpFunc_TestCase.j11_c) _ _ _ y3 _ _ hn5 hlv_data0 ho5 heq)
  ·intro hb12 heq
   refine An 1 ?_
   exact Gt 0 [] ((slices_symMergeCmpFunc_TestCase.j11_c) _ _ _ v_data0 _ _ rfl hlv_data0 hov_data0 heq)
 replace heq:=ht3
 refine Sa 0<|Zk 4 ?_
 rcases bool_cases (decide ((w64 (iShr .u64 (IntKind.wrap .u64 (w64 (a1+a3))) 1))<(w64 ((w64 ((w64 (iShr .u64 (IntKind.wrap .u64 (w64 (a1+a3))) 1))+a2)) - v_start20)))) with hb11 | hb11
 ·replace heq:=bif_true hb11 heq
  refine Zs 209 (congrArg Value.bool hb11)<|Zk 8 ?_
  obtain rfl:=Option.some.inj heq
  refine Dn ?_
  exact Gt 0 [] (K8)
 ·replace heq:=bif_false hb11 heq
  refine Zs 209 (congrArg Value.bool hb11)<|Zk 8 ?_
  obtain rfl:=Option.some.inj heq
  refine Dn ?_
  exact Gt 0 [] (K8)
theorem slices_symMergeCmpFunc_TestCase.j9_c [GlobI 0 w0] {r:(List TestCase)} (rec_:(List TestCase)→Int→Int→Int→Option (List TestCase))
  (hrec_:∀ {H:Hp} {F:List Ch} {a0:List TestCase} {Aa0:Option Addr} {na0:Nat} {ca0:Nat} {cha0:Ch} {a1:Int} {a2:Int} {a3:Int} {r:(List TestCase)},SlOwn kTestCase 40 H Aa0 ca0 a0 cha0→na0=a0.length→rec_ a0 a1 a2 a3=some r→CallsH Tryd.prog 47 #[.slice Aa0 na0 ca0,iv a1,iv a2,iv a3,.func (.func 19) #[] #[]] H w0 (cha0::F) (S47 F H Aa0 ca0 na0 r)):∀ (Aa0:Option Addr) (ca0 la0:Nat) (a1 a2 a3 v_start20:Int) (v_data0:List TestCase) (chv_data0:Ch) (nv_data0:Nat) ,nv_data0=v_data0.length→la0=nv_data0→SlOwn kTestCase 40 H Aa0 ca0 v_data0 chv_data0→slices_symMergeCmpFunc_TestCase.j9 rec_ a1 a2 a3 v_start20 v_data0=some r→RunH C47 (S47 F H Aa0 ca0 la0 r) H w0 [.c [1,1,1,1,1,1,1,1,1,1,0,0],.c [1,1,1,1,1,1,1,1,1,1,0,1],.c [1,1,1,1,1,1,1,1,1,1,1]] [(0,.slice Aa0 nv_data0 ca0),(1,iv a1),(3,iv a3),(4,.func (.func 19) #[] #[]),(18,iv (w64 (iShr .u64 (IntKind.wrap .u64 (w64 (a1+a3))) 1))),(20,iv v_start20),(24,iv (w64 ((w64 ((w64 (iShr .u64 (IntKind.wrap .u64 (w64 (a1+a3))) 1))+a2)) - v_start20)))] H (chv_data0::F):=by
 intro Aa0 ca0 la0 a1 a2 a3 v_start20 v_data0 chv_data0 nv_data0 hnv_data0 hlv_data0 hov_data0 heq
 subst hnv_data0
 unfold slices_symMergeCmpFunc_TestCase.j9 at heq
 obtain ⟨t2,ht2,heq⟩:=bind_some heq
 have K6:RunH C47 (S47 F H Aa0 ca0 la0 r) H w0 [.c [1,1,1,1,1,1,1,1,1,1,0,1],.c [1,1,1,1,1,1,1,1,1,1,1]] [(0,.slice Aa0 v_data0.length ca0),(1,iv a1),(3,iv a3),(4,.func (.func 19) #[] #[]),(18,iv (w64 (iShr .u64 (IntKind.wrap .u64 (w64 (a1+a3))) 1))),(20,iv v_start20),(24,iv (w64 ((w64 ((w64 (iShr .u64 (IntKind.wrap .u64 (w64 (a1+a3))) 1))+a2)) - v_start20))),(199,.bool t2)] H (chv_data0::F):=by
  refine Cb heq ?_ ?_
  ·intro hb13 heq
   refine Sa 0<|Zk 5 ?_
   obtain ⟨y4,hy4,heq⟩:=bind_some heq
   refine RgH.does (cal 205 (hrec_ (a0:=v_data0) (a1:=a1) (a2:=v_start20) (a3:=w64 (iShr .u64 (IntKind.wrap .u64 (w64 (a1+a3))) 1)) hov_data0 rfl hy4)) ?_
   rintro _ _ _ _ ⟨_,rfl,ch6,rfl,rfl,rfl,ho6,hn6⟩
   refine Dn<|An 1 ?_
   exact Gt 0 [] ((slices_symMergeCmpFunc_TestCase.j10_c (rec_:=rec_) hrec_) _ _ _ a1 a2 a3 v_start20 y4 _ _ hn6 hlv_data0 ho6 heq)
  ·intro hb13 heq
   refine An 2 ?_
   exact Gt 0 [] ((slices_symMergeCmpFunc_TestCase.j10_c (rec_:=rec_) hrec_) _ _ _ a1 a2 a3 v_start20 v_data0 _ _ rfl hlv_data0 hov_data0 heq)
 replace heq:=ht2
 refine Sa 0<|Zk 4 ?_
 rcases bool_cases (decide (a1<v_start20)) with hb10 | hb10
 ·replace heq:=bif_true hb10 heq
  refine Zs 195 (congrArg Value.bool hb10)<|Zk 8 ?_
  obtain rfl:=Option.some.inj heq
  refine Dn ?_
  exact Gt 0 [] (K6)
 ·replace heq:=bif_false hb10 heq
  refine Zs 195 (congrArg Value.bool hb10)<|Zk 8 ?_
  obtain rfl:=Option.some.inj heq
  refine Dn ?_
  exact Gt 0 [] (K6)
theorem slices_symMergeCmpFunc_TestCase.e8_c [GlobI 0 w0] {r:(List TestCase)} (rec_:(List TestCase)→Int→Int→Int→Option (List TestCase))
  (hrec_:∀ {H:Hp} {F:List Ch} {a0:List TestCase} {Aa0:Option Addr} {na0:Nat} {ca0:Nat} {cha0:Ch} {a1:Int} {a2:Int} {a3:Int} {r:(List TestCase)},SlOwn kTestCase 40 H Aa0 ca0 a0 cha0→na0=a0.length→rec_ a0 a1 a2 a3=some r→CallsH Tryd.prog 47 #[.slice Aa0 na0 ca0,iv a1,iv a2,iv a3,.func (.func 19) #[] #[]] H w0 (cha0::F) (S47 F H Aa0 ca0 na0 r)):∀ (a0:List TestCase) (Aa0:Option Addr) (ca0:Nat) (cha0:Ch) (la0:Nat) (a1 a2 a3 v_start20:Int) ,SlOwn kTestCase 40 H Aa0 ca0 a0 cha0→la0=a0.length→slices_symMergeCmpFunc_TestCase.e8 rec_ a0 a1 a2 a3 v_start20=some r→RunH C47 (S47 F H Aa0 ca0 la0 r) H w0 [.c [1,1,1,1,1,1,1,1,0],.c [1,1,1,1,1,1,1,1,1]] [(0,.slice Aa0 a0.length ca0),(1,iv a1),(2,iv a2),(3,iv a3),(4,.func (.func 19) #[] #[]),(18,iv (w64 (iShr .u64 (IntKind.wrap .u64 (w64 (a1+a3))) 1))),(19,iv (w64 ((w64 (iShr .u64 (IntKind.wrap .u64 (w64 (a1+a3))) 1))+a2))),(20,iv v_start20)] H (cha0::F):=by
 intro a0 Aa0 ca0 cha0 la0 a1 a2 a3 v_start20 hoa0 hla0 heq
 unfold slices_symMergeCmpFunc_TestCase.e8 at heq
 refine Sa 0<|Zd 4<|An 2 ?_
 obtain ⟨t1,ht1,heq⟩:=bind_some heq
 have K4:RunH C47 (S47 F H Aa0 ca0 la0 r) H w0 [.c [1,1,1,1,1,1,1,1,1,0,1],.c [1,1,1,1,1,1,1,1,1,1]] [(0,.slice Aa0 a0.length ca0),(1,iv a1),(2,iv a2),(3,iv a3),(4,.func (.func 19) #[] #[]),(18,iv (w64 (iShr .u64 (IntKind.wrap .u64 (w64 (a1+a3))) 1))),(20,iv v_start20),(24,iv (w64 ((w64 ((w64 (iShr .u64 (IntKind.wrap .u64 (w64 (a1+a3))) 1))+a2)) - v_start20))),(185,.bool t1)] H (cha0::F):=by
  refine Cb heq ?_ ?_
  ·intro hb14 heq
   refine Sa 0<|Zk 5 ?_
   obtain ⟨y5,hy5,heq⟩:=bind_some heq
   refine RgH.does (cal 191 (slices_rotateCmpFunc_TestCase_c hy5 hoa0 rfl)) ?_
   rintro _ _ _ _ ⟨_,rfl,ch7,rfl,rfl,rfl,ho7,hn7⟩
   refine Dn<|An 2 ?_
   exact Gt 0 [] ((slices_symMergeCmpFunc_TestCase.j9_c (rec_:=rec_) hrec_) _ _ _ a1 a2 a3 v_start20 y5 _ _ hn7 hla0 ho7 heq)
  ·intro hb14 heq
   refine An 3 ?_
   exact Gt 0 [] ((slices_symMergeCmpFunc_TestCase.j9_c (rec_:=rec_) hrec_) _ _ _ a1 a2 a3 v_start20 a0 _ _ rfl hla0 hoa0 heq)
 replace heq:=ht1
 refine Sa 0<|Zk 4 ?_
 rcases bool_cases (decide (v_start20<a2)) with hb9 | hb9
 ·replace heq:=bif_true hb9 heq
  refine Zs 181 (congrArg Value.bool hb9)<|Zk 8 ?_
  obtain rfl:=Option.some.inj heq
  refine Dn ?_
  exact Gt 0 [] (K4)
 ·replace heq:=bif_false hb9 heq
  refine Zs 181 (congrArg Value.bool hb9)<|Zk 8 ?_
  obtain rfl:=Option.some.inj heq
  refine Dn ?_
  exact Gt 0 [] (K4)
theorem slices_symMergeCmpFunc_TestCase.l12_c [GlobI 0 w0] {r:(List TestCase)} (e8:(List TestCase)→Int→Int→Int→Int→Option (List TestCase))
  (he8:∀ (a0:List TestCase) (Aa0:Option Addr) (ca0:Nat) (cha0:Ch) (la0:Nat) (a1 a2 a3 v_start20:Int) ,SlOwn kTestCase 40 H Aa0 ca0 a0 cha0→la0=a0.length→e8 a0 a1 a2 a3 v_start20=some r→RunH C47 (S47 F H Aa0 ca0 la0 r) H w0 [.c [1,1,1,1,1,1,1,1,0],.c [1,1,1,1,1,1,1,1,1]] [(0,.slice Aa0 a0.length ca0),(1,iv a1),(2,iv a2),(3,iv a3),(4,.func (.func 19) #[] #[]),(18,iv (w64 (iShr .u64 (IntKind.wrap .u64 (w64 (a1+a3))) 1))),(19,iv (w64 ((w64 (iShr .u64 (IntKind.wrap .u64 (w64 (a1+a3))) 1))+a2))),(20,iv v_start20)] H (cha0::F)):∀ (k:Nat),∀ (a0:List TestCase) (Aa0:Option Addr) (ca0:Nat) (cha0:Ch) (la0:Nat) (a1 a2 a3 v_start20 v_r21:Int) ,SlOwn kTestCase 40 H Aa0 ca0 a0 cha0→la0=a0.length→slices_symMergeCmpFunc_TestCase.l12 e8 k a0 a1 a2 a3 v_start20 v_r21=some r→RunH C47 (S47 F H Aa0 ca0 la0 r) H w0 [.c [1,1,1,1,1,1,1,0,0,0],.l [1,1,1,1,1,1,1,0,0,0],.b 8,.c [1,1,1,1,1,1,1,1]] [(0,.slice Aa0 a0.length ca0),(1,iv a1),(2,iv a2),(3,iv a3),(4,.func (.func 19) #[] #[]),(18,iv (w64 (iShr .u64 (IntKind.wrap .u64 (w64 (a1+a3))) 1))),(19,iv (w64 ((w64 (iShr .u64 (IntKind.wrap .u64 (w64 (a1+a3))) 1))+a2))),(20,iv v_start20),(21,iv v_r21),(22,iv (w64 ((w64 ((w64 (iShr .u64 (IntKind.wrap .u64 (w64 (a1+a3))) 1))+a2)) - 1)))] H (cha0::F):=by
 intro k
 induction k with
 | zero=>intro a0 Aa0 ca0 cha0 la0 a1 a2 a3 v_start20 v_r21 hoa0 hla0 heq; exact nomatch (show (none:Option (List TestCase))=some r from heq)
 | succ k ihk =>
  intro a0 Aa0 ca0 cha0 la0 a1 a2 a3 v_start20 v_r21 hoa0 hla0 heq
  rw [slices_symMergeCmpFunc_TestCase.l12] at heq
  refine Sa 2<|Zd 3 ?_
  refine Cb heq ?_ ?_
  ·intro hb15 heq
   refine Sa 3<|Zw 7 [⟨.need ((0:Int)≤1),fun w hh=>(show (0:Int)≤1 by decide)⟩]<|An 1<|Sd 0 14 [] [3,3,3,3,3,3,3,3,3,3,3,0,3,3] ?_
   obtain ⟨x11,hx11,heq⟩:=bind_some heq
   obtain ⟨ha17,cs17,hK17,hcc17⟩:=hoa0.get hx11
   obtain ⟨rfl⟩:=kTestCase_open hK17
   obtain ⟨x12,hx12,heq⟩:=bind_some heq
   obtain ⟨ha18,cs18,hK18,hcc18⟩:=hoa0.get hx12
   obtain ⟨rfl⟩:=kTestCase_open hK18
   refine Zr [0,1,2,3,4,5,6,7,8,9,10] 3 ([nx ha17 hx11]++els hcc17 0++[nx ha18 hx12]++els hcc18 0) (Pk 1 [0]) (Pk 1 [0]) ?_
   obtain ⟨y6,hy6,heq⟩:=bind_some heq
   refine Dz 11 (cal 169 (trials_Shards_1_c hy6 )) ?_
   rintro _ _ _ _ ⟨_,rfl,rfl,rfl,rfl⟩
   refine ⟨fun _ w hh=>⟨fun _=>(Pk 1 [0]) w hh,fun _=>(Pk 1 [0]) w hh,(fun h=>by cases h)⟩,?_⟩
   refine Zr [12,13] 0 [] (Pk 1 [0]) (Pk 1 [0]) ?_
   refine DrH.done (by kernel_rfl) ?_
   refine Cb heq ?_ ?_
   ·intro hb16 heq
    refine Sa 0<|Zd 3<|An 2 ?_
    exact Gt 0 [] (ihk a0 _ _ _ _ a1 a2 a3 (w64 ((w64 (iShr .u64 (IntKind.wrap .u64 (w64 (v_start20+v_r21))) 1))+1)) v_r21 hoa0 hla0 heq)
   ·intro hb16 heq
    refine Sa 0<|Zd 2<|An 2 ?_
    exact Gt 0 [] (ihk a0 _ _ _ _ a1 a2 a3 v_start20 (w64 (iShr .u64 (IntKind.wrap .u64 (w64 (v_start20+v_r21))) 1)) hoa0 hla0 heq)
  ·intro hb15 heq
   refine An 2 ?_
   exact Gt 0 [] (he8 a0 _ _ _ _ a1 a2 a3 v_start20 hoa0 hla0 heq)
theorem slices_symMergeCmpFunc_TestCase.j7_c [GlobI 0 w0] {r:(List TestCase)} (rec_:(List TestCase)→Int→Int→Int→Option (List TestCase))
  (hrec_:∀ {H:Hp} {F:List Ch} {a0:List TestCase} {Aa0:Option Addr} {na0:Nat} {ca0:Nat} {cha0:Ch} {a1:Int} {a2:Int} {a3:Int} {r:(List TestCase)},SlOwn kTestCase 40 H Aa0 ca0 a0 cha0→na0=a0.length→rec_ a0 a1 a2 a3=some r→CallsH Tryd.prog 47 #[.slice Aa0 na0 ca0,iv a1,iv a2,iv a3,.func (.func 19) #[] #[]] H w0 (cha0::F) (S47 F H Aa0 ca0 na0 r)):∀ (a0:List TestCase) (Aa0:Option Addr) (ca0:Nat) (cha0:Ch) (la0:Nat) (a1 a2 a3 v_start20 v_r21:Int) ,SlOwn kTestCase 40 H Aa0 ca0 a0 cha0→la0=a0.length→slices_symMergeCmpFunc_TestCase.j7 rec_ a0 a1 a2 a3 v_start20 v_r21=some r→RunH C47 (S47 F H Aa0 ca0 la0 r) H w0 [.c [1,1,1,1,1,1,0],.c [1,1,1,1,1,1,1]] [(0,.slice Aa0 a0.length ca0),(1,iv a1),(2,iv a2),(3,iv a3),(4,.func (.func 19) #[] #[]),(18,iv (w64 (iShr .u64 (IntKind.wrap .u64 (w64 (a1+a3))) 1))),(19,iv (w64 ((w64 (iShr .u64 (IntKind.wrap .u64 (w64 (a1+a3))) 1))+a2))),(20,iv v_start20),(21,iv v_r21)] H (cha0::F):=by
 intro a0 Aa0 ca0 cha0 la0 a1 a2 a3 v_start20 v_r21 hoa0 hla0 heq
 unfold slices_symMergeCmpFunc_TestCase.j7 at heq
 refine Sa 0<|Zd 3<|An 3 ?_
 exact Gt 0 [] (((slices_symMergeCmpFunc_TestCase.l12_c (e8:=slices_symMergeCmpFunc_TestCase.e8 rec_) (slices_symMergeCmpFunc_TestCase.e8_c (rec_:=rec_) hrec_)) big) a0 _ _ _ _ a1 a2 a3 v_start20 v_r21 hoa0 hla0 heq)
theorem slices_symMergeCmpFunc_TestCase_g [GlobI 0 w0] {rec_:(List TestCase)→Int→Int→Int→Option (List TestCase)} (hrec_:∀ {H:Hp} {F:List Ch} {a0:List TestCase} {Aa0:Option Addr} {na0:Nat} {ca0:Nat} {cha0:Ch} {a1:Int} {a2:Int} {a3:Int} {r:(List TestCase)},SlOwn kTestCase 40 H Aa0 ca0 a0 cha0→na0=a0.length→rec_ a0 a1 a2 a3=some r→CallsH Tryd.prog 47 #[.slice Aa0 na0 ca0,iv a1,iv a2,iv a3,.func (.func 19) #[] #[]] H w0 (cha0::F) (S47 F H Aa0 ca0 na0 r)) {H:Hp} {F:List Ch} {a0:List TestCase} {Aa0:Option Addr} {na0 ca0:Nat} {cha0:Ch} {a1 a2 a3:Int} {r:(List TestCase)} (heq:slices_symMergeCmpFunc_TestCase.g rec_ a0 a1 a2 a3=some r) (hoa0:SlOwn kTestCase 40 H Aa0 ca0 a0 cha0) (hna0:na0=a0.length):CallsH Tryd.prog 47 #[.slice Aa0 na0 ca0,iv a1,iv a2,iv a3,.func (.func 19) #[] #[]] H w0 (cha0::F) (S47 F H Aa0 ca0 na0 r):=by
 refine Co C47 Tryd.func47 Tryd.ntmps47 ?_
 suffices key0:∀ (la0:Nat),la0=na0→RunH C47 (S47 F H Aa0 ca0 la0 r) H w0 [.c []] (argL 0 [.slice Aa0 na0 ca0,iv a1,iv a2,iv a3,.func (.func 19) #[] #[]]) H (cha0::F) from key0 na0 rfl
 intro la0 hla0
 subst hna0
 unfold slices_symMergeCmpFunc_TestCase.g at heq
 refine Sa 2<|Zd 4 ?_
 refine Cb heq ?_ ?_
 ·intro hb1 heq
  refine Sa 1<|Zd 2<|Sa 1<|Zd 2<|An 3 ?_
  exact Gt 0 [] (((slices_symMergeCmpFunc_TestCase.l3_c (e1:=slices_symMergeCmpFunc_TestCase.e1) (slices_symMergeCmpFunc_TestCase.e1_c)) big) a0 _ _ _ _ a1 a2 a3 hoa0 hla0 heq)
 ·intro hb1 heq
  refine Sa 3<|Zd 4 ?_
  refine Cb heq ?_ ?_
  ·intro hb5 heq
   refine Sa 1<|Zd 2<|Sa 1<|Zd 2<|An 3 ?_
   exact Gt 0 [] (((slices_symMergeCmpFunc_TestCase.l6_c (e4:=slices_symMergeCmpFunc_TestCase.e4) (slices_symMergeCmpFunc_TestCase.e4_c)) big) a0 _ _ _ _ a2 a1 a2 hoa0 hla0 heq)
  ·intro hb5 heq
   refine Sa 2<|Zw 7 [⟨.need ((0:Int)≤1),fun w hh=>(show (0:Int)≤1 by decide)⟩]<|Sa 1<|Zd 4<|Sa 1<|Zd 2<|Sa 2<|Zd 3 ?_
   refine Cb heq ?_ ?_
   ·intro hb17 heq
    refine Sa 1<|Zd 4<|Sa 0<|Zd 2<|An 1 ?_
    exact Gt 0 [] ((slices_symMergeCmpFunc_TestCase.j7_c (rec_:=rec_) hrec_) a0 _ _ _ _ a1 a2 a3 (w64 ((w64 ((w64 (iShr .u64 (IntKind.wrap .u64 (w64 (a1+a3))) 1))+a2)) - a3)) (w64 (iShr .u64 (IntKind.wrap .u64 (w64 (a1+a3))) 1)) hoa0 hla0 heq)
   ·intro hb17 heq
    refine Sa 1<|Zd 2<|Sa 0<|Zd 2<|An 1 ?_
    exact Gt 0 [] ((slices_symMergeCmpFunc_TestCase.j7_c (rec_:=rec_) hrec_) a0 _ _ _ _ a1 a2 a3 a1 a2 hoa0 hla0 heq)
theorem slices_symMergeCmpFunc_TestCase_k [GlobI 0 w0]:∀ (k:Nat),∀ {H:Hp} {F:List Ch} {a0:List TestCase} {Aa0:Option Addr} {na0:Nat} {ca0:Nat} {cha0:Ch} {a1:Int} {a2:Int} {a3:Int} {r:(List TestCase)},SlOwn kTestCase 40 H Aa0 ca0 a0 cha0→na0=a0.length→slices_symMergeCmpFunc_TestCase.fk k a0 a1 a2 a3=some r→CallsH Tryd.prog 47 #[.slice Aa0 na0 ca0,iv a1,iv a2,iv a3,.func (.func 19) #[] #[]] H w0 (cha0::F) (S47 F H Aa0 ca0 na0 r):=by
 intro k
 induction k with
 | zero=>intro H F a0 Aa0 na0 ca0 cha0 a1 a2 a3 r h0_ h1_ heq; cases heq
 | succ k ih =>
  intro H F a0 Aa0 na0 ca0 cha0 a1 a2 a3 r h0_ h1_ heq
  exact slices_symMergeCmpFunc_TestCase_g (rec_:=slices_symMergeCmpFunc_TestCase.fk k) ih heq h0_ h1_
theorem slices_symMergeCmpFunc_TestCase_c [GlobI 0 w0] {a0:List TestCase} {Aa0:Option Addr} {na0 ca0:Nat} {cha0:Ch} {a1 a2 a3:Int} {r:(List TestCase)} (heq:slices_symMergeCmpFunc_TestCase.f a0 a1 a2 a3=some r) (hoa0:SlOwn kTestCase 40 H Aa0 ca0 a0 cha0) (hna0:na0=a0.length):CallsH Tryd.prog 47 #[.slice Aa0 na0 ca0,iv a1,iv a2,iv a3,.func (.func 19) #[] #[]] H w0 (cha0::F) (S47 F H Aa0 ca0 na0 r):=by
 exact slices_symMergeCmpFunc_TestCase_k big hoa0 hna0 heq
noncomputable def C35:Ctx:={ P:=Tryd.prog,f:=35,N:=63,c:=bodyOf Tryd.f35 }
def S35 (F:List Ch) (H0:Hp) (Aa0:Option Addr) (ca0:Nat) (la0:Nat) (r:(List TestCase)) (v:Value) (H:Hp) (cs:List Ch):Prop:=∃ (ch0:Ch),H0=H∧v=.tuple #[]∧ch0::F=cs∧SlOwn kTestCase 40 H Aa0 ca0 r ch0∧la0=r.length
theorem slices_stableCmpFunc_TestCase.j4_c [GlobI 0 w0] {r:(List TestCase)} (backl2:Int→(List TestCase)→Int→Option (List TestCase))
  (hbackl2:∀ (Aa0:Option Addr) (ca0 la0:Nat) (a1:Int) (v_data0:List TestCase) (chv_data0:Ch) (nv_data0:Nat) (v_blockSize6:Int) ,nv_data0=v_data0.length→la0=nv_data0→SlOwn kTestCase 40 H Aa0 ca0 v_data0 chv_data0→backl2 a1 v_data0 v_blockSize6=some r→RunH C35 (S35 F H Aa0 ca0 la0 r) H w0 [.c [1,1,1,1,0,0],.l [1,1,1,1,0,0],.b 2] [(0,.slice Aa0 nv_data0 ca0),(1,iv a1),(2,.func (.func 19) #[] #[]),(6,iv v_blockSize6)] H (chv_data0::F)):∀ (Aa0:Option Addr) (ca0 la0:Nat) (a1 v_blockSize6:Int) (v_data0:List TestCase) (chv_data0:Ch) (nv_data0:Nat) ,nv_data0=v_data0.length→la0=nv_data0→SlOwn kTestCase 40 H Aa0 ca0 v_data0 chv_data0→slices_stableCmpFunc_TestCase.j4 backl2 a1 v_blockSize6 v_data0=some r→RunH C35 (S35 F H Aa0 ca0 la0 r) H w0 [.c [1,1,1,1,0,0,1,0,1,1,1],.b 3,.l [1,1,1,1,0,0],.b 2] [(0,.slice Aa0 nv_data0 ca0),(1,iv a1),(2,.func (.func 19) #[] #[]),(6,iv v_blockSize6)] H (chv_data0::F):=by
 intro Aa0 ca0 la0 a1 v_blockSize6 v_data0 chv_data0 nv_data0 hnv_data0 hlv_data0 hov_data0 heq
 subst hnv_data0
 unfold slices_stableCmpFunc_TestCase.j4 at heq
 refine Sa 0<|Zd 3<|An 2 ?_
 exact Gt 0 [] (hbackl2 _ _ _ a1 v_data0 _ _ (w64 (v_blockSize6*2)) rfl hlv_data0 hov_data0 heq)
theorem slices_stableCmpFunc_TestCase.e3_c [GlobI 0 w0] {r:(List TestCase)} (backl2:Int→(List TestCase)→Int→Option (List TestCase))
  (hbackl2:∀ (Aa0:Option Addr) (ca0 la0:Nat) (a1:Int) (v_data0:List TestCase) (chv_data0:Ch) (nv_data0:Nat) (v_blockSize6:Int) ,nv_data0=v_data0.length→la0=nv_data0→SlOwn kTestCase 40 H Aa0 ca0 v_data0 chv_data0→backl2 a1 v_data0 v_blockSize6=some r→RunH C35 (S35 F H Aa0 ca0 la0 r) H w0 [.c [1,1,1,1,0,0],.l [1,1,1,1,0,0],.b 2] [(0,.slice Aa0 nv_data0 ca0),(1,iv a1),(2,.func (.func 19) #[] #[]),(6,iv v_blockSize6)] H (chv_data0::F)):∀ (Aa0:Option Addr) (ca0 la0:Nat) (a1:Int) (v_data0:List TestCase) (chv_data0:Ch) (v_blockSize6 v_a7:Int) ,la0=v_data0.length→SlOwn kTestCase 40 H Aa0 ca0 v_data0 chv_data0→slices_stableCmpFunc_TestCase.e3 backl2 a1 v_data0 v_blockSize6 v_a7=some r→RunH C35 (S35 F H Aa0 ca0 la0 r) H w0 [.c [1,1,1,1,0,0,1,0,1,1,0,0],.c [1,1,1,1,0,0,1,0,1,1,0,1],.c [1,1,1,1,0,0,1,0,1,1,1],.b 3,.l [1,1,1,1,0,0],.b 2] [(0,.slice Aa0 v_data0.length ca0),(1,iv a1),(2,.func (.func 19) #[] #[]),(6,iv v_blockSize6),(7,iv v_a7)] H (chv_data0::F):=by
 intro Aa0 ca0 la0 a1 v_data0 chv_data0 v_blockSize6 v_a7 hlv_data0 hov_data0 heq
 unfold slices_stableCmpFunc_TestCase.e3 at heq
 refine Sa 0<|Zd 4<|Sa 1<|Zd 3 ?_
 refine Cb heq ?_ ?_
 ·intro hb2 heq
  refine Sa 0<|Zk 5 ?_
  obtain ⟨y2,hy2,heq⟩:=bind_some heq
  refine RgH.does (cal 60 (slices_symMergeCmpFunc_TestCase_c hy2 hov_data0 rfl)) ?_
  rintro _ _ _ _ ⟨_,rfl,ch2,rfl,rfl,rfl,ho2,hn2⟩
  refine Dn ?_
  exact Gt 0 [] ((slices_stableCmpFunc_TestCase.j4_c (backl2:=backl2) hbackl2) _ _ _ a1 v_blockSize6 y2 _ _ hn2 hlv_data0 ho2 heq)
 ·intro hb2 heq
  refine An 1 ?_
  exact Gt 0 [] ((slices_stableCmpFunc_TestCase.j4_c (backl2:=backl2) hbackl2) _ _ _ a1 v_blockSize6 v_data0 _ _ rfl hlv_data0 hov_data0 heq)
theorem slices_stableCmpFunc_TestCase.l5_c [GlobI 0 w0] {r:(List TestCase)} (e3:Int→(List TestCase)→Int→Int→Option (List TestCase))
  (he3:∀ (Aa0:Option Addr) (ca0 la0:Nat) (a1:Int) (v_data0:List TestCase) (chv_data0:Ch) (v_blockSize6 v_a7:Int) ,la0=v_data0.length→SlOwn kTestCase 40 H Aa0 ca0 v_data0 chv_data0→e3 a1 v_data0 v_blockSize6 v_a7=some r→RunH C35 (S35 F H Aa0 ca0 la0 r) H w0 [.c [1,1,1,1,0,0,1,0,1,1,0,0],.c [1,1,1,1,0,0,1,0,1,1,0,1],.c [1,1,1,1,0,0,1,0,1,1,1],.b 3,.l [1,1,1,1,0,0],.b 2] [(0,.slice Aa0 v_data0.length ca0),(1,iv a1),(2,.func (.func 19) #[] #[]),(6,iv v_blockSize6),(7,iv v_a7)] H (chv_data0::F)):∀ (k:Nat),∀ (Aa0:Option Addr) (ca0 la0:Nat) (a1 v_blockSize6:Int) (v_data0:List TestCase) (chv_data0:Ch) (nv_data0:Nat) (v_a7 v_b8:Int) ,nv_data0=v_data0.length→la0=nv_data0→SlOwn kTestCase 40 H Aa0 ca0 v_data0 chv_data0→slices_stableCmpFunc_TestCase.l5 e3 k a1 v_blockSize6 v_data0 v_a7 v_b8=some r→RunH C35 (S35 F H Aa0 ca0 la0 r) H w0 [.c [1,1,1,1,0,0,1,0,1,0,0,0],.l [1,1,1,1,0,0,1,0,1,0,0,0],.b 4,.c [1,1,1,1,0,0,1,0,1,1],.b 3,.l [1,1,1,1,0,0],.b 2] [(0,.slice Aa0 nv_data0 ca0),(1,iv a1),(2,.func (.func 19) #[] #[]),(6,iv v_blockSize6),(7,iv v_a7),(8,iv v_b8)] H (chv_data0::F):=by
 intro k
 induction k with
 | zero=>intro Aa0 ca0 la0 a1 v_blockSize6 v_data0 chv_data0 nv_data0 v_a7 v_b8 hnv_data0 hlv_data0 hov_data0 heq; exact nomatch (show (none:Option (List TestCase))=some r from heq)
 | succ k ihk =>
  intro Aa0 ca0 la0 a1 v_blockSize6 v_data0 chv_data0 nv_data0 v_a7 v_b8 hnv_data0 hlv_data0 hov_data0 heq
  subst hnv_data0
  rw [slices_stableCmpFunc_TestCase.l5] at heq
  refine Sa 2<|Zd 3 ?_
  refine Cb heq ?_ ?_
  ·intro hb3 heq
   refine Sa 3<|Zk 7 ?_
   obtain ⟨y3,hy3,heq⟩:=bind_some heq
   refine RgH.does (cal 43 (slices_symMergeCmpFunc_TestCase_c hy3 hov_data0 rfl)) ?_
   rintro _ _ _ _ ⟨_,rfl,ch3,rfl,rfl,rfl,ho3,hn3⟩
   refine Dn<|Sa 1<|Zd 2<|Sa 0<|Zd 5<|An 2 ?_
   exact Gt 0 [] (ihk _ _ _ a1 v_blockSize6 y3 _ _ v_b8 (w64 (v_b8+(w64 (2*v_blockSize6)))) hn3 hlv_data0 ho3 heq)
  ·intro hb3 heq
   refine An 3 ?_
   exact Gt 0 [] (he3 _ _ _ a1 v_data0 _ v_blockSize6 v_a7 hlv_data0 hov_data0 heq)
theorem slices_stableCmpFunc_TestCase.l2_c [GlobI 0 w0] {r:(List TestCase)}:∀ (k:Nat),∀ (Aa0:Option Addr) (ca0 la0:Nat) (a1:Int) (v_data0:List TestCase) (chv_data0:Ch) (nv_data0:Nat) (v_blockSize6:Int) ,nv_data0=v_data0.length→la0=nv_data0→SlOwn kTestCase 40 H Aa0 ca0 v_data0 chv_data0→slices_stableCmpFunc_TestCase.l2 k a1 v_data0 v_blockSize6=some r→RunH C35 (S35 F H Aa0 ca0 la0 r) H w0 [.c [1,1,1,1,0,0],.l [1,1,1,1,0,0],.b 2] [(0,.slice Aa0 nv_data0 ca0),(1,iv a1),(2,.func (.func 19) #[] #[]),(6,iv v_blockSize6)] H (chv_data0::F):=by
 intro k
 induction k with
 | zero=>intro Aa0 ca0 la0 a1 v_data0 chv_data0 nv_data0 v_blockSize6 hnv_data0 hlv_data0 hov_data0 heq; exact nomatch (show (none:Option (List TestCase))=some r from heq)
 | succ k ihk =>
  intro Aa0 ca0 la0 a1 v_data0 chv_data0 nv_data0 v_blockSize6 hnv_data0 hlv_data0 hov_data0 heq
  subst hnv_data0
  rw [slices_stableCmpFunc_TestCase.l2] at heq
  refine Sa 2<|Zd 3 ?_
  refine Cb heq ?_ ?_
  ·intro hb1 heq
   refine Sa 3<|Zd 4<|An 3 ?_
   exact Gt 0 [] (((slices_stableCmpFunc_TestCase.l5_c (e3:=slices_stableCmpFunc_TestCase.e3 ((slices_stableCmpFunc_TestCase.l2 k))) (slices_stableCmpFunc_TestCase.e3_c (backl2:=(slices_stableCmpFunc_TestCase.l2 k)) ihk)) big) _ _ _ a1 v_blockSize6 v_data0 _ _ 0 (w64 (2*v_blockSize6)) rfl hlv_data0 hov_data0 heq)
  ·intro hb1 heq
   refine An 1 ?_
   obtain rfl:=Option.some.inj heq
   exact RunH.done (by kernel_rfl) Tryd.func35 (v:=.tuple #[]) (by kernel_rfl) ⟨chv_data0,rfl,rfl,rfl,hov_data0,(hlv_data0.trans rfl)⟩
theorem slices_stableCmpFunc_TestCase.e1_c [GlobI 0 w0] {r:(List TestCase)}:∀ (Aa0:Option Addr) (ca0 la0:Nat) (a1:Int) (v_data0:List TestCase) (chv_data0:Ch) (nv_data0:Nat) (v_a7:Int) ,nv_data0=v_data0.length→la0=nv_data0→SlOwn kTestCase 40 H Aa0 ca0 v_data0 chv_data0→slices_stableCmpFunc_TestCase.e1 a1 v_data0 v_a7=some r→RunH C35 (S35 F H Aa0 ca0 la0 r) H w0 [.c [1,1,1,0],.c [1,1,1,1]] [(0,.slice Aa0 nv_data0 ca0),(1,iv a1),(2,.func (.func 19) #[] #[]),(6,iv 20),(7,iv v_a7)] H (chv_data0::F):=by
 intro Aa0 ca0 la0 a1 v_data0 chv_data0 nv_data0 v_a7 hnv_data0 hlv_data0 hov_data0 heq
 subst hnv_data0
 unfold slices_stableCmpFunc_TestCase.e1 at heq
 refine Sa 0<|Zk 4 ?_
 obtain ⟨y1,hy1,heq⟩:=bind_some heq
 refine RgH.does (cal 27 (slices_insertionSortCmpFunc_TestCase_c hy1 hov_data0 rfl)) ?_
 rintro _ _ _ _ ⟨_,rfl,ch1,rfl,rfl,rfl,ho1,hn1⟩
 refine Dn<|An 2 ?_
 exact Gt 0 [] (((slices_stableCmpFunc_TestCase.l2_c) big) _ _ _ a1 y1 _ _ 20 hn1 hlv_data0 ho1 heq)
theorem slices_stableCmpFunc_TestCase.l6_c [GlobI 0 w0] {r:(List TestCase)} (e1:Int→(List TestCase)→Int→Option (List TestCase))
  (he1:∀ (Aa0:Option Addr) (ca0 la0:Nat) (a1:Int) (v_data0:List TestCase) (chv_data0:Ch) (nv_data0:Nat) (v_a7:Int) ,nv_data0=v_data0.length→la0=nv_data0→SlOwn kTestCase 40 H Aa0 ca0 v_data0 chv_data0→e1 a1 v_data0 v_a7=some r→RunH C35 (S35 F H Aa0 ca0 la0 r) H w0 [.c [1,1,1,0],.c [1,1,1,1]] [(0,.slice Aa0 nv_data0 ca0),(1,iv a1),(2,.func (.func 19) #[] #[]),(6,iv 20),(7,iv v_a7)] H (chv_data0::F)):∀ (k:Nat),∀ (Aa0:Option Addr) (ca0 la0:Nat) (a1:Int) (v_data0:List TestCase) (chv_data0:Ch) (nv_data0:Nat) (v_a7 v_b8:Int) ,nv_data0=v_data0.length→la0=nv_data0→SlOwn kTestCase 40 H Aa0 ca0 v_data0 chv_data0→slices_stableCmpFunc_TestCase.l6 e1 k a1 v_data0 v_a7 v_b8=some r→RunH C35 (S35 F H Aa0 ca0 la0 r) H w0 [.c [1,1,0,0,0],.l [1,1,0,0,0],.b 0,.c [1,1,1]] [(0,.slice Aa0 nv_data0 ca0),(1,iv a1),(2,.func (.func 19) #[] #[]),(6,iv 20),(7,iv v_a7),(8,iv v_b8)] H (chv_data0::F):=by
 intro k
 induction k with
 | zero=>intro Aa0 ca0 la0 a1 v_data0 chv_data0 nv_data0 v_a7 v_b8 hnv_data0 hlv_data0 hov_data0 heq; exact nomatch (show (none:Option (List TestCase))=some r from heq)
 | succ k ihk =>
  intro Aa0 ca0 la0 a1 v_data0 chv_data0 nv_data0 v_a7 v_b8 hnv_data0 hlv_data0 hov_data0 heq
  subst hnv_data0
  rw [slices_stableCmpFunc_TestCase.l6] at heq
  refine Sa 2<|Zd 3 ?_
  refine Cb heq ?_ ?_
  ·intro hb4 heq
   refine Sa 3<|Zk 4 ?_
   obtain ⟨y4,hy4,heq⟩:=bind_some heq
   refine RgH.does (cal 18 (slices_insertionSortCmpFunc_TestCase_c hy4 hov_data0 rfl)) ?_
   rintro _ _ _ _ ⟨_,rfl,ch4,rfl,rfl,rfl,ho4,hn4⟩
   refine Dn<|Sa 1<|Zd 2<|Sa 0<|Zd 4<|An 2 ?_
   exact Gt 0 [] (ihk _ _ _ a1 y4 _ _ v_b8 (w64 (v_b8+20)) hn4 hlv_data0 ho4 heq)
  ·intro hb4 heq
   refine An 2 ?_
   exact Gt 0 [] (he1 _ _ _ a1 v_data0 _ _ v_a7 rfl hlv_data0 hov_data0 heq)
theorem slices_stableCmpFunc_TestCase_c [GlobI 0 w0] {a0:List TestCase} {Aa0:Option Addr} {na0 ca0:Nat} {cha0:Ch} {a1:Int} {r:(List TestCase)} (heq:slices_stableCmpFunc_TestCase.f a0 a1=some r) (hoa0:SlOwn kTestCase 40 H Aa0 ca0 a0 cha0) (hna0:na0=a0.length):CallsH Tryd.prog 35 #[.slice Aa0 na0 ca0,iv a1,.func (.func 19) #[] #[]] H w0 (cha0::F) (S35 F H Aa0 ca0 na0 r):=by
 refine Co C35 Tryd.func35 Tryd.ntmps35 ?_
 suffices key0:∀ (la0:Nat),la0=na0→RunH C35 (S35 F H Aa0 ca0 la0 r) H w0 [.c []] (argL 0 [.slice Aa0 na0 ca0,iv a1,.func (.func 19) #[] #[]]) H (cha0::F) from key0 na0 rfl
 intro la0 hla0
 subst hna0
 unfold slices_stableCmpFunc_TestCase.f at heq
 refine Sa 1<|Zd 1<|Sa 1<|Zd 3<|An 3 ?_
 exact Gt 0 [] (((slices_stableCmpFunc_TestCase.l6_c (e1:=slices_stableCmpFunc_TestCase.e1) (slices_stableCmpFunc_TestCase.e1_c)) big) _ _ _ a1 a0 _ _ 0 20 rfl hla0 hoa0 heq)
noncomputable def C18:Ctx:={ P:=Tryd.prog,f:=18,N:=9,c:=bodyOf Tryd.f18 }
def S18 (F:List Ch) (H0:Hp) (Aa0:Option Addr) (ca0:Nat) (la0:Nat) (r:(List TestCase)) (v:Value) (H:Hp) (cs:List Ch):Prop:=∃ (ch0:Ch),H0=H∧v=.tuple #[]∧ch0::F=cs∧SlOwn kTestCase 40 H Aa0 ca0 r ch0∧la0=r.length
theorem slices_SortStableFunc_TestCase_c [GlobI 0 w0] {a0:List TestCase} {Aa0:Option Addr} {na0 ca0:Nat} {cha0:Ch} {r:(List TestCase)} (heq:slices_SortStableFunc_TestCase.f a0=some r) (hoa0:SlOwn kTestCase 40 H Aa0 ca0 a0 cha0) (hna0:na0=a0.length):CallsH Tryd.prog 18 #[.slice Aa0 na0 ca0,.func (.func 19) #[] #[]] H w0 (cha0::F) (S18 F H Aa0 ca0 na0 r):=by
 refine Co C18 Tryd.func18 Tryd.ntmps18 ?_
 suffices key0:∀ (la0:Nat),la0=na0→RunH C18 (S18 F H Aa0 ca0 la0 r) H w0 [.c []] (argL 0 [.slice Aa0 na0 ca0,.func (.func 19) #[] #[]]) H (cha0::F) from key0 na0 rfl
 intro la0 hla0
 subst hna0
 unfold slices_SortStableFunc_TestCase.f at heq
 refine Sa 0<|Zk 4 ?_
 obtain ⟨y1,hy1,heq⟩:=bind_some heq
 refine RgH.does (cal 8 (slices_stableCmpFunc_TestCase_c hy1 hoa0 rfl)) ?_
 rintro _ _ _ _ ⟨_,rfl,ch1,rfl,rfl,rfl,ho1,hn1⟩
 refine Dn ?_
 obtain rfl:=Option.some.inj heq
 exact RunH.done (by kernel_rfl) Tryd.func18 (v:=.tuple #[]) (by kernel_rfl) ⟨ch1,rfl,rfl,rfl,ho1,(hla0.trans hn1)⟩
def S23 (F:List Ch) (H0:Hp) (Aa0:Option Addr) (ca0:Nat) (la0:Nat) (r:List ByteArray) (v:Value) (H:Hp) (cs:List Ch):Prop:=∃ (ch0:Ch),H0=H∧v=.tuple #[]∧ch0::F=cs∧SlOwn Kd.string 9 H Aa0 ca0 r ch0∧la0=r.length
theorem slices_Sort_string_c [GlobI 0 w0] {a0:List ByteArray} {Aa0:Option Addr} {na0 ca0:Nat} {cha0:Ch} {r:List ByteArray} (hoa0:SlOwn Kd.string 9 H Aa0 ca0 a0 cha0) (hna0:na0=a0.length) (heq:slices_Sort_string.f a0=some r):CallsH Tryd.prog 23 #[.slice Aa0 na0 ca0] H w0 (cha0::F) (S23 F H Aa0 ca0 na0 r):=by
 intro w hh
 unfold slices_Sort_string.f at heq
 obtain ⟨hn,heq⟩:=guard?_some heq
 obtain rfl:=Option.some.inj heq
 subst hna0
 refine (sort_calls (F:=F) (w0:=w0) Shelf.Tryd.slices_Sort_string Shelf.Tryd.slices_Sort_string_none hoa0 (of_decide_eq_true hn) w hh).mono ?_
 rintro e w' ⟨v,rfl,H',cs',hle,hh',ch',rfl,hv,rfl,ho⟩
 exact ⟨_,rfl,_,_,hle,hh',ch',rfl,hv,rfl,ho,(sortB_length a0).symm⟩
noncomputable def C22:Ctx:={ P:=Tryd.prog,f:=22,N:=25,c:=bodyOf Tryd.f22 }
def S22 (F:List Ch) (H0:Hp) (r:Int) (v:Value) (H:Hp) (cs:List Ch):Prop:=H0=H∧v=iv r∧F=cs
theorem slices_Min_int.e2_c [GlobI 0 w0] {r:Int}:∀ (v_m3:Int) ,slices_Min_int.e2 v_m3=some r→RunH C22 (S22 F H r) H w0 [.c [1,1,1,1,0],.c [1,1,1,1,1]] [(3,iv v_m3)] H (F):=by
 intro v_m3  heq
 unfold slices_Min_int.e2 at heq
 refine Sa 0<|Zd 2 ?_
 obtain rfl:=Option.some.inj heq
 exact RunH.done (by kernel_rfl) Tryd.func22 (v:=iv v_m3) (by kernel_rfl) ⟨rfl,rfl,rfl⟩
theorem slices_Min_int.l3_c [GlobI 0 w0] {r:Int} (e2:Int→Option Int)
  (he2:∀ (v_m3:Int) ,e2 v_m3=some r→RunH C22 (S22 F H r) H w0 [.c [1,1,1,1,0],.c [1,1,1,1,1]] [(3,iv v_m3)] H (F)):∀ (k:Nat),∀ (a0:List Int) (Aa0:Option Addr) (ca0:Nat) (v_m3 v_i4:Int) ,Rw (Kd.int .i64) H F Aa0 a0→a0.length≤ca0→slices_Min_int.l3 e2 k a0 v_m3 v_i4=some r→RunH C22 (S22 F H r) H w0 [.c [1,1,1,0,1,0,0],.l [1,1,1,0,1,0,0],.b 0,.c [1,1,1,1]] [(0,.slice Aa0 a0.length ca0),(3,iv v_m3),(4,iv v_i4)] H (F):=by
 intro k
 induction k with
 | zero=>intro a0 Aa0 ca0 v_m3 v_i4 hra0 hca0 heq; exact nomatch (show (none:Option Int)=some r from heq)
 | succ k ihk =>
  intro a0 Aa0 ca0 v_m3 v_i4 hra0 hca0 heq
  rw [slices_Min_int.l3] at heq
  refine Sa 2<|Zd 4 ?_
  refine Cb heq ?_ ?_
  ·intro hb1 heq
   refine Sa 3 ?_
   obtain ⟨x2,hx2,heq⟩:=bind_some heq
   obtain ⟨ha2,cs2,hK2,hcc2⟩:=hra0.get hx2
   obtain rfl:cs2=[iv x2]:=hK2
   refine Zw 7 [nx ha2 hx2,er hcc2 0 0]<|Sa 1<|Zd 3<|An 1 ?_
   exact Gt 0 [] (ihk a0 _ _ (min2 v_m3 x2) (w64 (v_i4+1)) hra0 hca0 heq)
  ·intro hb1 heq
   refine An 2 ?_
   exact Gt 0 [] (he2 v_m3 heq)
theorem slices_Min_int.j1_c [GlobI 0 w0] {r:Int}:∀ (a0:List Int) (Aa0:Option Addr) (ca0:Nat) ,Rw (Kd.int .i64) H F Aa0 a0→a0.length≤ca0→slices_Min_int.j1 a0=some r→RunH C22 (S22 F H r) H w0 [.c [1,1,0],.c [1,1,1]] [(0,.slice Aa0 a0.length ca0)] H (F):=by
 intro a0 Aa0 ca0 hra0 hca0 heq
 unfold slices_Min_int.j1 at heq
 refine Sa 0 ?_
 obtain ⟨x1,hx1,heq⟩:=bind_some heq
 obtain ⟨ha1,cs1,hK1,hcc1⟩:=hra0.get hx1
 obtain rfl:cs1=[iv x1]:=hK1
 refine Zw 4 [nx ha1 hx1,er hcc1 0 0]<|Sa 2<|Zd 1<|An 2 ?_
 exact Gt 0 [] (((slices_Min_int.l3_c (e2:=slices_Min_int.e2) (slices_Min_int.e2_c)) big) a0 _ _ x1 1 hra0 hca0 heq)
theorem slices_Min_int_c [GlobI 0 w0] {a0:List Int} {Aa0:Option Addr} {na0 ca0:Nat} {r:Int} (heq:slices_Min_int.f a0=some r) (hra0:Rw (Kd.int .i64) H F Aa0 a0) (hca0:na0≤ca0) (hna0:na0=a0.length):CallsH Tryd.prog 22 #[.slice Aa0 na0 ca0] H w0 (F) (S22 F H r):=by
 refine Co C22 Tryd.func22 Tryd.ntmps22 ?_
 subst hna0
 unfold slices_Min_int.f at heq
 refine Sa 1<|Zd 1<|Sa 2<|Zd 3 ?_
 refine Cb heq ?_ ?_
 ·intro hb2 heq
  cases heq
 ·intro hb2 heq
  refine An 2 ?_
  exact Gt 0 [] ((slices_Min_int.j1_c) a0 _ _ hra0 hca0 heq)
noncomputable def C21:Ctx:={ P:=Tryd.prog,f:=21,N:=19,c:=bodyOf Tryd.f21 }
def S21 (F:List Ch) (H0:Hp) (r:Int) (v:Value) (H:Hp) (cs:List Ch):Prop:=H0=H∧v=iv r∧F=cs
theorem slices_Index_int.e1_c [GlobI 0 w0] {r:Int}:slices_Index_int.e1=some r→RunH C21 (S21 F H r) H w0 [.c [1,1,0],.c [1,1,1]] [] H (F):=by
 intro   heq
 unfold slices_Index_int.e1 at heq
 refine Sa 0<|Zd 1 ?_
 obtain rfl:=Option.some.inj heq
 exact RunH.done (by kernel_rfl) Tryd.func21 (v:=iv (-1)) (by kernel_rfl) ⟨rfl,rfl,rfl⟩
theorem slices_Index_int.l2_c [GlobI 0 w0] {r:Int} (e1:Option Int)
  (he1:e1=some r→RunH C21 (S21 F H r) H w0 [.c [1,1,0],.c [1,1,1]] [] H (F)):∀ (k:Nat),∀ (a0:List Int) (Aa0:Option Addr) (ca0:Nat) (a1 v8:Int) ,Rw (Kd.int .i64) H F Aa0 a0→a0.length≤ca0→slices_Index_int.l2 e1 k a0 a1 v8=some r→RunH C21 (S21 F H r) H w0 [.c [1,0,1,0,0],.l [1,0,1,0,0],.b 0,.c [1,1]] [(0,.slice Aa0 a0.length ca0),(1,iv a1),(7,iv (a0.length:Int)),(8,iv v8)] H (F):=by
 intro k
 induction k with
 | zero=>intro a0 Aa0 ca0 a1 v8 hra0 hca0 heq; exact nomatch (show (none:Option Int)=some r from heq)
 | succ k ihk =>
  intro a0 Aa0 ca0 a1 v8 hra0 hca0 heq
  rw [slices_Index_int.l2] at heq
  refine Sa 1<|Zd 1<|An 1 ?_
  refine Cb heq ?_ ?_
  ·intro hb1 heq
   refine Sa 4<|Zd 2<|Sa 1 ?_
   obtain ⟨x1,hx1,heq⟩:=bind_some heq
   obtain ⟨ha1,cs1,hK1,hcc1⟩:=hra0.get hx1
   obtain rfl:cs1=[iv x1]:=hK1
   refine Zw 6 [nx ha1 hx1,er hcc1 0 0] ?_
   refine Cb heq ?_ ?_
   ·intro hb2 heq
    refine Sa 1<|Zd 2 ?_
    obtain rfl:=Option.some.inj heq
    exact RunH.done (by kernel_rfl) Tryd.func21 (v:=iv v8) (by kernel_rfl) ⟨rfl,rfl,rfl⟩
   ·intro hb2 heq
    refine Sa 2<|Zd 2<|An 1 ?_
    exact Gt 0 [] (ihk a0 _ _ a1 (w64 (v8+1)) hra0 hca0 heq)
  ·intro hb1 heq
   refine An 2 ?_
   exact Gt 0 [] (he1 heq)
theorem slices_Index_int_c [GlobI 0 w0] {a0:List Int} {Aa0:Option Addr} {na0 ca0:Nat} {a1:Int} {r:Int} (heq:slices_Index_int.f a0 a1=some r) (hra0:Rw (Kd.int .i64) H F Aa0 a0) (hca0:na0≤ca0) (hna0:na0=a0.length):CallsH Tryd.prog 21 #[.slice Aa0 na0 ca0,iv a1] H w0 (F) (S21 F H r):=by
 refine Co C21 Tryd.func21 Tryd.ntmps21 ?_
 subst hna0
 unfold slices_Index_int.f at heq
 refine Sa 1<|Zd 1<|Sa 2<|Zd 3<|An 2 ?_
 exact Gt 0 [] (((slices_Index_int.l2_c (e1:=slices_Index_int.e1) (slices_Index_int.e1_c)) big) a0 _ _ a1 0 hra0 hca0 heq)
noncomputable def C6:Ctx:={ P:=Tryd.prog,f:=6,N:=74,c:=bodyOf Tryd.f6 }
def S6 (F:List Ch) (H0:Hp) (r:(List (List ByteArray)) × Int) (v:Value) (H:Hp) (cs:List Ch):Prop:=∃ (A0:Option Addr) (c0:Nat) (ch0:Ch),v=.tuple #[.slice A0 r.1.length c0,iv r.2]∧ch0::F=cs∧SlOwn (Kd.slice Kd.string) 41 H A0 c0 r.1 ch0
theorem trials_Shards.e2_c [GlobI 0 w0] {r:(List (List ByteArray)) × Int}:∀ (H:Hp) (v_out8:List (List ByteArray)) (Av_out8:Option Addr) (nv_out8 cv_out8:Nat) (hsv_out8:List Hd) (Jv_out8:List Ch) (chv_out8:Ch) ,SlOwn Kd.hd 41 H Av_out8 cv_out8 hsv_out8 chv_out8→Ns Kd.string 9 H hsv_out8 v_out8 Jv_out8→nv_out8=v_out8.length→trials_Shards.e2 v_out8=some r→RunH C6 (S6 F H0 r) H0 w0 [.c [1,1,1,1,1,1,1,1,0],.c [1,1,1,1,1,1,1,1,1]] [(8,.slice Av_out8 nv_out8 cv_out8)] H (chv_out8::(Jv_out8++F)):=by
 intro H v_out8 Av_out8 nv_out8 cv_out8 hsv_out8 Jv_out8 chv_out8 hov_out8 hNv_out8 hnv_out8 heq
 subst hnv_out8
 unfold trials_Shards.e2 at heq
 refine Sa 0<|Zd 3 ?_
 refine Hs.freezeJ 1 hNv_out8 (J:=Jv_out8) (F':=F) rfl (cs':=chv_out8::F) rfl (fun H hl hz1=>?_)
 replace hov_out8:=hov_out8.mono hl
 replace hNv_out8:=hNv_out8.mono hl
 have ho7:SlOwn (Kd.slice Kd.string) 41 H Av_out8 cv_out8 v_out8 chv_out8:=hov_out8.settle hz1
 obtain rfl:=Option.some.inj heq
 exact RunH.done (by kernel_rfl) Tryd.func6 (v:=.tuple #[.slice Av_out8 v_out8.length cv_out8,iv 0]) (by kernel_rfl) ⟨Av_out8,cv_out8,chv_out8,rfl,rfl,ho7⟩
theorem trials_Shards.l3_c [GlobI 0 w0] {r:(List (List ByteArray)) × Int} (e2:(List (List ByteArray))→Option ((List (List ByteArray)) × Int))
  (he2:∀ (H:Hp) (v_out8:List (List ByteArray)) (Av_out8:Option Addr) (nv_out8 cv_out8:Nat) (hsv_out8:List Hd) (Jv_out8:List Ch) (chv_out8:Ch) ,SlOwn Kd.hd 41 H Av_out8 cv_out8 hsv_out8 chv_out8→Ns Kd.string 9 H hsv_out8 v_out8 Jv_out8→nv_out8=v_out8.length→e2 v_out8=some r→RunH C6 (S6 F H0 r) H0 w0 [.c [1,1,1,1,1,1,1,1,0],.c [1,1,1,1,1,1,1,1,1]] [(8,.slice Av_out8 nv_out8 cv_out8)] H (chv_out8::(Jv_out8++F))):∀ (k:Nat),∀ (H:Hp) (v_out8 v_out8q:List (List ByteArray)) (Av_out8q:Option Addr) (nv_out8q cv_out8q:Nat) (hsv_out8q:List Hd) (Jv_out8q:List Ch) (chv_out8q:Ch) (v66:Int) ,SlOwn Kd.hd 41 H Av_out8q cv_out8q hsv_out8q chv_out8q→Ns Kd.string 9 H hsv_out8q v_out8q Jv_out8q→nv_out8q=v_out8q.length→trials_Shards.l3 e2 k v_out8 v_out8q v66=some r→RunH C6 (S6 F H0 r) H0 w0 [.c [1,1,1,1,1,1,1,0,1,0,0],.l [1,1,1,1,1,1,1,0,1,0,0],.b 2,.c [1,1,1,1,1,1,1,1]] [(8,.slice Av_out8q nv_out8q cv_out8q),(64,.slice Av_out8q nv_out8q cv_out8q),(65,iv (v_out8.length:Int)),(66,iv v66)] H (chv_out8q::(Jv_out8q++F)):=by
 intro k
 induction k with
 | zero=>intro H v_out8 v_out8q Av_out8q nv_out8q cv_out8q hsv_out8q Jv_out8q chv_out8q v66 hov_out8q hNv_out8q hnv_out8q heq; exact nomatch (show (none:Option ((List (List ByteArray)) × Int))=some r from heq)
 | succ k ihk =>
  intro H v_out8 v_out8q Av_out8q nv_out8q cv_out8q hsv_out8q Jv_out8q chv_out8q v66 hov_out8q hNv_out8q hnv_out8q heq
  subst hnv_out8q
  rw [trials_Shards.l3] at heq
  refine Sa 1<|Zd 1<|An 1 ?_
  refine Cb heq ?_ ?_
  ·intro hb3 heq
   refine An 4 ?_
   obtain ⟨x1,hx1,heq⟩:=bind_some heq
   obtain ⟨A2,c2,ch4,hh1,hj1,ho8⟩:=hNv_out8q.get hx1
   refine Hs.pull 1 (J:=Jv_out8q) (F':=F) rfl hj1 (cs':=ch4::chv_out8q::((List.set Jv_out8q v66.toNat none)++F)) rfl ?_
   refine Sa 0 ?_
   obtain ⟨ha1,cs1,hK1,hcc1⟩:=hov_out8q.get hh1
   obtain rfl:cs1=[.slice A2 x1.length c2]:=hK1
   refine Zw 3 [ny ha1 hh1 hNv_out8q.len.1.symm,el hcc1 1 0]<|Sa 0<|Zk 1 ?_
   obtain ⟨y5,hy5,heq⟩:=bind_some heq
   refine RgH.does (cal 71 (slices_Sort_string_c (a0:=x1) ho8 rfl hy5)) ?_
   rintro _ _ _ _ ⟨_,rfl,ch5,rfl,rfl,rfl,ho9,hn6⟩
   refine Dn ?_
   have hN2:Ns Kd.string 9 H hsv_out8q (List.set v_out8q v66.toNat y5) (List.set Jv_out8q v66.toNat ch5):=hNv_out8q.put hh1 ho9 hn6
   have hn7:v_out8q.length=((List.set v_out8q v66.toNat y5)).length:=by rw [List.length_set]
   refine Hs.back 1 (J:=Jv_out8q) (F':=F) (hNv_out8q.lt hx1) rfl (cs':=chv_out8q::((List.set Jv_out8q v66.toNat ch5)++F)) rfl ?_
   refine Sa 1<|Zd 2<|An 1 ?_
   exact Gt 0 [] (ihk _ v_out8 (List.set v_out8q v66.toNat y5) _ _ _ _ _ _ (w64 (v66+1)) hov_out8q hN2 hn7 heq)
  ·intro hb3 heq
   refine An 2 ?_
   exact Gt 0 [] (he2 _ v_out8q _ _ _ _ _ _ hov_out8q hNv_out8q rfl heq)
theorem trials_Shards.e1_c [GlobI 0 w0] {r:(List (List ByteArray)) × Int}:∀ (H:Hp) (v_out8:List (List ByteArray)) (Av_out8:Option Addr) (nv_out8 cv_out8:Nat) (hsv_out8:List Hd) (Jv_out8:List Ch) (chv_out8:Ch) ,SlOwn Kd.hd 41 H Av_out8 cv_out8 hsv_out8 chv_out8→Ns Kd.string 9 H hsv_out8 v_out8 Jv_out8→nv_out8=v_out8.length→trials_Shards.e1 v_out8=some r→RunH C6 (S6 F H0 r) H0 w0 [.c [1,1,1,1,1,1,1,0,0],.c [1,1,1,1,1,1,1,0,1],.c [1,1,1,1,1,1,1,1]] [(8,.slice Av_out8 nv_out8 cv_out8)] H (chv_out8::(Jv_out8++F)):=by
 intro H v_out8 Av_out8 nv_out8 cv_out8 hsv_out8 Jv_out8 chv_out8 hov_out8 hNv_out8 hnv_out8 heq
 subst hnv_out8
 unfold trials_Shards.e1 at heq
 refine Sa 0<|Zd 3<|An 2 ?_
 exact Gt 0 [] (((trials_Shards.l3_c (e2:=trials_Shards.e2) (trials_Shards.e2_c)) big) _ v_out8 v_out8 _ _ _ _ _ _ 0 hov_out8 hNv_out8 rfl heq)
theorem trials_Shards.l4_c [GlobI 0 w0] {r:(List (List ByteArray)) × Int} (e1:(List (List ByteArray))→Option ((List (List ByteArray)) × Int))
  (he1:∀ (H:Hp) (v_out8:List (List ByteArray)) (Av_out8:Option Addr) (nv_out8 cv_out8:Nat) (hsv_out8:List Hd) (Jv_out8:List Ch) (chv_out8:Ch) ,SlOwn Kd.hd 41 H Av_out8 cv_out8 hsv_out8 chv_out8→Ns Kd.string 9 H hsv_out8 v_out8 Jv_out8→nv_out8=v_out8.length→e1 v_out8=some r→RunH C6 (S6 F H0 r) H0 w0 [.c [1,1,1,1,1,1,1,0,0],.c [1,1,1,1,1,1,1,0,1],.c [1,1,1,1,1,1,1,1]] [(8,.slice Av_out8 nv_out8 cv_out8)] H (chv_out8::(Jv_out8++F))):∀ (k:Nat),∀ (H:Hp) (y3:List TestCase) (A1:Option Addr) (c1:Nat) (y4:(List TestCase)) (ch2:Ch) (v_out8:List (List ByteArray)) (Av_out8:Option Addr) (nv_out8 cv_out8:Nat) (hsv_out8:List Hd) (Jv_out8:List Ch) (chv_out8:Ch) (v_sum9:List Int) (Av_sum9:Option Addr) (nv_sum9 cv_sum9:Nat) (chv_sum9:Ch) (v34:Int) ,SlOwn kTestCase 40 H A1 c1 y4 ch2→y3.length=y4.length→SlOwn Kd.hd 41 H Av_out8 cv_out8 hsv_out8 chv_out8→Ns Kd.string 9 H hsv_out8 v_out8 Jv_out8→nv_out8=v_out8.length→SlOwn (Kd.int .i64) 3 H Av_sum9 cv_sum9 v_sum9 chv_sum9→nv_sum9=v_sum9.length→trials_Shards.l4 e1 k y3 y4 v_out8 v_sum9 v34=some r→RunH C6 (S6 F H0 r) H0 w0 [.c [1,1,1,1,1,1,0,1,0,0],.l [1,1,1,1,1,1,0,1,0,0],.b 0,.c [1,1,1,1,1,1,1]] [(8,.slice Av_out8 nv_out8 cv_out8),(9,.slice Av_sum9 nv_sum9 cv_sum9),(32,.slice A1 y3.length c1),(33,iv (y3.length:Int)),(34,iv v34)] H (chv_sum9::chv_out8::ch2::(Jv_out8++F)):=by
 intro k
 induction k with
 | zero=>intro H y3 A1 c1 y4 ch2 v_out8 Av_out8 nv_out8 cv_out8 hsv_out8 Jv_out8 chv_out8 v_sum9 Av_sum9 nv_sum9 cv_sum9 chv_sum9 v34 ho4 hn1 hov_out8 hNv_out8 hnv_out8 hov_sum9 hnv_sum9 heq; exact nomatch (show (none:Option ((List (List ByteArray)) × Int))=some r from heq)
 | succ k ihk =>
  intro H y3 A1 c1 y4 ch2 v_out8 Av_out8 nv_out8 cv_out8 hsv_out8 Jv_out8 chv_out8 v_sum9 Av_sum9 nv_sum9 cv_sum9 chv_sum9 v34 ho4 hn1 hov_out8 hNv_out8 hnv_out8 hov_sum9 hnv_sum9 heq
  subst hnv_out8
  subst hnv_sum9
  rw [trials_Shards.l4] at heq
  refine Sa 1<|Zd 1<|An 1 ?_
  refine Cb heq ?_ ?_
  ·intro hb4 heq
   refine Sa 4 ?_
   obtain ⟨x2,hx2,heq⟩:=bind_some heq
   obtain ⟨ha2,cs2,hK2,hcc2⟩:=ho4.get hx2
   obtain ⟨rfl⟩:=kTestCase_open hK2
   refine Zv 2 ([ny ha2 hx2 (show y3.length=_ from hn1)]++els hcc2 2) ?_
   refine RgH.does (DoesH.new (d:=11) (v:=fun g=>.pointer (some ⟨g,0,none⟩)) (o:=fun g=>.cells #[.string ByteArray.empty,iv 0] 40 (0,0)) (fun g=>by kernel_rfl)) ?_
   rintro _ _ _ _ ⟨g4,rfl,rfl,rfl⟩
   refine RgH.does (DoesH.store (k:=0) (g:=g4) (off:=0) (v:=.agg #[.string x2.Name,iv x2.Seconds]) (cells':=#[.string x2.Name,iv x2.Seconds]) (by kernel_rfl) rfl (by kernel_rfl) (by kernel_rfl)) ?_
   rintro _ _ _ _ ⟨rfl,rfl,rfl⟩
   refine RgH.nrm ?_
   refine Dn<|Sa 1<|Zk 2 ?_
   obtain ⟨y6,hy6,heq⟩:=bind_some heq
   refine RgH.does (cal 40 (slices_Min_int_c hy6 (hov_sum9.rw (.tail _ (.head _))) hov_sum9.cap rfl)) ?_
   rintro _ _ _ _ ⟨_,rfl,rfl,rfl,rfl⟩
   obtain ⟨y7,hy7,heq⟩:=bind_some heq
   refine RgH.does (cal 41 (slices_Index_int_c hy7 (hov_sum9.rw (.tail _ (.head _))) hov_sum9.cap rfl)) ?_
   rintro _ _ _ _ ⟨_,rfl,rfl,rfl,rfl⟩
   refine Zd 5 ?_
   obtain ⟨x3,hx3,heq⟩:=bind_some heq
   obtain ⟨A3,c3,ch6,hh2,hj2,ho10⟩:=hNv_out8.get hx3
   refine Hs.pull 4 (J:=Jv_out8) (F':=F) rfl hj2 (cs':=ch6::(some (g4,.cells #[.string x2.Name,iv x2.Seconds] 40 (0,0)))::chv_sum9::chv_out8::ch2::((List.set Jv_out8 y7.toNat none)++F)) rfl ?_
   refine Sd 4 23 [1,2] [3,3,3,3,3,3,3,3,3,3,0,1,3,3,3,3,3,3,3,3,1,3,2] ?_
   obtain ⟨ha3,cs3,hK3,hcc3⟩:=hov_out8.get hh2
   obtain rfl:cs3=[.slice A3 x3.length c3]:=hK3
   refine Zt [0,1,2,3,4,5,6] 16 [ny ha3 hh2 hNv_out8.len.1.symm] (Pk 5 [1,2,4]) ?_
   obtain ⟨ha4,cs4,hK4,hcc4⟩:=hov_out8.get hh2
   obtain rfl:cs4=[.slice A3 x3.length c3]:=hK4
   refine Zr [7] 15 [el hcc4 3 0] (Pk 5 [0,1,2,3,4]) (Pk 5 [1,2,4]) ?_
   obtain ⟨x4,hx4,heq⟩:=bind_some heq
   obtain ⟨ha5,cs5,hK5,hcc5⟩:=hov_sum9.get hx4
   obtain rfl:cs5=[iv x4]:=hK5
   refine Zt [8,9,12,13,14,15,16,17,18] 6 [bx 0 0,nx ha5 hx4,el hcc5 1 0,bx 0 1] (Pk 5 [1,2,4]) ?_
   refine Dz 10 (DoesH.new (d:=52) (v:=fun g=>.slice (some ⟨g,0,none⟩) 1 1) (o:=fun g=>.cells #[.string x2.Name] 9 (0,0)) (fun g=>by kernel_rfl)) ?_
   rintro _ _ _ _ ⟨g5,rfl,rfl,rfl⟩
   have ho11:SlOwn Kd.string 9 H (some ⟨g5,0,none⟩) 1 ([x2.Name]:List ByteArray) (some (g5,.cells #[.string x2.Name] 9 (0,0))):=SlOwn.lit (xs:=([x2.Name]:List ByteArray)) (by kernel_rfl) (Nat.le_of_ble_eq_true (by kernel_rfl)) (Kd.Rep.scalars rfl)
   refine ⟨fun _ w hh=>⟨fun _=>(Pk 6 [1,2,3,4,5]) w hh,fun _=>(Pk 6 [2,3,5]) w hh,(fun h=>by cases h)⟩,?_⟩
   obtain ⟨hn8,heq⟩:=guard?_some heq
   refine Dz 11 (DoesH.append (d:=53) (k:=1) (t:=41) (e:=9) (bytes:=16) (kd:=Kd.string) (n:=x3.length) (m:=1) (xs:=x3) (ys:=([x2.Name]:List ByteArray)) (A:=A3) (B:=(some ⟨g5,0,none⟩)) (c:=c3) (cB:=1) (by kernel_rfl) rfl rfl (by kernel_rfl) rfl ho10 (fun w hh=>ho11.rdb (hh.chin 0 rfl)) (room_le hn8) (by have:=room_le hn8; omega)) ?_
   rintro _ _ _ _ ⟨A4,c4,ch7,rfl,rfl,rfl,ho12⟩
   refine ⟨fun _ w hh=>⟨(fun h=>by cases h),fun _=>(Pk 6 [2,3,5]) w hh,(fun h=>by cases h)⟩,?_⟩
   refine DrH.nrm ?_
   obtain ⟨ha6,cs6,hK6,hcc6⟩:=hov_out8.get hh2
   obtain rfl:cs6=[.slice A3 x3.length c3]:=hK6
   refine Zt [19] 3 [ny ha6 hh2 hNv_out8.len.1.symm] (Pk 6 [2,3,5]) ?_
   obtain ⟨ha7,cs7,hK7,hcc7⟩:=hov_out8.get hh2
   obtain rfl:cs7=[.slice A3 x3.length c3]:=hK7
   refine Dz 20 (DoesH.storeEl (a:=((adr Av_out8).add (y7.toNat*1))) (k:=4) (kd:=Kd.hd) (c0:=[.slice A3 x3.length c3]) (x':=((A4,(x3++([x2.Name]:List ByteArray)).length,c4):Hd)) (o:=0) (ix:=y7) (v:=.slice A4 ((x3++([x2.Name]:List ByteArray)).length) c4) (by kernel_rfl) rfl hov_out8 hh2 (by kernel_rfl) hcc7 rfl (Nat.le_of_ble_eq_true (by kernel_rfl)) rfl) ?_
   rintro _ _ _ _ ⟨ch8,rfl,rfl,rfl,ho13⟩
   have hn9:v_out8.length=((List.set hsv_out8 y7.toNat ((A4,(x3++([x2.Name]:List ByteArray)).length,c4):Hd))).length:=by rw [List.length_set]; exact hNv_out8.len.1.symm
   refine ⟨fun _ w hh=>⟨(fun h=>by cases h),fun _=>(Pk 6 [2,3,5]) w hh,(fun h=>by cases h)⟩,?_⟩
   refine DrH.nrm ?_
   obtain ⟨ha8,cs8,hK8,hcc8⟩:=hov_sum9.get hx4
   obtain rfl:cs8=[iv x4]:=hK8
   refine Zt [21] 1 [nx ha8 hx4] (Pk 6 [2,3,5]) ?_
   obtain ⟨ha9,cs9,hK9,hcc9⟩:=hov_sum9.get hx4
   obtain rfl:cs9=[iv x4]:=hK9
   refine Dz 22 (DoesH.storeEl (a:=((adr Av_sum9).add (y7.toNat*1))) (k:=3) (kd:=(Kd.int .i64)) (c0:=[iv x4]) (x':=(w64 (x4+x2.Seconds))) (o:=0) (ix:=y7) (v:=iv (w64 (x4+x2.Seconds))) (by kernel_rfl) rfl hov_sum9 hx4 (by kernel_rfl) hcc9 rfl (Nat.le_of_ble_eq_true (by kernel_rfl)) rfl) ?_
   rintro _ _ _ _ ⟨ch9,rfl,rfl,rfl,ho14⟩
   have hn10:v_sum9.length=(v_sum9.set y7.toNat (w64 (x4+x2.Seconds))).length:=by rw [List.length_set]
   refine ⟨fun _ w hh=>⟨(fun h=>by cases h),(fun h=>absurd h (by decide)),(fun h=>by cases h)⟩,?_⟩
   refine DrH.nrm ?_
   refine DrH.done (by kernel_rfl) ?_
   refine Up 2 [1,0] ?_
   have hN3:Ns Kd.string 9 H (List.set hsv_out8 y7.toNat ((A4,(x3++([x2.Name]:List ByteArray)).length,c4):Hd)) (List.set v_out8 y7.toNat (x3++([x2.Name]:List ByteArray))) (List.set Jv_out8 y7.toNat ch7):=hNv_out8.set y7.toNat ho12 rfl
   have hn11:v_out8.length=((List.set v_out8 y7.toNat (x3++([x2.Name]:List ByteArray)))).length:=by rw [List.length_set]
   refine Hs.back 5 (J:=Jv_out8) (F':=F) (hNv_out8.lt hx3) rfl (cs':=(some (g5,.cells #[.string x2.Name] 9 (0,0)))::(some (g4,.cells #[.string x2.Name,iv x2.Seconds] 40 (0,0)))::ch9::ch8::ch2::((List.set Jv_out8 y7.toNat ch7)++F)) rfl ?_
   refine Sa 1<|Zd 2<|An 1 ?_
   exact Gt 2 [] (ihk _ y3 _ _ y4 _ (List.set v_out8 y7.toNat (x3++([x2.Name]:List ByteArray))) _ _ _ _ _ _ (v_sum9.set y7.toNat (w64 (x4+x2.Seconds))) _ _ _ _ (w64 (v34+1)) ho4 hn1 ho13 hN3 hn11 ho14 hn10 heq)
  ·intro hb4 heq
   refine An 3 ?_
   exact Gt 3 [1] (he1 _ v_out8 _ _ _ _ _ _ hov_out8 hNv_out8 rfl heq)
theorem trials_Shards_c [GlobI 0 w0] {a0:Test} {Aa0_1:Option Addr} {na0_1 ca0_1:Nat} {a1:Int} {r:(List (List ByteArray)) × Int} (heq:trials_Shards.f a0 a1=some r) (hra0_1:Rw kTestCase H0 F Aa0_1 a0.Cases) (hca0_1:na0_1≤ca0_1) (hna0_1:na0_1=a0.Cases.length):CallsH Tryd.prog 6 #[.agg #[.string a0.Name,.slice Aa0_1 na0_1 ca0_1],iv a1] H0 w0 (F) (S6 F H0 r):=by
 refine Co C6 Tryd.func6 Tryd.ntmps6 ?_
 subst hna0_1
 unfold trials_Shards.f at heq
 suffices key:∀ (H:Hp),Rw kTestCase H F Aa0_1 a0.Cases→RunH C6 (S6 F H0 r) H0 w0 [.c []] (argL 0 [.agg #[.string a0.Name,.slice Aa0_1 (a0.Cases.length) ca0_1],iv a1]) H (F) from key H0 hra0_1
 intro H hra0_1
 refine Sa 1 ?_
 refine RgH.does (DoesH.new (d:=2) (v:=fun g=>.pointer (some ⟨g,0,none⟩)) (o:=fun g=>.cells #[.string a0.Name,.slice Aa0_1 a0.Cases.length ca0_1] 24 (0,0)) (fun g=>by kernel_rfl)) ?_
 rintro _ _ _ _ ⟨g1,rfl,rfl,rfl⟩
 refine Zd 3<|Sa 2<|Zv 1 (bxs 0) ?_
 obtain ⟨y1,hy1,heq⟩:=bind_some heq
 refine RgH.does (cal 16 (trials_CheckTest_c hy1 (hra0_1.wk (fun _ h=>(.tail _ h))) hca0_1 rfl)) ?_
 rintro _ _ _ _ ⟨_,rfl,rfl,rfl,rfl⟩
 refine Zd 3<|Sa 1<|Zd 2 ?_
 refine Cb heq ?_ ?_
 ·intro hb1 heq
  refine Sa 1<|Zd 3<|RunH.nilc ?_
  have ho1:SlOwn (Kd.slice Kd.string) 41 H none 0 ([]:List (List ByteArray)) none:=SlOwn.nil
  obtain rfl:=Option.some.inj heq
  refine Up 2 [0] ?_
  exact RunH.done (by kernel_rfl) Tryd.func6 (v:=.tuple #[.slice none 0 0,iv y1]) (by kernel_rfl) ⟨none,0,none,rfl,rfl,ho1⟩
 ·intro hb1 heq
  refine Sa 3<|Zk 1 ?_
  obtain ⟨y2,hy2,heq⟩:=bind_some heq
  refine RgH.does (cal 21 (trials_within_c hy2 )) ?_
  rintro _ _ _ _ ⟨_,rfl,rfl,rfl,rfl⟩
  refine Zd 3 ?_
  refine Cb heq ?_ ?_
  ·intro hb2 heq
   refine Sa 1<|Zd 2<|RunH.nilc ?_
   have ho2:SlOwn (Kd.slice Kd.string) 41 H none 0 ([]:List (List ByteArray)) none:=SlOwn.nil
   obtain rfl:=Option.some.inj heq
   refine Up 2 [0] ?_
   exact RunH.done (by kernel_rfl) Tryd.func6 (v:=.tuple #[.slice none 0 0,iv 1]) (by kernel_rfl) ⟨none,0,none,rfl,rfl,ho2⟩
  ·intro hb2 heq
   refine Sa 2<|Zv 2 [bx 0 1] ?_
   obtain ⟨y3,hy3,heq⟩:=bind_some heq
   refine RgH.does (cal 25 (slices_Clone_TestCase_c (a0:=a0.Cases) (hra0_1.wk (fun _ h=>(.tail _ h))) hca0_1 rfl hy3)) ?_
   rintro _ _ _ _ ⟨_,rfl,A1,c1,ch1,rfl,rfl,rfl,ho3⟩
   refine Zd 4<|Sa 1<|Zk 1 ?_
   obtain ⟨y4,hy4,heq⟩:=bind_some heq
   refine RgH.does (cal 27 (slices_SortStableFunc_TestCase_c hy4 ho3 rfl)) ?_
   rintro _ _ _ _ ⟨_,rfl,ch2,rfl,rfl,rfl,ho4,hn1⟩
   refine Dn<|An 1<|Sd 0 6 [] [3,0,3,0,3,3]<|Zr [0,2] 4 [] (Pk 2 [0,1]) (Pk 2 [0,1]) ?_
   obtain ⟨hn2,heq⟩:=guard?_some heq
   simp only [Bool.and_eq_true,decide_eq_true_eq] at hn2
   refine Kr [7,28,30] [(7,.slice A1 y3.length c1),(28,iv a1),(30,iv a1)] ?_
   refine DrF.start [(3,31,some a1.toNat,zsO a1.toNat #[iv 0] 3)] (n:=3) (by kernel_rfl) ?_
   refine DrF.keep [7,28,30] (L':=[(7,.slice A1 y3.length c1),(28,iv a1),(30,iv a1)]) (by kernel_rfl) (by kernel_rfl) ?_
   obtain ⟨hn3,heq⟩:=guard?_some heq
   simp only [Bool.and_eq_true,decide_eq_true_eq] at hn3
   refine DrF.does1 (n:=2) (ls':=[true,true,true,false,false,false]) (by kernel_rfl) 1 ⟨mkMake (bytes:=8) (fun E=>by kernel_rfl) hn2.1 (by have:=room_le hn2.2; simpa using this) (by have:=room_le hn2.2; simp at this; omega),trivial⟩ (by kernel_rfl) (by kernel_rfl) rfl (fun w hh=>⟨(Pk 2 [0,1]) w hh,(Pk 2 [0,1]) w hh⟩) (fun fc1 fE1=>DoesH.makeSlice (d:=29) (e:=41) (bytes:=24) (kd:=Kd.hd) (zc:=#[.slice none 0 0]) (z:=((none,0,0):Hd)) (n:=a1) (by kernel_rfl) hn3.1 (by have:=room_le hn3.2; simpa using this) (by have:=room_le hn3.2; simp at this; omega) rfl (by decide)) ?_
   rintro fc1 fE1
   rintro _ _ _ _ ⟨g2,ch3,rfl,rfl,rfl,ho5⟩
   have hn4:((List.replicate a1.toNat ((none,0,0):Hd))).length=((List.replicate a1.toNat ([]:List ByteArray))).length:=by simp
   refine ⟨fun _ w hh=>⟨fun _=>(Pk 4 [2,3]) w hh,fun _=>(Pk 4 [2,3]) w hh,(fun h=>by cases h)⟩,[(29,.slice (some ⟨g2,0,none⟩) (((List.replicate a1.toNat ((none,0,0):Hd))).length) a1.toNat),(7,.slice A1 y3.length c1),(28,iv a1),(30,iv a1)],ch3::ch2::(some (g1,.cells #[.string a0.Name,.slice Aa0_1 a0.Cases.length ca0_1] 24 (0,0)))::F,rfl,(Pk 4 [1,0,2,3]),?_⟩
   refine DrF.run [4] (m:=1) (ls':=[true,true,true,false,true,false]) (vs:=[]) (evs:=[]) (L':=[(8,.slice (some ⟨g2,0,none⟩) (((List.replicate a1.toNat ((none,0,0):Hd))).length) a1.toNat),(29,.slice (some ⟨g2,0,none⟩) (((List.replicate a1.toNat ((none,0,0):Hd))).length) a1.toNat),(7,.slice A1 y3.length c1),(28,iv a1),(30,iv a1)]) (by kernel_rfl) (Pk 3 [1,2]) (Pk 2 [0,1]) (pats1 (fun E=>by kernel_rfl) (fun E=>by kernel_rfl)) (fun _ _=>trivial) (by kernel_rfl) ?_
   refine DrF.keep [7,8,30] (L':=[(7,.slice A1 y3.length c1),(8,.slice (some ⟨g2,0,none⟩) (((List.replicate a1.toNat ((none,0,0):Hd))).length) a1.toNat),(30,iv a1)]) (by kernel_rfl) (by kernel_rfl) ?_
   refine DrF.close1 (n:=1) (ls':=[true,true,true,true,true,false]) (by kernel_rfl) ⟨mkMake (bytes:=8) (fun E=>by kernel_rfl) hn2.1 (by have:=room_le hn2.2; simpa using this) (by have:=room_le hn2.2; simp at this; omega),trivial⟩ (by kernel_rfl) (by kernel_rfl) rfl (fun w hh=>⟨(Pk 3 [1,2]) w hh,(Pk 3 [1,2]) w hh⟩) ?_
   intro g3
   have ho6:SlOwn (Kd.int .i64) 3 H (some ⟨g3,0,none⟩) a1.toNat (List.replicate a1.toNat (0:Int)) (some (g3,zsO a1.toNat #[iv 0] 3)):=SlOwn.zeros rfl (by decide) (by have:=room_le hn2.2; simp at this; unfold maxLen; omega)
   have hn5:a1.toNat=(List.replicate a1.toNat (0:Int)).length:=by simp
   refine Zr [5] 0 [] (Pk 4 [2,3]) (Pk 2 [0,1]) ?_
   refine DrH.done (by kernel_rfl) ?_
   refine Hs.seg 4 (J:=(List.replicate a1.toNat (none:Ch))) (fun c hc=>(List.mem_replicate.1 hc).2) (cs':=(some (g3,zsO a1.toNat #[iv 0] 3))::ch3::ch2::(some (g1,.cells #[.string a0.Name,.slice Aa0_1 a0.Cases.length ca0_1] 24 (0,0)))::((List.replicate a1.toNat (none:Ch))++F)) rfl ?_
   have hN1:Ns Kd.string 9 H (List.replicate a1.toNat ((none,0,0):Hd)) (List.replicate a1.toNat ([]:List ByteArray)) (List.replicate a1.toNat (none:Ch)):=Ns.made _
   refine Sa 2<|Zd 3<|An 2 ?_
   exact Gt 4 [0,1,2] (((trials_Shards.l4_c (e1:=trials_Shards.e1) (trials_Shards.e1_c)) big) _ y3 _ _ y4 _ (List.replicate a1.toNat ([]:List ByteArray)) _ _ _ _ _ _ (List.replicate a1.toNat (0:Int)) _ _ _ _ 0 ho4 hn1 ho5 hN1 hn4 ho6 hn5 heq)
noncomputable def C24:Ctx:={ P:=Tryd.prog,f:=24,N:=15,c:=bodyOf Tryd.f24 }
def S24 (F:List Ch) (H0:Hp) (r:Bool) (v:Value) (H:Hp) (cs:List Ch):Prop:=H0=H∧v=.bool r∧F=cs
theorem smithyardref10_within_c [GlobI 0 w0] {a0 a1 a2:Int} {r:Bool} (heq:smithyardref10_within.f a0 a1 a2=some r):CallsH Tryd.prog 24 #[iv a0,iv a1,iv a2] H w0 (F) (S24 F H r):=by
 refine Co C24 Tryd.func24 Tryd.ntmps24 ?_
 unfold smithyardref10_within.f at heq
 refine Sa 1<|Zd 1<|An 1 ?_
 obtain ⟨t1,ht1,heq⟩:=bind_some heq
 have K1:RunH C24 (S24 F H r) H w0 [.c [1,1]] [(6,.bool t1)] H (F):=by
  obtain rfl:=Option.some.inj heq
  exact RunH.done (by kernel_rfl) Tryd.func24 (v:=.bool t1) (by kernel_rfl) ⟨rfl,rfl,rfl⟩
 replace heq:=ht1
 refine Sa 0<|Zk 4 ?_
 rcases bool_cases (decide (a1≤a0)) with hb1 | hb1
 ·replace heq:=bif_true hb1 heq
  refine Zs 10 (congrArg Value.bool hb1)<|Zk 9 ?_
  obtain rfl:=Option.some.inj heq
  refine Dn ?_
  exact Gt 0 [] (K1)
 ·replace heq:=bif_false hb1 heq
  refine Zs 10 (congrArg Value.bool hb1)<|Zk 9 ?_
  obtain rfl:=Option.some.inj heq
  refine Dn ?_
  exact Gt 0 [] (K1)
noncomputable def C44:Ctx:={ P:=Tryd.prog,f:=44,N:=51,c:=bodyOf Tryd.f44 }
def S44 (F:List Ch) (H0:Hp) (r:Bool) (v:Value) (H:Hp) (cs:List Ch):Prop:=H0=H∧v=.bool r∧F=cs
theorem smithyardref10_isPart.e1_c [GlobI 0 w0] {r:Bool}:∀ (a0:ByteArray) ,smithyardref10_isPart.e1 a0=some r→RunH C44 (S44 F H r) H w0 [.c [1,1,0],.c [1,1,1]] [(0,.string a0)] H (F):=by
 intro a0  heq
 unfold smithyardref10_isPart.e1 at heq
 obtain ⟨t1,ht1,heq⟩:=bind_some heq
 have K1:RunH C44 (S44 F H r) H w0 [.c [1,1,1]] [(2,.bool t1)] H (F):=by
  obtain rfl:=Option.some.inj heq
  exact RunH.done (by kernel_rfl) Tryd.func44 (v:=.bool t1) (by kernel_rfl) ⟨rfl,rfl,rfl⟩
 replace heq:=ht1
 refine Sa 0<|Zk 3 ?_
 rcases bool_cases (!sEq a0 ({ data:=#[] }:ByteArray)) with hb1 | hb1
 ·replace heq:=bif_true hb1 heq
  refine Zs 43 (congrArg Value.bool hb1)<|Zk 7 ?_
  rcases bool_cases (!sEq a0 ({ data:=#[46] }:ByteArray)) with hb2 | hb2
  ·replace heq:=bif_true hb2 heq
   refine Zs 47 (congrArg Value.bool hb2)<|Zk 11 ?_
   obtain rfl:=Option.some.inj heq
   refine Dn ?_
   exact Gt 0 [] (K1)
  ·replace heq:=bif_false hb2 heq
   refine Zs 47 (congrArg Value.bool hb2)<|Zk 11 ?_
   obtain rfl:=Option.some.inj heq
   refine Dn ?_
   exact Gt 0 [] (K1)
 ·replace heq:=bif_false hb1 heq
  refine Zs 43 (congrArg Value.bool hb1)<|Zk 11 ?_
  obtain rfl:=Option.some.inj heq
  refine Dn ?_
  exact Gt 0 [] (K1)
theorem smithyardref10_isPart.l2_c [GlobI 0 w0] {r:Bool} (e1:ByteArray→Option Bool)
  (he1:∀ (a0:ByteArray) ,e1 a0=some r→RunH C44 (S44 F H r) H w0 [.c [1,1,0],.c [1,1,1]] [(0,.string a0)] H (F)):∀ (k:Nat),∀ (a0:ByteArray) (v7:Int) ,smithyardref10_isPart.l2 e1 k a0 v7=some r→RunH C44 (S44 F H r) H w0 [.c [1,0,1,0,0],.l [1,0,1,0,0],.b 0,.c [1,1]] [(0,.string a0),(6,iv (a0.size:Int)),(7,iv v7)] H (F):=by
 intro k
 induction k with
 | zero=>intro a0 v7  heq; exact nomatch (show (none:Option Bool)=some r from heq)
 | succ k ihk =>
  intro a0 v7  heq
  rw [smithyardref10_isPart.l2] at heq
  refine Sa 1<|Zd 1<|An 1 ?_
  refine Cb heq ?_ ?_
  ·intro hb3 heq
   refine Sa 4<|Zd 2<|Sa 1 ?_
   obtain ⟨hn1,heq⟩:=guard?_some heq
   refine Zw 4 [n2 hn1]<|An 1 ?_
   obtain ⟨t2,ht2,heq⟩:=bind_some heq
   have K2:RunH C44 (S44 F H r) H w0 [.c [1,0,1,0,0,1,1,0,0,1,1,1],.b 1,.c [1,0,1,0,0,1,1,1],.l [1,0,1,0,0],.b 0,.c [1,1]] [(0,.string a0),(6,iv (a0.size:Int)),(7,iv v7),(39,.bool t2)] H (F):=by
    refine Cb heq ?_ ?_
    ·intro hb18 heq
     refine Sa 1<|Zd 1 ?_
     obtain rfl:=Option.some.inj heq
     exact RunH.done (by kernel_rfl) Tryd.func44 (v:=.bool false) (by kernel_rfl) ⟨rfl,rfl,rfl⟩
    ·intro hb18 heq
     refine Sa 2<|Zd 2<|An 1 ?_
     exact Gt 0 [] (ihk a0 (w64 (v7+1)) heq)
   replace heq:=ht2
   refine Sa 0<|Zk 3 ?_
   rcases bool_cases (decide ((bt a0 v7)<97)) with hb4 | hb4
   ·replace heq:=bif_true hb4 heq
    refine Zs 15 (congrArg Value.bool hb4)<|Zk 10 ?_
    rcases bool_cases (decide ((bt a0 v7)<65)) with hb5 | hb5
    ·replace heq:=bif_true hb5 heq
     refine Zs 22 (congrArg Value.bool hb5)<|Zk 18 ?_
     rcases bool_cases (decide ((bt a0 v7)<48)) with hb6 | hb6
     ·replace heq:=bif_true hb6 heq
      refine Zs 30 (congrArg Value.bool hb6)<|Zk 24 ?_
      obtain ⟨y1,hy1,heq⟩:=bind_some heq
      refine RgH.does (cal 37 (strings_IndexByte_c (a0:=({ data:=#[46,95,45,43] }:ByteArray)) (a1:=bt a0 v7)  hy1)) ?_
      rintro _ _ _ _ ⟨_,rfl,rfl,rfl,rfl⟩
      refine Zk 27 ?_
      obtain rfl:=Option.some.inj heq
      refine Dn ?_
      exact Gt 0 [] (K2)
     ·replace heq:=bif_false hb6 heq
      refine Zs 30 (congrArg Value.bool hb6)<|Zk 23 ?_
      rcases bool_cases (decide (57<(bt a0 v7))) with hb7 | hb7
      ·replace heq:=bif_true hb7 heq
       refine Zs 35 (congrArg Value.bool hb7)<|Zk 24 ?_
       obtain ⟨y2,hy2,heq⟩:=bind_some heq
       refine RgH.does (cal 37 (strings_IndexByte_c (a0:=({ data:=#[46,95,45,43] }:ByteArray)) (a1:=bt a0 v7)  hy2)) ?_
       rintro _ _ _ _ ⟨_,rfl,rfl,rfl,rfl⟩
       refine Zk 27 ?_
       obtain rfl:=Option.some.inj heq
       refine Dn ?_
       exact Gt 0 [] (K2)
      ·replace heq:=bif_false hb7 heq
       refine Zs 35 (congrArg Value.bool hb7)<|Zk 27 ?_
       obtain rfl:=Option.some.inj heq
       refine Dn ?_
       exact Gt 0 [] (K2)
    ·replace heq:=bif_false hb5 heq
     refine Zs 22 (congrArg Value.bool hb5)<|Zk 15 ?_
     rcases bool_cases (decide (90<(bt a0 v7))) with hb8 | hb8
     ·replace heq:=bif_true hb8 heq
      refine Zs 27 (congrArg Value.bool hb8)<|Zk 18 ?_
      rcases bool_cases (decide ((bt a0 v7)<48)) with hb9 | hb9
      ·replace heq:=bif_true hb9 heq
       refine Zs 30 (congrArg Value.bool hb9)<|Zk 24 ?_
       obtain ⟨y3,hy3,heq⟩:=bind_some heq
       refine RgH.does (cal 37 (strings_IndexByte_c (a0:=({ data:=#[46,95,45,43] }:ByteArray)) (a1:=bt a0 v7)  hy3)) ?_
       rintro _ _ _ _ ⟨_,rfl,rfl,rfl,rfl⟩
       refine Zk 27 ?_
       obtain rfl:=Option.some.inj heq
       refine Dn ?_
       exact Gt 0 [] (K2)
      ·replace heq:=bif_false hb9 heq
       refine Zs 30 (congrArg Value.bool hb9)<|Zk 23 ?_
       rcases bool_cases (decide (57<(bt a0 v7))) with hb10 | hb10
       ·replace heq:=bif_true hb10 heq
        refine Zs 35 (congrArg Value.bool hb10)<|Zk 24 ?_
        obtain ⟨y4,hy4,heq⟩:=bind_some heq
        refine RgH.does (cal 37 (strings_IndexByte_c (a0:=({ data:=#[46,95,45,43] }:ByteArray)) (a1:=bt a0 v7)  hy4)) ?_
        rintro _ _ _ _ ⟨_,rfl,rfl,rfl,rfl⟩
        refine Zk 27 ?_
        obtain rfl:=Option.some.inj heq
        refine Dn ?_
        exact Gt 0 [] (K2)
       ·replace heq:=bif_false hb10 heq
        refine Zs 35 (congrArg Value.bool hb10)<|Zk 27 ?_
        obtain rfl:=Option.some.inj heq
        refine Dn ?_
        exact Gt 0 [] (K2)
     ·replace heq:=bif_false hb8 heq
      refine Zs 27 (congrArg Value.bool hb8)<|Zk 27 ?_
      obtain rfl:=Option.some.inj heq
      refine Dn ?_
      exact Gt 0 [] (K2)
   ·replace heq:=bif_false hb4 heq
    refine Zs 15 (congrArg Value.bool hb4)<|Zk 7 ?_
    rcases bool_cases (decide (122<(bt a0 v7))) with hb11 | hb11
    ·replace heq:=bif_true hb11 heq
     refine Zs 19 (congrArg Value.bool hb11)<|Zk 10 ?_
     rcases bool_cases (decide ((bt a0 v7)<65)) with hb12 | hb12
     ·replace heq:=bif_true hb12 heq
      refine Zs 22 (congrArg Value.bool hb12)<|Zk 18 ?_
      rcases bool_cases (decide ((bt a0 v7)<48)) with hb13 | hb13
      ·replace heq:=bif_true hb13 heq
       refine Zs 30 (congrArg Value.bool hb13)<|Zk 24 ?_
       obtain ⟨y5,hy5,heq⟩:=bind_some heq
       refine RgH.does (cal 37 (strings_IndexByte_c (a0:=({ data:=#[46,95,45,43] }:ByteArray)) (a1:=bt a0 v7)  hy5)) ?_
       rintro _ _ _ _ ⟨_,rfl,rfl,rfl,rfl⟩
       refine Zk 27 ?_
       obtain rfl:=Option.some.inj heq
       refine Dn ?_
       exact Gt 0 [] (K2)
      ·replace heq:=bif_false hb13 heq
       refine Zs 30 (congrArg Value.bool hb13)<|Zk 23 ?_
       rcases bool_cases (decide (57<(bt a0 v7))) with hb14 | hb14
       ·replace heq:=bif_true hb14 heq
        refine Zs 35 (congrArg Value.bool hb14)<|Zk 24 ?_
        obtain ⟨y6,hy6,heq⟩:=bind_some heq
        refine RgH.does (cal 37 (strings_IndexByte_c (a0:=({ data:=#[46,95,45,43] }:ByteArray)) (a1:=bt a0 v7)  hy6)) ?_
        rintro _ _ _ _ ⟨_,rfl,rfl,rfl,rfl⟩
        refine Zk 27 ?_
        obtain rfl:=Option.some.inj heq
        refine Dn ?_
        exact Gt 0 [] (K2)
       ·replace heq:=bif_false hb14 heq
        refine Zs 35 (congrArg Value.bool hb14)<|Zk 27 ?_
        obtain rfl:=Option.some.inj heq
        refine Dn ?_
        exact Gt 0 [] (K2)
     ·replace heq:=bif_false hb12 heq
      refine Zs 22 (congrArg Value.bool hb12)<|Zk 15 ?_
      rcases bool_cases (decide (90<(bt a0 v7))) with hb15 | hb15
      ·replace heq:=bif_true hb15 heq
       refine Zs 27 (congrArg Value.bool hb15)<|Zk 18 ?_
       rcases bool_cases (decide ((bt a0 v7)<48)) with hb16 | hb16
       ·replace heq:=bif_true hb16 heq
        refine Zs 30 (congrArg Value.bool hb16)<|Zk 24 ?_
        obtain ⟨y7,hy7,heq⟩:=bind_some heq
        refine RgH.does (cal 37 (strings_IndexByte_c (a0:=({ data:=#[46,95,45,43] }:ByteArray)) (a1:=bt a0 v7)  hy7)) ?_
        rintro _ _ _ _ ⟨_,rfl,rfl,rfl,rfl⟩
        refine Zk 27 ?_
        obtain rfl:=Option.some.inj heq
        refine Dn ?_
        exact Gt 0 [] (K2)
       ·replace heq:=bif_false hb16 heq
        refine Zs 30 (congrArg Value.bool hb16)<|Zk 23 ?_
        rcases bool_cases (decide (57<(bt a0 v7))) with hb17 | hb17
        ·replace heq:=bif_true hb17 heq
         refine Zs 35 (congrArg Value.bool hb17)<|Zk 24 ?_
         obtain ⟨y8,hy8,heq⟩:=bind_some heq
         refine RgH.does (cal 37 (strings_IndexByte_c (a0:=({ data:=#[46,95,45,43] }:ByteArray)) (a1:=bt a0 v7)  hy8)) ?_
         rintro _ _ _ _ ⟨_,rfl,rfl,rfl,rfl⟩
         refine Zk 27 ?_
         obtain rfl:=Option.some.inj heq
         refine Dn ?_
         exact Gt 0 [] (K2)
        ·replace heq:=bif_false hb17 heq
         refine Zs 35 (congrArg Value.bool hb17)<|Zk 27 ?_
         obtain rfl:=Option.some.inj heq
         refine Dn ?_
         exact Gt 0 [] (K2)
      ·replace heq:=bif_false hb15 heq
       refine Zs 27 (congrArg Value.bool hb15)<|Zk 27 ?_
       obtain rfl:=Option.some.inj heq
       refine Dn ?_
       exact Gt 0 [] (K2)
    ·replace heq:=bif_false hb11 heq
     refine Zs 19 (congrArg Value.bool hb11)<|Zk 27 ?_
     obtain rfl:=Option.some.inj heq
     refine Dn ?_
     exact Gt 0 [] (K2)
  ·intro hb3 heq
   refine An 2 ?_
   exact Gt 0 [] (he1 a0 heq)
theorem smithyardref10_isPart_c [GlobI 0 w0] {a0:ByteArray} {r:Bool} (heq:smithyardref10_isPart.f a0=some r):CallsH Tryd.prog 44 #[.string a0] H w0 (F) (S44 F H r):=by
 refine Co C44 Tryd.func44 Tryd.ntmps44 ?_
 unfold smithyardref10_isPart.f at heq
 refine Sa 1<|Zd 1<|Sa 2<|Zd 3<|An 2 ?_
 exact Gt 0 [] (((smithyardref10_isPart.l2_c (e1:=smithyardref10_isPart.e1) (smithyardref10_isPart.e1_c)) big) a0 0 heq)
noncomputable def C28:Ctx:={ P:=Tryd.prog,f:=28,N:=19,c:=bodyOf Tryd.f28 }
def S28 (F:List Ch) (H0:Hp) (r:Bool) (v:Value) (H:Hp) (cs:List Ch):Prop:=H0=H∧v=.bool r∧F=cs
theorem smithyardref10_isPath.e1_c [GlobI 0 w0] {r:Bool}:∀ (a0:ByteArray) ,smithyardref10_isPath.e1 a0=some r→RunH C28 (S28 F H r) H w0 [.c [1,1,0],.c [1,1,1]] [(0,.string a0)] H (F):=by
 intro a0  heq
 unfold smithyardref10_isPath.e1 at heq
 refine Sa 0<|Zk 2 ?_
 obtain ⟨y2,hy2,heq⟩:=bind_some heq
 refine RgH.does (cal 18 (smithyardref10_within_c hy2 )) ?_
 rintro _ _ _ _ ⟨_,rfl,rfl,rfl,rfl⟩
 refine Zd 4 ?_
 obtain rfl:=Option.some.inj heq
 exact RunH.done (by kernel_rfl) Tryd.func28 (v:=.bool y2) (by kernel_rfl) ⟨rfl,rfl,rfl⟩
theorem smithyardref10_isPath.l2_c [GlobI 0 w0] {r:Bool} (e1:ByteArray→Option Bool)
  (he1:∀ (a0:ByteArray) ,e1 a0=some r→RunH C28 (S28 F H r) H w0 [.c [1,1,0],.c [1,1,1]] [(0,.string a0)] H (F)):∀ (k:Nat),∀ (a0:ByteArray) (y1:List ByteArray) (A1:Option Addr) (c1:Nat) (ch1:Ch) (v8:Int) ,SlOwn Kd.string 9 H A1 c1 y1 ch1→smithyardref10_isPath.l2 e1 k a0 y1 v8=some r→RunH C28 (S28 F H r) H w0 [.c [1,0,1,0,0],.l [1,0,1,0,0],.b 0,.c [1,1]] [(0,.string a0),(6,.slice A1 y1.length c1),(7,iv (y1.length:Int)),(8,iv v8)] H (ch1::F):=by
 intro k
 induction k with
 | zero=>intro a0 y1 A1 c1 ch1 v8 ho1 heq; exact nomatch (show (none:Option Bool)=some r from heq)
 | succ k ihk =>
  intro a0 y1 A1 c1 ch1 v8 ho1 heq
  rw [smithyardref10_isPath.l2] at heq
  refine Sa 1<|Zd 1<|An 1 ?_
  refine Cb heq ?_ ?_
  ·intro hb1 heq
   refine Sa 4 ?_
   obtain ⟨x1,hx1,heq⟩:=bind_some heq
   obtain ⟨ha1,cs1,hK1,hcc1⟩:=ho1.get hx1
   obtain rfl:cs1=[.string x1]:=hK1
   refine Zw 3 [nx ha1 hx1,el hcc1 0 0]<|Sa 1<|Zk 1 ?_
   obtain ⟨y3,hy3,heq⟩:=bind_some heq
   refine RgH.does (cal 13 (smithyardref10_isPart_c hy3 )) ?_
   rintro _ _ _ _ ⟨_,rfl,rfl,rfl,rfl⟩
   refine Zd 3 ?_
   refine Cb heq ?_ ?_
   ·intro hb2 heq
    refine Sa 1<|Zd 1 ?_
    obtain rfl:=Option.some.inj heq
    refine Up 1 [] ?_
    exact RunH.done (by kernel_rfl) Tryd.func28 (v:=.bool false) (by kernel_rfl) ⟨rfl,rfl,rfl⟩
   ·intro hb2 heq
    refine Sa 2<|Zd 2<|An 1 ?_
    exact Gt 0 [] (ihk a0 y1 _ _ _ (w64 (v8+1)) ho1 heq)
  ·intro hb1 heq
   refine An 2 ?_
   exact Gt 1 [] (he1 a0 heq)
theorem smithyardref10_isPath_c [GlobI 0 w0] {a0:ByteArray} {r:Bool} (heq:smithyardref10_isPath.f a0=some r):CallsH Tryd.prog 28 #[.string a0] H w0 (F) (S28 F H r):=by
 refine Co C28 Tryd.func28 Tryd.ntmps28 ?_
 unfold smithyardref10_isPath.f at heq
 refine Sa 1<|Zd 1<|Sa 2<|Zk 1 ?_
 obtain ⟨y1,hy1,heq⟩:=bind_some heq
 refine RgH.does (cal 6 (strings_Split_c (a0:=a0) (a1:=({ data:=#[47] }:ByteArray))  hy1)) ?_
 rintro _ _ _ _ ⟨_,rfl,A1,c1,ch1,rfl,rfl,rfl,ho1⟩
 refine Zd 4<|An 2 ?_
 exact Gt 0 [] (((smithyardref10_isPath.l2_c (e1:=smithyardref10_isPath.e1) (smithyardref10_isPath.e1_c)) big) a0 y1 _ _ _ 0 ho1 heq)
noncomputable def C29:Ctx:={ P:=Tryd.prog,f:=29,N:=50,c:=bodyOf Tryd.f29 }
def S29 (F:List Ch) (H0:Hp) (r:Bool) (v:Value) (H:Hp) (cs:List Ch):Prop:=H0=H∧v=.bool r∧F=cs
theorem smithyardref10_isWord.e1_c [GlobI 0 w0] {r:Bool}:smithyardref10_isWord.e1=some r→RunH C29 (S29 F H r) H w0 [.c [1,1,1,0],.c [1,1,1,1]] [] H (F):=by
 intro   heq
 unfold smithyardref10_isWord.e1 at heq
 refine Sa 0<|Zd 1 ?_
 obtain rfl:=Option.some.inj heq
 exact RunH.done (by kernel_rfl) Tryd.func29 (v:=.bool true) (by kernel_rfl) ⟨rfl,rfl,rfl⟩
theorem smithyardref10_isWord.l2_c [GlobI 0 w0] {r:Bool} (e1:Option Bool)
  (he1:e1=some r→RunH C29 (S29 F H r) H w0 [.c [1,1,1,0],.c [1,1,1,1]] [] H (F)):∀ (k:Nat),∀ (a0:ByteArray) (v21:Int) ,smithyardref10_isWord.l2 e1 k a0 v21=some r→RunH C29 (S29 F H r) H w0 [.c [1,1,0,1,0,0],.l [1,1,0,1,0,0],.b 0,.c [1,1,1]] [(0,.string a0),(20,iv (a0.size:Int)),(21,iv v21)] H (F):=by
 intro k
 induction k with
 | zero=>intro a0 v21  heq; exact nomatch (show (none:Option Bool)=some r from heq)
 | succ k ihk =>
  intro a0 v21  heq
  rw [smithyardref10_isWord.l2] at heq
  refine Sa 1<|Zd 1<|An 1 ?_
  refine Cb heq ?_ ?_
  ·intro hb4 heq
   refine Sa 4<|Zd 2<|Sa 1 ?_
   obtain ⟨hn3,heq⟩:=guard?_some heq
   refine Zw 4 [n2 hn3]<|An 1 ?_
   obtain ⟨t2,ht2,heq⟩:=bind_some heq
   have K2:RunH C29 (S29 F H r) H w0 [.c [1,1,0,1,0,0,1,1,0,0,1,1,1],.b 1,.c [1,1,0,1,0,0,1,1,1],.l [1,1,0,1,0,0],.b 0,.c [1,1,1]] [(0,.string a0),(20,iv (a0.size:Int)),(21,iv v21),(48,.bool t2)] H (F):=by
    refine Cb heq ?_ ?_
    ·intro hb15 heq
     refine Sa 1<|Zd 1 ?_
     obtain rfl:=Option.some.inj heq
     exact RunH.done (by kernel_rfl) Tryd.func29 (v:=.bool false) (by kernel_rfl) ⟨rfl,rfl,rfl⟩
    ·intro hb15 heq
     refine Sa 2<|Zd 2<|An 1 ?_
     exact Gt 0 [] (ihk a0 (w64 (v21+1)) heq)
   replace heq:=ht2
   refine Sa 0<|Zk 3 ?_
   rcases bool_cases (decide ((bt a0 v21)<97)) with hb5 | hb5
   ·replace heq:=bif_true hb5 heq
    refine Zs 29 (congrArg Value.bool hb5)<|Zk 10 ?_
    rcases bool_cases (decide ((bt a0 v21)<48)) with hb6 | hb6
    ·replace heq:=bif_true hb6 heq
     refine Zs 36 (congrArg Value.bool hb6)<|Zk 19 ?_
     rcases bool_cases ((bt a0 v21) != 45) with hb7 | hb7
     ·replace heq:=bif_true hb7 heq
      refine Zs 45 (congrArg Value.bool hb7)<|Zk 22 ?_
      obtain rfl:=Option.some.inj heq
      refine Dn ?_
      exact Gt 0 [] (K2)
     ·replace heq:=bif_false hb7 heq
      refine Zs 45 (congrArg Value.bool hb7)<|Zk 22 ?_
      obtain rfl:=Option.some.inj heq
      refine Dn ?_
      exact Gt 0 [] (K2)
    ·replace heq:=bif_false hb6 heq
     refine Zs 36 (congrArg Value.bool hb6)<|Zk 15 ?_
     rcases bool_cases (decide (57<(bt a0 v21))) with hb8 | hb8
     ·replace heq:=bif_true hb8 heq
      refine Zs 41 (congrArg Value.bool hb8)<|Zk 19 ?_
      rcases bool_cases ((bt a0 v21) != 45) with hb9 | hb9
      ·replace heq:=bif_true hb9 heq
       refine Zs 45 (congrArg Value.bool hb9)<|Zk 22 ?_
       obtain rfl:=Option.some.inj heq
       refine Dn ?_
       exact Gt 0 [] (K2)
      ·replace heq:=bif_false hb9 heq
       refine Zs 45 (congrArg Value.bool hb9)<|Zk 22 ?_
       obtain rfl:=Option.some.inj heq
       refine Dn ?_
       exact Gt 0 [] (K2)
     ·replace heq:=bif_false hb8 heq
      refine Zs 41 (congrArg Value.bool hb8)<|Zk 22 ?_
      obtain rfl:=Option.some.inj heq
      refine Dn ?_
      exact Gt 0 [] (K2)
   ·replace heq:=bif_false hb5 heq
    refine Zs 29 (congrArg Value.bool hb5)<|Zk 7 ?_
    rcases bool_cases (decide (122<(bt a0 v21))) with hb10 | hb10
    ·replace heq:=bif_true hb10 heq
     refine Zs 33 (congrArg Value.bool hb10)<|Zk 10 ?_
     rcases bool_cases (decide ((bt a0 v21)<48)) with hb11 | hb11
     ·replace heq:=bif_true hb11 heq
      refine Zs 36 (congrArg Value.bool hb11)<|Zk 19 ?_
      rcases bool_cases ((bt a0 v21) != 45) with hb12 | hb12
      ·replace heq:=bif_true hb12 heq
       refine Zs 45 (congrArg Value.bool hb12)<|Zk 22 ?_
       obtain rfl:=Option.some.inj heq
       refine Dn ?_
       exact Gt 0 [] (K2)
      ·replace heq:=bif_false hb12 heq
       refine Zs 45 (congrArg Value.bool hb12)<|Zk 22 ?_
       obtain rfl:=Option.some.inj heq
       refine Dn ?_
       exact Gt 0 [] (K2)
     ·replace heq:=bif_false hb11 heq
      refine Zs 36 (congrArg Value.bool hb11)<|Zk 15 ?_
      rcases bool_cases (decide (57<(bt a0 v21))) with hb13 | hb13
      ·replace heq:=bif_true hb13 heq
       refine Zs 41 (congrArg Value.bool hb13)<|Zk 19 ?_
       rcases bool_cases ((bt a0 v21) != 45) with hb14 | hb14
       ·replace heq:=bif_true hb14 heq
        refine Zs 45 (congrArg Value.bool hb14)<|Zk 22 ?_
        obtain rfl:=Option.some.inj heq
        refine Dn ?_
        exact Gt 0 [] (K2)
       ·replace heq:=bif_false hb14 heq
        refine Zs 45 (congrArg Value.bool hb14)<|Zk 22 ?_
        obtain rfl:=Option.some.inj heq
        refine Dn ?_
        exact Gt 0 [] (K2)
      ·replace heq:=bif_false hb13 heq
       refine Zs 41 (congrArg Value.bool hb13)<|Zk 22 ?_
       obtain rfl:=Option.some.inj heq
       refine Dn ?_
       exact Gt 0 [] (K2)
    ·replace heq:=bif_false hb10 heq
     refine Zs 33 (congrArg Value.bool hb10)<|Zk 22 ?_
     obtain rfl:=Option.some.inj heq
     refine Dn ?_
     exact Gt 0 [] (K2)
  ·intro hb4 heq
   refine An 2 ?_
   exact Gt 0 [] (he1 heq)
theorem smithyardref10_isWord_c [GlobI 0 w0] {a0:ByteArray} {r:Bool} (heq:smithyardref10_isWord.f a0=some r):CallsH Tryd.prog 29 #[.string a0] H w0 (F) (S29 F H r):=by
 refine Co C29 Tryd.func29 Tryd.ntmps29 ?_
 unfold smithyardref10_isWord.f at heq
 refine Sa 1<|Zd 1<|An 2 ?_
 obtain ⟨t1,ht1,heq⟩:=bind_some heq
 have K1:RunH C29 (S29 F H r) H w0 [.c [1,0,1],.c [1,1]] [(0,.string a0),(18,.bool t1)] H (F):=by
  refine Cb heq ?_ ?_
  ·intro hb3 heq
   refine Sa 1<|Zd 1 ?_
   obtain rfl:=Option.some.inj heq
   exact RunH.done (by kernel_rfl) Tryd.func29 (v:=.bool false) (by kernel_rfl) ⟨rfl,rfl,rfl⟩
  ·intro hb3 heq
   refine Sa 3<|Zd 3<|An 2 ?_
   exact Gt 0 [] (((smithyardref10_isWord.l2_c (e1:=smithyardref10_isWord.e1) (smithyardref10_isWord.e1_c)) big) a0 0 heq)
 replace heq:=ht1
 refine Sa 0<|Zk 2 ?_
 obtain ⟨y1,hy1,heq⟩:=bind_some heq
 refine RgH.does (cal 7 (smithyardref10_within_c hy1 )) ?_
 rintro _ _ _ _ ⟨_,rfl,rfl,rfl,rfl⟩
 refine Zk 5 ?_
 rcases bool_cases (!y1) with hb1 | hb1
 ·replace heq:=bif_true hb1 heq
  refine Zs 9 (congrArg Value.bool hb1)<|Zk 14 ?_
  obtain rfl:=Option.some.inj heq
  refine Dn ?_
  exact Gt 0 [] (K1)
 ·replace heq:=bif_false hb1 heq
  refine Zs 9 (congrArg Value.bool hb1) ?_
  obtain ⟨hn1,heq⟩:=guard?_some heq
  refine Zv 10 [n2 hn1] ?_
  rcases bool_cases (decide ((bt a0 0)<97)) with hb2 | hb2
  ·replace heq:=bif_true hb2 heq
   refine Zs 14 (congrArg Value.bool hb2)<|Zk 14 ?_
   obtain rfl:=Option.some.inj heq
   refine Dn ?_
   exact Gt 0 [] (K1)
  ·replace heq:=bif_false hb2 heq
   refine Zs 14 (congrArg Value.bool hb2) ?_
   obtain ⟨hn2,heq⟩:=guard?_some heq
   refine Zv 14 [n2 hn2] ?_
   obtain rfl:=Option.some.inj heq
   refine Dn ?_
   exact Gt 0 [] (K1)
noncomputable def C9:Ctx:={ P:=Tryd.prog,f:=9,N:=54,c:=bodyOf Tryd.f9 }
def S9 (F:List Ch) (H0:Hp) (r:Int) (v:Value) (H:Hp) (cs:List Ch):Prop:=H0=H∧v=iv r∧F=cs
theorem smithyardref10_CheckTest.e1_c [GlobI 0 w0] {r:Int}:smithyardref10_CheckTest.e1=some r→RunH C9 (S9 F H r) H w0 [.c [1,1,1,0],.c [1,1,1,1]] [] H (F):=by
 intro   heq
 unfold smithyardref10_CheckTest.e1 at heq
 refine Sa 0<|Zd 1 ?_
 obtain rfl:=Option.some.inj heq
 exact RunH.done (by kernel_rfl) Tryd.func9 (v:=iv 0) (by kernel_rfl) ⟨rfl,rfl,rfl⟩
theorem smithyardref10_CheckTest.l2_c [GlobI 0 w0] {r:Int} (e1:Option Int)
  (he1:e1=some r→RunH C9 (S9 F H r) H w0 [.c [1,1,1,0],.c [1,1,1,1]] [] H (F)):∀ (k:Nat),∀ (a0:Test) (Aa0_1:Option Addr) (ca0_1 g1:Nat) (v23:Int) ,Rw kTestCase H F Aa0_1 a0.Cases→a0.Cases.length≤ca0_1→smithyardref10_CheckTest.l2 e1 k a0 v23=some r→RunH C9 (S9 F H r) H w0 [.c [1,1,0,1,0,0],.l [1,1,0,1,0,0],.b 1,.c [1,1,1]] [(1,pg g1 0),(21,.slice Aa0_1 a0.Cases.length ca0_1),(22,iv (a0.Cases.length:Int)),(23,iv v23)] H ((some (g1,.cells #[.string a0.Name,.slice Aa0_1 a0.Cases.length ca0_1] 24 (0,0)))::F):=by
 intro k
 induction k with
 | zero=>intro a0 Aa0_1 ca0_1 g1 v23 hra0_1 hca0_1 heq; exact nomatch (show (none:Option Int)=some r from heq)
 | succ k ihk =>
  intro a0 Aa0_1 ca0_1 g1 v23 hra0_1 hca0_1 heq
  rw [smithyardref10_CheckTest.l2] at heq
  refine Sa 1<|Zd 1<|An 1 ?_
  refine Cb heq ?_ ?_
  ·intro hb4 heq
   refine Sa 4 ?_
   obtain ⟨x1,hx1,heq⟩:=bind_some heq
   obtain ⟨ha1,cs1,hK1,hcc1⟩:=hra0_1.get hx1
   obtain ⟨rfl⟩:=kTestCase_open hK1
   refine Zv 3 ([nx ha1 hx1]++ers hcc1 1) ?_
   refine RgH.does (DoesH.new (d:=4) (v:=fun g=>.pointer (some ⟨g,0,none⟩)) (o:=fun g=>.cells #[.string ByteArray.empty,iv 0] 40 (0,0)) (fun g=>by kernel_rfl)) ?_
   rintro _ _ _ _ ⟨g2,rfl,rfl,rfl⟩
   refine Zk 5 ?_
   refine RgH.does (DoesH.store (k:=0) (g:=g2) (off:=0) (v:=.agg #[.string x1.Name,iv x1.Seconds]) (cells':=#[.string x1.Name,iv x1.Seconds]) (by kernel_rfl) rfl (by kernel_rfl) (by kernel_rfl)) ?_
   rintro _ _ _ _ ⟨rfl,rfl,rfl⟩
   refine RgH.nrm ?_
   refine Dn<|Sa 2<|Zv 2 [bx 0 0] ?_
   obtain ⟨y2,hy2,heq⟩:=bind_some heq
   refine RgH.does (cal 31 (smithyardref10_isWord_c hy2 )) ?_
   rintro _ _ _ _ ⟨_,rfl,rfl,rfl,rfl⟩
   refine Zd 5 ?_
   refine Cb heq ?_ ?_
   ·intro hb5 heq
    refine Sa 1<|Zd 1 ?_
    obtain rfl:=Option.some.inj heq
    refine Up 2 [] ?_
    exact RunH.done (by kernel_rfl) Tryd.func9 (v:=iv 5) (by kernel_rfl) ⟨rfl,rfl,rfl⟩
   ·intro hb5 heq
    refine Sa 1<|Zv 2 [bx 0 1] ?_
    obtain ⟨y3,hy3,heq⟩:=bind_some heq
    refine RgH.does (cal 36 (smithyardref10_within_c hy3 )) ?_
    rintro _ _ _ _ ⟨_,rfl,rfl,rfl,rfl⟩
    refine Zd 5 ?_
    refine Cb heq ?_ ?_
    ·intro hb6 heq
     refine Sa 1<|Zd 1 ?_
     obtain rfl:=Option.some.inj heq
     refine Up 2 [] ?_
     exact RunH.done (by kernel_rfl) Tryd.func9 (v:=iv 1) (by kernel_rfl) ⟨rfl,rfl,rfl⟩
    ·intro hb6 heq
     refine An 1 ?_
     obtain ⟨t1,ht1,heq⟩:=bind_some heq
     have K3:RunH C9 (S9 F H r) H w0 [.c [1,1,0,1,0,0,1,1,0,0,1,0,1,1,1,1,1],.b 3,.b 2,.c [1,1,0,1,0,0,1,1,1],.l [1,1,0,1,0,0],.b 1,.c [1,1,1]] [(1,pg g1 0),(21,.slice Aa0_1 a0.Cases.length ca0_1),(22,iv (a0.Cases.length:Int)),(23,iv v23),(38,.bool t1)] H ((some (g1,.cells #[.string a0.Name,.slice Aa0_1 a0.Cases.length ca0_1] 24 (0,0)))::F):=by
      refine Cb heq ?_ ?_
      ·intro hb8 heq
       refine Sa 1<|Zd 1 ?_
       obtain rfl:=Option.some.inj heq
       refine Up 1 [] ?_
       exact RunH.done (by kernel_rfl) Tryd.func9 (v:=iv 8) (by kernel_rfl) ⟨rfl,rfl,rfl⟩
      ·intro hb8 heq
       refine Sa 3<|Zd 2<|An 1 ?_
       exact Gt 0 [] (ihk a0 _ _ _ (w64 (v23+1)) hra0_1 hca0_1 heq)
     replace heq:=ht1
     refine Sd 0 15 [] [3,3,3,3,3,3,3,3,3,3,3,3,3,3,3]<|Zr [0,1,2] 12 [] (Pk 2 [0,1]) (Pk 2 [0,1]) ?_
     rcases bool_cases (decide (0<v23)) with hb7 | hb7
     ·replace heq:=bif_true hb7 heq
      refine Zu 41 (congrArg Value.bool hb7) ?_
      obtain ⟨x2,hx2,heq⟩:=bind_some heq
      obtain ⟨ha2,cs2,hK2,hcc2⟩:=hra0_1.get hx2
      obtain ⟨rfl⟩:=kTestCase_open hK2
      refine Zr [3,4,5,6,7,8,9,10,11,12,13,14] 0 [bx 0 0,bx 1 1,nx ha2 hx2,er hcc2 2 0] (Pk 2 [0,1]) (Pk 2 [0,1]) ?_
      obtain rfl:=Option.some.inj heq
      refine DrH.done (by kernel_rfl) ?_
      exact Gt 1 [] (K3)
     ·replace heq:=bif_false hb7 heq
      refine Zu 41 (congrArg Value.bool hb7)<|Zr [3,4,5,6,7,8,9,10,11,12,13,14] 0 [] (Pk 2 [0,1]) (Pk 2 [0,1]) ?_
      obtain rfl:=Option.some.inj heq
      refine DrH.done (by kernel_rfl) ?_
      exact Gt 1 [] (K3)
  ·intro hb4 heq
   refine An 2 ?_
   exact Gt 1 [] (he1 heq)
theorem smithyardref10_CheckTest_c [GlobI 0 w0] {a0:Test} {Aa0_1:Option Addr} {na0_1 ca0_1:Nat} {r:Int} (heq:smithyardref10_CheckTest.f a0=some r) (hra0_1:Rw kTestCase H F Aa0_1 a0.Cases) (hca0_1:na0_1≤ca0_1) (hna0_1:na0_1=a0.Cases.length):CallsH Tryd.prog 9 #[.agg #[.string a0.Name,.slice Aa0_1 na0_1 ca0_1]] H w0 (F) (S9 F H r):=by
 refine Co C9 Tryd.func9 Tryd.ntmps9 ?_
 subst hna0_1
 unfold smithyardref10_CheckTest.f at heq
 refine Sa 1 ?_
 refine RgH.does (DoesH.new (d:=1) (v:=fun g=>.pointer (some ⟨g,0,none⟩)) (o:=fun g=>.cells #[.string a0.Name,.slice Aa0_1 a0.Cases.length ca0_1] 24 (0,0)) (fun g=>by kernel_rfl)) ?_
 rintro _ _ _ _ ⟨g1,rfl,rfl,rfl⟩
 refine Zd 2<|Sa 3<|Zv 2 [bx 0 0] ?_
 obtain ⟨y1,hy1,heq⟩:=bind_some heq
 refine RgH.does (cal 8 (smithyardref10_isPath_c hy1 )) ?_
 rintro _ _ _ _ ⟨_,rfl,rfl,rfl,rfl⟩
 refine Zd 5 ?_
 refine Cb heq ?_ ?_
 ·intro hb1 heq
  refine Sa 1<|Zd 1 ?_
  obtain rfl:=Option.some.inj heq
  refine Up 1 [] ?_
  exact RunH.done (by kernel_rfl) Tryd.func9 (v:=iv 5) (by kernel_rfl) ⟨rfl,rfl,rfl⟩
 ·intro hb1 heq
  refine Sa 1<|Zw 5 [bx 0 1] ?_
  refine Cb heq ?_ ?_
  ·intro hb2 heq
   refine Sa 1<|Zd 1 ?_
   obtain rfl:=Option.some.inj heq
   refine Up 1 [] ?_
   exact RunH.done (by kernel_rfl) Tryd.func9 (v:=iv 9) (by kernel_rfl) ⟨rfl,rfl,rfl⟩
  ·intro hb2 heq
   refine Sa 1<|Zw 5 [bx 0 1] ?_
   refine Cb heq ?_ ?_
   ·intro hb3 heq
    refine Sa 1<|Zd 1 ?_
    obtain rfl:=Option.some.inj heq
    refine Up 1 [] ?_
    exact RunH.done (by kernel_rfl) Tryd.func9 (v:=iv 2) (by kernel_rfl) ⟨rfl,rfl,rfl⟩
   ·intro hb3 heq
    refine Sa 4<|Zw 4 [bx 0 1]<|An 2 ?_
    exact Gt 0 [] (((smithyardref10_CheckTest.l2_c (e1:=smithyardref10_CheckTest.e1) (smithyardref10_CheckTest.e1_c)) big) a0 _ _ _ 0 hra0_1 hca0_1 heq)
noncomputable def C25:Ctx:={ P:=Tryd.prog,f:=25,N:=95,c:=bodyOf Tryd.f25 }
def S25 (F:List Ch) (H0:Hp) (r:List TestCase) (v:Value) (H:Hp) (cs:List Ch):Prop:=∃ (A0:Option Addr) (c0:Nat) (ch0:Ch),H0=H∧v=.slice A0 r.length c0∧ch0::F=cs∧SlOwn kTestCase 40 H A0 c0 r ch0
theorem slices_Insert_TestCase_c [GlobI 0 w0] {a0:List TestCase} {Aa0:Option Addr} {na0 ca0:Nat} {cha0:Ch} {a1:Int} {a2:List TestCase} {Aa2:Option Addr} {na2 ca2:Nat} {cha2:Ch} {r:List TestCase} (hoa0:SlOwn kTestCase 40 H Aa0 ca0 a0 cha0) (hna0:na0=a0.length) (hoa2:SlOwn kTestCase 40 H Aa2 ca2 a2 cha2) (hna2:na2=a2.length) (heq:slices_Insert_TestCase.f a0 a1 a2=some r):CallsH Tryd.prog 25 #[.slice Aa0 na0 ca0,iv a1,.slice Aa2 na2 ca2] H w0 (cha0::cha2::F) (S25 F H r):=by
 refine calls_of_runH (F:=C25) Tryd.func25 (by kernel_rfl) Tryd.ntmps25 (args:=[.slice Aa0 na0 ca0,iv a1,.slice Aa2 na2 ca2]) (by kernel_rfl) ?_
 subst hna0 hna2
 unfold slices_Insert_TestCase.f at heq
 obtain ⟨hn,heq⟩:=guard?_some heq
 obtain rfl:=Option.some.inj heq
 simp only [Bool.and_eq_true,decide_eq_true_eq] at hn
 obtain ⟨h0,h1,h2,h3⟩:=hn
 have h3:=room_le h3
 obtain ⟨I,rfl⟩:∃ I:Nat,a1=(I:Int):=⟨a1.toNat,by omega⟩
 have hI:I≤a0.length:=by omega
 have hbig:a0.length+a2.length≤140737490452480:=by
  have:(a0.length+a2.length)*1≤(a0.length+a2.length)*24:=Nat.mul_le_mul_left _ (by omega)
  omega
 have hw1:w64 ((a0.length:Int)+(a2.length:Int))=((a0.length+a2.length:Nat):Int):=by unfold w64; rw [IntKind.wrap_i64]; omega
 have hw2:w64 ((I:Int)+(a2.length:Int))=((I+a2.length:Nat):Int):=by unfold w64; rw [IntKind.wrap_i64]; omega
 have hw3:w64 (((a0.length+a2.length:Nat):Int) - (I:Int))=((a0.length+a2.length - I:Nat):Int):=by rw [show ((a0.length+a2.length:Nat):Int) - (I:Int)=((a0.length+a2.length - I:Nat):Int) by omega]; unfold w64; rw [IntKind.wrap_i64]; omega
 simp only [Int.toNat_natCast]
 refine An 1<|Rr<|Rd 1 [0,1,2] [(0,.slice Aa0 a0.length ca0),(1,iv (I:Int)),(2,.slice Aa2 a2.length ca2)]<|An 1<|Rr<|Rw' 3 [0,1,2] [] [.need ((0:Int)≤(I:Int)∧(I:Int)≤((a0.length:Nat):Int))] [(0,.slice Aa0 a0.length ca0),(1,iv (I:Int)),(2,.slice Aa2 a2.length ca2)] (fun w hh=>⟨h0,h1⟩)<|An 1<|Rr<|Rd 3 [0,1,2,7] [(0,.slice Aa0 a0.length ca0),(1,iv (I:Int)),(2,.slice Aa2 a2.length ca2),(7,iv (a2.length:Int))]<|An 2<|Rr<|Rd 2 [0,1,2,7,16] [(0,.slice Aa0 a0.length ca0),(1,iv (I:Int)),(2,.slice Aa2 a2.length ca2),(7,iv (a2.length:Int)),(16,.bool ((a2.length:Int) == 0))]<|Cf ((a2.length:Int) == 0) (beq_eq_false_iff_ne.2 (by omega))<|An 2<|Rr<|Rd 3 [0,1,2,7,8] [(0,.slice Aa0 a0.length ca0),(1,iv (I:Int)),(2,.slice Aa2 a2.length ca2),(7,iv (a2.length:Int)),(8,iv (a0.length:Int))]<|An 2<|Rr<|Rd 3 [0,1,2,7,8,22] [(0,.slice Aa0 a0.length ca0),(1,iv (I:Int)),(2,.slice Aa2 a2.length ca2),(7,iv (a2.length:Int)),(8,iv (a0.length:Int)),(22,.bool ((I:Int) == (a0.length:Int)))] ?_
 rcases bool_cases ((I:Int) == (a0.length:Int)) with hb | hb
 ·have hIn:I=a0.length:=by have:=eq_of_beq hb; omega
  have e:a0.take I++a2++a0.drop I=a0++a2:=by rw [hIn]; simp
  rw [e]
  refine Ct ((I:Int) == (a0.length:Int)) hb<|An 1<|Rr<|Rk 2 [23,24] [(23,.slice Aa0 a0.length ca0),(24,.slice Aa2 a2.length ca2)] ?_
  refine RgH.does (DoesH.append (d:=25) (k:=0) (t:=22) (e:=40) (bytes:=24) (kd:=kTestCase) (n:=a0.length) (m:=a2.length) (xs:=a0) (ys:=a2) (A:=Aa0) (B:=Aa2) (c:=ca0) (cB:=ca2) (by kernel_rfl) rfl rfl (by kernel_rfl) rfl hoa0 (fun w hh=>hoa2.rdb (hh.chin 1 rfl)) h3 (by omega)) ?_
  rintro _ _ _ _ ⟨A1,c1,ch1,rfl,rfl,rfl,ho1⟩
  refine Rd 4 [6] [(6,.slice A1 (a0++a2).length c1)] ?_
  refine RunH.pick 2 [0] (cs':=ch1::F) (by kernel_rfl) rfl ?_
  exact RunH.done (by kernel_rfl) Tryd.func25 (v:=.slice A1 (a0++a2).length c1) (by kernel_rfl) ⟨A1,c1,ch1,rfl,rfl,rfl,ho1⟩
 ·have hIn:I<a0.length:=by have:=beq_eq_false_iff_ne.1 hb; omega
  have hx:a0≠[]:=by intro h; subst h; simp at hIn
  have hy:a2≠[]:=by intro h; subst h; simp at h2
  have hrl:(a0.take I++a2++a0.drop I).length=a0.length+a2.length:=by simp; omega
  rcases hoa0 with ⟨h,_⟩ | ⟨b,off,cells,rfl,rfl,k3,k4,k5,k6⟩
  ·exact absurd h hx
  rcases hoa2 with ⟨h,_⟩ | ⟨vb,voff,vcells,rfl,rfl,q3,q4,q5,q6⟩
  ·exact absurd h hy
  obtain ⟨newsV,v1,v2,v3,v4⟩:=Rep.toList q6
  obtain ⟨newsD,d1,d2,d3,d4⟩:=Rep.toList (Rep.drop k6 I)
  have hsz:(kTestCase).sz=2:=rfl
  have hdl:(a0.drop I).length=a0.length - I:=by simp
  rw [hdl] at d1
  rw [hsz] at v1 d1 d2 k5 q5
  refine Cf ((I:Int) == (a0.length:Int)) hb<|An 3<|Rr<|Rd 6 [0,1,2,7,8,31] [(0,.slice (some ⟨b,off,none⟩) a0.length ca0),(1,iv (I:Int)),(2,.slice (some ⟨vb,voff,none⟩) a2.length ca2),(7,iv (a2.length:Int)),(8,iv (a0.length:Int)),(31,.bool (decide ((ca0:Int)<w64 ((a0.length:Int)+(a2.length:Int)))))] ?_
  rcases bool_cases (decide ((ca0:Int)<w64 ((a0.length:Int)+(a2.length:Int)))) with hc | hc
  ·have hroom:ca0<a0.length+a2.length:=by rw [hw1] at hc; have:=of_decide_eq_true hc; omega
   refine Ct (decide ((ca0:Int)<w64 ((a0.length:Int)+(a2.length:Int)))) hc<|An 1<|Rr<|Rv 8 [0,1,2,7,34,39] [] [.need ((0:Int)≤(I:Int)∧(I:Int)≤((ca0:Nat):Int))] [(0,.slice (some ⟨b,off,none⟩) a0.length ca0),(1,iv (I:Int)),(2,.slice (some ⟨vb,voff,none⟩) a2.length ca2),(7,iv (a2.length:Int)),(34,.slice (some ⟨b,off,none⟩) I ca0),(39,iv (w64 (w64 ((a0.length:Int)+(a2.length:Int)) - (I:Int))))] (fun w hh=>⟨h0,by omega⟩) ?_
   have hzq:w64 (w64 ((a0.length:Int)+(a2.length:Int)) - (I:Int))=((a0.length+a2.length - I:Nat):Int):=by rw [hw1,hw3]
   have hrt:Kd.Rep kTestCase H cells off (a0.take I):=Rep.take k6 I
   have htl:(a0.take I).length=I:=by simp; omega
   refine RgH.does (DoesH.appendZeros (dd:=40) (kd:=kTestCase) (t:=22) (tn:=3) (e:=40) (bytes:=24) (q:=a0.length+a2.length - I) (A:=some ⟨b,off,none⟩) (a:=⟨b,off,none⟩) (c:=ca0) (n:=I) (xs:=a0.take I) (by kernel_rfl) rfl hzq (by kernel_rfl) htl.symm (by kernel_rfl) (fun w hh hne=>⟨b,off,cells,40,(0,0),rfl,hh.chin 0 rfl,hrt⟩) (by omega) (by omega) (by rw [show I+(a0.length+a2.length - I)=a0.length+a2.length by omega]; exact h3) (by omega)) ?_
   rintro _ _ _ _ ⟨g,c',cells2,rfl,rfl,rfl,g1,g2,g3,g4⟩
   rw [hsz] at g3
   refine Rd 10 [0,1,2,7,9] [(0,.slice (some ⟨b,off,none⟩) a0.length ca0),(1,iv (I:Int)),(2,.slice (some ⟨vb,voff,none⟩) a2.length ca2),(7,iv (a2.length:Int)),(9,.slice (some ⟨g,0,none⟩) (I+(a0.length+a2.length - I)) c')]<|An 1<|Rr<|Rv 4 [0,1,2,7,9,43,44] [] [.need ((0:Int)≤(I:Int)∧(I:Int)≤((I+(a0.length+a2.length - I):Nat):Int))] [(0,.slice (some ⟨b,off,none⟩) a0.length ca0),(1,iv (I:Int)),(2,.slice (some ⟨vb,voff,none⟩) a2.length ca2),(7,iv (a2.length:Int)),(9,.slice (some ⟨g,0,none⟩) (I+(a0.length+a2.length - I)) c'),(43,.slice (shiftA c' I 2 (some ⟨g,0,none⟩)) (I+(a0.length+a2.length - I) - I) (c' - I)),(44,.slice (some ⟨vb,voff,none⟩) a2.length ca2)] (fun w hh=>⟨h0,by omega⟩) ?_
   refine RgH.does (DoesH.copyRaw (k:=0) (t:=22) (e:=40) (bytes:=24) (sz:=2) (A1:=shiftA c' I 2 (some ⟨g,0,none⟩)) (A2:=some ⟨vb,voff,none⟩) (dd:=some 45) (dc:=c' - I) (sc:=ca2) (dl:=I+(a0.length+a2.length - I) - I) (sl:=a2.length) (b:=g) (o:=0+I*2) (a:=⟨vb,voff,none⟩) (cells:=cells2) (news:=newsV) (by kernel_rfl) (shiftA_at (n:=I+1) (by omega) (by omega) rfl) rfl (by kernel_rfl) rfl (by rw [v1]; congr 1; simp only [Nat.min_def]; split <;> omega) (fun w hh j u hu=>by rw [add_plain]; exact blk_cell (hh.chin 2 rfl) (v2 j u hu)) v3 (by rw [v1]; omega)) ?_
   rintro _ _ _ _ ⟨rfl,rfl,rfl⟩
   refine Rd 5 [0,1,2,7,9] [(0,.slice (some ⟨b,off,none⟩) a0.length ca0),(1,iv (I:Int)),(2,.slice (some ⟨vb,voff,none⟩) a2.length ca2),(7,iv (a2.length:Int)),(9,.slice (some ⟨g,0,none⟩) (I+(a0.length+a2.length - I)) c')]<|An 1 ?_
   refine RunH.draw (fun w=>True) (fun w=>True) [3,3,3,3,3,3,3,3,0] (n:=9) (ls:=[false,false,false,false,false,false,false,false,false]) (by kernel_rfl) (by kernel_rfl) (by kernel_rfl) rfl ?_
   refine Dr [0,1,2,3,4,5,6,7] 1 (nb 9 255) [] [.need ((0:Int)≤w64 ((I:Int)+(a2.length:Int))∧w64 ((I:Int)+(a2.length:Int))≤((I+(a0.length+a2.length - I):Nat):Int)),.need ((0:Int)≤(I:Int)∧(I:Int)≤((a0.length:Nat):Int))] [(53,.slice (shiftA ca0 I 2 (some ⟨b,off,none⟩)) (a0.length - I) (ca0 - I)),(52,iv (I:Int)),(51,.slice (some ⟨b,off,none⟩) a0.length ca0),(50,.slice (shiftA c' (w64 ((I:Int)+(a2.length:Int))).toNat 2 (some ⟨g,0,none⟩)) (I+(a0.length+a2.length - I) - (w64 ((I:Int)+(a2.length:Int))).toNat) (c' - (w64 ((I:Int)+(a2.length:Int))).toNat)),(49,iv (w64 ((I:Int)+(a2.length:Int)))),(48,iv (a2.length:Int)),(47,iv (I:Int)),(46,.slice (some ⟨g,0,none⟩) (I+(a0.length+a2.length - I)) c'),(0,.slice (some ⟨b,off,none⟩) a0.length ca0),(1,iv (I:Int)),(2,.slice (some ⟨vb,voff,none⟩) a2.length ca2),(7,iv (a2.length:Int)),(9,.slice (some ⟨g,0,none⟩) (I+(a0.length+a2.length - I)) c')] (fun w hh=>trivial) (fun w hh=>trivial) (fun w hh=>⟨by rw [hw2]; constructor <;> omega,h0,h1⟩) ?_
   refine DrH.does (n:=0) (ls':=[true,true,true,true,true,true,true,true,true]) 8 (by kernel_rfl) rfl (DoesH.copyRaw (k:=0) (t:=22) (e:=40) (bytes:=24) (sz:=2) (A1:=shiftA c' (w64 ((I:Int)+(a2.length:Int))).toNat 2 (some ⟨g,0,none⟩)) (A2:=shiftA ca0 I 2 (some ⟨b,off,none⟩)) (dd:=some 54) (dc:=c' - (w64 ((I:Int)+(a2.length:Int))).toNat) (sc:=ca0 - I) (dl:=I+(a0.length+a2.length - I) - (w64 ((I:Int)+(a2.length:Int))).toNat) (sl:=a0.length - I) (b:=g) (o:=0+(I+a2.length)*2) (a:=⟨b,off+I*2,none⟩) (cells:=owr cells2 (0+I*2) newsV) (news:=newsD) (by kernel_rfl) (by rw [hw2]; exact shiftA_at (n:=I+a2.length+1) (by omega) (by omega) rfl) (shiftA_at hIn k3 rfl) (by kernel_rfl) rfl (by rw [d1,hw2]; congr 1; simp only [Nat.min_def,Int.toNat_natCast]; split <;> omega) (fun w hh j u hu=>by rw [add_plain]; exact blk_cell (hh.chin 1 rfl) (d2 j u hu)) d3 (by rw [owr_size,d1]; omega)) ?_
   rintro _ _ _ _ ⟨rfl,rfl,rfl⟩
   refine ⟨fun _ w hh=>⟨fun _=>trivial,fun _=>trivial,(fun h=>by cases h)⟩,?_⟩
   refine Kr [9] [(9,.slice (some ⟨g,0,none⟩) (I+(a0.length+a2.length - I)) c')] ?_
   refine DrH.done (by kernel_rfl) ?_
   refine An 1<|Rr<|Rd 2 [6] [(6,.slice (some ⟨g,0,none⟩) (I+(a0.length+a2.length - I)) c')] ?_
   have r1:Kd.Rep kTestCase H (owr cells2 (0+I*2) newsV) 0 (a0.take I++a2):=by
    have:=Rep.owr g4 v4 (by rw [htl,hsz,v1]; omega)
    rwa [htl,hsz] at this
   have hl1:(a0.take I++a2).length=I+a2.length:=by rw [List.length_append,htl]
   have r2:Kd.Rep kTestCase H (owr (owr cells2 (0+I*2) newsV) (0+(I+a2.length)*2) newsD) 0 (a0.take I++a2++a0.drop I):=by
    have:=Rep.owr r1 d4 (by rw [hl1,hsz,d1,owr_size]; omega)
    rwa [hl1,hsz] at this
   have ho:SlOwn kTestCase 40 H (some ⟨g,0,none⟩) c' (a0.take I++a2++a0.drop I) (some (g,.cells (owr (owr cells2 (0+I*2) newsV) (0+(I+a2.length)*2) newsD) 40 (0,0))):=.inr ⟨g,0,_,rfl,rfl,by rw [hrl]; omega,g2,by rw [owr_size,owr_size,hsz]; exact g3,r2⟩
   refine RunH.pick 3 [0] (cs':=some (g,.cells (owr (owr cells2 (0+I*2) newsV) (0+(I+a2.length)*2) newsD) 40 (0,0))::F) (by kernel_rfl) rfl ?_
   exact RunH.done (by kernel_rfl) Tryd.func25 (v:=.slice (some ⟨g,0,none⟩) (I+(a0.length+a2.length - I)) c') (by kernel_rfl) ⟨some ⟨g,0,none⟩,c',_,rfl,by rw [hrl,show I+(a0.length+a2.length - I)=a0.length+a2.length by omega],rfl,ho⟩
  ·have hroom:a0.length+a2.length≤ca0:=by rw [hw1] at hc; have:=of_decide_eq_false hc; omega
   refine Cf (decide ((ca0:Int)<w64 ((a0.length:Int)+(a2.length:Int)))) hc<|An 2<|Rr<|Rv 6 [0,1,2,7] [] [.need ((0:Int)≤w64 ((a0.length:Int)+(a2.length:Int))∧w64 ((a0.length:Int)+(a2.length:Int))≤((ca0:Nat):Int))] [(0,.slice (some ⟨b,off,none⟩) (w64 ((a0.length:Int)+(a2.length:Int))).toNat ca0),(1,iv (I:Int)),(2,.slice (some ⟨vb,voff,none⟩) a2.length ca2),(7,iv (a2.length:Int))] (fun w hh=>by rw [hw1]; constructor <;> omega) ?_
   refine RgH.val1 (v':=.slice (some ⟨b,off,none⟩) (a0.length+a2.length) ca0) (by rw [hw1]; rfl) ?_
   refine Dn<|An 2<|Rr<|Rv 6 [0,1,2,7,61,66] [] [.need ((0:Int)≤w64 ((I:Int)+(a2.length:Int))∧w64 ((I:Int)+(a2.length:Int))≤((a0.length+a2.length:Nat):Int))] [(0,.slice (some ⟨b,off,none⟩) (a0.length+a2.length) ca0),(1,iv (I:Int)),(2,.slice (some ⟨vb,voff,none⟩) a2.length ca2),(7,iv (a2.length:Int)),(61,.slice (some ⟨vb,voff,none⟩) a2.length ca2),(66,.slice (shiftA ca0 (w64 ((I:Int)+(a2.length:Int))).toNat 2 (some ⟨b,off,none⟩)) (a0.length+a2.length - (w64 ((I:Int)+(a2.length:Int))).toNat) (ca0 - (w64 ((I:Int)+(a2.length:Int))).toNat))] (fun w hh=>by rw [hw2]; constructor <;> omega) ?_
   have hsh:shiftA ca0 (w64 ((I:Int)+(a2.length:Int))).toNat 2 (some ⟨b,off,none⟩)=some ⟨b,off+(I+a2.length)*2,none⟩:=by rw [hw2]; exact shiftA_at (n:=a0.length+a2.length) (by omega) hroom rfl
   have hne:∀ w,Heap H w0 w (some (b,.cells cells 40 (0,0))::some (vb,.cells vcells 40 (0,0))::F)→vb≠b:=fun w hh=>hh.dif 1 0 _ _ rfl rfl (by omega)
   refine RgH.does (DoesH.ext (d:=67) (g:=39) (args:=#[.slice (some ⟨vb,voff,none⟩) a2.length ca2,.slice (shiftA ca0 (w64 ((I:Int)+(a2.length:Int))).toNat 2 (some ⟨b,off,none⟩)) (a0.length+a2.length - (w64 ((I:Int)+(a2.length:Int))).toNat) (ca0 - (w64 ((I:Int)+(a2.length:Int))).toNat)]) (v:=.bool false) (by kernel_rfl) (fun w hh=>by rw [hsh]; exact run_overlaps_own (e:=4) Tryd.func39 (by kernel_rfl) (by kernel_rfl) (by kernel_rfl) (by kernel_rfl) (show elemOk Tryd.prog 22 40 2 24=true by kernel_rfl) (hh.chin 1 rfl) (hh.chin 0 rfl) (hne w hh) (by omega))) ?_
   rintro _ _ _ _ ⟨rfl,rfl,rfl⟩
   refine Rd 8 [0,1,2,7,68] [(0,.slice (some ⟨b,off,none⟩) (a0.length+a2.length) ca0),(1,iv (I:Int)),(2,.slice (some ⟨vb,voff,none⟩) a2.length ca2),(7,iv (a2.length:Int)),(68,.bool true)]<|Ct true rfl<|An 1 ?_
   refine RunH.draw (fun w=>True) (fun w=>True) [3,3,3,3,3,3,3,3,0] (n:=9) (ls:=[false,false,false,false,false,false,false,false,false]) (by kernel_rfl) (by kernel_rfl) (by kernel_rfl) rfl ?_
   refine Dr [0,1,2,3,4,5,6,7] 1 (nb 9 255) [] [.need ((0:Int)≤w64 ((I:Int)+(a2.length:Int))∧w64 ((I:Int)+(a2.length:Int))≤((a0.length+a2.length:Nat):Int)),.need ((0:Int)≤(I:Int)∧(I:Int)≤((a0.length+a2.length:Nat):Int))] [(76,.slice (shiftA ca0 I 2 (some ⟨b,off,none⟩)) (a0.length+a2.length - I) (ca0 - I)),(75,iv (I:Int)),(74,.slice (some ⟨b,off,none⟩) (a0.length+a2.length) ca0),(73,.slice (shiftA ca0 (w64 ((I:Int)+(a2.length:Int))).toNat 2 (some ⟨b,off,none⟩)) (a0.length+a2.length - (w64 ((I:Int)+(a2.length:Int))).toNat) (ca0 - (w64 ((I:Int)+(a2.length:Int))).toNat)),(72,iv (w64 ((I:Int)+(a2.length:Int)))),(71,iv (a2.length:Int)),(70,iv (I:Int)),(69,.slice (some ⟨b,off,none⟩) (a0.length+a2.length) ca0),(0,.slice (some ⟨b,off,none⟩) (a0.length+a2.length) ca0),(1,iv (I:Int)),(2,.slice (some ⟨vb,voff,none⟩) a2.length ca2),(7,iv (a2.length:Int)),(68,.bool true)] (fun w hh=>trivial) (fun w hh=>trivial) (fun w hh=>⟨by rw [hw2]; constructor <;> omega,h0,by omega⟩) ?_
   refine DrH.does (n:=0) (ls':=[true,true,true,true,true,true,true,true,true]) 8 (by kernel_rfl) rfl (DoesH.copyRaw (k:=0) (t:=22) (e:=40) (bytes:=24) (sz:=2) (A1:=shiftA ca0 (w64 ((I:Int)+(a2.length:Int))).toNat 2 (some ⟨b,off,none⟩)) (A2:=shiftA ca0 I 2 (some ⟨b,off,none⟩)) (dd:=some 77) (dc:=ca0 - (w64 ((I:Int)+(a2.length:Int))).toNat) (sc:=ca0 - I) (dl:=a0.length+a2.length - (w64 ((I:Int)+(a2.length:Int))).toNat) (sl:=a0.length+a2.length - I) (b:=b) (o:=off+(I+a2.length)*2) (a:=⟨b,off+I*2,none⟩) (cells:=cells) (news:=newsD) (by kernel_rfl) hsh (shiftA_at hIn k3 rfl) (by kernel_rfl) rfl (by rw [d1,hw2]; congr 1; simp only [Nat.min_def,Int.toNat_natCast]; split <;> omega) (fun w hh j u hu=>by rw [add_plain]; exact blk_cell (hh.chin 0 rfl) (d2 j u hu)) d3 (by rw [d1]; omega)) ?_
   rintro _ _ _ _ ⟨rfl,rfl,rfl⟩
   refine ⟨fun _ w hh=>⟨fun _=>trivial,fun _=>trivial,(fun h=>by cases h)⟩,?_⟩
   refine Kr [0,1,2] [(0,.slice (some ⟨b,off,none⟩) (a0.length+a2.length) ca0),(1,iv (I:Int)),(2,.slice (some ⟨vb,voff,none⟩) a2.length ca2)] ?_
   refine DrH.done (by kernel_rfl) ?_
   refine An 1<|Rr<|Rv 4 [0,80,81] [] [.need ((0:Int)≤(I:Int)∧(I:Int)≤((a0.length+a2.length:Nat):Int))] [(0,.slice (some ⟨b,off,none⟩) (a0.length+a2.length) ca0),(80,.slice (shiftA ca0 I 2 (some ⟨b,off,none⟩)) (a0.length+a2.length - I) (ca0 - I)),(81,.slice (some ⟨vb,voff,none⟩) a2.length ca2)] (fun w hh=>⟨h0,by omega⟩) ?_
   refine RgH.does (DoesH.copyRaw (k:=0) (t:=22) (e:=40) (bytes:=24) (sz:=2) (A1:=shiftA ca0 I 2 (some ⟨b,off,none⟩)) (A2:=some ⟨vb,voff,none⟩) (dd:=some 82) (dc:=ca0 - I) (sc:=ca2) (dl:=a0.length+a2.length - I) (sl:=a2.length) (b:=b) (o:=off+I*2) (a:=⟨vb,voff,none⟩) (cells:=owr cells (off+(I+a2.length)*2) newsD) (news:=newsV) (by kernel_rfl) (shiftA_at hIn k3 rfl) rfl (by kernel_rfl) rfl (by rw [v1]; congr 1; simp only [Nat.min_def]; split <;> omega) (fun w hh j u hu=>by rw [add_plain]; exact blk_cell (hh.chin 1 rfl) (v2 j u hu)) v3 (by rw [owr_size,v1]; omega)) ?_
   rintro _ _ _ _ ⟨rfl,rfl,rfl⟩
   refine Rd 5 [0] [(0,.slice (some ⟨b,off,none⟩) (a0.length+a2.length) ca0)]<|An 1<|Rr<|Rd 2 [6] [(6,.slice (some ⟨b,off,none⟩) (a0.length+a2.length) ca0)] ?_
   have htl:(a0.take I).length=I:=by simp; omega
   have s1:Kd.Rep kTestCase H (owr (owr cells (off+(I+a2.length)*2) newsD) (off+I*2) newsV) off (a0.take I):=Rep.outw (Rep.outw (Rep.take k6 I) (by rw [d1]; omega) (by rw [htl,hsz]; omega)) (by rw [owr_size,v1]; omega) (by rw [htl,hsz]; omega)
   have s2:Kd.Rep kTestCase H (owr (owr cells (off+(I+a2.length)*2) newsD) (off+I*2) newsV) (off+I*2) a2:=Rep.inw v4 (by rw [owr_size,v1]; omega)
   have s3:Kd.Rep kTestCase H (owr (owr cells (off+(I+a2.length)*2) newsD) (off+I*2) newsV) (off+(I+a2.length)*2) (a0.drop I):=Rep.outw (Rep.inw d4 (by rw [d1]; omega)) (by rw [owr_size,v1]; omega) (by rw [v1]; omega)
   have hl1:(a0.take I++a2).length=I+a2.length:=by rw [List.length_append,htl]
   have r2:Kd.Rep kTestCase H (owr (owr cells (off+(I+a2.length)*2) newsD) (off+I*2) newsV) off (a0.take I++a2++a0.drop I):=Rep.glue (Rep.glue s1 (by rw [htl,hsz]; exact s2)) (by rw [hl1,hsz]; exact s3)
   have ho:SlOwn kTestCase 40 H (some ⟨b,off,none⟩) ca0 (a0.take I++a2++a0.drop I) (some (b,.cells (owr (owr cells (off+(I+a2.length)*2) newsD) (off+I*2) newsV) 40 (0,0))):=.inr ⟨b,off,_,rfl,rfl,by rw [hrl]; omega,k4,by rw [owr_size,owr_size,hsz]; exact k5,r2⟩
   refine RunH.pick 2 [0] (cs':=some (b,.cells (owr (owr cells (off+(I+a2.length)*2) newsD) (off+I*2) newsV) 40 (0,0))::F) (by kernel_rfl) rfl ?_
   exact RunH.done (by kernel_rfl) Tryd.func25 (v:=.slice (some ⟨b,off,none⟩) (a0.length+a2.length) ca0) (by kernel_rfl) ⟨some ⟨b,off,none⟩,ca0,_,rfl,by rw [hrl],rfl,ho⟩
noncomputable def C7:Ctx:={ P:=Tryd.prog,f:=7,N:=116,c:=bodyOf Tryd.f7 }
def S7 (F:List Ch) (H0:Hp) (r:(List (List ByteArray)) × Int) (v:Value) (H:Hp) (cs:List Ch):Prop:=∃ (A0:Option Addr) (c0:Nat) (ch0:Ch),v=.tuple #[.slice A0 r.1.length c0,iv r.2]∧ch0::F=cs∧SlOwn (Kd.slice Kd.string) 41 H A0 c0 r.1 ch0
theorem smithyardref10_Shards.e3_c [GlobI 0 w0] {r:(List (List ByteArray)) × Int}:∀ (H:Hp) (v_out11:List (List ByteArray)) (Av_out11:Option Addr) (nv_out11 cv_out11:Nat) (hsv_out11:List Hd) (Jv_out11:List Ch) (chv_out11:Ch) ,SlOwn Kd.hd 41 H Av_out11 cv_out11 hsv_out11 chv_out11→Ns Kd.string 9 H hsv_out11 v_out11 Jv_out11→nv_out11=v_out11.length→smithyardref10_Shards.e3 v_out11=some r→RunH C7 (S7 F H0 r) H0 w0 [.c [1,1,1,1,1,1,1,1,1,0],.c [1,1,1,1,1,1,1,1,1,1]] [(11,.slice Av_out11 nv_out11 cv_out11)] H (chv_out11::(Jv_out11++F)):=by
 intro H v_out11 Av_out11 nv_out11 cv_out11 hsv_out11 Jv_out11 chv_out11 hov_out11 hNv_out11 hnv_out11 heq
 subst hnv_out11
 unfold smithyardref10_Shards.e3 at heq
 refine Sa 0<|Zd 3 ?_
 refine Hs.freezeJ 1 hNv_out11 (J:=Jv_out11) (F':=F) rfl (cs':=chv_out11::F) rfl (fun H hl hz1=>?_)
 replace hov_out11:=hov_out11.mono hl
 replace hNv_out11:=hNv_out11.mono hl
 have ho5:SlOwn (Kd.slice Kd.string) 41 H Av_out11 cv_out11 v_out11 chv_out11:=hov_out11.settle hz1
 obtain rfl:=Option.some.inj heq
 exact RunH.done (by kernel_rfl) Tryd.func7 (v:=.tuple #[.slice Av_out11 v_out11.length cv_out11,iv 0]) (by kernel_rfl) ⟨Av_out11,cv_out11,chv_out11,rfl,rfl,ho5⟩
theorem smithyardref10_Shards.l4_c [GlobI 0 w0] {r:(List (List ByteArray)) × Int} (e3:(List (List ByteArray))→Option ((List (List ByteArray)) × Int))
  (he3:∀ (H:Hp) (v_out11:List (List ByteArray)) (Av_out11:Option Addr) (nv_out11 cv_out11:Nat) (hsv_out11:List Hd) (Jv_out11:List Ch) (chv_out11:Ch) ,SlOwn Kd.hd 41 H Av_out11 cv_out11 hsv_out11 chv_out11→Ns Kd.string 9 H hsv_out11 v_out11 Jv_out11→nv_out11=v_out11.length→e3 v_out11=some r→RunH C7 (S7 F H0 r) H0 w0 [.c [1,1,1,1,1,1,1,1,1,0],.c [1,1,1,1,1,1,1,1,1,1]] [(11,.slice Av_out11 nv_out11 cv_out11)] H (chv_out11::(Jv_out11++F))):∀ (k:Nat),∀ (H:Hp) (v_out11 v_out11q:List (List ByteArray)) (Av_out11q:Option Addr) (nv_out11q cv_out11q:Nat) (hsv_out11q:List Hd) (Jv_out11q:List Ch) (chv_out11q:Ch) (v106:Int) ,SlOwn Kd.hd 41 H Av_out11q cv_out11q hsv_out11q chv_out11q→Ns Kd.string 9 H hsv_out11q v_out11q Jv_out11q→nv_out11q=v_out11q.length→smithyardref10_Shards.l4 e3 k v_out11 v_out11q v106=some r→RunH C7 (S7 F H0 r) H0 w0 [.c [1,1,1,1,1,1,1,1,0,1,0,0],.l [1,1,1,1,1,1,1,1,0,1,0,0],.b 8,.c [1,1,1,1,1,1,1,1,1]] [(11,.slice Av_out11q nv_out11q cv_out11q),(105,iv (v_out11.length:Int)),(106,iv v106)] H (chv_out11q::(Jv_out11q++F)):=by
 intro k
 induction k with
 | zero=>intro H v_out11 v_out11q Av_out11q nv_out11q cv_out11q hsv_out11q Jv_out11q chv_out11q v106 hov_out11q hNv_out11q hnv_out11q heq; exact nomatch (show (none:Option ((List (List ByteArray)) × Int))=some r from heq)
 | succ k ihk =>
  intro H v_out11 v_out11q Av_out11q nv_out11q cv_out11q hsv_out11q Jv_out11q chv_out11q v106 hov_out11q hNv_out11q hnv_out11q heq
  subst hnv_out11q
  rw [smithyardref10_Shards.l4] at heq
  refine Sa 1<|Zd 1<|An 1 ?_
  refine Cb heq ?_ ?_
  ·intro hb3 heq
   refine Sa 4<|Zd 2 ?_
   obtain ⟨x1,hx1,heq⟩:=bind_some heq
   obtain ⟨A1,c1,ch3,hh1,hj1,ho6⟩:=hNv_out11q.get hx1
   refine Hs.pull 1 (J:=Jv_out11q) (F':=F) rfl hj1 (cs':=ch3::chv_out11q::((List.set Jv_out11q v106.toNat none)++F)) rfl ?_
   refine Sa 0 ?_
   obtain ⟨ha1,cs1,hK1,hcc1⟩:=hov_out11q.get hh1
   obtain rfl:cs1=[.slice A1 x1.length c1]:=hK1
   refine Zv 4 [ny ha1 hh1 hNv_out11q.len.1.symm,el hcc1 1 0] ?_
   obtain ⟨y3,hy3,heq⟩:=bind_some heq
   refine RgH.does (cal 113 (slices_Sort_string_c (a0:=x1) ho6 rfl hy3)) ?_
   rintro _ _ _ _ ⟨_,rfl,ch4,rfl,rfl,rfl,ho7,hn4⟩
   refine Dn ?_
   have hN2:Ns Kd.string 9 H hsv_out11q (List.set v_out11q v106.toNat y3) (List.set Jv_out11q v106.toNat ch4):=hNv_out11q.put hh1 ho7 hn4
   have hn5:v_out11q.length=((List.set v_out11q v106.toNat y3)).length:=by rw [List.length_set]
   refine Hs.back 1 (J:=Jv_out11q) (F':=F) (hNv_out11q.lt hx1) rfl (cs':=chv_out11q::((List.set Jv_out11q v106.toNat ch4)++F)) rfl ?_
   refine Sa 1<|Zd 2<|An 1 ?_
   exact Gt 0 [] (ihk _ v_out11 (List.set v_out11q v106.toNat y3) _ _ _ _ _ _ (w64 (v106+1)) hov_out11q hN2 hn5 heq)
  ·intro hb3 heq
   refine An 2 ?_
   exact Gt 0 [] (he3 _ v_out11q _ _ _ _ _ _ hov_out11q hNv_out11q rfl heq)
theorem smithyardref10_Shards.e2_c [GlobI 0 w0] {r:(List (List ByteArray)) × Int}:∀ (H:Hp) (v_out11:List (List ByteArray)) (Av_out11:Option Addr) (nv_out11 cv_out11:Nat) (hsv_out11:List Hd) (Jv_out11:List Ch) (chv_out11:Ch) ,SlOwn Kd.hd 41 H Av_out11 cv_out11 hsv_out11 chv_out11→Ns Kd.string 9 H hsv_out11 v_out11 Jv_out11→nv_out11=v_out11.length→smithyardref10_Shards.e2 v_out11=some r→RunH C7 (S7 F H0 r) H0 w0 [.c [1,1,1,1,1,1,1,1,0,0],.c [1,1,1,1,1,1,1,1,0,1],.c [1,1,1,1,1,1,1,1,1]] [(11,.slice Av_out11 nv_out11 cv_out11)] H (chv_out11::(Jv_out11++F)):=by
 intro H v_out11 Av_out11 nv_out11 cv_out11 hsv_out11 Jv_out11 chv_out11 hov_out11 hNv_out11 hnv_out11 heq
 subst hnv_out11
 unfold smithyardref10_Shards.e2 at heq
 refine Sa 0<|Zd 3<|An 2 ?_
 exact Gt 0 [] (((smithyardref10_Shards.l4_c (e3:=smithyardref10_Shards.e3) (smithyardref10_Shards.e3_c)) big) _ v_out11 v_out11 _ _ _ _ _ _ 0 hov_out11 hNv_out11 rfl heq)
theorem smithyardref10_Shards.e6_c [GlobI 0 w0] {r:(List (List ByteArray)) × Int} (backl5:(List TestCase)→(List (List ByteArray))→(List Int)→Int→Option ((List (List ByteArray)) × Int))
  (hbackl5:∀ (H:Hp) (v_l7:List TestCase) (Av_l7:Option Addr) (cv_l7:Nat) (chv_l7:Ch) (v_out11:List (List ByteArray)) (Av_out11:Option Addr) (nv_out11 cv_out11:Nat) (hsv_out11:List Hd) (Jv_out11:List Ch) (chv_out11:Ch) (v_sum12:List Int) (Av_sum12:Option Addr) (nv_sum12 cv_sum12:Nat) (chv_sum12:Ch) (v63:Int) ,SlOwn kTestCase 40 H Av_l7 cv_l7 v_l7 chv_l7→SlOwn Kd.hd 41 H Av_out11 cv_out11 hsv_out11 chv_out11→Ns Kd.string 9 H hsv_out11 v_out11 Jv_out11→nv_out11=v_out11.length→SlOwn (Kd.int .i64) 3 H Av_sum12 cv_sum12 v_sum12 chv_sum12→nv_sum12=v_sum12.length→backl5 v_l7 v_out11 v_sum12 v63=some r→RunH C7 (S7 F H0 r) H0 w0 [.c [1,1,1,1,1,1,1,0,1,0,0],.l [1,1,1,1,1,1,1,0,1,0,0],.b 4,.c [1,1,1,1,1,1,1,1]] [(11,.slice Av_out11 nv_out11 cv_out11),(12,.slice Av_sum12 nv_sum12 cv_sum12),(61,.slice Av_l7 v_l7.length cv_l7),(62,iv (v_l7.length:Int)),(63,iv v63)] H (chv_sum12::chv_out11::chv_l7::(Jv_out11++F))):∀ (H:Hp) (v_l7:List TestCase) (Av_l7:Option Addr) (cv_l7:Nat) (chv_l7:Ch) (v_out11:List (List ByteArray)) (Av_out11:Option Addr) (cv_out11:Nat) (hsv_out11:List Hd) (Jv_out11:List Ch) (chv_out11:Ch) (v_sum12:List Int) (Av_sum12:Option Addr) (cv_sum12:Nat) (chv_sum12:Ch) (v63:Int) (x2:TestCase) (g4:Nat) (v_k15:Int) ,SlOwn kTestCase 40 H Av_l7 cv_l7 v_l7 chv_l7→SlOwn Kd.hd 41 H Av_out11 cv_out11 hsv_out11 chv_out11→Ns Kd.string 9 H hsv_out11 v_out11 Jv_out11→SlOwn (Kd.int .i64) 3 H Av_sum12 cv_sum12 v_sum12 chv_sum12→smithyardref10_Shards.e6 backl5 v_l7 v_out11 v_sum12 v63 x2 v_k15=some r→RunH C7 (S7 F H0 r) H0 w0 [.c [1,1,1,1,1,1,1,0,1,0,0,1,1,0,0,1,1,1],.b 5,.c [1,1,1,1,1,1,1,0,1,0,0,1,1,1],.l [1,1,1,1,1,1,1,0,1,0,0],.b 4,.c [1,1,1,1,1,1,1,1]] [(11,.slice Av_out11 v_out11.length cv_out11),(12,.slice Av_sum12 v_sum12.length cv_sum12),(14,pg g4 0),(15,iv v_k15),(61,.slice Av_l7 v_l7.length cv_l7),(62,iv (v_l7.length:Int)),(63,iv v63)] H ((some (g4,.cells #[.string x2.Name,iv x2.Seconds] 40 (0,0)))::chv_sum12::chv_out11::chv_l7::(Jv_out11++F)):=by
 intro H v_l7 Av_l7 cv_l7 chv_l7 v_out11 Av_out11 cv_out11 hsv_out11 Jv_out11 chv_out11 v_sum12 Av_sum12 cv_sum12 chv_sum12 v63 x2 g4 v_k15 hov_l7 hov_out11 hNv_out11 hov_sum12 heq
 unfold smithyardref10_Shards.e6 at heq
 obtain ⟨x3,hx3,heq⟩:=bind_some heq
 obtain ⟨A2,c2,ch5,hh2,hj2,ho8⟩:=hNv_out11.get hx3
 refine Hs.pull 4 (J:=Jv_out11) (F':=F) rfl hj2 (cs':=ch5::(some (g4,.cells #[.string x2.Name,iv x2.Seconds] 40 (0,0)))::chv_sum12::chv_out11::chv_l7::((List.set Jv_out11 v_k15.toNat none)++F)) rfl ?_
 refine Sd 4 23 [1,2] [3,3,3,3,3,3,3,3,3,3,0,1,3,3,3,3,3,3,3,3,1,3,2] ?_
 obtain ⟨ha3,cs3,hK3,hcc3⟩:=hov_out11.get hh2
 obtain rfl:cs3=[.slice A2 x3.length c2]:=hK3
 refine Zt [0,1,2,3,4,5,6] 16 [ny ha3 hh2 hNv_out11.len.1.symm] (Pk 5 [1,2,4]) ?_
 obtain ⟨ha4,cs4,hK4,hcc4⟩:=hov_out11.get hh2
 obtain rfl:cs4=[.slice A2 x3.length c2]:=hK4
 refine Zr [7] 15 [el hcc4 3 0] (Pk 5 [0,1,2,3,4]) (Pk 5 [1,2,4]) ?_
 obtain ⟨x4,hx4,heq⟩:=bind_some heq
 obtain ⟨ha5,cs5,hK5,hcc5⟩:=hov_sum12.get hx4
 obtain rfl:cs5=[iv x4]:=hK5
 refine Zt [8,9,12,13,14,15,16,17,18] 6 [bx 0 0,nx ha5 hx4,el hcc5 1 0,bx 0 1] (Pk 5 [1,2,4]) ?_
 refine Dz 10 (DoesH.new (d:=92) (v:=fun g=>.slice (some ⟨g,0,none⟩) 1 1) (o:=fun g=>.cells #[.string x2.Name] 9 (0,0)) (fun g=>by kernel_rfl)) ?_
 rintro _ _ _ _ ⟨g5,rfl,rfl,rfl⟩
 have ho9:SlOwn Kd.string 9 H (some ⟨g5,0,none⟩) 1 ([x2.Name]:List ByteArray) (some (g5,.cells #[.string x2.Name] 9 (0,0))):=SlOwn.lit (xs:=([x2.Name]:List ByteArray)) (by kernel_rfl) (Nat.le_of_ble_eq_true (by kernel_rfl)) (Kd.Rep.scalars rfl)
 refine ⟨fun _ w hh=>⟨fun _=>(Pk 6 [1,2,3,4,5]) w hh,fun _=>(Pk 6 [2,3,5]) w hh,(fun h=>by cases h)⟩,?_⟩
 obtain ⟨hn6,heq⟩:=guard?_some heq
 refine Dz 11 (DoesH.append (d:=93) (k:=1) (t:=41) (e:=9) (bytes:=16) (kd:=Kd.string) (n:=x3.length) (m:=1) (xs:=x3) (ys:=([x2.Name]:List ByteArray)) (A:=A2) (B:=(some ⟨g5,0,none⟩)) (c:=c2) (cB:=1) (by kernel_rfl) rfl rfl (by kernel_rfl) rfl ho8 (fun w hh=>ho9.rdb (hh.chin 0 rfl)) (room_le hn6) (by have:=room_le hn6; omega)) ?_
 rintro _ _ _ _ ⟨A3,c3,ch6,rfl,rfl,rfl,ho10⟩
 refine ⟨fun _ w hh=>⟨(fun h=>by cases h),fun _=>(Pk 6 [2,3,5]) w hh,(fun h=>by cases h)⟩,?_⟩
 refine DrH.nrm ?_
 obtain ⟨ha6,cs6,hK6,hcc6⟩:=hov_out11.get hh2
 obtain rfl:cs6=[.slice A2 x3.length c2]:=hK6
 refine Zt [19] 3 [ny ha6 hh2 hNv_out11.len.1.symm] (Pk 6 [2,3,5]) ?_
 obtain ⟨ha7,cs7,hK7,hcc7⟩:=hov_out11.get hh2
 obtain rfl:cs7=[.slice A2 x3.length c2]:=hK7
 refine Dz 20 (DoesH.storeEl (a:=((adr Av_out11).add (v_k15.toNat*1))) (k:=4) (kd:=Kd.hd) (c0:=[.slice A2 x3.length c2]) (x':=((A3,(x3++([x2.Name]:List ByteArray)).length,c3):Hd)) (o:=0) (ix:=v_k15) (v:=.slice A3 ((x3++([x2.Name]:List ByteArray)).length) c3) (by kernel_rfl) rfl hov_out11 hh2 (by kernel_rfl) hcc7 rfl (Nat.le_of_ble_eq_true (by kernel_rfl)) rfl) ?_
 rintro _ _ _ _ ⟨ch7,rfl,rfl,rfl,ho11⟩
 have hn7:v_out11.length=((List.set hsv_out11 v_k15.toNat ((A3,(x3++([x2.Name]:List ByteArray)).length,c3):Hd))).length:=by rw [List.length_set]; exact hNv_out11.len.1.symm
 refine ⟨fun _ w hh=>⟨(fun h=>by cases h),fun _=>(Pk 6 [2,3,5]) w hh,(fun h=>by cases h)⟩,?_⟩
 refine DrH.nrm ?_
 obtain ⟨ha8,cs8,hK8,hcc8⟩:=hov_sum12.get hx4
 obtain rfl:cs8=[iv x4]:=hK8
 refine Zt [21] 1 [nx ha8 hx4] (Pk 6 [2,3,5]) ?_
 obtain ⟨ha9,cs9,hK9,hcc9⟩:=hov_sum12.get hx4
 obtain rfl:cs9=[iv x4]:=hK9
 refine Dz 22 (DoesH.storeEl (a:=((adr Av_sum12).add (v_k15.toNat*1))) (k:=3) (kd:=(Kd.int .i64)) (c0:=[iv x4]) (x':=(w64 (x4+x2.Seconds))) (o:=0) (ix:=v_k15) (v:=iv (w64 (x4+x2.Seconds))) (by kernel_rfl) rfl hov_sum12 hx4 (by kernel_rfl) hcc9 rfl (Nat.le_of_ble_eq_true (by kernel_rfl)) rfl) ?_
 rintro _ _ _ _ ⟨ch8,rfl,rfl,rfl,ho12⟩
 have hn8:v_sum12.length=(v_sum12.set v_k15.toNat (w64 (x4+x2.Seconds))).length:=by rw [List.length_set]
 refine ⟨fun _ w hh=>⟨(fun h=>by cases h),(fun h=>absurd h (by decide)),(fun h=>by cases h)⟩,?_⟩
 refine DrH.nrm ?_
 refine DrH.done (by kernel_rfl) ?_
 refine Up 2 [1,0] ?_
 have hN3:Ns Kd.string 9 H (List.set hsv_out11 v_k15.toNat ((A3,(x3++([x2.Name]:List ByteArray)).length,c3):Hd)) (List.set v_out11 v_k15.toNat (x3++([x2.Name]:List ByteArray))) (List.set Jv_out11 v_k15.toNat ch6):=hNv_out11.set v_k15.toNat ho10 rfl
 have hn9:v_out11.length=((List.set v_out11 v_k15.toNat (x3++([x2.Name]:List ByteArray)))).length:=by rw [List.length_set]
 refine Hs.back 5 (J:=Jv_out11) (F':=F) (hNv_out11.lt hx3) rfl (cs':=(some (g5,.cells #[.string x2.Name] 9 (0,0)))::(some (g4,.cells #[.string x2.Name,iv x2.Seconds] 40 (0,0)))::ch8::ch7::chv_l7::((List.set Jv_out11 v_k15.toNat ch6)++F)) rfl ?_
 refine Sa 1<|Zd 2<|An 1 ?_
 exact Gt 2 [] (hbackl5 _ v_l7 _ _ _ (List.set v_out11 v_k15.toNat (x3++([x2.Name]:List ByteArray))) _ _ _ _ _ _ (v_sum12.set v_k15.toNat (w64 (x4+x2.Seconds))) _ _ _ _ (w64 (v63+1)) hov_l7 ho11 hN3 hn9 ho12 hn8 heq)
theorem smithyardref10_Shards.j8_c [GlobI 0 w0] {r:(List (List ByteArray)) × Int} (backl7:(List TestCase)→(List (List ByteArray))→(List Int)→Int→TestCase→Int→Int→Option ((List (List ByteArray)) × Int))
  (hbackl7:∀ (H:Hp) (v_l7:List TestCase) (Av_l7:Option Addr) (cv_l7:Nat) (chv_l7:Ch) (v_out11:List (List ByteArray)) (Av_out11:Option Addr) (cv_out11:Nat) (hsv_out11:List Hd) (Jv_out11:List Ch) (chv_out11:Ch) (v_sum12:List Int) (Av_sum12:Option Addr) (cv_sum12:Nat) (chv_sum12:Ch) (v63:Int) (x2:TestCase) (g4:Nat) (v_k15 v69:Int) ,SlOwn kTestCase 40 H Av_l7 cv_l7 v_l7 chv_l7→SlOwn Kd.hd 41 H Av_out11 cv_out11 hsv_out11 chv_out11→Ns Kd.string 9 H hsv_out11 v_out11 Jv_out11→SlOwn (Kd.int .i64) 3 H Av_sum12 cv_sum12 v_sum12 chv_sum12→backl7 v_l7 v_out11 v_sum12 v63 x2 v_k15 v69=some r→RunH C7 (S7 F H0 r) H0 w0 [.c [1,1,1,1,1,1,1,0,1,0,0,1,1,0,0,1,1,0,1,0,0],.l [1,1,1,1,1,1,1,0,1,0,0,1,1,0,0,1,1,0,1,0,0],.b 6,.c [1,1,1,1,1,1,1,0,1,0,0,1,1,0,0,1,1,1],.b 5,.c [1,1,1,1,1,1,1,0,1,0,0,1,1,1],.l [1,1,1,1,1,1,1,0,1,0,0],.b 4,.c [1,1,1,1,1,1,1,1]] [(11,.slice Av_out11 v_out11.length cv_out11),(12,.slice Av_sum12 v_sum12.length cv_sum12),(14,pg g4 0),(15,iv v_k15),(61,.slice Av_l7 v_l7.length cv_l7),(62,iv (v_l7.length:Int)),(63,iv v63),(67,.slice Av_sum12 v_sum12.length cv_sum12),(68,iv (v_sum12.length:Int)),(69,iv v69)] H ((some (g4,.cells #[.string x2.Name,iv x2.Seconds] 40 (0,0)))::chv_sum12::chv_out11::chv_l7::(Jv_out11++F))):∀ (H:Hp) (v_l7:List TestCase) (Av_l7:Option Addr) (cv_l7:Nat) (chv_l7:Ch) (v_out11:List (List ByteArray)) (Av_out11:Option Addr) (cv_out11:Nat) (hsv_out11:List Hd) (Jv_out11:List Ch) (chv_out11:Ch) (v_sum12:List Int) (Av_sum12:Option Addr) (cv_sum12:Nat) (chv_sum12:Ch) (v63:Int) (x2:TestCase) (g4:Nat) (v69 v_k15:Int) ,SlOwn kTestCase 40 H Av_l7 cv_l7 v_l7 chv_l7→SlOwn Kd.hd 41 H Av_out11 cv_out11 hsv_out11 chv_out11→Ns Kd.string 9 H hsv_out11 v_out11 Jv_out11→SlOwn (Kd.int .i64) 3 H Av_sum12 cv_sum12 v_sum12 chv_sum12→smithyardref10_Shards.j8 backl7 v_l7 v_out11 v_sum12 v63 x2 v69 v_k15=some r→RunH C7 (S7 F H0 r) H0 w0 [.c [1,1,1,1,1,1,1,0,1,0,0,1,1,0,0,1,1,0,1,0,0,1,1,1],.l [1,1,1,1,1,1,1,0,1,0,0,1,1,0,0,1,1,0,1,0,0],.b 6,.c [1,1,1,1,1,1,1,0,1,0,0,1,1,0,0,1,1,1],.b 5,.c [1,1,1,1,1,1,1,0,1,0,0,1,1,1],.l [1,1,1,1,1,1,1,0,1,0,0],.b 4,.c [1,1,1,1,1,1,1,1]] [(11,.slice Av_out11 v_out11.length cv_out11),(12,.slice Av_sum12 v_sum12.length cv_sum12),(14,pg g4 0),(15,iv v_k15),(61,.slice Av_l7 v_l7.length cv_l7),(62,iv (v_l7.length:Int)),(63,iv v63),(67,.slice Av_sum12 v_sum12.length cv_sum12),(68,iv (v_sum12.length:Int)),(69,iv v69)] H ((some (g4,.cells #[.string x2.Name,iv x2.Seconds] 40 (0,0)))::chv_sum12::chv_out11::chv_l7::(Jv_out11++F)):=by
 intro H v_l7 Av_l7 cv_l7 chv_l7 v_out11 Av_out11 cv_out11 hsv_out11 Jv_out11 chv_out11 v_sum12 Av_sum12 cv_sum12 chv_sum12 v63 x2 g4 v69 v_k15 hov_l7 hov_out11 hNv_out11 hov_sum12 heq
 unfold smithyardref10_Shards.j8 at heq
 refine Sa 0<|Zd 2<|An 1 ?_
 exact Gt 0 [] (hbackl7 _ v_l7 _ _ _ v_out11 _ _ _ _ _ v_sum12 _ _ _ v63 x2 _ v_k15 (w64 (v69+1)) hov_l7 hov_out11 hNv_out11 hov_sum12 heq)
theorem smithyardref10_Shards.l7_c [GlobI 0 w0] {r:(List (List ByteArray)) × Int} (e6:(List TestCase)→(List (List ByteArray))→(List Int)→Int→TestCase→Int→Option ((List (List ByteArray)) × Int))
  (he6:∀ (H:Hp) (v_l7:List TestCase) (Av_l7:Option Addr) (cv_l7:Nat) (chv_l7:Ch) (v_out11:List (List ByteArray)) (Av_out11:Option Addr) (cv_out11:Nat) (hsv_out11:List Hd) (Jv_out11:List Ch) (chv_out11:Ch) (v_sum12:List Int) (Av_sum12:Option Addr) (cv_sum12:Nat) (chv_sum12:Ch) (v63:Int) (x2:TestCase) (g4:Nat) (v_k15:Int) ,SlOwn kTestCase 40 H Av_l7 cv_l7 v_l7 chv_l7→SlOwn Kd.hd 41 H Av_out11 cv_out11 hsv_out11 chv_out11→Ns Kd.string 9 H hsv_out11 v_out11 Jv_out11→SlOwn (Kd.int .i64) 3 H Av_sum12 cv_sum12 v_sum12 chv_sum12→e6 v_l7 v_out11 v_sum12 v63 x2 v_k15=some r→RunH C7 (S7 F H0 r) H0 w0 [.c [1,1,1,1,1,1,1,0,1,0,0,1,1,0,0,1,1,1],.b 5,.c [1,1,1,1,1,1,1,0,1,0,0,1,1,1],.l [1,1,1,1,1,1,1,0,1,0,0],.b 4,.c [1,1,1,1,1,1,1,1]] [(11,.slice Av_out11 v_out11.length cv_out11),(12,.slice Av_sum12 v_sum12.length cv_sum12),(14,pg g4 0),(15,iv v_k15),(61,.slice Av_l7 v_l7.length cv_l7),(62,iv (v_l7.length:Int)),(63,iv v63)] H ((some (g4,.cells #[.string x2.Name,iv x2.Seconds] 40 (0,0)))::chv_sum12::chv_out11::chv_l7::(Jv_out11++F))):∀ (k:Nat),∀ (H:Hp) (v_l7:List TestCase) (Av_l7:Option Addr) (cv_l7:Nat) (chv_l7:Ch) (v_out11:List (List ByteArray)) (Av_out11:Option Addr) (cv_out11:Nat) (hsv_out11:List Hd) (Jv_out11:List Ch) (chv_out11:Ch) (v_sum12:List Int) (Av_sum12:Option Addr) (cv_sum12:Nat) (chv_sum12:Ch) (v63:Int) (x2:TestCase) (g4:Nat) (v_k15 v69:Int) ,SlOwn kTestCase 40 H Av_l7 cv_l7 v_l7 chv_l7→SlOwn Kd.hd 41 H Av_out11 cv_out11 hsv_out11 chv_out11→Ns Kd.string 9 H hsv_out11 v_out11 Jv_out11→SlOwn (Kd.int .i64) 3 H Av_sum12 cv_sum12 v_sum12 chv_sum12→smithyardref10_Shards.l7 e6 k v_l7 v_out11 v_sum12 v63 x2 v_k15 v69=some r→RunH C7 (S7 F H0 r) H0 w0 [.c [1,1,1,1,1,1,1,0,1,0,0,1,1,0,0,1,1,0,1,0,0],.l [1,1,1,1,1,1,1,0,1,0,0,1,1,0,0,1,1,0,1,0,0],.b 6,.c [1,1,1,1,1,1,1,0,1,0,0,1,1,0,0,1,1,1],.b 5,.c [1,1,1,1,1,1,1,0,1,0,0,1,1,1],.l [1,1,1,1,1,1,1,0,1,0,0],.b 4,.c [1,1,1,1,1,1,1,1]] [(11,.slice Av_out11 v_out11.length cv_out11),(12,.slice Av_sum12 v_sum12.length cv_sum12),(14,pg g4 0),(15,iv v_k15),(61,.slice Av_l7 v_l7.length cv_l7),(62,iv (v_l7.length:Int)),(63,iv v63),(67,.slice Av_sum12 v_sum12.length cv_sum12),(68,iv (v_sum12.length:Int)),(69,iv v69)] H ((some (g4,.cells #[.string x2.Name,iv x2.Seconds] 40 (0,0)))::chv_sum12::chv_out11::chv_l7::(Jv_out11++F)):=by
 intro k
 induction k with
 | zero=>intro H v_l7 Av_l7 cv_l7 chv_l7 v_out11 Av_out11 cv_out11 hsv_out11 Jv_out11 chv_out11 v_sum12 Av_sum12 cv_sum12 chv_sum12 v63 x2 g4 v_k15 v69 hov_l7 hov_out11 hNv_out11 hov_sum12 heq; exact nomatch (show (none:Option ((List (List ByteArray)) × Int))=some r from heq)
 | succ k ihk =>
  intro H v_l7 Av_l7 cv_l7 chv_l7 v_out11 Av_out11 cv_out11 hsv_out11 Jv_out11 chv_out11 v_sum12 Av_sum12 cv_sum12 chv_sum12 v63 x2 g4 v_k15 v69 hov_l7 hov_out11 hNv_out11 hov_sum12 heq
  rw [smithyardref10_Shards.l7] at heq
  refine Sa 1<|Zd 1<|An 1 ?_
  refine Cb heq ?_ ?_
  ·intro hb5 heq
   refine Sa 4 ?_
   obtain ⟨x5,hx5,heq⟩:=bind_some heq
   obtain ⟨ha10,cs10,hK10,hcc10⟩:=hov_sum12.get hx5
   obtain rfl:cs10=[iv x5]:=hK10
   refine Zw 5 [nx ha10 hx5,el hcc10 1 0]<|Sa 1 ?_
   obtain ⟨x6,hx6,heq⟩:=bind_some heq
   obtain ⟨ha11,cs11,hK11,hcc11⟩:=hov_sum12.get hx6
   obtain rfl:cs11=[iv x6]:=hK11
   refine Zw 6 [nx ha11 hx6,el hcc11 1 0] ?_
   refine Cb heq ?_ ?_
   ·intro hb6 heq
    refine Sa 0<|Zd 2<|An 1 ?_
    exact Gt 0 [] ((smithyardref10_Shards.j8_c (backl7:=(smithyardref10_Shards.l7 e6 k)) ihk) _ v_l7 _ _ _ v_out11 _ _ _ _ _ v_sum12 _ _ _ v63 x2 _ v69 v69 hov_l7 hov_out11 hNv_out11 hov_sum12 heq)
   ·intro hb6 heq
    refine An 2 ?_
    exact Gt 0 [] ((smithyardref10_Shards.j8_c (backl7:=(smithyardref10_Shards.l7 e6 k)) ihk) _ v_l7 _ _ _ v_out11 _ _ _ _ _ v_sum12 _ _ _ v63 x2 _ v69 v_k15 hov_l7 hov_out11 hNv_out11 hov_sum12 heq)
  ·intro hb5 heq
   refine An 1 ?_
   exact Gt 0 [] (he6 _ v_l7 _ _ _ v_out11 _ _ _ _ _ v_sum12 _ _ _ v63 x2 _ v_k15 hov_l7 hov_out11 hNv_out11 hov_sum12 heq)
theorem smithyardref10_Shards.l5_c [GlobI 0 w0] {r:(List (List ByteArray)) × Int} (e2:(List (List ByteArray))→Option ((List (List ByteArray)) × Int))
  (he2:∀ (H:Hp) (v_out11:List (List ByteArray)) (Av_out11:Option Addr) (nv_out11 cv_out11:Nat) (hsv_out11:List Hd) (Jv_out11:List Ch) (chv_out11:Ch) ,SlOwn Kd.hd 41 H Av_out11 cv_out11 hsv_out11 chv_out11→Ns Kd.string 9 H hsv_out11 v_out11 Jv_out11→nv_out11=v_out11.length→e2 v_out11=some r→RunH C7 (S7 F H0 r) H0 w0 [.c [1,1,1,1,1,1,1,1,0,0],.c [1,1,1,1,1,1,1,1,0,1],.c [1,1,1,1,1,1,1,1,1]] [(11,.slice Av_out11 nv_out11 cv_out11)] H (chv_out11::(Jv_out11++F))):∀ (k:Nat),∀ (H:Hp) (v_l7:List TestCase) (Av_l7:Option Addr) (cv_l7:Nat) (chv_l7:Ch) (v_out11:List (List ByteArray)) (Av_out11:Option Addr) (nv_out11 cv_out11:Nat) (hsv_out11:List Hd) (Jv_out11:List Ch) (chv_out11:Ch) (v_sum12:List Int) (Av_sum12:Option Addr) (nv_sum12 cv_sum12:Nat) (chv_sum12:Ch) (v63:Int) ,SlOwn kTestCase 40 H Av_l7 cv_l7 v_l7 chv_l7→SlOwn Kd.hd 41 H Av_out11 cv_out11 hsv_out11 chv_out11→Ns Kd.string 9 H hsv_out11 v_out11 Jv_out11→nv_out11=v_out11.length→SlOwn (Kd.int .i64) 3 H Av_sum12 cv_sum12 v_sum12 chv_sum12→nv_sum12=v_sum12.length→smithyardref10_Shards.l5 e2 k v_l7 v_out11 v_sum12 v63=some r→RunH C7 (S7 F H0 r) H0 w0 [.c [1,1,1,1,1,1,1,0,1,0,0],.l [1,1,1,1,1,1,1,0,1,0,0],.b 4,.c [1,1,1,1,1,1,1,1]] [(11,.slice Av_out11 nv_out11 cv_out11),(12,.slice Av_sum12 nv_sum12 cv_sum12),(61,.slice Av_l7 v_l7.length cv_l7),(62,iv (v_l7.length:Int)),(63,iv v63)] H (chv_sum12::chv_out11::chv_l7::(Jv_out11++F)):=by
 intro k
 induction k with
 | zero=>intro H v_l7 Av_l7 cv_l7 chv_l7 v_out11 Av_out11 nv_out11 cv_out11 hsv_out11 Jv_out11 chv_out11 v_sum12 Av_sum12 nv_sum12 cv_sum12 chv_sum12 v63 hov_l7 hov_out11 hNv_out11 hnv_out11 hov_sum12 hnv_sum12 heq; exact nomatch (show (none:Option ((List (List ByteArray)) × Int))=some r from heq)
 | succ k ihk =>
  intro H v_l7 Av_l7 cv_l7 chv_l7 v_out11 Av_out11 nv_out11 cv_out11 hsv_out11 Jv_out11 chv_out11 v_sum12 Av_sum12 nv_sum12 cv_sum12 chv_sum12 v63 hov_l7 hov_out11 hNv_out11 hnv_out11 hov_sum12 hnv_sum12 heq
  subst hnv_out11
  subst hnv_sum12
  rw [smithyardref10_Shards.l5] at heq
  refine Sa 1<|Zd 1<|An 1 ?_
  refine Cb heq ?_ ?_
  ·intro hb4 heq
   refine Sa 4 ?_
   obtain ⟨x2,hx2,heq⟩:=bind_some heq
   obtain ⟨ha2,cs2,hK2,hcc2⟩:=hov_l7.get hx2
   obtain ⟨rfl⟩:=kTestCase_open hK2
   refine Zv 2 ([nx ha2 hx2]++els hcc2 2) ?_
   refine RgH.does (DoesH.new (d:=14) (v:=fun g=>.pointer (some ⟨g,0,none⟩)) (o:=fun g=>.cells #[.string ByteArray.empty,iv 0] 40 (0,0)) (fun g=>by kernel_rfl)) ?_
   rintro _ _ _ _ ⟨g4,rfl,rfl,rfl⟩
   refine RgH.does (DoesH.store (k:=0) (g:=g4) (off:=0) (v:=.agg #[.string x2.Name,iv x2.Seconds]) (cells':=#[.string x2.Name,iv x2.Seconds]) (by kernel_rfl) rfl (by kernel_rfl) (by kernel_rfl)) ?_
   rintro _ _ _ _ ⟨rfl,rfl,rfl⟩
   refine RgH.nrm ?_
   refine Dn<|Sa 1<|Zd 1<|Sa 2<|Zd 3<|An 2 ?_
   exact Gt 0 [] (((smithyardref10_Shards.l7_c (e6:=smithyardref10_Shards.e6 ((smithyardref10_Shards.l5 e2 k))) (smithyardref10_Shards.e6_c (backl5:=(smithyardref10_Shards.l5 e2 k)) ihk)) big) _ v_l7 _ _ _ v_out11 _ _ _ _ _ v_sum12 _ _ _ v63 x2 _ 0 0 hov_l7 hov_out11 hNv_out11 hov_sum12 heq)
  ·intro hb4 heq
   refine An 3 ?_
   exact Gt 3 [1] (he2 _ v_out11 _ _ _ _ _ _ hov_out11 hNv_out11 rfl heq)
theorem smithyardref10_Shards.e1_c [GlobI 0 w0] {r:(List (List ByteArray)) × Int}:∀ (H:Hp) (a1:Int) (v_l7:List TestCase) (Av_l7:Option Addr) (nv_l7 cv_l7:Nat) (chv_l7:Ch) ,SlOwn kTestCase 40 H Av_l7 cv_l7 v_l7 chv_l7→nv_l7=v_l7.length→smithyardref10_Shards.e1 a1 v_l7=some r→RunH C7 (S7 F H0 r) H0 w0 [.c [1,1,1,1,1,0],.c [1,1,1,1,1,1]] [(1,iv a1),(7,.slice Av_l7 nv_l7 cv_l7)] H (chv_l7::F):=by
 intro H a1 v_l7 Av_l7 nv_l7 cv_l7 chv_l7 hov_l7 hnv_l7 heq
 subst hnv_l7
 unfold smithyardref10_Shards.e1 at heq
 refine Sa 0<|Zk 1 ?_
 obtain ⟨hn1,heq⟩:=guard?_some heq
 simp only [Bool.and_eq_true,decide_eq_true_eq] at hn1
 refine RgH.does (DoesH.makeSlice (d:=58) (e:=41) (bytes:=24) (kd:=Kd.hd) (zc:=#[.slice none 0 0]) (z:=((none,0,0):Hd)) (n:=a1) (by kernel_rfl) hn1.1 (by have:=room_le hn1.2; simpa using this) (by have:=room_le hn1.2; simp at this; omega) rfl (by decide)) ?_
 rintro _ _ _ _ ⟨g2,ch1,rfl,rfl,rfl,ho3⟩
 have hn2:((List.replicate a1.toNat ((none,0,0):Hd))).length=((List.replicate a1.toNat ([]:List ByteArray))).length:=by simp
 refine Zd 3 ?_
 refine Hs.seg 2 (J:=(List.replicate a1.toNat (none:Ch))) (fun c hc=>(List.mem_replicate.1 hc).2) (cs':=ch1::chv_l7::((List.replicate a1.toNat (none:Ch))++F)) rfl ?_
 have hN1:Ns Kd.string 9 H (List.replicate a1.toNat ((none,0,0):Hd)) (List.replicate a1.toNat ([]:List ByteArray)) (List.replicate a1.toNat (none:Ch)):=Ns.made _
 refine Sa 1<|Zk 1 ?_
 obtain ⟨hn3,heq⟩:=guard?_some heq
 simp only [Bool.and_eq_true,decide_eq_true_eq] at hn3
 refine RgH.does (DoesH.makeSlice (d:=60) (e:=3) (bytes:=8) (kd:=(Kd.int .i64)) (zc:=#[iv 0]) (z:=0) (n:=a1) (by kernel_rfl) hn3.1 (by have:=room_le hn3.2; simpa using this) (by have:=room_le hn3.2; simp at this; omega) rfl (by decide)) ?_
 rintro _ _ _ _ ⟨g3,ch2,rfl,rfl,rfl,ho4⟩
 refine Zd 3<|Sa 2<|Zd 3<|An 2 ?_
 exact Gt 0 [] (((smithyardref10_Shards.l5_c (e2:=smithyardref10_Shards.e2) (smithyardref10_Shards.e2_c)) big) _ v_l7 _ _ _ (List.replicate a1.toNat ([]:List ByteArray)) _ _ _ _ _ _ (List.replicate a1.toNat (0)) _ _ _ _ 0 hov_l7 ho3 hN1 hn2 ho4 rfl heq)
theorem smithyardref10_Shards.e10_c [GlobI 0 w0] {r:(List (List ByteArray)) × Int} (backl9:Test→Int→(List TestCase)→Int→Option ((List (List ByteArray)) × Int))
  (hbackl9:∀ (H:Hp) (a0:Test) (Aa0_1:Option Addr) (ca0_1:Nat) (a1:Int) (v_l7:List TestCase) (Av_l7:Option Addr) (nv_l7 cv_l7:Nat) (chv_l7:Ch) (v30:Int) ,Rw kTestCase H F Aa0_1 a0.Cases→a0.Cases.length≤ca0_1→SlOwn kTestCase 40 H Av_l7 cv_l7 v_l7 chv_l7→nv_l7=v_l7.length→backl9 a0 a1 v_l7 v30=some r→RunH C7 (S7 F H0 r) H0 w0 [.c [1,1,1,1,0,1,0,0],.l [1,1,1,1,0,1,0,0],.b 0,.c [1,1,1,1,1]] [(1,iv a1),(7,.slice Av_l7 nv_l7 cv_l7),(28,.slice Aa0_1 a0.Cases.length ca0_1),(29,iv (a0.Cases.length:Int)),(30,iv v30)] H (chv_l7::F)):∀ (H:Hp) (a0:Test) (Aa0_1:Option Addr) (ca0_1:Nat) (a1:Int) (v_l7:List TestCase) (Av_l7:Option Addr) (cv_l7:Nat) (chv_l7:Ch) (v30:Int) (x7:TestCase) (g6:Nat) (v_at10:Int) ,Rw kTestCase H F Aa0_1 a0.Cases→a0.Cases.length≤ca0_1→SlOwn kTestCase 40 H Av_l7 cv_l7 v_l7 chv_l7→smithyardref10_Shards.e10 backl9 a0 a1 v_l7 v30 x7 v_at10=some r→RunH C7 (S7 F H0 r) H0 w0 [.c [1,1,1,1,0,1,0,0,1,1,0,0,1,1,1],.b 1,.c [1,1,1,1,0,1,0,0,1,1,1],.l [1,1,1,1,0,1,0,0],.b 0,.c [1,1,1,1,1]] [(1,iv a1),(7,.slice Av_l7 v_l7.length cv_l7),(9,pg g6 0),(10,iv v_at10),(28,.slice Aa0_1 a0.Cases.length ca0_1),(29,iv (a0.Cases.length:Int)),(30,iv v30)] H ((some (g6,.cells #[.string x7.Name,iv x7.Seconds] 40 (0,0)))::chv_l7::F):=by
 intro H a0 Aa0_1 ca0_1 a1 v_l7 Av_l7 cv_l7 chv_l7 v30 x7 g6 v_at10 hra0_1 hca0_1 hov_l7 heq
 unfold smithyardref10_Shards.e10 at heq
 refine Sa 0<|Zv 3 (bxs 0) ?_
 refine RgH.does (DoesH.new (d:=54) (v:=fun g=>.slice (some ⟨g,0,none⟩) 1 1) (o:=fun g=>.cells #[.string x7.Name,iv x7.Seconds] 40 (0,0)) (fun g=>by kernel_rfl)) ?_
 rintro _ _ _ _ ⟨g7,rfl,rfl,rfl⟩
 have ho13:SlOwn kTestCase 40 H (some ⟨g7,0,none⟩) 1 ([x7]:List TestCase) (some (g7,.cells #[.string x7.Name,iv x7.Seconds] 40 (0,0))):=SlOwn.lit (xs:=([x7]:List TestCase)) (by kernel_rfl) (Nat.le_of_ble_eq_true (by kernel_rfl)) (Kd.Rep.one kTestCase_mk)
 refine Ug 3 [2,0,1] ?_
 obtain ⟨y4,hy4,heq⟩:=bind_some heq
 refine RgH.does (cal 55 (slices_Insert_TestCase_c (a0:=v_l7) (a1:=v_at10) (a2:=([x7]:List TestCase)) hov_l7 rfl ho13 rfl hy4)) ?_
 rintro _ _ _ _ ⟨_,rfl,A4,c4,ch9,rfl,rfl,rfl,ho14⟩
 refine Zd 6<|Sa 1<|Zd 2<|An 1 ?_
 exact Gt 2 [0] (hbackl9 _ a0 _ _ a1 y4 _ _ _ _ (w64 (v30+1)) hra0_1 hca0_1 ho14 rfl heq)
theorem smithyardref10_Shards.l11_c [GlobI 0 w0] {r:(List (List ByteArray)) × Int} (e10:Test→Int→(List TestCase)→Int→TestCase→Int→Option ((List (List ByteArray)) × Int))
  (he10:∀ (H:Hp) (a0:Test) (Aa0_1:Option Addr) (ca0_1:Nat) (a1:Int) (v_l7:List TestCase) (Av_l7:Option Addr) (cv_l7:Nat) (chv_l7:Ch) (v30:Int) (x7:TestCase) (g6:Nat) (v_at10:Int) ,Rw kTestCase H F Aa0_1 a0.Cases→a0.Cases.length≤ca0_1→SlOwn kTestCase 40 H Av_l7 cv_l7 v_l7 chv_l7→e10 a0 a1 v_l7 v30 x7 v_at10=some r→RunH C7 (S7 F H0 r) H0 w0 [.c [1,1,1,1,0,1,0,0,1,1,0,0,1,1,1],.b 1,.c [1,1,1,1,0,1,0,0,1,1,1],.l [1,1,1,1,0,1,0,0],.b 0,.c [1,1,1,1,1]] [(1,iv a1),(7,.slice Av_l7 v_l7.length cv_l7),(9,pg g6 0),(10,iv v_at10),(28,.slice Aa0_1 a0.Cases.length ca0_1),(29,iv (a0.Cases.length:Int)),(30,iv v30)] H ((some (g6,.cells #[.string x7.Name,iv x7.Seconds] 40 (0,0)))::chv_l7::F)):∀ (k:Nat),∀ (H:Hp) (a0:Test) (Aa0_1:Option Addr) (ca0_1:Nat) (a1:Int) (v_l7:List TestCase) (Av_l7:Option Addr) (cv_l7:Nat) (chv_l7:Ch) (v30:Int) (x7:TestCase) (g6:Nat) (v_at10:Int) ,Rw kTestCase H F Aa0_1 a0.Cases→a0.Cases.length≤ca0_1→SlOwn kTestCase 40 H Av_l7 cv_l7 v_l7 chv_l7→smithyardref10_Shards.l11 e10 k a0 a1 v_l7 v30 x7 v_at10=some r→RunH C7 (S7 F H0 r) H0 w0 [.c [1,1,1,1,0,1,0,0,1,1,0,0,1,1,0,0,0],.l [1,1,1,1,0,1,0,0,1,1,0,0,1,1,0,0,0],.b 2,.c [1,1,1,1,0,1,0,0,1,1,0,0,1,1,1],.b 1,.c [1,1,1,1,0,1,0,0,1,1,1],.l [1,1,1,1,0,1,0,0],.b 0,.c [1,1,1,1,1]] [(1,iv a1),(7,.slice Av_l7 v_l7.length cv_l7),(9,pg g6 0),(10,iv v_at10),(28,.slice Aa0_1 a0.Cases.length ca0_1),(29,iv (a0.Cases.length:Int)),(30,iv v30)] H ((some (g6,.cells #[.string x7.Name,iv x7.Seconds] 40 (0,0)))::chv_l7::F):=by
 intro k
 induction k with
 | zero=>intro H a0 Aa0_1 ca0_1 a1 v_l7 Av_l7 cv_l7 chv_l7 v30 x7 g6 v_at10 hra0_1 hca0_1 hov_l7 heq; exact nomatch (show (none:Option ((List (List ByteArray)) × Int))=some r from heq)
 | succ k ihk =>
  intro H a0 Aa0_1 ca0_1 a1 v_l7 Av_l7 cv_l7 chv_l7 v30 x7 g6 v_at10 hra0_1 hca0_1 hov_l7 heq
  rw [smithyardref10_Shards.l11] at heq
  refine An 2 ?_
  obtain ⟨t1,ht1,heq⟩:=bind_some heq
  have K20:∀ (H:Hp),Rw kTestCase H F Aa0_1 a0.Cases→SlOwn kTestCase 40 H Av_l7 cv_l7 v_l7 chv_l7→RunH C7 (S7 F H0 r) H0 w0 [.c [1,1,1,1,0,1,0,0,1,1,0,0,1,1,0,0,0,0,1],.c [1,1,1,1,0,1,0,0,1,1,0,0,1,1,0,0,0,1],.l [1,1,1,1,0,1,0,0,1,1,0,0,1,1,0,0,0],.b 2,.c [1,1,1,1,0,1,0,0,1,1,0,0,1,1,1],.b 1,.c [1,1,1,1,0,1,0,0,1,1,1],.l [1,1,1,1,0,1,0,0],.b 0,.c [1,1,1,1,1]] [(1,iv a1),(7,.slice Av_l7 v_l7.length cv_l7),(9,pg g6 0),(10,iv v_at10),(28,.slice Aa0_1 a0.Cases.length ca0_1),(29,iv (a0.Cases.length:Int)),(30,iv v30),(48,.bool t1)] H ((some (g6,.cells #[.string x7.Name,iv x7.Seconds] 40 (0,0)))::chv_l7::F):=by
   intro H hra0_1 hov_l7
   refine Cb heq ?_ ?_
   ·intro hb9 heq
    refine Sa 2<|Zd 3<|An 2 ?_
    exact Gt 0 [] (ihk _ a0 _ _ a1 v_l7 _ _ _ v30 x7 _ (w64 (v_at10 - 1)) hra0_1 hca0_1 hov_l7 heq)
   ·intro hb9 heq
    refine An 1 ?_
    exact Gt 0 [] (he10 _ a0 _ _ a1 v_l7 _ _ _ v30 x7 _ v_at10 hra0_1 hca0_1 hov_l7 heq)
  replace heq:=ht1
  refine Sd 0 13 [] [3,3,3,3,3,3,3,3,3,3,3,3,3]<|Zr [0,1,2] 10 [] (Pk 2 [0,1]) (Pk 2 [0,1]) ?_
  rcases bool_cases (decide (0<v_at10)) with hb8 | hb8
  ·replace heq:=bif_true hb8 heq
   refine Zu 38 (congrArg Value.bool hb8) ?_
   obtain ⟨x8,hx8,heq⟩:=bind_some heq
   obtain ⟨ha13,cs13,hK13,hcc13⟩:=hov_l7.get hx8
   obtain ⟨rfl⟩:=kTestCase_open hK13
   refine Zr [3,4,5,6,7,8,9,10,11,12] 0 [bx 0 1,nx ha13 hx8,el hcc13 1 1] (Pk 2 [0,1]) (Pk 2 [0,1]) ?_
   obtain rfl:=Option.some.inj heq
   refine DrH.done (by kernel_rfl) ?_
   exact Gt 0 [] (K20 _ hra0_1 hov_l7)
  ·replace heq:=bif_false hb8 heq
   refine Zu 38 (congrArg Value.bool hb8)<|Zr [3,4,5,6,7,8,9,10,11,12] 0 [] (Pk 2 [0,1]) (Pk 2 [0,1]) ?_
   obtain rfl:=Option.some.inj heq
   refine DrH.done (by kernel_rfl) ?_
   exact Gt 0 [] (K20 _ hra0_1 hov_l7)
theorem smithyardref10_Shards.l9_c [GlobI 0 w0] {r:(List (List ByteArray)) × Int} (e1:Int→(List TestCase)→Option ((List (List ByteArray)) × Int))
  (he1:∀ (H:Hp) (a1:Int) (v_l7:List TestCase) (Av_l7:Option Addr) (nv_l7 cv_l7:Nat) (chv_l7:Ch) ,SlOwn kTestCase 40 H Av_l7 cv_l7 v_l7 chv_l7→nv_l7=v_l7.length→e1 a1 v_l7=some r→RunH C7 (S7 F H0 r) H0 w0 [.c [1,1,1,1,1,0],.c [1,1,1,1,1,1]] [(1,iv a1),(7,.slice Av_l7 nv_l7 cv_l7)] H (chv_l7::F)):∀ (k:Nat),∀ (H:Hp) (a0:Test) (Aa0_1:Option Addr) (ca0_1:Nat) (a1:Int) (v_l7:List TestCase) (Av_l7:Option Addr) (nv_l7 cv_l7:Nat) (chv_l7:Ch) (v30:Int) ,Rw kTestCase H F Aa0_1 a0.Cases→a0.Cases.length≤ca0_1→SlOwn kTestCase 40 H Av_l7 cv_l7 v_l7 chv_l7→nv_l7=v_l7.length→smithyardref10_Shards.l9 e1 k a0 a1 v_l7 v30=some r→RunH C7 (S7 F H0 r) H0 w0 [.c [1,1,1,1,0,1,0,0],.l [1,1,1,1,0,1,0,0],.b 0,.c [1,1,1,1,1]] [(1,iv a1),(7,.slice Av_l7 nv_l7 cv_l7),(28,.slice Aa0_1 a0.Cases.length ca0_1),(29,iv (a0.Cases.length:Int)),(30,iv v30)] H (chv_l7::F):=by
 intro k
 induction k with
 | zero=>intro H a0 Aa0_1 ca0_1 a1 v_l7 Av_l7 nv_l7 cv_l7 chv_l7 v30 hra0_1 hca0_1 hov_l7 hnv_l7 heq; exact nomatch (show (none:Option ((List (List ByteArray)) × Int))=some r from heq)
 | succ k ihk =>
  intro H a0 Aa0_1 ca0_1 a1 v_l7 Av_l7 nv_l7 cv_l7 chv_l7 v30 hra0_1 hca0_1 hov_l7 hnv_l7 heq
  subst hnv_l7
  rw [smithyardref10_Shards.l9] at heq
  refine Sa 1<|Zd 1<|An 1 ?_
  refine Cb heq ?_ ?_
  ·intro hb7 heq
   refine Sa 4 ?_
   obtain ⟨x7,hx7,heq⟩:=bind_some heq
   obtain ⟨ha12,cs12,hK12,hcc12⟩:=hra0_1.get hx7
   obtain ⟨rfl⟩:=kTestCase_open hK12
   refine Zv 2 ([nx ha12 hx7]++ers hcc12 1) ?_
   refine RgH.does (DoesH.new (d:=9) (v:=fun g=>.pointer (some ⟨g,0,none⟩)) (o:=fun g=>.cells #[.string ByteArray.empty,iv 0] 40 (0,0)) (fun g=>by kernel_rfl)) ?_
   rintro _ _ _ _ ⟨g6,rfl,rfl,rfl⟩
   refine RgH.does (DoesH.store (k:=0) (g:=g6) (off:=0) (v:=.agg #[.string x7.Name,iv x7.Seconds]) (cells':=#[.string x7.Name,iv x7.Seconds]) (by kernel_rfl) rfl (by kernel_rfl) (by kernel_rfl)) ?_
   rintro _ _ _ _ ⟨rfl,rfl,rfl⟩
   refine RgH.nrm ?_
   refine Dn<|Sa 1<|Zd 3<|An 3 ?_
   exact Gt 0 [] (((smithyardref10_Shards.l11_c (e10:=smithyardref10_Shards.e10 ((smithyardref10_Shards.l9 e1 k))) (smithyardref10_Shards.e10_c (backl9:=(smithyardref10_Shards.l9 e1 k)) ihk)) big) _ a0 _ _ a1 v_l7 _ _ _ v30 x7 _ (v_l7.length:Int) hra0_1 hca0_1 hov_l7 heq)
  ·intro hb7 heq
   refine An 2 ?_
   exact Gt 0 [] (he1 _ a1 v_l7 _ _ _ _ hov_l7 rfl heq)
theorem smithyardref10_Shards_c [GlobI 0 w0] {a0:Test} {Aa0_1:Option Addr} {na0_1 ca0_1:Nat} {a1:Int} {r:(List (List ByteArray)) × Int} (heq:smithyardref10_Shards.f a0 a1=some r) (hra0_1:Rw kTestCase H0 F Aa0_1 a0.Cases) (hca0_1:na0_1≤ca0_1) (hna0_1:na0_1=a0.Cases.length):CallsH Tryd.prog 7 #[.agg #[.string a0.Name,.slice Aa0_1 na0_1 ca0_1],iv a1] H0 w0 (F) (S7 F H0 r):=by
 refine Co C7 Tryd.func7 Tryd.ntmps7 ?_
 subst hna0_1
 unfold smithyardref10_Shards.f at heq
 suffices key:∀ (H:Hp),Rw kTestCase H F Aa0_1 a0.Cases→RunH C7 (S7 F H0 r) H0 w0 [.c []] (argL 0 [.agg #[.string a0.Name,.slice Aa0_1 (a0.Cases.length) ca0_1],iv a1]) H (F) from key H0 hra0_1
 intro H hra0_1
 refine Sa 1 ?_
 refine RgH.does (DoesH.new (d:=2) (v:=fun g=>.pointer (some ⟨g,0,none⟩)) (o:=fun g=>.cells #[.string a0.Name,.slice Aa0_1 a0.Cases.length ca0_1] 24 (0,0)) (fun g=>by kernel_rfl)) ?_
 rintro _ _ _ _ ⟨g1,rfl,rfl,rfl⟩
 refine Zd 3<|Sa 2<|Zv 1 (bxs 0) ?_
 obtain ⟨y1,hy1,heq⟩:=bind_some heq
 refine RgH.does (cal 20 (smithyardref10_CheckTest_c hy1 (hra0_1.wk (fun _ h=>(.tail _ h))) hca0_1 rfl)) ?_
 rintro _ _ _ _ ⟨_,rfl,rfl,rfl,rfl⟩
 refine Zd 3<|Sa 1<|Zd 2 ?_
 refine Cb heq ?_ ?_
 ·intro hb1 heq
  refine Sa 1<|Zd 3<|RunH.nilc ?_
  have ho1:SlOwn (Kd.slice Kd.string) 41 H none 0 ([]:List (List ByteArray)) none:=SlOwn.nil
  obtain rfl:=Option.some.inj heq
  refine Up 2 [0] ?_
  exact RunH.done (by kernel_rfl) Tryd.func7 (v:=.tuple #[.slice none 0 0,iv y1]) (by kernel_rfl) ⟨none,0,none,rfl,rfl,ho1⟩
 ·intro hb1 heq
  refine Sa 3<|Zk 1 ?_
  obtain ⟨y2,hy2,heq⟩:=bind_some heq
  refine RgH.does (cal 25 (smithyardref10_within_c hy2 )) ?_
  rintro _ _ _ _ ⟨_,rfl,rfl,rfl,rfl⟩
  refine Zd 3 ?_
  refine Cb heq ?_ ?_
  ·intro hb2 heq
   refine Sa 1<|Zd 2<|RunH.nilc ?_
   have ho2:SlOwn (Kd.slice Kd.string) 41 H none 0 ([]:List (List ByteArray)) none:=SlOwn.nil
   obtain rfl:=Option.some.inj heq
   refine Up 2 [0] ?_
   exact RunH.done (by kernel_rfl) Tryd.func7 (v:=.tuple #[.slice none 0 0,iv 1]) (by kernel_rfl) ⟨none,0,none,rfl,rfl,ho2⟩
  ·intro hb2 heq
   refine Sa 2<|Zd 1<|Sa 2<|Zw 4 [bx 0 1]<|An 2<|RunH.nilc ?_
   have ho15:SlOwn kTestCase 40 H none 0 ([]:List TestCase) none:=SlOwn.nil
   exact Gt 2 [0] (((smithyardref10_Shards.l9_c (e1:=smithyardref10_Shards.e1) (smithyardref10_Shards.e1_c)) big) _ a0 _ _ a1 ([]:List TestCase) _ _ _ _ 0 hra0_1 hca0_1 ho15 rfl heq)
noncomputable def C30:Ctx:={ P:=Tryd.prog,f:=30,N:=26,c:=bodyOf Tryd.f30 }
def S30 (F:List Ch) (H0:Hp) (r:Bool) (v:Value) (H:Hp) (cs:List Ch):Prop:=H0=H∧v=.bool r∧F=cs
theorem slices_Equal_string.e1_c [GlobI 0 w0] {r:Bool}:slices_Equal_string.e1=some r→RunH C30 (S30 F H r) H w0 [.c [1,1,1,0],.c [1,1,1,1]] [] H (F):=by
 intro   heq
 unfold slices_Equal_string.e1 at heq
 refine Sa 0<|Zd 1 ?_
 obtain rfl:=Option.some.inj heq
 exact RunH.done (by kernel_rfl) Tryd.func30 (v:=.bool true) (by kernel_rfl) ⟨rfl,rfl,rfl⟩
theorem slices_Equal_string.l2_c [GlobI 0 w0] {r:Bool} (e1:Option Bool)
  (he1:e1=some r→RunH C30 (S30 F H r) H w0 [.c [1,1,1,0],.c [1,1,1,1]] [] H (F)):∀ (k:Nat),∀ (a0:List ByteArray) (Aa0:Option Addr) (ca0:Nat) (a1:List ByteArray) (Aa1:Option Addr) (ca1:Nat) (v13:Int) ,Rw Kd.string H F Aa0 a0→a0.length≤ca0→Rw Kd.string H F Aa1 a1→a1.length≤ca1→slices_Equal_string.l2 e1 k a0 a1 v13=some r→RunH C30 (S30 F H r) H w0 [.c [1,1,0,1,0,0],.l [1,1,0,1,0,0],.b 0,.c [1,1,1]] [(0,.slice Aa0 a0.length ca0),(1,.slice Aa1 a1.length ca1),(12,iv (a0.length:Int)),(13,iv v13)] H (F):=by
 intro k
 induction k with
 | zero=>intro a0 Aa0 ca0 a1 Aa1 ca1 v13 hra0 hca0 hra1 hca1 heq; exact nomatch (show (none:Option Bool)=some r from heq)
 | succ k ihk =>
  intro a0 Aa0 ca0 a1 Aa1 ca1 v13 hra0 hca0 hra1 hca1 heq
  rw [slices_Equal_string.l2] at heq
  refine Sa 1<|Zd 1<|An 1 ?_
  refine Cb heq ?_ ?_
  ·intro hb2 heq
   refine Sa 4<|Zd 2<|An 1<|Sd 0 9 [] [3,3,3,3,3,3,3,3,3] ?_
   obtain ⟨x1,hx1,heq⟩:=bind_some heq
   obtain ⟨ha1,cs1,hK1,hcc1⟩:=hra0.get hx1
   obtain rfl:cs1=[.string x1]:=hK1
   obtain ⟨x2,hx2,heq⟩:=bind_some heq
   obtain ⟨ha2,cs2,hK2,hcc2⟩:=hra1.get hx2
   obtain rfl:cs2=[.string x2]:=hK2
   refine Zr [0,1,2,3,4,5,6,7,8] 0 [nx ha1 hx1,er hcc1 0 0,nx ha2 hx2,er hcc2 0 0] (Pk 0 []) (Pk 0 []) ?_
   refine DrH.done (by kernel_rfl) ?_
   refine Cb heq ?_ ?_
   ·intro hb3 heq
    refine Sa 1<|Zd 1 ?_
    obtain rfl:=Option.some.inj heq
    exact RunH.done (by kernel_rfl) Tryd.func30 (v:=.bool false) (by kernel_rfl) ⟨rfl,rfl,rfl⟩
   ·intro hb3 heq
    refine Sa 2<|Zd 2<|An 1 ?_
    exact Gt 0 [] (ihk a0 _ _ a1 _ _ (w64 (v13+1)) hra0 hca0 hra1 hca1 heq)
  ·intro hb2 heq
   refine An 2 ?_
   exact Gt 0 [] (he1 heq)
theorem slices_Equal_string_c [GlobI 0 w0] {a0:List ByteArray} {Aa0:Option Addr} {na0 ca0:Nat} {a1:List ByteArray} {Aa1:Option Addr} {na1 ca1:Nat} {r:Bool} (heq:slices_Equal_string.f a0 a1=some r) (hra0:Rw Kd.string H F Aa0 a0) (hca0:na0≤ca0) (hna0:na0=a0.length) (hra1:Rw Kd.string H F Aa1 a1) (hca1:na1≤ca1) (hna1:na1=a1.length):CallsH Tryd.prog 30 #[.slice Aa0 na0 ca0,.slice Aa1 na1 ca1] H w0 (F) (S30 F H r):=by
 refine Co C30 Tryd.func30 Tryd.ntmps30 ?_
 subst hna0
 subst hna1
 unfold slices_Equal_string.f at heq
 refine Sa 1<|Zd 1<|Sa 2<|Zd 5 ?_
 refine Cb heq ?_ ?_
 ·intro hb1 heq
  refine Sa 1<|Zd 1 ?_
  obtain rfl:=Option.some.inj heq
  exact RunH.done (by kernel_rfl) Tryd.func30 (v:=.bool false) (by kernel_rfl) ⟨rfl,rfl,rfl⟩
 ·intro hb1 heq
  refine Sa 3<|Zd 3<|An 2 ?_
  exact Gt 0 [] (((slices_Equal_string.l2_c (e1:=slices_Equal_string.e1) (slices_Equal_string.e1_c)) big) a0 _ _ a1 _ _ 0 hra0 hca0 hra1 hca1 heq)
noncomputable def C10:Ctx:={ P:=Tryd.prog,f:=10,N:=27,c:=bodyOf Tryd.f10 }
def S10 (F:List Ch) (H0:Hp) (r:Bool) (v:Value) (H:Hp) (cs:List Ch):Prop:=H0=H∧v=.bool r∧F=cs
theorem smithyardref10_SameRows.e1_c [GlobI 0 w0] {r:Bool}:smithyardref10_SameRows.e1=some r→RunH C10 (S10 F H r) H w0 [.c [1,1,1,0],.c [1,1,1,1]] [] H (F):=by
 intro   heq
 unfold smithyardref10_SameRows.e1 at heq
 refine Sa 0<|Zd 1 ?_
 obtain rfl:=Option.some.inj heq
 exact RunH.done (by kernel_rfl) Tryd.func10 (v:=.bool true) (by kernel_rfl) ⟨rfl,rfl,rfl⟩
theorem smithyardref10_SameRows.l2_c [GlobI 0 w0] {r:Bool} (e1:Option Bool)
  (he1:e1=some r→RunH C10 (S10 F H r) H w0 [.c [1,1,1,0],.c [1,1,1,1]] [] H (F)):∀ (k:Nat),∀ (a0:List (List ByteArray)) (Aa0:Option Addr) (ca0:Nat) (a1:List (List ByteArray)) (Aa1:Option Addr) (ca1:Nat) (v13:Int) ,Rw (Kd.slice Kd.string) H F Aa0 a0→a0.length≤ca0→Rw (Kd.slice Kd.string) H F Aa1 a1→a1.length≤ca1→smithyardref10_SameRows.l2 e1 k a0 a1 v13=some r→RunH C10 (S10 F H r) H w0 [.c [1,1,0,1,0,0],.l [1,1,0,1,0,0],.b 0,.c [1,1,1]] [(0,.slice Aa0 a0.length ca0),(1,.slice Aa1 a1.length ca1),(12,iv (a0.length:Int)),(13,iv v13)] H (F):=by
 intro k
 induction k with
 | zero=>intro a0 Aa0 ca0 a1 Aa1 ca1 v13 hra0 hca0 hra1 hca1 heq; exact nomatch (show (none:Option Bool)=some r from heq)
 | succ k ihk =>
  intro a0 Aa0 ca0 a1 Aa1 ca1 v13 hra0 hca0 hra1 hca1 heq
  rw [smithyardref10_SameRows.l2] at heq
  refine Sa 1<|Zd 1<|An 1 ?_
  refine Cb heq ?_ ?_
  ·intro hb2 heq
   refine Sa 4<|Zd 2<|An 1<|Sd 0 10 [] [3,3,3,3,3,3,3,3,0,3] ?_
   obtain ⟨x1,hx1,heq⟩:=bind_some heq
   obtain ⟨ha1,cs1,hK1,hcc1⟩:=hra0.get hx1
   obtain ⟨A1,c1,rfl,hc1,hr1⟩:=hK1
   obtain ⟨x2,hx2,heq⟩:=bind_some heq
   obtain ⟨ha2,cs2,hK2,hcc2⟩:=hra1.get hx2
   obtain ⟨A2,c2,rfl,hc2,hr2⟩:=hK2
   refine Zr [0,1,2,3,4,5,6,7] 2 [nx ha1 hx1,er hcc1 0 0,nx ha2 hx2,er hcc2 0 0] (Pk 0 []) (Pk 0 []) ?_
   obtain ⟨y1,hy1,heq⟩:=bind_some heq
   refine Dz 8 (cal 24 (slices_Equal_string_c hy1 (Rw.of hr1) hc1 rfl (Rw.of hr2) hc2 rfl)) ?_
   rintro _ _ _ _ ⟨_,rfl,rfl,rfl,rfl⟩
   refine ⟨fun _ w hh=>⟨fun _=>(Pk 0 []) w hh,fun _=>(Pk 0 []) w hh,(fun h=>by cases h)⟩,?_⟩
   refine Zr [9] 0 [] (Pk 0 []) (Pk 0 []) ?_
   refine DrH.done (by kernel_rfl) ?_
   refine Cb heq ?_ ?_
   ·intro hb3 heq
    refine Sa 1<|Zd 1 ?_
    obtain rfl:=Option.some.inj heq
    exact RunH.done (by kernel_rfl) Tryd.func10 (v:=.bool false) (by kernel_rfl) ⟨rfl,rfl,rfl⟩
   ·intro hb3 heq
    refine Sa 2<|Zd 2<|An 1 ?_
    exact Gt 0 [] (ihk a0 _ _ a1 _ _ (w64 (v13+1)) hra0 hca0 hra1 hca1 heq)
  ·intro hb2 heq
   refine An 2 ?_
   exact Gt 0 [] (he1 heq)
theorem smithyardref10_SameRows_c [GlobI 0 w0] {a0:List (List ByteArray)} {Aa0:Option Addr} {na0 ca0:Nat} {a1:List (List ByteArray)} {Aa1:Option Addr} {na1 ca1:Nat} {r:Bool} (heq:smithyardref10_SameRows.f a0 a1=some r) (hra0:Rw (Kd.slice Kd.string) H F Aa0 a0) (hca0:na0≤ca0) (hna0:na0=a0.length) (hra1:Rw (Kd.slice Kd.string) H F Aa1 a1) (hca1:na1≤ca1) (hna1:na1=a1.length):CallsH Tryd.prog 10 #[.slice Aa0 na0 ca0,.slice Aa1 na1 ca1] H w0 (F) (S10 F H r):=by
 refine Co C10 Tryd.func10 Tryd.ntmps10 ?_
 subst hna0
 subst hna1
 unfold smithyardref10_SameRows.f at heq
 refine Sa 1<|Zd 1<|Sa 2<|Zd 5 ?_
 refine Cb heq ?_ ?_
 ·intro hb1 heq
  refine Sa 1<|Zd 1 ?_
  obtain rfl:=Option.some.inj heq
  exact RunH.done (by kernel_rfl) Tryd.func10 (v:=.bool false) (by kernel_rfl) ⟨rfl,rfl,rfl⟩
 ·intro hb1 heq
  refine Sa 3<|Zd 3<|An 2 ?_
  exact Gt 0 [] (((smithyardref10_SameRows.l2_c (e1:=smithyardref10_SameRows.e1) (smithyardref10_SameRows.e1_c)) big) a0 _ _ a1 _ _ 0 hra0 hca0 hra1 hca1 heq)
end Go.Proofs.YtedkdnhhohcocaaDoor
