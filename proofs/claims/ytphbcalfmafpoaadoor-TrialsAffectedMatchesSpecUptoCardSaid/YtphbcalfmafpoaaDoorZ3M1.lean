/- What the machine's calls of these functions come to: just what the plain functions say. Written by program. -/
import Derived.Test.YtphbcalfmafpoaaDoorProg
import Derived.Test.YtphbcalfmafpoaaDoorKitW
import Derived.Test.YtphbcalfmafpoaaDoorZD
import Derived.Test.YtphbcalfmafpoaaDoorShelf
set_option linter.unusedVariables false
set_option linter.unusedSimpArgs false
set_option maxRecDepth 100000
set_option maxHeartbeats 1000000
namespace Go.Proofs.YtphbcalfmafpoaaDoor
open Go Go.RowKit Go.Proofs.YtphbcalfmafpoaaDoor.Kit
def kTestReads:Kd TestReads:=Kd.iso ((Kd.pair Kd.string (Kd.pair (Kd.slice Kd.string) (Kd.slice Kd.string)))) (fun x=>(x.Test,x.Paths,x.Looked))
theorem kTestReads_open {H:Hp} {x:TestReads} {c:List Value} (h:kTestReads.K H x c):∃ A1 c1,∃ A2 c2,c=[.string x.Test,.slice A1 x.Paths.length c1,.slice A2 x.Looked.length c2]∧x.Paths.length≤c1∧Kd.Row Kd.string H A1 x.Paths∧x.Looked.length≤c2∧Kd.Row Kd.string H A2 x.Looked:=by
 obtain ⟨p0,q0,rfl,g0,h0⟩:=h
 obtain rfl:p0=[_]:=g0
 obtain ⟨p1,q1,rfl,g1,h1⟩:=h0
 obtain ⟨A1,c1,rfl,u1,v1⟩:=g1
 obtain ⟨A2,c2,rfl,u2,v2⟩:=h1
 exact ⟨A1,c1,A2,c2,rfl,u1,v1,u2,v2⟩
theorem kTestReads_mk {H:Hp} {x:TestReads} {A1:Option Addr} {c1:Nat} {A2:Option Addr} {c2:Nat} (u1:x.Paths.length≤c1) (v1:Kd.Row Kd.string H A1 x.Paths) (u2:x.Looked.length≤c2) (v2:Kd.Row Kd.string H A2 x.Looked):kTestReads.K H x [.string x.Test,.slice A1 x.Paths.length c1,.slice A2 x.Looked.length c2]:=⟨[.string x.Test],[.slice A1 x.Paths.length c1,.slice A2 x.Looked.length c2],rfl,rfl,⟨[.slice A1 x.Paths.length c1],[.slice A2 x.Looked.length c2],rfl,⟨A1,c1,rfl,u1,v1⟩,⟨A2,c2,rfl,u2,v2⟩⟩⟩
def kTreeChange:Kd TreeChange:=Kd.iso ((Kd.pair Kd.string (Kd.int .i64))) (fun x=>(x.Path,x.Kind))
theorem kTreeChange_open {H:Hp} {x:TreeChange} {c:List Value} (h:kTreeChange.K H x c):c=[.string x.Path,iv x.Kind]:=by
 obtain ⟨p0,q0,rfl,g0,h0⟩:=h
 obtain rfl:p0=[_]:=g0
 obtain rfl:q0=[_]:=h0
 rfl
theorem kTreeChange_mk {H:Hp} {x:TreeChange}:kTreeChange.K H x [.string x.Path,iv x.Kind]:=⟨[.string x.Path],[iv x.Kind],rfl,rfl,rfl⟩
def ktrials_changes:Kd trials_changes:=Kd.iso ((Kd.pair (Kd.map Value.string Kd.bool false) (Kd.pair (Kd.map Value.string Kd.bool false) (Kd.map Value.string Kd.bool false)))) (fun x=>(x.other,x.fresh,x.over))
theorem ktrials_changes_open {H:Hp} {x:trials_changes} {c:List Value} (h:ktrials_changes.K H x c):∃ A0,∃ A1,∃ A2,c=[.map A0,.map A1,.map A2]∧MRow Value.string Kd.bool false H A0 x.other∧MRow Value.string Kd.bool false H A1 x.fresh∧MRow Value.string Kd.bool false H A2 x.over:=by
 obtain ⟨p0,q0,rfl,g0,h0⟩:=h
 obtain ⟨A0,rfl,v0⟩:=g0
 obtain ⟨p1,q1,rfl,g1,h1⟩:=h0
 obtain ⟨A1,rfl,v1⟩:=g1
 obtain ⟨A2,rfl,v2⟩:=h1
 exact ⟨A0,A1,A2,rfl,v0,v1,v2⟩
theorem ktrials_changes_mk {H:Hp} {x:trials_changes} {A0:Option Nat} {A1:Option Nat} {A2:Option Nat} (v0:MRow Value.string Kd.bool false H A0 x.other) (v1:MRow Value.string Kd.bool false H A1 x.fresh) (v2:MRow Value.string Kd.bool false H A2 x.over):ktrials_changes.K H x [.map A0,.map A1,.map A2]:=⟨[.map A0],[.map A1,.map A2],rfl,⟨A0,rfl,v0⟩,⟨[.map A1],[.map A2],rfl,⟨A1,rfl,v1⟩,⟨A2,rfl,v2⟩⟩⟩
noncomputable def C14:Ctx:={ P:=Tryd.prog,f:=14,N:=8,c:=bodyOf Tryd.f14 }
def S14 (F:List Ch) (H0:Hp) (r:List ByteArray) (v:Value) (H:Hp) (cs:List Ch):Prop:=∃ (A0:Option Addr) (c0:Nat) (ch0:Ch),H0=H∧v=.slice A0 r.length c0∧ch0::F=cs∧SlOwn Kd.string 9 H A0 c0 r ch0
theorem slices_Clone_string_c {w0:World} [GlobI 0 w0] {H:Hp} {F:List Ch} {a0:List ByteArray} {Aa0:Option Addr} {na0 ca0:Nat} {r:List ByteArray} (hra0:Rw Kd.string H F Aa0 a0) (hca0:na0≤ca0) (hna0:na0=a0.length) (heq:slices_Clone_string.f a0=some r):CallsH Tryd.prog 14 #[.slice Aa0 na0 ca0] H w0 F (S14 F H r):=by
 refine calls_of_runH (F:=C14) Tryd.func14 (by kernel_rfl) Tryd.ntmps14 (args:=[.slice Aa0 na0 ca0]) (by kernel_rfl) ?_
 subst hna0
 unfold slices_Clone_string.f at heq
 obtain ⟨hn,heq⟩:=guard?_some heq
 obtain rfl:=Option.some.inj heq
 refine Ra 1 [0] [.c [1]]<|Rd 1 [0] [(0,.slice Aa0 a0.length ca0)]<|Ra 2 [1,0,0] [.c [1,0,1],.c [1,1]] ?_
 cases Aa0 with
 | none =>
  have h0:a0=[]:=by
   cases a0 with
   | nil=>rfl
   | cons x xs=>obtain ⟨b,off,cs,e,fr,hA,_⟩:=hra0 (by simp); cases hA
  subst h0
  refine Rd 2 [4] [(4,.bool true)]<|Ct true rfl<|Ra 1 [1,0,1,0,0] [.c [1,0,1,0,1],.c [1,1]]<|Rd 1 [2] [(2,.slice none 0 0)]<|RunH.nilc ?_
  exact RunH.done (by kernel_rfl) Tryd.func14 (v:=.slice none ([]:List ByteArray).length 0) (by kernel_rfl) ⟨none,0,none,rfl,rfl,rfl,SlOwn.nil⟩
 | some ad =>
  refine Rd 2 [0,4] [(0,.slice (some ad) a0.length ca0),(4,.bool false)]<|Cf false rfl<|Ra 2 [1,1,0] [.c [1,1,1]] ?_
  refine RgH.does (DoesH.new (d:=5) (v:=fun g=>.slice (some ⟨g,0,none⟩) 0 0) (o:=fun g=>.cells #[] 9 (0,0)) (fun g=>by kernel_rfl)) ?_
  rintro _ _ _ _ ⟨g,rfl,rfl,rfl⟩
  have ho:SlOwn Kd.string 9 H (some ⟨g,0,none⟩) 0 ([]:List ByteArray) (some (g,.cells #[] 9 (0,0))):=.inr ⟨g,0,#[],rfl,rfl,by simp,by simp [maxLen],by simp,Kd.Rep.nil⟩
  refine Rk 2 [5,6] [(5,.slice (some ⟨g,0,none⟩) 0 0),(6,.slice (some ad) a0.length ca0)] ?_
  refine RgH.does (DoesH.append (d:=7) (k:=0) (t:=28) (e:=9) (bytes:=16) (kd:=Kd.string) (n:=0) (m:=a0.length) (xs:=([]:List ByteArray)) (ys:=a0) (A:=some ⟨g,0,none⟩) (B:=some ad) (c:=0) (cB:=ca0) (by kernel_rfl) rfl rfl (by kernel_rfl) rfl ho (fun w hh=>hra0.rdb (hh.drop 1)) (room_le hn) (by have:=room_le hn; omega)) ?_
  rintro _ _ _ _ ⟨A1,c1,ch1,rfl,rfl,rfl,ho1⟩
  refine Rd 4 [2] [(2,.slice A1 (([]:List ByteArray)++a0).length c1)] ?_
  exact RunH.done (by kernel_rfl) Tryd.func14 (v:=.slice A1 (([]:List ByteArray)++a0).length c1) (by kernel_rfl) ⟨A1,c1,ch1,rfl,rfl,rfl,ho1⟩
noncomputable def C4:Ctx:={ P:=Tryd.prog,f:=4,N:=26,c:=bodyOf Tryd.f4 }
def S4 (F:List Ch) (H0:Hp) (r:(List TestReads)) (v:Value) (H:Hp) (cs:List Ch):Prop:=∃ (A0:Option Addr) (c0:Nat) (ch0:Ch),v=.slice A0 r.length c0∧ch0::F=cs∧SlOwn kTestReads 39 H A0 c0 r ch0
theorem smithyardref10_CopyReads.e1_c {w0:World} [GlobI 0 w0] {H0:Hp} {F:List Ch} {r:(List TestReads)}:∀ (H:Hp) (v_out3:List TestReads) (Av_out3:Option Addr) (nv_out3:Nat) (cv_out3:Nat) (chv_out3:Ch) ,SlOwn kTestReads 39 H Av_out3 cv_out3 v_out3 chv_out3→nv_out3=v_out3.length→smithyardref10_CopyReads.e1 v_out3=some r→RunH C4 (S4 F H0 r) H0 w0 [.c [1,1,1,0],.c [1,1,1,1]] [(3,.slice Av_out3 nv_out3 cv_out3)] H (chv_out3::F):=by
 intro H v_out3 Av_out3 nv_out3 cv_out3 chv_out3 hov_out3 hnv_out3 heq
 subst hnv_out3
 unfold smithyardref10_CopyReads.e1 at heq
 refine Rr<|Rd 2 [2] [(2,.slice Av_out3 v_out3.length cv_out3)] ?_
 obtain rfl:=Option.some.inj heq
 exact RunH.done (by kernel_rfl) Tryd.func4 (v:=.slice Av_out3 v_out3.length cv_out3) (by kernel_rfl) ⟨Av_out3,cv_out3,chv_out3,rfl,rfl,hov_out3⟩
theorem smithyardref10_CopyReads.l2_c {w0:World} [GlobI 0 w0] {H0:Hp} {F:List Ch} {r:(List TestReads)} (e1:(List TestReads)→Option (List TestReads))
  (he1:∀ (H:Hp) (v_out3:List TestReads) (Av_out3:Option Addr) (nv_out3:Nat) (cv_out3:Nat) (chv_out3:Ch) ,SlOwn kTestReads 39 H Av_out3 cv_out3 v_out3 chv_out3→nv_out3=v_out3.length→e1 v_out3=some r→RunH C4 (S4 F H0 r) H0 w0 [.c [1,1,1,0],.c [1,1,1,1]] [(3,.slice Av_out3 nv_out3 cv_out3)] H (chv_out3::F)):∀ (k:Nat),∀ (H:Hp) (a0:List TestReads) (Aa0:Option Addr) (ca0:Nat) (v_out3:List TestReads) (Av_out3:Option Addr) (nv_out3:Nat) (cv_out3:Nat) (chv_out3:Ch) (v8:Int) ,Rw kTestReads H F Aa0 a0→a0.length≤ca0→SlOwn kTestReads 39 H Av_out3 cv_out3 v_out3 chv_out3→nv_out3=v_out3.length→smithyardref10_CopyReads.l2 e1 k a0 v_out3 v8=some r→RunH C4 (S4 F H0 r) H0 w0 [.c [1,1,0,1,0,0],.l [1,1,0,1,0,0],.b 0,.c [1,1,1]] [(3,.slice Av_out3 nv_out3 cv_out3),(6,.slice Aa0 a0.length ca0),(7,iv (a0.length:Int)),(8,iv v8)] H (chv_out3::F):=by
 intro k
 induction k with
 | zero=>intro H a0 Aa0 ca0 v_out3 Av_out3 nv_out3 cv_out3 chv_out3 v8 hra0 hca0 hov_out3 hnv_out3 heq; exact nomatch (show (none:Option (List TestReads))=some r from heq)
 | succ k ihk =>
  intro H a0 Aa0 ca0 v_out3 Av_out3 nv_out3 cv_out3 chv_out3 v8 hra0 hca0 hov_out3 hnv_out3 heq
  subst hnv_out3
  rw [smithyardref10_CopyReads.l2] at heq
  refine Ra 1 [1,1,0,1,0,0,0] [.c [1,1,0,1,0,0,1],.l [1,1,0,1,0,0],.b 0,.c [1,1,1]]<|Rd 1 [3,6,7,8,9] [(3,.slice Av_out3 v_out3.length cv_out3),(6,.slice Aa0 a0.length ca0),(7,iv (a0.length:Int)),(8,iv v8),(9,.bool (decide (v8<(a0.length:Int))))]<|Ad 1 [.c [1,1,0,1,0,0,1,0],.c [1,1,0,1,0,0,1,1],.l [1,1,0,1,0,0],.b 0,.c [1,1,1]] ?_
  rcases bool_cases (decide (v8<(a0.length:Int))) with hb1 | hb1
  ·replace heq:=bif_true hb1 heq
   refine Ct (decide (v8<(a0.length:Int))) hb1<|Ra 4 [1,1,0,1,0,0,1,1,0,0,0] [.c [1,1,0,1,0,0,1,1,0,0,1],.b 1,.c [1,1,0,1,0,0,1,1,1],.l [1,1,0,1,0,0],.b 0,.c [1,1,1]] ?_
   obtain ⟨x1,hx1,heq⟩:=bind_some heq
   obtain ⟨ha1,cs1,hK1,hcc1⟩:=hra0.get hx1
   obtain ⟨A1,c1,A2,c2,rfl,hc1,hr1,hc2,hr2⟩:=kTestReads_open hK1
   refine Rv 2 [3,6,7,8,11] [.string x1.Test,.slice A1 x1.Paths.length c1,.slice A2 x1.Looked.length c2] [.need (Aa0=some (adr Aa0)∧(0:Int)≤v8∧v8<((a0.length:Nat):Int)),.load (((adr Aa0).add (v8.toNat*3)).add 0) (.string x1.Test),.load (((adr Aa0).add (v8.toNat*3)).add 1) (.slice A1 x1.Paths.length c1),.load (((adr Aa0).add (v8.toNat*3)).add 2) (.slice A2 x1.Looked.length c2)] [(3,.slice Av_out3 v_out3.length cv_out3),(6,.slice Aa0 a0.length ca0),(7,iv (a0.length:Int)),(8,iv v8),(11,.agg #[.string x1.Test,.slice A1 x1.Paths.length c1,.slice A2 x1.Looked.length c2])] (fun w hh=>⟨⟨ha1,(at?_some hx1).1,(at?_some hx1).2.1⟩,(hcc1 _ _ (hh.drop 1) 0 _ rfl),(hcc1 _ _ (hh.drop 1) 1 _ rfl),(hcc1 _ _ (hh.drop 1) 2 _ rfl)⟩) ?_
   refine RgH.does (DoesH.new (d:=5) (v:=fun g=>.pointer (some ⟨g,0,none⟩)) (o:=fun g=>.cells #[.string ByteArray.empty,.slice none 0 0,.slice none 0 0] 39 (0,0)) (fun g=>by kernel_rfl)) ?_
   rintro _ _ _ _ ⟨g1,rfl,rfl,rfl⟩
   refine RgH.does (DoesH.store (k:=0) (g:=g1) (off:=0) (v:=.agg #[.string x1.Test,.slice A1 x1.Paths.length c1,.slice A2 x1.Looked.length c2]) (cells':=#[.string x1.Test,.slice A1 x1.Paths.length c1,.slice A2 x1.Looked.length c2]) (by kernel_rfl) rfl (by kernel_rfl) (by kernel_rfl)) ?_
   rintro _ _ _ _ ⟨rfl,rfl,rfl⟩
   refine Dn<|Kp [3,5,6,7,8] [(3,.slice Av_out3 v_out3.length cv_out3),(5,pg g1 0),(6,.slice Aa0 a0.length ca0),(7,iv (a0.length:Int)),(8,iv v8)] ?_
   refine RunH.draw (fun w=>Heap H w0 w ((some (g1,.cells #[.string x1.Test,.slice A1 x1.Paths.length c1,.slice A2 x1.Looked.length c2] 39 (0,0)))::chv_out3::F)) (fun w=>Heap H w0 w ((some (g1,.cells #[.string x1.Test,.slice A1 x1.Paths.length c1,.slice A2 x1.Looked.length c2] 39 (0,0)))::F)) [3,3,3,3,3,0,3,3,0,3,0,1,3] (n:=13) (ls:=[false,false,false,false,false,false,false,false,false,false,false,false,false]) (by kernel_rfl) (by kernel_rfl) (by kernel_rfl) rfl ?_
   refine Dk [0] 12 (nb 13 1) [] [] [3,5,6,7,8,12] [(3,.slice Av_out3 v_out3.length cv_out3),(5,pg g1 0),(6,.slice Aa0 a0.length ca0),(7,iv (a0.length:Int)),(8,iv v8),(12,.slice Av_out3 v_out3.length cv_out3)] (Pk 2 [0,1]) (Pk 2 [0]) (fun _ _=>trivial)<|De [1,2,3,4,6,7] 6 (nb 13 223) [.string x1.Test,.slice A1 x1.Paths.length c1,.slice A2 x1.Looked.length c2] [.load ⟨g1,0,none⟩ (.string x1.Test),.load ⟨g1,1,none⟩ (.slice A1 x1.Paths.length c1),.load ⟨g1,2,none⟩ (.slice A2 x1.Looked.length c2)] [3,6,7,8,12,14,16,19] [(3,.slice Av_out3 v_out3.length cv_out3),(6,.slice Aa0 a0.length ca0),(7,iv (a0.length:Int)),(8,iv v8),(12,.slice Av_out3 v_out3.length cv_out3),(14,.string x1.Test),(16,.slice A1 x1.Paths.length c1),(19,.slice A2 x1.Looked.length c2)] (Pk 2 [0]) (fun w hh=>⟨(hh.box 0 rfl rfl),(hh.box 0 rfl rfl),(hh.box 0 rfl rfl)⟩) ?_
   obtain ⟨y1,hy1,heq⟩:=bind_some heq
   refine DrH.does (n:=5) (ls':=[true,true,true,true,true,true,true,true,false,false,false,false,false]) 5 (by kernel_rfl) rfl (DoesH.call (d:=17) (g:=14) (args:=#[.slice A1 x1.Paths.length c1]) (by kernel_rfl) (slices_Clone_string_c (a0:=x1.Paths) (Rw.of hr1) hc1 rfl hy1)) ?_
   rintro _ _ _ _ ⟨_,rfl,A3,c3,ch1,rfl,rfl,rfl,ho1⟩
   refine ⟨fun _ w hh=>⟨fun _=>(Pk 3 [1,2]) w hh,fun _=>(Pk 3 [1]) w hh,(fun h=>by cases h)⟩,?_⟩
   refine Kr [3,6,7,8,12,14,17,19] [(3,.slice Av_out3 v_out3.length cv_out3),(6,.slice Aa0 a0.length ca0),(7,iv (a0.length:Int)),(8,iv v8),(12,.slice Av_out3 v_out3.length cv_out3),(14,.string x1.Test),(17,.slice A3 y1.length c3),(19,.slice A2 x1.Looked.length c2)] ?_
   obtain ⟨y2,hy2,heq⟩:=bind_some heq
   refine DrH.does (n:=4) (ls':=[true,true,true,true,true,true,true,true,true,false,false,false,false]) 8 (by kernel_rfl) rfl (DoesH.call (d:=20) (g:=14) (args:=#[.slice A2 x1.Looked.length c2]) (by kernel_rfl) (slices_Clone_string_c (a0:=x1.Looked) (Rw.of hr2) hc2 rfl hy2)) ?_
   rintro _ _ _ _ ⟨_,rfl,A4,c4,ch2,rfl,rfl,rfl,ho2⟩
   refine ⟨fun _ w hh=>⟨fun _=>(Pk 4 [2,3]) w hh,fun _=>(Pk 4 [2]) w hh,(fun h=>by cases h)⟩,?_⟩
   refine De [9] 3 (nb 13 1023) [] [] [3,6,7,8,12,21] [(3,.slice Av_out3 v_out3.length cv_out3),(6,.slice Aa0 a0.length ca0),(7,iv (a0.length:Int)),(8,iv v8),(12,.slice Av_out3 v_out3.length cv_out3),(21,.agg #[.string x1.Test,.slice A3 y1.length c3,.slice A4 y2.length c4])] (Pk 4 [2]) (fun _ _=>trivial) ?_
   refine DrH.pick 4 [1,0,2,3] (cs':=ch1::ch2::(some (g1,.cells #[.string x1.Test,.slice A1 x1.Paths.length c1,.slice A2 x1.Looked.length c2] 39 (0,0)))::chv_out3::F) (by kernel_rfl) rfl ?_
   have hc3:=ho1.cap
   refine DrH.freezeS ho1 (fun H hl hr3=>?_)
   have hle:=hl
   replace hov_out3:=hov_out3.mono hl
   replace hra0:=hra0.mono hl
   replace ho2:=ho2.mono hl
   have hc4:=ho2.cap
   refine DrH.freezeS ho2 (fun H hl hr4=>?_)
   replace hle:=hle.then hl
   replace hov_out3:=hov_out3.mono hl
   replace hra0:=hra0.mono hl
   replace hr3:=hr3.mono hl
   refine DrH.does (n:=2) (ls':=[true,true,true,true,true,true,true,true,true,true,true,false,false]) 10 (by kernel_rfl) rfl (DoesH.new (d:=22) (v:=fun g=>.slice (some ⟨g,0,none⟩) 1 1) (o:=fun g=>.cells #[.string x1.Test,.slice A3 y1.length c3,.slice A4 y2.length c4] 39 (0,0)) (fun g=>by kernel_rfl)) ?_
   rintro _ _ _ _ ⟨g2,rfl,rfl,rfl⟩
   have ho3:SlOwn kTestReads 39 H (some ⟨g2,0,none⟩) 1 ([(⟨x1.Test,y1,y2⟩:TestReads)]:List TestReads) (some (g2,.cells #[.string x1.Test,.slice A3 y1.length c3,.slice A4 y2.length c4] 39 (0,0))):=SlOwn.lit (xs:=([(⟨x1.Test,y1,y2⟩:TestReads)]:List TestReads)) (by kernel_rfl) (Nat.le_of_ble_eq_true (by kernel_rfl)) (Kd.Rep.one (kTestReads_mk hc3 hr3 hc4 hr4))
   refine ⟨fun _ w hh=>⟨fun _=>(fun w hh=>(hh.le hle).pick 3 [1,2] (by kernel_rfl)) w hh,fun _=>(fun w hh=>(hh.le hle).pick 3 [1] (by kernel_rfl)) w hh,(fun h=>by cases h)⟩,?_⟩
   refine Kr [3,6,7,8,12,22] [(3,.slice Av_out3 v_out3.length cv_out3),(6,.slice Aa0 a0.length ca0),(7,iv (a0.length:Int)),(8,iv v8),(12,.slice Av_out3 v_out3.length cv_out3),(22,.slice (some ⟨g2,0,none⟩) 1 1)] ?_
   obtain ⟨hn1,heq⟩:=guard?_some heq
   refine DrH.does (n:=1) (ls':=[true,true,true,true,true,true,true,true,true,true,true,true,false]) 11 (by kernel_rfl) rfl (DoesH.append (d:=23) (k:=2) (t:=22) (e:=39) (bytes:=64) (kd:=kTestReads) (n:=v_out3.length) (m:=1) (xs:=v_out3) (ys:=([(⟨x1.Test,y1,y2⟩:TestReads)]:List TestReads)) (A:=Av_out3) (B:=(some ⟨g2,0,none⟩)) (c:=cv_out3) (cB:=1) (by kernel_rfl) rfl rfl (by kernel_rfl) rfl hov_out3 (fun w hh=>ho3.rdb (hh.chin 0 rfl)) (room_le hn1) (by have:=room_le hn1; omega)) ?_
   rintro _ _ _ _ ⟨A5,c5,ch3,rfl,rfl,rfl,ho4⟩
   refine ⟨fun _ w hh=>⟨(fun h=>by cases h),fun _=>(fun w hh=>(hh.le hle).pick 3 [1] (by kernel_rfl)) w hh,(fun h=>by cases h)⟩,?_⟩
   refine Kr [23,6,7,8,22] [(23,.slice A5 ((v_out3++([(⟨x1.Test,y1,y2⟩:TestReads)]:List TestReads)).length) c5),(6,.slice Aa0 a0.length ca0),(7,iv (a0.length:Int)),(8,iv v8),(22,.slice (some ⟨g2,0,none⟩) 1 1)]<|De [12] 0 (nb 13 8191) [] [] [3,6,7,8] [(3,.slice A5 ((v_out3++([(⟨x1.Test,y1,y2⟩:TestReads)]:List TestReads)).length) c5),(6,.slice Aa0 a0.length ca0),(7,iv (a0.length:Int)),(8,iv v8)] (fun w hh=>(hh.le hle).pick 3 [1] (by kernel_rfl)) (fun _ _=>trivial) ?_
   refine DrH.done (by kernel_rfl) ?_
   refine Ra 1 [1,1,0,1,0,0,1,1,1] [.l [1,1,0,1,0,0],.b 0,.c [1,1,1]]<|Rd 2 [3,6,7,8] [(3,.slice A5 ((v_out3++([(⟨x1.Test,y1,y2⟩:TestReads)]:List TestReads)).length) c5),(6,.slice Aa0 a0.length ca0),(7,iv (a0.length:Int)),(8,iv (w64 (v8+1)))]<|Ad 1 [.c [1,1,0,1,0,0],.l [1,1,0,1,0,0],.b 0,.c [1,1,1]]<|Kp [3,6,7,8] [(3,.slice A5 ((v_out3++([(⟨x1.Test,y1,y2⟩:TestReads)]:List TestReads)).length) c5),(6,.slice Aa0 a0.length ca0),(7,iv (a0.length:Int)),(8,iv (w64 (v8+1)))] ?_
   refine RunH.pick 3 [2] (cs':=ch3::F) (by kernel_rfl) rfl ?_
   exact ihk _ a0 _ _ (v_out3++([(⟨x1.Test,y1,y2⟩:TestReads)]:List TestReads)) _ _ _ _ (w64 (v8+1)) hra0 hca0 ho4 rfl heq
  ·replace heq:=bif_false hb1 heq
   refine Cf (decide (v8<(a0.length:Int))) hb1<|Ad 2 [.c [1,1,1,0],.c [1,1,1,1]]<|Kp [3] [(3,.slice Av_out3 v_out3.length cv_out3)] ?_
   exact he1 _ v_out3 _ _ _ _ hov_out3 rfl heq
theorem smithyardref10_CopyReads_c {w0:World} [GlobI 0 w0] {H0:Hp} {F:List Ch} {a0:List TestReads} {Aa0:Option Addr} {na0:Nat} {ca0:Nat} {r:(List TestReads)} (hra0:Rw kTestReads H0 F Aa0 a0) (hca0:na0≤ca0) (hna0:na0=a0.length) (heq:smithyardref10_CopyReads.f a0=some r):CallsH Tryd.prog 4 #[.slice Aa0 na0 ca0] H0 w0 (F) (S4 F H0 r):=by
 refine calls_of_runH (F:=C4) Tryd.func4 (by kernel_rfl) Tryd.ntmps4 (args:=[.slice Aa0 na0 ca0]) (by kernel_rfl) ?_
 subst hna0
 unfold smithyardref10_CopyReads.f at heq
 suffices key:∀ (H:Hp),Rw kTestReads H F Aa0 a0→RunH C4 (S4 F H0 r) H0 w0 [.c []] (argL 0 [.slice Aa0 (a0.length) ca0]) H (F) from key H0 hra0
 intro H hra0
 refine Ra 1 [0] [.c [1]]<|Rd 1 [0] [(0,.slice Aa0 a0.length ca0)]<|Ra 1 [1,0] [.c [1,1]]<|Rd 1 [0,3] [(0,.slice Aa0 a0.length ca0),(3,.slice none 0 0)]<|Ra 2 [1,1,0,0] [.c [1,1,0,1],.c [1,1,1]]<|Rd 3 [3,6,7,8] [(3,.slice none 0 0),(6,.slice Aa0 a0.length ca0),(7,iv (a0.length:Int)),(8,iv 0)]<|Ad 2 [.c [1,1,0,1,0,0],.l [1,1,0,1,0,0],.b 0,.c [1,1,1]]<|RunH.nilc ?_
 have ho5:SlOwn kTestReads 39 H none 0 ([]:List TestReads) none:=SlOwn.nil
 refine Kp [3,6,7,8] [(3,.slice none 0 0),(6,.slice Aa0 a0.length ca0),(7,iv (a0.length:Int)),(8,iv 0)] ?_
 exact ((smithyardref10_CopyReads.l2_c (e1:=smithyardref10_CopyReads.e1) (smithyardref10_CopyReads.e1_c)) big) _ a0 _ _ ([]:List TestReads) _ _ _ _ 0 hra0 hca0 ho5 rfl heq
noncomputable def C5:Ctx:={ P:=Tryd.prog,f:=5,N:=8,c:=bodyOf Tryd.f5 }
def S5 (F:List Ch) (H0:Hp) (r:List TreeChange) (v:Value) (H:Hp) (cs:List Ch):Prop:=∃ (A0:Option Addr) (c0:Nat) (ch0:Ch),H0=H∧v=.slice A0 r.length c0∧ch0::F=cs∧SlOwn kTreeChange 27 H A0 c0 r ch0
theorem slices_Clone_TreeChange_c {w0:World} [GlobI 0 w0] {H:Hp} {F:List Ch} {a0:List TreeChange} {Aa0:Option Addr} {na0 ca0:Nat} {r:List TreeChange} (hra0:Rw kTreeChange H F Aa0 a0) (hca0:na0≤ca0) (hna0:na0=a0.length) (heq:slices_Clone_TreeChange.f a0=some r):CallsH Tryd.prog 5 #[.slice Aa0 na0 ca0] H w0 F (S5 F H r):=by
 refine calls_of_runH (F:=C5) Tryd.func5 (by kernel_rfl) Tryd.ntmps5 (args:=[.slice Aa0 na0 ca0]) (by kernel_rfl) ?_
 subst hna0
 unfold slices_Clone_TreeChange.f at heq
 obtain ⟨hn,heq⟩:=guard?_some heq
 obtain rfl:=Option.some.inj heq
 refine Ra 1 [0] [.c [1]]<|Rd 1 [0] [(0,.slice Aa0 a0.length ca0)]<|Ra 2 [1,0,0] [.c [1,0,1],.c [1,1]] ?_
 cases Aa0 with
 | none =>
  have h0:a0=[]:=by
   cases a0 with
   | nil=>rfl
   | cons x xs=>obtain ⟨b,off,cs,e,fr,hA,_⟩:=hra0 (by simp); cases hA
  subst h0
  refine Rd 2 [4] [(4,.bool true)]<|Ct true rfl<|Ra 1 [1,0,1,0,0] [.c [1,0,1,0,1],.c [1,1]]<|Rd 1 [2] [(2,.slice none 0 0)]<|RunH.nilc ?_
  exact RunH.done (by kernel_rfl) Tryd.func5 (v:=.slice none ([]:List TreeChange).length 0) (by kernel_rfl) ⟨none,0,none,rfl,rfl,rfl,SlOwn.nil⟩
 | some ad =>
  refine Rd 2 [0,4] [(0,.slice (some ad) a0.length ca0),(4,.bool false)]<|Cf false rfl<|Ra 2 [1,1,0] [.c [1,1,1]] ?_
  refine RgH.does (DoesH.new (d:=5) (v:=fun g=>.slice (some ⟨g,0,none⟩) 0 0) (o:=fun g=>.cells #[] 27 (0,0)) (fun g=>by kernel_rfl)) ?_
  rintro _ _ _ _ ⟨g,rfl,rfl,rfl⟩
  have ho:SlOwn kTreeChange 27 H (some ⟨g,0,none⟩) 0 ([]:List TreeChange) (some (g,.cells #[] 27 (0,0))):=.inr ⟨g,0,#[],rfl,rfl,by simp,by simp [maxLen],by simp,Kd.Rep.nil⟩
  refine Rk 2 [5,6] [(5,.slice (some ⟨g,0,none⟩) 0 0),(6,.slice (some ad) a0.length ca0)] ?_
  refine RgH.does (DoesH.append (d:=7) (k:=0) (t:=23) (e:=27) (bytes:=24) (kd:=kTreeChange) (n:=0) (m:=a0.length) (xs:=([]:List TreeChange)) (ys:=a0) (A:=some ⟨g,0,none⟩) (B:=some ad) (c:=0) (cB:=ca0) (by kernel_rfl) rfl rfl (by kernel_rfl) rfl ho (fun w hh=>hra0.rdb (hh.drop 1)) (room_le hn) (by have:=room_le hn; omega)) ?_
  rintro _ _ _ _ ⟨A1,c1,ch1,rfl,rfl,rfl,ho1⟩
  refine Rd 4 [2] [(2,.slice A1 (([]:List TreeChange)++a0).length c1)] ?_
  exact RunH.done (by kernel_rfl) Tryd.func5 (v:=.slice A1 (([]:List TreeChange)++a0).length c1) (by kernel_rfl) ⟨A1,c1,ch1,rfl,rfl,rfl,ho1⟩
def S35 (F:List Ch) (H0:Hp) (r:List ByteArray) (v:Value) (H:Hp) (cs:List Ch):Prop:=∃ (A0:Option Addr) (c0:Nat) (ch0:Ch),H0=H∧v=.slice A0 r.length c0∧ch0::F=cs∧SlOwn Kd.string 9 H A0 c0 r ch0
theorem strings_Split_c {w0:World} [GlobI 0 w0] {H:Hp} {F:List Ch} {a0 a1:ByteArray} {r:List ByteArray} (heq:strings_Split.f a0 a1=some r):CallsH Tryd.prog 35 #[.string a0,.string a1] H w0 F (S35 F H r):=by
 intro w hh
 unfold strings_Split.f at heq
 obtain ⟨hn,heq⟩:=guard?_some heq
 obtain rfl:=Option.some.inj heq
 simp only [Bool.and_eq_true,decide_eq_true_eq] at hn
 obtain ⟨m,hm⟩:=GlobI.at (g:=0) hh
 refine (Shelf.Tryd.strings_Split a0 a1 m w hn.1 hm hn.2).mono ?_
 rintro e w' ⟨rfl,rfl⟩
 have hl:=Lib.splitB_all a1 hn.2 0 _ a0 rfl
 have hc:=Lib.countB_le a1 hn.2 a0.size a0 (Nat.le_refl _)
 obtain ⟨H',cs',hle,hh',A0,c0,ch0,rfl,hv,rfl,ho⟩:=split_post (e:=9) hh hl (by unfold maxLen; omega) rfl
 exact ⟨_,rfl,_,_,hle,hh',A0,c0,ch0,rfl,hv,rfl,ho⟩
def S46 (F:List Ch) (H0:Hp) (r:Int) (v:Value) (H:Hp) (cs:List Ch):Prop:=H0=H∧v=iv r∧F=cs
theorem strings_IndexByte_c {w0:World} [GlobI 0 w0] {H:Hp} {F:List Ch} {a0:ByteArray} {a1:Int} {r:Int} (heq:strings_IndexByte.f a0 a1=some r):CallsH Tryd.prog 46 #[.string a0,.int .u8 a1] H w0 F (S46 F H r):=by
 intro w hh
 unfold strings_IndexByte.f at heq
 obtain rfl:=Option.some.inj heq
 refine (Shelf.Tryd.strings_IndexByte a0 a1 w).mono ?_
 rintro e w' ⟨rfl,rfl⟩
 exact ⟨_,rfl,H,F,Le.refl H,hh,rfl,rfl,rfl⟩
noncomputable def C44:Ctx:={ P:=Tryd.prog,f:=44,N:=30,c:=bodyOf Tryd.f44 }
def S44 (F:List Ch) (H0:Hp) (r:Bool) (v:Value) (H:Hp) (cs:List Ch):Prop:=H0=H∧v=.bool r∧F=cs
theorem blob_inPart_c {w0:World} [GlobI 0 w0] {H:Hp} {F:List Ch} {a0:Int} {r:Bool} (heq:blob_inPart.f a0=some r):CallsH Tryd.prog 44 #[.int .u8 a0] H w0 (F) (S44 F H r):=by
 refine calls_of_runH (F:=C44) Tryd.func44 (by kernel_rfl) Tryd.ntmps44 (args:=[.int .u8 a0]) (by kernel_rfl) ?_
 unfold blob_inPart.f at heq
 refine Ra 1 [0] [.c [1]]<|Rd 1 [0] [(0,.int .u8 a0)]<|Ad 1 [.c [1,0],.c [1,1]] ?_
 obtain ⟨t1,ht1,heq⟩:=bind_some heq
 have K1:RunH C44 (S44 F H r) H w0 [.c [1,1]] [(2,.bool t1)] H (F):=by
  obtain rfl:=Option.some.inj heq
  exact RunH.done (by kernel_rfl) Tryd.func44 (v:=.bool t1) (by kernel_rfl) ⟨rfl,rfl,rfl⟩
 replace heq:=ht1
 refine Rr<|Rk 3 [5,0] [(5,.bool (decide (97≤a0))),(0,.int .u8 a0)] ?_
 rcases bool_cases (decide (97≤a0)) with hb1 | hb1
 ·replace heq:=bif_true hb1 heq
  refine RgH.val1 (v':=.bool true) (congrArg Value.bool hb1) ?_
  refine Rk 7 [9,0] [(9,.bool (decide (a0≤122))),(0,.int .u8 a0)] ?_
  rcases bool_cases (decide (a0≤122)) with hb2 | hb2
  ·replace heq:=bif_true hb2 heq
   refine RgH.val1 (v':=.bool true) (congrArg Value.bool hb2) ?_
   refine Rk 28 [2] [(2,.bool true)] ?_
   obtain rfl:=Option.some.inj heq
   refine Kg [2] [(2,.bool true)]<|Dn ?_
   exact K1
  ·replace heq:=bif_false hb2 heq
   refine RgH.val1 (v':=.bool false) (congrArg Value.bool hb2) ?_
   refine Rk 10 [12,0,9] [(12,.bool (decide (65≤a0))),(0,.int .u8 a0),(9,.bool false)] ?_
   rcases bool_cases (decide (65≤a0)) with hb3 | hb3
   ·replace heq:=bif_true hb3 heq
    refine RgH.val1 (v':=.bool true) (congrArg Value.bool hb3) ?_
    refine Rk 15 [17,0] [(17,.bool (decide (a0≤90))),(0,.int .u8 a0)] ?_
    rcases bool_cases (decide (a0≤90)) with hb4 | hb4
    ·replace heq:=bif_true hb4 heq
     refine RgH.val1 (v':=.bool true) (congrArg Value.bool hb4) ?_
     refine Rk 28 [2] [(2,.bool true)] ?_
     obtain rfl:=Option.some.inj heq
     refine Kg [2] [(2,.bool true)]<|Dn ?_
     exact K1
    ·replace heq:=bif_false hb4 heq
     refine RgH.val1 (v':=.bool false) (congrArg Value.bool hb4) ?_
     refine Rk 18 [20,0,17] [(20,.bool (decide (48≤a0))),(0,.int .u8 a0),(17,.bool false)] ?_
     rcases bool_cases (decide (48≤a0)) with hb5 | hb5
     ·replace heq:=bif_true hb5 heq
      refine RgH.val1 (v':=.bool true) (congrArg Value.bool hb5) ?_
      refine Rk 23 [25,0] [(25,.bool (decide (a0≤57))),(0,.int .u8 a0)] ?_
      rcases bool_cases (decide (a0≤57)) with hb6 | hb6
      ·replace heq:=bif_true hb6 heq
       refine RgH.val1 (v':=.bool true) (congrArg Value.bool hb6) ?_
       refine Rk 28 [2] [(2,.bool true)] ?_
       obtain rfl:=Option.some.inj heq
       refine Kg [2] [(2,.bool true)]<|Dn ?_
       exact K1
      ·replace heq:=bif_false hb6 heq
       refine RgH.val1 (v':=.bool false) (congrArg Value.bool hb6) ?_
       refine Rk 24 [25,26] [(25,.bool false),(26,.int .u8 a0)] ?_
       obtain ⟨y1,hy1,heq⟩:=bind_some heq
       refine RgH.does (DoesH.call (d:=27) (g:=46) (args:=#[.string ({ data:=#[46,95,45,43] }:ByteArray),.int .u8 a0]) (by kernel_rfl) (strings_IndexByte_c (a0:=({ data:=#[46,95,45,43] }:ByteArray)) (a1:=a0)  hy1)) ?_
       rintro _ _ _ _ ⟨_,rfl,rfl,rfl,rfl⟩
       refine Rk 28 [2] [(2,.bool (decide (0≤y1)))] ?_
       obtain rfl:=Option.some.inj heq
       refine Kg [2] [(2,.bool (decide (0≤y1)))]<|Dn ?_
       exact K1
     ·replace heq:=bif_false hb5 heq
      refine RgH.val1 (v':=.bool false) (congrArg Value.bool hb5) ?_
      refine Rk 24 [25,26] [(25,.bool false),(26,.int .u8 a0)] ?_
      obtain ⟨y2,hy2,heq⟩:=bind_some heq
      refine RgH.does (DoesH.call (d:=27) (g:=46) (args:=#[.string ({ data:=#[46,95,45,43] }:ByteArray),.int .u8 a0]) (by kernel_rfl) (strings_IndexByte_c (a0:=({ data:=#[46,95,45,43] }:ByteArray)) (a1:=a0)  hy2)) ?_
      rintro _ _ _ _ ⟨_,rfl,rfl,rfl,rfl⟩
      refine Rk 28 [2] [(2,.bool (decide (0≤y2)))] ?_
      obtain rfl:=Option.some.inj heq
      refine Kg [2] [(2,.bool (decide (0≤y2)))]<|Dn ?_
      exact K1
   ·replace heq:=bif_false hb3 heq
    refine RgH.val1 (v':=.bool false) (congrArg Value.bool hb3) ?_
    refine Rk 18 [20,0,17] [(20,.bool (decide (48≤a0))),(0,.int .u8 a0),(17,.bool false)] ?_
    rcases bool_cases (decide (48≤a0)) with hb7 | hb7
    ·replace heq:=bif_true hb7 heq
     refine RgH.val1 (v':=.bool true) (congrArg Value.bool hb7) ?_
     refine Rk 23 [25,0] [(25,.bool (decide (a0≤57))),(0,.int .u8 a0)] ?_
     rcases bool_cases (decide (a0≤57)) with hb8 | hb8
     ·replace heq:=bif_true hb8 heq
      refine RgH.val1 (v':=.bool true) (congrArg Value.bool hb8) ?_
      refine Rk 28 [2] [(2,.bool true)] ?_
      obtain rfl:=Option.some.inj heq
      refine Kg [2] [(2,.bool true)]<|Dn ?_
      exact K1
     ·replace heq:=bif_false hb8 heq
      refine RgH.val1 (v':=.bool false) (congrArg Value.bool hb8) ?_
      refine Rk 24 [25,26] [(25,.bool false),(26,.int .u8 a0)] ?_
      obtain ⟨y3,hy3,heq⟩:=bind_some heq
      refine RgH.does (DoesH.call (d:=27) (g:=46) (args:=#[.string ({ data:=#[46,95,45,43] }:ByteArray),.int .u8 a0]) (by kernel_rfl) (strings_IndexByte_c (a0:=({ data:=#[46,95,45,43] }:ByteArray)) (a1:=a0)  hy3)) ?_
      rintro _ _ _ _ ⟨_,rfl,rfl,rfl,rfl⟩
      refine Rk 28 [2] [(2,.bool (decide (0≤y3)))] ?_
      obtain rfl:=Option.some.inj heq
      refine Kg [2] [(2,.bool (decide (0≤y3)))]<|Dn ?_
      exact K1
    ·replace heq:=bif_false hb7 heq
     refine RgH.val1 (v':=.bool false) (congrArg Value.bool hb7) ?_
     refine Rk 24 [25,26] [(25,.bool false),(26,.int .u8 a0)] ?_
     obtain ⟨y4,hy4,heq⟩:=bind_some heq
     refine RgH.does (DoesH.call (d:=27) (g:=46) (args:=#[.string ({ data:=#[46,95,45,43] }:ByteArray),.int .u8 a0]) (by kernel_rfl) (strings_IndexByte_c (a0:=({ data:=#[46,95,45,43] }:ByteArray)) (a1:=a0)  hy4)) ?_
     rintro _ _ _ _ ⟨_,rfl,rfl,rfl,rfl⟩
     refine Rk 28 [2] [(2,.bool (decide (0≤y4)))] ?_
     obtain rfl:=Option.some.inj heq
     refine Kg [2] [(2,.bool (decide (0≤y4)))]<|Dn ?_
     exact K1
 ·replace heq:=bif_false hb1 heq
  refine RgH.val1 (v':=.bool false) (congrArg Value.bool hb1) ?_
  refine Rk 10 [12,0,9] [(12,.bool (decide (65≤a0))),(0,.int .u8 a0),(9,.bool false)] ?_
  rcases bool_cases (decide (65≤a0)) with hb9 | hb9
  ·replace heq:=bif_true hb9 heq
   refine RgH.val1 (v':=.bool true) (congrArg Value.bool hb9) ?_
   refine Rk 15 [17,0] [(17,.bool (decide (a0≤90))),(0,.int .u8 a0)] ?_
   rcases bool_cases (decide (a0≤90)) with hb10 | hb10
   ·replace heq:=bif_true hb10 heq
    refine RgH.val1 (v':=.bool true) (congrArg Value.bool hb10) ?_
    refine Rk 28 [2] [(2,.bool true)] ?_
    obtain rfl:=Option.some.inj heq
    refine Kg [2] [(2,.bool true)]<|Dn ?_
    exact K1
   ·replace heq:=bif_false hb10 heq
    refine RgH.val1 (v':=.bool false) (congrArg Value.bool hb10) ?_
    refine Rk 18 [20,0,17] [(20,.bool (decide (48≤a0))),(0,.int .u8 a0),(17,.bool false)] ?_
    rcases bool_cases (decide (48≤a0)) with hb11 | hb11
    ·replace heq:=bif_true hb11 heq
     refine RgH.val1 (v':=.bool true) (congrArg Value.bool hb11) ?_
     refine Rk 23 [25,0] [(25,.bool (decide (a0≤57))),(0,.int .u8 a0)] ?_
     rcases bool_cases (decide (a0≤57)) with hb12 | hb12
     ·replace heq:=bif_true hb12 heq
      refine RgH.val1 (v':=.bool true) (congrArg Value.bool hb12) ?_
      refine Rk 28 [2] [(2,.bool true)] ?_
      obtain rfl:=Option.some.inj heq
      refine Kg [2] [(2,.bool true)]<|Dn ?_
      exact K1
     ·replace heq:=bif_false hb12 heq
      refine RgH.val1 (v':=.bool false) (congrArg Value.bool hb12) ?_
      refine Rk 24 [25,26] [(25,.bool false),(26,.int .u8 a0)] ?_
      obtain ⟨y5,hy5,heq⟩:=bind_some heq
      refine RgH.does (DoesH.call (d:=27) (g:=46) (args:=#[.string ({ data:=#[46,95,45,43] }:ByteArray),.int .u8 a0]) (by kernel_rfl) (strings_IndexByte_c (a0:=({ data:=#[46,95,45,43] }:ByteArray)) (a1:=a0)  hy5)) ?_
      rintro _ _ _ _ ⟨_,rfl,rfl,rfl,rfl⟩
      refine Rk 28 [2] [(2,.bool (decide (0≤y5)))] ?_
      obtain rfl:=Option.some.inj heq
      refine Kg [2] [(2,.bool (decide (0≤y5)))]<|Dn ?_
      exact K1
    ·replace heq:=bif_false hb11 heq
     refine RgH.val1 (v':=.bool false) (congrArg Value.bool hb11) ?_
     refine Rk 24 [25,26] [(25,.bool false),(26,.int .u8 a0)] ?_
     obtain ⟨y6,hy6,heq⟩:=bind_some heq
     refine RgH.does (DoesH.call (d:=27) (g:=46) (args:=#[.string ({ data:=#[46,95,45,43] }:ByteArray),.int .u8 a0]) (by kernel_rfl) (strings_IndexByte_c (a0:=({ data:=#[46,95,45,43] }:ByteArray)) (a1:=a0)  hy6)) ?_
     rintro _ _ _ _ ⟨_,rfl,rfl,rfl,rfl⟩
     refine Rk 28 [2] [(2,.bool (decide (0≤y6)))] ?_
     obtain rfl:=Option.some.inj heq
     refine Kg [2] [(2,.bool (decide (0≤y6)))]<|Dn ?_
     exact K1
  ·replace heq:=bif_false hb9 heq
   refine RgH.val1 (v':=.bool false) (congrArg Value.bool hb9) ?_
   refine Rk 18 [20,0,17] [(20,.bool (decide (48≤a0))),(0,.int .u8 a0),(17,.bool false)] ?_
   rcases bool_cases (decide (48≤a0)) with hb13 | hb13
   ·replace heq:=bif_true hb13 heq
    refine RgH.val1 (v':=.bool true) (congrArg Value.bool hb13) ?_
    refine Rk 23 [25,0] [(25,.bool (decide (a0≤57))),(0,.int .u8 a0)] ?_
    rcases bool_cases (decide (a0≤57)) with hb14 | hb14
    ·replace heq:=bif_true hb14 heq
     refine RgH.val1 (v':=.bool true) (congrArg Value.bool hb14) ?_
     refine Rk 28 [2] [(2,.bool true)] ?_
     obtain rfl:=Option.some.inj heq
     refine Kg [2] [(2,.bool true)]<|Dn ?_
     exact K1
    ·replace heq:=bif_false hb14 heq
     refine RgH.val1 (v':=.bool false) (congrArg Value.bool hb14) ?_
     refine Rk 24 [25,26] [(25,.bool false),(26,.int .u8 a0)] ?_
     obtain ⟨y7,hy7,heq⟩:=bind_some heq
     refine RgH.does (DoesH.call (d:=27) (g:=46) (args:=#[.string ({ data:=#[46,95,45,43] }:ByteArray),.int .u8 a0]) (by kernel_rfl) (strings_IndexByte_c (a0:=({ data:=#[46,95,45,43] }:ByteArray)) (a1:=a0)  hy7)) ?_
     rintro _ _ _ _ ⟨_,rfl,rfl,rfl,rfl⟩
     refine Rk 28 [2] [(2,.bool (decide (0≤y7)))] ?_
     obtain rfl:=Option.some.inj heq
     refine Kg [2] [(2,.bool (decide (0≤y7)))]<|Dn ?_
     exact K1
   ·replace heq:=bif_false hb13 heq
    refine RgH.val1 (v':=.bool false) (congrArg Value.bool hb13) ?_
    refine Rk 24 [25,26] [(25,.bool false),(26,.int .u8 a0)] ?_
    obtain ⟨y8,hy8,heq⟩:=bind_some heq
    refine RgH.does (DoesH.call (d:=27) (g:=46) (args:=#[.string ({ data:=#[46,95,45,43] }:ByteArray),.int .u8 a0]) (by kernel_rfl) (strings_IndexByte_c (a0:=({ data:=#[46,95,45,43] }:ByteArray)) (a1:=a0)  hy8)) ?_
    rintro _ _ _ _ ⟨_,rfl,rfl,rfl,rfl⟩
    refine Rk 28 [2] [(2,.bool (decide (0≤y8)))] ?_
    obtain rfl:=Option.some.inj heq
    refine Kg [2] [(2,.bool (decide (0≤y8)))]<|Dn ?_
    exact K1
noncomputable def C36:Ctx:={ P:=Tryd.prog,f:=36,N:=25,c:=bodyOf Tryd.f36 }
def S36 (F:List Ch) (H0:Hp) (r:Bool) (v:Value) (H:Hp) (cs:List Ch):Prop:=H0=H∧v=.bool r∧F=cs
theorem blob_isPart.e1_c {w0:World} [GlobI 0 w0] {H:Hp} {F:List Ch} {r:Bool}:∀ (a0:ByteArray) ,blob_isPart.e1 a0=some r→RunH C36 (S36 F H r) H w0 [.c [1,1,0],.c [1,1,1]] [(0,.string a0)] H (F):=by
 intro a0  heq
 unfold blob_isPart.e1 at heq
 obtain ⟨t1,ht1,heq⟩:=bind_some heq
 have K1:RunH C36 (S36 F H r) H w0 [.c [1,1,1]] [(2,.bool t1)] H (F):=by
  obtain rfl:=Option.some.inj heq
  exact RunH.done (by kernel_rfl) Tryd.func36 (v:=.bool t1) (by kernel_rfl) ⟨rfl,rfl,rfl⟩
 replace heq:=ht1
 refine Rr<|Rk 3 [17,0] [(17,.bool (!sEq a0 ({ data:=#[] }:ByteArray))),(0,.string a0)] ?_
 rcases bool_cases (!sEq a0 ({ data:=#[] }:ByteArray)) with hb1 | hb1
 ·replace heq:=bif_true hb1 heq
  refine RgH.val1 (v':=.bool true) (congrArg Value.bool hb1) ?_
  refine Rk 7 [21,0] [(21,.bool (!sEq a0 ({ data:=#[46] }:ByteArray))),(0,.string a0)] ?_
  rcases bool_cases (!sEq a0 ({ data:=#[46] }:ByteArray)) with hb2 | hb2
  ·replace heq:=bif_true hb2 heq
   refine RgH.val1 (v':=.bool true) (congrArg Value.bool hb2) ?_
   refine Rk 11 [2] [(2,.bool (!sEq a0 ({ data:=#[46,46] }:ByteArray)))] ?_
   obtain rfl:=Option.some.inj heq
   refine Kg [2] [(2,.bool (!sEq a0 ({ data:=#[46,46] }:ByteArray)))]<|Dn ?_
   exact K1
  ·replace heq:=bif_false hb2 heq
   refine RgH.val1 (v':=.bool false) (congrArg Value.bool hb2) ?_
   refine Rk 11 [2] [(2,.bool false)] ?_
   obtain rfl:=Option.some.inj heq
   refine Kg [2] [(2,.bool false)]<|Dn ?_
   exact K1
 ·replace heq:=bif_false hb1 heq
  refine RgH.val1 (v':=.bool false) (congrArg Value.bool hb1) ?_
  refine Rk 11 [2] [(2,.bool false)] ?_
  obtain rfl:=Option.some.inj heq
  refine Kg [2] [(2,.bool false)]<|Dn ?_
  exact K1
theorem blob_isPart.l2_c {w0:World} [GlobI 0 w0] {H:Hp} {F:List Ch} {r:Bool} (e1:ByteArray→Option Bool)
  (he1:∀ (a0:ByteArray) ,e1 a0=some r→RunH C36 (S36 F H r) H w0 [.c [1,1,0],.c [1,1,1]] [(0,.string a0)] H (F)):∀ (k:Nat),∀ (a0:ByteArray) (v6:Int) ,blob_isPart.l2 e1 k a0 v6=some r→RunH C36 (S36 F H r) H w0 [.c [1,0,1,0,0],.l [1,0,1,0,0],.b 0,.c [1,1]] [(0,.string a0),(5,iv (a0.size:Int)),(6,iv v6)] H (F):=by
 intro k
 induction k with
 | zero=>intro a0 v6  heq; exact nomatch (show (none:Option Bool)=some r from heq)
 | succ k ihk =>
  intro a0 v6  heq
  rw [blob_isPart.l2] at heq
  refine Ra 1 [1,0,1,0,0,0] [.c [1,0,1,0,0,1],.l [1,0,1,0,0],.b 0,.c [1,1]]<|Rd 1 [0,5,6,7] [(0,.string a0),(5,iv (a0.size:Int)),(6,iv v6),(7,.bool (decide (v6<(a0.size:Int))))]<|Ad 1 [.c [1,0,1,0,0,1,0],.c [1,0,1,0,0,1,1],.l [1,0,1,0,0],.b 0,.c [1,1]] ?_
  rcases bool_cases (decide (v6<(a0.size:Int))) with hb3 | hb3
  ·replace heq:=bif_true hb3 heq
   refine Ct (decide (v6<(a0.size:Int))) hb3<|Ra 4 [1,0,1,0,0,1,1,0,0,0] [.c [1,0,1,0,0,1,1,0,0,1],.b 1,.c [1,0,1,0,0,1,1,1],.l [1,0,1,0,0],.b 0,.c [1,1]]<|Rd 2 [0,3,5,6] [(0,.string a0),(3,iv v6),(5,iv (a0.size:Int)),(6,iv v6)]<|Ra 1 [1,0,1,0,0,1,1,0,0,1,0] [.c [1,0,1,0,0,1,1,0,0,1,1],.b 1,.c [1,0,1,0,0,1,1,1],.l [1,0,1,0,0],.b 0,.c [1,1]] ?_
   obtain ⟨hn1,heq⟩:=guard?_some heq
   refine Rv 3 [0,5,6,11] [] [.need ((0:Int)≤v6∧v6<(a0.size:Int))] [(0,.string a0),(5,iv (a0.size:Int)),(6,iv v6),(11,.int .u8 (bt a0 v6))] (fun w hh=>(both_of hn1)) ?_
   obtain ⟨y1,hy1,heq⟩:=bind_some heq
   refine RgH.does (DoesH.call (d:=12) (g:=44) (args:=#[.int .u8 (bt a0 v6)]) (by kernel_rfl) (blob_inPart_c (a0:=bt a0 v6)  hy1)) ?_
   rintro _ _ _ _ ⟨_,rfl,rfl,rfl,rfl⟩
   refine Rd 5 [0,5,6,13] [(0,.string a0),(5,iv (a0.size:Int)),(6,iv v6),(13,.bool (!y1))] ?_
   rcases bool_cases (!y1) with hb4 | hb4
   ·replace heq:=bif_true hb4 heq
    refine Ct (!y1) hb4<|Ra 1 [1,0,1,0,0,1,1,0,0,1,1,0,0] [.c [1,0,1,0,0,1,1,0,0,1,1,0,1],.b 1,.c [1,0,1,0,0,1,1,1],.l [1,0,1,0,0],.b 0,.c [1,1]]<|Rd 1 [2] [(2,.bool false)] ?_
    obtain rfl:=Option.some.inj heq
    exact RunH.done (by kernel_rfl) Tryd.func36 (v:=.bool false) (by kernel_rfl) ⟨rfl,rfl,rfl⟩
   ·replace heq:=bif_false hb4 heq
    refine Cf (!y1) hb4<|Ra 2 [1,0,1,0,0,1,1,1] [.l [1,0,1,0,0],.b 0,.c [1,1]]<|Rd 2 [0,5,6] [(0,.string a0),(5,iv (a0.size:Int)),(6,iv (w64 (v6+1)))]<|Ad 1 [.c [1,0,1,0,0],.l [1,0,1,0,0],.b 0,.c [1,1]]<|Kp [0,5,6] [(0,.string a0),(5,iv (a0.size:Int)),(6,iv (w64 (v6+1)))] ?_
    exact ihk a0 (w64 (v6+1)) heq
  ·replace heq:=bif_false hb3 heq
   refine Cf (decide (v6<(a0.size:Int))) hb3<|Ad 2 [.c [1,1,0],.c [1,1,1]]<|Kp [0] [(0,.string a0)] ?_
   exact he1 a0 heq
theorem blob_isPart_c {w0:World} [GlobI 0 w0] {H:Hp} {F:List Ch} {a0:ByteArray} {r:Bool} (heq:blob_isPart.f a0=some r):CallsH Tryd.prog 36 #[.string a0] H w0 (F) (S36 F H r):=by
 refine calls_of_runH (F:=C36) Tryd.func36 (by kernel_rfl) Tryd.ntmps36 (args:=[.string a0]) (by kernel_rfl) ?_
 unfold blob_isPart.f at heq
 refine Ra 1 [0] [.c [1]]<|Rd 1 [0] [(0,.string a0)]<|Ra 2 [1,0,0] [.c [1,0,1],.c [1,1]]<|Rd 3 [0,5,6] [(0,.string a0),(5,iv (a0.size:Int)),(6,iv 0)]<|Ad 2 [.c [1,0,1,0,0],.l [1,0,1,0,0],.b 0,.c [1,1]]<|Kp [0,5,6] [(0,.string a0),(5,iv (a0.size:Int)),(6,iv 0)] ?_
 exact ((blob_isPart.l2_c (e1:=blob_isPart.e1) (blob_isPart.e1_c)) big) a0 0 heq
noncomputable def C19:Ctx:={ P:=Tryd.prog,f:=19,N:=24,c:=bodyOf Tryd.f19 }
def S19 (F:List Ch) (H0:Hp) (r:Bool) (v:Value) (H:Hp) (cs:List Ch):Prop:=H0=H∧v=.bool r∧F=cs
theorem blob_IsPath.e1_c {w0:World} [GlobI 0 w0] {H:Hp} {F:List Ch} {r:Bool}:blob_IsPath.e1=some r→RunH C19 (S19 F H r) H w0 [.c [1,1,1,0],.c [1,1,1,1]] [] H (F):=by
 intro   heq
 unfold blob_IsPath.e1 at heq
 refine Rr<|Rd 1 [2] [(2,.bool true)] ?_
 obtain rfl:=Option.some.inj heq
 exact RunH.done (by kernel_rfl) Tryd.func19 (v:=.bool true) (by kernel_rfl) ⟨rfl,rfl,rfl⟩
theorem blob_IsPath.l2_c {w0:World} [GlobI 0 w0] {H:Hp} {F:List Ch} {r:Bool} (e1:Option Bool)
  (he1:e1=some r→RunH C19 (S19 F H r) H w0 [.c [1,1,1,0],.c [1,1,1,1]] [] H (F)):∀ (k:Nat),∀ (y1:List ByteArray) (A1:Option Addr) (c1:Nat) (ch1:Ch) (v16:Int) ,SlOwn Kd.string 9 H A1 c1 y1 ch1→blob_IsPath.l2 e1 k y1 v16=some r→RunH C19 (S19 F H r) H w0 [.c [1,1,0,1,0,0],.l [1,1,0,1,0,0],.b 0,.c [1,1,1]] [(14,.slice A1 y1.length c1),(15,iv (y1.length:Int)),(16,iv v16)] H (ch1::F):=by
 intro k
 induction k with
 | zero=>intro y1 A1 c1 ch1 v16 ho1 heq; exact nomatch (show (none:Option Bool)=some r from heq)
 | succ k ihk =>
  intro y1 A1 c1 ch1 v16 ho1 heq
  rw [blob_IsPath.l2] at heq
  refine Ra 1 [1,1,0,1,0,0,0] [.c [1,1,0,1,0,0,1],.l [1,1,0,1,0,0],.b 0,.c [1,1,1]]<|Rd 1 [14,15,16,17] [(14,.slice A1 y1.length c1),(15,iv (y1.length:Int)),(16,iv v16),(17,.bool (decide (v16<(y1.length:Int))))]<|Ad 1 [.c [1,1,0,1,0,0,1,0],.c [1,1,0,1,0,0,1,1],.l [1,1,0,1,0,0],.b 0,.c [1,1,1]] ?_
  rcases bool_cases (decide (v16<(y1.length:Int))) with hb3 | hb3
  ·replace heq:=bif_true hb3 heq
   refine Ct (decide (v16<(y1.length:Int))) hb3<|Ra 4 [1,1,0,1,0,0,1,1,0,0,0] [.c [1,1,0,1,0,0,1,1,0,0,1],.b 1,.c [1,1,0,1,0,0,1,1,1],.l [1,1,0,1,0,0],.b 0,.c [1,1,1]] ?_
   obtain ⟨x1,hx1,heq⟩:=bind_some heq
   obtain ⟨ha1,cs1,hK1,hcc1⟩:=ho1.get hx1
   obtain rfl:cs1=[.string x1]:=hK1
   refine Rw' 3 [4,14,15,16] [.string x1] [.need (A1=some (adr A1)∧(0:Int)≤v16∧v16<((y1.length:Nat):Int)),.load ((adr A1).add (v16.toNat*1)) (.string x1)] [(4,.string x1),(14,.slice A1 y1.length c1),(15,iv (y1.length:Int)),(16,iv v16)] (fun w hh=>⟨⟨ha1,(at?_some hx1).1,(at?_some hx1).2.1⟩,(hcc1 _ (hh.chin 0 rfl) 0 _ rfl)⟩)<|Ra 1 [1,1,0,1,0,0,1,1,0,0,1,0] [.c [1,1,0,1,0,0,1,1,0,0,1,1],.b 1,.c [1,1,0,1,0,0,1,1,1],.l [1,1,0,1,0,0],.b 0,.c [1,1,1]]<|Rk 1 [14,15,16,20] [(14,.slice A1 y1.length c1),(15,iv (y1.length:Int)),(16,iv v16),(20,.string x1)] ?_
   obtain ⟨y2,hy2,heq⟩:=bind_some heq
   refine RgH.does (DoesH.call (d:=21) (g:=36) (args:=#[.string x1]) (by kernel_rfl) (blob_isPart_c (a0:=x1)  hy2)) ?_
   rintro _ _ _ _ ⟨_,rfl,rfl,rfl,rfl⟩
   refine Rd 3 [14,15,16,22] [(14,.slice A1 y1.length c1),(15,iv (y1.length:Int)),(16,iv v16),(22,.bool (!y2))] ?_
   rcases bool_cases (!y2) with hb4 | hb4
   ·replace heq:=bif_true hb4 heq
    refine Ct (!y2) hb4<|Ra 1 [1,1,0,1,0,0,1,1,0,0,1,1,0,0] [.c [1,1,0,1,0,0,1,1,0,0,1,1,0,1],.b 1,.c [1,1,0,1,0,0,1,1,1],.l [1,1,0,1,0,0],.b 0,.c [1,1,1]]<|Rd 1 [2] [(2,.bool false)] ?_
    obtain rfl:=Option.some.inj heq
    refine RunH.pick 1 [] (cs':=F) (by kernel_rfl) rfl ?_
    exact RunH.done (by kernel_rfl) Tryd.func19 (v:=.bool false) (by kernel_rfl) ⟨rfl,rfl,rfl⟩
   ·replace heq:=bif_false hb4 heq
    refine Cf (!y2) hb4<|Ra 2 [1,1,0,1,0,0,1,1,1] [.l [1,1,0,1,0,0],.b 0,.c [1,1,1]]<|Rd 2 [14,15,16] [(14,.slice A1 y1.length c1),(15,iv (y1.length:Int)),(16,iv (w64 (v16+1)))]<|Ad 1 [.c [1,1,0,1,0,0],.l [1,1,0,1,0,0],.b 0,.c [1,1,1]]<|Kp [14,15,16] [(14,.slice A1 y1.length c1),(15,iv (y1.length:Int)),(16,iv (w64 (v16+1)))] ?_
    exact ihk y1 _ _ _ (w64 (v16+1)) ho1 heq
  ·replace heq:=bif_false hb3 heq
   refine Cf (decide (v16<(y1.length:Int))) hb3<|Ad 2 [.c [1,1,1,0],.c [1,1,1,1]]<|Kp [] [] ?_
   refine RunH.pick 1 [] (cs':=F) (by kernel_rfl) rfl ?_
   exact he1 heq
theorem blob_IsPath_c {w0:World} [GlobI 0 w0] {H:Hp} {F:List Ch} {a0:ByteArray} {r:Bool} (heq:blob_IsPath.f a0=some r):CallsH Tryd.prog 19 #[.string a0] H w0 (F) (S19 F H r):=by
 refine calls_of_runH (F:=C19) Tryd.func19 (by kernel_rfl) Tryd.ntmps19 (args:=[.string a0]) (by kernel_rfl) ?_
 unfold blob_IsPath.f at heq
 refine Ra 1 [0] [.c [1]]<|Rd 1 [0] [(0,.string a0)]<|Ad 2 [.c [1,0,0],.c [1,0,1],.c [1,1]] ?_
 obtain ⟨t1,ht1,heq⟩:=bind_some heq
 have K1:RunH C19 (S19 F H r) H w0 [.c [1,0,1],.c [1,1]] [(0,.string a0),(12,.bool t1)] H (F):=by
  rcases bool_cases (t1) with hb2 | hb2
  ·replace heq:=bif_true hb2 heq
   refine Ct t1 hb2<|Ra 1 [1,0,1,0,0] [.c [1,0,1,0,1],.c [1,1]]<|Rd 1 [2] [(2,.bool false)] ?_
   obtain rfl:=Option.some.inj heq
   exact RunH.done (by kernel_rfl) Tryd.func19 (v:=.bool false) (by kernel_rfl) ⟨rfl,rfl,rfl⟩
  ·replace heq:=bif_false hb2 heq
   refine Cf t1 hb2<|Ra 3 [1,1,0,0] [.c [1,1,0,1],.c [1,1,1]]<|Rk 1 [13] [(13,.string a0)] ?_
   obtain ⟨y1,hy1,heq⟩:=bind_some heq
   refine RgH.does (DoesH.call (d:=14) (g:=35) (args:=#[.string a0,.string ({ data:=#[47] }:ByteArray)]) (by kernel_rfl) (strings_Split_c (a0:=a0) (a1:=({ data:=#[47] }:ByteArray))  hy1)) ?_
   rintro _ _ _ _ ⟨_,rfl,A1,c1,ch1,rfl,rfl,rfl,ho1⟩
   refine Rd 4 [14,15,16] [(14,.slice A1 y1.length c1),(15,iv (y1.length:Int)),(16,iv 0)]<|Ad 2 [.c [1,1,0,1,0,0],.l [1,1,0,1,0,0],.b 0,.c [1,1,1]]<|Kp [14,15,16] [(14,.slice A1 y1.length c1),(15,iv (y1.length:Int)),(16,iv 0)] ?_
   exact ((blob_IsPath.l2_c (e1:=blob_IsPath.e1) (blob_IsPath.e1_c)) big) y1 _ _ _ 0 ho1 heq
 replace heq:=ht1
 refine Rr<|Rk 4 [8,0] [(8,.bool (decide ((a0.size:Int)<1))),(0,.string a0)] ?_
 rcases bool_cases (decide ((a0.size:Int)<1)) with hb1 | hb1
 ·replace heq:=bif_true hb1 heq
  refine RgH.val1 (v':=.bool true) (congrArg Value.bool hb1) ?_
  refine Rk 8 [0,12] [(0,.string a0),(12,.bool true)] ?_
  obtain rfl:=Option.some.inj heq
  refine Kg [0,12] [(0,.string a0),(12,.bool true)]<|Dn ?_
  exact K1
 ·replace heq:=bif_false hb1 heq
  refine RgH.val1 (v':=.bool false) (congrArg Value.bool hb1) ?_
  refine Rk 8 [0,12] [(0,.string a0),(12,.bool (decide (200<(a0.size:Int))))] ?_
  obtain rfl:=Option.some.inj heq
  refine Kg [0,12] [(0,.string a0),(12,.bool (decide (200<(a0.size:Int))))]<|Dn ?_
  exact K1
noncomputable def C20:Ctx:={ P:=Tryd.prog,f:=20,N:=27,c:=bodyOf Tryd.f20 }
def S20 (F:List Ch) (H0:Hp) (r:Int) (v:Value) (H:Hp) (cs:List Ch):Prop:=H0=H∧v=iv r∧F=cs
theorem trials_checkPaths.e1_c {w0:World} [GlobI 0 w0] {H:Hp} {F:List Ch} {r:Int}:trials_checkPaths.e1=some r→RunH C20 (S20 F H r) H w0 [.c [1,1,0],.c [1,1,1]] [] H (F):=by
 intro   heq
 unfold trials_checkPaths.e1 at heq
 refine Rr<|Rd 1 [2] [(2,iv 0)] ?_
 obtain rfl:=Option.some.inj heq
 exact RunH.done (by kernel_rfl) Tryd.func20 (v:=iv 0) (by kernel_rfl) ⟨rfl,rfl,rfl⟩
theorem trials_checkPaths.l2_c {w0:World} [GlobI 0 w0] {H:Hp} {F:List Ch} {r:Int} (e1:Option Int)
  (he1:e1=some r→RunH C20 (S20 F H r) H w0 [.c [1,1,0],.c [1,1,1]] [] H (F)):∀ (k:Nat),∀ (a0:List ByteArray) (Aa0:Option Addr) (ca0:Nat) (v7:Int) ,Rw Kd.string H F Aa0 a0→a0.length≤ca0→trials_checkPaths.l2 e1 k a0 v7=some r→RunH C20 (S20 F H r) H w0 [.c [1,0,1,0,0],.l [1,0,1,0,0],.b 0,.c [1,1]] [(0,.slice Aa0 a0.length ca0),(5,.slice Aa0 a0.length ca0),(6,iv (a0.length:Int)),(7,iv v7)] H (F):=by
 intro k
 induction k with
 | zero=>intro a0 Aa0 ca0 v7 hra0 hca0 heq; exact nomatch (show (none:Option Int)=some r from heq)
 | succ k ihk =>
  intro a0 Aa0 ca0 v7 hra0 hca0 heq
  rw [trials_checkPaths.l2] at heq
  refine Ra 1 [1,0,1,0,0,0] [.c [1,0,1,0,0,1],.l [1,0,1,0,0],.b 0,.c [1,1]]<|Rd 1 [0,5,6,7,8] [(0,.slice Aa0 a0.length ca0),(5,.slice Aa0 a0.length ca0),(6,iv (a0.length:Int)),(7,iv v7),(8,.bool (decide (v7<(a0.length:Int))))]<|Ad 1 [.c [1,0,1,0,0,1,0],.c [1,0,1,0,0,1,1],.l [1,0,1,0,0],.b 0,.c [1,1]] ?_
  rcases bool_cases (decide (v7<(a0.length:Int))) with hb1 | hb1
  ·replace heq:=bif_true hb1 heq
   refine Ct (decide (v7<(a0.length:Int))) hb1<|Ra 4 [1,0,1,0,0,1,1,0,0,0] [.c [1,0,1,0,0,1,1,0,0,1],.b 1,.c [1,0,1,0,0,1,1,1],.l [1,0,1,0,0],.b 0,.c [1,1]] ?_
   obtain ⟨x1,hx1,heq⟩:=bind_some heq
   obtain ⟨ha1,cs1,hK1,hcc1⟩:=hra0.get hx1
   obtain rfl:cs1=[.string x1]:=hK1
   refine Rw' 5 [0,3,4,5,6,7] [.string x1] [.need (Aa0=some (adr Aa0)∧(0:Int)≤v7∧v7<((a0.length:Nat):Int)),.load ((adr Aa0).add (v7.toNat*1)) (.string x1)] [(0,.slice Aa0 a0.length ca0),(3,iv v7),(4,.string x1),(5,.slice Aa0 a0.length ca0),(6,iv (a0.length:Int)),(7,iv v7)] (fun w hh=>⟨⟨ha1,(at?_some hx1).1,(at?_some hx1).2.1⟩,(hcc1 _ _ (hh.drop 0) 0 _ rfl)⟩)<|Ra 2 [1,0,1,0,0,1,1,0,0,1,0,0] [.c [1,0,1,0,0,1,1,0,0,1,0,1],.c [1,0,1,0,0,1,1,0,0,1,1],.b 1,.c [1,0,1,0,0,1,1,1],.l [1,0,1,0,0],.b 0,.c [1,1]]<|Rk 1 [0,3,4,5,6,7,12] [(0,.slice Aa0 a0.length ca0),(3,iv v7),(4,.string x1),(5,.slice Aa0 a0.length ca0),(6,iv (a0.length:Int)),(7,iv v7),(12,.string x1)] ?_
   obtain ⟨y1,hy1,heq⟩:=bind_some heq
   refine RgH.does (DoesH.call (d:=13) (g:=19) (args:=#[.string x1]) (by kernel_rfl) (blob_IsPath_c (a0:=x1)  hy1)) ?_
   rintro _ _ _ _ ⟨_,rfl,rfl,rfl,rfl⟩
   refine Rd 3 [0,3,4,5,6,7,14] [(0,.slice Aa0 a0.length ca0),(3,iv v7),(4,.string x1),(5,.slice Aa0 a0.length ca0),(6,iv (a0.length:Int)),(7,iv v7),(14,.bool (!y1))] ?_
   rcases bool_cases (!y1) with hb2 | hb2
   ·replace heq:=bif_true hb2 heq
    refine Ct (!y1) hb2<|Ra 1 [1,0,1,0,0,1,1,0,0,1,0,1,0,0] [.c [1,0,1,0,0,1,1,0,0,1,0,1,0,1],.c [1,0,1,0,0,1,1,0,0,1,1],.b 1,.c [1,0,1,0,0,1,1,1],.l [1,0,1,0,0],.b 0,.c [1,1]]<|Rd 1 [2] [(2,iv 3)] ?_
    obtain rfl:=Option.some.inj heq
    exact RunH.done (by kernel_rfl) Tryd.func20 (v:=iv 3) (by kernel_rfl) ⟨rfl,rfl,rfl⟩
   ·replace heq:=bif_false hb2 heq
    refine Cf (!y1) hb2<|Ad 2 [.c [1,0,1,0,0,1,1,0,0,1,1,0],.c [1,0,1,0,0,1,1,0,0,1,1,1],.b 1,.c [1,0,1,0,0,1,1,1],.l [1,0,1,0,0],.b 0,.c [1,1]] ?_
    obtain ⟨t1,ht1,heq⟩:=bind_some heq
    have K1:RunH C20 (S20 F H r) H w0 [.c [1,0,1,0,0,1,1,0,0,1,1,1],.b 1,.c [1,0,1,0,0,1,1,1],.l [1,0,1,0,0],.b 0,.c [1,1]] [(0,.slice Aa0 a0.length ca0),(5,.slice Aa0 a0.length ca0),(6,iv (a0.length:Int)),(7,iv v7),(25,.bool t1)] H (F):=by
     rcases bool_cases (t1) with hb4 | hb4
     ·replace heq:=bif_true hb4 heq
      refine Ct t1 hb4<|Ra 1 [1,0,1,0,0,1,1,0,0,1,1,1,0,0] [.c [1,0,1,0,0,1,1,0,0,1,1,1,0,1],.b 1,.c [1,0,1,0,0,1,1,1],.l [1,0,1,0,0],.b 0,.c [1,1]]<|Rd 1 [2] [(2,iv 8)] ?_
      obtain rfl:=Option.some.inj heq
      exact RunH.done (by kernel_rfl) Tryd.func20 (v:=iv 8) (by kernel_rfl) ⟨rfl,rfl,rfl⟩
     ·replace heq:=bif_false hb4 heq
      refine Cf t1 hb4<|Ra 2 [1,0,1,0,0,1,1,1] [.l [1,0,1,0,0],.b 0,.c [1,1]]<|Rd 2 [0,5,6,7] [(0,.slice Aa0 a0.length ca0),(5,.slice Aa0 a0.length ca0),(6,iv (a0.length:Int)),(7,iv (w64 (v7+1)))]<|Ad 1 [.c [1,0,1,0,0],.l [1,0,1,0,0],.b 0,.c [1,1]]<|Kp [0,5,6,7] [(0,.slice Aa0 a0.length ca0),(5,.slice Aa0 a0.length ca0),(6,iv (a0.length:Int)),(7,iv (w64 (v7+1)))] ?_
      exact ihk a0 _ _ (w64 (v7+1)) hra0 hca0 heq
    replace heq:=ht1
    refine Rr<|Rk 3 [17,0,3,4,5,6,7] [(17,.bool (decide (0<v7))),(0,.slice Aa0 a0.length ca0),(3,iv v7),(4,.string x1),(5,.slice Aa0 a0.length ca0),(6,iv (a0.length:Int)),(7,iv v7)] ?_
    rcases bool_cases (decide (0<v7)) with hb3 | hb3
    ·replace heq:=bif_true hb3 heq
     refine RgH.val1 (v':=.bool true) (congrArg Value.bool hb3) ?_
     obtain ⟨x2,hx2,heq⟩:=bind_some heq
     obtain ⟨ha2,cs2,hK2,hcc2⟩:=hra0.get hx2
     obtain rfl:cs2=[.string x2]:=hK2
     refine Rv 11 [0,5,6,7,25] [.string x2] [.need (Aa0=some (adr Aa0)∧(0:Int)≤(w64 (v7 - 1))∧(w64 (v7 - 1))<((a0.length:Nat):Int)),.load ((adr Aa0).add ((w64 (v7 - 1)).toNat*1)) (.string x2)] [(0,.slice Aa0 a0.length ca0),(5,.slice Aa0 a0.length ca0),(6,iv (a0.length:Int)),(7,iv v7),(25,.bool (sLt x1 x2||sEq x1 x2))] (fun w hh=>⟨⟨ha2,(at?_some hx2).1,(at?_some hx2).2.1⟩,(hcc2 _ _ (hh.drop 0) 0 _ rfl)⟩) ?_
     obtain rfl:=Option.some.inj heq
     refine Kg [0,5,6,7,25] [(0,.slice Aa0 a0.length ca0),(5,.slice Aa0 a0.length ca0),(6,iv (a0.length:Int)),(7,iv v7),(25,.bool (sLt x1 x2||sEq x1 x2))]<|Dn ?_
     exact K1
    ·replace heq:=bif_false hb3 heq
     refine RgH.val1 (v':=.bool false) (congrArg Value.bool hb3) ?_
     refine Rk 11 [0,5,6,7,25] [(0,.slice Aa0 a0.length ca0),(5,.slice Aa0 a0.length ca0),(6,iv (a0.length:Int)),(7,iv v7),(25,.bool false)] ?_
     obtain rfl:=Option.some.inj heq
     refine Kg [0,5,6,7,25] [(0,.slice Aa0 a0.length ca0),(5,.slice Aa0 a0.length ca0),(6,iv (a0.length:Int)),(7,iv v7),(25,.bool false)]<|Dn ?_
     exact K1
  ·replace heq:=bif_false hb1 heq
   refine Cf (decide (v7<(a0.length:Int))) hb1<|Ad 2 [.c [1,1,0],.c [1,1,1]]<|Kp [] [] ?_
   exact he1 heq
theorem trials_checkPaths_c {w0:World} [GlobI 0 w0] {H:Hp} {F:List Ch} {a0:List ByteArray} {Aa0:Option Addr} {na0:Nat} {ca0:Nat} {r:Int} (hra0:Rw Kd.string H F Aa0 a0) (hca0:na0≤ca0) (hna0:na0=a0.length) (heq:trials_checkPaths.f a0=some r):CallsH Tryd.prog 20 #[.slice Aa0 na0 ca0] H w0 (F) (S20 F H r):=by
 refine calls_of_runH (F:=C20) Tryd.func20 (by kernel_rfl) Tryd.ntmps20 (args:=[.slice Aa0 na0 ca0]) (by kernel_rfl) ?_
 subst hna0
 unfold trials_checkPaths.f at heq
 refine Ra 1 [0] [.c [1]]<|Rd 1 [0] [(0,.slice Aa0 a0.length ca0)]<|Ra 2 [1,0,0] [.c [1,0,1],.c [1,1]]<|Rd 3 [0,5,6,7] [(0,.slice Aa0 a0.length ca0),(5,.slice Aa0 a0.length ca0),(6,iv (a0.length:Int)),(7,iv 0)]<|Ad 2 [.c [1,0,1,0,0],.l [1,0,1,0,0],.b 0,.c [1,1]]<|Kp [0,5,6,7] [(0,.slice Aa0 a0.length ca0),(5,.slice Aa0 a0.length ca0),(6,iv (a0.length:Int)),(7,iv 0)] ?_
 exact ((trials_checkPaths.l2_c (e1:=trials_checkPaths.e1) (trials_checkPaths.e1_c)) big) a0 _ _ 0 hra0 hca0 heq
noncomputable def C39:Ctx:={ P:=Tryd.prog,f:=39,N:=6,c:=bodyOf Tryd.f39 }
def S39 (F:List Ch) (H0:Hp) (r:Bool) (v:Value) (H:Hp) (cs:List Ch):Prop:=H0=H∧v=.bool r∧F=cs
theorem slices_isNaN_string_c {w0:World} [GlobI 0 w0] {H:Hp} {F:List Ch} {a0:ByteArray} {r:Bool} (heq:slices_isNaN_string.f a0=some r):CallsH Tryd.prog 39 #[.string a0] H w0 (F) (S39 F H r):=by
 refine calls_of_runH (F:=C39) Tryd.func39 (by kernel_rfl) Tryd.ntmps39 (args:=[.string a0]) (by kernel_rfl) ?_
 unfold slices_isNaN_string.f at heq
 refine Ra 1 [0] [.c [1]]<|Rd 1 [0] [(0,.string a0)]<|Ra 1 [1,0] [.c [1,1]]<|Rd 4 [2] [(2,.bool (!sEq a0 a0))] ?_
 obtain rfl:=Option.some.inj heq
 exact RunH.done (by kernel_rfl) Tryd.func39 (v:=.bool (!sEq a0 a0)) (by kernel_rfl) ⟨rfl,rfl,rfl⟩
noncomputable def C45:Ctx:={ P:=Tryd.prog,f:=45,N:=6,c:=bodyOf Tryd.f45 }
def S45 (F:List Ch) (H0:Hp) (r:Bool) (v:Value) (H:Hp) (cs:List Ch):Prop:=H0=H∧v=.bool r∧F=cs
theorem cmp_isNaN_string_c {w0:World} [GlobI 0 w0] {H:Hp} {F:List Ch} {a0:ByteArray} {r:Bool} (heq:cmp_isNaN_string.f a0=some r):CallsH Tryd.prog 45 #[.string a0] H w0 (F) (S45 F H r):=by
 refine calls_of_runH (F:=C45) Tryd.func45 (by kernel_rfl) Tryd.ntmps45 (args:=[.string a0]) (by kernel_rfl) ?_
 unfold cmp_isNaN_string.f at heq
 refine Ra 1 [0] [.c [1]]<|Rd 1 [0] [(0,.string a0)]<|Ra 1 [1,0] [.c [1,1]]<|Rd 4 [2] [(2,.bool (!sEq a0 a0))] ?_
 obtain rfl:=Option.some.inj heq
 exact RunH.done (by kernel_rfl) Tryd.func45 (v:=.bool (!sEq a0 a0)) (by kernel_rfl) ⟨rfl,rfl,rfl⟩
noncomputable def C38:Ctx:={ P:=Tryd.prog,f:=38,N:=17,c:=bodyOf Tryd.f38 }
def S38 (F:List Ch) (H0:Hp) (r:Bool) (v:Value) (H:Hp) (cs:List Ch):Prop:=H0=H∧v=.bool r∧F=cs
theorem cmp_Less_string_c {w0:World} [GlobI 0 w0] {H:Hp} {F:List Ch} {a0:ByteArray} {a1:ByteArray} {r:Bool} (heq:cmp_Less_string.f a0 a1=some r):CallsH Tryd.prog 38 #[.string a0,.string a1] H w0 (F) (S38 F H r):=by
 refine calls_of_runH (F:=C38) Tryd.func38 (by kernel_rfl) Tryd.ntmps38 (args:=[.string a0,.string a1]) (by kernel_rfl) ?_
 unfold cmp_Less_string.f at heq
 refine Ra 1 [0] [.c [1]]<|Rd 1 [0,1] [(0,.string a0),(1,.string a1)]<|Ad 1 [.c [1,0],.c [1,1]] ?_
 obtain ⟨t1,ht1,heq⟩:=bind_some heq
 have K1:RunH C38 (S38 F H r) H w0 [.c [1,1]] [(4,.bool t1)] H (F):=by
  obtain rfl:=Option.some.inj heq
  exact RunH.done (by kernel_rfl) Tryd.func38 (v:=.bool t1) (by kernel_rfl) ⟨rfl,rfl,rfl⟩
 replace heq:=ht1
 refine Rr<|Rk 1 [0,1,5] [(0,.string a0),(1,.string a1),(5,.string a0)] ?_
 obtain ⟨y1,hy1,heq⟩:=bind_some heq
 refine RgH.does (DoesH.call (d:=6) (g:=45) (args:=#[.string a0]) (by kernel_rfl) (cmp_isNaN_string_c (a0:=a0)  hy1)) ?_
 rintro _ _ _ _ ⟨_,rfl,rfl,rfl,rfl⟩
 refine Rk 3 [7,0,1] [(7,.bool y1),(0,.string a0),(1,.string a1)] ?_
 rcases bool_cases (y1) with hb1 | hb1
 ·replace heq:=bif_true hb1 heq
  refine RgH.val1 (v':=.bool true) (congrArg Value.bool hb1) ?_
  refine Rk 4 [0,1,7,8] [(0,.string a0),(1,.string a1),(7,.bool true),(8,.string a1)] ?_
  obtain ⟨y2,hy2,heq⟩:=bind_some heq
  refine RgH.does (DoesH.call (d:=9) (g:=45) (args:=#[.string a1]) (by kernel_rfl) (cmp_isNaN_string_c (a0:=a1)  hy2)) ?_
  rintro _ _ _ _ ⟨_,rfl,rfl,rfl,rfl⟩
  refine Rk 8 [12,0,1] [(12,.bool (!y2)),(0,.string a0),(1,.string a1)] ?_
  rcases bool_cases (!y2) with hb2 | hb2
  ·replace heq:=bif_true hb2 heq
   refine RgH.val1 (v':=.bool true) (congrArg Value.bool hb2) ?_
   refine Rk 13 [4] [(4,.bool true)] ?_
   obtain rfl:=Option.some.inj heq
   refine Kg [4] [(4,.bool true)]<|Dn ?_
   exact K1
  ·replace heq:=bif_false hb2 heq
   refine RgH.val1 (v':=.bool false) (congrArg Value.bool hb2) ?_
   refine Rk 13 [4] [(4,.bool (sLt a0 a1))] ?_
   obtain rfl:=Option.some.inj heq
   refine Kg [4] [(4,.bool (sLt a0 a1))]<|Dn ?_
   exact K1
 ·replace heq:=bif_false hb1 heq
  refine RgH.val1 (v':=.bool false) (congrArg Value.bool hb1) ?_
  refine Rk 13 [4] [(4,.bool (sLt a0 a1))] ?_
  obtain rfl:=Option.some.inj heq
  refine Kg [4] [(4,.bool (sLt a0 a1))]<|Dn ?_
  exact K1
noncomputable def C23:Ctx:={ P:=Tryd.prog,f:=23,N:=54,c:=bodyOf Tryd.f23 }
def S23 (F:List Ch) (H0:Hp) (r:Int × Bool) (v:Value) (H:Hp) (cs:List Ch):Prop:=H0=H∧v=.tuple #[iv r.1,.bool r.2]∧F=cs
theorem slices_BinarySearch_string.e1_c {w0:World} [GlobI 0 w0] {H:Hp} {F:List Ch} {r:Int × Bool}:∀ (a0:List ByteArray) (Aa0:Option Addr) (ca0:Nat) (a1:ByteArray) (v_i7:Int) ,Rw Kd.string H F Aa0 a0→a0.length≤ca0→slices_BinarySearch_string.e1 a0 a1 v_i7=some r→RunH C23 (S23 F H r) H w0 [.c [1,1,1,1,0],.c [1,1,1,1,1]] [(0,.slice Aa0 a0.length ca0),(1,.string a1),(6,iv (a0.length:Int)),(7,iv v_i7)] H (F):=by
 intro a0 Aa0 ca0 a1 v_i7 hra0 hca0 heq
 unfold slices_BinarySearch_string.e1 at heq
 obtain ⟨t1,ht1,heq⟩:=bind_some heq
 have K1:RunH C23 (S23 F H r) H w0 [.c [1,1,1,1,1]] [(4,iv v_i7),(5,.bool t1)] H (F):=by
  obtain rfl:=Option.some.inj heq
  exact RunH.done (by kernel_rfl) Tryd.func23 (v:=.tuple #[iv v_i7,.bool t1]) (by kernel_rfl) ⟨rfl,rfl,rfl⟩
 replace heq:=ht1
 refine Rr<|Rk 5 [35,0,1,7,31] [(35,.bool (decide (v_i7<(a0.length:Int)))),(0,.slice Aa0 a0.length ca0),(1,.string a1),(7,iv v_i7),(31,iv v_i7)] ?_
 rcases bool_cases (decide (v_i7<(a0.length:Int))) with hb1 | hb1
 ·replace heq:=bif_true hb1 heq
  refine RgH.val1 (v':=.bool true) (congrArg Value.bool hb1) ?_
  obtain ⟨x1,hx1,heq⟩:=bind_some heq
  obtain ⟨ha1,cs1,hK1,hcc1⟩:=hra0.get hx1
  obtain rfl:cs1=[.string x1]:=hK1
  refine Rv 12 [42,0,1,7,31,35] [.string x1] [.need (Aa0=some (adr Aa0)∧(0:Int)≤v_i7∧v_i7<((a0.length:Nat):Int)),.load ((adr Aa0).add (v_i7.toNat*1)) (.string x1)] [(42,.bool (sEq x1 a1)),(0,.slice Aa0 a0.length ca0),(1,.string a1),(7,iv v_i7),(31,iv v_i7),(35,.bool true)] (fun w hh=>⟨⟨ha1,(at?_some hx1).1,(at?_some hx1).2.1⟩,(hcc1 _ _ (hh.drop 0) 0 _ rfl)⟩) ?_
  rcases bool_cases (sEq x1 a1) with hb2 | hb2
  ·replace heq:=bif_true hb2 heq
   refine RgH.val1 (v':=.bool true) (congrArg Value.bool hb2) ?_
   refine Rk 25 [4,5] [(4,iv v_i7),(5,.bool true)] ?_
   obtain rfl:=Option.some.inj heq
   refine Kg [4,5] [(4,iv v_i7),(5,.bool true)]<|Dn ?_
   exact K1
  ·replace heq:=bif_false hb2 heq
   refine RgH.val1 (v':=.bool false) (congrArg Value.bool hb2) ?_
   obtain ⟨ha2,cs2,hK2,hcc2⟩:=hra0.get hx1
   obtain rfl:cs2=[.string x1]:=hK2
   refine Rv 16 [1,31,35,42,46] [.string x1] [.need (Aa0=some (adr Aa0)∧(0:Int)≤v_i7∧v_i7<((a0.length:Nat):Int)),.load ((adr Aa0).add (v_i7.toNat*1)) (.string x1)] [(1,.string a1),(31,iv v_i7),(35,.bool true),(42,.bool false),(46,.string x1)] (fun w hh=>⟨⟨ha2,(at?_some hx1).1,(at?_some hx1).2.1⟩,(hcc2 _ _ (hh.drop 0) 0 _ rfl)⟩) ?_
   obtain ⟨y1,hy1,heq⟩:=bind_some heq
   refine RgH.does (DoesH.call (d:=47) (g:=39) (args:=#[.string x1]) (by kernel_rfl) (slices_isNaN_string_c (a0:=x1)  hy1)) ?_
   rintro _ _ _ _ ⟨_,rfl,rfl,rfl,rfl⟩
   refine Rk 18 [48,1,31,35,42] [(48,.bool y1),(1,.string a1),(31,iv v_i7),(35,.bool true),(42,.bool false)] ?_
   rcases bool_cases (y1) with hb3 | hb3
   ·replace heq:=bif_true hb3 heq
    refine RgH.val1 (v':=.bool true) (congrArg Value.bool hb3) ?_
    refine Rk 19 [31,35,42,48,49] [(31,iv v_i7),(35,.bool true),(42,.bool false),(48,.bool true),(49,.string a1)] ?_
    obtain ⟨y2,hy2,heq⟩:=bind_some heq
    refine RgH.does (DoesH.call (d:=50) (g:=39) (args:=#[.string a1]) (by kernel_rfl) (slices_isNaN_string_c (a0:=a1)  hy2)) ?_
    rintro _ _ _ _ ⟨_,rfl,rfl,rfl,rfl⟩
    refine Rk 25 [4,5] [(4,iv v_i7),(5,.bool y2)] ?_
    obtain rfl:=Option.some.inj heq
    refine Kg [4,5] [(4,iv v_i7),(5,.bool y2)]<|Dn ?_
    exact K1
   ·replace heq:=bif_false hb3 heq
    refine RgH.val1 (v':=.bool false) (congrArg Value.bool hb3) ?_
    refine Rk 25 [4,5] [(4,iv v_i7),(5,.bool false)] ?_
    obtain rfl:=Option.some.inj heq
    refine Kg [4,5] [(4,iv v_i7),(5,.bool false)]<|Dn ?_
    exact K1
 ·replace heq:=bif_false hb1 heq
  refine RgH.val1 (v':=.bool false) (congrArg Value.bool hb1) ?_
  refine Rk 25 [4,5] [(4,iv v_i7),(5,.bool false)] ?_
  obtain rfl:=Option.some.inj heq
  refine Kg [4,5] [(4,iv v_i7),(5,.bool false)]<|Dn ?_
  exact K1
theorem slices_BinarySearch_string.l2_c {w0:World} [GlobI 0 w0] {H:Hp} {F:List Ch} {r:Int × Bool} (e1:(List ByteArray)→ByteArray→Int→Option (Int × Bool))
  (he1:∀ (a0:List ByteArray) (Aa0:Option Addr) (ca0:Nat) (a1:ByteArray) (v_i7:Int) ,Rw Kd.string H F Aa0 a0→a0.length≤ca0→e1 a0 a1 v_i7=some r→RunH C23 (S23 F H r) H w0 [.c [1,1,1,1,0],.c [1,1,1,1,1]] [(0,.slice Aa0 a0.length ca0),(1,.string a1),(6,iv (a0.length:Int)),(7,iv v_i7)] H (F)):∀ (k:Nat),∀ (a0:List ByteArray) (Aa0:Option Addr) (ca0:Nat) (a1:ByteArray) (v_i7:Int) (v_j8:Int) ,Rw Kd.string H F Aa0 a0→a0.length≤ca0→slices_BinarySearch_string.l2 e1 k a0 a1 v_i7 v_j8=some r→RunH C23 (S23 F H r) H w0 [.c [1,1,1,0,0,0],.l [1,1,1,0,0,0],.b 0,.c [1,1,1,1]] [(0,.slice Aa0 a0.length ca0),(1,.string a1),(6,iv (a0.length:Int)),(7,iv v_i7),(8,iv v_j8)] H (F):=by
 intro k
 induction k with
 | zero=>intro a0 Aa0 ca0 a1 v_i7 v_j8 hra0 hca0 heq; exact nomatch (show (none:Option (Int × Bool))=some r from heq)
 | succ k ihk =>
  intro a0 Aa0 ca0 a1 v_i7 v_j8 hra0 hca0 heq
  rw [slices_BinarySearch_string.l2] at heq
  refine Ra 2 [1,1,1,0,0,0,0,0] [.c [1,1,1,0,0,0,0,1],.c [1,1,1,0,0,0,1],.l [1,1,1,0,0,0],.b 0,.c [1,1,1,1]]<|Rd 3 [0,1,6,7,8,15] [(0,.slice Aa0 a0.length ca0),(1,.string a1),(6,iv (a0.length:Int)),(7,iv v_i7),(8,iv v_j8),(15,.bool (decide (v_i7<v_j8)))] ?_
  rcases bool_cases (decide (v_i7<v_j8)) with hb4 | hb4
  ·replace heq:=bif_true hb4 heq
   refine Ct (decide (v_i7<v_j8)) hb4<|Ra 3 [1,1,1,0,0,0,1,0,0] [.c [1,1,1,0,0,0,1,0,1],.b 1,.l [1,1,1,0,0,0],.b 0,.c [1,1,1,1]]<|Rw' 7 [0,1,6,7,8,9] [] [.need ((0:Int)≤1)] [(0,.slice Aa0 a0.length ca0),(1,.string a1),(6,iv (a0.length:Int)),(7,iv v_i7),(8,iv v_j8),(9,iv (w64 (iShr .u64 (IntKind.wrap .u64 (w64 (v_i7+v_j8))) 1)))] (fun w hh=>(show (0:Int)≤1 by decide))<|Ra 1 [1,1,1,0,0,0,1,0,1,0] [.c [1,1,1,0,0,0,1,0,1,1],.b 1,.l [1,1,1,0,0,0],.b 0,.c [1,1,1,1]] ?_
   obtain ⟨x2,hx2,heq⟩:=bind_some heq
   obtain ⟨ha3,cs3,hK3,hcc3⟩:=hra0.get hx2
   obtain rfl:cs3=[.string x2]:=hK3
   refine Rv 5 [0,1,6,7,8,9,25,26] [.string x2] [.need (Aa0=some (adr Aa0)∧(0:Int)≤(w64 (iShr .u64 (IntKind.wrap .u64 (w64 (v_i7+v_j8))) 1))∧(w64 (iShr .u64 (IntKind.wrap .u64 (w64 (v_i7+v_j8))) 1))<((a0.length:Nat):Int)),.load ((adr Aa0).add ((w64 (iShr .u64 (IntKind.wrap .u64 (w64 (v_i7+v_j8))) 1)).toNat*1)) (.string x2)] [(0,.slice Aa0 a0.length ca0),(1,.string a1),(6,iv (a0.length:Int)),(7,iv v_i7),(8,iv v_j8),(9,iv (w64 (iShr .u64 (IntKind.wrap .u64 (w64 (v_i7+v_j8))) 1))),(25,.string x2),(26,.string a1)] (fun w hh=>⟨⟨ha3,(at?_some hx2).1,(at?_some hx2).2.1⟩,(hcc3 _ _ (hh.drop 0) 0 _ rfl)⟩) ?_
   obtain ⟨y3,hy3,heq⟩:=bind_some heq
   refine RgH.does (DoesH.call (d:=27) (g:=38) (args:=#[.string x2,.string a1]) (by kernel_rfl) (cmp_Less_string_c (a0:=x2) (a1:=a1)  hy3)) ?_
   rintro _ _ _ _ ⟨_,rfl,rfl,rfl,rfl⟩
   refine Dn ?_
   rcases bool_cases (y3) with hb5 | hb5
   ·replace heq:=bif_true hb5 heq
    refine Ct y3 hb5<|Rr<|Rd 3 [0,1,6,7,8] [(0,.slice Aa0 a0.length ca0),(1,.string a1),(6,iv (a0.length:Int)),(7,iv (w64 ((w64 (iShr .u64 (IntKind.wrap .u64 (w64 (v_i7+v_j8))) 1))+1))),(8,iv v_j8)]<|Ad 2 [.c [1,1,1,0,0,0],.l [1,1,1,0,0,0],.b 0,.c [1,1,1,1]]<|Kp [0,1,6,7,8] [(0,.slice Aa0 a0.length ca0),(1,.string a1),(6,iv (a0.length:Int)),(7,iv (w64 ((w64 (iShr .u64 (IntKind.wrap .u64 (w64 (v_i7+v_j8))) 1))+1))),(8,iv v_j8)] ?_
    exact ihk a0 _ _ a1 (w64 ((w64 (iShr .u64 (IntKind.wrap .u64 (w64 (v_i7+v_j8))) 1))+1)) v_j8 hra0 hca0 heq
   ·replace heq:=bif_false hb5 heq
    refine Cf y3 hb5<|Rr<|Rd 2 [0,1,6,7,8] [(0,.slice Aa0 a0.length ca0),(1,.string a1),(6,iv (a0.length:Int)),(7,iv v_i7),(8,iv (w64 (iShr .u64 (IntKind.wrap .u64 (w64 (v_i7+v_j8))) 1)))]<|Ad 2 [.c [1,1,1,0,0,0],.l [1,1,1,0,0,0],.b 0,.c [1,1,1,1]]<|Kp [0,1,6,7,8] [(0,.slice Aa0 a0.length ca0),(1,.string a1),(6,iv (a0.length:Int)),(7,iv v_i7),(8,iv (w64 (iShr .u64 (IntKind.wrap .u64 (w64 (v_i7+v_j8))) 1)))] ?_
    exact ihk a0 _ _ a1 v_i7 (w64 (iShr .u64 (IntKind.wrap .u64 (w64 (v_i7+v_j8))) 1)) hra0 hca0 heq
  ·replace heq:=bif_false hb4 heq
   refine Cf (decide (v_i7<v_j8)) hb4<|Ad 2 [.c [1,1,1,1,0],.c [1,1,1,1,1]]<|Kp [0,1,6,7] [(0,.slice Aa0 a0.length ca0),(1,.string a1),(6,iv (a0.length:Int)),(7,iv v_i7)] ?_
   exact he1 a0 _ _ a1 v_i7 hra0 hca0 heq
theorem slices_BinarySearch_string_c {w0:World} [GlobI 0 w0] {H:Hp} {F:List Ch} {a0:List ByteArray} {Aa0:Option Addr} {na0:Nat} {ca0:Nat} {a1:ByteArray} {r:Int × Bool} (hra0:Rw Kd.string H F Aa0 a0) (hca0:na0≤ca0) (hna0:na0=a0.length) (heq:slices_BinarySearch_string.f a0 a1=some r):CallsH Tryd.prog 23 #[.slice Aa0 na0 ca0,.string a1] H w0 (F) (S23 F H r):=by
 refine calls_of_runH (F:=C23) Tryd.func23 (by kernel_rfl) Tryd.ntmps23 (args:=[.slice Aa0 na0 ca0,.string a1]) (by kernel_rfl) ?_
 subst hna0
 unfold slices_BinarySearch_string.f at heq
 refine Ra 1 [0] [.c [1]]<|Rd 2 [0,1] [(0,.slice Aa0 a0.length ca0),(1,.string a1)]<|Ra 1 [1,0] [.c [1,1]]<|Rd 3 [0,1,6] [(0,.slice Aa0 a0.length ca0),(1,.string a1),(6,iv (a0.length:Int))]<|Ra 1 [1,1,0] [.c [1,1,1]]<|Rd 3 [0,1,6,7,8] [(0,.slice Aa0 a0.length ca0),(1,.string a1),(6,iv (a0.length:Int)),(7,iv 0),(8,iv (a0.length:Int))]<|Ad 3 [.c [1,1,1,0,0,0],.l [1,1,1,0,0,0],.b 0,.c [1,1,1,1]]<|Kp [0,1,6,7,8] [(0,.slice Aa0 a0.length ca0),(1,.string a1),(6,iv (a0.length:Int)),(7,iv 0),(8,iv (a0.length:Int))] ?_
 exact ((slices_BinarySearch_string.l2_c (e1:=slices_BinarySearch_string.e1) (slices_BinarySearch_string.e1_c)) big) a0 _ _ a1 0 (a0.length:Int) hra0 hca0 heq
noncomputable def C22:Ctx:={ P:=Tryd.prog,f:=22,N:=14,c:=bodyOf Tryd.f22 }
def S22 (F:List Ch) (H0:Hp) (r:Bool) (v:Value) (H:Hp) (cs:List Ch):Prop:=H0=H∧v=.bool r∧F=cs
theorem trials_CheckReads_1_c {w0:World} [GlobI 0 w0] {H:Hp} {F:List Ch} {a0:ByteArray} {ga1:Nat} {a1:TestReads} {Aa1_1:Option Addr} {na1_1:Nat} {ca1_1:Nat} {Aa1_2:Option Addr} {na1_2:Nat} {ca1_2:Nat} {r:Bool} (hra1_1:Rw Kd.string H F Aa1_1 a1.Paths) (hca1_1:na1_1≤ca1_1) (hna1_1:na1_1=a1.Paths.length) (hra1_2:Rw Kd.string H F Aa1_2 a1.Looked) (hca1_2:na1_2≤ca1_2) (hna1_2:na1_2=a1.Looked.length) (hga1:InG H F ga1 (.cells #[.string a1.Test,.slice Aa1_1 na1_1 ca1_1,.slice Aa1_2 na1_2 ca1_2] 39 (0,0))) (heq:trials_CheckReads_1.f a0 a1=some r):CallsH Tryd.prog 22 #[.string a0,.pointer (some ⟨ga1,0,none⟩)] H w0 (F) (S22 F H r):=by
 refine calls_of_runH (F:=C22) Tryd.func22 (by kernel_rfl) Tryd.ntmps22 (args:=[.string a0,.pointer (some ⟨ga1,0,none⟩)]) (by kernel_rfl) ?_
 subst hna1_1
 subst hna1_2
 unfold trials_CheckReads_1.f at heq
 refine Ra 1 [0] [.c [1]]<|Rd 1 [0,1] [(0,.string a0),(1,pg ga1 0)]<|Ra 1 [1,0] [.c [1,1]]<|Rv 3 [8,9] [.slice Aa1_1 a1.Paths.length ca1_1] [.load ⟨ga1,1,none⟩ (.slice Aa1_1 a1.Paths.length ca1_1)] [(8,.slice Aa1_1 a1.Paths.length ca1_1),(9,.string a0)] (fun w hh=>(hga1.cell (hh.drop 0) rfl)) ?_
 obtain ⟨y1,hy1,heq⟩:=bind_some heq
 refine RgH.does (DoesH.call (d:=10) (g:=23) (args:=#[.slice Aa1_1 a1.Paths.length ca1_1,.string a0]) (by kernel_rfl) (slices_BinarySearch_string_c (a0:=a1.Paths) (a1:=a0) hra1_1 hca1_1 rfl hy1)) ?_
 rintro _ _ _ _ ⟨_,rfl,rfl,rfl,rfl⟩
 refine Rd 9 [5] [(5,.bool y1.2)]<|Ra 1 [1,1,0] [.c [1,1,1]]<|Rd 2 [3] [(3,.bool y1.2)] ?_
 obtain rfl:=Option.some.inj heq
 exact RunH.done (by kernel_rfl) Tryd.func22 (v:=.bool y1.2) (by kernel_rfl) ⟨rfl,rfl,rfl⟩
noncomputable def C37:Ctx:={ P:=Tryd.prog,f:=37,N:=19,c:=bodyOf Tryd.f37 }
def S37 (F:List Ch) (H0:Hp) (r:Int) (v:Value) (H:Hp) (cs:List Ch):Prop:=H0=H∧v=iv r∧F=cs
theorem slices_IndexFunc_string.e1_c {w0:World} [GlobI 0 w0] {H:Hp} {F:List Ch} {r:Int}:slices_IndexFunc_string.e1=some r→RunH C37 (S37 F H r) H w0 [.c [1,1,0],.c [1,1,1]] [] H (F):=by
 intro   heq
 unfold slices_IndexFunc_string.e1 at heq
 refine Rr<|Rd 1 [4] [(4,iv (-1))] ?_
 obtain rfl:=Option.some.inj heq
 exact RunH.done (by kernel_rfl) Tryd.func37 (v:=iv (-1)) (by kernel_rfl) ⟨rfl,rfl,rfl⟩
theorem slices_IndexFunc_string.l2_c {w0:World} [GlobI 0 w0] {H:Hp} {F:List Ch} {r:Int} (e1:Option Int)
  (he1:e1=some r→RunH C37 (S37 F H r) H w0 [.c [1,1,0],.c [1,1,1]] [] H (F)):∀ (k:Nat),∀ (a0:List ByteArray) (Aa0:Option Addr) (ca0:Nat) (ga1q0:Nat) (a1q0:TestReads) (Aa1q0_1:Option Addr) (ca1q0_1:Nat) (Aa1q0_2:Option Addr) (ca1q0_2:Nat) (v8:Int) ,Rw Kd.string H F Aa0 a0→a0.length≤ca0→Rw Kd.string H F Aa1q0_1 a1q0.Paths→a1q0.Paths.length≤ca1q0_1→Rw Kd.string H F Aa1q0_2 a1q0.Looked→a1q0.Looked.length≤ca1q0_2→InG H F ga1q0 (.cells #[.string a1q0.Test,.slice Aa1q0_1 a1q0.Paths.length ca1q0_1,.slice Aa1q0_2 a1q0.Looked.length ca1q0_2] 39 (0,0))→slices_IndexFunc_string.l2 e1 k a0 a1q0 v8=some r→RunH C37 (S37 F H r) H w0 [.c [1,0,1,0,0],.l [1,0,1,0,0],.b 0,.c [1,1]] [(0,.slice Aa0 a0.length ca0),(1,.func (.func 22) #[] #[.pointer (some ⟨ga1q0,0,none⟩)]),(7,iv (a0.length:Int)),(8,iv v8)] H (F):=by
 intro k
 induction k with
 | zero=>intro a0 Aa0 ca0 ga1q0 a1q0 Aa1q0_1 ca1q0_1 Aa1q0_2 ca1q0_2 v8 hra0 hca0 hra1q0_1 hca1q0_1 hra1q0_2 hca1q0_2 hga1q0 heq; exact nomatch (show (none:Option Int)=some r from heq)
 | succ k ihk =>
  intro a0 Aa0 ca0 ga1q0 a1q0 Aa1q0_1 ca1q0_1 Aa1q0_2 ca1q0_2 v8 hra0 hca0 hra1q0_1 hca1q0_1 hra1q0_2 hca1q0_2 hga1q0 heq
  rw [slices_IndexFunc_string.l2] at heq
  refine Ra 1 [1,0,1,0,0,0] [.c [1,0,1,0,0,1],.l [1,0,1,0,0],.b 0,.c [1,1]]<|Rd 1 [0,1,7,8,9] [(0,.slice Aa0 a0.length ca0),(1,.func (.func 22) #[] #[.pointer (some ⟨ga1q0,0,none⟩)]),(7,iv (a0.length:Int)),(8,iv v8),(9,.bool (decide (v8<(a0.length:Int))))]<|Ad 1 [.c [1,0,1,0,0,1,0],.c [1,0,1,0,0,1,1],.l [1,0,1,0,0],.b 0,.c [1,1]] ?_
  rcases bool_cases (decide (v8<(a0.length:Int))) with hb1 | hb1
  ·replace heq:=bif_true hb1 heq
   refine Ct (decide (v8<(a0.length:Int))) hb1<|Ra 4 [1,0,1,0,0,1,1,0,0,0] [.c [1,0,1,0,0,1,1,0,0,1],.b 1,.c [1,0,1,0,0,1,1,1],.l [1,0,1,0,0],.b 0,.c [1,1]]<|Rd 2 [0,1,5,7,8] [(0,.slice Aa0 a0.length ca0),(1,.func (.func 22) #[] #[.pointer (some ⟨ga1q0,0,none⟩)]),(5,iv v8),(7,iv (a0.length:Int)),(8,iv v8)]<|Ra 1 [1,0,1,0,0,1,1,0,0,1,0] [.c [1,0,1,0,0,1,1,0,0,1,1],.b 1,.c [1,0,1,0,0,1,1,1],.l [1,0,1,0,0],.b 0,.c [1,1]] ?_
   obtain ⟨x1,hx1,heq⟩:=bind_some heq
   obtain ⟨ha1,cs1,hK1,hcc1⟩:=hra0.get hx1
   obtain rfl:cs1=[.string x1]:=hK1
   refine Rv 5 [0,1,5,7,8,11,15] [.string x1] [.need (Aa0=some (adr Aa0)∧(0:Int)≤v8∧v8<((a0.length:Nat):Int)),.load ((adr Aa0).add (v8.toNat*1)) (.string x1)] [(0,.slice Aa0 a0.length ca0),(1,.func (.func 22) #[] #[.pointer (some ⟨ga1q0,0,none⟩)]),(5,iv v8),(7,iv (a0.length:Int)),(8,iv v8),(11,.func (.func 22) #[] #[.pointer (some ⟨ga1q0,0,none⟩)]),(15,.string x1)] (fun w hh=>⟨⟨ha1,(at?_some hx1).1,(at?_some hx1).2.1⟩,(hcc1 _ _ (hh.drop 0) 0 _ rfl)⟩) ?_
   obtain ⟨y1,hy1,heq⟩:=bind_some heq
   refine RgH.does (DoesH.call (d:=16) (g:=22) (args:=#[.string x1,.pointer (some ⟨ga1q0,0,none⟩)]) (by kernel_rfl) (trials_CheckReads_1_c (a0:=x1) (a1:=a1q0) hra1q0_1 hca1q0_1 rfl hra1q0_2 hca1q0_2 rfl hga1q0 hy1)) ?_
   rintro _ _ _ _ ⟨_,rfl,rfl,rfl,rfl⟩
   refine Dn ?_
   rcases bool_cases (y1) with hb2 | hb2
   ·replace heq:=bif_true hb2 heq
    refine Ct y1 hb2<|Ra 1 [1,0,1,0,0,1,1,0,0,1,1,0,0] [.c [1,0,1,0,0,1,1,0,0,1,1,0,1],.b 1,.c [1,0,1,0,0,1,1,1],.l [1,0,1,0,0],.b 0,.c [1,1]]<|Rd 2 [4] [(4,iv v8)] ?_
    obtain rfl:=Option.some.inj heq
    exact RunH.done (by kernel_rfl) Tryd.func37 (v:=iv v8) (by kernel_rfl) ⟨rfl,rfl,rfl⟩
   ·replace heq:=bif_false hb2 heq
    refine Cf y1 hb2<|Ra 2 [1,0,1,0,0,1,1,1] [.l [1,0,1,0,0],.b 0,.c [1,1]]<|Rd 2 [0,1,7,8] [(0,.slice Aa0 a0.length ca0),(1,.func (.func 22) #[] #[.pointer (some ⟨ga1q0,0,none⟩)]),(7,iv (a0.length:Int)),(8,iv (w64 (v8+1)))]<|Ad 1 [.c [1,0,1,0,0],.l [1,0,1,0,0],.b 0,.c [1,1]]<|Kp [0,1,7,8] [(0,.slice Aa0 a0.length ca0),(1,.func (.func 22) #[] #[.pointer (some ⟨ga1q0,0,none⟩)]),(7,iv (a0.length:Int)),(8,iv (w64 (v8+1)))] ?_
    exact ihk a0 _ _ _ a1q0 _ _ _ _ (w64 (v8+1)) hra0 hca0 hra1q0_1 hca1q0_1 hra1q0_2 hca1q0_2 hga1q0 heq
  ·replace heq:=bif_false hb1 heq
   refine Cf (decide (v8<(a0.length:Int))) hb1<|Ad 2 [.c [1,1,0],.c [1,1,1]]<|Kp [] [] ?_
   exact he1 heq
theorem slices_IndexFunc_string_c {w0:World} [GlobI 0 w0] {H:Hp} {F:List Ch} {a0:List ByteArray} {Aa0:Option Addr} {na0:Nat} {ca0:Nat} {ga1q0:Nat} {a1q0:TestReads} {Aa1q0_1:Option Addr} {na1q0_1:Nat} {ca1q0_1:Nat} {Aa1q0_2:Option Addr} {na1q0_2:Nat} {ca1q0_2:Nat} {r:Int} (hra0:Rw Kd.string H F Aa0 a0) (hca0:na0≤ca0) (hna0:na0=a0.length) (hra1q0_1:Rw Kd.string H F Aa1q0_1 a1q0.Paths) (hca1q0_1:na1q0_1≤ca1q0_1) (hna1q0_1:na1q0_1=a1q0.Paths.length) (hra1q0_2:Rw Kd.string H F Aa1q0_2 a1q0.Looked) (hca1q0_2:na1q0_2≤ca1q0_2) (hna1q0_2:na1q0_2=a1q0.Looked.length) (hga1q0:InG H F ga1q0 (.cells #[.string a1q0.Test,.slice Aa1q0_1 na1q0_1 ca1q0_1,.slice Aa1q0_2 na1q0_2 ca1q0_2] 39 (0,0))) (heq:slices_IndexFunc_string.f a0 a1q0=some r):CallsH Tryd.prog 37 #[.slice Aa0 na0 ca0,.func (.func 22) #[] #[.pointer (some ⟨ga1q0,0,none⟩)]] H w0 (F) (S37 F H r):=by
 refine calls_of_runH (F:=C37) Tryd.func37 (by kernel_rfl) Tryd.ntmps37 (args:=[.slice Aa0 na0 ca0,.func (.func 22) #[] #[.pointer (some ⟨ga1q0,0,none⟩)]]) (by kernel_rfl) ?_
 subst hna0
 subst hna1q0_1
 subst hna1q0_2
 unfold slices_IndexFunc_string.f at heq
 refine Ra 1 [0] [.c [1]]<|Rd 1 [0,1] [(0,.slice Aa0 a0.length ca0),(1,.func (.func 22) #[] #[.pointer (some ⟨ga1q0,0,none⟩)])]<|Ra 2 [1,0,0] [.c [1,0,1],.c [1,1]]<|Rd 3 [0,1,7,8] [(0,.slice Aa0 a0.length ca0),(1,.func (.func 22) #[] #[.pointer (some ⟨ga1q0,0,none⟩)]),(7,iv (a0.length:Int)),(8,iv 0)]<|Ad 2 [.c [1,0,1,0,0],.l [1,0,1,0,0],.b 0,.c [1,1]]<|Kp [0,1,7,8] [(0,.slice Aa0 a0.length ca0),(1,.func (.func 22) #[] #[.pointer (some ⟨ga1q0,0,none⟩)]),(7,iv (a0.length:Int)),(8,iv 0)] ?_
 exact ((slices_IndexFunc_string.l2_c (e1:=slices_IndexFunc_string.e1) (slices_IndexFunc_string.e1_c)) big) a0 _ _ _ a1q0 _ _ _ _ 0 hra0 hca0 hra1q0_1 hca1q0_1 hra1q0_2 hca1q0_2 hga1q0 heq
noncomputable def C21:Ctx:={ P:=Tryd.prog,f:=21,N:=9,c:=bodyOf Tryd.f21 }
def S21 (F:List Ch) (H0:Hp) (r:Bool) (v:Value) (H:Hp) (cs:List Ch):Prop:=H0=H∧v=.bool r∧F=cs
theorem slices_ContainsFunc_string_c {w0:World} [GlobI 0 w0] {H:Hp} {F:List Ch} {a0:List ByteArray} {Aa0:Option Addr} {na0:Nat} {ca0:Nat} {ga1q0:Nat} {a1q0:TestReads} {Aa1q0_1:Option Addr} {na1q0_1:Nat} {ca1q0_1:Nat} {Aa1q0_2:Option Addr} {na1q0_2:Nat} {ca1q0_2:Nat} {r:Bool} (hra0:Rw Kd.string H F Aa0 a0) (hca0:na0≤ca0) (hna0:na0=a0.length) (hra1q0_1:Rw Kd.string H F Aa1q0_1 a1q0.Paths) (hca1q0_1:na1q0_1≤ca1q0_1) (hna1q0_1:na1q0_1=a1q0.Paths.length) (hra1q0_2:Rw Kd.string H F Aa1q0_2 a1q0.Looked) (hca1q0_2:na1q0_2≤ca1q0_2) (hna1q0_2:na1q0_2=a1q0.Looked.length) (hga1q0:InG H F ga1q0 (.cells #[.string a1q0.Test,.slice Aa1q0_1 na1q0_1 ca1q0_1,.slice Aa1q0_2 na1q0_2 ca1q0_2] 39 (0,0))) (heq:slices_ContainsFunc_string.f a0 a1q0=some r):CallsH Tryd.prog 21 #[.slice Aa0 na0 ca0,.func (.func 22) #[] #[.pointer (some ⟨ga1q0,0,none⟩)]] H w0 (F) (S21 F H r):=by
 refine calls_of_runH (F:=C21) Tryd.func21 (by kernel_rfl) Tryd.ntmps21 (args:=[.slice Aa0 na0 ca0,.func (.func 22) #[] #[.pointer (some ⟨ga1q0,0,none⟩)]]) (by kernel_rfl) ?_
 subst hna0
 subst hna1q0_1
 subst hna1q0_2
 unfold slices_ContainsFunc_string.f at heq
 refine Ra 1 [0] [.c [1]]<|Rd 1 [0,1] [(0,.slice Aa0 a0.length ca0),(1,.func (.func 22) #[] #[.pointer (some ⟨ga1q0,0,none⟩)])]<|Ra 1 [1,0] [.c [1,1]]<|Rk 2 [5,6] [(5,.slice Aa0 a0.length ca0),(6,.func (.func 22) #[] #[.pointer (some ⟨ga1q0,0,none⟩)])] ?_
 obtain ⟨y1,hy1,heq⟩:=bind_some heq
 refine RgH.does (DoesH.call (d:=7) (g:=37) (args:=#[.slice Aa0 a0.length ca0,.func (.func 22) #[] #[.pointer (some ⟨ga1q0,0,none⟩)]]) (by kernel_rfl) (slices_IndexFunc_string_c (a0:=a0) (a1q0:=a1q0) hra0 hca0 rfl hra1q0_1 hca1q0_1 rfl hra1q0_2 hca1q0_2 rfl hga1q0 hy1)) ?_
 rintro _ _ _ _ ⟨_,rfl,rfl,rfl,rfl⟩
 refine Rd 5 [4] [(4,.bool (decide (0≤y1)))] ?_
 obtain rfl:=Option.some.inj heq
 exact RunH.done (by kernel_rfl) Tryd.func21 (v:=.bool (decide (0≤y1))) (by kernel_rfl) ⟨rfl,rfl,rfl⟩
noncomputable def C8:Ctx:={ P:=Tryd.prog,f:=8,N:=61,c:=bodyOf Tryd.f8 }
def S8 (F:List Ch) (H0:Hp) (r:Int) (v:Value) (H:Hp) (cs:List Ch):Prop:=H0=H∧v=iv r∧F=cs
theorem trials_CheckReads.e1_c {w0:World} [GlobI 0 w0] {H:Hp} {F:List Ch} {r:Int}:trials_CheckReads.e1=some r→RunH C8 (S8 F H r) H w0 [.c [1,1,1,0],.c [1,1,1,1]] [] H (F):=by
 intro   heq
 unfold trials_CheckReads.e1 at heq
 refine Rr<|Rd 1 [2] [(2,iv 0)] ?_
 obtain rfl:=Option.some.inj heq
 exact RunH.done (by kernel_rfl) Tryd.func8 (v:=iv 0) (by kernel_rfl) ⟨rfl,rfl,rfl⟩
theorem trials_CheckReads.l2_c {w0:World} [GlobI 0 w0] {H:Hp} {F:List Ch} {r:Int} (e1:Option Int)
  (he1:e1=some r→RunH C8 (S8 F H r) H w0 [.c [1,1,1,0],.c [1,1,1,1]] [] H (F)):∀ (k:Nat),∀ (a0:List TestReads) (Aa0:Option Addr) (ca0:Nat) (v12:Int) ,Rw kTestReads H F Aa0 a0→a0.length≤ca0→trials_CheckReads.l2 e1 k a0 v12=some r→RunH C8 (S8 F H r) H w0 [.c [1,1,0,1,0,0],.l [1,1,0,1,0,0],.b 0,.c [1,1,1]] [(0,.slice Aa0 a0.length ca0),(10,.slice Aa0 a0.length ca0),(11,iv (a0.length:Int)),(12,iv v12)] H (F):=by
 intro k
 induction k with
 | zero=>intro a0 Aa0 ca0 v12 hra0 hca0 heq; exact nomatch (show (none:Option Int)=some r from heq)
 | succ k ihk =>
  intro a0 Aa0 ca0 v12 hra0 hca0 heq
  rw [trials_CheckReads.l2] at heq
  refine Ra 1 [1,1,0,1,0,0,0] [.c [1,1,0,1,0,0,1],.l [1,1,0,1,0,0],.b 0,.c [1,1,1]]<|Rd 1 [0,10,11,12,13] [(0,.slice Aa0 a0.length ca0),(10,.slice Aa0 a0.length ca0),(11,iv (a0.length:Int)),(12,iv v12),(13,.bool (decide (v12<(a0.length:Int))))]<|Ad 1 [.c [1,1,0,1,0,0,1,0],.c [1,1,0,1,0,0,1,1],.l [1,1,0,1,0,0],.b 0,.c [1,1,1]] ?_
  rcases bool_cases (decide (v12<(a0.length:Int))) with hb2 | hb2
  ·replace heq:=bif_true hb2 heq
   refine Ct (decide (v12<(a0.length:Int))) hb2<|Ra 4 [1,1,0,1,0,0,1,1,0,0,0] [.c [1,1,0,1,0,0,1,1,0,0,1],.b 1,.c [1,1,0,1,0,0,1,1,1],.l [1,1,0,1,0,0],.b 0,.c [1,1,1]] ?_
   obtain ⟨x1,hx1,heq⟩:=bind_some heq
   obtain ⟨ha1,cs1,hK1,hcc1⟩:=hra0.get hx1
   obtain ⟨A1,c1,A2,c2,rfl,hc1,hr1,hc2,hr2⟩:=kTestReads_open hK1
   refine Rv 3 [0,10,11,12,14,16] [.string x1.Test,.slice A1 x1.Paths.length c1,.slice A2 x1.Looked.length c2] [.need (Aa0=some (adr Aa0)∧(0:Int)≤v12∧v12<((a0.length:Nat):Int)),.load (((adr Aa0).add (v12.toNat*3)).add 0) (.string x1.Test),.load (((adr Aa0).add (v12.toNat*3)).add 1) (.slice A1 x1.Paths.length c1),.load (((adr Aa0).add (v12.toNat*3)).add 2) (.slice A2 x1.Looked.length c2)] [(0,.slice Aa0 a0.length ca0),(10,.slice Aa0 a0.length ca0),(11,iv (a0.length:Int)),(12,iv v12),(14,iv v12),(16,.agg #[.string x1.Test,.slice A1 x1.Paths.length c1,.slice A2 x1.Looked.length c2])] (fun w hh=>⟨⟨ha1,(at?_some hx1).1,(at?_some hx1).2.1⟩,(hcc1 _ _ (hh.drop 0) 0 _ rfl),(hcc1 _ _ (hh.drop 0) 1 _ rfl),(hcc1 _ _ (hh.drop 0) 2 _ rfl)⟩) ?_
   refine RgH.does (DoesH.new (d:=4) (v:=fun g=>.pointer (some ⟨g,0,none⟩)) (o:=fun g=>.cells #[.string ByteArray.empty,.slice none 0 0,.slice none 0 0] 39 (0,0)) (fun g=>by kernel_rfl)) ?_
   rintro _ _ _ _ ⟨g1,rfl,rfl,rfl⟩
   refine Rk 5 [0,3,4,10,11,12,16] [(0,.slice Aa0 a0.length ca0),(3,iv v12),(4,pg g1 0),(10,.slice Aa0 a0.length ca0),(11,iv (a0.length:Int)),(12,iv v12),(16,.agg #[.string x1.Test,.slice A1 x1.Paths.length c1,.slice A2 x1.Looked.length c2])] ?_
   refine RgH.does (DoesH.store (k:=0) (g:=g1) (off:=0) (v:=.agg #[.string x1.Test,.slice A1 x1.Paths.length c1,.slice A2 x1.Looked.length c2]) (cells':=#[.string x1.Test,.slice A1 x1.Paths.length c1,.slice A2 x1.Looked.length c2]) (by kernel_rfl) rfl (by kernel_rfl) (by kernel_rfl)) ?_
   rintro _ _ _ _ ⟨rfl,rfl,rfl⟩
   refine Dn<|Ra 2 [1,1,0,1,0,0,1,1,0,0,1,0,0] [.c [1,1,0,1,0,0,1,1,0,0,1,0,1],.c [1,1,0,1,0,0,1,1,0,0,1,1],.b 1,.c [1,1,0,1,0,0,1,1,1],.l [1,1,0,1,0,0],.b 0,.c [1,1,1]]<|Rv 2 [0,3,4,10,11,12,18] [.string x1.Test] [.load ⟨g1,0,none⟩ (.string x1.Test)] [(0,.slice Aa0 a0.length ca0),(3,iv v12),(4,pg g1 0),(10,.slice Aa0 a0.length ca0),(11,iv (a0.length:Int)),(12,iv v12),(18,.string x1.Test)] (fun w hh=>(hh.box 0 rfl rfl)) ?_
   obtain ⟨y1,hy1,heq⟩:=bind_some heq
   refine RgH.does (DoesH.call (d:=19) (g:=19) (args:=#[.string x1.Test]) (by kernel_rfl) (blob_IsPath_c (a0:=x1.Test)  hy1)) ?_
   rintro _ _ _ _ ⟨_,rfl,rfl,rfl,rfl⟩
   refine Rd 4 [0,3,4,10,11,12,20] [(0,.slice Aa0 a0.length ca0),(3,iv v12),(4,pg g1 0),(10,.slice Aa0 a0.length ca0),(11,iv (a0.length:Int)),(12,iv v12),(20,.bool (!y1))] ?_
   rcases bool_cases (!y1) with hb3 | hb3
   ·replace heq:=bif_true hb3 heq
    refine Ct (!y1) hb3<|Ra 1 [1,1,0,1,0,0,1,1,0,0,1,0,1,0,0] [.c [1,1,0,1,0,0,1,1,0,0,1,0,1,0,1],.c [1,1,0,1,0,0,1,1,0,0,1,1],.b 1,.c [1,1,0,1,0,0,1,1,1],.l [1,1,0,1,0,0],.b 0,.c [1,1,1]]<|Rd 1 [2] [(2,iv 5)] ?_
    obtain rfl:=Option.some.inj heq
    refine RunH.pick 1 [] (cs':=F) (by kernel_rfl) rfl ?_
    exact RunH.done (by kernel_rfl) Tryd.func8 (v:=iv 5) (by kernel_rfl) ⟨rfl,rfl,rfl⟩
   ·replace heq:=bif_false hb3 heq
    refine Cf (!y1) hb3<|Ad 3 [.c [1,1,0,1,0,0,1,1,0,0,1,1,0,0],.c [1,1,0,1,0,0,1,1,0,0,1,1,0,1],.c [1,1,0,1,0,0,1,1,0,0,1,1,1],.b 1,.c [1,1,0,1,0,0,1,1,1],.l [1,1,0,1,0,0],.b 0,.c [1,1,1]] ?_
    obtain ⟨t1,ht1,heq⟩:=bind_some heq
    have K2:RunH C8 (S8 F H r) H w0 [.c [1,1,0,1,0,0,1,1,0,0,1,1,0,1],.c [1,1,0,1,0,0,1,1,0,0,1,1,1],.b 1,.c [1,1,0,1,0,0,1,1,1],.l [1,1,0,1,0,0],.b 0,.c [1,1,1]] [(0,.slice Aa0 a0.length ca0),(3,iv v12),(4,pg g1 0),(10,.slice Aa0 a0.length ca0),(11,iv (a0.length:Int)),(12,iv v12),(30,.bool t1)] H ((some (g1,.cells #[.string x1.Test,.slice A1 x1.Paths.length c1,.slice A2 x1.Looked.length c2] 39 (0,0)))::F):=by
     rcases bool_cases (t1) with hb5 | hb5
     ·replace heq:=bif_true hb5 heq
      refine Ct t1 hb5<|Ra 1 [1,1,0,1,0,0,1,1,0,0,1,1,0,1,0,0] [.c [1,1,0,1,0,0,1,1,0,0,1,1,0,1,0,1],.c [1,1,0,1,0,0,1,1,0,0,1,1,1],.b 1,.c [1,1,0,1,0,0,1,1,1],.l [1,1,0,1,0,0],.b 0,.c [1,1,1]]<|Rd 1 [2] [(2,iv 2)] ?_
      obtain rfl:=Option.some.inj heq
      refine RunH.pick 1 [] (cs':=F) (by kernel_rfl) rfl ?_
      exact RunH.done (by kernel_rfl) Tryd.func8 (v:=iv 2) (by kernel_rfl) ⟨rfl,rfl,rfl⟩
     ·replace heq:=bif_false hb5 heq
      refine Cf t1 hb5<|Ra 3 [1,1,0,1,0,0,1,1,0,0,1,1,1,0,0] [.c [1,1,0,1,0,0,1,1,0,0,1,1,1,0,1],.c [1,1,0,1,0,0,1,1,0,0,1,1,1,1],.b 1,.c [1,1,0,1,0,0,1,1,1],.l [1,1,0,1,0,0],.b 0,.c [1,1,1]]<|Rv 2 [0,3,4,10,11,12,32] [.slice A1 x1.Paths.length c1] [.load ⟨g1,1,none⟩ (.slice A1 x1.Paths.length c1)] [(0,.slice Aa0 a0.length ca0),(3,iv v12),(4,pg g1 0),(10,.slice Aa0 a0.length ca0),(11,iv (a0.length:Int)),(12,iv v12),(32,.slice A1 x1.Paths.length c1)] (fun w hh=>(hh.box 0 rfl rfl)) ?_
      obtain ⟨y2,hy2,heq⟩:=bind_some heq
      refine RgH.does (DoesH.call (d:=33) (g:=20) (args:=#[.slice A1 x1.Paths.length c1]) (by kernel_rfl) (trials_checkPaths_c (a0:=x1.Paths) (Rw.of hr1) hc1 rfl hy2)) ?_
      rintro _ _ _ _ ⟨_,rfl,rfl,rfl,rfl⟩
      refine Rd 4 [0,3,4,5,10,11,12] [(0,.slice Aa0 a0.length ca0),(3,iv v12),(4,pg g1 0),(5,iv y2),(10,.slice Aa0 a0.length ca0),(11,iv (a0.length:Int)),(12,iv v12)]<|Ra 1 [1,1,0,1,0,0,1,1,0,0,1,1,1,0,1,0] [.c [1,1,0,1,0,0,1,1,0,0,1,1,1,0,1,1],.c [1,1,0,1,0,0,1,1,0,0,1,1,1,1],.b 1,.c [1,1,0,1,0,0,1,1,1],.l [1,1,0,1,0,0],.b 0,.c [1,1,1]]<|Rd 2 [0,3,4,5,10,11,12,35] [(0,.slice Aa0 a0.length ca0),(3,iv v12),(4,pg g1 0),(5,iv y2),(10,.slice Aa0 a0.length ca0),(11,iv (a0.length:Int)),(12,iv v12),(35,.bool (y2 != 0))] ?_
      rcases bool_cases (y2 != 0) with hb6 | hb6
      ·replace heq:=bif_true hb6 heq
       refine Ct (y2 != 0) hb6<|Ra 1 [1,1,0,1,0,0,1,1,0,0,1,1,1,0,1,1,0,0] [.c [1,1,0,1,0,0,1,1,0,0,1,1,1,0,1,1,0,1],.c [1,1,0,1,0,0,1,1,0,0,1,1,1,1],.b 1,.c [1,1,0,1,0,0,1,1,1],.l [1,1,0,1,0,0],.b 0,.c [1,1,1]]<|Rd 2 [2] [(2,iv y2)] ?_
       obtain rfl:=Option.some.inj heq
       refine RunH.pick 1 [] (cs':=F) (by kernel_rfl) rfl ?_
       exact RunH.done (by kernel_rfl) Tryd.func8 (v:=iv y2) (by kernel_rfl) ⟨rfl,rfl,rfl⟩
      ·replace heq:=bif_false hb6 heq
       refine Cf (y2 != 0) hb6<|Ra 3 [1,1,0,1,0,0,1,1,0,0,1,1,1,1,0,0] [.c [1,1,0,1,0,0,1,1,0,0,1,1,1,1,0,1],.c [1,1,0,1,0,0,1,1,0,0,1,1,1,1,1],.b 1,.c [1,1,0,1,0,0,1,1,1],.l [1,1,0,1,0,0],.b 0,.c [1,1,1]]<|Rv 2 [0,3,4,10,11,12,38] [.slice A2 x1.Looked.length c2] [.load ⟨g1,2,none⟩ (.slice A2 x1.Looked.length c2)] [(0,.slice Aa0 a0.length ca0),(3,iv v12),(4,pg g1 0),(10,.slice Aa0 a0.length ca0),(11,iv (a0.length:Int)),(12,iv v12),(38,.slice A2 x1.Looked.length c2)] (fun w hh=>(hh.box 0 rfl rfl)) ?_
       obtain ⟨y3,hy3,heq⟩:=bind_some heq
       refine RgH.does (DoesH.call (d:=39) (g:=20) (args:=#[.slice A2 x1.Looked.length c2]) (by kernel_rfl) (trials_checkPaths_c (a0:=x1.Looked) (Rw.of hr2) hc2 rfl hy3)) ?_
       rintro _ _ _ _ ⟨_,rfl,rfl,rfl,rfl⟩
       refine Rd 4 [0,3,4,6,10,11,12] [(0,.slice Aa0 a0.length ca0),(3,iv v12),(4,pg g1 0),(6,iv y3),(10,.slice Aa0 a0.length ca0),(11,iv (a0.length:Int)),(12,iv v12)]<|Ra 1 [1,1,0,1,0,0,1,1,0,0,1,1,1,1,0,1,0] [.c [1,1,0,1,0,0,1,1,0,0,1,1,1,1,0,1,1],.c [1,1,0,1,0,0,1,1,0,0,1,1,1,1,1],.b 1,.c [1,1,0,1,0,0,1,1,1],.l [1,1,0,1,0,0],.b 0,.c [1,1,1]]<|Rd 2 [0,3,4,6,10,11,12,41] [(0,.slice Aa0 a0.length ca0),(3,iv v12),(4,pg g1 0),(6,iv y3),(10,.slice Aa0 a0.length ca0),(11,iv (a0.length:Int)),(12,iv v12),(41,.bool (y3 != 0))] ?_
       rcases bool_cases (y3 != 0) with hb7 | hb7
       ·replace heq:=bif_true hb7 heq
        refine Ct (y3 != 0) hb7<|Ra 1 [1,1,0,1,0,0,1,1,0,0,1,1,1,1,0,1,1,0,0] [.c [1,1,0,1,0,0,1,1,0,0,1,1,1,1,0,1,1,0,1],.c [1,1,0,1,0,0,1,1,0,0,1,1,1,1,1],.b 1,.c [1,1,0,1,0,0,1,1,1],.l [1,1,0,1,0,0],.b 0,.c [1,1,1]]<|Rd 2 [2] [(2,iv y3)] ?_
        obtain rfl:=Option.some.inj heq
        refine RunH.pick 1 [] (cs':=F) (by kernel_rfl) rfl ?_
        exact RunH.done (by kernel_rfl) Tryd.func8 (v:=iv y3) (by kernel_rfl) ⟨rfl,rfl,rfl⟩
       ·replace heq:=bif_false hb7 heq
        refine Cf (y3 != 0) hb7<|Ra 3 [1,1,0,1,0,0,1,1,0,0,1,1,1,1,1,0,0] [.c [1,1,0,1,0,0,1,1,0,0,1,1,1,1,1,0,1],.c [1,1,0,1,0,0,1,1,0,0,1,1,1,1,1,1],.b 1,.c [1,1,0,1,0,0,1,1,1],.l [1,1,0,1,0,0],.b 0,.c [1,1,1]]<|Rv 3 [0,3,4,10,11,12,44,45] [.slice A2 x1.Looked.length c2] [.load ⟨g1,2,none⟩ (.slice A2 x1.Looked.length c2)] [(0,.slice Aa0 a0.length ca0),(3,iv v12),(4,pg g1 0),(10,.slice Aa0 a0.length ca0),(11,iv (a0.length:Int)),(12,iv v12),(44,.slice A2 x1.Looked.length c2),(45,.func (.func 22) #[] #[.pointer (some ⟨g1,0,none⟩)])] (fun w hh=>(hh.box 0 rfl rfl)) ?_
        obtain ⟨y4,hy4,heq⟩:=bind_some heq
        refine RgH.does (DoesH.call (d:=46) (g:=21) (args:=#[.slice A2 x1.Looked.length c2,.func (.func 22) #[] #[.pointer (some ⟨g1,0,none⟩)]]) (by kernel_rfl) (slices_ContainsFunc_string_c (a0:=x1.Looked) (a1q0:=x1) (Rw.of hr2) hc2 rfl (Rw.of hr1) hc1 rfl (Rw.of hr2) hc2 rfl (.inr (.head _)) hy4)) ?_
        rintro _ _ _ _ ⟨_,rfl,rfl,rfl,rfl⟩
        refine Dn ?_
        rcases bool_cases (y4) with hb8 | hb8
        ·replace heq:=bif_true hb8 heq
         refine Ct y4 hb8<|Ra 1 [1,1,0,1,0,0,1,1,0,0,1,1,1,1,1,0,1,0,0] [.c [1,1,0,1,0,0,1,1,0,0,1,1,1,1,1,0,1,0,1],.c [1,1,0,1,0,0,1,1,0,0,1,1,1,1,1,1],.b 1,.c [1,1,0,1,0,0,1,1,1],.l [1,1,0,1,0,0],.b 0,.c [1,1,1]]<|Rd 1 [2] [(2,iv 12)] ?_
         obtain rfl:=Option.some.inj heq
         refine RunH.pick 1 [] (cs':=F) (by kernel_rfl) rfl ?_
         exact RunH.done (by kernel_rfl) Tryd.func8 (v:=iv 12) (by kernel_rfl) ⟨rfl,rfl,rfl⟩
        ·replace heq:=bif_false hb8 heq
         refine Cf y4 hb8<|Ad 2 [.c [1,1,0,1,0,0,1,1,0,0,1,1,1,1,1,1,0],.c [1,1,0,1,0,0,1,1,0,0,1,1,1,1,1,1,1],.b 1,.c [1,1,0,1,0,0,1,1,1],.l [1,1,0,1,0,0],.b 0,.c [1,1,1]] ?_
         obtain ⟨t2,ht2,heq⟩:=bind_some heq
         have K3:RunH C8 (S8 F H r) H w0 [.c [1,1,0,1,0,0,1,1,0,0,1,1,1,1,1,1,1],.b 1,.c [1,1,0,1,0,0,1,1,1],.l [1,1,0,1,0,0],.b 0,.c [1,1,1]] [(0,.slice Aa0 a0.length ca0),(10,.slice Aa0 a0.length ca0),(11,iv (a0.length:Int)),(12,iv v12),(59,.bool t2)] H (F):=by
          rcases bool_cases (t2) with hb10 | hb10
          ·replace heq:=bif_true hb10 heq
           refine Ct t2 hb10<|Ra 1 [1,1,0,1,0,0,1,1,0,0,1,1,1,1,1,1,1,0,0] [.c [1,1,0,1,0,0,1,1,0,0,1,1,1,1,1,1,1,0,1],.b 1,.c [1,1,0,1,0,0,1,1,1],.l [1,1,0,1,0,0],.b 0,.c [1,1,1]]<|Rd 1 [2] [(2,iv 8)] ?_
           obtain rfl:=Option.some.inj heq
           exact RunH.done (by kernel_rfl) Tryd.func8 (v:=iv 8) (by kernel_rfl) ⟨rfl,rfl,rfl⟩
          ·replace heq:=bif_false hb10 heq
           refine Cf t2 hb10<|Ra 2 [1,1,0,1,0,0,1,1,1] [.l [1,1,0,1,0,0],.b 0,.c [1,1,1]]<|Rd 2 [0,10,11,12] [(0,.slice Aa0 a0.length ca0),(10,.slice Aa0 a0.length ca0),(11,iv (a0.length:Int)),(12,iv (w64 (v12+1)))]<|Ad 1 [.c [1,1,0,1,0,0],.l [1,1,0,1,0,0],.b 0,.c [1,1,1]]<|Kp [0,10,11,12] [(0,.slice Aa0 a0.length ca0),(10,.slice Aa0 a0.length ca0),(11,iv (a0.length:Int)),(12,iv (w64 (v12+1)))] ?_
           exact ihk a0 _ _ (w64 (v12+1)) hra0 hca0 heq
         replace heq:=ht2
         refine Kp [0,3,4,10,11,12] [(0,.slice Aa0 a0.length ca0),(3,iv v12),(4,pg g1 0),(10,.slice Aa0 a0.length ca0),(11,iv (a0.length:Int)),(12,iv v12)] ?_
         refine RunH.draw (fun w=>Heap H w0 w ((some (g1,.cells #[.string x1.Test,.slice A1 x1.Paths.length c1,.slice A2 x1.Looked.length c2] 39 (0,0)))::F)) (fun w=>Heap H w0 w ((some (g1,.cells #[.string x1.Test,.slice A1 x1.Paths.length c1,.slice A2 x1.Looked.length c2] 39 (0,0)))::F)) [3,3,3,3,3,3,3,3,3,3,3,3,3] (n:=13) (ls:=[false,false,false,false,false,false,false,false,false,false,false,false,false]) (by kernel_rfl) (by kernel_rfl) (by kernel_rfl) rfl ?_
         refine Dk [0,1,2] 10 (nb 13 7) [] [] [49,0,3,4,10,11,12] [(49,.bool (decide (0<v12))),(0,.slice Aa0 a0.length ca0),(3,iv v12),(4,pg g1 0),(10,.slice Aa0 a0.length ca0),(11,iv (a0.length:Int)),(12,iv v12)] (Pk 1 [0]) (Pk 1 [0]) (fun _ _=>trivial) ?_
         rcases bool_cases (decide (0<v12)) with hb9 | hb9
         ·replace heq:=bif_true hb9 heq
          refine DrH.val1 (v':=.bool true) (congrArg Value.bool hb9) ?_
          obtain ⟨x2,hx2,heq⟩:=bind_some heq
          obtain ⟨ha2,cs2,hK2,hcc2⟩:=hra0.get hx2
          obtain ⟨A3,c3,A4,c4,rfl,hc3,hr3,hc4,hr4⟩:=kTestReads_open hK2
          refine Dk [3,4,5,6,7,8,9,10,11,12] 0 (nb 13 8191) [.string x1.Test,.string x2.Test] [.load ⟨g1,0,none⟩ (.string x1.Test),.need (Aa0=some (adr Aa0)∧(0:Int)≤(w64 (v12 - 1))∧(w64 (v12 - 1))<((a0.length:Nat):Int)),.load (((adr Aa0).add ((w64 (v12 - 1)).toNat*3)).add 0) (.string x2.Test)] [0,10,11,12,59] [(0,.slice Aa0 a0.length ca0),(10,.slice Aa0 a0.length ca0),(11,iv (a0.length:Int)),(12,iv v12),(59,.bool (sLt x1.Test x2.Test||sEq x1.Test x2.Test))] (Pk 1 [0]) (Pk 1 [0]) (fun w hh=>⟨(hh.box 0 rfl rfl),⟨ha2,(at?_some hx2).1,(at?_some hx2).2.1⟩,(hcc2 _ _ (hh.drop 1) 0 _ rfl)⟩) ?_
          obtain rfl:=Option.some.inj heq
          refine Kr [0,10,11,12,59] [(0,.slice Aa0 a0.length ca0),(10,.slice Aa0 a0.length ca0),(11,iv (a0.length:Int)),(12,iv v12),(59,.bool (sLt x1.Test x2.Test||sEq x1.Test x2.Test))] ?_
          refine DrH.pick 1 [] (cs':=F) (by kernel_rfl) rfl ?_
          refine DrH.done (by kernel_rfl) ?_
          exact K3
         ·replace heq:=bif_false hb9 heq
          refine DrH.val1 (v':=.bool false) (congrArg Value.bool hb9) ?_
          refine Dk [3,4,5,6,7,8,9,10,11,12] 0 (nb 13 8191) [] [] [0,10,11,12,59] [(0,.slice Aa0 a0.length ca0),(10,.slice Aa0 a0.length ca0),(11,iv (a0.length:Int)),(12,iv v12),(59,.bool false)] (Pk 1 [0]) (Pk 1 [0]) (fun _ _=>trivial) ?_
          obtain rfl:=Option.some.inj heq
          refine Kr [0,10,11,12,59] [(0,.slice Aa0 a0.length ca0),(10,.slice Aa0 a0.length ca0),(11,iv (a0.length:Int)),(12,iv v12),(59,.bool false)] ?_
          refine DrH.pick 1 [] (cs':=F) (by kernel_rfl) rfl ?_
          refine DrH.done (by kernel_rfl) ?_
          exact K3
    replace heq:=ht1
    refine Rr<|Rv 5 [25,0,3,4,10,11,12] [.slice A1 x1.Paths.length c1] [.load ⟨g1,1,none⟩ (.slice A1 x1.Paths.length c1)] [(25,.bool (decide (1000<(x1.Paths.length:Int)))),(0,.slice Aa0 a0.length ca0),(3,iv v12),(4,pg g1 0),(10,.slice Aa0 a0.length ca0),(11,iv (a0.length:Int)),(12,iv v12)] (fun w hh=>(hh.box 0 rfl rfl)) ?_
    rcases bool_cases (decide (1000<(x1.Paths.length:Int))) with hb4 | hb4
    ·replace heq:=bif_true hb4 heq
     refine RgH.val1 (v':=.bool true) (congrArg Value.bool hb4) ?_
     refine Rk 10 [0,3,4,10,11,12,30] [(0,.slice Aa0 a0.length ca0),(3,iv v12),(4,pg g1 0),(10,.slice Aa0 a0.length ca0),(11,iv (a0.length:Int)),(12,iv v12),(30,.bool true)] ?_
     obtain rfl:=Option.some.inj heq
     refine Kg [0,3,4,10,11,12,30] [(0,.slice Aa0 a0.length ca0),(3,iv v12),(4,pg g1 0),(10,.slice Aa0 a0.length ca0),(11,iv (a0.length:Int)),(12,iv v12),(30,.bool true)]<|Dn ?_
     exact K2
    ·replace heq:=bif_false hb4 heq
     refine RgH.val1 (v':=.bool false) (congrArg Value.bool hb4) ?_
     refine Rv 10 [0,3,4,10,11,12,30] [.slice A2 x1.Looked.length c2] [.load ⟨g1,2,none⟩ (.slice A2 x1.Looked.length c2)] [(0,.slice Aa0 a0.length ca0),(3,iv v12),(4,pg g1 0),(10,.slice Aa0 a0.length ca0),(11,iv (a0.length:Int)),(12,iv v12),(30,.bool (decide (1000<(x1.Looked.length:Int))))] (fun w hh=>(hh.box 0 rfl rfl)) ?_
     obtain rfl:=Option.some.inj heq
     refine Kg [0,3,4,10,11,12,30] [(0,.slice Aa0 a0.length ca0),(3,iv v12),(4,pg g1 0),(10,.slice Aa0 a0.length ca0),(11,iv (a0.length:Int)),(12,iv v12),(30,.bool (decide (1000<(x1.Looked.length:Int))))]<|Dn ?_
     exact K2
  ·replace heq:=bif_false hb2 heq
   refine Cf (decide (v12<(a0.length:Int))) hb2<|Ad 2 [.c [1,1,1,0],.c [1,1,1,1]]<|Kp [] [] ?_
   exact he1 heq
theorem trials_CheckReads_c {w0:World} [GlobI 0 w0] {H:Hp} {F:List Ch} {a0:List TestReads} {Aa0:Option Addr} {na0:Nat} {ca0:Nat} {r:Int} (hra0:Rw kTestReads H F Aa0 a0) (hca0:na0≤ca0) (hna0:na0=a0.length) (heq:trials_CheckReads.f a0=some r):CallsH Tryd.prog 8 #[.slice Aa0 na0 ca0] H w0 (F) (S8 F H r):=by
 refine calls_of_runH (F:=C8) Tryd.func8 (by kernel_rfl) Tryd.ntmps8 (args:=[.slice Aa0 na0 ca0]) (by kernel_rfl) ?_
 subst hna0
 unfold trials_CheckReads.f at heq
 refine Ra 1 [0] [.c [1]]<|Rd 1 [0] [(0,.slice Aa0 a0.length ca0)]<|Ra 2 [1,0,0] [.c [1,0,1],.c [1,1]]<|Rd 3 [0,9] [(0,.slice Aa0 a0.length ca0),(9,.bool (decide (300<(a0.length:Int))))] ?_
 rcases bool_cases (decide (300<(a0.length:Int))) with hb1 | hb1
 ·replace heq:=bif_true hb1 heq
  refine Ct (decide (300<(a0.length:Int))) hb1<|Ra 1 [1,0,1,0,0] [.c [1,0,1,0,1],.c [1,1]]<|Rd 1 [2] [(2,iv 2)] ?_
  obtain rfl:=Option.some.inj heq
  exact RunH.done (by kernel_rfl) Tryd.func8 (v:=iv 2) (by kernel_rfl) ⟨rfl,rfl,rfl⟩
 ·replace heq:=bif_false hb1 heq
  refine Cf (decide (300<(a0.length:Int))) hb1<|Ra 3 [1,1,0,0] [.c [1,1,0,1],.c [1,1,1]]<|Rd 3 [0,10,11,12] [(0,.slice Aa0 a0.length ca0),(10,.slice Aa0 a0.length ca0),(11,iv (a0.length:Int)),(12,iv 0)]<|Ad 2 [.c [1,1,0,1,0,0],.l [1,1,0,1,0,0],.b 0,.c [1,1,1]]<|Kp [0,10,11,12] [(0,.slice Aa0 a0.length ca0),(10,.slice Aa0 a0.length ca0),(11,iv (a0.length:Int)),(12,iv 0)] ?_
  exact ((trials_CheckReads.l2_c (e1:=trials_CheckReads.e1) (trials_CheckReads.e1_c)) big) a0 _ _ 0 hra0 hca0 heq
noncomputable def C28:Ctx:={ P:=Tryd.prog,f:=28,N:=15,c:=bodyOf Tryd.f28 }
def S28 (F:List Ch) (H0:Hp) (r:Bool) (v:Value) (H:Hp) (cs:List Ch):Prop:=H0=H∧v=.bool r∧F=cs
theorem trials_within_c {w0:World} [GlobI 0 w0] {H:Hp} {F:List Ch} {a0:Int} {a1:Int} {a2:Int} {r:Bool} (heq:trials_within.f a0 a1 a2=some r):CallsH Tryd.prog 28 #[iv a0,iv a1,iv a2] H w0 (F) (S28 F H r):=by
 refine calls_of_runH (F:=C28) Tryd.func28 (by kernel_rfl) Tryd.ntmps28 (args:=[iv a0,iv a1,iv a2]) (by kernel_rfl) ?_
 unfold trials_within.f at heq
 refine Ra 1 [0] [.c [1]]<|Rd 1 [0,1,2] [(0,iv a0),(1,iv a1),(2,iv a2)]<|Ad 1 [.c [1,0],.c [1,1]] ?_
 obtain ⟨t1,ht1,heq⟩:=bind_some heq
 have K1:RunH C28 (S28 F H r) H w0 [.c [1,1]] [(6,.bool t1)] H (F):=by
  obtain rfl:=Option.some.inj heq
  exact RunH.done (by kernel_rfl) Tryd.func28 (v:=.bool t1) (by kernel_rfl) ⟨rfl,rfl,rfl⟩
 replace heq:=ht1
 refine Rr<|Rk 4 [10,0,2] [(10,.bool (decide (a1≤a0))),(0,iv a0),(2,iv a2)] ?_
 rcases bool_cases (decide (a1≤a0)) with hb1 | hb1
 ·replace heq:=bif_true hb1 heq
  refine RgH.val1 (v':=.bool true) (congrArg Value.bool hb1) ?_
  refine Rk 9 [6] [(6,.bool (decide (a0≤a2)))] ?_
  obtain rfl:=Option.some.inj heq
  refine Kg [6] [(6,.bool (decide (a0≤a2)))]<|Dn ?_
  exact K1
 ·replace heq:=bif_false hb1 heq
  refine RgH.val1 (v':=.bool false) (congrArg Value.bool hb1) ?_
  refine Rk 9 [6] [(6,.bool false)] ?_
  obtain rfl:=Option.some.inj heq
  refine Kg [6] [(6,.bool false)]<|Dn ?_
  exact K1
noncomputable def C29:Ctx:={ P:=Tryd.prog,f:=29,N:=22,c:=bodyOf Tryd.f29 }
def S29 (F:List Ch) (H0:Hp) (r:(List ByteArray)) (v:Value) (H:Hp) (cs:List Ch):Prop:=∃ (A0:Option Addr) (c0:Nat) (ch0:Ch),H0=H∧v=.slice A0 r.length c0∧ch0::F=cs∧SlOwn Kd.string 9 H A0 c0 r ch0
theorem trials_above.e1_c {w0:World} [GlobI 0 w0] {H:Hp} {F:List Ch} {r:(List ByteArray)}:∀ (v_out3:List ByteArray) (Av_out3:Option Addr) (nv_out3:Nat) (cv_out3:Nat) (chv_out3:Ch) ,SlOwn Kd.string 9 H Av_out3 cv_out3 v_out3 chv_out3→nv_out3=v_out3.length→trials_above.e1 v_out3=some r→RunH C29 (S29 F H r) H w0 [.c [1,1,1,0],.c [1,1,1,1]] [(3,.slice Av_out3 nv_out3 cv_out3)] H (chv_out3::F):=by
 intro v_out3 Av_out3 nv_out3 cv_out3 chv_out3 hov_out3 hnv_out3 heq
 subst hnv_out3
 unfold trials_above.e1 at heq
 refine Rr<|Rd 2 [2] [(2,.slice Av_out3 v_out3.length cv_out3)] ?_
 obtain rfl:=Option.some.inj heq
 exact RunH.done (by kernel_rfl) Tryd.func29 (v:=.slice Av_out3 v_out3.length cv_out3) (by kernel_rfl) ⟨Av_out3,cv_out3,chv_out3,rfl,rfl,rfl,hov_out3⟩
theorem trials_above.j3_c {w0:World} [GlobI 0 w0] {H:Hp} {F:List Ch} {r:(List ByteArray)} (backl2:ByteArray→(List ByteArray)→Int→Option (List ByteArray))
  (hbackl2:∀ (a0:ByteArray) (v_out3:List ByteArray) (Av_out3:Option Addr) (nv_out3:Nat) (cv_out3:Nat) (chv_out3:Ch) (v7:Int) ,SlOwn Kd.string 9 H Av_out3 cv_out3 v_out3 chv_out3→nv_out3=v_out3.length→backl2 a0 v_out3 v7=some r→RunH C29 (S29 F H r) H w0 [.c [1,1,0,1,0,0],.l [1,1,0,1,0,0],.b 0,.c [1,1,1]] [(0,.string a0),(3,.slice Av_out3 nv_out3 cv_out3),(6,iv (a0.size:Int)),(7,iv v7)] H (chv_out3::F)):∀ (a0:ByteArray) (v7:Int) (v_out3:List ByteArray) (Av_out3:Option Addr) (nv_out3:Nat) (cv_out3:Nat) (chv_out3:Ch) ,SlOwn Kd.string 9 H Av_out3 cv_out3 v_out3 chv_out3→nv_out3=v_out3.length→trials_above.j3 backl2 a0 v7 v_out3=some r→RunH C29 (S29 F H r) H w0 [.c [1,1,0,1,0,0,1,1,1],.l [1,1,0,1,0,0],.b 0,.c [1,1,1]] [(0,.string a0),(3,.slice Av_out3 nv_out3 cv_out3),(6,iv (a0.size:Int)),(7,iv v7)] H (chv_out3::F):=by
 intro a0 v7 v_out3 Av_out3 nv_out3 cv_out3 chv_out3 hov_out3 hnv_out3 heq
 subst hnv_out3
 unfold trials_above.j3 at heq
 refine Rr<|Rd 2 [0,3,6,7] [(0,.string a0),(3,.slice Av_out3 v_out3.length cv_out3),(6,iv (a0.size:Int)),(7,iv (w64 (v7+1)))]<|Ad 1 [.c [1,1,0,1,0,0],.l [1,1,0,1,0,0],.b 0,.c [1,1,1]]<|Kp [0,3,6,7] [(0,.string a0),(3,.slice Av_out3 v_out3.length cv_out3),(6,iv (a0.size:Int)),(7,iv (w64 (v7+1)))] ?_
 exact hbackl2 a0 v_out3 _ _ _ _ (w64 (v7+1)) hov_out3 rfl heq
theorem trials_above.l2_c {w0:World} [GlobI 0 w0] {H:Hp} {F:List Ch} {r:(List ByteArray)} (e1:(List ByteArray)→Option (List ByteArray))
  (he1:∀ (v_out3:List ByteArray) (Av_out3:Option Addr) (nv_out3:Nat) (cv_out3:Nat) (chv_out3:Ch) ,SlOwn Kd.string 9 H Av_out3 cv_out3 v_out3 chv_out3→nv_out3=v_out3.length→e1 v_out3=some r→RunH C29 (S29 F H r) H w0 [.c [1,1,1,0],.c [1,1,1,1]] [(3,.slice Av_out3 nv_out3 cv_out3)] H (chv_out3::F)):∀ (k:Nat),∀ (a0:ByteArray) (v_out3:List ByteArray) (Av_out3:Option Addr) (nv_out3:Nat) (cv_out3:Nat) (chv_out3:Ch) (v7:Int) ,SlOwn Kd.string 9 H Av_out3 cv_out3 v_out3 chv_out3→nv_out3=v_out3.length→trials_above.l2 e1 k a0 v_out3 v7=some r→RunH C29 (S29 F H r) H w0 [.c [1,1,0,1,0,0],.l [1,1,0,1,0,0],.b 0,.c [1,1,1]] [(0,.string a0),(3,.slice Av_out3 nv_out3 cv_out3),(6,iv (a0.size:Int)),(7,iv v7)] H (chv_out3::F):=by
 intro k
 induction k with
 | zero=>intro a0 v_out3 Av_out3 nv_out3 cv_out3 chv_out3 v7 hov_out3 hnv_out3 heq; exact nomatch (show (none:Option (List ByteArray))=some r from heq)
 | succ k ihk =>
  intro a0 v_out3 Av_out3 nv_out3 cv_out3 chv_out3 v7 hov_out3 hnv_out3 heq
  subst hnv_out3
  rw [trials_above.l2] at heq
  refine Ra 1 [1,1,0,1,0,0,0] [.c [1,1,0,1,0,0,1],.l [1,1,0,1,0,0],.b 0,.c [1,1,1]]<|Rd 1 [0,3,6,7,8] [(0,.string a0),(3,.slice Av_out3 v_out3.length cv_out3),(6,iv (a0.size:Int)),(7,iv v7),(8,.bool (decide (v7<(a0.size:Int))))]<|Ad 1 [.c [1,1,0,1,0,0,1,0],.c [1,1,0,1,0,0,1,1],.l [1,1,0,1,0,0],.b 0,.c [1,1,1]] ?_
  rcases bool_cases (decide (v7<(a0.size:Int))) with hb1 | hb1
  ·replace heq:=bif_true hb1 heq
   refine Ct (decide (v7<(a0.size:Int))) hb1<|Ra 4 [1,1,0,1,0,0,1,1,0,0,0] [.c [1,1,0,1,0,0,1,1,0,0,1],.b 1,.c [1,1,0,1,0,0,1,1,1],.l [1,1,0,1,0,0],.b 0,.c [1,1,1]]<|Rd 2 [0,3,4,6,7] [(0,.string a0),(3,.slice Av_out3 v_out3.length cv_out3),(4,iv v7),(6,iv (a0.size:Int)),(7,iv v7)]<|Ra 1 [1,1,0,1,0,0,1,1,0,0,1,0] [.c [1,1,0,1,0,0,1,1,0,0,1,1],.b 1,.c [1,1,0,1,0,0,1,1,1],.l [1,1,0,1,0,0],.b 0,.c [1,1,1]] ?_
   obtain ⟨hn1,heq⟩:=guard?_some heq
   refine Rw' 4 [0,3,4,6,7,13] [] [.need ((0:Int)≤v7∧v7<(a0.size:Int))] [(0,.string a0),(3,.slice Av_out3 v_out3.length cv_out3),(4,iv v7),(6,iv (a0.size:Int)),(7,iv v7),(13,.bool ((bt a0 v7) == 47))] (fun w hh=>(both_of hn1)) ?_
   rcases bool_cases ((bt a0 v7) == 47) with hb2 | hb2
   ·replace heq:=bif_true hb2 heq
    refine Ct ((bt a0 v7) == 47) hb2<|Rr ?_
    obtain ⟨hn2,heq⟩:=guard?_some heq
    refine Rv 4 [0,6,7,14,17] [] [.need ((0:Int)≤v7∧v7≤(a0.size:Int))] [(0,.string a0),(6,iv (a0.size:Int)),(7,iv v7),(14,.slice Av_out3 v_out3.length cv_out3),(17,.string (a0.extract 0 v7.toNat))] (fun w hh=>(both_of hn2)) ?_
    refine RgH.does (DoesH.new (d:=18) (v:=fun g=>.slice (some ⟨g,0,none⟩) 1 1) (o:=fun g=>.cells #[.string (a0.extract 0 v7.toNat)] 9 (0,0)) (fun g=>by kernel_rfl)) ?_
    rintro _ _ _ _ ⟨g1,rfl,rfl,rfl⟩
    have ho1:SlOwn Kd.string 9 H (some ⟨g1,0,none⟩) 1 ([a0.extract 0 v7.toNat]:List ByteArray) (some (g1,.cells #[.string (a0.extract 0 v7.toNat)] 9 (0,0))):=SlOwn.lit (xs:=([a0.extract 0 v7.toNat]:List ByteArray)) (by kernel_rfl) (Nat.le_of_ble_eq_true (by kernel_rfl)) (Kd.Rep.scalars rfl)
    obtain ⟨hn3,heq⟩:=guard?_some heq
    refine RgH.does (DoesH.append (d:=19) (k:=1) (t:=28) (e:=9) (bytes:=16) (kd:=Kd.string) (n:=v_out3.length) (m:=1) (xs:=v_out3) (ys:=([a0.extract 0 v7.toNat]:List ByteArray)) (A:=Av_out3) (B:=(some ⟨g1,0,none⟩)) (c:=cv_out3) (cB:=1) (by kernel_rfl) rfl rfl (by kernel_rfl) rfl hov_out3 (fun w hh=>ho1.rdb (hh.chin 0 rfl)) (room_le hn3) (by have:=room_le hn3; omega)) ?_
    rintro _ _ _ _ ⟨A1,c1,ch1,rfl,rfl,rfl,ho2⟩
    refine Rd 7 [0,3,6,7] [(0,.string a0),(3,.slice A1 ((v_out3++([a0.extract 0 v7.toNat]:List ByteArray)).length) c1),(6,iv (a0.size:Int)),(7,iv v7)]<|Ad 1 [.c [1,1,0,1,0,0,1,1,1],.l [1,1,0,1,0,0],.b 0,.c [1,1,1]]<|Kp [0,3,6,7] [(0,.string a0),(3,.slice A1 ((v_out3++([a0.extract 0 v7.toNat]:List ByteArray)).length) c1),(6,iv (a0.size:Int)),(7,iv v7)] ?_
    refine RunH.pick 2 [1] (cs':=ch1::F) (by kernel_rfl) rfl ?_
    exact (trials_above.j3_c (backl2:=(trials_above.l2 e1 k)) ihk) a0 v7 (v_out3++([a0.extract 0 v7.toNat]:List ByteArray)) _ _ _ _ ho2 rfl heq
   ·replace heq:=bif_false hb2 heq
    refine Cf ((bt a0 v7) == 47) hb2<|Ad 2 [.c [1,1,0,1,0,0,1,1,1],.l [1,1,0,1,0,0],.b 0,.c [1,1,1]]<|Kp [0,3,6,7] [(0,.string a0),(3,.slice Av_out3 v_out3.length cv_out3),(6,iv (a0.size:Int)),(7,iv v7)] ?_
    exact (trials_above.j3_c (backl2:=(trials_above.l2 e1 k)) ihk) a0 v7 v_out3 _ _ _ _ hov_out3 rfl heq
  ·replace heq:=bif_false hb1 heq
   refine Cf (decide (v7<(a0.size:Int))) hb1<|Ad 2 [.c [1,1,1,0],.c [1,1,1,1]]<|Kp [3] [(3,.slice Av_out3 v_out3.length cv_out3)] ?_
   exact he1 v_out3 _ _ _ _ hov_out3 rfl heq
theorem trials_above_c {w0:World} [GlobI 0 w0] {H:Hp} {F:List Ch} {a0:ByteArray} {r:(List ByteArray)} (heq:trials_above.f a0=some r):CallsH Tryd.prog 29 #[.string a0] H w0 (F) (S29 F H r):=by
 refine calls_of_runH (F:=C29) Tryd.func29 (by kernel_rfl) Tryd.ntmps29 (args:=[.string a0]) (by kernel_rfl) ?_
 unfold trials_above.f at heq
 refine Ra 1 [0] [.c [1]]<|Rd 1 [0] [(0,.string a0)]<|Ra 1 [1,0] [.c [1,1]]<|Rd 1 [0,3] [(0,.string a0),(3,.slice none 0 0)]<|Ra 2 [1,1,0,0] [.c [1,1,0,1],.c [1,1,1]]<|Rd 3 [0,3,6,7] [(0,.string a0),(3,.slice none 0 0),(6,iv (a0.size:Int)),(7,iv 0)]<|Ad 2 [.c [1,1,0,1,0,0],.l [1,1,0,1,0,0],.b 0,.c [1,1,1]]<|RunH.nilc ?_
 have ho3:SlOwn Kd.string 9 H none 0 ([]:List ByteArray) none:=SlOwn.nil
 refine Kp [0,3,6,7] [(0,.string a0),(3,.slice none 0 0),(6,iv (a0.size:Int)),(7,iv 0)] ?_
 exact ((trials_above.l2_c (e1:=trials_above.e1) (trials_above.e1_c)) big) a0 ([]:List ByteArray) _ _ _ _ 0 ho3 rfl heq
noncomputable def C15:Ctx:={ P:=Tryd.prog,f:=15,N:=77,c:=bodyOf Tryd.f15 }
def S15 (F:List Ch) (H0:Hp) (r:trials_changes × Int) (v:Value) (H:Hp) (cs:List Ch):Prop:=∃ (g0_0:Nat) (ch0_0:Ch) (g0_1:Nat) (ch0_1:Ch) (g0_2:Nat) (ch0_2:Ch),H0=H∧v=.tuple #[.agg #[.map (some g0_0),.map (some g0_1),.map (some g0_2)],iv r.2]∧ch0_0::ch0_1::ch0_2::F=cs∧MpOwn Value.string Kd.bool false H g0_0 r.1.other ch0_0∧MpOwn Value.string Kd.bool false H g0_1 r.1.fresh ch0_1∧MpOwn Value.string Kd.bool false H g0_2 r.1.over ch0_2
theorem trials_changesOf.e1_c {w0:World} [GlobI 0 w0] {H:Hp} {F:List Ch} {r:trials_changes × Int}:∀ (g1:Nat) (g5:Nat) (v_c4_0:List (ByteArray × Bool)) (gv_c4_0:Nat) (chv_c4_0:Ch) (v_c4_1:List (ByteArray × Bool)) (gv_c4_1:Nat) (chv_c4_1:Ch) (v_c4_2:List (ByteArray × Bool)) (gv_c4_2:Nat) (chv_c4_2:Ch) ,MpOwn Value.string Kd.bool false H gv_c4_0 v_c4_0 chv_c4_0→MpOwn Value.string Kd.bool false H gv_c4_1 v_c4_1 chv_c4_1→MpOwn Value.string Kd.bool false H gv_c4_2 v_c4_2 chv_c4_2→trials_changesOf.e1 v_c4_0 v_c4_1 v_c4_2=some r→RunH C15 (S15 F H r) H w0 [.c [1,1,1,1,0],.c [1,1,1,1,1]] [(2,pg g1 0),(4,pg g5 0)] H ((some (g5,.cells #[.map (some gv_c4_0),.map (some gv_c4_1),.map (some gv_c4_2)] 43 (0,0)))::chv_c4_2::chv_c4_1::chv_c4_0::(some (g1,.cells #[.map none,.map none,.map none] 43 (0,0)))::F):=by
 intro g1 g5 v_c4_0 gv_c4_0 chv_c4_0 v_c4_1 gv_c4_1 chv_c4_1 v_c4_2 gv_c4_2 chv_c4_2 hov_c4_0 hov_c4_1 hov_c4_2 heq
 unfold trials_changesOf.e1 at heq
 refine Rr<|Rv 1 [2,76] [.map (some gv_c4_0),.map (some gv_c4_1),.map (some gv_c4_2)] [.load ⟨g5,0,none⟩ (.map (some gv_c4_0)),.load ⟨g5,1,none⟩ (.map (some gv_c4_1)),.load ⟨g5,2,none⟩ (.map (some gv_c4_2))] [(2,pg g1 0),(76,.agg #[.map (some gv_c4_0),.map (some gv_c4_1),.map (some gv_c4_2)])] (fun w hh=>⟨(hh.box 0 rfl rfl),(hh.box 0 rfl rfl),(hh.box 0 rfl rfl)⟩) ?_
 refine RgH.does (DoesH.store (k:=4) (g:=g1) (off:=0) (v:=.agg #[.map (some gv_c4_0),.map (some gv_c4_1),.map (some gv_c4_2)]) (cells':=#[.map (some gv_c4_0),.map (some gv_c4_1),.map (some gv_c4_2)]) (by kernel_rfl) rfl (by kernel_rfl) (by kernel_rfl)) ?_
 rintro _ _ _ _ ⟨rfl,rfl,rfl⟩
 refine Rd 3 [2,3] [(2,pg g1 0),(3,iv 0)] ?_
 obtain rfl:=Option.some.inj heq
 refine RunH.pick 5 [4,3,2,1] (cs':=(some (g1,.cells #[.map (some gv_c4_0),.map (some gv_c4_1),.map (some gv_c4_2)] 43 (0,0)))::chv_c4_0::chv_c4_1::chv_c4_2::F) (by kernel_rfl) rfl ?_
 exact RunH.doneM' 1 (vs:=[.agg #[.map (some gv_c4_0),.map (some gv_c4_1),.map (some gv_c4_2)],iv 0]) (v:=.tuple #[.agg #[.map (some gv_c4_0),.map (some gv_c4_1),.map (some gv_c4_2)],iv 0]) (by kernel_rfl) Tryd.func15 (fun w hh=>show ResAll _ _ _ [.cell 2 43,.tmp 3] _ from ⟨⟨⟨g1,0,none⟩,by kernel_rfl,trS_run _ (vs:=[.map (some gv_c4_0),.map (some gv_c4_1),.map (some gv_c4_2)]) (r:=[]) (es:=[.load ⟨g1,0,none⟩ (.map (some gv_c4_0)),.load ⟨g1,1,none⟩ (.map (some gv_c4_1)),.load ⟨g1,2,none⟩ (.map (some gv_c4_2))]) (by kernel_rfl) ⟨(hh.box 0 rfl rfl),(hh.box 0 rfl rfl),(hh.box 0 rfl rfl)⟩⟩,(show lk _ _=some _ by kernel_rfl),trivial⟩) rfl (cs':=chv_c4_0::chv_c4_1::chv_c4_2::F) rfl ⟨gv_c4_0,chv_c4_0,gv_c4_1,chv_c4_1,gv_c4_2,chv_c4_2,rfl,rfl,rfl,hov_c4_0,hov_c4_1,hov_c4_2⟩
theorem trials_changesOf.j3_c {w0:World} [GlobI 0 w0] {H:Hp} {F:List Ch} {r:trials_changes × Int} (backl2:(List TreeChange)→(List (ByteArray × Bool))→(List (ByteArray × Bool))→(List (ByteArray × Bool))→Int→Option (trials_changes × Int))
  (hbackl2:∀ (a0:List TreeChange) (Aa0:Option Addr) (ca0:Nat) (g1:Nat) (g5:Nat) (v_c4_0:List (ByteArray × Bool)) (gv_c4_0:Nat) (chv_c4_0:Ch) (v_c4_1:List (ByteArray × Bool)) (gv_c4_1:Nat) (chv_c4_1:Ch) (v_c4_2:List (ByteArray × Bool)) (gv_c4_2:Nat) (chv_c4_2:Ch) (v19:Int) ,Rw kTreeChange H F Aa0 a0→a0.length≤ca0→MpOwn Value.string Kd.bool false H gv_c4_0 v_c4_0 chv_c4_0→MpOwn Value.string Kd.bool false H gv_c4_1 v_c4_1 chv_c4_1→MpOwn Value.string Kd.bool false H gv_c4_2 v_c4_2 chv_c4_2→backl2 a0 v_c4_0 v_c4_1 v_c4_2 v19=some r→RunH C15 (S15 F H r) H w0 [.c [1,1,1,0,1,0,0],.l [1,1,1,0,1,0,0],.b 0,.c [1,1,1,1]] [(0,.slice Aa0 a0.length ca0),(2,pg g1 0),(4,pg g5 0),(17,.slice Aa0 a0.length ca0),(18,iv (a0.length:Int)),(19,iv v19)] H ((some (g5,.cells #[.map (some gv_c4_0),.map (some gv_c4_1),.map (some gv_c4_2)] 43 (0,0)))::chv_c4_2::chv_c4_1::chv_c4_0::(some (g1,.cells #[.map none,.map none,.map none] 43 (0,0)))::F)):∀ (a0:List TreeChange) (Aa0:Option Addr) (ca0:Nat) (g1:Nat) (g5:Nat) (v19:Int) (v_c4_0:List (ByteArray × Bool)) (gv_c4_0:Nat) (chv_c4_0:Ch) (v_c4_1:List (ByteArray × Bool)) (gv_c4_1:Nat) (chv_c4_1:Ch) (v_c4_2:List (ByteArray × Bool)) (gv_c4_2:Nat) (chv_c4_2:Ch) ,Rw kTreeChange H F Aa0 a0→a0.length≤ca0→MpOwn Value.string Kd.bool false H gv_c4_0 v_c4_0 chv_c4_0→MpOwn Value.string Kd.bool false H gv_c4_1 v_c4_1 chv_c4_1→MpOwn Value.string Kd.bool false H gv_c4_2 v_c4_2 chv_c4_2→trials_changesOf.j3 backl2 a0 v19 v_c4_0 v_c4_1 v_c4_2=some r→RunH C15 (S15 F H r) H w0 [.c [1,1,1,0,1,0,0,1,1,1],.l [1,1,1,0,1,0,0],.b 0,.c [1,1,1,1]] [(0,.slice Aa0 a0.length ca0),(2,pg g1 0),(4,pg g5 0),(17,.slice Aa0 a0.length ca0),(18,iv (a0.length:Int)),(19,iv v19)] H ((some (g5,.cells #[.map (some gv_c4_0),.map (some gv_c4_1),.map (some gv_c4_2)] 43 (0,0)))::chv_c4_2::chv_c4_1::chv_c4_0::(some (g1,.cells #[.map none,.map none,.map none] 43 (0,0)))::F):=by
 intro a0 Aa0 ca0 g1 g5 v19 v_c4_0 gv_c4_0 chv_c4_0 v_c4_1 gv_c4_1 chv_c4_1 v_c4_2 gv_c4_2 chv_c4_2 hra0 hca0 hov_c4_0 hov_c4_1 hov_c4_2 heq
 unfold trials_changesOf.j3 at heq
 refine Rr<|Rd 2 [0,2,4,17,18,19] [(0,.slice Aa0 a0.length ca0),(2,pg g1 0),(4,pg g5 0),(17,.slice Aa0 a0.length ca0),(18,iv (a0.length:Int)),(19,iv (w64 (v19+1)))]<|Ad 1 [.c [1,1,1,0,1,0,0],.l [1,1,1,0,1,0,0],.b 0,.c [1,1,1,1]]<|Kp [0,2,4,17,18,19] [(0,.slice Aa0 a0.length ca0),(2,pg g1 0),(4,pg g5 0),(17,.slice Aa0 a0.length ca0),(18,iv (a0.length:Int)),(19,iv (w64 (v19+1)))] ?_
 exact hbackl2 a0 _ _ _ _ v_c4_0 _ _ v_c4_1 _ _ v_c4_2 _ _ (w64 (v19+1)) hra0 hca0 hov_c4_0 hov_c4_1 hov_c4_2 heq
theorem trials_changesOf.l4_c {w0:World} [GlobI 0 w0] {H:Hp} {F:List Ch} {r:trials_changes × Int} (j3:(List TreeChange)→Int→(List (ByteArray × Bool))→(List (ByteArray × Bool))→(List (ByteArray × Bool))→Option (trials_changes × Int))
  (hj3:∀ (a0:List TreeChange) (Aa0:Option Addr) (ca0:Nat) (g1:Nat) (g5:Nat) (v19:Int) (v_c4_0:List (ByteArray × Bool)) (gv_c4_0:Nat) (chv_c4_0:Ch) (v_c4_1:List (ByteArray × Bool)) (gv_c4_1:Nat) (chv_c4_1:Ch) (v_c4_2:List (ByteArray × Bool)) (gv_c4_2:Nat) (chv_c4_2:Ch) ,Rw kTreeChange H F Aa0 a0→a0.length≤ca0→MpOwn Value.string Kd.bool false H gv_c4_0 v_c4_0 chv_c4_0→MpOwn Value.string Kd.bool false H gv_c4_1 v_c4_1 chv_c4_1→MpOwn Value.string Kd.bool false H gv_c4_2 v_c4_2 chv_c4_2→j3 a0 v19 v_c4_0 v_c4_1 v_c4_2=some r→RunH C15 (S15 F H r) H w0 [.c [1,1,1,0,1,0,0,1,1,1],.l [1,1,1,0,1,0,0],.b 0,.c [1,1,1,1]] [(0,.slice Aa0 a0.length ca0),(2,pg g1 0),(4,pg g5 0),(17,.slice Aa0 a0.length ca0),(18,iv (a0.length:Int)),(19,iv v19)] H ((some (g5,.cells #[.map (some gv_c4_0),.map (some gv_c4_1),.map (some gv_c4_2)] 43 (0,0)))::chv_c4_2::chv_c4_1::chv_c4_0::(some (g1,.cells #[.map none,.map none,.map none] 43 (0,0)))::F)):∀ (k:Nat),∀ (a0:List TreeChange) (Aa0:Option Addr) (ca0:Nat) (g1:Nat) (g5:Nat) (v_c4_0:List (ByteArray × Bool)) (gv_c4_0:Nat) (chv_c4_0:Ch) (v_c4_1:List (ByteArray × Bool)) (gv_c4_1:Nat) (v19:Int) (x1:TreeChange) (ch2:Ch) (y3:(List ByteArray)) (A1:Option Addr) (c1:Nat) (ch3:Ch) (v_c4_2:List (ByteArray × Bool)) (gv_c4_2:Nat) (chv_c4_2:Ch) (v67:Int) ,Rw kTreeChange H F Aa0 a0→a0.length≤ca0→MpOwn Value.string Kd.bool false H gv_c4_0 v_c4_0 chv_c4_0→MpOwn Value.string Kd.bool false H gv_c4_1 (mput v_c4_1 x1.Path true) ch2→SlOwn Kd.string 9 H A1 c1 y3 ch3→MpOwn Value.string Kd.bool false H gv_c4_2 v_c4_2 chv_c4_2→trials_changesOf.l4 j3 k a0 v_c4_0 v_c4_1 v19 x1 y3 v_c4_2 v67=some r→RunH C15 (S15 F H r) H w0 [.c [1,1,1,0,1,0,0,1,1,0,0,1,1,1,1,0,0],.l [1,1,1,0,1,0,0,1,1,0,0,1,1,1,1,0,0],.b 3,.b 1,.c [1,1,1,0,1,0,0,1,1,1],.l [1,1,1,0,1,0,0],.b 0,.c [1,1,1,1]] [(0,.slice Aa0 a0.length ca0),(2,pg g1 0),(4,pg g5 0),(17,.slice Aa0 a0.length ca0),(18,iv (a0.length:Int)),(19,iv v19),(65,.slice A1 y3.length c1),(66,iv (y3.length:Int)),(67,iv v67)] H (ch3::(some (g5,.cells #[.map (some gv_c4_0),.map (some gv_c4_1),.map (some gv_c4_2)] 43 (0,0)))::chv_c4_2::ch2::chv_c4_0::(some (g1,.cells #[.map none,.map none,.map none] 43 (0,0)))::F):=by
 intro k
 induction k with
 | zero=>intro a0 Aa0 ca0 g1 g5 v_c4_0 gv_c4_0 chv_c4_0 v_c4_1 gv_c4_1 v19 x1 ch2 y3 A1 c1 ch3 v_c4_2 gv_c4_2 chv_c4_2 v67 hra0 hca0 hov_c4_0 ho5 ho6 hov_c4_2 heq; exact nomatch (show (none:Option (trials_changes × Int))=some r from heq)
 | succ k ihk =>
  intro a0 Aa0 ca0 g1 g5 v_c4_0 gv_c4_0 chv_c4_0 v_c4_1 gv_c4_1 v19 x1 ch2 y3 A1 c1 ch3 v_c4_2 gv_c4_2 chv_c4_2 v67 hra0 hca0 hov_c4_0 ho5 ho6 hov_c4_2 heq
  rw [trials_changesOf.l4] at heq
  refine Ra 1 [1,1,1,0,1,0,0,1,1,0,0,1,1,1,1,0,0,0] [.c [1,1,1,0,1,0,0,1,1,0,0,1,1,1,1,0,0,1],.l [1,1,1,0,1,0,0,1,1,0,0,1,1,1,1,0,0],.b 3,.b 1,.c [1,1,1,0,1,0,0,1,1,1],.l [1,1,1,0,1,0,0],.b 0,.c [1,1,1,1]]<|Rd 1 [0,2,4,17,18,19,65,66,67,68] [(0,.slice Aa0 a0.length ca0),(2,pg g1 0),(4,pg g5 0),(17,.slice Aa0 a0.length ca0),(18,iv (a0.length:Int)),(19,iv v19),(65,.slice A1 y3.length c1),(66,iv (y3.length:Int)),(67,iv v67),(68,.bool (decide (v67<(y3.length:Int))))]<|Ad 1 [.c [1,1,1,0,1,0,0,1,1,0,0,1,1,1,1,0,0,1,0],.c [1,1,1,0,1,0,0,1,1,0,0,1,1,1,1,0,0,1,1],.l [1,1,1,0,1,0,0,1,1,0,0,1,1,1,1,0,0],.b 3,.b 1,.c [1,1,1,0,1,0,0,1,1,1],.l [1,1,1,0,1,0,0],.b 0,.c [1,1,1,1]] ?_
  rcases bool_cases (decide (v67<(y3.length:Int))) with hb8 | hb8
  ·replace heq:=bif_true hb8 heq
   refine Ct (decide (v67<(y3.length:Int))) hb8<|Ra 4 [1,1,1,0,1,0,0,1,1,0,0,1,1,1,1,0,0,1,1,0,0,0] [.c [1,1,1,0,1,0,0,1,1,0,0,1,1,1,1,0,0,1,1,0,0,1],.b 4,.c [1,1,1,0,1,0,0,1,1,0,0,1,1,1,1,0,0,1,1,1],.l [1,1,1,0,1,0,0,1,1,0,0,1,1,1,1,0,0],.b 3,.b 1,.c [1,1,1,0,1,0,0,1,1,1],.l [1,1,1,0,1,0,0],.b 0,.c [1,1,1,1]] ?_
   obtain ⟨x3,hx3,heq⟩:=bind_some heq
   obtain ⟨ha3,cs3,hK3,hcc3⟩:=ho6.get hx3
   obtain rfl:cs3=[.string x3]:=hK3
   refine Rw' 3 [0,2,4,8,17,18,19,65,66,67] [.string x3] [.need (A1=some (adr A1)∧(0:Int)≤v67∧v67<((y3.length:Nat):Int)),.load ((adr A1).add (v67.toNat*1)) (.string x3)] [(0,.slice Aa0 a0.length ca0),(2,pg g1 0),(4,pg g5 0),(8,.string x3),(17,.slice Aa0 a0.length ca0),(18,iv (a0.length:Int)),(19,iv v19),(65,.slice A1 y3.length c1),(66,iv (y3.length:Int)),(67,iv v67)] (fun w hh=>⟨⟨ha3,(at?_some hx3).1,(at?_some hx3).2.1⟩,(hcc3 _ (hh.chin 0 rfl) 0 _ rfl)⟩)<|Rr<|Rv 3 [0,2,4,17,18,19,65,66,67,72,73] [.map (some gv_c4_2)] [.load ⟨g5,2,none⟩ (.map (some gv_c4_2))] [(0,.slice Aa0 a0.length ca0),(2,pg g1 0),(4,pg g5 0),(17,.slice Aa0 a0.length ca0),(18,iv (a0.length:Int)),(19,iv v19),(65,.slice A1 y3.length c1),(66,iv (y3.length:Int)),(67,iv v67),(72,.map (some gv_c4_2)),(73,.string x3)] (fun w hh=>(hh.box 1 rfl rfl)) ?_
   refine RgH.does (DoesH.mapUpdate (kk:=2) (cv:=[.bool true]) (k:=x3) (v:=true) (by kernel_rfl) (KyAt.string Tryd.underlying9) rfl rfl rfl hov_c4_2) ?_
   rintro _ _ _ _ ⟨ch4,rfl,rfl,rfl,ho7⟩
   refine Dn<|Ra 1 [1,1,1,0,1,0,0,1,1,0,0,1,1,1,1,0,0,1,1,1] [.l [1,1,1,0,1,0,0,1,1,0,0,1,1,1,1,0,0],.b 3,.b 1,.c [1,1,1,0,1,0,0,1,1,1],.l [1,1,1,0,1,0,0],.b 0,.c [1,1,1,1]]<|Rd 2 [0,2,4,17,18,19,65,66,67] [(0,.slice Aa0 a0.length ca0),(2,pg g1 0),(4,pg g5 0),(17,.slice Aa0 a0.length ca0),(18,iv (a0.length:Int)),(19,iv v19),(65,.slice A1 y3.length c1),(66,iv (y3.length:Int)),(67,iv (w64 (v67+1)))]<|Ad 1 [.c [1,1,1,0,1,0,0,1,1,0,0,1,1,1,1,0,0],.l [1,1,1,0,1,0,0,1,1,0,0,1,1,1,1,0,0],.b 3,.b 1,.c [1,1,1,0,1,0,0,1,1,1],.l [1,1,1,0,1,0,0],.b 0,.c [1,1,1,1]]<|Kp [0,2,4,17,18,19,65,66,67] [(0,.slice Aa0 a0.length ca0),(2,pg g1 0),(4,pg g5 0),(17,.slice Aa0 a0.length ca0),(18,iv (a0.length:Int)),(19,iv v19),(65,.slice A1 y3.length c1),(66,iv (y3.length:Int)),(67,iv (w64 (v67+1)))] ?_
   exact ihk a0 _ _ _ _ v_c4_0 _ _ v_c4_1 _ v19 x1 _ y3 _ _ _ (mput v_c4_2 x3 true) _ _ (w64 (v67+1)) hra0 hca0 hov_c4_0 ho5 ho6 ho7 heq
  ·replace heq:=bif_false hb8 heq
   refine Cf (decide (v67<(y3.length:Int))) hb8<|Ad 2 [.c [1,1,1,0,1,0,0,1,1,1],.l [1,1,1,0,1,0,0],.b 0,.c [1,1,1,1]]<|Kp [0,2,4,17,18,19] [(0,.slice Aa0 a0.length ca0),(2,pg g1 0),(4,pg g5 0),(17,.slice Aa0 a0.length ca0),(18,iv (a0.length:Int)),(19,iv v19)] ?_
   refine RunH.pick 6 [1,2,3,4,5] (cs':=(some (g5,.cells #[.map (some gv_c4_0),.map (some gv_c4_1),.map (some gv_c4_2)] 43 (0,0)))::chv_c4_2::ch2::chv_c4_0::(some (g1,.cells #[.map none,.map none,.map none] 43 (0,0)))::F) (by kernel_rfl) rfl ?_
   exact hj3 a0 _ _ _ _ v19 v_c4_0 _ _ (mput v_c4_1 x1.Path true) _ _ v_c4_2 _ _ hra0 hca0 hov_c4_0 ho5 hov_c4_2 heq
theorem trials_changesOf.l2_c {w0:World} [GlobI 0 w0] {H:Hp} {F:List Ch} {r:trials_changes × Int} (e1:(List (ByteArray × Bool))→(List (ByteArray × Bool))→(List (ByteArray × Bool))→Option (trials_changes × Int))
  (he1:∀ (g1:Nat) (g5:Nat) (v_c4_0:List (ByteArray × Bool)) (gv_c4_0:Nat) (chv_c4_0:Ch) (v_c4_1:List (ByteArray × Bool)) (gv_c4_1:Nat) (chv_c4_1:Ch) (v_c4_2:List (ByteArray × Bool)) (gv_c4_2:Nat) (chv_c4_2:Ch) ,MpOwn Value.string Kd.bool false H gv_c4_0 v_c4_0 chv_c4_0→MpOwn Value.string Kd.bool false H gv_c4_1 v_c4_1 chv_c4_1→MpOwn Value.string Kd.bool false H gv_c4_2 v_c4_2 chv_c4_2→e1 v_c4_0 v_c4_1 v_c4_2=some r→RunH C15 (S15 F H r) H w0 [.c [1,1,1,1,0],.c [1,1,1,1,1]] [(2,pg g1 0),(4,pg g5 0)] H ((some (g5,.cells #[.map (some gv_c4_0),.map (some gv_c4_1),.map (some gv_c4_2)] 43 (0,0)))::chv_c4_2::chv_c4_1::chv_c4_0::(some (g1,.cells #[.map none,.map none,.map none] 43 (0,0)))::F)):∀ (k:Nat),∀ (a0:List TreeChange) (Aa0:Option Addr) (ca0:Nat) (g1:Nat) (g5:Nat) (v_c4_0:List (ByteArray × Bool)) (gv_c4_0:Nat) (chv_c4_0:Ch) (v_c4_1:List (ByteArray × Bool)) (gv_c4_1:Nat) (chv_c4_1:Ch) (v_c4_2:List (ByteArray × Bool)) (gv_c4_2:Nat) (chv_c4_2:Ch) (v19:Int) ,Rw kTreeChange H F Aa0 a0→a0.length≤ca0→MpOwn Value.string Kd.bool false H gv_c4_0 v_c4_0 chv_c4_0→MpOwn Value.string Kd.bool false H gv_c4_1 v_c4_1 chv_c4_1→MpOwn Value.string Kd.bool false H gv_c4_2 v_c4_2 chv_c4_2→trials_changesOf.l2 e1 k a0 v_c4_0 v_c4_1 v_c4_2 v19=some r→RunH C15 (S15 F H r) H w0 [.c [1,1,1,0,1,0,0],.l [1,1,1,0,1,0,0],.b 0,.c [1,1,1,1]] [(0,.slice Aa0 a0.length ca0),(2,pg g1 0),(4,pg g5 0),(17,.slice Aa0 a0.length ca0),(18,iv (a0.length:Int)),(19,iv v19)] H ((some (g5,.cells #[.map (some gv_c4_0),.map (some gv_c4_1),.map (some gv_c4_2)] 43 (0,0)))::chv_c4_2::chv_c4_1::chv_c4_0::(some (g1,.cells #[.map none,.map none,.map none] 43 (0,0)))::F):=by
 intro k
 induction k with
 | zero=>intro a0 Aa0 ca0 g1 g5 v_c4_0 gv_c4_0 chv_c4_0 v_c4_1 gv_c4_1 chv_c4_1 v_c4_2 gv_c4_2 chv_c4_2 v19 hra0 hca0 hov_c4_0 hov_c4_1 hov_c4_2 heq; exact nomatch (show (none:Option (trials_changes × Int))=some r from heq)
 | succ k ihk =>
  intro a0 Aa0 ca0 g1 g5 v_c4_0 gv_c4_0 chv_c4_0 v_c4_1 gv_c4_1 chv_c4_1 v_c4_2 gv_c4_2 chv_c4_2 v19 hra0 hca0 hov_c4_0 hov_c4_1 hov_c4_2 heq
  rw [trials_changesOf.l2] at heq
  refine Ra 1 [1,1,1,0,1,0,0,0] [.c [1,1,1,0,1,0,0,1],.l [1,1,1,0,1,0,0],.b 0,.c [1,1,1,1]]<|Rd 1 [0,2,4,17,18,19,20] [(0,.slice Aa0 a0.length ca0),(2,pg g1 0),(4,pg g5 0),(17,.slice Aa0 a0.length ca0),(18,iv (a0.length:Int)),(19,iv v19),(20,.bool (decide (v19<(a0.length:Int))))]<|Ad 1 [.c [1,1,1,0,1,0,0,1,0],.c [1,1,1,0,1,0,0,1,1],.l [1,1,1,0,1,0,0],.b 0,.c [1,1,1,1]] ?_
  rcases bool_cases (decide (v19<(a0.length:Int))) with hb2 | hb2
  ·replace heq:=bif_true hb2 heq
   refine Ct (decide (v19<(a0.length:Int))) hb2<|Ra 4 [1,1,1,0,1,0,0,1,1,0,0,0] [.c [1,1,1,0,1,0,0,1,1,0,0,1],.b 1,.c [1,1,1,0,1,0,0,1,1,1],.l [1,1,1,0,1,0,0],.b 0,.c [1,1,1,1]] ?_
   obtain ⟨x1,hx1,heq⟩:=bind_some heq
   obtain ⟨ha1,cs1,hK1,hcc1⟩:=hra0.get hx1
   obtain ⟨rfl⟩:=kTreeChange_open hK1
   refine Rv 3 [0,2,4,17,18,19,21,23] [.string x1.Path,iv x1.Kind] [.need (Aa0=some (adr Aa0)∧(0:Int)≤v19∧v19<((a0.length:Nat):Int)),.load (((adr Aa0).add (v19.toNat*2)).add 0) (.string x1.Path),.load (((adr Aa0).add (v19.toNat*2)).add 1) (iv x1.Kind)] [(0,.slice Aa0 a0.length ca0),(2,pg g1 0),(4,pg g5 0),(17,.slice Aa0 a0.length ca0),(18,iv (a0.length:Int)),(19,iv v19),(21,iv v19),(23,.agg #[.string x1.Path,iv x1.Kind])] (fun w hh=>⟨⟨ha1,(at?_some hx1).1,(at?_some hx1).2.1⟩,(hcc1 _ _ (hh.drop 5) 0 _ rfl),(hcc1 _ _ (hh.drop 5) 1 _ rfl)⟩) ?_
   refine RgH.does (DoesH.new (d:=6) (v:=fun g=>.pointer (some ⟨g,0,none⟩)) (o:=fun g=>.cells #[.string ByteArray.empty,iv 0] 27 (0,0)) (fun g=>by kernel_rfl)) ?_
   rintro _ _ _ _ ⟨g6,rfl,rfl,rfl⟩
   refine Rk 5 [0,2,4,5,6,17,18,19,23] [(0,.slice Aa0 a0.length ca0),(2,pg g1 0),(4,pg g5 0),(5,iv v19),(6,pg g6 0),(17,.slice Aa0 a0.length ca0),(18,iv (a0.length:Int)),(19,iv v19),(23,.agg #[.string x1.Path,iv x1.Kind])] ?_
   refine RgH.does (DoesH.store (k:=0) (g:=g6) (off:=0) (v:=.agg #[.string x1.Path,iv x1.Kind]) (cells':=#[.string x1.Path,iv x1.Kind]) (by kernel_rfl) rfl (by kernel_rfl) (by kernel_rfl)) ?_
   rintro _ _ _ _ ⟨rfl,rfl,rfl⟩
   refine Dn<|Ra 3 [1,1,1,0,1,0,0,1,1,0,0,1,0,0,0] [.c [1,1,1,0,1,0,0,1,1,0,0,1,0,0,1],.b 2,.c [1,1,1,0,1,0,0,1,1,0,0,1,1],.b 1,.c [1,1,1,0,1,0,0,1,1,1],.l [1,1,1,0,1,0,0],.b 0,.c [1,1,1,1]]<|Rv 2 [0,2,4,5,6,17,18,19,26] [.string x1.Path] [.load ⟨g6,0,none⟩ (.string x1.Path)] [(0,.slice Aa0 a0.length ca0),(2,pg g1 0),(4,pg g5 0),(5,iv v19),(6,pg g6 0),(17,.slice Aa0 a0.length ca0),(18,iv (a0.length:Int)),(19,iv v19),(26,.string x1.Path)] (fun w hh=>(hh.box 0 rfl rfl)) ?_
   obtain ⟨y1,hy1,heq⟩:=bind_some heq
   refine RgH.does (DoesH.call (d:=27) (g:=19) (args:=#[.string x1.Path]) (by kernel_rfl) (blob_IsPath_c (a0:=x1.Path)  hy1)) ?_
   rintro _ _ _ _ ⟨_,rfl,rfl,rfl,rfl⟩
   refine Rd 5 [0,2,4,5,6,17,18,19,24] [(0,.slice Aa0 a0.length ca0),(2,pg g1 0),(4,pg g5 0),(5,iv v19),(6,pg g6 0),(17,.slice Aa0 a0.length ca0),(18,iv (a0.length:Int)),(19,iv v19),(24,.bool (!y1))] ?_
   rcases bool_cases (!y1) with hb3 | hb3
   ·replace heq:=bif_true hb3 heq
    refine Ct (!y1) hb3<|Ra 1 [1,1,1,0,1,0,0,1,1,0,0,1,0,0,1,0,0] [.c [1,1,1,0,1,0,0,1,1,0,0,1,0,0,1,0,1],.b 2,.c [1,1,1,0,1,0,0,1,1,0,0,1,1],.b 1,.c [1,1,1,0,1,0,0,1,1,1],.l [1,1,1,0,1,0,0],.b 0,.c [1,1,1,1]]<|Rv 1 [2,29] [.map (some gv_c4_0),.map (some gv_c4_1),.map (some gv_c4_2)] [.load ⟨g5,0,none⟩ (.map (some gv_c4_0)),.load ⟨g5,1,none⟩ (.map (some gv_c4_1)),.load ⟨g5,2,none⟩ (.map (some gv_c4_2))] [(2,pg g1 0),(29,.agg #[.map (some gv_c4_0),.map (some gv_c4_1),.map (some gv_c4_2)])] (fun w hh=>⟨(hh.box 1 rfl rfl),(hh.box 1 rfl rfl),(hh.box 1 rfl rfl)⟩) ?_
    refine RgH.does (DoesH.store (k:=5) (g:=g1) (off:=0) (v:=.agg #[.map (some gv_c4_0),.map (some gv_c4_1),.map (some gv_c4_2)]) (cells':=#[.map (some gv_c4_0),.map (some gv_c4_1),.map (some gv_c4_2)]) (by kernel_rfl) rfl (by kernel_rfl) (by kernel_rfl)) ?_
    rintro _ _ _ _ ⟨rfl,rfl,rfl⟩
    refine Rd 3 [2,3] [(2,pg g1 0),(3,iv 3)] ?_
    obtain rfl:=Option.some.inj heq
    refine RunH.pick 6 [5,4,3,2] (cs':=(some (g1,.cells #[.map (some gv_c4_0),.map (some gv_c4_1),.map (some gv_c4_2)] 43 (0,0)))::chv_c4_0::chv_c4_1::chv_c4_2::F) (by kernel_rfl) rfl ?_
    exact RunH.doneM' 1 (vs:=[.agg #[.map (some gv_c4_0),.map (some gv_c4_1),.map (some gv_c4_2)],iv 3]) (v:=.tuple #[.agg #[.map (some gv_c4_0),.map (some gv_c4_1),.map (some gv_c4_2)],iv 3]) (by kernel_rfl) Tryd.func15 (fun w hh=>show ResAll _ _ _ [.cell 2 43,.tmp 3] _ from ⟨⟨⟨g1,0,none⟩,by kernel_rfl,trS_run _ (vs:=[.map (some gv_c4_0),.map (some gv_c4_1),.map (some gv_c4_2)]) (r:=[]) (es:=[.load ⟨g1,0,none⟩ (.map (some gv_c4_0)),.load ⟨g1,1,none⟩ (.map (some gv_c4_1)),.load ⟨g1,2,none⟩ (.map (some gv_c4_2))]) (by kernel_rfl) ⟨(hh.box 0 rfl rfl),(hh.box 0 rfl rfl),(hh.box 0 rfl rfl)⟩⟩,(show lk _ _=some _ by kernel_rfl),trivial⟩) rfl (cs':=chv_c4_0::chv_c4_1::chv_c4_2::F) rfl ⟨gv_c4_0,chv_c4_0,gv_c4_1,chv_c4_1,gv_c4_2,chv_c4_2,rfl,rfl,rfl,hov_c4_0,hov_c4_1,hov_c4_2⟩
   ·replace heq:=bif_false hb3 heq
    refine Cf (!y1) hb3<|Ra 1 [1,1,1,0,1,0,0,1,1,0,0,1,0,0,1,1,0] [.c [1,1,1,0,1,0,0,1,1,0,0,1,0,0,1,1,1],.b 2,.c [1,1,1,0,1,0,0,1,1,0,0,1,1],.b 1,.c [1,1,1,0,1,0,0,1,1,1],.l [1,1,1,0,1,0,0],.b 0,.c [1,1,1,1]]<|Rv 2 [0,2,4,5,6,17,18,19,32] [iv x1.Kind] [.load ⟨g6,1,none⟩ (iv x1.Kind)] [(0,.slice Aa0 a0.length ca0),(2,pg g1 0),(4,pg g5 0),(5,iv v19),(6,pg g6 0),(17,.slice Aa0 a0.length ca0),(18,iv (a0.length:Int)),(19,iv v19),(32,iv x1.Kind)] (fun w hh=>(hh.box 0 rfl rfl)) ?_
    obtain ⟨y2,hy2,heq⟩:=bind_some heq
    refine RgH.does (DoesH.call (d:=33) (g:=28) (args:=#[iv x1.Kind,iv 1,iv 4]) (by kernel_rfl) (trials_within_c (a0:=x1.Kind) (a1:=1) (a2:=4)  hy2)) ?_
    rintro _ _ _ _ ⟨_,rfl,rfl,rfl,rfl⟩
    refine Rd 5 [0,2,4,5,6,17,18,19,30] [(0,.slice Aa0 a0.length ca0),(2,pg g1 0),(4,pg g5 0),(5,iv v19),(6,pg g6 0),(17,.slice Aa0 a0.length ca0),(18,iv (a0.length:Int)),(19,iv v19),(30,.bool (!y2))] ?_
    rcases bool_cases (!y2) with hb4 | hb4
    ·replace heq:=bif_true hb4 heq
     refine Ct (!y2) hb4<|Ra 1 [1,1,1,0,1,0,0,1,1,0,0,1,0,0,1,1,1,0,0] [.c [1,1,1,0,1,0,0,1,1,0,0,1,0,0,1,1,1,0,1],.b 2,.c [1,1,1,0,1,0,0,1,1,0,0,1,1],.b 1,.c [1,1,1,0,1,0,0,1,1,1],.l [1,1,1,0,1,0,0],.b 0,.c [1,1,1,1]]<|Rv 1 [2,35] [.map (some gv_c4_0),.map (some gv_c4_1),.map (some gv_c4_2)] [.load ⟨g5,0,none⟩ (.map (some gv_c4_0)),.load ⟨g5,1,none⟩ (.map (some gv_c4_1)),.load ⟨g5,2,none⟩ (.map (some gv_c4_2))] [(2,pg g1 0),(35,.agg #[.map (some gv_c4_0),.map (some gv_c4_1),.map (some gv_c4_2)])] (fun w hh=>⟨(hh.box 1 rfl rfl),(hh.box 1 rfl rfl),(hh.box 1 rfl rfl)⟩) ?_
     refine RgH.does (DoesH.store (k:=5) (g:=g1) (off:=0) (v:=.agg #[.map (some gv_c4_0),.map (some gv_c4_1),.map (some gv_c4_2)]) (cells':=#[.map (some gv_c4_0),.map (some gv_c4_1),.map (some gv_c4_2)]) (by kernel_rfl) rfl (by kernel_rfl) (by kernel_rfl)) ?_
     rintro _ _ _ _ ⟨rfl,rfl,rfl⟩
     refine Rd 3 [2,3] [(2,pg g1 0),(3,iv 4)] ?_
     obtain rfl:=Option.some.inj heq
     refine RunH.pick 6 [5,4,3,2] (cs':=(some (g1,.cells #[.map (some gv_c4_0),.map (some gv_c4_1),.map (some gv_c4_2)] 43 (0,0)))::chv_c4_0::chv_c4_1::chv_c4_2::F) (by kernel_rfl) rfl ?_
     exact RunH.doneM' 1 (vs:=[.agg #[.map (some gv_c4_0),.map (some gv_c4_1),.map (some gv_c4_2)],iv 4]) (v:=.tuple #[.agg #[.map (some gv_c4_0),.map (some gv_c4_1),.map (some gv_c4_2)],iv 4]) (by kernel_rfl) Tryd.func15 (fun w hh=>show ResAll _ _ _ [.cell 2 43,.tmp 3] _ from ⟨⟨⟨g1,0,none⟩,by kernel_rfl,trS_run _ (vs:=[.map (some gv_c4_0),.map (some gv_c4_1),.map (some gv_c4_2)]) (r:=[]) (es:=[.load ⟨g1,0,none⟩ (.map (some gv_c4_0)),.load ⟨g1,1,none⟩ (.map (some gv_c4_1)),.load ⟨g1,2,none⟩ (.map (some gv_c4_2))]) (by kernel_rfl) ⟨(hh.box 0 rfl rfl),(hh.box 0 rfl rfl),(hh.box 0 rfl rfl)⟩⟩,(show lk _ _=some _ by kernel_rfl),trivial⟩) rfl (cs':=chv_c4_0::chv_c4_1::chv_c4_2::F) rfl ⟨gv_c4_0,chv_c4_0,gv_c4_1,chv_c4_1,gv_c4_2,chv_c4_2,rfl,rfl,rfl,hov_c4_0,hov_c4_1,hov_c4_2⟩
    ·replace heq:=bif_false hb4 heq
     refine Cf (!y2) hb4<|Ad 1 [.c [1,1,1,0,1,0,0,1,1,0,0,1,0,0,1,1,1,1,0],.c [1,1,1,0,1,0,0,1,1,0,0,1,0,0,1,1,1,1,1],.b 2,.c [1,1,1,0,1,0,0,1,1,0,0,1,1],.b 1,.c [1,1,1,0,1,0,0,1,1,1],.l [1,1,1,0,1,0,0],.b 0,.c [1,1,1,1]] ?_
     obtain ⟨t1,ht1,heq⟩:=bind_some heq
     have K13:RunH C15 (S15 F H r) H w0 [.c [1,1,1,0,1,0,0,1,1,0,0,1,0,0,1,1,1,1,1],.b 2,.c [1,1,1,0,1,0,0,1,1,0,0,1,1],.b 1,.c [1,1,1,0,1,0,0,1,1,1],.l [1,1,1,0,1,0,0],.b 0,.c [1,1,1,1]] [(0,.slice Aa0 a0.length ca0),(2,pg g1 0),(4,pg g5 0),(6,pg g6 0),(17,.slice Aa0 a0.length ca0),(18,iv (a0.length:Int)),(19,iv v19),(36,.bool t1)] H ((some (g6,.cells #[.string x1.Path,iv x1.Kind] 27 (0,0)))::(some (g5,.cells #[.map (some gv_c4_0),.map (some gv_c4_1),.map (some gv_c4_2)] 43 (0,0)))::chv_c4_2::chv_c4_1::chv_c4_0::(some (g1,.cells #[.map none,.map none,.map none] 43 (0,0)))::F):=by
      rcases bool_cases (t1) with hb6 | hb6
      ·replace heq:=bif_true hb6 heq
       refine Ct t1 hb6<|Ra 1 [1,1,1,0,1,0,0,1,1,0,0,1,0,0,1,1,1,1,1,0,0] [.c [1,1,1,0,1,0,0,1,1,0,0,1,0,0,1,1,1,1,1,0,1],.b 2,.c [1,1,1,0,1,0,0,1,1,0,0,1,1],.b 1,.c [1,1,1,0,1,0,0,1,1,1],.l [1,1,1,0,1,0,0],.b 0,.c [1,1,1,1]]<|Rv 1 [2,50] [.map (some gv_c4_0),.map (some gv_c4_1),.map (some gv_c4_2)] [.load ⟨g5,0,none⟩ (.map (some gv_c4_0)),.load ⟨g5,1,none⟩ (.map (some gv_c4_1)),.load ⟨g5,2,none⟩ (.map (some gv_c4_2))] [(2,pg g1 0),(50,.agg #[.map (some gv_c4_0),.map (some gv_c4_1),.map (some gv_c4_2)])] (fun w hh=>⟨(hh.box 1 rfl rfl),(hh.box 1 rfl rfl),(hh.box 1 rfl rfl)⟩) ?_
       refine RgH.does (DoesH.store (k:=5) (g:=g1) (off:=0) (v:=.agg #[.map (some gv_c4_0),.map (some gv_c4_1),.map (some gv_c4_2)]) (cells':=#[.map (some gv_c4_0),.map (some gv_c4_1),.map (some gv_c4_2)]) (by kernel_rfl) rfl (by kernel_rfl) (by kernel_rfl)) ?_
       rintro _ _ _ _ ⟨rfl,rfl,rfl⟩
       refine Rd 3 [2,3] [(2,pg g1 0),(3,iv 8)] ?_
       obtain rfl:=Option.some.inj heq
       refine RunH.pick 6 [5,4,3,2] (cs':=(some (g1,.cells #[.map (some gv_c4_0),.map (some gv_c4_1),.map (some gv_c4_2)] 43 (0,0)))::chv_c4_0::chv_c4_1::chv_c4_2::F) (by kernel_rfl) rfl ?_
       exact RunH.doneM' 1 (vs:=[.agg #[.map (some gv_c4_0),.map (some gv_c4_1),.map (some gv_c4_2)],iv 8]) (v:=.tuple #[.agg #[.map (some gv_c4_0),.map (some gv_c4_1),.map (some gv_c4_2)],iv 8]) (by kernel_rfl) Tryd.func15 (fun w hh=>show ResAll _ _ _ [.cell 2 43,.tmp 3] _ from ⟨⟨⟨g1,0,none⟩,by kernel_rfl,trS_run _ (vs:=[.map (some gv_c4_0),.map (some gv_c4_1),.map (some gv_c4_2)]) (r:=[]) (es:=[.load ⟨g1,0,none⟩ (.map (some gv_c4_0)),.load ⟨g1,1,none⟩ (.map (some gv_c4_1)),.load ⟨g1,2,none⟩ (.map (some gv_c4_2))]) (by kernel_rfl) ⟨(hh.box 0 rfl rfl),(hh.box 0 rfl rfl),(hh.box 0 rfl rfl)⟩⟩,(show lk _ _=some _ by kernel_rfl),trivial⟩) rfl (cs':=chv_c4_0::chv_c4_1::chv_c4_2::F) rfl ⟨gv_c4_0,chv_c4_0,gv_c4_1,chv_c4_1,gv_c4_2,chv_c4_2,rfl,rfl,rfl,hov_c4_0,hov_c4_1,hov_c4_2⟩
      ·replace heq:=bif_false hb6 heq
       refine Cf t1 hb6<|Ra 1 [1,1,1,0,1,0,0,1,1,0,0,1,0,0,1,1,1,1,1,1,0] [.c [1,1,1,0,1,0,0,1,1,0,0,1,0,0,1,1,1,1,1,1,1],.b 2,.c [1,1,1,0,1,0,0,1,1,0,0,1,1],.b 1,.c [1,1,1,0,1,0,0,1,1,1],.l [1,1,1,0,1,0,0],.b 0,.c [1,1,1,1]]<|Rw' 4 [0,2,4,6,17,18,19,51] [iv x1.Kind] [.load ⟨g6,1,none⟩ (iv x1.Kind)] [(0,.slice Aa0 a0.length ca0),(2,pg g1 0),(4,pg g5 0),(6,pg g6 0),(17,.slice Aa0 a0.length ca0),(18,iv (a0.length:Int)),(19,iv v19),(51,.bool (x1.Kind != 1))] (fun w hh=>(hh.box 0 rfl rfl)) ?_
       rcases bool_cases (x1.Kind != 1) with hb7 | hb7
       ·replace heq:=bif_true hb7 heq
        refine Ct (x1.Kind != 1) hb7<|Ra 1 [1,1,1,0,1,0,0,1,1,0,0,1,0,0,1,1,1,1,1,1,1,0,0] [.c [1,1,1,0,1,0,0,1,1,0,0,1,0,0,1,1,1,1,1,1,1,0,1],.b 2,.c [1,1,1,0,1,0,0,1,1,0,0,1,1],.b 1,.c [1,1,1,0,1,0,0,1,1,1],.l [1,1,1,0,1,0,0],.b 0,.c [1,1,1,1]]<|Rv 4 [0,2,4,17,18,19,56,58] [.map (some gv_c4_0),.string x1.Path] [.load ⟨g5,0,none⟩ (.map (some gv_c4_0)),.load ⟨g6,0,none⟩ (.string x1.Path)] [(0,.slice Aa0 a0.length ca0),(2,pg g1 0),(4,pg g5 0),(17,.slice Aa0 a0.length ca0),(18,iv (a0.length:Int)),(19,iv v19),(56,.map (some gv_c4_0)),(58,.string x1.Path)] (fun w hh=>⟨(hh.box 1 rfl rfl),(hh.box 0 rfl rfl)⟩) ?_
        refine RgH.does (DoesH.mapUpdate (kk:=4) (cv:=[.bool true]) (k:=x1.Path) (v:=true) (by kernel_rfl) (KyAt.string Tryd.underlying9) rfl rfl rfl hov_c4_0) ?_
        rintro _ _ _ _ ⟨ch1,rfl,rfl,rfl,ho4⟩
        refine Dn<|Ad 1 [.c [1,1,1,0,1,0,0,1,1,1],.l [1,1,1,0,1,0,0],.b 0,.c [1,1,1,1]]<|Kp [0,2,4,17,18,19] [(0,.slice Aa0 a0.length ca0),(2,pg g1 0),(4,pg g5 0),(17,.slice Aa0 a0.length ca0),(18,iv (a0.length:Int)),(19,iv v19)] ?_
        refine RunH.pick 6 [1,2,3,4,5] (cs':=(some (g5,.cells #[.map (some gv_c4_0),.map (some gv_c4_1),.map (some gv_c4_2)] 43 (0,0)))::chv_c4_2::chv_c4_1::ch1::(some (g1,.cells #[.map none,.map none,.map none] 43 (0,0)))::F) (by kernel_rfl) rfl ?_
        exact (trials_changesOf.j3_c (backl2:=(trials_changesOf.l2 e1 k)) ihk) a0 _ _ _ _ v19 (mput v_c4_0 x1.Path true) _ _ v_c4_1 _ _ v_c4_2 _ _ hra0 hca0 ho4 hov_c4_1 hov_c4_2 heq
       ·replace heq:=bif_false hb7 heq
        refine Cf (x1.Kind != 1) hb7<|Ra 3 [1,1,1,0,1,0,0,1,1,0,0,1,1,0] [.c [1,1,1,0,1,0,0,1,1,0,0,1,1,1],.b 1,.c [1,1,1,0,1,0,0,1,1,1],.l [1,1,1,0,1,0,0],.b 0,.c [1,1,1,1]]<|Rv 4 [0,2,4,6,17,18,19,60,62] [.map (some gv_c4_1),.string x1.Path] [.load ⟨g5,1,none⟩ (.map (some gv_c4_1)),.load ⟨g6,0,none⟩ (.string x1.Path)] [(0,.slice Aa0 a0.length ca0),(2,pg g1 0),(4,pg g5 0),(6,pg g6 0),(17,.slice Aa0 a0.length ca0),(18,iv (a0.length:Int)),(19,iv v19),(60,.map (some gv_c4_1)),(62,.string x1.Path)] (fun w hh=>⟨(hh.box 1 rfl rfl),(hh.box 0 rfl rfl)⟩) ?_
        refine RgH.does (DoesH.mapUpdate (kk:=3) (cv:=[.bool true]) (k:=x1.Path) (v:=true) (by kernel_rfl) (KyAt.string Tryd.underlying9) rfl rfl rfl hov_c4_1) ?_
        rintro _ _ _ _ ⟨ch2,rfl,rfl,rfl,ho5⟩
        refine Dn<|Ra 1 [1,1,1,0,1,0,0,1,1,0,0,1,1,1,0] [.c [1,1,1,0,1,0,0,1,1,0,0,1,1,1,1],.b 1,.c [1,1,1,0,1,0,0,1,1,1],.l [1,1,1,0,1,0,0],.b 0,.c [1,1,1,1]]<|Rv 2 [0,2,4,17,18,19,64] [.string x1.Path] [.load ⟨g6,0,none⟩ (.string x1.Path)] [(0,.slice Aa0 a0.length ca0),(2,pg g1 0),(4,pg g5 0),(17,.slice Aa0 a0.length ca0),(18,iv (a0.length:Int)),(19,iv v19),(64,.string x1.Path)] (fun w hh=>(hh.box 0 rfl rfl)) ?_
        obtain ⟨y3,hy3,heq⟩:=bind_some heq
        refine RgH.does (DoesH.call (d:=65) (g:=29) (args:=#[.string x1.Path]) (by kernel_rfl) (trials_above_c (a0:=x1.Path)  hy3)) ?_
        rintro _ _ _ _ ⟨_,rfl,A1,c1,ch3,rfl,rfl,rfl,ho6⟩
        refine Rd 5 [0,2,4,17,18,19,65,66,67] [(0,.slice Aa0 a0.length ca0),(2,pg g1 0),(4,pg g5 0),(17,.slice Aa0 a0.length ca0),(18,iv (a0.length:Int)),(19,iv v19),(65,.slice A1 y3.length c1),(66,iv (y3.length:Int)),(67,iv 0)]<|Ad 2 [.c [1,1,1,0,1,0,0,1,1,0,0,1,1,1,1,0,0],.l [1,1,1,0,1,0,0,1,1,0,0,1,1,1,1,0,0],.b 3,.b 1,.c [1,1,1,0,1,0,0,1,1,1],.l [1,1,1,0,1,0,0],.b 0,.c [1,1,1,1]]<|Kp [0,2,4,17,18,19,65,66,67] [(0,.slice Aa0 a0.length ca0),(2,pg g1 0),(4,pg g5 0),(17,.slice Aa0 a0.length ca0),(18,iv (a0.length:Int)),(19,iv v19),(65,.slice A1 y3.length c1),(66,iv (y3.length:Int)),(67,iv 0)] ?_
        refine RunH.pick 7 [0,2,3,4,5,6] (cs':=ch3::(some (g5,.cells #[.map (some gv_c4_0),.map (some gv_c4_1),.map (some gv_c4_2)] 43 (0,0)))::chv_c4_2::ch2::chv_c4_0::(some (g1,.cells #[.map none,.map none,.map none] 43 (0,0)))::F) (by kernel_rfl) rfl ?_
        exact ((trials_changesOf.l4_c (j3:=trials_changesOf.j3 ((trials_changesOf.l2 e1 k))) (trials_changesOf.j3_c (backl2:=(trials_changesOf.l2 e1 k)) ihk)) big) a0 _ _ _ _ v_c4_0 _ _ v_c4_1 _ v19 x1 _ y3 _ _ _ v_c4_2 _ _ 0 hra0 hca0 hov_c4_0 ho5 ho6 hov_c4_2 heq
     replace heq:=ht1
     refine Kp [0,2,4,5,6,17,18,19] [(0,.slice Aa0 a0.length ca0),(2,pg g1 0),(4,pg g5 0),(5,iv v19),(6,pg g6 0),(17,.slice Aa0 a0.length ca0),(18,iv (a0.length:Int)),(19,iv v19)] ?_
     refine RunH.draw (fun w=>Heap H w0 w ((some (g6,.cells #[.string x1.Path,iv x1.Kind] 27 (0,0)))::(some (g5,.cells #[.map (some gv_c4_0),.map (some gv_c4_1),.map (some gv_c4_2)] 43 (0,0)))::chv_c4_2::chv_c4_1::chv_c4_0::(some (g1,.cells #[.map none,.map none,.map none] 43 (0,0)))::F)) (fun w=>Heap H w0 w ((some (g6,.cells #[.string x1.Path,iv x1.Kind] 27 (0,0)))::(some (g5,.cells #[.map (some gv_c4_0),.map (some gv_c4_1),.map (some gv_c4_2)] 43 (0,0)))::chv_c4_2::chv_c4_1::chv_c4_0::(some (g1,.cells #[.map none,.map none,.map none] 43 (0,0)))::F)) [3,3,3,3,3,3,3,3,3,3,3,3,3,3] (n:=14) (ls:=[false,false,false,false,false,false,false,false,false,false,false,false,false,false]) (by kernel_rfl) (by kernel_rfl) (by kernel_rfl) rfl ?_
     refine Dk [0,1,2] 11 (nb 14 7) [] [] [39,0,2,4,5,6,17,18,19] [(39,.bool (decide (0<v19))),(0,.slice Aa0 a0.length ca0),(2,pg g1 0),(4,pg g5 0),(5,iv v19),(6,pg g6 0),(17,.slice Aa0 a0.length ca0),(18,iv (a0.length:Int)),(19,iv v19)] (Pk 6 [0,1,2,3,4,5]) (Pk 6 [0,1,2,3,4,5]) (fun _ _=>trivial) ?_
     rcases bool_cases (decide (0<v19)) with hb5 | hb5
     ·replace heq:=bif_true hb5 heq
      refine DrH.val1 (v':=.bool true) (congrArg Value.bool hb5) ?_
      obtain ⟨x2,hx2,heq⟩:=bind_some heq
      obtain ⟨ha2,cs2,hK2,hcc2⟩:=hra0.get hx2
      obtain ⟨rfl⟩:=kTreeChange_open hK2
      refine Dk [3,4,5,6,7,8,9,10,11,12,13] 0 (nb 14 16383) [.string x1.Path,.string x2.Path] [.load ⟨g6,0,none⟩ (.string x1.Path),.need (Aa0=some (adr Aa0)∧(0:Int)≤(w64 (v19 - 1))∧(w64 (v19 - 1))<((a0.length:Nat):Int)),.load (((adr Aa0).add ((w64 (v19 - 1)).toNat*2)).add 0) (.string x2.Path)] [0,2,4,6,17,18,19,36] [(0,.slice Aa0 a0.length ca0),(2,pg g1 0),(4,pg g5 0),(6,pg g6 0),(17,.slice Aa0 a0.length ca0),(18,iv (a0.length:Int)),(19,iv v19),(36,.bool (sLt x1.Path x2.Path||sEq x1.Path x2.Path))] (Pk 6 [0,1,2,3,4,5]) (Pk 6 [0,1,2,3,4,5]) (fun w hh=>⟨(hh.box 0 rfl rfl),⟨ha2,(at?_some hx2).1,(at?_some hx2).2.1⟩,(hcc2 _ _ (hh.drop 6) 0 _ rfl)⟩) ?_
      obtain rfl:=Option.some.inj heq
      refine Kr [0,2,4,6,17,18,19,36] [(0,.slice Aa0 a0.length ca0),(2,pg g1 0),(4,pg g5 0),(6,pg g6 0),(17,.slice Aa0 a0.length ca0),(18,iv (a0.length:Int)),(19,iv v19),(36,.bool (sLt x1.Path x2.Path||sEq x1.Path x2.Path))] ?_
      refine DrH.done (by kernel_rfl) ?_
      exact K13
     ·replace heq:=bif_false hb5 heq
      refine DrH.val1 (v':=.bool false) (congrArg Value.bool hb5) ?_
      refine Dk [3,4,5,6,7,8,9,10,11,12,13] 0 (nb 14 16383) [] [] [0,2,4,6,17,18,19,36] [(0,.slice Aa0 a0.length ca0),(2,pg g1 0),(4,pg g5 0),(6,pg g6 0),(17,.slice Aa0 a0.length ca0),(18,iv (a0.length:Int)),(19,iv v19),(36,.bool false)] (Pk 6 [0,1,2,3,4,5]) (Pk 6 [0,1,2,3,4,5]) (fun _ _=>trivial) ?_
      obtain rfl:=Option.some.inj heq
      refine Kr [0,2,4,6,17,18,19,36] [(0,.slice Aa0 a0.length ca0),(2,pg g1 0),(4,pg g5 0),(6,pg g6 0),(17,.slice Aa0 a0.length ca0),(18,iv (a0.length:Int)),(19,iv v19),(36,.bool false)] ?_
      refine DrH.done (by kernel_rfl) ?_
      exact K13
  ·replace heq:=bif_false hb2 heq
   refine Cf (decide (v19<(a0.length:Int))) hb2<|Ad 2 [.c [1,1,1,1,0],.c [1,1,1,1,1]]<|Kp [2,4] [(2,pg g1 0),(4,pg g5 0)] ?_
   exact he1 _ _ v_c4_0 _ _ v_c4_1 _ _ v_c4_2 _ _ hov_c4_0 hov_c4_1 hov_c4_2 heq
theorem trials_changesOf_c {w0:World} [GlobI 0 w0] {H:Hp} {F:List Ch} {a0:List TreeChange} {Aa0:Option Addr} {na0:Nat} {ca0:Nat} {r:trials_changes × Int} (hra0:Rw kTreeChange H F Aa0 a0) (hca0:na0≤ca0) (hna0:na0=a0.length) (heq:trials_changesOf.f a0=some r):CallsH Tryd.prog 15 #[.slice Aa0 na0 ca0] H w0 (F) (S15 F H r):=by
 refine calls_of_runH (F:=C15) Tryd.func15 (by kernel_rfl) Tryd.ntmps15 (args:=[.slice Aa0 na0 ca0]) (by kernel_rfl) ?_
 subst hna0
 unfold trials_changesOf.f at heq
 refine Ra 1 [0] [.c [1]] ?_
 refine RgH.does (DoesH.new (d:=2) (v:=fun g=>.pointer (some ⟨g,0,none⟩)) (o:=fun g=>.cells #[.map none,.map none,.map none] 43 (0,0)) (fun g=>by kernel_rfl)) ?_
 rintro _ _ _ _ ⟨g1,rfl,rfl,rfl⟩
 refine Rd 2 [0,2] [(0,.slice Aa0 a0.length ca0),(2,pg g1 0)]<|Ra 1 [1,0] [.c [1,1]] ?_
 refine RgH.does (DoesH.new (d:=9) (v:=fun g=>.map (some g)) (o:=fun g=>.map #[] 0) (fun g=>by kernel_rfl)) ?_
 rintro _ _ _ _ ⟨g2,rfl,rfl,rfl⟩
 have ho1:MpOwn Value.string Kd.bool false H g2 ([]:List (ByteArray × Bool)) (some (g2,.map #[] 0)):=MpOwn.made
 refine RgH.does (DoesH.new (d:=10) (v:=fun g=>.map (some g)) (o:=fun g=>.map #[] 0) (fun g=>by kernel_rfl)) ?_
 rintro _ _ _ _ ⟨g3,rfl,rfl,rfl⟩
 have ho2:MpOwn Value.string Kd.bool false H g3 ([]:List (ByteArray × Bool)) (some (g3,.map #[] 0)):=MpOwn.made
 refine RgH.does (DoesH.new (d:=11) (v:=fun g=>.map (some g)) (o:=fun g=>.map #[] 0) (fun g=>by kernel_rfl)) ?_
 rintro _ _ _ _ ⟨g4,rfl,rfl,rfl⟩
 have ho3:MpOwn Value.string Kd.bool false H g4 ([]:List (ByteArray × Bool)) (some (g4,.map #[] 0)):=MpOwn.made
 refine Rk 4 [0,2,12] [(0,.slice Aa0 a0.length ca0),(2,pg g1 0),(12,.agg #[.map (some g2),.map (some g3),.map (some g4)])] ?_
 refine RgH.does (DoesH.new (d:=4) (v:=fun g=>.pointer (some ⟨g,0,none⟩)) (o:=fun g=>.cells #[.map none,.map none,.map none] 43 (0,0)) (fun g=>by kernel_rfl)) ?_
 rintro _ _ _ _ ⟨g5,rfl,rfl,rfl⟩
 refine RgH.does (DoesH.store (k:=0) (g:=g5) (off:=0) (v:=.agg #[.map (some g2),.map (some g3),.map (some g4)]) (cells':=#[.map (some g2),.map (some g3),.map (some g4)]) (by kernel_rfl) rfl (by kernel_rfl) (by kernel_rfl)) ?_
 rintro _ _ _ _ ⟨rfl,rfl,rfl⟩
 refine Dn<|Ra 2 [1,1,0,0] [.c [1,1,0,1],.c [1,1,1]]<|Rd 3 [0,2,4,15] [(0,.slice Aa0 a0.length ca0),(2,pg g1 0),(4,pg g5 0),(15,.bool (decide (1000<(a0.length:Int))))] ?_
 rcases bool_cases (decide (1000<(a0.length:Int))) with hb1 | hb1
 ·replace heq:=bif_true hb1 heq
  refine Ct (decide (1000<(a0.length:Int))) hb1<|Ra 1 [1,1,0,1,0,0] [.c [1,1,0,1,0,1],.c [1,1,1]]<|Rv 1 [2,16] [.map (some g2),.map (some g3),.map (some g4)] [.load ⟨g5,0,none⟩ (.map (some g2)),.load ⟨g5,1,none⟩ (.map (some g3)),.load ⟨g5,2,none⟩ (.map (some g4))] [(2,pg g1 0),(16,.agg #[.map (some g2),.map (some g3),.map (some g4)])] (fun w hh=>⟨(hh.box 0 rfl rfl),(hh.box 0 rfl rfl),(hh.box 0 rfl rfl)⟩) ?_
  refine RgH.does (DoesH.store (k:=4) (g:=g1) (off:=0) (v:=.agg #[.map (some g2),.map (some g3),.map (some g4)]) (cells':=#[.map (some g2),.map (some g3),.map (some g4)]) (by kernel_rfl) rfl (by kernel_rfl) (by kernel_rfl)) ?_
  rintro _ _ _ _ ⟨rfl,rfl,rfl⟩
  refine Rd 3 [2,3] [(2,pg g1 0),(3,iv 2)] ?_
  obtain rfl:=Option.some.inj heq
  refine RunH.pick 5 [4,3,2,1] (cs':=(some (g1,.cells #[.map (some g2),.map (some g3),.map (some g4)] 43 (0,0)))::(some (g2,.map #[] 0))::(some (g3,.map #[] 0))::(some (g4,.map #[] 0))::F) (by kernel_rfl) rfl ?_
  exact RunH.doneM' 1 (vs:=[.agg #[.map (some g2),.map (some g3),.map (some g4)],iv 2]) (v:=.tuple #[.agg #[.map (some g2),.map (some g3),.map (some g4)],iv 2]) (by kernel_rfl) Tryd.func15 (fun w hh=>show ResAll _ _ _ [.cell 2 43,.tmp 3] _ from ⟨⟨⟨g1,0,none⟩,by kernel_rfl,trS_run _ (vs:=[.map (some g2),.map (some g3),.map (some g4)]) (r:=[]) (es:=[.load ⟨g1,0,none⟩ (.map (some g2)),.load ⟨g1,1,none⟩ (.map (some g3)),.load ⟨g1,2,none⟩ (.map (some g4))]) (by kernel_rfl) ⟨(hh.box 0 rfl rfl),(hh.box 0 rfl rfl),(hh.box 0 rfl rfl)⟩⟩,(show lk _ _=some _ by kernel_rfl),trivial⟩) rfl (cs':=(some (g2,.map #[] 0))::(some (g3,.map #[] 0))::(some (g4,.map #[] 0))::F) rfl ⟨g2,(some (g2,.map #[] 0)),g3,(some (g3,.map #[] 0)),g4,(some (g4,.map #[] 0)),rfl,rfl,rfl,ho1,ho2,ho3⟩
 ·replace heq:=bif_false hb1 heq
  refine Cf (decide (1000<(a0.length:Int))) hb1<|Ra 3 [1,1,1,0,0] [.c [1,1,1,0,1],.c [1,1,1,1]]<|Rd 3 [0,2,4,17,18,19] [(0,.slice Aa0 a0.length ca0),(2,pg g1 0),(4,pg g5 0),(17,.slice Aa0 a0.length ca0),(18,iv (a0.length:Int)),(19,iv 0)]<|Ad 2 [.c [1,1,1,0,1,0,0],.l [1,1,1,0,1,0,0],.b 0,.c [1,1,1,1]]<|Kp [0,2,4,17,18,19] [(0,.slice Aa0 a0.length ca0),(2,pg g1 0),(4,pg g5 0),(17,.slice Aa0 a0.length ca0),(18,iv (a0.length:Int)),(19,iv 0)] ?_
  exact ((trials_changesOf.l2_c (e1:=trials_changesOf.e1) (trials_changesOf.e1_c)) big) a0 _ _ _ _ ([]:List (ByteArray × Bool)) _ _ ([]:List (ByteArray × Bool)) _ _ ([]:List (ByteArray × Bool)) _ _ 0 hra0 hca0 ho1 ho2 ho3 heq
noncomputable def C30:Ctx:={ P:=Tryd.prog,f:=30,N:=8,c:=bodyOf Tryd.f30 }
def S30 (F:List Ch) (H0:Hp) (r:Bool) (v:Value) (H:Hp) (cs:List Ch):Prop:=H0=H∧v=.bool r∧F=cs
theorem trials_changes_affects_1_c {w0:World} [GlobI 0 w0] {H:Hp} {F:List Ch} {a0:ByteArray} {ga1:Nat} {a1:trials_changes} {Aa1_0:Option Nat} {Aa1_1:Option Nat} {Aa1_2:Option Nat} {r:Bool} (hra1_0:Mw Value.string Kd.bool false H F Aa1_0 a1.other) (hra1_1:Mw Value.string Kd.bool false H F Aa1_1 a1.fresh) (hra1_2:Mw Value.string Kd.bool false H F Aa1_2 a1.over) (hga1:InG H F ga1 (.cells #[.map Aa1_0,.map Aa1_1,.map Aa1_2] 43 (0,0))) (heq:trials_changes_affects_1.f a0 a1=some r):CallsH Tryd.prog 30 #[.string a0,.pointer (some ⟨ga1,0,none⟩)] H w0 (F) (S30 F H r):=by
 refine calls_of_runH (F:=C30) Tryd.func30 (by kernel_rfl) Tryd.ntmps30 (args:=[.string a0,.pointer (some ⟨ga1,0,none⟩)]) (by kernel_rfl) ?_
 unfold trials_changes_affects_1.f at heq
 refine Ra 1 [0] [.c [1]]<|Rd 1 [0,1] [(0,.string a0),(1,pg ga1 0)]<|Ra 1 [1,0] [.c [1,1]]<|Rv 3 [5,6] [.map Aa1_0] [.load ⟨ga1,0,none⟩ (.map Aa1_0)] [(5,.map Aa1_0),(6,.string a0)] (fun w hh=>(hga1.cell (hh.drop 0) rfl)) ?_
 refine RgH.does (DoesH.lookup (d:=7) (t:=41) (m:=a1.other) (k:=a0) (z:=.bool false) (zc:=[.bool false]) (z0:=false) (ok:=false) (kd:=Kd.bool) (ag:=false) (by kernel_rfl) (KyAt.string Tryd.underlying9) rfl rfl (fun w hh=>hra1_0.on (hh.drop 0))) ?_
 rintro _ _ _ _ ⟨cc1,rfl,rfl,rfl,hcc1⟩
 obtain rfl:cc1=[.bool (mgetD a1.other a0 false)]:=hcc1
 refine RgH.val1 (v':=.bool (mgetD a1.other a0 false)) rfl ?_
 refine Rd 5 [3] [(3,.bool (mgetD a1.other a0 false))] ?_
 obtain rfl:=Option.some.inj heq
 exact RunH.done (by kernel_rfl) Tryd.func30 (v:=.bool (mgetD a1.other a0 false)) (by kernel_rfl) ⟨rfl,rfl,rfl⟩
noncomputable def C37v2:Ctx:={ P:=Tryd.prog,f:=37,N:=19,c:=bodyOf Tryd.f37 }
def S37v2 (F:List Ch) (H0:Hp) (r:Int) (v:Value) (H:Hp) (cs:List Ch):Prop:=H0=H∧v=iv r∧F=cs
theorem slices_IndexFunc_string_2.e1_c {w0:World} [GlobI 0 w0] {H:Hp} {F:List Ch} {r:Int}:slices_IndexFunc_string_2.e1=some r→RunH C37v2 (S37v2 F H r) H w0 [.c [1,1,0],.c [1,1,1]] [] H (F):=by
 intro   heq
 unfold slices_IndexFunc_string_2.e1 at heq
 refine Rr<|Rd 1 [4] [(4,iv (-1))] ?_
 obtain rfl:=Option.some.inj heq
 exact RunH.done (by kernel_rfl) Tryd.func37 (v:=iv (-1)) (by kernel_rfl) ⟨rfl,rfl,rfl⟩
theorem slices_IndexFunc_string_2.l2_c {w0:World} [GlobI 0 w0] {H:Hp} {F:List Ch} {r:Int} (e1:Option Int)
  (he1:e1=some r→RunH C37v2 (S37v2 F H r) H w0 [.c [1,1,0],.c [1,1,1]] [] H (F)):∀ (k:Nat),∀ (a0:List ByteArray) (Aa0:Option Addr) (ca0:Nat) (ga1q0:Nat) (a1q0:trials_changes) (Aa1q0_0:Option Nat) (Aa1q0_1:Option Nat) (Aa1q0_2:Option Nat) (v8:Int) ,Rw Kd.string H F Aa0 a0→a0.length≤ca0→Mw Value.string Kd.bool false H F Aa1q0_0 a1q0.other→Mw Value.string Kd.bool false H F Aa1q0_1 a1q0.fresh→Mw Value.string Kd.bool false H F Aa1q0_2 a1q0.over→InG H F ga1q0 (.cells #[.map Aa1q0_0,.map Aa1q0_1,.map Aa1q0_2] 43 (0,0))→slices_IndexFunc_string_2.l2 e1 k a0 a1q0 v8=some r→RunH C37v2 (S37v2 F H r) H w0 [.c [1,0,1,0,0],.l [1,0,1,0,0],.b 0,.c [1,1]] [(0,.slice Aa0 a0.length ca0),(1,.func (.func 30) #[] #[.pointer (some ⟨ga1q0,0,none⟩)]),(7,iv (a0.length:Int)),(8,iv v8)] H (F):=by
 intro k
 induction k with
 | zero=>intro a0 Aa0 ca0 ga1q0 a1q0 Aa1q0_0 Aa1q0_1 Aa1q0_2 v8 hra0 hca0 hra1q0_0 hra1q0_1 hra1q0_2 hga1q0 heq; exact nomatch (show (none:Option Int)=some r from heq)
 | succ k ihk =>
  intro a0 Aa0 ca0 ga1q0 a1q0 Aa1q0_0 Aa1q0_1 Aa1q0_2 v8 hra0 hca0 hra1q0_0 hra1q0_1 hra1q0_2 hga1q0 heq
  rw [slices_IndexFunc_string_2.l2] at heq
  refine Ra 1 [1,0,1,0,0,0] [.c [1,0,1,0,0,1],.l [1,0,1,0,0],.b 0,.c [1,1]]<|Rd 1 [0,1,7,8,9] [(0,.slice Aa0 a0.length ca0),(1,.func (.func 30) #[] #[.pointer (some ⟨ga1q0,0,none⟩)]),(7,iv (a0.length:Int)),(8,iv v8),(9,.bool (decide (v8<(a0.length:Int))))]<|Ad 1 [.c [1,0,1,0,0,1,0],.c [1,0,1,0,0,1,1],.l [1,0,1,0,0],.b 0,.c [1,1]] ?_
  rcases bool_cases (decide (v8<(a0.length:Int))) with hb1 | hb1
  ·replace heq:=bif_true hb1 heq
   refine Ct (decide (v8<(a0.length:Int))) hb1<|Ra 4 [1,0,1,0,0,1,1,0,0,0] [.c [1,0,1,0,0,1,1,0,0,1],.b 1,.c [1,0,1,0,0,1,1,1],.l [1,0,1,0,0],.b 0,.c [1,1]]<|Rd 2 [0,1,5,7,8] [(0,.slice Aa0 a0.length ca0),(1,.func (.func 30) #[] #[.pointer (some ⟨ga1q0,0,none⟩)]),(5,iv v8),(7,iv (a0.length:Int)),(8,iv v8)]<|Ra 1 [1,0,1,0,0,1,1,0,0,1,0] [.c [1,0,1,0,0,1,1,0,0,1,1],.b 1,.c [1,0,1,0,0,1,1,1],.l [1,0,1,0,0],.b 0,.c [1,1]] ?_
   obtain ⟨x1,hx1,heq⟩:=bind_some heq
   obtain ⟨ha1,cs1,hK1,hcc1⟩:=hra0.get hx1
   obtain rfl:cs1=[.string x1]:=hK1
   refine Rv 5 [0,1,5,7,8,11,15] [.string x1] [.need (Aa0=some (adr Aa0)∧(0:Int)≤v8∧v8<((a0.length:Nat):Int)),.load ((adr Aa0).add (v8.toNat*1)) (.string x1)] [(0,.slice Aa0 a0.length ca0),(1,.func (.func 30) #[] #[.pointer (some ⟨ga1q0,0,none⟩)]),(5,iv v8),(7,iv (a0.length:Int)),(8,iv v8),(11,.func (.func 30) #[] #[.pointer (some ⟨ga1q0,0,none⟩)]),(15,.string x1)] (fun w hh=>⟨⟨ha1,(at?_some hx1).1,(at?_some hx1).2.1⟩,(hcc1 _ _ (hh.drop 0) 0 _ rfl)⟩) ?_
   obtain ⟨y1,hy1,heq⟩:=bind_some heq
   refine RgH.does (DoesH.call (d:=16) (g:=30) (args:=#[.string x1,.pointer (some ⟨ga1q0,0,none⟩)]) (by kernel_rfl) (trials_changes_affects_1_c (a0:=x1) (a1:=a1q0) hra1q0_0 hra1q0_1 hra1q0_2 hga1q0 hy1)) ?_
   rintro _ _ _ _ ⟨_,rfl,rfl,rfl,rfl⟩
   refine Dn ?_
   rcases bool_cases (y1) with hb2 | hb2
   ·replace heq:=bif_true hb2 heq
    refine Ct y1 hb2<|Ra 1 [1,0,1,0,0,1,1,0,0,1,1,0,0] [.c [1,0,1,0,0,1,1,0,0,1,1,0,1],.b 1,.c [1,0,1,0,0,1,1,1],.l [1,0,1,0,0],.b 0,.c [1,1]]<|Rd 2 [4] [(4,iv v8)] ?_
    obtain rfl:=Option.some.inj heq
    exact RunH.done (by kernel_rfl) Tryd.func37 (v:=iv v8) (by kernel_rfl) ⟨rfl,rfl,rfl⟩
   ·replace heq:=bif_false hb2 heq
    refine Cf y1 hb2<|Ra 2 [1,0,1,0,0,1,1,1] [.l [1,0,1,0,0],.b 0,.c [1,1]]<|Rd 2 [0,1,7,8] [(0,.slice Aa0 a0.length ca0),(1,.func (.func 30) #[] #[.pointer (some ⟨ga1q0,0,none⟩)]),(7,iv (a0.length:Int)),(8,iv (w64 (v8+1)))]<|Ad 1 [.c [1,0,1,0,0],.l [1,0,1,0,0],.b 0,.c [1,1]]<|Kp [0,1,7,8] [(0,.slice Aa0 a0.length ca0),(1,.func (.func 30) #[] #[.pointer (some ⟨ga1q0,0,none⟩)]),(7,iv (a0.length:Int)),(8,iv (w64 (v8+1)))] ?_
    exact ihk a0 _ _ _ a1q0 _ _ _ (w64 (v8+1)) hra0 hca0 hra1q0_0 hra1q0_1 hra1q0_2 hga1q0 heq
  ·replace heq:=bif_false hb1 heq
   refine Cf (decide (v8<(a0.length:Int))) hb1<|Ad 2 [.c [1,1,0],.c [1,1,1]]<|Kp [] [] ?_
   exact he1 heq
theorem slices_IndexFunc_string_2_c {w0:World} [GlobI 0 w0] {H:Hp} {F:List Ch} {a0:List ByteArray} {Aa0:Option Addr} {na0:Nat} {ca0:Nat} {ga1q0:Nat} {a1q0:trials_changes} {Aa1q0_0:Option Nat} {Aa1q0_1:Option Nat} {Aa1q0_2:Option Nat} {r:Int} (hra0:Rw Kd.string H F Aa0 a0) (hca0:na0≤ca0) (hna0:na0=a0.length) (hra1q0_0:Mw Value.string Kd.bool false H F Aa1q0_0 a1q0.other) (hra1q0_1:Mw Value.string Kd.bool false H F Aa1q0_1 a1q0.fresh) (hra1q0_2:Mw Value.string Kd.bool false H F Aa1q0_2 a1q0.over) (hga1q0:InG H F ga1q0 (.cells #[.map Aa1q0_0,.map Aa1q0_1,.map Aa1q0_2] 43 (0,0))) (heq:slices_IndexFunc_string_2.f a0 a1q0=some r):CallsH Tryd.prog 37 #[.slice Aa0 na0 ca0,.func (.func 30) #[] #[.pointer (some ⟨ga1q0,0,none⟩)]] H w0 (F) (S37v2 F H r):=by
 refine calls_of_runH (F:=C37v2) Tryd.func37 (by kernel_rfl) Tryd.ntmps37 (args:=[.slice Aa0 na0 ca0,.func (.func 30) #[] #[.pointer (some ⟨ga1q0,0,none⟩)]]) (by kernel_rfl) ?_
 subst hna0
 unfold slices_IndexFunc_string_2.f at heq
 refine Ra 1 [0] [.c [1]]<|Rd 1 [0,1] [(0,.slice Aa0 a0.length ca0),(1,.func (.func 30) #[] #[.pointer (some ⟨ga1q0,0,none⟩)])]<|Ra 2 [1,0,0] [.c [1,0,1],.c [1,1]]<|Rd 3 [0,1,7,8] [(0,.slice Aa0 a0.length ca0),(1,.func (.func 30) #[] #[.pointer (some ⟨ga1q0,0,none⟩)]),(7,iv (a0.length:Int)),(8,iv 0)]<|Ad 2 [.c [1,0,1,0,0],.l [1,0,1,0,0],.b 0,.c [1,1]]<|Kp [0,1,7,8] [(0,.slice Aa0 a0.length ca0),(1,.func (.func 30) #[] #[.pointer (some ⟨ga1q0,0,none⟩)]),(7,iv (a0.length:Int)),(8,iv 0)] ?_
 exact ((slices_IndexFunc_string_2.l2_c (e1:=slices_IndexFunc_string_2.e1) (slices_IndexFunc_string_2.e1_c)) big) a0 _ _ _ a1q0 _ _ _ 0 hra0 hca0 hra1q0_0 hra1q0_1 hra1q0_2 hga1q0 heq
noncomputable def C21v2:Ctx:={ P:=Tryd.prog,f:=21,N:=9,c:=bodyOf Tryd.f21 }
def S21v2 (F:List Ch) (H0:Hp) (r:Bool) (v:Value) (H:Hp) (cs:List Ch):Prop:=H0=H∧v=.bool r∧F=cs
theorem slices_ContainsFunc_string_2_c {w0:World} [GlobI 0 w0] {H:Hp} {F:List Ch} {a0:List ByteArray} {Aa0:Option Addr} {na0:Nat} {ca0:Nat} {ga1q0:Nat} {a1q0:trials_changes} {Aa1q0_0:Option Nat} {Aa1q0_1:Option Nat} {Aa1q0_2:Option Nat} {r:Bool} (hra0:Rw Kd.string H F Aa0 a0) (hca0:na0≤ca0) (hna0:na0=a0.length) (hra1q0_0:Mw Value.string Kd.bool false H F Aa1q0_0 a1q0.other) (hra1q0_1:Mw Value.string Kd.bool false H F Aa1q0_1 a1q0.fresh) (hra1q0_2:Mw Value.string Kd.bool false H F Aa1q0_2 a1q0.over) (hga1q0:InG H F ga1q0 (.cells #[.map Aa1q0_0,.map Aa1q0_1,.map Aa1q0_2] 43 (0,0))) (heq:slices_ContainsFunc_string_2.f a0 a1q0=some r):CallsH Tryd.prog 21 #[.slice Aa0 na0 ca0,.func (.func 30) #[] #[.pointer (some ⟨ga1q0,0,none⟩)]] H w0 (F) (S21v2 F H r):=by
 refine calls_of_runH (F:=C21v2) Tryd.func21 (by kernel_rfl) Tryd.ntmps21 (args:=[.slice Aa0 na0 ca0,.func (.func 30) #[] #[.pointer (some ⟨ga1q0,0,none⟩)]]) (by kernel_rfl) ?_
 subst hna0
 unfold slices_ContainsFunc_string_2.f at heq
 refine Ra 1 [0] [.c [1]]<|Rd 1 [0,1] [(0,.slice Aa0 a0.length ca0),(1,.func (.func 30) #[] #[.pointer (some ⟨ga1q0,0,none⟩)])]<|Ra 1 [1,0] [.c [1,1]]<|Rk 2 [5,6] [(5,.slice Aa0 a0.length ca0),(6,.func (.func 30) #[] #[.pointer (some ⟨ga1q0,0,none⟩)])] ?_
 obtain ⟨y1,hy1,heq⟩:=bind_some heq
 refine RgH.does (DoesH.call (d:=7) (g:=37) (args:=#[.slice Aa0 a0.length ca0,.func (.func 30) #[] #[.pointer (some ⟨ga1q0,0,none⟩)]]) (by kernel_rfl) (slices_IndexFunc_string_2_c (a0:=a0) (a1q0:=a1q0) hra0 hca0 rfl hra1q0_0 hra1q0_1 hra1q0_2 hga1q0 hy1)) ?_
 rintro _ _ _ _ ⟨_,rfl,rfl,rfl,rfl⟩
 refine Rd 5 [4] [(4,.bool (decide (0≤y1)))] ?_
 obtain rfl:=Option.some.inj heq
 exact RunH.done (by kernel_rfl) Tryd.func21 (v:=.bool (decide (0≤y1))) (by kernel_rfl) ⟨rfl,rfl,rfl⟩
noncomputable def C32:Ctx:={ P:=Tryd.prog,f:=32,N:=8,c:=bodyOf Tryd.f32 }
def S32 (F:List Ch) (H0:Hp) (r:Bool) (v:Value) (H:Hp) (cs:List Ch):Prop:=H0=H∧v=.bool r∧F=cs
theorem trials_changes_affects_2_1_c {w0:World} [GlobI 0 w0] {H:Hp} {F:List Ch} {a0:ByteArray} {ga1:Nat} {a1:trials_changes} {Aa1_0:Option Nat} {Aa1_1:Option Nat} {Aa1_2:Option Nat} {r:Bool} (hra1_0:Mw Value.string Kd.bool false H F Aa1_0 a1.other) (hra1_1:Mw Value.string Kd.bool false H F Aa1_1 a1.fresh) (hra1_2:Mw Value.string Kd.bool false H F Aa1_2 a1.over) (hga1:InG H F ga1 (.cells #[.map Aa1_0,.map Aa1_1,.map Aa1_2] 43 (0,0))) (heq:trials_changes_affects_2_1.f a0 a1=some r):CallsH Tryd.prog 32 #[.string a0,.pointer (some ⟨ga1,0,none⟩)] H w0 (F) (S32 F H r):=by
 refine calls_of_runH (F:=C32) Tryd.func32 (by kernel_rfl) Tryd.ntmps32 (args:=[.string a0,.pointer (some ⟨ga1,0,none⟩)]) (by kernel_rfl) ?_
 unfold trials_changes_affects_2_1.f at heq
 refine Ra 1 [0] [.c [1]]<|Rd 1 [0,1] [(0,.string a0),(1,pg ga1 0)]<|Ra 1 [1,0] [.c [1,1]]<|Rv 3 [5,6] [.map Aa1_1] [.load ⟨ga1,1,none⟩ (.map Aa1_1)] [(5,.map Aa1_1),(6,.string a0)] (fun w hh=>(hga1.cell (hh.drop 0) rfl)) ?_
 refine RgH.does (DoesH.lookup (d:=7) (t:=41) (m:=a1.fresh) (k:=a0) (z:=.bool false) (zc:=[.bool false]) (z0:=false) (ok:=false) (kd:=Kd.bool) (ag:=false) (by kernel_rfl) (KyAt.string Tryd.underlying9) rfl rfl (fun w hh=>hra1_1.on (hh.drop 0))) ?_
 rintro _ _ _ _ ⟨cc1,rfl,rfl,rfl,hcc1⟩
 obtain rfl:cc1=[.bool (mgetD a1.fresh a0 false)]:=hcc1
 refine RgH.val1 (v':=.bool (mgetD a1.fresh a0 false)) rfl ?_
 refine Rd 5 [3] [(3,.bool (mgetD a1.fresh a0 false))] ?_
 obtain rfl:=Option.some.inj heq
 exact RunH.done (by kernel_rfl) Tryd.func32 (v:=.bool (mgetD a1.fresh a0 false)) (by kernel_rfl) ⟨rfl,rfl,rfl⟩
noncomputable def C37v4:Ctx:={ P:=Tryd.prog,f:=37,N:=19,c:=bodyOf Tryd.f37 }
def S37v4 (F:List Ch) (H0:Hp) (r:Int) (v:Value) (H:Hp) (cs:List Ch):Prop:=H0=H∧v=iv r∧F=cs
theorem slices_IndexFunc_string_4.e1_c {w0:World} [GlobI 0 w0] {H:Hp} {F:List Ch} {r:Int}:slices_IndexFunc_string_4.e1=some r→RunH C37v4 (S37v4 F H r) H w0 [.c [1,1,0],.c [1,1,1]] [] H (F):=by
 intro   heq
 unfold slices_IndexFunc_string_4.e1 at heq
 refine Rr<|Rd 1 [4] [(4,iv (-1))] ?_
 obtain rfl:=Option.some.inj heq
 exact RunH.done (by kernel_rfl) Tryd.func37 (v:=iv (-1)) (by kernel_rfl) ⟨rfl,rfl,rfl⟩
theorem slices_IndexFunc_string_4.l2_c {w0:World} [GlobI 0 w0] {H:Hp} {F:List Ch} {r:Int} (e1:Option Int)
  (he1:e1=some r→RunH C37v4 (S37v4 F H r) H w0 [.c [1,1,0],.c [1,1,1]] [] H (F)):∀ (k:Nat),∀ (a0:List ByteArray) (Aa0:Option Addr) (ca0:Nat) (ga1q0:Nat) (a1q0:trials_changes) (Aa1q0_0:Option Nat) (Aa1q0_1:Option Nat) (Aa1q0_2:Option Nat) (v8:Int) ,Rw Kd.string H F Aa0 a0→a0.length≤ca0→Mw Value.string Kd.bool false H F Aa1q0_0 a1q0.other→Mw Value.string Kd.bool false H F Aa1q0_1 a1q0.fresh→Mw Value.string Kd.bool false H F Aa1q0_2 a1q0.over→InG H F ga1q0 (.cells #[.map Aa1q0_0,.map Aa1q0_1,.map Aa1q0_2] 43 (0,0))→slices_IndexFunc_string_4.l2 e1 k a0 a1q0 v8=some r→RunH C37v4 (S37v4 F H r) H w0 [.c [1,0,1,0,0],.l [1,0,1,0,0],.b 0,.c [1,1]] [(0,.slice Aa0 a0.length ca0),(1,.func (.func 32) #[] #[.pointer (some ⟨ga1q0,0,none⟩)]),(7,iv (a0.length:Int)),(8,iv v8)] H (F):=by
 intro k
 induction k with
 | zero=>intro a0 Aa0 ca0 ga1q0 a1q0 Aa1q0_0 Aa1q0_1 Aa1q0_2 v8 hra0 hca0 hra1q0_0 hra1q0_1 hra1q0_2 hga1q0 heq; exact nomatch (show (none:Option Int)=some r from heq)
 | succ k ihk =>
  intro a0 Aa0 ca0 ga1q0 a1q0 Aa1q0_0 Aa1q0_1 Aa1q0_2 v8 hra0 hca0 hra1q0_0 hra1q0_1 hra1q0_2 hga1q0 heq
  rw [slices_IndexFunc_string_4.l2] at heq
  refine Ra 1 [1,0,1,0,0,0] [.c [1,0,1,0,0,1],.l [1,0,1,0,0],.b 0,.c [1,1]]<|Rd 1 [0,1,7,8,9] [(0,.slice Aa0 a0.length ca0),(1,.func (.func 32) #[] #[.pointer (some ⟨ga1q0,0,none⟩)]),(7,iv (a0.length:Int)),(8,iv v8),(9,.bool (decide (v8<(a0.length:Int))))]<|Ad 1 [.c [1,0,1,0,0,1,0],.c [1,0,1,0,0,1,1],.l [1,0,1,0,0],.b 0,.c [1,1]] ?_
  rcases bool_cases (decide (v8<(a0.length:Int))) with hb1 | hb1
  ·replace heq:=bif_true hb1 heq
   refine Ct (decide (v8<(a0.length:Int))) hb1<|Ra 4 [1,0,1,0,0,1,1,0,0,0] [.c [1,0,1,0,0,1,1,0,0,1],.b 1,.c [1,0,1,0,0,1,1,1],.l [1,0,1,0,0],.b 0,.c [1,1]]<|Rd 2 [0,1,5,7,8] [(0,.slice Aa0 a0.length ca0),(1,.func (.func 32) #[] #[.pointer (some ⟨ga1q0,0,none⟩)]),(5,iv v8),(7,iv (a0.length:Int)),(8,iv v8)]<|Ra 1 [1,0,1,0,0,1,1,0,0,1,0] [.c [1,0,1,0,0,1,1,0,0,1,1],.b 1,.c [1,0,1,0,0,1,1,1],.l [1,0,1,0,0],.b 0,.c [1,1]] ?_
   obtain ⟨x1,hx1,heq⟩:=bind_some heq
   obtain ⟨ha1,cs1,hK1,hcc1⟩:=hra0.get hx1
   obtain rfl:cs1=[.string x1]:=hK1
   refine Rv 5 [0,1,5,7,8,11,15] [.string x1] [.need (Aa0=some (adr Aa0)∧(0:Int)≤v8∧v8<((a0.length:Nat):Int)),.load ((adr Aa0).add (v8.toNat*1)) (.string x1)] [(0,.slice Aa0 a0.length ca0),(1,.func (.func 32) #[] #[.pointer (some ⟨ga1q0,0,none⟩)]),(5,iv v8),(7,iv (a0.length:Int)),(8,iv v8),(11,.func (.func 32) #[] #[.pointer (some ⟨ga1q0,0,none⟩)]),(15,.string x1)] (fun w hh=>⟨⟨ha1,(at?_some hx1).1,(at?_some hx1).2.1⟩,(hcc1 _ _ (hh.drop 0) 0 _ rfl)⟩) ?_
   obtain ⟨y1,hy1,heq⟩:=bind_some heq
   refine RgH.does (DoesH.call (d:=16) (g:=32) (args:=#[.string x1,.pointer (some ⟨ga1q0,0,none⟩)]) (by kernel_rfl) (trials_changes_affects_2_1_c (a0:=x1) (a1:=a1q0) hra1q0_0 hra1q0_1 hra1q0_2 hga1q0 hy1)) ?_
   rintro _ _ _ _ ⟨_,rfl,rfl,rfl,rfl⟩
   refine Dn ?_
   rcases bool_cases (y1) with hb2 | hb2
   ·replace heq:=bif_true hb2 heq
    refine Ct y1 hb2<|Ra 1 [1,0,1,0,0,1,1,0,0,1,1,0,0] [.c [1,0,1,0,0,1,1,0,0,1,1,0,1],.b 1,.c [1,0,1,0,0,1,1,1],.l [1,0,1,0,0],.b 0,.c [1,1]]<|Rd 2 [4] [(4,iv v8)] ?_
    obtain rfl:=Option.some.inj heq
    exact RunH.done (by kernel_rfl) Tryd.func37 (v:=iv v8) (by kernel_rfl) ⟨rfl,rfl,rfl⟩
   ·replace heq:=bif_false hb2 heq
    refine Cf y1 hb2<|Ra 2 [1,0,1,0,0,1,1,1] [.l [1,0,1,0,0],.b 0,.c [1,1]]<|Rd 2 [0,1,7,8] [(0,.slice Aa0 a0.length ca0),(1,.func (.func 32) #[] #[.pointer (some ⟨ga1q0,0,none⟩)]),(7,iv (a0.length:Int)),(8,iv (w64 (v8+1)))]<|Ad 1 [.c [1,0,1,0,0],.l [1,0,1,0,0],.b 0,.c [1,1]]<|Kp [0,1,7,8] [(0,.slice Aa0 a0.length ca0),(1,.func (.func 32) #[] #[.pointer (some ⟨ga1q0,0,none⟩)]),(7,iv (a0.length:Int)),(8,iv (w64 (v8+1)))] ?_
    exact ihk a0 _ _ _ a1q0 _ _ _ (w64 (v8+1)) hra0 hca0 hra1q0_0 hra1q0_1 hra1q0_2 hga1q0 heq
  ·replace heq:=bif_false hb1 heq
   refine Cf (decide (v8<(a0.length:Int))) hb1<|Ad 2 [.c [1,1,0],.c [1,1,1]]<|Kp [] [] ?_
   exact he1 heq
theorem slices_IndexFunc_string_4_c {w0:World} [GlobI 0 w0] {H:Hp} {F:List Ch} {a0:List ByteArray} {Aa0:Option Addr} {na0:Nat} {ca0:Nat} {ga1q0:Nat} {a1q0:trials_changes} {Aa1q0_0:Option Nat} {Aa1q0_1:Option Nat} {Aa1q0_2:Option Nat} {r:Int} (hra0:Rw Kd.string H F Aa0 a0) (hca0:na0≤ca0) (hna0:na0=a0.length) (hra1q0_0:Mw Value.string Kd.bool false H F Aa1q0_0 a1q0.other) (hra1q0_1:Mw Value.string Kd.bool false H F Aa1q0_1 a1q0.fresh) (hra1q0_2:Mw Value.string Kd.bool false H F Aa1q0_2 a1q0.over) (hga1q0:InG H F ga1q0 (.cells #[.map Aa1q0_0,.map Aa1q0_1,.map Aa1q0_2] 43 (0,0))) (heq:slices_IndexFunc_string_4.f a0 a1q0=some r):CallsH Tryd.prog 37 #[.slice Aa0 na0 ca0,.func (.func 32) #[] #[.pointer (some ⟨ga1q0,0,none⟩)]] H w0 (F) (S37v4 F H r):=by
 refine calls_of_runH (F:=C37v4) Tryd.func37 (by kernel_rfl) Tryd.ntmps37 (args:=[.slice Aa0 na0 ca0,.func (.func 32) #[] #[.pointer (some ⟨ga1q0,0,none⟩)]]) (by kernel_rfl) ?_
 subst hna0
 unfold slices_IndexFunc_string_4.f at heq
 refine Ra 1 [0] [.c [1]]<|Rd 1 [0,1] [(0,.slice Aa0 a0.length ca0),(1,.func (.func 32) #[] #[.pointer (some ⟨ga1q0,0,none⟩)])]<|Ra 2 [1,0,0] [.c [1,0,1],.c [1,1]]<|Rd 3 [0,1,7,8] [(0,.slice Aa0 a0.length ca0),(1,.func (.func 32) #[] #[.pointer (some ⟨ga1q0,0,none⟩)]),(7,iv (a0.length:Int)),(8,iv 0)]<|Ad 2 [.c [1,0,1,0,0],.l [1,0,1,0,0],.b 0,.c [1,1]]<|Kp [0,1,7,8] [(0,.slice Aa0 a0.length ca0),(1,.func (.func 32) #[] #[.pointer (some ⟨ga1q0,0,none⟩)]),(7,iv (a0.length:Int)),(8,iv 0)] ?_
 exact ((slices_IndexFunc_string_4.l2_c (e1:=slices_IndexFunc_string_4.e1) (slices_IndexFunc_string_4.e1_c)) big) a0 _ _ _ a1q0 _ _ _ 0 hra0 hca0 hra1q0_0 hra1q0_1 hra1q0_2 hga1q0 heq
noncomputable def C21v4:Ctx:={ P:=Tryd.prog,f:=21,N:=9,c:=bodyOf Tryd.f21 }
def S21v4 (F:List Ch) (H0:Hp) (r:Bool) (v:Value) (H:Hp) (cs:List Ch):Prop:=H0=H∧v=.bool r∧F=cs
theorem slices_ContainsFunc_string_4_c {w0:World} [GlobI 0 w0] {H:Hp} {F:List Ch} {a0:List ByteArray} {Aa0:Option Addr} {na0:Nat} {ca0:Nat} {ga1q0:Nat} {a1q0:trials_changes} {Aa1q0_0:Option Nat} {Aa1q0_1:Option Nat} {Aa1q0_2:Option Nat} {r:Bool} (hra0:Rw Kd.string H F Aa0 a0) (hca0:na0≤ca0) (hna0:na0=a0.length) (hra1q0_0:Mw Value.string Kd.bool false H F Aa1q0_0 a1q0.other) (hra1q0_1:Mw Value.string Kd.bool false H F Aa1q0_1 a1q0.fresh) (hra1q0_2:Mw Value.string Kd.bool false H F Aa1q0_2 a1q0.over) (hga1q0:InG H F ga1q0 (.cells #[.map Aa1q0_0,.map Aa1q0_1,.map Aa1q0_2] 43 (0,0))) (heq:slices_ContainsFunc_string_4.f a0 a1q0=some r):CallsH Tryd.prog 21 #[.slice Aa0 na0 ca0,.func (.func 32) #[] #[.pointer (some ⟨ga1q0,0,none⟩)]] H w0 (F) (S21v4 F H r):=by
 refine calls_of_runH (F:=C21v4) Tryd.func21 (by kernel_rfl) Tryd.ntmps21 (args:=[.slice Aa0 na0 ca0,.func (.func 32) #[] #[.pointer (some ⟨ga1q0,0,none⟩)]]) (by kernel_rfl) ?_
 subst hna0
 unfold slices_ContainsFunc_string_4.f at heq
 refine Ra 1 [0] [.c [1]]<|Rd 1 [0,1] [(0,.slice Aa0 a0.length ca0),(1,.func (.func 32) #[] #[.pointer (some ⟨ga1q0,0,none⟩)])]<|Ra 1 [1,0] [.c [1,1]]<|Rk 2 [5,6] [(5,.slice Aa0 a0.length ca0),(6,.func (.func 32) #[] #[.pointer (some ⟨ga1q0,0,none⟩)])] ?_
 obtain ⟨y1,hy1,heq⟩:=bind_some heq
 refine RgH.does (DoesH.call (d:=7) (g:=37) (args:=#[.slice Aa0 a0.length ca0,.func (.func 32) #[] #[.pointer (some ⟨ga1q0,0,none⟩)]]) (by kernel_rfl) (slices_IndexFunc_string_4_c (a0:=a0) (a1q0:=a1q0) hra0 hca0 rfl hra1q0_0 hra1q0_1 hra1q0_2 hga1q0 hy1)) ?_
 rintro _ _ _ _ ⟨_,rfl,rfl,rfl,rfl⟩
 refine Rd 5 [4] [(4,.bool (decide (0≤y1)))] ?_
 obtain rfl:=Option.some.inj heq
 exact RunH.done (by kernel_rfl) Tryd.func21 (v:=.bool (decide (0≤y1))) (by kernel_rfl) ⟨rfl,rfl,rfl⟩
noncomputable def C31:Ctx:={ P:=Tryd.prog,f:=31,N:=20,c:=bodyOf Tryd.f31 }
def S31 (F:List Ch) (H0:Hp) (r:Bool) (v:Value) (H:Hp) (cs:List Ch):Prop:=H0=H∧v=.bool r∧F=cs
theorem trials_changes_affects_2_c {w0:World} [GlobI 0 w0] {H:Hp} {F:List Ch} {a0:ByteArray} {ga1:Nat} {a1:trials_changes} {Aa1_0:Option Nat} {Aa1_1:Option Nat} {Aa1_2:Option Nat} {r:Bool} (hra1_0:Mw Value.string Kd.bool false H F Aa1_0 a1.other) (hra1_1:Mw Value.string Kd.bool false H F Aa1_1 a1.fresh) (hra1_2:Mw Value.string Kd.bool false H F Aa1_2 a1.over) (hga1:InG H F ga1 (.cells #[.map Aa1_0,.map Aa1_1,.map Aa1_2] 43 (0,0))) (heq:trials_changes_affects_2.f a0 a1=some r):CallsH Tryd.prog 31 #[.string a0,.pointer (some ⟨ga1,0,none⟩)] H w0 (F) (S31 F H r):=by
 refine calls_of_runH (F:=C31) Tryd.func31 (by kernel_rfl) Tryd.ntmps31 (args:=[.string a0,.pointer (some ⟨ga1,0,none⟩)]) (by kernel_rfl) ?_
 unfold trials_changes_affects_2.f at heq
 refine Ra 1 [0] [.c [1]]<|Rd 1 [0,1] [(0,.string a0),(1,pg ga1 0)]<|Ad 1 [.c [1,0],.c [1,1]] ?_
 obtain ⟨t1,ht1,heq⟩:=bind_some heq
 have K2:RunH C31 (S31 F H r) H w0 [.c [1,1]] [(3,.bool t1)] H (F):=by
  obtain rfl:=Option.some.inj heq
  exact RunH.done (by kernel_rfl) Tryd.func31 (v:=.bool t1) (by kernel_rfl) ⟨rfl,rfl,rfl⟩
 replace heq:=ht1
 refine Rr<|Rv 3 [0,1,5,6] [.map Aa1_1] [.load ⟨ga1,1,none⟩ (.map Aa1_1)] [(0,.string a0),(1,pg ga1 0),(5,.map Aa1_1),(6,.string a0)] (fun w hh=>(hga1.cell (hh.drop 0) rfl)) ?_
 refine RgH.does (DoesH.lookup (d:=7) (t:=41) (m:=a1.fresh) (k:=a0) (z:=.bool false) (zc:=[.bool false]) (z0:=false) (ok:=false) (kd:=Kd.bool) (ag:=false) (by kernel_rfl) (KyAt.string Tryd.underlying9) rfl rfl (fun w hh=>hra1_1.on (hh.drop 0))) ?_
 rintro _ _ _ _ ⟨cc1,rfl,rfl,rfl,hcc1⟩
 obtain rfl:cc1=[.bool (mgetD a1.fresh a0 false)]:=hcc1
 refine RgH.val1 (v':=.bool (mgetD a1.fresh a0 false)) rfl ?_
 refine Rk 5 [8,0,1] [(8,.bool (mgetD a1.fresh a0 false)),(0,.string a0),(1,pg ga1 0)] ?_
 rcases bool_cases (mgetD a1.fresh a0 false) with hb1 | hb1
 ·replace heq:=bif_true hb1 heq
  refine RgH.val1 (v':=.bool true) (congrArg Value.bool hb1) ?_
  refine Rk 17 [3] [(3,.bool true)] ?_
  obtain rfl:=Option.some.inj heq
  refine Kg [3] [(3,.bool true)]<|Dn ?_
  exact K2
 ·replace heq:=bif_false hb1 heq
  refine RgH.val1 (v':=.bool false) (congrArg Value.bool hb1) ?_
  refine Rv 8 [0,1,8,10,11] [.map Aa1_2] [.load ⟨ga1,2,none⟩ (.map Aa1_2)] [(0,.string a0),(1,pg ga1 0),(8,.bool false),(10,.map Aa1_2),(11,.string a0)] (fun w hh=>(hga1.cell (hh.drop 0) rfl)) ?_
  refine RgH.does (DoesH.lookup (d:=12) (t:=41) (m:=a1.over) (k:=a0) (z:=.bool false) (zc:=[.bool false]) (z0:=false) (ok:=false) (kd:=Kd.bool) (ag:=false) (by kernel_rfl) (KyAt.string Tryd.underlying9) rfl rfl (fun w hh=>hra1_2.on (hh.drop 0))) ?_
  rintro _ _ _ _ ⟨cc2,rfl,rfl,rfl,hcc2⟩
  obtain rfl:cc2=[.bool (mgetD a1.over a0 false)]:=hcc2
  refine RgH.val1 (v':=.bool (mgetD a1.over a0 false)) rfl ?_
  refine Rk 11 [14,0,1] [(14,.bool (mgetD a1.over a0 false)),(0,.string a0),(1,pg ga1 0)] ?_
  rcases bool_cases (mgetD a1.over a0 false) with hb2 | hb2
  ·replace heq:=bif_true hb2 heq
   refine RgH.val1 (v':=.bool true) (congrArg Value.bool hb2) ?_
   refine Rk 17 [3] [(3,.bool true)] ?_
   obtain rfl:=Option.some.inj heq
   refine Kg [3] [(3,.bool true)]<|Dn ?_
   exact K2
  ·replace heq:=bif_false hb2 heq
   refine RgH.val1 (v':=.bool false) (congrArg Value.bool hb2) ?_
   refine Rk 12 [1,14,15] [(1,pg ga1 0),(14,.bool false),(15,.string a0)] ?_
   obtain ⟨y1,hy1,heq⟩:=bind_some heq
   refine RgH.does (DoesH.call (d:=16) (g:=29) (args:=#[.string a0]) (by kernel_rfl) (trials_above_c (a0:=a0)  hy1)) ?_
   rintro _ _ _ _ ⟨_,rfl,A1,c1,ch1,rfl,rfl,rfl,ho1⟩
   refine Rk 14 [14,16,17] [(14,.bool false),(16,.slice A1 y1.length c1),(17,.func (.func 32) #[] #[.pointer (some ⟨ga1,0,none⟩)])] ?_
   obtain ⟨y2,hy2,heq⟩:=bind_some heq
   refine RgH.does (DoesH.call (d:=18) (g:=21) (args:=#[.slice A1 y1.length c1,.func (.func 32) #[] #[.pointer (some ⟨ga1,0,none⟩)]]) (by kernel_rfl) (slices_ContainsFunc_string_4_c (a0:=y1) (a1q0:=a1) (ho1.rw (.head _)) ho1.cap rfl (hra1_0.wk (fun _ h=>(.tail _ h))) (hra1_1.wk (fun _ h=>(.tail _ h))) (hra1_2.wk (fun _ h=>(.tail _ h))) (hga1.wk (fun _ h=>(.tail _ h))) hy2)) ?_
   rintro _ _ _ _ ⟨_,rfl,rfl,rfl,rfl⟩
   refine Rk 17 [3] [(3,.bool y2)] ?_
   obtain rfl:=Option.some.inj heq
   refine Kg [3] [(3,.bool y2)] ?_
   refine RgH.pick 1 [] (cs':=F) (by kernel_rfl) rfl ?_
   refine Dn ?_
   exact K2
noncomputable def C37v3:Ctx:={ P:=Tryd.prog,f:=37,N:=19,c:=bodyOf Tryd.f37 }
def S37v3 (F:List Ch) (H0:Hp) (r:Int) (v:Value) (H:Hp) (cs:List Ch):Prop:=H0=H∧v=iv r∧F=cs
theorem slices_IndexFunc_string_3.e1_c {w0:World} [GlobI 0 w0] {H:Hp} {F:List Ch} {r:Int}:slices_IndexFunc_string_3.e1=some r→RunH C37v3 (S37v3 F H r) H w0 [.c [1,1,0],.c [1,1,1]] [] H (F):=by
 intro   heq
 unfold slices_IndexFunc_string_3.e1 at heq
 refine Rr<|Rd 1 [4] [(4,iv (-1))] ?_
 obtain rfl:=Option.some.inj heq
 exact RunH.done (by kernel_rfl) Tryd.func37 (v:=iv (-1)) (by kernel_rfl) ⟨rfl,rfl,rfl⟩
theorem slices_IndexFunc_string_3.l2_c {w0:World} [GlobI 0 w0] {H:Hp} {F:List Ch} {r:Int} (e1:Option Int)
  (he1:e1=some r→RunH C37v3 (S37v3 F H r) H w0 [.c [1,1,0],.c [1,1,1]] [] H (F)):∀ (k:Nat),∀ (a0:List ByteArray) (Aa0:Option Addr) (ca0:Nat) (ga1q0:Nat) (a1q0:trials_changes) (Aa1q0_0:Option Nat) (Aa1q0_1:Option Nat) (Aa1q0_2:Option Nat) (v8:Int) ,Rw Kd.string H F Aa0 a0→a0.length≤ca0→Mw Value.string Kd.bool false H F Aa1q0_0 a1q0.other→Mw Value.string Kd.bool false H F Aa1q0_1 a1q0.fresh→Mw Value.string Kd.bool false H F Aa1q0_2 a1q0.over→InG H F ga1q0 (.cells #[.map Aa1q0_0,.map Aa1q0_1,.map Aa1q0_2] 43 (0,0))→slices_IndexFunc_string_3.l2 e1 k a0 a1q0 v8=some r→RunH C37v3 (S37v3 F H r) H w0 [.c [1,0,1,0,0],.l [1,0,1,0,0],.b 0,.c [1,1]] [(0,.slice Aa0 a0.length ca0),(1,.func (.func 31) #[] #[.pointer (some ⟨ga1q0,0,none⟩)]),(7,iv (a0.length:Int)),(8,iv v8)] H (F):=by
 intro k
 induction k with
 | zero=>intro a0 Aa0 ca0 ga1q0 a1q0 Aa1q0_0 Aa1q0_1 Aa1q0_2 v8 hra0 hca0 hra1q0_0 hra1q0_1 hra1q0_2 hga1q0 heq; exact nomatch (show (none:Option Int)=some r from heq)
 | succ k ihk =>
  intro a0 Aa0 ca0 ga1q0 a1q0 Aa1q0_0 Aa1q0_1 Aa1q0_2 v8 hra0 hca0 hra1q0_0 hra1q0_1 hra1q0_2 hga1q0 heq
  rw [slices_IndexFunc_string_3.l2] at heq
  refine Ra 1 [1,0,1,0,0,0] [.c [1,0,1,0,0,1],.l [1,0,1,0,0],.b 0,.c [1,1]]<|Rd 1 [0,1,7,8,9] [(0,.slice Aa0 a0.length ca0),(1,.func (.func 31) #[] #[.pointer (some ⟨ga1q0,0,none⟩)]),(7,iv (a0.length:Int)),(8,iv v8),(9,.bool (decide (v8<(a0.length:Int))))]<|Ad 1 [.c [1,0,1,0,0,1,0],.c [1,0,1,0,0,1,1],.l [1,0,1,0,0],.b 0,.c [1,1]] ?_
  rcases bool_cases (decide (v8<(a0.length:Int))) with hb1 | hb1
  ·replace heq:=bif_true hb1 heq
   refine Ct (decide (v8<(a0.length:Int))) hb1<|Ra 4 [1,0,1,0,0,1,1,0,0,0] [.c [1,0,1,0,0,1,1,0,0,1],.b 1,.c [1,0,1,0,0,1,1,1],.l [1,0,1,0,0],.b 0,.c [1,1]]<|Rd 2 [0,1,5,7,8] [(0,.slice Aa0 a0.length ca0),(1,.func (.func 31) #[] #[.pointer (some ⟨ga1q0,0,none⟩)]),(5,iv v8),(7,iv (a0.length:Int)),(8,iv v8)]<|Ra 1 [1,0,1,0,0,1,1,0,0,1,0] [.c [1,0,1,0,0,1,1,0,0,1,1],.b 1,.c [1,0,1,0,0,1,1,1],.l [1,0,1,0,0],.b 0,.c [1,1]] ?_
   obtain ⟨x1,hx1,heq⟩:=bind_some heq
   obtain ⟨ha1,cs1,hK1,hcc1⟩:=hra0.get hx1
   obtain rfl:cs1=[.string x1]:=hK1
   refine Rv 5 [0,1,5,7,8,11,15] [.string x1] [.need (Aa0=some (adr Aa0)∧(0:Int)≤v8∧v8<((a0.length:Nat):Int)),.load ((adr Aa0).add (v8.toNat*1)) (.string x1)] [(0,.slice Aa0 a0.length ca0),(1,.func (.func 31) #[] #[.pointer (some ⟨ga1q0,0,none⟩)]),(5,iv v8),(7,iv (a0.length:Int)),(8,iv v8),(11,.func (.func 31) #[] #[.pointer (some ⟨ga1q0,0,none⟩)]),(15,.string x1)] (fun w hh=>⟨⟨ha1,(at?_some hx1).1,(at?_some hx1).2.1⟩,(hcc1 _ _ (hh.drop 0) 0 _ rfl)⟩) ?_
   obtain ⟨y1,hy1,heq⟩:=bind_some heq
   refine RgH.does (DoesH.call (d:=16) (g:=31) (args:=#[.string x1,.pointer (some ⟨ga1q0,0,none⟩)]) (by kernel_rfl) (trials_changes_affects_2_c (a0:=x1) (a1:=a1q0) hra1q0_0 hra1q0_1 hra1q0_2 hga1q0 hy1)) ?_
   rintro _ _ _ _ ⟨_,rfl,rfl,rfl,rfl⟩
   refine Dn ?_
   rcases bool_cases (y1) with hb2 | hb2
   ·replace heq:=bif_true hb2 heq
    refine Ct y1 hb2<|Ra 1 [1,0,1,0,0,1,1,0,0,1,1,0,0] [.c [1,0,1,0,0,1,1,0,0,1,1,0,1],.b 1,.c [1,0,1,0,0,1,1,1],.l [1,0,1,0,0],.b 0,.c [1,1]]<|Rd 2 [4] [(4,iv v8)] ?_
    obtain rfl:=Option.some.inj heq
    exact RunH.done (by kernel_rfl) Tryd.func37 (v:=iv v8) (by kernel_rfl) ⟨rfl,rfl,rfl⟩
   ·replace heq:=bif_false hb2 heq
    refine Cf y1 hb2<|Ra 2 [1,0,1,0,0,1,1,1] [.l [1,0,1,0,0],.b 0,.c [1,1]]<|Rd 2 [0,1,7,8] [(0,.slice Aa0 a0.length ca0),(1,.func (.func 31) #[] #[.pointer (some ⟨ga1q0,0,none⟩)]),(7,iv (a0.length:Int)),(8,iv (w64 (v8+1)))]<|Ad 1 [.c [1,0,1,0,0],.l [1,0,1,0,0],.b 0,.c [1,1]]<|Kp [0,1,7,8] [(0,.slice Aa0 a0.length ca0),(1,.func (.func 31) #[] #[.pointer (some ⟨ga1q0,0,none⟩)]),(7,iv (a0.length:Int)),(8,iv (w64 (v8+1)))] ?_
    exact ihk a0 _ _ _ a1q0 _ _ _ (w64 (v8+1)) hra0 hca0 hra1q0_0 hra1q0_1 hra1q0_2 hga1q0 heq
  ·replace heq:=bif_false hb1 heq
   refine Cf (decide (v8<(a0.length:Int))) hb1<|Ad 2 [.c [1,1,0],.c [1,1,1]]<|Kp [] [] ?_
   exact he1 heq
theorem slices_IndexFunc_string_3_c {w0:World} [GlobI 0 w0] {H:Hp} {F:List Ch} {a0:List ByteArray} {Aa0:Option Addr} {na0:Nat} {ca0:Nat} {ga1q0:Nat} {a1q0:trials_changes} {Aa1q0_0:Option Nat} {Aa1q0_1:Option Nat} {Aa1q0_2:Option Nat} {r:Int} (hra0:Rw Kd.string H F Aa0 a0) (hca0:na0≤ca0) (hna0:na0=a0.length) (hra1q0_0:Mw Value.string Kd.bool false H F Aa1q0_0 a1q0.other) (hra1q0_1:Mw Value.string Kd.bool false H F Aa1q0_1 a1q0.fresh) (hra1q0_2:Mw Value.string Kd.bool false H F Aa1q0_2 a1q0.over) (hga1q0:InG H F ga1q0 (.cells #[.map Aa1q0_0,.map Aa1q0_1,.map Aa1q0_2] 43 (0,0))) (heq:slices_IndexFunc_string_3.f a0 a1q0=some r):CallsH Tryd.prog 37 #[.slice Aa0 na0 ca0,.func (.func 31) #[] #[.pointer (some ⟨ga1q0,0,none⟩)]] H w0 (F) (S37v3 F H r):=by
 refine calls_of_runH (F:=C37v3) Tryd.func37 (by kernel_rfl) Tryd.ntmps37 (args:=[.slice Aa0 na0 ca0,.func (.func 31) #[] #[.pointer (some ⟨ga1q0,0,none⟩)]]) (by kernel_rfl) ?_
 subst hna0
 unfold slices_IndexFunc_string_3.f at heq
 refine Ra 1 [0] [.c [1]]<|Rd 1 [0,1] [(0,.slice Aa0 a0.length ca0),(1,.func (.func 31) #[] #[.pointer (some ⟨ga1q0,0,none⟩)])]<|Ra 2 [1,0,0] [.c [1,0,1],.c [1,1]]<|Rd 3 [0,1,7,8] [(0,.slice Aa0 a0.length ca0),(1,.func (.func 31) #[] #[.pointer (some ⟨ga1q0,0,none⟩)]),(7,iv (a0.length:Int)),(8,iv 0)]<|Ad 2 [.c [1,0,1,0,0],.l [1,0,1,0,0],.b 0,.c [1,1]]<|Kp [0,1,7,8] [(0,.slice Aa0 a0.length ca0),(1,.func (.func 31) #[] #[.pointer (some ⟨ga1q0,0,none⟩)]),(7,iv (a0.length:Int)),(8,iv 0)] ?_
 exact ((slices_IndexFunc_string_3.l2_c (e1:=slices_IndexFunc_string_3.e1) (slices_IndexFunc_string_3.e1_c)) big) a0 _ _ _ a1q0 _ _ _ 0 hra0 hca0 hra1q0_0 hra1q0_1 hra1q0_2 hga1q0 heq
noncomputable def C21v3:Ctx:={ P:=Tryd.prog,f:=21,N:=9,c:=bodyOf Tryd.f21 }
def S21v3 (F:List Ch) (H0:Hp) (r:Bool) (v:Value) (H:Hp) (cs:List Ch):Prop:=H0=H∧v=.bool r∧F=cs
theorem slices_ContainsFunc_string_3_c {w0:World} [GlobI 0 w0] {H:Hp} {F:List Ch} {a0:List ByteArray} {Aa0:Option Addr} {na0:Nat} {ca0:Nat} {ga1q0:Nat} {a1q0:trials_changes} {Aa1q0_0:Option Nat} {Aa1q0_1:Option Nat} {Aa1q0_2:Option Nat} {r:Bool} (hra0:Rw Kd.string H F Aa0 a0) (hca0:na0≤ca0) (hna0:na0=a0.length) (hra1q0_0:Mw Value.string Kd.bool false H F Aa1q0_0 a1q0.other) (hra1q0_1:Mw Value.string Kd.bool false H F Aa1q0_1 a1q0.fresh) (hra1q0_2:Mw Value.string Kd.bool false H F Aa1q0_2 a1q0.over) (hga1q0:InG H F ga1q0 (.cells #[.map Aa1q0_0,.map Aa1q0_1,.map Aa1q0_2] 43 (0,0))) (heq:slices_ContainsFunc_string_3.f a0 a1q0=some r):CallsH Tryd.prog 21 #[.slice Aa0 na0 ca0,.func (.func 31) #[] #[.pointer (some ⟨ga1q0,0,none⟩)]] H w0 (F) (S21v3 F H r):=by
 refine calls_of_runH (F:=C21v3) Tryd.func21 (by kernel_rfl) Tryd.ntmps21 (args:=[.slice Aa0 na0 ca0,.func (.func 31) #[] #[.pointer (some ⟨ga1q0,0,none⟩)]]) (by kernel_rfl) ?_
 subst hna0
 unfold slices_ContainsFunc_string_3.f at heq
 refine Ra 1 [0] [.c [1]]<|Rd 1 [0,1] [(0,.slice Aa0 a0.length ca0),(1,.func (.func 31) #[] #[.pointer (some ⟨ga1q0,0,none⟩)])]<|Ra 1 [1,0] [.c [1,1]]<|Rk 2 [5,6] [(5,.slice Aa0 a0.length ca0),(6,.func (.func 31) #[] #[.pointer (some ⟨ga1q0,0,none⟩)])] ?_
 obtain ⟨y1,hy1,heq⟩:=bind_some heq
 refine RgH.does (DoesH.call (d:=7) (g:=37) (args:=#[.slice Aa0 a0.length ca0,.func (.func 31) #[] #[.pointer (some ⟨ga1q0,0,none⟩)]]) (by kernel_rfl) (slices_IndexFunc_string_3_c (a0:=a0) (a1q0:=a1q0) hra0 hca0 rfl hra1q0_0 hra1q0_1 hra1q0_2 hga1q0 hy1)) ?_
 rintro _ _ _ _ ⟨_,rfl,rfl,rfl,rfl⟩
 refine Rd 5 [4] [(4,.bool (decide (0≤y1)))] ?_
 obtain rfl:=Option.some.inj heq
 exact RunH.done (by kernel_rfl) Tryd.func21 (v:=.bool (decide (0≤y1))) (by kernel_rfl) ⟨rfl,rfl,rfl⟩
noncomputable def C16:Ctx:={ P:=Tryd.prog,f:=16,N:=13,c:=bodyOf Tryd.f16 }
def S16 (F:List Ch) (H0:Hp) (r:Bool) (v:Value) (H:Hp) (cs:List Ch):Prop:=H0=H∧v=.bool r∧F=cs
theorem trials_changes_affects_c {w0:World} [GlobI 0 w0] {H:Hp} {F:List Ch} {a0:trials_changes} {Aa0_0:Option Nat} {Aa0_1:Option Nat} {Aa0_2:Option Nat} {a1:TestReads} {Aa1_1:Option Addr} {na1_1:Nat} {ca1_1:Nat} {Aa1_2:Option Addr} {na1_2:Nat} {ca1_2:Nat} {r:Bool} (hra0_0:Mw Value.string Kd.bool false H F Aa0_0 a0.other) (hra0_1:Mw Value.string Kd.bool false H F Aa0_1 a0.fresh) (hra0_2:Mw Value.string Kd.bool false H F Aa0_2 a0.over) (hra1_1:Rw Kd.string H F Aa1_1 a1.Paths) (hca1_1:na1_1≤ca1_1) (hna1_1:na1_1=a1.Paths.length) (hra1_2:Rw Kd.string H F Aa1_2 a1.Looked) (hca1_2:na1_2≤ca1_2) (hna1_2:na1_2=a1.Looked.length) (heq:trials_changes_affects.f a0 a1=some r):CallsH Tryd.prog 16 #[.agg #[.map Aa0_0,.map Aa0_1,.map Aa0_2],.agg #[.string a1.Test,.slice Aa1_1 na1_1 ca1_1,.slice Aa1_2 na1_2 ca1_2]] H w0 (F) (S16 F H r):=by
 refine calls_of_runH (F:=C16) Tryd.func16 (by kernel_rfl) Tryd.ntmps16 (args:=[.agg #[.map Aa0_0,.map Aa0_1,.map Aa0_2],.agg #[.string a1.Test,.slice Aa1_1 na1_1 ca1_1,.slice Aa1_2 na1_2 ca1_2]]) (by kernel_rfl) ?_
 subst hna1_1
 subst hna1_2
 unfold trials_changes_affects.f at heq
 refine Ra 1 [0] [.c [1]] ?_
 refine RgH.does (DoesH.new (d:=2) (v:=fun g=>.pointer (some ⟨g,0,none⟩)) (o:=fun g=>.cells #[.map Aa0_0,.map Aa0_1,.map Aa0_2] 43 (0,0)) (fun g=>by kernel_rfl)) ?_
 rintro _ _ _ _ ⟨g1,rfl,rfl,rfl⟩
 refine RgH.does (DoesH.new (d:=3) (v:=fun g=>.pointer (some ⟨g,0,none⟩)) (o:=fun g=>.cells #[.string a1.Test,.slice Aa1_1 a1.Paths.length ca1_1,.slice Aa1_2 a1.Looked.length ca1_2] 39 (0,0)) (fun g=>by kernel_rfl)) ?_
 rintro _ _ _ _ ⟨g2,rfl,rfl,rfl⟩
 refine Rd 3 [2,3] [(2,pg g1 0),(3,pg g2 0)]<|Ra 2 [1,0,0] [.c [1,0,1],.c [1,1]]<|Rv 3 [2,3,6,7] [.slice Aa1_1 a1.Paths.length ca1_1] [.load ⟨g2,1,none⟩ (.slice Aa1_1 a1.Paths.length ca1_1)] [(2,pg g1 0),(3,pg g2 0),(6,.slice Aa1_1 a1.Paths.length ca1_1),(7,.func (.func 30) #[] #[.pointer (some ⟨g1,0,none⟩)])] (fun w hh=>(hh.box 0 rfl rfl)) ?_
 obtain ⟨y1,hy1,heq⟩:=bind_some heq
 refine RgH.does (DoesH.call (d:=8) (g:=21) (args:=#[.slice Aa1_1 a1.Paths.length ca1_1,.func (.func 30) #[] #[.pointer (some ⟨g1,0,none⟩)]]) (by kernel_rfl) (slices_ContainsFunc_string_2_c (a0:=a1.Paths) (a1q0:=a0) (hra1_1.wk (fun _ h=>(.tail _ (.tail _ h)))) hca1_1 rfl (hra0_0.wk (fun _ h=>(.tail _ (.tail _ h)))) (hra0_1.wk (fun _ h=>(.tail _ (.tail _ h)))) (hra0_2.wk (fun _ h=>(.tail _ (.tail _ h)))) (.inr (.tail _ (.head _))) hy1)) ?_
 rintro _ _ _ _ ⟨_,rfl,rfl,rfl,rfl⟩
 refine Dn ?_
 rcases bool_cases (y1) with hb1 | hb1
 ·replace heq:=bif_true hb1 heq
  refine Ct y1 hb1<|Ra 1 [1,0,1,0,0] [.c [1,0,1,0,1],.c [1,1]]<|Rd 1 [4] [(4,.bool true)] ?_
  obtain rfl:=Option.some.inj heq
  refine RunH.pick 2 [] (cs':=F) (by kernel_rfl) rfl ?_
  exact RunH.done (by kernel_rfl) Tryd.func16 (v:=.bool true) (by kernel_rfl) ⟨rfl,rfl,rfl⟩
 ·replace heq:=bif_false hb1 heq
  refine Cf y1 hb1<|Ra 2 [1,1,0] [.c [1,1,1]]<|Rv 3 [10,11] [.slice Aa1_2 a1.Looked.length ca1_2] [.load ⟨g2,2,none⟩ (.slice Aa1_2 a1.Looked.length ca1_2)] [(10,.slice Aa1_2 a1.Looked.length ca1_2),(11,.func (.func 31) #[] #[.pointer (some ⟨g1,0,none⟩)])] (fun w hh=>(hh.box 0 rfl rfl)) ?_
  obtain ⟨y2,hy2,heq⟩:=bind_some heq
  refine RgH.does (DoesH.call (d:=12) (g:=21) (args:=#[.slice Aa1_2 a1.Looked.length ca1_2,.func (.func 31) #[] #[.pointer (some ⟨g1,0,none⟩)]]) (by kernel_rfl) (slices_ContainsFunc_string_3_c (a0:=a1.Looked) (a1q0:=a0) (hra1_2.wk (fun _ h=>(.tail _ (.tail _ h)))) hca1_2 rfl (hra0_0.wk (fun _ h=>(.tail _ (.tail _ h)))) (hra0_1.wk (fun _ h=>(.tail _ (.tail _ h)))) (hra0_2.wk (fun _ h=>(.tail _ (.tail _ h)))) (.inr (.tail _ (.head _))) hy2)) ?_
  rintro _ _ _ _ ⟨_,rfl,rfl,rfl,rfl⟩
  refine Rd 5 [4] [(4,.bool y2)] ?_
  obtain rfl:=Option.some.inj heq
  refine RunH.pick 2 [] (cs':=F) (by kernel_rfl) rfl ?_
  exact RunH.done (by kernel_rfl) Tryd.func16 (v:=.bool y2) (by kernel_rfl) ⟨rfl,rfl,rfl⟩
noncomputable def C6:Ctx:={ P:=Tryd.prog,f:=6,N:=41,c:=bodyOf Tryd.f6 }
def S6 (F:List Ch) (H0:Hp) (r:(List ByteArray) × Int) (v:Value) (H:Hp) (cs:List Ch):Prop:=∃ (A0:Option Addr) (c0:Nat) (ch0:Ch),H0=H∧v=.tuple #[.slice A0 r.1.length c0,iv r.2]∧ch0::F=cs∧SlOwn Kd.string 9 H A0 c0 r.1 ch0
theorem trials_Affected.e1_c {w0:World} [GlobI 0 w0] {H:Hp} {F:List Ch} {r:(List ByteArray) × Int}:∀ (v_out9:List ByteArray) (Av_out9:Option Addr) (nv_out9:Nat) (cv_out9:Nat) (chv_out9:Ch) ,SlOwn Kd.string 9 H Av_out9 cv_out9 v_out9 chv_out9→nv_out9=v_out9.length→trials_Affected.e1 v_out9=some r→RunH C6 (S6 F H r) H w0 [.c [1,1,1,1,1,1,0],.c [1,1,1,1,1,1,1]] [(9,.slice Av_out9 nv_out9 cv_out9)] H (chv_out9::F):=by
 intro v_out9 Av_out9 nv_out9 cv_out9 chv_out9 hov_out9 hnv_out9 heq
 subst hnv_out9
 unfold trials_Affected.e1 at heq
 refine Rr<|Rd 3 [4,5] [(4,.slice Av_out9 v_out9.length cv_out9),(5,iv 0)] ?_
 obtain rfl:=Option.some.inj heq
 exact RunH.done (by kernel_rfl) Tryd.func6 (v:=.tuple #[.slice Av_out9 v_out9.length cv_out9,iv 0]) (by kernel_rfl) ⟨Av_out9,cv_out9,chv_out9,rfl,rfl,rfl,hov_out9⟩
theorem trials_Affected.j3_c {w0:World} [GlobI 0 w0] {H:Hp} {F:List Ch} {r:(List ByteArray) × Int} (backl2:(List TestReads)→(trials_changes × Int)→(List ByteArray)→Int→Option ((List ByteArray) × Int))
  (hbackl2:∀ (a0:List TestReads) (Aa0:Option Addr) (ca0:Nat) (y2:trials_changes × Int) (g1:Nat) (ch1:Ch) (g2:Nat) (ch2:Ch) (g3:Nat) (ch3:Ch) (g4:Nat) (v_out9:List ByteArray) (Av_out9:Option Addr) (nv_out9:Nat) (cv_out9:Nat) (chv_out9:Ch) (v27:Int) ,Rw kTestReads H F Aa0 a0→a0.length≤ca0→MpOwn Value.string Kd.bool false H g1 y2.1.other ch1→MpOwn Value.string Kd.bool false H g2 y2.1.fresh ch2→MpOwn Value.string Kd.bool false H g3 y2.1.over ch3→SlOwn Kd.string 9 H Av_out9 cv_out9 v_out9 chv_out9→nv_out9=v_out9.length→backl2 a0 y2 v_out9 v27=some r→RunH C6 (S6 F H r) H w0 [.c [1,1,1,1,1,0,1,0,0],.l [1,1,1,1,1,0,1,0,0],.b 0,.c [1,1,1,1,1,1]] [(7,pg g4 0),(9,.slice Av_out9 nv_out9 cv_out9),(25,.slice Aa0 a0.length ca0),(26,iv (a0.length:Int)),(27,iv v27)] H (chv_out9::(some (g4,.cells #[.map (some g1),.map (some g2),.map (some g3)] 43 (0,0)))::ch1::ch2::ch3::F)):∀ (a0:List TestReads) (Aa0:Option Addr) (ca0:Nat) (y2:trials_changes × Int) (g1:Nat) (ch1:Ch) (g2:Nat) (ch2:Ch) (g3:Nat) (ch3:Ch) (g4:Nat) (v27:Int) (v_out9:List ByteArray) (Av_out9:Option Addr) (nv_out9:Nat) (cv_out9:Nat) (chv_out9:Ch) ,Rw kTestReads H F Aa0 a0→a0.length≤ca0→MpOwn Value.string Kd.bool false H g1 y2.1.other ch1→MpOwn Value.string Kd.bool false H g2 y2.1.fresh ch2→MpOwn Value.string Kd.bool false H g3 y2.1.over ch3→SlOwn Kd.string 9 H Av_out9 cv_out9 v_out9 chv_out9→nv_out9=v_out9.length→trials_Affected.j3 backl2 a0 y2 v27 v_out9=some r→RunH C6 (S6 F H r) H w0 [.c [1,1,1,1,1,0,1,0,0,1,1,1],.l [1,1,1,1,1,0,1,0,0],.b 0,.c [1,1,1,1,1,1]] [(7,pg g4 0),(9,.slice Av_out9 nv_out9 cv_out9),(25,.slice Aa0 a0.length ca0),(26,iv (a0.length:Int)),(27,iv v27)] H (chv_out9::(some (g4,.cells #[.map (some g1),.map (some g2),.map (some g3)] 43 (0,0)))::ch1::ch2::ch3::F):=by
 intro a0 Aa0 ca0 y2 g1 ch1 g2 ch2 g3 ch3 g4 v27 v_out9 Av_out9 nv_out9 cv_out9 chv_out9 hra0 hca0 ho2 ho3 ho4 hov_out9 hnv_out9 heq
 subst hnv_out9
 unfold trials_Affected.j3 at heq
 refine Rr<|Rd 2 [7,9,25,26,27] [(7,pg g4 0),(9,.slice Av_out9 v_out9.length cv_out9),(25,.slice Aa0 a0.length ca0),(26,iv (a0.length:Int)),(27,iv (w64 (v27+1)))]<|Ad 1 [.c [1,1,1,1,1,0,1,0,0],.l [1,1,1,1,1,0,1,0,0],.b 0,.c [1,1,1,1,1,1]]<|Kp [7,9,25,26,27] [(7,pg g4 0),(9,.slice Av_out9 v_out9.length cv_out9),(25,.slice Aa0 a0.length ca0),(26,iv (a0.length:Int)),(27,iv (w64 (v27+1)))] ?_
 exact hbackl2 a0 _ _ y2 _ _ _ _ _ _ _ v_out9 _ _ _ _ (w64 (v27+1)) hra0 hca0 ho2 ho3 ho4 hov_out9 rfl heq
theorem trials_Affected.l2_c {w0:World} [GlobI 0 w0] {H:Hp} {F:List Ch} {r:(List ByteArray) × Int} (e1:(List ByteArray)→Option ((List ByteArray) × Int))
  (he1:∀ (v_out9:List ByteArray) (Av_out9:Option Addr) (nv_out9:Nat) (cv_out9:Nat) (chv_out9:Ch) ,SlOwn Kd.string 9 H Av_out9 cv_out9 v_out9 chv_out9→nv_out9=v_out9.length→e1 v_out9=some r→RunH C6 (S6 F H r) H w0 [.c [1,1,1,1,1,1,0],.c [1,1,1,1,1,1,1]] [(9,.slice Av_out9 nv_out9 cv_out9)] H (chv_out9::F)):∀ (k:Nat),∀ (a0:List TestReads) (Aa0:Option Addr) (ca0:Nat) (y2:trials_changes × Int) (g1:Nat) (ch1:Ch) (g2:Nat) (ch2:Ch) (g3:Nat) (ch3:Ch) (g4:Nat) (v_out9:List ByteArray) (Av_out9:Option Addr) (nv_out9:Nat) (cv_out9:Nat) (chv_out9:Ch) (v27:Int) ,Rw kTestReads H F Aa0 a0→a0.length≤ca0→MpOwn Value.string Kd.bool false H g1 y2.1.other ch1→MpOwn Value.string Kd.bool false H g2 y2.1.fresh ch2→MpOwn Value.string Kd.bool false H g3 y2.1.over ch3→SlOwn Kd.string 9 H Av_out9 cv_out9 v_out9 chv_out9→nv_out9=v_out9.length→trials_Affected.l2 e1 k a0 y2 v_out9 v27=some r→RunH C6 (S6 F H r) H w0 [.c [1,1,1,1,1,0,1,0,0],.l [1,1,1,1,1,0,1,0,0],.b 0,.c [1,1,1,1,1,1]] [(7,pg g4 0),(9,.slice Av_out9 nv_out9 cv_out9),(25,.slice Aa0 a0.length ca0),(26,iv (a0.length:Int)),(27,iv v27)] H (chv_out9::(some (g4,.cells #[.map (some g1),.map (some g2),.map (some g3)] 43 (0,0)))::ch1::ch2::ch3::F):=by
 intro k
 induction k with
 | zero=>intro a0 Aa0 ca0 y2 g1 ch1 g2 ch2 g3 ch3 g4 v_out9 Av_out9 nv_out9 cv_out9 chv_out9 v27 hra0 hca0 ho2 ho3 ho4 hov_out9 hnv_out9 heq; exact nomatch (show (none:Option ((List ByteArray) × Int))=some r from heq)
 | succ k ihk =>
  intro a0 Aa0 ca0 y2 g1 ch1 g2 ch2 g3 ch3 g4 v_out9 Av_out9 nv_out9 cv_out9 chv_out9 v27 hra0 hca0 ho2 ho3 ho4 hov_out9 hnv_out9 heq
  subst hnv_out9
  rw [trials_Affected.l2] at heq
  refine Ra 1 [1,1,1,1,1,0,1,0,0,0] [.c [1,1,1,1,1,0,1,0,0,1],.l [1,1,1,1,1,0,1,0,0],.b 0,.c [1,1,1,1,1,1]]<|Rd 1 [7,9,25,26,27,28] [(7,pg g4 0),(9,.slice Av_out9 v_out9.length cv_out9),(25,.slice Aa0 a0.length ca0),(26,iv (a0.length:Int)),(27,iv v27),(28,.bool (decide (v27<(a0.length:Int))))]<|Ad 1 [.c [1,1,1,1,1,0,1,0,0,1,0],.c [1,1,1,1,1,0,1,0,0,1,1],.l [1,1,1,1,1,0,1,0,0],.b 0,.c [1,1,1,1,1,1]] ?_
  rcases bool_cases (decide (v27<(a0.length:Int))) with hb3 | hb3
  ·replace heq:=bif_true hb3 heq
   refine Ct (decide (v27<(a0.length:Int))) hb3<|Ra 4 [1,1,1,1,1,0,1,0,0,1,1,0,0,0] [.c [1,1,1,1,1,0,1,0,0,1,1,0,0,1],.b 1,.c [1,1,1,1,1,0,1,0,0,1,1,1],.l [1,1,1,1,1,0,1,0,0],.b 0,.c [1,1,1,1,1,1]] ?_
   obtain ⟨x1,hx1,heq⟩:=bind_some heq
   obtain ⟨ha1,cs1,hK1,hcc1⟩:=hra0.get hx1
   obtain ⟨A1,c1,A2,c2,rfl,hc1,hr1,hc2,hr2⟩:=kTestReads_open hK1
   refine Rv 2 [7,9,25,26,27,30] [.string x1.Test,.slice A1 x1.Paths.length c1,.slice A2 x1.Looked.length c2] [.need (Aa0=some (adr Aa0)∧(0:Int)≤v27∧v27<((a0.length:Nat):Int)),.load (((adr Aa0).add (v27.toNat*3)).add 0) (.string x1.Test),.load (((adr Aa0).add (v27.toNat*3)).add 1) (.slice A1 x1.Paths.length c1),.load (((adr Aa0).add (v27.toNat*3)).add 2) (.slice A2 x1.Looked.length c2)] [(7,pg g4 0),(9,.slice Av_out9 v_out9.length cv_out9),(25,.slice Aa0 a0.length ca0),(26,iv (a0.length:Int)),(27,iv v27),(30,.agg #[.string x1.Test,.slice A1 x1.Paths.length c1,.slice A2 x1.Looked.length c2])] (fun w hh=>⟨⟨ha1,(at?_some hx1).1,(at?_some hx1).2.1⟩,(hcc1 _ _ (hh.drop 5) 0 _ rfl),(hcc1 _ _ (hh.drop 5) 1 _ rfl),(hcc1 _ _ (hh.drop 5) 2 _ rfl)⟩) ?_
   refine RgH.does (DoesH.new (d:=11) (v:=fun g=>.pointer (some ⟨g,0,none⟩)) (o:=fun g=>.cells #[.string ByteArray.empty,.slice none 0 0,.slice none 0 0] 39 (0,0)) (fun g=>by kernel_rfl)) ?_
   rintro _ _ _ _ ⟨g5,rfl,rfl,rfl⟩
   refine RgH.does (DoesH.store (k:=0) (g:=g5) (off:=0) (v:=.agg #[.string x1.Test,.slice A1 x1.Paths.length c1,.slice A2 x1.Looked.length c2]) (cells':=#[.string x1.Test,.slice A1 x1.Paths.length c1,.slice A2 x1.Looked.length c2]) (by kernel_rfl) rfl (by kernel_rfl) (by kernel_rfl)) ?_
   rintro _ _ _ _ ⟨rfl,rfl,rfl⟩
   refine Dn<|Ra 1 [1,1,1,1,1,0,1,0,0,1,1,0,0,1,0] [.c [1,1,1,1,1,0,1,0,0,1,1,0,0,1,1],.b 1,.c [1,1,1,1,1,0,1,0,0,1,1,1],.l [1,1,1,1,1,0,1,0,0],.b 0,.c [1,1,1,1,1,1]]<|Rv 2 [7,9,11,25,26,27,31,32] [.map (some g1),.map (some g2),.map (some g3),.string x1.Test,.slice A1 x1.Paths.length c1,.slice A2 x1.Looked.length c2] [.load ⟨g4,0,none⟩ (.map (some g1)),.load ⟨g4,1,none⟩ (.map (some g2)),.load ⟨g4,2,none⟩ (.map (some g3)),.load ⟨g5,0,none⟩ (.string x1.Test),.load ⟨g5,1,none⟩ (.slice A1 x1.Paths.length c1),.load ⟨g5,2,none⟩ (.slice A2 x1.Looked.length c2)] [(7,pg g4 0),(9,.slice Av_out9 v_out9.length cv_out9),(11,pg g5 0),(25,.slice Aa0 a0.length ca0),(26,iv (a0.length:Int)),(27,iv v27),(31,.agg #[.map (some g1),.map (some g2),.map (some g3)]),(32,.agg #[.string x1.Test,.slice A1 x1.Paths.length c1,.slice A2 x1.Looked.length c2])] (fun w hh=>⟨(hh.box 2 rfl rfl),(hh.box 2 rfl rfl),(hh.box 2 rfl rfl),(hh.box 0 rfl rfl),(hh.box 0 rfl rfl),(hh.box 0 rfl rfl)⟩) ?_
   obtain ⟨y3,hy3,heq⟩:=bind_some heq
   refine RgH.does (DoesH.call (d:=33) (g:=16) (args:=#[.agg #[.map (some g1),.map (some g2),.map (some g3)],.agg #[.string x1.Test,.slice A1 x1.Paths.length c1,.slice A2 x1.Looked.length c2]]) (by kernel_rfl) (trials_changes_affects_c (a0:=(⟨y2.1.other,y2.1.fresh,y2.1.over⟩:trials_changes)) (a1:=x1) (ho2.mw (.tail _ (.tail _ (.tail _ (.head _))))) (ho3.mw (.tail _ (.tail _ (.tail _ (.tail _ (.head _)))))) (ho4.mw (.tail _ (.tail _ (.tail _ (.tail _ (.tail _ (.head _))))))) (Rw.of hr1) hc1 rfl (Rw.of hr2) hc2 rfl hy3)) ?_
   rintro _ _ _ _ ⟨_,rfl,rfl,rfl,rfl⟩
   refine Dn ?_
   rcases bool_cases (y3) with hb4 | hb4
   ·replace heq:=bif_true hb4 heq
    refine Ct y3 hb4<|Rr<|Rv 3 [7,25,26,27,34,36] [.string x1.Test] [.load ⟨g5,0,none⟩ (.string x1.Test)] [(7,pg g4 0),(25,.slice Aa0 a0.length ca0),(26,iv (a0.length:Int)),(27,iv v27),(34,.slice Av_out9 v_out9.length cv_out9),(36,.string x1.Test)] (fun w hh=>(hh.box 0 rfl rfl)) ?_
    refine RgH.does (DoesH.new (d:=37) (v:=fun g=>.slice (some ⟨g,0,none⟩) 1 1) (o:=fun g=>.cells #[.string x1.Test] 9 (0,0)) (fun g=>by kernel_rfl)) ?_
    rintro _ _ _ _ ⟨g6,rfl,rfl,rfl⟩
    have ho6:SlOwn Kd.string 9 H (some ⟨g6,0,none⟩) 1 ([x1.Test]:List ByteArray) (some (g6,.cells #[.string x1.Test] 9 (0,0))):=SlOwn.lit (xs:=([x1.Test]:List ByteArray)) (by kernel_rfl) (Nat.le_of_ble_eq_true (by kernel_rfl)) (Kd.Rep.scalars rfl)
    obtain ⟨hn1,heq⟩:=guard?_some heq
    refine RgH.does (DoesH.append (d:=38) (k:=2) (t:=28) (e:=9) (bytes:=16) (kd:=Kd.string) (n:=v_out9.length) (m:=1) (xs:=v_out9) (ys:=([x1.Test]:List ByteArray)) (A:=Av_out9) (B:=(some ⟨g6,0,none⟩)) (c:=cv_out9) (cB:=1) (by kernel_rfl) rfl rfl (by kernel_rfl) rfl hov_out9 (fun w hh=>ho6.rdb (hh.chin 0 rfl)) (room_le hn1) (by have:=room_le hn1; omega)) ?_
    rintro _ _ _ _ ⟨A3,c3,ch4,rfl,rfl,rfl,ho7⟩
    refine Rd 6 [7,9,25,26,27] [(7,pg g4 0),(9,.slice A3 ((v_out9++([x1.Test]:List ByteArray)).length) c3),(25,.slice Aa0 a0.length ca0),(26,iv (a0.length:Int)),(27,iv v27)]<|Ad 1 [.c [1,1,1,1,1,0,1,0,0,1,1,1],.l [1,1,1,1,1,0,1,0,0],.b 0,.c [1,1,1,1,1,1]]<|Kp [7,9,25,26,27] [(7,pg g4 0),(9,.slice A3 ((v_out9++([x1.Test]:List ByteArray)).length) c3),(25,.slice Aa0 a0.length ca0),(26,iv (a0.length:Int)),(27,iv v27)] ?_
    refine RunH.pick 7 [2,3,4,5,6] (cs':=ch4::(some (g4,.cells #[.map (some g1),.map (some g2),.map (some g3)] 43 (0,0)))::ch1::ch2::ch3::F) (by kernel_rfl) rfl ?_
    exact (trials_Affected.j3_c (backl2:=(trials_Affected.l2 e1 k)) ihk) a0 _ _ y2 _ _ _ _ _ _ _ v27 (v_out9++([x1.Test]:List ByteArray)) _ _ _ _ hra0 hca0 ho2 ho3 ho4 ho7 rfl heq
   ·replace heq:=bif_false hb4 heq
    refine Cf y3 hb4<|Ad 2 [.c [1,1,1,1,1,0,1,0,0,1,1,1],.l [1,1,1,1,1,0,1,0,0],.b 0,.c [1,1,1,1,1,1]]<|Kp [7,9,25,26,27] [(7,pg g4 0),(9,.slice Av_out9 v_out9.length cv_out9),(25,.slice Aa0 a0.length ca0),(26,iv (a0.length:Int)),(27,iv v27)] ?_
    refine RunH.pick 6 [1,2,3,4,5] (cs':=chv_out9::(some (g4,.cells #[.map (some g1),.map (some g2),.map (some g3)] 43 (0,0)))::ch1::ch2::ch3::F) (by kernel_rfl) rfl ?_
    exact (trials_Affected.j3_c (backl2:=(trials_Affected.l2 e1 k)) ihk) a0 _ _ y2 _ _ _ _ _ _ _ v27 v_out9 _ _ _ _ hra0 hca0 ho2 ho3 ho4 hov_out9 rfl heq
  ·replace heq:=bif_false hb3 heq
   refine Cf (decide (v27<(a0.length:Int))) hb3<|Ad 2 [.c [1,1,1,1,1,1,0],.c [1,1,1,1,1,1,1]]<|Kp [9] [(9,.slice Av_out9 v_out9.length cv_out9)] ?_
   refine RunH.pick 5 [0] (cs':=chv_out9::F) (by kernel_rfl) rfl ?_
   exact he1 v_out9 _ _ _ _ hov_out9 rfl heq
theorem trials_Affected_c {w0:World} [GlobI 0 w0] {H:Hp} {F:List Ch} {a0:List TestReads} {Aa0:Option Addr} {na0:Nat} {ca0:Nat} {a1:List TreeChange} {Aa1:Option Addr} {na1:Nat} {ca1:Nat} {r:(List ByteArray) × Int} (hra0:Rw kTestReads H F Aa0 a0) (hca0:na0≤ca0) (hna0:na0=a0.length) (hra1:Rw kTreeChange H F Aa1 a1) (hca1:na1≤ca1) (hna1:na1=a1.length) (heq:trials_Affected.f a0 a1=some r):CallsH Tryd.prog 6 #[.slice Aa0 na0 ca0,.slice Aa1 na1 ca1] H w0 (F) (S6 F H r):=by
 refine calls_of_runH (F:=C6) Tryd.func6 (by kernel_rfl) Tryd.ntmps6 (args:=[.slice Aa0 na0 ca0,.slice Aa1 na1 ca1]) (by kernel_rfl) ?_
 subst hna0
 subst hna1
 unfold trials_Affected.f at heq
 refine Ra 1 [0] [.c [1]]<|Rd 2 [0,1] [(0,.slice Aa0 a0.length ca0),(1,.slice Aa1 a1.length ca1)]<|Ra 2 [1,0,0] [.c [1,0,1],.c [1,1]]<|Rk 1 [0,1,12] [(0,.slice Aa0 a0.length ca0),(1,.slice Aa1 a1.length ca1),(12,.slice Aa0 a0.length ca0)] ?_
 obtain ⟨y1,hy1,heq⟩:=bind_some heq
 refine RgH.does (DoesH.call (d:=13) (g:=8) (args:=#[.slice Aa0 a0.length ca0]) (by kernel_rfl) (trials_CheckReads_c (a0:=a0) hra0 hca0 rfl hy1)) ?_
 rintro _ _ _ _ ⟨_,rfl,rfl,rfl,rfl⟩
 refine Rd 3 [0,1,6] [(0,.slice Aa0 a0.length ca0),(1,.slice Aa1 a1.length ca1),(6,iv y1)]<|Ra 1 [1,0,1,0] [.c [1,0,1,1],.c [1,1]]<|Rd 2 [0,1,6,15] [(0,.slice Aa0 a0.length ca0),(1,.slice Aa1 a1.length ca1),(6,iv y1),(15,.bool (y1 != 0))] ?_
 rcases bool_cases (y1 != 0) with hb1 | hb1
 ·replace heq:=bif_true hb1 heq
  refine Ct (y1 != 0) hb1<|Ra 1 [1,0,1,1,0,0] [.c [1,0,1,1,0,1],.c [1,1]]<|Rd 3 [4,5] [(4,.slice none 0 0),(5,iv y1)]<|RunH.nilc ?_
  have ho1:SlOwn Kd.string 9 H none 0 ([]:List ByteArray) none:=SlOwn.nil
  obtain rfl:=Option.some.inj heq
  exact RunH.done (by kernel_rfl) Tryd.func6 (v:=.tuple #[.slice none 0 0,iv y1]) (by kernel_rfl) ⟨none,0,none,rfl,rfl,rfl,ho1⟩
 ·replace heq:=bif_false hb1 heq
  refine Cf (y1 != 0) hb1<|Ra 2 [1,1,0] [.c [1,1,1]]<|Rk 1 [0,18] [(0,.slice Aa0 a0.length ca0),(18,.slice Aa1 a1.length ca1)] ?_
  obtain ⟨y2,hy2,heq⟩:=bind_some heq
  refine RgH.does (DoesH.call (d:=19) (g:=15) (args:=#[.slice Aa1 a1.length ca1]) (by kernel_rfl) (trials_changesOf_c (a0:=a1) hra1 hca1 rfl hy2)) ?_
  rintro _ _ _ _ ⟨_,rfl,g1,ch1,g2,ch2,g3,ch3,rfl,rfl,rfl,ho2,ho3,ho4⟩
  refine Rk 5 [0,20,21] [(0,.slice Aa0 a0.length ca0),(20,.agg #[.map (some g1),.map (some g2),.map (some g3)]),(21,iv y2.2)] ?_
  refine RgH.does (DoesH.new (d:=7) (v:=fun g=>.pointer (some ⟨g,0,none⟩)) (o:=fun g=>.cells #[.map none,.map none,.map none] 43 (0,0)) (fun g=>by kernel_rfl)) ?_
  rintro _ _ _ _ ⟨g4,rfl,rfl,rfl⟩
  refine RgH.does (DoesH.store (k:=0) (g:=g4) (off:=0) (v:=.agg #[.map (some g1),.map (some g2),.map (some g3)]) (cells':=#[.map (some g1),.map (some g2),.map (some g3)]) (by kernel_rfl) rfl (by kernel_rfl) (by kernel_rfl)) ?_
  rintro _ _ _ _ ⟨rfl,rfl,rfl⟩
  refine Rd 8 [0,7,8] [(0,.slice Aa0 a0.length ca0),(7,pg g4 0),(8,iv y2.2)]<|Ra 2 [1,1,1,0,0] [.c [1,1,1,0,1],.c [1,1,1,1]]<|Rd 2 [0,7,8,23] [(0,.slice Aa0 a0.length ca0),(7,pg g4 0),(8,iv y2.2),(23,.bool (y2.2 != 0))] ?_
  rcases bool_cases (y2.2 != 0) with hb2 | hb2
  ·replace heq:=bif_true hb2 heq
   refine Ct (y2.2 != 0) hb2<|Ra 1 [1,1,1,0,1,0,0] [.c [1,1,1,0,1,0,1],.c [1,1,1,1]]<|Rd 3 [4,5] [(4,.slice none 0 0),(5,iv y2.2)]<|RunH.nilc ?_
   have ho5:SlOwn Kd.string 9 H none 0 ([]:List ByteArray) none:=SlOwn.nil
   obtain rfl:=Option.some.inj heq
   refine RunH.pick 5 [0] (cs':=none::F) (by kernel_rfl) rfl ?_
   exact RunH.done (by kernel_rfl) Tryd.func6 (v:=.tuple #[.slice none 0 0,iv y2.2]) (by kernel_rfl) ⟨none,0,none,rfl,rfl,rfl,ho5⟩
  ·replace heq:=bif_false hb2 heq
   refine Cf (y2.2 != 0) hb2<|Ra 2 [1,1,1,1,0] [.c [1,1,1,1,1]]<|Rd 1 [0,7,9] [(0,.slice Aa0 a0.length ca0),(7,pg g4 0),(9,.slice none 0 0)]<|Ra 2 [1,1,1,1,1,0,0] [.c [1,1,1,1,1,0,1],.c [1,1,1,1,1,1]]<|Rd 3 [7,9,25,26,27] [(7,pg g4 0),(9,.slice none 0 0),(25,.slice Aa0 a0.length ca0),(26,iv (a0.length:Int)),(27,iv 0)]<|Ad 2 [.c [1,1,1,1,1,0,1,0,0],.l [1,1,1,1,1,0,1,0,0],.b 0,.c [1,1,1,1,1,1]]<|RunH.nilc ?_
   have ho8:SlOwn Kd.string 9 H none 0 ([]:List ByteArray) none:=SlOwn.nil
   refine Kp [7,9,25,26,27] [(7,pg g4 0),(9,.slice none 0 0),(25,.slice Aa0 a0.length ca0),(26,iv (a0.length:Int)),(27,iv 0)] ?_
   exact ((trials_Affected.l2_c (e1:=trials_Affected.e1) (trials_Affected.e1_c)) big) a0 _ _ y2 _ _ _ _ _ _ _ ([]:List ByteArray) _ _ _ _ 0 hra0 hca0 ho2 ho3 ho4 ho8 rfl heq
noncomputable def C33:Ctx:={ P:=Tryd.prog,f:=33,N:=15,c:=bodyOf Tryd.f33 }
def S33 (F:List Ch) (H0:Hp) (r:Bool) (v:Value) (H:Hp) (cs:List Ch):Prop:=H0=H∧v=.bool r∧F=cs
theorem smithyardref10_within_c {w0:World} [GlobI 0 w0] {H:Hp} {F:List Ch} {a0:Int} {a1:Int} {a2:Int} {r:Bool} (heq:smithyardref10_within.f a0 a1 a2=some r):CallsH Tryd.prog 33 #[iv a0,iv a1,iv a2] H w0 (F) (S33 F H r):=by
 refine calls_of_runH (F:=C33) Tryd.func33 (by kernel_rfl) Tryd.ntmps33 (args:=[iv a0,iv a1,iv a2]) (by kernel_rfl) ?_
 unfold smithyardref10_within.f at heq
 refine Ra 1 [0] [.c [1]]<|Rd 1 [0,1,2] [(0,iv a0),(1,iv a1),(2,iv a2)]<|Ad 1 [.c [1,0],.c [1,1]] ?_
 obtain ⟨t1,ht1,heq⟩:=bind_some heq
 have K1:RunH C33 (S33 F H r) H w0 [.c [1,1]] [(6,.bool t1)] H (F):=by
  obtain rfl:=Option.some.inj heq
  exact RunH.done (by kernel_rfl) Tryd.func33 (v:=.bool t1) (by kernel_rfl) ⟨rfl,rfl,rfl⟩
 replace heq:=ht1
 refine Rr<|Rk 4 [10,0,2] [(10,.bool (decide (a1≤a0))),(0,iv a0),(2,iv a2)] ?_
 rcases bool_cases (decide (a1≤a0)) with hb1 | hb1
 ·replace heq:=bif_true hb1 heq
  refine RgH.val1 (v':=.bool true) (congrArg Value.bool hb1) ?_
  refine Rk 9 [6] [(6,.bool (decide (a0≤a2)))] ?_
  obtain rfl:=Option.some.inj heq
  refine Kg [6] [(6,.bool (decide (a0≤a2)))]<|Dn ?_
  exact K1
 ·replace heq:=bif_false hb1 heq
  refine RgH.val1 (v':=.bool false) (congrArg Value.bool hb1) ?_
  refine Rk 9 [6] [(6,.bool false)] ?_
  obtain rfl:=Option.some.inj heq
  refine Kg [6] [(6,.bool false)]<|Dn ?_
  exact K1
noncomputable def C40:Ctx:={ P:=Tryd.prog,f:=40,N:=51,c:=bodyOf Tryd.f40 }
def S40 (F:List Ch) (H0:Hp) (r:Bool) (v:Value) (H:Hp) (cs:List Ch):Prop:=H0=H∧v=.bool r∧F=cs
theorem smithyardref10_isPart.e1_c {w0:World} [GlobI 0 w0] {H:Hp} {F:List Ch} {r:Bool}:∀ (a0:ByteArray) ,smithyardref10_isPart.e1 a0=some r→RunH C40 (S40 F H r) H w0 [.c [1,1,0],.c [1,1,1]] [(0,.string a0)] H (F):=by
 intro a0  heq
 unfold smithyardref10_isPart.e1 at heq
 obtain ⟨t1,ht1,heq⟩:=bind_some heq
 have K1:RunH C40 (S40 F H r) H w0 [.c [1,1,1]] [(2,.bool t1)] H (F):=by
  obtain rfl:=Option.some.inj heq
  exact RunH.done (by kernel_rfl) Tryd.func40 (v:=.bool t1) (by kernel_rfl) ⟨rfl,rfl,rfl⟩
 replace heq:=ht1
 refine Rr<|Rk 3 [43,0] [(43,.bool (!sEq a0 ({ data:=#[] }:ByteArray))),(0,.string a0)] ?_
 rcases bool_cases (!sEq a0 ({ data:=#[] }:ByteArray)) with hb1 | hb1
 ·replace heq:=bif_true hb1 heq
  refine RgH.val1 (v':=.bool true) (congrArg Value.bool hb1) ?_
  refine Rk 7 [47,0] [(47,.bool (!sEq a0 ({ data:=#[46] }:ByteArray))),(0,.string a0)] ?_
  rcases bool_cases (!sEq a0 ({ data:=#[46] }:ByteArray)) with hb2 | hb2
  ·replace heq:=bif_true hb2 heq
   refine RgH.val1 (v':=.bool true) (congrArg Value.bool hb2) ?_
   refine Rk 11 [2] [(2,.bool (!sEq a0 ({ data:=#[46,46] }:ByteArray)))] ?_
   obtain rfl:=Option.some.inj heq
   refine Kg [2] [(2,.bool (!sEq a0 ({ data:=#[46,46] }:ByteArray)))]<|Dn ?_
   exact K1
  ·replace heq:=bif_false hb2 heq
   refine RgH.val1 (v':=.bool false) (congrArg Value.bool hb2) ?_
   refine Rk 11 [2] [(2,.bool false)] ?_
   obtain rfl:=Option.some.inj heq
   refine Kg [2] [(2,.bool false)]<|Dn ?_
   exact K1
 ·replace heq:=bif_false hb1 heq
  refine RgH.val1 (v':=.bool false) (congrArg Value.bool hb1) ?_
  refine Rk 11 [2] [(2,.bool false)] ?_
  obtain rfl:=Option.some.inj heq
  refine Kg [2] [(2,.bool false)]<|Dn ?_
  exact K1
theorem smithyardref10_isPart.l2_c {w0:World} [GlobI 0 w0] {H:Hp} {F:List Ch} {r:Bool} (e1:ByteArray→Option Bool)
  (he1:∀ (a0:ByteArray) ,e1 a0=some r→RunH C40 (S40 F H r) H w0 [.c [1,1,0],.c [1,1,1]] [(0,.string a0)] H (F)):∀ (k:Nat),∀ (a0:ByteArray) (v7:Int) ,smithyardref10_isPart.l2 e1 k a0 v7=some r→RunH C40 (S40 F H r) H w0 [.c [1,0,1,0,0],.l [1,0,1,0,0],.b 0,.c [1,1]] [(0,.string a0),(6,iv (a0.size:Int)),(7,iv v7)] H (F):=by
 intro k
 induction k with
 | zero=>intro a0 v7  heq; exact nomatch (show (none:Option Bool)=some r from heq)
 | succ k ihk =>
  intro a0 v7  heq
  rw [smithyardref10_isPart.l2] at heq
  refine Ra 1 [1,0,1,0,0,0] [.c [1,0,1,0,0,1],.l [1,0,1,0,0],.b 0,.c [1,1]]<|Rd 1 [0,6,7,8] [(0,.string a0),(6,iv (a0.size:Int)),(7,iv v7),(8,.bool (decide (v7<(a0.size:Int))))]<|Ad 1 [.c [1,0,1,0,0,1,0],.c [1,0,1,0,0,1,1],.l [1,0,1,0,0],.b 0,.c [1,1]] ?_
  rcases bool_cases (decide (v7<(a0.size:Int))) with hb3 | hb3
  ·replace heq:=bif_true hb3 heq
   refine Ct (decide (v7<(a0.size:Int))) hb3<|Ra 4 [1,0,1,0,0,1,1,0,0,0] [.c [1,0,1,0,0,1,1,0,0,1],.b 1,.c [1,0,1,0,0,1,1,1],.l [1,0,1,0,0],.b 0,.c [1,1]]<|Rd 2 [0,3,6,7] [(0,.string a0),(3,iv v7),(6,iv (a0.size:Int)),(7,iv v7)]<|Ra 1 [1,0,1,0,0,1,1,0,0,1,0] [.c [1,0,1,0,0,1,1,0,0,1,1],.b 1,.c [1,0,1,0,0,1,1,1],.l [1,0,1,0,0],.b 0,.c [1,1]] ?_
   obtain ⟨hn1,heq⟩:=guard?_some heq
   refine Rw' 4 [0,4,6,7] [] [.need ((0:Int)≤v7∧v7<(a0.size:Int))] [(0,.string a0),(4,.int .u8 (bt a0 v7)),(6,iv (a0.size:Int)),(7,iv v7)] (fun w hh=>(both_of hn1))<|Ad 1 [.c [1,0,1,0,0,1,1,0,0,1,1,0],.c [1,0,1,0,0,1,1,0,0,1,1,1],.b 1,.c [1,0,1,0,0,1,1,1],.l [1,0,1,0,0],.b 0,.c [1,1]] ?_
   obtain ⟨t2,ht2,heq⟩:=bind_some heq
   have K2:RunH C40 (S40 F H r) H w0 [.c [1,0,1,0,0,1,1,0,0,1,1,1],.b 1,.c [1,0,1,0,0,1,1,1],.l [1,0,1,0,0],.b 0,.c [1,1]] [(0,.string a0),(6,iv (a0.size:Int)),(7,iv v7),(39,.bool t2)] H (F):=by
    rcases bool_cases (t2) with hb18 | hb18
    ·replace heq:=bif_true hb18 heq
     refine Ct t2 hb18<|Ra 1 [1,0,1,0,0,1,1,0,0,1,1,1,0,0] [.c [1,0,1,0,0,1,1,0,0,1,1,1,0,1],.b 1,.c [1,0,1,0,0,1,1,1],.l [1,0,1,0,0],.b 0,.c [1,1]]<|Rd 1 [2] [(2,.bool false)] ?_
     obtain rfl:=Option.some.inj heq
     exact RunH.done (by kernel_rfl) Tryd.func40 (v:=.bool false) (by kernel_rfl) ⟨rfl,rfl,rfl⟩
    ·replace heq:=bif_false hb18 heq
     refine Cf t2 hb18<|Ra 2 [1,0,1,0,0,1,1,1] [.l [1,0,1,0,0],.b 0,.c [1,1]]<|Rd 2 [0,6,7] [(0,.string a0),(6,iv (a0.size:Int)),(7,iv (w64 (v7+1)))]<|Ad 1 [.c [1,0,1,0,0],.l [1,0,1,0,0],.b 0,.c [1,1]]<|Kp [0,6,7] [(0,.string a0),(6,iv (a0.size:Int)),(7,iv (w64 (v7+1)))] ?_
     exact ihk a0 (w64 (v7+1)) heq
   replace heq:=ht2
   refine Rr<|Rk 3 [15,0,4,6,7] [(15,.bool (decide ((bt a0 v7)<97))),(0,.string a0),(4,.int .u8 (bt a0 v7)),(6,iv (a0.size:Int)),(7,iv v7)] ?_
   rcases bool_cases (decide ((bt a0 v7)<97)) with hb4 | hb4
   ·replace heq:=bif_true hb4 heq
    refine RgH.val1 (v':=.bool true) (congrArg Value.bool hb4) ?_
    refine Rk 10 [22,0,4,6,7,19] [(22,.bool (decide ((bt a0 v7)<65))),(0,.string a0),(4,.int .u8 (bt a0 v7)),(6,iv (a0.size:Int)),(7,iv v7),(19,.bool true)] ?_
    rcases bool_cases (decide ((bt a0 v7)<65)) with hb5 | hb5
    ·replace heq:=bif_true hb5 heq
     refine RgH.val1 (v':=.bool true) (congrArg Value.bool hb5) ?_
     refine Rk 18 [30,0,4,6,7,27] [(30,.bool (decide ((bt a0 v7)<48))),(0,.string a0),(4,.int .u8 (bt a0 v7)),(6,iv (a0.size:Int)),(7,iv v7),(27,.bool true)] ?_
     rcases bool_cases (decide ((bt a0 v7)<48)) with hb6 | hb6
     ·replace heq:=bif_true hb6 heq
      refine RgH.val1 (v':=.bool true) (congrArg Value.bool hb6) ?_
      refine Rk 24 [0,6,7,35,36] [(0,.string a0),(6,iv (a0.size:Int)),(7,iv v7),(35,.bool true),(36,.int .u8 (bt a0 v7))] ?_
      obtain ⟨y1,hy1,heq⟩:=bind_some heq
      refine RgH.does (DoesH.call (d:=37) (g:=46) (args:=#[.string ({ data:=#[46,95,45,43] }:ByteArray),.int .u8 (bt a0 v7)]) (by kernel_rfl) (strings_IndexByte_c (a0:=({ data:=#[46,95,45,43] }:ByteArray)) (a1:=bt a0 v7)  hy1)) ?_
      rintro _ _ _ _ ⟨_,rfl,rfl,rfl,rfl⟩
      refine Rk 27 [0,6,7,39] [(0,.string a0),(6,iv (a0.size:Int)),(7,iv v7),(39,.bool (decide (y1<0)))] ?_
      obtain rfl:=Option.some.inj heq
      refine Kg [0,6,7,39] [(0,.string a0),(6,iv (a0.size:Int)),(7,iv v7),(39,.bool (decide (y1<0)))]<|Dn ?_
      exact K2
     ·replace heq:=bif_false hb6 heq
      refine RgH.val1 (v':=.bool false) (congrArg Value.bool hb6) ?_
      refine Rk 23 [35,0,4,6,7] [(35,.bool (decide (57<(bt a0 v7)))),(0,.string a0),(4,.int .u8 (bt a0 v7)),(6,iv (a0.size:Int)),(7,iv v7)] ?_
      rcases bool_cases (decide (57<(bt a0 v7))) with hb7 | hb7
      ·replace heq:=bif_true hb7 heq
       refine RgH.val1 (v':=.bool true) (congrArg Value.bool hb7) ?_
       refine Rk 24 [0,6,7,35,36] [(0,.string a0),(6,iv (a0.size:Int)),(7,iv v7),(35,.bool true),(36,.int .u8 (bt a0 v7))] ?_
       obtain ⟨y2,hy2,heq⟩:=bind_some heq
       refine RgH.does (DoesH.call (d:=37) (g:=46) (args:=#[.string ({ data:=#[46,95,45,43] }:ByteArray),.int .u8 (bt a0 v7)]) (by kernel_rfl) (strings_IndexByte_c (a0:=({ data:=#[46,95,45,43] }:ByteArray)) (a1:=bt a0 v7)  hy2)) ?_
       rintro _ _ _ _ ⟨_,rfl,rfl,rfl,rfl⟩
       refine Rk 27 [0,6,7,39] [(0,.string a0),(6,iv (a0.size:Int)),(7,iv v7),(39,.bool (decide (y2<0)))] ?_
       obtain rfl:=Option.some.inj heq
       refine Kg [0,6,7,39] [(0,.string a0),(6,iv (a0.size:Int)),(7,iv v7),(39,.bool (decide (y2<0)))]<|Dn ?_
       exact K2
      ·replace heq:=bif_false hb7 heq
       refine RgH.val1 (v':=.bool false) (congrArg Value.bool hb7) ?_
       refine Rk 27 [0,6,7,39] [(0,.string a0),(6,iv (a0.size:Int)),(7,iv v7),(39,.bool false)] ?_
       obtain rfl:=Option.some.inj heq
       refine Kg [0,6,7,39] [(0,.string a0),(6,iv (a0.size:Int)),(7,iv v7),(39,.bool false)]<|Dn ?_
       exact K2
    ·replace heq:=bif_false hb5 heq
     refine RgH.val1 (v':=.bool false) (congrArg Value.bool hb5) ?_
     refine Rk 15 [27,0,4,6,7] [(27,.bool (decide (90<(bt a0 v7)))),(0,.string a0),(4,.int .u8 (bt a0 v7)),(6,iv (a0.size:Int)),(7,iv v7)] ?_
     rcases bool_cases (decide (90<(bt a0 v7))) with hb8 | hb8
     ·replace heq:=bif_true hb8 heq
      refine RgH.val1 (v':=.bool true) (congrArg Value.bool hb8) ?_
      refine Rk 18 [30,0,4,6,7,27] [(30,.bool (decide ((bt a0 v7)<48))),(0,.string a0),(4,.int .u8 (bt a0 v7)),(6,iv (a0.size:Int)),(7,iv v7),(27,.bool true)] ?_
      rcases bool_cases (decide ((bt a0 v7)<48)) with hb9 | hb9
      ·replace heq:=bif_true hb9 heq
       refine RgH.val1 (v':=.bool true) (congrArg Value.bool hb9) ?_
       refine Rk 24 [0,6,7,35,36] [(0,.string a0),(6,iv (a0.size:Int)),(7,iv v7),(35,.bool true),(36,.int .u8 (bt a0 v7))] ?_
       obtain ⟨y3,hy3,heq⟩:=bind_some heq
       refine RgH.does (DoesH.call (d:=37) (g:=46) (args:=#[.string ({ data:=#[46,95,45,43] }:ByteArray),.int .u8 (bt a0 v7)]) (by kernel_rfl) (strings_IndexByte_c (a0:=({ data:=#[46,95,45,43] }:ByteArray)) (a1:=bt a0 v7)  hy3)) ?_
       rintro _ _ _ _ ⟨_,rfl,rfl,rfl,rfl⟩
       refine Rk 27 [0,6,7,39] [(0,.string a0),(6,iv (a0.size:Int)),(7,iv v7),(39,.bool (decide (y3<0)))] ?_
       obtain rfl:=Option.some.inj heq
       refine Kg [0,6,7,39] [(0,.string a0),(6,iv (a0.size:Int)),(7,iv v7),(39,.bool (decide (y3<0)))]<|Dn ?_
       exact K2
      ·replace heq:=bif_false hb9 heq
       refine RgH.val1 (v':=.bool false) (congrArg Value.bool hb9) ?_
       refine Rk 23 [35,0,4,6,7] [(35,.bool (decide (57<(bt a0 v7)))),(0,.string a0),(4,.int .u8 (bt a0 v7)),(6,iv (a0.size:Int)),(7,iv v7)] ?_
       rcases bool_cases (decide (57<(bt a0 v7))) with hb10 | hb10
       ·replace heq:=bif_true hb10 heq
        refine RgH.val1 (v':=.bool true) (congrArg Value.bool hb10) ?_
        refine Rk 24 [0,6,7,35,36] [(0,.string a0),(6,iv (a0.size:Int)),(7,iv v7),(35,.bool true),(36,.int .u8 (bt a0 v7))] ?_
        obtain ⟨y4,hy4,heq⟩:=bind_some heq
        refine RgH.does (DoesH.call (d:=37) (g:=46) (args:=#[.string ({ data:=#[46,95,45,43] }:ByteArray),.int .u8 (bt a0 v7)]) (by kernel_rfl) (strings_IndexByte_c (a0:=({ data:=#[46,95,45,43] }:ByteArray)) (a1:=bt a0 v7)  hy4)) ?_
        rintro _ _ _ _ ⟨_,rfl,rfl,rfl,rfl⟩
        refine Rk 27 [0,6,7,39] [(0,.string a0),(6,iv (a0.size:Int)),(7,iv v7),(39,.bool (decide (y4<0)))] ?_
        obtain rfl:=Option.some.inj heq
        refine Kg [0,6,7,39] [(0,.string a0),(6,iv (a0.size:Int)),(7,iv v7),(39,.bool (decide (y4<0)))]<|Dn ?_
        exact K2
       ·replace heq:=bif_false hb10 heq
        refine RgH.val1 (v':=.bool false) (congrArg Value.bool hb10) ?_
        refine Rk 27 [0,6,7,39] [(0,.string a0),(6,iv (a0.size:Int)),(7,iv v7),(39,.bool false)] ?_
        obtain rfl:=Option.some.inj heq
        refine Kg [0,6,7,39] [(0,.string a0),(6,iv (a0.size:Int)),(7,iv v7),(39,.bool false)]<|Dn ?_
        exact K2
     ·replace heq:=bif_false hb8 heq
      refine RgH.val1 (v':=.bool false) (congrArg Value.bool hb8) ?_
      refine Rk 27 [0,6,7,39] [(0,.string a0),(6,iv (a0.size:Int)),(7,iv v7),(39,.bool false)] ?_
      obtain rfl:=Option.some.inj heq
      refine Kg [0,6,7,39] [(0,.string a0),(6,iv (a0.size:Int)),(7,iv v7),(39,.bool false)]<|Dn ?_
      exact K2
   ·replace heq:=bif_false hb4 heq
    refine RgH.val1 (v':=.bool false) (congrArg Value.bool hb4) ?_
    refine Rk 7 [19,0,4,6,7] [(19,.bool (decide (122<(bt a0 v7)))),(0,.string a0),(4,.int .u8 (bt a0 v7)),(6,iv (a0.size:Int)),(7,iv v7)] ?_
    rcases bool_cases (decide (122<(bt a0 v7))) with hb11 | hb11
    ·replace heq:=bif_true hb11 heq
     refine RgH.val1 (v':=.bool true) (congrArg Value.bool hb11) ?_
     refine Rk 10 [22,0,4,6,7,19] [(22,.bool (decide ((bt a0 v7)<65))),(0,.string a0),(4,.int .u8 (bt a0 v7)),(6,iv (a0.size:Int)),(7,iv v7),(19,.bool true)] ?_
     rcases bool_cases (decide ((bt a0 v7)<65)) with hb12 | hb12
     ·replace heq:=bif_true hb12 heq
      refine RgH.val1 (v':=.bool true) (congrArg Value.bool hb12) ?_
      refine Rk 18 [30,0,4,6,7,27] [(30,.bool (decide ((bt a0 v7)<48))),(0,.string a0),(4,.int .u8 (bt a0 v7)),(6,iv (a0.size:Int)),(7,iv v7),(27,.bool true)] ?_
      rcases bool_cases (decide ((bt a0 v7)<48)) with hb13 | hb13
      ·replace heq:=bif_true hb13 heq
       refine RgH.val1 (v':=.bool true) (congrArg Value.bool hb13) ?_
       refine Rk 24 [0,6,7,35,36] [(0,.string a0),(6,iv (a0.size:Int)),(7,iv v7),(35,.bool true),(36,.int .u8 (bt a0 v7))] ?_
       obtain ⟨y5,hy5,heq⟩:=bind_some heq
       refine RgH.does (DoesH.call (d:=37) (g:=46) (args:=#[.string ({ data:=#[46,95,45,43] }:ByteArray),.int .u8 (bt a0 v7)]) (by kernel_rfl) (strings_IndexByte_c (a0:=({ data:=#[46,95,45,43] }:ByteArray)) (a1:=bt a0 v7)  hy5)) ?_
       rintro _ _ _ _ ⟨_,rfl,rfl,rfl,rfl⟩
       refine Rk 27 [0,6,7,39] [(0,.string a0),(6,iv (a0.size:Int)),(7,iv v7),(39,.bool (decide (y5<0)))] ?_
       obtain rfl:=Option.some.inj heq
       refine Kg [0,6,7,39] [(0,.string a0),(6,iv (a0.size:Int)),(7,iv v7),(39,.bool (decide (y5<0)))]<|Dn ?_
       exact K2
      ·replace heq:=bif_false hb13 heq
       refine RgH.val1 (v':=.bool false) (congrArg Value.bool hb13) ?_
       refine Rk 23 [35,0,4,6,7] [(35,.bool (decide (57<(bt a0 v7)))),(0,.string a0),(4,.int .u8 (bt a0 v7)),(6,iv (a0.size:Int)),(7,iv v7)] ?_
       rcases bool_cases (decide (57<(bt a0 v7))) with hb14 | hb14
       ·replace heq:=bif_true hb14 heq
        refine RgH.val1 (v':=.bool true) (congrArg Value.bool hb14) ?_
        refine Rk 24 [0,6,7,35,36] [(0,.string a0),(6,iv (a0.size:Int)),(7,iv v7),(35,.bool true),(36,.int .u8 (bt a0 v7))] ?_
        obtain ⟨y6,hy6,heq⟩:=bind_some heq
        refine RgH.does (DoesH.call (d:=37) (g:=46) (args:=#[.string ({ data:=#[46,95,45,43] }:ByteArray),.int .u8 (bt a0 v7)]) (by kernel_rfl) (strings_IndexByte_c (a0:=({ data:=#[46,95,45,43] }:ByteArray)) (a1:=bt a0 v7)  hy6)) ?_
        rintro _ _ _ _ ⟨_,rfl,rfl,rfl,rfl⟩
        refine Rk 27 [0,6,7,39] [(0,.string a0),(6,iv (a0.size:Int)),(7,iv v7),(39,.bool (decide (y6<0)))] ?_
        obtain rfl:=Option.some.inj heq
        refine Kg [0,6,7,39] [(0,.string a0),(6,iv (a0.size:Int)),(7,iv v7),(39,.bool (decide (y6<0)))]<|Dn ?_
        exact K2
       ·replace heq:=bif_false hb14 heq
        refine RgH.val1 (v':=.bool false) (congrArg Value.bool hb14) ?_
        refine Rk 27 [0,6,7,39] [(0,.string a0),(6,iv (a0.size:Int)),(7,iv v7),(39,.bool false)] ?_
        obtain rfl:=Option.some.inj heq
        refine Kg [0,6,7,39] [(0,.string a0),(6,iv (a0.size:Int)),(7,iv v7),(39,.bool false)]<|Dn ?_
        exact K2
     ·replace heq:=bif_false hb12 heq
      refine RgH.val1 (v':=.bool false) (congrArg Value.bool hb12) ?_
      refine Rk 15 [27,0,4,6,7] [(27,.bool (decide (90<(bt a0 v7)))),(0,.string a0),(4,.int .u8 (bt a0 v7)),(6,iv (a0.size:Int)),(7,iv v7)] ?_
      rcases bool_cases (decide (90<(bt a0 v7))) with hb15 | hb15
      ·replace heq:=bif_true hb15 heq
       refine RgH.val1 (v':=.bool true) (congrArg Value.bool hb15) ?_
       refine Rk 18 [30,0,4,6,7,27] [(30,.bool (decide ((bt a0 v7)<48))),(0,.string a0),(4,.int .u8 (bt a0 v7)),(6,iv (a0.size:Int)),(7,iv v7),(27,.bool true)] ?_
       rcases bool_cases (decide ((bt a0 v7)<48)) with hb16 | hb16
       ·replace heq:=bif_true hb16 heq
        refine RgH.val1 (v':=.bool true) (congrArg Value.bool hb16) ?_
        refine Rk 24 [0,6,7,35,36] [(0,.string a0),(6,iv (a0.size:Int)),(7,iv v7),(35,.bool true),(36,.int .u8 (bt a0 v7))] ?_
        obtain ⟨y7,hy7,heq⟩:=bind_some heq
        refine RgH.does (DoesH.call (d:=37) (g:=46) (args:=#[.string ({ data:=#[46,95,45,43] }:ByteArray),.int .u8 (bt a0 v7)]) (by kernel_rfl) (strings_IndexByte_c (a0:=({ data:=#[46,95,45,43] }:ByteArray)) (a1:=bt a0 v7)  hy7)) ?_
        rintro _ _ _ _ ⟨_,rfl,rfl,rfl,rfl⟩
        refine Rk 27 [0,6,7,39] [(0,.string a0),(6,iv (a0.size:Int)),(7,iv v7),(39,.bool (decide (y7<0)))] ?_
        obtain rfl:=Option.some.inj heq
        refine Kg [0,6,7,39] [(0,.string a0),(6,iv (a0.size:Int)),(7,iv v7),(39,.bool (decide (y7<0)))]<|Dn ?_
        exact K2
       ·replace heq:=bif_false hb16 heq
        refine RgH.val1 (v':=.bool false) (congrArg Value.bool hb16) ?_
        refine Rk 23 [35,0,4,6,7] [(35,.bool (decide (57<(bt a0 v7)))),(0,.string a0),(4,.int .u8 (bt a0 v7)),(6,iv (a0.size:Int)),(7,iv v7)] ?_
        rcases bool_cases (decide (57<(bt a0 v7))) with hb17 | hb17
        ·replace heq:=bif_true hb17 heq
         refine RgH.val1 (v':=.bool true) (congrArg Value.bool hb17) ?_
         refine Rk 24 [0,6,7,35,36] [(0,.string a0),(6,iv (a0.size:Int)),(7,iv v7),(35,.bool true),(36,.int .u8 (bt a0 v7))] ?_
         obtain ⟨y8,hy8,heq⟩:=bind_some heq
         refine RgH.does (DoesH.call (d:=37) (g:=46) (args:=#[.string ({ data:=#[46,95,45,43] }:ByteArray),.int .u8 (bt a0 v7)]) (by kernel_rfl) (strings_IndexByte_c (a0:=({ data:=#[46,95,45,43] }:ByteArray)) (a1:=bt a0 v7)  hy8)) ?_
         rintro _ _ _ _ ⟨_,rfl,rfl,rfl,rfl⟩
         refine Rk 27 [0,6,7,39] [(0,.string a0),(6,iv (a0.size:Int)),(7,iv v7),(39,.bool (decide (y8<0)))] ?_
         obtain rfl:=Option.some.inj heq
         refine Kg [0,6,7,39] [(0,.string a0),(6,iv (a0.size:Int)),(7,iv v7),(39,.bool (decide (y8<0)))]<|Dn ?_
         exact K2
        ·replace heq:=bif_false hb17 heq
         refine RgH.val1 (v':=.bool false) (congrArg Value.bool hb17) ?_
         refine Rk 27 [0,6,7,39] [(0,.string a0),(6,iv (a0.size:Int)),(7,iv v7),(39,.bool false)] ?_
         obtain rfl:=Option.some.inj heq
         refine Kg [0,6,7,39] [(0,.string a0),(6,iv (a0.size:Int)),(7,iv v7),(39,.bool false)]<|Dn ?_
         exact K2
      ·replace heq:=bif_false hb15 heq
       refine RgH.val1 (v':=.bool false) (congrArg Value.bool hb15) ?_
       refine Rk 27 [0,6,7,39] [(0,.string a0),(6,iv (a0.size:Int)),(7,iv v7),(39,.bool false)] ?_
       obtain rfl:=Option.some.inj heq
       refine Kg [0,6,7,39] [(0,.string a0),(6,iv (a0.size:Int)),(7,iv v7),(39,.bool false)]<|Dn ?_
       exact K2
    ·replace heq:=bif_false hb11 heq
     refine RgH.val1 (v':=.bool false) (congrArg Value.bool hb11) ?_
     refine Rk 27 [0,6,7,39] [(0,.string a0),(6,iv (a0.size:Int)),(7,iv v7),(39,.bool false)] ?_
     obtain rfl:=Option.some.inj heq
     refine Kg [0,6,7,39] [(0,.string a0),(6,iv (a0.size:Int)),(7,iv v7),(39,.bool false)]<|Dn ?_
     exact K2
  ·replace heq:=bif_false hb3 heq
   refine Cf (decide (v7<(a0.size:Int))) hb3<|Ad 2 [.c [1,1,0],.c [1,1,1]]<|Kp [0] [(0,.string a0)] ?_
   exact he1 a0 heq
theorem smithyardref10_isPart_c {w0:World} [GlobI 0 w0] {H:Hp} {F:List Ch} {a0:ByteArray} {r:Bool} (heq:smithyardref10_isPart.f a0=some r):CallsH Tryd.prog 40 #[.string a0] H w0 (F) (S40 F H r):=by
 refine calls_of_runH (F:=C40) Tryd.func40 (by kernel_rfl) Tryd.ntmps40 (args:=[.string a0]) (by kernel_rfl) ?_
 unfold smithyardref10_isPart.f at heq
 refine Ra 1 [0] [.c [1]]<|Rd 1 [0] [(0,.string a0)]<|Ra 2 [1,0,0] [.c [1,0,1],.c [1,1]]<|Rd 3 [0,6,7] [(0,.string a0),(6,iv (a0.size:Int)),(7,iv 0)]<|Ad 2 [.c [1,0,1,0,0],.l [1,0,1,0,0],.b 0,.c [1,1]]<|Kp [0,6,7] [(0,.string a0),(6,iv (a0.size:Int)),(7,iv 0)] ?_
 exact ((smithyardref10_isPart.l2_c (e1:=smithyardref10_isPart.e1) (smithyardref10_isPart.e1_c)) big) a0 0 heq
noncomputable def C24:Ctx:={ P:=Tryd.prog,f:=24,N:=19,c:=bodyOf Tryd.f24 }
def S24 (F:List Ch) (H0:Hp) (r:Bool) (v:Value) (H:Hp) (cs:List Ch):Prop:=H0=H∧v=.bool r∧F=cs
theorem smithyardref10_isPath.e1_c {w0:World} [GlobI 0 w0] {H:Hp} {F:List Ch} {r:Bool}:∀ (a0:ByteArray) ,smithyardref10_isPath.e1 a0=some r→RunH C24 (S24 F H r) H w0 [.c [1,1,0],.c [1,1,1]] [(0,.string a0)] H (F):=by
 intro a0  heq
 unfold smithyardref10_isPath.e1 at heq
 refine Rr<|Rk 2 [17] [(17,iv (a0.size:Int))] ?_
 obtain ⟨y2,hy2,heq⟩:=bind_some heq
 refine RgH.does (DoesH.call (d:=18) (g:=33) (args:=#[iv (a0.size:Int),iv 1,iv 200]) (by kernel_rfl) (smithyardref10_within_c (a0:=(a0.size:Int)) (a1:=1) (a2:=200)  hy2)) ?_
 rintro _ _ _ _ ⟨_,rfl,rfl,rfl,rfl⟩
 refine Rd 4 [2] [(2,.bool y2)] ?_
 obtain rfl:=Option.some.inj heq
 exact RunH.done (by kernel_rfl) Tryd.func24 (v:=.bool y2) (by kernel_rfl) ⟨rfl,rfl,rfl⟩
theorem smithyardref10_isPath.l2_c {w0:World} [GlobI 0 w0] {H:Hp} {F:List Ch} {r:Bool} (e1:ByteArray→Option Bool)
  (he1:∀ (a0:ByteArray) ,e1 a0=some r→RunH C24 (S24 F H r) H w0 [.c [1,1,0],.c [1,1,1]] [(0,.string a0)] H (F)):∀ (k:Nat),∀ (a0:ByteArray) (y1:List ByteArray) (A1:Option Addr) (c1:Nat) (ch1:Ch) (v8:Int) ,SlOwn Kd.string 9 H A1 c1 y1 ch1→smithyardref10_isPath.l2 e1 k a0 y1 v8=some r→RunH C24 (S24 F H r) H w0 [.c [1,0,1,0,0],.l [1,0,1,0,0],.b 0,.c [1,1]] [(0,.string a0),(6,.slice A1 y1.length c1),(7,iv (y1.length:Int)),(8,iv v8)] H (ch1::F):=by
 intro k
 induction k with
 | zero=>intro a0 y1 A1 c1 ch1 v8 ho1 heq; exact nomatch (show (none:Option Bool)=some r from heq)
 | succ k ihk =>
  intro a0 y1 A1 c1 ch1 v8 ho1 heq
  rw [smithyardref10_isPath.l2] at heq
  refine Ra 1 [1,0,1,0,0,0] [.c [1,0,1,0,0,1],.l [1,0,1,0,0],.b 0,.c [1,1]]<|Rd 1 [0,6,7,8,9] [(0,.string a0),(6,.slice A1 y1.length c1),(7,iv (y1.length:Int)),(8,iv v8),(9,.bool (decide (v8<(y1.length:Int))))]<|Ad 1 [.c [1,0,1,0,0,1,0],.c [1,0,1,0,0,1,1],.l [1,0,1,0,0],.b 0,.c [1,1]] ?_
  rcases bool_cases (decide (v8<(y1.length:Int))) with hb1 | hb1
  ·replace heq:=bif_true hb1 heq
   refine Ct (decide (v8<(y1.length:Int))) hb1<|Ra 4 [1,0,1,0,0,1,1,0,0,0] [.c [1,0,1,0,0,1,1,0,0,1],.b 1,.c [1,0,1,0,0,1,1,1],.l [1,0,1,0,0],.b 0,.c [1,1]] ?_
   obtain ⟨x1,hx1,heq⟩:=bind_some heq
   obtain ⟨ha1,cs1,hK1,hcc1⟩:=ho1.get hx1
   obtain rfl:cs1=[.string x1]:=hK1
   refine Rw' 3 [0,4,6,7,8] [.string x1] [.need (A1=some (adr A1)∧(0:Int)≤v8∧v8<((y1.length:Nat):Int)),.load ((adr A1).add (v8.toNat*1)) (.string x1)] [(0,.string a0),(4,.string x1),(6,.slice A1 y1.length c1),(7,iv (y1.length:Int)),(8,iv v8)] (fun w hh=>⟨⟨ha1,(at?_some hx1).1,(at?_some hx1).2.1⟩,(hcc1 _ (hh.chin 0 rfl) 0 _ rfl)⟩)<|Ra 1 [1,0,1,0,0,1,1,0,0,1,0] [.c [1,0,1,0,0,1,1,0,0,1,1],.b 1,.c [1,0,1,0,0,1,1,1],.l [1,0,1,0,0],.b 0,.c [1,1]]<|Rk 1 [0,6,7,8,12] [(0,.string a0),(6,.slice A1 y1.length c1),(7,iv (y1.length:Int)),(8,iv v8),(12,.string x1)] ?_
   obtain ⟨y3,hy3,heq⟩:=bind_some heq
   refine RgH.does (DoesH.call (d:=13) (g:=40) (args:=#[.string x1]) (by kernel_rfl) (smithyardref10_isPart_c (a0:=x1)  hy3)) ?_
   rintro _ _ _ _ ⟨_,rfl,rfl,rfl,rfl⟩
   refine Rd 3 [0,6,7,8,14] [(0,.string a0),(6,.slice A1 y1.length c1),(7,iv (y1.length:Int)),(8,iv v8),(14,.bool (!y3))] ?_
   rcases bool_cases (!y3) with hb2 | hb2
   ·replace heq:=bif_true hb2 heq
    refine Ct (!y3) hb2<|Ra 1 [1,0,1,0,0,1,1,0,0,1,1,0,0] [.c [1,0,1,0,0,1,1,0,0,1,1,0,1],.b 1,.c [1,0,1,0,0,1,1,1],.l [1,0,1,0,0],.b 0,.c [1,1]]<|Rd 1 [2] [(2,.bool false)] ?_
    obtain rfl:=Option.some.inj heq
    refine RunH.pick 1 [] (cs':=F) (by kernel_rfl) rfl ?_
    exact RunH.done (by kernel_rfl) Tryd.func24 (v:=.bool false) (by kernel_rfl) ⟨rfl,rfl,rfl⟩
   ·replace heq:=bif_false hb2 heq
    refine Cf (!y3) hb2<|Ra 2 [1,0,1,0,0,1,1,1] [.l [1,0,1,0,0],.b 0,.c [1,1]]<|Rd 2 [0,6,7,8] [(0,.string a0),(6,.slice A1 y1.length c1),(7,iv (y1.length:Int)),(8,iv (w64 (v8+1)))]<|Ad 1 [.c [1,0,1,0,0],.l [1,0,1,0,0],.b 0,.c [1,1]]<|Kp [0,6,7,8] [(0,.string a0),(6,.slice A1 y1.length c1),(7,iv (y1.length:Int)),(8,iv (w64 (v8+1)))] ?_
    exact ihk a0 y1 _ _ _ (w64 (v8+1)) ho1 heq
  ·replace heq:=bif_false hb1 heq
   refine Cf (decide (v8<(y1.length:Int))) hb1<|Ad 2 [.c [1,1,0],.c [1,1,1]]<|Kp [0] [(0,.string a0)] ?_
   refine RunH.pick 1 [] (cs':=F) (by kernel_rfl) rfl ?_
   exact he1 a0 heq
theorem smithyardref10_isPath_c {w0:World} [GlobI 0 w0] {H:Hp} {F:List Ch} {a0:ByteArray} {r:Bool} (heq:smithyardref10_isPath.f a0=some r):CallsH Tryd.prog 24 #[.string a0] H w0 (F) (S24 F H r):=by
 refine calls_of_runH (F:=C24) Tryd.func24 (by kernel_rfl) Tryd.ntmps24 (args:=[.string a0]) (by kernel_rfl) ?_
 unfold smithyardref10_isPath.f at heq
 refine Ra 1 [0] [.c [1]]<|Rd 1 [0] [(0,.string a0)]<|Ra 2 [1,0,0] [.c [1,0,1],.c [1,1]]<|Rk 1 [0,5] [(0,.string a0),(5,.string a0)] ?_
 obtain ⟨y1,hy1,heq⟩:=bind_some heq
 refine RgH.does (DoesH.call (d:=6) (g:=35) (args:=#[.string a0,.string ({ data:=#[47] }:ByteArray)]) (by kernel_rfl) (strings_Split_c (a0:=a0) (a1:=({ data:=#[47] }:ByteArray))  hy1)) ?_
 rintro _ _ _ _ ⟨_,rfl,A1,c1,ch1,rfl,rfl,rfl,ho1⟩
 refine Rd 4 [0,6,7,8] [(0,.string a0),(6,.slice A1 y1.length c1),(7,iv (y1.length:Int)),(8,iv 0)]<|Ad 2 [.c [1,0,1,0,0],.l [1,0,1,0,0],.b 0,.c [1,1]]<|Kp [0,6,7,8] [(0,.string a0),(6,.slice A1 y1.length c1),(7,iv (y1.length:Int)),(8,iv 0)] ?_
 exact ((smithyardref10_isPath.l2_c (e1:=smithyardref10_isPath.e1) (smithyardref10_isPath.e1_c)) big) a0 y1 _ _ _ 0 ho1 heq
noncomputable def C25:Ctx:={ P:=Tryd.prog,f:=25,N:=27,c:=bodyOf Tryd.f25 }
def S25 (F:List Ch) (H0:Hp) (r:Int) (v:Value) (H:Hp) (cs:List Ch):Prop:=H0=H∧v=iv r∧F=cs
theorem smithyardref10_checkPaths.e1_c {w0:World} [GlobI 0 w0] {H:Hp} {F:List Ch} {r:Int}:smithyardref10_checkPaths.e1=some r→RunH C25 (S25 F H r) H w0 [.c [1,1,0],.c [1,1,1]] [] H (F):=by
 intro   heq
 unfold smithyardref10_checkPaths.e1 at heq
 refine Rr<|Rd 1 [2] [(2,iv 0)] ?_
 obtain rfl:=Option.some.inj heq
 exact RunH.done (by kernel_rfl) Tryd.func25 (v:=iv 0) (by kernel_rfl) ⟨rfl,rfl,rfl⟩
theorem smithyardref10_checkPaths.l2_c {w0:World} [GlobI 0 w0] {H:Hp} {F:List Ch} {r:Int} (e1:Option Int)
  (he1:e1=some r→RunH C25 (S25 F H r) H w0 [.c [1,1,0],.c [1,1,1]] [] H (F)):∀ (k:Nat),∀ (a0:List ByteArray) (Aa0:Option Addr) (ca0:Nat) (v7:Int) ,Rw Kd.string H F Aa0 a0→a0.length≤ca0→smithyardref10_checkPaths.l2 e1 k a0 v7=some r→RunH C25 (S25 F H r) H w0 [.c [1,0,1,0,0],.l [1,0,1,0,0],.b 0,.c [1,1]] [(0,.slice Aa0 a0.length ca0),(5,.slice Aa0 a0.length ca0),(6,iv (a0.length:Int)),(7,iv v7)] H (F):=by
 intro k
 induction k with
 | zero=>intro a0 Aa0 ca0 v7 hra0 hca0 heq; exact nomatch (show (none:Option Int)=some r from heq)
 | succ k ihk =>
  intro a0 Aa0 ca0 v7 hra0 hca0 heq
  rw [smithyardref10_checkPaths.l2] at heq
  refine Ra 1 [1,0,1,0,0,0] [.c [1,0,1,0,0,1],.l [1,0,1,0,0],.b 0,.c [1,1]]<|Rd 1 [0,5,6,7,8] [(0,.slice Aa0 a0.length ca0),(5,.slice Aa0 a0.length ca0),(6,iv (a0.length:Int)),(7,iv v7),(8,.bool (decide (v7<(a0.length:Int))))]<|Ad 1 [.c [1,0,1,0,0,1,0],.c [1,0,1,0,0,1,1],.l [1,0,1,0,0],.b 0,.c [1,1]] ?_
  rcases bool_cases (decide (v7<(a0.length:Int))) with hb1 | hb1
  ·replace heq:=bif_true hb1 heq
   refine Ct (decide (v7<(a0.length:Int))) hb1<|Ra 4 [1,0,1,0,0,1,1,0,0,0] [.c [1,0,1,0,0,1,1,0,0,1],.b 1,.c [1,0,1,0,0,1,1,1],.l [1,0,1,0,0],.b 0,.c [1,1]] ?_
   obtain ⟨x1,hx1,heq⟩:=bind_some heq
   obtain ⟨ha1,cs1,hK1,hcc1⟩:=hra0.get hx1
   obtain rfl:cs1=[.string x1]:=hK1
   refine Rw' 5 [0,3,4,5,6,7] [.string x1] [.need (Aa0=some (adr Aa0)∧(0:Int)≤v7∧v7<((a0.length:Nat):Int)),.load ((adr Aa0).add (v7.toNat*1)) (.string x1)] [(0,.slice Aa0 a0.length ca0),(3,iv v7),(4,.string x1),(5,.slice Aa0 a0.length ca0),(6,iv (a0.length:Int)),(7,iv v7)] (fun w hh=>⟨⟨ha1,(at?_some hx1).1,(at?_some hx1).2.1⟩,(hcc1 _ _ (hh.drop 0) 0 _ rfl)⟩)<|Ra 2 [1,0,1,0,0,1,1,0,0,1,0,0] [.c [1,0,1,0,0,1,1,0,0,1,0,1],.c [1,0,1,0,0,1,1,0,0,1,1],.b 1,.c [1,0,1,0,0,1,1,1],.l [1,0,1,0,0],.b 0,.c [1,1]]<|Rk 1 [0,3,4,5,6,7,12] [(0,.slice Aa0 a0.length ca0),(3,iv v7),(4,.string x1),(5,.slice Aa0 a0.length ca0),(6,iv (a0.length:Int)),(7,iv v7),(12,.string x1)] ?_
   obtain ⟨y1,hy1,heq⟩:=bind_some heq
   refine RgH.does (DoesH.call (d:=13) (g:=24) (args:=#[.string x1]) (by kernel_rfl) (smithyardref10_isPath_c (a0:=x1)  hy1)) ?_
   rintro _ _ _ _ ⟨_,rfl,rfl,rfl,rfl⟩
   refine Rd 3 [0,3,4,5,6,7,14] [(0,.slice Aa0 a0.length ca0),(3,iv v7),(4,.string x1),(5,.slice Aa0 a0.length ca0),(6,iv (a0.length:Int)),(7,iv v7),(14,.bool (!y1))] ?_
   rcases bool_cases (!y1) with hb2 | hb2
   ·replace heq:=bif_true hb2 heq
    refine Ct (!y1) hb2<|Ra 1 [1,0,1,0,0,1,1,0,0,1,0,1,0,0] [.c [1,0,1,0,0,1,1,0,0,1,0,1,0,1],.c [1,0,1,0,0,1,1,0,0,1,1],.b 1,.c [1,0,1,0,0,1,1,1],.l [1,0,1,0,0],.b 0,.c [1,1]]<|Rd 1 [2] [(2,iv 3)] ?_
    obtain rfl:=Option.some.inj heq
    exact RunH.done (by kernel_rfl) Tryd.func25 (v:=iv 3) (by kernel_rfl) ⟨rfl,rfl,rfl⟩
   ·replace heq:=bif_false hb2 heq
    refine Cf (!y1) hb2<|Ad 2 [.c [1,0,1,0,0,1,1,0,0,1,1,0],.c [1,0,1,0,0,1,1,0,0,1,1,1],.b 1,.c [1,0,1,0,0,1,1,1],.l [1,0,1,0,0],.b 0,.c [1,1]] ?_
    obtain ⟨t1,ht1,heq⟩:=bind_some heq
    have K1:RunH C25 (S25 F H r) H w0 [.c [1,0,1,0,0,1,1,0,0,1,1,1],.b 1,.c [1,0,1,0,0,1,1,1],.l [1,0,1,0,0],.b 0,.c [1,1]] [(0,.slice Aa0 a0.length ca0),(5,.slice Aa0 a0.length ca0),(6,iv (a0.length:Int)),(7,iv v7),(25,.bool t1)] H (F):=by
     rcases bool_cases (t1) with hb4 | hb4
     ·replace heq:=bif_true hb4 heq
      refine Ct t1 hb4<|Ra 1 [1,0,1,0,0,1,1,0,0,1,1,1,0,0] [.c [1,0,1,0,0,1,1,0,0,1,1,1,0,1],.b 1,.c [1,0,1,0,0,1,1,1],.l [1,0,1,0,0],.b 0,.c [1,1]]<|Rd 1 [2] [(2,iv 8)] ?_
      obtain rfl:=Option.some.inj heq
      exact RunH.done (by kernel_rfl) Tryd.func25 (v:=iv 8) (by kernel_rfl) ⟨rfl,rfl,rfl⟩
     ·replace heq:=bif_false hb4 heq
      refine Cf t1 hb4<|Ra 2 [1,0,1,0,0,1,1,1] [.l [1,0,1,0,0],.b 0,.c [1,1]]<|Rd 2 [0,5,6,7] [(0,.slice Aa0 a0.length ca0),(5,.slice Aa0 a0.length ca0),(6,iv (a0.length:Int)),(7,iv (w64 (v7+1)))]<|Ad 1 [.c [1,0,1,0,0],.l [1,0,1,0,0],.b 0,.c [1,1]]<|Kp [0,5,6,7] [(0,.slice Aa0 a0.length ca0),(5,.slice Aa0 a0.length ca0),(6,iv (a0.length:Int)),(7,iv (w64 (v7+1)))] ?_
      exact ihk a0 _ _ (w64 (v7+1)) hra0 hca0 heq
    replace heq:=ht1
    refine Rr<|Rk 3 [17,0,3,4,5,6,7] [(17,.bool (decide (0<v7))),(0,.slice Aa0 a0.length ca0),(3,iv v7),(4,.string x1),(5,.slice Aa0 a0.length ca0),(6,iv (a0.length:Int)),(7,iv v7)] ?_
    rcases bool_cases (decide (0<v7)) with hb3 | hb3
    ·replace heq:=bif_true hb3 heq
     refine RgH.val1 (v':=.bool true) (congrArg Value.bool hb3) ?_
     obtain ⟨x2,hx2,heq⟩:=bind_some heq
     obtain ⟨ha2,cs2,hK2,hcc2⟩:=hra0.get hx2
     obtain rfl:cs2=[.string x2]:=hK2
     refine Rv 11 [0,5,6,7,25] [.string x2] [.need (Aa0=some (adr Aa0)∧(0:Int)≤(w64 (v7 - 1))∧(w64 (v7 - 1))<((a0.length:Nat):Int)),.load ((adr Aa0).add ((w64 (v7 - 1)).toNat*1)) (.string x2)] [(0,.slice Aa0 a0.length ca0),(5,.slice Aa0 a0.length ca0),(6,iv (a0.length:Int)),(7,iv v7),(25,.bool (sLt x1 x2||sEq x1 x2))] (fun w hh=>⟨⟨ha2,(at?_some hx2).1,(at?_some hx2).2.1⟩,(hcc2 _ _ (hh.drop 0) 0 _ rfl)⟩) ?_
     obtain rfl:=Option.some.inj heq
     refine Kg [0,5,6,7,25] [(0,.slice Aa0 a0.length ca0),(5,.slice Aa0 a0.length ca0),(6,iv (a0.length:Int)),(7,iv v7),(25,.bool (sLt x1 x2||sEq x1 x2))]<|Dn ?_
     exact K1
    ·replace heq:=bif_false hb3 heq
     refine RgH.val1 (v':=.bool false) (congrArg Value.bool hb3) ?_
     refine Rk 11 [0,5,6,7,25] [(0,.slice Aa0 a0.length ca0),(5,.slice Aa0 a0.length ca0),(6,iv (a0.length:Int)),(7,iv v7),(25,.bool false)] ?_
     obtain rfl:=Option.some.inj heq
     refine Kg [0,5,6,7,25] [(0,.slice Aa0 a0.length ca0),(5,.slice Aa0 a0.length ca0),(6,iv (a0.length:Int)),(7,iv v7),(25,.bool false)]<|Dn ?_
     exact K1
  ·replace heq:=bif_false hb1 heq
   refine Cf (decide (v7<(a0.length:Int))) hb1<|Ad 2 [.c [1,1,0],.c [1,1,1]]<|Kp [] [] ?_
   exact he1 heq
theorem smithyardref10_checkPaths_c {w0:World} [GlobI 0 w0] {H:Hp} {F:List Ch} {a0:List ByteArray} {Aa0:Option Addr} {na0:Nat} {ca0:Nat} {r:Int} (hra0:Rw Kd.string H F Aa0 a0) (hca0:na0≤ca0) (hna0:na0=a0.length) (heq:smithyardref10_checkPaths.f a0=some r):CallsH Tryd.prog 25 #[.slice Aa0 na0 ca0] H w0 (F) (S25 F H r):=by
 refine calls_of_runH (F:=C25) Tryd.func25 (by kernel_rfl) Tryd.ntmps25 (args:=[.slice Aa0 na0 ca0]) (by kernel_rfl) ?_
 subst hna0
 unfold smithyardref10_checkPaths.f at heq
 refine Ra 1 [0] [.c [1]]<|Rd 1 [0] [(0,.slice Aa0 a0.length ca0)]<|Ra 2 [1,0,0] [.c [1,0,1],.c [1,1]]<|Rd 3 [0,5,6,7] [(0,.slice Aa0 a0.length ca0),(5,.slice Aa0 a0.length ca0),(6,iv (a0.length:Int)),(7,iv 0)]<|Ad 2 [.c [1,0,1,0,0],.l [1,0,1,0,0],.b 0,.c [1,1]]<|Kp [0,5,6,7] [(0,.slice Aa0 a0.length ca0),(5,.slice Aa0 a0.length ca0),(6,iv (a0.length:Int)),(7,iv 0)] ?_
 exact ((smithyardref10_checkPaths.l2_c (e1:=smithyardref10_checkPaths.e1) (smithyardref10_checkPaths.e1_c)) big) a0 _ _ 0 hra0 hca0 heq
noncomputable def C41:Ctx:={ P:=Tryd.prog,f:=41,N:=19,c:=bodyOf Tryd.f41 }
def S41 (F:List Ch) (H0:Hp) (r:Int) (v:Value) (H:Hp) (cs:List Ch):Prop:=H0=H∧v=iv r∧F=cs
theorem slices_Index_string.e1_c {w0:World} [GlobI 0 w0] {H:Hp} {F:List Ch} {r:Int}:slices_Index_string.e1=some r→RunH C41 (S41 F H r) H w0 [.c [1,1,0],.c [1,1,1]] [] H (F):=by
 intro   heq
 unfold slices_Index_string.e1 at heq
 refine Rr<|Rd 1 [4] [(4,iv (-1))] ?_
 obtain rfl:=Option.some.inj heq
 exact RunH.done (by kernel_rfl) Tryd.func41 (v:=iv (-1)) (by kernel_rfl) ⟨rfl,rfl,rfl⟩
theorem slices_Index_string.l2_c {w0:World} [GlobI 0 w0] {H:Hp} {F:List Ch} {r:Int} (e1:Option Int)
  (he1:e1=some r→RunH C41 (S41 F H r) H w0 [.c [1,1,0],.c [1,1,1]] [] H (F)):∀ (k:Nat),∀ (a0:List ByteArray) (Aa0:Option Addr) (ca0:Nat) (a1:ByteArray) (v8:Int) ,Rw Kd.string H F Aa0 a0→a0.length≤ca0→slices_Index_string.l2 e1 k a0 a1 v8=some r→RunH C41 (S41 F H r) H w0 [.c [1,0,1,0,0],.l [1,0,1,0,0],.b 0,.c [1,1]] [(0,.slice Aa0 a0.length ca0),(1,.string a1),(7,iv (a0.length:Int)),(8,iv v8)] H (F):=by
 intro k
 induction k with
 | zero=>intro a0 Aa0 ca0 a1 v8 hra0 hca0 heq; exact nomatch (show (none:Option Int)=some r from heq)
 | succ k ihk =>
  intro a0 Aa0 ca0 a1 v8 hra0 hca0 heq
  rw [slices_Index_string.l2] at heq
  refine Ra 1 [1,0,1,0,0,0] [.c [1,0,1,0,0,1],.l [1,0,1,0,0],.b 0,.c [1,1]]<|Rd 1 [0,1,7,8,9] [(0,.slice Aa0 a0.length ca0),(1,.string a1),(7,iv (a0.length:Int)),(8,iv v8),(9,.bool (decide (v8<(a0.length:Int))))]<|Ad 1 [.c [1,0,1,0,0,1,0],.c [1,0,1,0,0,1,1],.l [1,0,1,0,0],.b 0,.c [1,1]] ?_
  rcases bool_cases (decide (v8<(a0.length:Int))) with hb1 | hb1
  ·replace heq:=bif_true hb1 heq
   refine Ct (decide (v8<(a0.length:Int))) hb1<|Ra 4 [1,0,1,0,0,1,1,0,0,0] [.c [1,0,1,0,0,1,1,0,0,1],.b 1,.c [1,0,1,0,0,1,1,1],.l [1,0,1,0,0],.b 0,.c [1,1]]<|Rd 2 [0,1,5,7,8] [(0,.slice Aa0 a0.length ca0),(1,.string a1),(5,iv v8),(7,iv (a0.length:Int)),(8,iv v8)]<|Ra 1 [1,0,1,0,0,1,1,0,0,1,0] [.c [1,0,1,0,0,1,1,0,0,1,1],.b 1,.c [1,0,1,0,0,1,1,1],.l [1,0,1,0,0],.b 0,.c [1,1]] ?_
   obtain ⟨x1,hx1,heq⟩:=bind_some heq
   obtain ⟨ha1,cs1,hK1,hcc1⟩:=hra0.get hx1
   obtain rfl:cs1=[.string x1]:=hK1
   refine Rw' 6 [0,1,5,7,8,16] [.string x1] [.need (Aa0=some (adr Aa0)∧(0:Int)≤v8∧v8<((a0.length:Nat):Int)),.load ((adr Aa0).add (v8.toNat*1)) (.string x1)] [(0,.slice Aa0 a0.length ca0),(1,.string a1),(5,iv v8),(7,iv (a0.length:Int)),(8,iv v8),(16,.bool (sEq a1 x1))] (fun w hh=>⟨⟨ha1,(at?_some hx1).1,(at?_some hx1).2.1⟩,(hcc1 _ _ (hh.drop 0) 0 _ rfl)⟩) ?_
   rcases bool_cases (sEq a1 x1) with hb2 | hb2
   ·replace heq:=bif_true hb2 heq
    refine Ct (sEq a1 x1) hb2<|Ra 1 [1,0,1,0,0,1,1,0,0,1,1,0,0] [.c [1,0,1,0,0,1,1,0,0,1,1,0,1],.b 1,.c [1,0,1,0,0,1,1,1],.l [1,0,1,0,0],.b 0,.c [1,1]]<|Rd 2 [4] [(4,iv v8)] ?_
    obtain rfl:=Option.some.inj heq
    exact RunH.done (by kernel_rfl) Tryd.func41 (v:=iv v8) (by kernel_rfl) ⟨rfl,rfl,rfl⟩
   ·replace heq:=bif_false hb2 heq
    refine Cf (sEq a1 x1) hb2<|Ra 2 [1,0,1,0,0,1,1,1] [.l [1,0,1,0,0],.b 0,.c [1,1]]<|Rd 2 [0,1,7,8] [(0,.slice Aa0 a0.length ca0),(1,.string a1),(7,iv (a0.length:Int)),(8,iv (w64 (v8+1)))]<|Ad 1 [.c [1,0,1,0,0],.l [1,0,1,0,0],.b 0,.c [1,1]]<|Kp [0,1,7,8] [(0,.slice Aa0 a0.length ca0),(1,.string a1),(7,iv (a0.length:Int)),(8,iv (w64 (v8+1)))] ?_
    exact ihk a0 _ _ a1 (w64 (v8+1)) hra0 hca0 heq
  ·replace heq:=bif_false hb1 heq
   refine Cf (decide (v8<(a0.length:Int))) hb1<|Ad 2 [.c [1,1,0],.c [1,1,1]]<|Kp [] [] ?_
   exact he1 heq
theorem slices_Index_string_c {w0:World} [GlobI 0 w0] {H:Hp} {F:List Ch} {a0:List ByteArray} {Aa0:Option Addr} {na0:Nat} {ca0:Nat} {a1:ByteArray} {r:Int} (hra0:Rw Kd.string H F Aa0 a0) (hca0:na0≤ca0) (hna0:na0=a0.length) (heq:slices_Index_string.f a0 a1=some r):CallsH Tryd.prog 41 #[.slice Aa0 na0 ca0,.string a1] H w0 (F) (S41 F H r):=by
 refine calls_of_runH (F:=C41) Tryd.func41 (by kernel_rfl) Tryd.ntmps41 (args:=[.slice Aa0 na0 ca0,.string a1]) (by kernel_rfl) ?_
 subst hna0
 unfold slices_Index_string.f at heq
 refine Ra 1 [0] [.c [1]]<|Rd 1 [0,1] [(0,.slice Aa0 a0.length ca0),(1,.string a1)]<|Ra 2 [1,0,0] [.c [1,0,1],.c [1,1]]<|Rd 3 [0,1,7,8] [(0,.slice Aa0 a0.length ca0),(1,.string a1),(7,iv (a0.length:Int)),(8,iv 0)]<|Ad 2 [.c [1,0,1,0,0],.l [1,0,1,0,0],.b 0,.c [1,1]]<|Kp [0,1,7,8] [(0,.slice Aa0 a0.length ca0),(1,.string a1),(7,iv (a0.length:Int)),(8,iv 0)] ?_
 exact ((slices_Index_string.l2_c (e1:=slices_Index_string.e1) (slices_Index_string.e1_c)) big) a0 _ _ a1 0 hra0 hca0 heq
noncomputable def C26:Ctx:={ P:=Tryd.prog,f:=26,N:=9,c:=bodyOf Tryd.f26 }
def S26 (F:List Ch) (H0:Hp) (r:Bool) (v:Value) (H:Hp) (cs:List Ch):Prop:=H0=H∧v=.bool r∧F=cs
theorem slices_Contains_string_c {w0:World} [GlobI 0 w0] {H:Hp} {F:List Ch} {a0:List ByteArray} {Aa0:Option Addr} {na0:Nat} {ca0:Nat} {a1:ByteArray} {r:Bool} (hra0:Rw Kd.string H F Aa0 a0) (hca0:na0≤ca0) (hna0:na0=a0.length) (heq:slices_Contains_string.f a0 a1=some r):CallsH Tryd.prog 26 #[.slice Aa0 na0 ca0,.string a1] H w0 (F) (S26 F H r):=by
 refine calls_of_runH (F:=C26) Tryd.func26 (by kernel_rfl) Tryd.ntmps26 (args:=[.slice Aa0 na0 ca0,.string a1]) (by kernel_rfl) ?_
 subst hna0
 unfold slices_Contains_string.f at heq
 refine Ra 1 [0] [.c [1]]<|Rd 1 [0,1] [(0,.slice Aa0 a0.length ca0),(1,.string a1)]<|Ra 1 [1,0] [.c [1,1]]<|Rk 2 [5,6] [(5,.slice Aa0 a0.length ca0),(6,.string a1)] ?_
 obtain ⟨y1,hy1,heq⟩:=bind_some heq
 refine RgH.does (DoesH.call (d:=7) (g:=41) (args:=#[.slice Aa0 a0.length ca0,.string a1]) (by kernel_rfl) (slices_Index_string_c (a0:=a0) (a1:=a1) hra0 hca0 rfl hy1)) ?_
 rintro _ _ _ _ ⟨_,rfl,rfl,rfl,rfl⟩
 refine Rd 5 [4] [(4,.bool (decide (0≤y1)))] ?_
 obtain rfl:=Option.some.inj heq
 exact RunH.done (by kernel_rfl) Tryd.func26 (v:=.bool (decide (0≤y1))) (by kernel_rfl) ⟨rfl,rfl,rfl⟩
end Go.Proofs.YtphbcalfmafpoaaDoor
