/- What the machine's calls of these functions come to: just what the plain functions say. Written by program. -/
import Derived.Test.YtkgbgapheigjcaaDoorProg
import Derived.Test.YtkgbgapheigjcaaDoorKitW
import Derived.Test.YtkgbgapheigjcaaDoorZD
import Derived.Test.YtkgbgapheigjcaaDoorShelf
import Derived.Test.YtkgbgapheigjcaaDoorKitY
set_option linter.unusedVariables false
set_option linter.unusedSimpArgs false
set_option maxRecDepth 100000
set_option maxHeartbeats 1000000
namespace Go.Proofs.YtkgbgapheigjcaaDoor
open Go Go.RowKit Go.Proofs.YtkgbgapheigjcaaDoor.Kit
def kTestReads:Kd TestReads:=Kd.iso ((Kd.pair Kd.string (Kd.pair (Kd.slice Kd.string) (Kd.slice Kd.string)))) (fun x=>(x.Test,x.Paths,x.Looked))
theorem kTestReads_open {H:Hp} {x:TestReads} {c:List Value} (h:kTestReads.K H x c):∃ A1 c1,∃ A2 c2,c=[.string x.Test,.slice A1 x.Paths.length c1,.slice A2 x.Looked.length c2]∧x.Paths.length≤c1∧Kd.Row Kd.string H A1 x.Paths∧x.Looked.length≤c2∧Kd.Row Kd.string H A2 x.Looked:=by
 obtain ⟨p0,q0,rfl,g0,h0⟩:=h
 obtain rfl:p0=[_]:=g0
 obtain ⟨p1,q1,rfl,g1,h1⟩:=h0
 obtain ⟨A1,c1,rfl,u1,v1⟩:=g1
 obtain ⟨A2,c2,rfl,u2,v2⟩:=h1
 exact ⟨A1,c1,A2,c2,rfl,u1,v1,u2,v2⟩
theorem kTestReads_mk {H:Hp} {x:TestReads} {A1:Option Addr} {c1:Nat} {A2:Option Addr} {c2:Nat} (u1:x.Paths.length≤c1) (v1:Kd.Row Kd.string H A1 x.Paths) (u2:x.Looked.length≤c2) (v2:Kd.Row Kd.string H A2 x.Looked):kTestReads.K H x [.string x.Test,.slice A1 x.Paths.length c1,.slice A2 x.Looked.length c2]:=⟨[.string x.Test],[.slice A1 x.Paths.length c1,.slice A2 x.Looked.length c2],rfl,rfl,⟨[.slice A1 x.Paths.length c1],[.slice A2 x.Looked.length c2],rfl,⟨A1,c1,rfl,u1,v1⟩,⟨A2,c2,rfl,u2,v2⟩⟩⟩
def kTreeChange:Kd TreeChange:=Kd.iso ((Kd.pair Kd.string (Kd.int .i64))) (fun x=>(x.Path,x.Kind))
theorem kTreeChange_open {H:Hp} {x:TreeChange} {c:List Value} (h:kTreeChange.K H x c):c=[.string x.Path,iv x.Kind]:=by
 obtain ⟨p0,q0,rfl,g0,h0⟩:=h
 obtain rfl:p0=[_]:=g0
 obtain rfl:q0=[_]:=h0
 rfl
theorem kTreeChange_mk {H:Hp} {x:TreeChange}:kTreeChange.K H x [.string x.Path,iv x.Kind]:=⟨[.string x.Path],[iv x.Kind],rfl,rfl,rfl⟩
def ktrials_changes:Kd trials_changes:=Kd.iso ((Kd.pair (Kd.map Value.string Kd.bool false) (Kd.pair (Kd.map Value.string Kd.bool false) (Kd.map Value.string Kd.bool false)))) (fun x=>(x.other,x.fresh,x.over))
theorem ktrials_changes_open {H:Hp} {x:trials_changes} {c:List Value} (h:ktrials_changes.K H x c):∃ A0,∃ A1,∃ A2,c=[.map A0,.map A1,.map A2]∧MRow Value.string Kd.bool false H A0 x.other∧MRow Value.string Kd.bool false H A1 x.fresh∧MRow Value.string Kd.bool false H A2 x.over:=by
 obtain ⟨p0,q0,rfl,g0,h0⟩:=h
 obtain ⟨A0,rfl,v0⟩:=g0
 obtain ⟨p1,q1,rfl,g1,h1⟩:=h0
 obtain ⟨A1,rfl,v1⟩:=g1
 obtain ⟨A2,rfl,v2⟩:=h1
 exact ⟨A0,A1,A2,rfl,v0,v1,v2⟩
theorem ktrials_changes_mk {H:Hp} {x:trials_changes} {A0:Option Nat} {A1:Option Nat} {A2:Option Nat} (v0:MRow Value.string Kd.bool false H A0 x.other) (v1:MRow Value.string Kd.bool false H A1 x.fresh) (v2:MRow Value.string Kd.bool false H A2 x.over):ktrials_changes.K H x [.map A0,.map A1,.map A2]:=⟨[.map A0],[.map A1,.map A2],rfl,⟨A0,rfl,v0⟩,⟨[.map A1],[.map A2],rfl,⟨A1,rfl,v1⟩,⟨A2,rfl,v2⟩⟩⟩
def S39 (F:List Ch) (H0:Hp) (r:List ByteArray) (v:Value) (H:Hp) (cs:List Ch):Prop:=∃ (A0:Option Addr) (c0:Nat) (ch0:Ch),H0=H∧v=.slice A0 r.length c0∧ch0::F=cs∧SlOwn Kd.string 9 H A0 c0 r ch0
theorem strings_Split_c {w0:World} [GlobI 0 w0] {H:Hp} {F:List Ch} {a0 a1:ByteArray} {r:List ByteArray} (heq:strings_Split.f a0 a1=some r):CallsH Tryd.prog 39 #[.string a0,.string a1] H w0 F (S39 F H r):=by
 intro w hh
 unfold strings_Split.f at heq
 obtain ⟨hn,heq⟩:=guard?_some heq
 obtain rfl:=Option.some.inj heq
 simp only [Bool.and_eq_true,decide_eq_true_eq] at hn
 obtain ⟨m,hm⟩:=GlobI.at (g:=0) hh
 refine (Shelf.Tryd.strings_Split a0 a1 m w hn.1 hm hn.2).mono ?_
 rintro e w' ⟨rfl,rfl⟩
 have hl:=Lib.splitB_all a1 hn.2 0 _ a0 rfl
 have hc:=Lib.countB_le a1 hn.2 a0.size a0 (Nat.le_refl _)
 obtain ⟨H',cs',hle,hh',A0,c0,ch0,rfl,hv,rfl,ho⟩:=split_post (e:=9) hh hl (by unfold maxLen; omega) rfl
 exact ⟨_,rfl,_,_,hle,hh',A0,c0,ch0,rfl,hv,rfl,ho⟩
def S55 (F:List Ch) (H0:Hp) (r:Int) (v:Value) (H:Hp) (cs:List Ch):Prop:=H0=H∧v=iv r∧F=cs
theorem strings_IndexByte_c {w0:World} [GlobI 0 w0] {H:Hp} {F:List Ch} {a0:ByteArray} {a1:Int} {r:Int} (heq:strings_IndexByte.f a0 a1=some r):CallsH Tryd.prog 55 #[.string a0,.int .u8 a1] H w0 F (S55 F H r):=by
 intro w hh
 unfold strings_IndexByte.f at heq
 obtain rfl:=Option.some.inj heq
 refine (Shelf.Tryd.strings_IndexByte a0 a1 w).mono ?_
 rintro e w' ⟨rfl,rfl⟩
 exact ⟨_,rfl,H,F,Le.refl H,hh,rfl,rfl,rfl⟩
noncomputable def C50:Ctx:={ P:=Tryd.prog,f:=50,N:=30,c:=bodyOf Tryd.f50 }
def S50 (F:List Ch) (H0:Hp) (r:Bool) (v:Value) (H:Hp) (cs:List Ch):Prop:=H0=H∧v=.bool r∧F=cs
theorem blob_inPart_c {w0:World} [GlobI 0 w0] {H:Hp} {F:List Ch} {a0:Int} {r:Bool} (heq:blob_inPart.f a0=some r):CallsH Tryd.prog 50 #[.int .u8 a0] H w0 (F) (S50 F H r):=by
 refine calls_of_runH (F:=C50) Tryd.func50 (by kernel_rfl) Tryd.ntmps50 (args:=[.int .u8 a0]) (by kernel_rfl) ?_
 unfold blob_inPart.f at heq
 refine Ra 1 [0] [.c [1]]<|Rd 1 [0] [(0,.int .u8 a0)]<|Ad 1 [.c [1,0],.c [1,1]] ?_
 obtain ⟨t1,ht1,heq⟩:=bind_some heq
 have K1:RunH C50 (S50 F H r) H w0 [.c [1,1]] [(2,.bool t1)] H (F):=by
  obtain rfl:=Option.some.inj heq
  exact RunH.done (by kernel_rfl) Tryd.func50 (v:=.bool t1) (by kernel_rfl) ⟨rfl,rfl,rfl⟩
 replace heq:=ht1
 refine Rr<|Rk 3 [5,0] [(5,.bool (decide (97≤a0))),(0,.int .u8 a0)] ?_
 rcases bool_cases (decide (97≤a0)) with hb1 | hb1
 ·replace heq:=bif_true hb1 heq
  refine RgH.val1 (v':=.bool true) (congrArg Value.bool hb1) ?_
  refine Rk 7 [9,0] [(9,.bool (decide (a0≤122))),(0,.int .u8 a0)] ?_
  rcases bool_cases (decide (a0≤122)) with hb2 | hb2
  ·replace heq:=bif_true hb2 heq
   refine RgH.val1 (v':=.bool true) (congrArg Value.bool hb2) ?_
   refine Rk 28 [2] [(2,.bool true)] ?_
   obtain rfl:=Option.some.inj heq
   refine Kg [2] [(2,.bool true)]<|Dn ?_
   exact K1
  ·replace heq:=bif_false hb2 heq
   refine RgH.val1 (v':=.bool false) (congrArg Value.bool hb2) ?_
   refine Rk 10 [12,0,9] [(12,.bool (decide (65≤a0))),(0,.int .u8 a0),(9,.bool false)] ?_
   rcases bool_cases (decide (65≤a0)) with hb3 | hb3
   ·replace heq:=bif_true hb3 heq
    refine RgH.val1 (v':=.bool true) (congrArg Value.bool hb3) ?_
    refine Rk 15 [17,0] [(17,.bool (decide (a0≤90))),(0,.int .u8 a0)] ?_
    rcases bool_cases (decide (a0≤90)) with hb4 | hb4
    ·replace heq:=bif_true hb4 heq
     refine RgH.val1 (v':=.bool true) (congrArg Value.bool hb4) ?_
     refine Rk 28 [2] [(2,.bool true)] ?_
     obtain rfl:=Option.some.inj heq
     refine Kg [2] [(2,.bool true)]<|Dn ?_
     exact K1
    ·replace heq:=bif_false hb4 heq
     refine RgH.val1 (v':=.bool false) (congrArg Value.bool hb4) ?_
     refine Rk 18 [20,0,17] [(20,.bool (decide (48≤a0))),(0,.int .u8 a0),(17,.bool false)] ?_
     rcases bool_cases (decide (48≤a0)) with hb5 | hb5
     ·replace heq:=bif_true hb5 heq
      refine RgH.val1 (v':=.bool true) (congrArg Value.bool hb5) ?_
      refine Rk 23 [25,0] [(25,.bool (decide (a0≤57))),(0,.int .u8 a0)] ?_
      rcases bool_cases (decide (a0≤57)) with hb6 | hb6
      ·replace heq:=bif_true hb6 heq
       refine RgH.val1 (v':=.bool true) (congrArg Value.bool hb6) ?_
       refine Rk 28 [2] [(2,.bool true)] ?_
       obtain rfl:=Option.some.inj heq
       refine Kg [2] [(2,.bool true)]<|Dn ?_
       exact K1
      ·replace heq:=bif_false hb6 heq
       refine RgH.val1 (v':=.bool false) (congrArg Value.bool hb6) ?_
       refine Rk 24 [25,26] [(25,.bool false),(26,.int .u8 a0)] ?_
       obtain ⟨y1,hy1,heq⟩:=bind_some heq
       refine RgH.does (DoesH.call (d:=27) (g:=55) (args:=#[.string ({ data:=#[46,95,45,43] }:ByteArray),.int .u8 a0]) (by kernel_rfl) (strings_IndexByte_c (a0:=({ data:=#[46,95,45,43] }:ByteArray)) (a1:=a0)  hy1)) ?_
       rintro _ _ _ _ ⟨_,rfl,rfl,rfl,rfl⟩
       refine Rk 28 [2] [(2,.bool (decide (0≤y1)))] ?_
       obtain rfl:=Option.some.inj heq
       refine Kg [2] [(2,.bool (decide (0≤y1)))]<|Dn ?_
       exact K1
     ·replace heq:=bif_false hb5 heq
      refine RgH.val1 (v':=.bool false) (congrArg Value.bool hb5) ?_
      refine Rk 24 [25,26] [(25,.bool false),(26,.int .u8 a0)] ?_
      obtain ⟨y2,hy2,heq⟩:=bind_some heq
      refine RgH.does (DoesH.call (d:=27) (g:=55) (args:=#[.string ({ data:=#[46,95,45,43] }:ByteArray),.int .u8 a0]) (by kernel_rfl) (strings_IndexByte_c (a0:=({ data:=#[46,95,45,43] }:ByteArray)) (a1:=a0)  hy2)) ?_
      rintro _ _ _ _ ⟨_,rfl,rfl,rfl,rfl⟩
      refine Rk 28 [2] [(2,.bool (decide (0≤y2)))] ?_
      obtain rfl:=Option.some.inj heq
      refine Kg [2] [(2,.bool (decide (0≤y2)))]<|Dn ?_
      exact K1
   ·replace heq:=bif_false hb3 heq
    refine RgH.val1 (v':=.bool false) (congrArg Value.bool hb3) ?_
    refine Rk 18 [20,0,17] [(20,.bool (decide (48≤a0))),(0,.int .u8 a0),(17,.bool false)] ?_
    rcases bool_cases (decide (48≤a0)) with hb7 | hb7
    ·replace heq:=bif_true hb7 heq
     refine RgH.val1 (v':=.bool true) (congrArg Value.bool hb7) ?_
     refine Rk 23 [25,0] [(25,.bool (decide (a0≤57))),(0,.int .u8 a0)] ?_
     rcases bool_cases (decide (a0≤57)) with hb8 | hb8
     ·replace heq:=bif_true hb8 heq
      refine RgH.val1 (v':=.bool true) (congrArg Value.bool hb8) ?_
      refine Rk 28 [2] [(2,.bool true)] ?_
      obtain rfl:=Option.some.inj heq
      refine Kg [2] [(2,.bool true)]<|Dn ?_
      exact K1
     ·replace heq:=bif_false hb8 heq
      refine RgH.val1 (v':=.bool false) (congrArg Value.bool hb8) ?_
      refine Rk 24 [25,26] [(25,.bool false),(26,.int .u8 a0)] ?_
      obtain ⟨y3,hy3,heq⟩:=bind_some heq
      refine RgH.does (DoesH.call (d:=27) (g:=55) (args:=#[.string ({ data:=#[46,95,45,43] }:ByteArray),.int .u8 a0]) (by kernel_rfl) (strings_IndexByte_c (a0:=({ data:=#[46,95,45,43] }:ByteArray)) (a1:=a0)  hy3)) ?_
      rintro _ _ _ _ ⟨_,rfl,rfl,rfl,rfl⟩
      refine Rk 28 [2] [(2,.bool (decide (0≤y3)))] ?_
      obtain rfl:=Option.some.inj heq
      refine Kg [2] [(2,.bool (decide (0≤y3)))]<|Dn ?_
      exact K1
    ·replace heq:=bif_false hb7 heq
     refine RgH.val1 (v':=.bool false) (congrArg Value.bool hb7) ?_
     refine Rk 24 [25,26] [(25,.bool false),(26,.int .u8 a0)] ?_
     obtain ⟨y4,hy4,heq⟩:=bind_some heq
     refine RgH.does (DoesH.call (d:=27) (g:=55) (args:=#[.string ({ data:=#[46,95,45,43] }:ByteArray),.int .u8 a0]) (by kernel_rfl) (strings_IndexByte_c (a0:=({ data:=#[46,95,45,43] }:ByteArray)) (a1:=a0)  hy4)) ?_
     rintro _ _ _ _ ⟨_,rfl,rfl,rfl,rfl⟩
     refine Rk 28 [2] [(2,.bool (decide (0≤y4)))] ?_
     obtain rfl:=Option.some.inj heq
     refine Kg [2] [(2,.bool (decide (0≤y4)))]<|Dn ?_
     exact K1
 ·replace heq:=bif_false hb1 heq
  refine RgH.val1 (v':=.bool false) (congrArg Value.bool hb1) ?_
  refine Rk 10 [12,0,9] [(12,.bool (decide (65≤a0))),(0,.int .u8 a0),(9,.bool false)] ?_
  rcases bool_cases (decide (65≤a0)) with hb9 | hb9
  ·replace heq:=bif_true hb9 heq
   refine RgH.val1 (v':=.bool true) (congrArg Value.bool hb9) ?_
   refine Rk 15 [17,0] [(17,.bool (decide (a0≤90))),(0,.int .u8 a0)] ?_
   rcases bool_cases (decide (a0≤90)) with hb10 | hb10
   ·replace heq:=bif_true hb10 heq
    refine RgH.val1 (v':=.bool true) (congrArg Value.bool hb10) ?_
    refine Rk 28 [2] [(2,.bool true)] ?_
    obtain rfl:=Option.some.inj heq
    refine Kg [2] [(2,.bool true)]<|Dn ?_
    exact K1
   ·replace heq:=bif_false hb10 heq
    refine RgH.val1 (v':=.bool false) (congrArg Value.bool hb10) ?_
    refine Rk 18 [20,0,17] [(20,.bool (decide (48≤a0))),(0,.int .u8 a0),(17,.bool false)] ?_
    rcases bool_cases (decide (48≤a0)) with hb11 | hb11
    ·replace heq:=bif_true hb11 heq
     refine RgH.val1 (v':=.bool true) (congrArg Value.bool hb11) ?_
     refine Rk 23 [25,0] [(25,.bool (decide (a0≤57))),(0,.int .u8 a0)] ?_
     rcases bool_cases (decide (a0≤57)) with hb12 | hb12
     ·replace heq:=bif_true hb12 heq
      refine RgH.val1 (v':=.bool true) (congrArg Value.bool hb12) ?_
      refine Rk 28 [2] [(2,.bool true)] ?_
      obtain rfl:=Option.some.inj heq
      refine Kg [2] [(2,.bool true)]<|Dn ?_
      exact K1
     ·replace heq:=bif_false hb12 heq
      refine RgH.val1 (v':=.bool false) (congrArg Value.bool hb12) ?_
      refine Rk 24 [25,26] [(25,.bool false),(26,.int .u8 a0)] ?_
      obtain ⟨y5,hy5,heq⟩:=bind_some heq
      refine RgH.does (DoesH.call (d:=27) (g:=55) (args:=#[.string ({ data:=#[46,95,45,43] }:ByteArray),.int .u8 a0]) (by kernel_rfl) (strings_IndexByte_c (a0:=({ data:=#[46,95,45,43] }:ByteArray)) (a1:=a0)  hy5)) ?_
      rintro _ _ _ _ ⟨_,rfl,rfl,rfl,rfl⟩
      refine Rk 28 [2] [(2,.bool (decide (0≤y5)))] ?_
      obtain rfl:=Option.some.inj heq
      refine Kg [2] [(2,.bool (decide (0≤y5)))]<|Dn ?_
      exact K1
    ·replace heq:=bif_false hb11 heq
     refine RgH.val1 (v':=.bool false) (congrArg Value.bool hb11) ?_
     refine Rk 24 [25,26] [(25,.bool false),(26,.int .u8 a0)] ?_
     obtain ⟨y6,hy6,heq⟩:=bind_some heq
     refine RgH.does (DoesH.call (d:=27) (g:=55) (args:=#[.string ({ data:=#[46,95,45,43] }:ByteArray),.int .u8 a0]) (by kernel_rfl) (strings_IndexByte_c (a0:=({ data:=#[46,95,45,43] }:ByteArray)) (a1:=a0)  hy6)) ?_
     rintro _ _ _ _ ⟨_,rfl,rfl,rfl,rfl⟩
     refine Rk 28 [2] [(2,.bool (decide (0≤y6)))] ?_
     obtain rfl:=Option.some.inj heq
     refine Kg [2] [(2,.bool (decide (0≤y6)))]<|Dn ?_
     exact K1
  ·replace heq:=bif_false hb9 heq
   refine RgH.val1 (v':=.bool false) (congrArg Value.bool hb9) ?_
   refine Rk 18 [20,0,17] [(20,.bool (decide (48≤a0))),(0,.int .u8 a0),(17,.bool false)] ?_
   rcases bool_cases (decide (48≤a0)) with hb13 | hb13
   ·replace heq:=bif_true hb13 heq
    refine RgH.val1 (v':=.bool true) (congrArg Value.bool hb13) ?_
    refine Rk 23 [25,0] [(25,.bool (decide (a0≤57))),(0,.int .u8 a0)] ?_
    rcases bool_cases (decide (a0≤57)) with hb14 | hb14
    ·replace heq:=bif_true hb14 heq
     refine RgH.val1 (v':=.bool true) (congrArg Value.bool hb14) ?_
     refine Rk 28 [2] [(2,.bool true)] ?_
     obtain rfl:=Option.some.inj heq
     refine Kg [2] [(2,.bool true)]<|Dn ?_
     exact K1
    ·replace heq:=bif_false hb14 heq
     refine RgH.val1 (v':=.bool false) (congrArg Value.bool hb14) ?_
     refine Rk 24 [25,26] [(25,.bool false),(26,.int .u8 a0)] ?_
     obtain ⟨y7,hy7,heq⟩:=bind_some heq
     refine RgH.does (DoesH.call (d:=27) (g:=55) (args:=#[.string ({ data:=#[46,95,45,43] }:ByteArray),.int .u8 a0]) (by kernel_rfl) (strings_IndexByte_c (a0:=({ data:=#[46,95,45,43] }:ByteArray)) (a1:=a0)  hy7)) ?_
     rintro _ _ _ _ ⟨_,rfl,rfl,rfl,rfl⟩
     refine Rk 28 [2] [(2,.bool (decide (0≤y7)))] ?_
     obtain rfl:=Option.some.inj heq
     refine Kg [2] [(2,.bool (decide (0≤y7)))]<|Dn ?_
     exact K1
   ·replace heq:=bif_false hb13 heq
    refine RgH.val1 (v':=.bool false) (congrArg Value.bool hb13) ?_
    refine Rk 24 [25,26] [(25,.bool false),(26,.int .u8 a0)] ?_
    obtain ⟨y8,hy8,heq⟩:=bind_some heq
    refine RgH.does (DoesH.call (d:=27) (g:=55) (args:=#[.string ({ data:=#[46,95,45,43] }:ByteArray),.int .u8 a0]) (by kernel_rfl) (strings_IndexByte_c (a0:=({ data:=#[46,95,45,43] }:ByteArray)) (a1:=a0)  hy8)) ?_
    rintro _ _ _ _ ⟨_,rfl,rfl,rfl,rfl⟩
    refine Rk 28 [2] [(2,.bool (decide (0≤y8)))] ?_
    obtain rfl:=Option.some.inj heq
    refine Kg [2] [(2,.bool (decide (0≤y8)))]<|Dn ?_
    exact K1
noncomputable def C40:Ctx:={ P:=Tryd.prog,f:=40,N:=25,c:=bodyOf Tryd.f40 }
def S40 (F:List Ch) (H0:Hp) (r:Bool) (v:Value) (H:Hp) (cs:List Ch):Prop:=H0=H∧v=.bool r∧F=cs
theorem blob_isPart.e1_c {w0:World} [GlobI 0 w0] {H:Hp} {F:List Ch} {r:Bool}:∀ (a0:ByteArray) ,blob_isPart.e1 a0=some r→RunH C40 (S40 F H r) H w0 [.c [1,1,0],.c [1,1,1]] [(0,.string a0)] H (F):=by
 intro a0  heq
 unfold blob_isPart.e1 at heq
 obtain ⟨t1,ht1,heq⟩:=bind_some heq
 have K1:RunH C40 (S40 F H r) H w0 [.c [1,1,1]] [(2,.bool t1)] H (F):=by
  obtain rfl:=Option.some.inj heq
  exact RunH.done (by kernel_rfl) Tryd.func40 (v:=.bool t1) (by kernel_rfl) ⟨rfl,rfl,rfl⟩
 replace heq:=ht1
 refine Rr<|Rk 3 [17,0] [(17,.bool (!sEq a0 ({ data:=#[] }:ByteArray))),(0,.string a0)] ?_
 rcases bool_cases (!sEq a0 ({ data:=#[] }:ByteArray)) with hb1 | hb1
 ·replace heq:=bif_true hb1 heq
  refine RgH.val1 (v':=.bool true) (congrArg Value.bool hb1) ?_
  refine Rk 7 [21,0] [(21,.bool (!sEq a0 ({ data:=#[46] }:ByteArray))),(0,.string a0)] ?_
  rcases bool_cases (!sEq a0 ({ data:=#[46] }:ByteArray)) with hb2 | hb2
  ·replace heq:=bif_true hb2 heq
   refine RgH.val1 (v':=.bool true) (congrArg Value.bool hb2) ?_
   refine Rk 11 [2] [(2,.bool (!sEq a0 ({ data:=#[46,46] }:ByteArray)))] ?_
   obtain rfl:=Option.some.inj heq
   refine Kg [2] [(2,.bool (!sEq a0 ({ data:=#[46,46] }:ByteArray)))]<|Dn ?_
   exact K1
  ·replace heq:=bif_false hb2 heq
   refine RgH.val1 (v':=.bool false) (congrArg Value.bool hb2) ?_
   refine Rk 11 [2] [(2,.bool false)] ?_
   obtain rfl:=Option.some.inj heq
   refine Kg [2] [(2,.bool false)]<|Dn ?_
   exact K1
 ·replace heq:=bif_false hb1 heq
  refine RgH.val1 (v':=.bool false) (congrArg Value.bool hb1) ?_
  refine Rk 11 [2] [(2,.bool false)] ?_
  obtain rfl:=Option.some.inj heq
  refine Kg [2] [(2,.bool false)]<|Dn ?_
  exact K1
theorem blob_isPart.l2_c {w0:World} [GlobI 0 w0] {H:Hp} {F:List Ch} {r:Bool} (e1:ByteArray→Option Bool)
  (he1:∀ (a0:ByteArray) ,e1 a0=some r→RunH C40 (S40 F H r) H w0 [.c [1,1,0],.c [1,1,1]] [(0,.string a0)] H (F)):∀ (k:Nat),∀ (a0:ByteArray) (v6:Int) ,blob_isPart.l2 e1 k a0 v6=some r→RunH C40 (S40 F H r) H w0 [.c [1,0,1,0,0],.l [1,0,1,0,0],.b 0,.c [1,1]] [(0,.string a0),(5,iv (a0.size:Int)),(6,iv v6)] H (F):=by
 intro k
 induction k with
 | zero=>intro a0 v6  heq; exact nomatch (show (none:Option Bool)=some r from heq)
 | succ k ihk =>
  intro a0 v6  heq
  rw [blob_isPart.l2] at heq
  refine Ra 1 [1,0,1,0,0,0] [.c [1,0,1,0,0,1],.l [1,0,1,0,0],.b 0,.c [1,1]]<|Rd 1 [0,5,6,7] [(0,.string a0),(5,iv (a0.size:Int)),(6,iv v6),(7,.bool (decide (v6<(a0.size:Int))))]<|Ad 1 [.c [1,0,1,0,0,1,0],.c [1,0,1,0,0,1,1],.l [1,0,1,0,0],.b 0,.c [1,1]] ?_
  rcases bool_cases (decide (v6<(a0.size:Int))) with hb3 | hb3
  ·replace heq:=bif_true hb3 heq
   refine Ct (decide (v6<(a0.size:Int))) hb3<|Ra 4 [1,0,1,0,0,1,1,0,0,0] [.c [1,0,1,0,0,1,1,0,0,1],.b 1,.c [1,0,1,0,0,1,1,1],.l [1,0,1,0,0],.b 0,.c [1,1]]<|Rd 2 [0,3,5,6] [(0,.string a0),(3,iv v6),(5,iv (a0.size:Int)),(6,iv v6)]<|Ra 1 [1,0,1,0,0,1,1,0,0,1,0] [.c [1,0,1,0,0,1,1,0,0,1,1],.b 1,.c [1,0,1,0,0,1,1,1],.l [1,0,1,0,0],.b 0,.c [1,1]] ?_
   obtain ⟨hn1,heq⟩:=guard?_some heq
   refine Rv 3 [0,5,6,11] [] [.need ((0:Int)≤v6∧v6<(a0.size:Int))] [(0,.string a0),(5,iv (a0.size:Int)),(6,iv v6),(11,.int .u8 (bt a0 v6))] (fun w hh=>(both_of hn1)) ?_
   obtain ⟨y1,hy1,heq⟩:=bind_some heq
   refine RgH.does (DoesH.call (d:=12) (g:=50) (args:=#[.int .u8 (bt a0 v6)]) (by kernel_rfl) (blob_inPart_c (a0:=bt a0 v6)  hy1)) ?_
   rintro _ _ _ _ ⟨_,rfl,rfl,rfl,rfl⟩
   refine Rd 5 [0,5,6,13] [(0,.string a0),(5,iv (a0.size:Int)),(6,iv v6),(13,.bool (!y1))] ?_
   rcases bool_cases (!y1) with hb4 | hb4
   ·replace heq:=bif_true hb4 heq
    refine Ct (!y1) hb4<|Ra 1 [1,0,1,0,0,1,1,0,0,1,1,0,0] [.c [1,0,1,0,0,1,1,0,0,1,1,0,1],.b 1,.c [1,0,1,0,0,1,1,1],.l [1,0,1,0,0],.b 0,.c [1,1]]<|Rd 1 [2] [(2,.bool false)] ?_
    obtain rfl:=Option.some.inj heq
    exact RunH.done (by kernel_rfl) Tryd.func40 (v:=.bool false) (by kernel_rfl) ⟨rfl,rfl,rfl⟩
   ·replace heq:=bif_false hb4 heq
    refine Cf (!y1) hb4<|Ra 2 [1,0,1,0,0,1,1,1] [.l [1,0,1,0,0],.b 0,.c [1,1]]<|Rd 2 [0,5,6] [(0,.string a0),(5,iv (a0.size:Int)),(6,iv (w64 (v6+1)))]<|Ad 1 [.c [1,0,1,0,0],.l [1,0,1,0,0],.b 0,.c [1,1]]<|Kp [0,5,6] [(0,.string a0),(5,iv (a0.size:Int)),(6,iv (w64 (v6+1)))] ?_
    exact ihk a0 (w64 (v6+1)) heq
  ·replace heq:=bif_false hb3 heq
   refine Cf (decide (v6<(a0.size:Int))) hb3<|Ad 2 [.c [1,1,0],.c [1,1,1]]<|Kp [0] [(0,.string a0)] ?_
   exact he1 a0 heq
theorem blob_isPart_c {w0:World} [GlobI 0 w0] {H:Hp} {F:List Ch} {a0:ByteArray} {r:Bool} (heq:blob_isPart.f a0=some r):CallsH Tryd.prog 40 #[.string a0] H w0 (F) (S40 F H r):=by
 refine calls_of_runH (F:=C40) Tryd.func40 (by kernel_rfl) Tryd.ntmps40 (args:=[.string a0]) (by kernel_rfl) ?_
 unfold blob_isPart.f at heq
 refine Ra 1 [0] [.c [1]]<|Rd 1 [0] [(0,.string a0)]<|Ra 2 [1,0,0] [.c [1,0,1],.c [1,1]]<|Rd 3 [0,5,6] [(0,.string a0),(5,iv (a0.size:Int)),(6,iv 0)]<|Ad 2 [.c [1,0,1,0,0],.l [1,0,1,0,0],.b 0,.c [1,1]]<|Kp [0,5,6] [(0,.string a0),(5,iv (a0.size:Int)),(6,iv 0)] ?_
 exact ((blob_isPart.l2_c (e1:=blob_isPart.e1) (blob_isPart.e1_c)) big) a0 0 heq
noncomputable def C18:Ctx:={ P:=Tryd.prog,f:=18,N:=24,c:=bodyOf Tryd.f18 }
def S18 (F:List Ch) (H0:Hp) (r:Bool) (v:Value) (H:Hp) (cs:List Ch):Prop:=H0=H∧v=.bool r∧F=cs
theorem blob_IsPath.e1_c {w0:World} [GlobI 0 w0] {H:Hp} {F:List Ch} {r:Bool}:blob_IsPath.e1=some r→RunH C18 (S18 F H r) H w0 [.c [1,1,1,0],.c [1,1,1,1]] [] H (F):=by
 intro   heq
 unfold blob_IsPath.e1 at heq
 refine Rr<|Rd 1 [2] [(2,.bool true)] ?_
 obtain rfl:=Option.some.inj heq
 exact RunH.done (by kernel_rfl) Tryd.func18 (v:=.bool true) (by kernel_rfl) ⟨rfl,rfl,rfl⟩
theorem blob_IsPath.l2_c {w0:World} [GlobI 0 w0] {H:Hp} {F:List Ch} {r:Bool} (e1:Option Bool)
  (he1:e1=some r→RunH C18 (S18 F H r) H w0 [.c [1,1,1,0],.c [1,1,1,1]] [] H (F)):∀ (k:Nat),∀ (y1:List ByteArray) (A1:Option Addr) (c1:Nat) (ch1:Ch) (v16:Int) ,SlOwn Kd.string 9 H A1 c1 y1 ch1→blob_IsPath.l2 e1 k y1 v16=some r→RunH C18 (S18 F H r) H w0 [.c [1,1,0,1,0,0],.l [1,1,0,1,0,0],.b 0,.c [1,1,1]] [(14,.slice A1 y1.length c1),(15,iv (y1.length:Int)),(16,iv v16)] H (ch1::F):=by
 intro k
 induction k with
 | zero=>intro y1 A1 c1 ch1 v16 ho1 heq; exact nomatch (show (none:Option Bool)=some r from heq)
 | succ k ihk =>
  intro y1 A1 c1 ch1 v16 ho1 heq
  rw [blob_IsPath.l2] at heq
  refine Ra 1 [1,1,0,1,0,0,0] [.c [1,1,0,1,0,0,1],.l [1,1,0,1,0,0],.b 0,.c [1,1,1]]<|Rd 1 [14,15,16,17] [(14,.slice A1 y1.length c1),(15,iv (y1.length:Int)),(16,iv v16),(17,.bool (decide (v16<(y1.length:Int))))]<|Ad 1 [.c [1,1,0,1,0,0,1,0],.c [1,1,0,1,0,0,1,1],.l [1,1,0,1,0,0],.b 0,.c [1,1,1]] ?_
  rcases bool_cases (decide (v16<(y1.length:Int))) with hb3 | hb3
  ·replace heq:=bif_true hb3 heq
   refine Ct (decide (v16<(y1.length:Int))) hb3<|Ra 4 [1,1,0,1,0,0,1,1,0,0,0] [.c [1,1,0,1,0,0,1,1,0,0,1],.b 1,.c [1,1,0,1,0,0,1,1,1],.l [1,1,0,1,0,0],.b 0,.c [1,1,1]] ?_
   obtain ⟨x1,hx1,heq⟩:=bind_some heq
   obtain ⟨ha1,cs1,hK1,hcc1⟩:=ho1.get hx1
   obtain rfl:cs1=[.string x1]:=hK1
   refine Rw' 3 [4,14,15,16] [.string x1] [.need (A1=some (adr A1)∧(0:Int)≤v16∧v16<((y1.length:Nat):Int)),.load ((adr A1).add (v16.toNat*1)) (.string x1)] [(4,.string x1),(14,.slice A1 y1.length c1),(15,iv (y1.length:Int)),(16,iv v16)] (fun w hh=>⟨⟨ha1,(at?_some hx1).1,(at?_some hx1).2.1⟩,(hcc1 _ (hh.chin 0 rfl) 0 _ rfl)⟩)<|Ra 1 [1,1,0,1,0,0,1,1,0,0,1,0] [.c [1,1,0,1,0,0,1,1,0,0,1,1],.b 1,.c [1,1,0,1,0,0,1,1,1],.l [1,1,0,1,0,0],.b 0,.c [1,1,1]]<|Rk 1 [14,15,16,20] [(14,.slice A1 y1.length c1),(15,iv (y1.length:Int)),(16,iv v16),(20,.string x1)] ?_
   obtain ⟨y2,hy2,heq⟩:=bind_some heq
   refine RgH.does (DoesH.call (d:=21) (g:=40) (args:=#[.string x1]) (by kernel_rfl) (blob_isPart_c (a0:=x1)  hy2)) ?_
   rintro _ _ _ _ ⟨_,rfl,rfl,rfl,rfl⟩
   refine Rd 3 [14,15,16,22] [(14,.slice A1 y1.length c1),(15,iv (y1.length:Int)),(16,iv v16),(22,.bool (!y2))] ?_
   rcases bool_cases (!y2) with hb4 | hb4
   ·replace heq:=bif_true hb4 heq
    refine Ct (!y2) hb4<|Ra 1 [1,1,0,1,0,0,1,1,0,0,1,1,0,0] [.c [1,1,0,1,0,0,1,1,0,0,1,1,0,1],.b 1,.c [1,1,0,1,0,0,1,1,1],.l [1,1,0,1,0,0],.b 0,.c [1,1,1]]<|Rd 1 [2] [(2,.bool false)] ?_
    obtain rfl:=Option.some.inj heq
    refine RunH.pick 1 [] (cs':=F) (by kernel_rfl) rfl ?_
    exact RunH.done (by kernel_rfl) Tryd.func18 (v:=.bool false) (by kernel_rfl) ⟨rfl,rfl,rfl⟩
   ·replace heq:=bif_false hb4 heq
    refine Cf (!y2) hb4<|Ra 2 [1,1,0,1,0,0,1,1,1] [.l [1,1,0,1,0,0],.b 0,.c [1,1,1]]<|Rd 2 [14,15,16] [(14,.slice A1 y1.length c1),(15,iv (y1.length:Int)),(16,iv (w64 (v16+1)))]<|Ad 1 [.c [1,1,0,1,0,0],.l [1,1,0,1,0,0],.b 0,.c [1,1,1]]<|Kp [14,15,16] [(14,.slice A1 y1.length c1),(15,iv (y1.length:Int)),(16,iv (w64 (v16+1)))] ?_
    exact ihk y1 _ _ _ (w64 (v16+1)) ho1 heq
  ·replace heq:=bif_false hb3 heq
   refine Cf (decide (v16<(y1.length:Int))) hb3<|Ad 2 [.c [1,1,1,0],.c [1,1,1,1]]<|Kp [] [] ?_
   refine RunH.pick 1 [] (cs':=F) (by kernel_rfl) rfl ?_
   exact he1 heq
theorem blob_IsPath_c {w0:World} [GlobI 0 w0] {H:Hp} {F:List Ch} {a0:ByteArray} {r:Bool} (heq:blob_IsPath.f a0=some r):CallsH Tryd.prog 18 #[.string a0] H w0 (F) (S18 F H r):=by
 refine calls_of_runH (F:=C18) Tryd.func18 (by kernel_rfl) Tryd.ntmps18 (args:=[.string a0]) (by kernel_rfl) ?_
 unfold blob_IsPath.f at heq
 refine Ra 1 [0] [.c [1]]<|Rd 1 [0] [(0,.string a0)]<|Ad 2 [.c [1,0,0],.c [1,0,1],.c [1,1]] ?_
 obtain ⟨t1,ht1,heq⟩:=bind_some heq
 have K1:RunH C18 (S18 F H r) H w0 [.c [1,0,1],.c [1,1]] [(0,.string a0),(12,.bool t1)] H (F):=by
  rcases bool_cases (t1) with hb2 | hb2
  ·replace heq:=bif_true hb2 heq
   refine Ct t1 hb2<|Ra 1 [1,0,1,0,0] [.c [1,0,1,0,1],.c [1,1]]<|Rd 1 [2] [(2,.bool false)] ?_
   obtain rfl:=Option.some.inj heq
   exact RunH.done (by kernel_rfl) Tryd.func18 (v:=.bool false) (by kernel_rfl) ⟨rfl,rfl,rfl⟩
  ·replace heq:=bif_false hb2 heq
   refine Cf t1 hb2<|Ra 3 [1,1,0,0] [.c [1,1,0,1],.c [1,1,1]]<|Rk 1 [13] [(13,.string a0)] ?_
   obtain ⟨y1,hy1,heq⟩:=bind_some heq
   refine RgH.does (DoesH.call (d:=14) (g:=39) (args:=#[.string a0,.string ({ data:=#[47] }:ByteArray)]) (by kernel_rfl) (strings_Split_c (a0:=a0) (a1:=({ data:=#[47] }:ByteArray))  hy1)) ?_
   rintro _ _ _ _ ⟨_,rfl,A1,c1,ch1,rfl,rfl,rfl,ho1⟩
   refine Rd 4 [14,15,16] [(14,.slice A1 y1.length c1),(15,iv (y1.length:Int)),(16,iv 0)]<|Ad 2 [.c [1,1,0,1,0,0],.l [1,1,0,1,0,0],.b 0,.c [1,1,1]]<|Kp [14,15,16] [(14,.slice A1 y1.length c1),(15,iv (y1.length:Int)),(16,iv 0)] ?_
   exact ((blob_IsPath.l2_c (e1:=blob_IsPath.e1) (blob_IsPath.e1_c)) big) y1 _ _ _ 0 ho1 heq
 replace heq:=ht1
 refine Rr<|Rk 4 [8,0] [(8,.bool (decide ((a0.size:Int)<1))),(0,.string a0)] ?_
 rcases bool_cases (decide ((a0.size:Int)<1)) with hb1 | hb1
 ·replace heq:=bif_true hb1 heq
  refine RgH.val1 (v':=.bool true) (congrArg Value.bool hb1) ?_
  refine Rk 8 [0,12] [(0,.string a0),(12,.bool true)] ?_
  obtain rfl:=Option.some.inj heq
  refine Kg [0,12] [(0,.string a0),(12,.bool true)]<|Dn ?_
  exact K1
 ·replace heq:=bif_false hb1 heq
  refine RgH.val1 (v':=.bool false) (congrArg Value.bool hb1) ?_
  refine Rk 8 [0,12] [(0,.string a0),(12,.bool (decide (200<(a0.size:Int))))] ?_
  obtain rfl:=Option.some.inj heq
  refine Kg [0,12] [(0,.string a0),(12,.bool (decide (200<(a0.size:Int))))]<|Dn ?_
  exact K1
noncomputable def C19:Ctx:={ P:=Tryd.prog,f:=19,N:=27,c:=bodyOf Tryd.f19 }
def S19 (F:List Ch) (H0:Hp) (r:Int) (v:Value) (H:Hp) (cs:List Ch):Prop:=H0=H∧v=iv r∧F=cs
theorem trials_checkPaths.e1_c {w0:World} [GlobI 0 w0] {H:Hp} {F:List Ch} {r:Int}:trials_checkPaths.e1=some r→RunH C19 (S19 F H r) H w0 [.c [1,1,0],.c [1,1,1]] [] H (F):=by
 intro   heq
 unfold trials_checkPaths.e1 at heq
 refine Rr<|Rd 1 [2] [(2,iv 0)] ?_
 obtain rfl:=Option.some.inj heq
 exact RunH.done (by kernel_rfl) Tryd.func19 (v:=iv 0) (by kernel_rfl) ⟨rfl,rfl,rfl⟩
theorem trials_checkPaths.l2_c {w0:World} [GlobI 0 w0] {H:Hp} {F:List Ch} {r:Int} (e1:Option Int)
  (he1:e1=some r→RunH C19 (S19 F H r) H w0 [.c [1,1,0],.c [1,1,1]] [] H (F)):∀ (k:Nat),∀ (a0:List ByteArray) (Aa0:Option Addr) (ca0:Nat) (v7:Int) ,Rw Kd.string H F Aa0 a0→a0.length≤ca0→trials_checkPaths.l2 e1 k a0 v7=some r→RunH C19 (S19 F H r) H w0 [.c [1,0,1,0,0],.l [1,0,1,0,0],.b 0,.c [1,1]] [(0,.slice Aa0 a0.length ca0),(5,.slice Aa0 a0.length ca0),(6,iv (a0.length:Int)),(7,iv v7)] H (F):=by
 intro k
 induction k with
 | zero=>intro a0 Aa0 ca0 v7 hra0 hca0 heq; exact nomatch (show (none:Option Int)=some r from heq)
 | succ k ihk =>
  intro a0 Aa0 ca0 v7 hra0 hca0 heq
  rw [trials_checkPaths.l2] at heq
  refine Ra 1 [1,0,1,0,0,0] [.c [1,0,1,0,0,1],.l [1,0,1,0,0],.b 0,.c [1,1]]<|Rd 1 [0,5,6,7,8] [(0,.slice Aa0 a0.length ca0),(5,.slice Aa0 a0.length ca0),(6,iv (a0.length:Int)),(7,iv v7),(8,.bool (decide (v7<(a0.length:Int))))]<|Ad 1 [.c [1,0,1,0,0,1,0],.c [1,0,1,0,0,1,1],.l [1,0,1,0,0],.b 0,.c [1,1]] ?_
  rcases bool_cases (decide (v7<(a0.length:Int))) with hb1 | hb1
  ·replace heq:=bif_true hb1 heq
   refine Ct (decide (v7<(a0.length:Int))) hb1<|Ra 4 [1,0,1,0,0,1,1,0,0,0] [.c [1,0,1,0,0,1,1,0,0,1],.b 1,.c [1,0,1,0,0,1,1,1],.l [1,0,1,0,0],.b 0,.c [1,1]] ?_
   obtain ⟨x1,hx1,heq⟩:=bind_some heq
   obtain ⟨ha1,cs1,hK1,hcc1⟩:=hra0.get hx1
   obtain rfl:cs1=[.string x1]:=hK1
   refine Rw' 5 [0,3,4,5,6,7] [.string x1] [.need (Aa0=some (adr Aa0)∧(0:Int)≤v7∧v7<((a0.length:Nat):Int)),.load ((adr Aa0).add (v7.toNat*1)) (.string x1)] [(0,.slice Aa0 a0.length ca0),(3,iv v7),(4,.string x1),(5,.slice Aa0 a0.length ca0),(6,iv (a0.length:Int)),(7,iv v7)] (fun w hh=>⟨⟨ha1,(at?_some hx1).1,(at?_some hx1).2.1⟩,(hcc1 _ _ (hh.drop 0) 0 _ rfl)⟩)<|Ra 2 [1,0,1,0,0,1,1,0,0,1,0,0] [.c [1,0,1,0,0,1,1,0,0,1,0,1],.c [1,0,1,0,0,1,1,0,0,1,1],.b 1,.c [1,0,1,0,0,1,1,1],.l [1,0,1,0,0],.b 0,.c [1,1]]<|Rk 1 [0,3,4,5,6,7,12] [(0,.slice Aa0 a0.length ca0),(3,iv v7),(4,.string x1),(5,.slice Aa0 a0.length ca0),(6,iv (a0.length:Int)),(7,iv v7),(12,.string x1)] ?_
   obtain ⟨y1,hy1,heq⟩:=bind_some heq
   refine RgH.does (DoesH.call (d:=13) (g:=18) (args:=#[.string x1]) (by kernel_rfl) (blob_IsPath_c (a0:=x1)  hy1)) ?_
   rintro _ _ _ _ ⟨_,rfl,rfl,rfl,rfl⟩
   refine Rd 3 [0,3,4,5,6,7,14] [(0,.slice Aa0 a0.length ca0),(3,iv v7),(4,.string x1),(5,.slice Aa0 a0.length ca0),(6,iv (a0.length:Int)),(7,iv v7),(14,.bool (!y1))] ?_
   rcases bool_cases (!y1) with hb2 | hb2
   ·replace heq:=bif_true hb2 heq
    refine Ct (!y1) hb2<|Ra 1 [1,0,1,0,0,1,1,0,0,1,0,1,0,0] [.c [1,0,1,0,0,1,1,0,0,1,0,1,0,1],.c [1,0,1,0,0,1,1,0,0,1,1],.b 1,.c [1,0,1,0,0,1,1,1],.l [1,0,1,0,0],.b 0,.c [1,1]]<|Rd 1 [2] [(2,iv 3)] ?_
    obtain rfl:=Option.some.inj heq
    exact RunH.done (by kernel_rfl) Tryd.func19 (v:=iv 3) (by kernel_rfl) ⟨rfl,rfl,rfl⟩
   ·replace heq:=bif_false hb2 heq
    refine Cf (!y1) hb2<|Ad 2 [.c [1,0,1,0,0,1,1,0,0,1,1,0],.c [1,0,1,0,0,1,1,0,0,1,1,1],.b 1,.c [1,0,1,0,0,1,1,1],.l [1,0,1,0,0],.b 0,.c [1,1]] ?_
    obtain ⟨t1,ht1,heq⟩:=bind_some heq
    have K1:RunH C19 (S19 F H r) H w0 [.c [1,0,1,0,0,1,1,0,0,1,1,1],.b 1,.c [1,0,1,0,0,1,1,1],.l [1,0,1,0,0],.b 0,.c [1,1]] [(0,.slice Aa0 a0.length ca0),(5,.slice Aa0 a0.length ca0),(6,iv (a0.length:Int)),(7,iv v7),(25,.bool t1)] H (F):=by
     rcases bool_cases (t1) with hb4 | hb4
     ·replace heq:=bif_true hb4 heq
      refine Ct t1 hb4<|Ra 1 [1,0,1,0,0,1,1,0,0,1,1,1,0,0] [.c [1,0,1,0,0,1,1,0,0,1,1,1,0,1],.b 1,.c [1,0,1,0,0,1,1,1],.l [1,0,1,0,0],.b 0,.c [1,1]]<|Rd 1 [2] [(2,iv 8)] ?_
      obtain rfl:=Option.some.inj heq
      exact RunH.done (by kernel_rfl) Tryd.func19 (v:=iv 8) (by kernel_rfl) ⟨rfl,rfl,rfl⟩
     ·replace heq:=bif_false hb4 heq
      refine Cf t1 hb4<|Ra 2 [1,0,1,0,0,1,1,1] [.l [1,0,1,0,0],.b 0,.c [1,1]]<|Rd 2 [0,5,6,7] [(0,.slice Aa0 a0.length ca0),(5,.slice Aa0 a0.length ca0),(6,iv (a0.length:Int)),(7,iv (w64 (v7+1)))]<|Ad 1 [.c [1,0,1,0,0],.l [1,0,1,0,0],.b 0,.c [1,1]]<|Kp [0,5,6,7] [(0,.slice Aa0 a0.length ca0),(5,.slice Aa0 a0.length ca0),(6,iv (a0.length:Int)),(7,iv (w64 (v7+1)))] ?_
      exact ihk a0 _ _ (w64 (v7+1)) hra0 hca0 heq
    replace heq:=ht1
    refine Rr<|Rk 3 [17,0,3,4,5,6,7] [(17,.bool (decide (0<v7))),(0,.slice Aa0 a0.length ca0),(3,iv v7),(4,.string x1),(5,.slice Aa0 a0.length ca0),(6,iv (a0.length:Int)),(7,iv v7)] ?_
    rcases bool_cases (decide (0<v7)) with hb3 | hb3
    ·replace heq:=bif_true hb3 heq
     refine RgH.val1 (v':=.bool true) (congrArg Value.bool hb3) ?_
     obtain ⟨x2,hx2,heq⟩:=bind_some heq
     obtain ⟨ha2,cs2,hK2,hcc2⟩:=hra0.get hx2
     obtain rfl:cs2=[.string x2]:=hK2
     refine Rv 11 [0,5,6,7,25] [.string x2] [.need (Aa0=some (adr Aa0)∧(0:Int)≤(w64 (v7 - 1))∧(w64 (v7 - 1))<((a0.length:Nat):Int)),.load ((adr Aa0).add ((w64 (v7 - 1)).toNat*1)) (.string x2)] [(0,.slice Aa0 a0.length ca0),(5,.slice Aa0 a0.length ca0),(6,iv (a0.length:Int)),(7,iv v7),(25,.bool (sLt x1 x2||sEq x1 x2))] (fun w hh=>⟨⟨ha2,(at?_some hx2).1,(at?_some hx2).2.1⟩,(hcc2 _ _ (hh.drop 0) 0 _ rfl)⟩) ?_
     obtain rfl:=Option.some.inj heq
     refine Kg [0,5,6,7,25] [(0,.slice Aa0 a0.length ca0),(5,.slice Aa0 a0.length ca0),(6,iv (a0.length:Int)),(7,iv v7),(25,.bool (sLt x1 x2||sEq x1 x2))]<|Dn ?_
     exact K1
    ·replace heq:=bif_false hb3 heq
     refine RgH.val1 (v':=.bool false) (congrArg Value.bool hb3) ?_
     refine Rk 11 [0,5,6,7,25] [(0,.slice Aa0 a0.length ca0),(5,.slice Aa0 a0.length ca0),(6,iv (a0.length:Int)),(7,iv v7),(25,.bool false)] ?_
     obtain rfl:=Option.some.inj heq
     refine Kg [0,5,6,7,25] [(0,.slice Aa0 a0.length ca0),(5,.slice Aa0 a0.length ca0),(6,iv (a0.length:Int)),(7,iv v7),(25,.bool false)]<|Dn ?_
     exact K1
  ·replace heq:=bif_false hb1 heq
   refine Cf (decide (v7<(a0.length:Int))) hb1<|Ad 2 [.c [1,1,0],.c [1,1,1]]<|Kp [] [] ?_
   exact he1 heq
theorem trials_checkPaths_c {w0:World} [GlobI 0 w0] {H:Hp} {F:List Ch} {a0:List ByteArray} {Aa0:Option Addr} {na0:Nat} {ca0:Nat} {r:Int} (hra0:Rw Kd.string H F Aa0 a0) (hca0:na0≤ca0) (hna0:na0=a0.length) (heq:trials_checkPaths.f a0=some r):CallsH Tryd.prog 19 #[.slice Aa0 na0 ca0] H w0 (F) (S19 F H r):=by
 refine calls_of_runH (F:=C19) Tryd.func19 (by kernel_rfl) Tryd.ntmps19 (args:=[.slice Aa0 na0 ca0]) (by kernel_rfl) ?_
 subst hna0
 unfold trials_checkPaths.f at heq
 refine Ra 1 [0] [.c [1]]<|Rd 1 [0] [(0,.slice Aa0 a0.length ca0)]<|Ra 2 [1,0,0] [.c [1,0,1],.c [1,1]]<|Rd 3 [0,5,6,7] [(0,.slice Aa0 a0.length ca0),(5,.slice Aa0 a0.length ca0),(6,iv (a0.length:Int)),(7,iv 0)]<|Ad 2 [.c [1,0,1,0,0],.l [1,0,1,0,0],.b 0,.c [1,1]]<|Kp [0,5,6,7] [(0,.slice Aa0 a0.length ca0),(5,.slice Aa0 a0.length ca0),(6,iv (a0.length:Int)),(7,iv 0)] ?_
 exact ((trials_checkPaths.l2_c (e1:=trials_checkPaths.e1) (trials_checkPaths.e1_c)) big) a0 _ _ 0 hra0 hca0 heq
noncomputable def C42:Ctx:={ P:=Tryd.prog,f:=42,N:=6,c:=bodyOf Tryd.f42 }
def S42 (F:List Ch) (H0:Hp) (r:Bool) (v:Value) (H:Hp) (cs:List Ch):Prop:=H0=H∧v=.bool r∧F=cs
theorem slices_isNaN_string_c {w0:World} [GlobI 0 w0] {H:Hp} {F:List Ch} {a0:ByteArray} {r:Bool} (heq:slices_isNaN_string.f a0=some r):CallsH Tryd.prog 42 #[.string a0] H w0 (F) (S42 F H r):=by
 refine calls_of_runH (F:=C42) Tryd.func42 (by kernel_rfl) Tryd.ntmps42 (args:=[.string a0]) (by kernel_rfl) ?_
 unfold slices_isNaN_string.f at heq
 refine Ra 1 [0] [.c [1]]<|Rd 1 [0] [(0,.string a0)]<|Ra 1 [1,0] [.c [1,1]]<|Rd 4 [2] [(2,.bool (!sEq a0 a0))] ?_
 obtain rfl:=Option.some.inj heq
 exact RunH.done (by kernel_rfl) Tryd.func42 (v:=.bool (!sEq a0 a0)) (by kernel_rfl) ⟨rfl,rfl,rfl⟩
noncomputable def C48:Ctx:={ P:=Tryd.prog,f:=48,N:=6,c:=bodyOf Tryd.f48 }
def S48 (F:List Ch) (H0:Hp) (r:Bool) (v:Value) (H:Hp) (cs:List Ch):Prop:=H0=H∧v=.bool r∧F=cs
theorem cmp_isNaN_string_c {w0:World} [GlobI 0 w0] {H:Hp} {F:List Ch} {a0:ByteArray} {r:Bool} (heq:cmp_isNaN_string.f a0=some r):CallsH Tryd.prog 48 #[.string a0] H w0 (F) (S48 F H r):=by
 refine calls_of_runH (F:=C48) Tryd.func48 (by kernel_rfl) Tryd.ntmps48 (args:=[.string a0]) (by kernel_rfl) ?_
 unfold cmp_isNaN_string.f at heq
 refine Ra 1 [0] [.c [1]]<|Rd 1 [0] [(0,.string a0)]<|Ra 1 [1,0] [.c [1,1]]<|Rd 4 [2] [(2,.bool (!sEq a0 a0))] ?_
 obtain rfl:=Option.some.inj heq
 exact RunH.done (by kernel_rfl) Tryd.func48 (v:=.bool (!sEq a0 a0)) (by kernel_rfl) ⟨rfl,rfl,rfl⟩
noncomputable def C34:Ctx:={ P:=Tryd.prog,f:=34,N:=17,c:=bodyOf Tryd.f34 }
def S34 (F:List Ch) (H0:Hp) (r:Bool) (v:Value) (H:Hp) (cs:List Ch):Prop:=H0=H∧v=.bool r∧F=cs
theorem cmp_Less_string_c {w0:World} [GlobI 0 w0] {H:Hp} {F:List Ch} {a0:ByteArray} {a1:ByteArray} {r:Bool} (heq:cmp_Less_string.f a0 a1=some r):CallsH Tryd.prog 34 #[.string a0,.string a1] H w0 (F) (S34 F H r):=by
 refine calls_of_runH (F:=C34) Tryd.func34 (by kernel_rfl) Tryd.ntmps34 (args:=[.string a0,.string a1]) (by kernel_rfl) ?_
 unfold cmp_Less_string.f at heq
 refine Ra 1 [0] [.c [1]]<|Rd 1 [0,1] [(0,.string a0),(1,.string a1)]<|Ad 1 [.c [1,0],.c [1,1]] ?_
 obtain ⟨t1,ht1,heq⟩:=bind_some heq
 have K1:RunH C34 (S34 F H r) H w0 [.c [1,1]] [(4,.bool t1)] H (F):=by
  obtain rfl:=Option.some.inj heq
  exact RunH.done (by kernel_rfl) Tryd.func34 (v:=.bool t1) (by kernel_rfl) ⟨rfl,rfl,rfl⟩
 replace heq:=ht1
 refine Rr<|Rk 1 [0,1,5] [(0,.string a0),(1,.string a1),(5,.string a0)] ?_
 obtain ⟨y1,hy1,heq⟩:=bind_some heq
 refine RgH.does (DoesH.call (d:=6) (g:=48) (args:=#[.string a0]) (by kernel_rfl) (cmp_isNaN_string_c (a0:=a0)  hy1)) ?_
 rintro _ _ _ _ ⟨_,rfl,rfl,rfl,rfl⟩
 refine Rk 3 [7,0,1] [(7,.bool y1),(0,.string a0),(1,.string a1)] ?_
 rcases bool_cases (y1) with hb1 | hb1
 ·replace heq:=bif_true hb1 heq
  refine RgH.val1 (v':=.bool true) (congrArg Value.bool hb1) ?_
  refine Rk 4 [0,1,7,8] [(0,.string a0),(1,.string a1),(7,.bool true),(8,.string a1)] ?_
  obtain ⟨y2,hy2,heq⟩:=bind_some heq
  refine RgH.does (DoesH.call (d:=9) (g:=48) (args:=#[.string a1]) (by kernel_rfl) (cmp_isNaN_string_c (a0:=a1)  hy2)) ?_
  rintro _ _ _ _ ⟨_,rfl,rfl,rfl,rfl⟩
  refine Rk 8 [12,0,1] [(12,.bool (!y2)),(0,.string a0),(1,.string a1)] ?_
  rcases bool_cases (!y2) with hb2 | hb2
  ·replace heq:=bif_true hb2 heq
   refine RgH.val1 (v':=.bool true) (congrArg Value.bool hb2) ?_
   refine Rk 13 [4] [(4,.bool true)] ?_
   obtain rfl:=Option.some.inj heq
   refine Kg [4] [(4,.bool true)]<|Dn ?_
   exact K1
  ·replace heq:=bif_false hb2 heq
   refine RgH.val1 (v':=.bool false) (congrArg Value.bool hb2) ?_
   refine Rk 13 [4] [(4,.bool (sLt a0 a1))] ?_
   obtain rfl:=Option.some.inj heq
   refine Kg [4] [(4,.bool (sLt a0 a1))]<|Dn ?_
   exact K1
 ·replace heq:=bif_false hb1 heq
  refine RgH.val1 (v':=.bool false) (congrArg Value.bool hb1) ?_
  refine Rk 13 [4] [(4,.bool (sLt a0 a1))] ?_
  obtain rfl:=Option.some.inj heq
  refine Kg [4] [(4,.bool (sLt a0 a1))]<|Dn ?_
  exact K1
noncomputable def C22:Ctx:={ P:=Tryd.prog,f:=22,N:=54,c:=bodyOf Tryd.f22 }
def S22 (F:List Ch) (H0:Hp) (r:Int × Bool) (v:Value) (H:Hp) (cs:List Ch):Prop:=H0=H∧v=.tuple #[iv r.1,.bool r.2]∧F=cs
theorem slices_BinarySearch_string.e1_c {w0:World} [GlobI 0 w0] {H:Hp} {F:List Ch} {r:Int × Bool}:∀ (a0:List ByteArray) (Aa0:Option Addr) (ca0:Nat) (a1:ByteArray) (v_i7:Int) ,Rw Kd.string H F Aa0 a0→a0.length≤ca0→slices_BinarySearch_string.e1 a0 a1 v_i7=some r→RunH C22 (S22 F H r) H w0 [.c [1,1,1,1,0],.c [1,1,1,1,1]] [(0,.slice Aa0 a0.length ca0),(1,.string a1),(6,iv (a0.length:Int)),(7,iv v_i7)] H (F):=by
 intro a0 Aa0 ca0 a1 v_i7 hra0 hca0 heq
 unfold slices_BinarySearch_string.e1 at heq
 obtain ⟨t1,ht1,heq⟩:=bind_some heq
 have K1:RunH C22 (S22 F H r) H w0 [.c [1,1,1,1,1]] [(4,iv v_i7),(5,.bool t1)] H (F):=by
  obtain rfl:=Option.some.inj heq
  exact RunH.done (by kernel_rfl) Tryd.func22 (v:=.tuple #[iv v_i7,.bool t1]) (by kernel_rfl) ⟨rfl,rfl,rfl⟩
 replace heq:=ht1
 refine Rr<|Rk 5 [35,0,1,7,31] [(35,.bool (decide (v_i7<(a0.length:Int)))),(0,.slice Aa0 a0.length ca0),(1,.string a1),(7,iv v_i7),(31,iv v_i7)] ?_
 rcases bool_cases (decide (v_i7<(a0.length:Int))) with hb1 | hb1
 ·replace heq:=bif_true hb1 heq
  refine RgH.val1 (v':=.bool true) (congrArg Value.bool hb1) ?_
  obtain ⟨x1,hx1,heq⟩:=bind_some heq
  obtain ⟨ha1,cs1,hK1,hcc1⟩:=hra0.get hx1
  obtain rfl:cs1=[.string x1]:=hK1
  refine Rv 12 [42,0,1,7,31,35] [.string x1] [.need (Aa0=some (adr Aa0)∧(0:Int)≤v_i7∧v_i7<((a0.length:Nat):Int)),.load ((adr Aa0).add (v_i7.toNat*1)) (.string x1)] [(42,.bool (sEq x1 a1)),(0,.slice Aa0 a0.length ca0),(1,.string a1),(7,iv v_i7),(31,iv v_i7),(35,.bool true)] (fun w hh=>⟨⟨ha1,(at?_some hx1).1,(at?_some hx1).2.1⟩,(hcc1 _ _ (hh.drop 0) 0 _ rfl)⟩) ?_
  rcases bool_cases (sEq x1 a1) with hb2 | hb2
  ·replace heq:=bif_true hb2 heq
   refine RgH.val1 (v':=.bool true) (congrArg Value.bool hb2) ?_
   refine Rk 25 [4,5] [(4,iv v_i7),(5,.bool true)] ?_
   obtain rfl:=Option.some.inj heq
   refine Kg [4,5] [(4,iv v_i7),(5,.bool true)]<|Dn ?_
   exact K1
  ·replace heq:=bif_false hb2 heq
   refine RgH.val1 (v':=.bool false) (congrArg Value.bool hb2) ?_
   obtain ⟨ha2,cs2,hK2,hcc2⟩:=hra0.get hx1
   obtain rfl:cs2=[.string x1]:=hK2
   refine Rv 16 [1,31,35,42,46] [.string x1] [.need (Aa0=some (adr Aa0)∧(0:Int)≤v_i7∧v_i7<((a0.length:Nat):Int)),.load ((adr Aa0).add (v_i7.toNat*1)) (.string x1)] [(1,.string a1),(31,iv v_i7),(35,.bool true),(42,.bool false),(46,.string x1)] (fun w hh=>⟨⟨ha2,(at?_some hx1).1,(at?_some hx1).2.1⟩,(hcc2 _ _ (hh.drop 0) 0 _ rfl)⟩) ?_
   obtain ⟨y1,hy1,heq⟩:=bind_some heq
   refine RgH.does (DoesH.call (d:=47) (g:=42) (args:=#[.string x1]) (by kernel_rfl) (slices_isNaN_string_c (a0:=x1)  hy1)) ?_
   rintro _ _ _ _ ⟨_,rfl,rfl,rfl,rfl⟩
   refine Rk 18 [48,1,31,35,42] [(48,.bool y1),(1,.string a1),(31,iv v_i7),(35,.bool true),(42,.bool false)] ?_
   rcases bool_cases (y1) with hb3 | hb3
   ·replace heq:=bif_true hb3 heq
    refine RgH.val1 (v':=.bool true) (congrArg Value.bool hb3) ?_
    refine Rk 19 [31,35,42,48,49] [(31,iv v_i7),(35,.bool true),(42,.bool false),(48,.bool true),(49,.string a1)] ?_
    obtain ⟨y2,hy2,heq⟩:=bind_some heq
    refine RgH.does (DoesH.call (d:=50) (g:=42) (args:=#[.string a1]) (by kernel_rfl) (slices_isNaN_string_c (a0:=a1)  hy2)) ?_
    rintro _ _ _ _ ⟨_,rfl,rfl,rfl,rfl⟩
    refine Rk 25 [4,5] [(4,iv v_i7),(5,.bool y2)] ?_
    obtain rfl:=Option.some.inj heq
    refine Kg [4,5] [(4,iv v_i7),(5,.bool y2)]<|Dn ?_
    exact K1
   ·replace heq:=bif_false hb3 heq
    refine RgH.val1 (v':=.bool false) (congrArg Value.bool hb3) ?_
    refine Rk 25 [4,5] [(4,iv v_i7),(5,.bool false)] ?_
    obtain rfl:=Option.some.inj heq
    refine Kg [4,5] [(4,iv v_i7),(5,.bool false)]<|Dn ?_
    exact K1
 ·replace heq:=bif_false hb1 heq
  refine RgH.val1 (v':=.bool false) (congrArg Value.bool hb1) ?_
  refine Rk 25 [4,5] [(4,iv v_i7),(5,.bool false)] ?_
  obtain rfl:=Option.some.inj heq
  refine Kg [4,5] [(4,iv v_i7),(5,.bool false)]<|Dn ?_
  exact K1
theorem slices_BinarySearch_string.l2_c {w0:World} [GlobI 0 w0] {H:Hp} {F:List Ch} {r:Int × Bool} (e1:(List ByteArray)→ByteArray→Int→Option (Int × Bool))
  (he1:∀ (a0:List ByteArray) (Aa0:Option Addr) (ca0:Nat) (a1:ByteArray) (v_i7:Int) ,Rw Kd.string H F Aa0 a0→a0.length≤ca0→e1 a0 a1 v_i7=some r→RunH C22 (S22 F H r) H w0 [.c [1,1,1,1,0],.c [1,1,1,1,1]] [(0,.slice Aa0 a0.length ca0),(1,.string a1),(6,iv (a0.length:Int)),(7,iv v_i7)] H (F)):∀ (k:Nat),∀ (a0:List ByteArray) (Aa0:Option Addr) (ca0:Nat) (a1:ByteArray) (v_i7:Int) (v_j8:Int) ,Rw Kd.string H F Aa0 a0→a0.length≤ca0→slices_BinarySearch_string.l2 e1 k a0 a1 v_i7 v_j8=some r→RunH C22 (S22 F H r) H w0 [.c [1,1,1,0,0,0],.l [1,1,1,0,0,0],.b 0,.c [1,1,1,1]] [(0,.slice Aa0 a0.length ca0),(1,.string a1),(6,iv (a0.length:Int)),(7,iv v_i7),(8,iv v_j8)] H (F):=by
 intro k
 induction k with
 | zero=>intro a0 Aa0 ca0 a1 v_i7 v_j8 hra0 hca0 heq; exact nomatch (show (none:Option (Int × Bool))=some r from heq)
 | succ k ihk =>
  intro a0 Aa0 ca0 a1 v_i7 v_j8 hra0 hca0 heq
  rw [slices_BinarySearch_string.l2] at heq
  refine Ra 2 [1,1,1,0,0,0,0,0] [.c [1,1,1,0,0,0,0,1],.c [1,1,1,0,0,0,1],.l [1,1,1,0,0,0],.b 0,.c [1,1,1,1]]<|Rd 3 [0,1,6,7,8,15] [(0,.slice Aa0 a0.length ca0),(1,.string a1),(6,iv (a0.length:Int)),(7,iv v_i7),(8,iv v_j8),(15,.bool (decide (v_i7<v_j8)))] ?_
  rcases bool_cases (decide (v_i7<v_j8)) with hb4 | hb4
  ·replace heq:=bif_true hb4 heq
   refine Ct (decide (v_i7<v_j8)) hb4<|Ra 3 [1,1,1,0,0,0,1,0,0] [.c [1,1,1,0,0,0,1,0,1],.b 1,.l [1,1,1,0,0,0],.b 0,.c [1,1,1,1]]<|Rw' 7 [0,1,6,7,8,9] [] [.need ((0:Int)≤1)] [(0,.slice Aa0 a0.length ca0),(1,.string a1),(6,iv (a0.length:Int)),(7,iv v_i7),(8,iv v_j8),(9,iv (w64 (iShr .u64 (IntKind.wrap .u64 (w64 (v_i7+v_j8))) 1)))] (fun w hh=>(show (0:Int)≤1 by decide))<|Ra 1 [1,1,1,0,0,0,1,0,1,0] [.c [1,1,1,0,0,0,1,0,1,1],.b 1,.l [1,1,1,0,0,0],.b 0,.c [1,1,1,1]] ?_
   obtain ⟨x2,hx2,heq⟩:=bind_some heq
   obtain ⟨ha3,cs3,hK3,hcc3⟩:=hra0.get hx2
   obtain rfl:cs3=[.string x2]:=hK3
   refine Rv 5 [0,1,6,7,8,9,25,26] [.string x2] [.need (Aa0=some (adr Aa0)∧(0:Int)≤(w64 (iShr .u64 (IntKind.wrap .u64 (w64 (v_i7+v_j8))) 1))∧(w64 (iShr .u64 (IntKind.wrap .u64 (w64 (v_i7+v_j8))) 1))<((a0.length:Nat):Int)),.load ((adr Aa0).add ((w64 (iShr .u64 (IntKind.wrap .u64 (w64 (v_i7+v_j8))) 1)).toNat*1)) (.string x2)] [(0,.slice Aa0 a0.length ca0),(1,.string a1),(6,iv (a0.length:Int)),(7,iv v_i7),(8,iv v_j8),(9,iv (w64 (iShr .u64 (IntKind.wrap .u64 (w64 (v_i7+v_j8))) 1))),(25,.string x2),(26,.string a1)] (fun w hh=>⟨⟨ha3,(at?_some hx2).1,(at?_some hx2).2.1⟩,(hcc3 _ _ (hh.drop 0) 0 _ rfl)⟩) ?_
   obtain ⟨y3,hy3,heq⟩:=bind_some heq
   refine RgH.does (DoesH.call (d:=27) (g:=34) (args:=#[.string x2,.string a1]) (by kernel_rfl) (cmp_Less_string_c (a0:=x2) (a1:=a1)  hy3)) ?_
   rintro _ _ _ _ ⟨_,rfl,rfl,rfl,rfl⟩
   refine Dn ?_
   rcases bool_cases (y3) with hb5 | hb5
   ·replace heq:=bif_true hb5 heq
    refine Ct y3 hb5<|Rr<|Rd 3 [0,1,6,7,8] [(0,.slice Aa0 a0.length ca0),(1,.string a1),(6,iv (a0.length:Int)),(7,iv (w64 ((w64 (iShr .u64 (IntKind.wrap .u64 (w64 (v_i7+v_j8))) 1))+1))),(8,iv v_j8)]<|Ad 2 [.c [1,1,1,0,0,0],.l [1,1,1,0,0,0],.b 0,.c [1,1,1,1]]<|Kp [0,1,6,7,8] [(0,.slice Aa0 a0.length ca0),(1,.string a1),(6,iv (a0.length:Int)),(7,iv (w64 ((w64 (iShr .u64 (IntKind.wrap .u64 (w64 (v_i7+v_j8))) 1))+1))),(8,iv v_j8)] ?_
    exact ihk a0 _ _ a1 (w64 ((w64 (iShr .u64 (IntKind.wrap .u64 (w64 (v_i7+v_j8))) 1))+1)) v_j8 hra0 hca0 heq
   ·replace heq:=bif_false hb5 heq
    refine Cf y3 hb5<|Rr<|Rd 2 [0,1,6,7,8] [(0,.slice Aa0 a0.length ca0),(1,.string a1),(6,iv (a0.length:Int)),(7,iv v_i7),(8,iv (w64 (iShr .u64 (IntKind.wrap .u64 (w64 (v_i7+v_j8))) 1)))]<|Ad 2 [.c [1,1,1,0,0,0],.l [1,1,1,0,0,0],.b 0,.c [1,1,1,1]]<|Kp [0,1,6,7,8] [(0,.slice Aa0 a0.length ca0),(1,.string a1),(6,iv (a0.length:Int)),(7,iv v_i7),(8,iv (w64 (iShr .u64 (IntKind.wrap .u64 (w64 (v_i7+v_j8))) 1)))] ?_
    exact ihk a0 _ _ a1 v_i7 (w64 (iShr .u64 (IntKind.wrap .u64 (w64 (v_i7+v_j8))) 1)) hra0 hca0 heq
  ·replace heq:=bif_false hb4 heq
   refine Cf (decide (v_i7<v_j8)) hb4<|Ad 2 [.c [1,1,1,1,0],.c [1,1,1,1,1]]<|Kp [0,1,6,7] [(0,.slice Aa0 a0.length ca0),(1,.string a1),(6,iv (a0.length:Int)),(7,iv v_i7)] ?_
   exact he1 a0 _ _ a1 v_i7 hra0 hca0 heq
theorem slices_BinarySearch_string_c {w0:World} [GlobI 0 w0] {H:Hp} {F:List Ch} {a0:List ByteArray} {Aa0:Option Addr} {na0:Nat} {ca0:Nat} {a1:ByteArray} {r:Int × Bool} (hra0:Rw Kd.string H F Aa0 a0) (hca0:na0≤ca0) (hna0:na0=a0.length) (heq:slices_BinarySearch_string.f a0 a1=some r):CallsH Tryd.prog 22 #[.slice Aa0 na0 ca0,.string a1] H w0 (F) (S22 F H r):=by
 refine calls_of_runH (F:=C22) Tryd.func22 (by kernel_rfl) Tryd.ntmps22 (args:=[.slice Aa0 na0 ca0,.string a1]) (by kernel_rfl) ?_
 subst hna0
 unfold slices_BinarySearch_string.f at heq
 refine Ra 1 [0] [.c [1]]<|Rd 2 [0,1] [(0,.slice Aa0 a0.length ca0),(1,.string a1)]<|Ra 1 [1,0] [.c [1,1]]<|Rd 3 [0,1,6] [(0,.slice Aa0 a0.length ca0),(1,.string a1),(6,iv (a0.length:Int))]<|Ra 1 [1,1,0] [.c [1,1,1]]<|Rd 3 [0,1,6,7,8] [(0,.slice Aa0 a0.length ca0),(1,.string a1),(6,iv (a0.length:Int)),(7,iv 0),(8,iv (a0.length:Int))]<|Ad 3 [.c [1,1,1,0,0,0],.l [1,1,1,0,0,0],.b 0,.c [1,1,1,1]]<|Kp [0,1,6,7,8] [(0,.slice Aa0 a0.length ca0),(1,.string a1),(6,iv (a0.length:Int)),(7,iv 0),(8,iv (a0.length:Int))] ?_
 exact ((slices_BinarySearch_string.l2_c (e1:=slices_BinarySearch_string.e1) (slices_BinarySearch_string.e1_c)) big) a0 _ _ a1 0 (a0.length:Int) hra0 hca0 heq
noncomputable def C21:Ctx:={ P:=Tryd.prog,f:=21,N:=14,c:=bodyOf Tryd.f21 }
def S21 (F:List Ch) (H0:Hp) (r:Bool) (v:Value) (H:Hp) (cs:List Ch):Prop:=H0=H∧v=.bool r∧F=cs
theorem trials_CheckReads_1_c {w0:World} [GlobI 0 w0] {H:Hp} {F:List Ch} {a0:ByteArray} {ga1:Nat} {a1:TestReads} {Aa1_1:Option Addr} {na1_1:Nat} {ca1_1:Nat} {Aa1_2:Option Addr} {na1_2:Nat} {ca1_2:Nat} {r:Bool} (hra1_1:Rw Kd.string H F Aa1_1 a1.Paths) (hca1_1:na1_1≤ca1_1) (hna1_1:na1_1=a1.Paths.length) (hra1_2:Rw Kd.string H F Aa1_2 a1.Looked) (hca1_2:na1_2≤ca1_2) (hna1_2:na1_2=a1.Looked.length) (hga1:InG H F ga1 (.cells #[.string a1.Test,.slice Aa1_1 na1_1 ca1_1,.slice Aa1_2 na1_2 ca1_2] 42 (0,0))) (heq:trials_CheckReads_1.f a0 a1=some r):CallsH Tryd.prog 21 #[.string a0,.pointer (some ⟨ga1,0,none⟩)] H w0 (F) (S21 F H r):=by
 refine calls_of_runH (F:=C21) Tryd.func21 (by kernel_rfl) Tryd.ntmps21 (args:=[.string a0,.pointer (some ⟨ga1,0,none⟩)]) (by kernel_rfl) ?_
 subst hna1_1
 subst hna1_2
 unfold trials_CheckReads_1.f at heq
 refine Ra 1 [0] [.c [1]]<|Rd 1 [0,1] [(0,.string a0),(1,pg ga1 0)]<|Ra 1 [1,0] [.c [1,1]]<|Rv 3 [8,9] [.slice Aa1_1 a1.Paths.length ca1_1] [.load ⟨ga1,1,none⟩ (.slice Aa1_1 a1.Paths.length ca1_1)] [(8,.slice Aa1_1 a1.Paths.length ca1_1),(9,.string a0)] (fun w hh=>(hga1.cell (hh.drop 0) rfl)) ?_
 obtain ⟨y1,hy1,heq⟩:=bind_some heq
 refine RgH.does (DoesH.call (d:=10) (g:=22) (args:=#[.slice Aa1_1 a1.Paths.length ca1_1,.string a0]) (by kernel_rfl) (slices_BinarySearch_string_c (a0:=a1.Paths) (a1:=a0) hra1_1 hca1_1 rfl hy1)) ?_
 rintro _ _ _ _ ⟨_,rfl,rfl,rfl,rfl⟩
 refine Rd 9 [5] [(5,.bool y1.2)]<|Ra 1 [1,1,0] [.c [1,1,1]]<|Rd 2 [3] [(3,.bool y1.2)] ?_
 obtain rfl:=Option.some.inj heq
 exact RunH.done (by kernel_rfl) Tryd.func21 (v:=.bool y1.2) (by kernel_rfl) ⟨rfl,rfl,rfl⟩
noncomputable def C41:Ctx:={ P:=Tryd.prog,f:=41,N:=19,c:=bodyOf Tryd.f41 }
def S41 (F:List Ch) (H0:Hp) (r:Int) (v:Value) (H:Hp) (cs:List Ch):Prop:=H0=H∧v=iv r∧F=cs
theorem slices_IndexFunc_string.e1_c {w0:World} [GlobI 0 w0] {H:Hp} {F:List Ch} {r:Int}:slices_IndexFunc_string.e1=some r→RunH C41 (S41 F H r) H w0 [.c [1,1,0],.c [1,1,1]] [] H (F):=by
 intro   heq
 unfold slices_IndexFunc_string.e1 at heq
 refine Rr<|Rd 1 [4] [(4,iv (-1))] ?_
 obtain rfl:=Option.some.inj heq
 exact RunH.done (by kernel_rfl) Tryd.func41 (v:=iv (-1)) (by kernel_rfl) ⟨rfl,rfl,rfl⟩
theorem slices_IndexFunc_string.l2_c {w0:World} [GlobI 0 w0] {H:Hp} {F:List Ch} {r:Int} (e1:Option Int)
  (he1:e1=some r→RunH C41 (S41 F H r) H w0 [.c [1,1,0],.c [1,1,1]] [] H (F)):∀ (k:Nat),∀ (a0:List ByteArray) (Aa0:Option Addr) (ca0:Nat) (ga1q0:Nat) (a1q0:TestReads) (Aa1q0_1:Option Addr) (ca1q0_1:Nat) (Aa1q0_2:Option Addr) (ca1q0_2:Nat) (v8:Int) ,Rw Kd.string H F Aa0 a0→a0.length≤ca0→Rw Kd.string H F Aa1q0_1 a1q0.Paths→a1q0.Paths.length≤ca1q0_1→Rw Kd.string H F Aa1q0_2 a1q0.Looked→a1q0.Looked.length≤ca1q0_2→InG H F ga1q0 (.cells #[.string a1q0.Test,.slice Aa1q0_1 a1q0.Paths.length ca1q0_1,.slice Aa1q0_2 a1q0.Looked.length ca1q0_2] 42 (0,0))→slices_IndexFunc_string.l2 e1 k a0 a1q0 v8=some r→RunH C41 (S41 F H r) H w0 [.c [1,0,1,0,0],.l [1,0,1,0,0],.b 0,.c [1,1]] [(0,.slice Aa0 a0.length ca0),(1,.func (.func 21) #[] #[.pointer (some ⟨ga1q0,0,none⟩)]),(7,iv (a0.length:Int)),(8,iv v8)] H (F):=by
 intro k
 induction k with
 | zero=>intro a0 Aa0 ca0 ga1q0 a1q0 Aa1q0_1 ca1q0_1 Aa1q0_2 ca1q0_2 v8 hra0 hca0 hra1q0_1 hca1q0_1 hra1q0_2 hca1q0_2 hga1q0 heq; exact nomatch (show (none:Option Int)=some r from heq)
 | succ k ihk =>
  intro a0 Aa0 ca0 ga1q0 a1q0 Aa1q0_1 ca1q0_1 Aa1q0_2 ca1q0_2 v8 hra0 hca0 hra1q0_1 hca1q0_1 hra1q0_2 hca1q0_2 hga1q0 heq
  rw [slices_IndexFunc_string.l2] at heq
  refine Ra 1 [1,0,1,0,0,0] [.c [1,0,1,0,0,1],.l [1,0,1,0,0],.b 0,.c [1,1]]<|Rd 1 [0,1,7,8,9] [(0,.slice Aa0 a0.length ca0),(1,.func (.func 21) #[] #[.pointer (some ⟨ga1q0,0,none⟩)]),(7,iv (a0.length:Int)),(8,iv v8),(9,.bool (decide (v8<(a0.length:Int))))]<|Ad 1 [.c [1,0,1,0,0,1,0],.c [1,0,1,0,0,1,1],.l [1,0,1,0,0],.b 0,.c [1,1]] ?_
  rcases bool_cases (decide (v8<(a0.length:Int))) with hb1 | hb1
  ·replace heq:=bif_true hb1 heq
   refine Ct (decide (v8<(a0.length:Int))) hb1<|Ra 4 [1,0,1,0,0,1,1,0,0,0] [.c [1,0,1,0,0,1,1,0,0,1],.b 1,.c [1,0,1,0,0,1,1,1],.l [1,0,1,0,0],.b 0,.c [1,1]]<|Rd 2 [0,1,5,7,8] [(0,.slice Aa0 a0.length ca0),(1,.func (.func 21) #[] #[.pointer (some ⟨ga1q0,0,none⟩)]),(5,iv v8),(7,iv (a0.length:Int)),(8,iv v8)]<|Ra 1 [1,0,1,0,0,1,1,0,0,1,0] [.c [1,0,1,0,0,1,1,0,0,1,1],.b 1,.c [1,0,1,0,0,1,1,1],.l [1,0,1,0,0],.b 0,.c [1,1]] ?_
   obtain ⟨x1,hx1,heq⟩:=bind_some heq
   obtain ⟨ha1,cs1,hK1,hcc1⟩:=hra0.get hx1
   obtain rfl:cs1=[.string x1]:=hK1
   refine Rv 5 [0,1,5,7,8,11,15] [.string x1] [.need (Aa0=some (adr Aa0)∧(0:Int)≤v8∧v8<((a0.length:Nat):Int)),.load ((adr Aa0).add (v8.toNat*1)) (.string x1)] [(0,.slice Aa0 a0.length ca0),(1,.func (.func 21) #[] #[.pointer (some ⟨ga1q0,0,none⟩)]),(5,iv v8),(7,iv (a0.length:Int)),(8,iv v8),(11,.func (.func 21) #[] #[.pointer (some ⟨ga1q0,0,none⟩)]),(15,.string x1)] (fun w hh=>⟨⟨ha1,(at?_some hx1).1,(at?_some hx1).2.1⟩,(hcc1 _ _ (hh.drop 0) 0 _ rfl)⟩) ?_
   obtain ⟨y1,hy1,heq⟩:=bind_some heq
   refine RgH.does (DoesH.call (d:=16) (g:=21) (args:=#[.string x1,.pointer (some ⟨ga1q0,0,none⟩)]) (by kernel_rfl) (trials_CheckReads_1_c (a0:=x1) (a1:=a1q0) hra1q0_1 hca1q0_1 rfl hra1q0_2 hca1q0_2 rfl hga1q0 hy1)) ?_
   rintro _ _ _ _ ⟨_,rfl,rfl,rfl,rfl⟩
   refine Dn ?_
   rcases bool_cases (y1) with hb2 | hb2
   ·replace heq:=bif_true hb2 heq
    refine Ct y1 hb2<|Ra 1 [1,0,1,0,0,1,1,0,0,1,1,0,0] [.c [1,0,1,0,0,1,1,0,0,1,1,0,1],.b 1,.c [1,0,1,0,0,1,1,1],.l [1,0,1,0,0],.b 0,.c [1,1]]<|Rd 2 [4] [(4,iv v8)] ?_
    obtain rfl:=Option.some.inj heq
    exact RunH.done (by kernel_rfl) Tryd.func41 (v:=iv v8) (by kernel_rfl) ⟨rfl,rfl,rfl⟩
   ·replace heq:=bif_false hb2 heq
    refine Cf y1 hb2<|Ra 2 [1,0,1,0,0,1,1,1] [.l [1,0,1,0,0],.b 0,.c [1,1]]<|Rd 2 [0,1,7,8] [(0,.slice Aa0 a0.length ca0),(1,.func (.func 21) #[] #[.pointer (some ⟨ga1q0,0,none⟩)]),(7,iv (a0.length:Int)),(8,iv (w64 (v8+1)))]<|Ad 1 [.c [1,0,1,0,0],.l [1,0,1,0,0],.b 0,.c [1,1]]<|Kp [0,1,7,8] [(0,.slice Aa0 a0.length ca0),(1,.func (.func 21) #[] #[.pointer (some ⟨ga1q0,0,none⟩)]),(7,iv (a0.length:Int)),(8,iv (w64 (v8+1)))] ?_
    exact ihk a0 _ _ _ a1q0 _ _ _ _ (w64 (v8+1)) hra0 hca0 hra1q0_1 hca1q0_1 hra1q0_2 hca1q0_2 hga1q0 heq
  ·replace heq:=bif_false hb1 heq
   refine Cf (decide (v8<(a0.length:Int))) hb1<|Ad 2 [.c [1,1,0],.c [1,1,1]]<|Kp [] [] ?_
   exact he1 heq
theorem slices_IndexFunc_string_c {w0:World} [GlobI 0 w0] {H:Hp} {F:List Ch} {a0:List ByteArray} {Aa0:Option Addr} {na0:Nat} {ca0:Nat} {ga1q0:Nat} {a1q0:TestReads} {Aa1q0_1:Option Addr} {na1q0_1:Nat} {ca1q0_1:Nat} {Aa1q0_2:Option Addr} {na1q0_2:Nat} {ca1q0_2:Nat} {r:Int} (hra0:Rw Kd.string H F Aa0 a0) (hca0:na0≤ca0) (hna0:na0=a0.length) (hra1q0_1:Rw Kd.string H F Aa1q0_1 a1q0.Paths) (hca1q0_1:na1q0_1≤ca1q0_1) (hna1q0_1:na1q0_1=a1q0.Paths.length) (hra1q0_2:Rw Kd.string H F Aa1q0_2 a1q0.Looked) (hca1q0_2:na1q0_2≤ca1q0_2) (hna1q0_2:na1q0_2=a1q0.Looked.length) (hga1q0:InG H F ga1q0 (.cells #[.string a1q0.Test,.slice Aa1q0_1 na1q0_1 ca1q0_1,.slice Aa1q0_2 na1q0_2 ca1q0_2] 42 (0,0))) (heq:slices_IndexFunc_string.f a0 a1q0=some r):CallsH Tryd.prog 41 #[.slice Aa0 na0 ca0,.func (.func 21) #[] #[.pointer (some ⟨ga1q0,0,none⟩)]] H w0 (F) (S41 F H r):=by
 refine calls_of_runH (F:=C41) Tryd.func41 (by kernel_rfl) Tryd.ntmps41 (args:=[.slice Aa0 na0 ca0,.func (.func 21) #[] #[.pointer (some ⟨ga1q0,0,none⟩)]]) (by kernel_rfl) ?_
 subst hna0
 subst hna1q0_1
 subst hna1q0_2
 unfold slices_IndexFunc_string.f at heq
 refine Ra 1 [0] [.c [1]]<|Rd 1 [0,1] [(0,.slice Aa0 a0.length ca0),(1,.func (.func 21) #[] #[.pointer (some ⟨ga1q0,0,none⟩)])]<|Ra 2 [1,0,0] [.c [1,0,1],.c [1,1]]<|Rd 3 [0,1,7,8] [(0,.slice Aa0 a0.length ca0),(1,.func (.func 21) #[] #[.pointer (some ⟨ga1q0,0,none⟩)]),(7,iv (a0.length:Int)),(8,iv 0)]<|Ad 2 [.c [1,0,1,0,0],.l [1,0,1,0,0],.b 0,.c [1,1]]<|Kp [0,1,7,8] [(0,.slice Aa0 a0.length ca0),(1,.func (.func 21) #[] #[.pointer (some ⟨ga1q0,0,none⟩)]),(7,iv (a0.length:Int)),(8,iv 0)] ?_
 exact ((slices_IndexFunc_string.l2_c (e1:=slices_IndexFunc_string.e1) (slices_IndexFunc_string.e1_c)) big) a0 _ _ _ a1q0 _ _ _ _ 0 hra0 hca0 hra1q0_1 hca1q0_1 hra1q0_2 hca1q0_2 hga1q0 heq
noncomputable def C20:Ctx:={ P:=Tryd.prog,f:=20,N:=9,c:=bodyOf Tryd.f20 }
def S20 (F:List Ch) (H0:Hp) (r:Bool) (v:Value) (H:Hp) (cs:List Ch):Prop:=H0=H∧v=.bool r∧F=cs
theorem slices_ContainsFunc_string_c {w0:World} [GlobI 0 w0] {H:Hp} {F:List Ch} {a0:List ByteArray} {Aa0:Option Addr} {na0:Nat} {ca0:Nat} {ga1q0:Nat} {a1q0:TestReads} {Aa1q0_1:Option Addr} {na1q0_1:Nat} {ca1q0_1:Nat} {Aa1q0_2:Option Addr} {na1q0_2:Nat} {ca1q0_2:Nat} {r:Bool} (hra0:Rw Kd.string H F Aa0 a0) (hca0:na0≤ca0) (hna0:na0=a0.length) (hra1q0_1:Rw Kd.string H F Aa1q0_1 a1q0.Paths) (hca1q0_1:na1q0_1≤ca1q0_1) (hna1q0_1:na1q0_1=a1q0.Paths.length) (hra1q0_2:Rw Kd.string H F Aa1q0_2 a1q0.Looked) (hca1q0_2:na1q0_2≤ca1q0_2) (hna1q0_2:na1q0_2=a1q0.Looked.length) (hga1q0:InG H F ga1q0 (.cells #[.string a1q0.Test,.slice Aa1q0_1 na1q0_1 ca1q0_1,.slice Aa1q0_2 na1q0_2 ca1q0_2] 42 (0,0))) (heq:slices_ContainsFunc_string.f a0 a1q0=some r):CallsH Tryd.prog 20 #[.slice Aa0 na0 ca0,.func (.func 21) #[] #[.pointer (some ⟨ga1q0,0,none⟩)]] H w0 (F) (S20 F H r):=by
 refine calls_of_runH (F:=C20) Tryd.func20 (by kernel_rfl) Tryd.ntmps20 (args:=[.slice Aa0 na0 ca0,.func (.func 21) #[] #[.pointer (some ⟨ga1q0,0,none⟩)]]) (by kernel_rfl) ?_
 subst hna0
 subst hna1q0_1
 subst hna1q0_2
 unfold slices_ContainsFunc_string.f at heq
 refine Ra 1 [0] [.c [1]]<|Rd 1 [0,1] [(0,.slice Aa0 a0.length ca0),(1,.func (.func 21) #[] #[.pointer (some ⟨ga1q0,0,none⟩)])]<|Ra 1 [1,0] [.c [1,1]]<|Rk 2 [5,6] [(5,.slice Aa0 a0.length ca0),(6,.func (.func 21) #[] #[.pointer (some ⟨ga1q0,0,none⟩)])] ?_
 obtain ⟨y1,hy1,heq⟩:=bind_some heq
 refine RgH.does (DoesH.call (d:=7) (g:=41) (args:=#[.slice Aa0 a0.length ca0,.func (.func 21) #[] #[.pointer (some ⟨ga1q0,0,none⟩)]]) (by kernel_rfl) (slices_IndexFunc_string_c (a0:=a0) (a1q0:=a1q0) hra0 hca0 rfl hra1q0_1 hca1q0_1 rfl hra1q0_2 hca1q0_2 rfl hga1q0 hy1)) ?_
 rintro _ _ _ _ ⟨_,rfl,rfl,rfl,rfl⟩
 refine Rd 5 [4] [(4,.bool (decide (0≤y1)))] ?_
 obtain rfl:=Option.some.inj heq
 exact RunH.done (by kernel_rfl) Tryd.func20 (v:=.bool (decide (0≤y1))) (by kernel_rfl) ⟨rfl,rfl,rfl⟩
noncomputable def C11:Ctx:={ P:=Tryd.prog,f:=11,N:=61,c:=bodyOf Tryd.f11 }
def S11 (F:List Ch) (H0:Hp) (r:Int) (v:Value) (H:Hp) (cs:List Ch):Prop:=H0=H∧v=iv r∧F=cs
theorem trials_CheckReads.e1_c {w0:World} [GlobI 0 w0] {H:Hp} {F:List Ch} {r:Int}:trials_CheckReads.e1=some r→RunH C11 (S11 F H r) H w0 [.c [1,1,1,0],.c [1,1,1,1]] [] H (F):=by
 intro   heq
 unfold trials_CheckReads.e1 at heq
 refine Rr<|Rd 1 [2] [(2,iv 0)] ?_
 obtain rfl:=Option.some.inj heq
 exact RunH.done (by kernel_rfl) Tryd.func11 (v:=iv 0) (by kernel_rfl) ⟨rfl,rfl,rfl⟩
theorem trials_CheckReads.l2_c {w0:World} [GlobI 0 w0] {H:Hp} {F:List Ch} {r:Int} (e1:Option Int)
  (he1:e1=some r→RunH C11 (S11 F H r) H w0 [.c [1,1,1,0],.c [1,1,1,1]] [] H (F)):∀ (k:Nat),∀ (a0:List TestReads) (Aa0:Option Addr) (ca0:Nat) (v12:Int) ,Rw kTestReads H F Aa0 a0→a0.length≤ca0→trials_CheckReads.l2 e1 k a0 v12=some r→RunH C11 (S11 F H r) H w0 [.c [1,1,0,1,0,0],.l [1,1,0,1,0,0],.b 0,.c [1,1,1]] [(0,.slice Aa0 a0.length ca0),(10,.slice Aa0 a0.length ca0),(11,iv (a0.length:Int)),(12,iv v12)] H (F):=by
 intro k
 induction k with
 | zero=>intro a0 Aa0 ca0 v12 hra0 hca0 heq; exact nomatch (show (none:Option Int)=some r from heq)
 | succ k ihk =>
  intro a0 Aa0 ca0 v12 hra0 hca0 heq
  rw [trials_CheckReads.l2] at heq
  refine Ra 1 [1,1,0,1,0,0,0] [.c [1,1,0,1,0,0,1],.l [1,1,0,1,0,0],.b 0,.c [1,1,1]]<|Rd 1 [0,10,11,12,13] [(0,.slice Aa0 a0.length ca0),(10,.slice Aa0 a0.length ca0),(11,iv (a0.length:Int)),(12,iv v12),(13,.bool (decide (v12<(a0.length:Int))))]<|Ad 1 [.c [1,1,0,1,0,0,1,0],.c [1,1,0,1,0,0,1,1],.l [1,1,0,1,0,0],.b 0,.c [1,1,1]] ?_
  rcases bool_cases (decide (v12<(a0.length:Int))) with hb2 | hb2
  ·replace heq:=bif_true hb2 heq
   refine Ct (decide (v12<(a0.length:Int))) hb2<|Ra 4 [1,1,0,1,0,0,1,1,0,0,0] [.c [1,1,0,1,0,0,1,1,0,0,1],.b 1,.c [1,1,0,1,0,0,1,1,1],.l [1,1,0,1,0,0],.b 0,.c [1,1,1]] ?_
   obtain ⟨x1,hx1,heq⟩:=bind_some heq
   obtain ⟨ha1,cs1,hK1,hcc1⟩:=hra0.get hx1
   obtain ⟨A1,c1,A2,c2,rfl,hc1,hr1,hc2,hr2⟩:=kTestReads_open hK1
   refine Rv 3 [0,10,11,12,14,16] [.string x1.Test,.slice A1 x1.Paths.length c1,.slice A2 x1.Looked.length c2] [.need (Aa0=some (adr Aa0)∧(0:Int)≤v12∧v12<((a0.length:Nat):Int)),.load (((adr Aa0).add (v12.toNat*3)).add 0) (.string x1.Test),.load (((adr Aa0).add (v12.toNat*3)).add 1) (.slice A1 x1.Paths.length c1),.load (((adr Aa0).add (v12.toNat*3)).add 2) (.slice A2 x1.Looked.length c2)] [(0,.slice Aa0 a0.length ca0),(10,.slice Aa0 a0.length ca0),(11,iv (a0.length:Int)),(12,iv v12),(14,iv v12),(16,.agg #[.string x1.Test,.slice A1 x1.Paths.length c1,.slice A2 x1.Looked.length c2])] (fun w hh=>⟨⟨ha1,(at?_some hx1).1,(at?_some hx1).2.1⟩,(hcc1 _ _ (hh.drop 0) 0 _ rfl),(hcc1 _ _ (hh.drop 0) 1 _ rfl),(hcc1 _ _ (hh.drop 0) 2 _ rfl)⟩) ?_
   refine RgH.does (DoesH.new (d:=4) (v:=fun g=>.pointer (some ⟨g,0,none⟩)) (o:=fun g=>.cells #[.string ByteArray.empty,.slice none 0 0,.slice none 0 0] 42 (0,0)) (fun g=>by kernel_rfl)) ?_
   rintro _ _ _ _ ⟨g1,rfl,rfl,rfl⟩
   refine Rk 5 [0,3,4,10,11,12,16] [(0,.slice Aa0 a0.length ca0),(3,iv v12),(4,pg g1 0),(10,.slice Aa0 a0.length ca0),(11,iv (a0.length:Int)),(12,iv v12),(16,.agg #[.string x1.Test,.slice A1 x1.Paths.length c1,.slice A2 x1.Looked.length c2])] ?_
   refine RgH.does (DoesH.store (k:=0) (g:=g1) (off:=0) (v:=.agg #[.string x1.Test,.slice A1 x1.Paths.length c1,.slice A2 x1.Looked.length c2]) (cells':=#[.string x1.Test,.slice A1 x1.Paths.length c1,.slice A2 x1.Looked.length c2]) (by kernel_rfl) rfl (by kernel_rfl) (by kernel_rfl)) ?_
   rintro _ _ _ _ ⟨rfl,rfl,rfl⟩
   refine Dn<|Ra 2 [1,1,0,1,0,0,1,1,0,0,1,0,0] [.c [1,1,0,1,0,0,1,1,0,0,1,0,1],.c [1,1,0,1,0,0,1,1,0,0,1,1],.b 1,.c [1,1,0,1,0,0,1,1,1],.l [1,1,0,1,0,0],.b 0,.c [1,1,1]]<|Rv 2 [0,3,4,10,11,12,18] [.string x1.Test] [.load ⟨g1,0,none⟩ (.string x1.Test)] [(0,.slice Aa0 a0.length ca0),(3,iv v12),(4,pg g1 0),(10,.slice Aa0 a0.length ca0),(11,iv (a0.length:Int)),(12,iv v12),(18,.string x1.Test)] (fun w hh=>(hh.box 0 rfl rfl)) ?_
   obtain ⟨y1,hy1,heq⟩:=bind_some heq
   refine RgH.does (DoesH.call (d:=19) (g:=18) (args:=#[.string x1.Test]) (by kernel_rfl) (blob_IsPath_c (a0:=x1.Test)  hy1)) ?_
   rintro _ _ _ _ ⟨_,rfl,rfl,rfl,rfl⟩
   refine Rd 4 [0,3,4,10,11,12,20] [(0,.slice Aa0 a0.length ca0),(3,iv v12),(4,pg g1 0),(10,.slice Aa0 a0.length ca0),(11,iv (a0.length:Int)),(12,iv v12),(20,.bool (!y1))] ?_
   rcases bool_cases (!y1) with hb3 | hb3
   ·replace heq:=bif_true hb3 heq
    refine Ct (!y1) hb3<|Ra 1 [1,1,0,1,0,0,1,1,0,0,1,0,1,0,0] [.c [1,1,0,1,0,0,1,1,0,0,1,0,1,0,1],.c [1,1,0,1,0,0,1,1,0,0,1,1],.b 1,.c [1,1,0,1,0,0,1,1,1],.l [1,1,0,1,0,0],.b 0,.c [1,1,1]]<|Rd 1 [2] [(2,iv 5)] ?_
    obtain rfl:=Option.some.inj heq
    refine RunH.pick 1 [] (cs':=F) (by kernel_rfl) rfl ?_
    exact RunH.done (by kernel_rfl) Tryd.func11 (v:=iv 5) (by kernel_rfl) ⟨rfl,rfl,rfl⟩
   ·replace heq:=bif_false hb3 heq
    refine Cf (!y1) hb3<|Ad 3 [.c [1,1,0,1,0,0,1,1,0,0,1,1,0,0],.c [1,1,0,1,0,0,1,1,0,0,1,1,0,1],.c [1,1,0,1,0,0,1,1,0,0,1,1,1],.b 1,.c [1,1,0,1,0,0,1,1,1],.l [1,1,0,1,0,0],.b 0,.c [1,1,1]] ?_
    obtain ⟨t1,ht1,heq⟩:=bind_some heq
    have K2:RunH C11 (S11 F H r) H w0 [.c [1,1,0,1,0,0,1,1,0,0,1,1,0,1],.c [1,1,0,1,0,0,1,1,0,0,1,1,1],.b 1,.c [1,1,0,1,0,0,1,1,1],.l [1,1,0,1,0,0],.b 0,.c [1,1,1]] [(0,.slice Aa0 a0.length ca0),(3,iv v12),(4,pg g1 0),(10,.slice Aa0 a0.length ca0),(11,iv (a0.length:Int)),(12,iv v12),(30,.bool t1)] H ((some (g1,.cells #[.string x1.Test,.slice A1 x1.Paths.length c1,.slice A2 x1.Looked.length c2] 42 (0,0)))::F):=by
     rcases bool_cases (t1) with hb5 | hb5
     ·replace heq:=bif_true hb5 heq
      refine Ct t1 hb5<|Ra 1 [1,1,0,1,0,0,1,1,0,0,1,1,0,1,0,0] [.c [1,1,0,1,0,0,1,1,0,0,1,1,0,1,0,1],.c [1,1,0,1,0,0,1,1,0,0,1,1,1],.b 1,.c [1,1,0,1,0,0,1,1,1],.l [1,1,0,1,0,0],.b 0,.c [1,1,1]]<|Rd 1 [2] [(2,iv 2)] ?_
      obtain rfl:=Option.some.inj heq
      refine RunH.pick 1 [] (cs':=F) (by kernel_rfl) rfl ?_
      exact RunH.done (by kernel_rfl) Tryd.func11 (v:=iv 2) (by kernel_rfl) ⟨rfl,rfl,rfl⟩
     ·replace heq:=bif_false hb5 heq
      refine Cf t1 hb5<|Ra 3 [1,1,0,1,0,0,1,1,0,0,1,1,1,0,0] [.c [1,1,0,1,0,0,1,1,0,0,1,1,1,0,1],.c [1,1,0,1,0,0,1,1,0,0,1,1,1,1],.b 1,.c [1,1,0,1,0,0,1,1,1],.l [1,1,0,1,0,0],.b 0,.c [1,1,1]]<|Rv 2 [0,3,4,10,11,12,32] [.slice A1 x1.Paths.length c1] [.load ⟨g1,1,none⟩ (.slice A1 x1.Paths.length c1)] [(0,.slice Aa0 a0.length ca0),(3,iv v12),(4,pg g1 0),(10,.slice Aa0 a0.length ca0),(11,iv (a0.length:Int)),(12,iv v12),(32,.slice A1 x1.Paths.length c1)] (fun w hh=>(hh.box 0 rfl rfl)) ?_
      obtain ⟨y2,hy2,heq⟩:=bind_some heq
      refine RgH.does (DoesH.call (d:=33) (g:=19) (args:=#[.slice A1 x1.Paths.length c1]) (by kernel_rfl) (trials_checkPaths_c (a0:=x1.Paths) (Rw.of hr1) hc1 rfl hy2)) ?_
      rintro _ _ _ _ ⟨_,rfl,rfl,rfl,rfl⟩
      refine Rd 4 [0,3,4,5,10,11,12] [(0,.slice Aa0 a0.length ca0),(3,iv v12),(4,pg g1 0),(5,iv y2),(10,.slice Aa0 a0.length ca0),(11,iv (a0.length:Int)),(12,iv v12)]<|Ra 1 [1,1,0,1,0,0,1,1,0,0,1,1,1,0,1,0] [.c [1,1,0,1,0,0,1,1,0,0,1,1,1,0,1,1],.c [1,1,0,1,0,0,1,1,0,0,1,1,1,1],.b 1,.c [1,1,0,1,0,0,1,1,1],.l [1,1,0,1,0,0],.b 0,.c [1,1,1]]<|Rd 2 [0,3,4,5,10,11,12,35] [(0,.slice Aa0 a0.length ca0),(3,iv v12),(4,pg g1 0),(5,iv y2),(10,.slice Aa0 a0.length ca0),(11,iv (a0.length:Int)),(12,iv v12),(35,.bool (y2 != 0))] ?_
      rcases bool_cases (y2 != 0) with hb6 | hb6
      ·replace heq:=bif_true hb6 heq
       refine Ct (y2 != 0) hb6<|Ra 1 [1,1,0,1,0,0,1,1,0,0,1,1,1,0,1,1,0,0] [.c [1,1,0,1,0,0,1,1,0,0,1,1,1,0,1,1,0,1],.c [1,1,0,1,0,0,1,1,0,0,1,1,1,1],.b 1,.c [1,1,0,1,0,0,1,1,1],.l [1,1,0,1,0,0],.b 0,.c [1,1,1]]<|Rd 2 [2] [(2,iv y2)] ?_
       obtain rfl:=Option.some.inj heq
       refine RunH.pick 1 [] (cs':=F) (by kernel_rfl) rfl ?_
       exact RunH.done (by kernel_rfl) Tryd.func11 (v:=iv y2) (by kernel_rfl) ⟨rfl,rfl,rfl⟩
      ·replace heq:=bif_false hb6 heq
       refine Cf (y2 != 0) hb6<|Ra 3 [1,1,0,1,0,0,1,1,0,0,1,1,1,1,0,0] [.c [1,1,0,1,0,0,1,1,0,0,1,1,1,1,0,1],.c [1,1,0,1,0,0,1,1,0,0,1,1,1,1,1],.b 1,.c [1,1,0,1,0,0,1,1,1],.l [1,1,0,1,0,0],.b 0,.c [1,1,1]]<|Rv 2 [0,3,4,10,11,12,38] [.slice A2 x1.Looked.length c2] [.load ⟨g1,2,none⟩ (.slice A2 x1.Looked.length c2)] [(0,.slice Aa0 a0.length ca0),(3,iv v12),(4,pg g1 0),(10,.slice Aa0 a0.length ca0),(11,iv (a0.length:Int)),(12,iv v12),(38,.slice A2 x1.Looked.length c2)] (fun w hh=>(hh.box 0 rfl rfl)) ?_
       obtain ⟨y3,hy3,heq⟩:=bind_some heq
       refine RgH.does (DoesH.call (d:=39) (g:=19) (args:=#[.slice A2 x1.Looked.length c2]) (by kernel_rfl) (trials_checkPaths_c (a0:=x1.Looked) (Rw.of hr2) hc2 rfl hy3)) ?_
       rintro _ _ _ _ ⟨_,rfl,rfl,rfl,rfl⟩
       refine Rd 4 [0,3,4,6,10,11,12] [(0,.slice Aa0 a0.length ca0),(3,iv v12),(4,pg g1 0),(6,iv y3),(10,.slice Aa0 a0.length ca0),(11,iv (a0.length:Int)),(12,iv v12)]<|Ra 1 [1,1,0,1,0,0,1,1,0,0,1,1,1,1,0,1,0] [.c [1,1,0,1,0,0,1,1,0,0,1,1,1,1,0,1,1],.c [1,1,0,1,0,0,1,1,0,0,1,1,1,1,1],.b 1,.c [1,1,0,1,0,0,1,1,1],.l [1,1,0,1,0,0],.b 0,.c [1,1,1]]<|Rd 2 [0,3,4,6,10,11,12,41] [(0,.slice Aa0 a0.length ca0),(3,iv v12),(4,pg g1 0),(6,iv y3),(10,.slice Aa0 a0.length ca0),(11,iv (a0.length:Int)),(12,iv v12),(41,.bool (y3 != 0))] ?_
       rcases bool_cases (y3 != 0) with hb7 | hb7
       ·replace heq:=bif_true hb7 heq
        refine Ct (y3 != 0) hb7<|Ra 1 [1,1,0,1,0,0,1,1,0,0,1,1,1,1,0,1,1,0,0] [.c [1,1,0,1,0,0,1,1,0,0,1,1,1,1,0,1,1,0,1],.c [1,1,0,1,0,0,1,1,0,0,1,1,1,1,1],.b 1,.c [1,1,0,1,0,0,1,1,1],.l [1,1,0,1,0,0],.b 0,.c [1,1,1]]<|Rd 2 [2] [(2,iv y3)] ?_
        obtain rfl:=Option.some.inj heq
        refine RunH.pick 1 [] (cs':=F) (by kernel_rfl) rfl ?_
        exact RunH.done (by kernel_rfl) Tryd.func11 (v:=iv y3) (by kernel_rfl) ⟨rfl,rfl,rfl⟩
       ·replace heq:=bif_false hb7 heq
        refine Cf (y3 != 0) hb7<|Ra 3 [1,1,0,1,0,0,1,1,0,0,1,1,1,1,1,0,0] [.c [1,1,0,1,0,0,1,1,0,0,1,1,1,1,1,0,1],.c [1,1,0,1,0,0,1,1,0,0,1,1,1,1,1,1],.b 1,.c [1,1,0,1,0,0,1,1,1],.l [1,1,0,1,0,0],.b 0,.c [1,1,1]]<|Rv 3 [0,3,4,10,11,12,44,45] [.slice A2 x1.Looked.length c2] [.load ⟨g1,2,none⟩ (.slice A2 x1.Looked.length c2)] [(0,.slice Aa0 a0.length ca0),(3,iv v12),(4,pg g1 0),(10,.slice Aa0 a0.length ca0),(11,iv (a0.length:Int)),(12,iv v12),(44,.slice A2 x1.Looked.length c2),(45,.func (.func 21) #[] #[.pointer (some ⟨g1,0,none⟩)])] (fun w hh=>(hh.box 0 rfl rfl)) ?_
        obtain ⟨y4,hy4,heq⟩:=bind_some heq
        refine RgH.does (DoesH.call (d:=46) (g:=20) (args:=#[.slice A2 x1.Looked.length c2,.func (.func 21) #[] #[.pointer (some ⟨g1,0,none⟩)]]) (by kernel_rfl) (slices_ContainsFunc_string_c (a0:=x1.Looked) (a1q0:=x1) (Rw.of hr2) hc2 rfl (Rw.of hr1) hc1 rfl (Rw.of hr2) hc2 rfl (.inr (.head _)) hy4)) ?_
        rintro _ _ _ _ ⟨_,rfl,rfl,rfl,rfl⟩
        refine Dn ?_
        rcases bool_cases (y4) with hb8 | hb8
        ·replace heq:=bif_true hb8 heq
         refine Ct y4 hb8<|Ra 1 [1,1,0,1,0,0,1,1,0,0,1,1,1,1,1,0,1,0,0] [.c [1,1,0,1,0,0,1,1,0,0,1,1,1,1,1,0,1,0,1],.c [1,1,0,1,0,0,1,1,0,0,1,1,1,1,1,1],.b 1,.c [1,1,0,1,0,0,1,1,1],.l [1,1,0,1,0,0],.b 0,.c [1,1,1]]<|Rd 1 [2] [(2,iv 12)] ?_
         obtain rfl:=Option.some.inj heq
         refine RunH.pick 1 [] (cs':=F) (by kernel_rfl) rfl ?_
         exact RunH.done (by kernel_rfl) Tryd.func11 (v:=iv 12) (by kernel_rfl) ⟨rfl,rfl,rfl⟩
        ·replace heq:=bif_false hb8 heq
         refine Cf y4 hb8<|Ad 2 [.c [1,1,0,1,0,0,1,1,0,0,1,1,1,1,1,1,0],.c [1,1,0,1,0,0,1,1,0,0,1,1,1,1,1,1,1],.b 1,.c [1,1,0,1,0,0,1,1,1],.l [1,1,0,1,0,0],.b 0,.c [1,1,1]] ?_
         obtain ⟨t2,ht2,heq⟩:=bind_some heq
         have K3:RunH C11 (S11 F H r) H w0 [.c [1,1,0,1,0,0,1,1,0,0,1,1,1,1,1,1,1],.b 1,.c [1,1,0,1,0,0,1,1,1],.l [1,1,0,1,0,0],.b 0,.c [1,1,1]] [(0,.slice Aa0 a0.length ca0),(10,.slice Aa0 a0.length ca0),(11,iv (a0.length:Int)),(12,iv v12),(59,.bool t2)] H (F):=by
          rcases bool_cases (t2) with hb10 | hb10
          ·replace heq:=bif_true hb10 heq
           refine Ct t2 hb10<|Ra 1 [1,1,0,1,0,0,1,1,0,0,1,1,1,1,1,1,1,0,0] [.c [1,1,0,1,0,0,1,1,0,0,1,1,1,1,1,1,1,0,1],.b 1,.c [1,1,0,1,0,0,1,1,1],.l [1,1,0,1,0,0],.b 0,.c [1,1,1]]<|Rd 1 [2] [(2,iv 8)] ?_
           obtain rfl:=Option.some.inj heq
           exact RunH.done (by kernel_rfl) Tryd.func11 (v:=iv 8) (by kernel_rfl) ⟨rfl,rfl,rfl⟩
          ·replace heq:=bif_false hb10 heq
           refine Cf t2 hb10<|Ra 2 [1,1,0,1,0,0,1,1,1] [.l [1,1,0,1,0,0],.b 0,.c [1,1,1]]<|Rd 2 [0,10,11,12] [(0,.slice Aa0 a0.length ca0),(10,.slice Aa0 a0.length ca0),(11,iv (a0.length:Int)),(12,iv (w64 (v12+1)))]<|Ad 1 [.c [1,1,0,1,0,0],.l [1,1,0,1,0,0],.b 0,.c [1,1,1]]<|Kp [0,10,11,12] [(0,.slice Aa0 a0.length ca0),(10,.slice Aa0 a0.length ca0),(11,iv (a0.length:Int)),(12,iv (w64 (v12+1)))] ?_
           exact ihk a0 _ _ (w64 (v12+1)) hra0 hca0 heq
         replace heq:=ht2
         refine Kp [0,3,4,10,11,12] [(0,.slice Aa0 a0.length ca0),(3,iv v12),(4,pg g1 0),(10,.slice Aa0 a0.length ca0),(11,iv (a0.length:Int)),(12,iv v12)] ?_
         refine RunH.draw (fun w=>Heap H w0 w ((some (g1,.cells #[.string x1.Test,.slice A1 x1.Paths.length c1,.slice A2 x1.Looked.length c2] 42 (0,0)))::F)) (fun w=>Heap H w0 w ((some (g1,.cells #[.string x1.Test,.slice A1 x1.Paths.length c1,.slice A2 x1.Looked.length c2] 42 (0,0)))::F)) [3,3,3,3,3,3,3,3,3,3,3,3,3] (n:=13) (ls:=[false,false,false,false,false,false,false,false,false,false,false,false,false]) (by kernel_rfl) (by kernel_rfl) (by kernel_rfl) rfl ?_
         refine Dk [0,1,2] 10 (nb 13 7) [] [] [49,0,3,4,10,11,12] [(49,.bool (decide (0<v12))),(0,.slice Aa0 a0.length ca0),(3,iv v12),(4,pg g1 0),(10,.slice Aa0 a0.length ca0),(11,iv (a0.length:Int)),(12,iv v12)] (Pk 1 [0]) (Pk 1 [0]) (fun _ _=>trivial) ?_
         rcases bool_cases (decide (0<v12)) with hb9 | hb9
         ·replace heq:=bif_true hb9 heq
          refine DrH.val1 (v':=.bool true) (congrArg Value.bool hb9) ?_
          obtain ⟨x2,hx2,heq⟩:=bind_some heq
          obtain ⟨ha2,cs2,hK2,hcc2⟩:=hra0.get hx2
          obtain ⟨A3,c3,A4,c4,rfl,hc3,hr3,hc4,hr4⟩:=kTestReads_open hK2
          refine Dk [3,4,5,6,7,8,9,10,11,12] 0 (nb 13 8191) [.string x1.Test,.string x2.Test] [.load ⟨g1,0,none⟩ (.string x1.Test),.need (Aa0=some (adr Aa0)∧(0:Int)≤(w64 (v12 - 1))∧(w64 (v12 - 1))<((a0.length:Nat):Int)),.load (((adr Aa0).add ((w64 (v12 - 1)).toNat*3)).add 0) (.string x2.Test)] [0,10,11,12,59] [(0,.slice Aa0 a0.length ca0),(10,.slice Aa0 a0.length ca0),(11,iv (a0.length:Int)),(12,iv v12),(59,.bool (sLt x1.Test x2.Test||sEq x1.Test x2.Test))] (Pk 1 [0]) (Pk 1 [0]) (fun w hh=>⟨(hh.box 0 rfl rfl),⟨ha2,(at?_some hx2).1,(at?_some hx2).2.1⟩,(hcc2 _ _ (hh.drop 1) 0 _ rfl)⟩) ?_
          obtain rfl:=Option.some.inj heq
          refine Kr [0,10,11,12,59] [(0,.slice Aa0 a0.length ca0),(10,.slice Aa0 a0.length ca0),(11,iv (a0.length:Int)),(12,iv v12),(59,.bool (sLt x1.Test x2.Test||sEq x1.Test x2.Test))] ?_
          refine DrH.pick 1 [] (cs':=F) (by kernel_rfl) rfl ?_
          refine DrH.done (by kernel_rfl) ?_
          exact K3
         ·replace heq:=bif_false hb9 heq
          refine DrH.val1 (v':=.bool false) (congrArg Value.bool hb9) ?_
          refine Dk [3,4,5,6,7,8,9,10,11,12] 0 (nb 13 8191) [] [] [0,10,11,12,59] [(0,.slice Aa0 a0.length ca0),(10,.slice Aa0 a0.length ca0),(11,iv (a0.length:Int)),(12,iv v12),(59,.bool false)] (Pk 1 [0]) (Pk 1 [0]) (fun _ _=>trivial) ?_
          obtain rfl:=Option.some.inj heq
          refine Kr [0,10,11,12,59] [(0,.slice Aa0 a0.length ca0),(10,.slice Aa0 a0.length ca0),(11,iv (a0.length:Int)),(12,iv v12),(59,.bool false)] ?_
          refine DrH.pick 1 [] (cs':=F) (by kernel_rfl) rfl ?_
          refine DrH.done (by kernel_rfl) ?_
          exact K3
    replace heq:=ht1
    refine Rr<|Rv 5 [25,0,3,4,10,11,12] [.slice A1 x1.Paths.length c1] [.load ⟨g1,1,none⟩ (.slice A1 x1.Paths.length c1)] [(25,.bool (decide (1000<(x1.Paths.length:Int)))),(0,.slice Aa0 a0.length ca0),(3,iv v12),(4,pg g1 0),(10,.slice Aa0 a0.length ca0),(11,iv (a0.length:Int)),(12,iv v12)] (fun w hh=>(hh.box 0 rfl rfl)) ?_
    rcases bool_cases (decide (1000<(x1.Paths.length:Int))) with hb4 | hb4
    ·replace heq:=bif_true hb4 heq
     refine RgH.val1 (v':=.bool true) (congrArg Value.bool hb4) ?_
     refine Rk 10 [0,3,4,10,11,12,30] [(0,.slice Aa0 a0.length ca0),(3,iv v12),(4,pg g1 0),(10,.slice Aa0 a0.length ca0),(11,iv (a0.length:Int)),(12,iv v12),(30,.bool true)] ?_
     obtain rfl:=Option.some.inj heq
     refine Kg [0,3,4,10,11,12,30] [(0,.slice Aa0 a0.length ca0),(3,iv v12),(4,pg g1 0),(10,.slice Aa0 a0.length ca0),(11,iv (a0.length:Int)),(12,iv v12),(30,.bool true)]<|Dn ?_
     exact K2
    ·replace heq:=bif_false hb4 heq
     refine RgH.val1 (v':=.bool false) (congrArg Value.bool hb4) ?_
     refine Rv 10 [0,3,4,10,11,12,30] [.slice A2 x1.Looked.length c2] [.load ⟨g1,2,none⟩ (.slice A2 x1.Looked.length c2)] [(0,.slice Aa0 a0.length ca0),(3,iv v12),(4,pg g1 0),(10,.slice Aa0 a0.length ca0),(11,iv (a0.length:Int)),(12,iv v12),(30,.bool (decide (1000<(x1.Looked.length:Int))))] (fun w hh=>(hh.box 0 rfl rfl)) ?_
     obtain rfl:=Option.some.inj heq
     refine Kg [0,3,4,10,11,12,30] [(0,.slice Aa0 a0.length ca0),(3,iv v12),(4,pg g1 0),(10,.slice Aa0 a0.length ca0),(11,iv (a0.length:Int)),(12,iv v12),(30,.bool (decide (1000<(x1.Looked.length:Int))))]<|Dn ?_
     exact K2
  ·replace heq:=bif_false hb2 heq
   refine Cf (decide (v12<(a0.length:Int))) hb2<|Ad 2 [.c [1,1,1,0],.c [1,1,1,1]]<|Kp [] [] ?_
   exact he1 heq
theorem trials_CheckReads_c {w0:World} [GlobI 0 w0] {H:Hp} {F:List Ch} {a0:List TestReads} {Aa0:Option Addr} {na0:Nat} {ca0:Nat} {r:Int} (hra0:Rw kTestReads H F Aa0 a0) (hca0:na0≤ca0) (hna0:na0=a0.length) (heq:trials_CheckReads.f a0=some r):CallsH Tryd.prog 11 #[.slice Aa0 na0 ca0] H w0 (F) (S11 F H r):=by
 refine calls_of_runH (F:=C11) Tryd.func11 (by kernel_rfl) Tryd.ntmps11 (args:=[.slice Aa0 na0 ca0]) (by kernel_rfl) ?_
 subst hna0
 unfold trials_CheckReads.f at heq
 refine Ra 1 [0] [.c [1]]<|Rd 1 [0] [(0,.slice Aa0 a0.length ca0)]<|Ra 2 [1,0,0] [.c [1,0,1],.c [1,1]]<|Rd 3 [0,9] [(0,.slice Aa0 a0.length ca0),(9,.bool (decide (300<(a0.length:Int))))] ?_
 rcases bool_cases (decide (300<(a0.length:Int))) with hb1 | hb1
 ·replace heq:=bif_true hb1 heq
  refine Ct (decide (300<(a0.length:Int))) hb1<|Ra 1 [1,0,1,0,0] [.c [1,0,1,0,1],.c [1,1]]<|Rd 1 [2] [(2,iv 2)] ?_
  obtain rfl:=Option.some.inj heq
  exact RunH.done (by kernel_rfl) Tryd.func11 (v:=iv 2) (by kernel_rfl) ⟨rfl,rfl,rfl⟩
 ·replace heq:=bif_false hb1 heq
  refine Cf (decide (300<(a0.length:Int))) hb1<|Ra 3 [1,1,0,0] [.c [1,1,0,1],.c [1,1,1]]<|Rd 3 [0,10,11,12] [(0,.slice Aa0 a0.length ca0),(10,.slice Aa0 a0.length ca0),(11,iv (a0.length:Int)),(12,iv 0)]<|Ad 2 [.c [1,1,0,1,0,0],.l [1,1,0,1,0,0],.b 0,.c [1,1,1]]<|Kp [0,10,11,12] [(0,.slice Aa0 a0.length ca0),(10,.slice Aa0 a0.length ca0),(11,iv (a0.length:Int)),(12,iv 0)] ?_
  exact ((trials_CheckReads.l2_c (e1:=trials_CheckReads.e1) (trials_CheckReads.e1_c)) big) a0 _ _ 0 hra0 hca0 heq
noncomputable def C23:Ctx:={ P:=Tryd.prog,f:=23,N:=15,c:=bodyOf Tryd.f23 }
def S23 (F:List Ch) (H0:Hp) (r:Bool) (v:Value) (H:Hp) (cs:List Ch):Prop:=H0=H∧v=.bool r∧F=cs
theorem trials_within_c {w0:World} [GlobI 0 w0] {H:Hp} {F:List Ch} {a0:Int} {a1:Int} {a2:Int} {r:Bool} (heq:trials_within.f a0 a1 a2=some r):CallsH Tryd.prog 23 #[iv a0,iv a1,iv a2] H w0 (F) (S23 F H r):=by
 refine calls_of_runH (F:=C23) Tryd.func23 (by kernel_rfl) Tryd.ntmps23 (args:=[iv a0,iv a1,iv a2]) (by kernel_rfl) ?_
 unfold trials_within.f at heq
 refine Ra 1 [0] [.c [1]]<|Rd 1 [0,1,2] [(0,iv a0),(1,iv a1),(2,iv a2)]<|Ad 1 [.c [1,0],.c [1,1]] ?_
 obtain ⟨t1,ht1,heq⟩:=bind_some heq
 have K1:RunH C23 (S23 F H r) H w0 [.c [1,1]] [(6,.bool t1)] H (F):=by
  obtain rfl:=Option.some.inj heq
  exact RunH.done (by kernel_rfl) Tryd.func23 (v:=.bool t1) (by kernel_rfl) ⟨rfl,rfl,rfl⟩
 replace heq:=ht1
 refine Rr<|Rk 4 [10,0,2] [(10,.bool (decide (a1≤a0))),(0,iv a0),(2,iv a2)] ?_
 rcases bool_cases (decide (a1≤a0)) with hb1 | hb1
 ·replace heq:=bif_true hb1 heq
  refine RgH.val1 (v':=.bool true) (congrArg Value.bool hb1) ?_
  refine Rk 9 [6] [(6,.bool (decide (a0≤a2)))] ?_
  obtain rfl:=Option.some.inj heq
  refine Kg [6] [(6,.bool (decide (a0≤a2)))]<|Dn ?_
  exact K1
 ·replace heq:=bif_false hb1 heq
  refine RgH.val1 (v':=.bool false) (congrArg Value.bool hb1) ?_
  refine Rk 9 [6] [(6,.bool false)] ?_
  obtain rfl:=Option.some.inj heq
  refine Kg [6] [(6,.bool false)]<|Dn ?_
  exact K1
noncomputable def C24:Ctx:={ P:=Tryd.prog,f:=24,N:=22,c:=bodyOf Tryd.f24 }
def S24 (F:List Ch) (H0:Hp) (r:(List ByteArray)) (v:Value) (H:Hp) (cs:List Ch):Prop:=∃ (A0:Option Addr) (c0:Nat) (ch0:Ch),H0=H∧v=.slice A0 r.length c0∧ch0::F=cs∧SlOwn Kd.string 9 H A0 c0 r ch0
theorem trials_above.e1_c {w0:World} [GlobI 0 w0] {H:Hp} {F:List Ch} {r:(List ByteArray)}:∀ (v_out3:List ByteArray) (Av_out3:Option Addr) (nv_out3:Nat) (cv_out3:Nat) (chv_out3:Ch) ,SlOwn Kd.string 9 H Av_out3 cv_out3 v_out3 chv_out3→nv_out3=v_out3.length→trials_above.e1 v_out3=some r→RunH C24 (S24 F H r) H w0 [.c [1,1,1,0],.c [1,1,1,1]] [(3,.slice Av_out3 nv_out3 cv_out3)] H (chv_out3::F):=by
 intro v_out3 Av_out3 nv_out3 cv_out3 chv_out3 hov_out3 hnv_out3 heq
 subst hnv_out3
 unfold trials_above.e1 at heq
 refine Rr<|Rd 2 [2] [(2,.slice Av_out3 v_out3.length cv_out3)] ?_
 obtain rfl:=Option.some.inj heq
 exact RunH.done (by kernel_rfl) Tryd.func24 (v:=.slice Av_out3 v_out3.length cv_out3) (by kernel_rfl) ⟨Av_out3,cv_out3,chv_out3,rfl,rfl,rfl,hov_out3⟩
theorem trials_above.j3_c {w0:World} [GlobI 0 w0] {H:Hp} {F:List Ch} {r:(List ByteArray)} (backl2:ByteArray→(List ByteArray)→Int→Option (List ByteArray))
  (hbackl2:∀ (a0:ByteArray) (v_out3:List ByteArray) (Av_out3:Option Addr) (nv_out3:Nat) (cv_out3:Nat) (chv_out3:Ch) (v7:Int) ,SlOwn Kd.string 9 H Av_out3 cv_out3 v_out3 chv_out3→nv_out3=v_out3.length→backl2 a0 v_out3 v7=some r→RunH C24 (S24 F H r) H w0 [.c [1,1,0,1,0,0],.l [1,1,0,1,0,0],.b 0,.c [1,1,1]] [(0,.string a0),(3,.slice Av_out3 nv_out3 cv_out3),(6,iv (a0.size:Int)),(7,iv v7)] H (chv_out3::F)):∀ (a0:ByteArray) (v7:Int) (v_out3:List ByteArray) (Av_out3:Option Addr) (nv_out3:Nat) (cv_out3:Nat) (chv_out3:Ch) ,SlOwn Kd.string 9 H Av_out3 cv_out3 v_out3 chv_out3→nv_out3=v_out3.length→trials_above.j3 backl2 a0 v7 v_out3=some r→RunH C24 (S24 F H r) H w0 [.c [1,1,0,1,0,0,1,1,1],.l [1,1,0,1,0,0],.b 0,.c [1,1,1]] [(0,.string a0),(3,.slice Av_out3 nv_out3 cv_out3),(6,iv (a0.size:Int)),(7,iv v7)] H (chv_out3::F):=by
 intro a0 v7 v_out3 Av_out3 nv_out3 cv_out3 chv_out3 hov_out3 hnv_out3 heq
 subst hnv_out3
 unfold trials_above.j3 at heq
 refine Rr<|Rd 2 [0,3,6,7] [(0,.string a0),(3,.slice Av_out3 v_out3.length cv_out3),(6,iv (a0.size:Int)),(7,iv (w64 (v7+1)))]<|Ad 1 [.c [1,1,0,1,0,0],.l [1,1,0,1,0,0],.b 0,.c [1,1,1]]<|Kp [0,3,6,7] [(0,.string a0),(3,.slice Av_out3 v_out3.length cv_out3),(6,iv (a0.size:Int)),(7,iv (w64 (v7+1)))] ?_
 exact hbackl2 a0 v_out3 _ _ _ _ (w64 (v7+1)) hov_out3 rfl heq
theorem trials_above.l2_c {w0:World} [GlobI 0 w0] {H:Hp} {F:List Ch} {r:(List ByteArray)} (e1:(List ByteArray)→Option (List ByteArray))
  (he1:∀ (v_out3:List ByteArray) (Av_out3:Option Addr) (nv_out3:Nat) (cv_out3:Nat) (chv_out3:Ch) ,SlOwn Kd.string 9 H Av_out3 cv_out3 v_out3 chv_out3→nv_out3=v_out3.length→e1 v_out3=some r→RunH C24 (S24 F H r) H w0 [.c [1,1,1,0],.c [1,1,1,1]] [(3,.slice Av_out3 nv_out3 cv_out3)] H (chv_out3::F)):∀ (k:Nat),∀ (a0:ByteArray) (v_out3:List ByteArray) (Av_out3:Option Addr) (nv_out3:Nat) (cv_out3:Nat) (chv_out3:Ch) (v7:Int) ,SlOwn Kd.string 9 H Av_out3 cv_out3 v_out3 chv_out3→nv_out3=v_out3.length→trials_above.l2 e1 k a0 v_out3 v7=some r→RunH C24 (S24 F H r) H w0 [.c [1,1,0,1,0,0],.l [1,1,0,1,0,0],.b 0,.c [1,1,1]] [(0,.string a0),(3,.slice Av_out3 nv_out3 cv_out3),(6,iv (a0.size:Int)),(7,iv v7)] H (chv_out3::F):=by
 intro k
 induction k with
 | zero=>intro a0 v_out3 Av_out3 nv_out3 cv_out3 chv_out3 v7 hov_out3 hnv_out3 heq; exact nomatch (show (none:Option (List ByteArray))=some r from heq)
 | succ k ihk =>
  intro a0 v_out3 Av_out3 nv_out3 cv_out3 chv_out3 v7 hov_out3 hnv_out3 heq
  subst hnv_out3
  rw [trials_above.l2] at heq
  refine Ra 1 [1,1,0,1,0,0,0] [.c [1,1,0,1,0,0,1],.l [1,1,0,1,0,0],.b 0,.c [1,1,1]]<|Rd 1 [0,3,6,7,8] [(0,.string a0),(3,.slice Av_out3 v_out3.length cv_out3),(6,iv (a0.size:Int)),(7,iv v7),(8,.bool (decide (v7<(a0.size:Int))))]<|Ad 1 [.c [1,1,0,1,0,0,1,0],.c [1,1,0,1,0,0,1,1],.l [1,1,0,1,0,0],.b 0,.c [1,1,1]] ?_
  rcases bool_cases (decide (v7<(a0.size:Int))) with hb1 | hb1
  ·replace heq:=bif_true hb1 heq
   refine Ct (decide (v7<(a0.size:Int))) hb1<|Ra 4 [1,1,0,1,0,0,1,1,0,0,0] [.c [1,1,0,1,0,0,1,1,0,0,1],.b 1,.c [1,1,0,1,0,0,1,1,1],.l [1,1,0,1,0,0],.b 0,.c [1,1,1]]<|Rd 2 [0,3,4,6,7] [(0,.string a0),(3,.slice Av_out3 v_out3.length cv_out3),(4,iv v7),(6,iv (a0.size:Int)),(7,iv v7)]<|Ra 1 [1,1,0,1,0,0,1,1,0,0,1,0] [.c [1,1,0,1,0,0,1,1,0,0,1,1],.b 1,.c [1,1,0,1,0,0,1,1,1],.l [1,1,0,1,0,0],.b 0,.c [1,1,1]] ?_
   obtain ⟨hn1,heq⟩:=guard?_some heq
   refine Rw' 4 [0,3,4,6,7,13] [] [.need ((0:Int)≤v7∧v7<(a0.size:Int))] [(0,.string a0),(3,.slice Av_out3 v_out3.length cv_out3),(4,iv v7),(6,iv (a0.size:Int)),(7,iv v7),(13,.bool ((bt a0 v7) == 47))] (fun w hh=>(both_of hn1)) ?_
   rcases bool_cases ((bt a0 v7) == 47) with hb2 | hb2
   ·replace heq:=bif_true hb2 heq
    refine Ct ((bt a0 v7) == 47) hb2<|Rr ?_
    obtain ⟨hn2,heq⟩:=guard?_some heq
    refine Rv 4 [0,6,7,14,17] [] [.need ((0:Int)≤v7∧v7≤(a0.size:Int))] [(0,.string a0),(6,iv (a0.size:Int)),(7,iv v7),(14,.slice Av_out3 v_out3.length cv_out3),(17,.string (a0.extract 0 v7.toNat))] (fun w hh=>(both_of hn2)) ?_
    refine RgH.does (DoesH.new (d:=18) (v:=fun g=>.slice (some ⟨g,0,none⟩) 1 1) (o:=fun g=>.cells #[.string (a0.extract 0 v7.toNat)] 9 (0,0)) (fun g=>by kernel_rfl)) ?_
    rintro _ _ _ _ ⟨g1,rfl,rfl,rfl⟩
    have ho1:SlOwn Kd.string 9 H (some ⟨g1,0,none⟩) 1 ([a0.extract 0 v7.toNat]:List ByteArray) (some (g1,.cells #[.string (a0.extract 0 v7.toNat)] 9 (0,0))):=SlOwn.lit (xs:=([a0.extract 0 v7.toNat]:List ByteArray)) (by kernel_rfl) (Nat.le_of_ble_eq_true (by kernel_rfl)) (Kd.Rep.scalars rfl)
    obtain ⟨hn3,heq⟩:=guard?_some heq
    refine RgH.does (DoesH.append (d:=19) (k:=1) (t:=24) (e:=9) (bytes:=16) (kd:=Kd.string) (n:=v_out3.length) (m:=1) (xs:=v_out3) (ys:=([a0.extract 0 v7.toNat]:List ByteArray)) (A:=Av_out3) (B:=(some ⟨g1,0,none⟩)) (c:=cv_out3) (cB:=1) (by kernel_rfl) rfl rfl (by kernel_rfl) rfl hov_out3 (fun w hh=>ho1.rdb (hh.chin 0 rfl)) (room_le hn3) (by have:=room_le hn3; omega)) ?_
    rintro _ _ _ _ ⟨A1,c1,ch1,rfl,rfl,rfl,ho2⟩
    refine Rd 7 [0,3,6,7] [(0,.string a0),(3,.slice A1 ((v_out3++([a0.extract 0 v7.toNat]:List ByteArray)).length) c1),(6,iv (a0.size:Int)),(7,iv v7)]<|Ad 1 [.c [1,1,0,1,0,0,1,1,1],.l [1,1,0,1,0,0],.b 0,.c [1,1,1]]<|Kp [0,3,6,7] [(0,.string a0),(3,.slice A1 ((v_out3++([a0.extract 0 v7.toNat]:List ByteArray)).length) c1),(6,iv (a0.size:Int)),(7,iv v7)] ?_
    refine RunH.pick 2 [1] (cs':=ch1::F) (by kernel_rfl) rfl ?_
    exact (trials_above.j3_c (backl2:=(trials_above.l2 e1 k)) ihk) a0 v7 (v_out3++([a0.extract 0 v7.toNat]:List ByteArray)) _ _ _ _ ho2 rfl heq
   ·replace heq:=bif_false hb2 heq
    refine Cf ((bt a0 v7) == 47) hb2<|Ad 2 [.c [1,1,0,1,0,0,1,1,1],.l [1,1,0,1,0,0],.b 0,.c [1,1,1]]<|Kp [0,3,6,7] [(0,.string a0),(3,.slice Av_out3 v_out3.length cv_out3),(6,iv (a0.size:Int)),(7,iv v7)] ?_
    exact (trials_above.j3_c (backl2:=(trials_above.l2 e1 k)) ihk) a0 v7 v_out3 _ _ _ _ hov_out3 rfl heq
  ·replace heq:=bif_false hb1 heq
   refine Cf (decide (v7<(a0.size:Int))) hb1<|Ad 2 [.c [1,1,1,0],.c [1,1,1,1]]<|Kp [3] [(3,.slice Av_out3 v_out3.length cv_out3)] ?_
   exact he1 v_out3 _ _ _ _ hov_out3 rfl heq
theorem trials_above_c {w0:World} [GlobI 0 w0] {H:Hp} {F:List Ch} {a0:ByteArray} {r:(List ByteArray)} (heq:trials_above.f a0=some r):CallsH Tryd.prog 24 #[.string a0] H w0 (F) (S24 F H r):=by
 refine calls_of_runH (F:=C24) Tryd.func24 (by kernel_rfl) Tryd.ntmps24 (args:=[.string a0]) (by kernel_rfl) ?_
 unfold trials_above.f at heq
 refine Ra 1 [0] [.c [1]]<|Rd 1 [0] [(0,.string a0)]<|Ra 1 [1,0] [.c [1,1]]<|Rd 1 [0,3] [(0,.string a0),(3,.slice none 0 0)]<|Ra 2 [1,1,0,0] [.c [1,1,0,1],.c [1,1,1]]<|Rd 3 [0,3,6,7] [(0,.string a0),(3,.slice none 0 0),(6,iv (a0.size:Int)),(7,iv 0)]<|Ad 2 [.c [1,1,0,1,0,0],.l [1,1,0,1,0,0],.b 0,.c [1,1,1]]<|RunH.nilc ?_
 have ho3:SlOwn Kd.string 9 H none 0 ([]:List ByteArray) none:=SlOwn.nil
 refine Kp [0,3,6,7] [(0,.string a0),(3,.slice none 0 0),(6,iv (a0.size:Int)),(7,iv 0)] ?_
 exact ((trials_above.l2_c (e1:=trials_above.e1) (trials_above.e1_c)) big) a0 ([]:List ByteArray) _ _ _ _ 0 ho3 rfl heq
noncomputable def C12:Ctx:={ P:=Tryd.prog,f:=12,N:=77,c:=bodyOf Tryd.f12 }
def S12 (F:List Ch) (H0:Hp) (r:trials_changes × Int) (v:Value) (H:Hp) (cs:List Ch):Prop:=∃ (g0_0:Nat) (ch0_0:Ch) (g0_1:Nat) (ch0_1:Ch) (g0_2:Nat) (ch0_2:Ch),H0=H∧v=.tuple #[.agg #[.map (some g0_0),.map (some g0_1),.map (some g0_2)],iv r.2]∧ch0_0::ch0_1::ch0_2::F=cs∧MpOwn Value.string Kd.bool false H g0_0 r.1.other ch0_0∧MpOwn Value.string Kd.bool false H g0_1 r.1.fresh ch0_1∧MpOwn Value.string Kd.bool false H g0_2 r.1.over ch0_2
theorem trials_changesOf.e1_c {w0:World} [GlobI 0 w0] {H:Hp} {F:List Ch} {r:trials_changes × Int}:∀ (g1:Nat) (g5:Nat) (v_c4_0:List (ByteArray × Bool)) (gv_c4_0:Nat) (chv_c4_0:Ch) (v_c4_1:List (ByteArray × Bool)) (gv_c4_1:Nat) (chv_c4_1:Ch) (v_c4_2:List (ByteArray × Bool)) (gv_c4_2:Nat) (chv_c4_2:Ch) ,MpOwn Value.string Kd.bool false H gv_c4_0 v_c4_0 chv_c4_0→MpOwn Value.string Kd.bool false H gv_c4_1 v_c4_1 chv_c4_1→MpOwn Value.string Kd.bool false H gv_c4_2 v_c4_2 chv_c4_2→trials_changesOf.e1 v_c4_0 v_c4_1 v_c4_2=some r→RunH C12 (S12 F H r) H w0 [.c [1,1,1,1,0],.c [1,1,1,1,1]] [(2,pg g1 0),(4,pg g5 0)] H ((some (g5,.cells #[.map (some gv_c4_0),.map (some gv_c4_1),.map (some gv_c4_2)] 38 (0,0)))::chv_c4_2::chv_c4_1::chv_c4_0::(some (g1,.cells #[.map none,.map none,.map none] 38 (0,0)))::F):=by
 intro g1 g5 v_c4_0 gv_c4_0 chv_c4_0 v_c4_1 gv_c4_1 chv_c4_1 v_c4_2 gv_c4_2 chv_c4_2 hov_c4_0 hov_c4_1 hov_c4_2 heq
 unfold trials_changesOf.e1 at heq
 refine Rr<|Rv 1 [2,76] [.map (some gv_c4_0),.map (some gv_c4_1),.map (some gv_c4_2)] [.load ⟨g5,0,none⟩ (.map (some gv_c4_0)),.load ⟨g5,1,none⟩ (.map (some gv_c4_1)),.load ⟨g5,2,none⟩ (.map (some gv_c4_2))] [(2,pg g1 0),(76,.agg #[.map (some gv_c4_0),.map (some gv_c4_1),.map (some gv_c4_2)])] (fun w hh=>⟨(hh.box 0 rfl rfl),(hh.box 0 rfl rfl),(hh.box 0 rfl rfl)⟩) ?_
 refine RgH.does (DoesH.store (k:=4) (g:=g1) (off:=0) (v:=.agg #[.map (some gv_c4_0),.map (some gv_c4_1),.map (some gv_c4_2)]) (cells':=#[.map (some gv_c4_0),.map (some gv_c4_1),.map (some gv_c4_2)]) (by kernel_rfl) rfl (by kernel_rfl) (by kernel_rfl)) ?_
 rintro _ _ _ _ ⟨rfl,rfl,rfl⟩
 refine Rd 3 [2,3] [(2,pg g1 0),(3,iv 0)] ?_
 obtain rfl:=Option.some.inj heq
 refine RunH.pick 5 [4,3,2,1] (cs':=(some (g1,.cells #[.map (some gv_c4_0),.map (some gv_c4_1),.map (some gv_c4_2)] 38 (0,0)))::chv_c4_0::chv_c4_1::chv_c4_2::F) (by kernel_rfl) rfl ?_
 exact RunH.doneM' 1 (vs:=[.agg #[.map (some gv_c4_0),.map (some gv_c4_1),.map (some gv_c4_2)],iv 0]) (v:=.tuple #[.agg #[.map (some gv_c4_0),.map (some gv_c4_1),.map (some gv_c4_2)],iv 0]) (by kernel_rfl) Tryd.func12 (fun w hh=>show ResAll _ _ _ [.cell 2 38,.tmp 3] _ from ⟨⟨⟨g1,0,none⟩,by kernel_rfl,trS_run _ (vs:=[.map (some gv_c4_0),.map (some gv_c4_1),.map (some gv_c4_2)]) (r:=[]) (es:=[.load ⟨g1,0,none⟩ (.map (some gv_c4_0)),.load ⟨g1,1,none⟩ (.map (some gv_c4_1)),.load ⟨g1,2,none⟩ (.map (some gv_c4_2))]) (by kernel_rfl) ⟨(hh.box 0 rfl rfl),(hh.box 0 rfl rfl),(hh.box 0 rfl rfl)⟩⟩,(show lk _ _=some _ by kernel_rfl),trivial⟩) rfl (cs':=chv_c4_0::chv_c4_1::chv_c4_2::F) rfl ⟨gv_c4_0,chv_c4_0,gv_c4_1,chv_c4_1,gv_c4_2,chv_c4_2,rfl,rfl,rfl,hov_c4_0,hov_c4_1,hov_c4_2⟩
theorem trials_changesOf.j3_c {w0:World} [GlobI 0 w0] {H:Hp} {F:List Ch} {r:trials_changes × Int} (backl2:(List TreeChange)→(List (ByteArray × Bool))→(List (ByteArray × Bool))→(List (ByteArray × Bool))→Int→Option (trials_changes × Int))
  (hbackl2:∀ (a0:List TreeChange) (Aa0:Option Addr) (ca0:Nat) (g1:Nat) (g5:Nat) (v_c4_0:List (ByteArray × Bool)) (gv_c4_0:Nat) (chv_c4_0:Ch) (v_c4_1:List (ByteArray × Bool)) (gv_c4_1:Nat) (chv_c4_1:Ch) (v_c4_2:List (ByteArray × Bool)) (gv_c4_2:Nat) (chv_c4_2:Ch) (v19:Int) ,Rw kTreeChange H F Aa0 a0→a0.length≤ca0→MpOwn Value.string Kd.bool false H gv_c4_0 v_c4_0 chv_c4_0→MpOwn Value.string Kd.bool false H gv_c4_1 v_c4_1 chv_c4_1→MpOwn Value.string Kd.bool false H gv_c4_2 v_c4_2 chv_c4_2→backl2 a0 v_c4_0 v_c4_1 v_c4_2 v19=some r→RunH C12 (S12 F H r) H w0 [.c [1,1,1,0,1,0,0],.l [1,1,1,0,1,0,0],.b 0,.c [1,1,1,1]] [(0,.slice Aa0 a0.length ca0),(2,pg g1 0),(4,pg g5 0),(17,.slice Aa0 a0.length ca0),(18,iv (a0.length:Int)),(19,iv v19)] H ((some (g5,.cells #[.map (some gv_c4_0),.map (some gv_c4_1),.map (some gv_c4_2)] 38 (0,0)))::chv_c4_2::chv_c4_1::chv_c4_0::(some (g1,.cells #[.map none,.map none,.map none] 38 (0,0)))::F)):∀ (a0:List TreeChange) (Aa0:Option Addr) (ca0:Nat) (g1:Nat) (g5:Nat) (v19:Int) (v_c4_0:List (ByteArray × Bool)) (gv_c4_0:Nat) (chv_c4_0:Ch) (v_c4_1:List (ByteArray × Bool)) (gv_c4_1:Nat) (chv_c4_1:Ch) (v_c4_2:List (ByteArray × Bool)) (gv_c4_2:Nat) (chv_c4_2:Ch) ,Rw kTreeChange H F Aa0 a0→a0.length≤ca0→MpOwn Value.string Kd.bool false H gv_c4_0 v_c4_0 chv_c4_0→MpOwn Value.string Kd.bool false H gv_c4_1 v_c4_1 chv_c4_1→MpOwn Value.string Kd.bool false H gv_c4_2 v_c4_2 chv_c4_2→trials_changesOf.j3 backl2 a0 v19 v_c4_0 v_c4_1 v_c4_2=some r→RunH C12 (S12 F H r) H w0 [.c [1,1,1,0,1,0,0,1,1,1],.l [1,1,1,0,1,0,0],.b 0,.c [1,1,1,1]] [(0,.slice Aa0 a0.length ca0),(2,pg g1 0),(4,pg g5 0),(17,.slice Aa0 a0.length ca0),(18,iv (a0.length:Int)),(19,iv v19)] H ((some (g5,.cells #[.map (some gv_c4_0),.map (some gv_c4_1),.map (some gv_c4_2)] 38 (0,0)))::chv_c4_2::chv_c4_1::chv_c4_0::(some (g1,.cells #[.map none,.map none,.map none] 38 (0,0)))::F):=by
 intro a0 Aa0 ca0 g1 g5 v19 v_c4_0 gv_c4_0 chv_c4_0 v_c4_1 gv_c4_1 chv_c4_1 v_c4_2 gv_c4_2 chv_c4_2 hra0 hca0 hov_c4_0 hov_c4_1 hov_c4_2 heq
 unfold trials_changesOf.j3 at heq
 refine Rr<|Rd 2 [0,2,4,17,18,19] [(0,.slice Aa0 a0.length ca0),(2,pg g1 0),(4,pg g5 0),(17,.slice Aa0 a0.length ca0),(18,iv (a0.length:Int)),(19,iv (w64 (v19+1)))]<|Ad 1 [.c [1,1,1,0,1,0,0],.l [1,1,1,0,1,0,0],.b 0,.c [1,1,1,1]]<|Kp [0,2,4,17,18,19] [(0,.slice Aa0 a0.length ca0),(2,pg g1 0),(4,pg g5 0),(17,.slice Aa0 a0.length ca0),(18,iv (a0.length:Int)),(19,iv (w64 (v19+1)))] ?_
 exact hbackl2 a0 _ _ _ _ v_c4_0 _ _ v_c4_1 _ _ v_c4_2 _ _ (w64 (v19+1)) hra0 hca0 hov_c4_0 hov_c4_1 hov_c4_2 heq
theorem trials_changesOf.l4_c {w0:World} [GlobI 0 w0] {H:Hp} {F:List Ch} {r:trials_changes × Int} (j3:(List TreeChange)→Int→(List (ByteArray × Bool))→(List (ByteArray × Bool))→(List (ByteArray × Bool))→Option (trials_changes × Int))
  (hj3:∀ (a0:List TreeChange) (Aa0:Option Addr) (ca0:Nat) (g1:Nat) (g5:Nat) (v19:Int) (v_c4_0:List (ByteArray × Bool)) (gv_c4_0:Nat) (chv_c4_0:Ch) (v_c4_1:List (ByteArray × Bool)) (gv_c4_1:Nat) (chv_c4_1:Ch) (v_c4_2:List (ByteArray × Bool)) (gv_c4_2:Nat) (chv_c4_2:Ch) ,Rw kTreeChange H F Aa0 a0→a0.length≤ca0→MpOwn Value.string Kd.bool false H gv_c4_0 v_c4_0 chv_c4_0→MpOwn Value.string Kd.bool false H gv_c4_1 v_c4_1 chv_c4_1→MpOwn Value.string Kd.bool false H gv_c4_2 v_c4_2 chv_c4_2→j3 a0 v19 v_c4_0 v_c4_1 v_c4_2=some r→RunH C12 (S12 F H r) H w0 [.c [1,1,1,0,1,0,0,1,1,1],.l [1,1,1,0,1,0,0],.b 0,.c [1,1,1,1]] [(0,.slice Aa0 a0.length ca0),(2,pg g1 0),(4,pg g5 0),(17,.slice Aa0 a0.length ca0),(18,iv (a0.length:Int)),(19,iv v19)] H ((some (g5,.cells #[.map (some gv_c4_0),.map (some gv_c4_1),.map (some gv_c4_2)] 38 (0,0)))::chv_c4_2::chv_c4_1::chv_c4_0::(some (g1,.cells #[.map none,.map none,.map none] 38 (0,0)))::F)):∀ (k:Nat),∀ (a0:List TreeChange) (Aa0:Option Addr) (ca0:Nat) (g1:Nat) (g5:Nat) (v_c4_0:List (ByteArray × Bool)) (gv_c4_0:Nat) (chv_c4_0:Ch) (v_c4_1:List (ByteArray × Bool)) (gv_c4_1:Nat) (v19:Int) (x1:TreeChange) (ch2:Ch) (y3:(List ByteArray)) (A1:Option Addr) (c1:Nat) (ch3:Ch) (v_c4_2:List (ByteArray × Bool)) (gv_c4_2:Nat) (chv_c4_2:Ch) (v67:Int) ,Rw kTreeChange H F Aa0 a0→a0.length≤ca0→MpOwn Value.string Kd.bool false H gv_c4_0 v_c4_0 chv_c4_0→MpOwn Value.string Kd.bool false H gv_c4_1 (mput v_c4_1 x1.Path true) ch2→SlOwn Kd.string 9 H A1 c1 y3 ch3→MpOwn Value.string Kd.bool false H gv_c4_2 v_c4_2 chv_c4_2→trials_changesOf.l4 j3 k a0 v_c4_0 v_c4_1 v19 x1 y3 v_c4_2 v67=some r→RunH C12 (S12 F H r) H w0 [.c [1,1,1,0,1,0,0,1,1,0,0,1,1,1,1,0,0],.l [1,1,1,0,1,0,0,1,1,0,0,1,1,1,1,0,0],.b 3,.b 1,.c [1,1,1,0,1,0,0,1,1,1],.l [1,1,1,0,1,0,0],.b 0,.c [1,1,1,1]] [(0,.slice Aa0 a0.length ca0),(2,pg g1 0),(4,pg g5 0),(17,.slice Aa0 a0.length ca0),(18,iv (a0.length:Int)),(19,iv v19),(65,.slice A1 y3.length c1),(66,iv (y3.length:Int)),(67,iv v67)] H (ch3::(some (g5,.cells #[.map (some gv_c4_0),.map (some gv_c4_1),.map (some gv_c4_2)] 38 (0,0)))::chv_c4_2::ch2::chv_c4_0::(some (g1,.cells #[.map none,.map none,.map none] 38 (0,0)))::F):=by
 intro k
 induction k with
 | zero=>intro a0 Aa0 ca0 g1 g5 v_c4_0 gv_c4_0 chv_c4_0 v_c4_1 gv_c4_1 v19 x1 ch2 y3 A1 c1 ch3 v_c4_2 gv_c4_2 chv_c4_2 v67 hra0 hca0 hov_c4_0 ho5 ho6 hov_c4_2 heq; exact nomatch (show (none:Option (trials_changes × Int))=some r from heq)
 | succ k ihk =>
  intro a0 Aa0 ca0 g1 g5 v_c4_0 gv_c4_0 chv_c4_0 v_c4_1 gv_c4_1 v19 x1 ch2 y3 A1 c1 ch3 v_c4_2 gv_c4_2 chv_c4_2 v67 hra0 hca0 hov_c4_0 ho5 ho6 hov_c4_2 heq
  rw [trials_changesOf.l4] at heq
  refine Ra 1 [1,1,1,0,1,0,0,1,1,0,0,1,1,1,1,0,0,0] [.c [1,1,1,0,1,0,0,1,1,0,0,1,1,1,1,0,0,1],.l [1,1,1,0,1,0,0,1,1,0,0,1,1,1,1,0,0],.b 3,.b 1,.c [1,1,1,0,1,0,0,1,1,1],.l [1,1,1,0,1,0,0],.b 0,.c [1,1,1,1]]<|Rd 1 [0,2,4,17,18,19,65,66,67,68] [(0,.slice Aa0 a0.length ca0),(2,pg g1 0),(4,pg g5 0),(17,.slice Aa0 a0.length ca0),(18,iv (a0.length:Int)),(19,iv v19),(65,.slice A1 y3.length c1),(66,iv (y3.length:Int)),(67,iv v67),(68,.bool (decide (v67<(y3.length:Int))))]<|Ad 1 [.c [1,1,1,0,1,0,0,1,1,0,0,1,1,1,1,0,0,1,0],.c [1,1,1,0,1,0,0,1,1,0,0,1,1,1,1,0,0,1,1],.l [1,1,1,0,1,0,0,1,1,0,0,1,1,1,1,0,0],.b 3,.b 1,.c [1,1,1,0,1,0,0,1,1,1],.l [1,1,1,0,1,0,0],.b 0,.c [1,1,1,1]] ?_
  rcases bool_cases (decide (v67<(y3.length:Int))) with hb8 | hb8
  ·replace heq:=bif_true hb8 heq
   refine Ct (decide (v67<(y3.length:Int))) hb8<|Ra 4 [1,1,1,0,1,0,0,1,1,0,0,1,1,1,1,0,0,1,1,0,0,0] [.c [1,1,1,0,1,0,0,1,1,0,0,1,1,1,1,0,0,1,1,0,0,1],.b 4,.c [1,1,1,0,1,0,0,1,1,0,0,1,1,1,1,0,0,1,1,1],.l [1,1,1,0,1,0,0,1,1,0,0,1,1,1,1,0,0],.b 3,.b 1,.c [1,1,1,0,1,0,0,1,1,1],.l [1,1,1,0,1,0,0],.b 0,.c [1,1,1,1]] ?_
   obtain ⟨x3,hx3,heq⟩:=bind_some heq
   obtain ⟨ha3,cs3,hK3,hcc3⟩:=ho6.get hx3
   obtain rfl:cs3=[.string x3]:=hK3
   refine Rw' 3 [0,2,4,8,17,18,19,65,66,67] [.string x3] [.need (A1=some (adr A1)∧(0:Int)≤v67∧v67<((y3.length:Nat):Int)),.load ((adr A1).add (v67.toNat*1)) (.string x3)] [(0,.slice Aa0 a0.length ca0),(2,pg g1 0),(4,pg g5 0),(8,.string x3),(17,.slice Aa0 a0.length ca0),(18,iv (a0.length:Int)),(19,iv v19),(65,.slice A1 y3.length c1),(66,iv (y3.length:Int)),(67,iv v67)] (fun w hh=>⟨⟨ha3,(at?_some hx3).1,(at?_some hx3).2.1⟩,(hcc3 _ (hh.chin 0 rfl) 0 _ rfl)⟩)<|Rr<|Rv 3 [0,2,4,17,18,19,65,66,67,72,73] [.map (some gv_c4_2)] [.load ⟨g5,2,none⟩ (.map (some gv_c4_2))] [(0,.slice Aa0 a0.length ca0),(2,pg g1 0),(4,pg g5 0),(17,.slice Aa0 a0.length ca0),(18,iv (a0.length:Int)),(19,iv v19),(65,.slice A1 y3.length c1),(66,iv (y3.length:Int)),(67,iv v67),(72,.map (some gv_c4_2)),(73,.string x3)] (fun w hh=>(hh.box 1 rfl rfl)) ?_
   refine RgH.does (DoesH.mapUpdate (kk:=2) (cv:=[.bool true]) (k:=x3) (v:=true) (by kernel_rfl) (KyAt.string Tryd.underlying9) rfl rfl rfl hov_c4_2) ?_
   rintro _ _ _ _ ⟨ch4,rfl,rfl,rfl,ho7⟩
   refine Dn<|Ra 1 [1,1,1,0,1,0,0,1,1,0,0,1,1,1,1,0,0,1,1,1] [.l [1,1,1,0,1,0,0,1,1,0,0,1,1,1,1,0,0],.b 3,.b 1,.c [1,1,1,0,1,0,0,1,1,1],.l [1,1,1,0,1,0,0],.b 0,.c [1,1,1,1]]<|Rd 2 [0,2,4,17,18,19,65,66,67] [(0,.slice Aa0 a0.length ca0),(2,pg g1 0),(4,pg g5 0),(17,.slice Aa0 a0.length ca0),(18,iv (a0.length:Int)),(19,iv v19),(65,.slice A1 y3.length c1),(66,iv (y3.length:Int)),(67,iv (w64 (v67+1)))]<|Ad 1 [.c [1,1,1,0,1,0,0,1,1,0,0,1,1,1,1,0,0],.l [1,1,1,0,1,0,0,1,1,0,0,1,1,1,1,0,0],.b 3,.b 1,.c [1,1,1,0,1,0,0,1,1,1],.l [1,1,1,0,1,0,0],.b 0,.c [1,1,1,1]]<|Kp [0,2,4,17,18,19,65,66,67] [(0,.slice Aa0 a0.length ca0),(2,pg g1 0),(4,pg g5 0),(17,.slice Aa0 a0.length ca0),(18,iv (a0.length:Int)),(19,iv v19),(65,.slice A1 y3.length c1),(66,iv (y3.length:Int)),(67,iv (w64 (v67+1)))] ?_
   exact ihk a0 _ _ _ _ v_c4_0 _ _ v_c4_1 _ v19 x1 _ y3 _ _ _ (mput v_c4_2 x3 true) _ _ (w64 (v67+1)) hra0 hca0 hov_c4_0 ho5 ho6 ho7 heq
  ·replace heq:=bif_false hb8 heq
   refine Cf (decide (v67<(y3.length:Int))) hb8<|Ad 2 [.c [1,1,1,0,1,0,0,1,1,1],.l [1,1,1,0,1,0,0],.b 0,.c [1,1,1,1]]<|Kp [0,2,4,17,18,19] [(0,.slice Aa0 a0.length ca0),(2,pg g1 0),(4,pg g5 0),(17,.slice Aa0 a0.length ca0),(18,iv (a0.length:Int)),(19,iv v19)] ?_
   refine RunH.pick 6 [1,2,3,4,5] (cs':=(some (g5,.cells #[.map (some gv_c4_0),.map (some gv_c4_1),.map (some gv_c4_2)] 38 (0,0)))::chv_c4_2::ch2::chv_c4_0::(some (g1,.cells #[.map none,.map none,.map none] 38 (0,0)))::F) (by kernel_rfl) rfl ?_
   exact hj3 a0 _ _ _ _ v19 v_c4_0 _ _ (mput v_c4_1 x1.Path true) _ _ v_c4_2 _ _ hra0 hca0 hov_c4_0 ho5 hov_c4_2 heq
theorem trials_changesOf.l2_c {w0:World} [GlobI 0 w0] {H:Hp} {F:List Ch} {r:trials_changes × Int} (e1:(List (ByteArray × Bool))→(List (ByteArray × Bool))→(List (ByteArray × Bool))→Option (trials_changes × Int))
  (he1:∀ (g1:Nat) (g5:Nat) (v_c4_0:List (ByteArray × Bool)) (gv_c4_0:Nat) (chv_c4_0:Ch) (v_c4_1:List (ByteArray × Bool)) (gv_c4_1:Nat) (chv_c4_1:Ch) (v_c4_2:List (ByteArray × Bool)) (gv_c4_2:Nat) (chv_c4_2:Ch) ,MpOwn Value.string Kd.bool false H gv_c4_0 v_c4_0 chv_c4_0→MpOwn Value.string Kd.bool false H gv_c4_1 v_c4_1 chv_c4_1→MpOwn Value.string Kd.bool false H gv_c4_2 v_c4_2 chv_c4_2→e1 v_c4_0 v_c4_1 v_c4_2=some r→RunH C12 (S12 F H r) H w0 [.c [1,1,1,1,0],.c [1,1,1,1,1]] [(2,pg g1 0),(4,pg g5 0)] H ((some (g5,.cells #[.map (some gv_c4_0),.map (some gv_c4_1),.map (some gv_c4_2)] 38 (0,0)))::chv_c4_2::chv_c4_1::chv_c4_0::(some (g1,.cells #[.map none,.map none,.map none] 38 (0,0)))::F)):∀ (k:Nat),∀ (a0:List TreeChange) (Aa0:Option Addr) (ca0:Nat) (g1:Nat) (g5:Nat) (v_c4_0:List (ByteArray × Bool)) (gv_c4_0:Nat) (chv_c4_0:Ch) (v_c4_1:List (ByteArray × Bool)) (gv_c4_1:Nat) (chv_c4_1:Ch) (v_c4_2:List (ByteArray × Bool)) (gv_c4_2:Nat) (chv_c4_2:Ch) (v19:Int) ,Rw kTreeChange H F Aa0 a0→a0.length≤ca0→MpOwn Value.string Kd.bool false H gv_c4_0 v_c4_0 chv_c4_0→MpOwn Value.string Kd.bool false H gv_c4_1 v_c4_1 chv_c4_1→MpOwn Value.string Kd.bool false H gv_c4_2 v_c4_2 chv_c4_2→trials_changesOf.l2 e1 k a0 v_c4_0 v_c4_1 v_c4_2 v19=some r→RunH C12 (S12 F H r) H w0 [.c [1,1,1,0,1,0,0],.l [1,1,1,0,1,0,0],.b 0,.c [1,1,1,1]] [(0,.slice Aa0 a0.length ca0),(2,pg g1 0),(4,pg g5 0),(17,.slice Aa0 a0.length ca0),(18,iv (a0.length:Int)),(19,iv v19)] H ((some (g5,.cells #[.map (some gv_c4_0),.map (some gv_c4_1),.map (some gv_c4_2)] 38 (0,0)))::chv_c4_2::chv_c4_1::chv_c4_0::(some (g1,.cells #[.map none,.map none,.map none] 38 (0,0)))::F):=by
 intro k
 induction k with
 | zero=>intro a0 Aa0 ca0 g1 g5 v_c4_0 gv_c4_0 chv_c4_0 v_c4_1 gv_c4_1 chv_c4_1 v_c4_2 gv_c4_2 chv_c4_2 v19 hra0 hca0 hov_c4_0 hov_c4_1 hov_c4_2 heq; exact nomatch (show (none:Option (trials_changes × Int))=some r from heq)
 | succ k ihk =>
  intro a0 Aa0 ca0 g1 g5 v_c4_0 gv_c4_0 chv_c4_0 v_c4_1 gv_c4_1 chv_c4_1 v_c4_2 gv_c4_2 chv_c4_2 v19 hra0 hca0 hov_c4_0 hov_c4_1 hov_c4_2 heq
  rw [trials_changesOf.l2] at heq
  refine Ra 1 [1,1,1,0,1,0,0,0] [.c [1,1,1,0,1,0,0,1],.l [1,1,1,0,1,0,0],.b 0,.c [1,1,1,1]]<|Rd 1 [0,2,4,17,18,19,20] [(0,.slice Aa0 a0.length ca0),(2,pg g1 0),(4,pg g5 0),(17,.slice Aa0 a0.length ca0),(18,iv (a0.length:Int)),(19,iv v19),(20,.bool (decide (v19<(a0.length:Int))))]<|Ad 1 [.c [1,1,1,0,1,0,0,1,0],.c [1,1,1,0,1,0,0,1,1],.l [1,1,1,0,1,0,0],.b 0,.c [1,1,1,1]] ?_
  rcases bool_cases (decide (v19<(a0.length:Int))) with hb2 | hb2
  ·replace heq:=bif_true hb2 heq
   refine Ct (decide (v19<(a0.length:Int))) hb2<|Ra 4 [1,1,1,0,1,0,0,1,1,0,0,0] [.c [1,1,1,0,1,0,0,1,1,0,0,1],.b 1,.c [1,1,1,0,1,0,0,1,1,1],.l [1,1,1,0,1,0,0],.b 0,.c [1,1,1,1]] ?_
   obtain ⟨x1,hx1,heq⟩:=bind_some heq
   obtain ⟨ha1,cs1,hK1,hcc1⟩:=hra0.get hx1
   obtain ⟨rfl⟩:=kTreeChange_open hK1
   refine Rv 3 [0,2,4,17,18,19,21,23] [.string x1.Path,iv x1.Kind] [.need (Aa0=some (adr Aa0)∧(0:Int)≤v19∧v19<((a0.length:Nat):Int)),.load (((adr Aa0).add (v19.toNat*2)).add 0) (.string x1.Path),.load (((adr Aa0).add (v19.toNat*2)).add 1) (iv x1.Kind)] [(0,.slice Aa0 a0.length ca0),(2,pg g1 0),(4,pg g5 0),(17,.slice Aa0 a0.length ca0),(18,iv (a0.length:Int)),(19,iv v19),(21,iv v19),(23,.agg #[.string x1.Path,iv x1.Kind])] (fun w hh=>⟨⟨ha1,(at?_some hx1).1,(at?_some hx1).2.1⟩,(hcc1 _ _ (hh.drop 5) 0 _ rfl),(hcc1 _ _ (hh.drop 5) 1 _ rfl)⟩) ?_
   refine RgH.does (DoesH.new (d:=6) (v:=fun g=>.pointer (some ⟨g,0,none⟩)) (o:=fun g=>.cells #[.string ByteArray.empty,iv 0] 58 (0,0)) (fun g=>by kernel_rfl)) ?_
   rintro _ _ _ _ ⟨g6,rfl,rfl,rfl⟩
   refine Rk 5 [0,2,4,5,6,17,18,19,23] [(0,.slice Aa0 a0.length ca0),(2,pg g1 0),(4,pg g5 0),(5,iv v19),(6,pg g6 0),(17,.slice Aa0 a0.length ca0),(18,iv (a0.length:Int)),(19,iv v19),(23,.agg #[.string x1.Path,iv x1.Kind])] ?_
   refine RgH.does (DoesH.store (k:=0) (g:=g6) (off:=0) (v:=.agg #[.string x1.Path,iv x1.Kind]) (cells':=#[.string x1.Path,iv x1.Kind]) (by kernel_rfl) rfl (by kernel_rfl) (by kernel_rfl)) ?_
   rintro _ _ _ _ ⟨rfl,rfl,rfl⟩
   refine Dn<|Ra 3 [1,1,1,0,1,0,0,1,1,0,0,1,0,0,0] [.c [1,1,1,0,1,0,0,1,1,0,0,1,0,0,1],.b 2,.c [1,1,1,0,1,0,0,1,1,0,0,1,1],.b 1,.c [1,1,1,0,1,0,0,1,1,1],.l [1,1,1,0,1,0,0],.b 0,.c [1,1,1,1]]<|Rv 2 [0,2,4,5,6,17,18,19,26] [.string x1.Path] [.load ⟨g6,0,none⟩ (.string x1.Path)] [(0,.slice Aa0 a0.length ca0),(2,pg g1 0),(4,pg g5 0),(5,iv v19),(6,pg g6 0),(17,.slice Aa0 a0.length ca0),(18,iv (a0.length:Int)),(19,iv v19),(26,.string x1.Path)] (fun w hh=>(hh.box 0 rfl rfl)) ?_
   obtain ⟨y1,hy1,heq⟩:=bind_some heq
   refine RgH.does (DoesH.call (d:=27) (g:=18) (args:=#[.string x1.Path]) (by kernel_rfl) (blob_IsPath_c (a0:=x1.Path)  hy1)) ?_
   rintro _ _ _ _ ⟨_,rfl,rfl,rfl,rfl⟩
   refine Rd 5 [0,2,4,5,6,17,18,19,24] [(0,.slice Aa0 a0.length ca0),(2,pg g1 0),(4,pg g5 0),(5,iv v19),(6,pg g6 0),(17,.slice Aa0 a0.length ca0),(18,iv (a0.length:Int)),(19,iv v19),(24,.bool (!y1))] ?_
   rcases bool_cases (!y1) with hb3 | hb3
   ·replace heq:=bif_true hb3 heq
    refine Ct (!y1) hb3<|Ra 1 [1,1,1,0,1,0,0,1,1,0,0,1,0,0,1,0,0] [.c [1,1,1,0,1,0,0,1,1,0,0,1,0,0,1,0,1],.b 2,.c [1,1,1,0,1,0,0,1,1,0,0,1,1],.b 1,.c [1,1,1,0,1,0,0,1,1,1],.l [1,1,1,0,1,0,0],.b 0,.c [1,1,1,1]]<|Rv 1 [2,29] [.map (some gv_c4_0),.map (some gv_c4_1),.map (some gv_c4_2)] [.load ⟨g5,0,none⟩ (.map (some gv_c4_0)),.load ⟨g5,1,none⟩ (.map (some gv_c4_1)),.load ⟨g5,2,none⟩ (.map (some gv_c4_2))] [(2,pg g1 0),(29,.agg #[.map (some gv_c4_0),.map (some gv_c4_1),.map (some gv_c4_2)])] (fun w hh=>⟨(hh.box 1 rfl rfl),(hh.box 1 rfl rfl),(hh.box 1 rfl rfl)⟩) ?_
    refine RgH.does (DoesH.store (k:=5) (g:=g1) (off:=0) (v:=.agg #[.map (some gv_c4_0),.map (some gv_c4_1),.map (some gv_c4_2)]) (cells':=#[.map (some gv_c4_0),.map (some gv_c4_1),.map (some gv_c4_2)]) (by kernel_rfl) rfl (by kernel_rfl) (by kernel_rfl)) ?_
    rintro _ _ _ _ ⟨rfl,rfl,rfl⟩
    refine Rd 3 [2,3] [(2,pg g1 0),(3,iv 3)] ?_
    obtain rfl:=Option.some.inj heq
    refine RunH.pick 6 [5,4,3,2] (cs':=(some (g1,.cells #[.map (some gv_c4_0),.map (some gv_c4_1),.map (some gv_c4_2)] 38 (0,0)))::chv_c4_0::chv_c4_1::chv_c4_2::F) (by kernel_rfl) rfl ?_
    exact RunH.doneM' 1 (vs:=[.agg #[.map (some gv_c4_0),.map (some gv_c4_1),.map (some gv_c4_2)],iv 3]) (v:=.tuple #[.agg #[.map (some gv_c4_0),.map (some gv_c4_1),.map (some gv_c4_2)],iv 3]) (by kernel_rfl) Tryd.func12 (fun w hh=>show ResAll _ _ _ [.cell 2 38,.tmp 3] _ from ⟨⟨⟨g1,0,none⟩,by kernel_rfl,trS_run _ (vs:=[.map (some gv_c4_0),.map (some gv_c4_1),.map (some gv_c4_2)]) (r:=[]) (es:=[.load ⟨g1,0,none⟩ (.map (some gv_c4_0)),.load ⟨g1,1,none⟩ (.map (some gv_c4_1)),.load ⟨g1,2,none⟩ (.map (some gv_c4_2))]) (by kernel_rfl) ⟨(hh.box 0 rfl rfl),(hh.box 0 rfl rfl),(hh.box 0 rfl rfl)⟩⟩,(show lk _ _=some _ by kernel_rfl),trivial⟩) rfl (cs':=chv_c4_0::chv_c4_1::chv_c4_2::F) rfl ⟨gv_c4_0,chv_c4_0,gv_c4_1,chv_c4_1,gv_c4_2,chv_c4_2,rfl,rfl,rfl,hov_c4_0,hov_c4_1,hov_c4_2⟩
   ·replace heq:=bif_false hb3 heq
    refine Cf (!y1) hb3<|Ra 1 [1,1,1,0,1,0,0,1,1,0,0,1,0,0,1,1,0] [.c [1,1,1,0,1,0,0,1,1,0,0,1,0,0,1,1,1],.b 2,.c [1,1,1,0,1,0,0,1,1,0,0,1,1],.b 1,.c [1,1,1,0,1,0,0,1,1,1],.l [1,1,1,0,1,0,0],.b 0,.c [1,1,1,1]]<|Rv 2 [0,2,4,5,6,17,18,19,32] [iv x1.Kind] [.load ⟨g6,1,none⟩ (iv x1.Kind)] [(0,.slice Aa0 a0.length ca0),(2,pg g1 0),(4,pg g5 0),(5,iv v19),(6,pg g6 0),(17,.slice Aa0 a0.length ca0),(18,iv (a0.length:Int)),(19,iv v19),(32,iv x1.Kind)] (fun w hh=>(hh.box 0 rfl rfl)) ?_
    obtain ⟨y2,hy2,heq⟩:=bind_some heq
    refine RgH.does (DoesH.call (d:=33) (g:=23) (args:=#[iv x1.Kind,iv 1,iv 4]) (by kernel_rfl) (trials_within_c (a0:=x1.Kind) (a1:=1) (a2:=4)  hy2)) ?_
    rintro _ _ _ _ ⟨_,rfl,rfl,rfl,rfl⟩
    refine Rd 5 [0,2,4,5,6,17,18,19,30] [(0,.slice Aa0 a0.length ca0),(2,pg g1 0),(4,pg g5 0),(5,iv v19),(6,pg g6 0),(17,.slice Aa0 a0.length ca0),(18,iv (a0.length:Int)),(19,iv v19),(30,.bool (!y2))] ?_
    rcases bool_cases (!y2) with hb4 | hb4
    ·replace heq:=bif_true hb4 heq
     refine Ct (!y2) hb4<|Ra 1 [1,1,1,0,1,0,0,1,1,0,0,1,0,0,1,1,1,0,0] [.c [1,1,1,0,1,0,0,1,1,0,0,1,0,0,1,1,1,0,1],.b 2,.c [1,1,1,0,1,0,0,1,1,0,0,1,1],.b 1,.c [1,1,1,0,1,0,0,1,1,1],.l [1,1,1,0,1,0,0],.b 0,.c [1,1,1,1]]<|Rv 1 [2,35] [.map (some gv_c4_0),.map (some gv_c4_1),.map (some gv_c4_2)] [.load ⟨g5,0,none⟩ (.map (some gv_c4_0)),.load ⟨g5,1,none⟩ (.map (some gv_c4_1)),.load ⟨g5,2,none⟩ (.map (some gv_c4_2))] [(2,pg g1 0),(35,.agg #[.map (some gv_c4_0),.map (some gv_c4_1),.map (some gv_c4_2)])] (fun w hh=>⟨(hh.box 1 rfl rfl),(hh.box 1 rfl rfl),(hh.box 1 rfl rfl)⟩) ?_
     refine RgH.does (DoesH.store (k:=5) (g:=g1) (off:=0) (v:=.agg #[.map (some gv_c4_0),.map (some gv_c4_1),.map (some gv_c4_2)]) (cells':=#[.map (some gv_c4_0),.map (some gv_c4_1),.map (some gv_c4_2)]) (by kernel_rfl) rfl (by kernel_rfl) (by kernel_rfl)) ?_
     rintro _ _ _ _ ⟨rfl,rfl,rfl⟩
     refine Rd 3 [2,3] [(2,pg g1 0),(3,iv 4)] ?_
     obtain rfl:=Option.some.inj heq
     refine RunH.pick 6 [5,4,3,2] (cs':=(some (g1,.cells #[.map (some gv_c4_0),.map (some gv_c4_1),.map (some gv_c4_2)] 38 (0,0)))::chv_c4_0::chv_c4_1::chv_c4_2::F) (by kernel_rfl) rfl ?_
     exact RunH.doneM' 1 (vs:=[.agg #[.map (some gv_c4_0),.map (some gv_c4_1),.map (some gv_c4_2)],iv 4]) (v:=.tuple #[.agg #[.map (some gv_c4_0),.map (some gv_c4_1),.map (some gv_c4_2)],iv 4]) (by kernel_rfl) Tryd.func12 (fun w hh=>show ResAll _ _ _ [.cell 2 38,.tmp 3] _ from ⟨⟨⟨g1,0,none⟩,by kernel_rfl,trS_run _ (vs:=[.map (some gv_c4_0),.map (some gv_c4_1),.map (some gv_c4_2)]) (r:=[]) (es:=[.load ⟨g1,0,none⟩ (.map (some gv_c4_0)),.load ⟨g1,1,none⟩ (.map (some gv_c4_1)),.load ⟨g1,2,none⟩ (.map (some gv_c4_2))]) (by kernel_rfl) ⟨(hh.box 0 rfl rfl),(hh.box 0 rfl rfl),(hh.box 0 rfl rfl)⟩⟩,(show lk _ _=some _ by kernel_rfl),trivial⟩) rfl (cs':=chv_c4_0::chv_c4_1::chv_c4_2::F) rfl ⟨gv_c4_0,chv_c4_0,gv_c4_1,chv_c4_1,gv_c4_2,chv_c4_2,rfl,rfl,rfl,hov_c4_0,hov_c4_1,hov_c4_2⟩
    ·replace heq:=bif_false hb4 heq
     refine Cf (!y2) hb4<|Ad 1 [.c [1,1,1,0,1,0,0,1,1,0,0,1,0,0,1,1,1,1,0],.c [1,1,1,0,1,0,0,1,1,0,0,1,0,0,1,1,1,1,1],.b 2,.c [1,1,1,0,1,0,0,1,1,0,0,1,1],.b 1,.c [1,1,1,0,1,0,0,1,1,1],.l [1,1,1,0,1,0,0],.b 0,.c [1,1,1,1]] ?_
     obtain ⟨t1,ht1,heq⟩:=bind_some heq
     have K13:RunH C12 (S12 F H r) H w0 [.c [1,1,1,0,1,0,0,1,1,0,0,1,0,0,1,1,1,1,1],.b 2,.c [1,1,1,0,1,0,0,1,1,0,0,1,1],.b 1,.c [1,1,1,0,1,0,0,1,1,1],.l [1,1,1,0,1,0,0],.b 0,.c [1,1,1,1]] [(0,.slice Aa0 a0.length ca0),(2,pg g1 0),(4,pg g5 0),(6,pg g6 0),(17,.slice Aa0 a0.length ca0),(18,iv (a0.length:Int)),(19,iv v19),(36,.bool t1)] H ((some (g6,.cells #[.string x1.Path,iv x1.Kind] 58 (0,0)))::(some (g5,.cells #[.map (some gv_c4_0),.map (some gv_c4_1),.map (some gv_c4_2)] 38 (0,0)))::chv_c4_2::chv_c4_1::chv_c4_0::(some (g1,.cells #[.map none,.map none,.map none] 38 (0,0)))::F):=by
      rcases bool_cases (t1) with hb6 | hb6
      ·replace heq:=bif_true hb6 heq
       refine Ct t1 hb6<|Ra 1 [1,1,1,0,1,0,0,1,1,0,0,1,0,0,1,1,1,1,1,0,0] [.c [1,1,1,0,1,0,0,1,1,0,0,1,0,0,1,1,1,1,1,0,1],.b 2,.c [1,1,1,0,1,0,0,1,1,0,0,1,1],.b 1,.c [1,1,1,0,1,0,0,1,1,1],.l [1,1,1,0,1,0,0],.b 0,.c [1,1,1,1]]<|Rv 1 [2,50] [.map (some gv_c4_0),.map (some gv_c4_1),.map (some gv_c4_2)] [.load ⟨g5,0,none⟩ (.map (some gv_c4_0)),.load ⟨g5,1,none⟩ (.map (some gv_c4_1)),.load ⟨g5,2,none⟩ (.map (some gv_c4_2))] [(2,pg g1 0),(50,.agg #[.map (some gv_c4_0),.map (some gv_c4_1),.map (some gv_c4_2)])] (fun w hh=>⟨(hh.box 1 rfl rfl),(hh.box 1 rfl rfl),(hh.box 1 rfl rfl)⟩) ?_
       refine RgH.does (DoesH.store (k:=5) (g:=g1) (off:=0) (v:=.agg #[.map (some gv_c4_0),.map (some gv_c4_1),.map (some gv_c4_2)]) (cells':=#[.map (some gv_c4_0),.map (some gv_c4_1),.map (some gv_c4_2)]) (by kernel_rfl) rfl (by kernel_rfl) (by kernel_rfl)) ?_
       rintro _ _ _ _ ⟨rfl,rfl,rfl⟩
       refine Rd 3 [2,3] [(2,pg g1 0),(3,iv 8)] ?_
       obtain rfl:=Option.some.inj heq
       refine RunH.pick 6 [5,4,3,2] (cs':=(some (g1,.cells #[.map (some gv_c4_0),.map (some gv_c4_1),.map (some gv_c4_2)] 38 (0,0)))::chv_c4_0::chv_c4_1::chv_c4_2::F) (by kernel_rfl) rfl ?_
       exact RunH.doneM' 1 (vs:=[.agg #[.map (some gv_c4_0),.map (some gv_c4_1),.map (some gv_c4_2)],iv 8]) (v:=.tuple #[.agg #[.map (some gv_c4_0),.map (some gv_c4_1),.map (some gv_c4_2)],iv 8]) (by kernel_rfl) Tryd.func12 (fun w hh=>show ResAll _ _ _ [.cell 2 38,.tmp 3] _ from ⟨⟨⟨g1,0,none⟩,by kernel_rfl,trS_run _ (vs:=[.map (some gv_c4_0),.map (some gv_c4_1),.map (some gv_c4_2)]) (r:=[]) (es:=[.load ⟨g1,0,none⟩ (.map (some gv_c4_0)),.load ⟨g1,1,none⟩ (.map (some gv_c4_1)),.load ⟨g1,2,none⟩ (.map (some gv_c4_2))]) (by kernel_rfl) ⟨(hh.box 0 rfl rfl),(hh.box 0 rfl rfl),(hh.box 0 rfl rfl)⟩⟩,(show lk _ _=some _ by kernel_rfl),trivial⟩) rfl (cs':=chv_c4_0::chv_c4_1::chv_c4_2::F) rfl ⟨gv_c4_0,chv_c4_0,gv_c4_1,chv_c4_1,gv_c4_2,chv_c4_2,rfl,rfl,rfl,hov_c4_0,hov_c4_1,hov_c4_2⟩
      ·replace heq:=bif_false hb6 heq
       refine Cf t1 hb6<|Ra 1 [1,1,1,0,1,0,0,1,1,0,0,1,0,0,1,1,1,1,1,1,0] [.c [1,1,1,0,1,0,0,1,1,0,0,1,0,0,1,1,1,1,1,1,1],.b 2,.c [1,1,1,0,1,0,0,1,1,0,0,1,1],.b 1,.c [1,1,1,0,1,0,0,1,1,1],.l [1,1,1,0,1,0,0],.b 0,.c [1,1,1,1]]<|Rw' 4 [0,2,4,6,17,18,19,51] [iv x1.Kind] [.load ⟨g6,1,none⟩ (iv x1.Kind)] [(0,.slice Aa0 a0.length ca0),(2,pg g1 0),(4,pg g5 0),(6,pg g6 0),(17,.slice Aa0 a0.length ca0),(18,iv (a0.length:Int)),(19,iv v19),(51,.bool (x1.Kind != 1))] (fun w hh=>(hh.box 0 rfl rfl)) ?_
       rcases bool_cases (x1.Kind != 1) with hb7 | hb7
       ·replace heq:=bif_true hb7 heq
        refine Ct (x1.Kind != 1) hb7<|Ra 1 [1,1,1,0,1,0,0,1,1,0,0,1,0,0,1,1,1,1,1,1,1,0,0] [.c [1,1,1,0,1,0,0,1,1,0,0,1,0,0,1,1,1,1,1,1,1,0,1],.b 2,.c [1,1,1,0,1,0,0,1,1,0,0,1,1],.b 1,.c [1,1,1,0,1,0,0,1,1,1],.l [1,1,1,0,1,0,0],.b 0,.c [1,1,1,1]]<|Rv 4 [0,2,4,17,18,19,56,58] [.map (some gv_c4_0),.string x1.Path] [.load ⟨g5,0,none⟩ (.map (some gv_c4_0)),.load ⟨g6,0,none⟩ (.string x1.Path)] [(0,.slice Aa0 a0.length ca0),(2,pg g1 0),(4,pg g5 0),(17,.slice Aa0 a0.length ca0),(18,iv (a0.length:Int)),(19,iv v19),(56,.map (some gv_c4_0)),(58,.string x1.Path)] (fun w hh=>⟨(hh.box 1 rfl rfl),(hh.box 0 rfl rfl)⟩) ?_
        refine RgH.does (DoesH.mapUpdate (kk:=4) (cv:=[.bool true]) (k:=x1.Path) (v:=true) (by kernel_rfl) (KyAt.string Tryd.underlying9) rfl rfl rfl hov_c4_0) ?_
        rintro _ _ _ _ ⟨ch1,rfl,rfl,rfl,ho4⟩
        refine Dn<|Ad 1 [.c [1,1,1,0,1,0,0,1,1,1],.l [1,1,1,0,1,0,0],.b 0,.c [1,1,1,1]]<|Kp [0,2,4,17,18,19] [(0,.slice Aa0 a0.length ca0),(2,pg g1 0),(4,pg g5 0),(17,.slice Aa0 a0.length ca0),(18,iv (a0.length:Int)),(19,iv v19)] ?_
        refine RunH.pick 6 [1,2,3,4,5] (cs':=(some (g5,.cells #[.map (some gv_c4_0),.map (some gv_c4_1),.map (some gv_c4_2)] 38 (0,0)))::chv_c4_2::chv_c4_1::ch1::(some (g1,.cells #[.map none,.map none,.map none] 38 (0,0)))::F) (by kernel_rfl) rfl ?_
        exact (trials_changesOf.j3_c (backl2:=(trials_changesOf.l2 e1 k)) ihk) a0 _ _ _ _ v19 (mput v_c4_0 x1.Path true) _ _ v_c4_1 _ _ v_c4_2 _ _ hra0 hca0 ho4 hov_c4_1 hov_c4_2 heq
       ·replace heq:=bif_false hb7 heq
        refine Cf (x1.Kind != 1) hb7<|Ra 3 [1,1,1,0,1,0,0,1,1,0,0,1,1,0] [.c [1,1,1,0,1,0,0,1,1,0,0,1,1,1],.b 1,.c [1,1,1,0,1,0,0,1,1,1],.l [1,1,1,0,1,0,0],.b 0,.c [1,1,1,1]]<|Rv 4 [0,2,4,6,17,18,19,60,62] [.map (some gv_c4_1),.string x1.Path] [.load ⟨g5,1,none⟩ (.map (some gv_c4_1)),.load ⟨g6,0,none⟩ (.string x1.Path)] [(0,.slice Aa0 a0.length ca0),(2,pg g1 0),(4,pg g5 0),(6,pg g6 0),(17,.slice Aa0 a0.length ca0),(18,iv (a0.length:Int)),(19,iv v19),(60,.map (some gv_c4_1)),(62,.string x1.Path)] (fun w hh=>⟨(hh.box 1 rfl rfl),(hh.box 0 rfl rfl)⟩) ?_
        refine RgH.does (DoesH.mapUpdate (kk:=3) (cv:=[.bool true]) (k:=x1.Path) (v:=true) (by kernel_rfl) (KyAt.string Tryd.underlying9) rfl rfl rfl hov_c4_1) ?_
        rintro _ _ _ _ ⟨ch2,rfl,rfl,rfl,ho5⟩
        refine Dn<|Ra 1 [1,1,1,0,1,0,0,1,1,0,0,1,1,1,0] [.c [1,1,1,0,1,0,0,1,1,0,0,1,1,1,1],.b 1,.c [1,1,1,0,1,0,0,1,1,1],.l [1,1,1,0,1,0,0],.b 0,.c [1,1,1,1]]<|Rv 2 [0,2,4,17,18,19,64] [.string x1.Path] [.load ⟨g6,0,none⟩ (.string x1.Path)] [(0,.slice Aa0 a0.length ca0),(2,pg g1 0),(4,pg g5 0),(17,.slice Aa0 a0.length ca0),(18,iv (a0.length:Int)),(19,iv v19),(64,.string x1.Path)] (fun w hh=>(hh.box 0 rfl rfl)) ?_
        obtain ⟨y3,hy3,heq⟩:=bind_some heq
        refine RgH.does (DoesH.call (d:=65) (g:=24) (args:=#[.string x1.Path]) (by kernel_rfl) (trials_above_c (a0:=x1.Path)  hy3)) ?_
        rintro _ _ _ _ ⟨_,rfl,A1,c1,ch3,rfl,rfl,rfl,ho6⟩
        refine Rd 5 [0,2,4,17,18,19,65,66,67] [(0,.slice Aa0 a0.length ca0),(2,pg g1 0),(4,pg g5 0),(17,.slice Aa0 a0.length ca0),(18,iv (a0.length:Int)),(19,iv v19),(65,.slice A1 y3.length c1),(66,iv (y3.length:Int)),(67,iv 0)]<|Ad 2 [.c [1,1,1,0,1,0,0,1,1,0,0,1,1,1,1,0,0],.l [1,1,1,0,1,0,0,1,1,0,0,1,1,1,1,0,0],.b 3,.b 1,.c [1,1,1,0,1,0,0,1,1,1],.l [1,1,1,0,1,0,0],.b 0,.c [1,1,1,1]]<|Kp [0,2,4,17,18,19,65,66,67] [(0,.slice Aa0 a0.length ca0),(2,pg g1 0),(4,pg g5 0),(17,.slice Aa0 a0.length ca0),(18,iv (a0.length:Int)),(19,iv v19),(65,.slice A1 y3.length c1),(66,iv (y3.length:Int)),(67,iv 0)] ?_
        refine RunH.pick 7 [0,2,3,4,5,6] (cs':=ch3::(some (g5,.cells #[.map (some gv_c4_0),.map (some gv_c4_1),.map (some gv_c4_2)] 38 (0,0)))::chv_c4_2::ch2::chv_c4_0::(some (g1,.cells #[.map none,.map none,.map none] 38 (0,0)))::F) (by kernel_rfl) rfl ?_
        exact ((trials_changesOf.l4_c (j3:=trials_changesOf.j3 ((trials_changesOf.l2 e1 k))) (trials_changesOf.j3_c (backl2:=(trials_changesOf.l2 e1 k)) ihk)) big) a0 _ _ _ _ v_c4_0 _ _ v_c4_1 _ v19 x1 _ y3 _ _ _ v_c4_2 _ _ 0 hra0 hca0 hov_c4_0 ho5 ho6 hov_c4_2 heq
     replace heq:=ht1
     refine Kp [0,2,4,5,6,17,18,19] [(0,.slice Aa0 a0.length ca0),(2,pg g1 0),(4,pg g5 0),(5,iv v19),(6,pg g6 0),(17,.slice Aa0 a0.length ca0),(18,iv (a0.length:Int)),(19,iv v19)] ?_
     refine RunH.draw (fun w=>Heap H w0 w ((some (g6,.cells #[.string x1.Path,iv x1.Kind] 58 (0,0)))::(some (g5,.cells #[.map (some gv_c4_0),.map (some gv_c4_1),.map (some gv_c4_2)] 38 (0,0)))::chv_c4_2::chv_c4_1::chv_c4_0::(some (g1,.cells #[.map none,.map none,.map none] 38 (0,0)))::F)) (fun w=>Heap H w0 w ((some (g6,.cells #[.string x1.Path,iv x1.Kind] 58 (0,0)))::(some (g5,.cells #[.map (some gv_c4_0),.map (some gv_c4_1),.map (some gv_c4_2)] 38 (0,0)))::chv_c4_2::chv_c4_1::chv_c4_0::(some (g1,.cells #[.map none,.map none,.map none] 38 (0,0)))::F)) [3,3,3,3,3,3,3,3,3,3,3,3,3,3] (n:=14) (ls:=[false,false,false,false,false,false,false,false,false,false,false,false,false,false]) (by kernel_rfl) (by kernel_rfl) (by kernel_rfl) rfl ?_
     refine Dk [0,1,2] 11 (nb 14 7) [] [] [39,0,2,4,5,6,17,18,19] [(39,.bool (decide (0<v19))),(0,.slice Aa0 a0.length ca0),(2,pg g1 0),(4,pg g5 0),(5,iv v19),(6,pg g6 0),(17,.slice Aa0 a0.length ca0),(18,iv (a0.length:Int)),(19,iv v19)] (Pk 6 [0,1,2,3,4,5]) (Pk 6 [0,1,2,3,4,5]) (fun _ _=>trivial) ?_
     rcases bool_cases (decide (0<v19)) with hb5 | hb5
     ·replace heq:=bif_true hb5 heq
      refine DrH.val1 (v':=.bool true) (congrArg Value.bool hb5) ?_
      obtain ⟨x2,hx2,heq⟩:=bind_some heq
      obtain ⟨ha2,cs2,hK2,hcc2⟩:=hra0.get hx2
      obtain ⟨rfl⟩:=kTreeChange_open hK2
      refine Dk [3,4,5,6,7,8,9,10,11,12,13] 0 (nb 14 16383) [.string x1.Path,.string x2.Path] [.load ⟨g6,0,none⟩ (.string x1.Path),.need (Aa0=some (adr Aa0)∧(0:Int)≤(w64 (v19 - 1))∧(w64 (v19 - 1))<((a0.length:Nat):Int)),.load (((adr Aa0).add ((w64 (v19 - 1)).toNat*2)).add 0) (.string x2.Path)] [0,2,4,6,17,18,19,36] [(0,.slice Aa0 a0.length ca0),(2,pg g1 0),(4,pg g5 0),(6,pg g6 0),(17,.slice Aa0 a0.length ca0),(18,iv (a0.length:Int)),(19,iv v19),(36,.bool (sLt x1.Path x2.Path||sEq x1.Path x2.Path))] (Pk 6 [0,1,2,3,4,5]) (Pk 6 [0,1,2,3,4,5]) (fun w hh=>⟨(hh.box 0 rfl rfl),⟨ha2,(at?_some hx2).1,(at?_some hx2).2.1⟩,(hcc2 _ _ (hh.drop 6) 0 _ rfl)⟩) ?_
      obtain rfl:=Option.some.inj heq
      refine Kr [0,2,4,6,17,18,19,36] [(0,.slice Aa0 a0.length ca0),(2,pg g1 0),(4,pg g5 0),(6,pg g6 0),(17,.slice Aa0 a0.length ca0),(18,iv (a0.length:Int)),(19,iv v19),(36,.bool (sLt x1.Path x2.Path||sEq x1.Path x2.Path))] ?_
      refine DrH.done (by kernel_rfl) ?_
      exact K13
     ·replace heq:=bif_false hb5 heq
      refine DrH.val1 (v':=.bool false) (congrArg Value.bool hb5) ?_
      refine Dk [3,4,5,6,7,8,9,10,11,12,13] 0 (nb 14 16383) [] [] [0,2,4,6,17,18,19,36] [(0,.slice Aa0 a0.length ca0),(2,pg g1 0),(4,pg g5 0),(6,pg g6 0),(17,.slice Aa0 a0.length ca0),(18,iv (a0.length:Int)),(19,iv v19),(36,.bool false)] (Pk 6 [0,1,2,3,4,5]) (Pk 6 [0,1,2,3,4,5]) (fun _ _=>trivial) ?_
      obtain rfl:=Option.some.inj heq
      refine Kr [0,2,4,6,17,18,19,36] [(0,.slice Aa0 a0.length ca0),(2,pg g1 0),(4,pg g5 0),(6,pg g6 0),(17,.slice Aa0 a0.length ca0),(18,iv (a0.length:Int)),(19,iv v19),(36,.bool false)] ?_
      refine DrH.done (by kernel_rfl) ?_
      exact K13
  ·replace heq:=bif_false hb2 heq
   refine Cf (decide (v19<(a0.length:Int))) hb2<|Ad 2 [.c [1,1,1,1,0],.c [1,1,1,1,1]]<|Kp [2,4] [(2,pg g1 0),(4,pg g5 0)] ?_
   exact he1 _ _ v_c4_0 _ _ v_c4_1 _ _ v_c4_2 _ _ hov_c4_0 hov_c4_1 hov_c4_2 heq
theorem trials_changesOf_c {w0:World} [GlobI 0 w0] {H:Hp} {F:List Ch} {a0:List TreeChange} {Aa0:Option Addr} {na0:Nat} {ca0:Nat} {r:trials_changes × Int} (hra0:Rw kTreeChange H F Aa0 a0) (hca0:na0≤ca0) (hna0:na0=a0.length) (heq:trials_changesOf.f a0=some r):CallsH Tryd.prog 12 #[.slice Aa0 na0 ca0] H w0 (F) (S12 F H r):=by
 refine calls_of_runH (F:=C12) Tryd.func12 (by kernel_rfl) Tryd.ntmps12 (args:=[.slice Aa0 na0 ca0]) (by kernel_rfl) ?_
 subst hna0
 unfold trials_changesOf.f at heq
 refine Ra 1 [0] [.c [1]] ?_
 refine RgH.does (DoesH.new (d:=2) (v:=fun g=>.pointer (some ⟨g,0,none⟩)) (o:=fun g=>.cells #[.map none,.map none,.map none] 38 (0,0)) (fun g=>by kernel_rfl)) ?_
 rintro _ _ _ _ ⟨g1,rfl,rfl,rfl⟩
 refine Rd 2 [0,2] [(0,.slice Aa0 a0.length ca0),(2,pg g1 0)]<|Ra 1 [1,0] [.c [1,1]] ?_
 refine RgH.does (DoesH.new (d:=9) (v:=fun g=>.map (some g)) (o:=fun g=>.map #[] 0) (fun g=>by kernel_rfl)) ?_
 rintro _ _ _ _ ⟨g2,rfl,rfl,rfl⟩
 have ho1:MpOwn Value.string Kd.bool false H g2 ([]:List (ByteArray × Bool)) (some (g2,.map #[] 0)):=MpOwn.made
 refine RgH.does (DoesH.new (d:=10) (v:=fun g=>.map (some g)) (o:=fun g=>.map #[] 0) (fun g=>by kernel_rfl)) ?_
 rintro _ _ _ _ ⟨g3,rfl,rfl,rfl⟩
 have ho2:MpOwn Value.string Kd.bool false H g3 ([]:List (ByteArray × Bool)) (some (g3,.map #[] 0)):=MpOwn.made
 refine RgH.does (DoesH.new (d:=11) (v:=fun g=>.map (some g)) (o:=fun g=>.map #[] 0) (fun g=>by kernel_rfl)) ?_
 rintro _ _ _ _ ⟨g4,rfl,rfl,rfl⟩
 have ho3:MpOwn Value.string Kd.bool false H g4 ([]:List (ByteArray × Bool)) (some (g4,.map #[] 0)):=MpOwn.made
 refine Rk 4 [0,2,12] [(0,.slice Aa0 a0.length ca0),(2,pg g1 0),(12,.agg #[.map (some g2),.map (some g3),.map (some g4)])] ?_
 refine RgH.does (DoesH.new (d:=4) (v:=fun g=>.pointer (some ⟨g,0,none⟩)) (o:=fun g=>.cells #[.map none,.map none,.map none] 38 (0,0)) (fun g=>by kernel_rfl)) ?_
 rintro _ _ _ _ ⟨g5,rfl,rfl,rfl⟩
 refine RgH.does (DoesH.store (k:=0) (g:=g5) (off:=0) (v:=.agg #[.map (some g2),.map (some g3),.map (some g4)]) (cells':=#[.map (some g2),.map (some g3),.map (some g4)]) (by kernel_rfl) rfl (by kernel_rfl) (by kernel_rfl)) ?_
 rintro _ _ _ _ ⟨rfl,rfl,rfl⟩
 refine Dn<|Ra 2 [1,1,0,0] [.c [1,1,0,1],.c [1,1,1]]<|Rd 3 [0,2,4,15] [(0,.slice Aa0 a0.length ca0),(2,pg g1 0),(4,pg g5 0),(15,.bool (decide (1000<(a0.length:Int))))] ?_
 rcases bool_cases (decide (1000<(a0.length:Int))) with hb1 | hb1
 ·replace heq:=bif_true hb1 heq
  refine Ct (decide (1000<(a0.length:Int))) hb1<|Ra 1 [1,1,0,1,0,0] [.c [1,1,0,1,0,1],.c [1,1,1]]<|Rv 1 [2,16] [.map (some g2),.map (some g3),.map (some g4)] [.load ⟨g5,0,none⟩ (.map (some g2)),.load ⟨g5,1,none⟩ (.map (some g3)),.load ⟨g5,2,none⟩ (.map (some g4))] [(2,pg g1 0),(16,.agg #[.map (some g2),.map (some g3),.map (some g4)])] (fun w hh=>⟨(hh.box 0 rfl rfl),(hh.box 0 rfl rfl),(hh.box 0 rfl rfl)⟩) ?_
  refine RgH.does (DoesH.store (k:=4) (g:=g1) (off:=0) (v:=.agg #[.map (some g2),.map (some g3),.map (some g4)]) (cells':=#[.map (some g2),.map (some g3),.map (some g4)]) (by kernel_rfl) rfl (by kernel_rfl) (by kernel_rfl)) ?_
  rintro _ _ _ _ ⟨rfl,rfl,rfl⟩
  refine Rd 3 [2,3] [(2,pg g1 0),(3,iv 2)] ?_
  obtain rfl:=Option.some.inj heq
  refine RunH.pick 5 [4,3,2,1] (cs':=(some (g1,.cells #[.map (some g2),.map (some g3),.map (some g4)] 38 (0,0)))::(some (g2,.map #[] 0))::(some (g3,.map #[] 0))::(some (g4,.map #[] 0))::F) (by kernel_rfl) rfl ?_
  exact RunH.doneM' 1 (vs:=[.agg #[.map (some g2),.map (some g3),.map (some g4)],iv 2]) (v:=.tuple #[.agg #[.map (some g2),.map (some g3),.map (some g4)],iv 2]) (by kernel_rfl) Tryd.func12 (fun w hh=>show ResAll _ _ _ [.cell 2 38,.tmp 3] _ from ⟨⟨⟨g1,0,none⟩,by kernel_rfl,trS_run _ (vs:=[.map (some g2),.map (some g3),.map (some g4)]) (r:=[]) (es:=[.load ⟨g1,0,none⟩ (.map (some g2)),.load ⟨g1,1,none⟩ (.map (some g3)),.load ⟨g1,2,none⟩ (.map (some g4))]) (by kernel_rfl) ⟨(hh.box 0 rfl rfl),(hh.box 0 rfl rfl),(hh.box 0 rfl rfl)⟩⟩,(show lk _ _=some _ by kernel_rfl),trivial⟩) rfl (cs':=(some (g2,.map #[] 0))::(some (g3,.map #[] 0))::(some (g4,.map #[] 0))::F) rfl ⟨g2,(some (g2,.map #[] 0)),g3,(some (g3,.map #[] 0)),g4,(some (g4,.map #[] 0)),rfl,rfl,rfl,ho1,ho2,ho3⟩
 ·replace heq:=bif_false hb1 heq
  refine Cf (decide (1000<(a0.length:Int))) hb1<|Ra 3 [1,1,1,0,0] [.c [1,1,1,0,1],.c [1,1,1,1]]<|Rd 3 [0,2,4,17,18,19] [(0,.slice Aa0 a0.length ca0),(2,pg g1 0),(4,pg g5 0),(17,.slice Aa0 a0.length ca0),(18,iv (a0.length:Int)),(19,iv 0)]<|Ad 2 [.c [1,1,1,0,1,0,0],.l [1,1,1,0,1,0,0],.b 0,.c [1,1,1,1]]<|Kp [0,2,4,17,18,19] [(0,.slice Aa0 a0.length ca0),(2,pg g1 0),(4,pg g5 0),(17,.slice Aa0 a0.length ca0),(18,iv (a0.length:Int)),(19,iv 0)] ?_
  exact ((trials_changesOf.l2_c (e1:=trials_changesOf.e1) (trials_changesOf.e1_c)) big) a0 _ _ _ _ ([]:List (ByteArray × Bool)) _ _ ([]:List (ByteArray × Bool)) _ _ ([]:List (ByteArray × Bool)) _ _ 0 hra0 hca0 ho1 ho2 ho3 heq
noncomputable def C25:Ctx:={ P:=Tryd.prog,f:=25,N:=8,c:=bodyOf Tryd.f25 }
def S25 (F:List Ch) (H0:Hp) (r:Bool) (v:Value) (H:Hp) (cs:List Ch):Prop:=H0=H∧v=.bool r∧F=cs
theorem trials_changes_affects_1_c {w0:World} [GlobI 0 w0] {H:Hp} {F:List Ch} {a0:ByteArray} {ga1:Nat} {a1:trials_changes} {Aa1_0:Option Nat} {Aa1_1:Option Nat} {Aa1_2:Option Nat} {r:Bool} (hra1_0:Mw Value.string Kd.bool false H F Aa1_0 a1.other) (hra1_1:Mw Value.string Kd.bool false H F Aa1_1 a1.fresh) (hra1_2:Mw Value.string Kd.bool false H F Aa1_2 a1.over) (hga1:InG H F ga1 (.cells #[.map Aa1_0,.map Aa1_1,.map Aa1_2] 38 (0,0))) (heq:trials_changes_affects_1.f a0 a1=some r):CallsH Tryd.prog 25 #[.string a0,.pointer (some ⟨ga1,0,none⟩)] H w0 (F) (S25 F H r):=by
 refine calls_of_runH (F:=C25) Tryd.func25 (by kernel_rfl) Tryd.ntmps25 (args:=[.string a0,.pointer (some ⟨ga1,0,none⟩)]) (by kernel_rfl) ?_
 unfold trials_changes_affects_1.f at heq
 refine Ra 1 [0] [.c [1]]<|Rd 1 [0,1] [(0,.string a0),(1,pg ga1 0)]<|Ra 1 [1,0] [.c [1,1]]<|Rv 3 [5,6] [.map Aa1_0] [.load ⟨ga1,0,none⟩ (.map Aa1_0)] [(5,.map Aa1_0),(6,.string a0)] (fun w hh=>(hga1.cell (hh.drop 0) rfl)) ?_
 refine RgH.does (DoesH.lookup (d:=7) (t:=36) (m:=a1.other) (k:=a0) (z:=.bool false) (zc:=[.bool false]) (z0:=false) (ok:=false) (kd:=Kd.bool) (ag:=false) (by kernel_rfl) (KyAt.string Tryd.underlying9) rfl rfl (fun w hh=>hra1_0.on (hh.drop 0))) ?_
 rintro _ _ _ _ ⟨cc1,rfl,rfl,rfl,hcc1⟩
 obtain rfl:cc1=[.bool (mgetD a1.other a0 false)]:=hcc1
 refine RgH.val1 (v':=.bool (mgetD a1.other a0 false)) rfl ?_
 refine Rd 5 [3] [(3,.bool (mgetD a1.other a0 false))] ?_
 obtain rfl:=Option.some.inj heq
 exact RunH.done (by kernel_rfl) Tryd.func25 (v:=.bool (mgetD a1.other a0 false)) (by kernel_rfl) ⟨rfl,rfl,rfl⟩
noncomputable def C41v2:Ctx:={ P:=Tryd.prog,f:=41,N:=19,c:=bodyOf Tryd.f41 }
def S41v2 (F:List Ch) (H0:Hp) (r:Int) (v:Value) (H:Hp) (cs:List Ch):Prop:=H0=H∧v=iv r∧F=cs
theorem slices_IndexFunc_string_2.e1_c {w0:World} [GlobI 0 w0] {H:Hp} {F:List Ch} {r:Int}:slices_IndexFunc_string_2.e1=some r→RunH C41v2 (S41v2 F H r) H w0 [.c [1,1,0],.c [1,1,1]] [] H (F):=by
 intro   heq
 unfold slices_IndexFunc_string_2.e1 at heq
 refine Rr<|Rd 1 [4] [(4,iv (-1))] ?_
 obtain rfl:=Option.some.inj heq
 exact RunH.done (by kernel_rfl) Tryd.func41 (v:=iv (-1)) (by kernel_rfl) ⟨rfl,rfl,rfl⟩
theorem slices_IndexFunc_string_2.l2_c {w0:World} [GlobI 0 w0] {H:Hp} {F:List Ch} {r:Int} (e1:Option Int)
  (he1:e1=some r→RunH C41v2 (S41v2 F H r) H w0 [.c [1,1,0],.c [1,1,1]] [] H (F)):∀ (k:Nat),∀ (a0:List ByteArray) (Aa0:Option Addr) (ca0:Nat) (ga1q0:Nat) (a1q0:trials_changes) (Aa1q0_0:Option Nat) (Aa1q0_1:Option Nat) (Aa1q0_2:Option Nat) (v8:Int) ,Rw Kd.string H F Aa0 a0→a0.length≤ca0→Mw Value.string Kd.bool false H F Aa1q0_0 a1q0.other→Mw Value.string Kd.bool false H F Aa1q0_1 a1q0.fresh→Mw Value.string Kd.bool false H F Aa1q0_2 a1q0.over→InG H F ga1q0 (.cells #[.map Aa1q0_0,.map Aa1q0_1,.map Aa1q0_2] 38 (0,0))→slices_IndexFunc_string_2.l2 e1 k a0 a1q0 v8=some r→RunH C41v2 (S41v2 F H r) H w0 [.c [1,0,1,0,0],.l [1,0,1,0,0],.b 0,.c [1,1]] [(0,.slice Aa0 a0.length ca0),(1,.func (.func 25) #[] #[.pointer (some ⟨ga1q0,0,none⟩)]),(7,iv (a0.length:Int)),(8,iv v8)] H (F):=by
 intro k
 induction k with
 | zero=>intro a0 Aa0 ca0 ga1q0 a1q0 Aa1q0_0 Aa1q0_1 Aa1q0_2 v8 hra0 hca0 hra1q0_0 hra1q0_1 hra1q0_2 hga1q0 heq; exact nomatch (show (none:Option Int)=some r from heq)
 | succ k ihk =>
  intro a0 Aa0 ca0 ga1q0 a1q0 Aa1q0_0 Aa1q0_1 Aa1q0_2 v8 hra0 hca0 hra1q0_0 hra1q0_1 hra1q0_2 hga1q0 heq
  rw [slices_IndexFunc_string_2.l2] at heq
  refine Ra 1 [1,0,1,0,0,0] [.c [1,0,1,0,0,1],.l [1,0,1,0,0],.b 0,.c [1,1]]<|Rd 1 [0,1,7,8,9] [(0,.slice Aa0 a0.length ca0),(1,.func (.func 25) #[] #[.pointer (some ⟨ga1q0,0,none⟩)]),(7,iv (a0.length:Int)),(8,iv v8),(9,.bool (decide (v8<(a0.length:Int))))]<|Ad 1 [.c [1,0,1,0,0,1,0],.c [1,0,1,0,0,1,1],.l [1,0,1,0,0],.b 0,.c [1,1]] ?_
  rcases bool_cases (decide (v8<(a0.length:Int))) with hb1 | hb1
  ·replace heq:=bif_true hb1 heq
   refine Ct (decide (v8<(a0.length:Int))) hb1<|Ra 4 [1,0,1,0,0,1,1,0,0,0] [.c [1,0,1,0,0,1,1,0,0,1],.b 1,.c [1,0,1,0,0,1,1,1],.l [1,0,1,0,0],.b 0,.c [1,1]]<|Rd 2 [0,1,5,7,8] [(0,.slice Aa0 a0.length ca0),(1,.func (.func 25) #[] #[.pointer (some ⟨ga1q0,0,none⟩)]),(5,iv v8),(7,iv (a0.length:Int)),(8,iv v8)]<|Ra 1 [1,0,1,0,0,1,1,0,0,1,0] [.c [1,0,1,0,0,1,1,0,0,1,1],.b 1,.c [1,0,1,0,0,1,1,1],.l [1,0,1,0,0],.b 0,.c [1,1]] ?_
   obtain ⟨x1,hx1,heq⟩:=bind_some heq
   obtain ⟨ha1,cs1,hK1,hcc1⟩:=hra0.get hx1
   obtain rfl:cs1=[.string x1]:=hK1
   refine Rv 5 [0,1,5,7,8,11,15] [.string x1] [.need (Aa0=some (adr Aa0)∧(0:Int)≤v8∧v8<((a0.length:Nat):Int)),.load ((adr Aa0).add (v8.toNat*1)) (.string x1)] [(0,.slice Aa0 a0.length ca0),(1,.func (.func 25) #[] #[.pointer (some ⟨ga1q0,0,none⟩)]),(5,iv v8),(7,iv (a0.length:Int)),(8,iv v8),(11,.func (.func 25) #[] #[.pointer (some ⟨ga1q0,0,none⟩)]),(15,.string x1)] (fun w hh=>⟨⟨ha1,(at?_some hx1).1,(at?_some hx1).2.1⟩,(hcc1 _ _ (hh.drop 0) 0 _ rfl)⟩) ?_
   obtain ⟨y1,hy1,heq⟩:=bind_some heq
   refine RgH.does (DoesH.call (d:=16) (g:=25) (args:=#[.string x1,.pointer (some ⟨ga1q0,0,none⟩)]) (by kernel_rfl) (trials_changes_affects_1_c (a0:=x1) (a1:=a1q0) hra1q0_0 hra1q0_1 hra1q0_2 hga1q0 hy1)) ?_
   rintro _ _ _ _ ⟨_,rfl,rfl,rfl,rfl⟩
   refine Dn ?_
   rcases bool_cases (y1) with hb2 | hb2
   ·replace heq:=bif_true hb2 heq
    refine Ct y1 hb2<|Ra 1 [1,0,1,0,0,1,1,0,0,1,1,0,0] [.c [1,0,1,0,0,1,1,0,0,1,1,0,1],.b 1,.c [1,0,1,0,0,1,1,1],.l [1,0,1,0,0],.b 0,.c [1,1]]<|Rd 2 [4] [(4,iv v8)] ?_
    obtain rfl:=Option.some.inj heq
    exact RunH.done (by kernel_rfl) Tryd.func41 (v:=iv v8) (by kernel_rfl) ⟨rfl,rfl,rfl⟩
   ·replace heq:=bif_false hb2 heq
    refine Cf y1 hb2<|Ra 2 [1,0,1,0,0,1,1,1] [.l [1,0,1,0,0],.b 0,.c [1,1]]<|Rd 2 [0,1,7,8] [(0,.slice Aa0 a0.length ca0),(1,.func (.func 25) #[] #[.pointer (some ⟨ga1q0,0,none⟩)]),(7,iv (a0.length:Int)),(8,iv (w64 (v8+1)))]<|Ad 1 [.c [1,0,1,0,0],.l [1,0,1,0,0],.b 0,.c [1,1]]<|Kp [0,1,7,8] [(0,.slice Aa0 a0.length ca0),(1,.func (.func 25) #[] #[.pointer (some ⟨ga1q0,0,none⟩)]),(7,iv (a0.length:Int)),(8,iv (w64 (v8+1)))] ?_
    exact ihk a0 _ _ _ a1q0 _ _ _ (w64 (v8+1)) hra0 hca0 hra1q0_0 hra1q0_1 hra1q0_2 hga1q0 heq
  ·replace heq:=bif_false hb1 heq
   refine Cf (decide (v8<(a0.length:Int))) hb1<|Ad 2 [.c [1,1,0],.c [1,1,1]]<|Kp [] [] ?_
   exact he1 heq
theorem slices_IndexFunc_string_2_c {w0:World} [GlobI 0 w0] {H:Hp} {F:List Ch} {a0:List ByteArray} {Aa0:Option Addr} {na0:Nat} {ca0:Nat} {ga1q0:Nat} {a1q0:trials_changes} {Aa1q0_0:Option Nat} {Aa1q0_1:Option Nat} {Aa1q0_2:Option Nat} {r:Int} (hra0:Rw Kd.string H F Aa0 a0) (hca0:na0≤ca0) (hna0:na0=a0.length) (hra1q0_0:Mw Value.string Kd.bool false H F Aa1q0_0 a1q0.other) (hra1q0_1:Mw Value.string Kd.bool false H F Aa1q0_1 a1q0.fresh) (hra1q0_2:Mw Value.string Kd.bool false H F Aa1q0_2 a1q0.over) (hga1q0:InG H F ga1q0 (.cells #[.map Aa1q0_0,.map Aa1q0_1,.map Aa1q0_2] 38 (0,0))) (heq:slices_IndexFunc_string_2.f a0 a1q0=some r):CallsH Tryd.prog 41 #[.slice Aa0 na0 ca0,.func (.func 25) #[] #[.pointer (some ⟨ga1q0,0,none⟩)]] H w0 (F) (S41v2 F H r):=by
 refine calls_of_runH (F:=C41v2) Tryd.func41 (by kernel_rfl) Tryd.ntmps41 (args:=[.slice Aa0 na0 ca0,.func (.func 25) #[] #[.pointer (some ⟨ga1q0,0,none⟩)]]) (by kernel_rfl) ?_
 subst hna0
 unfold slices_IndexFunc_string_2.f at heq
 refine Ra 1 [0] [.c [1]]<|Rd 1 [0,1] [(0,.slice Aa0 a0.length ca0),(1,.func (.func 25) #[] #[.pointer (some ⟨ga1q0,0,none⟩)])]<|Ra 2 [1,0,0] [.c [1,0,1],.c [1,1]]<|Rd 3 [0,1,7,8] [(0,.slice Aa0 a0.length ca0),(1,.func (.func 25) #[] #[.pointer (some ⟨ga1q0,0,none⟩)]),(7,iv (a0.length:Int)),(8,iv 0)]<|Ad 2 [.c [1,0,1,0,0],.l [1,0,1,0,0],.b 0,.c [1,1]]<|Kp [0,1,7,8] [(0,.slice Aa0 a0.length ca0),(1,.func (.func 25) #[] #[.pointer (some ⟨ga1q0,0,none⟩)]),(7,iv (a0.length:Int)),(8,iv 0)] ?_
 exact ((slices_IndexFunc_string_2.l2_c (e1:=slices_IndexFunc_string_2.e1) (slices_IndexFunc_string_2.e1_c)) big) a0 _ _ _ a1q0 _ _ _ 0 hra0 hca0 hra1q0_0 hra1q0_1 hra1q0_2 hga1q0 heq
noncomputable def C20v2:Ctx:={ P:=Tryd.prog,f:=20,N:=9,c:=bodyOf Tryd.f20 }
def S20v2 (F:List Ch) (H0:Hp) (r:Bool) (v:Value) (H:Hp) (cs:List Ch):Prop:=H0=H∧v=.bool r∧F=cs
theorem slices_ContainsFunc_string_2_c {w0:World} [GlobI 0 w0] {H:Hp} {F:List Ch} {a0:List ByteArray} {Aa0:Option Addr} {na0:Nat} {ca0:Nat} {ga1q0:Nat} {a1q0:trials_changes} {Aa1q0_0:Option Nat} {Aa1q0_1:Option Nat} {Aa1q0_2:Option Nat} {r:Bool} (hra0:Rw Kd.string H F Aa0 a0) (hca0:na0≤ca0) (hna0:na0=a0.length) (hra1q0_0:Mw Value.string Kd.bool false H F Aa1q0_0 a1q0.other) (hra1q0_1:Mw Value.string Kd.bool false H F Aa1q0_1 a1q0.fresh) (hra1q0_2:Mw Value.string Kd.bool false H F Aa1q0_2 a1q0.over) (hga1q0:InG H F ga1q0 (.cells #[.map Aa1q0_0,.map Aa1q0_1,.map Aa1q0_2] 38 (0,0))) (heq:slices_ContainsFunc_string_2.f a0 a1q0=some r):CallsH Tryd.prog 20 #[.slice Aa0 na0 ca0,.func (.func 25) #[] #[.pointer (some ⟨ga1q0,0,none⟩)]] H w0 (F) (S20v2 F H r):=by
 refine calls_of_runH (F:=C20v2) Tryd.func20 (by kernel_rfl) Tryd.ntmps20 (args:=[.slice Aa0 na0 ca0,.func (.func 25) #[] #[.pointer (some ⟨ga1q0,0,none⟩)]]) (by kernel_rfl) ?_
 subst hna0
 unfold slices_ContainsFunc_string_2.f at heq
 refine Ra 1 [0] [.c [1]]<|Rd 1 [0,1] [(0,.slice Aa0 a0.length ca0),(1,.func (.func 25) #[] #[.pointer (some ⟨ga1q0,0,none⟩)])]<|Ra 1 [1,0] [.c [1,1]]<|Rk 2 [5,6] [(5,.slice Aa0 a0.length ca0),(6,.func (.func 25) #[] #[.pointer (some ⟨ga1q0,0,none⟩)])] ?_
 obtain ⟨y1,hy1,heq⟩:=bind_some heq
 refine RgH.does (DoesH.call (d:=7) (g:=41) (args:=#[.slice Aa0 a0.length ca0,.func (.func 25) #[] #[.pointer (some ⟨ga1q0,0,none⟩)]]) (by kernel_rfl) (slices_IndexFunc_string_2_c (a0:=a0) (a1q0:=a1q0) hra0 hca0 rfl hra1q0_0 hra1q0_1 hra1q0_2 hga1q0 hy1)) ?_
 rintro _ _ _ _ ⟨_,rfl,rfl,rfl,rfl⟩
 refine Rd 5 [4] [(4,.bool (decide (0≤y1)))] ?_
 obtain rfl:=Option.some.inj heq
 exact RunH.done (by kernel_rfl) Tryd.func20 (v:=.bool (decide (0≤y1))) (by kernel_rfl) ⟨rfl,rfl,rfl⟩
noncomputable def C27:Ctx:={ P:=Tryd.prog,f:=27,N:=8,c:=bodyOf Tryd.f27 }
def S27 (F:List Ch) (H0:Hp) (r:Bool) (v:Value) (H:Hp) (cs:List Ch):Prop:=H0=H∧v=.bool r∧F=cs
theorem trials_changes_affects_2_1_c {w0:World} [GlobI 0 w0] {H:Hp} {F:List Ch} {a0:ByteArray} {ga1:Nat} {a1:trials_changes} {Aa1_0:Option Nat} {Aa1_1:Option Nat} {Aa1_2:Option Nat} {r:Bool} (hra1_0:Mw Value.string Kd.bool false H F Aa1_0 a1.other) (hra1_1:Mw Value.string Kd.bool false H F Aa1_1 a1.fresh) (hra1_2:Mw Value.string Kd.bool false H F Aa1_2 a1.over) (hga1:InG H F ga1 (.cells #[.map Aa1_0,.map Aa1_1,.map Aa1_2] 38 (0,0))) (heq:trials_changes_affects_2_1.f a0 a1=some r):CallsH Tryd.prog 27 #[.string a0,.pointer (some ⟨ga1,0,none⟩)] H w0 (F) (S27 F H r):=by
 refine calls_of_runH (F:=C27) Tryd.func27 (by kernel_rfl) Tryd.ntmps27 (args:=[.string a0,.pointer (some ⟨ga1,0,none⟩)]) (by kernel_rfl) ?_
 unfold trials_changes_affects_2_1.f at heq
 refine Ra 1 [0] [.c [1]]<|Rd 1 [0,1] [(0,.string a0),(1,pg ga1 0)]<|Ra 1 [1,0] [.c [1,1]]<|Rv 3 [5,6] [.map Aa1_1] [.load ⟨ga1,1,none⟩ (.map Aa1_1)] [(5,.map Aa1_1),(6,.string a0)] (fun w hh=>(hga1.cell (hh.drop 0) rfl)) ?_
 refine RgH.does (DoesH.lookup (d:=7) (t:=36) (m:=a1.fresh) (k:=a0) (z:=.bool false) (zc:=[.bool false]) (z0:=false) (ok:=false) (kd:=Kd.bool) (ag:=false) (by kernel_rfl) (KyAt.string Tryd.underlying9) rfl rfl (fun w hh=>hra1_1.on (hh.drop 0))) ?_
 rintro _ _ _ _ ⟨cc1,rfl,rfl,rfl,hcc1⟩
 obtain rfl:cc1=[.bool (mgetD a1.fresh a0 false)]:=hcc1
 refine RgH.val1 (v':=.bool (mgetD a1.fresh a0 false)) rfl ?_
 refine Rd 5 [3] [(3,.bool (mgetD a1.fresh a0 false))] ?_
 obtain rfl:=Option.some.inj heq
 exact RunH.done (by kernel_rfl) Tryd.func27 (v:=.bool (mgetD a1.fresh a0 false)) (by kernel_rfl) ⟨rfl,rfl,rfl⟩
noncomputable def C41v4:Ctx:={ P:=Tryd.prog,f:=41,N:=19,c:=bodyOf Tryd.f41 }
def S41v4 (F:List Ch) (H0:Hp) (r:Int) (v:Value) (H:Hp) (cs:List Ch):Prop:=H0=H∧v=iv r∧F=cs
theorem slices_IndexFunc_string_4.e1_c {w0:World} [GlobI 0 w0] {H:Hp} {F:List Ch} {r:Int}:slices_IndexFunc_string_4.e1=some r→RunH C41v4 (S41v4 F H r) H w0 [.c [1,1,0],.c [1,1,1]] [] H (F):=by
 intro   heq
 unfold slices_IndexFunc_string_4.e1 at heq
 refine Rr<|Rd 1 [4] [(4,iv (-1))] ?_
 obtain rfl:=Option.some.inj heq
 exact RunH.done (by kernel_rfl) Tryd.func41 (v:=iv (-1)) (by kernel_rfl) ⟨rfl,rfl,rfl⟩
theorem slices_IndexFunc_string_4.l2_c {w0:World} [GlobI 0 w0] {H:Hp} {F:List Ch} {r:Int} (e1:Option Int)
  (he1:e1=some r→RunH C41v4 (S41v4 F H r) H w0 [.c [1,1,0],.c [1,1,1]] [] H (F)):∀ (k:Nat),∀ (a0:List ByteArray) (Aa0:Option Addr) (ca0:Nat) (ga1q0:Nat) (a1q0:trials_changes) (Aa1q0_0:Option Nat) (Aa1q0_1:Option Nat) (Aa1q0_2:Option Nat) (v8:Int) ,Rw Kd.string H F Aa0 a0→a0.length≤ca0→Mw Value.string Kd.bool false H F Aa1q0_0 a1q0.other→Mw Value.string Kd.bool false H F Aa1q0_1 a1q0.fresh→Mw Value.string Kd.bool false H F Aa1q0_2 a1q0.over→InG H F ga1q0 (.cells #[.map Aa1q0_0,.map Aa1q0_1,.map Aa1q0_2] 38 (0,0))→slices_IndexFunc_string_4.l2 e1 k a0 a1q0 v8=some r→RunH C41v4 (S41v4 F H r) H w0 [.c [1,0,1,0,0],.l [1,0,1,0,0],.b 0,.c [1,1]] [(0,.slice Aa0 a0.length ca0),(1,.func (.func 27) #[] #[.pointer (some ⟨ga1q0,0,none⟩)]),(7,iv (a0.length:Int)),(8,iv v8)] H (F):=by
 intro k
 induction k with
 | zero=>intro a0 Aa0 ca0 ga1q0 a1q0 Aa1q0_0 Aa1q0_1 Aa1q0_2 v8 hra0 hca0 hra1q0_0 hra1q0_1 hra1q0_2 hga1q0 heq; exact nomatch (show (none:Option Int)=some r from heq)
 | succ k ihk =>
  intro a0 Aa0 ca0 ga1q0 a1q0 Aa1q0_0 Aa1q0_1 Aa1q0_2 v8 hra0 hca0 hra1q0_0 hra1q0_1 hra1q0_2 hga1q0 heq
  rw [slices_IndexFunc_string_4.l2] at heq
  refine Ra 1 [1,0,1,0,0,0] [.c [1,0,1,0,0,1],.l [1,0,1,0,0],.b 0,.c [1,1]]<|Rd 1 [0,1,7,8,9] [(0,.slice Aa0 a0.length ca0),(1,.func (.func 27) #[] #[.pointer (some ⟨ga1q0,0,none⟩)]),(7,iv (a0.length:Int)),(8,iv v8),(9,.bool (decide (v8<(a0.length:Int))))]<|Ad 1 [.c [1,0,1,0,0,1,0],.c [1,0,1,0,0,1,1],.l [1,0,1,0,0],.b 0,.c [1,1]] ?_
  rcases bool_cases (decide (v8<(a0.length:Int))) with hb1 | hb1
  ·replace heq:=bif_true hb1 heq
   refine Ct (decide (v8<(a0.length:Int))) hb1<|Ra 4 [1,0,1,0,0,1,1,0,0,0] [.c [1,0,1,0,0,1,1,0,0,1],.b 1,.c [1,0,1,0,0,1,1,1],.l [1,0,1,0,0],.b 0,.c [1,1]]<|Rd 2 [0,1,5,7,8] [(0,.slice Aa0 a0.length ca0),(1,.func (.func 27) #[] #[.pointer (some ⟨ga1q0,0,none⟩)]),(5,iv v8),(7,iv (a0.length:Int)),(8,iv v8)]<|Ra 1 [1,0,1,0,0,1,1,0,0,1,0] [.c [1,0,1,0,0,1,1,0,0,1,1],.b 1,.c [1,0,1,0,0,1,1,1],.l [1,0,1,0,0],.b 0,.c [1,1]] ?_
   obtain ⟨x1,hx1,heq⟩:=bind_some heq
   obtain ⟨ha1,cs1,hK1,hcc1⟩:=hra0.get hx1
   obtain rfl:cs1=[.string x1]:=hK1
   refine Rv 5 [0,1,5,7,8,11,15] [.string x1] [.need (Aa0=some (adr Aa0)∧(0:Int)≤v8∧v8<((a0.length:Nat):Int)),.load ((adr Aa0).add (v8.toNat*1)) (.string x1)] [(0,.slice Aa0 a0.length ca0),(1,.func (.func 27) #[] #[.pointer (some ⟨ga1q0,0,none⟩)]),(5,iv v8),(7,iv (a0.length:Int)),(8,iv v8),(11,.func (.func 27) #[] #[.pointer (some ⟨ga1q0,0,none⟩)]),(15,.string x1)] (fun w hh=>⟨⟨ha1,(at?_some hx1).1,(at?_some hx1).2.1⟩,(hcc1 _ _ (hh.drop 0) 0 _ rfl)⟩) ?_
   obtain ⟨y1,hy1,heq⟩:=bind_some heq
   refine RgH.does (DoesH.call (d:=16) (g:=27) (args:=#[.string x1,.pointer (some ⟨ga1q0,0,none⟩)]) (by kernel_rfl) (trials_changes_affects_2_1_c (a0:=x1) (a1:=a1q0) hra1q0_0 hra1q0_1 hra1q0_2 hga1q0 hy1)) ?_
   rintro _ _ _ _ ⟨_,rfl,rfl,rfl,rfl⟩
   refine Dn ?_
   rcases bool_cases (y1) with hb2 | hb2
   ·replace heq:=bif_true hb2 heq
    refine Ct y1 hb2<|Ra 1 [1,0,1,0,0,1,1,0,0,1,1,0,0] [.c [1,0,1,0,0,1,1,0,0,1,1,0,1],.b 1,.c [1,0,1,0,0,1,1,1],.l [1,0,1,0,0],.b 0,.c [1,1]]<|Rd 2 [4] [(4,iv v8)] ?_
    obtain rfl:=Option.some.inj heq
    exact RunH.done (by kernel_rfl) Tryd.func41 (v:=iv v8) (by kernel_rfl) ⟨rfl,rfl,rfl⟩
   ·replace heq:=bif_false hb2 heq
    refine Cf y1 hb2<|Ra 2 [1,0,1,0,0,1,1,1] [.l [1,0,1,0,0],.b 0,.c [1,1]]<|Rd 2 [0,1,7,8] [(0,.slice Aa0 a0.length ca0),(1,.func (.func 27) #[] #[.pointer (some ⟨ga1q0,0,none⟩)]),(7,iv (a0.length:Int)),(8,iv (w64 (v8+1)))]<|Ad 1 [.c [1,0,1,0,0],.l [1,0,1,0,0],.b 0,.c [1,1]]<|Kp [0,1,7,8] [(0,.slice Aa0 a0.length ca0),(1,.func (.func 27) #[] #[.pointer (some ⟨ga1q0,0,none⟩)]),(7,iv (a0.length:Int)),(8,iv (w64 (v8+1)))] ?_
    exact ihk a0 _ _ _ a1q0 _ _ _ (w64 (v8+1)) hra0 hca0 hra1q0_0 hra1q0_1 hra1q0_2 hga1q0 heq
  ·replace heq:=bif_false hb1 heq
   refine Cf (decide (v8<(a0.length:Int))) hb1<|Ad 2 [.c [1,1,0],.c [1,1,1]]<|Kp [] [] ?_
   exact he1 heq
theorem slices_IndexFunc_string_4_c {w0:World} [GlobI 0 w0] {H:Hp} {F:List Ch} {a0:List ByteArray} {Aa0:Option Addr} {na0:Nat} {ca0:Nat} {ga1q0:Nat} {a1q0:trials_changes} {Aa1q0_0:Option Nat} {Aa1q0_1:Option Nat} {Aa1q0_2:Option Nat} {r:Int} (hra0:Rw Kd.string H F Aa0 a0) (hca0:na0≤ca0) (hna0:na0=a0.length) (hra1q0_0:Mw Value.string Kd.bool false H F Aa1q0_0 a1q0.other) (hra1q0_1:Mw Value.string Kd.bool false H F Aa1q0_1 a1q0.fresh) (hra1q0_2:Mw Value.string Kd.bool false H F Aa1q0_2 a1q0.over) (hga1q0:InG H F ga1q0 (.cells #[.map Aa1q0_0,.map Aa1q0_1,.map Aa1q0_2] 38 (0,0))) (heq:slices_IndexFunc_string_4.f a0 a1q0=some r):CallsH Tryd.prog 41 #[.slice Aa0 na0 ca0,.func (.func 27) #[] #[.pointer (some ⟨ga1q0,0,none⟩)]] H w0 (F) (S41v4 F H r):=by
 refine calls_of_runH (F:=C41v4) Tryd.func41 (by kernel_rfl) Tryd.ntmps41 (args:=[.slice Aa0 na0 ca0,.func (.func 27) #[] #[.pointer (some ⟨ga1q0,0,none⟩)]]) (by kernel_rfl) ?_
 subst hna0
 unfold slices_IndexFunc_string_4.f at heq
 refine Ra 1 [0] [.c [1]]<|Rd 1 [0,1] [(0,.slice Aa0 a0.length ca0),(1,.func (.func 27) #[] #[.pointer (some ⟨ga1q0,0,none⟩)])]<|Ra 2 [1,0,0] [.c [1,0,1],.c [1,1]]<|Rd 3 [0,1,7,8] [(0,.slice Aa0 a0.length ca0),(1,.func (.func 27) #[] #[.pointer (some ⟨ga1q0,0,none⟩)]),(7,iv (a0.length:Int)),(8,iv 0)]<|Ad 2 [.c [1,0,1,0,0],.l [1,0,1,0,0],.b 0,.c [1,1]]<|Kp [0,1,7,8] [(0,.slice Aa0 a0.length ca0),(1,.func (.func 27) #[] #[.pointer (some ⟨ga1q0,0,none⟩)]),(7,iv (a0.length:Int)),(8,iv 0)] ?_
 exact ((slices_IndexFunc_string_4.l2_c (e1:=slices_IndexFunc_string_4.e1) (slices_IndexFunc_string_4.e1_c)) big) a0 _ _ _ a1q0 _ _ _ 0 hra0 hca0 hra1q0_0 hra1q0_1 hra1q0_2 hga1q0 heq
noncomputable def C20v4:Ctx:={ P:=Tryd.prog,f:=20,N:=9,c:=bodyOf Tryd.f20 }
def S20v4 (F:List Ch) (H0:Hp) (r:Bool) (v:Value) (H:Hp) (cs:List Ch):Prop:=H0=H∧v=.bool r∧F=cs
theorem slices_ContainsFunc_string_4_c {w0:World} [GlobI 0 w0] {H:Hp} {F:List Ch} {a0:List ByteArray} {Aa0:Option Addr} {na0:Nat} {ca0:Nat} {ga1q0:Nat} {a1q0:trials_changes} {Aa1q0_0:Option Nat} {Aa1q0_1:Option Nat} {Aa1q0_2:Option Nat} {r:Bool} (hra0:Rw Kd.string H F Aa0 a0) (hca0:na0≤ca0) (hna0:na0=a0.length) (hra1q0_0:Mw Value.string Kd.bool false H F Aa1q0_0 a1q0.other) (hra1q0_1:Mw Value.string Kd.bool false H F Aa1q0_1 a1q0.fresh) (hra1q0_2:Mw Value.string Kd.bool false H F Aa1q0_2 a1q0.over) (hga1q0:InG H F ga1q0 (.cells #[.map Aa1q0_0,.map Aa1q0_1,.map Aa1q0_2] 38 (0,0))) (heq:slices_ContainsFunc_string_4.f a0 a1q0=some r):CallsH Tryd.prog 20 #[.slice Aa0 na0 ca0,.func (.func 27) #[] #[.pointer (some ⟨ga1q0,0,none⟩)]] H w0 (F) (S20v4 F H r):=by
 refine calls_of_runH (F:=C20v4) Tryd.func20 (by kernel_rfl) Tryd.ntmps20 (args:=[.slice Aa0 na0 ca0,.func (.func 27) #[] #[.pointer (some ⟨ga1q0,0,none⟩)]]) (by kernel_rfl) ?_
 subst hna0
 unfold slices_ContainsFunc_string_4.f at heq
 refine Ra 1 [0] [.c [1]]<|Rd 1 [0,1] [(0,.slice Aa0 a0.length ca0),(1,.func (.func 27) #[] #[.pointer (some ⟨ga1q0,0,none⟩)])]<|Ra 1 [1,0] [.c [1,1]]<|Rk 2 [5,6] [(5,.slice Aa0 a0.length ca0),(6,.func (.func 27) #[] #[.pointer (some ⟨ga1q0,0,none⟩)])] ?_
 obtain ⟨y1,hy1,heq⟩:=bind_some heq
 refine RgH.does (DoesH.call (d:=7) (g:=41) (args:=#[.slice Aa0 a0.length ca0,.func (.func 27) #[] #[.pointer (some ⟨ga1q0,0,none⟩)]]) (by kernel_rfl) (slices_IndexFunc_string_4_c (a0:=a0) (a1q0:=a1q0) hra0 hca0 rfl hra1q0_0 hra1q0_1 hra1q0_2 hga1q0 hy1)) ?_
 rintro _ _ _ _ ⟨_,rfl,rfl,rfl,rfl⟩
 refine Rd 5 [4] [(4,.bool (decide (0≤y1)))] ?_
 obtain rfl:=Option.some.inj heq
 exact RunH.done (by kernel_rfl) Tryd.func20 (v:=.bool (decide (0≤y1))) (by kernel_rfl) ⟨rfl,rfl,rfl⟩
noncomputable def C26:Ctx:={ P:=Tryd.prog,f:=26,N:=20,c:=bodyOf Tryd.f26 }
def S26 (F:List Ch) (H0:Hp) (r:Bool) (v:Value) (H:Hp) (cs:List Ch):Prop:=H0=H∧v=.bool r∧F=cs
theorem trials_changes_affects_2_c {w0:World} [GlobI 0 w0] {H:Hp} {F:List Ch} {a0:ByteArray} {ga1:Nat} {a1:trials_changes} {Aa1_0:Option Nat} {Aa1_1:Option Nat} {Aa1_2:Option Nat} {r:Bool} (hra1_0:Mw Value.string Kd.bool false H F Aa1_0 a1.other) (hra1_1:Mw Value.string Kd.bool false H F Aa1_1 a1.fresh) (hra1_2:Mw Value.string Kd.bool false H F Aa1_2 a1.over) (hga1:InG H F ga1 (.cells #[.map Aa1_0,.map Aa1_1,.map Aa1_2] 38 (0,0))) (heq:trials_changes_affects_2.f a0 a1=some r):CallsH Tryd.prog 26 #[.string a0,.pointer (some ⟨ga1,0,none⟩)] H w0 (F) (S26 F H r):=by
 refine calls_of_runH (F:=C26) Tryd.func26 (by kernel_rfl) Tryd.ntmps26 (args:=[.string a0,.pointer (some ⟨ga1,0,none⟩)]) (by kernel_rfl) ?_
 unfold trials_changes_affects_2.f at heq
 refine Ra 1 [0] [.c [1]]<|Rd 1 [0,1] [(0,.string a0),(1,pg ga1 0)]<|Ad 1 [.c [1,0],.c [1,1]] ?_
 obtain ⟨t1,ht1,heq⟩:=bind_some heq
 have K2:RunH C26 (S26 F H r) H w0 [.c [1,1]] [(3,.bool t1)] H (F):=by
  obtain rfl:=Option.some.inj heq
  exact RunH.done (by kernel_rfl) Tryd.func26 (v:=.bool t1) (by kernel_rfl) ⟨rfl,rfl,rfl⟩
 replace heq:=ht1
 refine Rr<|Rv 3 [0,1,5,6] [.map Aa1_1] [.load ⟨ga1,1,none⟩ (.map Aa1_1)] [(0,.string a0),(1,pg ga1 0),(5,.map Aa1_1),(6,.string a0)] (fun w hh=>(hga1.cell (hh.drop 0) rfl)) ?_
 refine RgH.does (DoesH.lookup (d:=7) (t:=36) (m:=a1.fresh) (k:=a0) (z:=.bool false) (zc:=[.bool false]) (z0:=false) (ok:=false) (kd:=Kd.bool) (ag:=false) (by kernel_rfl) (KyAt.string Tryd.underlying9) rfl rfl (fun w hh=>hra1_1.on (hh.drop 0))) ?_
 rintro _ _ _ _ ⟨cc1,rfl,rfl,rfl,hcc1⟩
 obtain rfl:cc1=[.bool (mgetD a1.fresh a0 false)]:=hcc1
 refine RgH.val1 (v':=.bool (mgetD a1.fresh a0 false)) rfl ?_
 refine Rk 5 [8,0,1] [(8,.bool (mgetD a1.fresh a0 false)),(0,.string a0),(1,pg ga1 0)] ?_
 rcases bool_cases (mgetD a1.fresh a0 false) with hb1 | hb1
 ·replace heq:=bif_true hb1 heq
  refine RgH.val1 (v':=.bool true) (congrArg Value.bool hb1) ?_
  refine Rk 17 [3] [(3,.bool true)] ?_
  obtain rfl:=Option.some.inj heq
  refine Kg [3] [(3,.bool true)]<|Dn ?_
  exact K2
 ·replace heq:=bif_false hb1 heq
  refine RgH.val1 (v':=.bool false) (congrArg Value.bool hb1) ?_
  refine Rv 8 [0,1,8,10,11] [.map Aa1_2] [.load ⟨ga1,2,none⟩ (.map Aa1_2)] [(0,.string a0),(1,pg ga1 0),(8,.bool false),(10,.map Aa1_2),(11,.string a0)] (fun w hh=>(hga1.cell (hh.drop 0) rfl)) ?_
  refine RgH.does (DoesH.lookup (d:=12) (t:=36) (m:=a1.over) (k:=a0) (z:=.bool false) (zc:=[.bool false]) (z0:=false) (ok:=false) (kd:=Kd.bool) (ag:=false) (by kernel_rfl) (KyAt.string Tryd.underlying9) rfl rfl (fun w hh=>hra1_2.on (hh.drop 0))) ?_
  rintro _ _ _ _ ⟨cc2,rfl,rfl,rfl,hcc2⟩
  obtain rfl:cc2=[.bool (mgetD a1.over a0 false)]:=hcc2
  refine RgH.val1 (v':=.bool (mgetD a1.over a0 false)) rfl ?_
  refine Rk 11 [14,0,1] [(14,.bool (mgetD a1.over a0 false)),(0,.string a0),(1,pg ga1 0)] ?_
  rcases bool_cases (mgetD a1.over a0 false) with hb2 | hb2
  ·replace heq:=bif_true hb2 heq
   refine RgH.val1 (v':=.bool true) (congrArg Value.bool hb2) ?_
   refine Rk 17 [3] [(3,.bool true)] ?_
   obtain rfl:=Option.some.inj heq
   refine Kg [3] [(3,.bool true)]<|Dn ?_
   exact K2
  ·replace heq:=bif_false hb2 heq
   refine RgH.val1 (v':=.bool false) (congrArg Value.bool hb2) ?_
   refine Rk 12 [1,14,15] [(1,pg ga1 0),(14,.bool false),(15,.string a0)] ?_
   obtain ⟨y1,hy1,heq⟩:=bind_some heq
   refine RgH.does (DoesH.call (d:=16) (g:=24) (args:=#[.string a0]) (by kernel_rfl) (trials_above_c (a0:=a0)  hy1)) ?_
   rintro _ _ _ _ ⟨_,rfl,A1,c1,ch1,rfl,rfl,rfl,ho1⟩
   refine Rk 14 [14,16,17] [(14,.bool false),(16,.slice A1 y1.length c1),(17,.func (.func 27) #[] #[.pointer (some ⟨ga1,0,none⟩)])] ?_
   obtain ⟨y2,hy2,heq⟩:=bind_some heq
   refine RgH.does (DoesH.call (d:=18) (g:=20) (args:=#[.slice A1 y1.length c1,.func (.func 27) #[] #[.pointer (some ⟨ga1,0,none⟩)]]) (by kernel_rfl) (slices_ContainsFunc_string_4_c (a0:=y1) (a1q0:=a1) (ho1.rw (.head _)) ho1.cap rfl (hra1_0.wk (fun _ h=>(.tail _ h))) (hra1_1.wk (fun _ h=>(.tail _ h))) (hra1_2.wk (fun _ h=>(.tail _ h))) (hga1.wk (fun _ h=>(.tail _ h))) hy2)) ?_
   rintro _ _ _ _ ⟨_,rfl,rfl,rfl,rfl⟩
   refine Rk 17 [3] [(3,.bool y2)] ?_
   obtain rfl:=Option.some.inj heq
   refine Kg [3] [(3,.bool y2)] ?_
   refine RgH.pick 1 [] (cs':=F) (by kernel_rfl) rfl ?_
   refine Dn ?_
   exact K2
noncomputable def C41v3:Ctx:={ P:=Tryd.prog,f:=41,N:=19,c:=bodyOf Tryd.f41 }
def S41v3 (F:List Ch) (H0:Hp) (r:Int) (v:Value) (H:Hp) (cs:List Ch):Prop:=H0=H∧v=iv r∧F=cs
theorem slices_IndexFunc_string_3.e1_c {w0:World} [GlobI 0 w0] {H:Hp} {F:List Ch} {r:Int}:slices_IndexFunc_string_3.e1=some r→RunH C41v3 (S41v3 F H r) H w0 [.c [1,1,0],.c [1,1,1]] [] H (F):=by
 intro   heq
 unfold slices_IndexFunc_string_3.e1 at heq
 refine Rr<|Rd 1 [4] [(4,iv (-1))] ?_
 obtain rfl:=Option.some.inj heq
 exact RunH.done (by kernel_rfl) Tryd.func41 (v:=iv (-1)) (by kernel_rfl) ⟨rfl,rfl,rfl⟩
theorem slices_IndexFunc_string_3.l2_c {w0:World} [GlobI 0 w0] {H:Hp} {F:List Ch} {r:Int} (e1:Option Int)
  (he1:e1=some r→RunH C41v3 (S41v3 F H r) H w0 [.c [1,1,0],.c [1,1,1]] [] H (F)):∀ (k:Nat),∀ (a0:List ByteArray) (Aa0:Option Addr) (ca0:Nat) (ga1q0:Nat) (a1q0:trials_changes) (Aa1q0_0:Option Nat) (Aa1q0_1:Option Nat) (Aa1q0_2:Option Nat) (v8:Int) ,Rw Kd.string H F Aa0 a0→a0.length≤ca0→Mw Value.string Kd.bool false H F Aa1q0_0 a1q0.other→Mw Value.string Kd.bool false H F Aa1q0_1 a1q0.fresh→Mw Value.string Kd.bool false H F Aa1q0_2 a1q0.over→InG H F ga1q0 (.cells #[.map Aa1q0_0,.map Aa1q0_1,.map Aa1q0_2] 38 (0,0))→slices_IndexFunc_string_3.l2 e1 k a0 a1q0 v8=some r→RunH C41v3 (S41v3 F H r) H w0 [.c [1,0,1,0,0],.l [1,0,1,0,0],.b 0,.c [1,1]] [(0,.slice Aa0 a0.length ca0),(1,.func (.func 26) #[] #[.pointer (some ⟨ga1q0,0,none⟩)]),(7,iv (a0.length:Int)),(8,iv v8)] H (F):=by
 intro k
 induction k with
 | zero=>intro a0 Aa0 ca0 ga1q0 a1q0 Aa1q0_0 Aa1q0_1 Aa1q0_2 v8 hra0 hca0 hra1q0_0 hra1q0_1 hra1q0_2 hga1q0 heq; exact nomatch (show (none:Option Int)=some r from heq)
 | succ k ihk =>
  intro a0 Aa0 ca0 ga1q0 a1q0 Aa1q0_0 Aa1q0_1 Aa1q0_2 v8 hra0 hca0 hra1q0_0 hra1q0_1 hra1q0_2 hga1q0 heq
  rw [slices_IndexFunc_string_3.l2] at heq
  refine Ra 1 [1,0,1,0,0,0] [.c [1,0,1,0,0,1],.l [1,0,1,0,0],.b 0,.c [1,1]]<|Rd 1 [0,1,7,8,9] [(0,.slice Aa0 a0.length ca0),(1,.func (.func 26) #[] #[.pointer (some ⟨ga1q0,0,none⟩)]),(7,iv (a0.length:Int)),(8,iv v8),(9,.bool (decide (v8<(a0.length:Int))))]<|Ad 1 [.c [1,0,1,0,0,1,0],.c [1,0,1,0,0,1,1],.l [1,0,1,0,0],.b 0,.c [1,1]] ?_
  rcases bool_cases (decide (v8<(a0.length:Int))) with hb1 | hb1
  ·replace heq:=bif_true hb1 heq
   refine Ct (decide (v8<(a0.length:Int))) hb1<|Ra 4 [1,0,1,0,0,1,1,0,0,0] [.c [1,0,1,0,0,1,1,0,0,1],.b 1,.c [1,0,1,0,0,1,1,1],.l [1,0,1,0,0],.b 0,.c [1,1]]<|Rd 2 [0,1,5,7,8] [(0,.slice Aa0 a0.length ca0),(1,.func (.func 26) #[] #[.pointer (some ⟨ga1q0,0,none⟩)]),(5,iv v8),(7,iv (a0.length:Int)),(8,iv v8)]<|Ra 1 [1,0,1,0,0,1,1,0,0,1,0] [.c [1,0,1,0,0,1,1,0,0,1,1],.b 1,.c [1,0,1,0,0,1,1,1],.l [1,0,1,0,0],.b 0,.c [1,1]] ?_
   obtain ⟨x1,hx1,heq⟩:=bind_some heq
   obtain ⟨ha1,cs1,hK1,hcc1⟩:=hra0.get hx1
   obtain rfl:cs1=[.string x1]:=hK1
   refine Rv 5 [0,1,5,7,8,11,15] [.string x1] [.need (Aa0=some (adr Aa0)∧(0:Int)≤v8∧v8<((a0.length:Nat):Int)),.load ((adr Aa0).add (v8.toNat*1)) (.string x1)] [(0,.slice Aa0 a0.length ca0),(1,.func (.func 26) #[] #[.pointer (some ⟨ga1q0,0,none⟩)]),(5,iv v8),(7,iv (a0.length:Int)),(8,iv v8),(11,.func (.func 26) #[] #[.pointer (some ⟨ga1q0,0,none⟩)]),(15,.string x1)] (fun w hh=>⟨⟨ha1,(at?_some hx1).1,(at?_some hx1).2.1⟩,(hcc1 _ _ (hh.drop 0) 0 _ rfl)⟩) ?_
   obtain ⟨y1,hy1,heq⟩:=bind_some heq
   refine RgH.does (DoesH.call (d:=16) (g:=26) (args:=#[.string x1,.pointer (some ⟨ga1q0,0,none⟩)]) (by kernel_rfl) (trials_changes_affects_2_c (a0:=x1) (a1:=a1q0) hra1q0_0 hra1q0_1 hra1q0_2 hga1q0 hy1)) ?_
   rintro _ _ _ _ ⟨_,rfl,rfl,rfl,rfl⟩
   refine Dn ?_
   rcases bool_cases (y1) with hb2 | hb2
   ·replace heq:=bif_true hb2 heq
    refine Ct y1 hb2<|Ra 1 [1,0,1,0,0,1,1,0,0,1,1,0,0] [.c [1,0,1,0,0,1,1,0,0,1,1,0,1],.b 1,.c [1,0,1,0,0,1,1,1],.l [1,0,1,0,0],.b 0,.c [1,1]]<|Rd 2 [4] [(4,iv v8)] ?_
    obtain rfl:=Option.some.inj heq
    exact RunH.done (by kernel_rfl) Tryd.func41 (v:=iv v8) (by kernel_rfl) ⟨rfl,rfl,rfl⟩
   ·replace heq:=bif_false hb2 heq
    refine Cf y1 hb2<|Ra 2 [1,0,1,0,0,1,1,1] [.l [1,0,1,0,0],.b 0,.c [1,1]]<|Rd 2 [0,1,7,8] [(0,.slice Aa0 a0.length ca0),(1,.func (.func 26) #[] #[.pointer (some ⟨ga1q0,0,none⟩)]),(7,iv (a0.length:Int)),(8,iv (w64 (v8+1)))]<|Ad 1 [.c [1,0,1,0,0],.l [1,0,1,0,0],.b 0,.c [1,1]]<|Kp [0,1,7,8] [(0,.slice Aa0 a0.length ca0),(1,.func (.func 26) #[] #[.pointer (some ⟨ga1q0,0,none⟩)]),(7,iv (a0.length:Int)),(8,iv (w64 (v8+1)))] ?_
    exact ihk a0 _ _ _ a1q0 _ _ _ (w64 (v8+1)) hra0 hca0 hra1q0_0 hra1q0_1 hra1q0_2 hga1q0 heq
  ·replace heq:=bif_false hb1 heq
   refine Cf (decide (v8<(a0.length:Int))) hb1<|Ad 2 [.c [1,1,0],.c [1,1,1]]<|Kp [] [] ?_
   exact he1 heq
theorem slices_IndexFunc_string_3_c {w0:World} [GlobI 0 w0] {H:Hp} {F:List Ch} {a0:List ByteArray} {Aa0:Option Addr} {na0:Nat} {ca0:Nat} {ga1q0:Nat} {a1q0:trials_changes} {Aa1q0_0:Option Nat} {Aa1q0_1:Option Nat} {Aa1q0_2:Option Nat} {r:Int} (hra0:Rw Kd.string H F Aa0 a0) (hca0:na0≤ca0) (hna0:na0=a0.length) (hra1q0_0:Mw Value.string Kd.bool false H F Aa1q0_0 a1q0.other) (hra1q0_1:Mw Value.string Kd.bool false H F Aa1q0_1 a1q0.fresh) (hra1q0_2:Mw Value.string Kd.bool false H F Aa1q0_2 a1q0.over) (hga1q0:InG H F ga1q0 (.cells #[.map Aa1q0_0,.map Aa1q0_1,.map Aa1q0_2] 38 (0,0))) (heq:slices_IndexFunc_string_3.f a0 a1q0=some r):CallsH Tryd.prog 41 #[.slice Aa0 na0 ca0,.func (.func 26) #[] #[.pointer (some ⟨ga1q0,0,none⟩)]] H w0 (F) (S41v3 F H r):=by
 refine calls_of_runH (F:=C41v3) Tryd.func41 (by kernel_rfl) Tryd.ntmps41 (args:=[.slice Aa0 na0 ca0,.func (.func 26) #[] #[.pointer (some ⟨ga1q0,0,none⟩)]]) (by kernel_rfl) ?_
 subst hna0
 unfold slices_IndexFunc_string_3.f at heq
 refine Ra 1 [0] [.c [1]]<|Rd 1 [0,1] [(0,.slice Aa0 a0.length ca0),(1,.func (.func 26) #[] #[.pointer (some ⟨ga1q0,0,none⟩)])]<|Ra 2 [1,0,0] [.c [1,0,1],.c [1,1]]<|Rd 3 [0,1,7,8] [(0,.slice Aa0 a0.length ca0),(1,.func (.func 26) #[] #[.pointer (some ⟨ga1q0,0,none⟩)]),(7,iv (a0.length:Int)),(8,iv 0)]<|Ad 2 [.c [1,0,1,0,0],.l [1,0,1,0,0],.b 0,.c [1,1]]<|Kp [0,1,7,8] [(0,.slice Aa0 a0.length ca0),(1,.func (.func 26) #[] #[.pointer (some ⟨ga1q0,0,none⟩)]),(7,iv (a0.length:Int)),(8,iv 0)] ?_
 exact ((slices_IndexFunc_string_3.l2_c (e1:=slices_IndexFunc_string_3.e1) (slices_IndexFunc_string_3.e1_c)) big) a0 _ _ _ a1q0 _ _ _ 0 hra0 hca0 hra1q0_0 hra1q0_1 hra1q0_2 hga1q0 heq
noncomputable def C20v3:Ctx:={ P:=Tryd.prog,f:=20,N:=9,c:=bodyOf Tryd.f20 }
def S20v3 (F:List Ch) (H0:Hp) (r:Bool) (v:Value) (H:Hp) (cs:List Ch):Prop:=H0=H∧v=.bool r∧F=cs
theorem slices_ContainsFunc_string_3_c {w0:World} [GlobI 0 w0] {H:Hp} {F:List Ch} {a0:List ByteArray} {Aa0:Option Addr} {na0:Nat} {ca0:Nat} {ga1q0:Nat} {a1q0:trials_changes} {Aa1q0_0:Option Nat} {Aa1q0_1:Option Nat} {Aa1q0_2:Option Nat} {r:Bool} (hra0:Rw Kd.string H F Aa0 a0) (hca0:na0≤ca0) (hna0:na0=a0.length) (hra1q0_0:Mw Value.string Kd.bool false H F Aa1q0_0 a1q0.other) (hra1q0_1:Mw Value.string Kd.bool false H F Aa1q0_1 a1q0.fresh) (hra1q0_2:Mw Value.string Kd.bool false H F Aa1q0_2 a1q0.over) (hga1q0:InG H F ga1q0 (.cells #[.map Aa1q0_0,.map Aa1q0_1,.map Aa1q0_2] 38 (0,0))) (heq:slices_ContainsFunc_string_3.f a0 a1q0=some r):CallsH Tryd.prog 20 #[.slice Aa0 na0 ca0,.func (.func 26) #[] #[.pointer (some ⟨ga1q0,0,none⟩)]] H w0 (F) (S20v3 F H r):=by
 refine calls_of_runH (F:=C20v3) Tryd.func20 (by kernel_rfl) Tryd.ntmps20 (args:=[.slice Aa0 na0 ca0,.func (.func 26) #[] #[.pointer (some ⟨ga1q0,0,none⟩)]]) (by kernel_rfl) ?_
 subst hna0
 unfold slices_ContainsFunc_string_3.f at heq
 refine Ra 1 [0] [.c [1]]<|Rd 1 [0,1] [(0,.slice Aa0 a0.length ca0),(1,.func (.func 26) #[] #[.pointer (some ⟨ga1q0,0,none⟩)])]<|Ra 1 [1,0] [.c [1,1]]<|Rk 2 [5,6] [(5,.slice Aa0 a0.length ca0),(6,.func (.func 26) #[] #[.pointer (some ⟨ga1q0,0,none⟩)])] ?_
 obtain ⟨y1,hy1,heq⟩:=bind_some heq
 refine RgH.does (DoesH.call (d:=7) (g:=41) (args:=#[.slice Aa0 a0.length ca0,.func (.func 26) #[] #[.pointer (some ⟨ga1q0,0,none⟩)]]) (by kernel_rfl) (slices_IndexFunc_string_3_c (a0:=a0) (a1q0:=a1q0) hra0 hca0 rfl hra1q0_0 hra1q0_1 hra1q0_2 hga1q0 hy1)) ?_
 rintro _ _ _ _ ⟨_,rfl,rfl,rfl,rfl⟩
 refine Rd 5 [4] [(4,.bool (decide (0≤y1)))] ?_
 obtain rfl:=Option.some.inj heq
 exact RunH.done (by kernel_rfl) Tryd.func20 (v:=.bool (decide (0≤y1))) (by kernel_rfl) ⟨rfl,rfl,rfl⟩
noncomputable def C13:Ctx:={ P:=Tryd.prog,f:=13,N:=13,c:=bodyOf Tryd.f13 }
def S13 (F:List Ch) (H0:Hp) (r:Bool) (v:Value) (H:Hp) (cs:List Ch):Prop:=H0=H∧v=.bool r∧F=cs
theorem trials_changes_affects_c {w0:World} [GlobI 0 w0] {H:Hp} {F:List Ch} {a0:trials_changes} {Aa0_0:Option Nat} {Aa0_1:Option Nat} {Aa0_2:Option Nat} {a1:TestReads} {Aa1_1:Option Addr} {na1_1:Nat} {ca1_1:Nat} {Aa1_2:Option Addr} {na1_2:Nat} {ca1_2:Nat} {r:Bool} (hra0_0:Mw Value.string Kd.bool false H F Aa0_0 a0.other) (hra0_1:Mw Value.string Kd.bool false H F Aa0_1 a0.fresh) (hra0_2:Mw Value.string Kd.bool false H F Aa0_2 a0.over) (hra1_1:Rw Kd.string H F Aa1_1 a1.Paths) (hca1_1:na1_1≤ca1_1) (hna1_1:na1_1=a1.Paths.length) (hra1_2:Rw Kd.string H F Aa1_2 a1.Looked) (hca1_2:na1_2≤ca1_2) (hna1_2:na1_2=a1.Looked.length) (heq:trials_changes_affects.f a0 a1=some r):CallsH Tryd.prog 13 #[.agg #[.map Aa0_0,.map Aa0_1,.map Aa0_2],.agg #[.string a1.Test,.slice Aa1_1 na1_1 ca1_1,.slice Aa1_2 na1_2 ca1_2]] H w0 (F) (S13 F H r):=by
 refine calls_of_runH (F:=C13) Tryd.func13 (by kernel_rfl) Tryd.ntmps13 (args:=[.agg #[.map Aa0_0,.map Aa0_1,.map Aa0_2],.agg #[.string a1.Test,.slice Aa1_1 na1_1 ca1_1,.slice Aa1_2 na1_2 ca1_2]]) (by kernel_rfl) ?_
 subst hna1_1
 subst hna1_2
 unfold trials_changes_affects.f at heq
 refine Ra 1 [0] [.c [1]] ?_
 refine RgH.does (DoesH.new (d:=2) (v:=fun g=>.pointer (some ⟨g,0,none⟩)) (o:=fun g=>.cells #[.map Aa0_0,.map Aa0_1,.map Aa0_2] 38 (0,0)) (fun g=>by kernel_rfl)) ?_
 rintro _ _ _ _ ⟨g1,rfl,rfl,rfl⟩
 refine RgH.does (DoesH.new (d:=3) (v:=fun g=>.pointer (some ⟨g,0,none⟩)) (o:=fun g=>.cells #[.string a1.Test,.slice Aa1_1 a1.Paths.length ca1_1,.slice Aa1_2 a1.Looked.length ca1_2] 42 (0,0)) (fun g=>by kernel_rfl)) ?_
 rintro _ _ _ _ ⟨g2,rfl,rfl,rfl⟩
 refine Rd 3 [2,3] [(2,pg g1 0),(3,pg g2 0)]<|Ra 2 [1,0,0] [.c [1,0,1],.c [1,1]]<|Rv 3 [2,3,6,7] [.slice Aa1_1 a1.Paths.length ca1_1] [.load ⟨g2,1,none⟩ (.slice Aa1_1 a1.Paths.length ca1_1)] [(2,pg g1 0),(3,pg g2 0),(6,.slice Aa1_1 a1.Paths.length ca1_1),(7,.func (.func 25) #[] #[.pointer (some ⟨g1,0,none⟩)])] (fun w hh=>(hh.box 0 rfl rfl)) ?_
 obtain ⟨y1,hy1,heq⟩:=bind_some heq
 refine RgH.does (DoesH.call (d:=8) (g:=20) (args:=#[.slice Aa1_1 a1.Paths.length ca1_1,.func (.func 25) #[] #[.pointer (some ⟨g1,0,none⟩)]]) (by kernel_rfl) (slices_ContainsFunc_string_2_c (a0:=a1.Paths) (a1q0:=a0) (hra1_1.wk (fun _ h=>(.tail _ (.tail _ h)))) hca1_1 rfl (hra0_0.wk (fun _ h=>(.tail _ (.tail _ h)))) (hra0_1.wk (fun _ h=>(.tail _ (.tail _ h)))) (hra0_2.wk (fun _ h=>(.tail _ (.tail _ h)))) (.inr (.tail _ (.head _))) hy1)) ?_
 rintro _ _ _ _ ⟨_,rfl,rfl,rfl,rfl⟩
 refine Dn ?_
 rcases bool_cases (y1) with hb1 | hb1
 ·replace heq:=bif_true hb1 heq
  refine Ct y1 hb1<|Ra 1 [1,0,1,0,0] [.c [1,0,1,0,1],.c [1,1]]<|Rd 1 [4] [(4,.bool true)] ?_
  obtain rfl:=Option.some.inj heq
  refine RunH.pick 2 [] (cs':=F) (by kernel_rfl) rfl ?_
  exact RunH.done (by kernel_rfl) Tryd.func13 (v:=.bool true) (by kernel_rfl) ⟨rfl,rfl,rfl⟩
 ·replace heq:=bif_false hb1 heq
  refine Cf y1 hb1<|Ra 2 [1,1,0] [.c [1,1,1]]<|Rv 3 [10,11] [.slice Aa1_2 a1.Looked.length ca1_2] [.load ⟨g2,2,none⟩ (.slice Aa1_2 a1.Looked.length ca1_2)] [(10,.slice Aa1_2 a1.Looked.length ca1_2),(11,.func (.func 26) #[] #[.pointer (some ⟨g1,0,none⟩)])] (fun w hh=>(hh.box 0 rfl rfl)) ?_
  obtain ⟨y2,hy2,heq⟩:=bind_some heq
  refine RgH.does (DoesH.call (d:=12) (g:=20) (args:=#[.slice Aa1_2 a1.Looked.length ca1_2,.func (.func 26) #[] #[.pointer (some ⟨g1,0,none⟩)]]) (by kernel_rfl) (slices_ContainsFunc_string_3_c (a0:=a1.Looked) (a1q0:=a0) (hra1_2.wk (fun _ h=>(.tail _ (.tail _ h)))) hca1_2 rfl (hra0_0.wk (fun _ h=>(.tail _ (.tail _ h)))) (hra0_1.wk (fun _ h=>(.tail _ (.tail _ h)))) (hra0_2.wk (fun _ h=>(.tail _ (.tail _ h)))) (.inr (.tail _ (.head _))) hy2)) ?_
  rintro _ _ _ _ ⟨_,rfl,rfl,rfl,rfl⟩
  refine Rd 5 [4] [(4,.bool y2)] ?_
  obtain rfl:=Option.some.inj heq
  refine RunH.pick 2 [] (cs':=F) (by kernel_rfl) rfl ?_
  exact RunH.done (by kernel_rfl) Tryd.func13 (v:=.bool y2) (by kernel_rfl) ⟨rfl,rfl,rfl⟩
noncomputable def C4:Ctx:={ P:=Tryd.prog,f:=4,N:=41,c:=bodyOf Tryd.f4 }
def S4 (F:List Ch) (H0:Hp) (r:(List ByteArray) × Int) (v:Value) (H:Hp) (cs:List Ch):Prop:=∃ (A0:Option Addr) (c0:Nat) (ch0:Ch),H0=H∧v=.tuple #[.slice A0 r.1.length c0,iv r.2]∧ch0::F=cs∧SlOwn Kd.string 9 H A0 c0 r.1 ch0
theorem trials_Affected.e1_c {w0:World} [GlobI 0 w0] {H:Hp} {F:List Ch} {r:(List ByteArray) × Int}:∀ (v_out9:List ByteArray) (Av_out9:Option Addr) (nv_out9:Nat) (cv_out9:Nat) (chv_out9:Ch) ,SlOwn Kd.string 9 H Av_out9 cv_out9 v_out9 chv_out9→nv_out9=v_out9.length→trials_Affected.e1 v_out9=some r→RunH C4 (S4 F H r) H w0 [.c [1,1,1,1,1,1,0],.c [1,1,1,1,1,1,1]] [(9,.slice Av_out9 nv_out9 cv_out9)] H (chv_out9::F):=by
 intro v_out9 Av_out9 nv_out9 cv_out9 chv_out9 hov_out9 hnv_out9 heq
 subst hnv_out9
 unfold trials_Affected.e1 at heq
 refine Rr<|Rd 3 [4,5] [(4,.slice Av_out9 v_out9.length cv_out9),(5,iv 0)] ?_
 obtain rfl:=Option.some.inj heq
 exact RunH.done (by kernel_rfl) Tryd.func4 (v:=.tuple #[.slice Av_out9 v_out9.length cv_out9,iv 0]) (by kernel_rfl) ⟨Av_out9,cv_out9,chv_out9,rfl,rfl,rfl,hov_out9⟩
theorem trials_Affected.j3_c {w0:World} [GlobI 0 w0] {H:Hp} {F:List Ch} {r:(List ByteArray) × Int} (backl2:(List TestReads)→(trials_changes × Int)→(List ByteArray)→Int→Option ((List ByteArray) × Int))
  (hbackl2:∀ (a0:List TestReads) (Aa0:Option Addr) (ca0:Nat) (y2:trials_changes × Int) (g1:Nat) (ch1:Ch) (g2:Nat) (ch2:Ch) (g3:Nat) (ch3:Ch) (g4:Nat) (v_out9:List ByteArray) (Av_out9:Option Addr) (nv_out9:Nat) (cv_out9:Nat) (chv_out9:Ch) (v27:Int) ,Rw kTestReads H F Aa0 a0→a0.length≤ca0→MpOwn Value.string Kd.bool false H g1 y2.1.other ch1→MpOwn Value.string Kd.bool false H g2 y2.1.fresh ch2→MpOwn Value.string Kd.bool false H g3 y2.1.over ch3→SlOwn Kd.string 9 H Av_out9 cv_out9 v_out9 chv_out9→nv_out9=v_out9.length→backl2 a0 y2 v_out9 v27=some r→RunH C4 (S4 F H r) H w0 [.c [1,1,1,1,1,0,1,0,0],.l [1,1,1,1,1,0,1,0,0],.b 0,.c [1,1,1,1,1,1]] [(7,pg g4 0),(9,.slice Av_out9 nv_out9 cv_out9),(25,.slice Aa0 a0.length ca0),(26,iv (a0.length:Int)),(27,iv v27)] H (chv_out9::(some (g4,.cells #[.map (some g1),.map (some g2),.map (some g3)] 38 (0,0)))::ch1::ch2::ch3::F)):∀ (a0:List TestReads) (Aa0:Option Addr) (ca0:Nat) (y2:trials_changes × Int) (g1:Nat) (ch1:Ch) (g2:Nat) (ch2:Ch) (g3:Nat) (ch3:Ch) (g4:Nat) (v27:Int) (v_out9:List ByteArray) (Av_out9:Option Addr) (nv_out9:Nat) (cv_out9:Nat) (chv_out9:Ch) ,Rw kTestReads H F Aa0 a0→a0.length≤ca0→MpOwn Value.string Kd.bool false H g1 y2.1.other ch1→MpOwn Value.string Kd.bool false H g2 y2.1.fresh ch2→MpOwn Value.string Kd.bool false H g3 y2.1.over ch3→SlOwn Kd.string 9 H Av_out9 cv_out9 v_out9 chv_out9→nv_out9=v_out9.length→trials_Affected.j3 backl2 a0 y2 v27 v_out9=some r→RunH C4 (S4 F H r) H w0 [.c [1,1,1,1,1,0,1,0,0,1,1,1],.l [1,1,1,1,1,0,1,0,0],.b 0,.c [1,1,1,1,1,1]] [(7,pg g4 0),(9,.slice Av_out9 nv_out9 cv_out9),(25,.slice Aa0 a0.length ca0),(26,iv (a0.length:Int)),(27,iv v27)] H (chv_out9::(some (g4,.cells #[.map (some g1),.map (some g2),.map (some g3)] 38 (0,0)))::ch1::ch2::ch3::F):=by
 intro a0 Aa0 ca0 y2 g1 ch1 g2 ch2 g3 ch3 g4 v27 v_out9 Av_out9 nv_out9 cv_out9 chv_out9 hra0 hca0 ho2 ho3 ho4 hov_out9 hnv_out9 heq
 subst hnv_out9
 unfold trials_Affected.j3 at heq
 refine Rr<|Rd 2 [7,9,25,26,27] [(7,pg g4 0),(9,.slice Av_out9 v_out9.length cv_out9),(25,.slice Aa0 a0.length ca0),(26,iv (a0.length:Int)),(27,iv (w64 (v27+1)))]<|Ad 1 [.c [1,1,1,1,1,0,1,0,0],.l [1,1,1,1,1,0,1,0,0],.b 0,.c [1,1,1,1,1,1]]<|Kp [7,9,25,26,27] [(7,pg g4 0),(9,.slice Av_out9 v_out9.length cv_out9),(25,.slice Aa0 a0.length ca0),(26,iv (a0.length:Int)),(27,iv (w64 (v27+1)))] ?_
 exact hbackl2 a0 _ _ y2 _ _ _ _ _ _ _ v_out9 _ _ _ _ (w64 (v27+1)) hra0 hca0 ho2 ho3 ho4 hov_out9 rfl heq
theorem trials_Affected.l2_c {w0:World} [GlobI 0 w0] {H:Hp} {F:List Ch} {r:(List ByteArray) × Int} (e1:(List ByteArray)→Option ((List ByteArray) × Int))
  (he1:∀ (v_out9:List ByteArray) (Av_out9:Option Addr) (nv_out9:Nat) (cv_out9:Nat) (chv_out9:Ch) ,SlOwn Kd.string 9 H Av_out9 cv_out9 v_out9 chv_out9→nv_out9=v_out9.length→e1 v_out9=some r→RunH C4 (S4 F H r) H w0 [.c [1,1,1,1,1,1,0],.c [1,1,1,1,1,1,1]] [(9,.slice Av_out9 nv_out9 cv_out9)] H (chv_out9::F)):∀ (k:Nat),∀ (a0:List TestReads) (Aa0:Option Addr) (ca0:Nat) (y2:trials_changes × Int) (g1:Nat) (ch1:Ch) (g2:Nat) (ch2:Ch) (g3:Nat) (ch3:Ch) (g4:Nat) (v_out9:List ByteArray) (Av_out9:Option Addr) (nv_out9:Nat) (cv_out9:Nat) (chv_out9:Ch) (v27:Int) ,Rw kTestReads H F Aa0 a0→a0.length≤ca0→MpOwn Value.string Kd.bool false H g1 y2.1.other ch1→MpOwn Value.string Kd.bool false H g2 y2.1.fresh ch2→MpOwn Value.string Kd.bool false H g3 y2.1.over ch3→SlOwn Kd.string 9 H Av_out9 cv_out9 v_out9 chv_out9→nv_out9=v_out9.length→trials_Affected.l2 e1 k a0 y2 v_out9 v27=some r→RunH C4 (S4 F H r) H w0 [.c [1,1,1,1,1,0,1,0,0],.l [1,1,1,1,1,0,1,0,0],.b 0,.c [1,1,1,1,1,1]] [(7,pg g4 0),(9,.slice Av_out9 nv_out9 cv_out9),(25,.slice Aa0 a0.length ca0),(26,iv (a0.length:Int)),(27,iv v27)] H (chv_out9::(some (g4,.cells #[.map (some g1),.map (some g2),.map (some g3)] 38 (0,0)))::ch1::ch2::ch3::F):=by
 intro k
 induction k with
 | zero=>intro a0 Aa0 ca0 y2 g1 ch1 g2 ch2 g3 ch3 g4 v_out9 Av_out9 nv_out9 cv_out9 chv_out9 v27 hra0 hca0 ho2 ho3 ho4 hov_out9 hnv_out9 heq; exact nomatch (show (none:Option ((List ByteArray) × Int))=some r from heq)
 | succ k ihk =>
  intro a0 Aa0 ca0 y2 g1 ch1 g2 ch2 g3 ch3 g4 v_out9 Av_out9 nv_out9 cv_out9 chv_out9 v27 hra0 hca0 ho2 ho3 ho4 hov_out9 hnv_out9 heq
  subst hnv_out9
  rw [trials_Affected.l2] at heq
  refine Ra 1 [1,1,1,1,1,0,1,0,0,0] [.c [1,1,1,1,1,0,1,0,0,1],.l [1,1,1,1,1,0,1,0,0],.b 0,.c [1,1,1,1,1,1]]<|Rd 1 [7,9,25,26,27,28] [(7,pg g4 0),(9,.slice Av_out9 v_out9.length cv_out9),(25,.slice Aa0 a0.length ca0),(26,iv (a0.length:Int)),(27,iv v27),(28,.bool (decide (v27<(a0.length:Int))))]<|Ad 1 [.c [1,1,1,1,1,0,1,0,0,1,0],.c [1,1,1,1,1,0,1,0,0,1,1],.l [1,1,1,1,1,0,1,0,0],.b 0,.c [1,1,1,1,1,1]] ?_
  rcases bool_cases (decide (v27<(a0.length:Int))) with hb3 | hb3
  ·replace heq:=bif_true hb3 heq
   refine Ct (decide (v27<(a0.length:Int))) hb3<|Ra 4 [1,1,1,1,1,0,1,0,0,1,1,0,0,0] [.c [1,1,1,1,1,0,1,0,0,1,1,0,0,1],.b 1,.c [1,1,1,1,1,0,1,0,0,1,1,1],.l [1,1,1,1,1,0,1,0,0],.b 0,.c [1,1,1,1,1,1]] ?_
   obtain ⟨x1,hx1,heq⟩:=bind_some heq
   obtain ⟨ha1,cs1,hK1,hcc1⟩:=hra0.get hx1
   obtain ⟨A1,c1,A2,c2,rfl,hc1,hr1,hc2,hr2⟩:=kTestReads_open hK1
   refine Rv 2 [7,9,25,26,27,30] [.string x1.Test,.slice A1 x1.Paths.length c1,.slice A2 x1.Looked.length c2] [.need (Aa0=some (adr Aa0)∧(0:Int)≤v27∧v27<((a0.length:Nat):Int)),.load (((adr Aa0).add (v27.toNat*3)).add 0) (.string x1.Test),.load (((adr Aa0).add (v27.toNat*3)).add 1) (.slice A1 x1.Paths.length c1),.load (((adr Aa0).add (v27.toNat*3)).add 2) (.slice A2 x1.Looked.length c2)] [(7,pg g4 0),(9,.slice Av_out9 v_out9.length cv_out9),(25,.slice Aa0 a0.length ca0),(26,iv (a0.length:Int)),(27,iv v27),(30,.agg #[.string x1.Test,.slice A1 x1.Paths.length c1,.slice A2 x1.Looked.length c2])] (fun w hh=>⟨⟨ha1,(at?_some hx1).1,(at?_some hx1).2.1⟩,(hcc1 _ _ (hh.drop 5) 0 _ rfl),(hcc1 _ _ (hh.drop 5) 1 _ rfl),(hcc1 _ _ (hh.drop 5) 2 _ rfl)⟩) ?_
   refine RgH.does (DoesH.new (d:=11) (v:=fun g=>.pointer (some ⟨g,0,none⟩)) (o:=fun g=>.cells #[.string ByteArray.empty,.slice none 0 0,.slice none 0 0] 42 (0,0)) (fun g=>by kernel_rfl)) ?_
   rintro _ _ _ _ ⟨g5,rfl,rfl,rfl⟩
   refine RgH.does (DoesH.store (k:=0) (g:=g5) (off:=0) (v:=.agg #[.string x1.Test,.slice A1 x1.Paths.length c1,.slice A2 x1.Looked.length c2]) (cells':=#[.string x1.Test,.slice A1 x1.Paths.length c1,.slice A2 x1.Looked.length c2]) (by kernel_rfl) rfl (by kernel_rfl) (by kernel_rfl)) ?_
   rintro _ _ _ _ ⟨rfl,rfl,rfl⟩
   refine Dn<|Ra 1 [1,1,1,1,1,0,1,0,0,1,1,0,0,1,0] [.c [1,1,1,1,1,0,1,0,0,1,1,0,0,1,1],.b 1,.c [1,1,1,1,1,0,1,0,0,1,1,1],.l [1,1,1,1,1,0,1,0,0],.b 0,.c [1,1,1,1,1,1]]<|Rv 2 [7,9,11,25,26,27,31,32] [.map (some g1),.map (some g2),.map (some g3),.string x1.Test,.slice A1 x1.Paths.length c1,.slice A2 x1.Looked.length c2] [.load ⟨g4,0,none⟩ (.map (some g1)),.load ⟨g4,1,none⟩ (.map (some g2)),.load ⟨g4,2,none⟩ (.map (some g3)),.load ⟨g5,0,none⟩ (.string x1.Test),.load ⟨g5,1,none⟩ (.slice A1 x1.Paths.length c1),.load ⟨g5,2,none⟩ (.slice A2 x1.Looked.length c2)] [(7,pg g4 0),(9,.slice Av_out9 v_out9.length cv_out9),(11,pg g5 0),(25,.slice Aa0 a0.length ca0),(26,iv (a0.length:Int)),(27,iv v27),(31,.agg #[.map (some g1),.map (some g2),.map (some g3)]),(32,.agg #[.string x1.Test,.slice A1 x1.Paths.length c1,.slice A2 x1.Looked.length c2])] (fun w hh=>⟨(hh.box 2 rfl rfl),(hh.box 2 rfl rfl),(hh.box 2 rfl rfl),(hh.box 0 rfl rfl),(hh.box 0 rfl rfl),(hh.box 0 rfl rfl)⟩) ?_
   obtain ⟨y3,hy3,heq⟩:=bind_some heq
   refine RgH.does (DoesH.call (d:=33) (g:=13) (args:=#[.agg #[.map (some g1),.map (some g2),.map (some g3)],.agg #[.string x1.Test,.slice A1 x1.Paths.length c1,.slice A2 x1.Looked.length c2]]) (by kernel_rfl) (trials_changes_affects_c (a0:=(⟨y2.1.other,y2.1.fresh,y2.1.over⟩:trials_changes)) (a1:=x1) (ho2.mw (.tail _ (.tail _ (.tail _ (.head _))))) (ho3.mw (.tail _ (.tail _ (.tail _ (.tail _ (.head _)))))) (ho4.mw (.tail _ (.tail _ (.tail _ (.tail _ (.tail _ (.head _))))))) (Rw.of hr1) hc1 rfl (Rw.of hr2) hc2 rfl hy3)) ?_
   rintro _ _ _ _ ⟨_,rfl,rfl,rfl,rfl⟩
   refine Dn ?_
   rcases bool_cases (y3) with hb4 | hb4
   ·replace heq:=bif_true hb4 heq
    refine Ct y3 hb4<|Rr<|Rv 3 [7,25,26,27,34,36] [.string x1.Test] [.load ⟨g5,0,none⟩ (.string x1.Test)] [(7,pg g4 0),(25,.slice Aa0 a0.length ca0),(26,iv (a0.length:Int)),(27,iv v27),(34,.slice Av_out9 v_out9.length cv_out9),(36,.string x1.Test)] (fun w hh=>(hh.box 0 rfl rfl)) ?_
    refine RgH.does (DoesH.new (d:=37) (v:=fun g=>.slice (some ⟨g,0,none⟩) 1 1) (o:=fun g=>.cells #[.string x1.Test] 9 (0,0)) (fun g=>by kernel_rfl)) ?_
    rintro _ _ _ _ ⟨g6,rfl,rfl,rfl⟩
    have ho6:SlOwn Kd.string 9 H (some ⟨g6,0,none⟩) 1 ([x1.Test]:List ByteArray) (some (g6,.cells #[.string x1.Test] 9 (0,0))):=SlOwn.lit (xs:=([x1.Test]:List ByteArray)) (by kernel_rfl) (Nat.le_of_ble_eq_true (by kernel_rfl)) (Kd.Rep.scalars rfl)
    obtain ⟨hn1,heq⟩:=guard?_some heq
    refine RgH.does (DoesH.append (d:=38) (k:=2) (t:=24) (e:=9) (bytes:=16) (kd:=Kd.string) (n:=v_out9.length) (m:=1) (xs:=v_out9) (ys:=([x1.Test]:List ByteArray)) (A:=Av_out9) (B:=(some ⟨g6,0,none⟩)) (c:=cv_out9) (cB:=1) (by kernel_rfl) rfl rfl (by kernel_rfl) rfl hov_out9 (fun w hh=>ho6.rdb (hh.chin 0 rfl)) (room_le hn1) (by have:=room_le hn1; omega)) ?_
    rintro _ _ _ _ ⟨A3,c3,ch4,rfl,rfl,rfl,ho7⟩
    refine Rd 6 [7,9,25,26,27] [(7,pg g4 0),(9,.slice A3 ((v_out9++([x1.Test]:List ByteArray)).length) c3),(25,.slice Aa0 a0.length ca0),(26,iv (a0.length:Int)),(27,iv v27)]<|Ad 1 [.c [1,1,1,1,1,0,1,0,0,1,1,1],.l [1,1,1,1,1,0,1,0,0],.b 0,.c [1,1,1,1,1,1]]<|Kp [7,9,25,26,27] [(7,pg g4 0),(9,.slice A3 ((v_out9++([x1.Test]:List ByteArray)).length) c3),(25,.slice Aa0 a0.length ca0),(26,iv (a0.length:Int)),(27,iv v27)] ?_
    refine RunH.pick 7 [2,3,4,5,6] (cs':=ch4::(some (g4,.cells #[.map (some g1),.map (some g2),.map (some g3)] 38 (0,0)))::ch1::ch2::ch3::F) (by kernel_rfl) rfl ?_
    exact (trials_Affected.j3_c (backl2:=(trials_Affected.l2 e1 k)) ihk) a0 _ _ y2 _ _ _ _ _ _ _ v27 (v_out9++([x1.Test]:List ByteArray)) _ _ _ _ hra0 hca0 ho2 ho3 ho4 ho7 rfl heq
   ·replace heq:=bif_false hb4 heq
    refine Cf y3 hb4<|Ad 2 [.c [1,1,1,1,1,0,1,0,0,1,1,1],.l [1,1,1,1,1,0,1,0,0],.b 0,.c [1,1,1,1,1,1]]<|Kp [7,9,25,26,27] [(7,pg g4 0),(9,.slice Av_out9 v_out9.length cv_out9),(25,.slice Aa0 a0.length ca0),(26,iv (a0.length:Int)),(27,iv v27)] ?_
    refine RunH.pick 6 [1,2,3,4,5] (cs':=chv_out9::(some (g4,.cells #[.map (some g1),.map (some g2),.map (some g3)] 38 (0,0)))::ch1::ch2::ch3::F) (by kernel_rfl) rfl ?_
    exact (trials_Affected.j3_c (backl2:=(trials_Affected.l2 e1 k)) ihk) a0 _ _ y2 _ _ _ _ _ _ _ v27 v_out9 _ _ _ _ hra0 hca0 ho2 ho3 ho4 hov_out9 rfl heq
  ·replace heq:=bif_false hb3 heq
   refine Cf (decide (v27<(a0.length:Int))) hb3<|Ad 2 [.c [1,1,1,1,1,1,0],.c [1,1,1,1,1,1,1]]<|Kp [9] [(9,.slice Av_out9 v_out9.length cv_out9)] ?_
   refine RunH.pick 5 [0] (cs':=chv_out9::F) (by kernel_rfl) rfl ?_
   exact he1 v_out9 _ _ _ _ hov_out9 rfl heq
theorem trials_Affected_c {w0:World} [GlobI 0 w0] {H:Hp} {F:List Ch} {a0:List TestReads} {Aa0:Option Addr} {na0:Nat} {ca0:Nat} {a1:List TreeChange} {Aa1:Option Addr} {na1:Nat} {ca1:Nat} {r:(List ByteArray) × Int} (hra0:Rw kTestReads H F Aa0 a0) (hca0:na0≤ca0) (hna0:na0=a0.length) (hra1:Rw kTreeChange H F Aa1 a1) (hca1:na1≤ca1) (hna1:na1=a1.length) (heq:trials_Affected.f a0 a1=some r):CallsH Tryd.prog 4 #[.slice Aa0 na0 ca0,.slice Aa1 na1 ca1] H w0 (F) (S4 F H r):=by
 refine calls_of_runH (F:=C4) Tryd.func4 (by kernel_rfl) Tryd.ntmps4 (args:=[.slice Aa0 na0 ca0,.slice Aa1 na1 ca1]) (by kernel_rfl) ?_
 subst hna0
 subst hna1
 unfold trials_Affected.f at heq
 refine Ra 1 [0] [.c [1]]<|Rd 2 [0,1] [(0,.slice Aa0 a0.length ca0),(1,.slice Aa1 a1.length ca1)]<|Ra 2 [1,0,0] [.c [1,0,1],.c [1,1]]<|Rk 1 [0,1,12] [(0,.slice Aa0 a0.length ca0),(1,.slice Aa1 a1.length ca1),(12,.slice Aa0 a0.length ca0)] ?_
 obtain ⟨y1,hy1,heq⟩:=bind_some heq
 refine RgH.does (DoesH.call (d:=13) (g:=11) (args:=#[.slice Aa0 a0.length ca0]) (by kernel_rfl) (trials_CheckReads_c (a0:=a0) hra0 hca0 rfl hy1)) ?_
 rintro _ _ _ _ ⟨_,rfl,rfl,rfl,rfl⟩
 refine Rd 3 [0,1,6] [(0,.slice Aa0 a0.length ca0),(1,.slice Aa1 a1.length ca1),(6,iv y1)]<|Ra 1 [1,0,1,0] [.c [1,0,1,1],.c [1,1]]<|Rd 2 [0,1,6,15] [(0,.slice Aa0 a0.length ca0),(1,.slice Aa1 a1.length ca1),(6,iv y1),(15,.bool (y1 != 0))] ?_
 rcases bool_cases (y1 != 0) with hb1 | hb1
 ·replace heq:=bif_true hb1 heq
  refine Ct (y1 != 0) hb1<|Ra 1 [1,0,1,1,0,0] [.c [1,0,1,1,0,1],.c [1,1]]<|Rd 3 [4,5] [(4,.slice none 0 0),(5,iv y1)]<|RunH.nilc ?_
  have ho1:SlOwn Kd.string 9 H none 0 ([]:List ByteArray) none:=SlOwn.nil
  obtain rfl:=Option.some.inj heq
  exact RunH.done (by kernel_rfl) Tryd.func4 (v:=.tuple #[.slice none 0 0,iv y1]) (by kernel_rfl) ⟨none,0,none,rfl,rfl,rfl,ho1⟩
 ·replace heq:=bif_false hb1 heq
  refine Cf (y1 != 0) hb1<|Ra 2 [1,1,0] [.c [1,1,1]]<|Rk 1 [0,18] [(0,.slice Aa0 a0.length ca0),(18,.slice Aa1 a1.length ca1)] ?_
  obtain ⟨y2,hy2,heq⟩:=bind_some heq
  refine RgH.does (DoesH.call (d:=19) (g:=12) (args:=#[.slice Aa1 a1.length ca1]) (by kernel_rfl) (trials_changesOf_c (a0:=a1) hra1 hca1 rfl hy2)) ?_
  rintro _ _ _ _ ⟨_,rfl,g1,ch1,g2,ch2,g3,ch3,rfl,rfl,rfl,ho2,ho3,ho4⟩
  refine Rk 5 [0,20,21] [(0,.slice Aa0 a0.length ca0),(20,.agg #[.map (some g1),.map (some g2),.map (some g3)]),(21,iv y2.2)] ?_
  refine RgH.does (DoesH.new (d:=7) (v:=fun g=>.pointer (some ⟨g,0,none⟩)) (o:=fun g=>.cells #[.map none,.map none,.map none] 38 (0,0)) (fun g=>by kernel_rfl)) ?_
  rintro _ _ _ _ ⟨g4,rfl,rfl,rfl⟩
  refine RgH.does (DoesH.store (k:=0) (g:=g4) (off:=0) (v:=.agg #[.map (some g1),.map (some g2),.map (some g3)]) (cells':=#[.map (some g1),.map (some g2),.map (some g3)]) (by kernel_rfl) rfl (by kernel_rfl) (by kernel_rfl)) ?_
  rintro _ _ _ _ ⟨rfl,rfl,rfl⟩
  refine Rd 8 [0,7,8] [(0,.slice Aa0 a0.length ca0),(7,pg g4 0),(8,iv y2.2)]<|Ra 2 [1,1,1,0,0] [.c [1,1,1,0,1],.c [1,1,1,1]]<|Rd 2 [0,7,8,23] [(0,.slice Aa0 a0.length ca0),(7,pg g4 0),(8,iv y2.2),(23,.bool (y2.2 != 0))] ?_
  rcases bool_cases (y2.2 != 0) with hb2 | hb2
  ·replace heq:=bif_true hb2 heq
   refine Ct (y2.2 != 0) hb2<|Ra 1 [1,1,1,0,1,0,0] [.c [1,1,1,0,1,0,1],.c [1,1,1,1]]<|Rd 3 [4,5] [(4,.slice none 0 0),(5,iv y2.2)]<|RunH.nilc ?_
   have ho5:SlOwn Kd.string 9 H none 0 ([]:List ByteArray) none:=SlOwn.nil
   obtain rfl:=Option.some.inj heq
   refine RunH.pick 5 [0] (cs':=none::F) (by kernel_rfl) rfl ?_
   exact RunH.done (by kernel_rfl) Tryd.func4 (v:=.tuple #[.slice none 0 0,iv y2.2]) (by kernel_rfl) ⟨none,0,none,rfl,rfl,rfl,ho5⟩
  ·replace heq:=bif_false hb2 heq
   refine Cf (y2.2 != 0) hb2<|Ra 2 [1,1,1,1,0] [.c [1,1,1,1,1]]<|Rd 1 [0,7,9] [(0,.slice Aa0 a0.length ca0),(7,pg g4 0),(9,.slice none 0 0)]<|Ra 2 [1,1,1,1,1,0,0] [.c [1,1,1,1,1,0,1],.c [1,1,1,1,1,1]]<|Rd 3 [7,9,25,26,27] [(7,pg g4 0),(9,.slice none 0 0),(25,.slice Aa0 a0.length ca0),(26,iv (a0.length:Int)),(27,iv 0)]<|Ad 2 [.c [1,1,1,1,1,0,1,0,0],.l [1,1,1,1,1,0,1,0,0],.b 0,.c [1,1,1,1,1,1]]<|RunH.nilc ?_
   have ho8:SlOwn Kd.string 9 H none 0 ([]:List ByteArray) none:=SlOwn.nil
   refine Kp [7,9,25,26,27] [(7,pg g4 0),(9,.slice none 0 0),(25,.slice Aa0 a0.length ca0),(26,iv (a0.length:Int)),(27,iv 0)] ?_
   exact ((trials_Affected.l2_c (e1:=trials_Affected.e1) (trials_Affected.e1_c)) big) a0 _ _ y2 _ _ _ _ _ _ _ ([]:List ByteArray) _ _ _ _ 0 hra0 hca0 ho2 ho3 ho4 ho8 rfl heq
noncomputable def C14:Ctx:={ P:=Tryd.prog,f:=14,N:=64,c:=bodyOf Tryd.f14 }
def S14 (F:List Ch) (H0:Hp) (r:Int × Int × Int) (v:Value) (H:Hp) (cs:List Ch):Prop:=H0=H∧v=.tuple #[iv r.1,iv r.2.1,iv r.2.2]∧F=cs
theorem trials_Tried.e1_c {w0:World} [GlobI 0 w0] {H:Hp} {F:List Ch} {r:Int × Int × Int}:∀ (a0:Int) ,trials_Tried.e1 a0=some r→RunH C14 (S14 F H r) H w0 [.c [1,1,1,1,1,0],.c [1,1,1,1,1,1]] [(0,iv a0)] H (F):=by
 intro a0  heq
 unfold trials_Tried.e1 at heq
 refine Rr<|Rd 4 [6,7,8] [(6,iv 3),(7,iv a0),(8,iv 0)] ?_
 obtain rfl:=Option.some.inj heq
 exact RunH.done (by kernel_rfl) Tryd.func14 (v:=.tuple #[iv 3,iv a0,iv 0]) (by kernel_rfl) ⟨rfl,rfl,rfl⟩
theorem trials_Tried.j3_c {w0:World} [GlobI 0 w0] {H:Hp} {F:List Ch} {r:Int × Int × Int} (backl2:Int→Int→(List Bool)→Int→Int→Option (Int × Int × Int))
  (hbackl2:∀ (a0:Int) (a1:Int) (a2:List Bool) (Aa2:Option Addr) (ca2:Nat) (v_passed9:Int) (v28:Int) ,Rw Kd.bool H F Aa2 a2→a2.length≤ca2→backl2 a0 a1 a2 v_passed9 v28=some r→RunH C14 (S14 F H r) H w0 [.c [1,1,1,1,0,1,0,0],.l [1,1,1,1,0,1,0,0],.b 0,.c [1,1,1,1,1]] [(0,iv a0),(1,iv a1),(9,iv v_passed9),(26,.slice Aa2 a2.length ca2),(27,iv (a2.length:Int)),(28,iv v28)] H (F)):∀ (a0:Int) (a1:Int) (a2:List Bool) (Aa2:Option Addr) (ca2:Nat) (v28:Int) (v_passed9:Int) ,Rw Kd.bool H F Aa2 a2→a2.length≤ca2→trials_Tried.j3 backl2 a0 a1 a2 v28 v_passed9=some r→RunH C14 (S14 F H r) H w0 [.c [1,1,1,1,0,1,0,0,1,1,0,0,1,1,0],.c [1,1,1,1,0,1,0,0,1,1,0,0,1,1,1],.b 1,.c [1,1,1,1,0,1,0,0,1,1,1],.l [1,1,1,1,0,1,0,0],.b 0,.c [1,1,1,1,1]] [(0,iv a0),(1,iv a1),(9,iv v_passed9),(10,iv v28),(26,.slice Aa2 a2.length ca2),(27,iv (a2.length:Int)),(28,iv v28)] H (F):=by
 intro a0 a1 a2 Aa2 ca2 v28 v_passed9 hra2 hca2 heq
 unfold trials_Tried.j3 at heq
 refine Rr<|Rd 3 [0,1,9,12,26,27,28] [(0,iv a0),(1,iv a1),(9,iv v_passed9),(12,iv (w64 (v28+1))),(26,.slice Aa2 a2.length ca2),(27,iv (a2.length:Int)),(28,iv v28)]<|Ad 2 [.c [1,1,1,1,0,1,0,0,1,1,0,0,1,1,1,0,0],.c [1,1,1,1,0,1,0,0,1,1,0,0,1,1,1,0,1],.b 2,.b 1,.c [1,1,1,1,0,1,0,0,1,1,1],.l [1,1,1,1,0,1,0,0],.b 0,.c [1,1,1,1,1]] ?_
 obtain ⟨t2,ht2,heq⟩:=bind_some heq
 have K2:RunH C14 (S14 F H r) H w0 [.c [1,1,1,1,0,1,0,0,1,1,0,0,1,1,1,0,1],.b 2,.b 1,.c [1,1,1,1,0,1,0,0,1,1,1],.l [1,1,1,1,0,1,0,0],.b 0,.c [1,1,1,1,1]] [(0,iv a0),(1,iv a1),(9,iv v_passed9),(12,iv (w64 (v28+1))),(26,.slice Aa2 a2.length ca2),(27,iv (a2.length:Int)),(28,iv v28),(38,.bool t2)] H (F):=by
  rcases bool_cases (t2) with hb6 | hb6
  ·replace heq:=bif_true hb6 heq
   refine Ct t2 hb6<|Ra 1 [1,1,1,1,0,1,0,0,1,1,0,0,1,1,1,0,1,0,0] [.c [1,1,1,1,0,1,0,0,1,1,0,0,1,1,1,0,1,0,1],.b 2,.b 1,.c [1,1,1,1,0,1,0,0,1,1,1],.l [1,1,1,1,0,1,0,0],.b 0,.c [1,1,1,1,1]]<|Rd 4 [6,7,8] [(6,iv 2),(7,iv (w64 (v28+1))),(8,iv 0)] ?_
   obtain rfl:=Option.some.inj heq
   exact RunH.done (by kernel_rfl) Tryd.func14 (v:=.tuple #[iv 2,iv (w64 (v28+1)),iv 0]) (by kernel_rfl) ⟨rfl,rfl,rfl⟩
  ·replace heq:=bif_false hb6 heq
   refine Cf t2 hb6<|Ra 1 [1,1,1,1,0,1,0,0,1,1,0,0,1,1,1,0,1,1,0] [.c [1,1,1,1,0,1,0,0,1,1,0,0,1,1,1,0,1,1,1],.b 2,.b 1,.c [1,1,1,1,0,1,0,0,1,1,1],.l [1,1,1,1,0,1,0,0],.b 0,.c [1,1,1,1,1]]<|Rd 4 [0,1,9,12,26,27,28,48] [(0,iv a0),(1,iv a1),(9,iv v_passed9),(12,iv (w64 (v28+1))),(26,.slice Aa2 a2.length ca2),(27,iv (a2.length:Int)),(28,iv v28),(48,.bool (v_passed9 == a1))] ?_
   rcases bool_cases (v_passed9 == a1) with hb7 | hb7
   ·replace heq:=bif_true hb7 heq
    refine Ct (v_passed9 == a1) hb7<|Ra 1 [1,1,1,1,0,1,0,0,1,1,0,0,1,1,1,0,1,1,1,0,0] [.c [1,1,1,1,0,1,0,0,1,1,0,0,1,1,1,0,1,1,1,0,1],.b 2,.b 1,.c [1,1,1,1,0,1,0,0,1,1,1],.l [1,1,1,1,0,1,0,0],.b 0,.c [1,1,1,1,1]]<|Rd 4 [6,7,8] [(6,iv 4),(7,iv (w64 (v28+1))),(8,iv 0)] ?_
    obtain rfl:=Option.some.inj heq
    exact RunH.done (by kernel_rfl) Tryd.func14 (v:=.tuple #[iv 4,iv (w64 (v28+1)),iv 0]) (by kernel_rfl) ⟨rfl,rfl,rfl⟩
   ·replace heq:=bif_false hb7 heq
    refine Cf (v_passed9 == a1) hb7<|Ra 1 [1,1,1,1,0,1,0,0,1,1,0,0,1,1,1,0,1,1,1,1,0] [.c [1,1,1,1,0,1,0,0,1,1,0,0,1,1,1,0,1,1,1,1,1],.b 2,.b 1,.c [1,1,1,1,0,1,0,0,1,1,1],.l [1,1,1,1,0,1,0,0],.b 0,.c [1,1,1,1,1]]<|Rd 8 [0,1,9,12,26,27,28,53] [(0,iv a0),(1,iv a1),(9,iv v_passed9),(12,iv (w64 (v28+1))),(26,.slice Aa2 a2.length ca2),(27,iv (a2.length:Int)),(28,iv v28),(53,.bool (decide ((w64 ((w64 (v_passed9+a0)) - (w64 (v28+1))))<a1)))] ?_
    rcases bool_cases (decide ((w64 ((w64 (v_passed9+a0)) - (w64 (v28+1))))<a1)) with hb8 | hb8
    ·replace heq:=bif_true hb8 heq
     refine Ct (decide ((w64 ((w64 (v_passed9+a0)) - (w64 (v28+1))))<a1)) hb8<|Ra 1 [1,1,1,1,0,1,0,0,1,1,0,0,1,1,1,0,1,1,1,1,1,0,0] [.c [1,1,1,1,0,1,0,0,1,1,0,0,1,1,1,0,1,1,1,1,1,0,1],.b 2,.b 1,.c [1,1,1,1,0,1,0,0,1,1,1],.l [1,1,1,1,0,1,0,0],.b 0,.c [1,1,1,1,1]]<|Rd 4 [6,7,8] [(6,iv 3),(7,iv (w64 (v28+1))),(8,iv 0)] ?_
     obtain rfl:=Option.some.inj heq
     exact RunH.done (by kernel_rfl) Tryd.func14 (v:=.tuple #[iv 3,iv (w64 (v28+1)),iv 0]) (by kernel_rfl) ⟨rfl,rfl,rfl⟩
    ·replace heq:=bif_false hb8 heq
     refine Cf (decide ((w64 ((w64 (v_passed9+a0)) - (w64 (v28+1))))<a1)) hb8<|Ra 3 [1,1,1,1,0,1,0,0,1,1,1] [.l [1,1,1,1,0,1,0,0],.b 0,.c [1,1,1,1,1]]<|Rd 2 [0,1,9,26,27,28] [(0,iv a0),(1,iv a1),(9,iv v_passed9),(26,.slice Aa2 a2.length ca2),(27,iv (a2.length:Int)),(28,iv (w64 (v28+1)))]<|Ad 1 [.c [1,1,1,1,0,1,0,0],.l [1,1,1,1,0,1,0,0],.b 0,.c [1,1,1,1,1]]<|Kp [0,1,9,26,27,28] [(0,iv a0),(1,iv a1),(9,iv v_passed9),(26,.slice Aa2 a2.length ca2),(27,iv (a2.length:Int)),(28,iv (w64 (v28+1)))] ?_
     exact hbackl2 a0 a1 a2 _ _ v_passed9 (w64 (v28+1)) hra2 hca2 heq
 replace heq:=ht2
 refine Rr<|Rk 4 [42,0,1,9,12,26,27,28] [(42,.bool (v_passed9 == a1)),(0,iv a0),(1,iv a1),(9,iv v_passed9),(12,iv (w64 (v28+1))),(26,.slice Aa2 a2.length ca2),(27,iv (a2.length:Int)),(28,iv v28)] ?_
 rcases bool_cases (v_passed9 == a1) with hb5 | hb5
 ·replace heq:=bif_true hb5 heq
  refine RgH.val1 (v':=.bool true) (congrArg Value.bool hb5) ?_
  refine Rk 9 [0,1,9,12,26,27,28,38] [(0,iv a0),(1,iv a1),(9,iv v_passed9),(12,iv (w64 (v28+1))),(26,.slice Aa2 a2.length ca2),(27,iv (a2.length:Int)),(28,iv v28),(38,.bool ((w64 (v28+1)) == a1))] ?_
  obtain rfl:=Option.some.inj heq
  refine Kg [0,1,9,12,26,27,28,38] [(0,iv a0),(1,iv a1),(9,iv v_passed9),(12,iv (w64 (v28+1))),(26,.slice Aa2 a2.length ca2),(27,iv (a2.length:Int)),(28,iv v28),(38,.bool ((w64 (v28+1)) == a1))]<|Dn ?_
  exact K2
 ·replace heq:=bif_false hb5 heq
  refine RgH.val1 (v':=.bool false) (congrArg Value.bool hb5) ?_
  refine Rk 9 [0,1,9,12,26,27,28,38] [(0,iv a0),(1,iv a1),(9,iv v_passed9),(12,iv (w64 (v28+1))),(26,.slice Aa2 a2.length ca2),(27,iv (a2.length:Int)),(28,iv v28),(38,.bool false)] ?_
  obtain rfl:=Option.some.inj heq
  refine Kg [0,1,9,12,26,27,28,38] [(0,iv a0),(1,iv a1),(9,iv v_passed9),(12,iv (w64 (v28+1))),(26,.slice Aa2 a2.length ca2),(27,iv (a2.length:Int)),(28,iv v28),(38,.bool false)]<|Dn ?_
  exact K2
theorem trials_Tried.l2_c {w0:World} [GlobI 0 w0] {H:Hp} {F:List Ch} {r:Int × Int × Int} (e1:Int→Option (Int × Int × Int))
  (he1:∀ (a0:Int) ,e1 a0=some r→RunH C14 (S14 F H r) H w0 [.c [1,1,1,1,1,0],.c [1,1,1,1,1,1]] [(0,iv a0)] H (F)):∀ (k:Nat),∀ (a0:Int) (a1:Int) (a2:List Bool) (Aa2:Option Addr) (ca2:Nat) (v_passed9:Int) (v28:Int) ,Rw Kd.bool H F Aa2 a2→a2.length≤ca2→trials_Tried.l2 e1 k a0 a1 a2 v_passed9 v28=some r→RunH C14 (S14 F H r) H w0 [.c [1,1,1,1,0,1,0,0],.l [1,1,1,1,0,1,0,0],.b 0,.c [1,1,1,1,1]] [(0,iv a0),(1,iv a1),(9,iv v_passed9),(26,.slice Aa2 a2.length ca2),(27,iv (a2.length:Int)),(28,iv v28)] H (F):=by
 intro k
 induction k with
 | zero=>intro a0 a1 a2 Aa2 ca2 v_passed9 v28 hra2 hca2 heq; exact nomatch (show (none:Option (Int × Int × Int))=some r from heq)
 | succ k ihk =>
  intro a0 a1 a2 Aa2 ca2 v_passed9 v28 hra2 hca2 heq
  rw [trials_Tried.l2] at heq
  refine Ra 1 [1,1,1,1,0,1,0,0,0] [.c [1,1,1,1,0,1,0,0,1],.l [1,1,1,1,0,1,0,0],.b 0,.c [1,1,1,1,1]]<|Rd 1 [0,1,9,26,27,28,29] [(0,iv a0),(1,iv a1),(9,iv v_passed9),(26,.slice Aa2 a2.length ca2),(27,iv (a2.length:Int)),(28,iv v28),(29,.bool (decide (v28<(a2.length:Int))))]<|Ad 1 [.c [1,1,1,1,0,1,0,0,1,0],.c [1,1,1,1,0,1,0,0,1,1],.l [1,1,1,1,0,1,0,0],.b 0,.c [1,1,1,1,1]] ?_
  rcases bool_cases (decide (v28<(a2.length:Int))) with hb4 | hb4
  ·replace heq:=bif_true hb4 heq
   refine Ct (decide (v28<(a2.length:Int))) hb4<|Ra 4 [1,1,1,1,0,1,0,0,1,1,0,0,0] [.c [1,1,1,1,0,1,0,0,1,1,0,0,1],.b 1,.c [1,1,1,1,0,1,0,0,1,1,1],.l [1,1,1,1,0,1,0,0],.b 0,.c [1,1,1,1,1]] ?_
   obtain ⟨x1,hx1,heq⟩:=bind_some heq
   obtain ⟨ha1,cs1,hK1,hcc1⟩:=hra2.get hx1
   obtain rfl:cs1=[.bool x1]:=hK1
   refine Rw' 5 [0,1,9,10,11,26,27,28] [.bool x1] [.need (Aa2=some (adr Aa2)∧(0:Int)≤v28∧v28<((a2.length:Nat):Int)),.load ((adr Aa2).add (v28.toNat*1)) (.bool x1)] [(0,iv a0),(1,iv a1),(9,iv v_passed9),(10,iv v28),(11,.bool x1),(26,.slice Aa2 a2.length ca2),(27,iv (a2.length:Int)),(28,iv v28)] (fun w hh=>⟨⟨ha1,(at?_some hx1).1,(at?_some hx1).2.1⟩,(hcc1 _ _ (hh.drop 0) 0 _ rfl)⟩)<|Ra 2 [1,1,1,1,0,1,0,0,1,1,0,0,1,0,0] [.c [1,1,1,1,0,1,0,0,1,1,0,0,1,0,1],.c [1,1,1,1,0,1,0,0,1,1,0,0,1,1],.b 1,.c [1,1,1,1,0,1,0,0,1,1,1],.l [1,1,1,1,0,1,0,0],.b 0,.c [1,1,1,1,1]]<|Rd 1 [0,1,9,10,26,27,28,33] [(0,iv a0),(1,iv a1),(9,iv v_passed9),(10,iv v28),(26,.slice Aa2 a2.length ca2),(27,iv (a2.length:Int)),(28,iv v28),(33,.bool x1)] ?_
   rcases bool_cases (x1) with hb9 | hb9
   ·replace heq:=bif_true hb9 heq
    refine Ct x1 hb9<|Rr<|Rd 3 [0,1,9,10,26,27,28] [(0,iv a0),(1,iv a1),(9,iv (w64 (v_passed9+1))),(10,iv v28),(26,.slice Aa2 a2.length ca2),(27,iv (a2.length:Int)),(28,iv v28)]<|Ad 1 [.c [1,1,1,1,0,1,0,0,1,1,0,0,1,1,0],.c [1,1,1,1,0,1,0,0,1,1,0,0,1,1,1],.b 1,.c [1,1,1,1,0,1,0,0,1,1,1],.l [1,1,1,1,0,1,0,0],.b 0,.c [1,1,1,1,1]]<|Kp [0,1,9,10,26,27,28] [(0,iv a0),(1,iv a1),(9,iv (w64 (v_passed9+1))),(10,iv v28),(26,.slice Aa2 a2.length ca2),(27,iv (a2.length:Int)),(28,iv v28)] ?_
    exact (trials_Tried.j3_c (backl2:=(trials_Tried.l2 e1 k)) ihk) a0 a1 a2 _ _ v28 (w64 (v_passed9+1)) hra2 hca2 heq
   ·replace heq:=bif_false hb9 heq
    refine Cf x1 hb9<|Ad 2 [.c [1,1,1,1,0,1,0,0,1,1,0,0,1,1,0],.c [1,1,1,1,0,1,0,0,1,1,0,0,1,1,1],.b 1,.c [1,1,1,1,0,1,0,0,1,1,1],.l [1,1,1,1,0,1,0,0],.b 0,.c [1,1,1,1,1]]<|Kp [0,1,9,10,26,27,28] [(0,iv a0),(1,iv a1),(9,iv v_passed9),(10,iv v28),(26,.slice Aa2 a2.length ca2),(27,iv (a2.length:Int)),(28,iv v28)] ?_
    exact (trials_Tried.j3_c (backl2:=(trials_Tried.l2 e1 k)) ihk) a0 a1 a2 _ _ v28 v_passed9 hra2 hca2 heq
  ·replace heq:=bif_false hb4 heq
   refine Cf (decide (v28<(a2.length:Int))) hb4<|Ad 2 [.c [1,1,1,1,1,0],.c [1,1,1,1,1,1]]<|Kp [0] [(0,iv a0)] ?_
   exact he1 a0 heq
theorem trials_Tried_c {w0:World} [GlobI 0 w0] {H:Hp} {F:List Ch} {a0:Int} {a1:Int} {a2:List Bool} {Aa2:Option Addr} {na2:Nat} {ca2:Nat} {r:Int × Int × Int} (hra2:Rw Kd.bool H F Aa2 a2) (hca2:na2≤ca2) (hna2:na2=a2.length) (heq:trials_Tried.f a0 a1 a2=some r):CallsH Tryd.prog 14 #[iv a0,iv a1,.slice Aa2 na2 ca2] H w0 (F) (S14 F H r):=by
 refine calls_of_runH (F:=C14) Tryd.func14 (by kernel_rfl) Tryd.ntmps14 (args:=[iv a0,iv a1,.slice Aa2 na2 ca2]) (by kernel_rfl) ?_
 subst hna2
 unfold trials_Tried.f at heq
 refine Ra 1 [0] [.c [1]]<|Rd 3 [0,1,2] [(0,iv a0),(1,iv a1),(2,.slice Aa2 a2.length ca2)]<|Ad 2 [.c [1,0,0],.c [1,0,1],.c [1,1]] ?_
 obtain ⟨t1,ht1,heq⟩:=bind_some heq
 have K1:RunH C14 (S14 F H r) H w0 [.c [1,0,1],.c [1,1]] [(0,iv a0),(1,iv a1),(2,.slice Aa2 a2.length ca2),(21,.bool t1)] H (F):=by
  rcases bool_cases (t1) with hb2 | hb2
  ·replace heq:=bif_true hb2 heq
   refine Ct t1 hb2<|Ra 1 [1,0,1,0,0] [.c [1,0,1,0,1],.c [1,1]]<|Rd 3 [6,7,8] [(6,iv 0),(7,iv 0),(8,iv 1)] ?_
   obtain rfl:=Option.some.inj heq
   exact RunH.done (by kernel_rfl) Tryd.func14 (v:=.tuple #[iv 0,iv 0,iv 1]) (by kernel_rfl) ⟨rfl,rfl,rfl⟩
  ·replace heq:=bif_false hb2 heq
   refine Cf t1 hb2<|Ra 3 [1,1,0,0] [.c [1,1,0,1],.c [1,1,1]]<|Rd 4 [0,1,2,25] [(0,iv a0),(1,iv a1),(2,.slice Aa2 a2.length ca2),(25,.bool ((a2.length:Int) != a0))] ?_
   rcases bool_cases ((a2.length:Int) != a0) with hb3 | hb3
   ·replace heq:=bif_true hb3 heq
    refine Ct ((a2.length:Int) != a0) hb3<|Ra 1 [1,1,0,1,0,0] [.c [1,1,0,1,0,1],.c [1,1,1]]<|Rd 3 [6,7,8] [(6,iv 0),(7,iv 0),(8,iv 3)] ?_
    obtain rfl:=Option.some.inj heq
    exact RunH.done (by kernel_rfl) Tryd.func14 (v:=.tuple #[iv 0,iv 0,iv 3]) (by kernel_rfl) ⟨rfl,rfl,rfl⟩
   ·replace heq:=bif_false hb3 heq
    refine Cf ((a2.length:Int) != a0) hb3<|Ra 2 [1,1,1,0] [.c [1,1,1,1]]<|Rd 1 [0,1,2,9] [(0,iv a0),(1,iv a1),(2,.slice Aa2 a2.length ca2),(9,iv 0)]<|Ra 2 [1,1,1,1,0,0] [.c [1,1,1,1,0,1],.c [1,1,1,1,1]]<|Rd 3 [0,1,9,26,27,28] [(0,iv a0),(1,iv a1),(9,iv 0),(26,.slice Aa2 a2.length ca2),(27,iv (a2.length:Int)),(28,iv 0)]<|Ad 2 [.c [1,1,1,1,0,1,0,0],.l [1,1,1,1,0,1,0,0],.b 0,.c [1,1,1,1,1]]<|Kp [0,1,9,26,27,28] [(0,iv a0),(1,iv a1),(9,iv 0),(26,.slice Aa2 a2.length ca2),(27,iv (a2.length:Int)),(28,iv 0)] ?_
    exact ((trials_Tried.l2_c (e1:=trials_Tried.e1) (trials_Tried.e1_c)) big) a0 a1 a2 _ _ 0 0 hra2 hca2 heq
 replace heq:=ht1
 refine Rr<|Rk 1 [0,1,2,13] [(0,iv a0),(1,iv a1),(2,.slice Aa2 a2.length ca2),(13,iv a0)] ?_
 obtain ⟨y1,hy1,heq⟩:=bind_some heq
 refine RgH.does (DoesH.call (d:=14) (g:=23) (args:=#[iv a0,iv 1,iv 100]) (by kernel_rfl) (trials_within_c (a0:=a0) (a1:=1) (a2:=100)  hy1)) ?_
 rintro _ _ _ _ ⟨_,rfl,rfl,rfl,rfl⟩
 refine Rk 4 [16,0,1,2] [(16,.bool (!y1)),(0,iv a0),(1,iv a1),(2,.slice Aa2 a2.length ca2)] ?_
 rcases bool_cases (!y1) with hb1 | hb1
 ·replace heq:=bif_true hb1 heq
  refine RgH.val1 (v':=.bool true) (congrArg Value.bool hb1) ?_
  refine Rk 9 [0,1,2,21] [(0,iv a0),(1,iv a1),(2,.slice Aa2 a2.length ca2),(21,.bool true)] ?_
  obtain rfl:=Option.some.inj heq
  refine Kg [0,1,2,21] [(0,iv a0),(1,iv a1),(2,.slice Aa2 a2.length ca2),(21,.bool true)]<|Dn ?_
  exact K1
 ·replace heq:=bif_false hb1 heq
  refine RgH.val1 (v':=.bool false) (congrArg Value.bool hb1) ?_
  refine Rk 6 [0,1,2,16,17,18] [(0,iv a0),(1,iv a1),(2,.slice Aa2 a2.length ca2),(16,.bool false),(17,iv a1),(18,iv a0)] ?_
  obtain ⟨y2,hy2,heq⟩:=bind_some heq
  refine RgH.does (DoesH.call (d:=19) (g:=23) (args:=#[iv a1,iv 1,iv a0]) (by kernel_rfl) (trials_within_c (a0:=a1) (a1:=1) (a2:=a0)  hy2)) ?_
  rintro _ _ _ _ ⟨_,rfl,rfl,rfl,rfl⟩
  refine Rk 9 [0,1,2,21] [(0,iv a0),(1,iv a1),(2,.slice Aa2 a2.length ca2),(21,.bool (!y2))] ?_
  obtain rfl:=Option.some.inj heq
  refine Kg [0,1,2,21] [(0,iv a0),(1,iv a1),(2,.slice Aa2 a2.length ca2),(21,.bool (!y2))]<|Dn ?_
  exact K1
noncomputable def C5:Ctx:={ P:=Tryd.prog,f:=5,N:=20,c:=bodyOf Tryd.f5 }
def S5 (F:List Ch) (H0:Hp) (r:Bool) (v:Value) (H:Hp) (cs:List Ch):Prop:=H0=H∧v=.bool r∧F=cs
theorem smithyardlaw10_awake_c {w0:World} [GlobI 0 w0] {H:Hp} {F:List Ch} {r:Bool} (heq:smithyardlaw10_awake.f=some r):CallsH Tryd.prog 5 (List.toArray []) H w0 (F) (S5 F H r):=by
 refine calls_of_runH (F:=C5) Tryd.func5 (by kernel_rfl) Tryd.ntmps5 (args:=[]) (by kernel_rfl) ?_
 unfold smithyardlaw10_awake.f at heq
 refine Ra 1 [0] [.c [1]]<|Rd 1 [] []<|Ra 1 [1,0] [.c [1,1]] ?_
 refine RgH.does (DoesH.new (d:=5) (v:=fun g=>.slice (some ⟨g,0,none⟩) 3 3) (o:=fun g=>.cells #[.bool false,.bool true,.bool true] 4 (0,0)) (fun g=>by kernel_rfl)) ?_
 rintro _ _ _ _ ⟨g1,rfl,rfl,rfl⟩
 have ho1:SlOwn Kd.bool 4 H (some ⟨g1,0,none⟩) 3 ([false,true,true]:List Bool) (some (g1,.cells #[.bool false,.bool true,.bool true] 4 (0,0))):=SlOwn.lit (xs:=([false,true,true]:List Bool)) (by kernel_rfl) (Nat.le_of_ble_eq_true (by kernel_rfl)) (Kd.Rep.scalars rfl)
 obtain ⟨y1,hy1,heq⟩:=bind_some heq
 refine RgH.does (DoesH.call (d:=6) (g:=14) (args:=#[iv 3,iv 1,.slice (some ⟨g1,0,none⟩) 3 3]) (by kernel_rfl) (trials_Tried_c (a0:=3) (a1:=1) (a2:=([false,true,true]:List Bool)) (ho1.rw (.head _)) ho1.cap rfl hy1)) ?_
 rintro _ _ _ _ ⟨_,rfl,rfl,rfl,rfl⟩
 refine Rd 9 [1,2,3] [(1,iv y1.1),(2,iv y1.2.1),(3,iv y1.2.2)]<|Ad 1 [.c [1,1,0],.c [1,1,1]] ?_
 obtain ⟨t1,ht1,heq⟩:=bind_some heq
 have K2:RunH C5 (S5 F H r) H w0 [.c [1,1,1]] [(0,.bool t1)] H (F):=by
  obtain rfl:=Option.some.inj heq
  exact RunH.done (by kernel_rfl) Tryd.func5 (v:=.bool t1) (by kernel_rfl) ⟨rfl,rfl,rfl⟩
 replace heq:=ht1
 refine Rr<|Rk 3 [12,1,2] [(12,.bool (y1.2.2 == 0)),(1,iv y1.1),(2,iv y1.2.1)] ?_
 rcases bool_cases (y1.2.2 == 0) with hb1 | hb1
 ·replace heq:=bif_true hb1 heq
  refine RgH.val1 (v':=.bool true) (congrArg Value.bool hb1) ?_
  refine Rk 7 [16,2] [(16,.bool (y1.1 == 4)),(2,iv y1.2.1)] ?_
  rcases bool_cases (y1.1 == 4) with hb2 | hb2
  ·replace heq:=bif_true hb2 heq
   refine RgH.val1 (v':=.bool true) (congrArg Value.bool hb2) ?_
   refine Rk 11 [0] [(0,.bool (y1.2.1 == 2))] ?_
   obtain rfl:=Option.some.inj heq
   refine Kg [0] [(0,.bool (y1.2.1 == 2))] ?_
   refine RgH.pick 1 [] (cs':=F) (by kernel_rfl) rfl ?_
   refine Dn ?_
   exact K2
  ·replace heq:=bif_false hb2 heq
   refine RgH.val1 (v':=.bool false) (congrArg Value.bool hb2) ?_
   refine Rk 11 [0] [(0,.bool false)] ?_
   obtain rfl:=Option.some.inj heq
   refine Kg [0] [(0,.bool false)] ?_
   refine RgH.pick 1 [] (cs':=F) (by kernel_rfl) rfl ?_
   refine Dn ?_
   exact K2
 ·replace heq:=bif_false hb1 heq
  refine RgH.val1 (v':=.bool false) (congrArg Value.bool hb1) ?_
  refine Rk 11 [0] [(0,.bool false)] ?_
  obtain rfl:=Option.some.inj heq
  refine Kg [0] [(0,.bool false)] ?_
  refine RgH.pick 1 [] (cs':=F) (by kernel_rfl) rfl ?_
  refine Dn ?_
  exact K2
noncomputable def C6:Ctx:={ P:=Tryd.prog,f:=6,N:=14,c:=bodyOf Tryd.f6 }
def S6 (F:List Ch) (H0:Hp) (r:Int) (v:Value) (H:Hp) (cs:List Ch):Prop:=H0=H∧v=iv r∧F=cs
theorem smithyardref10_Below.j1_c {w0:World} [GlobI 0 w0] {H:Hp} {F:List Ch} {r:Int}:∀ (v_x0:Int) ,smithyardref10_Below.j1 v_x0=some r→RunH C6 (S6 F H r) H w0 [.c [1,1,1,0],.c [1,1,1,1]] [(0,iv v_x0)] H (F):=by
 intro v_x0  heq
 unfold smithyardref10_Below.j1 at heq
 refine Rr<|Rd 2 [4] [(4,iv v_x0)] ?_
 obtain rfl:=Option.some.inj heq
 exact RunH.done (by kernel_rfl) Tryd.func6 (v:=iv v_x0) (by kernel_rfl) ⟨rfl,rfl,rfl⟩
theorem smithyardref10_Below_c {w0:World} [GlobI 0 w0] {H:Hp} {F:List Ch} {a0:Int} {a1:Int} {r:Int} (heq:smithyardref10_Below.f a0 a1=some r):CallsH Tryd.prog 6 #[iv a0,iv a1] H w0 (F) (S6 F H r):=by
 refine calls_of_runH (F:=C6) Tryd.func6 (by kernel_rfl) Tryd.ntmps6 (args:=[iv a0,iv a1]) (by kernel_rfl) ?_
 unfold smithyardref10_Below.f at heq
 refine Ra 1 [0] [.c [1]]<|Rd 1 [0,1] [(0,iv a0),(1,iv a1)]<|Ra 1 [1,0] [.c [1,1]] ?_
 obtain ⟨hn1,heq⟩:=guard?_some heq
 refine Rw' 4 [0,1] [] [.need (a1≠(0:Int))] [(0,iv (a0.tmod a1)),(1,iv a1)] (fun w hh=>(ne_of_bne hn1))<|Ra 2 [1,1,0,0] [.c [1,1,0,1],.c [1,1,1]]<|Rd 2 [0,1,9] [(0,iv (a0.tmod a1)),(1,iv a1),(9,.bool (decide ((a0.tmod a1)<0)))] ?_
 rcases bool_cases (decide ((a0.tmod a1)<0)) with hb1 | hb1
 ·replace heq:=bif_true hb1 heq
  refine Ct (decide ((a0.tmod a1)<0)) hb1<|Rr<|Rd 4 [0] [(0,iv (w64 ((a0.tmod a1)+a1)))]<|Ad 1 [.c [1,1,1,0],.c [1,1,1,1]]<|Kp [0] [(0,iv (w64 ((a0.tmod a1)+a1)))] ?_
  exact (smithyardref10_Below.j1_c) (w64 ((a0.tmod a1)+a1)) heq
 ·replace heq:=bif_false hb1 heq
  refine Cf (decide ((a0.tmod a1)<0)) hb1<|Ad 2 [.c [1,1,1,0],.c [1,1,1,1]]<|Kp [0] [(0,iv (a0.tmod a1))] ?_
  exact (smithyardref10_Below.j1_c) (a0.tmod a1) heq
noncomputable def C15:Ctx:={ P:=Tryd.prog,f:=15,N:=27,c:=bodyOf Tryd.f15 }
def S15 (F:List Ch) (H0:Hp) (r:List ByteArray) (v:Value) (H:Hp) (cs:List Ch):Prop:=∃ (A0:Option Addr) (c0:Nat) (ch0:Ch),H0=H∧v=.slice A0 r.length c0∧ch0::F=cs∧SlOwn Kd.string 9 H A0 c0 r ch0
theorem slices_Grow_string_c {w0:World} [GlobI 0 w0] {H:Hp} {F:List Ch} {a0:List ByteArray} {a1:Int} {r:List ByteArray} (heq:slices_Grow_string.f a0 a1=some r):CallsH Tryd.prog 15 #[.slice none 0 0,iv a1] H w0 F (S15 F H r):=by
 refine calls_of_runH (F:=C15) Tryd.func15 (by kernel_rfl) Tryd.ntmps15 (args:=[.slice none 0 0,iv a1]) (by kernel_rfl) ?_
 unfold slices_Grow_string.f at heq
 obtain ⟨hn,heq⟩:=guard?_some heq
 obtain rfl:=Option.some.inj heq
 simp only [Bool.and_eq_true,decide_eq_true_eq] at hn
 obtain ⟨_,h0,h3⟩:=hn
 have h3:=room_le h3
 obtain ⟨I,rfl⟩:∃ I:Nat,a1=(I:Int):=⟨a1.toNat,by omega⟩
 rw [Int.toNat_natCast,Nat.zero_add] at h3
 have hbig:I≤140737490452480:=by
  have:I*1≤I*16:=Nat.mul_le_mul_left _ (by omega)
  omega
 have hw:w64 ((I:Int) - w64 ((0:Int) - (0:Int)))=(I:Int):=by
  have e1:w64 ((0:Int) - (0:Int))=0:=by unfold w64; rw [IntKind.wrap_i64]; omega
  rw [e1,Int.sub_zero]; unfold w64; rw [IntKind.wrap_i64]; omega
 refine Ra 1 [0] [.c [1]]<|Rd 1 [0,1] [(0,.slice none 0 0),(1,iv (I:Int))]<|Ra 2 [1,0,0] [.c [1,0,1],.c [1,1]]<|Rd 2 [0,1,6] [(0,.slice none 0 0),(1,iv (I:Int)),(6,.bool (decide ((I:Int)<0)))]<|Cf (decide ((I:Int)<0)) (decide_eq_false (by omega))<|Ra 3 [1,1,0,0] [.c [1,1,0,1],.c [1,1,1]]<|Rd 8 [1,0] [(1,iv (w64 ((I:Int) - w64 ((0:Int) - (0:Int))))),(0,.slice none 0 0)]<|Ra 1 [1,1,0,1,0] [.c [1,1,0,1,1],.c [1,1,1]]<|Rd 2 [0,1,16] [(0,.slice none 0 0),(1,iv (w64 ((I:Int) - w64 ((0:Int) - (0:Int))))),(16,.bool (decide ((0:Int)<w64 ((I:Int) - w64 ((0:Int) - (0:Int))))))] ?_
 rcases bool_cases (decide ((0:Int)<w64 ((I:Int) - w64 ((0:Int) - (0:Int))))) with hb | hb
 ·have hI:0<I:=by have:=of_decide_eq_true hb; rw [hw] at this; omega
  refine Ct (decide ((0:Int)<w64 ((I:Int) - w64 ((0:Int) - (0:Int))))) hb<|Rr<|Rv 5 [0,20,21] [] [.need ((0:Int)≤((0:Nat):Int)∧((0:Nat):Int)≤((0:Nat):Int))] [(0,.slice none 0 0),(20,.slice none 0 0),(21,iv (w64 ((I:Int) - w64 ((0:Int) - (0:Int)))))] (fun w hh=>⟨by omega,by omega⟩) ?_
  refine RgH.does (DoesH.appendZeros0 (dd:=22) (kd:=Kd.string) (t:=24) (tn:=3) (e:=9) (bytes:=16) (q:=I) (by kernel_rfl) hw (by kernel_rfl) (by kernel_rfl) hI h3 (by omega)) ?_
  rintro _ _ _ _ ⟨g,c',cells,rfl,rfl,rfl,ho⟩
  refine Rw' 10 [0] [] [.need ((0:Int)≤((0:Nat):Int)∧((0:Nat):Int)≤((c':Nat):Int))] [(0,.slice (some ⟨g,0,none⟩) 0 c')] (fun w hh=>⟨by omega,by omega⟩)<|Ra 1 [1,1,1,0] [.c [1,1,1,1]]<|Rd 2 [4] [(4,.slice (some ⟨g,0,none⟩) 0 c')] ?_
  exact RunH.done (by kernel_rfl) Tryd.func15 (v:=.slice (some ⟨g,0,none⟩) ([]:List ByteArray).length c') (by kernel_rfl) ⟨some ⟨g,0,none⟩,c',_,rfl,rfl,rfl,ho⟩
 ·refine Cf (decide ((0:Int)<w64 ((I:Int) - w64 ((0:Int) - (0:Int))))) hb<|Ra 2 [1,1,1,0] [.c [1,1,1,1]]<|Rd 2 [4] [(4,.slice none 0 0)]<|RunH.nilc ?_
  exact RunH.done (by kernel_rfl) Tryd.func15 (v:=.slice none ([]:List ByteArray).length 0) (by kernel_rfl) ⟨none,0,none,rfl,rfl,rfl,SlOwn.nil⟩
noncomputable def C7:Ctx:={ P:=Tryd.prog,f:=7,N:=36,c:=bodyOf Tryd.f7 }
def S7 (F:List Ch) (H0:Hp) (r:(List ByteArray)) (v:Value) (H:Hp) (cs:List Ch):Prop:=∃ (A0:Option Addr) (c0:Nat) (ch0:Ch),H0=H∧v=.slice A0 r.length c0∧ch0::F=cs∧SlOwn Kd.string 9 H A0 c0 r ch0
theorem slices_Concat_string.e2_c {w0:World} [GlobI 0 w0] {H:Hp} {F:List Ch} {r:(List ByteArray)}:∀ (v_newslice6:List ByteArray) (Av_newslice6:Option Addr) (nv_newslice6:Nat) (cv_newslice6:Nat) (chv_newslice6:Ch) ,SlOwn Kd.string 9 H Av_newslice6 cv_newslice6 v_newslice6 chv_newslice6→nv_newslice6=v_newslice6.length→slices_Concat_string.e2 v_newslice6=some r→RunH C7 (S7 F H r) H w0 [.c [1,1,1,1,1,0],.c [1,1,1,1,1,1]] [(6,.slice Av_newslice6 nv_newslice6 cv_newslice6)] H (chv_newslice6::F):=by
 intro v_newslice6 Av_newslice6 nv_newslice6 cv_newslice6 chv_newslice6 hov_newslice6 hnv_newslice6 heq
 subst hnv_newslice6
 unfold slices_Concat_string.e2 at heq
 refine Rr<|Rd 2 [2] [(2,.slice Av_newslice6 v_newslice6.length cv_newslice6)] ?_
 obtain rfl:=Option.some.inj heq
 exact RunH.done (by kernel_rfl) Tryd.func7 (v:=.slice Av_newslice6 v_newslice6.length cv_newslice6) (by kernel_rfl) ⟨Av_newslice6,cv_newslice6,chv_newslice6,rfl,rfl,rfl,hov_newslice6⟩
theorem slices_Concat_string.l3_c {w0:World} [GlobI 0 w0] {H:Hp} {F:List Ch} {r:(List ByteArray)} (e2:(List ByteArray)→Option (List ByteArray))
  (he2:∀ (v_newslice6:List ByteArray) (Av_newslice6:Option Addr) (nv_newslice6:Nat) (cv_newslice6:Nat) (chv_newslice6:Ch) ,SlOwn Kd.string 9 H Av_newslice6 cv_newslice6 v_newslice6 chv_newslice6→nv_newslice6=v_newslice6.length→e2 v_newslice6=some r→RunH C7 (S7 F H r) H w0 [.c [1,1,1,1,1,0],.c [1,1,1,1,1,1]] [(6,.slice Av_newslice6 nv_newslice6 cv_newslice6)] H (chv_newslice6::F)):∀ (k:Nat),∀ (a0:List (List ByteArray)) (Aa0:Option Addr) (ca0:Nat) (v_newslice6:List ByteArray) (Av_newslice6:Option Addr) (nv_newslice6:Nat) (cv_newslice6:Nat) (chv_newslice6:Ch) (v27:Int) ,Rw (Kd.slice Kd.string) H F Aa0 a0→a0.length≤ca0→SlOwn Kd.string 9 H Av_newslice6 cv_newslice6 v_newslice6 chv_newslice6→nv_newslice6=v_newslice6.length→slices_Concat_string.l3 e2 k a0 v_newslice6 v27=some r→RunH C7 (S7 F H r) H w0 [.c [1,1,1,1,0,1,0,0],.l [1,1,1,1,0,1,0,0],.b 2,.c [1,1,1,1,1]] [(6,.slice Av_newslice6 nv_newslice6 cv_newslice6),(25,.slice Aa0 a0.length ca0),(26,iv (a0.length:Int)),(27,iv v27)] H (chv_newslice6::F):=by
 intro k
 induction k with
 | zero=>intro a0 Aa0 ca0 v_newslice6 Av_newslice6 nv_newslice6 cv_newslice6 chv_newslice6 v27 hra0 hca0 hov_newslice6 hnv_newslice6 heq; exact nomatch (show (none:Option (List ByteArray))=some r from heq)
 | succ k ihk =>
  intro a0 Aa0 ca0 v_newslice6 Av_newslice6 nv_newslice6 cv_newslice6 chv_newslice6 v27 hra0 hca0 hov_newslice6 hnv_newslice6 heq
  subst hnv_newslice6
  rw [slices_Concat_string.l3] at heq
  refine Ra 1 [1,1,1,1,0,1,0,0,0] [.c [1,1,1,1,0,1,0,0,1],.l [1,1,1,1,0,1,0,0],.b 2,.c [1,1,1,1,1]]<|Rd 1 [6,25,26,27,28] [(6,.slice Av_newslice6 v_newslice6.length cv_newslice6),(25,.slice Aa0 a0.length ca0),(26,iv (a0.length:Int)),(27,iv v27),(28,.bool (decide (v27<(a0.length:Int))))]<|Ad 1 [.c [1,1,1,1,0,1,0,0,1,0],.c [1,1,1,1,0,1,0,0,1,1],.l [1,1,1,1,0,1,0,0],.b 2,.c [1,1,1,1,1]] ?_
  rcases bool_cases (decide (v27<(a0.length:Int))) with hb1 | hb1
  ·replace heq:=bif_true hb1 heq
   refine Ct (decide (v27<(a0.length:Int))) hb1<|Ra 4 [1,1,1,1,0,1,0,0,1,1,0,0,0] [.c [1,1,1,1,0,1,0,0,1,1,0,0,1],.b 3,.c [1,1,1,1,0,1,0,0,1,1,1],.l [1,1,1,1,0,1,0,0],.b 2,.c [1,1,1,1,1]] ?_
   obtain ⟨x1,hx1,heq⟩:=bind_some heq
   obtain ⟨ha1,cs1,hK1,hcc1⟩:=hra0.get hx1
   obtain ⟨A2,c2,rfl,hc1,hr1⟩:=hK1
   refine Rw' 3 [6,8,25,26,27] [.slice A2 x1.length c2] [.need (Aa0=some (adr Aa0)∧(0:Int)≤v27∧v27<((a0.length:Nat):Int)),.load ((adr Aa0).add (v27.toNat*1)) (.slice A2 x1.length c2)] [(6,.slice Av_newslice6 v_newslice6.length cv_newslice6),(8,.slice A2 x1.length c2),(25,.slice Aa0 a0.length ca0),(26,iv (a0.length:Int)),(27,iv v27)] (fun w hh=>⟨⟨ha1,(at?_some hx1).1,(at?_some hx1).2.1⟩,(hcc1 _ _ (hh.drop 1) 0 _ rfl)⟩)<|Rr<|Rk 2 [25,26,27,31,32] [(25,.slice Aa0 a0.length ca0),(26,iv (a0.length:Int)),(27,iv v27),(31,.slice Av_newslice6 v_newslice6.length cv_newslice6),(32,.slice A2 x1.length c2)] ?_
   obtain ⟨hn1,heq⟩:=guard?_some heq
   refine RgH.does (DoesH.append (d:=33) (k:=0) (t:=24) (e:=9) (bytes:=16) (kd:=Kd.string) (n:=v_newslice6.length) (m:=x1.length) (xs:=v_newslice6) (ys:=x1) (A:=Av_newslice6) (B:=A2) (c:=cv_newslice6) (cB:=c2) (by kernel_rfl) rfl rfl (by kernel_rfl) rfl hov_newslice6 (fun w hh=>(Rw.of (F:=F) hr1).rdb (hh.drop 1)) (room_le hn1) (by have:=room_le hn1; omega)) ?_
   rintro _ _ _ _ ⟨A3,c3,ch2,rfl,rfl,rfl,ho2⟩
   refine Rd 4 [6,25,26,27] [(6,.slice A3 ((v_newslice6++x1).length) c3),(25,.slice Aa0 a0.length ca0),(26,iv (a0.length:Int)),(27,iv v27)]<|Ra 1 [1,1,1,1,0,1,0,0,1,1,1] [.l [1,1,1,1,0,1,0,0],.b 2,.c [1,1,1,1,1]]<|Rd 2 [6,25,26,27] [(6,.slice A3 ((v_newslice6++x1).length) c3),(25,.slice Aa0 a0.length ca0),(26,iv (a0.length:Int)),(27,iv (w64 (v27+1)))]<|Ad 1 [.c [1,1,1,1,0,1,0,0],.l [1,1,1,1,0,1,0,0],.b 2,.c [1,1,1,1,1]]<|Kp [6,25,26,27] [(6,.slice A3 ((v_newslice6++x1).length) c3),(25,.slice Aa0 a0.length ca0),(26,iv (a0.length:Int)),(27,iv (w64 (v27+1)))] ?_
   exact ihk a0 _ _ (v_newslice6++x1) _ _ _ _ (w64 (v27+1)) hra0 hca0 ho2 rfl heq
  ·replace heq:=bif_false hb1 heq
   refine Cf (decide (v27<(a0.length:Int))) hb1<|Ad 2 [.c [1,1,1,1,1,0],.c [1,1,1,1,1,1]]<|Kp [6] [(6,.slice Av_newslice6 v_newslice6.length cv_newslice6)] ?_
   exact he2 v_newslice6 _ _ _ _ hov_newslice6 rfl heq
theorem slices_Concat_string.e1_c {w0:World} [GlobI 0 w0] {H:Hp} {F:List Ch} {r:(List ByteArray)}:∀ (a0:List (List ByteArray)) (Aa0:Option Addr) (ca0:Nat) (v_size3:Int) ,Rw (Kd.slice Kd.string) H F Aa0 a0→a0.length≤ca0→slices_Concat_string.e1 a0 v_size3=some r→RunH C7 (S7 F H r) H w0 [.c [1,1,1,0],.c [1,1,1,1]] [(0,.slice Aa0 a0.length ca0),(3,iv v_size3)] H (F):=by
 intro a0 Aa0 ca0 v_size3 hra0 hca0 heq
 unfold slices_Concat_string.e1 at heq
 refine Rr<|Rk 1 [0,23] [(0,.slice Aa0 a0.length ca0),(23,iv v_size3)] ?_
 obtain ⟨y1,hy1,heq⟩:=bind_some heq
 refine RgH.does (DoesH.call (d:=24) (g:=15) (args:=#[.slice none 0 0,iv v_size3]) (by kernel_rfl) (slices_Grow_string_c (a0:=([]:List ByteArray)) (a1:=v_size3)  hy1)) ?_
 rintro _ _ _ _ ⟨_,rfl,A1,c1,ch1,rfl,rfl,rfl,ho1⟩
 refine Rd 3 [0,6] [(0,.slice Aa0 a0.length ca0),(6,.slice A1 y1.length c1)]<|Ra 2 [1,1,1,1,0,0] [.c [1,1,1,1,0,1],.c [1,1,1,1,1]]<|Rd 3 [6,25,26,27] [(6,.slice A1 y1.length c1),(25,.slice Aa0 a0.length ca0),(26,iv (a0.length:Int)),(27,iv 0)]<|Ad 2 [.c [1,1,1,1,0,1,0,0],.l [1,1,1,1,0,1,0,0],.b 2,.c [1,1,1,1,1]]<|Kp [6,25,26,27] [(6,.slice A1 y1.length c1),(25,.slice Aa0 a0.length ca0),(26,iv (a0.length:Int)),(27,iv 0)] ?_
 exact ((slices_Concat_string.l3_c (e2:=slices_Concat_string.e2) (slices_Concat_string.e2_c)) big) a0 _ _ y1 _ _ _ _ 0 hra0 hca0 ho1 rfl heq
theorem slices_Concat_string.j5_c {w0:World} [GlobI 0 w0] {H:Hp} {F:List Ch} {r:(List ByteArray)} (backl4:(List (List ByteArray))→Int→Int→Option (List ByteArray))
  (hbackl4:∀ (a0:List (List ByteArray)) (Aa0:Option Addr) (ca0:Nat) (v_size3:Int) (v11:Int) ,Rw (Kd.slice Kd.string) H F Aa0 a0→a0.length≤ca0→backl4 a0 v_size3 v11=some r→RunH C7 (S7 F H r) H w0 [.c [1,1,0,1,0,0],.l [1,1,0,1,0,0],.b 0,.c [1,1,1]] [(0,.slice Aa0 a0.length ca0),(3,iv v_size3),(9,.slice Aa0 a0.length ca0),(10,iv (a0.length:Int)),(11,iv v11)] H (F)):∀ (a0:List (List ByteArray)) (Aa0:Option Addr) (ca0:Nat) (v_size3:Int) (v11:Int) (x2:List ByteArray) ,Rw (Kd.slice Kd.string) H F Aa0 a0→a0.length≤ca0→slices_Concat_string.j5 backl4 a0 v_size3 v11 x2=some r→RunH C7 (S7 F H r) H w0 [.c [1,1,0,1,0,0,1,1,1],.l [1,1,0,1,0,0],.b 0,.c [1,1,1]] [(0,.slice Aa0 a0.length ca0),(3,iv (w64 (v_size3+(x2.length:Int)))),(9,.slice Aa0 a0.length ca0),(10,iv (a0.length:Int)),(11,iv v11)] H (F):=by
 intro a0 Aa0 ca0 v_size3 v11 x2 hra0 hca0 heq
 unfold slices_Concat_string.j5 at heq
 refine Rr<|Rd 2 [0,3,9,10,11] [(0,.slice Aa0 a0.length ca0),(3,iv (w64 (v_size3+(x2.length:Int)))),(9,.slice Aa0 a0.length ca0),(10,iv (a0.length:Int)),(11,iv (w64 (v11+1)))]<|Ad 1 [.c [1,1,0,1,0,0],.l [1,1,0,1,0,0],.b 0,.c [1,1,1]]<|Kp [0,3,9,10,11] [(0,.slice Aa0 a0.length ca0),(3,iv (w64 (v_size3+(x2.length:Int)))),(9,.slice Aa0 a0.length ca0),(10,iv (a0.length:Int)),(11,iv (w64 (v11+1)))] ?_
 exact hbackl4 a0 _ _ (w64 (v_size3+(x2.length:Int))) (w64 (v11+1)) hra0 hca0 heq
theorem slices_Concat_string.l4_c {w0:World} [GlobI 0 w0] {H:Hp} {F:List Ch} {r:(List ByteArray)} (e1:(List (List ByteArray))→Int→Option (List ByteArray))
  (he1:∀ (a0:List (List ByteArray)) (Aa0:Option Addr) (ca0:Nat) (v_size3:Int) ,Rw (Kd.slice Kd.string) H F Aa0 a0→a0.length≤ca0→e1 a0 v_size3=some r→RunH C7 (S7 F H r) H w0 [.c [1,1,1,0],.c [1,1,1,1]] [(0,.slice Aa0 a0.length ca0),(3,iv v_size3)] H (F)):∀ (k:Nat),∀ (a0:List (List ByteArray)) (Aa0:Option Addr) (ca0:Nat) (v_size3:Int) (v11:Int) ,Rw (Kd.slice Kd.string) H F Aa0 a0→a0.length≤ca0→slices_Concat_string.l4 e1 k a0 v_size3 v11=some r→RunH C7 (S7 F H r) H w0 [.c [1,1,0,1,0,0],.l [1,1,0,1,0,0],.b 0,.c [1,1,1]] [(0,.slice Aa0 a0.length ca0),(3,iv v_size3),(9,.slice Aa0 a0.length ca0),(10,iv (a0.length:Int)),(11,iv v11)] H (F):=by
 intro k
 induction k with
 | zero=>intro a0 Aa0 ca0 v_size3 v11 hra0 hca0 heq; exact nomatch (show (none:Option (List ByteArray))=some r from heq)
 | succ k ihk =>
  intro a0 Aa0 ca0 v_size3 v11 hra0 hca0 heq
  rw [slices_Concat_string.l4] at heq
  refine Ra 1 [1,1,0,1,0,0,0] [.c [1,1,0,1,0,0,1],.l [1,1,0,1,0,0],.b 0,.c [1,1,1]]<|Rd 1 [0,3,9,10,11,12] [(0,.slice Aa0 a0.length ca0),(3,iv v_size3),(9,.slice Aa0 a0.length ca0),(10,iv (a0.length:Int)),(11,iv v11),(12,.bool (decide (v11<(a0.length:Int))))]<|Ad 1 [.c [1,1,0,1,0,0,1,0],.c [1,1,0,1,0,0,1,1],.l [1,1,0,1,0,0],.b 0,.c [1,1,1]] ?_
  rcases bool_cases (decide (v11<(a0.length:Int))) with hb2 | hb2
  ·replace heq:=bif_true hb2 heq
   refine Ct (decide (v11<(a0.length:Int))) hb2<|Ra 4 [1,1,0,1,0,0,1,1,0,0,0] [.c [1,1,0,1,0,0,1,1,0,0,1],.b 1,.c [1,1,0,1,0,0,1,1,1],.l [1,1,0,1,0,0],.b 0,.c [1,1,1]] ?_
   obtain ⟨x2,hx2,heq⟩:=bind_some heq
   obtain ⟨ha2,cs2,hK2,hcc2⟩:=hra0.get hx2
   obtain ⟨A4,c4,rfl,hc2,hr2⟩:=hK2
   refine Rw' 3 [0,3,5,9,10,11] [.slice A4 x2.length c4] [.need (Aa0=some (adr Aa0)∧(0:Int)≤v11∧v11<((a0.length:Nat):Int)),.load ((adr Aa0).add (v11.toNat*1)) (.slice A4 x2.length c4)] [(0,.slice Aa0 a0.length ca0),(3,iv v_size3),(5,.slice A4 x2.length c4),(9,.slice Aa0 a0.length ca0),(10,iv (a0.length:Int)),(11,iv v11)] (fun w hh=>⟨⟨ha2,(at?_some hx2).1,(at?_some hx2).2.1⟩,(hcc2 _ _ (hh.drop 0) 0 _ rfl)⟩)<|Ra 1 [1,1,0,1,0,0,1,1,0,0,1,0] [.c [1,1,0,1,0,0,1,1,0,0,1,1],.b 1,.c [1,1,0,1,0,0,1,1,1],.l [1,1,0,1,0,0],.b 0,.c [1,1,1]]<|Rd 5 [0,3,9,10,11] [(0,.slice Aa0 a0.length ca0),(3,iv (w64 (v_size3+(x2.length:Int)))),(9,.slice Aa0 a0.length ca0),(10,iv (a0.length:Int)),(11,iv v11)]<|Ra 1 [1,1,0,1,0,0,1,1,0,0,1,1,0] [.c [1,1,0,1,0,0,1,1,0,0,1,1,1],.b 1,.c [1,1,0,1,0,0,1,1,1],.l [1,1,0,1,0,0],.b 0,.c [1,1,1]]<|Rd 2 [0,3,9,10,11,20] [(0,.slice Aa0 a0.length ca0),(3,iv (w64 (v_size3+(x2.length:Int)))),(9,.slice Aa0 a0.length ca0),(10,iv (a0.length:Int)),(11,iv v11),(20,.bool (decide ((w64 (v_size3+(x2.length:Int)))<0)))] ?_
   rcases bool_cases (decide ((w64 (v_size3+(x2.length:Int)))<0)) with hb3 | hb3
   ·replace heq:=bif_true hb3 heq
    refine Ct (decide ((w64 (v_size3+(x2.length:Int)))<0)) hb3 ?_
    cases heq
   ·replace heq:=bif_false hb3 heq
    refine Cf (decide ((w64 (v_size3+(x2.length:Int)))<0)) hb3<|Ad 2 [.c [1,1,0,1,0,0,1,1,1],.l [1,1,0,1,0,0],.b 0,.c [1,1,1]]<|Kp [0,3,9,10,11] [(0,.slice Aa0 a0.length ca0),(3,iv (w64 (v_size3+(x2.length:Int)))),(9,.slice Aa0 a0.length ca0),(10,iv (a0.length:Int)),(11,iv v11)] ?_
    exact (slices_Concat_string.j5_c (backl4:=(slices_Concat_string.l4 e1 k)) ihk) a0 _ _ v_size3 v11 x2 hra0 hca0 heq
  ·replace heq:=bif_false hb2 heq
   refine Cf (decide (v11<(a0.length:Int))) hb2<|Ad 2 [.c [1,1,1,0],.c [1,1,1,1]]<|Kp [0,3] [(0,.slice Aa0 a0.length ca0),(3,iv v_size3)] ?_
   exact he1 a0 _ _ v_size3 hra0 hca0 heq
theorem slices_Concat_string_c {w0:World} [GlobI 0 w0] {H:Hp} {F:List Ch} {a0:List (List ByteArray)} {Aa0:Option Addr} {na0:Nat} {ca0:Nat} {r:(List ByteArray)} (hra0:Rw (Kd.slice Kd.string) H F Aa0 a0) (hca0:na0≤ca0) (hna0:na0=a0.length) (heq:slices_Concat_string.f a0=some r):CallsH Tryd.prog 7 #[.slice Aa0 na0 ca0] H w0 (F) (S7 F H r):=by
 refine calls_of_runH (F:=C7) Tryd.func7 (by kernel_rfl) Tryd.ntmps7 (args:=[.slice Aa0 na0 ca0]) (by kernel_rfl) ?_
 subst hna0
 unfold slices_Concat_string.f at heq
 refine Ra 1 [0] [.c [1]]<|Rd 1 [0] [(0,.slice Aa0 a0.length ca0)]<|Ra 1 [1,0] [.c [1,1]]<|Rd 1 [0,3] [(0,.slice Aa0 a0.length ca0),(3,iv 0)]<|Ra 2 [1,1,0,0] [.c [1,1,0,1],.c [1,1,1]]<|Rd 3 [0,3,9,10,11] [(0,.slice Aa0 a0.length ca0),(3,iv 0),(9,.slice Aa0 a0.length ca0),(10,iv (a0.length:Int)),(11,iv 0)]<|Ad 2 [.c [1,1,0,1,0,0],.l [1,1,0,1,0,0],.b 0,.c [1,1,1]]<|Kp [0,3,9,10,11] [(0,.slice Aa0 a0.length ca0),(3,iv 0),(9,.slice Aa0 a0.length ca0),(10,iv (a0.length:Int)),(11,iv 0)] ?_
 exact ((slices_Concat_string.l4_c (e1:=slices_Concat_string.e1) (slices_Concat_string.e1_c)) big) a0 _ _ 0 0 hra0 hca0 heq
def S8 (F:List Ch) (H0:Hp) (Aa0:Option Addr) (ca0:Nat) (la0:Nat) (r:List ByteArray) (v:Value) (H:Hp) (cs:List Ch):Prop:=∃ (ch0:Ch),H0=H∧v=.tuple #[]∧ch0::F=cs∧SlOwn Kd.string 9 H Aa0 ca0 r ch0∧la0=r.length
theorem slices_Sort_string_c {w0:World} [GlobI 0 w0] {H:Hp} {F:List Ch} {a0:List ByteArray} {Aa0:Option Addr} {na0 ca0:Nat} {cha0:Ch} {r:List ByteArray} (hoa0:SlOwn Kd.string 9 H Aa0 ca0 a0 cha0) (hna0:na0=a0.length) (heq:slices_Sort_string.f a0=some r):CallsH Tryd.prog 8 #[.slice Aa0 na0 ca0] H w0 (cha0::F) (S8 F H Aa0 ca0 na0 r):=by
 intro w hh
 unfold slices_Sort_string.f at heq
 obtain ⟨hn,heq⟩:=guard?_some heq
 obtain rfl:=Option.some.inj heq
 subst hna0
 refine (sort_calls (F:=F) (w0:=w0) Shelf.Tryd.slices_Sort_string Shelf.Tryd.slices_Sort_string_none hoa0 (of_decide_eq_true hn) w hh).mono ?_
 rintro e w' ⟨v,rfl,H',cs',hle,hh',ch',rfl,hv,rfl,ho⟩
 exact ⟨_,rfl,_,_,hle,hh',ch',rfl,hv,rfl,ho,(sortB_length a0).symm⟩
def S10 (F:List Ch) (H0:Hp) (r:List ByteArray) (v:Value) (H:Hp) (cs:List Ch):Prop:=∃ (A0:Option Addr) (c0:Nat) (ch0:Ch),H0=H∧v=.slice A0 r.length c0∧ch0::F=cs∧SlOwn Kd.string 9 H A0 c0 r ch0
theorem slices_Compact_string_c {w0:World} [GlobI 0 w0] {H:Hp} {F:List Ch} {a0:List ByteArray} {Aa0:Option Addr} {na0 ca0:Nat} {cha0:Ch} {r:List ByteArray} (hoa0:SlOwn Kd.string 9 H Aa0 ca0 a0 cha0) (hna0:na0=a0.length) (heq:slices_Compact_string.f a0=some r):CallsH Tryd.prog 10 #[.slice Aa0 na0 ca0] H w0 (cha0::F) (S10 F H r):=by
 unfold slices_Compact_string.f at heq
 obtain ⟨hn,heq⟩:=guard?_some heq
 obtain rfl:=Option.some.inj heq
 subst hna0
 exact compact_calls (F:=F) (w0:=w0) Shelf.Tryd.slices_Compact_string Shelf.Tryd.slices_Compact_string_empty hoa0 (of_decide_eq_true hn)
noncomputable def C9:Ctx:={ P:=Tryd.prog,f:=9,N:=26,c:=bodyOf Tryd.f9 }
def S9 (F:List Ch) (H0:Hp) (r:Bool) (v:Value) (H:Hp) (cs:List Ch):Prop:=H0=H∧v=.bool r∧F=cs
theorem slices_Equal_string.e1_c {w0:World} [GlobI 0 w0] {H:Hp} {F:List Ch} {r:Bool}:slices_Equal_string.e1=some r→RunH C9 (S9 F H r) H w0 [.c [1,1,1,0],.c [1,1,1,1]] [] H (F):=by
 intro   heq
 unfold slices_Equal_string.e1 at heq
 refine Rr<|Rd 1 [4] [(4,.bool true)] ?_
 obtain rfl:=Option.some.inj heq
 exact RunH.done (by kernel_rfl) Tryd.func9 (v:=.bool true) (by kernel_rfl) ⟨rfl,rfl,rfl⟩
theorem slices_Equal_string.l2_c {w0:World} [GlobI 0 w0] {H:Hp} {F:List Ch} {r:Bool} (e1:Option Bool)
  (he1:e1=some r→RunH C9 (S9 F H r) H w0 [.c [1,1,1,0],.c [1,1,1,1]] [] H (F)):∀ (k:Nat),∀ (a0:List ByteArray) (Aa0:Option Addr) (ca0:Nat) (a1:List ByteArray) (Aa1:Option Addr) (ca1:Nat) (v13:Int) ,Rw Kd.string H F Aa0 a0→a0.length≤ca0→Rw Kd.string H F Aa1 a1→a1.length≤ca1→slices_Equal_string.l2 e1 k a0 a1 v13=some r→RunH C9 (S9 F H r) H w0 [.c [1,1,0,1,0,0],.l [1,1,0,1,0,0],.b 0,.c [1,1,1]] [(0,.slice Aa0 a0.length ca0),(1,.slice Aa1 a1.length ca1),(12,iv (a0.length:Int)),(13,iv v13)] H (F):=by
 intro k
 induction k with
 | zero=>intro a0 Aa0 ca0 a1 Aa1 ca1 v13 hra0 hca0 hra1 hca1 heq; exact nomatch (show (none:Option Bool)=some r from heq)
 | succ k ihk =>
  intro a0 Aa0 ca0 a1 Aa1 ca1 v13 hra0 hca0 hra1 hca1 heq
  rw [slices_Equal_string.l2] at heq
  refine Ra 1 [1,1,0,1,0,0,0] [.c [1,1,0,1,0,0,1],.l [1,1,0,1,0,0],.b 0,.c [1,1,1]]<|Rd 1 [0,1,12,13,14] [(0,.slice Aa0 a0.length ca0),(1,.slice Aa1 a1.length ca1),(12,iv (a0.length:Int)),(13,iv v13),(14,.bool (decide (v13<(a0.length:Int))))]<|Ad 1 [.c [1,1,0,1,0,0,1,0],.c [1,1,0,1,0,0,1,1],.l [1,1,0,1,0,0],.b 0,.c [1,1,1]] ?_
  rcases bool_cases (decide (v13<(a0.length:Int))) with hb2 | hb2
  ·replace heq:=bif_true hb2 heq
   refine Ct (decide (v13<(a0.length:Int))) hb2<|Ra 4 [1,1,0,1,0,0,1,1,0,0,0] [.c [1,1,0,1,0,0,1,1,0,0,1],.b 1,.c [1,1,0,1,0,0,1,1,1],.l [1,1,0,1,0,0],.b 0,.c [1,1,1]]<|Rd 2 [0,1,5,12,13] [(0,.slice Aa0 a0.length ca0),(1,.slice Aa1 a1.length ca1),(5,iv v13),(12,iv (a0.length:Int)),(13,iv v13)]<|Ad 1 [.c [1,1,0,1,0,0,1,1,0,0,1,0],.c [1,1,0,1,0,0,1,1,0,0,1,1],.b 1,.c [1,1,0,1,0,0,1,1,1],.l [1,1,0,1,0,0],.b 0,.c [1,1,1]]<|Kp [0,1,5,12,13] [(0,.slice Aa0 a0.length ca0),(1,.slice Aa1 a1.length ca1),(5,iv v13),(12,iv (a0.length:Int)),(13,iv v13)] ?_
   refine RunH.draw (fun w=>Heap H w0 w (F)) (fun w=>Heap H w0 w (F)) [3,3,3,3,3,3,3,3,3] (n:=9) (ls:=[false,false,false,false,false,false,false,false,false]) (by kernel_rfl) (by kernel_rfl) (by kernel_rfl) rfl ?_
   obtain ⟨x1,hx1,heq⟩:=bind_some heq
   obtain ⟨ha1,cs1,hK1,hcc1⟩:=hra0.get hx1
   obtain rfl:cs1=[.string x1]:=hK1
   obtain ⟨x2,hx2,heq⟩:=bind_some heq
   obtain ⟨ha2,cs2,hK2,hcc2⟩:=hra1.get hx2
   obtain rfl:cs2=[.string x2]:=hK2
   refine Dk [0,1,2,3,4,5,6,7,8] 0 (nb 9 511) [.string x1,.string x2] [.need (Aa0=some (adr Aa0)∧(0:Int)≤v13∧v13<((a0.length:Nat):Int)),.load ((adr Aa0).add (v13.toNat*1)) (.string x1),.need (Aa1=some (adr Aa1)∧(0:Int)≤v13∧v13<((a1.length:Nat):Int)),.load ((adr Aa1).add (v13.toNat*1)) (.string x2)] [0,1,12,13,24] [(0,.slice Aa0 a0.length ca0),(1,.slice Aa1 a1.length ca1),(12,iv (a0.length:Int)),(13,iv v13),(24,.bool (!sEq x1 x2))] (Pk 0 []) (Pk 0 []) (fun w hh=>⟨⟨ha1,(at?_some hx1).1,(at?_some hx1).2.1⟩,(hcc1 _ _ (hh.drop 0) 0 _ rfl),⟨ha2,(at?_some hx2).1,(at?_some hx2).2.1⟩,(hcc2 _ _ (hh.drop 0) 0 _ rfl)⟩) ?_
   refine DrH.done (by kernel_rfl) ?_
   rcases bool_cases (!sEq x1 x2) with hb3 | hb3
   ·replace heq:=bif_true hb3 heq
    refine Ct (!sEq x1 x2) hb3<|Ra 1 [1,1,0,1,0,0,1,1,0,0,1,1,0,0] [.c [1,1,0,1,0,0,1,1,0,0,1,1,0,1],.b 1,.c [1,1,0,1,0,0,1,1,1],.l [1,1,0,1,0,0],.b 0,.c [1,1,1]]<|Rd 1 [4] [(4,.bool false)] ?_
    obtain rfl:=Option.some.inj heq
    exact RunH.done (by kernel_rfl) Tryd.func9 (v:=.bool false) (by kernel_rfl) ⟨rfl,rfl,rfl⟩
   ·replace heq:=bif_false hb3 heq
    refine Cf (!sEq x1 x2) hb3<|Ra 2 [1,1,0,1,0,0,1,1,1] [.l [1,1,0,1,0,0],.b 0,.c [1,1,1]]<|Rd 2 [0,1,12,13] [(0,.slice Aa0 a0.length ca0),(1,.slice Aa1 a1.length ca1),(12,iv (a0.length:Int)),(13,iv (w64 (v13+1)))]<|Ad 1 [.c [1,1,0,1,0,0],.l [1,1,0,1,0,0],.b 0,.c [1,1,1]]<|Kp [0,1,12,13] [(0,.slice Aa0 a0.length ca0),(1,.slice Aa1 a1.length ca1),(12,iv (a0.length:Int)),(13,iv (w64 (v13+1)))] ?_
    exact ihk a0 _ _ a1 _ _ (w64 (v13+1)) hra0 hca0 hra1 hca1 heq
  ·replace heq:=bif_false hb2 heq
   refine Cf (decide (v13<(a0.length:Int))) hb2<|Ad 2 [.c [1,1,1,0],.c [1,1,1,1]]<|Kp [] [] ?_
   exact he1 heq
theorem slices_Equal_string_c {w0:World} [GlobI 0 w0] {H:Hp} {F:List Ch} {a0:List ByteArray} {Aa0:Option Addr} {na0:Nat} {ca0:Nat} {a1:List ByteArray} {Aa1:Option Addr} {na1:Nat} {ca1:Nat} {r:Bool} (hra0:Rw Kd.string H F Aa0 a0) (hca0:na0≤ca0) (hna0:na0=a0.length) (hra1:Rw Kd.string H F Aa1 a1) (hca1:na1≤ca1) (hna1:na1=a1.length) (heq:slices_Equal_string.f a0 a1=some r):CallsH Tryd.prog 9 #[.slice Aa0 na0 ca0,.slice Aa1 na1 ca1] H w0 (F) (S9 F H r):=by
 refine calls_of_runH (F:=C9) Tryd.func9 (by kernel_rfl) Tryd.ntmps9 (args:=[.slice Aa0 na0 ca0,.slice Aa1 na1 ca1]) (by kernel_rfl) ?_
 subst hna0
 subst hna1
 unfold slices_Equal_string.f at heq
 refine Ra 1 [0] [.c [1]]<|Rd 1 [0,1] [(0,.slice Aa0 a0.length ca0),(1,.slice Aa1 a1.length ca1)]<|Ra 2 [1,0,0] [.c [1,0,1],.c [1,1]]<|Rd 5 [0,1,10] [(0,.slice Aa0 a0.length ca0),(1,.slice Aa1 a1.length ca1),(10,.bool ((a0.length:Int) != (a1.length:Int)))] ?_
 rcases bool_cases ((a0.length:Int) != (a1.length:Int)) with hb1 | hb1
 ·replace heq:=bif_true hb1 heq
  refine Ct ((a0.length:Int) != (a1.length:Int)) hb1<|Ra 1 [1,0,1,0,0] [.c [1,0,1,0,1],.c [1,1]]<|Rd 1 [4] [(4,.bool false)] ?_
  obtain rfl:=Option.some.inj heq
  exact RunH.done (by kernel_rfl) Tryd.func9 (v:=.bool false) (by kernel_rfl) ⟨rfl,rfl,rfl⟩
 ·replace heq:=bif_false hb1 heq
  refine Cf ((a0.length:Int) != (a1.length:Int)) hb1<|Ra 3 [1,1,0,0] [.c [1,1,0,1],.c [1,1,1]]<|Rd 3 [0,1,12,13] [(0,.slice Aa0 a0.length ca0),(1,.slice Aa1 a1.length ca1),(12,iv (a0.length:Int)),(13,iv 0)]<|Ad 2 [.c [1,1,0,1,0,0],.l [1,1,0,1,0,0],.b 0,.c [1,1,1]]<|Kp [0,1,12,13] [(0,.slice Aa0 a0.length ca0),(1,.slice Aa1 a1.length ca1),(12,iv (a0.length:Int)),(13,iv 0)] ?_
  exact ((slices_Equal_string.l2_c (e1:=slices_Equal_string.e1) (slices_Equal_string.e1_c)) big) a0 _ _ a1 _ _ 0 hra0 hca0 hra1 hca1 heq
noncomputable def C3:Ctx:={ P:=Tryd.prog,f:=3,N:=67,c:=bodyOf Tryd.f3 }
def S3 (F:List Ch) (H0:Hp) (r:Bool) (v:Value) (H:Hp) (cs:List Ch):Prop:=v=.bool r∧F=cs
theorem smithyardlaw10_TrialsAffectedByParts_c {w0:World} [GlobI 0 w0] {H0:Hp} {F:List Ch} {a0:List TestReads} {Aa0:Option Addr} {na0:Nat} {ca0:Nat} {a1:List TreeChange} {Aa1:Option Addr} {na1:Nat} {ca1:Nat} {a2:Int} {r:Bool} (hra0:Rw kTestReads H0 F Aa0 a0) (hca0:na0≤ca0) (hna0:na0=a0.length) (hra1:Rw kTreeChange H0 F Aa1 a1) (hca1:na1≤ca1) (hna1:na1=a1.length) (heq:smithyardlaw10_TrialsAffectedByParts.f a0 a1 a2=some r):CallsH Tryd.prog 3 #[.slice Aa0 na0 ca0,.slice Aa1 na1 ca1,iv a2] H0 w0 (F) (S3 F H0 r):=by
 refine calls_of_runH (F:=C3) Tryd.func3 (by kernel_rfl) Tryd.ntmps3 (args:=[.slice Aa0 na0 ca0,.slice Aa1 na1 ca1,iv a2]) (by kernel_rfl) ?_
 subst hna0
 subst hna1
 unfold smithyardlaw10_TrialsAffectedByParts.f at heq
 suffices key:∀ (H:Hp),Rw kTestReads H F Aa0 a0→Rw kTreeChange H F Aa1 a1→RunH C3 (S3 F H0 r) H0 w0 [.c []] (argL 0 [.slice Aa0 (a0.length) ca0,.slice Aa1 (a1.length) ca1,iv a2]) H (F) from key H0 hra0 hra1
 intro H hra0 hra1
 refine Ra 1 [0] [.c [1]]<|Rd 1 [0,1,2] [(0,.slice Aa0 a0.length ca0),(1,.slice Aa1 a1.length ca1),(2,iv a2)]<|Ra 1 [1,0] [.c [1,1]]<|Rk 2 [0,1,2,14,15] [(0,.slice Aa0 a0.length ca0),(1,.slice Aa1 a1.length ca1),(2,iv a2),(14,.slice Aa0 a0.length ca0),(15,.slice Aa1 a1.length ca1)] ?_
 obtain ⟨y1,hy1,heq⟩:=bind_some heq
 refine RgH.does (DoesH.call (d:=16) (g:=4) (args:=#[.slice Aa0 a0.length ca0,.slice Aa1 a1.length ca1]) (by kernel_rfl) (trials_Affected_c (a0:=a0) (a1:=a1) hra0 hca0 rfl hra1 hca1 rfl hy1)) ?_
 rintro _ _ _ _ ⟨_,rfl,A1,c1,ch1,rfl,rfl,rfl,ho1⟩
 refine Rd 8 [0,1,2,7,8] [(0,.slice Aa0 a0.length ca0),(1,.slice Aa1 a1.length ca1),(2,iv a2),(7,.slice A1 y1.1.length c1),(8,iv y1.2)]<|Ra 2 [1,1,0,0] [.c [1,1,0,1],.c [1,1,1]]<|Rd 2 [0,1,2,7,20] [(0,.slice Aa0 a0.length ca0),(1,.slice Aa1 a1.length ca1),(2,iv a2),(7,.slice A1 y1.1.length c1),(20,.bool (y1.2 != 0))] ?_
 rcases bool_cases (y1.2 != 0) with hb1 | hb1
 ·replace heq:=bif_true hb1 heq
  refine Ct (y1.2 != 0) hb1<|Ad 1 [.c [1,1,0,1,0,0],.c [1,1,0,1,0,1],.c [1,1,1]] ?_
  obtain ⟨t1,ht1,heq⟩:=bind_some heq
  have K2:∀ (H:Hp),RunH C3 (S3 F H0 r) H0 w0 [.c [1,1,0,1,0,1],.c [1,1,1]] [(6,.bool t1)] H (F):=by
   intro H
   obtain rfl:=Option.some.inj heq
   exact RunH.done (by kernel_rfl) Tryd.func3 (v:=.bool t1) (by kernel_rfl) ⟨rfl,rfl⟩
  replace heq:=ht1
  refine Rr<|Rk 4 [24] [(24,.bool ((y1.1.length:Int) == 0))] ?_
  rcases bool_cases ((y1.1.length:Int) == 0) with hb2 | hb2
  ·replace heq:=bif_true hb2 heq
   refine RgH.val1 (v':=.bool true) (congrArg Value.bool hb2) ?_
   obtain ⟨y2,hy2,heq⟩:=bind_some heq
   refine RgH.does (DoesH.call (d:=25) (g:=5) (args:=(List.toArray [])) (by kernel_rfl) (smithyardlaw10_awake_c  hy2)) ?_
   rintro _ _ _ _ ⟨_,rfl,rfl,rfl,rfl⟩
   refine Rk 7 [6] [(6,.bool y2)] ?_
   obtain rfl:=Option.some.inj heq
   refine Kg [6] [(6,.bool y2)] ?_
   refine RgH.pick 1 [] (cs':=F) (by kernel_rfl) rfl ?_
   refine Dn ?_
   exact K2 _
  ·replace heq:=bif_false hb2 heq
   refine RgH.val1 (v':=.bool false) (congrArg Value.bool hb2) ?_
   refine Rk 7 [6] [(6,.bool false)] ?_
   obtain rfl:=Option.some.inj heq
   refine Kg [6] [(6,.bool false)] ?_
   refine RgH.pick 1 [] (cs':=F) (by kernel_rfl) rfl ?_
   refine Dn ?_
   exact K2 _
 ·replace heq:=bif_false hb1 heq
  refine Cf (y1.2 != 0) hb1<|Ra 2 [1,1,1,0] [.c [1,1,1,1]]<|Rk 4 [0,1,7,27,30] [(0,.slice Aa0 a0.length ca0),(1,.slice Aa1 a1.length ca1),(7,.slice A1 y1.1.length c1),(27,iv a2),(30,iv (w64 ((a1.length:Int)+1)))] ?_
  obtain ⟨y3,hy3,heq⟩:=bind_some heq
  refine RgH.does (DoesH.call (d:=31) (g:=6) (args:=#[iv a2,iv (w64 ((a1.length:Int)+1))]) (by kernel_rfl) (smithyardref10_Below_c (a0:=a2) (a1:=w64 ((a1.length:Int)+1))  hy3)) ?_
  rintro _ _ _ _ ⟨_,rfl,rfl,rfl,rfl⟩
  refine Rd 6 [0,1,2,7] [(0,.slice Aa0 a0.length ca0),(1,.slice Aa1 a1.length ca1),(2,iv y3),(7,.slice A1 y1.1.length c1)]<|Ra 1 [1,1,1,1,0] [.c [1,1,1,1,1]] ?_
  obtain ⟨hn2,heq⟩:=guard?_some heq
  have hn1:y3.toNat=(a1.take y3.toNat).length:=by have h1:=both_of hn2; have h3:=trivial; (try simp); (try omega)
  have hr1:=Rw.take hra1 y3.toNat
  have hc1:y3.toNat≤ca1:=by have h2:=hca1; have h1:=both_of hn2; omega
  refine Rv 4 [0,1,2,7,33,36] [] [.need ((0:Int)≤y3∧y3≤((ca1:Nat):Int))] [(0,.slice Aa0 a0.length ca0),(1,.slice Aa1 a1.length ca1),(2,iv y3),(7,.slice A1 y1.1.length c1),(33,.slice Aa0 a0.length ca0),(36,.slice Aa1 y3.toNat ca1)] (fun w hh=>⟨(both_of hn2).1,(by have h1:=(both_of hn2).2; have h2:=hca1; have h3:=trivial; omega)⟩) ?_
  obtain ⟨y4,hy4,heq⟩:=bind_some heq
  refine RgH.does (DoesH.call (d:=37) (g:=4) (args:=#[.slice Aa0 a0.length ca0,.slice Aa1 y3.toNat ca1]) (by kernel_rfl) (trials_Affected_c (a0:=a0) (a1:=(a1.take y3.toNat)) (hra0.wk (fun _ h=>(.tail _ h))) hca0 rfl (hr1.wk (fun _ h=>(.tail _ h))) hc1 hn1 hy4)) ?_
  rintro _ _ _ _ ⟨_,rfl,A2,c2,ch2,rfl,rfl,rfl,ho2⟩
  refine Rd 10 [0,1,2,7,8,9] [(0,.slice Aa0 a0.length ca0),(1,.slice Aa1 a1.length ca1),(2,iv y3),(7,.slice A1 y1.1.length c1),(8,iv y4.2),(9,.slice A2 y4.1.length c2)]<|Ra 1 [1,1,1,1,1,0] [.c [1,1,1,1,1,1]] ?_
  obtain ⟨hn4,heq⟩:=guard?_some heq
  have hn3:a1.length - y3.toNat=(a1.drop y3.toNat).length:=by have h1:=both_of hn4; have h3:=trivial; (try simp); (try omega)
  have hr2:=Rw.drop hra1 y3.toNat ca1 (by have h2:=hca1; have h3:=trivial; omega)
  have hc2:a1.length - y3.toNat≤ca1 - y3.toNat:=by have h2:=hca1; have h1:=both_of hn4; omega
  refine Rv 4 [7,8,9,41,44] [] [.need ((0:Int)≤y3∧y3≤((a1.length:Nat):Int))] [(7,.slice A1 y1.1.length c1),(8,iv y4.2),(9,.slice A2 y4.1.length c2),(41,.slice Aa0 a0.length ca0),(44,.slice (shiftA ca1 y3.toNat 2 Aa1) (a1.length - y3.toNat) (ca1 - y3.toNat))] (fun w hh=>(both_of hn4)) ?_
  obtain ⟨y5,hy5,heq⟩:=bind_some heq
  refine RgH.does (DoesH.call (d:=45) (g:=4) (args:=#[.slice Aa0 a0.length ca0,.slice (shiftA ca1 y3.toNat 2 Aa1) (a1.length - y3.toNat) (ca1 - y3.toNat)]) (by kernel_rfl) (trials_Affected_c (a0:=a0) (a1:=(a1.drop y3.toNat)) (hra0.wk (fun _ h=>(.tail _ (.tail _ h)))) hca0 rfl (hr2.wk (fun _ h=>(.tail _ (.tail _ h)))) hc2 hn3 hy5)) ?_
  rintro _ _ _ _ ⟨_,rfl,A3,c3,ch3,rfl,rfl,rfl,ho3⟩
  refine Rd 10 [7,8,9,10,11] [(7,.slice A1 y1.1.length c1),(8,iv y4.2),(9,.slice A2 y4.1.length c2),(10,.slice A3 y5.1.length c3),(11,iv y5.2)]<|Ad 2 [.c [1,1,1,1,1,1,0,0],.c [1,1,1,1,1,1,0,1],.c [1,1,1,1,1,1,1]] ?_
  obtain ⟨t2,ht2,heq⟩:=bind_some heq
  have K5:∀ (H:Hp),SlOwn Kd.string 9 H A1 c1 y1.1 ch1→SlOwn Kd.string 9 H A2 c2 y4.1 ch2→SlOwn Kd.string 9 H A3 c3 y5.1 ch3→RunH C3 (S3 F H0 r) H0 w0 [.c [1,1,1,1,1,1,0,1],.c [1,1,1,1,1,1,1]] [(7,.slice A1 y1.1.length c1),(9,.slice A2 y4.1.length c2),(10,.slice A3 y5.1.length c3),(53,.bool t2)] H (ch3::ch2::ch1::F):=by
   intro H ho1 ho2 ho3
   rcases bool_cases (t2) with hb4 | hb4
   ·replace heq:=bif_true hb4 heq
    refine Ct t2 hb4<|Ra 1 [1,1,1,1,1,1,0,1,0,0] [.c [1,1,1,1,1,1,0,1,0,1],.c [1,1,1,1,1,1,1]]<|Rd 1 [6] [(6,.bool false)] ?_
    obtain rfl:=Option.some.inj heq
    refine RunH.pick 3 [] (cs':=F) (by kernel_rfl) rfl ?_
    exact RunH.done (by kernel_rfl) Tryd.func3 (v:=.bool false) (by kernel_rfl) ⟨rfl,rfl⟩
   ·replace heq:=bif_false hb4 heq
    refine Cf t2 hb4<|Ra 2 [1,1,1,1,1,1,1,0] [.c [1,1,1,1,1,1,1,1]]<|Rk 2 [7,54,55] [(7,.slice A1 y1.1.length c1),(54,.slice A2 y4.1.length c2),(55,.slice A3 y5.1.length c3)] ?_
    refine RgH.pick 3 [1,0,2] (cs':=ch2::ch3::ch1::F) (by kernel_rfl) rfl ?_
    have hc3:=ho2.cap
    refine Hs.freezeS ho2 (fun H hl hr3=>?_)
    replace ho1:=ho1.mono hl
    replace ho3:=ho3.mono hl
    have hc4:=ho3.cap
    refine Hs.freezeS ho3 (fun H hl hr4=>?_)
    replace ho1:=ho1.mono hl
    replace hr3:=hr3.mono hl
    refine RgH.does (DoesH.new (d:=56) (v:=fun g=>.slice (some ⟨g,0,none⟩) 2 2) (o:=fun g=>.cells #[.slice A2 y4.1.length c2,.slice A3 y5.1.length c3] 24 (0,0)) (fun g=>by kernel_rfl)) ?_
    rintro _ _ _ _ ⟨g1,rfl,rfl,rfl⟩
    have ho4:SlOwn (Kd.slice Kd.string) 24 H (some ⟨g1,0,none⟩) 2 ([y4.1,y5.1]:List (List ByteArray)) (some (g1,.cells #[.slice A2 y4.1.length c2,.slice A3 y5.1.length c3] 24 (0,0))):=SlOwn.lit (xs:=([y4.1,y5.1]:List (List ByteArray))) (by kernel_rfl) (Nat.le_of_ble_eq_true (by kernel_rfl)) (Rep.append rfl (Kd.Rep.oneS hc3 hr3) (Kd.Rep.oneS hc4 hr4))
    obtain ⟨y6,hy6,heq⟩:=bind_some heq
    refine RgH.does (DoesH.call (d:=57) (g:=7) (args:=#[.slice (some ⟨g1,0,none⟩) 2 2]) (by kernel_rfl) (slices_Concat_string_c (a0:=([y4.1,y5.1]:List (List ByteArray))) (ho4.rw (.head _)) ho4.cap rfl hy6)) ?_
    rintro _ _ _ _ ⟨_,rfl,A4,c4,ch4,rfl,rfl,rfl,ho5⟩
    refine Rd 5 [7,12] [(7,.slice A1 y1.1.length c1),(12,.slice A4 y6.length c4)]<|Ra 1 [1,1,1,1,1,1,1,1,0] [.c [1,1,1,1,1,1,1,1,1]]<|Rk 1 [7,12,58] [(7,.slice A1 y1.1.length c1),(12,.slice A4 y6.length c4),(58,.slice A4 y6.length c4)] ?_
    obtain ⟨y7,hy7,heq⟩:=bind_some heq
    refine RgH.does (DoesH.call (d:=59) (g:=8) (args:=#[.slice A4 y6.length c4]) (by kernel_rfl) (slices_Sort_string_c (a0:=y6) ho5 rfl hy7)) ?_
    rintro _ _ _ _ ⟨_,rfl,ch5,rfl,rfl,rfl,ho6,hn5⟩
    refine Dn<|Ad 1 [.c [1,1,1,1,1,1,1,1,1,0],.c [1,1,1,1,1,1,1,1,1,1]] ?_
    obtain ⟨t3,ht3,heq⟩:=bind_some heq
    have K9:∀ (H:Hp),RunH C3 (S3 F H0 r) H0 w0 [.c [1,1,1,1,1,1,1,1,1,1]] [(6,.bool t3)] H (F):=by
     intro H
     obtain rfl:=Option.some.inj heq
     exact RunH.done (by kernel_rfl) Tryd.func3 (v:=.bool t3) (by kernel_rfl) ⟨rfl,rfl⟩
    replace heq:=ht3
    refine Rr<|Rk 1 [7,60] [(7,.slice A1 y1.1.length c1),(60,.slice A4 y6.length c4)] ?_
    obtain ⟨y8,hy8,heq⟩:=bind_some heq
    refine RgH.does (DoesH.call (d:=61) (g:=10) (args:=#[.slice A4 y6.length c4]) (by kernel_rfl) (slices_Compact_string_c (a0:=y7) ho6 hn5 hy8)) ?_
    rintro _ _ _ _ ⟨_,rfl,A5,c5,ch6,rfl,rfl,rfl,ho7⟩
    refine Rk 3 [61,62] [(61,.slice A5 y8.length c5),(62,.slice A1 y1.1.length c1)] ?_
    obtain ⟨y9,hy9,heq⟩:=bind_some heq
    refine RgH.does (DoesH.call (d:=63) (g:=9) (args:=#[.slice A5 y8.length c5,.slice A1 y1.1.length c1]) (by kernel_rfl) (slices_Equal_string_c (a0:=y8) (a1:=y1.1) (ho7.rw (.head _)) ho7.cap rfl (ho1.rw (.tail _ (.tail _ (.head _)))) ho1.cap rfl hy9)) ?_
    rintro _ _ _ _ ⟨_,rfl,rfl,rfl,rfl⟩
    refine Rk 5 [64] [(64,.bool y9)] ?_
    rcases bool_cases (y9) with hb5 | hb5
    ·replace heq:=bif_true hb5 heq
     refine RgH.val1 (v':=.bool true) (congrArg Value.bool hb5) ?_
     obtain ⟨y10,hy10,heq⟩:=bind_some heq
     refine RgH.does (DoesH.call (d:=65) (g:=5) (args:=(List.toArray [])) (by kernel_rfl) (smithyardlaw10_awake_c  hy10)) ?_
     rintro _ _ _ _ ⟨_,rfl,rfl,rfl,rfl⟩
     refine Rk 8 [6] [(6,.bool y10)] ?_
     obtain rfl:=Option.some.inj heq
     refine Kg [6] [(6,.bool y10)] ?_
     refine RgH.pick 3 [] (cs':=F) (by kernel_rfl) rfl ?_
     refine Dn ?_
     exact K9 _
    ·replace heq:=bif_false hb5 heq
     refine RgH.val1 (v':=.bool false) (congrArg Value.bool hb5) ?_
     refine Rk 8 [6] [(6,.bool false)] ?_
     obtain rfl:=Option.some.inj heq
     refine Kg [6] [(6,.bool false)] ?_
     refine RgH.pick 3 [] (cs':=F) (by kernel_rfl) rfl ?_
     refine Dn ?_
     exact K9 _
  replace heq:=ht2
  refine Rr<|Rk 3 [50,7,9,10,11] [(50,.bool (y4.2 != 0)),(7,.slice A1 y1.1.length c1),(9,.slice A2 y4.1.length c2),(10,.slice A3 y5.1.length c3),(11,iv y5.2)] ?_
  rcases bool_cases (y4.2 != 0) with hb3 | hb3
  ·replace heq:=bif_true hb3 heq
   refine RgH.val1 (v':=.bool true) (congrArg Value.bool hb3) ?_
   refine Rk 6 [7,9,10,53] [(7,.slice A1 y1.1.length c1),(9,.slice A2 y4.1.length c2),(10,.slice A3 y5.1.length c3),(53,.bool true)] ?_
   obtain rfl:=Option.some.inj heq
   refine Kg [7,9,10,53] [(7,.slice A1 y1.1.length c1),(9,.slice A2 y4.1.length c2),(10,.slice A3 y5.1.length c3),(53,.bool true)]<|Dn ?_
   exact K5 _ ho1 ho2 ho3
  ·replace heq:=bif_false hb3 heq
   refine RgH.val1 (v':=.bool false) (congrArg Value.bool hb3) ?_
   refine Rk 6 [7,9,10,53] [(7,.slice A1 y1.1.length c1),(9,.slice A2 y4.1.length c2),(10,.slice A3 y5.1.length c3),(53,.bool (y5.2 != 0))] ?_
   obtain rfl:=Option.some.inj heq
   refine Kg [7,9,10,53] [(7,.slice A1 y1.1.length c1),(9,.slice A2 y4.1.length c2),(10,.slice A3 y5.1.length c3),(53,.bool (y5.2 != 0))]<|Dn ?_
   exact K5 _ ho1 ho2 ho3
end Go.Proofs.YtkgbgapheigjcaaDoor
