/- What the machine's calls of these functions come to: just what the plain functions say. Written by program. -/
import Derived.Test.YtikhlmaaokoehaaDoorProg
import Derived.Test.YtikhlmaaokoehaaDoorKitW
import Derived.Test.YtikhlmaaokoehaaDoorZD
import Derived.Test.YtikhlmaaokoehaaDoorShelf
import Derived.Test.YtikhlmaaokoehaaDoorKitZ
import Derived.WalkKit
set_option linter.unusedVariables false
set_option linter.unusedSimpArgs false
set_option maxRecDepth 100000
set_option maxHeartbeats 1000000
namespace Go.Proofs.YtikhlmaaokoehaaDoor
open Go Go.RowKit Go.Proofs.YtikhlmaaokoehaaDoor.Kit
def kTestRun:Kd TestRun:=Kd.iso ((Kd.pair Kd.string (Kd.pair Kd.string (Kd.pair (Kd.int .i64) (Kd.pair Kd.bool (Kd.int .i64)))))) (fun x=>(x.Test,x.Key,x.At,x.Pass,x.Seconds))
theorem kTestRun_open {H:Hp} {x:TestRun} {c:List Value} (h:kTestRun.K H x c):c=[.string x.Test,.string x.Key,iv x.At,.bool x.Pass,iv x.Seconds]:=by
 obtain ⟨p0,q0,rfl,g0,h0⟩:=h
 obtain rfl:p0=[_]:=g0
 obtain ⟨p1,q1,rfl,g1,h1⟩:=h0
 obtain rfl:p1=[_]:=g1
 obtain ⟨p2,q2,rfl,g2,h2⟩:=h1
 obtain rfl:p2=[_]:=g2
 obtain ⟨p3,q3,rfl,g3,h3⟩:=h2
 obtain rfl:p3=[_]:=g3
 obtain rfl:q3=[_]:=h3
 rfl
theorem kTestRun_mk {H:Hp} {x:TestRun}:kTestRun.K H x [.string x.Test,.string x.Key,iv x.At,.bool x.Pass,iv x.Seconds]:=⟨[.string x.Test],[.string x.Key,iv x.At,.bool x.Pass,iv x.Seconds],rfl,rfl,⟨[.string x.Key],[iv x.At,.bool x.Pass,iv x.Seconds],rfl,rfl,⟨[iv x.At],[.bool x.Pass,iv x.Seconds],rfl,rfl,⟨[.bool x.Pass],[iv x.Seconds],rfl,rfl,rfl⟩⟩⟩⟩
def S15 (F:List Ch) (H0:Hp) (r:List ByteArray) (v:Value) (H:Hp) (cs:List Ch):Prop:=∃ (A0:Option Addr) (c0:Nat) (ch0:Ch),H0=H∧v=.slice A0 r.length c0∧ch0::F=cs∧SlOwn Kd.string 9 H A0 c0 r ch0
theorem strings_Split_c {w0:World} [GlobI 0 w0] {H:Hp} {F:List Ch} {a0 a1:ByteArray} {r:List ByteArray} (heq:strings_Split.f a0 a1=some r):CallsH Tryd.prog 15 #[.string a0,.string a1] H w0 F (S15 F H r):=by
 intro w hh
 unfold strings_Split.f at heq
 obtain ⟨hn,heq⟩:=guard?_some heq
 obtain rfl:=Option.some.inj heq
 simp only [Bool.and_eq_true,decide_eq_true_eq] at hn
 obtain ⟨m,hm⟩:=GlobI.at (g:=0) hh
 refine (Shelf.Tryd.strings_Split a0 a1 m w hn.1 hm hn.2).mono ?_
 rintro e w' ⟨rfl,rfl⟩
 have hl:=Lib.splitB_all a1 hn.2 0 _ a0 rfl
 have hc:=Lib.countB_le a1 hn.2 a0.size a0 (Nat.le_refl _)
 obtain ⟨H',cs',hle,hh',A0,c0,ch0,rfl,hv,rfl,ho⟩:=split_post (e:=9) hh hl (by unfold maxLen; omega) rfl
 exact ⟨_,rfl,_,_,hle,hh',A0,c0,ch0,rfl,hv,rfl,ho⟩
def S55 (F:List Ch) (H0:Hp) (r:Int) (v:Value) (H:Hp) (cs:List Ch):Prop:=H0=H∧v=iv r∧F=cs
theorem strings_IndexByte_c {w0:World} [GlobI 0 w0] {H:Hp} {F:List Ch} {a0:ByteArray} {a1:Int} {r:Int} (heq:strings_IndexByte.f a0 a1=some r):CallsH Tryd.prog 55 #[.string a0,.int .u8 a1] H w0 F (S55 F H r):=by
 intro w hh
 unfold strings_IndexByte.f at heq
 obtain rfl:=Option.some.inj heq
 refine (Shelf.Tryd.strings_IndexByte a0 a1 w).mono ?_
 rintro e w' ⟨rfl,rfl⟩
 exact ⟨_,rfl,H,F,Le.refl H,hh,rfl,rfl,rfl⟩
noncomputable def C54:Ctx:={ P:=Tryd.prog,f:=54,N:=30,c:=bodyOf Tryd.f54 }
def S54 (F:List Ch) (H0:Hp) (r:Bool) (v:Value) (H:Hp) (cs:List Ch):Prop:=H0=H∧v=.bool r∧F=cs
theorem blob_inPart_c {w0:World} [GlobI 0 w0] {H:Hp} {F:List Ch} {a0:Int} {r:Bool} (heq:blob_inPart.f a0=some r):CallsH Tryd.prog 54 #[.int .u8 a0] H w0 (F) (S54 F H r):=by
 refine calls_of_runH (F:=C54) Tryd.func54 (by kernel_rfl) Tryd.ntmps54 (args:=[.int .u8 a0]) (by kernel_rfl) ?_
 unfold blob_inPart.f at heq
 refine Ra 1 [0] [.c [1]]<|Rd 1 [0] [(0,.int .u8 a0)]<|Ad 1 [.c [1,0],.c [1,1]] ?_
 obtain ⟨t1,ht1,heq⟩:=bind_some heq
 have K1:RunH C54 (S54 F H r) H w0 [.c [1,1]] [(2,.bool t1)] H (F):=by
  obtain rfl:=Option.some.inj heq
  exact RunH.done (by kernel_rfl) Tryd.func54 (v:=.bool t1) (by kernel_rfl) ⟨rfl,rfl,rfl⟩
 replace heq:=ht1
 refine Rr<|Rk 3 [5,0] [(5,.bool (decide (97≤a0))),(0,.int .u8 a0)] ?_
 rcases bool_cases (decide (97≤a0)) with hb1 | hb1
 ·replace heq:=bif_true hb1 heq
  refine RgH.val1 (v':=.bool true) (congrArg Value.bool hb1) ?_
  refine Rk 7 [9,0] [(9,.bool (decide (a0≤122))),(0,.int .u8 a0)] ?_
  rcases bool_cases (decide (a0≤122)) with hb2 | hb2
  ·replace heq:=bif_true hb2 heq
   refine RgH.val1 (v':=.bool true) (congrArg Value.bool hb2) ?_
   refine Rk 28 [2] [(2,.bool true)] ?_
   obtain rfl:=Option.some.inj heq
   refine Kg [2] [(2,.bool true)]<|Dn ?_
   exact K1
  ·replace heq:=bif_false hb2 heq
   refine RgH.val1 (v':=.bool false) (congrArg Value.bool hb2) ?_
   refine Rk 10 [12,0,9] [(12,.bool (decide (65≤a0))),(0,.int .u8 a0),(9,.bool false)] ?_
   rcases bool_cases (decide (65≤a0)) with hb3 | hb3
   ·replace heq:=bif_true hb3 heq
    refine RgH.val1 (v':=.bool true) (congrArg Value.bool hb3) ?_
    refine Rk 15 [17,0] [(17,.bool (decide (a0≤90))),(0,.int .u8 a0)] ?_
    rcases bool_cases (decide (a0≤90)) with hb4 | hb4
    ·replace heq:=bif_true hb4 heq
     refine RgH.val1 (v':=.bool true) (congrArg Value.bool hb4) ?_
     refine Rk 28 [2] [(2,.bool true)] ?_
     obtain rfl:=Option.some.inj heq
     refine Kg [2] [(2,.bool true)]<|Dn ?_
     exact K1
    ·replace heq:=bif_false hb4 heq
     refine RgH.val1 (v':=.bool false) (congrArg Value.bool hb4) ?_
     refine Rk 18 [20,0,17] [(20,.bool (decide (48≤a0))),(0,.int .u8 a0),(17,.bool false)] ?_
     rcases bool_cases (decide (48≤a0)) with hb5 | hb5
     ·replace heq:=bif_true hb5 heq
      refine RgH.val1 (v':=.bool true) (congrArg Value.bool hb5) ?_
      refine Rk 23 [25,0] [(25,.bool (decide (a0≤57))),(0,.int .u8 a0)] ?_
      rcases bool_cases (decide (a0≤57)) with hb6 | hb6
      ·replace heq:=bif_true hb6 heq
       refine RgH.val1 (v':=.bool true) (congrArg Value.bool hb6) ?_
       refine Rk 28 [2] [(2,.bool true)] ?_
       obtain rfl:=Option.some.inj heq
       refine Kg [2] [(2,.bool true)]<|Dn ?_
       exact K1
      ·replace heq:=bif_false hb6 heq
       refine RgH.val1 (v':=.bool false) (congrArg Value.bool hb6) ?_
       refine Rk 24 [25,26] [(25,.bool false),(26,.int .u8 a0)] ?_
       obtain ⟨y1,hy1,heq⟩:=bind_some heq
       refine RgH.does (DoesH.call (d:=27) (g:=55) (args:=#[.string ({ data:=#[46,95,45,43] }:ByteArray),.int .u8 a0]) (by kernel_rfl) (strings_IndexByte_c (a0:=({ data:=#[46,95,45,43] }:ByteArray)) (a1:=a0)  hy1)) ?_
       rintro _ _ _ _ ⟨_,rfl,rfl,rfl,rfl⟩
       refine Rk 28 [2] [(2,.bool (decide (0≤y1)))] ?_
       obtain rfl:=Option.some.inj heq
       refine Kg [2] [(2,.bool (decide (0≤y1)))]<|Dn ?_
       exact K1
     ·replace heq:=bif_false hb5 heq
      refine RgH.val1 (v':=.bool false) (congrArg Value.bool hb5) ?_
      refine Rk 24 [25,26] [(25,.bool false),(26,.int .u8 a0)] ?_
      obtain ⟨y2,hy2,heq⟩:=bind_some heq
      refine RgH.does (DoesH.call (d:=27) (g:=55) (args:=#[.string ({ data:=#[46,95,45,43] }:ByteArray),.int .u8 a0]) (by kernel_rfl) (strings_IndexByte_c (a0:=({ data:=#[46,95,45,43] }:ByteArray)) (a1:=a0)  hy2)) ?_
      rintro _ _ _ _ ⟨_,rfl,rfl,rfl,rfl⟩
      refine Rk 28 [2] [(2,.bool (decide (0≤y2)))] ?_
      obtain rfl:=Option.some.inj heq
      refine Kg [2] [(2,.bool (decide (0≤y2)))]<|Dn ?_
      exact K1
   ·replace heq:=bif_false hb3 heq
    refine RgH.val1 (v':=.bool false) (congrArg Value.bool hb3) ?_
    refine Rk 18 [20,0,17] [(20,.bool (decide (48≤a0))),(0,.int .u8 a0),(17,.bool false)] ?_
    rcases bool_cases (decide (48≤a0)) with hb7 | hb7
    ·replace heq:=bif_true hb7 heq
     refine RgH.val1 (v':=.bool true) (congrArg Value.bool hb7) ?_
     refine Rk 23 [25,0] [(25,.bool (decide (a0≤57))),(0,.int .u8 a0)] ?_
     rcases bool_cases (decide (a0≤57)) with hb8 | hb8
     ·replace heq:=bif_true hb8 heq
      refine RgH.val1 (v':=.bool true) (congrArg Value.bool hb8) ?_
      refine Rk 28 [2] [(2,.bool true)] ?_
      obtain rfl:=Option.some.inj heq
      refine Kg [2] [(2,.bool true)]<|Dn ?_
      exact K1
     ·replace heq:=bif_false hb8 heq
      refine RgH.val1 (v':=.bool false) (congrArg Value.bool hb8) ?_
      refine Rk 24 [25,26] [(25,.bool false),(26,.int .u8 a0)] ?_
      obtain ⟨y3,hy3,heq⟩:=bind_some heq
      refine RgH.does (DoesH.call (d:=27) (g:=55) (args:=#[.string ({ data:=#[46,95,45,43] }:ByteArray),.int .u8 a0]) (by kernel_rfl) (strings_IndexByte_c (a0:=({ data:=#[46,95,45,43] }:ByteArray)) (a1:=a0)  hy3)) ?_
      rintro _ _ _ _ ⟨_,rfl,rfl,rfl,rfl⟩
      refine Rk 28 [2] [(2,.bool (decide (0≤y3)))] ?_
      obtain rfl:=Option.some.inj heq
      refine Kg [2] [(2,.bool (decide (0≤y3)))]<|Dn ?_
      exact K1
    ·replace heq:=bif_false hb7 heq
     refine RgH.val1 (v':=.bool false) (congrArg Value.bool hb7) ?_
     refine Rk 24 [25,26] [(25,.bool false),(26,.int .u8 a0)] ?_
     obtain ⟨y4,hy4,heq⟩:=bind_some heq
     refine RgH.does (DoesH.call (d:=27) (g:=55) (args:=#[.string ({ data:=#[46,95,45,43] }:ByteArray),.int .u8 a0]) (by kernel_rfl) (strings_IndexByte_c (a0:=({ data:=#[46,95,45,43] }:ByteArray)) (a1:=a0)  hy4)) ?_
     rintro _ _ _ _ ⟨_,rfl,rfl,rfl,rfl⟩
     refine Rk 28 [2] [(2,.bool (decide (0≤y4)))] ?_
     obtain rfl:=Option.some.inj heq
     refine Kg [2] [(2,.bool (decide (0≤y4)))]<|Dn ?_
     exact K1
 ·replace heq:=bif_false hb1 heq
  refine RgH.val1 (v':=.bool false) (congrArg Value.bool hb1) ?_
  refine Rk 10 [12,0,9] [(12,.bool (decide (65≤a0))),(0,.int .u8 a0),(9,.bool false)] ?_
  rcases bool_cases (decide (65≤a0)) with hb9 | hb9
  ·replace heq:=bif_true hb9 heq
   refine RgH.val1 (v':=.bool true) (congrArg Value.bool hb9) ?_
   refine Rk 15 [17,0] [(17,.bool (decide (a0≤90))),(0,.int .u8 a0)] ?_
   rcases bool_cases (decide (a0≤90)) with hb10 | hb10
   ·replace heq:=bif_true hb10 heq
    refine RgH.val1 (v':=.bool true) (congrArg Value.bool hb10) ?_
    refine Rk 28 [2] [(2,.bool true)] ?_
    obtain rfl:=Option.some.inj heq
    refine Kg [2] [(2,.bool true)]<|Dn ?_
    exact K1
   ·replace heq:=bif_false hb10 heq
    refine RgH.val1 (v':=.bool false) (congrArg Value.bool hb10) ?_
    refine Rk 18 [20,0,17] [(20,.bool (decide (48≤a0))),(0,.int .u8 a0),(17,.bool false)] ?_
    rcases bool_cases (decide (48≤a0)) with hb11 | hb11
    ·replace heq:=bif_true hb11 heq
     refine RgH.val1 (v':=.bool true) (congrArg Value.bool hb11) ?_
     refine Rk 23 [25,0] [(25,.bool (decide (a0≤57))),(0,.int .u8 a0)] ?_
     rcases bool_cases (decide (a0≤57)) with hb12 | hb12
     ·replace heq:=bif_true hb12 heq
      refine RgH.val1 (v':=.bool true) (congrArg Value.bool hb12) ?_
      refine Rk 28 [2] [(2,.bool true)] ?_
      obtain rfl:=Option.some.inj heq
      refine Kg [2] [(2,.bool true)]<|Dn ?_
      exact K1
     ·replace heq:=bif_false hb12 heq
      refine RgH.val1 (v':=.bool false) (congrArg Value.bool hb12) ?_
      refine Rk 24 [25,26] [(25,.bool false),(26,.int .u8 a0)] ?_
      obtain ⟨y5,hy5,heq⟩:=bind_some heq
      refine RgH.does (DoesH.call (d:=27) (g:=55) (args:=#[.string ({ data:=#[46,95,45,43] }:ByteArray),.int .u8 a0]) (by kernel_rfl) (strings_IndexByte_c (a0:=({ data:=#[46,95,45,43] }:ByteArray)) (a1:=a0)  hy5)) ?_
      rintro _ _ _ _ ⟨_,rfl,rfl,rfl,rfl⟩
      refine Rk 28 [2] [(2,.bool (decide (0≤y5)))] ?_
      obtain rfl:=Option.some.inj heq
      refine Kg [2] [(2,.bool (decide (0≤y5)))]<|Dn ?_
      exact K1
    ·replace heq:=bif_false hb11 heq
     refine RgH.val1 (v':=.bool false) (congrArg Value.bool hb11) ?_
     refine Rk 24 [25,26] [(25,.bool false),(26,.int .u8 a0)] ?_
     obtain ⟨y6,hy6,heq⟩:=bind_some heq
     refine RgH.does (DoesH.call (d:=27) (g:=55) (args:=#[.string ({ data:=#[46,95,45,43] }:ByteArray),.int .u8 a0]) (by kernel_rfl) (strings_IndexByte_c (a0:=({ data:=#[46,95,45,43] }:ByteArray)) (a1:=a0)  hy6)) ?_
     rintro _ _ _ _ ⟨_,rfl,rfl,rfl,rfl⟩
     refine Rk 28 [2] [(2,.bool (decide (0≤y6)))] ?_
     obtain rfl:=Option.some.inj heq
     refine Kg [2] [(2,.bool (decide (0≤y6)))]<|Dn ?_
     exact K1
  ·replace heq:=bif_false hb9 heq
   refine RgH.val1 (v':=.bool false) (congrArg Value.bool hb9) ?_
   refine Rk 18 [20,0,17] [(20,.bool (decide (48≤a0))),(0,.int .u8 a0),(17,.bool false)] ?_
   rcases bool_cases (decide (48≤a0)) with hb13 | hb13
   ·replace heq:=bif_true hb13 heq
    refine RgH.val1 (v':=.bool true) (congrArg Value.bool hb13) ?_
    refine Rk 23 [25,0] [(25,.bool (decide (a0≤57))),(0,.int .u8 a0)] ?_
    rcases bool_cases (decide (a0≤57)) with hb14 | hb14
    ·replace heq:=bif_true hb14 heq
     refine RgH.val1 (v':=.bool true) (congrArg Value.bool hb14) ?_
     refine Rk 28 [2] [(2,.bool true)] ?_
     obtain rfl:=Option.some.inj heq
     refine Kg [2] [(2,.bool true)]<|Dn ?_
     exact K1
    ·replace heq:=bif_false hb14 heq
     refine RgH.val1 (v':=.bool false) (congrArg Value.bool hb14) ?_
     refine Rk 24 [25,26] [(25,.bool false),(26,.int .u8 a0)] ?_
     obtain ⟨y7,hy7,heq⟩:=bind_some heq
     refine RgH.does (DoesH.call (d:=27) (g:=55) (args:=#[.string ({ data:=#[46,95,45,43] }:ByteArray),.int .u8 a0]) (by kernel_rfl) (strings_IndexByte_c (a0:=({ data:=#[46,95,45,43] }:ByteArray)) (a1:=a0)  hy7)) ?_
     rintro _ _ _ _ ⟨_,rfl,rfl,rfl,rfl⟩
     refine Rk 28 [2] [(2,.bool (decide (0≤y7)))] ?_
     obtain rfl:=Option.some.inj heq
     refine Kg [2] [(2,.bool (decide (0≤y7)))]<|Dn ?_
     exact K1
   ·replace heq:=bif_false hb13 heq
    refine RgH.val1 (v':=.bool false) (congrArg Value.bool hb13) ?_
    refine Rk 24 [25,26] [(25,.bool false),(26,.int .u8 a0)] ?_
    obtain ⟨y8,hy8,heq⟩:=bind_some heq
    refine RgH.does (DoesH.call (d:=27) (g:=55) (args:=#[.string ({ data:=#[46,95,45,43] }:ByteArray),.int .u8 a0]) (by kernel_rfl) (strings_IndexByte_c (a0:=({ data:=#[46,95,45,43] }:ByteArray)) (a1:=a0)  hy8)) ?_
    rintro _ _ _ _ ⟨_,rfl,rfl,rfl,rfl⟩
    refine Rk 28 [2] [(2,.bool (decide (0≤y8)))] ?_
    obtain rfl:=Option.some.inj heq
    refine Kg [2] [(2,.bool (decide (0≤y8)))]<|Dn ?_
    exact K1
noncomputable def C35:Ctx:={ P:=Tryd.prog,f:=35,N:=25,c:=bodyOf Tryd.f35 }
def S35 (F:List Ch) (H0:Hp) (r:Bool) (v:Value) (H:Hp) (cs:List Ch):Prop:=H0=H∧v=.bool r∧F=cs
theorem blob_isPart.e1_c {w0:World} [GlobI 0 w0] {H:Hp} {F:List Ch} {r:Bool}:∀ (a0:ByteArray) ,blob_isPart.e1 a0=some r→RunH C35 (S35 F H r) H w0 [.c [1,1,0],.c [1,1,1]] [(0,.string a0)] H (F):=by
 intro a0  heq
 unfold blob_isPart.e1 at heq
 obtain ⟨t1,ht1,heq⟩:=bind_some heq
 have K1:RunH C35 (S35 F H r) H w0 [.c [1,1,1]] [(2,.bool t1)] H (F):=by
  obtain rfl:=Option.some.inj heq
  exact RunH.done (by kernel_rfl) Tryd.func35 (v:=.bool t1) (by kernel_rfl) ⟨rfl,rfl,rfl⟩
 replace heq:=ht1
 refine Rr<|Rk 3 [17,0] [(17,.bool (!sEq a0 ({ data:=#[] }:ByteArray))),(0,.string a0)] ?_
 rcases bool_cases (!sEq a0 ({ data:=#[] }:ByteArray)) with hb1 | hb1
 ·replace heq:=bif_true hb1 heq
  refine RgH.val1 (v':=.bool true) (congrArg Value.bool hb1) ?_
  refine Rk 7 [21,0] [(21,.bool (!sEq a0 ({ data:=#[46] }:ByteArray))),(0,.string a0)] ?_
  rcases bool_cases (!sEq a0 ({ data:=#[46] }:ByteArray)) with hb2 | hb2
  ·replace heq:=bif_true hb2 heq
   refine RgH.val1 (v':=.bool true) (congrArg Value.bool hb2) ?_
   refine Rk 11 [2] [(2,.bool (!sEq a0 ({ data:=#[46,46] }:ByteArray)))] ?_
   obtain rfl:=Option.some.inj heq
   refine Kg [2] [(2,.bool (!sEq a0 ({ data:=#[46,46] }:ByteArray)))]<|Dn ?_
   exact K1
  ·replace heq:=bif_false hb2 heq
   refine RgH.val1 (v':=.bool false) (congrArg Value.bool hb2) ?_
   refine Rk 11 [2] [(2,.bool false)] ?_
   obtain rfl:=Option.some.inj heq
   refine Kg [2] [(2,.bool false)]<|Dn ?_
   exact K1
 ·replace heq:=bif_false hb1 heq
  refine RgH.val1 (v':=.bool false) (congrArg Value.bool hb1) ?_
  refine Rk 11 [2] [(2,.bool false)] ?_
  obtain rfl:=Option.some.inj heq
  refine Kg [2] [(2,.bool false)]<|Dn ?_
  exact K1
theorem blob_isPart.l2_c {w0:World} [GlobI 0 w0] {H:Hp} {F:List Ch} {r:Bool} (e1:ByteArray→Option Bool)
  (he1:∀ (a0:ByteArray) ,e1 a0=some r→RunH C35 (S35 F H r) H w0 [.c [1,1,0],.c [1,1,1]] [(0,.string a0)] H (F)):∀ (k:Nat),∀ (a0:ByteArray) (v6:Int) ,blob_isPart.l2 e1 k a0 v6=some r→RunH C35 (S35 F H r) H w0 [.c [1,0,1,0,0],.l [1,0,1,0,0],.b 0,.c [1,1]] [(0,.string a0),(5,iv (a0.size:Int)),(6,iv v6)] H (F):=by
 intro k
 induction k with
 | zero=>intro a0 v6  heq; exact nomatch (show (none:Option Bool)=some r from heq)
 | succ k ihk =>
  intro a0 v6  heq
  rw [blob_isPart.l2] at heq
  refine Ra 1 [1,0,1,0,0,0] [.c [1,0,1,0,0,1],.l [1,0,1,0,0],.b 0,.c [1,1]]<|Rd 1 [0,5,6,7] [(0,.string a0),(5,iv (a0.size:Int)),(6,iv v6),(7,.bool (decide (v6<(a0.size:Int))))]<|Ad 1 [.c [1,0,1,0,0,1,0],.c [1,0,1,0,0,1,1],.l [1,0,1,0,0],.b 0,.c [1,1]] ?_
  rcases bool_cases (decide (v6<(a0.size:Int))) with hb3 | hb3
  ·replace heq:=bif_true hb3 heq
   refine Ct (decide (v6<(a0.size:Int))) hb3<|Ra 4 [1,0,1,0,0,1,1,0,0,0] [.c [1,0,1,0,0,1,1,0,0,1],.b 1,.c [1,0,1,0,0,1,1,1],.l [1,0,1,0,0],.b 0,.c [1,1]]<|Rd 2 [0,3,5,6] [(0,.string a0),(3,iv v6),(5,iv (a0.size:Int)),(6,iv v6)]<|Ra 1 [1,0,1,0,0,1,1,0,0,1,0] [.c [1,0,1,0,0,1,1,0,0,1,1],.b 1,.c [1,0,1,0,0,1,1,1],.l [1,0,1,0,0],.b 0,.c [1,1]] ?_
   obtain ⟨hn1,heq⟩:=guard?_some heq
   refine Rv 3 [0,5,6,11] [] [.need ((0:Int)≤v6∧v6<(a0.size:Int))] [(0,.string a0),(5,iv (a0.size:Int)),(6,iv v6),(11,.int .u8 (bt a0 v6))] (fun w hh=>(both_of hn1)) ?_
   obtain ⟨y1,hy1,heq⟩:=bind_some heq
   refine RgH.does (DoesH.call (d:=12) (g:=54) (args:=#[.int .u8 (bt a0 v6)]) (by kernel_rfl) (blob_inPart_c (a0:=bt a0 v6)  hy1)) ?_
   rintro _ _ _ _ ⟨_,rfl,rfl,rfl,rfl⟩
   refine Rd 5 [0,5,6,13] [(0,.string a0),(5,iv (a0.size:Int)),(6,iv v6),(13,.bool (!y1))] ?_
   rcases bool_cases (!y1) with hb4 | hb4
   ·replace heq:=bif_true hb4 heq
    refine Ct (!y1) hb4<|Ra 1 [1,0,1,0,0,1,1,0,0,1,1,0,0] [.c [1,0,1,0,0,1,1,0,0,1,1,0,1],.b 1,.c [1,0,1,0,0,1,1,1],.l [1,0,1,0,0],.b 0,.c [1,1]]<|Rd 1 [2] [(2,.bool false)] ?_
    obtain rfl:=Option.some.inj heq
    exact RunH.done (by kernel_rfl) Tryd.func35 (v:=.bool false) (by kernel_rfl) ⟨rfl,rfl,rfl⟩
   ·replace heq:=bif_false hb4 heq
    refine Cf (!y1) hb4<|Ra 2 [1,0,1,0,0,1,1,1] [.l [1,0,1,0,0],.b 0,.c [1,1]]<|Rd 2 [0,5,6] [(0,.string a0),(5,iv (a0.size:Int)),(6,iv (w64 (v6+1)))]<|Ad 1 [.c [1,0,1,0,0],.l [1,0,1,0,0],.b 0,.c [1,1]]<|Kp [0,5,6] [(0,.string a0),(5,iv (a0.size:Int)),(6,iv (w64 (v6+1)))] ?_
    exact ihk a0 (w64 (v6+1)) heq
  ·replace heq:=bif_false hb3 heq
   refine Cf (decide (v6<(a0.size:Int))) hb3<|Ad 2 [.c [1,1,0],.c [1,1,1]]<|Kp [0] [(0,.string a0)] ?_
   exact he1 a0 heq
theorem blob_isPart_c {w0:World} [GlobI 0 w0] {H:Hp} {F:List Ch} {a0:ByteArray} {r:Bool} (heq:blob_isPart.f a0=some r):CallsH Tryd.prog 35 #[.string a0] H w0 (F) (S35 F H r):=by
 refine calls_of_runH (F:=C35) Tryd.func35 (by kernel_rfl) Tryd.ntmps35 (args:=[.string a0]) (by kernel_rfl) ?_
 unfold blob_isPart.f at heq
 refine Ra 1 [0] [.c [1]]<|Rd 1 [0] [(0,.string a0)]<|Ra 2 [1,0,0] [.c [1,0,1],.c [1,1]]<|Rd 3 [0,5,6] [(0,.string a0),(5,iv (a0.size:Int)),(6,iv 0)]<|Ad 2 [.c [1,0,1,0,0],.l [1,0,1,0,0],.b 0,.c [1,1]]<|Kp [0,5,6] [(0,.string a0),(5,iv (a0.size:Int)),(6,iv 0)] ?_
 exact ((blob_isPart.l2_c (e1:=blob_isPart.e1) (blob_isPart.e1_c)) big) a0 0 heq
noncomputable def C20:Ctx:={ P:=Tryd.prog,f:=20,N:=24,c:=bodyOf Tryd.f20 }
def S20 (F:List Ch) (H0:Hp) (r:Bool) (v:Value) (H:Hp) (cs:List Ch):Prop:=H0=H∧v=.bool r∧F=cs
theorem blob_IsPath.e1_c {w0:World} [GlobI 0 w0] {H:Hp} {F:List Ch} {r:Bool}:blob_IsPath.e1=some r→RunH C20 (S20 F H r) H w0 [.c [1,1,1,0],.c [1,1,1,1]] [] H (F):=by
 intro   heq
 unfold blob_IsPath.e1 at heq
 refine Rr<|Rd 1 [2] [(2,.bool true)] ?_
 obtain rfl:=Option.some.inj heq
 exact RunH.done (by kernel_rfl) Tryd.func20 (v:=.bool true) (by kernel_rfl) ⟨rfl,rfl,rfl⟩
theorem blob_IsPath.l2_c {w0:World} [GlobI 0 w0] {H:Hp} {F:List Ch} {r:Bool} (e1:Option Bool)
  (he1:e1=some r→RunH C20 (S20 F H r) H w0 [.c [1,1,1,0],.c [1,1,1,1]] [] H (F)):∀ (k:Nat),∀ (y1:List ByteArray) (A1:Option Addr) (c1:Nat) (ch1:Ch) (v16:Int) ,SlOwn Kd.string 9 H A1 c1 y1 ch1→blob_IsPath.l2 e1 k y1 v16=some r→RunH C20 (S20 F H r) H w0 [.c [1,1,0,1,0,0],.l [1,1,0,1,0,0],.b 0,.c [1,1,1]] [(14,.slice A1 y1.length c1),(15,iv (y1.length:Int)),(16,iv v16)] H (ch1::F):=by
 intro k
 induction k with
 | zero=>intro y1 A1 c1 ch1 v16 ho1 heq; exact nomatch (show (none:Option Bool)=some r from heq)
 | succ k ihk =>
  intro y1 A1 c1 ch1 v16 ho1 heq
  rw [blob_IsPath.l2] at heq
  refine Ra 1 [1,1,0,1,0,0,0] [.c [1,1,0,1,0,0,1],.l [1,1,0,1,0,0],.b 0,.c [1,1,1]]<|Rd 1 [14,15,16,17] [(14,.slice A1 y1.length c1),(15,iv (y1.length:Int)),(16,iv v16),(17,.bool (decide (v16<(y1.length:Int))))]<|Ad 1 [.c [1,1,0,1,0,0,1,0],.c [1,1,0,1,0,0,1,1],.l [1,1,0,1,0,0],.b 0,.c [1,1,1]] ?_
  rcases bool_cases (decide (v16<(y1.length:Int))) with hb3 | hb3
  ·replace heq:=bif_true hb3 heq
   refine Ct (decide (v16<(y1.length:Int))) hb3<|Ra 4 [1,1,0,1,0,0,1,1,0,0,0] [.c [1,1,0,1,0,0,1,1,0,0,1],.b 1,.c [1,1,0,1,0,0,1,1,1],.l [1,1,0,1,0,0],.b 0,.c [1,1,1]] ?_
   obtain ⟨x1,hx1,heq⟩:=bind_some heq
   obtain ⟨ha1,cs1,hK1,hcc1⟩:=ho1.get hx1
   obtain rfl:cs1=[.string x1]:=hK1
   refine Rw' 3 [4,14,15,16] [.string x1] [.need (A1=some (adr A1)∧(0:Int)≤v16∧v16<((y1.length:Nat):Int)),.load ((adr A1).add (v16.toNat*1)) (.string x1)] [(4,.string x1),(14,.slice A1 y1.length c1),(15,iv (y1.length:Int)),(16,iv v16)] (fun w hh=>⟨⟨ha1,(at?_some hx1).1,(at?_some hx1).2.1⟩,(hcc1 _ (hh.chin 0 rfl) 0 _ rfl)⟩)<|Ra 1 [1,1,0,1,0,0,1,1,0,0,1,0] [.c [1,1,0,1,0,0,1,1,0,0,1,1],.b 1,.c [1,1,0,1,0,0,1,1,1],.l [1,1,0,1,0,0],.b 0,.c [1,1,1]]<|Rk 1 [14,15,16,20] [(14,.slice A1 y1.length c1),(15,iv (y1.length:Int)),(16,iv v16),(20,.string x1)] ?_
   obtain ⟨y2,hy2,heq⟩:=bind_some heq
   refine RgH.does (DoesH.call (d:=21) (g:=35) (args:=#[.string x1]) (by kernel_rfl) (blob_isPart_c (a0:=x1)  hy2)) ?_
   rintro _ _ _ _ ⟨_,rfl,rfl,rfl,rfl⟩
   refine Rd 3 [14,15,16,22] [(14,.slice A1 y1.length c1),(15,iv (y1.length:Int)),(16,iv v16),(22,.bool (!y2))] ?_
   rcases bool_cases (!y2) with hb4 | hb4
   ·replace heq:=bif_true hb4 heq
    refine Ct (!y2) hb4<|Ra 1 [1,1,0,1,0,0,1,1,0,0,1,1,0,0] [.c [1,1,0,1,0,0,1,1,0,0,1,1,0,1],.b 1,.c [1,1,0,1,0,0,1,1,1],.l [1,1,0,1,0,0],.b 0,.c [1,1,1]]<|Rd 1 [2] [(2,.bool false)] ?_
    obtain rfl:=Option.some.inj heq
    refine RunH.pick 1 [] (cs':=F) (by kernel_rfl) rfl ?_
    exact RunH.done (by kernel_rfl) Tryd.func20 (v:=.bool false) (by kernel_rfl) ⟨rfl,rfl,rfl⟩
   ·replace heq:=bif_false hb4 heq
    refine Cf (!y2) hb4<|Ra 2 [1,1,0,1,0,0,1,1,1] [.l [1,1,0,1,0,0],.b 0,.c [1,1,1]]<|Rd 2 [14,15,16] [(14,.slice A1 y1.length c1),(15,iv (y1.length:Int)),(16,iv (w64 (v16+1)))]<|Ad 1 [.c [1,1,0,1,0,0],.l [1,1,0,1,0,0],.b 0,.c [1,1,1]]<|Kp [14,15,16] [(14,.slice A1 y1.length c1),(15,iv (y1.length:Int)),(16,iv (w64 (v16+1)))] ?_
    exact ihk y1 _ _ _ (w64 (v16+1)) ho1 heq
  ·replace heq:=bif_false hb3 heq
   refine Cf (decide (v16<(y1.length:Int))) hb3<|Ad 2 [.c [1,1,1,0],.c [1,1,1,1]]<|Kp [] [] ?_
   refine RunH.pick 1 [] (cs':=F) (by kernel_rfl) rfl ?_
   exact he1 heq
theorem blob_IsPath_c {w0:World} [GlobI 0 w0] {H:Hp} {F:List Ch} {a0:ByteArray} {r:Bool} (heq:blob_IsPath.f a0=some r):CallsH Tryd.prog 20 #[.string a0] H w0 (F) (S20 F H r):=by
 refine calls_of_runH (F:=C20) Tryd.func20 (by kernel_rfl) Tryd.ntmps20 (args:=[.string a0]) (by kernel_rfl) ?_
 unfold blob_IsPath.f at heq
 refine Ra 1 [0] [.c [1]]<|Rd 1 [0] [(0,.string a0)]<|Ad 2 [.c [1,0,0],.c [1,0,1],.c [1,1]] ?_
 obtain ⟨t1,ht1,heq⟩:=bind_some heq
 have K1:RunH C20 (S20 F H r) H w0 [.c [1,0,1],.c [1,1]] [(0,.string a0),(12,.bool t1)] H (F):=by
  rcases bool_cases (t1) with hb2 | hb2
  ·replace heq:=bif_true hb2 heq
   refine Ct t1 hb2<|Ra 1 [1,0,1,0,0] [.c [1,0,1,0,1],.c [1,1]]<|Rd 1 [2] [(2,.bool false)] ?_
   obtain rfl:=Option.some.inj heq
   exact RunH.done (by kernel_rfl) Tryd.func20 (v:=.bool false) (by kernel_rfl) ⟨rfl,rfl,rfl⟩
  ·replace heq:=bif_false hb2 heq
   refine Cf t1 hb2<|Ra 3 [1,1,0,0] [.c [1,1,0,1],.c [1,1,1]]<|Rk 1 [13] [(13,.string a0)] ?_
   obtain ⟨y1,hy1,heq⟩:=bind_some heq
   refine RgH.does (DoesH.call (d:=14) (g:=15) (args:=#[.string a0,.string ({ data:=#[47] }:ByteArray)]) (by kernel_rfl) (strings_Split_c (a0:=a0) (a1:=({ data:=#[47] }:ByteArray))  hy1)) ?_
   rintro _ _ _ _ ⟨_,rfl,A1,c1,ch1,rfl,rfl,rfl,ho1⟩
   refine Rd 4 [14,15,16] [(14,.slice A1 y1.length c1),(15,iv (y1.length:Int)),(16,iv 0)]<|Ad 2 [.c [1,1,0,1,0,0],.l [1,1,0,1,0,0],.b 0,.c [1,1,1]]<|Kp [14,15,16] [(14,.slice A1 y1.length c1),(15,iv (y1.length:Int)),(16,iv 0)] ?_
   exact ((blob_IsPath.l2_c (e1:=blob_IsPath.e1) (blob_IsPath.e1_c)) big) y1 _ _ _ 0 ho1 heq
 replace heq:=ht1
 refine Rr<|Rk 4 [8,0] [(8,.bool (decide ((a0.size:Int)<1))),(0,.string a0)] ?_
 rcases bool_cases (decide ((a0.size:Int)<1)) with hb1 | hb1
 ·replace heq:=bif_true hb1 heq
  refine RgH.val1 (v':=.bool true) (congrArg Value.bool hb1) ?_
  refine Rk 8 [0,12] [(0,.string a0),(12,.bool true)] ?_
  obtain rfl:=Option.some.inj heq
  refine Kg [0,12] [(0,.string a0),(12,.bool true)]<|Dn ?_
  exact K1
 ·replace heq:=bif_false hb1 heq
  refine RgH.val1 (v':=.bool false) (congrArg Value.bool hb1) ?_
  refine Rk 8 [0,12] [(0,.string a0),(12,.bool (decide (200<(a0.size:Int))))] ?_
  obtain rfl:=Option.some.inj heq
  refine Kg [0,12] [(0,.string a0),(12,.bool (decide (200<(a0.size:Int))))]<|Dn ?_
  exact K1
def S33 (F:List Ch) (H0:Hp) (r:ByteArray) (v:Value) (H:Hp) (cs:List Ch):Prop:=H0=H∧v=.string r∧F=cs
theorem strings_Trim_c {w0:World} [GlobI 0 w0] {H:Hp} {F:List Ch} {a0:ByteArray} {a1:ByteArray} {r:ByteArray} (heq:strings_Trim.f a0 a1=some r):CallsH Tryd.prog 33 #[.string a0,.string a1] H w0 F (S33 F H r):=by
 intro w hh
 unfold strings_Trim.f at heq
 obtain ⟨hn,heq⟩:=guard?_some heq
 obtain rfl:=Option.some.inj heq
 refine (Shelf.Tryd.strings_Trim a0 a1 w (by simp at hn; exact hn.1) (by simp at hn; exact hn.2.1) (by have h:=hn; rw [Bool.and_eq_true,Bool.and_eq_true] at h; exact ascii_of_all h.2.2)).mono ?_
 rintro e w' ⟨rfl,hx⟩
 exact ⟨_,rfl,H,F,Le.refl H,hh.later hx,rfl,rfl,rfl⟩
noncomputable def C21:Ctx:={ P:=Tryd.prog,f:=21,N:=11,c:=bodyOf Tryd.f21 }
def S21 (F:List Ch) (H0:Hp) (r:Bool) (v:Value) (H:Hp) (cs:List Ch):Prop:=H0=H∧v=.bool r∧F=cs
theorem blob_IsDigest_c {w0:World} [GlobI 0 w0] {H:Hp} {F:List Ch} {a0:ByteArray} {r:Bool} (heq:blob_IsDigest.f a0=some r):CallsH Tryd.prog 21 #[.string a0] H w0 (F) (S21 F H r):=by
 refine calls_of_runH (F:=C21) Tryd.func21 (by kernel_rfl) Tryd.ntmps21 (args:=[.string a0]) (by kernel_rfl) ?_
 unfold blob_IsDigest.f at heq
 refine Ra 1 [0] [.c [1]]<|Rd 1 [0] [(0,.string a0)]<|Ad 1 [.c [1,0],.c [1,1]] ?_
 obtain ⟨t1,ht1,heq⟩:=bind_some heq
 have K1:RunH C21 (S21 F H r) H w0 [.c [1,1]] [(2,.bool t1)] H (F):=by
  obtain rfl:=Option.some.inj heq
  exact RunH.done (by kernel_rfl) Tryd.func21 (v:=.bool t1) (by kernel_rfl) ⟨rfl,rfl,rfl⟩
 replace heq:=ht1
 refine Rr<|Rk 4 [6,0] [(6,.bool ((a0.size:Int) == 16)),(0,.string a0)] ?_
 rcases bool_cases ((a0.size:Int) == 16) with hb1 | hb1
 ·replace heq:=bif_true hb1 heq
  refine RgH.val1 (v':=.bool true) (congrArg Value.bool hb1) ?_
  refine Rk 5 [6,7] [(6,.bool true),(7,.string a0)] ?_
  obtain ⟨y1,hy1,heq⟩:=bind_some heq
  refine RgH.does (DoesH.call (d:=8) (g:=33) (args:=#[.string a0,.string ({ data:=#[48,49,50,51,52,53,54,55,56,57,97,98,99,100,101,102] }:ByteArray)]) (by kernel_rfl) (strings_Trim_c (a0:=a0) (a1:=({ data:=#[48,49,50,51,52,53,54,55,56,57,97,98,99,100,101,102] }:ByteArray))  hy1)) ?_
  rintro _ _ _ _ ⟨_,rfl,rfl,rfl,rfl⟩
  refine Rk 9 [2] [(2,.bool (sEq y1 ({ data:=#[] }:ByteArray)))] ?_
  obtain rfl:=Option.some.inj heq
  refine Kg [2] [(2,.bool (sEq y1 ({ data:=#[] }:ByteArray)))]<|Dn ?_
  exact K1
 ·replace heq:=bif_false hb1 heq
  refine RgH.val1 (v':=.bool false) (congrArg Value.bool hb1) ?_
  refine Rk 9 [2] [(2,.bool false)] ?_
  obtain rfl:=Option.some.inj heq
  refine Kg [2] [(2,.bool false)]<|Dn ?_
  exact K1
noncomputable def C22:Ctx:={ P:=Tryd.prog,f:=22,N:=15,c:=bodyOf Tryd.f22 }
def S22 (F:List Ch) (H0:Hp) (r:Bool) (v:Value) (H:Hp) (cs:List Ch):Prop:=H0=H∧v=.bool r∧F=cs
theorem trials_within_c {w0:World} [GlobI 0 w0] {H:Hp} {F:List Ch} {a0:Int} {a1:Int} {a2:Int} {r:Bool} (heq:trials_within.f a0 a1 a2=some r):CallsH Tryd.prog 22 #[iv a0,iv a1,iv a2] H w0 (F) (S22 F H r):=by
 refine calls_of_runH (F:=C22) Tryd.func22 (by kernel_rfl) Tryd.ntmps22 (args:=[iv a0,iv a1,iv a2]) (by kernel_rfl) ?_
 unfold trials_within.f at heq
 refine Ra 1 [0] [.c [1]]<|Rd 1 [0,1,2] [(0,iv a0),(1,iv a1),(2,iv a2)]<|Ad 1 [.c [1,0],.c [1,1]] ?_
 obtain ⟨t1,ht1,heq⟩:=bind_some heq
 have K1:RunH C22 (S22 F H r) H w0 [.c [1,1]] [(6,.bool t1)] H (F):=by
  obtain rfl:=Option.some.inj heq
  exact RunH.done (by kernel_rfl) Tryd.func22 (v:=.bool t1) (by kernel_rfl) ⟨rfl,rfl,rfl⟩
 replace heq:=ht1
 refine Rr<|Rk 4 [10,0,2] [(10,.bool (decide (a1≤a0))),(0,iv a0),(2,iv a2)] ?_
 rcases bool_cases (decide (a1≤a0)) with hb1 | hb1
 ·replace heq:=bif_true hb1 heq
  refine RgH.val1 (v':=.bool true) (congrArg Value.bool hb1) ?_
  refine Rk 9 [6] [(6,.bool (decide (a0≤a2)))] ?_
  obtain rfl:=Option.some.inj heq
  refine Kg [6] [(6,.bool (decide (a0≤a2)))]<|Dn ?_
  exact K1
 ·replace heq:=bif_false hb1 heq
  refine RgH.val1 (v':=.bool false) (congrArg Value.bool hb1) ?_
  refine Rk 9 [6] [(6,.bool false)] ?_
  obtain rfl:=Option.some.inj heq
  refine Kg [6] [(6,.bool false)]<|Dn ?_
  exact K1
noncomputable def C10:Ctx:={ P:=Tryd.prog,f:=10,N:=51,c:=bodyOf Tryd.f10 }
def S10 (F:List Ch) (H0:Hp) (r:Int) (v:Value) (H:Hp) (cs:List Ch):Prop:=H0=H∧v=iv r∧F=cs
theorem trials_CheckHistory.e1_c {w0:World} [GlobI 0 w0] {H:Hp} {F:List Ch} {r:Int}:trials_CheckHistory.e1=some r→RunH C10 (S10 F H r) H w0 [.c [1,1,1,0],.c [1,1,1,1]] [] H (F):=by
 intro   heq
 unfold trials_CheckHistory.e1 at heq
 refine Rr<|Rd 1 [2] [(2,iv 0)] ?_
 obtain rfl:=Option.some.inj heq
 exact RunH.done (by kernel_rfl) Tryd.func10 (v:=iv 0) (by kernel_rfl) ⟨rfl,rfl,rfl⟩
theorem trials_CheckHistory.l2_c {w0:World} [GlobI 0 w0] {H:Hp} {F:List Ch} {r:Int} (e1:Option Int)
  (he1:e1=some r→RunH C10 (S10 F H r) H w0 [.c [1,1,1,0],.c [1,1,1,1]] [] H (F)):∀ (k:Nat),∀ (a0:List TestRun) (Aa0:Option Addr) (ca0:Nat) (v10:Int) ,Rw kTestRun H F Aa0 a0→a0.length≤ca0→trials_CheckHistory.l2 e1 k a0 v10=some r→RunH C10 (S10 F H r) H w0 [.c [1,1,0,1,0,0],.l [1,1,0,1,0,0],.b 0,.c [1,1,1]] [(0,.slice Aa0 a0.length ca0),(8,.slice Aa0 a0.length ca0),(9,iv (a0.length:Int)),(10,iv v10)] H (F):=by
 intro k
 induction k with
 | zero=>intro a0 Aa0 ca0 v10 hra0 hca0 heq; exact nomatch (show (none:Option Int)=some r from heq)
 | succ k ihk =>
  intro a0 Aa0 ca0 v10 hra0 hca0 heq
  rw [trials_CheckHistory.l2] at heq
  refine Ra 1 [1,1,0,1,0,0,0] [.c [1,1,0,1,0,0,1],.l [1,1,0,1,0,0],.b 0,.c [1,1,1]]<|Rd 1 [0,8,9,10,11] [(0,.slice Aa0 a0.length ca0),(8,.slice Aa0 a0.length ca0),(9,iv (a0.length:Int)),(10,iv v10),(11,.bool (decide (v10<(a0.length:Int))))]<|Ad 1 [.c [1,1,0,1,0,0,1,0],.c [1,1,0,1,0,0,1,1],.l [1,1,0,1,0,0],.b 0,.c [1,1,1]] ?_
  rcases bool_cases (decide (v10<(a0.length:Int))) with hb2 | hb2
  ·replace heq:=bif_true hb2 heq
   refine Ct (decide (v10<(a0.length:Int))) hb2<|Ra 4 [1,1,0,1,0,0,1,1,0,0,0] [.c [1,1,0,1,0,0,1,1,0,0,1],.b 1,.c [1,1,0,1,0,0,1,1,1],.l [1,1,0,1,0,0],.b 0,.c [1,1,1]] ?_
   obtain ⟨x1,hx1,heq⟩:=bind_some heq
   obtain ⟨ha1,cs1,hK1,hcc1⟩:=hra0.get hx1
   obtain ⟨rfl⟩:=kTestRun_open hK1
   refine Rv 3 [0,8,9,10,12,14] [.string x1.Test,.string x1.Key,iv x1.At,.bool x1.Pass,iv x1.Seconds] [.need (Aa0=some (adr Aa0)∧(0:Int)≤v10∧v10<((a0.length:Nat):Int)),.load (((adr Aa0).add (v10.toNat*5)).add 0) (.string x1.Test),.load (((adr Aa0).add (v10.toNat*5)).add 1) (.string x1.Key),.load (((adr Aa0).add (v10.toNat*5)).add 2) (iv x1.At),.load (((adr Aa0).add (v10.toNat*5)).add 3) (.bool x1.Pass),.load (((adr Aa0).add (v10.toNat*5)).add 4) (iv x1.Seconds)] [(0,.slice Aa0 a0.length ca0),(8,.slice Aa0 a0.length ca0),(9,iv (a0.length:Int)),(10,iv v10),(12,iv v10),(14,.agg #[.string x1.Test,.string x1.Key,iv x1.At,.bool x1.Pass,iv x1.Seconds])] (fun w hh=>⟨⟨ha1,(at?_some hx1).1,(at?_some hx1).2.1⟩,(hcc1 _ _ (hh.drop 0) 0 _ rfl),(hcc1 _ _ (hh.drop 0) 1 _ rfl),(hcc1 _ _ (hh.drop 0) 2 _ rfl),(hcc1 _ _ (hh.drop 0) 3 _ rfl),(hcc1 _ _ (hh.drop 0) 4 _ rfl)⟩) ?_
   refine RgH.does (DoesH.new (d:=4) (v:=fun g=>.pointer (some ⟨g,0,none⟩)) (o:=fun g=>.cells #[.string ByteArray.empty,.string ByteArray.empty,iv 0,.bool false,iv 0] 28 (0,0)) (fun g=>by kernel_rfl)) ?_
   rintro _ _ _ _ ⟨g1,rfl,rfl,rfl⟩
   refine Rk 5 [0,3,4,8,9,10,14] [(0,.slice Aa0 a0.length ca0),(3,iv v10),(4,pg g1 0),(8,.slice Aa0 a0.length ca0),(9,iv (a0.length:Int)),(10,iv v10),(14,.agg #[.string x1.Test,.string x1.Key,iv x1.At,.bool x1.Pass,iv x1.Seconds])] ?_
   refine RgH.does (DoesH.store (k:=0) (g:=g1) (off:=0) (v:=.agg #[.string x1.Test,.string x1.Key,iv x1.At,.bool x1.Pass,iv x1.Seconds]) (cells':=#[.string x1.Test,.string x1.Key,iv x1.At,.bool x1.Pass,iv x1.Seconds]) (by kernel_rfl) rfl (by kernel_rfl) (by kernel_rfl)) ?_
   rintro _ _ _ _ ⟨rfl,rfl,rfl⟩
   refine Dn<|Ra 2 [1,1,0,1,0,0,1,1,0,0,1,0,0] [.c [1,1,0,1,0,0,1,1,0,0,1,0,1],.b 2,.b 1,.c [1,1,0,1,0,0,1,1,1],.l [1,1,0,1,0,0],.b 0,.c [1,1,1]]<|Rv 2 [0,3,4,8,9,10,17] [.string x1.Test] [.load ⟨g1,0,none⟩ (.string x1.Test)] [(0,.slice Aa0 a0.length ca0),(3,iv v10),(4,pg g1 0),(8,.slice Aa0 a0.length ca0),(9,iv (a0.length:Int)),(10,iv v10),(17,.string x1.Test)] (fun w hh=>(hh.box 0 rfl rfl)) ?_
   obtain ⟨y1,hy1,heq⟩:=bind_some heq
   refine RgH.does (DoesH.call (d:=18) (g:=20) (args:=#[.string x1.Test]) (by kernel_rfl) (blob_IsPath_c (a0:=x1.Test)  hy1)) ?_
   rintro _ _ _ _ ⟨_,rfl,rfl,rfl,rfl⟩
   refine Rd 5 [0,3,4,8,9,10,15] [(0,.slice Aa0 a0.length ca0),(3,iv v10),(4,pg g1 0),(8,.slice Aa0 a0.length ca0),(9,iv (a0.length:Int)),(10,iv v10),(15,.bool (!y1))] ?_
   rcases bool_cases (!y1) with hb3 | hb3
   ·replace heq:=bif_true hb3 heq
    refine Ct (!y1) hb3<|Ra 1 [1,1,0,1,0,0,1,1,0,0,1,0,1,0,0] [.c [1,1,0,1,0,0,1,1,0,0,1,0,1,0,1],.b 2,.b 1,.c [1,1,0,1,0,0,1,1,1],.l [1,1,0,1,0,0],.b 0,.c [1,1,1]]<|Rd 1 [2] [(2,iv 5)] ?_
    obtain rfl:=Option.some.inj heq
    refine RunH.pick 1 [] (cs':=F) (by kernel_rfl) rfl ?_
    exact RunH.done (by kernel_rfl) Tryd.func10 (v:=iv 5) (by kernel_rfl) ⟨rfl,rfl,rfl⟩
   ·replace heq:=bif_false hb3 heq
    refine Cf (!y1) hb3<|Ra 1 [1,1,0,1,0,0,1,1,0,0,1,0,1,1,0] [.c [1,1,0,1,0,0,1,1,0,0,1,0,1,1,1],.b 2,.b 1,.c [1,1,0,1,0,0,1,1,1],.l [1,1,0,1,0,0],.b 0,.c [1,1,1]]<|Rv 2 [0,3,4,8,9,10,22] [.string x1.Key] [.load ⟨g1,1,none⟩ (.string x1.Key)] [(0,.slice Aa0 a0.length ca0),(3,iv v10),(4,pg g1 0),(8,.slice Aa0 a0.length ca0),(9,iv (a0.length:Int)),(10,iv v10),(22,.string x1.Key)] (fun w hh=>(hh.box 0 rfl rfl)) ?_
    obtain ⟨y2,hy2,heq⟩:=bind_some heq
    refine RgH.does (DoesH.call (d:=23) (g:=21) (args:=#[.string x1.Key]) (by kernel_rfl) (blob_IsDigest_c (a0:=x1.Key)  hy2)) ?_
    rintro _ _ _ _ ⟨_,rfl,rfl,rfl,rfl⟩
    refine Rd 5 [0,3,4,8,9,10,20] [(0,.slice Aa0 a0.length ca0),(3,iv v10),(4,pg g1 0),(8,.slice Aa0 a0.length ca0),(9,iv (a0.length:Int)),(10,iv v10),(20,.bool (!y2))] ?_
    rcases bool_cases (!y2) with hb4 | hb4
    ·replace heq:=bif_true hb4 heq
     refine Ct (!y2) hb4<|Ra 1 [1,1,0,1,0,0,1,1,0,0,1,0,1,1,1,0,0] [.c [1,1,0,1,0,0,1,1,0,0,1,0,1,1,1,0,1],.b 2,.b 1,.c [1,1,0,1,0,0,1,1,1],.l [1,1,0,1,0,0],.b 0,.c [1,1,1]]<|Rd 1 [2] [(2,iv 3)] ?_
     obtain rfl:=Option.some.inj heq
     refine RunH.pick 1 [] (cs':=F) (by kernel_rfl) rfl ?_
     exact RunH.done (by kernel_rfl) Tryd.func10 (v:=iv 3) (by kernel_rfl) ⟨rfl,rfl,rfl⟩
    ·replace heq:=bif_false hb4 heq
     refine Cf (!y2) hb4<|Ad 1 [.c [1,1,0,1,0,0,1,1,0,0,1,0,1,1,1,1,0],.c [1,1,0,1,0,0,1,1,0,0,1,0,1,1,1,1,1],.b 2,.b 1,.c [1,1,0,1,0,0,1,1,1],.l [1,1,0,1,0,0],.b 0,.c [1,1,1]] ?_
     obtain ⟨t1,ht1,heq⟩:=bind_some heq
     have K2:RunH C10 (S10 F H r) H w0 [.c [1,1,0,1,0,0,1,1,0,0,1,0,1,1,1,1,1],.b 2,.b 1,.c [1,1,0,1,0,0,1,1,1],.l [1,1,0,1,0,0],.b 0,.c [1,1,1]] [(0,.slice Aa0 a0.length ca0),(3,iv v10),(4,pg g1 0),(8,.slice Aa0 a0.length ca0),(9,iv (a0.length:Int)),(10,iv v10),(25,.bool t1)] H ((some (g1,.cells #[.string x1.Test,.string x1.Key,iv x1.At,.bool x1.Pass,iv x1.Seconds] 28 (0,0)))::F):=by
      rcases bool_cases (t1) with hb6 | hb6
      ·replace heq:=bif_true hb6 heq
       refine Ct t1 hb6<|Ra 1 [1,1,0,1,0,0,1,1,0,0,1,0,1,1,1,1,1,0,0] [.c [1,1,0,1,0,0,1,1,0,0,1,0,1,1,1,1,1,0,1],.b 2,.b 1,.c [1,1,0,1,0,0,1,1,1],.l [1,1,0,1,0,0],.b 0,.c [1,1,1]]<|Rd 1 [2] [(2,iv 1)] ?_
       obtain rfl:=Option.some.inj heq
       refine RunH.pick 1 [] (cs':=F) (by kernel_rfl) rfl ?_
       exact RunH.done (by kernel_rfl) Tryd.func10 (v:=iv 1) (by kernel_rfl) ⟨rfl,rfl,rfl⟩
      ·replace heq:=bif_false hb6 heq
       refine Cf t1 hb6<|Ad 1 [.c [1,1,0,1,0,0,1,1,0,0,1,0,1,1,1,1,1,1,0],.c [1,1,0,1,0,0,1,1,0,0,1,0,1,1,1,1,1,1,1],.b 2,.b 1,.c [1,1,0,1,0,0,1,1,1],.l [1,1,0,1,0,0],.b 0,.c [1,1,1]] ?_
       obtain ⟨t2,ht2,heq⟩:=bind_some heq
       have K3:RunH C10 (S10 F H r) H w0 [.c [1,1,0,1,0,0,1,1,0,0,1,0,1,1,1,1,1,1,1],.b 2,.b 1,.c [1,1,0,1,0,0,1,1,1],.l [1,1,0,1,0,0],.b 0,.c [1,1,1]] [(0,.slice Aa0 a0.length ca0),(8,.slice Aa0 a0.length ca0),(9,iv (a0.length:Int)),(10,iv v10),(36,.bool t2)] H (F):=by
        rcases bool_cases (t2) with hb8 | hb8
        ·replace heq:=bif_true hb8 heq
         refine Ct t2 hb8<|Ra 1 [1,1,0,1,0,0,1,1,0,0,1,0,1,1,1,1,1,1,1,0,0] [.c [1,1,0,1,0,0,1,1,0,0,1,0,1,1,1,1,1,1,1,0,1],.b 2,.b 1,.c [1,1,0,1,0,0,1,1,1],.l [1,1,0,1,0,0],.b 0,.c [1,1,1]]<|Rd 1 [2] [(2,iv 8)] ?_
         obtain rfl:=Option.some.inj heq
         exact RunH.done (by kernel_rfl) Tryd.func10 (v:=iv 8) (by kernel_rfl) ⟨rfl,rfl,rfl⟩
        ·replace heq:=bif_false hb8 heq
         refine Cf t2 hb8<|Ra 3 [1,1,0,1,0,0,1,1,1] [.l [1,1,0,1,0,0],.b 0,.c [1,1,1]]<|Rd 2 [0,8,9,10] [(0,.slice Aa0 a0.length ca0),(8,.slice Aa0 a0.length ca0),(9,iv (a0.length:Int)),(10,iv (w64 (v10+1)))]<|Ad 1 [.c [1,1,0,1,0,0],.l [1,1,0,1,0,0],.b 0,.c [1,1,1]]<|Kp [0,8,9,10] [(0,.slice Aa0 a0.length ca0),(8,.slice Aa0 a0.length ca0),(9,iv (a0.length:Int)),(10,iv (w64 (v10+1)))] ?_
         exact ihk a0 _ _ (w64 (v10+1)) hra0 hca0 heq
       replace heq:=ht2
       refine Kp [0,3,4,8,9,10] [(0,.slice Aa0 a0.length ca0),(3,iv v10),(4,pg g1 0),(8,.slice Aa0 a0.length ca0),(9,iv (a0.length:Int)),(10,iv v10)] ?_
       refine RunH.draw (fun w=>Heap H w0 w ((some (g1,.cells #[.string x1.Test,.string x1.Key,iv x1.At,.bool x1.Pass,iv x1.Seconds] 28 (0,0)))::F)) (fun w=>Heap H w0 w ((some (g1,.cells #[.string x1.Test,.string x1.Key,iv x1.At,.bool x1.Pass,iv x1.Seconds] 28 (0,0)))::F)) [3,3,3,3,3,3,3,3,3,3,3,3,3,3] (n:=14) (ls:=[false,false,false,false,false,false,false,false,false,false,false,false,false,false]) (by kernel_rfl) (by kernel_rfl) (by kernel_rfl) rfl ?_
       refine Dk [0,1,2] 11 (nb 14 7) [] [] [39,0,3,4,8,9,10] [(39,.bool (decide (0<v10))),(0,.slice Aa0 a0.length ca0),(3,iv v10),(4,pg g1 0),(8,.slice Aa0 a0.length ca0),(9,iv (a0.length:Int)),(10,iv v10)] (Pk 1 [0]) (Pk 1 [0]) (fun _ _=>trivial) ?_
       rcases bool_cases (decide (0<v10)) with hb7 | hb7
       ·replace heq:=bif_true hb7 heq
        refine DrH.val1 (v':=.bool true) (congrArg Value.bool hb7) ?_
        obtain ⟨x2,hx2,heq⟩:=bind_some heq
        obtain ⟨ha2,cs2,hK2,hcc2⟩:=hra0.get hx2
        obtain ⟨rfl⟩:=kTestRun_open hK2
        refine Dk [3,4,5,6,7,8,9,10,11,12,13] 0 (nb 14 16383) [iv x1.At,iv x2.At] [.load ⟨g1,2,none⟩ (iv x1.At),.need (Aa0=some (adr Aa0)∧(0:Int)≤(w64 (v10 - 1))∧(w64 (v10 - 1))<((a0.length:Nat):Int)),.load (((adr Aa0).add ((w64 (v10 - 1)).toNat*5)).add 2) (iv x2.At)] [0,8,9,10,36] [(0,.slice Aa0 a0.length ca0),(8,.slice Aa0 a0.length ca0),(9,iv (a0.length:Int)),(10,iv v10),(36,.bool (decide (x1.At<x2.At)))] (Pk 1 [0]) (Pk 1 [0]) (fun w hh=>⟨(hh.box 0 rfl rfl),⟨ha2,(at?_some hx2).1,(at?_some hx2).2.1⟩,(hcc2 _ _ (hh.drop 1) 2 _ rfl)⟩) ?_
        obtain rfl:=Option.some.inj heq
        refine Kr [0,8,9,10,36] [(0,.slice Aa0 a0.length ca0),(8,.slice Aa0 a0.length ca0),(9,iv (a0.length:Int)),(10,iv v10),(36,.bool (decide (x1.At<x2.At)))] ?_
        refine DrH.pick 1 [] (cs':=F) (by kernel_rfl) rfl ?_
        refine DrH.done (by kernel_rfl) ?_
        exact K3
       ·replace heq:=bif_false hb7 heq
        refine DrH.val1 (v':=.bool false) (congrArg Value.bool hb7) ?_
        refine Dk [3,4,5,6,7,8,9,10,11,12,13] 0 (nb 14 16383) [] [] [0,8,9,10,36] [(0,.slice Aa0 a0.length ca0),(8,.slice Aa0 a0.length ca0),(9,iv (a0.length:Int)),(10,iv v10),(36,.bool false)] (Pk 1 [0]) (Pk 1 [0]) (fun _ _=>trivial) ?_
        obtain rfl:=Option.some.inj heq
        refine Kr [0,8,9,10,36] [(0,.slice Aa0 a0.length ca0),(8,.slice Aa0 a0.length ca0),(9,iv (a0.length:Int)),(10,iv v10),(36,.bool false)] ?_
        refine DrH.pick 1 [] (cs':=F) (by kernel_rfl) rfl ?_
        refine DrH.done (by kernel_rfl) ?_
        exact K3
     replace heq:=ht1
     refine Rr<|Rv 2 [0,3,4,8,9,10,27] [iv x1.At] [.load ⟨g1,2,none⟩ (iv x1.At)] [(0,.slice Aa0 a0.length ca0),(3,iv v10),(4,pg g1 0),(8,.slice Aa0 a0.length ca0),(9,iv (a0.length:Int)),(10,iv v10),(27,iv x1.At)] (fun w hh=>(hh.box 0 rfl rfl)) ?_
     obtain ⟨y3,hy3,heq⟩:=bind_some heq
     refine RgH.does (DoesH.call (d:=28) (g:=22) (args:=#[iv x1.At,iv 0,iv 1000000000]) (by kernel_rfl) (trials_within_c (a0:=x1.At) (a1:=0) (a2:=1000000000)  hy3)) ?_
     rintro _ _ _ _ ⟨_,rfl,rfl,rfl,rfl⟩
     refine Rk 5 [30,0,3,4,8,9,10] [(30,.bool (!y3)),(0,.slice Aa0 a0.length ca0),(3,iv v10),(4,pg g1 0),(8,.slice Aa0 a0.length ca0),(9,iv (a0.length:Int)),(10,iv v10)] ?_
     rcases bool_cases (!y3) with hb5 | hb5
     ·replace heq:=bif_true hb5 heq
      refine RgH.val1 (v':=.bool true) (congrArg Value.bool hb5) ?_
      refine Rk 11 [0,3,4,8,9,10,25] [(0,.slice Aa0 a0.length ca0),(3,iv v10),(4,pg g1 0),(8,.slice Aa0 a0.length ca0),(9,iv (a0.length:Int)),(10,iv v10),(25,.bool true)] ?_
      obtain rfl:=Option.some.inj heq
      refine Kg [0,3,4,8,9,10,25] [(0,.slice Aa0 a0.length ca0),(3,iv v10),(4,pg g1 0),(8,.slice Aa0 a0.length ca0),(9,iv (a0.length:Int)),(10,iv v10),(25,.bool true)]<|Dn ?_
      exact K2
     ·replace heq:=bif_false hb5 heq
      refine RgH.val1 (v':=.bool false) (congrArg Value.bool hb5) ?_
      refine Rv 7 [0,3,4,8,9,10,30,32] [iv x1.Seconds] [.load ⟨g1,4,none⟩ (iv x1.Seconds)] [(0,.slice Aa0 a0.length ca0),(3,iv v10),(4,pg g1 0),(8,.slice Aa0 a0.length ca0),(9,iv (a0.length:Int)),(10,iv v10),(30,.bool false),(32,iv x1.Seconds)] (fun w hh=>(hh.box 0 rfl rfl)) ?_
      obtain ⟨y4,hy4,heq⟩:=bind_some heq
      refine RgH.does (DoesH.call (d:=33) (g:=22) (args:=#[iv x1.Seconds,iv 0,iv 100000]) (by kernel_rfl) (trials_within_c (a0:=x1.Seconds) (a1:=0) (a2:=100000)  hy4)) ?_
      rintro _ _ _ _ ⟨_,rfl,rfl,rfl,rfl⟩
      refine Rk 11 [0,3,4,8,9,10,25] [(0,.slice Aa0 a0.length ca0),(3,iv v10),(4,pg g1 0),(8,.slice Aa0 a0.length ca0),(9,iv (a0.length:Int)),(10,iv v10),(25,.bool (!y4))] ?_
      obtain rfl:=Option.some.inj heq
      refine Kg [0,3,4,8,9,10,25] [(0,.slice Aa0 a0.length ca0),(3,iv v10),(4,pg g1 0),(8,.slice Aa0 a0.length ca0),(9,iv (a0.length:Int)),(10,iv v10),(25,.bool (!y4))]<|Dn ?_
      exact K2
  ·replace heq:=bif_false hb2 heq
   refine Cf (decide (v10<(a0.length:Int))) hb2<|Ad 2 [.c [1,1,1,0],.c [1,1,1,1]]<|Kp [] [] ?_
   exact he1 heq
theorem trials_CheckHistory_c {w0:World} [GlobI 0 w0] {H:Hp} {F:List Ch} {a0:List TestRun} {Aa0:Option Addr} {na0:Nat} {ca0:Nat} {r:Int} (hra0:Rw kTestRun H F Aa0 a0) (hca0:na0≤ca0) (hna0:na0=a0.length) (heq:trials_CheckHistory.f a0=some r):CallsH Tryd.prog 10 #[.slice Aa0 na0 ca0] H w0 (F) (S10 F H r):=by
 refine calls_of_runH (F:=C10) Tryd.func10 (by kernel_rfl) Tryd.ntmps10 (args:=[.slice Aa0 na0 ca0]) (by kernel_rfl) ?_
 subst hna0
 unfold trials_CheckHistory.f at heq
 refine Ra 1 [0] [.c [1]]<|Rd 1 [0] [(0,.slice Aa0 a0.length ca0)]<|Ra 2 [1,0,0] [.c [1,0,1],.c [1,1]]<|Rd 3 [0,7] [(0,.slice Aa0 a0.length ca0),(7,.bool (decide (3000<(a0.length:Int))))] ?_
 rcases bool_cases (decide (3000<(a0.length:Int))) with hb1 | hb1
 ·replace heq:=bif_true hb1 heq
  refine Ct (decide (3000<(a0.length:Int))) hb1<|Ra 1 [1,0,1,0,0] [.c [1,0,1,0,1],.c [1,1]]<|Rd 1 [2] [(2,iv 2)] ?_
  obtain rfl:=Option.some.inj heq
  exact RunH.done (by kernel_rfl) Tryd.func10 (v:=iv 2) (by kernel_rfl) ⟨rfl,rfl,rfl⟩
 ·replace heq:=bif_false hb1 heq
  refine Cf (decide (3000<(a0.length:Int))) hb1<|Ra 3 [1,1,0,0] [.c [1,1,0,1],.c [1,1,1]]<|Rd 3 [0,8,9,10] [(0,.slice Aa0 a0.length ca0),(8,.slice Aa0 a0.length ca0),(9,iv (a0.length:Int)),(10,iv 0)]<|Ad 2 [.c [1,1,0,1,0,0],.l [1,1,0,1,0,0],.b 0,.c [1,1,1]]<|Kp [0,8,9,10] [(0,.slice Aa0 a0.length ca0),(8,.slice Aa0 a0.length ca0),(9,iv (a0.length:Int)),(10,iv 0)] ?_
  exact ((trials_CheckHistory.l2_c (e1:=trials_CheckHistory.e1) (trials_CheckHistory.e1_c)) big) a0 _ _ 0 hra0 hca0 heq
def S28 (F:List Ch) (H0:Hp) (r:Int) (v:Value) (H:Hp) (cs:List Ch):Prop:=H0=H∧v=iv r∧F=cs
theorem stringslite_Index_c {w0:World} [GlobI 0 w0] {H:Hp} {F:List Ch} {a0 a1:ByteArray} {r:Int} (heq:stringslite_Index.f a0 a1=some r):CallsH Tryd.prog 28 #[.string a0,.string a1] H w0 F (S28 F H r):=by
 intro w hh
 unfold stringslite_Index.f at heq
 obtain ⟨hn,heq⟩:=guard?_some heq
 obtain rfl:=Option.some.inj heq
 obtain ⟨c,rfl⟩:∃ c,a1=⟨#[c]⟩:=by
  obtain ⟨⟨l⟩⟩:=a1
  match l,hn with
  | [c],_=>exact ⟨c,rfl⟩
 refine (Shelf.Tryd.stringslite_Index_one a0 c w).mono ?_
 rintro e w' ⟨rfl,rfl⟩
 exact ⟨_,rfl,_,_,Le.refl _,hh,rfl,rfl,rfl⟩
noncomputable def C14:Ctx:={ P:=Tryd.prog,f:=14,N:=23,c:=bodyOf Tryd.f14 }
def S14 (F:List Ch) (H0:Hp) (r:ByteArray × ByteArray × Bool) (v:Value) (H:Hp) (cs:List Ch):Prop:=H0=H∧v=.tuple #[.string r.1,.string r.2.1,.bool r.2.2]∧F=cs
theorem stringslite_Cut_c {w0:World} [GlobI 0 w0] {H:Hp} {F:List Ch} {a0:ByteArray} {a1:ByteArray} {r:ByteArray × ByteArray × Bool} (heq:stringslite_Cut.f a0 a1=some r):CallsH Tryd.prog 14 #[.string a0,.string a1] H w0 (F) (S14 F H r):=by
 refine calls_of_runH (F:=C14) Tryd.func14 (by kernel_rfl) Tryd.ntmps14 (args:=[.string a0,.string a1]) (by kernel_rfl) ?_
 unfold stringslite_Cut.f at heq
 refine Ra 1 [0] [.c [1]]<|Rd 3 [0,1] [(0,.string a0),(1,.string a1)]<|Ra 2 [1,0,0] [.c [1,0,1],.c [1,1]]<|Rk 2 [0,1,8,9] [(0,.string a0),(1,.string a1),(8,.string a0),(9,.string a1)] ?_
 obtain ⟨y1,hy1,heq⟩:=bind_some heq
 refine RgH.does (DoesH.call (d:=10) (g:=28) (args:=#[.string a0,.string a1]) (by kernel_rfl) (stringslite_Index_c (a0:=a0) (a1:=a1)  hy1)) ?_
 rintro _ _ _ _ ⟨_,rfl,rfl,rfl,rfl⟩
 refine Rd 4 [0,1,7] [(0,.string a0),(1,.string a1),(7,iv y1)]<|Ra 1 [1,0,1,0] [.c [1,0,1,1],.c [1,1]]<|Rd 2 [0,1,7,12] [(0,.string a0),(1,.string a1),(7,iv y1),(12,.bool (decide (0≤y1)))] ?_
 rcases bool_cases (decide (0≤y1)) with hb1 | hb1
 ·replace heq:=bif_true hb1 heq
  refine Ct (decide (0≤y1)) hb1<|Ad 1 [.c [1,0,1,1,0,0],.c [1,0,1,1,0,1],.c [1,1]]<|Kp [0,1,7] [(0,.string a0),(1,.string a1),(7,iv y1)] ?_
  refine RunH.draw (fun w=>Heap H w0 w (F)) (fun w=>Heap H w0 w (F)) [3,3,3,3,3,3,3,3,3,3,3,3] (n:=12) (ls:=[false,false,false,false,false,false,false,false,false,false,false,false]) (by kernel_rfl) (by kernel_rfl) (by kernel_rfl) rfl ?_
  obtain ⟨hn1,heq⟩:=guard?_some heq
  obtain ⟨hn2,heq⟩:=guard?_some heq
  refine Dk [0,1,2,3,4,5,6,7,8,9,10,11] 0 (nb 12 4095) [] [.need ((0:Int)≤y1∧y1≤(a0.size:Int)),.need ((0:Int)≤(w64 (y1+(a1.size:Int)))∧(w64 (y1+(a1.size:Int)))≤(a0.size:Int))] [4,5,6] [(4,.string (a0.extract 0 y1.toNat)),(5,.string (a0.extract (w64 (y1+(a1.size:Int))).toNat a0.size)),(6,.bool true)] (Pk 0 []) (Pk 0 []) (fun w hh=>⟨(both_of hn1),(both_of hn2)⟩) ?_
  refine DrH.done (by kernel_rfl) ?_
  obtain rfl:=Option.some.inj heq
  exact RunH.done (by kernel_rfl) Tryd.func14 (v:=.tuple #[.string (a0.extract 0 y1.toNat),.string (a0.extract (w64 (y1+(a1.size:Int))).toNat a0.size),.bool true]) (by kernel_rfl) ⟨rfl,rfl,rfl⟩
 ·replace heq:=bif_false hb1 heq
  refine Cf (decide (0≤y1)) hb1<|Ra 2 [1,1,0] [.c [1,1,1]]<|Rd 4 [4,5,6] [(4,.string a0),(5,.string ({ data:=#[] }:ByteArray)),(6,.bool false)] ?_
  obtain rfl:=Option.some.inj heq
  exact RunH.done (by kernel_rfl) Tryd.func14 (v:=.tuple #[.string a0,.string ({ data:=#[] }:ByteArray),.bool false]) (by kernel_rfl) ⟨rfl,rfl,rfl⟩
noncomputable def C8:Ctx:={ P:=Tryd.prog,f:=8,N:=13,c:=bodyOf Tryd.f8 }
def S8 (F:List Ch) (H0:Hp) (r:ByteArray × ByteArray × Bool) (v:Value) (H:Hp) (cs:List Ch):Prop:=H0=H∧v=.tuple #[.string r.1,.string r.2.1,.bool r.2.2]∧F=cs
theorem strings_Cut_c {w0:World} [GlobI 0 w0] {H:Hp} {F:List Ch} {a0:ByteArray} {a1:ByteArray} {r:ByteArray × ByteArray × Bool} (heq:strings_Cut.f a0 a1=some r):CallsH Tryd.prog 8 #[.string a0,.string a1] H w0 (F) (S8 F H r):=by
 refine calls_of_runH (F:=C8) Tryd.func8 (by kernel_rfl) Tryd.ntmps8 (args:=[.string a0,.string a1]) (by kernel_rfl) ?_
 unfold strings_Cut.f at heq
 refine Ra 1 [0] [.c [1]]<|Rd 3 [0,1] [(0,.string a0),(1,.string a1)]<|Ra 1 [1,0] [.c [1,1]]<|Rk 2 [7,8] [(7,.string a0),(8,.string a1)] ?_
 obtain ⟨y1,hy1,heq⟩:=bind_some heq
 refine RgH.does (DoesH.call (d:=9) (g:=14) (args:=#[.string a0,.string a1]) (by kernel_rfl) (stringslite_Cut_c (a0:=a0) (a1:=a1)  hy1)) ?_
 rintro _ _ _ _ ⟨_,rfl,rfl,rfl,rfl⟩
 refine Rd 9 [4,5,6] [(4,.string y1.1),(5,.string y1.2.1),(6,.bool y1.2.2)] ?_
 obtain rfl:=Option.some.inj heq
 exact RunH.done (by kernel_rfl) Tryd.func8 (v:=.tuple #[.string y1.1,.string y1.2.1,.bool y1.2.2]) (by kernel_rfl) ⟨rfl,rfl,rfl⟩
theorem pred32 (W:World) (x:Nat):FnGives Tryd.prog 32 #[] #[.int .i32 (x:Int)] (.bool (badR x)) W:=by
 unfold FnGives badR
 go_enter Tryd.func32,Tryd.ntmps32
 go_wp2
 all_goals (go_ret; exact ⟨rfl,0,rfl⟩)
def S31 (F:List Ch) (H0:Hp) (r:Bool) (v:Value) (H:Hp) (cs:List Ch):Prop:=H0=H∧v=.bool r∧F=cs
theorem strings_ContainsFunc_c {w0:World} [GlobI 0 w0] {H:Hp} {F:List Ch} {a0:ByteArray} {r:Bool} (heq:strings_ContainsFunc.f a0=some r):CallsH Tryd.prog 31 #[.string a0,.func (.func 32) #[] #[]] H w0 F (S31 F H r):=by
 intro w hh
 unfold strings_ContainsFunc.f at heq
 obtain rfl:=Option.some.inj heq
 refine (Shelf.Tryd.strings_ContainsFunc 32 #[] (enters_of Tryd.func32 (by kernel_rfl) rfl) badR a0 w (fun W x _=>pred32 W x)).mono ?_
 rintro e w' ⟨rfl,hb⟩
 rw [bad_eq]
 exact ⟨_,rfl,_,_,Le.refl _,hh.later hb,rfl,rfl,rfl⟩
noncomputable def C18:Ctx:={ P:=Tryd.prog,f:=18,N:=10,c:=bodyOf Tryd.f18 }
def S18 (F:List Ch) (H0:Hp) (r:Bool) (v:Value) (H:Hp) (cs:List Ch):Prop:=H0=H∧v=.bool r∧F=cs
theorem trials_isWord_c {w0:World} [GlobI 0 w0] {H:Hp} {F:List Ch} {a0:ByteArray} {r:Bool} (heq:trials_isWord.f a0=some r):CallsH Tryd.prog 18 #[.string a0] H w0 (F) (S18 F H r):=by
 refine calls_of_runH (F:=C18) Tryd.func18 (by kernel_rfl) Tryd.ntmps18 (args:=[.string a0]) (by kernel_rfl) ?_
 unfold trials_isWord.f at heq
 refine Ra 1 [0] [.c [1]]<|Rd 1 [0] [(0,.string a0)]<|Ad 1 [.c [1,0],.c [1,1]] ?_
 obtain ⟨t1,ht1,heq⟩:=bind_some heq
 have K1:RunH C18 (S18 F H r) H w0 [.c [1,1]] [(2,.bool t1)] H (F):=by
  obtain rfl:=Option.some.inj heq
  exact RunH.done (by kernel_rfl) Tryd.func18 (v:=.bool t1) (by kernel_rfl) ⟨rfl,rfl,rfl⟩
 replace heq:=ht1
 refine Rr<|Rk 3 [5,0] [(5,.bool (!sEq a0 ({ data:=#[] }:ByteArray))),(0,.string a0)] ?_
 rcases bool_cases (!sEq a0 ({ data:=#[] }:ByteArray)) with hb1 | hb1
 ·replace heq:=bif_true hb1 heq
  refine RgH.val1 (v':=.bool true) (congrArg Value.bool hb1) ?_
  refine Rk 4 [5,6] [(5,.bool true),(6,.string a0)] ?_
  obtain ⟨y1,hy1,heq⟩:=bind_some heq
  refine RgH.does (DoesH.call (d:=7) (g:=31) (args:=#[.string a0,.func (.func 32) #[] #[]]) (by kernel_rfl) (strings_ContainsFunc_c (a0:=a0)  hy1)) ?_
  rintro _ _ _ _ ⟨_,rfl,rfl,rfl,rfl⟩
  refine Rk 8 [2] [(2,.bool (!y1))] ?_
  obtain rfl:=Option.some.inj heq
  refine Kg [2] [(2,.bool (!y1))]<|Dn ?_
  exact K1
 ·replace heq:=bif_false hb1 heq
  refine RgH.val1 (v':=.bool false) (congrArg Value.bool hb1) ?_
  refine Rk 8 [2] [(2,.bool false)] ?_
  obtain rfl:=Option.some.inj heq
  refine Kg [2] [(2,.bool false)]<|Dn ?_
  exact K1
noncomputable def C17:Ctx:={ P:=Tryd.prog,f:=17,N:=6,c:=bodyOf Tryd.f17 }
def S17 (F:List Ch) (H0:Hp) (r:Bool) (v:Value) (H:Hp) (cs:List Ch):Prop:=H0=H∧v=.bool r∧F=cs
theorem trials_readRun_1_c {w0:World} [GlobI 0 w0] {H:Hp} {F:List Ch} {a0:ByteArray} {r:Bool} (heq:trials_readRun_1.f a0=some r):CallsH Tryd.prog 17 #[.string a0] H w0 (F) (S17 F H r):=by
 refine calls_of_runH (F:=C17) Tryd.func17 (by kernel_rfl) Tryd.ntmps17 (args:=[.string a0]) (by kernel_rfl) ?_
 unfold trials_readRun_1.f at heq
 refine Ra 1 [0] [.c [1]]<|Rd 1 [0] [(0,.string a0)]<|Ra 1 [1,0] [.c [1,1]]<|Rk 1 [3] [(3,.string a0)] ?_
 obtain ⟨y1,hy1,heq⟩:=bind_some heq
 refine RgH.does (DoesH.call (d:=4) (g:=18) (args:=#[.string a0]) (by kernel_rfl) (trials_isWord_c (a0:=a0)  hy1)) ?_
 rintro _ _ _ _ ⟨_,rfl,rfl,rfl,rfl⟩
 refine Rd 4 [2] [(2,.bool (!y1))] ?_
 obtain rfl:=Option.some.inj heq
 exact RunH.done (by kernel_rfl) Tryd.func17 (v:=.bool (!y1)) (by kernel_rfl) ⟨rfl,rfl,rfl⟩
noncomputable def C30:Ctx:={ P:=Tryd.prog,f:=30,N:=19,c:=bodyOf Tryd.f30 }
def S30 (F:List Ch) (H0:Hp) (r:Int) (v:Value) (H:Hp) (cs:List Ch):Prop:=H0=H∧v=iv r∧F=cs
theorem slices_IndexFunc_string.e1_c {w0:World} [GlobI 0 w0] {H:Hp} {F:List Ch} {r:Int}:slices_IndexFunc_string.e1=some r→RunH C30 (S30 F H r) H w0 [.c [1,1,0],.c [1,1,1]] [] H (F):=by
 intro   heq
 unfold slices_IndexFunc_string.e1 at heq
 refine Rr<|Rd 1 [4] [(4,iv (-1))] ?_
 obtain rfl:=Option.some.inj heq
 exact RunH.done (by kernel_rfl) Tryd.func30 (v:=iv (-1)) (by kernel_rfl) ⟨rfl,rfl,rfl⟩
theorem slices_IndexFunc_string.l2_c {w0:World} [GlobI 0 w0] {H:Hp} {F:List Ch} {r:Int} (e1:Option Int)
  (he1:e1=some r→RunH C30 (S30 F H r) H w0 [.c [1,1,0],.c [1,1,1]] [] H (F)):∀ (k:Nat),∀ (a0:List ByteArray) (Aa0:Option Addr) (ca0:Nat) (v8:Int) ,Rw Kd.string H F Aa0 a0→a0.length≤ca0→slices_IndexFunc_string.l2 e1 k a0 v8=some r→RunH C30 (S30 F H r) H w0 [.c [1,0,1,0,0],.l [1,0,1,0,0],.b 0,.c [1,1]] [(0,.slice Aa0 a0.length ca0),(1,.func (.func 17) #[] #[]),(7,iv (a0.length:Int)),(8,iv v8)] H (F):=by
 intro k
 induction k with
 | zero=>intro a0 Aa0 ca0 v8 hra0 hca0 heq; exact nomatch (show (none:Option Int)=some r from heq)
 | succ k ihk =>
  intro a0 Aa0 ca0 v8 hra0 hca0 heq
  rw [slices_IndexFunc_string.l2] at heq
  refine Ra 1 [1,0,1,0,0,0] [.c [1,0,1,0,0,1],.l [1,0,1,0,0],.b 0,.c [1,1]]<|Rd 1 [0,1,7,8,9] [(0,.slice Aa0 a0.length ca0),(1,.func (.func 17) #[] #[]),(7,iv (a0.length:Int)),(8,iv v8),(9,.bool (decide (v8<(a0.length:Int))))]<|Ad 1 [.c [1,0,1,0,0,1,0],.c [1,0,1,0,0,1,1],.l [1,0,1,0,0],.b 0,.c [1,1]] ?_
  rcases bool_cases (decide (v8<(a0.length:Int))) with hb1 | hb1
  ·replace heq:=bif_true hb1 heq
   refine Ct (decide (v8<(a0.length:Int))) hb1<|Ra 4 [1,0,1,0,0,1,1,0,0,0] [.c [1,0,1,0,0,1,1,0,0,1],.b 1,.c [1,0,1,0,0,1,1,1],.l [1,0,1,0,0],.b 0,.c [1,1]]<|Rd 2 [0,1,5,7,8] [(0,.slice Aa0 a0.length ca0),(1,.func (.func 17) #[] #[]),(5,iv v8),(7,iv (a0.length:Int)),(8,iv v8)]<|Ra 1 [1,0,1,0,0,1,1,0,0,1,0] [.c [1,0,1,0,0,1,1,0,0,1,1],.b 1,.c [1,0,1,0,0,1,1,1],.l [1,0,1,0,0],.b 0,.c [1,1]] ?_
   obtain ⟨x1,hx1,heq⟩:=bind_some heq
   obtain ⟨ha1,cs1,hK1,hcc1⟩:=hra0.get hx1
   obtain rfl:cs1=[.string x1]:=hK1
   refine Rv 5 [0,1,5,7,8,11,15] [.string x1] [.need (Aa0=some (adr Aa0)∧(0:Int)≤v8∧v8<((a0.length:Nat):Int)),.load ((adr Aa0).add (v8.toNat*1)) (.string x1)] [(0,.slice Aa0 a0.length ca0),(1,.func (.func 17) #[] #[]),(5,iv v8),(7,iv (a0.length:Int)),(8,iv v8),(11,.func (.func 17) #[] #[]),(15,.string x1)] (fun w hh=>⟨⟨ha1,(at?_some hx1).1,(at?_some hx1).2.1⟩,(hcc1 _ _ (hh.drop 0) 0 _ rfl)⟩) ?_
   obtain ⟨y1,hy1,heq⟩:=bind_some heq
   refine RgH.does (DoesH.call (d:=16) (g:=17) (args:=#[.string x1]) (by kernel_rfl) (trials_readRun_1_c (a0:=x1)  hy1)) ?_
   rintro _ _ _ _ ⟨_,rfl,rfl,rfl,rfl⟩
   refine Dn ?_
   rcases bool_cases (y1) with hb2 | hb2
   ·replace heq:=bif_true hb2 heq
    refine Ct y1 hb2<|Ra 1 [1,0,1,0,0,1,1,0,0,1,1,0,0] [.c [1,0,1,0,0,1,1,0,0,1,1,0,1],.b 1,.c [1,0,1,0,0,1,1,1],.l [1,0,1,0,0],.b 0,.c [1,1]]<|Rd 2 [4] [(4,iv v8)] ?_
    obtain rfl:=Option.some.inj heq
    exact RunH.done (by kernel_rfl) Tryd.func30 (v:=iv v8) (by kernel_rfl) ⟨rfl,rfl,rfl⟩
   ·replace heq:=bif_false hb2 heq
    refine Cf y1 hb2<|Ra 2 [1,0,1,0,0,1,1,1] [.l [1,0,1,0,0],.b 0,.c [1,1]]<|Rd 2 [0,1,7,8] [(0,.slice Aa0 a0.length ca0),(1,.func (.func 17) #[] #[]),(7,iv (a0.length:Int)),(8,iv (w64 (v8+1)))]<|Ad 1 [.c [1,0,1,0,0],.l [1,0,1,0,0],.b 0,.c [1,1]]<|Kp [0,1,7,8] [(0,.slice Aa0 a0.length ca0),(1,.func (.func 17) #[] #[]),(7,iv (a0.length:Int)),(8,iv (w64 (v8+1)))] ?_
    exact ihk a0 _ _ (w64 (v8+1)) hra0 hca0 heq
  ·replace heq:=bif_false hb1 heq
   refine Cf (decide (v8<(a0.length:Int))) hb1<|Ad 2 [.c [1,1,0],.c [1,1,1]]<|Kp [] [] ?_
   exact he1 heq
theorem slices_IndexFunc_string_c {w0:World} [GlobI 0 w0] {H:Hp} {F:List Ch} {a0:List ByteArray} {Aa0:Option Addr} {na0:Nat} {ca0:Nat} {r:Int} (hra0:Rw Kd.string H F Aa0 a0) (hca0:na0≤ca0) (hna0:na0=a0.length) (heq:slices_IndexFunc_string.f a0=some r):CallsH Tryd.prog 30 #[.slice Aa0 na0 ca0,.func (.func 17) #[] #[]] H w0 (F) (S30 F H r):=by
 refine calls_of_runH (F:=C30) Tryd.func30 (by kernel_rfl) Tryd.ntmps30 (args:=[.slice Aa0 na0 ca0,.func (.func 17) #[] #[]]) (by kernel_rfl) ?_
 subst hna0
 unfold slices_IndexFunc_string.f at heq
 refine Ra 1 [0] [.c [1]]<|Rd 1 [0,1] [(0,.slice Aa0 a0.length ca0),(1,.func (.func 17) #[] #[])]<|Ra 2 [1,0,0] [.c [1,0,1],.c [1,1]]<|Rd 3 [0,1,7,8] [(0,.slice Aa0 a0.length ca0),(1,.func (.func 17) #[] #[]),(7,iv (a0.length:Int)),(8,iv 0)]<|Ad 2 [.c [1,0,1,0,0],.l [1,0,1,0,0],.b 0,.c [1,1]]<|Kp [0,1,7,8] [(0,.slice Aa0 a0.length ca0),(1,.func (.func 17) #[] #[]),(7,iv (a0.length:Int)),(8,iv 0)] ?_
 exact ((slices_IndexFunc_string.l2_c (e1:=slices_IndexFunc_string.e1) (slices_IndexFunc_string.e1_c)) big) a0 _ _ 0 hra0 hca0 heq
noncomputable def C16:Ctx:={ P:=Tryd.prog,f:=16,N:=9,c:=bodyOf Tryd.f16 }
def S16 (F:List Ch) (H0:Hp) (r:Bool) (v:Value) (H:Hp) (cs:List Ch):Prop:=H0=H∧v=.bool r∧F=cs
theorem slices_ContainsFunc_string_c {w0:World} [GlobI 0 w0] {H:Hp} {F:List Ch} {a0:List ByteArray} {Aa0:Option Addr} {na0:Nat} {ca0:Nat} {r:Bool} (hra0:Rw Kd.string H F Aa0 a0) (hca0:na0≤ca0) (hna0:na0=a0.length) (heq:slices_ContainsFunc_string.f a0=some r):CallsH Tryd.prog 16 #[.slice Aa0 na0 ca0,.func (.func 17) #[] #[]] H w0 (F) (S16 F H r):=by
 refine calls_of_runH (F:=C16) Tryd.func16 (by kernel_rfl) Tryd.ntmps16 (args:=[.slice Aa0 na0 ca0,.func (.func 17) #[] #[]]) (by kernel_rfl) ?_
 subst hna0
 unfold slices_ContainsFunc_string.f at heq
 refine Ra 1 [0] [.c [1]]<|Rd 1 [0,1] [(0,.slice Aa0 a0.length ca0),(1,.func (.func 17) #[] #[])]<|Ra 1 [1,0] [.c [1,1]]<|Rk 2 [5,6] [(5,.slice Aa0 a0.length ca0),(6,.func (.func 17) #[] #[])] ?_
 obtain ⟨y1,hy1,heq⟩:=bind_some heq
 refine RgH.does (DoesH.call (d:=7) (g:=30) (args:=#[.slice Aa0 a0.length ca0,.func (.func 17) #[] #[]]) (by kernel_rfl) (slices_IndexFunc_string_c (a0:=a0) hra0 hca0 rfl hy1)) ?_
 rintro _ _ _ _ ⟨_,rfl,rfl,rfl,rfl⟩
 refine Rd 5 [4] [(4,.bool (decide (0≤y1)))] ?_
 obtain rfl:=Option.some.inj heq
 exact RunH.done (by kernel_rfl) Tryd.func16 (v:=.bool (decide (0≤y1))) (by kernel_rfl) ⟨rfl,rfl,rfl⟩
def S34 (F:List Ch) (H0:Hp) (r:Int) (v:Value) (H:Hp) (cs:List Ch):Prop:=H0=H∧v=.tuple #[iv r,.nilIface]∧F=cs
theorem strconv_Atoi_c {w0:World} [GlobI 0 w0] {H:Hp} {F:List Ch} {a0:ByteArray} {r:Int} (heq:strconv_Atoi.f a0=some r):CallsH Tryd.prog 34 #[.string a0] H w0 F (S34 F H r):=by
 intro w hh
 unfold strconv_Atoi.f at heq
 obtain ⟨hn,heq⟩:=guard?_some heq
 refine (Shelf.Tryd.strconv_Atoi a0 r (of_decide_eq_true hn) heq w).mono ?_
 rintro e w' ⟨rfl,t,rfl⟩
 exact ⟨_,rfl,_,_,Le.refl _,hh.later (Lib.bytesWorld_below _ _ _),rfl,rfl,rfl⟩
noncomputable def C19:Ctx:={ P:=Tryd.prog,f:=19,N:=34,c:=bodyOf Tryd.f19 }
def S19 (F:List Ch) (H0:Hp) (r:Int × Bool) (v:Value) (H:Hp) (cs:List Ch):Prop:=H0=H∧v=.tuple #[iv r.1,.bool r.2]∧F=cs
theorem trials_number_c {w0:World} [GlobI 0 w0] {H:Hp} {F:List Ch} {a0:ByteArray} {r:Int × Bool} (heq:trials_number.f a0=some r):CallsH Tryd.prog 19 #[.string a0] H w0 (F) (S19 F H r):=by
 refine calls_of_runH (F:=C19) Tryd.func19 (by kernel_rfl) Tryd.ntmps19 (args:=[.string a0]) (by kernel_rfl) ?_
 unfold trials_number.f at heq
 refine Ra 1 [0] [.c [1]]<|Rd 2 [0] [(0,.string a0)]<|Ad 2 [.c [1,0,0],.c [1,0,1],.c [1,1]] ?_
 obtain ⟨t1,ht1,heq⟩:=bind_some heq
 have K1:RunH C19 (S19 F H r) H w0 [.c [1,0,1],.c [1,1]] [(0,.string a0),(27,.bool t1)] H (F):=by
  rcases bool_cases (t1) with hb5 | hb5
  ·replace heq:=bif_true hb5 heq
   refine Ct t1 hb5<|Ra 1 [1,0,1,0,0] [.c [1,0,1,0,1],.c [1,1]]<|Rd 2 [2,3] [(2,iv 0),(3,.bool false)] ?_
   obtain rfl:=Option.some.inj heq
   exact RunH.done (by kernel_rfl) Tryd.func19 (v:=.tuple #[iv 0,.bool false]) (by kernel_rfl) ⟨rfl,rfl,rfl⟩
  ·replace heq:=bif_false hb5 heq
   refine Cf t1 hb5<|Ra 2 [1,1,0] [.c [1,1,1]]<|Rk 1 [29] [(29,.string a0)] ?_
   obtain ⟨y2,hy2,heq⟩:=bind_some heq
   refine RgH.does (DoesH.call (d:=30) (g:=34) (args:=#[.string a0]) (by kernel_rfl) (strconv_Atoi_c (a0:=a0)  hy2)) ?_
   rintro _ _ _ _ ⟨_,rfl,rfl,rfl,rfl⟩
   refine Rd 7 [4] [(4,iv y2)]<|Ra 1 [1,1,1,0] [.c [1,1,1,1]]<|Rd 3 [2,3] [(2,iv y2),(3,.bool true)] ?_
   obtain rfl:=Option.some.inj heq
   exact RunH.done (by kernel_rfl) Tryd.func19 (v:=.tuple #[iv y2,.bool true]) (by kernel_rfl) ⟨rfl,rfl,rfl⟩
 replace heq:=ht1
 refine Rr<|Rk 4 [9,0] [(9,.bool (decide ((a0.size:Int)<1))),(0,.string a0)] ?_
 rcases bool_cases (decide ((a0.size:Int)<1)) with hb1 | hb1
 ·replace heq:=bif_true hb1 heq
  refine RgH.val1 (v':=.bool true) (congrArg Value.bool hb1) ?_
  refine Rk 22 [0,27] [(0,.string a0),(27,.bool true)] ?_
  obtain rfl:=Option.some.inj heq
  refine Kg [0,27] [(0,.string a0),(27,.bool true)]<|Dn ?_
  exact K1
 ·replace heq:=bif_false hb1 heq
  refine RgH.val1 (v':=.bool false) (congrArg Value.bool hb1) ?_
  refine Rk 9 [14,0] [(14,.bool (decide (10<(a0.size:Int)))),(0,.string a0)] ?_
  rcases bool_cases (decide (10<(a0.size:Int))) with hb2 | hb2
  ·replace heq:=bif_true hb2 heq
   refine RgH.val1 (v':=.bool true) (congrArg Value.bool hb2) ?_
   refine Rk 22 [0,27] [(0,.string a0),(27,.bool true)] ?_
   obtain rfl:=Option.some.inj heq
   refine Kg [0,27] [(0,.string a0),(27,.bool true)]<|Dn ?_
   exact K1
  ·replace heq:=bif_false hb2 heq
   refine RgH.val1 (v':=.bool false) (congrArg Value.bool hb2) ?_
   refine Rk 10 [0,14,15] [(0,.string a0),(14,.bool false),(15,.string a0)] ?_
   obtain ⟨y1,hy1,heq⟩:=bind_some heq
   refine RgH.does (DoesH.call (d:=16) (g:=33) (args:=#[.string a0,.string ({ data:=#[48,49,50,51,52,53,54,55,56,57] }:ByteArray)]) (by kernel_rfl) (strings_Trim_c (a0:=a0) (a1:=({ data:=#[48,49,50,51,52,53,54,55,56,57] }:ByteArray))  hy1)) ?_
   rintro _ _ _ _ ⟨_,rfl,rfl,rfl,rfl⟩
   refine Rk 14 [19,0] [(19,.bool (!sEq y1 ({ data:=#[] }:ByteArray))),(0,.string a0)] ?_
   rcases bool_cases (!sEq y1 ({ data:=#[] }:ByteArray)) with hb3 | hb3
   ·replace heq:=bif_true hb3 heq
    refine RgH.val1 (v':=.bool true) (congrArg Value.bool hb3) ?_
    refine Rk 22 [0,27] [(0,.string a0),(27,.bool true)] ?_
    obtain rfl:=Option.some.inj heq
    refine Kg [0,27] [(0,.string a0),(27,.bool true)]<|Dn ?_
    exact K1
   ·replace heq:=bif_false hb3 heq
    refine RgH.val1 (v':=.bool false) (congrArg Value.bool hb3) ?_
    obtain ⟨hn1,heq⟩:=guard?_some heq
    refine Rv 18 [23,0,19] [] [.need ((0:Int)≤0∧0<(a0.size:Int))] [(23,.bool ((bt a0 0) == 48)),(0,.string a0),(19,.bool false)] (fun w hh=>(both_of hn1)) ?_
    rcases bool_cases ((bt a0 0) == 48) with hb4 | hb4
    ·replace heq:=bif_true hb4 heq
     refine RgH.val1 (v':=.bool true) (congrArg Value.bool hb4) ?_
     refine Rk 22 [0,27] [(0,.string a0),(27,.bool (!sEq a0 ({ data:=#[48] }:ByteArray)))] ?_
     obtain rfl:=Option.some.inj heq
     refine Kg [0,27] [(0,.string a0),(27,.bool (!sEq a0 ({ data:=#[48] }:ByteArray)))]<|Dn ?_
     exact K1
    ·replace heq:=bif_false hb4 heq
     refine RgH.val1 (v':=.bool false) (congrArg Value.bool hb4) ?_
     refine Rk 22 [0,27] [(0,.string a0),(27,.bool false)] ?_
     obtain rfl:=Option.some.inj heq
     refine Kg [0,27] [(0,.string a0),(27,.bool false)]<|Dn ?_
     exact K1
noncomputable def C9:Ctx:={ P:=Tryd.prog,f:=9,N:=62,c:=bodyOf Tryd.f9 }
def S9 (F:List Ch) (H0:Hp) (r:TestRun × Bool) (v:Value) (H:Hp) (cs:List Ch):Prop:=H0=H∧v=.tuple #[.agg #[.string r.1.Test,.string r.1.Key,iv r.1.At,.bool r.1.Pass,iv r.1.Seconds],.bool r.2]∧F=cs
theorem trials_readRun_c {w0:World} [GlobI 0 w0] {H:Hp} {F:List Ch} {a0:ByteArray} {r:TestRun × Bool} (heq:trials_readRun.f a0=some r):CallsH Tryd.prog 9 #[.string a0] H w0 (F) (S9 F H r):=by
 refine calls_of_runH (F:=C9) Tryd.func9 (by kernel_rfl) Tryd.ntmps9 (args:=[.string a0]) (by kernel_rfl) ?_
 unfold trials_readRun.f at heq
 refine Ra 1 [0] [.c [1]] ?_
 refine RgH.does (DoesH.new (d:=2) (v:=fun g=>.pointer (some ⟨g,0,none⟩)) (o:=fun g=>.cells #[.string ByteArray.empty,.string ByteArray.empty,iv 0,.bool false,iv 0] 28 (0,0)) (fun g=>by kernel_rfl)) ?_
 rintro _ _ _ _ ⟨g1,rfl,rfl,rfl⟩
 refine Rd 2 [0,2] [(0,.string a0),(2,pg g1 0)]<|Ra 1 [1,0] [.c [1,1]]<|Rk 1 [2,9] [(2,pg g1 0),(9,.string a0)] ?_
 obtain ⟨y1,hy1,heq⟩:=bind_some heq
 refine RgH.does (DoesH.call (d:=10) (g:=15) (args:=#[.string a0,.string ({ data:=#[32] }:ByteArray)]) (by kernel_rfl) (strings_Split_c (a0:=a0) (a1:=({ data:=#[32] }:ByteArray))  hy1)) ?_
 rintro _ _ _ _ ⟨_,rfl,A1,c1,ch1,rfl,rfl,rfl,ho1⟩
 refine Rd 3 [2,4] [(2,pg g1 0),(4,.slice A1 y1.length c1)]<|Ad 2 [.c [1,1,0,0],.c [1,1,0,1],.c [1,1,1]] ?_
 obtain ⟨t1,ht1,heq⟩:=bind_some heq
 have K3:RunH C9 (S9 F H r) H w0 [.c [1,1,0,1],.c [1,1,1]] [(2,pg g1 0),(4,.slice A1 y1.length c1),(29,.bool t1)] H (ch1::(some (g1,.cells #[.string ByteArray.empty,.string ByteArray.empty,iv 0,.bool false,iv 0] 28 (0,0)))::F):=by
  rcases bool_cases (t1) with hb4 | hb4
  ·replace heq:=bif_true hb4 heq
   refine Ct t1 hb4<|Ra 1 [1,1,0,1,0,0] [.c [1,1,0,1,0,1],.c [1,1,1]]<|Rk 1 [2,30] [(2,pg g1 0),(30,.agg #[.string ByteArray.empty,.string ByteArray.empty,iv 0,.bool false,iv 0])] ?_
   refine RgH.does (DoesH.store (k:=1) (g:=g1) (off:=0) (v:=.agg #[.string ByteArray.empty,.string ByteArray.empty,iv 0,.bool false,iv 0]) (cells':=#[.string ByteArray.empty,.string ByteArray.empty,iv 0,.bool false,iv 0]) (by kernel_rfl) rfl (by kernel_rfl) (by kernel_rfl)) ?_
   rintro _ _ _ _ ⟨rfl,rfl,rfl⟩
   refine Rd 3 [2,3] [(2,pg g1 0),(3,.bool false)] ?_
   obtain rfl:=Option.some.inj heq
   refine RunH.pick 2 [1] (cs':=(some (g1,.cells #[.string ByteArray.empty,.string ByteArray.empty,iv 0,.bool false,iv 0] 28 (0,0)))::F) (by kernel_rfl) rfl ?_
   exact RunH.doneM' 1 (vs:=[.agg #[.string ByteArray.empty,.string ByteArray.empty,iv 0,.bool false,iv 0],.bool false]) (v:=.tuple #[.agg #[.string ByteArray.empty,.string ByteArray.empty,iv 0,.bool false,iv 0],.bool false]) (by kernel_rfl) Tryd.func9 (fun w hh=>show ResAll _ _ _ [.cell 2 28,.tmp 3] _ from ⟨⟨⟨g1,0,none⟩,by kernel_rfl,trS_run _ (vs:=[.string ByteArray.empty,.string ByteArray.empty,iv 0,.bool false,iv 0]) (r:=[]) (es:=[.load ⟨g1,0,none⟩ (.string ByteArray.empty),.load ⟨g1,1,none⟩ (.string ByteArray.empty),.load ⟨g1,2,none⟩ (iv 0),.load ⟨g1,3,none⟩ (.bool false),.load ⟨g1,4,none⟩ (iv 0)]) (by kernel_rfl) ⟨(hh.box 0 rfl rfl),(hh.box 0 rfl rfl),(hh.box 0 rfl rfl),(hh.box 0 rfl rfl),(hh.box 0 rfl rfl)⟩⟩,(show lk _ _=some _ by kernel_rfl),trivial⟩) rfl (cs':=F) rfl ⟨rfl,rfl,rfl⟩
  ·replace heq:=bif_false hb4 heq
   refine Cf t1 hb4<|Ra 2 [1,1,1,0] [.c [1,1,1,1]] ?_
   obtain ⟨x2,hx2,heq⟩:=bind_some heq
   obtain ⟨ha3,cs3,hK3,hcc3⟩:=ho1.get hx2
   obtain rfl:cs3=[.string x2]:=hK3
   refine Rv 3 [2,4,34] [.string x2] [.need (A1=some (adr A1)∧(0:Int)≤0∧0<((y1.length:Nat):Int)),.load ((adr A1).add (0*1)) (.string x2)] [(2,pg g1 0),(4,.slice A1 y1.length c1),(34,.string x2)] (fun w hh=>⟨⟨ha3,(at?_some hx2).1,(at?_some hx2).2.1⟩,(hcc3 _ (hh.chin 0 rfl) 0 _ rfl)⟩) ?_
   obtain ⟨y3,hy3,heq⟩:=bind_some heq
   refine RgH.does (DoesH.call (d:=35) (g:=19) (args:=#[.string x2]) (by kernel_rfl) (trials_number_c (a0:=x2)  hy3)) ?_
   rintro _ _ _ _ ⟨_,rfl,rfl,rfl,rfl⟩
   refine Rd 9 [2,4,5,6] [(2,pg g1 0),(4,.slice A1 y1.length c1),(5,iv y3.1),(6,.bool y3.2)]<|Ra 1 [1,1,1,1,0] [.c [1,1,1,1,1]] ?_
   obtain ⟨x3,hx3,heq⟩:=bind_some heq
   obtain ⟨ha4,cs4,hK4,hcc4⟩:=ho1.get hx3
   obtain rfl:cs4=[.string x3]:=hK4
   refine Rv 3 [2,4,5,6,41] [.string x3] [.need (A1=some (adr A1)∧(0:Int)≤4∧4<((y1.length:Nat):Int)),.load ((adr A1).add (4*1)) (.string x3)] [(2,pg g1 0),(4,.slice A1 y1.length c1),(5,iv y3.1),(6,.bool y3.2),(41,.string x3)] (fun w hh=>⟨⟨ha4,(at?_some hx3).1,(at?_some hx3).2.1⟩,(hcc4 _ (hh.chin 0 rfl) 0 _ rfl)⟩) ?_
   obtain ⟨y4,hy4,heq⟩:=bind_some heq
   refine RgH.does (DoesH.call (d:=42) (g:=19) (args:=#[.string x3]) (by kernel_rfl) (trials_number_c (a0:=x3)  hy4)) ?_
   rintro _ _ _ _ ⟨_,rfl,rfl,rfl,rfl⟩
   refine Rd 9 [2,4,5,6,7,8] [(2,pg g1 0),(4,.slice A1 y1.length c1),(5,iv y3.1),(6,.bool y3.2),(7,iv y4.1),(8,.bool y4.2)]<|Ad 1 [.c [1,1,1,1,1,0],.c [1,1,1,1,1,1]] ?_
   obtain ⟨t2,ht2,heq⟩:=bind_some heq
   have K4:RunH C9 (S9 F H r) H w0 [.c [1,1,1,1,1,1]] [(2,pg g1 0),(3,.bool t2.2.2.2)] H ((some (g1,.cells #[.string t2.1,.string t2.2.1,iv y3.1,.bool t2.2.2.1,iv y4.1] 28 (0,0)))::F):=by
    obtain rfl:=Option.some.inj heq
    exact RunH.doneM' 1 (vs:=[.agg #[.string t2.1,.string t2.2.1,iv y3.1,.bool t2.2.2.1,iv y4.1],.bool t2.2.2.2]) (v:=.tuple #[.agg #[.string t2.1,.string t2.2.1,iv y3.1,.bool t2.2.2.1,iv y4.1],.bool t2.2.2.2]) (by kernel_rfl) Tryd.func9 (fun w hh=>show ResAll _ _ _ [.cell 2 28,.tmp 3] _ from ⟨⟨⟨g1,0,none⟩,by kernel_rfl,trS_run _ (vs:=[.string t2.1,.string t2.2.1,iv y3.1,.bool t2.2.2.1,iv y4.1]) (r:=[]) (es:=[.load ⟨g1,0,none⟩ (.string t2.1),.load ⟨g1,1,none⟩ (.string t2.2.1),.load ⟨g1,2,none⟩ (iv y3.1),.load ⟨g1,3,none⟩ (.bool t2.2.2.1),.load ⟨g1,4,none⟩ (iv y4.1)]) (by kernel_rfl) ⟨(hh.box 0 rfl rfl),(hh.box 0 rfl rfl),(hh.box 0 rfl rfl),(hh.box 0 rfl rfl),(hh.box 0 rfl rfl)⟩⟩,(show lk _ _=some _ by kernel_rfl),trivial⟩) rfl (cs':=F) rfl ⟨rfl,rfl,rfl⟩
   replace heq:=ht2
   refine Kp [2,4,5,6,7,8] [(2,pg g1 0),(4,.slice A1 y1.length c1),(5,iv y3.1),(6,.bool y3.2),(7,iv y4.1),(8,.bool y4.2)] ?_
   refine RunH.draw (fun w=>Heap H w0 w (ch1::(some (g1,.cells #[.string ByteArray.empty,.string ByteArray.empty,iv 0,.bool false,iv 0] 28 (0,0)))::F)) (fun w=>Heap H w0 w (ch1::F)) [3,3,3,3,3,3,3,3,3,3,3,3,3,3,3,3,3,1,3] (n:=19) (ls:=[false,false,false,false,false,false,false,false,false,false,false,false,false,false,false,false,false,false,false]) (by kernel_rfl) (by kernel_rfl) (by kernel_rfl) rfl ?_
   obtain ⟨x4,hx4,heq⟩:=bind_some heq
   obtain ⟨ha5,cs5,hK5,hcc5⟩:=ho1.get hx4
   obtain rfl:cs5=[.string x4]:=hK5
   obtain ⟨x5,hx5,heq⟩:=bind_some heq
   obtain ⟨ha6,cs6,hK6,hcc6⟩:=ho1.get hx5
   obtain rfl:cs6=[.string x5]:=hK6
   obtain ⟨x6,hx6,heq⟩:=bind_some heq
   obtain ⟨ha7,cs7,hK7,hcc7⟩:=ho1.get hx6
   obtain rfl:cs7=[.string x6]:=hK7
   refine Dk [0,1,2,3,4,5,6,7,8,9,10,11,12] 6 (nb 19 8191) [.string x4,.string x5,.string x6] [.need (A1=some (adr A1)∧(0:Int)≤1∧1<((y1.length:Nat):Int)),.load ((adr A1).add (1*1)) (.string x4),.need (A1=some (adr A1)∧(0:Int)≤2∧2<((y1.length:Nat):Int)),.load ((adr A1).add (2*1)) (.string x5),.need (A1=some (adr A1)∧(0:Int)≤3∧3<((y1.length:Nat):Int)),.load ((adr A1).add (3*1)) (.string x6)] [2,6,8,57] [(2,pg g1 0),(6,.bool y3.2),(8,.bool y4.2),(57,.agg #[.string x4,.string x5,iv y3.1,.bool (sEq x6 ({ data:=#[112,97,115,115] }:ByteArray)),iv y4.1])] (Pk 2 [0,1]) (Pk 2 [0]) (fun w hh=>⟨⟨ha5,(at?_some hx4).1,(at?_some hx4).2.1⟩,(hcc5 _ (hh.chin 0 rfl) 0 _ rfl),⟨ha6,(at?_some hx5).1,(at?_some hx5).2.1⟩,(hcc6 _ (hh.chin 0 rfl) 0 _ rfl),⟨ha7,(at?_some hx6).1,(at?_some hx6).2.1⟩,(hcc7 _ (hh.chin 0 rfl) 0 _ rfl)⟩)<|De [13] 5 (nb 19 16383) [] [] [2,8,57,58] [(2,pg g1 0),(8,.bool y4.2),(57,.agg #[.string x4,.string x5,iv y3.1,.bool (sEq x6 ({ data:=#[112,97,115,115] }:ByteArray)),iv y4.1]),(58,.bool y3.2)] (Pk 2 [0]) (fun _ _=>trivial)<|Dk [14] 4 (nb 19 32767) [] [] [59,2,8,57] [(59,.bool y3.2),(2,pg g1 0),(8,.bool y4.2),(57,.agg #[.string x4,.string x5,iv y3.1,.bool (sEq x6 ({ data:=#[112,97,115,115] }:ByteArray)),iv y4.1])] (Pk 2 [0,1]) (Pk 2 [0]) (fun _ _=>trivial) ?_
   rcases bool_cases (y3.2) with hb5 | hb5
   ·replace heq:=bif_true hb5 heq
    refine DrH.val1 (v':=.bool true) (congrArg Value.bool hb5) ?_
    refine De [15,16] 2 (nb 19 131071) [] [] [2,57,61] [(2,pg g1 0),(57,.agg #[.string x4,.string x5,iv y3.1,.bool (sEq x6 ({ data:=#[112,97,115,115] }:ByteArray)),iv y4.1]),(61,.bool y4.2)] (Pk 2 [0]) (fun _ _=>trivial) ?_
    refine DrH.does (n:=1) (ls':=[true,true,true,true,true,true,true,true,true,true,true,true,true,true,true,true,true,true,false]) 17 (by kernel_rfl) rfl (DoesH.store (k:=1) (g:=g1) (off:=0) (v:=.agg #[.string x4,.string x5,iv y3.1,.bool (sEq x6 ({ data:=#[112,97,115,115] }:ByteArray)),iv y4.1]) (cells':=#[.string x4,.string x5,iv y3.1,.bool (sEq x6 ({ data:=#[112,97,115,115] }:ByteArray)),iv y4.1]) (by kernel_rfl) rfl (by kernel_rfl) (by kernel_rfl)) ?_
    rintro _ _ _ _ ⟨rfl,rfl,rfl⟩
    refine ⟨fun _ w hh=>⟨(fun h=>by cases h),fun _=>(Pk 2 [0]) w hh,(fun h=>by cases h)⟩,?_⟩
    refine De [18] 0 (nb 19 524287) [] [] [2,3] [(2,pg g1 0),(3,.bool y4.2)] (Pk 2 [0]) (fun _ _=>trivial) ?_
    obtain rfl:=Option.some.inj heq
    refine Kr [2,3] [(2,pg g1 0),(3,.bool y4.2)] ?_
    refine DrH.pick 2 [1] (cs':=(some (g1,.cells #[.string x4,.string x5,iv y3.1,.bool (sEq x6 ({ data:=#[112,97,115,115] }:ByteArray)),iv y4.1] 28 (0,0)))::F) (by kernel_rfl) rfl ?_
    refine DrH.done (by kernel_rfl) ?_
    exact K4
   ·replace heq:=bif_false hb5 heq
    refine DrH.val1 (v':=.bool false) (congrArg Value.bool hb5) ?_
    refine De [15,16] 2 (nb 19 131071) [] [] [2,57,61] [(2,pg g1 0),(57,.agg #[.string x4,.string x5,iv y3.1,.bool (sEq x6 ({ data:=#[112,97,115,115] }:ByteArray)),iv y4.1]),(61,.bool false)] (Pk 2 [0]) (fun _ _=>trivial) ?_
    refine DrH.does (n:=1) (ls':=[true,true,true,true,true,true,true,true,true,true,true,true,true,true,true,true,true,true,false]) 17 (by kernel_rfl) rfl (DoesH.store (k:=1) (g:=g1) (off:=0) (v:=.agg #[.string x4,.string x5,iv y3.1,.bool (sEq x6 ({ data:=#[112,97,115,115] }:ByteArray)),iv y4.1]) (cells':=#[.string x4,.string x5,iv y3.1,.bool (sEq x6 ({ data:=#[112,97,115,115] }:ByteArray)),iv y4.1]) (by kernel_rfl) rfl (by kernel_rfl) (by kernel_rfl)) ?_
    rintro _ _ _ _ ⟨rfl,rfl,rfl⟩
    refine ⟨fun _ w hh=>⟨(fun h=>by cases h),fun _=>(Pk 2 [0]) w hh,(fun h=>by cases h)⟩,?_⟩
    refine De [18] 0 (nb 19 524287) [] [] [2,3] [(2,pg g1 0),(3,.bool false)] (Pk 2 [0]) (fun _ _=>trivial) ?_
    obtain rfl:=Option.some.inj heq
    refine Kr [2,3] [(2,pg g1 0),(3,.bool false)] ?_
    refine DrH.pick 2 [1] (cs':=(some (g1,.cells #[.string x4,.string x5,iv y3.1,.bool (sEq x6 ({ data:=#[112,97,115,115] }:ByteArray)),iv y4.1] 28 (0,0)))::F) (by kernel_rfl) rfl ?_
    refine DrH.done (by kernel_rfl) ?_
    exact K4
 replace heq:=ht1
 refine Rr<|Rk 4 [14,2,4] [(14,.bool ((y1.length:Int) != 5)),(2,pg g1 0),(4,.slice A1 y1.length c1)] ?_
 rcases bool_cases ((y1.length:Int) != 5) with hb1 | hb1
 ·replace heq:=bif_true hb1 heq
  refine RgH.val1 (v':=.bool true) (congrArg Value.bool hb1) ?_
  refine Rk 19 [2,4,29] [(2,pg g1 0),(4,.slice A1 y1.length c1),(29,.bool true)] ?_
  obtain rfl:=Option.some.inj heq
  refine Kg [2,4,29] [(2,pg g1 0),(4,.slice A1 y1.length c1),(29,.bool true)]<|Dn ?_
  exact K3
 ·replace heq:=bif_false hb1 heq
  refine RgH.val1 (v':=.bool false) (congrArg Value.bool hb1) ?_
  refine Rk 5 [2,4,14,15] [(2,pg g1 0),(4,.slice A1 y1.length c1),(14,.bool false),(15,.slice A1 y1.length c1)] ?_
  obtain ⟨y2,hy2,heq⟩:=bind_some heq
  refine RgH.does (DoesH.call (d:=16) (g:=16) (args:=#[.slice A1 y1.length c1,.func (.func 17) #[] #[]]) (by kernel_rfl) (slices_ContainsFunc_string_c (a0:=y1) (ho1.rw (.head _)) ho1.cap rfl hy2)) ?_
  rintro _ _ _ _ ⟨_,rfl,rfl,rfl,rfl⟩
  refine Rk 8 [18,2,4] [(18,.bool y2),(2,pg g1 0),(4,.slice A1 y1.length c1)] ?_
  rcases bool_cases (y2) with hb2 | hb2
  ·replace heq:=bif_true hb2 heq
   refine RgH.val1 (v':=.bool true) (congrArg Value.bool hb2) ?_
   refine Rk 19 [2,4,29] [(2,pg g1 0),(4,.slice A1 y1.length c1),(29,.bool true)] ?_
   obtain rfl:=Option.some.inj heq
   refine Kg [2,4,29] [(2,pg g1 0),(4,.slice A1 y1.length c1),(29,.bool true)]<|Dn ?_
   exact K3
  ·replace heq:=bif_false hb2 heq
   refine RgH.val1 (v':=.bool false) (congrArg Value.bool hb2) ?_
   obtain ⟨x1,hx1,heq⟩:=bind_some heq
   obtain ⟨ha1,cs1,hK1,hcc1⟩:=ho1.get hx1
   obtain rfl:cs1=[.string x1]:=hK1
   refine Rv 13 [23,2,4,18] [.string x1] [.need (A1=some (adr A1)∧(0:Int)≤3∧3<((y1.length:Nat):Int)),.load ((adr A1).add (3*1)) (.string x1)] [(23,.bool (!sEq x1 ({ data:=#[112,97,115,115] }:ByteArray))),(2,pg g1 0),(4,.slice A1 y1.length c1),(18,.bool false)] (fun w hh=>⟨⟨ha1,(at?_some hx1).1,(at?_some hx1).2.1⟩,(hcc1 _ (hh.chin 0 rfl) 0 _ rfl)⟩) ?_
   rcases bool_cases (!sEq x1 ({ data:=#[112,97,115,115] }:ByteArray)) with hb3 | hb3
   ·replace heq:=bif_true hb3 heq
    refine RgH.val1 (v':=.bool true) (congrArg Value.bool hb3) ?_
    obtain ⟨ha2,cs2,hK2,hcc2⟩:=ho1.get hx1
    obtain rfl:cs2=[.string x1]:=hK2
    refine Rv 19 [2,4,29] [.string x1] [.need (A1=some (adr A1)∧(0:Int)≤3∧3<((y1.length:Nat):Int)),.load ((adr A1).add (3*1)) (.string x1)] [(2,pg g1 0),(4,.slice A1 y1.length c1),(29,.bool (!sEq x1 ({ data:=#[102,97,105,108] }:ByteArray)))] (fun w hh=>⟨⟨ha2,(at?_some hx1).1,(at?_some hx1).2.1⟩,(hcc2 _ (hh.chin 0 rfl) 0 _ rfl)⟩) ?_
    obtain rfl:=Option.some.inj heq
    refine Kg [2,4,29] [(2,pg g1 0),(4,.slice A1 y1.length c1),(29,.bool (!sEq x1 ({ data:=#[102,97,105,108] }:ByteArray)))]<|Dn ?_
    exact K3
   ·replace heq:=bif_false hb3 heq
    refine RgH.val1 (v':=.bool false) (congrArg Value.bool hb3) ?_
    refine Rk 19 [2,4,29] [(2,pg g1 0),(4,.slice A1 y1.length c1),(29,.bool false)] ?_
    obtain rfl:=Option.some.inj heq
    refine Kg [2,4,29] [(2,pg g1 0),(4,.slice A1 y1.length c1),(29,.bool false)]<|Dn ?_
    exact K3
noncomputable def C4:Ctx:={ P:=Tryd.prog,f:=4,N:=49,c:=bodyOf Tryd.f4 }
def S4 (F:List Ch) (H0:Hp) (r:(List TestRun) × Int × Int) (v:Value) (H:Hp) (cs:List Ch):Prop:=∃ (A0:Option Addr) (c0:Nat) (ch0:Ch),H0=H∧v=.tuple #[.slice A0 r.1.length c0,iv r.2.1,iv r.2.2]∧ch0::F=cs∧SlOwn kTestRun 28 H A0 c0 r.1 ch0
theorem trials_Read.e1_c {w0:World} [GlobI 0 w0] {H:Hp} {F:List Ch} {r:(List TestRun) × Int × Int}:∀ (v_out5:List TestRun) (Av_out5:Option Addr) (nv_out5:Nat) (cv_out5:Nat) (chv_out5:Ch) ,SlOwn kTestRun 28 H Av_out5 cv_out5 v_out5 chv_out5→nv_out5=v_out5.length→trials_Read.e1 v_out5=some r→RunH C4 (S4 F H r) H w0 [.c [1,1,1,1,0,0],.c [1,1,1,1,0,1],.c [1,1,1,1,1]] [(5,.slice Av_out5 nv_out5 cv_out5)] H (chv_out5::F):=by
 intro v_out5 Av_out5 nv_out5 cv_out5 chv_out5 hov_out5 hnv_out5 heq
 subst hnv_out5
 unfold trials_Read.e1 at heq
 refine Rr<|Rk 1 [5,43] [(5,.slice Av_out5 v_out5.length cv_out5),(43,.slice Av_out5 v_out5.length cv_out5)] ?_
 obtain ⟨y1,hy1,heq⟩:=bind_some heq
 refine RgH.does (DoesH.call (d:=44) (g:=10) (args:=#[.slice Av_out5 v_out5.length cv_out5]) (by kernel_rfl) (trials_CheckHistory_c (a0:=v_out5) (hov_out5.rw (.head _)) hov_out5.cap rfl hy1)) ?_
 rintro _ _ _ _ ⟨_,rfl,rfl,rfl,rfl⟩
 refine Rd 3 [5,12] [(5,.slice Av_out5 v_out5.length cv_out5),(12,iv y1)]<|Ra 1 [1,1,1,1,0,1,0] [.c [1,1,1,1,0,1,1],.c [1,1,1,1,1]]<|Rd 2 [5,12,46] [(5,.slice Av_out5 v_out5.length cv_out5),(12,iv y1),(46,.bool (y1 != 0))] ?_
 rcases bool_cases (y1 != 0) with hb2 | hb2
 ·replace heq:=bif_true hb2 heq
  refine Ct (y1 != 0) hb2<|Ra 1 [1,1,1,1,0,1,1,0,0] [.c [1,1,1,1,0,1,1,0,1],.c [1,1,1,1,1]]<|Rd 4 [2,3,4] [(2,.slice none 0 0),(3,iv 0),(4,iv y1)]<|RunH.nilc ?_
  have ho2:SlOwn kTestRun 28 H none 0 ([]:List TestRun) none:=SlOwn.nil
  obtain rfl:=Option.some.inj heq
  refine RunH.pick 2 [0] (cs':=none::F) (by kernel_rfl) rfl ?_
  exact RunH.done (by kernel_rfl) Tryd.func4 (v:=.tuple #[.slice none 0 0,iv 0,iv y1]) (by kernel_rfl) ⟨none,0,none,rfl,rfl,rfl,ho2⟩
 ·replace heq:=bif_false hb2 heq
  refine Cf (y1 != 0) hb2<|Ra 2 [1,1,1,1,1,0] [.c [1,1,1,1,1,1]]<|Rd 4 [2,3,4] [(2,.slice Av_out5 v_out5.length cv_out5),(3,iv 0),(4,iv 0)] ?_
  obtain rfl:=Option.some.inj heq
  exact RunH.done (by kernel_rfl) Tryd.func4 (v:=.tuple #[.slice Av_out5 v_out5.length cv_out5,iv 0,iv 0]) (by kernel_rfl) ⟨Av_out5,cv_out5,chv_out5,rfl,rfl,rfl,hov_out5⟩
theorem trials_Read.l2_c {w0:World} [GlobI 0 w0] {H:Hp} {F:List Ch} {r:(List TestRun) × Int × Int} (e1:(List TestRun)→Option ((List TestRun) × Int × Int))
  (he1:∀ (v_out5:List TestRun) (Av_out5:Option Addr) (nv_out5:Nat) (cv_out5:Nat) (chv_out5:Ch) ,SlOwn kTestRun 28 H Av_out5 cv_out5 v_out5 chv_out5→nv_out5=v_out5.length→e1 v_out5=some r→RunH C4 (S4 F H r) H w0 [.c [1,1,1,1,0,0],.c [1,1,1,1,0,1],.c [1,1,1,1,1]] [(5,.slice Av_out5 nv_out5 cv_out5)] H (chv_out5::F)):∀ (k:Nat),∀ (v_text0:ByteArray) (v_out5:List TestRun) (Av_out5:Option Addr) (nv_out5:Nat) (cv_out5:Nat) (chv_out5:Ch) (v_n6:Int) ,SlOwn kTestRun 28 H Av_out5 cv_out5 v_out5 chv_out5→nv_out5=v_out5.length→trials_Read.l2 e1 k v_text0 v_out5 v_n6=some r→RunH C4 (S4 F H r) H w0 [.c [1,1,1,0,1,0,0],.l [1,1,1,0,1,0,0],.b 0,.c [1,1,1,1]] [(0,.string v_text0),(5,.slice Av_out5 nv_out5 cv_out5),(6,iv v_n6)] H (chv_out5::F):=by
 intro k
 induction k with
 | zero=>intro v_text0 v_out5 Av_out5 nv_out5 cv_out5 chv_out5 v_n6 hov_out5 hnv_out5 heq; exact nomatch (show (none:Option ((List TestRun) × Int × Int))=some r from heq)
 | succ k ihk =>
  intro v_text0 v_out5 Av_out5 nv_out5 cv_out5 chv_out5 v_n6 hov_out5 hnv_out5 heq
  subst hnv_out5
  rw [trials_Read.l2] at heq
  refine Ra 2 [1,1,1,0,1,0,0,0,0] [.c [1,1,1,0,1,0,0,0,1],.c [1,1,1,0,1,0,0,1],.l [1,1,1,0,1,0,0],.b 0,.c [1,1,1,1]]<|Rd 2 [0,5,6,17] [(0,.string v_text0),(5,.slice Av_out5 v_out5.length cv_out5),(6,iv v_n6),(17,.bool (!sEq v_text0 ({ data:=#[] }:ByteArray)))] ?_
  rcases bool_cases (!sEq v_text0 ({ data:=#[] }:ByteArray)) with hb3 | hb3
  ·replace heq:=bif_true hb3 heq
   refine Ct (!sEq v_text0 ({ data:=#[] }:ByteArray)) hb3<|Ra 4 [1,1,1,0,1,0,0,1,0,0,0] [.c [1,1,1,0,1,0,0,1,0,0,1],.b 1,.c [1,1,1,0,1,0,0,1,1],.l [1,1,1,0,1,0,0],.b 0,.c [1,1,1,1]]<|Rk 1 [5,6,21] [(5,.slice Av_out5 v_out5.length cv_out5),(6,iv v_n6),(21,.string v_text0)] ?_
   obtain ⟨y2,hy2,heq⟩:=bind_some heq
   refine RgH.does (DoesH.call (d:=22) (g:=8) (args:=#[.string v_text0,.string ({ data:=#[10] }:ByteArray)]) (by kernel_rfl) (strings_Cut_c (a0:=v_text0) (a1:=({ data:=#[10] }:ByteArray))  hy2)) ?_
   rintro _ _ _ _ ⟨_,rfl,rfl,rfl,rfl⟩
   refine Rd 9 [5,6,7,8,9] [(5,.slice Av_out5 v_out5.length cv_out5),(6,iv v_n6),(7,.string y2.1),(8,.string y2.2.1),(9,.bool y2.2.2)]<|Ra 1 [1,1,1,0,1,0,0,1,0,0,1,0] [.c [1,1,1,0,1,0,0,1,0,0,1,1],.b 1,.c [1,1,1,0,1,0,0,1,1],.l [1,1,1,0,1,0,0],.b 0,.c [1,1,1,1]]<|Rk 1 [5,6,8,9,27] [(5,.slice Av_out5 v_out5.length cv_out5),(6,iv v_n6),(8,.string y2.2.1),(9,.bool y2.2.2),(27,.string y2.1)] ?_
   obtain ⟨y3,hy3,heq⟩:=bind_some heq
   refine RgH.does (DoesH.call (d:=28) (g:=9) (args:=#[.string y2.1]) (by kernel_rfl) (trials_readRun_c (a0:=y2.1)  hy3)) ?_
   rintro _ _ _ _ ⟨_,rfl,rfl,rfl,rfl⟩
   refine Rk 5 [5,6,8,9,29,30] [(5,.slice Av_out5 v_out5.length cv_out5),(6,iv v_n6),(8,.string y2.2.1),(9,.bool y2.2.2),(29,.agg #[.string y3.1.Test,.string y3.1.Key,iv y3.1.At,.bool y3.1.Pass,iv y3.1.Seconds]),(30,.bool y3.2)] ?_
   refine RgH.does (DoesH.new (d:=10) (v:=fun g=>.pointer (some ⟨g,0,none⟩)) (o:=fun g=>.cells #[.string ByteArray.empty,.string ByteArray.empty,iv 0,.bool false,iv 0] 28 (0,0)) (fun g=>by kernel_rfl)) ?_
   rintro _ _ _ _ ⟨g1,rfl,rfl,rfl⟩
   refine RgH.does (DoesH.store (k:=0) (g:=g1) (off:=0) (v:=.agg #[.string y3.1.Test,.string y3.1.Key,iv y3.1.At,.bool y3.1.Pass,iv y3.1.Seconds]) (cells':=#[.string y3.1.Test,.string y3.1.Key,iv y3.1.At,.bool y3.1.Pass,iv y3.1.Seconds]) (by kernel_rfl) rfl (by kernel_rfl) (by kernel_rfl)) ?_
   rintro _ _ _ _ ⟨rfl,rfl,rfl⟩
   refine Rd 8 [5,6,8,9,10,11] [(5,.slice Av_out5 v_out5.length cv_out5),(6,iv v_n6),(8,.string y2.2.1),(9,.bool y2.2.2),(10,pg g1 0),(11,.bool y3.2)]<|Ad 2 [.c [1,1,1,0,1,0,0,1,0,0,1,1,0,0],.c [1,1,1,0,1,0,0,1,0,0,1,1,0,1],.c [1,1,1,0,1,0,0,1,0,0,1,1,1],.b 1,.c [1,1,1,0,1,0,0,1,1],.l [1,1,1,0,1,0,0],.b 0,.c [1,1,1,1]] ?_
   obtain ⟨t1,ht1,heq⟩:=bind_some heq
   have K6:RunH C4 (S4 F H r) H w0 [.c [1,1,1,0,1,0,0,1,0,0,1,1,0,1],.c [1,1,1,0,1,0,0,1,0,0,1,1,1],.b 1,.c [1,1,1,0,1,0,0,1,1],.l [1,1,1,0,1,0,0],.b 0,.c [1,1,1,1]] [(5,.slice Av_out5 v_out5.length cv_out5),(6,iv v_n6),(8,.string y2.2.1),(10,pg g1 0),(36,.bool t1)] H ((some (g1,.cells #[.string y3.1.Test,.string y3.1.Key,iv y3.1.At,.bool y3.1.Pass,iv y3.1.Seconds] 28 (0,0)))::chv_out5::F):=by
    rcases bool_cases (t1) with hb5 | hb5
    ·replace heq:=bif_true hb5 heq
     refine Ct t1 hb5<|Ra 1 [1,1,1,0,1,0,0,1,0,0,1,1,0,1,0,0] [.c [1,1,1,0,1,0,0,1,0,0,1,1,0,1,0,1],.c [1,1,1,0,1,0,0,1,0,0,1,1,1],.b 1,.c [1,1,1,0,1,0,0,1,1],.l [1,1,1,0,1,0,0],.b 0,.c [1,1,1,1]]<|Rd 4 [2,3,4] [(2,.slice none 0 0),(3,iv v_n6),(4,iv 10)]<|RunH.nilc ?_
     have ho3:SlOwn kTestRun 28 H none 0 ([]:List TestRun) none:=SlOwn.nil
     obtain rfl:=Option.some.inj heq
     refine RunH.pick 3 [0] (cs':=none::F) (by kernel_rfl) rfl ?_
     exact RunH.done (by kernel_rfl) Tryd.func4 (v:=.tuple #[.slice none 0 0,iv v_n6,iv 10]) (by kernel_rfl) ⟨none,0,none,rfl,rfl,rfl,ho3⟩
    ·replace heq:=bif_false hb5 heq
     refine Cf t1 hb5<|Ra 1 [1,1,1,0,1,0,0,1,0,0,1,1,1] [.b 1,.c [1,1,1,0,1,0,0,1,1],.l [1,1,1,0,1,0,0],.b 0,.c [1,1,1,1]]<|Rv 2 [6,8,38,39] [.string y3.1.Test,.string y3.1.Key,iv y3.1.At,.bool y3.1.Pass,iv y3.1.Seconds] [.load ⟨g1,0,none⟩ (.string y3.1.Test),.load ⟨g1,1,none⟩ (.string y3.1.Key),.load ⟨g1,2,none⟩ (iv y3.1.At),.load ⟨g1,3,none⟩ (.bool y3.1.Pass),.load ⟨g1,4,none⟩ (iv y3.1.Seconds)] [(6,iv v_n6),(8,.string y2.2.1),(38,.slice Av_out5 v_out5.length cv_out5),(39,.agg #[.string y3.1.Test,.string y3.1.Key,iv y3.1.At,.bool y3.1.Pass,iv y3.1.Seconds])] (fun w hh=>⟨(hh.box 0 rfl rfl),(hh.box 0 rfl rfl),(hh.box 0 rfl rfl),(hh.box 0 rfl rfl),(hh.box 0 rfl rfl)⟩) ?_
     refine RgH.does (DoesH.new (d:=40) (v:=fun g=>.slice (some ⟨g,0,none⟩) 1 1) (o:=fun g=>.cells #[.string y3.1.Test,.string y3.1.Key,iv y3.1.At,.bool y3.1.Pass,iv y3.1.Seconds] 28 (0,0)) (fun g=>by kernel_rfl)) ?_
     rintro _ _ _ _ ⟨g2,rfl,rfl,rfl⟩
     have ho4:SlOwn kTestRun 28 H (some ⟨g2,0,none⟩) 1 ([y3.1]:List TestRun) (some (g2,.cells #[.string y3.1.Test,.string y3.1.Key,iv y3.1.At,.bool y3.1.Pass,iv y3.1.Seconds] 28 (0,0))):=SlOwn.lit (xs:=([y3.1]:List TestRun)) (by kernel_rfl) (Nat.le_of_ble_eq_true (by kernel_rfl)) (Kd.Rep.one kTestRun_mk)
     obtain ⟨hn1,heq⟩:=guard?_some heq
     refine RgH.does (DoesH.append (d:=41) (k:=2) (t:=22) (e:=28) (bytes:=56) (kd:=kTestRun) (n:=v_out5.length) (m:=1) (xs:=v_out5) (ys:=([y3.1]:List TestRun)) (A:=Av_out5) (B:=(some ⟨g2,0,none⟩)) (c:=cv_out5) (cB:=1) (by kernel_rfl) rfl rfl (by kernel_rfl) rfl hov_out5 (fun w hh=>ho4.rdb (hh.chin 0 rfl)) (room_le hn1) (by have:=room_le hn1; omega)) ?_
     rintro _ _ _ _ ⟨A1,c1,ch1,rfl,rfl,rfl,ho5⟩
     refine Rd 7 [0,5,6] [(0,.string y2.2.1),(5,.slice A1 ((v_out5++([y3.1]:List TestRun)).length) c1),(6,iv v_n6)]<|Ra 1 [1,1,1,0,1,0,0,1,1] [.l [1,1,1,0,1,0,0],.b 0,.c [1,1,1,1]]<|Rd 3 [0,5,6] [(0,.string y2.2.1),(5,.slice A1 ((v_out5++([y3.1]:List TestRun)).length) c1),(6,iv (w64 (v_n6+1)))]<|Ad 1 [.c [1,1,1,0,1,0,0],.l [1,1,1,0,1,0,0],.b 0,.c [1,1,1,1]]<|Kp [0,5,6] [(0,.string y2.2.1),(5,.slice A1 ((v_out5++([y3.1]:List TestRun)).length) c1),(6,iv (w64 (v_n6+1)))] ?_
     refine RunH.pick 3 [2] (cs':=ch1::F) (by kernel_rfl) rfl ?_
     exact ihk y2.2.1 (v_out5++([y3.1]:List TestRun)) _ _ _ _ (w64 (v_n6+1)) ho5 rfl heq
   replace heq:=ht1
   refine Rr<|Rk 3 [33,5,6,8,10,11] [(33,.bool (!y2.2.2)),(5,.slice Av_out5 v_out5.length cv_out5),(6,iv v_n6),(8,.string y2.2.1),(10,pg g1 0),(11,.bool y3.2)] ?_
   rcases bool_cases (!y2.2.2) with hb4 | hb4
   ·replace heq:=bif_true hb4 heq
    refine RgH.val1 (v':=.bool true) (congrArg Value.bool hb4) ?_
    refine Rk 6 [5,6,8,10,36] [(5,.slice Av_out5 v_out5.length cv_out5),(6,iv v_n6),(8,.string y2.2.1),(10,pg g1 0),(36,.bool true)] ?_
    obtain rfl:=Option.some.inj heq
    refine Kg [5,6,8,10,36] [(5,.slice Av_out5 v_out5.length cv_out5),(6,iv v_n6),(8,.string y2.2.1),(10,pg g1 0),(36,.bool true)]<|Dn ?_
    exact K6
   ·replace heq:=bif_false hb4 heq
    refine RgH.val1 (v':=.bool false) (congrArg Value.bool hb4) ?_
    refine Rk 6 [5,6,8,10,36] [(5,.slice Av_out5 v_out5.length cv_out5),(6,iv v_n6),(8,.string y2.2.1),(10,pg g1 0),(36,.bool (!y3.2))] ?_
    obtain rfl:=Option.some.inj heq
    refine Kg [5,6,8,10,36] [(5,.slice Av_out5 v_out5.length cv_out5),(6,iv v_n6),(8,.string y2.2.1),(10,pg g1 0),(36,.bool (!y3.2))]<|Dn ?_
    exact K6
  ·replace heq:=bif_false hb3 heq
   refine Cf (!sEq v_text0 ({ data:=#[] }:ByteArray)) hb3<|Ad 3 [.c [1,1,1,1,0,0],.c [1,1,1,1,0,1],.c [1,1,1,1,1]]<|Kp [5] [(5,.slice Av_out5 v_out5.length cv_out5)] ?_
   exact he1 v_out5 _ _ _ _ hov_out5 rfl heq
theorem trials_Read_c {w0:World} [GlobI 0 w0] {H:Hp} {F:List Ch} {a0:ByteArray} {r:(List TestRun) × Int × Int} (heq:trials_Read.f a0=some r):CallsH Tryd.prog 4 #[.string a0] H w0 (F) (S4 F H r):=by
 refine calls_of_runH (F:=C4) Tryd.func4 (by kernel_rfl) Tryd.ntmps4 (args:=[.string a0]) (by kernel_rfl) ?_
 unfold trials_Read.f at heq
 refine Ra 1 [0] [.c [1]]<|Rd 3 [0] [(0,.string a0)]<|Ra 2 [1,0,0] [.c [1,0,1],.c [1,1]]<|Rd 3 [0,15] [(0,.string a0),(15,.bool (decide (900000<(a0.size:Int))))] ?_
 rcases bool_cases (decide (900000<(a0.size:Int))) with hb1 | hb1
 ·replace heq:=bif_true hb1 heq
  refine Ct (decide (900000<(a0.size:Int))) hb1<|Ra 1 [1,0,1,0,0] [.c [1,0,1,0,1],.c [1,1]]<|Rd 3 [2,3,4] [(2,.slice none 0 0),(3,iv 0),(4,iv 2)]<|RunH.nilc ?_
  have ho1:SlOwn kTestRun 28 H none 0 ([]:List TestRun) none:=SlOwn.nil
  obtain rfl:=Option.some.inj heq
  exact RunH.done (by kernel_rfl) Tryd.func4 (v:=.tuple #[.slice none 0 0,iv 0,iv 2]) (by kernel_rfl) ⟨none,0,none,rfl,rfl,rfl,ho1⟩
 ·replace heq:=bif_false hb1 heq
  refine Cf (decide (900000<(a0.size:Int))) hb1<|Ra 2 [1,1,0] [.c [1,1,1]]<|Rd 1 [0,5] [(0,.string a0),(5,.slice none 0 0)]<|Ra 2 [1,1,1,0,0] [.c [1,1,1,0,1],.c [1,1,1,1]]<|Rd 1 [0,5,6] [(0,.string a0),(5,.slice none 0 0),(6,iv 1)]<|Ad 2 [.c [1,1,1,0,1,0,0],.l [1,1,1,0,1,0,0],.b 0,.c [1,1,1,1]]<|RunH.nilc ?_
  have ho6:SlOwn kTestRun 28 H none 0 ([]:List TestRun) none:=SlOwn.nil
  refine Kp [0,5,6] [(0,.string a0),(5,.slice none 0 0),(6,iv 1)] ?_
  exact ((trials_Read.l2_c (e1:=trials_Read.e1) (trials_Read.e1_c)) big) a0 ([]:List TestRun) _ _ _ _ 1 ho6 rfl heq
noncomputable def C27:Ctx:={ P:=Tryd.prog,f:=27,N:=15,c:=bodyOf Tryd.f27 }
def S27 (F:List Ch) (H0:Hp) (r:Bool) (v:Value) (H:Hp) (cs:List Ch):Prop:=H0=H∧v=.bool r∧F=cs
theorem smithyardref10_within_c {w0:World} [GlobI 0 w0] {H:Hp} {F:List Ch} {a0:Int} {a1:Int} {a2:Int} {r:Bool} (heq:smithyardref10_within.f a0 a1 a2=some r):CallsH Tryd.prog 27 #[iv a0,iv a1,iv a2] H w0 (F) (S27 F H r):=by
 refine calls_of_runH (F:=C27) Tryd.func27 (by kernel_rfl) Tryd.ntmps27 (args:=[iv a0,iv a1,iv a2]) (by kernel_rfl) ?_
 unfold smithyardref10_within.f at heq
 refine Ra 1 [0] [.c [1]]<|Rd 1 [0,1,2] [(0,iv a0),(1,iv a1),(2,iv a2)]<|Ad 1 [.c [1,0],.c [1,1]] ?_
 obtain ⟨t1,ht1,heq⟩:=bind_some heq
 have K1:RunH C27 (S27 F H r) H w0 [.c [1,1]] [(6,.bool t1)] H (F):=by
  obtain rfl:=Option.some.inj heq
  exact RunH.done (by kernel_rfl) Tryd.func27 (v:=.bool t1) (by kernel_rfl) ⟨rfl,rfl,rfl⟩
 replace heq:=ht1
 refine Rr<|Rk 4 [10,0,2] [(10,.bool (decide (a1≤a0))),(0,iv a0),(2,iv a2)] ?_
 rcases bool_cases (decide (a1≤a0)) with hb1 | hb1
 ·replace heq:=bif_true hb1 heq
  refine RgH.val1 (v':=.bool true) (congrArg Value.bool hb1) ?_
  refine Rk 9 [6] [(6,.bool (decide (a0≤a2)))] ?_
  obtain rfl:=Option.some.inj heq
  refine Kg [6] [(6,.bool (decide (a0≤a2)))]<|Dn ?_
  exact K1
 ·replace heq:=bif_false hb1 heq
  refine RgH.val1 (v':=.bool false) (congrArg Value.bool hb1) ?_
  refine Rk 9 [6] [(6,.bool false)] ?_
  obtain rfl:=Option.some.inj heq
  refine Kg [6] [(6,.bool false)]<|Dn ?_
  exact K1
noncomputable def C36:Ctx:={ P:=Tryd.prog,f:=36,N:=51,c:=bodyOf Tryd.f36 }
def S36 (F:List Ch) (H0:Hp) (r:Bool) (v:Value) (H:Hp) (cs:List Ch):Prop:=H0=H∧v=.bool r∧F=cs
theorem smithyardref10_isPart.e1_c {w0:World} [GlobI 0 w0] {H:Hp} {F:List Ch} {r:Bool}:∀ (a0:ByteArray) ,smithyardref10_isPart.e1 a0=some r→RunH C36 (S36 F H r) H w0 [.c [1,1,0],.c [1,1,1]] [(0,.string a0)] H (F):=by
 intro a0  heq
 unfold smithyardref10_isPart.e1 at heq
 obtain ⟨t1,ht1,heq⟩:=bind_some heq
 have K1:RunH C36 (S36 F H r) H w0 [.c [1,1,1]] [(2,.bool t1)] H (F):=by
  obtain rfl:=Option.some.inj heq
  exact RunH.done (by kernel_rfl) Tryd.func36 (v:=.bool t1) (by kernel_rfl) ⟨rfl,rfl,rfl⟩
 replace heq:=ht1
 refine Rr<|Rk 3 [43,0] [(43,.bool (!sEq a0 ({ data:=#[] }:ByteArray))),(0,.string a0)] ?_
 rcases bool_cases (!sEq a0 ({ data:=#[] }:ByteArray)) with hb1 | hb1
 ·replace heq:=bif_true hb1 heq
  refine RgH.val1 (v':=.bool true) (congrArg Value.bool hb1) ?_
  refine Rk 7 [47,0] [(47,.bool (!sEq a0 ({ data:=#[46] }:ByteArray))),(0,.string a0)] ?_
  rcases bool_cases (!sEq a0 ({ data:=#[46] }:ByteArray)) with hb2 | hb2
  ·replace heq:=bif_true hb2 heq
   refine RgH.val1 (v':=.bool true) (congrArg Value.bool hb2) ?_
   refine Rk 11 [2] [(2,.bool (!sEq a0 ({ data:=#[46,46] }:ByteArray)))] ?_
   obtain rfl:=Option.some.inj heq
   refine Kg [2] [(2,.bool (!sEq a0 ({ data:=#[46,46] }:ByteArray)))]<|Dn ?_
   exact K1
  ·replace heq:=bif_false hb2 heq
   refine RgH.val1 (v':=.bool false) (congrArg Value.bool hb2) ?_
   refine Rk 11 [2] [(2,.bool false)] ?_
   obtain rfl:=Option.some.inj heq
   refine Kg [2] [(2,.bool false)]<|Dn ?_
   exact K1
 ·replace heq:=bif_false hb1 heq
  refine RgH.val1 (v':=.bool false) (congrArg Value.bool hb1) ?_
  refine Rk 11 [2] [(2,.bool false)] ?_
  obtain rfl:=Option.some.inj heq
  refine Kg [2] [(2,.bool false)]<|Dn ?_
  exact K1
theorem smithyardref10_isPart.l2_c {w0:World} [GlobI 0 w0] {H:Hp} {F:List Ch} {r:Bool} (e1:ByteArray→Option Bool)
  (he1:∀ (a0:ByteArray) ,e1 a0=some r→RunH C36 (S36 F H r) H w0 [.c [1,1,0],.c [1,1,1]] [(0,.string a0)] H (F)):∀ (k:Nat),∀ (a0:ByteArray) (v7:Int) ,smithyardref10_isPart.l2 e1 k a0 v7=some r→RunH C36 (S36 F H r) H w0 [.c [1,0,1,0,0],.l [1,0,1,0,0],.b 0,.c [1,1]] [(0,.string a0),(6,iv (a0.size:Int)),(7,iv v7)] H (F):=by
 intro k
 induction k with
 | zero=>intro a0 v7  heq; exact nomatch (show (none:Option Bool)=some r from heq)
 | succ k ihk =>
  intro a0 v7  heq
  rw [smithyardref10_isPart.l2] at heq
  refine Ra 1 [1,0,1,0,0,0] [.c [1,0,1,0,0,1],.l [1,0,1,0,0],.b 0,.c [1,1]]<|Rd 1 [0,6,7,8] [(0,.string a0),(6,iv (a0.size:Int)),(7,iv v7),(8,.bool (decide (v7<(a0.size:Int))))]<|Ad 1 [.c [1,0,1,0,0,1,0],.c [1,0,1,0,0,1,1],.l [1,0,1,0,0],.b 0,.c [1,1]] ?_
  rcases bool_cases (decide (v7<(a0.size:Int))) with hb3 | hb3
  ·replace heq:=bif_true hb3 heq
   refine Ct (decide (v7<(a0.size:Int))) hb3<|Ra 4 [1,0,1,0,0,1,1,0,0,0] [.c [1,0,1,0,0,1,1,0,0,1],.b 1,.c [1,0,1,0,0,1,1,1],.l [1,0,1,0,0],.b 0,.c [1,1]]<|Rd 2 [0,3,6,7] [(0,.string a0),(3,iv v7),(6,iv (a0.size:Int)),(7,iv v7)]<|Ra 1 [1,0,1,0,0,1,1,0,0,1,0] [.c [1,0,1,0,0,1,1,0,0,1,1],.b 1,.c [1,0,1,0,0,1,1,1],.l [1,0,1,0,0],.b 0,.c [1,1]] ?_
   obtain ⟨hn1,heq⟩:=guard?_some heq
   refine Rw' 4 [0,4,6,7] [] [.need ((0:Int)≤v7∧v7<(a0.size:Int))] [(0,.string a0),(4,.int .u8 (bt a0 v7)),(6,iv (a0.size:Int)),(7,iv v7)] (fun w hh=>(both_of hn1))<|Ad 1 [.c [1,0,1,0,0,1,1,0,0,1,1,0],.c [1,0,1,0,0,1,1,0,0,1,1,1],.b 1,.c [1,0,1,0,0,1,1,1],.l [1,0,1,0,0],.b 0,.c [1,1]] ?_
   obtain ⟨t2,ht2,heq⟩:=bind_some heq
   have K2:RunH C36 (S36 F H r) H w0 [.c [1,0,1,0,0,1,1,0,0,1,1,1],.b 1,.c [1,0,1,0,0,1,1,1],.l [1,0,1,0,0],.b 0,.c [1,1]] [(0,.string a0),(6,iv (a0.size:Int)),(7,iv v7),(39,.bool t2)] H (F):=by
    rcases bool_cases (t2) with hb18 | hb18
    ·replace heq:=bif_true hb18 heq
     refine Ct t2 hb18<|Ra 1 [1,0,1,0,0,1,1,0,0,1,1,1,0,0] [.c [1,0,1,0,0,1,1,0,0,1,1,1,0,1],.b 1,.c [1,0,1,0,0,1,1,1],.l [1,0,1,0,0],.b 0,.c [1,1]]<|Rd 1 [2] [(2,.bool false)] ?_
     obtain rfl:=Option.some.inj heq
     exact RunH.done (by kernel_rfl) Tryd.func36 (v:=.bool false) (by kernel_rfl) ⟨rfl,rfl,rfl⟩
    ·replace heq:=bif_false hb18 heq
     refine Cf t2 hb18<|Ra 2 [1,0,1,0,0,1,1,1] [.l [1,0,1,0,0],.b 0,.c [1,1]]<|Rd 2 [0,6,7] [(0,.string a0),(6,iv (a0.size:Int)),(7,iv (w64 (v7+1)))]<|Ad 1 [.c [1,0,1,0,0],.l [1,0,1,0,0],.b 0,.c [1,1]]<|Kp [0,6,7] [(0,.string a0),(6,iv (a0.size:Int)),(7,iv (w64 (v7+1)))] ?_
     exact ihk a0 (w64 (v7+1)) heq
   replace heq:=ht2
   refine Rr<|Rk 3 [15,0,4,6,7] [(15,.bool (decide ((bt a0 v7)<97))),(0,.string a0),(4,.int .u8 (bt a0 v7)),(6,iv (a0.size:Int)),(7,iv v7)] ?_
   rcases bool_cases (decide ((bt a0 v7)<97)) with hb4 | hb4
   ·replace heq:=bif_true hb4 heq
    refine RgH.val1 (v':=.bool true) (congrArg Value.bool hb4) ?_
    refine Rk 10 [22,0,4,6,7,19] [(22,.bool (decide ((bt a0 v7)<65))),(0,.string a0),(4,.int .u8 (bt a0 v7)),(6,iv (a0.size:Int)),(7,iv v7),(19,.bool true)] ?_
    rcases bool_cases (decide ((bt a0 v7)<65)) with hb5 | hb5
    ·replace heq:=bif_true hb5 heq
     refine RgH.val1 (v':=.bool true) (congrArg Value.bool hb5) ?_
     refine Rk 18 [30,0,4,6,7,27] [(30,.bool (decide ((bt a0 v7)<48))),(0,.string a0),(4,.int .u8 (bt a0 v7)),(6,iv (a0.size:Int)),(7,iv v7),(27,.bool true)] ?_
     rcases bool_cases (decide ((bt a0 v7)<48)) with hb6 | hb6
     ·replace heq:=bif_true hb6 heq
      refine RgH.val1 (v':=.bool true) (congrArg Value.bool hb6) ?_
      refine Rk 24 [0,6,7,35,36] [(0,.string a0),(6,iv (a0.size:Int)),(7,iv v7),(35,.bool true),(36,.int .u8 (bt a0 v7))] ?_
      obtain ⟨y1,hy1,heq⟩:=bind_some heq
      refine RgH.does (DoesH.call (d:=37) (g:=55) (args:=#[.string ({ data:=#[46,95,45,43] }:ByteArray),.int .u8 (bt a0 v7)]) (by kernel_rfl) (strings_IndexByte_c (a0:=({ data:=#[46,95,45,43] }:ByteArray)) (a1:=bt a0 v7)  hy1)) ?_
      rintro _ _ _ _ ⟨_,rfl,rfl,rfl,rfl⟩
      refine Rk 27 [0,6,7,39] [(0,.string a0),(6,iv (a0.size:Int)),(7,iv v7),(39,.bool (decide (y1<0)))] ?_
      obtain rfl:=Option.some.inj heq
      refine Kg [0,6,7,39] [(0,.string a0),(6,iv (a0.size:Int)),(7,iv v7),(39,.bool (decide (y1<0)))]<|Dn ?_
      exact K2
     ·replace heq:=bif_false hb6 heq
      refine RgH.val1 (v':=.bool false) (congrArg Value.bool hb6) ?_
      refine Rk 23 [35,0,4,6,7] [(35,.bool (decide (57<(bt a0 v7)))),(0,.string a0),(4,.int .u8 (bt a0 v7)),(6,iv (a0.size:Int)),(7,iv v7)] ?_
      rcases bool_cases (decide (57<(bt a0 v7))) with hb7 | hb7
      ·replace heq:=bif_true hb7 heq
       refine RgH.val1 (v':=.bool true) (congrArg Value.bool hb7) ?_
       refine Rk 24 [0,6,7,35,36] [(0,.string a0),(6,iv (a0.size:Int)),(7,iv v7),(35,.bool true),(36,.int .u8 (bt a0 v7))] ?_
       obtain ⟨y2,hy2,heq⟩:=bind_some heq
       refine RgH.does (DoesH.call (d:=37) (g:=55) (args:=#[.string ({ data:=#[46,95,45,43] }:ByteArray),.int .u8 (bt a0 v7)]) (by kernel_rfl) (strings_IndexByte_c (a0:=({ data:=#[46,95,45,43] }:ByteArray)) (a1:=bt a0 v7)  hy2)) ?_
       rintro _ _ _ _ ⟨_,rfl,rfl,rfl,rfl⟩
       refine Rk 27 [0,6,7,39] [(0,.string a0),(6,iv (a0.size:Int)),(7,iv v7),(39,.bool (decide (y2<0)))] ?_
       obtain rfl:=Option.some.inj heq
       refine Kg [0,6,7,39] [(0,.string a0),(6,iv (a0.size:Int)),(7,iv v7),(39,.bool (decide (y2<0)))]<|Dn ?_
       exact K2
      ·replace heq:=bif_false hb7 heq
       refine RgH.val1 (v':=.bool false) (congrArg Value.bool hb7) ?_
       refine Rk 27 [0,6,7,39] [(0,.string a0),(6,iv (a0.size:Int)),(7,iv v7),(39,.bool false)] ?_
       obtain rfl:=Option.some.inj heq
       refine Kg [0,6,7,39] [(0,.string a0),(6,iv (a0.size:Int)),(7,iv v7),(39,.bool false)]<|Dn ?_
       exact K2
    ·replace heq:=bif_false hb5 heq
     refine RgH.val1 (v':=.bool false) (congrArg Value.bool hb5) ?_
     refine Rk 15 [27,0,4,6,7] [(27,.bool (decide (90<(bt a0 v7)))),(0,.string a0),(4,.int .u8 (bt a0 v7)),(6,iv (a0.size:Int)),(7,iv v7)] ?_
     rcases bool_cases (decide (90<(bt a0 v7))) with hb8 | hb8
     ·replace heq:=bif_true hb8 heq
      refine RgH.val1 (v':=.bool true) (congrArg Value.bool hb8) ?_
      refine Rk 18 [30,0,4,6,7,27] [(30,.bool (decide ((bt a0 v7)<48))),(0,.string a0),(4,.int .u8 (bt a0 v7)),(6,iv (a0.size:Int)),(7,iv v7),(27,.bool true)] ?_
      rcases bool_cases (decide ((bt a0 v7)<48)) with hb9 | hb9
      ·replace heq:=bif_true hb9 heq
       refine RgH.val1 (v':=.bool true) (congrArg Value.bool hb9) ?_
       refine Rk 24 [0,6,7,35,36] [(0,.string a0),(6,iv (a0.size:Int)),(7,iv v7),(35,.bool true),(36,.int .u8 (bt a0 v7))] ?_
       obtain ⟨y3,hy3,heq⟩:=bind_some heq
       refine RgH.does (DoesH.call (d:=37) (g:=55) (args:=#[.string ({ data:=#[46,95,45,43] }:ByteArray),.int .u8 (bt a0 v7)]) (by kernel_rfl) (strings_IndexByte_c (a0:=({ data:=#[46,95,45,43] }:ByteArray)) (a1:=bt a0 v7)  hy3)) ?_
       rintro _ _ _ _ ⟨_,rfl,rfl,rfl,rfl⟩
       refine Rk 27 [0,6,7,39] [(0,.string a0),(6,iv (a0.size:Int)),(7,iv v7),(39,.bool (decide (y3<0)))] ?_
       obtain rfl:=Option.some.inj heq
       refine Kg [0,6,7,39] [(0,.string a0),(6,iv (a0.size:Int)),(7,iv v7),(39,.bool (decide (y3<0)))]<|Dn ?_
       exact K2
      ·replace heq:=bif_false hb9 heq
       refine RgH.val1 (v':=.bool false) (congrArg Value.bool hb9) ?_
       refine Rk 23 [35,0,4,6,7] [(35,.bool (decide (57<(bt a0 v7)))),(0,.string a0),(4,.int .u8 (bt a0 v7)),(6,iv (a0.size:Int)),(7,iv v7)] ?_
       rcases bool_cases (decide (57<(bt a0 v7))) with hb10 | hb10
       ·replace heq:=bif_true hb10 heq
        refine RgH.val1 (v':=.bool true) (congrArg Value.bool hb10) ?_
        refine Rk 24 [0,6,7,35,36] [(0,.string a0),(6,iv (a0.size:Int)),(7,iv v7),(35,.bool true),(36,.int .u8 (bt a0 v7))] ?_
        obtain ⟨y4,hy4,heq⟩:=bind_some heq
        refine RgH.does (DoesH.call (d:=37) (g:=55) (args:=#[.string ({ data:=#[46,95,45,43] }:ByteArray),.int .u8 (bt a0 v7)]) (by kernel_rfl) (strings_IndexByte_c (a0:=({ data:=#[46,95,45,43] }:ByteArray)) (a1:=bt a0 v7)  hy4)) ?_
        rintro _ _ _ _ ⟨_,rfl,rfl,rfl,rfl⟩
        refine Rk 27 [0,6,7,39] [(0,.string a0),(6,iv (a0.size:Int)),(7,iv v7),(39,.bool (decide (y4<0)))] ?_
        obtain rfl:=Option.some.inj heq
        refine Kg [0,6,7,39] [(0,.string a0),(6,iv (a0.size:Int)),(7,iv v7),(39,.bool (decide (y4<0)))]<|Dn ?_
        exact K2
       ·replace heq:=bif_false hb10 heq
        refine RgH.val1 (v':=.bool false) (congrArg Value.bool hb10) ?_
        refine Rk 27 [0,6,7,39] [(0,.string a0),(6,iv (a0.size:Int)),(7,iv v7),(39,.bool false)] ?_
        obtain rfl:=Option.some.inj heq
        refine Kg [0,6,7,39] [(0,.string a0),(6,iv (a0.size:Int)),(7,iv v7),(39,.bool false)]<|Dn ?_
        exact K2
     ·replace heq:=bif_false hb8 heq
      refine RgH.val1 (v':=.bool false) (congrArg Value.bool hb8) ?_
      refine Rk 27 [0,6,7,39] [(0,.string a0),(6,iv (a0.size:Int)),(7,iv v7),(39,.bool false)] ?_
      obtain rfl:=Option.some.inj heq
      refine Kg [0,6,7,39] [(0,.string a0),(6,iv (a0.size:Int)),(7,iv v7),(39,.bool false)]<|Dn ?_
      exact K2
   ·replace heq:=bif_false hb4 heq
    refine RgH.val1 (v':=.bool false) (congrArg Value.bool hb4) ?_
    refine Rk 7 [19,0,4,6,7] [(19,.bool (decide (122<(bt a0 v7)))),(0,.string a0),(4,.int .u8 (bt a0 v7)),(6,iv (a0.size:Int)),(7,iv v7)] ?_
    rcases bool_cases (decide (122<(bt a0 v7))) with hb11 | hb11
    ·replace heq:=bif_true hb11 heq
     refine RgH.val1 (v':=.bool true) (congrArg Value.bool hb11) ?_
     refine Rk 10 [22,0,4,6,7,19] [(22,.bool (decide ((bt a0 v7)<65))),(0,.string a0),(4,.int .u8 (bt a0 v7)),(6,iv (a0.size:Int)),(7,iv v7),(19,.bool true)] ?_
     rcases bool_cases (decide ((bt a0 v7)<65)) with hb12 | hb12
     ·replace heq:=bif_true hb12 heq
      refine RgH.val1 (v':=.bool true) (congrArg Value.bool hb12) ?_
      refine Rk 18 [30,0,4,6,7,27] [(30,.bool (decide ((bt a0 v7)<48))),(0,.string a0),(4,.int .u8 (bt a0 v7)),(6,iv (a0.size:Int)),(7,iv v7),(27,.bool true)] ?_
      rcases bool_cases (decide ((bt a0 v7)<48)) with hb13 | hb13
      ·replace heq:=bif_true hb13 heq
       refine RgH.val1 (v':=.bool true) (congrArg Value.bool hb13) ?_
       refine Rk 24 [0,6,7,35,36] [(0,.string a0),(6,iv (a0.size:Int)),(7,iv v7),(35,.bool true),(36,.int .u8 (bt a0 v7))] ?_
       obtain ⟨y5,hy5,heq⟩:=bind_some heq
       refine RgH.does (DoesH.call (d:=37) (g:=55) (args:=#[.string ({ data:=#[46,95,45,43] }:ByteArray),.int .u8 (bt a0 v7)]) (by kernel_rfl) (strings_IndexByte_c (a0:=({ data:=#[46,95,45,43] }:ByteArray)) (a1:=bt a0 v7)  hy5)) ?_
       rintro _ _ _ _ ⟨_,rfl,rfl,rfl,rfl⟩
       refine Rk 27 [0,6,7,39] [(0,.string a0),(6,iv (a0.size:Int)),(7,iv v7),(39,.bool (decide (y5<0)))] ?_
       obtain rfl:=Option.some.inj heq
       refine Kg [0,6,7,39] [(0,.string a0),(6,iv (a0.size:Int)),(7,iv v7),(39,.bool (decide (y5<0)))]<|Dn ?_
       exact K2
      ·replace heq:=bif_false hb13 heq
       refine RgH.val1 (v':=.bool false) (congrArg Value.bool hb13) ?_
       refine Rk 23 [35,0,4,6,7] [(35,.bool (decide (57<(bt a0 v7)))),(0,.string a0),(4,.int .u8 (bt a0 v7)),(6,iv (a0.size:Int)),(7,iv v7)] ?_
       rcases bool_cases (decide (57<(bt a0 v7))) with hb14 | hb14
       ·replace heq:=bif_true hb14 heq
        refine RgH.val1 (v':=.bool true) (congrArg Value.bool hb14) ?_
        refine Rk 24 [0,6,7,35,36] [(0,.string a0),(6,iv (a0.size:Int)),(7,iv v7),(35,.bool true),(36,.int .u8 (bt a0 v7))] ?_
        obtain ⟨y6,hy6,heq⟩:=bind_some heq
        refine RgH.does (DoesH.call (d:=37) (g:=55) (args:=#[.string ({ data:=#[46,95,45,43] }:ByteArray),.int .u8 (bt a0 v7)]) (by kernel_rfl) (strings_IndexByte_c (a0:=({ data:=#[46,95,45,43] }:ByteArray)) (a1:=bt a0 v7)  hy6)) ?_
        rintro _ _ _ _ ⟨_,rfl,rfl,rfl,rfl⟩
        refine Rk 27 [0,6,7,39] [(0,.string a0),(6,iv (a0.size:Int)),(7,iv v7),(39,.bool (decide (y6<0)))] ?_
        obtain rfl:=Option.some.inj heq
        refine Kg [0,6,7,39] [(0,.string a0),(6,iv (a0.size:Int)),(7,iv v7),(39,.bool (decide (y6<0)))]<|Dn ?_
        exact K2
       ·replace heq:=bif_false hb14 heq
        refine RgH.val1 (v':=.bool false) (congrArg Value.bool hb14) ?_
        refine Rk 27 [0,6,7,39] [(0,.string a0),(6,iv (a0.size:Int)),(7,iv v7),(39,.bool false)] ?_
        obtain rfl:=Option.some.inj heq
        refine Kg [0,6,7,39] [(0,.string a0),(6,iv (a0.size:Int)),(7,iv v7),(39,.bool false)]<|Dn ?_
        exact K2
     ·replace heq:=bif_false hb12 heq
      refine RgH.val1 (v':=.bool false) (congrArg Value.bool hb12) ?_
      refine Rk 15 [27,0,4,6,7] [(27,.bool (decide (90<(bt a0 v7)))),(0,.string a0),(4,.int .u8 (bt a0 v7)),(6,iv (a0.size:Int)),(7,iv v7)] ?_
      rcases bool_cases (decide (90<(bt a0 v7))) with hb15 | hb15
      ·replace heq:=bif_true hb15 heq
       refine RgH.val1 (v':=.bool true) (congrArg Value.bool hb15) ?_
       refine Rk 18 [30,0,4,6,7,27] [(30,.bool (decide ((bt a0 v7)<48))),(0,.string a0),(4,.int .u8 (bt a0 v7)),(6,iv (a0.size:Int)),(7,iv v7),(27,.bool true)] ?_
       rcases bool_cases (decide ((bt a0 v7)<48)) with hb16 | hb16
       ·replace heq:=bif_true hb16 heq
        refine RgH.val1 (v':=.bool true) (congrArg Value.bool hb16) ?_
        refine Rk 24 [0,6,7,35,36] [(0,.string a0),(6,iv (a0.size:Int)),(7,iv v7),(35,.bool true),(36,.int .u8 (bt a0 v7))] ?_
        obtain ⟨y7,hy7,heq⟩:=bind_some heq
        refine RgH.does (DoesH.call (d:=37) (g:=55) (args:=#[.string ({ data:=#[46,95,45,43] }:ByteArray),.int .u8 (bt a0 v7)]) (by kernel_rfl) (strings_IndexByte_c (a0:=({ data:=#[46,95,45,43] }:ByteArray)) (a1:=bt a0 v7)  hy7)) ?_
        rintro _ _ _ _ ⟨_,rfl,rfl,rfl,rfl⟩
        refine Rk 27 [0,6,7,39] [(0,.string a0),(6,iv (a0.size:Int)),(7,iv v7),(39,.bool (decide (y7<0)))] ?_
        obtain rfl:=Option.some.inj heq
        refine Kg [0,6,7,39] [(0,.string a0),(6,iv (a0.size:Int)),(7,iv v7),(39,.bool (decide (y7<0)))]<|Dn ?_
        exact K2
       ·replace heq:=bif_false hb16 heq
        refine RgH.val1 (v':=.bool false) (congrArg Value.bool hb16) ?_
        refine Rk 23 [35,0,4,6,7] [(35,.bool (decide (57<(bt a0 v7)))),(0,.string a0),(4,.int .u8 (bt a0 v7)),(6,iv (a0.size:Int)),(7,iv v7)] ?_
        rcases bool_cases (decide (57<(bt a0 v7))) with hb17 | hb17
        ·replace heq:=bif_true hb17 heq
         refine RgH.val1 (v':=.bool true) (congrArg Value.bool hb17) ?_
         refine Rk 24 [0,6,7,35,36] [(0,.string a0),(6,iv (a0.size:Int)),(7,iv v7),(35,.bool true),(36,.int .u8 (bt a0 v7))] ?_
         obtain ⟨y8,hy8,heq⟩:=bind_some heq
         refine RgH.does (DoesH.call (d:=37) (g:=55) (args:=#[.string ({ data:=#[46,95,45,43] }:ByteArray),.int .u8 (bt a0 v7)]) (by kernel_rfl) (strings_IndexByte_c (a0:=({ data:=#[46,95,45,43] }:ByteArray)) (a1:=bt a0 v7)  hy8)) ?_
         rintro _ _ _ _ ⟨_,rfl,rfl,rfl,rfl⟩
         refine Rk 27 [0,6,7,39] [(0,.string a0),(6,iv (a0.size:Int)),(7,iv v7),(39,.bool (decide (y8<0)))] ?_
         obtain rfl:=Option.some.inj heq
         refine Kg [0,6,7,39] [(0,.string a0),(6,iv (a0.size:Int)),(7,iv v7),(39,.bool (decide (y8<0)))]<|Dn ?_
         exact K2
        ·replace heq:=bif_false hb17 heq
         refine RgH.val1 (v':=.bool false) (congrArg Value.bool hb17) ?_
         refine Rk 27 [0,6,7,39] [(0,.string a0),(6,iv (a0.size:Int)),(7,iv v7),(39,.bool false)] ?_
         obtain rfl:=Option.some.inj heq
         refine Kg [0,6,7,39] [(0,.string a0),(6,iv (a0.size:Int)),(7,iv v7),(39,.bool false)]<|Dn ?_
         exact K2
      ·replace heq:=bif_false hb15 heq
       refine RgH.val1 (v':=.bool false) (congrArg Value.bool hb15) ?_
       refine Rk 27 [0,6,7,39] [(0,.string a0),(6,iv (a0.size:Int)),(7,iv v7),(39,.bool false)] ?_
       obtain rfl:=Option.some.inj heq
       refine Kg [0,6,7,39] [(0,.string a0),(6,iv (a0.size:Int)),(7,iv v7),(39,.bool false)]<|Dn ?_
       exact K2
    ·replace heq:=bif_false hb11 heq
     refine RgH.val1 (v':=.bool false) (congrArg Value.bool hb11) ?_
     refine Rk 27 [0,6,7,39] [(0,.string a0),(6,iv (a0.size:Int)),(7,iv v7),(39,.bool false)] ?_
     obtain rfl:=Option.some.inj heq
     refine Kg [0,6,7,39] [(0,.string a0),(6,iv (a0.size:Int)),(7,iv v7),(39,.bool false)]<|Dn ?_
     exact K2
  ·replace heq:=bif_false hb3 heq
   refine Cf (decide (v7<(a0.size:Int))) hb3<|Ad 2 [.c [1,1,0],.c [1,1,1]]<|Kp [0] [(0,.string a0)] ?_
   exact he1 a0 heq
theorem smithyardref10_isPart_c {w0:World} [GlobI 0 w0] {H:Hp} {F:List Ch} {a0:ByteArray} {r:Bool} (heq:smithyardref10_isPart.f a0=some r):CallsH Tryd.prog 36 #[.string a0] H w0 (F) (S36 F H r):=by
 refine calls_of_runH (F:=C36) Tryd.func36 (by kernel_rfl) Tryd.ntmps36 (args:=[.string a0]) (by kernel_rfl) ?_
 unfold smithyardref10_isPart.f at heq
 refine Ra 1 [0] [.c [1]]<|Rd 1 [0] [(0,.string a0)]<|Ra 2 [1,0,0] [.c [1,0,1],.c [1,1]]<|Rd 3 [0,6,7] [(0,.string a0),(6,iv (a0.size:Int)),(7,iv 0)]<|Ad 2 [.c [1,0,1,0,0],.l [1,0,1,0,0],.b 0,.c [1,1]]<|Kp [0,6,7] [(0,.string a0),(6,iv (a0.size:Int)),(7,iv 0)] ?_
 exact ((smithyardref10_isPart.l2_c (e1:=smithyardref10_isPart.e1) (smithyardref10_isPart.e1_c)) big) a0 0 heq
noncomputable def C25:Ctx:={ P:=Tryd.prog,f:=25,N:=19,c:=bodyOf Tryd.f25 }
def S25 (F:List Ch) (H0:Hp) (r:Bool) (v:Value) (H:Hp) (cs:List Ch):Prop:=H0=H∧v=.bool r∧F=cs
theorem smithyardref10_isPath.e1_c {w0:World} [GlobI 0 w0] {H:Hp} {F:List Ch} {r:Bool}:∀ (a0:ByteArray) ,smithyardref10_isPath.e1 a0=some r→RunH C25 (S25 F H r) H w0 [.c [1,1,0],.c [1,1,1]] [(0,.string a0)] H (F):=by
 intro a0  heq
 unfold smithyardref10_isPath.e1 at heq
 refine Rr<|Rk 2 [17] [(17,iv (a0.size:Int))] ?_
 obtain ⟨y2,hy2,heq⟩:=bind_some heq
 refine RgH.does (DoesH.call (d:=18) (g:=27) (args:=#[iv (a0.size:Int),iv 1,iv 200]) (by kernel_rfl) (smithyardref10_within_c (a0:=(a0.size:Int)) (a1:=1) (a2:=200)  hy2)) ?_
 rintro _ _ _ _ ⟨_,rfl,rfl,rfl,rfl⟩
 refine Rd 4 [2] [(2,.bool y2)] ?_
 obtain rfl:=Option.some.inj heq
 exact RunH.done (by kernel_rfl) Tryd.func25 (v:=.bool y2) (by kernel_rfl) ⟨rfl,rfl,rfl⟩
theorem smithyardref10_isPath.l2_c {w0:World} [GlobI 0 w0] {H:Hp} {F:List Ch} {r:Bool} (e1:ByteArray→Option Bool)
  (he1:∀ (a0:ByteArray) ,e1 a0=some r→RunH C25 (S25 F H r) H w0 [.c [1,1,0],.c [1,1,1]] [(0,.string a0)] H (F)):∀ (k:Nat),∀ (a0:ByteArray) (y1:List ByteArray) (A1:Option Addr) (c1:Nat) (ch1:Ch) (v8:Int) ,SlOwn Kd.string 9 H A1 c1 y1 ch1→smithyardref10_isPath.l2 e1 k a0 y1 v8=some r→RunH C25 (S25 F H r) H w0 [.c [1,0,1,0,0],.l [1,0,1,0,0],.b 0,.c [1,1]] [(0,.string a0),(6,.slice A1 y1.length c1),(7,iv (y1.length:Int)),(8,iv v8)] H (ch1::F):=by
 intro k
 induction k with
 | zero=>intro a0 y1 A1 c1 ch1 v8 ho1 heq; exact nomatch (show (none:Option Bool)=some r from heq)
 | succ k ihk =>
  intro a0 y1 A1 c1 ch1 v8 ho1 heq
  rw [smithyardref10_isPath.l2] at heq
  refine Ra 1 [1,0,1,0,0,0] [.c [1,0,1,0,0,1],.l [1,0,1,0,0],.b 0,.c [1,1]]<|Rd 1 [0,6,7,8,9] [(0,.string a0),(6,.slice A1 y1.length c1),(7,iv (y1.length:Int)),(8,iv v8),(9,.bool (decide (v8<(y1.length:Int))))]<|Ad 1 [.c [1,0,1,0,0,1,0],.c [1,0,1,0,0,1,1],.l [1,0,1,0,0],.b 0,.c [1,1]] ?_
  rcases bool_cases (decide (v8<(y1.length:Int))) with hb1 | hb1
  ·replace heq:=bif_true hb1 heq
   refine Ct (decide (v8<(y1.length:Int))) hb1<|Ra 4 [1,0,1,0,0,1,1,0,0,0] [.c [1,0,1,0,0,1,1,0,0,1],.b 1,.c [1,0,1,0,0,1,1,1],.l [1,0,1,0,0],.b 0,.c [1,1]] ?_
   obtain ⟨x1,hx1,heq⟩:=bind_some heq
   obtain ⟨ha1,cs1,hK1,hcc1⟩:=ho1.get hx1
   obtain rfl:cs1=[.string x1]:=hK1
   refine Rw' 3 [0,4,6,7,8] [.string x1] [.need (A1=some (adr A1)∧(0:Int)≤v8∧v8<((y1.length:Nat):Int)),.load ((adr A1).add (v8.toNat*1)) (.string x1)] [(0,.string a0),(4,.string x1),(6,.slice A1 y1.length c1),(7,iv (y1.length:Int)),(8,iv v8)] (fun w hh=>⟨⟨ha1,(at?_some hx1).1,(at?_some hx1).2.1⟩,(hcc1 _ (hh.chin 0 rfl) 0 _ rfl)⟩)<|Ra 1 [1,0,1,0,0,1,1,0,0,1,0] [.c [1,0,1,0,0,1,1,0,0,1,1],.b 1,.c [1,0,1,0,0,1,1,1],.l [1,0,1,0,0],.b 0,.c [1,1]]<|Rk 1 [0,6,7,8,12] [(0,.string a0),(6,.slice A1 y1.length c1),(7,iv (y1.length:Int)),(8,iv v8),(12,.string x1)] ?_
   obtain ⟨y3,hy3,heq⟩:=bind_some heq
   refine RgH.does (DoesH.call (d:=13) (g:=36) (args:=#[.string x1]) (by kernel_rfl) (smithyardref10_isPart_c (a0:=x1)  hy3)) ?_
   rintro _ _ _ _ ⟨_,rfl,rfl,rfl,rfl⟩
   refine Rd 3 [0,6,7,8,14] [(0,.string a0),(6,.slice A1 y1.length c1),(7,iv (y1.length:Int)),(8,iv v8),(14,.bool (!y3))] ?_
   rcases bool_cases (!y3) with hb2 | hb2
   ·replace heq:=bif_true hb2 heq
    refine Ct (!y3) hb2<|Ra 1 [1,0,1,0,0,1,1,0,0,1,1,0,0] [.c [1,0,1,0,0,1,1,0,0,1,1,0,1],.b 1,.c [1,0,1,0,0,1,1,1],.l [1,0,1,0,0],.b 0,.c [1,1]]<|Rd 1 [2] [(2,.bool false)] ?_
    obtain rfl:=Option.some.inj heq
    refine RunH.pick 1 [] (cs':=F) (by kernel_rfl) rfl ?_
    exact RunH.done (by kernel_rfl) Tryd.func25 (v:=.bool false) (by kernel_rfl) ⟨rfl,rfl,rfl⟩
   ·replace heq:=bif_false hb2 heq
    refine Cf (!y3) hb2<|Ra 2 [1,0,1,0,0,1,1,1] [.l [1,0,1,0,0],.b 0,.c [1,1]]<|Rd 2 [0,6,7,8] [(0,.string a0),(6,.slice A1 y1.length c1),(7,iv (y1.length:Int)),(8,iv (w64 (v8+1)))]<|Ad 1 [.c [1,0,1,0,0],.l [1,0,1,0,0],.b 0,.c [1,1]]<|Kp [0,6,7,8] [(0,.string a0),(6,.slice A1 y1.length c1),(7,iv (y1.length:Int)),(8,iv (w64 (v8+1)))] ?_
    exact ihk a0 y1 _ _ _ (w64 (v8+1)) ho1 heq
  ·replace heq:=bif_false hb1 heq
   refine Cf (decide (v8<(y1.length:Int))) hb1<|Ad 2 [.c [1,1,0],.c [1,1,1]]<|Kp [0] [(0,.string a0)] ?_
   refine RunH.pick 1 [] (cs':=F) (by kernel_rfl) rfl ?_
   exact he1 a0 heq
theorem smithyardref10_isPath_c {w0:World} [GlobI 0 w0] {H:Hp} {F:List Ch} {a0:ByteArray} {r:Bool} (heq:smithyardref10_isPath.f a0=some r):CallsH Tryd.prog 25 #[.string a0] H w0 (F) (S25 F H r):=by
 refine calls_of_runH (F:=C25) Tryd.func25 (by kernel_rfl) Tryd.ntmps25 (args:=[.string a0]) (by kernel_rfl) ?_
 unfold smithyardref10_isPath.f at heq
 refine Ra 1 [0] [.c [1]]<|Rd 1 [0] [(0,.string a0)]<|Ra 2 [1,0,0] [.c [1,0,1],.c [1,1]]<|Rk 1 [0,5] [(0,.string a0),(5,.string a0)] ?_
 obtain ⟨y1,hy1,heq⟩:=bind_some heq
 refine RgH.does (DoesH.call (d:=6) (g:=15) (args:=#[.string a0,.string ({ data:=#[47] }:ByteArray)]) (by kernel_rfl) (strings_Split_c (a0:=a0) (a1:=({ data:=#[47] }:ByteArray))  hy1)) ?_
 rintro _ _ _ _ ⟨_,rfl,A1,c1,ch1,rfl,rfl,rfl,ho1⟩
 refine Rd 4 [0,6,7,8] [(0,.string a0),(6,.slice A1 y1.length c1),(7,iv (y1.length:Int)),(8,iv 0)]<|Ad 2 [.c [1,0,1,0,0],.l [1,0,1,0,0],.b 0,.c [1,1]]<|Kp [0,6,7,8] [(0,.string a0),(6,.slice A1 y1.length c1),(7,iv (y1.length:Int)),(8,iv 0)] ?_
 exact ((smithyardref10_isPath.l2_c (e1:=smithyardref10_isPath.e1) (smithyardref10_isPath.e1_c)) big) a0 y1 _ _ _ 0 ho1 heq
noncomputable def C26:Ctx:={ P:=Tryd.prog,f:=26,N:=11,c:=bodyOf Tryd.f26 }
def S26 (F:List Ch) (H0:Hp) (r:Bool) (v:Value) (H:Hp) (cs:List Ch):Prop:=H0=H∧v=.bool r∧F=cs
theorem smithyardref10_isDigest_c {w0:World} [GlobI 0 w0] {H:Hp} {F:List Ch} {a0:ByteArray} {r:Bool} (heq:smithyardref10_isDigest.f a0=some r):CallsH Tryd.prog 26 #[.string a0] H w0 (F) (S26 F H r):=by
 refine calls_of_runH (F:=C26) Tryd.func26 (by kernel_rfl) Tryd.ntmps26 (args:=[.string a0]) (by kernel_rfl) ?_
 unfold smithyardref10_isDigest.f at heq
 refine Ra 1 [0] [.c [1]]<|Rd 1 [0] [(0,.string a0)]<|Ad 1 [.c [1,0],.c [1,1]] ?_
 obtain ⟨t1,ht1,heq⟩:=bind_some heq
 have K1:RunH C26 (S26 F H r) H w0 [.c [1,1]] [(2,.bool t1)] H (F):=by
  obtain rfl:=Option.some.inj heq
  exact RunH.done (by kernel_rfl) Tryd.func26 (v:=.bool t1) (by kernel_rfl) ⟨rfl,rfl,rfl⟩
 replace heq:=ht1
 refine Rr<|Rk 4 [6,0] [(6,.bool ((a0.size:Int) == 16)),(0,.string a0)] ?_
 rcases bool_cases ((a0.size:Int) == 16) with hb1 | hb1
 ·replace heq:=bif_true hb1 heq
  refine RgH.val1 (v':=.bool true) (congrArg Value.bool hb1) ?_
  refine Rk 5 [6,7] [(6,.bool true),(7,.string a0)] ?_
  obtain ⟨y1,hy1,heq⟩:=bind_some heq
  refine RgH.does (DoesH.call (d:=8) (g:=33) (args:=#[.string a0,.string ({ data:=#[48,49,50,51,52,53,54,55,56,57,97,98,99,100,101,102] }:ByteArray)]) (by kernel_rfl) (strings_Trim_c (a0:=a0) (a1:=({ data:=#[48,49,50,51,52,53,54,55,56,57,97,98,99,100,101,102] }:ByteArray))  hy1)) ?_
  rintro _ _ _ _ ⟨_,rfl,rfl,rfl,rfl⟩
  refine Rk 9 [2] [(2,.bool (sEq y1 ({ data:=#[] }:ByteArray)))] ?_
  obtain rfl:=Option.some.inj heq
  refine Kg [2] [(2,.bool (sEq y1 ({ data:=#[] }:ByteArray)))]<|Dn ?_
  exact K1
 ·replace heq:=bif_false hb1 heq
  refine RgH.val1 (v':=.bool false) (congrArg Value.bool hb1) ?_
  refine Rk 9 [2] [(2,.bool false)] ?_
  obtain rfl:=Option.some.inj heq
  refine Kg [2] [(2,.bool false)]<|Dn ?_
  exact K1
noncomputable def C12:Ctx:={ P:=Tryd.prog,f:=12,N:=51,c:=bodyOf Tryd.f12 }
def S12 (F:List Ch) (H0:Hp) (r:Int) (v:Value) (H:Hp) (cs:List Ch):Prop:=H0=H∧v=iv r∧F=cs
theorem smithyardref10_CheckHistory.e1_c {w0:World} [GlobI 0 w0] {H:Hp} {F:List Ch} {r:Int}:smithyardref10_CheckHistory.e1=some r→RunH C12 (S12 F H r) H w0 [.c [1,1,1,0],.c [1,1,1,1]] [] H (F):=by
 intro   heq
 unfold smithyardref10_CheckHistory.e1 at heq
 refine Rr<|Rd 1 [2] [(2,iv 0)] ?_
 obtain rfl:=Option.some.inj heq
 exact RunH.done (by kernel_rfl) Tryd.func12 (v:=iv 0) (by kernel_rfl) ⟨rfl,rfl,rfl⟩
theorem smithyardref10_CheckHistory.l2_c {w0:World} [GlobI 0 w0] {H:Hp} {F:List Ch} {r:Int} (e1:Option Int)
  (he1:e1=some r→RunH C12 (S12 F H r) H w0 [.c [1,1,1,0],.c [1,1,1,1]] [] H (F)):∀ (k:Nat),∀ (a0:List TestRun) (Aa0:Option Addr) (ca0:Nat) (v10:Int) ,Rw kTestRun H F Aa0 a0→a0.length≤ca0→smithyardref10_CheckHistory.l2 e1 k a0 v10=some r→RunH C12 (S12 F H r) H w0 [.c [1,1,0,1,0,0],.l [1,1,0,1,0,0],.b 0,.c [1,1,1]] [(0,.slice Aa0 a0.length ca0),(8,.slice Aa0 a0.length ca0),(9,iv (a0.length:Int)),(10,iv v10)] H (F):=by
 intro k
 induction k with
 | zero=>intro a0 Aa0 ca0 v10 hra0 hca0 heq; exact nomatch (show (none:Option Int)=some r from heq)
 | succ k ihk =>
  intro a0 Aa0 ca0 v10 hra0 hca0 heq
  rw [smithyardref10_CheckHistory.l2] at heq
  refine Ra 1 [1,1,0,1,0,0,0] [.c [1,1,0,1,0,0,1],.l [1,1,0,1,0,0],.b 0,.c [1,1,1]]<|Rd 1 [0,8,9,10,11] [(0,.slice Aa0 a0.length ca0),(8,.slice Aa0 a0.length ca0),(9,iv (a0.length:Int)),(10,iv v10),(11,.bool (decide (v10<(a0.length:Int))))]<|Ad 1 [.c [1,1,0,1,0,0,1,0],.c [1,1,0,1,0,0,1,1],.l [1,1,0,1,0,0],.b 0,.c [1,1,1]] ?_
  rcases bool_cases (decide (v10<(a0.length:Int))) with hb2 | hb2
  ·replace heq:=bif_true hb2 heq
   refine Ct (decide (v10<(a0.length:Int))) hb2<|Ra 4 [1,1,0,1,0,0,1,1,0,0,0] [.c [1,1,0,1,0,0,1,1,0,0,1],.b 1,.c [1,1,0,1,0,0,1,1,1],.l [1,1,0,1,0,0],.b 0,.c [1,1,1]] ?_
   obtain ⟨x1,hx1,heq⟩:=bind_some heq
   obtain ⟨ha1,cs1,hK1,hcc1⟩:=hra0.get hx1
   obtain ⟨rfl⟩:=kTestRun_open hK1
   refine Rv 3 [0,8,9,10,12,14] [.string x1.Test,.string x1.Key,iv x1.At,.bool x1.Pass,iv x1.Seconds] [.need (Aa0=some (adr Aa0)∧(0:Int)≤v10∧v10<((a0.length:Nat):Int)),.load (((adr Aa0).add (v10.toNat*5)).add 0) (.string x1.Test),.load (((adr Aa0).add (v10.toNat*5)).add 1) (.string x1.Key),.load (((adr Aa0).add (v10.toNat*5)).add 2) (iv x1.At),.load (((adr Aa0).add (v10.toNat*5)).add 3) (.bool x1.Pass),.load (((adr Aa0).add (v10.toNat*5)).add 4) (iv x1.Seconds)] [(0,.slice Aa0 a0.length ca0),(8,.slice Aa0 a0.length ca0),(9,iv (a0.length:Int)),(10,iv v10),(12,iv v10),(14,.agg #[.string x1.Test,.string x1.Key,iv x1.At,.bool x1.Pass,iv x1.Seconds])] (fun w hh=>⟨⟨ha1,(at?_some hx1).1,(at?_some hx1).2.1⟩,(hcc1 _ _ (hh.drop 0) 0 _ rfl),(hcc1 _ _ (hh.drop 0) 1 _ rfl),(hcc1 _ _ (hh.drop 0) 2 _ rfl),(hcc1 _ _ (hh.drop 0) 3 _ rfl),(hcc1 _ _ (hh.drop 0) 4 _ rfl)⟩) ?_
   refine RgH.does (DoesH.new (d:=4) (v:=fun g=>.pointer (some ⟨g,0,none⟩)) (o:=fun g=>.cells #[.string ByteArray.empty,.string ByteArray.empty,iv 0,.bool false,iv 0] 28 (0,0)) (fun g=>by kernel_rfl)) ?_
   rintro _ _ _ _ ⟨g1,rfl,rfl,rfl⟩
   refine Rk 5 [0,3,4,8,9,10,14] [(0,.slice Aa0 a0.length ca0),(3,iv v10),(4,pg g1 0),(8,.slice Aa0 a0.length ca0),(9,iv (a0.length:Int)),(10,iv v10),(14,.agg #[.string x1.Test,.string x1.Key,iv x1.At,.bool x1.Pass,iv x1.Seconds])] ?_
   refine RgH.does (DoesH.store (k:=0) (g:=g1) (off:=0) (v:=.agg #[.string x1.Test,.string x1.Key,iv x1.At,.bool x1.Pass,iv x1.Seconds]) (cells':=#[.string x1.Test,.string x1.Key,iv x1.At,.bool x1.Pass,iv x1.Seconds]) (by kernel_rfl) rfl (by kernel_rfl) (by kernel_rfl)) ?_
   rintro _ _ _ _ ⟨rfl,rfl,rfl⟩
   refine Dn<|Ra 2 [1,1,0,1,0,0,1,1,0,0,1,0,0] [.c [1,1,0,1,0,0,1,1,0,0,1,0,1],.b 2,.b 1,.c [1,1,0,1,0,0,1,1,1],.l [1,1,0,1,0,0],.b 0,.c [1,1,1]]<|Rv 2 [0,3,4,8,9,10,17] [.string x1.Test] [.load ⟨g1,0,none⟩ (.string x1.Test)] [(0,.slice Aa0 a0.length ca0),(3,iv v10),(4,pg g1 0),(8,.slice Aa0 a0.length ca0),(9,iv (a0.length:Int)),(10,iv v10),(17,.string x1.Test)] (fun w hh=>(hh.box 0 rfl rfl)) ?_
   obtain ⟨y1,hy1,heq⟩:=bind_some heq
   refine RgH.does (DoesH.call (d:=18) (g:=25) (args:=#[.string x1.Test]) (by kernel_rfl) (smithyardref10_isPath_c (a0:=x1.Test)  hy1)) ?_
   rintro _ _ _ _ ⟨_,rfl,rfl,rfl,rfl⟩
   refine Rd 5 [0,3,4,8,9,10,15] [(0,.slice Aa0 a0.length ca0),(3,iv v10),(4,pg g1 0),(8,.slice Aa0 a0.length ca0),(9,iv (a0.length:Int)),(10,iv v10),(15,.bool (!y1))] ?_
   rcases bool_cases (!y1) with hb3 | hb3
   ·replace heq:=bif_true hb3 heq
    refine Ct (!y1) hb3<|Ra 1 [1,1,0,1,0,0,1,1,0,0,1,0,1,0,0] [.c [1,1,0,1,0,0,1,1,0,0,1,0,1,0,1],.b 2,.b 1,.c [1,1,0,1,0,0,1,1,1],.l [1,1,0,1,0,0],.b 0,.c [1,1,1]]<|Rd 1 [2] [(2,iv 5)] ?_
    obtain rfl:=Option.some.inj heq
    refine RunH.pick 1 [] (cs':=F) (by kernel_rfl) rfl ?_
    exact RunH.done (by kernel_rfl) Tryd.func12 (v:=iv 5) (by kernel_rfl) ⟨rfl,rfl,rfl⟩
   ·replace heq:=bif_false hb3 heq
    refine Cf (!y1) hb3<|Ra 1 [1,1,0,1,0,0,1,1,0,0,1,0,1,1,0] [.c [1,1,0,1,0,0,1,1,0,0,1,0,1,1,1],.b 2,.b 1,.c [1,1,0,1,0,0,1,1,1],.l [1,1,0,1,0,0],.b 0,.c [1,1,1]]<|Rv 2 [0,3,4,8,9,10,22] [.string x1.Key] [.load ⟨g1,1,none⟩ (.string x1.Key)] [(0,.slice Aa0 a0.length ca0),(3,iv v10),(4,pg g1 0),(8,.slice Aa0 a0.length ca0),(9,iv (a0.length:Int)),(10,iv v10),(22,.string x1.Key)] (fun w hh=>(hh.box 0 rfl rfl)) ?_
    obtain ⟨y2,hy2,heq⟩:=bind_some heq
    refine RgH.does (DoesH.call (d:=23) (g:=26) (args:=#[.string x1.Key]) (by kernel_rfl) (smithyardref10_isDigest_c (a0:=x1.Key)  hy2)) ?_
    rintro _ _ _ _ ⟨_,rfl,rfl,rfl,rfl⟩
    refine Rd 5 [0,3,4,8,9,10,20] [(0,.slice Aa0 a0.length ca0),(3,iv v10),(4,pg g1 0),(8,.slice Aa0 a0.length ca0),(9,iv (a0.length:Int)),(10,iv v10),(20,.bool (!y2))] ?_
    rcases bool_cases (!y2) with hb4 | hb4
    ·replace heq:=bif_true hb4 heq
     refine Ct (!y2) hb4<|Ra 1 [1,1,0,1,0,0,1,1,0,0,1,0,1,1,1,0,0] [.c [1,1,0,1,0,0,1,1,0,0,1,0,1,1,1,0,1],.b 2,.b 1,.c [1,1,0,1,0,0,1,1,1],.l [1,1,0,1,0,0],.b 0,.c [1,1,1]]<|Rd 1 [2] [(2,iv 3)] ?_
     obtain rfl:=Option.some.inj heq
     refine RunH.pick 1 [] (cs':=F) (by kernel_rfl) rfl ?_
     exact RunH.done (by kernel_rfl) Tryd.func12 (v:=iv 3) (by kernel_rfl) ⟨rfl,rfl,rfl⟩
    ·replace heq:=bif_false hb4 heq
     refine Cf (!y2) hb4<|Ad 1 [.c [1,1,0,1,0,0,1,1,0,0,1,0,1,1,1,1,0],.c [1,1,0,1,0,0,1,1,0,0,1,0,1,1,1,1,1],.b 2,.b 1,.c [1,1,0,1,0,0,1,1,1],.l [1,1,0,1,0,0],.b 0,.c [1,1,1]] ?_
     obtain ⟨t1,ht1,heq⟩:=bind_some heq
     have K2:RunH C12 (S12 F H r) H w0 [.c [1,1,0,1,0,0,1,1,0,0,1,0,1,1,1,1,1],.b 2,.b 1,.c [1,1,0,1,0,0,1,1,1],.l [1,1,0,1,0,0],.b 0,.c [1,1,1]] [(0,.slice Aa0 a0.length ca0),(3,iv v10),(4,pg g1 0),(8,.slice Aa0 a0.length ca0),(9,iv (a0.length:Int)),(10,iv v10),(25,.bool t1)] H ((some (g1,.cells #[.string x1.Test,.string x1.Key,iv x1.At,.bool x1.Pass,iv x1.Seconds] 28 (0,0)))::F):=by
      rcases bool_cases (t1) with hb6 | hb6
      ·replace heq:=bif_true hb6 heq
       refine Ct t1 hb6<|Ra 1 [1,1,0,1,0,0,1,1,0,0,1,0,1,1,1,1,1,0,0] [.c [1,1,0,1,0,0,1,1,0,0,1,0,1,1,1,1,1,0,1],.b 2,.b 1,.c [1,1,0,1,0,0,1,1,1],.l [1,1,0,1,0,0],.b 0,.c [1,1,1]]<|Rd 1 [2] [(2,iv 1)] ?_
       obtain rfl:=Option.some.inj heq
       refine RunH.pick 1 [] (cs':=F) (by kernel_rfl) rfl ?_
       exact RunH.done (by kernel_rfl) Tryd.func12 (v:=iv 1) (by kernel_rfl) ⟨rfl,rfl,rfl⟩
      ·replace heq:=bif_false hb6 heq
       refine Cf t1 hb6<|Ad 1 [.c [1,1,0,1,0,0,1,1,0,0,1,0,1,1,1,1,1,1,0],.c [1,1,0,1,0,0,1,1,0,0,1,0,1,1,1,1,1,1,1],.b 2,.b 1,.c [1,1,0,1,0,0,1,1,1],.l [1,1,0,1,0,0],.b 0,.c [1,1,1]] ?_
       obtain ⟨t2,ht2,heq⟩:=bind_some heq
       have K3:RunH C12 (S12 F H r) H w0 [.c [1,1,0,1,0,0,1,1,0,0,1,0,1,1,1,1,1,1,1],.b 2,.b 1,.c [1,1,0,1,0,0,1,1,1],.l [1,1,0,1,0,0],.b 0,.c [1,1,1]] [(0,.slice Aa0 a0.length ca0),(8,.slice Aa0 a0.length ca0),(9,iv (a0.length:Int)),(10,iv v10),(36,.bool t2)] H (F):=by
        rcases bool_cases (t2) with hb8 | hb8
        ·replace heq:=bif_true hb8 heq
         refine Ct t2 hb8<|Ra 1 [1,1,0,1,0,0,1,1,0,0,1,0,1,1,1,1,1,1,1,0,0] [.c [1,1,0,1,0,0,1,1,0,0,1,0,1,1,1,1,1,1,1,0,1],.b 2,.b 1,.c [1,1,0,1,0,0,1,1,1],.l [1,1,0,1,0,0],.b 0,.c [1,1,1]]<|Rd 1 [2] [(2,iv 8)] ?_
         obtain rfl:=Option.some.inj heq
         exact RunH.done (by kernel_rfl) Tryd.func12 (v:=iv 8) (by kernel_rfl) ⟨rfl,rfl,rfl⟩
        ·replace heq:=bif_false hb8 heq
         refine Cf t2 hb8<|Ra 3 [1,1,0,1,0,0,1,1,1] [.l [1,1,0,1,0,0],.b 0,.c [1,1,1]]<|Rd 2 [0,8,9,10] [(0,.slice Aa0 a0.length ca0),(8,.slice Aa0 a0.length ca0),(9,iv (a0.length:Int)),(10,iv (w64 (v10+1)))]<|Ad 1 [.c [1,1,0,1,0,0],.l [1,1,0,1,0,0],.b 0,.c [1,1,1]]<|Kp [0,8,9,10] [(0,.slice Aa0 a0.length ca0),(8,.slice Aa0 a0.length ca0),(9,iv (a0.length:Int)),(10,iv (w64 (v10+1)))] ?_
         exact ihk a0 _ _ (w64 (v10+1)) hra0 hca0 heq
       replace heq:=ht2
       refine Kp [0,3,4,8,9,10] [(0,.slice Aa0 a0.length ca0),(3,iv v10),(4,pg g1 0),(8,.slice Aa0 a0.length ca0),(9,iv (a0.length:Int)),(10,iv v10)] ?_
       refine RunH.draw (fun w=>Heap H w0 w ((some (g1,.cells #[.string x1.Test,.string x1.Key,iv x1.At,.bool x1.Pass,iv x1.Seconds] 28 (0,0)))::F)) (fun w=>Heap H w0 w ((some (g1,.cells #[.string x1.Test,.string x1.Key,iv x1.At,.bool x1.Pass,iv x1.Seconds] 28 (0,0)))::F)) [3,3,3,3,3,3,3,3,3,3,3,3,3,3] (n:=14) (ls:=[false,false,false,false,false,false,false,false,false,false,false,false,false,false]) (by kernel_rfl) (by kernel_rfl) (by kernel_rfl) rfl ?_
       refine Dk [0,1,2] 11 (nb 14 7) [] [] [39,0,3,4,8,9,10] [(39,.bool (decide (0<v10))),(0,.slice Aa0 a0.length ca0),(3,iv v10),(4,pg g1 0),(8,.slice Aa0 a0.length ca0),(9,iv (a0.length:Int)),(10,iv v10)] (Pk 1 [0]) (Pk 1 [0]) (fun _ _=>trivial) ?_
       rcases bool_cases (decide (0<v10)) with hb7 | hb7
       ·replace heq:=bif_true hb7 heq
        refine DrH.val1 (v':=.bool true) (congrArg Value.bool hb7) ?_
        obtain ⟨x2,hx2,heq⟩:=bind_some heq
        obtain ⟨ha2,cs2,hK2,hcc2⟩:=hra0.get hx2
        obtain ⟨rfl⟩:=kTestRun_open hK2
        refine Dk [3,4,5,6,7,8,9,10,11,12,13] 0 (nb 14 16383) [iv x1.At,iv x2.At] [.load ⟨g1,2,none⟩ (iv x1.At),.need (Aa0=some (adr Aa0)∧(0:Int)≤(w64 (v10 - 1))∧(w64 (v10 - 1))<((a0.length:Nat):Int)),.load (((adr Aa0).add ((w64 (v10 - 1)).toNat*5)).add 2) (iv x2.At)] [0,8,9,10,36] [(0,.slice Aa0 a0.length ca0),(8,.slice Aa0 a0.length ca0),(9,iv (a0.length:Int)),(10,iv v10),(36,.bool (decide (x1.At<x2.At)))] (Pk 1 [0]) (Pk 1 [0]) (fun w hh=>⟨(hh.box 0 rfl rfl),⟨ha2,(at?_some hx2).1,(at?_some hx2).2.1⟩,(hcc2 _ _ (hh.drop 1) 2 _ rfl)⟩) ?_
        obtain rfl:=Option.some.inj heq
        refine Kr [0,8,9,10,36] [(0,.slice Aa0 a0.length ca0),(8,.slice Aa0 a0.length ca0),(9,iv (a0.length:Int)),(10,iv v10),(36,.bool (decide (x1.At<x2.At)))] ?_
        refine DrH.pick 1 [] (cs':=F) (by kernel_rfl) rfl ?_
        refine DrH.done (by kernel_rfl) ?_
        exact K3
       ·replace heq:=bif_false hb7 heq
        refine DrH.val1 (v':=.bool false) (congrArg Value.bool hb7) ?_
        refine Dk [3,4,5,6,7,8,9,10,11,12,13] 0 (nb 14 16383) [] [] [0,8,9,10,36] [(0,.slice Aa0 a0.length ca0),(8,.slice Aa0 a0.length ca0),(9,iv (a0.length:Int)),(10,iv v10),(36,.bool false)] (Pk 1 [0]) (Pk 1 [0]) (fun _ _=>trivial) ?_
        obtain rfl:=Option.some.inj heq
        refine Kr [0,8,9,10,36] [(0,.slice Aa0 a0.length ca0),(8,.slice Aa0 a0.length ca0),(9,iv (a0.length:Int)),(10,iv v10),(36,.bool false)] ?_
        refine DrH.pick 1 [] (cs':=F) (by kernel_rfl) rfl ?_
        refine DrH.done (by kernel_rfl) ?_
        exact K3
     replace heq:=ht1
     refine Rr<|Rv 2 [0,3,4,8,9,10,27] [iv x1.At] [.load ⟨g1,2,none⟩ (iv x1.At)] [(0,.slice Aa0 a0.length ca0),(3,iv v10),(4,pg g1 0),(8,.slice Aa0 a0.length ca0),(9,iv (a0.length:Int)),(10,iv v10),(27,iv x1.At)] (fun w hh=>(hh.box 0 rfl rfl)) ?_
     obtain ⟨y3,hy3,heq⟩:=bind_some heq
     refine RgH.does (DoesH.call (d:=28) (g:=27) (args:=#[iv x1.At,iv 0,iv 1000000000]) (by kernel_rfl) (smithyardref10_within_c (a0:=x1.At) (a1:=0) (a2:=1000000000)  hy3)) ?_
     rintro _ _ _ _ ⟨_,rfl,rfl,rfl,rfl⟩
     refine Rk 5 [30,0,3,4,8,9,10] [(30,.bool (!y3)),(0,.slice Aa0 a0.length ca0),(3,iv v10),(4,pg g1 0),(8,.slice Aa0 a0.length ca0),(9,iv (a0.length:Int)),(10,iv v10)] ?_
     rcases bool_cases (!y3) with hb5 | hb5
     ·replace heq:=bif_true hb5 heq
      refine RgH.val1 (v':=.bool true) (congrArg Value.bool hb5) ?_
      refine Rk 11 [0,3,4,8,9,10,25] [(0,.slice Aa0 a0.length ca0),(3,iv v10),(4,pg g1 0),(8,.slice Aa0 a0.length ca0),(9,iv (a0.length:Int)),(10,iv v10),(25,.bool true)] ?_
      obtain rfl:=Option.some.inj heq
      refine Kg [0,3,4,8,9,10,25] [(0,.slice Aa0 a0.length ca0),(3,iv v10),(4,pg g1 0),(8,.slice Aa0 a0.length ca0),(9,iv (a0.length:Int)),(10,iv v10),(25,.bool true)]<|Dn ?_
      exact K2
     ·replace heq:=bif_false hb5 heq
      refine RgH.val1 (v':=.bool false) (congrArg Value.bool hb5) ?_
      refine Rv 7 [0,3,4,8,9,10,30,32] [iv x1.Seconds] [.load ⟨g1,4,none⟩ (iv x1.Seconds)] [(0,.slice Aa0 a0.length ca0),(3,iv v10),(4,pg g1 0),(8,.slice Aa0 a0.length ca0),(9,iv (a0.length:Int)),(10,iv v10),(30,.bool false),(32,iv x1.Seconds)] (fun w hh=>(hh.box 0 rfl rfl)) ?_
      obtain ⟨y4,hy4,heq⟩:=bind_some heq
      refine RgH.does (DoesH.call (d:=33) (g:=27) (args:=#[iv x1.Seconds,iv 0,iv 100000]) (by kernel_rfl) (smithyardref10_within_c (a0:=x1.Seconds) (a1:=0) (a2:=100000)  hy4)) ?_
      rintro _ _ _ _ ⟨_,rfl,rfl,rfl,rfl⟩
      refine Rk 11 [0,3,4,8,9,10,25] [(0,.slice Aa0 a0.length ca0),(3,iv v10),(4,pg g1 0),(8,.slice Aa0 a0.length ca0),(9,iv (a0.length:Int)),(10,iv v10),(25,.bool (!y4))] ?_
      obtain rfl:=Option.some.inj heq
      refine Kg [0,3,4,8,9,10,25] [(0,.slice Aa0 a0.length ca0),(3,iv v10),(4,pg g1 0),(8,.slice Aa0 a0.length ca0),(9,iv (a0.length:Int)),(10,iv v10),(25,.bool (!y4))]<|Dn ?_
      exact K2
  ·replace heq:=bif_false hb2 heq
   refine Cf (decide (v10<(a0.length:Int))) hb2<|Ad 2 [.c [1,1,1,0],.c [1,1,1,1]]<|Kp [] [] ?_
   exact he1 heq
theorem smithyardref10_CheckHistory_c {w0:World} [GlobI 0 w0] {H:Hp} {F:List Ch} {a0:List TestRun} {Aa0:Option Addr} {na0:Nat} {ca0:Nat} {r:Int} (hra0:Rw kTestRun H F Aa0 a0) (hca0:na0≤ca0) (hna0:na0=a0.length) (heq:smithyardref10_CheckHistory.f a0=some r):CallsH Tryd.prog 12 #[.slice Aa0 na0 ca0] H w0 (F) (S12 F H r):=by
 refine calls_of_runH (F:=C12) Tryd.func12 (by kernel_rfl) Tryd.ntmps12 (args:=[.slice Aa0 na0 ca0]) (by kernel_rfl) ?_
 subst hna0
 unfold smithyardref10_CheckHistory.f at heq
 refine Ra 1 [0] [.c [1]]<|Rd 1 [0] [(0,.slice Aa0 a0.length ca0)]<|Ra 2 [1,0,0] [.c [1,0,1],.c [1,1]]<|Rd 3 [0,7] [(0,.slice Aa0 a0.length ca0),(7,.bool (decide (3000<(a0.length:Int))))] ?_
 rcases bool_cases (decide (3000<(a0.length:Int))) with hb1 | hb1
 ·replace heq:=bif_true hb1 heq
  refine Ct (decide (3000<(a0.length:Int))) hb1<|Ra 1 [1,0,1,0,0] [.c [1,0,1,0,1],.c [1,1]]<|Rd 1 [2] [(2,iv 2)] ?_
  obtain rfl:=Option.some.inj heq
  exact RunH.done (by kernel_rfl) Tryd.func12 (v:=iv 2) (by kernel_rfl) ⟨rfl,rfl,rfl⟩
 ·replace heq:=bif_false hb1 heq
  refine Cf (decide (3000<(a0.length:Int))) hb1<|Ra 3 [1,1,0,0] [.c [1,1,0,1],.c [1,1,1]]<|Rd 3 [0,8,9,10] [(0,.slice Aa0 a0.length ca0),(8,.slice Aa0 a0.length ca0),(9,iv (a0.length:Int)),(10,iv 0)]<|Ad 2 [.c [1,1,0,1,0,0],.l [1,1,0,1,0,0],.b 0,.c [1,1,1]]<|Kp [0,8,9,10] [(0,.slice Aa0 a0.length ca0),(8,.slice Aa0 a0.length ca0),(9,iv (a0.length:Int)),(10,iv 0)] ?_
  exact ((smithyardref10_CheckHistory.l2_c (e1:=smithyardref10_CheckHistory.e1) (smithyardref10_CheckHistory.e1_c)) big) a0 _ _ 0 hra0 hca0 heq
noncomputable def C23:Ctx:={ P:=Tryd.prog,f:=23,N:=22,c:=bodyOf Tryd.f23 }
def S23 (F:List Ch) (H0:Hp) (r:Bool) (v:Value) (H:Hp) (cs:List Ch):Prop:=H0=H∧v=.bool r∧F=cs
theorem smithyardref10_isRow.e1_c {w0:World} [GlobI 0 w0] {H:Hp} {F:List Ch} {r:Bool}:∀ (a0:ByteArray) ,smithyardref10_isRow.e1 a0=some r→RunH C23 (S23 F H r) H w0 [.c [1,1,0],.c [1,1,1]] [(0,.string a0)] H (F):=by
 intro a0  heq
 unfold smithyardref10_isRow.e1 at heq
 refine Rr<|Rd 3 [2] [(2,.bool (!sEq a0 ({ data:=#[] }:ByteArray)))] ?_
 obtain rfl:=Option.some.inj heq
 exact RunH.done (by kernel_rfl) Tryd.func23 (v:=.bool (!sEq a0 ({ data:=#[] }:ByteArray))) (by kernel_rfl) ⟨rfl,rfl,rfl⟩
theorem smithyardref10_isRow.l2_c {w0:World} [GlobI 0 w0] {H:Hp} {F:List Ch} {r:Bool} (e1:ByteArray→Option Bool)
  (he1:∀ (a0:ByteArray) ,e1 a0=some r→RunH C23 (S23 F H r) H w0 [.c [1,1,0],.c [1,1,1]] [(0,.string a0)] H (F)):∀ (k:Nat),∀ (a0:ByteArray) (v6:Int) ,smithyardref10_isRow.l2 e1 k a0 v6=some r→RunH C23 (S23 F H r) H w0 [.c [1,0,1,0,0],.l [1,0,1,0,0],.b 0,.c [1,1]] [(0,.string a0),(5,iv (a0.size:Int)),(6,iv v6)] H (F):=by
 intro k
 induction k with
 | zero=>intro a0 v6  heq; exact nomatch (show (none:Option Bool)=some r from heq)
 | succ k ihk =>
  intro a0 v6  heq
  rw [smithyardref10_isRow.l2] at heq
  refine Ra 1 [1,0,1,0,0,0] [.c [1,0,1,0,0,1],.l [1,0,1,0,0],.b 0,.c [1,1]]<|Rd 1 [0,5,6,7] [(0,.string a0),(5,iv (a0.size:Int)),(6,iv v6),(7,.bool (decide (v6<(a0.size:Int))))]<|Ad 1 [.c [1,0,1,0,0,1,0],.c [1,0,1,0,0,1,1],.l [1,0,1,0,0],.b 0,.c [1,1]] ?_
  rcases bool_cases (decide (v6<(a0.size:Int))) with hb1 | hb1
  ·replace heq:=bif_true hb1 heq
   refine Ct (decide (v6<(a0.size:Int))) hb1<|Ra 4 [1,0,1,0,0,1,1,0,0,0] [.c [1,0,1,0,0,1,1,0,0,1],.b 1,.c [1,0,1,0,0,1,1,1],.l [1,0,1,0,0],.b 0,.c [1,1]]<|Rd 2 [0,3,5,6] [(0,.string a0),(3,iv v6),(5,iv (a0.size:Int)),(6,iv v6)]<|Ad 1 [.c [1,0,1,0,0,1,1,0,0,1,0],.c [1,0,1,0,0,1,1,0,0,1,1],.b 1,.c [1,0,1,0,0,1,1,1],.l [1,0,1,0,0],.b 0,.c [1,1]] ?_
   obtain ⟨t1,ht1,heq⟩:=bind_some heq
   have K1:RunH C23 (S23 F H r) H w0 [.c [1,0,1,0,0,1,1,0,0,1,1],.b 1,.c [1,0,1,0,0,1,1,1],.l [1,0,1,0,0],.b 0,.c [1,1]] [(0,.string a0),(5,iv (a0.size:Int)),(6,iv v6),(18,.bool t1)] H (F):=by
    rcases bool_cases (t1) with hb3 | hb3
    ·replace heq:=bif_true hb3 heq
     refine Ct t1 hb3<|Ra 1 [1,0,1,0,0,1,1,0,0,1,1,0,0] [.c [1,0,1,0,0,1,1,0,0,1,1,0,1],.b 1,.c [1,0,1,0,0,1,1,1],.l [1,0,1,0,0],.b 0,.c [1,1]]<|Rd 1 [2] [(2,.bool false)] ?_
     obtain rfl:=Option.some.inj heq
     exact RunH.done (by kernel_rfl) Tryd.func23 (v:=.bool false) (by kernel_rfl) ⟨rfl,rfl,rfl⟩
    ·replace heq:=bif_false hb3 heq
     refine Cf t1 hb3<|Ra 2 [1,0,1,0,0,1,1,1] [.l [1,0,1,0,0],.b 0,.c [1,1]]<|Rd 2 [0,5,6] [(0,.string a0),(5,iv (a0.size:Int)),(6,iv (w64 (v6+1)))]<|Ad 1 [.c [1,0,1,0,0],.l [1,0,1,0,0],.b 0,.c [1,1]]<|Kp [0,5,6] [(0,.string a0),(5,iv (a0.size:Int)),(6,iv (w64 (v6+1)))] ?_
     exact ihk a0 (w64 (v6+1)) heq
   replace heq:=ht1
   refine Rr ?_
   obtain ⟨hn1,heq⟩:=guard?_some heq
   refine Rv 5 [13,0,3,5,6] [] [.need ((0:Int)≤v6∧v6<(a0.size:Int))] [(13,.bool (decide ((bt a0 v6)<33))),(0,.string a0),(3,iv v6),(5,iv (a0.size:Int)),(6,iv v6)] (fun w hh=>(both_of hn1)) ?_
   rcases bool_cases (decide ((bt a0 v6)<33)) with hb2 | hb2
   ·replace heq:=bif_true hb2 heq
    refine RgH.val1 (v':=.bool true) (congrArg Value.bool hb2) ?_
    refine Rk 10 [0,5,6,18] [(0,.string a0),(5,iv (a0.size:Int)),(6,iv v6),(18,.bool true)] ?_
    obtain rfl:=Option.some.inj heq
    refine Kg [0,5,6,18] [(0,.string a0),(5,iv (a0.size:Int)),(6,iv v6),(18,.bool true)]<|Dn ?_
    exact K1
   ·replace heq:=bif_false hb2 heq
    refine RgH.val1 (v':=.bool false) (congrArg Value.bool hb2) ?_
    obtain ⟨hn2,heq⟩:=guard?_some heq
    refine Rv 10 [0,5,6,18] [] [.need ((0:Int)≤v6∧v6<(a0.size:Int))] [(0,.string a0),(5,iv (a0.size:Int)),(6,iv v6),(18,.bool (decide (126<(bt a0 v6))))] (fun w hh=>(both_of hn2)) ?_
    obtain rfl:=Option.some.inj heq
    refine Kg [0,5,6,18] [(0,.string a0),(5,iv (a0.size:Int)),(6,iv v6),(18,.bool (decide (126<(bt a0 v6))))]<|Dn ?_
    exact K1
  ·replace heq:=bif_false hb1 heq
   refine Cf (decide (v6<(a0.size:Int))) hb1<|Ad 2 [.c [1,1,0],.c [1,1,1]]<|Kp [0] [(0,.string a0)] ?_
   exact he1 a0 heq
theorem smithyardref10_isRow_c {w0:World} [GlobI 0 w0] {H:Hp} {F:List Ch} {a0:ByteArray} {r:Bool} (heq:smithyardref10_isRow.f a0=some r):CallsH Tryd.prog 23 #[.string a0] H w0 (F) (S23 F H r):=by
 refine calls_of_runH (F:=C23) Tryd.func23 (by kernel_rfl) Tryd.ntmps23 (args:=[.string a0]) (by kernel_rfl) ?_
 unfold smithyardref10_isRow.f at heq
 refine Ra 1 [0] [.c [1]]<|Rd 1 [0] [(0,.string a0)]<|Ra 2 [1,0,0] [.c [1,0,1],.c [1,1]]<|Rd 3 [0,5,6] [(0,.string a0),(5,iv (a0.size:Int)),(6,iv 0)]<|Ad 2 [.c [1,0,1,0,0],.l [1,0,1,0,0],.b 0,.c [1,1]]<|Kp [0,5,6] [(0,.string a0),(5,iv (a0.size:Int)),(6,iv 0)] ?_
 exact ((smithyardref10_isRow.l2_c (e1:=smithyardref10_isRow.e1) (smithyardref10_isRow.e1_c)) big) a0 0 heq
noncomputable def C24:Ctx:={ P:=Tryd.prog,f:=24,N:=34,c:=bodyOf Tryd.f24 }
def S24 (F:List Ch) (H0:Hp) (r:Int × Bool) (v:Value) (H:Hp) (cs:List Ch):Prop:=H0=H∧v=.tuple #[iv r.1,.bool r.2]∧F=cs
theorem smithyardref10_number_c {w0:World} [GlobI 0 w0] {H:Hp} {F:List Ch} {a0:ByteArray} {r:Int × Bool} (heq:smithyardref10_number.f a0=some r):CallsH Tryd.prog 24 #[.string a0] H w0 (F) (S24 F H r):=by
 refine calls_of_runH (F:=C24) Tryd.func24 (by kernel_rfl) Tryd.ntmps24 (args:=[.string a0]) (by kernel_rfl) ?_
 unfold smithyardref10_number.f at heq
 refine Ra 1 [0] [.c [1]]<|Rd 2 [0] [(0,.string a0)]<|Ad 2 [.c [1,0,0],.c [1,0,1],.c [1,1]] ?_
 obtain ⟨t1,ht1,heq⟩:=bind_some heq
 have K1:RunH C24 (S24 F H r) H w0 [.c [1,0,1],.c [1,1]] [(0,.string a0),(27,.bool t1)] H (F):=by
  rcases bool_cases (t1) with hb5 | hb5
  ·replace heq:=bif_true hb5 heq
   refine Ct t1 hb5<|Ra 1 [1,0,1,0,0] [.c [1,0,1,0,1],.c [1,1]]<|Rd 2 [2,3] [(2,iv 0),(3,.bool false)] ?_
   obtain rfl:=Option.some.inj heq
   exact RunH.done (by kernel_rfl) Tryd.func24 (v:=.tuple #[iv 0,.bool false]) (by kernel_rfl) ⟨rfl,rfl,rfl⟩
  ·replace heq:=bif_false hb5 heq
   refine Cf t1 hb5<|Ra 2 [1,1,0] [.c [1,1,1]]<|Rk 1 [29] [(29,.string a0)] ?_
   obtain ⟨y3,hy3,heq⟩:=bind_some heq
   refine RgH.does (DoesH.call (d:=30) (g:=34) (args:=#[.string a0]) (by kernel_rfl) (strconv_Atoi_c (a0:=a0)  hy3)) ?_
   rintro _ _ _ _ ⟨_,rfl,rfl,rfl,rfl⟩
   refine Rd 7 [4] [(4,iv y3)]<|Ra 1 [1,1,1,0] [.c [1,1,1,1]]<|Rd 3 [2,3] [(2,iv y3),(3,.bool true)] ?_
   obtain rfl:=Option.some.inj heq
   exact RunH.done (by kernel_rfl) Tryd.func24 (v:=.tuple #[iv y3,.bool true]) (by kernel_rfl) ⟨rfl,rfl,rfl⟩
 replace heq:=ht1
 refine Rr<|Rk 3 [8,0] [(8,.bool (sEq a0 ({ data:=#[] }:ByteArray))),(0,.string a0)] ?_
 rcases bool_cases (sEq a0 ({ data:=#[] }:ByteArray)) with hb1 | hb1
 ·replace heq:=bif_true hb1 heq
  refine RgH.val1 (v':=.bool true) (congrArg Value.bool hb1) ?_
  refine Rk 22 [0,27] [(0,.string a0),(27,.bool true)] ?_
  obtain rfl:=Option.some.inj heq
  refine Kg [0,27] [(0,.string a0),(27,.bool true)]<|Dn ?_
  exact K1
 ·replace heq:=bif_false hb1 heq
  refine RgH.val1 (v':=.bool false) (congrArg Value.bool hb1) ?_
  refine Rk 8 [13,0] [(13,.bool (decide (10<(a0.size:Int)))),(0,.string a0)] ?_
  rcases bool_cases (decide (10<(a0.size:Int))) with hb2 | hb2
  ·replace heq:=bif_true hb2 heq
   refine RgH.val1 (v':=.bool true) (congrArg Value.bool hb2) ?_
   refine Rk 22 [0,27] [(0,.string a0),(27,.bool true)] ?_
   obtain rfl:=Option.some.inj heq
   refine Kg [0,27] [(0,.string a0),(27,.bool true)]<|Dn ?_
   exact K1
  ·replace heq:=bif_false hb2 heq
   refine RgH.val1 (v':=.bool false) (congrArg Value.bool hb2) ?_
   refine Rk 12 [17,0,13] [(17,.bool (decide (1<(a0.size:Int)))),(0,.string a0),(13,.bool false)] ?_
   rcases bool_cases (decide (1<(a0.size:Int))) with hb3 | hb3
   ·replace heq:=bif_true hb3 heq
    refine RgH.val1 (v':=.bool true) (congrArg Value.bool hb3) ?_
    obtain ⟨hn1,heq⟩:=guard?_some heq
    refine Rv 18 [23,0] [] [.need ((0:Int)≤0∧0<(a0.size:Int))] [(23,.bool ((bt a0 0) == 48)),(0,.string a0)] (fun w hh=>(both_of hn1)) ?_
    rcases bool_cases ((bt a0 0) == 48) with hb4 | hb4
    ·replace heq:=bif_true hb4 heq
     refine RgH.val1 (v':=.bool true) (congrArg Value.bool hb4) ?_
     refine Rk 22 [0,27] [(0,.string a0),(27,.bool true)] ?_
     obtain rfl:=Option.some.inj heq
     refine Kg [0,27] [(0,.string a0),(27,.bool true)]<|Dn ?_
     exact K1
    ·replace heq:=bif_false hb4 heq
     refine RgH.val1 (v':=.bool false) (congrArg Value.bool hb4) ?_
     refine Rk 19 [0,23,24] [(0,.string a0),(23,.bool false),(24,.string a0)] ?_
     obtain ⟨y1,hy1,heq⟩:=bind_some heq
     refine RgH.does (DoesH.call (d:=25) (g:=33) (args:=#[.string a0,.string ({ data:=#[48,49,50,51,52,53,54,55,56,57] }:ByteArray)]) (by kernel_rfl) (strings_Trim_c (a0:=a0) (a1:=({ data:=#[48,49,50,51,52,53,54,55,56,57] }:ByteArray))  hy1)) ?_
     rintro _ _ _ _ ⟨_,rfl,rfl,rfl,rfl⟩
     refine Rk 22 [0,27] [(0,.string a0),(27,.bool (!sEq y1 ({ data:=#[] }:ByteArray)))] ?_
     obtain rfl:=Option.some.inj heq
     refine Kg [0,27] [(0,.string a0),(27,.bool (!sEq y1 ({ data:=#[] }:ByteArray)))]<|Dn ?_
     exact K1
   ·replace heq:=bif_false hb3 heq
    refine RgH.val1 (v':=.bool false) (congrArg Value.bool hb3) ?_
    refine Rk 19 [0,23,24] [(0,.string a0),(23,.bool false),(24,.string a0)] ?_
    obtain ⟨y2,hy2,heq⟩:=bind_some heq
    refine RgH.does (DoesH.call (d:=25) (g:=33) (args:=#[.string a0,.string ({ data:=#[48,49,50,51,52,53,54,55,56,57] }:ByteArray)]) (by kernel_rfl) (strings_Trim_c (a0:=a0) (a1:=({ data:=#[48,49,50,51,52,53,54,55,56,57] }:ByteArray))  hy2)) ?_
    rintro _ _ _ _ ⟨_,rfl,rfl,rfl,rfl⟩
    refine Rk 22 [0,27] [(0,.string a0),(27,.bool (!sEq y2 ({ data:=#[] }:ByteArray)))] ?_
    obtain rfl:=Option.some.inj heq
    refine Kg [0,27] [(0,.string a0),(27,.bool (!sEq y2 ({ data:=#[] }:ByteArray)))]<|Dn ?_
    exact K1
noncomputable def C11:Ctx:={ P:=Tryd.prog,f:=11,N:=72,c:=bodyOf Tryd.f11 }
def S11 (F:List Ch) (H0:Hp) (r:TestRun × Bool) (v:Value) (H:Hp) (cs:List Ch):Prop:=H0=H∧v=.tuple #[.agg #[.string r.1.Test,.string r.1.Key,iv r.1.At,.bool r.1.Pass,iv r.1.Seconds],.bool r.2]∧F=cs
theorem smithyardref10_readRun_c {w0:World} [GlobI 0 w0] {H:Hp} {F:List Ch} {a0:ByteArray} {r:TestRun × Bool} (heq:smithyardref10_readRun.f a0=some r):CallsH Tryd.prog 11 #[.string a0] H w0 (F) (S11 F H r):=by
 refine calls_of_runH (F:=C11) Tryd.func11 (by kernel_rfl) Tryd.ntmps11 (args:=[.string a0]) (by kernel_rfl) ?_
 unfold smithyardref10_readRun.f at heq
 refine Ra 1 [0] [.c [1]] ?_
 refine RgH.does (DoesH.new (d:=2) (v:=fun g=>.pointer (some ⟨g,0,none⟩)) (o:=fun g=>.cells #[.string ByteArray.empty,.string ByteArray.empty,iv 0,.bool false,iv 0] 28 (0,0)) (fun g=>by kernel_rfl)) ?_
 rintro _ _ _ _ ⟨g1,rfl,rfl,rfl⟩
 refine Rd 2 [0,2] [(0,.string a0),(2,pg g1 0)]<|Ra 1 [1,0] [.c [1,1]]<|Rk 1 [2,9] [(2,pg g1 0),(9,.string a0)] ?_
 obtain ⟨y1,hy1,heq⟩:=bind_some heq
 refine RgH.does (DoesH.call (d:=10) (g:=15) (args:=#[.string a0,.string ({ data:=#[32] }:ByteArray)]) (by kernel_rfl) (strings_Split_c (a0:=a0) (a1:=({ data:=#[32] }:ByteArray))  hy1)) ?_
 rintro _ _ _ _ ⟨_,rfl,A1,c1,ch1,rfl,rfl,rfl,ho1⟩
 refine Rd 3 [2,4] [(2,pg g1 0),(4,.slice A1 y1.length c1)]<|Ad 2 [.c [1,1,0,0],.c [1,1,0,1],.c [1,1,1]] ?_
 obtain ⟨t1,ht1,heq⟩:=bind_some heq
 have K3:RunH C11 (S11 F H r) H w0 [.c [1,1,0,1],.c [1,1,1]] [(2,pg g1 0),(4,.slice A1 y1.length c1),(39,.bool t1)] H (ch1::(some (g1,.cells #[.string ByteArray.empty,.string ByteArray.empty,iv 0,.bool false,iv 0] 28 (0,0)))::F):=by
  rcases bool_cases (t1) with hb5 | hb5
  ·replace heq:=bif_true hb5 heq
   refine Ct t1 hb5<|Ra 1 [1,1,0,1,0,0] [.c [1,1,0,1,0,1],.c [1,1,1]]<|Rk 1 [2,40] [(2,pg g1 0),(40,.agg #[.string ByteArray.empty,.string ByteArray.empty,iv 0,.bool false,iv 0])] ?_
   refine RgH.does (DoesH.store (k:=1) (g:=g1) (off:=0) (v:=.agg #[.string ByteArray.empty,.string ByteArray.empty,iv 0,.bool false,iv 0]) (cells':=#[.string ByteArray.empty,.string ByteArray.empty,iv 0,.bool false,iv 0]) (by kernel_rfl) rfl (by kernel_rfl) (by kernel_rfl)) ?_
   rintro _ _ _ _ ⟨rfl,rfl,rfl⟩
   refine Rd 3 [2,3] [(2,pg g1 0),(3,.bool false)] ?_
   obtain rfl:=Option.some.inj heq
   refine RunH.pick 2 [1] (cs':=(some (g1,.cells #[.string ByteArray.empty,.string ByteArray.empty,iv 0,.bool false,iv 0] 28 (0,0)))::F) (by kernel_rfl) rfl ?_
   exact RunH.doneM' 1 (vs:=[.agg #[.string ByteArray.empty,.string ByteArray.empty,iv 0,.bool false,iv 0],.bool false]) (v:=.tuple #[.agg #[.string ByteArray.empty,.string ByteArray.empty,iv 0,.bool false,iv 0],.bool false]) (by kernel_rfl) Tryd.func11 (fun w hh=>show ResAll _ _ _ [.cell 2 28,.tmp 3] _ from ⟨⟨⟨g1,0,none⟩,by kernel_rfl,trS_run _ (vs:=[.string ByteArray.empty,.string ByteArray.empty,iv 0,.bool false,iv 0]) (r:=[]) (es:=[.load ⟨g1,0,none⟩ (.string ByteArray.empty),.load ⟨g1,1,none⟩ (.string ByteArray.empty),.load ⟨g1,2,none⟩ (iv 0),.load ⟨g1,3,none⟩ (.bool false),.load ⟨g1,4,none⟩ (iv 0)]) (by kernel_rfl) ⟨(hh.box 0 rfl rfl),(hh.box 0 rfl rfl),(hh.box 0 rfl rfl),(hh.box 0 rfl rfl),(hh.box 0 rfl rfl)⟩⟩,(show lk _ _=some _ by kernel_rfl),trivial⟩) rfl (cs':=F) rfl ⟨rfl,rfl,rfl⟩
  ·replace heq:=bif_false hb5 heq
   refine Cf t1 hb5<|Ra 2 [1,1,1,0] [.c [1,1,1,1]] ?_
   obtain ⟨x4,hx4,heq⟩:=bind_some heq
   obtain ⟨ha5,cs5,hK5,hcc5⟩:=ho1.get hx4
   obtain rfl:cs5=[.string x4]:=hK5
   refine Rv 3 [2,4,44] [.string x4] [.need (A1=some (adr A1)∧(0:Int)≤0∧0<((y1.length:Nat):Int)),.load ((adr A1).add (0*1)) (.string x4)] [(2,pg g1 0),(4,.slice A1 y1.length c1),(44,.string x4)] (fun w hh=>⟨⟨ha5,(at?_some hx4).1,(at?_some hx4).2.1⟩,(hcc5 _ (hh.chin 0 rfl) 0 _ rfl)⟩) ?_
   obtain ⟨y4,hy4,heq⟩:=bind_some heq
   refine RgH.does (DoesH.call (d:=45) (g:=24) (args:=#[.string x4]) (by kernel_rfl) (smithyardref10_number_c (a0:=x4)  hy4)) ?_
   rintro _ _ _ _ ⟨_,rfl,rfl,rfl,rfl⟩
   refine Rd 9 [2,4,5,6] [(2,pg g1 0),(4,.slice A1 y1.length c1),(5,iv y4.1),(6,.bool y4.2)]<|Ra 1 [1,1,1,1,0] [.c [1,1,1,1,1]] ?_
   obtain ⟨x5,hx5,heq⟩:=bind_some heq
   obtain ⟨ha6,cs6,hK6,hcc6⟩:=ho1.get hx5
   obtain rfl:cs6=[.string x5]:=hK6
   refine Rv 3 [2,4,5,6,51] [.string x5] [.need (A1=some (adr A1)∧(0:Int)≤4∧4<((y1.length:Nat):Int)),.load ((adr A1).add (4*1)) (.string x5)] [(2,pg g1 0),(4,.slice A1 y1.length c1),(5,iv y4.1),(6,.bool y4.2),(51,.string x5)] (fun w hh=>⟨⟨ha6,(at?_some hx5).1,(at?_some hx5).2.1⟩,(hcc6 _ (hh.chin 0 rfl) 0 _ rfl)⟩) ?_
   obtain ⟨y5,hy5,heq⟩:=bind_some heq
   refine RgH.does (DoesH.call (d:=52) (g:=24) (args:=#[.string x5]) (by kernel_rfl) (smithyardref10_number_c (a0:=x5)  hy5)) ?_
   rintro _ _ _ _ ⟨_,rfl,rfl,rfl,rfl⟩
   refine Rd 9 [2,4,5,6,7,8] [(2,pg g1 0),(4,.slice A1 y1.length c1),(5,iv y4.1),(6,.bool y4.2),(7,iv y5.1),(8,.bool y5.2)]<|Ad 1 [.c [1,1,1,1,1,0],.c [1,1,1,1,1,1]] ?_
   obtain ⟨t2,ht2,heq⟩:=bind_some heq
   have K4:RunH C11 (S11 F H r) H w0 [.c [1,1,1,1,1,1]] [(2,pg g1 0),(3,.bool t2.2.2.2)] H ((some (g1,.cells #[.string t2.1,.string t2.2.1,iv y4.1,.bool t2.2.2.1,iv y5.1] 28 (0,0)))::F):=by
    obtain rfl:=Option.some.inj heq
    exact RunH.doneM' 1 (vs:=[.agg #[.string t2.1,.string t2.2.1,iv y4.1,.bool t2.2.2.1,iv y5.1],.bool t2.2.2.2]) (v:=.tuple #[.agg #[.string t2.1,.string t2.2.1,iv y4.1,.bool t2.2.2.1,iv y5.1],.bool t2.2.2.2]) (by kernel_rfl) Tryd.func11 (fun w hh=>show ResAll _ _ _ [.cell 2 28,.tmp 3] _ from ⟨⟨⟨g1,0,none⟩,by kernel_rfl,trS_run _ (vs:=[.string t2.1,.string t2.2.1,iv y4.1,.bool t2.2.2.1,iv y5.1]) (r:=[]) (es:=[.load ⟨g1,0,none⟩ (.string t2.1),.load ⟨g1,1,none⟩ (.string t2.2.1),.load ⟨g1,2,none⟩ (iv y4.1),.load ⟨g1,3,none⟩ (.bool t2.2.2.1),.load ⟨g1,4,none⟩ (iv y5.1)]) (by kernel_rfl) ⟨(hh.box 0 rfl rfl),(hh.box 0 rfl rfl),(hh.box 0 rfl rfl),(hh.box 0 rfl rfl),(hh.box 0 rfl rfl)⟩⟩,(show lk _ _=some _ by kernel_rfl),trivial⟩) rfl (cs':=F) rfl ⟨rfl,rfl,rfl⟩
   replace heq:=ht2
   refine Kp [2,4,5,6,7,8] [(2,pg g1 0),(4,.slice A1 y1.length c1),(5,iv y4.1),(6,.bool y4.2),(7,iv y5.1),(8,.bool y5.2)] ?_
   refine RunH.draw (fun w=>Heap H w0 w (ch1::(some (g1,.cells #[.string ByteArray.empty,.string ByteArray.empty,iv 0,.bool false,iv 0] 28 (0,0)))::F)) (fun w=>Heap H w0 w (ch1::F)) [3,3,3,3,3,3,3,3,3,3,3,3,3,3,3,3,3,1,3] (n:=19) (ls:=[false,false,false,false,false,false,false,false,false,false,false,false,false,false,false,false,false,false,false]) (by kernel_rfl) (by kernel_rfl) (by kernel_rfl) rfl ?_
   obtain ⟨x6,hx6,heq⟩:=bind_some heq
   obtain ⟨ha7,cs7,hK7,hcc7⟩:=ho1.get hx6
   obtain rfl:cs7=[.string x6]:=hK7
   obtain ⟨x7,hx7,heq⟩:=bind_some heq
   obtain ⟨ha8,cs8,hK8,hcc8⟩:=ho1.get hx7
   obtain rfl:cs8=[.string x7]:=hK8
   obtain ⟨x8,hx8,heq⟩:=bind_some heq
   obtain ⟨ha9,cs9,hK9,hcc9⟩:=ho1.get hx8
   obtain rfl:cs9=[.string x8]:=hK9
   refine Dk [0,1,2,3,4,5,6,7,8,9,10,11,12] 6 (nb 19 8191) [.string x6,.string x7,.string x8] [.need (A1=some (adr A1)∧(0:Int)≤1∧1<((y1.length:Nat):Int)),.load ((adr A1).add (1*1)) (.string x6),.need (A1=some (adr A1)∧(0:Int)≤2∧2<((y1.length:Nat):Int)),.load ((adr A1).add (2*1)) (.string x7),.need (A1=some (adr A1)∧(0:Int)≤3∧3<((y1.length:Nat):Int)),.load ((adr A1).add (3*1)) (.string x8)] [2,6,8,67] [(2,pg g1 0),(6,.bool y4.2),(8,.bool y5.2),(67,.agg #[.string x6,.string x7,iv y4.1,.bool (sEq x8 ({ data:=#[112,97,115,115] }:ByteArray)),iv y5.1])] (Pk 2 [0,1]) (Pk 2 [0]) (fun w hh=>⟨⟨ha7,(at?_some hx6).1,(at?_some hx6).2.1⟩,(hcc7 _ (hh.chin 0 rfl) 0 _ rfl),⟨ha8,(at?_some hx7).1,(at?_some hx7).2.1⟩,(hcc8 _ (hh.chin 0 rfl) 0 _ rfl),⟨ha9,(at?_some hx8).1,(at?_some hx8).2.1⟩,(hcc9 _ (hh.chin 0 rfl) 0 _ rfl)⟩)<|De [13] 5 (nb 19 16383) [] [] [2,8,67,68] [(2,pg g1 0),(8,.bool y5.2),(67,.agg #[.string x6,.string x7,iv y4.1,.bool (sEq x8 ({ data:=#[112,97,115,115] }:ByteArray)),iv y5.1]),(68,.bool y4.2)] (Pk 2 [0]) (fun _ _=>trivial)<|Dk [14] 4 (nb 19 32767) [] [] [69,2,8,67] [(69,.bool y4.2),(2,pg g1 0),(8,.bool y5.2),(67,.agg #[.string x6,.string x7,iv y4.1,.bool (sEq x8 ({ data:=#[112,97,115,115] }:ByteArray)),iv y5.1])] (Pk 2 [0,1]) (Pk 2 [0]) (fun _ _=>trivial) ?_
   rcases bool_cases (y4.2) with hb6 | hb6
   ·replace heq:=bif_true hb6 heq
    refine DrH.val1 (v':=.bool true) (congrArg Value.bool hb6) ?_
    refine De [15,16] 2 (nb 19 131071) [] [] [2,67,71] [(2,pg g1 0),(67,.agg #[.string x6,.string x7,iv y4.1,.bool (sEq x8 ({ data:=#[112,97,115,115] }:ByteArray)),iv y5.1]),(71,.bool y5.2)] (Pk 2 [0]) (fun _ _=>trivial) ?_
    refine DrH.does (n:=1) (ls':=[true,true,true,true,true,true,true,true,true,true,true,true,true,true,true,true,true,true,false]) 17 (by kernel_rfl) rfl (DoesH.store (k:=1) (g:=g1) (off:=0) (v:=.agg #[.string x6,.string x7,iv y4.1,.bool (sEq x8 ({ data:=#[112,97,115,115] }:ByteArray)),iv y5.1]) (cells':=#[.string x6,.string x7,iv y4.1,.bool (sEq x8 ({ data:=#[112,97,115,115] }:ByteArray)),iv y5.1]) (by kernel_rfl) rfl (by kernel_rfl) (by kernel_rfl)) ?_
    rintro _ _ _ _ ⟨rfl,rfl,rfl⟩
    refine ⟨fun _ w hh=>⟨(fun h=>by cases h),fun _=>(Pk 2 [0]) w hh,(fun h=>by cases h)⟩,?_⟩
    refine De [18] 0 (nb 19 524287) [] [] [2,3] [(2,pg g1 0),(3,.bool y5.2)] (Pk 2 [0]) (fun _ _=>trivial) ?_
    obtain rfl:=Option.some.inj heq
    refine Kr [2,3] [(2,pg g1 0),(3,.bool y5.2)] ?_
    refine DrH.pick 2 [1] (cs':=(some (g1,.cells #[.string x6,.string x7,iv y4.1,.bool (sEq x8 ({ data:=#[112,97,115,115] }:ByteArray)),iv y5.1] 28 (0,0)))::F) (by kernel_rfl) rfl ?_
    refine DrH.done (by kernel_rfl) ?_
    exact K4
   ·replace heq:=bif_false hb6 heq
    refine DrH.val1 (v':=.bool false) (congrArg Value.bool hb6) ?_
    refine De [15,16] 2 (nb 19 131071) [] [] [2,67,71] [(2,pg g1 0),(67,.agg #[.string x6,.string x7,iv y4.1,.bool (sEq x8 ({ data:=#[112,97,115,115] }:ByteArray)),iv y5.1]),(71,.bool false)] (Pk 2 [0]) (fun _ _=>trivial) ?_
    refine DrH.does (n:=1) (ls':=[true,true,true,true,true,true,true,true,true,true,true,true,true,true,true,true,true,true,false]) 17 (by kernel_rfl) rfl (DoesH.store (k:=1) (g:=g1) (off:=0) (v:=.agg #[.string x6,.string x7,iv y4.1,.bool (sEq x8 ({ data:=#[112,97,115,115] }:ByteArray)),iv y5.1]) (cells':=#[.string x6,.string x7,iv y4.1,.bool (sEq x8 ({ data:=#[112,97,115,115] }:ByteArray)),iv y5.1]) (by kernel_rfl) rfl (by kernel_rfl) (by kernel_rfl)) ?_
    rintro _ _ _ _ ⟨rfl,rfl,rfl⟩
    refine ⟨fun _ w hh=>⟨(fun h=>by cases h),fun _=>(Pk 2 [0]) w hh,(fun h=>by cases h)⟩,?_⟩
    refine De [18] 0 (nb 19 524287) [] [] [2,3] [(2,pg g1 0),(3,.bool false)] (Pk 2 [0]) (fun _ _=>trivial) ?_
    obtain rfl:=Option.some.inj heq
    refine Kr [2,3] [(2,pg g1 0),(3,.bool false)] ?_
    refine DrH.pick 2 [1] (cs':=(some (g1,.cells #[.string x6,.string x7,iv y4.1,.bool (sEq x8 ({ data:=#[112,97,115,115] }:ByteArray)),iv y5.1] 28 (0,0)))::F) (by kernel_rfl) rfl ?_
    refine DrH.done (by kernel_rfl) ?_
    exact K4
 replace heq:=ht1
 refine Rr<|Rk 4 [14,2,4] [(14,.bool ((y1.length:Int) != 5)),(2,pg g1 0),(4,.slice A1 y1.length c1)] ?_
 rcases bool_cases ((y1.length:Int) != 5) with hb1 | hb1
 ·replace heq:=bif_true hb1 heq
  refine RgH.val1 (v':=.bool true) (congrArg Value.bool hb1) ?_
  refine Rk 29 [2,4,39] [(2,pg g1 0),(4,.slice A1 y1.length c1),(39,.bool true)] ?_
  obtain rfl:=Option.some.inj heq
  refine Kg [2,4,39] [(2,pg g1 0),(4,.slice A1 y1.length c1),(39,.bool true)]<|Dn ?_
  exact K3
 ·replace heq:=bif_false hb1 heq
  refine RgH.val1 (v':=.bool false) (congrArg Value.bool hb1) ?_
  obtain ⟨x1,hx1,heq⟩:=bind_some heq
  obtain ⟨ha1,cs1,hK1,hcc1⟩:=ho1.get hx1
  obtain rfl:cs1=[.string x1]:=hK1
  refine Rv 7 [2,4,14,17] [.string x1] [.need (A1=some (adr A1)∧(0:Int)≤1∧1<((y1.length:Nat):Int)),.load ((adr A1).add (1*1)) (.string x1)] [(2,pg g1 0),(4,.slice A1 y1.length c1),(14,.bool false),(17,.string x1)] (fun w hh=>⟨⟨ha1,(at?_some hx1).1,(at?_some hx1).2.1⟩,(hcc1 _ (hh.chin 0 rfl) 0 _ rfl)⟩) ?_
  obtain ⟨y2,hy2,heq⟩:=bind_some heq
  refine RgH.does (DoesH.call (d:=18) (g:=23) (args:=#[.string x1]) (by kernel_rfl) (smithyardref10_isRow_c (a0:=x1)  hy2)) ?_
  rintro _ _ _ _ ⟨_,rfl,rfl,rfl,rfl⟩
  refine Rk 11 [21,2,4] [(21,.bool (!y2)),(2,pg g1 0),(4,.slice A1 y1.length c1)] ?_
  rcases bool_cases (!y2) with hb2 | hb2
  ·replace heq:=bif_true hb2 heq
   refine RgH.val1 (v':=.bool true) (congrArg Value.bool hb2) ?_
   refine Rk 29 [2,4,39] [(2,pg g1 0),(4,.slice A1 y1.length c1),(39,.bool true)] ?_
   obtain rfl:=Option.some.inj heq
   refine Kg [2,4,39] [(2,pg g1 0),(4,.slice A1 y1.length c1),(39,.bool true)]<|Dn ?_
   exact K3
  ·replace heq:=bif_false hb2 heq
   refine RgH.val1 (v':=.bool false) (congrArg Value.bool hb2) ?_
   obtain ⟨x2,hx2,heq⟩:=bind_some heq
   obtain ⟨ha2,cs2,hK2,hcc2⟩:=ho1.get hx2
   obtain rfl:cs2=[.string x2]:=hK2
   refine Rv 14 [2,4,21,24] [.string x2] [.need (A1=some (adr A1)∧(0:Int)≤2∧2<((y1.length:Nat):Int)),.load ((adr A1).add (2*1)) (.string x2)] [(2,pg g1 0),(4,.slice A1 y1.length c1),(21,.bool false),(24,.string x2)] (fun w hh=>⟨⟨ha2,(at?_some hx2).1,(at?_some hx2).2.1⟩,(hcc2 _ (hh.chin 0 rfl) 0 _ rfl)⟩) ?_
   obtain ⟨y3,hy3,heq⟩:=bind_some heq
   refine RgH.does (DoesH.call (d:=25) (g:=23) (args:=#[.string x2]) (by kernel_rfl) (smithyardref10_isRow_c (a0:=x2)  hy3)) ?_
   rintro _ _ _ _ ⟨_,rfl,rfl,rfl,rfl⟩
   refine Rk 18 [28,2,4] [(28,.bool (!y3)),(2,pg g1 0),(4,.slice A1 y1.length c1)] ?_
   rcases bool_cases (!y3) with hb3 | hb3
   ·replace heq:=bif_true hb3 heq
    refine RgH.val1 (v':=.bool true) (congrArg Value.bool hb3) ?_
    refine Rk 29 [2,4,39] [(2,pg g1 0),(4,.slice A1 y1.length c1),(39,.bool true)] ?_
    obtain rfl:=Option.some.inj heq
    refine Kg [2,4,39] [(2,pg g1 0),(4,.slice A1 y1.length c1),(39,.bool true)]<|Dn ?_
    exact K3
   ·replace heq:=bif_false hb3 heq
    refine RgH.val1 (v':=.bool false) (congrArg Value.bool hb3) ?_
    obtain ⟨x3,hx3,heq⟩:=bind_some heq
    obtain ⟨ha3,cs3,hK3,hcc3⟩:=ho1.get hx3
    obtain rfl:cs3=[.string x3]:=hK3
    refine Rv 23 [33,2,4,28] [.string x3] [.need (A1=some (adr A1)∧(0:Int)≤3∧3<((y1.length:Nat):Int)),.load ((adr A1).add (3*1)) (.string x3)] [(33,.bool (!sEq x3 ({ data:=#[112,97,115,115] }:ByteArray))),(2,pg g1 0),(4,.slice A1 y1.length c1),(28,.bool false)] (fun w hh=>⟨⟨ha3,(at?_some hx3).1,(at?_some hx3).2.1⟩,(hcc3 _ (hh.chin 0 rfl) 0 _ rfl)⟩) ?_
    rcases bool_cases (!sEq x3 ({ data:=#[112,97,115,115] }:ByteArray)) with hb4 | hb4
    ·replace heq:=bif_true hb4 heq
     refine RgH.val1 (v':=.bool true) (congrArg Value.bool hb4) ?_
     obtain ⟨ha4,cs4,hK4,hcc4⟩:=ho1.get hx3
     obtain rfl:cs4=[.string x3]:=hK4
     refine Rv 29 [2,4,39] [.string x3] [.need (A1=some (adr A1)∧(0:Int)≤3∧3<((y1.length:Nat):Int)),.load ((adr A1).add (3*1)) (.string x3)] [(2,pg g1 0),(4,.slice A1 y1.length c1),(39,.bool (!sEq x3 ({ data:=#[102,97,105,108] }:ByteArray)))] (fun w hh=>⟨⟨ha4,(at?_some hx3).1,(at?_some hx3).2.1⟩,(hcc4 _ (hh.chin 0 rfl) 0 _ rfl)⟩) ?_
     obtain rfl:=Option.some.inj heq
     refine Kg [2,4,39] [(2,pg g1 0),(4,.slice A1 y1.length c1),(39,.bool (!sEq x3 ({ data:=#[102,97,105,108] }:ByteArray)))]<|Dn ?_
     exact K3
    ·replace heq:=bif_false hb4 heq
     refine RgH.val1 (v':=.bool false) (congrArg Value.bool hb4) ?_
     refine Rk 29 [2,4,39] [(2,pg g1 0),(4,.slice A1 y1.length c1),(39,.bool false)] ?_
     obtain rfl:=Option.some.inj heq
     refine Kg [2,4,39] [(2,pg g1 0),(4,.slice A1 y1.length c1),(39,.bool false)]<|Dn ?_
     exact K3
noncomputable def C5:Ctx:={ P:=Tryd.prog,f:=5,N:=49,c:=bodyOf Tryd.f5 }
def S5 (F:List Ch) (H0:Hp) (r:(List TestRun) × Int × Int) (v:Value) (H:Hp) (cs:List Ch):Prop:=∃ (A0:Option Addr) (c0:Nat) (ch0:Ch),H0=H∧v=.tuple #[.slice A0 r.1.length c0,iv r.2.1,iv r.2.2]∧ch0::F=cs∧SlOwn kTestRun 28 H A0 c0 r.1 ch0
theorem smithyardref10_Read.e1_c {w0:World} [GlobI 0 w0] {H:Hp} {F:List Ch} {r:(List TestRun) × Int × Int}:∀ (v_out5:List TestRun) (Av_out5:Option Addr) (nv_out5:Nat) (cv_out5:Nat) (chv_out5:Ch) ,SlOwn kTestRun 28 H Av_out5 cv_out5 v_out5 chv_out5→nv_out5=v_out5.length→smithyardref10_Read.e1 v_out5=some r→RunH C5 (S5 F H r) H w0 [.c [1,1,1,1,0,0],.c [1,1,1,1,0,1],.c [1,1,1,1,1]] [(5,.slice Av_out5 nv_out5 cv_out5)] H (chv_out5::F):=by
 intro v_out5 Av_out5 nv_out5 cv_out5 chv_out5 hov_out5 hnv_out5 heq
 subst hnv_out5
 unfold smithyardref10_Read.e1 at heq
 refine Rr<|Rk 1 [5,43] [(5,.slice Av_out5 v_out5.length cv_out5),(43,.slice Av_out5 v_out5.length cv_out5)] ?_
 obtain ⟨y1,hy1,heq⟩:=bind_some heq
 refine RgH.does (DoesH.call (d:=44) (g:=12) (args:=#[.slice Av_out5 v_out5.length cv_out5]) (by kernel_rfl) (smithyardref10_CheckHistory_c (a0:=v_out5) (hov_out5.rw (.head _)) hov_out5.cap rfl hy1)) ?_
 rintro _ _ _ _ ⟨_,rfl,rfl,rfl,rfl⟩
 refine Rd 3 [5,12] [(5,.slice Av_out5 v_out5.length cv_out5),(12,iv y1)]<|Ra 1 [1,1,1,1,0,1,0] [.c [1,1,1,1,0,1,1],.c [1,1,1,1,1]]<|Rd 2 [5,12,46] [(5,.slice Av_out5 v_out5.length cv_out5),(12,iv y1),(46,.bool (y1 != 0))] ?_
 rcases bool_cases (y1 != 0) with hb2 | hb2
 ·replace heq:=bif_true hb2 heq
  refine Ct (y1 != 0) hb2<|Ra 1 [1,1,1,1,0,1,1,0,0] [.c [1,1,1,1,0,1,1,0,1],.c [1,1,1,1,1]]<|Rd 4 [2,3,4] [(2,.slice none 0 0),(3,iv 0),(4,iv y1)]<|RunH.nilc ?_
  have ho2:SlOwn kTestRun 28 H none 0 ([]:List TestRun) none:=SlOwn.nil
  obtain rfl:=Option.some.inj heq
  refine RunH.pick 2 [0] (cs':=none::F) (by kernel_rfl) rfl ?_
  exact RunH.done (by kernel_rfl) Tryd.func5 (v:=.tuple #[.slice none 0 0,iv 0,iv y1]) (by kernel_rfl) ⟨none,0,none,rfl,rfl,rfl,ho2⟩
 ·replace heq:=bif_false hb2 heq
  refine Cf (y1 != 0) hb2<|Ra 2 [1,1,1,1,1,0] [.c [1,1,1,1,1,1]]<|Rd 4 [2,3,4] [(2,.slice Av_out5 v_out5.length cv_out5),(3,iv 0),(4,iv 0)] ?_
  obtain rfl:=Option.some.inj heq
  exact RunH.done (by kernel_rfl) Tryd.func5 (v:=.tuple #[.slice Av_out5 v_out5.length cv_out5,iv 0,iv 0]) (by kernel_rfl) ⟨Av_out5,cv_out5,chv_out5,rfl,rfl,rfl,hov_out5⟩
theorem smithyardref10_Read.l2_c {w0:World} [GlobI 0 w0] {H:Hp} {F:List Ch} {r:(List TestRun) × Int × Int} (e1:(List TestRun)→Option ((List TestRun) × Int × Int))
  (he1:∀ (v_out5:List TestRun) (Av_out5:Option Addr) (nv_out5:Nat) (cv_out5:Nat) (chv_out5:Ch) ,SlOwn kTestRun 28 H Av_out5 cv_out5 v_out5 chv_out5→nv_out5=v_out5.length→e1 v_out5=some r→RunH C5 (S5 F H r) H w0 [.c [1,1,1,1,0,0],.c [1,1,1,1,0,1],.c [1,1,1,1,1]] [(5,.slice Av_out5 nv_out5 cv_out5)] H (chv_out5::F)):∀ (k:Nat),∀ (v_text0:ByteArray) (v_out5:List TestRun) (Av_out5:Option Addr) (nv_out5:Nat) (cv_out5:Nat) (chv_out5:Ch) (v_line6:Int) ,SlOwn kTestRun 28 H Av_out5 cv_out5 v_out5 chv_out5→nv_out5=v_out5.length→smithyardref10_Read.l2 e1 k v_text0 v_out5 v_line6=some r→RunH C5 (S5 F H r) H w0 [.c [1,1,1,0,1,0,0],.l [1,1,1,0,1,0,0],.b 0,.c [1,1,1,1]] [(0,.string v_text0),(5,.slice Av_out5 nv_out5 cv_out5),(6,iv v_line6)] H (chv_out5::F):=by
 intro k
 induction k with
 | zero=>intro v_text0 v_out5 Av_out5 nv_out5 cv_out5 chv_out5 v_line6 hov_out5 hnv_out5 heq; exact nomatch (show (none:Option ((List TestRun) × Int × Int))=some r from heq)
 | succ k ihk =>
  intro v_text0 v_out5 Av_out5 nv_out5 cv_out5 chv_out5 v_line6 hov_out5 hnv_out5 heq
  subst hnv_out5
  rw [smithyardref10_Read.l2] at heq
  refine Ra 2 [1,1,1,0,1,0,0,0,0] [.c [1,1,1,0,1,0,0,0,1],.c [1,1,1,0,1,0,0,1],.l [1,1,1,0,1,0,0],.b 0,.c [1,1,1,1]]<|Rd 2 [0,5,6,17] [(0,.string v_text0),(5,.slice Av_out5 v_out5.length cv_out5),(6,iv v_line6),(17,.bool (!sEq v_text0 ({ data:=#[] }:ByteArray)))] ?_
  rcases bool_cases (!sEq v_text0 ({ data:=#[] }:ByteArray)) with hb3 | hb3
  ·replace heq:=bif_true hb3 heq
   refine Ct (!sEq v_text0 ({ data:=#[] }:ByteArray)) hb3<|Ra 4 [1,1,1,0,1,0,0,1,0,0,0] [.c [1,1,1,0,1,0,0,1,0,0,1],.b 1,.c [1,1,1,0,1,0,0,1,1],.l [1,1,1,0,1,0,0],.b 0,.c [1,1,1,1]]<|Rk 1 [5,6,21] [(5,.slice Av_out5 v_out5.length cv_out5),(6,iv v_line6),(21,.string v_text0)] ?_
   obtain ⟨y2,hy2,heq⟩:=bind_some heq
   refine RgH.does (DoesH.call (d:=22) (g:=8) (args:=#[.string v_text0,.string ({ data:=#[10] }:ByteArray)]) (by kernel_rfl) (strings_Cut_c (a0:=v_text0) (a1:=({ data:=#[10] }:ByteArray))  hy2)) ?_
   rintro _ _ _ _ ⟨_,rfl,rfl,rfl,rfl⟩
   refine Rd 9 [5,6,7,8,9] [(5,.slice Av_out5 v_out5.length cv_out5),(6,iv v_line6),(7,.string y2.1),(8,.string y2.2.1),(9,.bool y2.2.2)]<|Ra 1 [1,1,1,0,1,0,0,1,0,0,1,0] [.c [1,1,1,0,1,0,0,1,0,0,1,1],.b 1,.c [1,1,1,0,1,0,0,1,1],.l [1,1,1,0,1,0,0],.b 0,.c [1,1,1,1]]<|Rk 1 [5,6,8,9,27] [(5,.slice Av_out5 v_out5.length cv_out5),(6,iv v_line6),(8,.string y2.2.1),(9,.bool y2.2.2),(27,.string y2.1)] ?_
   obtain ⟨y3,hy3,heq⟩:=bind_some heq
   refine RgH.does (DoesH.call (d:=28) (g:=11) (args:=#[.string y2.1]) (by kernel_rfl) (smithyardref10_readRun_c (a0:=y2.1)  hy3)) ?_
   rintro _ _ _ _ ⟨_,rfl,rfl,rfl,rfl⟩
   refine Rk 5 [5,6,8,9,29,30] [(5,.slice Av_out5 v_out5.length cv_out5),(6,iv v_line6),(8,.string y2.2.1),(9,.bool y2.2.2),(29,.agg #[.string y3.1.Test,.string y3.1.Key,iv y3.1.At,.bool y3.1.Pass,iv y3.1.Seconds]),(30,.bool y3.2)] ?_
   refine RgH.does (DoesH.new (d:=10) (v:=fun g=>.pointer (some ⟨g,0,none⟩)) (o:=fun g=>.cells #[.string ByteArray.empty,.string ByteArray.empty,iv 0,.bool false,iv 0] 28 (0,0)) (fun g=>by kernel_rfl)) ?_
   rintro _ _ _ _ ⟨g1,rfl,rfl,rfl⟩
   refine RgH.does (DoesH.store (k:=0) (g:=g1) (off:=0) (v:=.agg #[.string y3.1.Test,.string y3.1.Key,iv y3.1.At,.bool y3.1.Pass,iv y3.1.Seconds]) (cells':=#[.string y3.1.Test,.string y3.1.Key,iv y3.1.At,.bool y3.1.Pass,iv y3.1.Seconds]) (by kernel_rfl) rfl (by kernel_rfl) (by kernel_rfl)) ?_
   rintro _ _ _ _ ⟨rfl,rfl,rfl⟩
   refine Rd 8 [5,6,8,9,10,11] [(5,.slice Av_out5 v_out5.length cv_out5),(6,iv v_line6),(8,.string y2.2.1),(9,.bool y2.2.2),(10,pg g1 0),(11,.bool y3.2)]<|Ad 2 [.c [1,1,1,0,1,0,0,1,0,0,1,1,0,0],.c [1,1,1,0,1,0,0,1,0,0,1,1,0,1],.c [1,1,1,0,1,0,0,1,0,0,1,1,1],.b 1,.c [1,1,1,0,1,0,0,1,1],.l [1,1,1,0,1,0,0],.b 0,.c [1,1,1,1]] ?_
   obtain ⟨t1,ht1,heq⟩:=bind_some heq
   have K6:RunH C5 (S5 F H r) H w0 [.c [1,1,1,0,1,0,0,1,0,0,1,1,0,1],.c [1,1,1,0,1,0,0,1,0,0,1,1,1],.b 1,.c [1,1,1,0,1,0,0,1,1],.l [1,1,1,0,1,0,0],.b 0,.c [1,1,1,1]] [(5,.slice Av_out5 v_out5.length cv_out5),(6,iv v_line6),(8,.string y2.2.1),(10,pg g1 0),(36,.bool t1)] H ((some (g1,.cells #[.string y3.1.Test,.string y3.1.Key,iv y3.1.At,.bool y3.1.Pass,iv y3.1.Seconds] 28 (0,0)))::chv_out5::F):=by
    rcases bool_cases (t1) with hb5 | hb5
    ·replace heq:=bif_true hb5 heq
     refine Ct t1 hb5<|Ra 1 [1,1,1,0,1,0,0,1,0,0,1,1,0,1,0,0] [.c [1,1,1,0,1,0,0,1,0,0,1,1,0,1,0,1],.c [1,1,1,0,1,0,0,1,0,0,1,1,1],.b 1,.c [1,1,1,0,1,0,0,1,1],.l [1,1,1,0,1,0,0],.b 0,.c [1,1,1,1]]<|Rd 4 [2,3,4] [(2,.slice none 0 0),(3,iv v_line6),(4,iv 10)]<|RunH.nilc ?_
     have ho3:SlOwn kTestRun 28 H none 0 ([]:List TestRun) none:=SlOwn.nil
     obtain rfl:=Option.some.inj heq
     refine RunH.pick 3 [0] (cs':=none::F) (by kernel_rfl) rfl ?_
     exact RunH.done (by kernel_rfl) Tryd.func5 (v:=.tuple #[.slice none 0 0,iv v_line6,iv 10]) (by kernel_rfl) ⟨none,0,none,rfl,rfl,rfl,ho3⟩
    ·replace heq:=bif_false hb5 heq
     refine Cf t1 hb5<|Ra 1 [1,1,1,0,1,0,0,1,0,0,1,1,1] [.b 1,.c [1,1,1,0,1,0,0,1,1],.l [1,1,1,0,1,0,0],.b 0,.c [1,1,1,1]]<|Rv 2 [6,8,38,39] [.string y3.1.Test,.string y3.1.Key,iv y3.1.At,.bool y3.1.Pass,iv y3.1.Seconds] [.load ⟨g1,0,none⟩ (.string y3.1.Test),.load ⟨g1,1,none⟩ (.string y3.1.Key),.load ⟨g1,2,none⟩ (iv y3.1.At),.load ⟨g1,3,none⟩ (.bool y3.1.Pass),.load ⟨g1,4,none⟩ (iv y3.1.Seconds)] [(6,iv v_line6),(8,.string y2.2.1),(38,.slice Av_out5 v_out5.length cv_out5),(39,.agg #[.string y3.1.Test,.string y3.1.Key,iv y3.1.At,.bool y3.1.Pass,iv y3.1.Seconds])] (fun w hh=>⟨(hh.box 0 rfl rfl),(hh.box 0 rfl rfl),(hh.box 0 rfl rfl),(hh.box 0 rfl rfl),(hh.box 0 rfl rfl)⟩) ?_
     refine RgH.does (DoesH.new (d:=40) (v:=fun g=>.slice (some ⟨g,0,none⟩) 1 1) (o:=fun g=>.cells #[.string y3.1.Test,.string y3.1.Key,iv y3.1.At,.bool y3.1.Pass,iv y3.1.Seconds] 28 (0,0)) (fun g=>by kernel_rfl)) ?_
     rintro _ _ _ _ ⟨g2,rfl,rfl,rfl⟩
     have ho4:SlOwn kTestRun 28 H (some ⟨g2,0,none⟩) 1 ([y3.1]:List TestRun) (some (g2,.cells #[.string y3.1.Test,.string y3.1.Key,iv y3.1.At,.bool y3.1.Pass,iv y3.1.Seconds] 28 (0,0))):=SlOwn.lit (xs:=([y3.1]:List TestRun)) (by kernel_rfl) (Nat.le_of_ble_eq_true (by kernel_rfl)) (Kd.Rep.one kTestRun_mk)
     obtain ⟨hn1,heq⟩:=guard?_some heq
     refine RgH.does (DoesH.append (d:=41) (k:=2) (t:=22) (e:=28) (bytes:=56) (kd:=kTestRun) (n:=v_out5.length) (m:=1) (xs:=v_out5) (ys:=([y3.1]:List TestRun)) (A:=Av_out5) (B:=(some ⟨g2,0,none⟩)) (c:=cv_out5) (cB:=1) (by kernel_rfl) rfl rfl (by kernel_rfl) rfl hov_out5 (fun w hh=>ho4.rdb (hh.chin 0 rfl)) (room_le hn1) (by have:=room_le hn1; omega)) ?_
     rintro _ _ _ _ ⟨A1,c1,ch1,rfl,rfl,rfl,ho5⟩
     refine Rd 7 [0,5,6] [(0,.string y2.2.1),(5,.slice A1 ((v_out5++([y3.1]:List TestRun)).length) c1),(6,iv v_line6)]<|Ra 1 [1,1,1,0,1,0,0,1,1] [.l [1,1,1,0,1,0,0],.b 0,.c [1,1,1,1]]<|Rd 3 [0,5,6] [(0,.string y2.2.1),(5,.slice A1 ((v_out5++([y3.1]:List TestRun)).length) c1),(6,iv (w64 (v_line6+1)))]<|Ad 1 [.c [1,1,1,0,1,0,0],.l [1,1,1,0,1,0,0],.b 0,.c [1,1,1,1]]<|Kp [0,5,6] [(0,.string y2.2.1),(5,.slice A1 ((v_out5++([y3.1]:List TestRun)).length) c1),(6,iv (w64 (v_line6+1)))] ?_
     refine RunH.pick 3 [2] (cs':=ch1::F) (by kernel_rfl) rfl ?_
     exact ihk y2.2.1 (v_out5++([y3.1]:List TestRun)) _ _ _ _ (w64 (v_line6+1)) ho5 rfl heq
   replace heq:=ht1
   refine Rr<|Rk 3 [33,5,6,8,9,10] [(33,.bool (!y3.2)),(5,.slice Av_out5 v_out5.length cv_out5),(6,iv v_line6),(8,.string y2.2.1),(9,.bool y2.2.2),(10,pg g1 0)] ?_
   rcases bool_cases (!y3.2) with hb4 | hb4
   ·replace heq:=bif_true hb4 heq
    refine RgH.val1 (v':=.bool true) (congrArg Value.bool hb4) ?_
    refine Rk 6 [5,6,8,10,36] [(5,.slice Av_out5 v_out5.length cv_out5),(6,iv v_line6),(8,.string y2.2.1),(10,pg g1 0),(36,.bool true)] ?_
    obtain rfl:=Option.some.inj heq
    refine Kg [5,6,8,10,36] [(5,.slice Av_out5 v_out5.length cv_out5),(6,iv v_line6),(8,.string y2.2.1),(10,pg g1 0),(36,.bool true)]<|Dn ?_
    exact K6
   ·replace heq:=bif_false hb4 heq
    refine RgH.val1 (v':=.bool false) (congrArg Value.bool hb4) ?_
    refine Rk 6 [5,6,8,10,36] [(5,.slice Av_out5 v_out5.length cv_out5),(6,iv v_line6),(8,.string y2.2.1),(10,pg g1 0),(36,.bool (!y2.2.2))] ?_
    obtain rfl:=Option.some.inj heq
    refine Kg [5,6,8,10,36] [(5,.slice Av_out5 v_out5.length cv_out5),(6,iv v_line6),(8,.string y2.2.1),(10,pg g1 0),(36,.bool (!y2.2.2))]<|Dn ?_
    exact K6
  ·replace heq:=bif_false hb3 heq
   refine Cf (!sEq v_text0 ({ data:=#[] }:ByteArray)) hb3<|Ad 3 [.c [1,1,1,1,0,0],.c [1,1,1,1,0,1],.c [1,1,1,1,1]]<|Kp [5] [(5,.slice Av_out5 v_out5.length cv_out5)] ?_
   exact he1 v_out5 _ _ _ _ hov_out5 rfl heq
theorem smithyardref10_Read_c {w0:World} [GlobI 0 w0] {H:Hp} {F:List Ch} {a0:ByteArray} {r:(List TestRun) × Int × Int} (heq:smithyardref10_Read.f a0=some r):CallsH Tryd.prog 5 #[.string a0] H w0 (F) (S5 F H r):=by
 refine calls_of_runH (F:=C5) Tryd.func5 (by kernel_rfl) Tryd.ntmps5 (args:=[.string a0]) (by kernel_rfl) ?_
 unfold smithyardref10_Read.f at heq
 refine Ra 1 [0] [.c [1]]<|Rd 3 [0] [(0,.string a0)]<|Ra 2 [1,0,0] [.c [1,0,1],.c [1,1]]<|Rd 3 [0,15] [(0,.string a0),(15,.bool (decide (900000<(a0.size:Int))))] ?_
 rcases bool_cases (decide (900000<(a0.size:Int))) with hb1 | hb1
 ·replace heq:=bif_true hb1 heq
  refine Ct (decide (900000<(a0.size:Int))) hb1<|Ra 1 [1,0,1,0,0] [.c [1,0,1,0,1],.c [1,1]]<|Rd 3 [2,3,4] [(2,.slice none 0 0),(3,iv 0),(4,iv 2)]<|RunH.nilc ?_
  have ho1:SlOwn kTestRun 28 H none 0 ([]:List TestRun) none:=SlOwn.nil
  obtain rfl:=Option.some.inj heq
  exact RunH.done (by kernel_rfl) Tryd.func5 (v:=.tuple #[.slice none 0 0,iv 0,iv 2]) (by kernel_rfl) ⟨none,0,none,rfl,rfl,rfl,ho1⟩
 ·replace heq:=bif_false hb1 heq
  refine Cf (decide (900000<(a0.size:Int))) hb1<|Ra 2 [1,1,0] [.c [1,1,1]]<|Rd 1 [0,5] [(0,.string a0),(5,.slice none 0 0)]<|Ra 2 [1,1,1,0,0] [.c [1,1,1,0,1],.c [1,1,1,1]]<|Rd 1 [0,5,6] [(0,.string a0),(5,.slice none 0 0),(6,iv 1)]<|Ad 2 [.c [1,1,1,0,1,0,0],.l [1,1,1,0,1,0,0],.b 0,.c [1,1,1,1]]<|RunH.nilc ?_
  have ho6:SlOwn kTestRun 28 H none 0 ([]:List TestRun) none:=SlOwn.nil
  refine Kp [0,5,6] [(0,.string a0),(5,.slice none 0 0),(6,iv 1)] ?_
  exact ((smithyardref10_Read.l2_c (e1:=smithyardref10_Read.e1) (smithyardref10_Read.e1_c)) big) a0 ([]:List TestRun) _ _ _ _ 1 ho6 rfl heq
noncomputable def C6:Ctx:={ P:=Tryd.prog,f:=6,N:=26,c:=bodyOf Tryd.f6 }
def S6 (F:List Ch) (H0:Hp) (r:Bool) (v:Value) (H:Hp) (cs:List Ch):Prop:=H0=H∧v=.bool r∧F=cs
theorem slices_Equal_TestRun.e1_c {w0:World} [GlobI 0 w0] {H:Hp} {F:List Ch} {r:Bool}:slices_Equal_TestRun.e1=some r→RunH C6 (S6 F H r) H w0 [.c [1,1,1,0],.c [1,1,1,1]] [] H (F):=by
 intro   heq
 unfold slices_Equal_TestRun.e1 at heq
 refine Rr<|Rd 1 [4] [(4,.bool true)] ?_
 obtain rfl:=Option.some.inj heq
 exact RunH.done (by kernel_rfl) Tryd.func6 (v:=.bool true) (by kernel_rfl) ⟨rfl,rfl,rfl⟩
theorem slices_Equal_TestRun.l2_c {w0:World} [GlobI 0 w0] {H:Hp} {F:List Ch} {r:Bool} (e1:Option Bool)
  (he1:e1=some r→RunH C6 (S6 F H r) H w0 [.c [1,1,1,0],.c [1,1,1,1]] [] H (F)):∀ (k:Nat),∀ (a0:List TestRun) (Aa0:Option Addr) (ca0:Nat) (a1:List TestRun) (Aa1:Option Addr) (ca1:Nat) (v13:Int) ,Rw kTestRun H F Aa0 a0→a0.length≤ca0→Rw kTestRun H F Aa1 a1→a1.length≤ca1→slices_Equal_TestRun.l2 e1 k a0 a1 v13=some r→RunH C6 (S6 F H r) H w0 [.c [1,1,0,1,0,0],.l [1,1,0,1,0,0],.b 0,.c [1,1,1]] [(0,.slice Aa0 a0.length ca0),(1,.slice Aa1 a1.length ca1),(12,iv (a0.length:Int)),(13,iv v13)] H (F):=by
 intro k
 induction k with
 | zero=>intro a0 Aa0 ca0 a1 Aa1 ca1 v13 hra0 hca0 hra1 hca1 heq; exact nomatch (show (none:Option Bool)=some r from heq)
 | succ k ihk =>
  intro a0 Aa0 ca0 a1 Aa1 ca1 v13 hra0 hca0 hra1 hca1 heq
  rw [slices_Equal_TestRun.l2] at heq
  refine Ra 1 [1,1,0,1,0,0,0] [.c [1,1,0,1,0,0,1],.l [1,1,0,1,0,0],.b 0,.c [1,1,1]]<|Rd 1 [0,1,12,13,14] [(0,.slice Aa0 a0.length ca0),(1,.slice Aa1 a1.length ca1),(12,iv (a0.length:Int)),(13,iv v13),(14,.bool (decide (v13<(a0.length:Int))))]<|Ad 1 [.c [1,1,0,1,0,0,1,0],.c [1,1,0,1,0,0,1,1],.l [1,1,0,1,0,0],.b 0,.c [1,1,1]] ?_
  rcases bool_cases (decide (v13<(a0.length:Int))) with hb2 | hb2
  ·replace heq:=bif_true hb2 heq
   refine Ct (decide (v13<(a0.length:Int))) hb2<|Ra 4 [1,1,0,1,0,0,1,1,0,0,0] [.c [1,1,0,1,0,0,1,1,0,0,1],.b 1,.c [1,1,0,1,0,0,1,1,1],.l [1,1,0,1,0,0],.b 0,.c [1,1,1]]<|Rd 2 [0,1,5,12,13] [(0,.slice Aa0 a0.length ca0),(1,.slice Aa1 a1.length ca1),(5,iv v13),(12,iv (a0.length:Int)),(13,iv v13)]<|Ad 1 [.c [1,1,0,1,0,0,1,1,0,0,1,0],.c [1,1,0,1,0,0,1,1,0,0,1,1],.b 1,.c [1,1,0,1,0,0,1,1,1],.l [1,1,0,1,0,0],.b 0,.c [1,1,1]]<|Kp [0,1,5,12,13] [(0,.slice Aa0 a0.length ca0),(1,.slice Aa1 a1.length ca1),(5,iv v13),(12,iv (a0.length:Int)),(13,iv v13)] ?_
   refine RunH.draw (fun w=>Heap H w0 w (F)) (fun w=>Heap H w0 w (F)) [3,3,3,3,3,3,3,3,3] (n:=9) (ls:=[false,false,false,false,false,false,false,false,false]) (by kernel_rfl) (by kernel_rfl) (by kernel_rfl) rfl ?_
   obtain ⟨x1,hx1,heq⟩:=bind_some heq
   obtain ⟨ha1,cs1,hK1,hcc1⟩:=hra0.get hx1
   obtain ⟨rfl⟩:=kTestRun_open hK1
   obtain ⟨x2,hx2,heq⟩:=bind_some heq
   obtain ⟨ha2,cs2,hK2,hcc2⟩:=hra1.get hx2
   obtain ⟨rfl⟩:=kTestRun_open hK2
   refine Dk [0,1,2,3,4,5,6,7,8] 0 (nb 9 511) [.string x1.Test,.string x1.Key,iv x1.At,.bool x1.Pass,iv x1.Seconds,.string x2.Test,.string x2.Key,iv x2.At,.bool x2.Pass,iv x2.Seconds] [.need (Aa0=some (adr Aa0)∧(0:Int)≤v13∧v13<((a0.length:Nat):Int)),.load (((adr Aa0).add (v13.toNat*5)).add 0) (.string x1.Test),.load (((adr Aa0).add (v13.toNat*5)).add 1) (.string x1.Key),.load (((adr Aa0).add (v13.toNat*5)).add 2) (iv x1.At),.load (((adr Aa0).add (v13.toNat*5)).add 3) (.bool x1.Pass),.load (((adr Aa0).add (v13.toNat*5)).add 4) (iv x1.Seconds),.need (Aa1=some (adr Aa1)∧(0:Int)≤v13∧v13<((a1.length:Nat):Int)),.load (((adr Aa1).add (v13.toNat*5)).add 0) (.string x2.Test),.load (((adr Aa1).add (v13.toNat*5)).add 1) (.string x2.Key),.load (((adr Aa1).add (v13.toNat*5)).add 2) (iv x2.At),.load (((adr Aa1).add (v13.toNat*5)).add 3) (.bool x2.Pass),.load (((adr Aa1).add (v13.toNat*5)).add 4) (iv x2.Seconds)] [0,1,12,13,24] [(0,.slice Aa0 a0.length ca0),(1,.slice Aa1 a1.length ca1),(12,iv (a0.length:Int)),(13,iv v13),(24,.bool (!(sEq x1.Test x2.Test&&(sEq x1.Key x2.Key&&(x1.At == x2.At&&(x1.Pass == x2.Pass&&(x1.Seconds == x2.Seconds&&true)))))))] (Pk 0 []) (Pk 0 []) (fun w hh=>⟨⟨ha1,(at?_some hx1).1,(at?_some hx1).2.1⟩,(hcc1 _ _ (hh.drop 0) 0 _ rfl),(hcc1 _ _ (hh.drop 0) 1 _ rfl),(hcc1 _ _ (hh.drop 0) 2 _ rfl),(hcc1 _ _ (hh.drop 0) 3 _ rfl),(hcc1 _ _ (hh.drop 0) 4 _ rfl),⟨ha2,(at?_some hx2).1,(at?_some hx2).2.1⟩,(hcc2 _ _ (hh.drop 0) 0 _ rfl),(hcc2 _ _ (hh.drop 0) 1 _ rfl),(hcc2 _ _ (hh.drop 0) 2 _ rfl),(hcc2 _ _ (hh.drop 0) 3 _ rfl),(hcc2 _ _ (hh.drop 0) 4 _ rfl)⟩) ?_
   refine DrH.done (by kernel_rfl) ?_
   rcases bool_cases (!(sEq x1.Test x2.Test&&(sEq x1.Key x2.Key&&(x1.At == x2.At&&(x1.Pass == x2.Pass&&(x1.Seconds == x2.Seconds&&true)))))) with hb3 | hb3
   ·replace heq:=bif_true hb3 heq
    refine Ct (!(sEq x1.Test x2.Test&&(sEq x1.Key x2.Key&&(x1.At == x2.At&&(x1.Pass == x2.Pass&&(x1.Seconds == x2.Seconds&&true)))))) hb3<|Ra 1 [1,1,0,1,0,0,1,1,0,0,1,1,0,0] [.c [1,1,0,1,0,0,1,1,0,0,1,1,0,1],.b 1,.c [1,1,0,1,0,0,1,1,1],.l [1,1,0,1,0,0],.b 0,.c [1,1,1]]<|Rd 1 [4] [(4,.bool false)] ?_
    obtain rfl:=Option.some.inj heq
    exact RunH.done (by kernel_rfl) Tryd.func6 (v:=.bool false) (by kernel_rfl) ⟨rfl,rfl,rfl⟩
   ·replace heq:=bif_false hb3 heq
    refine Cf (!(sEq x1.Test x2.Test&&(sEq x1.Key x2.Key&&(x1.At == x2.At&&(x1.Pass == x2.Pass&&(x1.Seconds == x2.Seconds&&true)))))) hb3<|Ra 2 [1,1,0,1,0,0,1,1,1] [.l [1,1,0,1,0,0],.b 0,.c [1,1,1]]<|Rd 2 [0,1,12,13] [(0,.slice Aa0 a0.length ca0),(1,.slice Aa1 a1.length ca1),(12,iv (a0.length:Int)),(13,iv (w64 (v13+1)))]<|Ad 1 [.c [1,1,0,1,0,0],.l [1,1,0,1,0,0],.b 0,.c [1,1,1]]<|Kp [0,1,12,13] [(0,.slice Aa0 a0.length ca0),(1,.slice Aa1 a1.length ca1),(12,iv (a0.length:Int)),(13,iv (w64 (v13+1)))] ?_
    exact ihk a0 _ _ a1 _ _ (w64 (v13+1)) hra0 hca0 hra1 hca1 heq
  ·replace heq:=bif_false hb2 heq
   refine Cf (decide (v13<(a0.length:Int))) hb2<|Ad 2 [.c [1,1,1,0],.c [1,1,1,1]]<|Kp [] [] ?_
   exact he1 heq
theorem slices_Equal_TestRun_c {w0:World} [GlobI 0 w0] {H:Hp} {F:List Ch} {a0:List TestRun} {Aa0:Option Addr} {na0:Nat} {ca0:Nat} {a1:List TestRun} {Aa1:Option Addr} {na1:Nat} {ca1:Nat} {r:Bool} (hra0:Rw kTestRun H F Aa0 a0) (hca0:na0≤ca0) (hna0:na0=a0.length) (hra1:Rw kTestRun H F Aa1 a1) (hca1:na1≤ca1) (hna1:na1=a1.length) (heq:slices_Equal_TestRun.f a0 a1=some r):CallsH Tryd.prog 6 #[.slice Aa0 na0 ca0,.slice Aa1 na1 ca1] H w0 (F) (S6 F H r):=by
 refine calls_of_runH (F:=C6) Tryd.func6 (by kernel_rfl) Tryd.ntmps6 (args:=[.slice Aa0 na0 ca0,.slice Aa1 na1 ca1]) (by kernel_rfl) ?_
 subst hna0
 subst hna1
 unfold slices_Equal_TestRun.f at heq
 refine Ra 1 [0] [.c [1]]<|Rd 1 [0,1] [(0,.slice Aa0 a0.length ca0),(1,.slice Aa1 a1.length ca1)]<|Ra 2 [1,0,0] [.c [1,0,1],.c [1,1]]<|Rd 5 [0,1,10] [(0,.slice Aa0 a0.length ca0),(1,.slice Aa1 a1.length ca1),(10,.bool ((a0.length:Int) != (a1.length:Int)))] ?_
 rcases bool_cases ((a0.length:Int) != (a1.length:Int)) with hb1 | hb1
 ·replace heq:=bif_true hb1 heq
  refine Ct ((a0.length:Int) != (a1.length:Int)) hb1<|Ra 1 [1,0,1,0,0] [.c [1,0,1,0,1],.c [1,1]]<|Rd 1 [4] [(4,.bool false)] ?_
  obtain rfl:=Option.some.inj heq
  exact RunH.done (by kernel_rfl) Tryd.func6 (v:=.bool false) (by kernel_rfl) ⟨rfl,rfl,rfl⟩
 ·replace heq:=bif_false hb1 heq
  refine Cf ((a0.length:Int) != (a1.length:Int)) hb1<|Ra 3 [1,1,0,0] [.c [1,1,0,1],.c [1,1,1]]<|Rd 3 [0,1,12,13] [(0,.slice Aa0 a0.length ca0),(1,.slice Aa1 a1.length ca1),(12,iv (a0.length:Int)),(13,iv 0)]<|Ad 2 [.c [1,1,0,1,0,0],.l [1,1,0,1,0,0],.b 0,.c [1,1,1]]<|Kp [0,1,12,13] [(0,.slice Aa0 a0.length ca0),(1,.slice Aa1 a1.length ca1),(12,iv (a0.length:Int)),(13,iv 0)] ?_
  exact ((slices_Equal_TestRun.l2_c (e1:=slices_Equal_TestRun.e1) (slices_Equal_TestRun.e1_c)) big) a0 _ _ a1 _ _ 0 hra0 hca0 hra1 hca1 heq
noncomputable def C13:Ctx:={ P:=Tryd.prog,f:=13,N:=64,c:=bodyOf Tryd.f13 }
def S13 (F:List Ch) (H0:Hp) (r:Int × Int × Int) (v:Value) (H:Hp) (cs:List Ch):Prop:=H0=H∧v=.tuple #[iv r.1,iv r.2.1,iv r.2.2]∧F=cs
theorem trials_Tried.e1_c {w0:World} [GlobI 0 w0] {H:Hp} {F:List Ch} {r:Int × Int × Int}:∀ (a0:Int) ,trials_Tried.e1 a0=some r→RunH C13 (S13 F H r) H w0 [.c [1,1,1,1,1,0],.c [1,1,1,1,1,1]] [(0,iv a0)] H (F):=by
 intro a0  heq
 unfold trials_Tried.e1 at heq
 refine Rr<|Rd 4 [6,7,8] [(6,iv 3),(7,iv a0),(8,iv 0)] ?_
 obtain rfl:=Option.some.inj heq
 exact RunH.done (by kernel_rfl) Tryd.func13 (v:=.tuple #[iv 3,iv a0,iv 0]) (by kernel_rfl) ⟨rfl,rfl,rfl⟩
theorem trials_Tried.j3_c {w0:World} [GlobI 0 w0] {H:Hp} {F:List Ch} {r:Int × Int × Int} (backl2:Int→Int→(List Bool)→Int→Int→Option (Int × Int × Int))
  (hbackl2:∀ (a0:Int) (a1:Int) (a2:List Bool) (Aa2:Option Addr) (ca2:Nat) (v_passed9:Int) (v28:Int) ,Rw Kd.bool H F Aa2 a2→a2.length≤ca2→backl2 a0 a1 a2 v_passed9 v28=some r→RunH C13 (S13 F H r) H w0 [.c [1,1,1,1,0,1,0,0],.l [1,1,1,1,0,1,0,0],.b 0,.c [1,1,1,1,1]] [(0,iv a0),(1,iv a1),(9,iv v_passed9),(26,.slice Aa2 a2.length ca2),(27,iv (a2.length:Int)),(28,iv v28)] H (F)):∀ (a0:Int) (a1:Int) (a2:List Bool) (Aa2:Option Addr) (ca2:Nat) (v28:Int) (v_passed9:Int) ,Rw Kd.bool H F Aa2 a2→a2.length≤ca2→trials_Tried.j3 backl2 a0 a1 a2 v28 v_passed9=some r→RunH C13 (S13 F H r) H w0 [.c [1,1,1,1,0,1,0,0,1,1,0,0,1,1,0],.c [1,1,1,1,0,1,0,0,1,1,0,0,1,1,1],.b 1,.c [1,1,1,1,0,1,0,0,1,1,1],.l [1,1,1,1,0,1,0,0],.b 0,.c [1,1,1,1,1]] [(0,iv a0),(1,iv a1),(9,iv v_passed9),(10,iv v28),(26,.slice Aa2 a2.length ca2),(27,iv (a2.length:Int)),(28,iv v28)] H (F):=by
 intro a0 a1 a2 Aa2 ca2 v28 v_passed9 hra2 hca2 heq
 unfold trials_Tried.j3 at heq
 refine Rr<|Rd 3 [0,1,9,12,26,27,28] [(0,iv a0),(1,iv a1),(9,iv v_passed9),(12,iv (w64 (v28+1))),(26,.slice Aa2 a2.length ca2),(27,iv (a2.length:Int)),(28,iv v28)]<|Ad 2 [.c [1,1,1,1,0,1,0,0,1,1,0,0,1,1,1,0,0],.c [1,1,1,1,0,1,0,0,1,1,0,0,1,1,1,0,1],.b 2,.b 1,.c [1,1,1,1,0,1,0,0,1,1,1],.l [1,1,1,1,0,1,0,0],.b 0,.c [1,1,1,1,1]] ?_
 obtain ⟨t2,ht2,heq⟩:=bind_some heq
 have K2:RunH C13 (S13 F H r) H w0 [.c [1,1,1,1,0,1,0,0,1,1,0,0,1,1,1,0,1],.b 2,.b 1,.c [1,1,1,1,0,1,0,0,1,1,1],.l [1,1,1,1,0,1,0,0],.b 0,.c [1,1,1,1,1]] [(0,iv a0),(1,iv a1),(9,iv v_passed9),(12,iv (w64 (v28+1))),(26,.slice Aa2 a2.length ca2),(27,iv (a2.length:Int)),(28,iv v28),(38,.bool t2)] H (F):=by
  rcases bool_cases (t2) with hb6 | hb6
  ·replace heq:=bif_true hb6 heq
   refine Ct t2 hb6<|Ra 1 [1,1,1,1,0,1,0,0,1,1,0,0,1,1,1,0,1,0,0] [.c [1,1,1,1,0,1,0,0,1,1,0,0,1,1,1,0,1,0,1],.b 2,.b 1,.c [1,1,1,1,0,1,0,0,1,1,1],.l [1,1,1,1,0,1,0,0],.b 0,.c [1,1,1,1,1]]<|Rd 4 [6,7,8] [(6,iv 2),(7,iv (w64 (v28+1))),(8,iv 0)] ?_
   obtain rfl:=Option.some.inj heq
   exact RunH.done (by kernel_rfl) Tryd.func13 (v:=.tuple #[iv 2,iv (w64 (v28+1)),iv 0]) (by kernel_rfl) ⟨rfl,rfl,rfl⟩
  ·replace heq:=bif_false hb6 heq
   refine Cf t2 hb6<|Ra 1 [1,1,1,1,0,1,0,0,1,1,0,0,1,1,1,0,1,1,0] [.c [1,1,1,1,0,1,0,0,1,1,0,0,1,1,1,0,1,1,1],.b 2,.b 1,.c [1,1,1,1,0,1,0,0,1,1,1],.l [1,1,1,1,0,1,0,0],.b 0,.c [1,1,1,1,1]]<|Rd 4 [0,1,9,12,26,27,28,48] [(0,iv a0),(1,iv a1),(9,iv v_passed9),(12,iv (w64 (v28+1))),(26,.slice Aa2 a2.length ca2),(27,iv (a2.length:Int)),(28,iv v28),(48,.bool (v_passed9 == a1))] ?_
   rcases bool_cases (v_passed9 == a1) with hb7 | hb7
   ·replace heq:=bif_true hb7 heq
    refine Ct (v_passed9 == a1) hb7<|Ra 1 [1,1,1,1,0,1,0,0,1,1,0,0,1,1,1,0,1,1,1,0,0] [.c [1,1,1,1,0,1,0,0,1,1,0,0,1,1,1,0,1,1,1,0,1],.b 2,.b 1,.c [1,1,1,1,0,1,0,0,1,1,1],.l [1,1,1,1,0,1,0,0],.b 0,.c [1,1,1,1,1]]<|Rd 4 [6,7,8] [(6,iv 4),(7,iv (w64 (v28+1))),(8,iv 0)] ?_
    obtain rfl:=Option.some.inj heq
    exact RunH.done (by kernel_rfl) Tryd.func13 (v:=.tuple #[iv 4,iv (w64 (v28+1)),iv 0]) (by kernel_rfl) ⟨rfl,rfl,rfl⟩
   ·replace heq:=bif_false hb7 heq
    refine Cf (v_passed9 == a1) hb7<|Ra 1 [1,1,1,1,0,1,0,0,1,1,0,0,1,1,1,0,1,1,1,1,0] [.c [1,1,1,1,0,1,0,0,1,1,0,0,1,1,1,0,1,1,1,1,1],.b 2,.b 1,.c [1,1,1,1,0,1,0,0,1,1,1],.l [1,1,1,1,0,1,0,0],.b 0,.c [1,1,1,1,1]]<|Rd 8 [0,1,9,12,26,27,28,53] [(0,iv a0),(1,iv a1),(9,iv v_passed9),(12,iv (w64 (v28+1))),(26,.slice Aa2 a2.length ca2),(27,iv (a2.length:Int)),(28,iv v28),(53,.bool (decide ((w64 ((w64 (v_passed9+a0)) - (w64 (v28+1))))<a1)))] ?_
    rcases bool_cases (decide ((w64 ((w64 (v_passed9+a0)) - (w64 (v28+1))))<a1)) with hb8 | hb8
    ·replace heq:=bif_true hb8 heq
     refine Ct (decide ((w64 ((w64 (v_passed9+a0)) - (w64 (v28+1))))<a1)) hb8<|Ra 1 [1,1,1,1,0,1,0,0,1,1,0,0,1,1,1,0,1,1,1,1,1,0,0] [.c [1,1,1,1,0,1,0,0,1,1,0,0,1,1,1,0,1,1,1,1,1,0,1],.b 2,.b 1,.c [1,1,1,1,0,1,0,0,1,1,1],.l [1,1,1,1,0,1,0,0],.b 0,.c [1,1,1,1,1]]<|Rd 4 [6,7,8] [(6,iv 3),(7,iv (w64 (v28+1))),(8,iv 0)] ?_
     obtain rfl:=Option.some.inj heq
     exact RunH.done (by kernel_rfl) Tryd.func13 (v:=.tuple #[iv 3,iv (w64 (v28+1)),iv 0]) (by kernel_rfl) ⟨rfl,rfl,rfl⟩
    ·replace heq:=bif_false hb8 heq
     refine Cf (decide ((w64 ((w64 (v_passed9+a0)) - (w64 (v28+1))))<a1)) hb8<|Ra 3 [1,1,1,1,0,1,0,0,1,1,1] [.l [1,1,1,1,0,1,0,0],.b 0,.c [1,1,1,1,1]]<|Rd 2 [0,1,9,26,27,28] [(0,iv a0),(1,iv a1),(9,iv v_passed9),(26,.slice Aa2 a2.length ca2),(27,iv (a2.length:Int)),(28,iv (w64 (v28+1)))]<|Ad 1 [.c [1,1,1,1,0,1,0,0],.l [1,1,1,1,0,1,0,0],.b 0,.c [1,1,1,1,1]]<|Kp [0,1,9,26,27,28] [(0,iv a0),(1,iv a1),(9,iv v_passed9),(26,.slice Aa2 a2.length ca2),(27,iv (a2.length:Int)),(28,iv (w64 (v28+1)))] ?_
     exact hbackl2 a0 a1 a2 _ _ v_passed9 (w64 (v28+1)) hra2 hca2 heq
 replace heq:=ht2
 refine Rr<|Rk 4 [42,0,1,9,12,26,27,28] [(42,.bool (v_passed9 == a1)),(0,iv a0),(1,iv a1),(9,iv v_passed9),(12,iv (w64 (v28+1))),(26,.slice Aa2 a2.length ca2),(27,iv (a2.length:Int)),(28,iv v28)] ?_
 rcases bool_cases (v_passed9 == a1) with hb5 | hb5
 ·replace heq:=bif_true hb5 heq
  refine RgH.val1 (v':=.bool true) (congrArg Value.bool hb5) ?_
  refine Rk 9 [0,1,9,12,26,27,28,38] [(0,iv a0),(1,iv a1),(9,iv v_passed9),(12,iv (w64 (v28+1))),(26,.slice Aa2 a2.length ca2),(27,iv (a2.length:Int)),(28,iv v28),(38,.bool ((w64 (v28+1)) == a1))] ?_
  obtain rfl:=Option.some.inj heq
  refine Kg [0,1,9,12,26,27,28,38] [(0,iv a0),(1,iv a1),(9,iv v_passed9),(12,iv (w64 (v28+1))),(26,.slice Aa2 a2.length ca2),(27,iv (a2.length:Int)),(28,iv v28),(38,.bool ((w64 (v28+1)) == a1))]<|Dn ?_
  exact K2
 ·replace heq:=bif_false hb5 heq
  refine RgH.val1 (v':=.bool false) (congrArg Value.bool hb5) ?_
  refine Rk 9 [0,1,9,12,26,27,28,38] [(0,iv a0),(1,iv a1),(9,iv v_passed9),(12,iv (w64 (v28+1))),(26,.slice Aa2 a2.length ca2),(27,iv (a2.length:Int)),(28,iv v28),(38,.bool false)] ?_
  obtain rfl:=Option.some.inj heq
  refine Kg [0,1,9,12,26,27,28,38] [(0,iv a0),(1,iv a1),(9,iv v_passed9),(12,iv (w64 (v28+1))),(26,.slice Aa2 a2.length ca2),(27,iv (a2.length:Int)),(28,iv v28),(38,.bool false)]<|Dn ?_
  exact K2
theorem trials_Tried.l2_c {w0:World} [GlobI 0 w0] {H:Hp} {F:List Ch} {r:Int × Int × Int} (e1:Int→Option (Int × Int × Int))
  (he1:∀ (a0:Int) ,e1 a0=some r→RunH C13 (S13 F H r) H w0 [.c [1,1,1,1,1,0],.c [1,1,1,1,1,1]] [(0,iv a0)] H (F)):∀ (k:Nat),∀ (a0:Int) (a1:Int) (a2:List Bool) (Aa2:Option Addr) (ca2:Nat) (v_passed9:Int) (v28:Int) ,Rw Kd.bool H F Aa2 a2→a2.length≤ca2→trials_Tried.l2 e1 k a0 a1 a2 v_passed9 v28=some r→RunH C13 (S13 F H r) H w0 [.c [1,1,1,1,0,1,0,0],.l [1,1,1,1,0,1,0,0],.b 0,.c [1,1,1,1,1]] [(0,iv a0),(1,iv a1),(9,iv v_passed9),(26,.slice Aa2 a2.length ca2),(27,iv (a2.length:Int)),(28,iv v28)] H (F):=by
 intro k
 induction k with
 | zero=>intro a0 a1 a2 Aa2 ca2 v_passed9 v28 hra2 hca2 heq; exact nomatch (show (none:Option (Int × Int × Int))=some r from heq)
 | succ k ihk =>
  intro a0 a1 a2 Aa2 ca2 v_passed9 v28 hra2 hca2 heq
  rw [trials_Tried.l2] at heq
  refine Ra 1 [1,1,1,1,0,1,0,0,0] [.c [1,1,1,1,0,1,0,0,1],.l [1,1,1,1,0,1,0,0],.b 0,.c [1,1,1,1,1]]<|Rd 1 [0,1,9,26,27,28,29] [(0,iv a0),(1,iv a1),(9,iv v_passed9),(26,.slice Aa2 a2.length ca2),(27,iv (a2.length:Int)),(28,iv v28),(29,.bool (decide (v28<(a2.length:Int))))]<|Ad 1 [.c [1,1,1,1,0,1,0,0,1,0],.c [1,1,1,1,0,1,0,0,1,1],.l [1,1,1,1,0,1,0,0],.b 0,.c [1,1,1,1,1]] ?_
  rcases bool_cases (decide (v28<(a2.length:Int))) with hb4 | hb4
  ·replace heq:=bif_true hb4 heq
   refine Ct (decide (v28<(a2.length:Int))) hb4<|Ra 4 [1,1,1,1,0,1,0,0,1,1,0,0,0] [.c [1,1,1,1,0,1,0,0,1,1,0,0,1],.b 1,.c [1,1,1,1,0,1,0,0,1,1,1],.l [1,1,1,1,0,1,0,0],.b 0,.c [1,1,1,1,1]] ?_
   obtain ⟨x1,hx1,heq⟩:=bind_some heq
   obtain ⟨ha1,cs1,hK1,hcc1⟩:=hra2.get hx1
   obtain rfl:cs1=[.bool x1]:=hK1
   refine Rw' 5 [0,1,9,10,11,26,27,28] [.bool x1] [.need (Aa2=some (adr Aa2)∧(0:Int)≤v28∧v28<((a2.length:Nat):Int)),.load ((adr Aa2).add (v28.toNat*1)) (.bool x1)] [(0,iv a0),(1,iv a1),(9,iv v_passed9),(10,iv v28),(11,.bool x1),(26,.slice Aa2 a2.length ca2),(27,iv (a2.length:Int)),(28,iv v28)] (fun w hh=>⟨⟨ha1,(at?_some hx1).1,(at?_some hx1).2.1⟩,(hcc1 _ _ (hh.drop 0) 0 _ rfl)⟩)<|Ra 2 [1,1,1,1,0,1,0,0,1,1,0,0,1,0,0] [.c [1,1,1,1,0,1,0,0,1,1,0,0,1,0,1],.c [1,1,1,1,0,1,0,0,1,1,0,0,1,1],.b 1,.c [1,1,1,1,0,1,0,0,1,1,1],.l [1,1,1,1,0,1,0,0],.b 0,.c [1,1,1,1,1]]<|Rd 1 [0,1,9,10,26,27,28,33] [(0,iv a0),(1,iv a1),(9,iv v_passed9),(10,iv v28),(26,.slice Aa2 a2.length ca2),(27,iv (a2.length:Int)),(28,iv v28),(33,.bool x1)] ?_
   rcases bool_cases (x1) with hb9 | hb9
   ·replace heq:=bif_true hb9 heq
    refine Ct x1 hb9<|Rr<|Rd 3 [0,1,9,10,26,27,28] [(0,iv a0),(1,iv a1),(9,iv (w64 (v_passed9+1))),(10,iv v28),(26,.slice Aa2 a2.length ca2),(27,iv (a2.length:Int)),(28,iv v28)]<|Ad 1 [.c [1,1,1,1,0,1,0,0,1,1,0,0,1,1,0],.c [1,1,1,1,0,1,0,0,1,1,0,0,1,1,1],.b 1,.c [1,1,1,1,0,1,0,0,1,1,1],.l [1,1,1,1,0,1,0,0],.b 0,.c [1,1,1,1,1]]<|Kp [0,1,9,10,26,27,28] [(0,iv a0),(1,iv a1),(9,iv (w64 (v_passed9+1))),(10,iv v28),(26,.slice Aa2 a2.length ca2),(27,iv (a2.length:Int)),(28,iv v28)] ?_
    exact (trials_Tried.j3_c (backl2:=(trials_Tried.l2 e1 k)) ihk) a0 a1 a2 _ _ v28 (w64 (v_passed9+1)) hra2 hca2 heq
   ·replace heq:=bif_false hb9 heq
    refine Cf x1 hb9<|Ad 2 [.c [1,1,1,1,0,1,0,0,1,1,0,0,1,1,0],.c [1,1,1,1,0,1,0,0,1,1,0,0,1,1,1],.b 1,.c [1,1,1,1,0,1,0,0,1,1,1],.l [1,1,1,1,0,1,0,0],.b 0,.c [1,1,1,1,1]]<|Kp [0,1,9,10,26,27,28] [(0,iv a0),(1,iv a1),(9,iv v_passed9),(10,iv v28),(26,.slice Aa2 a2.length ca2),(27,iv (a2.length:Int)),(28,iv v28)] ?_
    exact (trials_Tried.j3_c (backl2:=(trials_Tried.l2 e1 k)) ihk) a0 a1 a2 _ _ v28 v_passed9 hra2 hca2 heq
  ·replace heq:=bif_false hb4 heq
   refine Cf (decide (v28<(a2.length:Int))) hb4<|Ad 2 [.c [1,1,1,1,1,0],.c [1,1,1,1,1,1]]<|Kp [0] [(0,iv a0)] ?_
   exact he1 a0 heq
theorem trials_Tried_c {w0:World} [GlobI 0 w0] {H:Hp} {F:List Ch} {a0:Int} {a1:Int} {a2:List Bool} {Aa2:Option Addr} {na2:Nat} {ca2:Nat} {r:Int × Int × Int} (hra2:Rw Kd.bool H F Aa2 a2) (hca2:na2≤ca2) (hna2:na2=a2.length) (heq:trials_Tried.f a0 a1 a2=some r):CallsH Tryd.prog 13 #[iv a0,iv a1,.slice Aa2 na2 ca2] H w0 (F) (S13 F H r):=by
 refine calls_of_runH (F:=C13) Tryd.func13 (by kernel_rfl) Tryd.ntmps13 (args:=[iv a0,iv a1,.slice Aa2 na2 ca2]) (by kernel_rfl) ?_
 subst hna2
 unfold trials_Tried.f at heq
 refine Ra 1 [0] [.c [1]]<|Rd 3 [0,1,2] [(0,iv a0),(1,iv a1),(2,.slice Aa2 a2.length ca2)]<|Ad 2 [.c [1,0,0],.c [1,0,1],.c [1,1]] ?_
 obtain ⟨t1,ht1,heq⟩:=bind_some heq
 have K1:RunH C13 (S13 F H r) H w0 [.c [1,0,1],.c [1,1]] [(0,iv a0),(1,iv a1),(2,.slice Aa2 a2.length ca2),(21,.bool t1)] H (F):=by
  rcases bool_cases (t1) with hb2 | hb2
  ·replace heq:=bif_true hb2 heq
   refine Ct t1 hb2<|Ra 1 [1,0,1,0,0] [.c [1,0,1,0,1],.c [1,1]]<|Rd 3 [6,7,8] [(6,iv 0),(7,iv 0),(8,iv 1)] ?_
   obtain rfl:=Option.some.inj heq
   exact RunH.done (by kernel_rfl) Tryd.func13 (v:=.tuple #[iv 0,iv 0,iv 1]) (by kernel_rfl) ⟨rfl,rfl,rfl⟩
  ·replace heq:=bif_false hb2 heq
   refine Cf t1 hb2<|Ra 3 [1,1,0,0] [.c [1,1,0,1],.c [1,1,1]]<|Rd 4 [0,1,2,25] [(0,iv a0),(1,iv a1),(2,.slice Aa2 a2.length ca2),(25,.bool ((a2.length:Int) != a0))] ?_
   rcases bool_cases ((a2.length:Int) != a0) with hb3 | hb3
   ·replace heq:=bif_true hb3 heq
    refine Ct ((a2.length:Int) != a0) hb3<|Ra 1 [1,1,0,1,0,0] [.c [1,1,0,1,0,1],.c [1,1,1]]<|Rd 3 [6,7,8] [(6,iv 0),(7,iv 0),(8,iv 3)] ?_
    obtain rfl:=Option.some.inj heq
    exact RunH.done (by kernel_rfl) Tryd.func13 (v:=.tuple #[iv 0,iv 0,iv 3]) (by kernel_rfl) ⟨rfl,rfl,rfl⟩
   ·replace heq:=bif_false hb3 heq
    refine Cf ((a2.length:Int) != a0) hb3<|Ra 2 [1,1,1,0] [.c [1,1,1,1]]<|Rd 1 [0,1,2,9] [(0,iv a0),(1,iv a1),(2,.slice Aa2 a2.length ca2),(9,iv 0)]<|Ra 2 [1,1,1,1,0,0] [.c [1,1,1,1,0,1],.c [1,1,1,1,1]]<|Rd 3 [0,1,9,26,27,28] [(0,iv a0),(1,iv a1),(9,iv 0),(26,.slice Aa2 a2.length ca2),(27,iv (a2.length:Int)),(28,iv 0)]<|Ad 2 [.c [1,1,1,1,0,1,0,0],.l [1,1,1,1,0,1,0,0],.b 0,.c [1,1,1,1,1]]<|Kp [0,1,9,26,27,28] [(0,iv a0),(1,iv a1),(9,iv 0),(26,.slice Aa2 a2.length ca2),(27,iv (a2.length:Int)),(28,iv 0)] ?_
    exact ((trials_Tried.l2_c (e1:=trials_Tried.e1) (trials_Tried.e1_c)) big) a0 a1 a2 _ _ 0 0 hra2 hca2 heq
 replace heq:=ht1
 refine Rr<|Rk 1 [0,1,2,13] [(0,iv a0),(1,iv a1),(2,.slice Aa2 a2.length ca2),(13,iv a0)] ?_
 obtain ⟨y1,hy1,heq⟩:=bind_some heq
 refine RgH.does (DoesH.call (d:=14) (g:=22) (args:=#[iv a0,iv 1,iv 100]) (by kernel_rfl) (trials_within_c (a0:=a0) (a1:=1) (a2:=100)  hy1)) ?_
 rintro _ _ _ _ ⟨_,rfl,rfl,rfl,rfl⟩
 refine Rk 4 [16,0,1,2] [(16,.bool (!y1)),(0,iv a0),(1,iv a1),(2,.slice Aa2 a2.length ca2)] ?_
 rcases bool_cases (!y1) with hb1 | hb1
 ·replace heq:=bif_true hb1 heq
  refine RgH.val1 (v':=.bool true) (congrArg Value.bool hb1) ?_
  refine Rk 9 [0,1,2,21] [(0,iv a0),(1,iv a1),(2,.slice Aa2 a2.length ca2),(21,.bool true)] ?_
  obtain rfl:=Option.some.inj heq
  refine Kg [0,1,2,21] [(0,iv a0),(1,iv a1),(2,.slice Aa2 a2.length ca2),(21,.bool true)]<|Dn ?_
  exact K1
 ·replace heq:=bif_false hb1 heq
  refine RgH.val1 (v':=.bool false) (congrArg Value.bool hb1) ?_
  refine Rk 6 [0,1,2,16,17,18] [(0,iv a0),(1,iv a1),(2,.slice Aa2 a2.length ca2),(16,.bool false),(17,iv a1),(18,iv a0)] ?_
  obtain ⟨y2,hy2,heq⟩:=bind_some heq
  refine RgH.does (DoesH.call (d:=19) (g:=22) (args:=#[iv a1,iv 1,iv a0]) (by kernel_rfl) (trials_within_c (a0:=a1) (a1:=1) (a2:=a0)  hy2)) ?_
  rintro _ _ _ _ ⟨_,rfl,rfl,rfl,rfl⟩
  refine Rk 9 [0,1,2,21] [(0,iv a0),(1,iv a1),(2,.slice Aa2 a2.length ca2),(21,.bool (!y2))] ?_
  obtain rfl:=Option.some.inj heq
  refine Kg [0,1,2,21] [(0,iv a0),(1,iv a1),(2,.slice Aa2 a2.length ca2),(21,.bool (!y2))]<|Dn ?_
  exact K1
noncomputable def C7:Ctx:={ P:=Tryd.prog,f:=7,N:=20,c:=bodyOf Tryd.f7 }
def S7 (F:List Ch) (H0:Hp) (r:Bool) (v:Value) (H:Hp) (cs:List Ch):Prop:=H0=H∧v=.bool r∧F=cs
theorem smithyardlaw10_awake_c {w0:World} [GlobI 0 w0] {H:Hp} {F:List Ch} {r:Bool} (heq:smithyardlaw10_awake.f=some r):CallsH Tryd.prog 7 (List.toArray []) H w0 (F) (S7 F H r):=by
 refine calls_of_runH (F:=C7) Tryd.func7 (by kernel_rfl) Tryd.ntmps7 (args:=[]) (by kernel_rfl) ?_
 unfold smithyardlaw10_awake.f at heq
 refine Ra 1 [0] [.c [1]]<|Rd 1 [] []<|Ra 1 [1,0] [.c [1,1]] ?_
 refine RgH.does (DoesH.new (d:=5) (v:=fun g=>.slice (some ⟨g,0,none⟩) 3 3) (o:=fun g=>.cells #[.bool false,.bool true,.bool true] 4 (0,0)) (fun g=>by kernel_rfl)) ?_
 rintro _ _ _ _ ⟨g1,rfl,rfl,rfl⟩
 have ho1:SlOwn Kd.bool 4 H (some ⟨g1,0,none⟩) 3 ([false,true,true]:List Bool) (some (g1,.cells #[.bool false,.bool true,.bool true] 4 (0,0))):=SlOwn.lit (xs:=([false,true,true]:List Bool)) (by kernel_rfl) (Nat.le_of_ble_eq_true (by kernel_rfl)) (Kd.Rep.scalars rfl)
 obtain ⟨y1,hy1,heq⟩:=bind_some heq
 refine RgH.does (DoesH.call (d:=6) (g:=13) (args:=#[iv 3,iv 1,.slice (some ⟨g1,0,none⟩) 3 3]) (by kernel_rfl) (trials_Tried_c (a0:=3) (a1:=1) (a2:=([false,true,true]:List Bool)) (ho1.rw (.head _)) ho1.cap rfl hy1)) ?_
 rintro _ _ _ _ ⟨_,rfl,rfl,rfl,rfl⟩
 refine Rd 9 [1,2,3] [(1,iv y1.1),(2,iv y1.2.1),(3,iv y1.2.2)]<|Ad 1 [.c [1,1,0],.c [1,1,1]] ?_
 obtain ⟨t1,ht1,heq⟩:=bind_some heq
 have K2:RunH C7 (S7 F H r) H w0 [.c [1,1,1]] [(0,.bool t1)] H (F):=by
  obtain rfl:=Option.some.inj heq
  exact RunH.done (by kernel_rfl) Tryd.func7 (v:=.bool t1) (by kernel_rfl) ⟨rfl,rfl,rfl⟩
 replace heq:=ht1
 refine Rr<|Rk 3 [12,1,2] [(12,.bool (y1.2.2 == 0)),(1,iv y1.1),(2,iv y1.2.1)] ?_
 rcases bool_cases (y1.2.2 == 0) with hb1 | hb1
 ·replace heq:=bif_true hb1 heq
  refine RgH.val1 (v':=.bool true) (congrArg Value.bool hb1) ?_
  refine Rk 7 [16,2] [(16,.bool (y1.1 == 4)),(2,iv y1.2.1)] ?_
  rcases bool_cases (y1.1 == 4) with hb2 | hb2
  ·replace heq:=bif_true hb2 heq
   refine RgH.val1 (v':=.bool true) (congrArg Value.bool hb2) ?_
   refine Rk 11 [0] [(0,.bool (y1.2.1 == 2))] ?_
   obtain rfl:=Option.some.inj heq
   refine Kg [0] [(0,.bool (y1.2.1 == 2))] ?_
   refine RgH.pick 1 [] (cs':=F) (by kernel_rfl) rfl ?_
   refine Dn ?_
   exact K2
  ·replace heq:=bif_false hb2 heq
   refine RgH.val1 (v':=.bool false) (congrArg Value.bool hb2) ?_
   refine Rk 11 [0] [(0,.bool false)] ?_
   obtain rfl:=Option.some.inj heq
   refine Kg [0] [(0,.bool false)] ?_
   refine RgH.pick 1 [] (cs':=F) (by kernel_rfl) rfl ?_
   refine Dn ?_
   exact K2
 ·replace heq:=bif_false hb1 heq
  refine RgH.val1 (v':=.bool false) (congrArg Value.bool hb1) ?_
  refine Rk 11 [0] [(0,.bool false)] ?_
  obtain rfl:=Option.some.inj heq
  refine Kg [0] [(0,.bool false)] ?_
  refine RgH.pick 1 [] (cs':=F) (by kernel_rfl) rfl ?_
  refine Dn ?_
  exact K2
noncomputable def C3:Ctx:={ P:=Tryd.prog,f:=3,N:=37,c:=bodyOf Tryd.f3 }
def S3 (F:List Ch) (H0:Hp) (r:Bool) (v:Value) (H:Hp) (cs:List Ch):Prop:=H0=H∧v=.bool r∧F=cs
theorem smithyardlaw10_TrialsReadsMatchSpec_c {w0:World} [GlobI 0 w0] {H:Hp} {F:List Ch} {a0:ByteArray} {r:Bool} (heq:smithyardlaw10_TrialsReadsMatchSpec.f a0=some r):CallsH Tryd.prog 3 #[.string a0] H w0 (F) (S3 F H r):=by
 refine calls_of_runH (F:=C3) Tryd.func3 (by kernel_rfl) Tryd.ntmps3 (args:=[.string a0]) (by kernel_rfl) ?_
 unfold smithyardlaw10_TrialsReadsMatchSpec.f at heq
 refine Ra 1 [0] [.c [1]]<|Rd 1 [0] [(0,.string a0)]<|Ra 1 [1,0] [.c [1,1]]<|Rk 1 [0,10] [(0,.string a0),(10,.string a0)] ?_
 obtain ⟨y1,hy1,heq⟩:=bind_some heq
 refine RgH.does (DoesH.call (d:=11) (g:=4) (args:=#[.string a0]) (by kernel_rfl) (trials_Read_c (a0:=a0)  hy1)) ?_
 rintro _ _ _ _ ⟨_,rfl,A1,c1,ch1,rfl,rfl,rfl,ho1⟩
 refine Rd 9 [0,3,4,5] [(0,.string a0),(3,.slice A1 y1.1.length c1),(4,iv y1.2.1),(5,iv y1.2.2)]<|Ra 1 [1,1,0] [.c [1,1,1]]<|Rk 1 [3,4,5,16] [(3,.slice A1 y1.1.length c1),(4,iv y1.2.1),(5,iv y1.2.2),(16,.string a0)] ?_
 obtain ⟨y2,hy2,heq⟩:=bind_some heq
 refine RgH.does (DoesH.call (d:=17) (g:=5) (args:=#[.string a0]) (by kernel_rfl) (smithyardref10_Read_c (a0:=a0)  hy2)) ?_
 rintro _ _ _ _ ⟨_,rfl,A2,c2,ch2,rfl,rfl,rfl,ho2⟩
 refine Rd 9 [3,4,5,6,7,8] [(3,.slice A1 y1.1.length c1),(4,iv y1.2.1),(5,iv y1.2.2),(6,.slice A2 y2.1.length c2),(7,iv y2.2.1),(8,iv y2.2.2)]<|Ad 1 [.c [1,1,1,0],.c [1,1,1,1]] ?_
 obtain ⟨t1,ht1,heq⟩:=bind_some heq
 have K3:RunH C3 (S3 F H r) H w0 [.c [1,1,1,1]] [(2,.bool t1)] H (F):=by
  obtain rfl:=Option.some.inj heq
  exact RunH.done (by kernel_rfl) Tryd.func3 (v:=.bool t1) (by kernel_rfl) ⟨rfl,rfl,rfl⟩
 replace heq:=ht1
 refine Rr<|Rk 4 [24,3,4,6,7] [(24,.bool (y1.2.2 == y2.2.2)),(3,.slice A1 y1.1.length c1),(4,iv y1.2.1),(6,.slice A2 y2.1.length c2),(7,iv y2.2.1)] ?_
 rcases bool_cases (y1.2.2 == y2.2.2) with hb1 | hb1
 ·replace heq:=bif_true hb1 heq
  refine RgH.val1 (v':=.bool true) (congrArg Value.bool hb1) ?_
  refine Rk 9 [29,3,6] [(29,.bool (y1.2.1 == y2.2.1)),(3,.slice A1 y1.1.length c1),(6,.slice A2 y2.1.length c2)] ?_
  rcases bool_cases (y1.2.1 == y2.2.1) with hb2 | hb2
  ·replace heq:=bif_true hb2 heq
   refine RgH.val1 (v':=.bool true) (congrArg Value.bool hb2) ?_
   refine Rk 11 [29,30,31] [(29,.bool true),(30,.slice A1 y1.1.length c1),(31,.slice A2 y2.1.length c2)] ?_
   obtain ⟨y3,hy3,heq⟩:=bind_some heq
   refine RgH.does (DoesH.call (d:=32) (g:=6) (args:=#[.slice A1 y1.1.length c1,.slice A2 y2.1.length c2]) (by kernel_rfl) (slices_Equal_TestRun_c (a0:=y1.1) (a1:=y2.1) (ho1.rw (.tail _ (.head _))) ho1.cap rfl (ho2.rw (.head _)) ho2.cap rfl hy3)) ?_
   rintro _ _ _ _ ⟨_,rfl,rfl,rfl,rfl⟩
   refine Rk 14 [34] [(34,.bool y3)] ?_
   rcases bool_cases (y3) with hb3 | hb3
   ·replace heq:=bif_true hb3 heq
    refine RgH.val1 (v':=.bool true) (congrArg Value.bool hb3) ?_
    obtain ⟨y4,hy4,heq⟩:=bind_some heq
    refine RgH.does (DoesH.call (d:=35) (g:=7) (args:=(List.toArray [])) (by kernel_rfl) (smithyardlaw10_awake_c  hy4)) ?_
    rintro _ _ _ _ ⟨_,rfl,rfl,rfl,rfl⟩
    refine Rk 17 [2] [(2,.bool y4)] ?_
    obtain rfl:=Option.some.inj heq
    refine Kg [2] [(2,.bool y4)] ?_
    refine RgH.pick 2 [] (cs':=F) (by kernel_rfl) rfl ?_
    refine Dn ?_
    exact K3
   ·replace heq:=bif_false hb3 heq
    refine RgH.val1 (v':=.bool false) (congrArg Value.bool hb3) ?_
    refine Rk 17 [2] [(2,.bool false)] ?_
    obtain rfl:=Option.some.inj heq
    refine Kg [2] [(2,.bool false)] ?_
    refine RgH.pick 2 [] (cs':=F) (by kernel_rfl) rfl ?_
    refine Dn ?_
    exact K3
  ·replace heq:=bif_false hb2 heq
   refine RgH.val1 (v':=.bool false) (congrArg Value.bool hb2) ?_
   refine Rk 17 [2] [(2,.bool false)] ?_
   obtain rfl:=Option.some.inj heq
   refine Kg [2] [(2,.bool false)] ?_
   refine RgH.pick 2 [] (cs':=F) (by kernel_rfl) rfl ?_
   refine Dn ?_
   exact K3
 ·replace heq:=bif_false hb1 heq
  refine RgH.val1 (v':=.bool false) (congrArg Value.bool hb1) ?_
  refine Rk 17 [2] [(2,.bool false)] ?_
  obtain rfl:=Option.some.inj heq
  refine Kg [2] [(2,.bool false)] ?_
  refine RgH.pick 2 [] (cs':=F) (by kernel_rfl) rfl ?_
  refine Dn ?_
  exact K3
end Go.Proofs.YtikhlmaaokoehaaDoor
