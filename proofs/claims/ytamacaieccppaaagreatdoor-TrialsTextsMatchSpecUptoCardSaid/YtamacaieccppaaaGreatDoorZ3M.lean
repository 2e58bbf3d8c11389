/- What the machine's calls of these functions come to: just what the plain functions say. Written by program. -/
import Derived.Test.YtamacaieccppaaaGreatDoorProg
import Derived.Test.YtamacaieccppaaaGreatDoorKitW
import Derived.Test.YtamacaieccppaaaGreatDoorZD
import Derived.Test.YtamacaieccppaaaGreatDoorShelf
import Derived.Test.YtamacaieccppaaaGreatDoorKitBl
import Derived.Test.YtamacaieccppaaaGreatDoorKitZ
import Derived.WalkKit
set_option linter.unusedVariables false
set_option linter.unnecessarySimpa false
set_option linter.unusedSimpArgs false
set_option maxRecDepth 100000
set_option maxHeartbeats 1000000
namespace Go.Proofs.YtamacaieccppaaaGreatDoor
open Go Go.RowKit Go.Proofs.YtamacaieccppaaaGreatDoor.Kit
def kTestRun:Kd TestRun:=Kd.iso ((Kd.pair Kd.string (Kd.pair Kd.string (Kd.pair (Kd.int .i64) (Kd.pair Kd.bool (Kd.int .i64)))))) (fun x=>(x.Test,x.Key,x.At,x.Pass,x.Seconds))
theorem kTestRun_open {H:Hp} {x:TestRun} {c:List Value} (h:kTestRun.K H x c):c=[.string x.Test,.string x.Key,iv x.At,.bool x.Pass,iv x.Seconds]:=by
 obtain ⟨p0,q0,rfl,g0,h0⟩:=h
 obtain rfl:p0=[_]:=g0
 obtain ⟨p1,q1,rfl,g1,h1⟩:=h0
 obtain rfl:p1=[_]:=g1
 obtain ⟨p2,q2,rfl,g2,h2⟩:=h1
 obtain rfl:p2=[_]:=g2
 obtain ⟨p3,q3,rfl,g3,h3⟩:=h2
 obtain rfl:p3=[_]:=g3
 obtain rfl:q3=[_]:=h3
 rfl
theorem kTestRun_mk {H:Hp} {x:TestRun}:kTestRun.K H x [.string x.Test,.string x.Key,iv x.At,.bool x.Pass,iv x.Seconds]:=⟨[.string x.Test],[.string x.Key,iv x.At,.bool x.Pass,iv x.Seconds],rfl,rfl,⟨[.string x.Key],[iv x.At,.bool x.Pass,iv x.Seconds],rfl,rfl,⟨[iv x.At],[.bool x.Pass,iv x.Seconds],rfl,rfl,⟨[.bool x.Pass],[iv x.Seconds],rfl,rfl,rfl⟩⟩⟩⟩
noncomputable def C4:Ctx:={ P:=Tryz.prog,f:=4,N:=8,c:=bodyOf Tryz.f4 }
def S4 (F:List Ch) (H0:Hp) (r:List TestRun) (v:Value) (H:Hp) (cs:List Ch):Prop:=∃ (A0:Option Addr) (c0:Nat) (ch0:Ch),H0=H∧v=.slice A0 r.length c0∧ch0::F=cs∧SlOwn kTestRun 25 H A0 c0 r ch0
theorem slices_Clone_TestRun_c {w0:World} [TabI Tryz.prog "internal/strconv.uint64pow10" 1 w0] [GlobI 0 w0] {H:Hp} {F:List Ch} {a0:List TestRun} {Aa0:Option Addr} {na0 ca0:Nat} {r:List TestRun} (hra0:Rw kTestRun H F Aa0 a0) (hca0:na0≤ca0) (hna0:na0=a0.length) (heq:slices_Clone_TestRun.f a0=some r):CallsH Tryz.prog 4 #[.slice Aa0 na0 ca0] H w0 F (S4 F H r):=by
 refine calls_of_runH (F:=C4) Tryz.func4 (by kernel_rfl) Tryz.ntmps4 (args:=[.slice Aa0 na0 ca0]) (by kernel_rfl) ?_
 subst hna0
 unfold slices_Clone_TestRun.f at heq
 obtain ⟨hn,heq⟩:=guard?_some heq
 obtain rfl:=Option.some.inj heq
 refine Ra 1 [0] [.c [1]]<|Rd 1 [0] [(0,.slice Aa0 a0.length ca0)]<|Ra 2 [1,0,0] [.c [1,0,1],.c [1,1]] ?_
 cases Aa0 with
 | none =>
  have h0:a0=[]:=by
   cases a0 with
   | nil=>rfl
   | cons x xs=>obtain ⟨b,off,cs,e,fr,hA,_⟩:=hra0 (by simp); cases hA
  subst h0
  refine Rd 2 [4] [(4,.bool true)]<|Ct true rfl<|Ra 1 [1,0,1,0,0] [.c [1,0,1,0,1],.c [1,1]]<|Rd 1 [2] [(2,.slice none 0 0)]<|RunH.nilc ?_
  exact RunH.done (by kernel_rfl) Tryz.func4 (v:=.slice none ([]:List TestRun).length 0) (by kernel_rfl) ⟨none,0,none,rfl,rfl,rfl,SlOwn.nil⟩
 | some ad =>
  refine Rd 2 [0,4] [(0,.slice (some ad) a0.length ca0),(4,.bool false)]<|Cf false rfl<|Ra 2 [1,1,0] [.c [1,1,1]] ?_
  refine RgH.does (DoesH.new (d:=5) (v:=fun g=>.slice (some ⟨g,0,none⟩) 0 0) (o:=fun g=>.cells #[] 25 (0,0)) (fun g=>by kernel_rfl)) ?_
  rintro _ _ _ _ ⟨g,rfl,rfl,rfl⟩
  have ho:SlOwn kTestRun 25 H (some ⟨g,0,none⟩) 0 ([]:List TestRun) (some (g,.cells #[] 25 (0,0))):=.inr ⟨g,0,#[],rfl,rfl,by simp,by simp [maxLen],by simp,Kd.Rep.nil⟩
  refine Rk 2 [5,6] [(5,.slice (some ⟨g,0,none⟩) 0 0),(6,.slice (some ad) a0.length ca0)] ?_
  refine RgH.does (DoesH.append (d:=7) (k:=0) (t:=22) (e:=25) (bytes:=56) (kd:=kTestRun) (n:=0) (m:=a0.length) (xs:=([]:List TestRun)) (ys:=a0) (A:=some ⟨g,0,none⟩) (B:=some ad) (c:=0) (cB:=ca0) (by kernel_rfl) rfl rfl (by kernel_rfl) rfl ho (fun w hh=>hra0.rdb (hh.drop 1)) (room_le hn) (by have:=room_le hn; omega)) ?_
  rintro _ _ _ _ ⟨A1,c1,ch1,rfl,rfl,rfl,ho1⟩
  refine Rd 4 [2] [(2,.slice A1 (([]:List TestRun)++a0).length c1)] ?_
  exact RunH.done (by kernel_rfl) Tryz.func4 (v:=.slice A1 (([]:List TestRun)++a0).length c1) (by kernel_rfl) ⟨A1,c1,ch1,rfl,rfl,rfl,ho1⟩
def S31 (F:List Ch) (H0:Hp) (r:List ByteArray) (v:Value) (H:Hp) (cs:List Ch):Prop:=∃ (A0:Option Addr) (c0:Nat) (ch0:Ch),H0=H∧v=.slice A0 r.length c0∧ch0::F=cs∧SlOwn Kd.string 9 H A0 c0 r ch0
theorem strings_Split_c {w0:World} [TabI Tryz.prog "internal/strconv.uint64pow10" 1 w0] [GlobI 0 w0] {H:Hp} {F:List Ch} {a0 a1:ByteArray} {r:List ByteArray} (heq:strings_Split.f a0 a1=some r):CallsH Tryz.prog 31 #[.string a0,.string a1] H w0 F (S31 F H r):=by
 intro w hh
 unfold strings_Split.f at heq
 obtain ⟨hn,heq⟩:=guard?_some heq
 obtain rfl:=Option.some.inj heq
 simp only [Bool.and_eq_true,decide_eq_true_eq] at hn
 obtain ⟨m,hm⟩:=GlobI.at (g:=0) hh
 refine (Shelf.Tryz.strings_Split a0 a1 m w hn.1 hm hn.2).mono ?_
 rintro e w' ⟨rfl,rfl⟩
 have hl:=Lib.splitB_all a1 hn.2 0 _ a0 rfl
 have hc:=Lib.countB_le a1 hn.2 a0.size a0 (Nat.le_refl _)
 obtain ⟨H',cs',hle,hh',A0,c0,ch0,rfl,hv,rfl,ho⟩:=split_post (e:=9) hh hl (by unfold maxLen; omega) rfl
 exact ⟨_,rfl,_,_,hle,hh',A0,c0,ch0,rfl,hv,rfl,ho⟩
def S61 (F:List Ch) (H0:Hp) (r:Int) (v:Value) (H:Hp) (cs:List Ch):Prop:=H0=H∧v=iv r∧F=cs
theorem strings_IndexByte_c {w0:World} [TabI Tryz.prog "internal/strconv.uint64pow10" 1 w0] [GlobI 0 w0] {H:Hp} {F:List Ch} {a0:ByteArray} {a1:Int} {r:Int} (heq:strings_IndexByte.f a0 a1=some r):CallsH Tryz.prog 61 #[.string a0,.int .u8 a1] H w0 F (S61 F H r):=by
 intro w hh
 unfold strings_IndexByte.f at heq
 obtain rfl:=Option.some.inj heq
 refine (Shelf.Tryz.strings_IndexByte a0 a1 w).mono ?_
 rintro e w' ⟨rfl,rfl⟩
 exact ⟨_,rfl,H,F,Le.refl H,hh,rfl,rfl,rfl⟩
noncomputable def C48:Ctx:={ P:=Tryz.prog,f:=48,N:=30,c:=bodyOf Tryz.f48 }
def S48 (F:List Ch) (H0:Hp) (r:Bool) (v:Value) (H:Hp) (cs:List Ch):Prop:=H0=H∧v=.bool r∧F=cs
theorem blob_inPart_c {w0:World} [TabI Tryz.prog "internal/strconv.uint64pow10" 1 w0] [GlobI 0 w0] {H:Hp} {F:List Ch} {a0:Int} {r:Bool} (heq:blob_inPart.f a0=some r):CallsH Tryz.prog 48 #[.int .u8 a0] H w0 (F) (S48 F H r):=by
 refine calls_of_runH (F:=C48) Tryz.func48 (by kernel_rfl) Tryz.ntmps48 (args:=[.int .u8 a0]) (by kernel_rfl) ?_
 unfold blob_inPart.f at heq
 refine Ra 1 [0] [.c [1]]<|Rd 1 [0] [(0,.int .u8 a0)]<|Ad 1 [.c [1,0],.c [1,1]] ?_
 obtain ⟨t1,ht1,heq⟩:=bind_some heq
 have K1:RunH C48 (S48 F H r) H w0 [.c [1,1]] [(2,.bool t1)] H (F):=by
  obtain rfl:=Option.some.inj heq
  exact RunH.done (by kernel_rfl) Tryz.func48 (v:=.bool t1) (by kernel_rfl) ⟨rfl,rfl,rfl⟩
 replace heq:=ht1
 refine Rr<|Rk 3 [5,0] [(5,.bool (decide (97≤a0))),(0,.int .u8 a0)] ?_
 rcases bool_cases (decide (97≤a0)) with hb1 | hb1
 ·replace heq:=bif_true hb1 heq
  refine RgH.val1 (v':=.bool true) (congrArg Value.bool hb1) ?_
  refine Rk 7 [9,0] [(9,.bool (decide (a0≤122))),(0,.int .u8 a0)] ?_
  rcases bool_cases (decide (a0≤122)) with hb2 | hb2
  ·replace heq:=bif_true hb2 heq
   refine RgH.val1 (v':=.bool true) (congrArg Value.bool hb2) ?_
   refine Rk 28 [2] [(2,.bool true)] ?_
   obtain rfl:=Option.some.inj heq
   refine Kg [2] [(2,.bool true)]<|Dn ?_
   exact K1
  ·replace heq:=bif_false hb2 heq
   refine RgH.val1 (v':=.bool false) (congrArg Value.bool hb2) ?_
   refine Rk 10 [12,0,9] [(12,.bool (decide (65≤a0))),(0,.int .u8 a0),(9,.bool false)] ?_
   rcases bool_cases (decide (65≤a0)) with hb3 | hb3
   ·replace heq:=bif_true hb3 heq
    refine RgH.val1 (v':=.bool true) (congrArg Value.bool hb3) ?_
    refine Rk 15 [17,0] [(17,.bool (decide (a0≤90))),(0,.int .u8 a0)] ?_
    rcases bool_cases (decide (a0≤90)) with hb4 | hb4
    ·replace heq:=bif_true hb4 heq
     refine RgH.val1 (v':=.bool true) (congrArg Value.bool hb4) ?_
     refine Rk 28 [2] [(2,.bool true)] ?_
     obtain rfl:=Option.some.inj heq
     refine Kg [2] [(2,.bool true)]<|Dn ?_
     exact K1
    ·replace heq:=bif_false hb4 heq
     refine RgH.val1 (v':=.bool false) (congrArg Value.bool hb4) ?_
     refine Rk 18 [20,0,17] [(20,.bool (decide (48≤a0))),(0,.int .u8 a0),(17,.bool false)] ?_
     rcases bool_cases (decide (48≤a0)) with hb5 | hb5
     ·replace heq:=bif_true hb5 heq
      refine RgH.val1 (v':=.bool true) (congrArg Value.bool hb5) ?_
      refine Rk 23 [25,0] [(25,.bool (decide (a0≤57))),(0,.int .u8 a0)] ?_
      rcases bool_cases (decide (a0≤57)) with hb6 | hb6
      ·replace heq:=bif_true hb6 heq
       refine RgH.val1 (v':=.bool true) (congrArg Value.bool hb6) ?_
       refine Rk 28 [2] [(2,.bool true)] ?_
       obtain rfl:=Option.some.inj heq
       refine Kg [2] [(2,.bool true)]<|Dn ?_
       exact K1
      ·replace heq:=bif_false hb6 heq
       refine RgH.val1 (v':=.bool false) (congrArg Value.bool hb6) ?_
       refine Rk 24 [25,26] [(25,.bool false),(26,.int .u8 a0)] ?_
       obtain ⟨y1,hy1,heq⟩:=bind_some heq
       refine RgH.does (DoesH.call (d:=27) (g:=61) (args:=#[.string ({ data:=#[46,95,45,43] }:ByteArray),.int .u8 a0]) (by kernel_rfl) (strings_IndexByte_c (a0:=({ data:=#[46,95,45,43] }:ByteArray)) (a1:=a0)  hy1)) ?_
       rintro _ _ _ _ ⟨_,rfl,rfl,rfl,rfl⟩
       refine Rk 28 [2] [(2,.bool (decide (0≤y1)))] ?_
       obtain rfl:=Option.some.inj heq
       refine Kg [2] [(2,.bool (decide (0≤y1)))]<|Dn ?_
       exact K1
     ·replace heq:=bif_false hb5 heq
      refine RgH.val1 (v':=.bool false) (congrArg Value.bool hb5) ?_
      refine Rk 24 [25,26] [(25,.bool false),(26,.int .u8 a0)] ?_
      obtain ⟨y2,hy2,heq⟩:=bind_some heq
      refine RgH.does (DoesH.call (d:=27) (g:=61) (args:=#[.string ({ data:=#[46,95,45,43] }:ByteArray),.int .u8 a0]) (by kernel_rfl) (strings_IndexByte_c (a0:=({ data:=#[46,95,45,43] }:ByteArray)) (a1:=a0)  hy2)) ?_
      rintro _ _ _ _ ⟨_,rfl,rfl,rfl,rfl⟩
      refine Rk 28 [2] [(2,.bool (decide (0≤y2)))] ?_
      obtain rfl:=Option.some.inj heq
      refine Kg [2] [(2,.bool (decide (0≤y2)))]<|Dn ?_
      exact K1
   ·replace heq:=bif_false hb3 heq
    refine RgH.val1 (v':=.bool false) (congrArg Value.bool hb3) ?_
    refine Rk 18 [20,0,17] [(20,.bool (decide (48≤a0))),(0,.int .u8 a0),(17,.bool false)] ?_
    rcases bool_cases (decide (48≤a0)) with hb7 | hb7
    ·replace heq:=bif_true hb7 heq
     refine RgH.val1 (v':=.bool true) (congrArg Value.bool hb7) ?_
     refine Rk 23 [25,0] [(25,.bool (decide (a0≤57))),(0,.int .u8 a0)] ?_
     rcases bool_cases (decide (a0≤57)) with hb8 | hb8
     ·replace heq:=bif_true hb8 heq
      refine RgH.val1 (v':=.bool true) (congrArg Value.bool hb8) ?_
      refine Rk 28 [2] [(2,.bool true)] ?_
      obtain rfl:=Option.some.inj heq
      refine Kg [2] [(2,.bool true)]<|Dn ?_
      exact K1
     ·replace heq:=bif_false hb8 heq
      refine RgH.val1 (v':=.bool false) (congrArg Value.bool hb8) ?_
      refine Rk 24 [25,26] [(25,.bool false),(26,.int .u8 a0)] ?_
      obtain ⟨y3,hy3,heq⟩:=bind_some heq
      refine RgH.does (DoesH.call (d:=27) (g:=61) (args:=#[.string ({ data:=#[46,95,45,43] }:ByteArray),.int .u8 a0]) (by kernel_rfl) (strings_IndexByte_c (a0:=({ data:=#[46,95,45,43] }:ByteArray)) (a1:=a0)  hy3)) ?_
      rintro _ _ _ _ ⟨_,rfl,rfl,rfl,rfl⟩
      refine Rk 28 [2] [(2,.bool (decide (0≤y3)))] ?_
      obtain rfl:=Option.some.inj heq
      refine Kg [2] [(2,.bool (decide (0≤y3)))]<|Dn ?_
      exact K1
    ·replace heq:=bif_false hb7 heq
     refine RgH.val1 (v':=.bool false) (congrArg Value.bool hb7) ?_
     refine Rk 24 [25,26] [(25,.bool false),(26,.int .u8 a0)] ?_
     obtain ⟨y4,hy4,heq⟩:=bind_some heq
     refine RgH.does (DoesH.call (d:=27) (g:=61) (args:=#[.string ({ data:=#[46,95,45,43] }:ByteArray),.int .u8 a0]) (by kernel_rfl) (strings_IndexByte_c (a0:=({ data:=#[46,95,45,43] }:ByteArray)) (a1:=a0)  hy4)) ?_
     rintro _ _ _ _ ⟨_,rfl,rfl,rfl,rfl⟩
     refine Rk 28 [2] [(2,.bool (decide (0≤y4)))] ?_
     obtain rfl:=Option.some.inj heq
     refine Kg [2] [(2,.bool (decide (0≤y4)))]<|Dn ?_
     exact K1
 ·replace heq:=bif_false hb1 heq
  refine RgH.val1 (v':=.bool false) (congrArg Value.bool hb1) ?_
  refine Rk 10 [12,0,9] [(12,.bool (decide (65≤a0))),(0,.int .u8 a0),(9,.bool false)] ?_
  rcases bool_cases (decide (65≤a0)) with hb9 | hb9
  ·replace heq:=bif_true hb9 heq
   refine RgH.val1 (v':=.bool true) (congrArg Value.bool hb9) ?_
   refine Rk 15 [17,0] [(17,.bool (decide (a0≤90))),(0,.int .u8 a0)] ?_
   rcases bool_cases (decide (a0≤90)) with hb10 | hb10
   ·replace heq:=bif_true hb10 heq
    refine RgH.val1 (v':=.bool true) (congrArg Value.bool hb10) ?_
    refine Rk 28 [2] [(2,.bool true)] ?_
    obtain rfl:=Option.some.inj heq
    refine Kg [2] [(2,.bool true)]<|Dn ?_
    exact K1
   ·replace heq:=bif_false hb10 heq
    refine RgH.val1 (v':=.bool false) (congrArg Value.bool hb10) ?_
    refine Rk 18 [20,0,17] [(20,.bool (decide (48≤a0))),(0,.int .u8 a0),(17,.bool false)] ?_
    rcases bool_cases (decide (48≤a0)) with hb11 | hb11
    ·replace heq:=bif_true hb11 heq
     refine RgH.val1 (v':=.bool true) (congrArg Value.bool hb11) ?_
     refine Rk 23 [25,0] [(25,.bool (decide (a0≤57))),(0,.int .u8 a0)] ?_
     rcases bool_cases (decide (a0≤57)) with hb12 | hb12
     ·replace heq:=bif_true hb12 heq
      refine RgH.val1 (v':=.bool true) (congrArg Value.bool hb12) ?_
      refine Rk 28 [2] [(2,.bool true)] ?_
      obtain rfl:=Option.some.inj heq
      refine Kg [2] [(2,.bool true)]<|Dn ?_
      exact K1
     ·replace heq:=bif_false hb12 heq
      refine RgH.val1 (v':=.bool false) (congrArg Value.bool hb12) ?_
      refine Rk 24 [25,26] [(25,.bool false),(26,.int .u8 a0)] ?_
      obtain ⟨y5,hy5,heq⟩:=bind_some heq
      refine RgH.does (DoesH.call (d:=27) (g:=61) (args:=#[.string ({ data:=#[46,95,45,43] }:ByteArray),.int .u8 a0]) (by kernel_rfl) (strings_IndexByte_c (a0:=({ data:=#[46,95,45,43] }:ByteArray)) (a1:=a0)  hy5)) ?_
      rintro _ _ _ _ ⟨_,rfl,rfl,rfl,rfl⟩
      refine Rk 28 [2] [(2,.bool (decide (0≤y5)))] ?_
      obtain rfl:=Option.some.inj heq
      refine Kg [2] [(2,.bool (decide (0≤y5)))]<|Dn ?_
      exact K1
    ·replace heq:=bif_false hb11 heq
     refine RgH.val1 (v':=.bool false) (congrArg Value.bool hb11) ?_
     refine Rk 24 [25,26] [(25,.bool false),(26,.int .u8 a0)] ?_
     obtain ⟨y6,hy6,heq⟩:=bind_some heq
     refine RgH.does (DoesH.call (d:=27) (g:=61) (args:=#[.string ({ data:=#[46,95,45,43] }:ByteArray),.int .u8 a0]) (by kernel_rfl) (strings_IndexByte_c (a0:=({ data:=#[46,95,45,43] }:ByteArray)) (a1:=a0)  hy6)) ?_
     rintro _ _ _ _ ⟨_,rfl,rfl,rfl,rfl⟩
     refine Rk 28 [2] [(2,.bool (decide (0≤y6)))] ?_
     obtain rfl:=Option.some.inj heq
     refine Kg [2] [(2,.bool (decide (0≤y6)))]<|Dn ?_
     exact K1
  ·replace heq:=bif_false hb9 heq
   refine RgH.val1 (v':=.bool false) (congrArg Value.bool hb9) ?_
   refine Rk 18 [20,0,17] [(20,.bool (decide (48≤a0))),(0,.int .u8 a0),(17,.bool false)] ?_
   rcases bool_cases (decide (48≤a0)) with hb13 | hb13
   ·replace heq:=bif_true hb13 heq
    refine RgH.val1 (v':=.bool true) (congrArg Value.bool hb13) ?_
    refine Rk 23 [25,0] [(25,.bool (decide (a0≤57))),(0,.int .u8 a0)] ?_
    rcases bool_cases (decide (a0≤57)) with hb14 | hb14
    ·replace heq:=bif_true hb14 heq
     refine RgH.val1 (v':=.bool true) (congrArg Value.bool hb14) ?_
     refine Rk 28 [2] [(2,.bool true)] ?_
     obtain rfl:=Option.some.inj heq
     refine Kg [2] [(2,.bool true)]<|Dn ?_
     exact K1
    ·replace heq:=bif_false hb14 heq
     refine RgH.val1 (v':=.bool false) (congrArg Value.bool hb14) ?_
     refine Rk 24 [25,26] [(25,.bool false),(26,.int .u8 a0)] ?_
     obtain ⟨y7,hy7,heq⟩:=bind_some heq
     refine RgH.does (DoesH.call (d:=27) (g:=61) (args:=#[.string ({ data:=#[46,95,45,43] }:ByteArray),.int .u8 a0]) (by kernel_rfl) (strings_IndexByte_c (a0:=({ data:=#[46,95,45,43] }:ByteArray)) (a1:=a0)  hy7)) ?_
     rintro _ _ _ _ ⟨_,rfl,rfl,rfl,rfl⟩
     refine Rk 28 [2] [(2,.bool (decide (0≤y7)))] ?_
     obtain rfl:=Option.some.inj heq
     refine Kg [2] [(2,.bool (decide (0≤y7)))]<|Dn ?_
     exact K1
   ·replace heq:=bif_false hb13 heq
    refine RgH.val1 (v':=.bool false) (congrArg Value.bool hb13) ?_
    refine Rk 24 [25,26] [(25,.bool false),(26,.int .u8 a0)] ?_
    obtain ⟨y8,hy8,heq⟩:=bind_some heq
    refine RgH.does (DoesH.call (d:=27) (g:=61) (args:=#[.string ({ data:=#[46,95,45,43] }:ByteArray),.int .u8 a0]) (by kernel_rfl) (strings_IndexByte_c (a0:=({ data:=#[46,95,45,43] }:ByteArray)) (a1:=a0)  hy8)) ?_
    rintro _ _ _ _ ⟨_,rfl,rfl,rfl,rfl⟩
    refine Rk 28 [2] [(2,.bool (decide (0≤y8)))] ?_
    obtain rfl:=Option.some.inj heq
    refine Kg [2] [(2,.bool (decide (0≤y8)))]<|Dn ?_
    exact K1
noncomputable def C36:Ctx:={ P:=Tryz.prog,f:=36,N:=25,c:=bodyOf Tryz.f36 }
def S36 (F:List Ch) (H0:Hp) (r:Bool) (v:Value) (H:Hp) (cs:List Ch):Prop:=H0=H∧v=.bool r∧F=cs
theorem blob_isPart.e1_c {w0:World} [TabI Tryz.prog "internal/strconv.uint64pow10" 1 w0] [GlobI 0 w0] {H:Hp} {F:List Ch} {r:Bool}:∀ (a0:ByteArray) ,blob_isPart.e1 a0=some r→RunH C36 (S36 F H r) H w0 [.c [1,1,0],.c [1,1,1]] [(0,.string a0)] H (F):=by
 intro a0  heq
 unfold blob_isPart.e1 at heq
 obtain ⟨t1,ht1,heq⟩:=bind_some heq
 have K1:RunH C36 (S36 F H r) H w0 [.c [1,1,1]] [(2,.bool t1)] H (F):=by
  obtain rfl:=Option.some.inj heq
  exact RunH.done (by kernel_rfl) Tryz.func36 (v:=.bool t1) (by kernel_rfl) ⟨rfl,rfl,rfl⟩
 replace heq:=ht1
 refine Rr<|Rk 3 [17,0] [(17,.bool (!sEq a0 ({ data:=#[] }:ByteArray))),(0,.string a0)] ?_
 rcases bool_cases (!sEq a0 ({ data:=#[] }:ByteArray)) with hb1 | hb1
 ·replace heq:=bif_true hb1 heq
  refine RgH.val1 (v':=.bool true) (congrArg Value.bool hb1) ?_
  refine Rk 7 [21,0] [(21,.bool (!sEq a0 ({ data:=#[46] }:ByteArray))),(0,.string a0)] ?_
  rcases bool_cases (!sEq a0 ({ data:=#[46] }:ByteArray)) with hb2 | hb2
  ·replace heq:=bif_true hb2 heq
   refine RgH.val1 (v':=.bool true) (congrArg Value.bool hb2) ?_
   refine Rk 11 [2] [(2,.bool (!sEq a0 ({ data:=#[46,46] }:ByteArray)))] ?_
   obtain rfl:=Option.some.inj heq
   refine Kg [2] [(2,.bool (!sEq a0 ({ data:=#[46,46] }:ByteArray)))]<|Dn ?_
   exact K1
  ·replace heq:=bif_false hb2 heq
   refine RgH.val1 (v':=.bool false) (congrArg Value.bool hb2) ?_
   refine Rk 11 [2] [(2,.bool false)] ?_
   obtain rfl:=Option.some.inj heq
   refine Kg [2] [(2,.bool false)]<|Dn ?_
   exact K1
 ·replace heq:=bif_false hb1 heq
  refine RgH.val1 (v':=.bool false) (congrArg Value.bool hb1) ?_
  refine Rk 11 [2] [(2,.bool false)] ?_
  obtain rfl:=Option.some.inj heq
  refine Kg [2] [(2,.bool false)]<|Dn ?_
  exact K1
theorem blob_isPart.l2_c {w0:World} [TabI Tryz.prog "internal/strconv.uint64pow10" 1 w0] [GlobI 0 w0] {H:Hp} {F:List Ch} {r:Bool} (e1:ByteArray→Option Bool)
  (he1:∀ (a0:ByteArray) ,e1 a0=some r→RunH C36 (S36 F H r) H w0 [.c [1,1,0],.c [1,1,1]] [(0,.string a0)] H (F)):∀ (k:Nat),∀ (a0:ByteArray) (v6:Int) ,blob_isPart.l2 e1 k a0 v6=some r→RunH C36 (S36 F H r) H w0 [.c [1,0,1,0,0],.l [1,0,1,0,0],.b 0,.c [1,1]] [(0,.string a0),(5,iv (a0.size:Int)),(6,iv v6)] H (F):=by
 intro k
 induction k with
 | zero=>intro a0 v6  heq; exact nomatch (show (none:Option Bool)=some r from heq)
 | succ k ihk =>
  intro a0 v6  heq
  rw [blob_isPart.l2] at heq
  refine Ra 1 [1,0,1,0,0,0] [.c [1,0,1,0,0,1],.l [1,0,1,0,0],.b 0,.c [1,1]]<|Rd 1 [0,5,6,7] [(0,.string a0),(5,iv (a0.size:Int)),(6,iv v6),(7,.bool (decide (v6<(a0.size:Int))))]<|Ad 1 [.c [1,0,1,0,0,1,0],.c [1,0,1,0,0,1,1],.l [1,0,1,0,0],.b 0,.c [1,1]] ?_
  rcases bool_cases (decide (v6<(a0.size:Int))) with hb3 | hb3
  ·replace heq:=bif_true hb3 heq
   refine Ct (decide (v6<(a0.size:Int))) hb3<|Ra 4 [1,0,1,0,0,1,1,0,0,0] [.c [1,0,1,0,0,1,1,0,0,1],.b 1,.c [1,0,1,0,0,1,1,1],.l [1,0,1,0,0],.b 0,.c [1,1]]<|Rd 2 [0,3,5,6] [(0,.string a0),(3,iv v6),(5,iv (a0.size:Int)),(6,iv v6)]<|Ra 1 [1,0,1,0,0,1,1,0,0,1,0] [.c [1,0,1,0,0,1,1,0,0,1,1],.b 1,.c [1,0,1,0,0,1,1,1],.l [1,0,1,0,0],.b 0,.c [1,1]] ?_
   obtain ⟨hn1,heq⟩:=guard?_some heq
   refine Rv 3 [0,5,6,11] [] [.need ((0:Int)≤v6∧v6<(a0.size:Int))] [(0,.string a0),(5,iv (a0.size:Int)),(6,iv v6),(11,.int .u8 (bt a0 v6))] (fun w hh=>(both_of hn1)) ?_
   obtain ⟨y1,hy1,heq⟩:=bind_some heq
   refine RgH.does (DoesH.call (d:=12) (g:=48) (args:=#[.int .u8 (bt a0 v6)]) (by kernel_rfl) (blob_inPart_c (a0:=bt a0 v6)  hy1)) ?_
   rintro _ _ _ _ ⟨_,rfl,rfl,rfl,rfl⟩
   refine Rd 5 [0,5,6,13] [(0,.string a0),(5,iv (a0.size:Int)),(6,iv v6),(13,.bool (!y1))] ?_
   rcases bool_cases (!y1) with hb4 | hb4
   ·replace heq:=bif_true hb4 heq
    refine Ct (!y1) hb4<|Ra 1 [1,0,1,0,0,1,1,0,0,1,1,0,0] [.c [1,0,1,0,0,1,1,0,0,1,1,0,1],.b 1,.c [1,0,1,0,0,1,1,1],.l [1,0,1,0,0],.b 0,.c [1,1]]<|Rd 1 [2] [(2,.bool false)] ?_
    obtain rfl:=Option.some.inj heq
    exact RunH.done (by kernel_rfl) Tryz.func36 (v:=.bool false) (by kernel_rfl) ⟨rfl,rfl,rfl⟩
   ·replace heq:=bif_false hb4 heq
    refine Cf (!y1) hb4<|Ra 2 [1,0,1,0,0,1,1,1] [.l [1,0,1,0,0],.b 0,.c [1,1]]<|Rd 2 [0,5,6] [(0,.string a0),(5,iv (a0.size:Int)),(6,iv (w64 (v6+1)))]<|Ad 1 [.c [1,0,1,0,0],.l [1,0,1,0,0],.b 0,.c [1,1]]<|Kp [0,5,6] [(0,.string a0),(5,iv (a0.size:Int)),(6,iv (w64 (v6+1)))] ?_
    exact ihk a0 (w64 (v6+1)) heq
  ·replace heq:=bif_false hb3 heq
   refine Cf (decide (v6<(a0.size:Int))) hb3<|Ad 2 [.c [1,1,0],.c [1,1,1]]<|Kp [0] [(0,.string a0)] ?_
   exact he1 a0 heq
theorem blob_isPart_c {w0:World} [TabI Tryz.prog "internal/strconv.uint64pow10" 1 w0] [GlobI 0 w0] {H:Hp} {F:List Ch} {a0:ByteArray} {r:Bool} (heq:blob_isPart.f a0=some r):CallsH Tryz.prog 36 #[.string a0] H w0 (F) (S36 F H r):=by
 refine calls_of_runH (F:=C36) Tryz.func36 (by kernel_rfl) Tryz.ntmps36 (args:=[.string a0]) (by kernel_rfl) ?_
 unfold blob_isPart.f at heq
 refine Ra 1 [0] [.c [1]]<|Rd 1 [0] [(0,.string a0)]<|Ra 2 [1,0,0] [.c [1,0,1],.c [1,1]]<|Rd 3 [0,5,6] [(0,.string a0),(5,iv (a0.size:Int)),(6,iv 0)]<|Ad 2 [.c [1,0,1,0,0],.l [1,0,1,0,0],.b 0,.c [1,1]]<|Kp [0,5,6] [(0,.string a0),(5,iv (a0.size:Int)),(6,iv 0)] ?_
 exact ((blob_isPart.l2_c (e1:=blob_isPart.e1) (blob_isPart.e1_c)) big) a0 0 heq
noncomputable def C21:Ctx:={ P:=Tryz.prog,f:=21,N:=24,c:=bodyOf Tryz.f21 }
def S21 (F:List Ch) (H0:Hp) (r:Bool) (v:Value) (H:Hp) (cs:List Ch):Prop:=H0=H∧v=.bool r∧F=cs
theorem blob_IsPath.e1_c {w0:World} [TabI Tryz.prog "internal/strconv.uint64pow10" 1 w0] [GlobI 0 w0] {H:Hp} {F:List Ch} {r:Bool}:blob_IsPath.e1=some r→RunH C21 (S21 F H r) H w0 [.c [1,1,1,0],.c [1,1,1,1]] [] H (F):=by
 intro   heq
 unfold blob_IsPath.e1 at heq
 refine Rr<|Rd 1 [2] [(2,.bool true)] ?_
 obtain rfl:=Option.some.inj heq
 exact RunH.done (by kernel_rfl) Tryz.func21 (v:=.bool true) (by kernel_rfl) ⟨rfl,rfl,rfl⟩
theorem blob_IsPath.l2_c {w0:World} [TabI Tryz.prog "internal/strconv.uint64pow10" 1 w0] [GlobI 0 w0] {H:Hp} {F:List Ch} {r:Bool} (e1:Option Bool)
  (he1:e1=some r→RunH C21 (S21 F H r) H w0 [.c [1,1,1,0],.c [1,1,1,1]] [] H (F)):∀ (k:Nat),∀ (y1:List ByteArray) (A1:Option Addr) (c1:Nat) (ch1:Ch) (v16:Int) ,SlOwn Kd.string 9 H A1 c1 y1 ch1→blob_IsPath.l2 e1 k y1 v16=some r→RunH C21 (S21 F H r) H w0 [.c [1,1,0,1,0,0],.l [1,1,0,1,0,0],.b 0,.c [1,1,1]] [(14,.slice A1 y1.length c1),(15,iv (y1.length:Int)),(16,iv v16)] H (ch1::F):=by
 intro k
 induction k with
 | zero=>intro y1 A1 c1 ch1 v16 ho1 heq; exact nomatch (show (none:Option Bool)=some r from heq)
 | succ k ihk =>
  intro y1 A1 c1 ch1 v16 ho1 heq
  rw [blob_IsPath.l2] at heq
  refine Ra 1 [1,1,0,1,0,0,0] [.c [1,1,0,1,0,0,1],.l [1,1,0,1,0,0],.b 0,.c [1,1,1]]<|Rd 1 [14,15,16,17] [(14,.slice A1 y1.length c1),(15,iv (y1.length:Int)),(16,iv v16),(17,.bool (decide (v16<(y1.length:Int))))]<|Ad 1 [.c [1,1,0,1,0,0,1,0],.c [1,1,0,1,0,0,1,1],.l [1,1,0,1,0,0],.b 0,.c [1,1,1]] ?_
  rcases bool_cases (decide (v16<(y1.length:Int))) with hb3 | hb3
  ·replace heq:=bif_true hb3 heq
   refine Ct (decide (v16<(y1.length:Int))) hb3<|Ra 4 [1,1,0,1,0,0,1,1,0,0,0] [.c [1,1,0,1,0,0,1,1,0,0,1],.b 1,.c [1,1,0,1,0,0,1,1,1],.l [1,1,0,1,0,0],.b 0,.c [1,1,1]] ?_
   obtain ⟨x1,hx1,heq⟩:=bind_some heq
   obtain ⟨ha1,cs1,hK1,hcc1⟩:=ho1.get hx1
   obtain rfl:cs1=[.string x1]:=hK1
   refine Rw' 3 [4,14,15,16] [.string x1] [.need (A1=some (adr A1)∧(0:Int)≤v16∧v16<((y1.length:Nat):Int)),.load ((adr A1).add (v16.toNat*1)) (.string x1)] [(4,.string x1),(14,.slice A1 y1.length c1),(15,iv (y1.length:Int)),(16,iv v16)] (fun w hh=>⟨⟨ha1,(at?_some hx1).1,(at?_some hx1).2.1⟩,(hcc1 _ (hh.chin 0 rfl) 0 _ rfl)⟩)<|Ra 1 [1,1,0,1,0,0,1,1,0,0,1,0] [.c [1,1,0,1,0,0,1,1,0,0,1,1],.b 1,.c [1,1,0,1,0,0,1,1,1],.l [1,1,0,1,0,0],.b 0,.c [1,1,1]]<|Rk 1 [14,15,16,20] [(14,.slice A1 y1.length c1),(15,iv (y1.length:Int)),(16,iv v16),(20,.string x1)] ?_
   obtain ⟨y2,hy2,heq⟩:=bind_some heq
   refine RgH.does (DoesH.call (d:=21) (g:=36) (args:=#[.string x1]) (by kernel_rfl) (blob_isPart_c (a0:=x1)  hy2)) ?_
   rintro _ _ _ _ ⟨_,rfl,rfl,rfl,rfl⟩
   refine Rd 3 [14,15,16,22] [(14,.slice A1 y1.length c1),(15,iv (y1.length:Int)),(16,iv v16),(22,.bool (!y2))] ?_
   rcases bool_cases (!y2) with hb4 | hb4
   ·replace heq:=bif_true hb4 heq
    refine Ct (!y2) hb4<|Ra 1 [1,1,0,1,0,0,1,1,0,0,1,1,0,0] [.c [1,1,0,1,0,0,1,1,0,0,1,1,0,1],.b 1,.c [1,1,0,1,0,0,1,1,1],.l [1,1,0,1,0,0],.b 0,.c [1,1,1]]<|Rd 1 [2] [(2,.bool false)] ?_
    obtain rfl:=Option.some.inj heq
    refine RunH.pick 1 [] (cs':=F) (by kernel_rfl) rfl ?_
    exact RunH.done (by kernel_rfl) Tryz.func21 (v:=.bool false) (by kernel_rfl) ⟨rfl,rfl,rfl⟩
   ·replace heq:=bif_false hb4 heq
    refine Cf (!y2) hb4<|Ra 2 [1,1,0,1,0,0,1,1,1] [.l [1,1,0,1,0,0],.b 0,.c [1,1,1]]<|Rd 2 [14,15,16] [(14,.slice A1 y1.length c1),(15,iv (y1.length:Int)),(16,iv (w64 (v16+1)))]<|Ad 1 [.c [1,1,0,1,0,0],.l [1,1,0,1,0,0],.b 0,.c [1,1,1]]<|Kp [14,15,16] [(14,.slice A1 y1.length c1),(15,iv (y1.length:Int)),(16,iv (w64 (v16+1)))] ?_
    exact ihk y1 _ _ _ (w64 (v16+1)) ho1 heq
  ·replace heq:=bif_false hb3 heq
   refine Cf (decide (v16<(y1.length:Int))) hb3<|Ad 2 [.c [1,1,1,0],.c [1,1,1,1]]<|Kp [] [] ?_
   refine RunH.pick 1 [] (cs':=F) (by kernel_rfl) rfl ?_
   exact he1 heq
theorem blob_IsPath_c {w0:World} [TabI Tryz.prog "internal/strconv.uint64pow10" 1 w0] [GlobI 0 w0] {H:Hp} {F:List Ch} {a0:ByteArray} {r:Bool} (heq:blob_IsPath.f a0=some r):CallsH Tryz.prog 21 #[.string a0] H w0 (F) (S21 F H r):=by
 refine calls_of_runH (F:=C21) Tryz.func21 (by kernel_rfl) Tryz.ntmps21 (args:=[.string a0]) (by kernel_rfl) ?_
 unfold blob_IsPath.f at heq
 refine Ra 1 [0] [.c [1]]<|Rd 1 [0] [(0,.string a0)]<|Ad 2 [.c [1,0,0],.c [1,0,1],.c [1,1]] ?_
 obtain ⟨t1,ht1,heq⟩:=bind_some heq
 have K1:RunH C21 (S21 F H r) H w0 [.c [1,0,1],.c [1,1]] [(0,.string a0),(12,.bool t1)] H (F):=by
  rcases bool_cases (t1) with hb2 | hb2
  ·replace heq:=bif_true hb2 heq
   refine Ct t1 hb2<|Ra 1 [1,0,1,0,0] [.c [1,0,1,0,1],.c [1,1]]<|Rd 1 [2] [(2,.bool false)] ?_
   obtain rfl:=Option.some.inj heq
   exact RunH.done (by kernel_rfl) Tryz.func21 (v:=.bool false) (by kernel_rfl) ⟨rfl,rfl,rfl⟩
  ·replace heq:=bif_false hb2 heq
   refine Cf t1 hb2<|Ra 3 [1,1,0,0] [.c [1,1,0,1],.c [1,1,1]]<|Rk 1 [13] [(13,.string a0)] ?_
   obtain ⟨y1,hy1,heq⟩:=bind_some heq
   refine RgH.does (DoesH.call (d:=14) (g:=31) (args:=#[.string a0,.string ({ data:=#[47] }:ByteArray)]) (by kernel_rfl) (strings_Split_c (a0:=a0) (a1:=({ data:=#[47] }:ByteArray))  hy1)) ?_
   rintro _ _ _ _ ⟨_,rfl,A1,c1,ch1,rfl,rfl,rfl,ho1⟩
   refine Rd 4 [14,15,16] [(14,.slice A1 y1.length c1),(15,iv (y1.length:Int)),(16,iv 0)]<|Ad 2 [.c [1,1,0,1,0,0],.l [1,1,0,1,0,0],.b 0,.c [1,1,1]]<|Kp [14,15,16] [(14,.slice A1 y1.length c1),(15,iv (y1.length:Int)),(16,iv 0)] ?_
   exact ((blob_IsPath.l2_c (e1:=blob_IsPath.e1) (blob_IsPath.e1_c)) big) y1 _ _ _ 0 ho1 heq
 replace heq:=ht1
 refine Rr<|Rk 4 [8,0] [(8,.bool (decide ((a0.size:Int)<1))),(0,.string a0)] ?_
 rcases bool_cases (decide ((a0.size:Int)<1)) with hb1 | hb1
 ·replace heq:=bif_true hb1 heq
  refine RgH.val1 (v':=.bool true) (congrArg Value.bool hb1) ?_
  refine Rk 8 [0,12] [(0,.string a0),(12,.bool true)] ?_
  obtain rfl:=Option.some.inj heq
  refine Kg [0,12] [(0,.string a0),(12,.bool true)]<|Dn ?_
  exact K1
 ·replace heq:=bif_false hb1 heq
  refine RgH.val1 (v':=.bool false) (congrArg Value.bool hb1) ?_
  refine Rk 8 [0,12] [(0,.string a0),(12,.bool (decide (200<(a0.size:Int))))] ?_
  obtain rfl:=Option.some.inj heq
  refine Kg [0,12] [(0,.string a0),(12,.bool (decide (200<(a0.size:Int))))]<|Dn ?_
  exact K1
def S37 (F:List Ch) (H0:Hp) (r:ByteArray) (v:Value) (H:Hp) (cs:List Ch):Prop:=H0=H∧v=.string r∧F=cs
theorem strings_Trim_c {w0:World} [TabI Tryz.prog "internal/strconv.uint64pow10" 1 w0] [GlobI 0 w0] {H:Hp} {F:List Ch} {a0:ByteArray} {a1:ByteArray} {r:ByteArray} (heq:strings_Trim.f a0 a1=some r):CallsH Tryz.prog 37 #[.string a0,.string a1] H w0 F (S37 F H r):=by
 intro w hh
 unfold strings_Trim.f at heq
 obtain ⟨hn,heq⟩:=guard?_some heq
 obtain rfl:=Option.some.inj heq
 refine (Shelf.Tryz.strings_Trim a0 a1 w (by simp at hn; exact hn.1) (by simp at hn; exact hn.2.1) (by have h:=hn; rw [Bool.and_eq_true,Bool.and_eq_true] at h; exact ascii_of_all h.2.2)).mono ?_
 rintro e w' ⟨rfl,hx⟩
 exact ⟨_,rfl,H,F,Le.refl H,hh.later hx,rfl,rfl,rfl⟩
noncomputable def C22:Ctx:={ P:=Tryz.prog,f:=22,N:=11,c:=bodyOf Tryz.f22 }
def S22 (F:List Ch) (H0:Hp) (r:Bool) (v:Value) (H:Hp) (cs:List Ch):Prop:=H0=H∧v=.bool r∧F=cs
theorem blob_IsDigest_c {w0:World} [TabI Tryz.prog "internal/strconv.uint64pow10" 1 w0] [GlobI 0 w0] {H:Hp} {F:List Ch} {a0:ByteArray} {r:Bool} (heq:blob_IsDigest.f a0=some r):CallsH Tryz.prog 22 #[.string a0] H w0 (F) (S22 F H r):=by
 refine calls_of_runH (F:=C22) Tryz.func22 (by kernel_rfl) Tryz.ntmps22 (args:=[.string a0]) (by kernel_rfl) ?_
 unfold blob_IsDigest.f at heq
 refine Ra 1 [0] [.c [1]]<|Rd 1 [0] [(0,.string a0)]<|Ad 1 [.c [1,0],.c [1,1]] ?_
 obtain ⟨t1,ht1,heq⟩:=bind_some heq
 have K1:RunH C22 (S22 F H r) H w0 [.c [1,1]] [(2,.bool t1)] H (F):=by
  obtain rfl:=Option.some.inj heq
  exact RunH.done (by kernel_rfl) Tryz.func22 (v:=.bool t1) (by kernel_rfl) ⟨rfl,rfl,rfl⟩
 replace heq:=ht1
 refine Rr<|Rk 4 [6,0] [(6,.bool ((a0.size:Int) == 16)),(0,.string a0)] ?_
 rcases bool_cases ((a0.size:Int) == 16) with hb1 | hb1
 ·replace heq:=bif_true hb1 heq
  refine RgH.val1 (v':=.bool true) (congrArg Value.bool hb1) ?_
  refine Rk 5 [6,7] [(6,.bool true),(7,.string a0)] ?_
  obtain ⟨y1,hy1,heq⟩:=bind_some heq
  refine RgH.does (DoesH.call (d:=8) (g:=37) (args:=#[.string a0,.string ({ data:=#[48,49,50,51,52,53,54,55,56,57,97,98,99,100,101,102] }:ByteArray)]) (by kernel_rfl) (strings_Trim_c (a0:=a0) (a1:=({ data:=#[48,49,50,51,52,53,54,55,56,57,97,98,99,100,101,102] }:ByteArray))  hy1)) ?_
  rintro _ _ _ _ ⟨_,rfl,rfl,rfl,rfl⟩
  refine Rk 9 [2] [(2,.bool (sEq y1 ({ data:=#[] }:ByteArray)))] ?_
  obtain rfl:=Option.some.inj heq
  refine Kg [2] [(2,.bool (sEq y1 ({ data:=#[] }:ByteArray)))]<|Dn ?_
  exact K1
 ·replace heq:=bif_false hb1 heq
  refine RgH.val1 (v':=.bool false) (congrArg Value.bool hb1) ?_
  refine Rk 9 [2] [(2,.bool false)] ?_
  obtain rfl:=Option.some.inj heq
  refine Kg [2] [(2,.bool false)]<|Dn ?_
  exact K1
noncomputable def C23:Ctx:={ P:=Tryz.prog,f:=23,N:=15,c:=bodyOf Tryz.f23 }
def S23 (F:List Ch) (H0:Hp) (r:Bool) (v:Value) (H:Hp) (cs:List Ch):Prop:=H0=H∧v=.bool r∧F=cs
theorem trials_within_c {w0:World} [TabI Tryz.prog "internal/strconv.uint64pow10" 1 w0] [GlobI 0 w0] {H:Hp} {F:List Ch} {a0:Int} {a1:Int} {a2:Int} {r:Bool} (heq:trials_within.f a0 a1 a2=some r):CallsH Tryz.prog 23 #[iv a0,iv a1,iv a2] H w0 (F) (S23 F H r):=by
 refine calls_of_runH (F:=C23) Tryz.func23 (by kernel_rfl) Tryz.ntmps23 (args:=[iv a0,iv a1,iv a2]) (by kernel_rfl) ?_
 unfold trials_within.f at heq
 refine Ra 1 [0] [.c [1]]<|Rd 1 [0,1,2] [(0,iv a0),(1,iv a1),(2,iv a2)]<|Ad 1 [.c [1,0],.c [1,1]] ?_
 obtain ⟨t1,ht1,heq⟩:=bind_some heq
 have K1:RunH C23 (S23 F H r) H w0 [.c [1,1]] [(6,.bool t1)] H (F):=by
  obtain rfl:=Option.some.inj heq
  exact RunH.done (by kernel_rfl) Tryz.func23 (v:=.bool t1) (by kernel_rfl) ⟨rfl,rfl,rfl⟩
 replace heq:=ht1
 refine Rr<|Rk 4 [10,0,2] [(10,.bool (decide (a1≤a0))),(0,iv a0),(2,iv a2)] ?_
 rcases bool_cases (decide (a1≤a0)) with hb1 | hb1
 ·replace heq:=bif_true hb1 heq
  refine RgH.val1 (v':=.bool true) (congrArg Value.bool hb1) ?_
  refine Rk 9 [6] [(6,.bool (decide (a0≤a2)))] ?_
  obtain rfl:=Option.some.inj heq
  refine Kg [6] [(6,.bool (decide (a0≤a2)))]<|Dn ?_
  exact K1
 ·replace heq:=bif_false hb1 heq
  refine RgH.val1 (v':=.bool false) (congrArg Value.bool hb1) ?_
  refine Rk 9 [6] [(6,.bool false)] ?_
  obtain rfl:=Option.some.inj heq
  refine Kg [6] [(6,.bool false)]<|Dn ?_
  exact K1
noncomputable def C10:Ctx:={ P:=Tryz.prog,f:=10,N:=51,c:=bodyOf Tryz.f10 }
def S10 (F:List Ch) (H0:Hp) (r:Int) (v:Value) (H:Hp) (cs:List Ch):Prop:=H0=H∧v=iv r∧F=cs
theorem trials_CheckHistory.e1_c {w0:World} [TabI Tryz.prog "internal/strconv.uint64pow10" 1 w0] [GlobI 0 w0] {H:Hp} {F:List Ch} {r:Int}:trials_CheckHistory.e1=some r→RunH C10 (S10 F H r) H w0 [.c [1,1,1,0],.c [1,1,1,1]] [] H (F):=by
 intro   heq
 unfold trials_CheckHistory.e1 at heq
 refine Rr<|Rd 1 [2] [(2,iv 0)] ?_
 obtain rfl:=Option.some.inj heq
 exact RunH.done (by kernel_rfl) Tryz.func10 (v:=iv 0) (by kernel_rfl) ⟨rfl,rfl,rfl⟩
theorem trials_CheckHistory.l2_c {w0:World} [TabI Tryz.prog "internal/strconv.uint64pow10" 1 w0] [GlobI 0 w0] {H:Hp} {F:List Ch} {r:Int} (e1:Option Int)
  (he1:e1=some r→RunH C10 (S10 F H r) H w0 [.c [1,1,1,0],.c [1,1,1,1]] [] H (F)):∀ (k:Nat),∀ (a0:List TestRun) (Aa0:Option Addr) (ca0:Nat) (v10:Int) ,Rw kTestRun H F Aa0 a0→a0.length≤ca0→trials_CheckHistory.l2 e1 k a0 v10=some r→RunH C10 (S10 F H r) H w0 [.c [1,1,0,1,0,0],.l [1,1,0,1,0,0],.b 0,.c [1,1,1]] [(0,.slice Aa0 a0.length ca0),(8,.slice Aa0 a0.length ca0),(9,iv (a0.length:Int)),(10,iv v10)] H (F):=by
 intro k
 induction k with
 | zero=>intro a0 Aa0 ca0 v10 hra0 hca0 heq; exact nomatch (show (none:Option Int)=some r from heq)
 | succ k ihk =>
  intro a0 Aa0 ca0 v10 hra0 hca0 heq
  rw [trials_CheckHistory.l2] at heq
  refine Ra 1 [1,1,0,1,0,0,0] [.c [1,1,0,1,0,0,1],.l [1,1,0,1,0,0],.b 0,.c [1,1,1]]<|Rd 1 [0,8,9,10,11] [(0,.slice Aa0 a0.length ca0),(8,.slice Aa0 a0.length ca0),(9,iv (a0.length:Int)),(10,iv v10),(11,.bool (decide (v10<(a0.length:Int))))]<|Ad 1 [.c [1,1,0,1,0,0,1,0],.c [1,1,0,1,0,0,1,1],.l [1,1,0,1,0,0],.b 0,.c [1,1,1]] ?_
  rcases bool_cases (decide (v10<(a0.length:Int))) with hb2 | hb2
  ·replace heq:=bif_true hb2 heq
   refine Ct (decide (v10<(a0.length:Int))) hb2<|Ra 4 [1,1,0,1,0,0,1,1,0,0,0] [.c [1,1,0,1,0,0,1,1,0,0,1],.b 1,.c [1,1,0,1,0,0,1,1,1],.l [1,1,0,1,0,0],.b 0,.c [1,1,1]] ?_
   obtain ⟨x1,hx1,heq⟩:=bind_some heq
   obtain ⟨ha1,cs1,hK1,hcc1⟩:=hra0.get hx1
   obtain ⟨rfl⟩:=kTestRun_open hK1
   refine Rv 3 [0,8,9,10,12,14] [.string x1.Test,.string x1.Key,iv x1.At,.bool x1.Pass,iv x1.Seconds] [.need (Aa0=some (adr Aa0)∧(0:Int)≤v10∧v10<((a0.length:Nat):Int)),.load (((adr Aa0).add (v10.toNat*5)).add 0) (.string x1.Test),.load (((adr Aa0).add (v10.toNat*5)).add 1) (.string x1.Key),.load (((adr Aa0).add (v10.toNat*5)).add 2) (iv x1.At),.load (((adr Aa0).add (v10.toNat*5)).add 3) (.bool x1.Pass),.load (((adr Aa0).add (v10.toNat*5)).add 4) (iv x1.Seconds)] [(0,.slice Aa0 a0.length ca0),(8,.slice Aa0 a0.length ca0),(9,iv (a0.length:Int)),(10,iv v10),(12,iv v10),(14,.agg #[.string x1.Test,.string x1.Key,iv x1.At,.bool x1.Pass,iv x1.Seconds])] (fun w hh=>⟨⟨ha1,(at?_some hx1).1,(at?_some hx1).2.1⟩,(hcc1 _ _ (hh.drop 0) 0 _ rfl),(hcc1 _ _ (hh.drop 0) 1 _ rfl),(hcc1 _ _ (hh.drop 0) 2 _ rfl),(hcc1 _ _ (hh.drop 0) 3 _ rfl),(hcc1 _ _ (hh.drop 0) 4 _ rfl)⟩) ?_
   refine RgH.does (DoesH.new (d:=4) (v:=fun g=>.pointer (some ⟨g,0,none⟩)) (o:=fun g=>.cells #[.string ByteArray.empty,.string ByteArray.empty,iv 0,.bool false,iv 0] 25 (0,0)) (fun g=>by kernel_rfl)) ?_
   rintro _ _ _ _ ⟨g1,rfl,rfl,rfl⟩
   refine Rk 5 [0,3,4,8,9,10,14] [(0,.slice Aa0 a0.length ca0),(3,iv v10),(4,pg g1 0),(8,.slice Aa0 a0.length ca0),(9,iv (a0.length:Int)),(10,iv v10),(14,.agg #[.string x1.Test,.string x1.Key,iv x1.At,.bool x1.Pass,iv x1.Seconds])] ?_
   refine RgH.does (DoesH.store (k:=0) (g:=g1) (off:=0) (v:=.agg #[.string x1.Test,.string x1.Key,iv x1.At,.bool x1.Pass,iv x1.Seconds]) (cells':=#[.string x1.Test,.string x1.Key,iv x1.At,.bool x1.Pass,iv x1.Seconds]) (by kernel_rfl) rfl (by kernel_rfl) (by kernel_rfl)) ?_
   rintro _ _ _ _ ⟨rfl,rfl,rfl⟩
   refine Dn<|Ra 2 [1,1,0,1,0,0,1,1,0,0,1,0,0] [.c [1,1,0,1,0,0,1,1,0,0,1,0,1],.b 2,.b 1,.c [1,1,0,1,0,0,1,1,1],.l [1,1,0,1,0,0],.b 0,.c [1,1,1]]<|Rv 2 [0,3,4,8,9,10,17] [.string x1.Test] [.load ⟨g1,0,none⟩ (.string x1.Test)] [(0,.slice Aa0 a0.length ca0),(3,iv v10),(4,pg g1 0),(8,.slice Aa0 a0.length ca0),(9,iv (a0.length:Int)),(10,iv v10),(17,.string x1.Test)] (fun w hh=>(hh.box 0 rfl rfl)) ?_
   obtain ⟨y1,hy1,heq⟩:=bind_some heq
   refine RgH.does (DoesH.call (d:=18) (g:=21) (args:=#[.string x1.Test]) (by kernel_rfl) (blob_IsPath_c (a0:=x1.Test)  hy1)) ?_
   rintro _ _ _ _ ⟨_,rfl,rfl,rfl,rfl⟩
   refine Rd 5 [0,3,4,8,9,10,15] [(0,.slice Aa0 a0.length ca0),(3,iv v10),(4,pg g1 0),(8,.slice Aa0 a0.length ca0),(9,iv (a0.length:Int)),(10,iv v10),(15,.bool (!y1))] ?_
   rcases bool_cases (!y1) with hb3 | hb3
   ·replace heq:=bif_true hb3 heq
    refine Ct (!y1) hb3<|Ra 1 [1,1,0,1,0,0,1,1,0,0,1,0,1,0,0] [.c [1,1,0,1,0,0,1,1,0,0,1,0,1,0,1],.b 2,.b 1,.c [1,1,0,1,0,0,1,1,1],.l [1,1,0,1,0,0],.b 0,.c [1,1,1]]<|Rd 1 [2] [(2,iv 5)] ?_
    obtain rfl:=Option.some.inj heq
    refine RunH.pick 1 [] (cs':=F) (by kernel_rfl) rfl ?_
    exact RunH.done (by kernel_rfl) Tryz.func10 (v:=iv 5) (by kernel_rfl) ⟨rfl,rfl,rfl⟩
   ·replace heq:=bif_false hb3 heq
    refine Cf (!y1) hb3<|Ra 1 [1,1,0,1,0,0,1,1,0,0,1,0,1,1,0] [.c [1,1,0,1,0,0,1,1,0,0,1,0,1,1,1],.b 2,.b 1,.c [1,1,0,1,0,0,1,1,1],.l [1,1,0,1,0,0],.b 0,.c [1,1,1]]<|Rv 2 [0,3,4,8,9,10,22] [.string x1.Key] [.load ⟨g1,1,none⟩ (.string x1.Key)] [(0,.slice Aa0 a0.length ca0),(3,iv v10),(4,pg g1 0),(8,.slice Aa0 a0.length ca0),(9,iv (a0.length:Int)),(10,iv v10),(22,.string x1.Key)] (fun w hh=>(hh.box 0 rfl rfl)) ?_
    obtain ⟨y2,hy2,heq⟩:=bind_some heq
    refine RgH.does (DoesH.call (d:=23) (g:=22) (args:=#[.string x1.Key]) (by kernel_rfl) (blob_IsDigest_c (a0:=x1.Key)  hy2)) ?_
    rintro _ _ _ _ ⟨_,rfl,rfl,rfl,rfl⟩
    refine Rd 5 [0,3,4,8,9,10,20] [(0,.slice Aa0 a0.length ca0),(3,iv v10),(4,pg g1 0),(8,.slice Aa0 a0.length ca0),(9,iv (a0.length:Int)),(10,iv v10),(20,.bool (!y2))] ?_
    rcases bool_cases (!y2) with hb4 | hb4
    ·replace heq:=bif_true hb4 heq
     refine Ct (!y2) hb4<|Ra 1 [1,1,0,1,0,0,1,1,0,0,1,0,1,1,1,0,0] [.c [1,1,0,1,0,0,1,1,0,0,1,0,1,1,1,0,1],.b 2,.b 1,.c [1,1,0,1,0,0,1,1,1],.l [1,1,0,1,0,0],.b 0,.c [1,1,1]]<|Rd 1 [2] [(2,iv 3)] ?_
     obtain rfl:=Option.some.inj heq
     refine RunH.pick 1 [] (cs':=F) (by kernel_rfl) rfl ?_
     exact RunH.done (by kernel_rfl) Tryz.func10 (v:=iv 3) (by kernel_rfl) ⟨rfl,rfl,rfl⟩
    ·replace heq:=bif_false hb4 heq
     refine Cf (!y2) hb4<|Ad 1 [.c [1,1,0,1,0,0,1,1,0,0,1,0,1,1,1,1,0],.c [1,1,0,1,0,0,1,1,0,0,1,0,1,1,1,1,1],.b 2,.b 1,.c [1,1,0,1,0,0,1,1,1],.l [1,1,0,1,0,0],.b 0,.c [1,1,1]] ?_
     obtain ⟨t1,ht1,heq⟩:=bind_some heq
     have K2:RunH C10 (S10 F H r) H w0 [.c [1,1,0,1,0,0,1,1,0,0,1,0,1,1,1,1,1],.b 2,.b 1,.c [1,1,0,1,0,0,1,1,1],.l [1,1,0,1,0,0],.b 0,.c [1,1,1]] [(0,.slice Aa0 a0.length ca0),(3,iv v10),(4,pg g1 0),(8,.slice Aa0 a0.length ca0),(9,iv (a0.length:Int)),(10,iv v10),(25,.bool t1)] H ((some (g1,.cells #[.string x1.Test,.string x1.Key,iv x1.At,.bool x1.Pass,iv x1.Seconds] 25 (0,0)))::F):=by
      rcases bool_cases (t1) with hb6 | hb6
      ·replace heq:=bif_true hb6 heq
       refine Ct t1 hb6<|Ra 1 [1,1,0,1,0,0,1,1,0,0,1,0,1,1,1,1,1,0,0] [.c [1,1,0,1,0,0,1,1,0,0,1,0,1,1,1,1,1,0,1],.b 2,.b 1,.c [1,1,0,1,0,0,1,1,1],.l [1,1,0,1,0,0],.b 0,.c [1,1,1]]<|Rd 1 [2] [(2,iv 1)] ?_
       obtain rfl:=Option.some.inj heq
       refine RunH.pick 1 [] (cs':=F) (by kernel_rfl) rfl ?_
       exact RunH.done (by kernel_rfl) Tryz.func10 (v:=iv 1) (by kernel_rfl) ⟨rfl,rfl,rfl⟩
      ·replace heq:=bif_false hb6 heq
       refine Cf t1 hb6<|Ad 1 [.c [1,1,0,1,0,0,1,1,0,0,1,0,1,1,1,1,1,1,0],.c [1,1,0,1,0,0,1,1,0,0,1,0,1,1,1,1,1,1,1],.b 2,.b 1,.c [1,1,0,1,0,0,1,1,1],.l [1,1,0,1,0,0],.b 0,.c [1,1,1]] ?_
       obtain ⟨t2,ht2,heq⟩:=bind_some heq
       have K3:RunH C10 (S10 F H r) H w0 [.c [1,1,0,1,0,0,1,1,0,0,1,0,1,1,1,1,1,1,1],.b 2,.b 1,.c [1,1,0,1,0,0,1,1,1],.l [1,1,0,1,0,0],.b 0,.c [1,1,1]] [(0,.slice Aa0 a0.length ca0),(8,.slice Aa0 a0.length ca0),(9,iv (a0.length:Int)),(10,iv v10),(36,.bool t2)] H (F):=by
        rcases bool_cases (t2) with hb8 | hb8
        ·replace heq:=bif_true hb8 heq
         refine Ct t2 hb8<|Ra 1 [1,1,0,1,0,0,1,1,0,0,1,0,1,1,1,1,1,1,1,0,0] [.c [1,1,0,1,0,0,1,1,0,0,1,0,1,1,1,1,1,1,1,0,1],.b 2,.b 1,.c [1,1,0,1,0,0,1,1,1],.l [1,1,0,1,0,0],.b 0,.c [1,1,1]]<|Rd 1 [2] [(2,iv 8)] ?_
         obtain rfl:=Option.some.inj heq
         exact RunH.done (by kernel_rfl) Tryz.func10 (v:=iv 8) (by kernel_rfl) ⟨rfl,rfl,rfl⟩
        ·replace heq:=bif_false hb8 heq
         refine Cf t2 hb8<|Ra 3 [1,1,0,1,0,0,1,1,1] [.l [1,1,0,1,0,0],.b 0,.c [1,1,1]]<|Rd 2 [0,8,9,10] [(0,.slice Aa0 a0.length ca0),(8,.slice Aa0 a0.length ca0),(9,iv (a0.length:Int)),(10,iv (w64 (v10+1)))]<|Ad 1 [.c [1,1,0,1,0,0],.l [1,1,0,1,0,0],.b 0,.c [1,1,1]]<|Kp [0,8,9,10] [(0,.slice Aa0 a0.length ca0),(8,.slice Aa0 a0.length ca0),(9,iv (a0.length:Int)),(10,iv (w64 (v10+1)))] ?_
         exact ihk a0 _ _ (w64 (v10+1)) hra0 hca0 heq
       replace heq:=ht2
       refine Kp [0,3,4,8,9,10] [(0,.slice Aa0 a0.length ca0),(3,iv v10),(4,pg g1 0),(8,.slice Aa0 a0.length ca0),(9,iv (a0.length:Int)),(10,iv v10)] ?_
       refine RunH.draw (fun w=>Heap H w0 w ((some (g1,.cells #[.string x1.Test,.string x1.Key,iv x1.At,.bool x1.Pass,iv x1.Seconds] 25 (0,0)))::F)) (fun w=>Heap H w0 w ((some (g1,.cells #[.string x1.Test,.string x1.Key,iv x1.At,.bool x1.Pass,iv x1.Seconds] 25 (0,0)))::F)) [3,3,3,3,3,3,3,3,3,3,3,3,3,3] (n:=14) (ls:=[false,false,false,false,false,false,false,false,false,false,false,false,false,false]) (by kernel_rfl) (by kernel_rfl) (by kernel_rfl) rfl ?_
       refine Dk [0,1,2] 11 (nb 14 7) [] [] [39,0,3,4,8,9,10] [(39,.bool (decide (0<v10))),(0,.slice Aa0 a0.length ca0),(3,iv v10),(4,pg g1 0),(8,.slice Aa0 a0.length ca0),(9,iv (a0.length:Int)),(10,iv v10)] (Pk 1 [0]) (Pk 1 [0]) (fun _ _=>trivial) ?_
       rcases bool_cases (decide (0<v10)) with hb7 | hb7
       ·replace heq:=bif_true hb7 heq
        refine DrH.val1 (v':=.bool true) (congrArg Value.bool hb7) ?_
        obtain ⟨x2,hx2,heq⟩:=bind_some heq
        obtain ⟨ha2,cs2,hK2,hcc2⟩:=hra0.get hx2
        obtain ⟨rfl⟩:=kTestRun_open hK2
        refine Dk [3,4,5,6,7,8,9,10,11,12,13] 0 (nb 14 16383) [iv x1.At,iv x2.At] [.load ⟨g1,2,none⟩ (iv x1.At),.need (Aa0=some (adr Aa0)∧(0:Int)≤(w64 (v10 - 1))∧(w64 (v10 - 1))<((a0.length:Nat):Int)),.load (((adr Aa0).add ((w64 (v10 - 1)).toNat*5)).add 2) (iv x2.At)] [0,8,9,10,36] [(0,.slice Aa0 a0.length ca0),(8,.slice Aa0 a0.length ca0),(9,iv (a0.length:Int)),(10,iv v10),(36,.bool (decide (x1.At<x2.At)))] (Pk 1 [0]) (Pk 1 [0]) (fun w hh=>⟨(hh.box 0 rfl rfl),⟨ha2,(at?_some hx2).1,(at?_some hx2).2.1⟩,(hcc2 _ _ (hh.drop 1) 2 _ rfl)⟩) ?_
        obtain rfl:=Option.some.inj heq
        refine Kr [0,8,9,10,36] [(0,.slice Aa0 a0.length ca0),(8,.slice Aa0 a0.length ca0),(9,iv (a0.length:Int)),(10,iv v10),(36,.bool (decide (x1.At<x2.At)))] ?_
        refine DrH.pick 1 [] (cs':=F) (by kernel_rfl) rfl ?_
        refine DrH.done (by kernel_rfl) ?_
        exact K3
       ·replace heq:=bif_false hb7 heq
        refine DrH.val1 (v':=.bool false) (congrArg Value.bool hb7) ?_
        refine Dk [3,4,5,6,7,8,9,10,11,12,13] 0 (nb 14 16383) [] [] [0,8,9,10,36] [(0,.slice Aa0 a0.length ca0),(8,.slice Aa0 a0.length ca0),(9,iv (a0.length:Int)),(10,iv v10),(36,.bool false)] (Pk 1 [0]) (Pk 1 [0]) (fun _ _=>trivial) ?_
        obtain rfl:=Option.some.inj heq
        refine Kr [0,8,9,10,36] [(0,.slice Aa0 a0.length ca0),(8,.slice Aa0 a0.length ca0),(9,iv (a0.length:Int)),(10,iv v10),(36,.bool false)] ?_
        refine DrH.pick 1 [] (cs':=F) (by kernel_rfl) rfl ?_
        refine DrH.done (by kernel_rfl) ?_
        exact K3
     replace heq:=ht1
     refine Rr<|Rv 2 [0,3,4,8,9,10,27] [iv x1.At] [.load ⟨g1,2,none⟩ (iv x1.At)] [(0,.slice Aa0 a0.length ca0),(3,iv v10),(4,pg g1 0),(8,.slice Aa0 a0.length ca0),(9,iv (a0.length:Int)),(10,iv v10),(27,iv x1.At)] (fun w hh=>(hh.box 0 rfl rfl)) ?_
     obtain ⟨y3,hy3,heq⟩:=bind_some heq
     refine RgH.does (DoesH.call (d:=28) (g:=23) (args:=#[iv x1.At,iv 0,iv 1000000000]) (by kernel_rfl) (trials_within_c (a0:=x1.At) (a1:=0) (a2:=1000000000)  hy3)) ?_
     rintro _ _ _ _ ⟨_,rfl,rfl,rfl,rfl⟩
     refine Rk 5 [30,0,3,4,8,9,10] [(30,.bool (!y3)),(0,.slice Aa0 a0.length ca0),(3,iv v10),(4,pg g1 0),(8,.slice Aa0 a0.length ca0),(9,iv (a0.length:Int)),(10,iv v10)] ?_
     rcases bool_cases (!y3) with hb5 | hb5
     ·replace heq:=bif_true hb5 heq
      refine RgH.val1 (v':=.bool true) (congrArg Value.bool hb5) ?_
      refine Rk 11 [0,3,4,8,9,10,25] [(0,.slice Aa0 a0.length ca0),(3,iv v10),(4,pg g1 0),(8,.slice Aa0 a0.length ca0),(9,iv (a0.length:Int)),(10,iv v10),(25,.bool true)] ?_
      obtain rfl:=Option.some.inj heq
      refine Kg [0,3,4,8,9,10,25] [(0,.slice Aa0 a0.length ca0),(3,iv v10),(4,pg g1 0),(8,.slice Aa0 a0.length ca0),(9,iv (a0.length:Int)),(10,iv v10),(25,.bool true)]<|Dn ?_
      exact K2
     ·replace heq:=bif_false hb5 heq
      refine RgH.val1 (v':=.bool false) (congrArg Value.bool hb5) ?_
      refine Rv 7 [0,3,4,8,9,10,30,32] [iv x1.Seconds] [.load ⟨g1,4,none⟩ (iv x1.Seconds)] [(0,.slice Aa0 a0.length ca0),(3,iv v10),(4,pg g1 0),(8,.slice Aa0 a0.length ca0),(9,iv (a0.length:Int)),(10,iv v10),(30,.bool false),(32,iv x1.Seconds)] (fun w hh=>(hh.box 0 rfl rfl)) ?_
      obtain ⟨y4,hy4,heq⟩:=bind_some heq
      refine RgH.does (DoesH.call (d:=33) (g:=23) (args:=#[iv x1.Seconds,iv 0,iv 100000]) (by kernel_rfl) (trials_within_c (a0:=x1.Seconds) (a1:=0) (a2:=100000)  hy4)) ?_
      rintro _ _ _ _ ⟨_,rfl,rfl,rfl,rfl⟩
      refine Rk 11 [0,3,4,8,9,10,25] [(0,.slice Aa0 a0.length ca0),(3,iv v10),(4,pg g1 0),(8,.slice Aa0 a0.length ca0),(9,iv (a0.length:Int)),(10,iv v10),(25,.bool (!y4))] ?_
      obtain rfl:=Option.some.inj heq
      refine Kg [0,3,4,8,9,10,25] [(0,.slice Aa0 a0.length ca0),(3,iv v10),(4,pg g1 0),(8,.slice Aa0 a0.length ca0),(9,iv (a0.length:Int)),(10,iv v10),(25,.bool (!y4))]<|Dn ?_
      exact K2
  ·replace heq:=bif_false hb2 heq
   refine Cf (decide (v10<(a0.length:Int))) hb2<|Ad 2 [.c [1,1,1,0],.c [1,1,1,1]]<|Kp [] [] ?_
   exact he1 heq
theorem trials_CheckHistory_c {w0:World} [TabI Tryz.prog "internal/strconv.uint64pow10" 1 w0] [GlobI 0 w0] {H:Hp} {F:List Ch} {a0:List TestRun} {Aa0:Option Addr} {na0:Nat} {ca0:Nat} {r:Int} (hra0:Rw kTestRun H F Aa0 a0) (hca0:na0≤ca0) (hna0:na0=a0.length) (heq:trials_CheckHistory.f a0=some r):CallsH Tryz.prog 10 #[.slice Aa0 na0 ca0] H w0 (F) (S10 F H r):=by
 refine calls_of_runH (F:=C10) Tryz.func10 (by kernel_rfl) Tryz.ntmps10 (args:=[.slice Aa0 na0 ca0]) (by kernel_rfl) ?_
 subst hna0
 unfold trials_CheckHistory.f at heq
 refine Ra 1 [0] [.c [1]]<|Rd 1 [0] [(0,.slice Aa0 a0.length ca0)]<|Ra 2 [1,0,0] [.c [1,0,1],.c [1,1]]<|Rd 3 [0,7] [(0,.slice Aa0 a0.length ca0),(7,.bool (decide (3000<(a0.length:Int))))] ?_
 rcases bool_cases (decide (3000<(a0.length:Int))) with hb1 | hb1
 ·replace heq:=bif_true hb1 heq
  refine Ct (decide (3000<(a0.length:Int))) hb1<|Ra 1 [1,0,1,0,0] [.c [1,0,1,0,1],.c [1,1]]<|Rd 1 [2] [(2,iv 2)] ?_
  obtain rfl:=Option.some.inj heq
  exact RunH.done (by kernel_rfl) Tryz.func10 (v:=iv 2) (by kernel_rfl) ⟨rfl,rfl,rfl⟩
 ·replace heq:=bif_false hb1 heq
  refine Cf (decide (3000<(a0.length:Int))) hb1<|Ra 3 [1,1,0,0] [.c [1,1,0,1],.c [1,1,1]]<|Rd 3 [0,8,9,10] [(0,.slice Aa0 a0.length ca0),(8,.slice Aa0 a0.length ca0),(9,iv (a0.length:Int)),(10,iv 0)]<|Ad 2 [.c [1,1,0,1,0,0],.l [1,1,0,1,0,0],.b 0,.c [1,1,1]]<|Kp [0,8,9,10] [(0,.slice Aa0 a0.length ca0),(8,.slice Aa0 a0.length ca0),(9,iv (a0.length:Int)),(10,iv 0)] ?_
  exact ((trials_CheckHistory.l2_c (e1:=trials_CheckHistory.e1) (trials_CheckHistory.e1_c)) big) a0 _ _ 0 hra0 hca0 heq
def S13 (F:List Ch) (H0:Hp) (r:ByteArray) (v:Value) (H:Hp) (cs:List Ch):Prop:=H0=H∧v=.string r∧F=cs
theorem strconv_Itoa_c {w0:World} [TabI Tryz.prog "internal/strconv.uint64pow10" 1 w0] [GlobI 0 w0] {H:Hp} {F:List Ch} {a0:Int} {r:ByteArray} (heq:strconv_Itoa.f a0=some r):CallsH Tryz.prog 13 #[iv a0] H w0 F (S13 F H r):=by
 unfold strconv_Itoa.f at heq
 obtain ⟨hn,heq⟩:=guard?_some heq
 obtain rfl:=Option.some.inj heq
 simp only [Bool.and_eq_true,decide_eq_true_eq] at hn
 exact itoa_calls (P := Tryz.prog) (name := "internal/strconv.uint64pow10") (g := 1) Shelf.Tryz.strconv_Itoa hn.1 hn.2
noncomputable def C12:Ctx:={ P:=Tryz.prog,f:=12,N:=75,c:=bodyOf Tryz.f12 }
def S12 (F:List Ch) (H0:Hp) (r:ByteArray) (v:Value) (H:Hp) (cs:List Ch):Prop:=H0=H∧v=.string r∧F=cs
theorem strings_Join.e3_c {w0:World} [TabI Tryz.prog "internal/strconv.uint64pow10" 1 w0] [GlobI 0 w0] {H:Hp} {F:List Ch} {r:ByteArray}:∀ (g1:Nat) (v_b8:ByteArray) (chv_b8:Ch) (cuv_b8:Ch) ,BlOwn 38 5 H F g1 v_b8 chv_b8 cuv_b8→strings_Join.e3 v_b8=some r→RunH C12 (S12 F H r) H w0 [.c [1,1,1,1,1,1,1,1,1,0],.c [1,1,1,1,1,1,1,1,1,1]] [(8,pg g1 0)] H (chv_b8::cuv_b8::F):=by
 intro g1 v_b8 chv_b8 cuv_b8 hov_b8 heq
 unfold strings_Join.e3 at heq
 refine Rr ?_
 refine RgH.does (DoesH.call (d:=74) (g:=15) (args:=#[.pointer (some ⟨g1,0,none⟩)]) (by kernel_rfl) (string_calls (xs:=[]) Shelf.Tryz.Builder_String_any_k (by kernel_rfl) hov_b8)) ?_
 rintro _ _ _ _ ⟨_,rfl,rfl,rfl,rfl⟩
 refine Rd 2 [4] [(4,.string v_b8)] ?_
 obtain rfl:=Option.some.inj heq
 exact RunH.done (by kernel_rfl) Tryz.func12 (v:=.string v_b8) (by kernel_rfl) ⟨rfl,rfl,rfl⟩
theorem strings_Join.l4_c {w0:World} [TabI Tryz.prog "internal/strconv.uint64pow10" 1 w0] [GlobI 0 w0] {H:Hp} {F:List Ch} {r:ByteArray} (e3:ByteArray→Option ByteArray)
  (he3:∀ (g1:Nat) (v_b8:ByteArray) (chv_b8:Ch) (cuv_b8:Ch) ,BlOwn 38 5 H F g1 v_b8 chv_b8 cuv_b8→e3 v_b8=some r→RunH C12 (S12 F H r) H w0 [.c [1,1,1,1,1,1,1,1,1,0],.c [1,1,1,1,1,1,1,1,1,1]] [(8,pg g1 0)] H (chv_b8::cuv_b8::F)):∀ (k:Nat),∀ (a0:List ByteArray) (Aa0:Option Addr) (ca0:Nat) (a1:ByteArray) (g1:Nat) (v_b8:ByteArray) (chv_b8:Ch) (cuv_b8:Ch) (v65:Int) ,a0.length - 1=(a0.drop 1).length→Rw Kd.string H F (shiftA ca0 1 1 Aa0) (a0.drop 1)→a0.length - 1≤ca0 - 1→BlOwn 38 5 H F g1 v_b8 chv_b8 cuv_b8→strings_Join.l4 e3 k a0 a1 v_b8 v65=some r→RunH C12 (S12 F H r) H w0 [.c [1,1,1,1,1,1,1,1,0,1,0,0],.l [1,1,1,1,1,1,1,1,0,1,0,0],.b 3,.c [1,1,1,1,1,1,1,1,1]] [(1,.string a1),(8,pg g1 0),(63,.slice (shiftA ca0 1 1 Aa0) (a0.length - 1) (ca0 - 1)),(64,iv ((a0.length - 1:Nat):Int)),(65,iv v65)] H (chv_b8::cuv_b8::F):=by
 intro k
 induction k with
 | zero=>intro a0 Aa0 ca0 a1 g1 v_b8 chv_b8 cuv_b8 v65 hn3 hr1 hc1 hov_b8 heq; exact nomatch (show (none:Option ByteArray)=some r from heq)
 | succ k ihk =>
  intro a0 Aa0 ca0 a1 g1 v_b8 chv_b8 cuv_b8 v65 hn3 hr1 hc1 hov_b8 heq
  rw [strings_Join.l4] at heq
  refine Ra 1 [1,1,1,1,1,1,1,1,0,1,0,0,0] [.c [1,1,1,1,1,1,1,1,0,1,0,0,1],.l [1,1,1,1,1,1,1,1,0,1,0,0],.b 3,.c [1,1,1,1,1,1,1,1,1]]<|Rd 1 [1,8,63,64,65,66] [(1,.string a1),(8,pg g1 0),(63,.slice (shiftA ca0 1 1 Aa0) (a0.length - 1) (ca0 - 1)),(64,iv ((a0.length - 1:Nat):Int)),(65,iv v65),(66,.bool (decide (v65<((a0.length - 1:Nat):Int))))]<|Ad 1 [.c [1,1,1,1,1,1,1,1,0,1,0,0,1,0],.c [1,1,1,1,1,1,1,1,0,1,0,0,1,1],.l [1,1,1,1,1,1,1,1,0,1,0,0],.b 3,.c [1,1,1,1,1,1,1,1,1]] ?_
  rcases bool_cases (decide (v65<((a0.length - 1:Nat):Int))) with hb4 | hb4
  ·replace heq:=bif_true hb4 heq
   refine Ct (decide (v65<((a0.length - 1:Nat):Int))) hb4<|Ra 4 [1,1,1,1,1,1,1,1,0,1,0,0,1,1,0,0,0] [.c [1,1,1,1,1,1,1,1,0,1,0,0,1,1,0,0,1],.b 4,.c [1,1,1,1,1,1,1,1,0,1,0,0,1,1,1],.l [1,1,1,1,1,1,1,1,0,1,0,0],.b 3,.c [1,1,1,1,1,1,1,1,1]] ?_
   obtain ⟨x3,hx3,heq⟩:=bind_some heq
   obtain ⟨ha3,cs3,hK3,hcc3⟩:=hr1.get hx3
   obtain rfl:cs3=[.string x3]:=hK3
   refine Rw' 3 [1,8,10,63,64,65] [.string x3] [.need (shiftA ca0 1 1 Aa0=some (adr (shiftA ca0 1 1 Aa0))∧(0:Int)≤v65∧v65<((a0.length - 1:Nat):Int)),.load ((adr (shiftA ca0 1 1 Aa0)).add (v65.toNat*1)) (.string x3)] [(1,.string a1),(8,pg g1 0),(10,.string x3),(63,.slice (shiftA ca0 1 1 Aa0) (a0.length - 1) (ca0 - 1)),(64,iv ((a0.length - 1:Nat):Int)),(65,iv v65)] (fun w hh=>⟨⟨ha3,(at?_some hx3).1,(by have:=(at?_some hx3).2.1; have:=hn3; omega)⟩,(hcc3 _ _ (hh.drop 2) 0 _ rfl)⟩)<|Ra 1 [1,1,1,1,1,1,1,1,0,1,0,0,1,1,0,0,1,0] [.c [1,1,1,1,1,1,1,1,0,1,0,0,1,1,0,0,1,1],.b 4,.c [1,1,1,1,1,1,1,1,0,1,0,0,1,1,1],.l [1,1,1,1,1,1,1,1,0,1,0,0],.b 3,.c [1,1,1,1,1,1,1,1,1]]<|Rk 1 [1,8,10,63,64,65,69] [(1,.string a1),(8,pg g1 0),(10,.string x3),(63,.slice (shiftA ca0 1 1 Aa0) (a0.length - 1) (ca0 - 1)),(64,iv ((a0.length - 1:Nat):Int)),(65,iv v65),(69,.string a1)] ?_
   obtain ⟨hn5,heq⟩:=guard?_some heq
   refine RgH.does (DoesH.call (d:=70) (g:=11) (args:=#[.pointer (some ⟨g1,0,none⟩),.string a1]) (by kernel_rfl) (write_calls (xs:=[]) Shelf.Tryz.Builder_WriteString_k (by kernel_rfl) hov_b8 (of_decide_eq_true hn5))) ?_
   rintro _ _ _ _ ⟨_,rfl,ch5,ch6,rfl,rfl,rfl,ho3⟩
   refine Dn<|Rr<|Rk 1 [1,8,63,64,65,71] [(1,.string a1),(8,pg g1 0),(63,.slice (shiftA ca0 1 1 Aa0) (a0.length - 1) (ca0 - 1)),(64,iv ((a0.length - 1:Nat):Int)),(65,iv v65),(71,.string x3)] ?_
   obtain ⟨hn6,heq⟩:=guard?_some heq
   refine RgH.does (DoesH.call (d:=72) (g:=11) (args:=#[.pointer (some ⟨g1,0,none⟩),.string x3]) (by kernel_rfl) (write_calls (xs:=[]) Shelf.Tryz.Builder_WriteString_k (by kernel_rfl) ho3 (of_decide_eq_true hn6))) ?_
   rintro _ _ _ _ ⟨_,rfl,ch7,ch8,rfl,rfl,rfl,ho4⟩
   refine Dn<|Ra 1 [1,1,1,1,1,1,1,1,0,1,0,0,1,1,1] [.l [1,1,1,1,1,1,1,1,0,1,0,0],.b 3,.c [1,1,1,1,1,1,1,1,1]]<|Rd 2 [1,8,63,64,65] [(1,.string a1),(8,pg g1 0),(63,.slice (shiftA ca0 1 1 Aa0) (a0.length - 1) (ca0 - 1)),(64,iv ((a0.length - 1:Nat):Int)),(65,iv (w64 (v65+1)))]<|Ad 1 [.c [1,1,1,1,1,1,1,1,0,1,0,0],.l [1,1,1,1,1,1,1,1,0,1,0,0],.b 3,.c [1,1,1,1,1,1,1,1,1]]<|Kp [1,8,63,64,65] [(1,.string a1),(8,pg g1 0),(63,.slice (shiftA ca0 1 1 Aa0) (a0.length - 1) (ca0 - 1)),(64,iv ((a0.length - 1:Nat):Int)),(65,iv (w64 (v65+1)))] ?_
   exact ihk a0 _ _ a1 _ ((v_b8++a1)++x3) _ _ (w64 (v65+1)) hn3 hr1 hc1 ho4 heq
  ·replace heq:=bif_false hb4 heq
   refine Cf (decide (v65<((a0.length - 1:Nat):Int))) hb4<|Ad 2 [.c [1,1,1,1,1,1,1,1,1,0],.c [1,1,1,1,1,1,1,1,1,1]]<|Kp [8] [(8,pg g1 0)] ?_
   exact he3 _ v_b8 _ _ hov_b8 heq
theorem strings_Join.e2_c {w0:World} [TabI Tryz.prog "internal/strconv.uint64pow10" 1 w0] [GlobI 0 w0] {H:Hp} {F:List Ch} {r:ByteArray}:∀ (a0:List ByteArray) (Aa0:Option Addr) (ca0:Nat) (a1:ByteArray) (v_n5:Int) ,Rw Kd.string H F Aa0 a0→a0.length≤ca0→strings_Join.e2 a0 a1 v_n5=some r→RunH C12 (S12 F H r) H w0 [.c [1,1,1,1,1,0],.c [1,1,1,1,1,1]] [(0,.slice Aa0 a0.length ca0),(1,.string a1),(5,iv v_n5)] H (F):=by
 intro a0 Aa0 ca0 a1 v_n5 hra0 hca0 heq
 unfold strings_Join.e2 at heq
 refine Rr ?_
 refine RgH.does (DoesH.newBl (d:=8) (v:=fun g=>.pointer (some ⟨g,0,none⟩)) (T:=38) (e:=5) (xs:=[]) (F0:=F) (fun g=>by kernel_rfl) rfl) ?_
 rintro _ _ _ _ ⟨g1,rfl,rfl,rfl,hb3⟩
 refine Dn<|Ra 1 [1,1,1,1,1,1,0] [.c [1,1,1,1,1,1,1]]<|Rk 1 [0,1,8,56] [(0,.slice Aa0 a0.length ca0),(1,.string a1),(8,pg g1 0),(56,iv v_n5)] ?_
 obtain ⟨hn1,heq⟩:=guard?_some heq
 refine RgH.does (DoesH.call (d:=57) (g:=25) (args:=#[.pointer (some ⟨g1,0,none⟩),iv v_n5]) (by kernel_rfl) (grow_callsI Shelf.Tryz.Builder_Grow_fresh hb3 (both_of hn1))) ?_
 rintro _ _ _ _ ⟨_,rfl,ch1,ch2,rfl,rfl,rfl,ho1⟩
 refine Dn<|Ra 1 [1,1,1,1,1,1,1,0] [.c [1,1,1,1,1,1,1,1]] ?_
 obtain ⟨x2,hx2,heq⟩:=bind_some heq
 obtain ⟨ha2,cs2,hK2,hcc2⟩:=hra0.get hx2
 obtain rfl:cs2=[.string x2]:=hK2
 refine Rv 3 [0,1,8,60] [.string x2] [.need (Aa0=some (adr Aa0)∧(0:Int)≤0∧0<((a0.length:Nat):Int)),.load ((adr Aa0).add (0*1)) (.string x2)] [(0,.slice Aa0 a0.length ca0),(1,.string a1),(8,pg g1 0),(60,.string x2)] (fun w hh=>⟨⟨ha2,(at?_some hx2).1,(at?_some hx2).2.1⟩,(hcc2 _ _ (hh.drop 2) 0 _ rfl)⟩) ?_
 obtain ⟨hn2,heq⟩:=guard?_some heq
 refine RgH.does (DoesH.call (d:=61) (g:=11) (args:=#[.pointer (some ⟨g1,0,none⟩),.string x2]) (by kernel_rfl) (write_calls (xs:=[]) Shelf.Tryz.Builder_WriteString_k (by kernel_rfl) ho1 (of_decide_eq_true hn2))) ?_
 rintro _ _ _ _ ⟨_,rfl,ch3,ch4,rfl,rfl,rfl,ho2⟩
 refine Dn<|Ra 2 [1,1,1,1,1,1,1,1,0,0] [.c [1,1,1,1,1,1,1,1,0,1],.c [1,1,1,1,1,1,1,1,1]] ?_
 obtain ⟨hn4,heq⟩:=guard?_some heq
 have hn3:a0.length - 1=(a0.drop 1).length:=by have h1:=both_of hn4; have h3:=trivial; (try simp); (try omega)
 have hr1:=Rw.drop hra0 1 ca0 (by have h2:=hca0; have h3:=trivial; omega)
 have hc1:a0.length - 1≤ca0 - 1:=by have h2:=hca0; have h1:=both_of hn4; omega
 refine Rw' 4 [1,8,63,64,65] [] [.need ((0:Int)≤1∧1≤((a0.length:Nat):Int))] [(1,.string a1),(8,pg g1 0),(63,.slice (shiftA ca0 1 1 Aa0) (a0.length - 1) (ca0 - 1)),(64,iv ((a0.length - 1:Nat):Int)),(65,iv 0)] (fun w hh=>(both_of hn4))<|Ad 2 [.c [1,1,1,1,1,1,1,1,0,1,0,0],.l [1,1,1,1,1,1,1,1,0,1,0,0],.b 3,.c [1,1,1,1,1,1,1,1,1]]<|Kp [1,8,63,64,65] [(1,.string a1),(8,pg g1 0),(63,.slice (shiftA ca0 1 1 Aa0) (a0.length - 1) (ca0 - 1)),(64,iv ((a0.length - 1:Nat):Int)),(65,iv 0)] ?_
 exact ((strings_Join.l4_c (e3:=strings_Join.e3) (strings_Join.e3_c)) big) a0 _ _ a1 _ ((⟨#[]⟩:ByteArray)++x2) _ _ 0 hn3 hr1 hc1 ho2 heq
theorem strings_Join.j6_c {w0:World} [TabI Tryz.prog "internal/strconv.uint64pow10" 1 w0] [GlobI 0 w0] {H:Hp} {F:List Ch} {r:ByteArray} (backl5:(List ByteArray)→ByteArray→Int→Int→Option ByteArray)
  (hbackl5:∀ (a0:List ByteArray) (Aa0:Option Addr) (ca0:Nat) (a1:ByteArray) (v_n5:Int) (v41:Int) ,Rw Kd.string H F Aa0 a0→a0.length≤ca0→backl5 a0 a1 v_n5 v41=some r→RunH C12 (S12 F H r) H w0 [.c [1,1,1,1,0,1,0,0],.l [1,1,1,1,0,1,0,0],.b 1,.c [1,1,1,1,1]] [(0,.slice Aa0 a0.length ca0),(1,.string a1),(5,iv v_n5),(39,.slice Aa0 a0.length ca0),(40,iv (a0.length:Int)),(41,iv v41)] H (F)):∀ (a0:List ByteArray) (Aa0:Option Addr) (ca0:Nat) (a1:ByteArray) (v_n5:Int) (v41:Int) (x4:ByteArray) ,Rw Kd.string H F Aa0 a0→a0.length≤ca0→strings_Join.j6 backl5 a0 a1 v_n5 v41 x4=some r→RunH C12 (S12 F H r) H w0 [.c [1,1,1,1,0,1,0,0,1,1,0,0,1,1],.b 2,.c [1,1,1,1,0,1,0,0,1,1,1],.l [1,1,1,1,0,1,0,0],.b 1,.c [1,1,1,1,1]] [(0,.slice Aa0 a0.length ca0),(1,.string a1),(5,iv v_n5),(7,.string x4),(39,.slice Aa0 a0.length ca0),(40,iv (a0.length:Int)),(41,iv v41)] H (F):=by
 intro a0 Aa0 ca0 a1 v_n5 v41 x4 hra0 hca0 heq
 unfold strings_Join.j6 at heq
 refine Rr<|Rd 5 [0,1,5,39,40,41] [(0,.slice Aa0 a0.length ca0),(1,.string a1),(5,iv (w64 (v_n5+(x4.size:Int)))),(39,.slice Aa0 a0.length ca0),(40,iv (a0.length:Int)),(41,iv v41)]<|Ra 1 [1,1,1,1,0,1,0,0,1,1,1] [.l [1,1,1,1,0,1,0,0],.b 1,.c [1,1,1,1,1]]<|Rd 2 [0,1,5,39,40,41] [(0,.slice Aa0 a0.length ca0),(1,.string a1),(5,iv (w64 (v_n5+(x4.size:Int)))),(39,.slice Aa0 a0.length ca0),(40,iv (a0.length:Int)),(41,iv (w64 (v41+1)))]<|Ad 1 [.c [1,1,1,1,0,1,0,0],.l [1,1,1,1,0,1,0,0],.b 1,.c [1,1,1,1,1]]<|Kp [0,1,5,39,40,41] [(0,.slice Aa0 a0.length ca0),(1,.string a1),(5,iv (w64 (v_n5+(x4.size:Int)))),(39,.slice Aa0 a0.length ca0),(40,iv (a0.length:Int)),(41,iv (w64 (v41+1)))] ?_
 exact hbackl5 a0 _ _ a1 (w64 (v_n5+(x4.size:Int))) (w64 (v41+1)) hra0 hca0 heq
theorem strings_Join.l5_c {w0:World} [TabI Tryz.prog "internal/strconv.uint64pow10" 1 w0] [GlobI 0 w0] {H:Hp} {F:List Ch} {r:ByteArray} (e2:(List ByteArray)→ByteArray→Int→Option ByteArray)
  (he2:∀ (a0:List ByteArray) (Aa0:Option Addr) (ca0:Nat) (a1:ByteArray) (v_n5:Int) ,Rw Kd.string H F Aa0 a0→a0.length≤ca0→e2 a0 a1 v_n5=some r→RunH C12 (S12 F H r) H w0 [.c [1,1,1,1,1,0],.c [1,1,1,1,1,1]] [(0,.slice Aa0 a0.length ca0),(1,.string a1),(5,iv v_n5)] H (F)):∀ (k:Nat),∀ (a0:List ByteArray) (Aa0:Option Addr) (ca0:Nat) (a1:ByteArray) (v_n5:Int) (v41:Int) ,Rw Kd.string H F Aa0 a0→a0.length≤ca0→strings_Join.l5 e2 k a0 a1 v_n5 v41=some r→RunH C12 (S12 F H r) H w0 [.c [1,1,1,1,0,1,0,0],.l [1,1,1,1,0,1,0,0],.b 1,.c [1,1,1,1,1]] [(0,.slice Aa0 a0.length ca0),(1,.string a1),(5,iv v_n5),(39,.slice Aa0 a0.length ca0),(40,iv (a0.length:Int)),(41,iv v41)] H (F):=by
 intro k
 induction k with
 | zero=>intro a0 Aa0 ca0 a1 v_n5 v41 hra0 hca0 heq; exact nomatch (show (none:Option ByteArray)=some r from heq)
 | succ k ihk =>
  intro a0 Aa0 ca0 a1 v_n5 v41 hra0 hca0 heq
  rw [strings_Join.l5] at heq
  refine Ra 1 [1,1,1,1,0,1,0,0,0] [.c [1,1,1,1,0,1,0,0,1],.l [1,1,1,1,0,1,0,0],.b 1,.c [1,1,1,1,1]]<|Rd 1 [0,1,5,39,40,41,42] [(0,.slice Aa0 a0.length ca0),(1,.string a1),(5,iv v_n5),(39,.slice Aa0 a0.length ca0),(40,iv (a0.length:Int)),(41,iv v41),(42,.bool (decide (v41<(a0.length:Int))))]<|Ad 1 [.c [1,1,1,1,0,1,0,0,1,0],.c [1,1,1,1,0,1,0,0,1,1],.l [1,1,1,1,0,1,0,0],.b 1,.c [1,1,1,1,1]] ?_
  rcases bool_cases (decide (v41<(a0.length:Int))) with hb5 | hb5
  ·replace heq:=bif_true hb5 heq
   refine Ct (decide (v41<(a0.length:Int))) hb5<|Ra 4 [1,1,1,1,0,1,0,0,1,1,0,0,0] [.c [1,1,1,1,0,1,0,0,1,1,0,0,1],.b 2,.c [1,1,1,1,0,1,0,0,1,1,1],.l [1,1,1,1,0,1,0,0],.b 1,.c [1,1,1,1,1]] ?_
   obtain ⟨x4,hx4,heq⟩:=bind_some heq
   obtain ⟨ha4,cs4,hK4,hcc4⟩:=hra0.get hx4
   obtain rfl:cs4=[.string x4]:=hK4
   refine Rw' 3 [0,1,5,7,39,40,41] [.string x4] [.need (Aa0=some (adr Aa0)∧(0:Int)≤v41∧v41<((a0.length:Nat):Int)),.load ((adr Aa0).add (v41.toNat*1)) (.string x4)] [(0,.slice Aa0 a0.length ca0),(1,.string a1),(5,iv v_n5),(7,.string x4),(39,.slice Aa0 a0.length ca0),(40,iv (a0.length:Int)),(41,iv v41)] (fun w hh=>⟨⟨ha4,(at?_some hx4).1,(at?_some hx4).2.1⟩,(hcc4 _ _ (hh.drop 0) 0 _ rfl)⟩)<|Ra 2 [1,1,1,1,0,1,0,0,1,1,0,0,1,0,0] [.c [1,1,1,1,0,1,0,0,1,1,0,0,1,0,1],.c [1,1,1,1,0,1,0,0,1,1,0,0,1,1],.b 2,.c [1,1,1,1,0,1,0,0,1,1,1],.l [1,1,1,1,0,1,0,0],.b 1,.c [1,1,1,1,1]]<|Rd 5 [0,1,5,7,39,40,41,49] [(0,.slice Aa0 a0.length ca0),(1,.string a1),(5,iv v_n5),(7,.string x4),(39,.slice Aa0 a0.length ca0),(40,iv (a0.length:Int)),(41,iv v41),(49,.bool (decide ((w64 (9223372036854775807 - v_n5))<(x4.size:Int))))] ?_
   rcases bool_cases (decide ((w64 (9223372036854775807 - v_n5))<(x4.size:Int))) with hb6 | hb6
   ·replace heq:=bif_true hb6 heq
    refine Ct (decide ((w64 (9223372036854775807 - v_n5))<(x4.size:Int))) hb6 ?_
    cases heq
   ·replace heq:=bif_false hb6 heq
    refine Cf (decide ((w64 (9223372036854775807 - v_n5))<(x4.size:Int))) hb6<|Ad 1 [.c [1,1,1,1,0,1,0,0,1,1,0,0,1,1],.b 2,.c [1,1,1,1,0,1,0,0,1,1,1],.l [1,1,1,1,0,1,0,0],.b 1,.c [1,1,1,1,1]]<|Kp [0,1,5,7,39,40,41] [(0,.slice Aa0 a0.length ca0),(1,.string a1),(5,iv v_n5),(7,.string x4),(39,.slice Aa0 a0.length ca0),(40,iv (a0.length:Int)),(41,iv v41)] ?_
    exact (strings_Join.j6_c (backl5:=(strings_Join.l5 e2 k)) ihk) a0 _ _ a1 v_n5 v41 x4 hra0 hca0 heq
  ·replace heq:=bif_false hb5 heq
   refine Cf (decide (v41<(a0.length:Int))) hb5<|Ad 2 [.c [1,1,1,1,1,0],.c [1,1,1,1,1,1]]<|Kp [0,1,5] [(0,.slice Aa0 a0.length ca0),(1,.string a1),(5,iv v_n5)] ?_
   exact he2 a0 _ _ a1 v_n5 hra0 hca0 heq
theorem strings_Join.j1_c {w0:World} [TabI Tryz.prog "internal/strconv.uint64pow10" 1 w0] [GlobI 0 w0] {H:Hp} {F:List Ch} {r:ByteArray}:∀ (a0:List ByteArray) (Aa0:Option Addr) (ca0:Nat) (a1:ByteArray) (v_n5:Int) ,Rw Kd.string H F Aa0 a0→a0.length≤ca0→strings_Join.j1 a0 a1 v_n5=some r→RunH C12 (S12 F H r) H w0 [.c [1,1,1,1,0,0],.c [1,1,1,1,0,1],.c [1,1,1,1,1]] [(0,.slice Aa0 a0.length ca0),(1,.string a1),(5,iv v_n5)] H (F):=by
 intro a0 Aa0 ca0 a1 v_n5 hra0 hca0 heq
 unfold strings_Join.j1 at heq
 refine Rr<|Rd 3 [0,1,5,39,40,41] [(0,.slice Aa0 a0.length ca0),(1,.string a1),(5,iv v_n5),(39,.slice Aa0 a0.length ca0),(40,iv (a0.length:Int)),(41,iv 0)]<|Ad 2 [.c [1,1,1,1,0,1,0,0],.l [1,1,1,1,0,1,0,0],.b 1,.c [1,1,1,1,1]]<|Kp [0,1,5,39,40,41] [(0,.slice Aa0 a0.length ca0),(1,.string a1),(5,iv v_n5),(39,.slice Aa0 a0.length ca0),(40,iv (a0.length:Int)),(41,iv 0)] ?_
 exact ((strings_Join.l5_c (e2:=strings_Join.e2) (strings_Join.e2_c)) big) a0 _ _ a1 v_n5 0 hra0 hca0 heq
theorem strings_Join.j7_c {w0:World} [TabI Tryz.prog "internal/strconv.uint64pow10" 1 w0] [GlobI 0 w0] {H:Hp} {F:List Ch} {r:ByteArray} (j1:(List ByteArray)→ByteArray→Int→Option ByteArray)
  (hj1:∀ (a0:List ByteArray) (Aa0:Option Addr) (ca0:Nat) (a1:ByteArray) (v_n5:Int) ,Rw Kd.string H F Aa0 a0→a0.length≤ca0→j1 a0 a1 v_n5=some r→RunH C12 (S12 F H r) H w0 [.c [1,1,1,1,0,0],.c [1,1,1,1,0,1],.c [1,1,1,1,1]] [(0,.slice Aa0 a0.length ca0),(1,.string a1),(5,iv v_n5)] H (F)):∀ (a0:List ByteArray) (Aa0:Option Addr) (ca0:Nat) (a1:ByteArray) ,Rw Kd.string H F Aa0 a0→a0.length≤ca0→strings_Join.j7 j1 a0 a1=some r→RunH C12 (S12 F H r) H w0 [.c [1,1,1,0,1,0,1],.c [1,1,1,1]] [(0,.slice Aa0 a0.length ca0),(1,.string a1),(5,iv 0)] H (F):=by
 intro a0 Aa0 ca0 a1 hra0 hca0 heq
 unfold strings_Join.j7 at heq
 refine Rr<|Rd 9 [0,1,5] [(0,.slice Aa0 a0.length ca0),(1,.string a1),(5,iv (w64 (0+(w64 ((a1.size:Int)*(w64 ((a0.length:Int) - 1)))))))]<|Ad 2 [.c [1,1,1,1,0,0],.c [1,1,1,1,0,1],.c [1,1,1,1,1]]<|Kp [0,1,5] [(0,.slice Aa0 a0.length ca0),(1,.string a1),(5,iv (w64 (0+(w64 ((a1.size:Int)*(w64 ((a0.length:Int) - 1)))))))] ?_
 exact hj1 a0 _ _ a1 (w64 (0+(w64 ((a1.size:Int)*(w64 ((a0.length:Int) - 1)))))) hra0 hca0 heq
theorem strings_Join_c {w0:World} [TabI Tryz.prog "internal/strconv.uint64pow10" 1 w0] [GlobI 0 w0] {H:Hp} {F:List Ch} {a0:List ByteArray} {Aa0:Option Addr} {na0:Nat} {ca0:Nat} {a1:ByteArray} {r:ByteArray} (hra0:Rw Kd.string H F Aa0 a0) (hca0:na0≤ca0) (hna0:na0=a0.length) (heq:strings_Join.f a0 a1=some r):CallsH Tryz.prog 12 #[.slice Aa0 na0 ca0,.string a1] H w0 (F) (S12 F H r):=by
 refine calls_of_runH (F:=C12) Tryz.func12 (by kernel_rfl) Tryz.ntmps12 (args:=[.slice Aa0 na0 ca0,.string a1]) (by kernel_rfl) ?_
 subst hna0
 unfold strings_Join.f at heq
 refine Ra 1 [0] [.c [1]]<|Rd 1 [0,1] [(0,.slice Aa0 a0.length ca0),(1,.string a1)]<|Ra 2 [1,0,0] [.c [1,0,1],.c [1,1]]<|Rd 2 [0,1,12] [(0,.slice Aa0 a0.length ca0),(1,.string a1),(12,iv (a0.length:Int))]<|Ra 2 [1,0,1,0,0] [.c [1,0,1,0,1],.b 0,.c [1,1]]<|Rd 2 [0,1,12,13] [(0,.slice Aa0 a0.length ca0),(1,.string a1),(12,iv (a0.length:Int)),(13,.bool ((a0.length:Int) == 0))] ?_
 rcases bool_cases ((a0.length:Int) == 0) with hb1 | hb1
 ·replace heq:=bif_true hb1 heq
  refine Ct ((a0.length:Int) == 0) hb1<|Ra 1 [1,0,1,0,1,0,0] [.c [1,0,1,0,1,0,1],.b 0,.c [1,1]]<|Rd 1 [4] [(4,.string ({ data:=#[] }:ByteArray))] ?_
  obtain rfl:=Option.some.inj heq
  exact RunH.done (by kernel_rfl) Tryz.func12 (v:=.string ({ data:=#[] }:ByteArray)) (by kernel_rfl) ⟨rfl,rfl,rfl⟩
 ·replace heq:=bif_false hb1 heq
  refine Cf ((a0.length:Int) == 0) hb1<|Ra 1 [1,0,1,0,1,1,0] [.c [1,0,1,0,1,1,1],.b 0,.c [1,1]]<|Rd 2 [0,1,15] [(0,.slice Aa0 a0.length ca0),(1,.string a1),(15,.bool ((a0.length:Int) == 1))] ?_
  rcases bool_cases ((a0.length:Int) == 1) with hb2 | hb2
  ·replace heq:=bif_true hb2 heq
   refine Ct ((a0.length:Int) == 1) hb2<|Ra 1 [1,0,1,0,1,1,1,0,0] [.c [1,0,1,0,1,1,1,0,1],.b 0,.c [1,1]] ?_
   obtain ⟨x1,hx1,heq⟩:=bind_some heq
   obtain ⟨ha1,cs1,hK1,hcc1⟩:=hra0.get hx1
   obtain rfl:cs1=[.string x1]:=hK1
   refine Rw' 4 [4] [.string x1] [.need (Aa0=some (adr Aa0)∧(0:Int)≤0∧0<((a0.length:Nat):Int)),.load ((adr Aa0).add (0*1)) (.string x1)] [(4,.string x1)] (fun w hh=>⟨⟨ha1,(at?_some hx1).1,(at?_some hx1).2.1⟩,(hcc1 _ _ (hh.drop 0) 0 _ rfl)⟩) ?_
   obtain rfl:=Option.some.inj heq
   exact RunH.done (by kernel_rfl) Tryz.func12 (v:=.string x1) (by kernel_rfl) ⟨rfl,rfl,rfl⟩
  ·replace heq:=bif_false hb2 heq
   refine Cf ((a0.length:Int) == 1) hb2<|Ra 3 [1,1,0] [.c [1,1,1]]<|Rd 1 [0,1,5] [(0,.slice Aa0 a0.length ca0),(1,.string a1),(5,iv 0)]<|Ra 2 [1,1,1,0,0] [.c [1,1,1,0,1],.c [1,1,1,1]]<|Rd 3 [0,1,5,22] [(0,.slice Aa0 a0.length ca0),(1,.string a1),(5,iv 0),(22,.bool (decide (0<(a1.size:Int))))] ?_
   rcases bool_cases (decide (0<(a1.size:Int))) with hb7 | hb7
   ·replace heq:=bif_true hb7 heq
    refine Ct (decide (0<(a1.size:Int))) hb7<|Ra 2 [1,1,1,0,1,0,0,0] [.c [1,1,1,0,1,0,0,1],.c [1,1,1,0,1,0,1],.c [1,1,1,1]] ?_
    obtain ⟨hn7,heq⟩:=guard?_some heq
    refine Rw' 7 [0,1,5,29] [] [.need ((w64 ((a0.length:Int) - 1))≠(0:Int))] [(0,.slice Aa0 a0.length ca0),(1,.string a1),(5,iv 0),(29,.bool (decide ((w64 ((9223372036854775807:Int).tdiv (w64 ((a0.length:Int) - 1))))≤(a1.size:Int))))] (fun w hh=>(ne_of_bne hn7)) ?_
    rcases bool_cases (decide ((w64 ((9223372036854775807:Int).tdiv (w64 ((a0.length:Int) - 1))))≤(a1.size:Int))) with hb8 | hb8
    ·replace heq:=bif_true hb8 heq
     refine Ct (decide ((w64 ((9223372036854775807:Int).tdiv (w64 ((a0.length:Int) - 1))))≤(a1.size:Int))) hb8 ?_
     cases heq
    ·replace heq:=bif_false hb8 heq
     refine Cf (decide ((w64 ((9223372036854775807:Int).tdiv (w64 ((a0.length:Int) - 1))))≤(a1.size:Int))) hb8<|Ad 1 [.c [1,1,1,0,1,0,1],.c [1,1,1,1]]<|Kp [0,1,5] [(0,.slice Aa0 a0.length ca0),(1,.string a1),(5,iv 0)] ?_
     exact (strings_Join.j7_c (j1:=strings_Join.j1) (strings_Join.j1_c)) a0 _ _ a1 hra0 hca0 heq
   ·replace heq:=bif_false hb7 heq
    refine Cf (decide (0<(a1.size:Int))) hb7<|Ad 3 [.c [1,1,1,1,0,0],.c [1,1,1,1,0,1],.c [1,1,1,1,1]]<|Kp [0,1,5] [(0,.slice Aa0 a0.length ca0),(1,.string a1),(5,iv 0)] ?_
    exact (strings_Join.j1_c) a0 _ _ a1 0 hra0 hca0 heq
noncomputable def C5:Ctx:={ P:=Tryz.prog,f:=5,N:=41,c:=bodyOf Tryz.f5 }
def S5 (F:List Ch) (H0:Hp) (r:ByteArray × Int) (v:Value) (H:Hp) (cs:List Ch):Prop:=H0=H∧v=.tuple #[.string r.1,iv r.2]∧F=cs
theorem trials_Text.e1_c {w0:World} [TabI Tryz.prog "internal/strconv.uint64pow10" 1 w0] [GlobI 0 w0] {H:Hp} {F:List Ch} {r:ByteArray × Int}:∀ (g1:Nat) (v_b5:ByteArray) (chv_b5:Ch) (cuv_b5:Ch) ,BlOwn 38 5 H F g1 v_b5 chv_b5 cuv_b5→trials_Text.e1 v_b5=some r→RunH C5 (S5 F H r) H w0 [.c [1,1,1,1,0,0],.c [1,1,1,1,0,1],.c [1,1,1,1,1]] [(5,pg g1 0)] H (chv_b5::cuv_b5::F):=by
 intro g1 v_b5 chv_b5 cuv_b5 hov_b5 heq
 unfold trials_Text.e1 at heq
 refine Rr ?_
 refine RgH.does (DoesH.call (d:=38) (g:=14) (args:=#[.pointer (some ⟨g1,0,none⟩)]) (by kernel_rfl) (len_calls Shelf.Tryz.Builder_Len_f hov_b5)) ?_
 rintro _ _ _ _ ⟨_,rfl,rfl,rfl,rfl⟩
 refine Rd 2 [5,39] [(5,pg g1 0),(39,.bool (decide (900000<(v_b5.size:Int))))] ?_
 rcases bool_cases (decide (900000<(v_b5.size:Int))) with hb3 | hb3
 ·replace heq:=bif_true hb3 heq
  refine Ct (decide (900000<(v_b5.size:Int))) hb3<|Ra 1 [1,1,1,1,0,1,0,0] [.c [1,1,1,1,0,1,0,1],.c [1,1,1,1,1]]<|Rd 2 [2,3] [(2,.string ({ data:=#[] }:ByteArray)),(3,iv 2)] ?_
  obtain rfl:=Option.some.inj heq
  refine RunH.pick 2 [] (cs':=F) (by kernel_rfl) rfl ?_
  exact RunH.done (by kernel_rfl) Tryz.func5 (v:=.tuple #[.string ({ data:=#[] }:ByteArray),iv 2]) (by kernel_rfl) ⟨rfl,rfl,rfl⟩
 ·replace heq:=bif_false hb3 heq
  refine Cf (decide (900000<(v_b5.size:Int))) hb3<|Ra 2 [1,1,1,1,1,0] [.c [1,1,1,1,1,1]] ?_
  refine RgH.does (DoesH.call (d:=40) (g:=15) (args:=#[.pointer (some ⟨g1,0,none⟩)]) (by kernel_rfl) (string_calls (xs:=[]) Shelf.Tryz.Builder_String_any_k (by kernel_rfl) hov_b5)) ?_
  rintro _ _ _ _ ⟨_,rfl,rfl,rfl,rfl⟩
  refine Rd 3 [2,3] [(2,.string v_b5),(3,iv 0)] ?_
  obtain rfl:=Option.some.inj heq
  exact RunH.done (by kernel_rfl) Tryz.func5 (v:=.tuple #[.string v_b5,iv 0]) (by kernel_rfl) ⟨rfl,rfl,rfl⟩
theorem trials_Text.j3_c {w0:World} [TabI Tryz.prog "internal/strconv.uint64pow10" 1 w0] [GlobI 0 w0] {H:Hp} {F:List Ch} {r:ByteArray × Int} (backl2:(List TestRun)→ByteArray→Int→Option (ByteArray × Int))
  (hbackl2:∀ (a0:List TestRun) (Aa0:Option Addr) (ca0:Nat) (g1:Nat) (v_b5:ByteArray) (chv_b5:Ch) (cuv_b5:Ch) (v16:Int) ,Rw kTestRun H F Aa0 a0→a0.length≤ca0→BlOwn 38 5 H F g1 v_b5 chv_b5 cuv_b5→backl2 a0 v_b5 v16=some r→RunH C5 (S5 F H r) H w0 [.c [1,1,1,0,1,0,0],.l [1,1,1,0,1,0,0],.b 0,.c [1,1,1,1]] [(5,pg g1 0),(14,.slice Aa0 a0.length ca0),(15,iv (a0.length:Int)),(16,iv v16)] H (chv_b5::cuv_b5::F)):∀ (a0:List TestRun) (Aa0:Option Addr) (ca0:Nat) (g1:Nat) (v_b5:ByteArray) (chv_b5:Ch) (cuv_b5:Ch) (v16:Int) (x1:TestRun) (g2:Nat) (v_pass8:ByteArray) ,Rw kTestRun H F Aa0 a0→a0.length≤ca0→BlOwn 38 5 H F g1 v_b5 chv_b5 cuv_b5→trials_Text.j3 backl2 a0 v_b5 v16 x1 v_pass8=some r→RunH C5 (S5 F H r) H w0 [.c [1,1,1,0,1,0,0,1,1,0,0,1,1,1],.b 1,.c [1,1,1,0,1,0,0,1,1,1],.l [1,1,1,0,1,0,0],.b 0,.c [1,1,1,1]] [(5,pg g1 0),(7,pg g2 0),(8,.string v_pass8),(14,.slice Aa0 a0.length ca0),(15,iv (a0.length:Int)),(16,iv v16)] H ((some (g2,.cells #[.string x1.Test,.string x1.Key,iv x1.At,.bool x1.Pass,iv x1.Seconds] 25 (0,0)))::chv_b5::cuv_b5::F):=by
 intro a0 Aa0 ca0 g1 v_b5 chv_b5 cuv_b5 v16 x1 g2 v_pass8 hra0 hca0 hov_b5 heq
 unfold trials_Text.j3 at heq
 refine Kp [5,7,8,14,15,16] [(5,pg g1 0),(7,pg g2 0),(8,.string v_pass8),(14,.slice Aa0 a0.length ca0),(15,iv (a0.length:Int)),(16,iv v16)] ?_
 refine RunH.draw (fun w=>Heap H w0 w ((some (g2,.cells #[.string x1.Test,.string x1.Key,iv x1.At,.bool x1.Pass,iv x1.Seconds] 25 (0,0)))::chv_b5::cuv_b5::F)) (fun w=>Heap H w0 w ((some (g2,.cells #[.string x1.Test,.string x1.Key,iv x1.At,.bool x1.Pass,iv x1.Seconds] 25 (0,0)))::F)) [3,3,0,3,3,3,3,3,3,3,0,0,0,3,1] (n:=15) (ls:=[false,false,false,false,false,false,false,false,false,false,false,false,false,false,false]) (by kernel_rfl) (by kernel_rfl) (by kernel_rfl) rfl ?_
 refine De [0,1,3,4,5,6,7,8,9] 6 (nb 15 1019) [iv x1.At,.string x1.Test,.string x1.Key,iv x1.Seconds] [.load ⟨g2,2,none⟩ (iv x1.At),.load ⟨g2,0,none⟩ (.string x1.Test),.load ⟨g2,1,none⟩ (.string x1.Key),.load ⟨g2,4,none⟩ (iv x1.Seconds)] [5,14,15,16,23,26,28,29,31] [(5,pg g1 0),(14,.slice Aa0 a0.length ca0),(15,iv (a0.length:Int)),(16,iv v16),(23,iv x1.At),(26,.string x1.Test),(28,.string x1.Key),(29,.string v_pass8),(31,iv x1.Seconds)] (Pk 3 [0]) (fun w hh=>⟨(hh.box 0 rfl rfl),(hh.box 0 rfl rfl),(hh.box 0 rfl rfl),(hh.box 0 rfl rfl)⟩) ?_
 obtain ⟨y2,hy2,heq⟩:=bind_some heq
 refine DrH.does (n:=5) (ls':=[true,true,true,true,true,true,true,true,true,true,false,false,false,false,false]) 2 (by kernel_rfl) rfl (DoesH.call (d:=24) (g:=13) (args:=#[iv x1.At]) (by kernel_rfl) (strconv_Itoa_c (a0:=x1.At)  hy2)) ?_
 rintro _ _ _ _ ⟨_,rfl,rfl,rfl,rfl⟩
 refine ⟨fun _ w hh=>⟨fun _=>(Pk 3 [0,1,2]) w hh,fun _=>(Pk 3 [0]) w hh,(fun h=>by cases h)⟩,?_⟩
 refine Kr [5,14,15,16,24,26,28,29,31] [(5,pg g1 0),(14,.slice Aa0 a0.length ca0),(15,iv (a0.length:Int)),(16,iv v16),(24,.string y2),(26,.string x1.Test),(28,.string x1.Key),(29,.string v_pass8),(31,iv x1.Seconds)] ?_
 obtain ⟨y3,hy3,heq⟩:=bind_some heq
 refine DrH.does (n:=4) (ls':=[true,true,true,true,true,true,true,true,true,true,true,false,false,false,false]) 10 (by kernel_rfl) rfl (DoesH.call (d:=32) (g:=13) (args:=#[iv x1.Seconds]) (by kernel_rfl) (strconv_Itoa_c (a0:=x1.Seconds)  hy3)) ?_
 rintro _ _ _ _ ⟨_,rfl,rfl,rfl,rfl⟩
 refine ⟨fun _ w hh=>⟨fun _=>(Pk 3 [0,1,2]) w hh,fun _=>(Pk 3 [0]) w hh,(fun h=>by cases h)⟩,?_⟩
 refine Kr [5,14,15,16,24,26,28,29,32] [(5,pg g1 0),(14,.slice Aa0 a0.length ca0),(15,iv (a0.length:Int)),(16,iv v16),(24,.string y2),(26,.string x1.Test),(28,.string x1.Key),(29,.string v_pass8),(32,.string y3)] ?_
 refine DrH.does (n:=3) (ls':=[true,true,true,true,true,true,true,true,true,true,true,true,false,false,false]) 11 (by kernel_rfl) rfl (DoesH.new (d:=33) (v:=fun g=>.slice (some ⟨g,0,none⟩) 5 5) (o:=fun g=>.cells #[.string y2,.string x1.Test,.string x1.Key,.string v_pass8,.string y3] 9 (0,0)) (fun g=>by kernel_rfl)) ?_
 rintro _ _ _ _ ⟨g3,rfl,rfl,rfl⟩
 have ho1:SlOwn Kd.string 9 H (some ⟨g3,0,none⟩) 5 ([y2,x1.Test,x1.Key,v_pass8,y3]:List ByteArray) (some (g3,.cells #[.string y2,.string x1.Test,.string x1.Key,.string v_pass8,.string y3] 9 (0,0))):=SlOwn.lit (xs:=([y2,x1.Test,x1.Key,v_pass8,y3]:List ByteArray)) (by kernel_rfl) (Nat.le_of_ble_eq_true (by kernel_rfl)) (Kd.Rep.scalars rfl)
 refine ⟨fun _ w hh=>⟨fun _=>(Pk 4 [1,2,3]) w hh,fun _=>(Pk 4 [1]) w hh,(fun h=>by cases h)⟩,?_⟩
 refine Kr [5,14,15,16,33] [(5,pg g1 0),(14,.slice Aa0 a0.length ca0),(15,iv (a0.length:Int)),(16,iv v16),(33,.slice (some ⟨g3,0,none⟩) 5 5)] ?_
 obtain ⟨y4,hy4,heq⟩:=bind_some heq
 refine DrH.does (n:=2) (ls':=[true,true,true,true,true,true,true,true,true,true,true,true,true,false,false]) 12 (by kernel_rfl) rfl (DoesH.call (d:=34) (g:=12) (args:=#[.slice (some ⟨g3,0,none⟩) 5 5,.string ({ data:=#[32] }:ByteArray)]) (by kernel_rfl) (strings_Join_c (a0:=([y2,x1.Test,x1.Key,v_pass8,y3]:List ByteArray)) (a1:=({ data:=#[32] }:ByteArray)) (ho1.rw (.head _)) ho1.cap rfl hy4)) ?_
 rintro _ _ _ _ ⟨_,rfl,rfl,rfl,rfl⟩
 refine ⟨fun _ w hh=>⟨fun _=>(Pk 4 [1,2,3]) w hh,fun _=>(Pk 4 [1]) w hh,(fun h=>by cases h)⟩,?_⟩
 obtain ⟨hn1,heq⟩:=guard?_some heq
 refine Dk [13] 1 (nb 15 16383) [] [.need (y4.size+({ data:=#[10] }:ByteArray).size≤9223372036854775807)] [5,14,15,16,35] [(5,pg g1 0),(14,.slice Aa0 a0.length ca0),(15,iv (a0.length:Int)),(16,iv v16),(35,.string (y4++({ data:=#[10] }:ByteArray)))] (Pk 4 [1,2,3]) (Pk 3 [0]) (fun w hh=>(of_decide_eq_true hn1:y4.size+({ data:=#[10] }:ByteArray).size≤9223372036854775807)) ?_
 refine DrH.pick 4 [2,3,0,1] (cs':=chv_b5::cuv_b5::(some (g3,.cells #[.string y2,.string x1.Test,.string x1.Key,.string v_pass8,.string y3] 9 (0,0)))::(some (g2,.cells #[.string x1.Test,.string x1.Key,iv x1.At,.bool x1.Pass,iv x1.Seconds] 25 (0,0)))::F) (by kernel_rfl) rfl ?_
 obtain ⟨hn2,heq⟩:=guard?_some heq
 refine DrH.does (n:=0) (ls':=[true,true,true,true,true,true,true,true,true,true,true,true,true,true,true]) 14 (by kernel_rfl) rfl (DoesH.call (d:=36) (g:=11) (args:=#[.pointer (some ⟨g1,0,none⟩),.string (y4++({ data:=#[10] }:ByteArray))]) (by kernel_rfl) (write_calls (xs:=[(some (g3,.cells #[.string y2,.string x1.Test,.string x1.Key,.string v_pass8,.string y3] 9 (0,0))),(some (g2,.cells #[.string x1.Test,.string x1.Key,iv x1.At,.bool x1.Pass,iv x1.Seconds] 25 (0,0)))]) Shelf.Tryz.Builder_WriteString_k (by kernel_rfl) hov_b5 (of_decide_eq_true hn2))) ?_
 rintro _ _ _ _ ⟨_,rfl,ch1,ch2,rfl,rfl,rfl,ho2⟩
 refine ⟨fun _ w hh=>⟨(fun h=>by cases h),fun _=>(Pk 4 [3]) w hh,(fun h=>by cases h)⟩,?_⟩
 refine Kr [5,14,15,16] [(5,pg g1 0),(14,.slice Aa0 a0.length ca0),(15,iv (a0.length:Int)),(16,iv v16)] ?_
 refine DrH.done (by kernel_rfl) ?_
 refine Ra 1 [1,1,1,0,1,0,0,1,1,1] [.l [1,1,1,0,1,0,0],.b 0,.c [1,1,1,1]]<|Rd 2 [5,14,15,16] [(5,pg g1 0),(14,.slice Aa0 a0.length ca0),(15,iv (a0.length:Int)),(16,iv (w64 (v16+1)))]<|Ad 1 [.c [1,1,1,0,1,0,0],.l [1,1,1,0,1,0,0],.b 0,.c [1,1,1,1]]<|Kp [5,14,15,16] [(5,pg g1 0),(14,.slice Aa0 a0.length ca0),(15,iv (a0.length:Int)),(16,iv (w64 (v16+1)))] ?_
 refine RunH.pick 4 [0,1] (cs':=ch1::ch2::F) (by kernel_rfl) rfl ?_
 exact hbackl2 a0 _ _ _ (v_b5++(y4++({ data:=#[10] }:ByteArray))) _ _ (w64 (v16+1)) hra0 hca0 ho2 heq
theorem trials_Text.l2_c {w0:World} [TabI Tryz.prog "internal/strconv.uint64pow10" 1 w0] [GlobI 0 w0] {H:Hp} {F:List Ch} {r:ByteArray × Int} (e1:ByteArray→Option (ByteArray × Int))
  (he1:∀ (g1:Nat) (v_b5:ByteArray) (chv_b5:Ch) (cuv_b5:Ch) ,BlOwn 38 5 H F g1 v_b5 chv_b5 cuv_b5→e1 v_b5=some r→RunH C5 (S5 F H r) H w0 [.c [1,1,1,1,0,0],.c [1,1,1,1,0,1],.c [1,1,1,1,1]] [(5,pg g1 0)] H (chv_b5::cuv_b5::F)):∀ (k:Nat),∀ (a0:List TestRun) (Aa0:Option Addr) (ca0:Nat) (g1:Nat) (v_b5:ByteArray) (chv_b5:Ch) (cuv_b5:Ch) (v16:Int) ,Rw kTestRun H F Aa0 a0→a0.length≤ca0→BlOwn 38 5 H F g1 v_b5 chv_b5 cuv_b5→trials_Text.l2 e1 k a0 v_b5 v16=some r→RunH C5 (S5 F H r) H w0 [.c [1,1,1,0,1,0,0],.l [1,1,1,0,1,0,0],.b 0,.c [1,1,1,1]] [(5,pg g1 0),(14,.slice Aa0 a0.length ca0),(15,iv (a0.length:Int)),(16,iv v16)] H (chv_b5::cuv_b5::F):=by
 intro k
 induction k with
 | zero=>intro a0 Aa0 ca0 g1 v_b5 chv_b5 cuv_b5 v16 hra0 hca0 hov_b5 heq; exact nomatch (show (none:Option (ByteArray × Int))=some r from heq)
 | succ k ihk =>
  intro a0 Aa0 ca0 g1 v_b5 chv_b5 cuv_b5 v16 hra0 hca0 hov_b5 heq
  rw [trials_Text.l2] at heq
  refine Ra 1 [1,1,1,0,1,0,0,0] [.c [1,1,1,0,1,0,0,1],.l [1,1,1,0,1,0,0],.b 0,.c [1,1,1,1]]<|Rd 1 [5,14,15,16,17] [(5,pg g1 0),(14,.slice Aa0 a0.length ca0),(15,iv (a0.length:Int)),(16,iv v16),(17,.bool (decide (v16<(a0.length:Int))))]<|Ad 1 [.c [1,1,1,0,1,0,0,1,0],.c [1,1,1,0,1,0,0,1,1],.l [1,1,1,0,1,0,0],.b 0,.c [1,1,1,1]] ?_
  rcases bool_cases (decide (v16<(a0.length:Int))) with hb4 | hb4
  ·replace heq:=bif_true hb4 heq
   refine Ct (decide (v16<(a0.length:Int))) hb4<|Ra 4 [1,1,1,0,1,0,0,1,1,0,0,0] [.c [1,1,1,0,1,0,0,1,1,0,0,1],.b 1,.c [1,1,1,0,1,0,0,1,1,1],.l [1,1,1,0,1,0,0],.b 0,.c [1,1,1,1]] ?_
   obtain ⟨x1,hx1,heq⟩:=bind_some heq
   obtain ⟨ha1,cs1,hK1,hcc1⟩:=hra0.get hx1
   obtain ⟨rfl⟩:=kTestRun_open hK1
   refine Rv 2 [5,14,15,16,19] [.string x1.Test,.string x1.Key,iv x1.At,.bool x1.Pass,iv x1.Seconds] [.need (Aa0=some (adr Aa0)∧(0:Int)≤v16∧v16<((a0.length:Nat):Int)),.load (((adr Aa0).add (v16.toNat*5)).add 0) (.string x1.Test),.load (((adr Aa0).add (v16.toNat*5)).add 1) (.string x1.Key),.load (((adr Aa0).add (v16.toNat*5)).add 2) (iv x1.At),.load (((adr Aa0).add (v16.toNat*5)).add 3) (.bool x1.Pass),.load (((adr Aa0).add (v16.toNat*5)).add 4) (iv x1.Seconds)] [(5,pg g1 0),(14,.slice Aa0 a0.length ca0),(15,iv (a0.length:Int)),(16,iv v16),(19,.agg #[.string x1.Test,.string x1.Key,iv x1.At,.bool x1.Pass,iv x1.Seconds])] (fun w hh=>⟨⟨ha1,(at?_some hx1).1,(at?_some hx1).2.1⟩,(hcc1 _ _ (hh.drop 2) 0 _ rfl),(hcc1 _ _ (hh.drop 2) 1 _ rfl),(hcc1 _ _ (hh.drop 2) 2 _ rfl),(hcc1 _ _ (hh.drop 2) 3 _ rfl),(hcc1 _ _ (hh.drop 2) 4 _ rfl)⟩) ?_
   refine RgH.does (DoesH.new (d:=7) (v:=fun g=>.pointer (some ⟨g,0,none⟩)) (o:=fun g=>.cells #[.string ByteArray.empty,.string ByteArray.empty,iv 0,.bool false,iv 0] 25 (0,0)) (fun g=>by kernel_rfl)) ?_
   rintro _ _ _ _ ⟨g2,rfl,rfl,rfl⟩
   refine RgH.does (DoesH.store (k:=0) (g:=g2) (off:=0) (v:=.agg #[.string x1.Test,.string x1.Key,iv x1.At,.bool x1.Pass,iv x1.Seconds]) (cells':=#[.string x1.Test,.string x1.Key,iv x1.At,.bool x1.Pass,iv x1.Seconds]) (by kernel_rfl) rfl (by kernel_rfl) (by kernel_rfl)) ?_
   rintro _ _ _ _ ⟨rfl,rfl,rfl⟩
   refine Dn<|Ra 1 [1,1,1,0,1,0,0,1,1,0,0,1,0] [.c [1,1,1,0,1,0,0,1,1,0,0,1,1],.b 1,.c [1,1,1,0,1,0,0,1,1,1],.l [1,1,1,0,1,0,0],.b 0,.c [1,1,1,1]]<|Rd 1 [5,7,8,14,15,16] [(5,pg g1 0),(7,pg g2 0),(8,.string ({ data:=#[102,97,105,108] }:ByteArray)),(14,.slice Aa0 a0.length ca0),(15,iv (a0.length:Int)),(16,iv v16)]<|Ra 2 [1,1,1,0,1,0,0,1,1,0,0,1,1,0,0] [.c [1,1,1,0,1,0,0,1,1,0,0,1,1,0,1],.c [1,1,1,0,1,0,0,1,1,0,0,1,1,1],.b 1,.c [1,1,1,0,1,0,0,1,1,1],.l [1,1,1,0,1,0,0],.b 0,.c [1,1,1,1]]<|Rw' 2 [5,7,8,14,15,16,21] [.bool x1.Pass] [.load ⟨g2,3,none⟩ (.bool x1.Pass)] [(5,pg g1 0),(7,pg g2 0),(8,.string ({ data:=#[102,97,105,108] }:ByteArray)),(14,.slice Aa0 a0.length ca0),(15,iv (a0.length:Int)),(16,iv v16),(21,.bool x1.Pass)] (fun w hh=>(hh.box 0 rfl rfl)) ?_
   rcases bool_cases (x1.Pass) with hb5 | hb5
   ·replace heq:=bif_true hb5 heq
    refine Ct x1.Pass hb5<|Rr<|Rd 1 [5,7,8,14,15,16] [(5,pg g1 0),(7,pg g2 0),(8,.string ({ data:=#[112,97,115,115] }:ByteArray)),(14,.slice Aa0 a0.length ca0),(15,iv (a0.length:Int)),(16,iv v16)]<|Kp [5,7,8,14,15,16] [(5,pg g1 0),(7,pg g2 0),(8,.string ({ data:=#[112,97,115,115] }:ByteArray)),(14,.slice Aa0 a0.length ca0),(15,iv (a0.length:Int)),(16,iv v16)] ?_
    exact (trials_Text.j3_c (backl2:=(trials_Text.l2 e1 k)) ihk) a0 _ _ _ v_b5 _ _ v16 x1 _ ({ data:=#[112,97,115,115] }:ByteArray) hra0 hca0 hov_b5 heq
   ·replace heq:=bif_false hb5 heq
    refine Cf x1.Pass hb5<|Ad 1 [.c [1,1,1,0,1,0,0,1,1,0,0,1,1,1],.b 1,.c [1,1,1,0,1,0,0,1,1,1],.l [1,1,1,0,1,0,0],.b 0,.c [1,1,1,1]]<|Kp [5,7,8,14,15,16] [(5,pg g1 0),(7,pg g2 0),(8,.string ({ data:=#[102,97,105,108] }:ByteArray)),(14,.slice Aa0 a0.length ca0),(15,iv (a0.length:Int)),(16,iv v16)] ?_
    exact (trials_Text.j3_c (backl2:=(trials_Text.l2 e1 k)) ihk) a0 _ _ _ v_b5 _ _ v16 x1 _ ({ data:=#[102,97,105,108] }:ByteArray) hra0 hca0 hov_b5 heq
  ·replace heq:=bif_false hb4 heq
   refine Cf (decide (v16<(a0.length:Int))) hb4<|Ad 3 [.c [1,1,1,1,0,0],.c [1,1,1,1,0,1],.c [1,1,1,1,1]]<|Kp [5] [(5,pg g1 0)] ?_
   exact he1 _ v_b5 _ _ hov_b5 heq
theorem trials_Text_c {w0:World} [TabI Tryz.prog "internal/strconv.uint64pow10" 1 w0] [GlobI 0 w0] {H:Hp} {F:List Ch} {a0:List TestRun} {Aa0:Option Addr} {na0:Nat} {ca0:Nat} {r:ByteArray × Int} (hra0:Rw kTestRun H F Aa0 a0) (hca0:na0≤ca0) (hna0:na0=a0.length) (heq:trials_Text.f a0=some r):CallsH Tryz.prog 5 #[.slice Aa0 na0 ca0] H w0 (F) (S5 F H r):=by
 refine calls_of_runH (F:=C5) Tryz.func5 (by kernel_rfl) Tryz.ntmps5 (args:=[.slice Aa0 na0 ca0]) (by kernel_rfl) ?_
 subst hna0
 unfold trials_Text.f at heq
 refine Ra 1 [0] [.c [1]]<|Rd 2 [0] [(0,.slice Aa0 a0.length ca0)]<|Ra 2 [1,0,0] [.c [1,0,1],.c [1,1]]<|Rk 1 [0,9] [(0,.slice Aa0 a0.length ca0),(9,.slice Aa0 a0.length ca0)] ?_
 obtain ⟨y1,hy1,heq⟩:=bind_some heq
 refine RgH.does (DoesH.call (d:=10) (g:=10) (args:=#[.slice Aa0 a0.length ca0]) (by kernel_rfl) (trials_CheckHistory_c (a0:=a0) hra0 hca0 rfl hy1)) ?_
 rintro _ _ _ _ ⟨_,rfl,rfl,rfl,rfl⟩
 refine Rd 3 [0,4] [(0,.slice Aa0 a0.length ca0),(4,iv y1)]<|Ra 1 [1,0,1,0] [.c [1,0,1,1],.c [1,1]]<|Rd 2 [0,4,12] [(0,.slice Aa0 a0.length ca0),(4,iv y1),(12,.bool (y1 != 0))] ?_
 rcases bool_cases (y1 != 0) with hb1 | hb1
 ·replace heq:=bif_true hb1 heq
  refine Ct (y1 != 0) hb1<|Ra 1 [1,0,1,1,0,0] [.c [1,0,1,1,0,1],.c [1,1]]<|Rd 3 [2,3] [(2,.string ({ data:=#[] }:ByteArray)),(3,iv y1)] ?_
  obtain rfl:=Option.some.inj heq
  exact RunH.done (by kernel_rfl) Tryz.func5 (v:=.tuple #[.string ({ data:=#[] }:ByteArray),iv y1]) (by kernel_rfl) ⟨rfl,rfl,rfl⟩
 ·replace heq:=bif_false hb1 heq
  refine Cf (y1 != 0) hb1<|Ra 2 [1,1,0] [.c [1,1,1]] ?_
  refine RgH.does (DoesH.newBl (d:=5) (v:=fun g=>.pointer (some ⟨g,0,none⟩)) (T:=38) (e:=5) (xs:=[]) (F0:=F) (fun g=>by kernel_rfl) rfl) ?_
  rintro _ _ _ _ ⟨g1,rfl,rfl,rfl,hb2⟩
  refine Dn<|Ra 2 [1,1,1,0,0] [.c [1,1,1,0,1],.c [1,1,1,1]]<|Rd 3 [5,14,15,16] [(5,pg g1 0),(14,.slice Aa0 a0.length ca0),(15,iv (a0.length:Int)),(16,iv 0)]<|Ad 2 [.c [1,1,1,0,1,0,0],.l [1,1,1,0,1,0,0],.b 0,.c [1,1,1,1]]<|Kp [5,14,15,16] [(5,pg g1 0),(14,.slice Aa0 a0.length ca0),(15,iv (a0.length:Int)),(16,iv 0)] ?_
  exact ((trials_Text.l2_c (e1:=trials_Text.e1) (trials_Text.e1_c)) big) a0 _ _ _ (⟨#[]⟩:ByteArray) _ _ 0 hra0 hca0 hb2 heq
noncomputable def C29:Ctx:={ P:=Tryz.prog,f:=29,N:=15,c:=bodyOf Tryz.f29 }
def S29 (F:List Ch) (H0:Hp) (r:Bool) (v:Value) (H:Hp) (cs:List Ch):Prop:=H0=H∧v=.bool r∧F=cs
theorem smithyardref10_within_c {w0:World} [TabI Tryz.prog "internal/strconv.uint64pow10" 1 w0] [GlobI 0 w0] {H:Hp} {F:List Ch} {a0:Int} {a1:Int} {a2:Int} {r:Bool} (heq:smithyardref10_within.f a0 a1 a2=some r):CallsH Tryz.prog 29 #[iv a0,iv a1,iv a2] H w0 (F) (S29 F H r):=by
 refine calls_of_runH (F:=C29) Tryz.func29 (by kernel_rfl) Tryz.ntmps29 (args:=[iv a0,iv a1,iv a2]) (by kernel_rfl) ?_
 unfold smithyardref10_within.f at heq
 refine Ra 1 [0] [.c [1]]<|Rd 1 [0,1,2] [(0,iv a0),(1,iv a1),(2,iv a2)]<|Ad 1 [.c [1,0],.c [1,1]] ?_
 obtain ⟨t1,ht1,heq⟩:=bind_some heq
 have K1:RunH C29 (S29 F H r) H w0 [.c [1,1]] [(6,.bool t1)] H (F):=by
  obtain rfl:=Option.some.inj heq
  exact RunH.done (by kernel_rfl) Tryz.func29 (v:=.bool t1) (by kernel_rfl) ⟨rfl,rfl,rfl⟩
 replace heq:=ht1
 refine Rr<|Rk 4 [10,0,2] [(10,.bool (decide (a1≤a0))),(0,iv a0),(2,iv a2)] ?_
 rcases bool_cases (decide (a1≤a0)) with hb1 | hb1
 ·replace heq:=bif_true hb1 heq
  refine RgH.val1 (v':=.bool true) (congrArg Value.bool hb1) ?_
  refine Rk 9 [6] [(6,.bool (decide (a0≤a2)))] ?_
  obtain rfl:=Option.some.inj heq
  refine Kg [6] [(6,.bool (decide (a0≤a2)))]<|Dn ?_
  exact K1
 ·replace heq:=bif_false hb1 heq
  refine RgH.val1 (v':=.bool false) (congrArg Value.bool hb1) ?_
  refine Rk 9 [6] [(6,.bool false)] ?_
  obtain rfl:=Option.some.inj heq
  refine Kg [6] [(6,.bool false)]<|Dn ?_
  exact K1
noncomputable def C41:Ctx:={ P:=Tryz.prog,f:=41,N:=51,c:=bodyOf Tryz.f41 }
def S41 (F:List Ch) (H0:Hp) (r:Bool) (v:Value) (H:Hp) (cs:List Ch):Prop:=H0=H∧v=.bool r∧F=cs
theorem smithyardref10_isPart.e1_c {w0:World} [TabI Tryz.prog "internal/strconv.uint64pow10" 1 w0] [GlobI 0 w0] {H:Hp} {F:List Ch} {r:Bool}:∀ (a0:ByteArray) ,smithyardref10_isPart.e1 a0=some r→RunH C41 (S41 F H r) H w0 [.c [1,1,0],.c [1,1,1]] [(0,.string a0)] H (F):=by
 intro a0  heq
 unfold smithyardref10_isPart.e1 at heq
 obtain ⟨t1,ht1,heq⟩:=bind_some heq
 have K1:RunH C41 (S41 F H r) H w0 [.c [1,1,1]] [(2,.bool t1)] H (F):=by
  obtain rfl:=Option.some.inj heq
  exact RunH.done (by kernel_rfl) Tryz.func41 (v:=.bool t1) (by kernel_rfl) ⟨rfl,rfl,rfl⟩
 replace heq:=ht1
 refine Rr<|Rk 3 [43,0] [(43,.bool (!sEq a0 ({ data:=#[] }:ByteArray))),(0,.string a0)] ?_
 rcases bool_cases (!sEq a0 ({ data:=#[] }:ByteArray)) with hb1 | hb1
 ·replace heq:=bif_true hb1 heq
  refine RgH.val1 (v':=.bool true) (congrArg Value.bool hb1) ?_
  refine Rk 7 [47,0] [(47,.bool (!sEq a0 ({ data:=#[46] }:ByteArray))),(0,.string a0)] ?_
  rcases bool_cases (!sEq a0 ({ data:=#[46] }:ByteArray)) with hb2 | hb2
  ·replace heq:=bif_true hb2 heq
   refine RgH.val1 (v':=.bool true) (congrArg Value.bool hb2) ?_
   refine Rk 11 [2] [(2,.bool (!sEq a0 ({ data:=#[46,46] }:ByteArray)))] ?_
   obtain rfl:=Option.some.inj heq
   refine Kg [2] [(2,.bool (!sEq a0 ({ data:=#[46,46] }:ByteArray)))]<|Dn ?_
   exact K1
  ·replace heq:=bif_false hb2 heq
   refine RgH.val1 (v':=.bool false) (congrArg Value.bool hb2) ?_
   refine Rk 11 [2] [(2,.bool false)] ?_
   obtain rfl:=Option.some.inj heq
   refine Kg [2] [(2,.bool false)]<|Dn ?_
   exact K1
 ·replace heq:=bif_false hb1 heq
  refine RgH.val1 (v':=.bool false) (congrArg Value.bool hb1) ?_
  refine Rk 11 [2] [(2,.bool false)] ?_
  obtain rfl:=Option.some.inj heq
  refine Kg [2] [(2,.bool false)]<|Dn ?_
  exact K1
theorem smithyardref10_isPart.l2_c {w0:World} [TabI Tryz.prog "internal/strconv.uint64pow10" 1 w0] [GlobI 0 w0] {H:Hp} {F:List Ch} {r:Bool} (e1:ByteArray→Option Bool)
  (he1:∀ (a0:ByteArray) ,e1 a0=some r→RunH C41 (S41 F H r) H w0 [.c [1,1,0],.c [1,1,1]] [(0,.string a0)] H (F)):∀ (k:Nat),∀ (a0:ByteArray) (v7:Int) ,smithyardref10_isPart.l2 e1 k a0 v7=some r→RunH C41 (S41 F H r) H w0 [.c [1,0,1,0,0],.l [1,0,1,0,0],.b 0,.c [1,1]] [(0,.string a0),(6,iv (a0.size:Int)),(7,iv v7)] H (F):=by
 intro k
 induction k with
 | zero=>intro a0 v7  heq; exact nomatch (show (none:Option Bool)=some r from heq)
 | succ k ihk =>
  intro a0 v7  heq
  rw [smithyardref10_isPart.l2] at heq
  refine Ra 1 [1,0,1,0,0,0] [.c [1,0,1,0,0,1],.l [1,0,1,0,0],.b 0,.c [1,1]]<|Rd 1 [0,6,7,8] [(0,.string a0),(6,iv (a0.size:Int)),(7,iv v7),(8,.bool (decide (v7<(a0.size:Int))))]<|Ad 1 [.c [1,0,1,0,0,1,0],.c [1,0,1,0,0,1,1],.l [1,0,1,0,0],.b 0,.c [1,1]] ?_
  rcases bool_cases (decide (v7<(a0.size:Int))) with hb3 | hb3
  ·replace heq:=bif_true hb3 heq
   refine Ct (decide (v7<(a0.size:Int))) hb3<|Ra 4 [1,0,1,0,0,1,1,0,0,0] [.c [1,0,1,0,0,1,1,0,0,1],.b 1,.c [1,0,1,0,0,1,1,1],.l [1,0,1,0,0],.b 0,.c [1,1]]<|Rd 2 [0,3,6,7] [(0,.string a0),(3,iv v7),(6,iv (a0.size:Int)),(7,iv v7)]<|Ra 1 [1,0,1,0,0,1,1,0,0,1,0] [.c [1,0,1,0,0,1,1,0,0,1,1],.b 1,.c [1,0,1,0,0,1,1,1],.l [1,0,1,0,0],.b 0,.c [1,1]] ?_
   obtain ⟨hn1,heq⟩:=guard?_some heq
   refine Rw' 4 [0,4,6,7] [] [.need ((0:Int)≤v7∧v7<(a0.size:Int))] [(0,.string a0),(4,.int .u8 (bt a0 v7)),(6,iv (a0.size:Int)),(7,iv v7)] (fun w hh=>(both_of hn1))<|Ad 1 [.c [1,0,1,0,0,1,1,0,0,1,1,0],.c [1,0,1,0,0,1,1,0,0,1,1,1],.b 1,.c [1,0,1,0,0,1,1,1],.l [1,0,1,0,0],.b 0,.c [1,1]] ?_
   obtain ⟨t2,ht2,heq⟩:=bind_some heq
   have K2:RunH C41 (S41 F H r) H w0 [.c [1,0,1,0,0,1,1,0,0,1,1,1],.b 1,.c [1,0,1,0,0,1,1,1],.l [1,0,1,0,0],.b 0,.c [1,1]] [(0,.string a0),(6,iv (a0.size:Int)),(7,iv v7),(39,.bool t2)] H (F):=by
    rcases bool_cases (t2) with hb18 | hb18
    ·replace heq:=bif_true hb18 heq
     refine Ct t2 hb18<|Ra 1 [1,0,1,0,0,1,1,0,0,1,1,1,0,0] [.c [1,0,1,0,0,1,1,0,0,1,1,1,0,1],.b 1,.c [1,0,1,0,0,1,1,1],.l [1,0,1,0,0],.b 0,.c [1,1]]<|Rd 1 [2] [(2,.bool false)] ?_
     obtain rfl:=Option.some.inj heq
     exact RunH.done (by kernel_rfl) Tryz.func41 (v:=.bool false) (by kernel_rfl) ⟨rfl,rfl,rfl⟩
    ·replace heq:=bif_false hb18 heq
     refine Cf t2 hb18<|Ra 2 [1,0,1,0,0,1,1,1] [.l [1,0,1,0,0],.b 0,.c [1,1]]<|Rd 2 [0,6,7] [(0,.string a0),(6,iv (a0.size:Int)),(7,iv (w64 (v7+1)))]<|Ad 1 [.c [1,0,1,0,0],.l [1,0,1,0,0],.b 0,.c [1,1]]<|Kp [0,6,7] [(0,.string a0),(6,iv (a0.size:Int)),(7,iv (w64 (v7+1)))] ?_
     exact ihk a0 (w64 (v7+1)) heq
   replace heq:=ht2
   refine Rr<|Rk 3 [15,0,4,6,7] [(15,.bool (decide ((bt a0 v7)<97))),(0,.string a0),(4,.int .u8 (bt a0 v7)),(6,iv (a0.size:Int)),(7,iv v7)] ?_
   rcases bool_cases (decide ((bt a0 v7)<97)) with hb4 | hb4
   ·replace heq:=bif_true hb4 heq
    refine RgH.val1 (v':=.bool true) (congrArg Value.bool hb4) ?_
    refine Rk 10 [22,0,4,6,7,19] [(22,.bool (decide ((bt a0 v7)<65))),(0,.string a0),(4,.int .u8 (bt a0 v7)),(6,iv (a0.size:Int)),(7,iv v7),(19,.bool true)] ?_
    rcases bool_cases (decide ((bt a0 v7)<65)) with hb5 | hb5
    ·replace heq:=bif_true hb5 heq
     refine RgH.val1 (v':=.bool true) (congrArg Value.bool hb5) ?_
     refine Rk 18 [30,0,4,6,7,27] [(30,.bool (decide ((bt a0 v7)<48))),(0,.string a0),(4,.int .u8 (bt a0 v7)),(6,iv (a0.size:Int)),(7,iv v7),(27,.bool true)] ?_
     rcases bool_cases (decide ((bt a0 v7)<48)) with hb6 | hb6
     ·replace heq:=bif_true hb6 heq
      refine RgH.val1 (v':=.bool true) (congrArg Value.bool hb6) ?_
      refine Rk 24 [0,6,7,35,36] [(0,.string a0),(6,iv (a0.size:Int)),(7,iv v7),(35,.bool true),(36,.int .u8 (bt a0 v7))] ?_
      obtain ⟨y1,hy1,heq⟩:=bind_some heq
      refine RgH.does (DoesH.call (d:=37) (g:=61) (args:=#[.string ({ data:=#[46,95,45,43] }:ByteArray),.int .u8 (bt a0 v7)]) (by kernel_rfl) (strings_IndexByte_c (a0:=({ data:=#[46,95,45,43] }:ByteArray)) (a1:=bt a0 v7)  hy1)) ?_
      rintro _ _ _ _ ⟨_,rfl,rfl,rfl,rfl⟩
      refine Rk 27 [0,6,7,39] [(0,.string a0),(6,iv (a0.size:Int)),(7,iv v7),(39,.bool (decide (y1<0)))] ?_
      obtain rfl:=Option.some.inj heq
      refine Kg [0,6,7,39] [(0,.string a0),(6,iv (a0.size:Int)),(7,iv v7),(39,.bool (decide (y1<0)))]<|Dn ?_
      exact K2
     ·replace heq:=bif_false hb6 heq
      refine RgH.val1 (v':=.bool false) (congrArg Value.bool hb6) ?_
      refine Rk 23 [35,0,4,6,7] [(35,.bool (decide (57<(bt a0 v7)))),(0,.string a0),(4,.int .u8 (bt a0 v7)),(6,iv (a0.size:Int)),(7,iv v7)] ?_
      rcases bool_cases (decide (57<(bt a0 v7))) with hb7 | hb7
      ·replace heq:=bif_true hb7 heq
       refine RgH.val1 (v':=.bool true) (congrArg Value.bool hb7) ?_
       refine Rk 24 [0,6,7,35,36] [(0,.string a0),(6,iv (a0.size:Int)),(7,iv v7),(35,.bool true),(36,.int .u8 (bt a0 v7))] ?_
       obtain ⟨y2,hy2,heq⟩:=bind_some heq
       refine RgH.does (DoesH.call (d:=37) (g:=61) (args:=#[.string ({ data:=#[46,95,45,43] }:ByteArray),.int .u8 (bt a0 v7)]) (by kernel_rfl) (strings_IndexByte_c (a0:=({ data:=#[46,95,45,43] }:ByteArray)) (a1:=bt a0 v7)  hy2)) ?_
       rintro _ _ _ _ ⟨_,rfl,rfl,rfl,rfl⟩
       refine Rk 27 [0,6,7,39] [(0,.string a0),(6,iv (a0.size:Int)),(7,iv v7),(39,.bool (decide (y2<0)))] ?_
       obtain rfl:=Option.some.inj heq
       refine Kg [0,6,7,39] [(0,.string a0),(6,iv (a0.size:Int)),(7,iv v7),(39,.bool (decide (y2<0)))]<|Dn ?_
       exact K2
      ·replace heq:=bif_false hb7 heq
       refine RgH.val1 (v':=.bool false) (congrArg Value.bool hb7) ?_
       refine Rk 27 [0,6,7,39] [(0,.string a0),(6,iv (a0.size:Int)),(7,iv v7),(39,.bool false)] ?_
       obtain rfl:=Option.some.inj heq
       refine Kg [0,6,7,39] [(0,.string a0),(6,iv (a0.size:Int)),(7,iv v7),(39,.bool false)]<|Dn ?_
       exact K2
    ·replace heq:=bif_false hb5 heq
     refine RgH.val1 (v':=.bool false) (congrArg Value.bool hb5) ?_
     refine Rk 15 [27,0,4,6,7] [(27,.bool (decide (90<(bt a0 v7)))),(0,.string a0),(4,.int .u8 (bt a0 v7)),(6,iv (a0.size:Int)),(7,iv v7)] ?_
     rcases bool_cases (decide (90<(bt a0 v7))) with hb8 | hb8
     ·replace heq:=bif_true hb8 heq
      refine RgH.val1 (v':=.bool true) (congrArg Value.bool hb8) ?_
      refine Rk 18 [30,0,4,6,7,27] [(30,.bool (decide ((bt a0 v7)<48))),(0,.string a0),(4,.int .u8 (bt a0 v7)),(6,iv (a0.size:Int)),(7,iv v7),(27,.bool true)] ?_
      rcases bool_cases (decide ((bt a0 v7)<48)) with hb9 | hb9
      ·replace heq:=bif_true hb9 heq
       refine RgH.val1 (v':=.bool true) (congrArg Value.bool hb9) ?_
       refine Rk 24 [0,6,7,35,36] [(0,.string a0),(6,iv (a0.size:Int)),(7,iv v7),(35,.bool true),(36,.int .u8 (bt a0 v7))] ?_
       obtain ⟨y3,hy3,heq⟩:=bind_some heq
       refine RgH.does (DoesH.call (d:=37) (g:=61) (args:=#[.string ({ data:=#[46,95,45,43] }:ByteArray),.int .u8 (bt a0 v7)]) (by kernel_rfl) (strings_IndexByte_c (a0:=({ data:=#[46,95,45,43] }:ByteArray)) (a1:=bt a0 v7)  hy3)) ?_
       rintro _ _ _ _ ⟨_,rfl,rfl,rfl,rfl⟩
       refine Rk 27 [0,6,7,39] [(0,.string a0),(6,iv (a0.size:Int)),(7,iv v7),(39,.bool (decide (y3<0)))] ?_
       obtain rfl:=Option.some.inj heq
       refine Kg [0,6,7,39] [(0,.string a0),(6,iv (a0.size:Int)),(7,iv v7),(39,.bool (decide (y3<0)))]<|Dn ?_
       exact K2
      ·replace heq:=bif_false hb9 heq
       refine RgH.val1 (v':=.bool false) (congrArg Value.bool hb9) ?_
       refine Rk 23 [35,0,4,6,7] [(35,.bool (decide (57<(bt a0 v7)))),(0,.string a0),(4,.int .u8 (bt a0 v7)),(6,iv (a0.size:Int)),(7,iv v7)] ?_
       rcases bool_cases (decide (57<(bt a0 v7))) with hb10 | hb10
       ·replace heq:=bif_true hb10 heq
        refine RgH.val1 (v':=.bool true) (congrArg Value.bool hb10) ?_
        refine Rk 24 [0,6,7,35,36] [(0,.string a0),(6,iv (a0.size:Int)),(7,iv v7),(35,.bool true),(36,.int .u8 (bt a0 v7))] ?_
        obtain ⟨y4,hy4,heq⟩:=bind_some heq
        refine RgH.does (DoesH.call (d:=37) (g:=61) (args:=#[.string ({ data:=#[46,95,45,43] }:ByteArray),.int .u8 (bt a0 v7)]) (by kernel_rfl) (strings_IndexByte_c (a0:=({ data:=#[46,95,45,43] }:ByteArray)) (a1:=bt a0 v7)  hy4)) ?_
        rintro _ _ _ _ ⟨_,rfl,rfl,rfl,rfl⟩
        refine Rk 27 [0,6,7,39] [(0,.string a0),(6,iv (a0.size:Int)),(7,iv v7),(39,.bool (decide (y4<0)))] ?_
        obtain rfl:=Option.some.inj heq
        refine Kg [0,6,7,39] [(0,.string a0),(6,iv (a0.size:Int)),(7,iv v7),(39,.bool (decide (y4<0)))]<|Dn ?_
        exact K2
       ·replace heq:=bif_false hb10 heq
        refine RgH.val1 (v':=.bool false) (congrArg Value.bool hb10) ?_
        refine Rk 27 [0,6,7,39] [(0,.string a0),(6,iv (a0.size:Int)),(7,iv v7),(39,.bool false)] ?_
        obtain rfl:=Option.some.inj heq
        refine Kg [0,6,7,39] [(0,.string a0),(6,iv (a0.size:Int)),(7,iv v7),(39,.bool false)]<|Dn ?_
        exact K2
     ·replace heq:=bif_false hb8 heq
      refine RgH.val1 (v':=.bool false) (congrArg Value.bool hb8) ?_
      refine Rk 27 [0,6,7,39] [(0,.string a0),(6,iv (a0.size:Int)),(7,iv v7),(39,.bool false)] ?_
      obtain rfl:=Option.some.inj heq
      refine Kg [0,6,7,39] [(0,.string a0),(6,iv (a0.size:Int)),(7,iv v7),(39,.bool false)]<|Dn ?_
      exact K2
   ·replace heq:=bif_false hb4 heq
    refine RgH.val1 (v':=.bool false) (congrArg Value.bool hb4) ?_
    refine Rk 7 [19,0,4,6,7] [(19,.bool (decide (122<(bt a0 v7)))),(0,.string a0),(4,.int .u8 (bt a0 v7)),(6,iv (a0.size:Int)),(7,iv v7)] ?_
    rcases bool_cases (decide (122<(bt a0 v7))) with hb11 | hb11
    ·replace heq:=bif_true hb11 heq
     refine RgH.val1 (v':=.bool true) (congrArg Value.bool hb11) ?_
     refine Rk 10 [22,0,4,6,7,19] [(22,.bool (decide ((bt a0 v7)<65))),(0,.string a0),(4,.int .u8 (bt a0 v7)),(6,iv (a0.size:Int)),(7,iv v7),(19,.bool true)] ?_
     rcases bool_cases (decide ((bt a0 v7)<65)) with hb12 | hb12
     ·replace heq:=bif_true hb12 heq
      refine RgH.val1 (v':=.bool true) (congrArg Value.bool hb12) ?_
      refine Rk 18 [30,0,4,6,7,27] [(30,.bool (decide ((bt a0 v7)<48))),(0,.string a0),(4,.int .u8 (bt a0 v7)),(6,iv (a0.size:Int)),(7,iv v7),(27,.bool true)] ?_
      rcases bool_cases (decide ((bt a0 v7)<48)) with hb13 | hb13
      ·replace heq:=bif_true hb13 heq
       refine RgH.val1 (v':=.bool true) (congrArg Value.bool hb13) ?_
       refine Rk 24 [0,6,7,35,36] [(0,.string a0),(6,iv (a0.size:Int)),(7,iv v7),(35,.bool true),(36,.int .u8 (bt a0 v7))] ?_
       obtain ⟨y5,hy5,heq⟩:=bind_some heq
       refine RgH.does (DoesH.call (d:=37) (g:=61) (args:=#[.string ({ data:=#[46,95,45,43] }:ByteArray),.int .u8 (bt a0 v7)]) (by kernel_rfl) (strings_IndexByte_c (a0:=({ data:=#[46,95,45,43] }:ByteArray)) (a1:=bt a0 v7)  hy5)) ?_
       rintro _ _ _ _ ⟨_,rfl,rfl,rfl,rfl⟩
       refine Rk 27 [0,6,7,39] [(0,.string a0),(6,iv (a0.size:Int)),(7,iv v7),(39,.bool (decide (y5<0)))] ?_
       obtain rfl:=Option.some.inj heq
       refine Kg [0,6,7,39] [(0,.string a0),(6,iv (a0.size:Int)),(7,iv v7),(39,.bool (decide (y5<0)))]<|Dn ?_
       exact K2
      ·replace heq:=bif_false hb13 heq
       refine RgH.val1 (v':=.bool false) (congrArg Value.bool hb13) ?_
       refine Rk 23 [35,0,4,6,7] [(35,.bool (decide (57<(bt a0 v7)))),(0,.string a0),(4,.int .u8 (bt a0 v7)),(6,iv (a0.size:Int)),(7,iv v7)] ?_
       rcases bool_cases (decide (57<(bt a0 v7))) with hb14 | hb14
       ·replace heq:=bif_true hb14 heq
        refine RgH.val1 (v':=.bool true) (congrArg Value.bool hb14) ?_
        refine Rk 24 [0,6,7,35,36] [(0,.string a0),(6,iv (a0.size:Int)),(7,iv v7),(35,.bool true),(36,.int .u8 (bt a0 v7))] ?_
        obtain ⟨y6,hy6,heq⟩:=bind_some heq
        refine RgH.does (DoesH.call (d:=37) (g:=61) (args:=#[.string ({ data:=#[46,95,45,43] }:ByteArray),.int .u8 (bt a0 v7)]) (by kernel_rfl) (strings_IndexByte_c (a0:=({ data:=#[46,95,45,43] }:ByteArray)) (a1:=bt a0 v7)  hy6)) ?_
        rintro _ _ _ _ ⟨_,rfl,rfl,rfl,rfl⟩
        refine Rk 27 [0,6,7,39] [(0,.string a0),(6,iv (a0.size:Int)),(7,iv v7),(39,.bool (decide (y6<0)))] ?_
        obtain rfl:=Option.some.inj heq
        refine Kg [0,6,7,39] [(0,.string a0),(6,iv (a0.size:Int)),(7,iv v7),(39,.bool (decide (y6<0)))]<|Dn ?_
        exact K2
       ·replace heq:=bif_false hb14 heq
        refine RgH.val1 (v':=.bool false) (congrArg Value.bool hb14) ?_
        refine Rk 27 [0,6,7,39] [(0,.string a0),(6,iv (a0.size:Int)),(7,iv v7),(39,.bool false)] ?_
        obtain rfl:=Option.some.inj heq
        refine Kg [0,6,7,39] [(0,.string a0),(6,iv (a0.size:Int)),(7,iv v7),(39,.bool false)]<|Dn ?_
        exact K2
     ·replace heq:=bif_false hb12 heq
      refine RgH.val1 (v':=.bool false) (congrArg Value.bool hb12) ?_
      refine Rk 15 [27,0,4,6,7] [(27,.bool (decide (90<(bt a0 v7)))),(0,.string a0),(4,.int .u8 (bt a0 v7)),(6,iv (a0.size:Int)),(7,iv v7)] ?_
      rcases bool_cases (decide (90<(bt a0 v7))) with hb15 | hb15
      ·replace heq:=bif_true hb15 heq
       refine RgH.val1 (v':=.bool true) (congrArg Value.bool hb15) ?_
       refine Rk 18 [30,0,4,6,7,27] [(30,.bool (decide ((bt a0 v7)<48))),(0,.string a0),(4,.int .u8 (bt a0 v7)),(6,iv (a0.size:Int)),(7,iv v7),(27,.bool true)] ?_
       rcases bool_cases (decide ((bt a0 v7)<48)) with hb16 | hb16
       ·replace heq:=bif_true hb16 heq
        refine RgH.val1 (v':=.bool true) (congrArg Value.bool hb16) ?_
        refine Rk 24 [0,6,7,35,36] [(0,.string a0),(6,iv (a0.size:Int)),(7,iv v7),(35,.bool true),(36,.int .u8 (bt a0 v7))] ?_
        obtain ⟨y7,hy7,heq⟩:=bind_some heq
        refine RgH.does (DoesH.call (d:=37) (g:=61) (args:=#[.string ({ data:=#[46,95,45,43] }:ByteArray),.int .u8 (bt a0 v7)]) (by kernel_rfl) (strings_IndexByte_c (a0:=({ data:=#[46,95,45,43] }:ByteArray)) (a1:=bt a0 v7)  hy7)) ?_
        rintro _ _ _ _ ⟨_,rfl,rfl,rfl,rfl⟩
        refine Rk 27 [0,6,7,39] [(0,.string a0),(6,iv (a0.size:Int)),(7,iv v7),(39,.bool (decide (y7<0)))] ?_
        obtain rfl:=Option.some.inj heq
        refine Kg [0,6,7,39] [(0,.string a0),(6,iv (a0.size:Int)),(7,iv v7),(39,.bool (decide (y7<0)))]<|Dn ?_
        exact K2
       ·replace heq:=bif_false hb16 heq
        refine RgH.val1 (v':=.bool false) (congrArg Value.bool hb16) ?_
        refine Rk 23 [35,0,4,6,7] [(35,.bool (decide (57<(bt a0 v7)))),(0,.string a0),(4,.int .u8 (bt a0 v7)),(6,iv (a0.size:Int)),(7,iv v7)] ?_
        rcases bool_cases (decide (57<(bt a0 v7))) with hb17 | hb17
        ·replace heq:=bif_true hb17 heq
         refine RgH.val1 (v':=.bool true) (congrArg Value.bool hb17) ?_
         refine Rk 24 [0,6,7,35,36] [(0,.string a0),(6,iv (a0.size:Int)),(7,iv v7),(35,.bool true),(36,.int .u8 (bt a0 v7))] ?_
         obtain ⟨y8,hy8,heq⟩:=bind_some heq
         refine RgH.does (DoesH.call (d:=37) (g:=61) (args:=#[.string ({ data:=#[46,95,45,43] }:ByteArray),.int .u8 (bt a0 v7)]) (by kernel_rfl) (strings_IndexByte_c (a0:=({ data:=#[46,95,45,43] }:ByteArray)) (a1:=bt a0 v7)  hy8)) ?_
         rintro _ _ _ _ ⟨_,rfl,rfl,rfl,rfl⟩
         refine Rk 27 [0,6,7,39] [(0,.string a0),(6,iv (a0.size:Int)),(7,iv v7),(39,.bool (decide (y8<0)))] ?_
         obtain rfl:=Option.some.inj heq
         refine Kg [0,6,7,39] [(0,.string a0),(6,iv (a0.size:Int)),(7,iv v7),(39,.bool (decide (y8<0)))]<|Dn ?_
         exact K2
        ·replace heq:=bif_false hb17 heq
         refine RgH.val1 (v':=.bool false) (congrArg Value.bool hb17) ?_
         refine Rk 27 [0,6,7,39] [(0,.string a0),(6,iv (a0.size:Int)),(7,iv v7),(39,.bool false)] ?_
         obtain rfl:=Option.some.inj heq
         refine Kg [0,6,7,39] [(0,.string a0),(6,iv (a0.size:Int)),(7,iv v7),(39,.bool false)]<|Dn ?_
         exact K2
      ·replace heq:=bif_false hb15 heq
       refine RgH.val1 (v':=.bool false) (congrArg Value.bool hb15) ?_
       refine Rk 27 [0,6,7,39] [(0,.string a0),(6,iv (a0.size:Int)),(7,iv v7),(39,.bool false)] ?_
       obtain rfl:=Option.some.inj heq
       refine Kg [0,6,7,39] [(0,.string a0),(6,iv (a0.size:Int)),(7,iv v7),(39,.bool false)]<|Dn ?_
       exact K2
    ·replace heq:=bif_false hb11 heq
     refine RgH.val1 (v':=.bool false) (congrArg Value.bool hb11) ?_
     refine Rk 27 [0,6,7,39] [(0,.string a0),(6,iv (a0.size:Int)),(7,iv v7),(39,.bool false)] ?_
     obtain rfl:=Option.some.inj heq
     refine Kg [0,6,7,39] [(0,.string a0),(6,iv (a0.size:Int)),(7,iv v7),(39,.bool false)]<|Dn ?_
     exact K2
  ·replace heq:=bif_false hb3 heq
   refine Cf (decide (v7<(a0.size:Int))) hb3<|Ad 2 [.c [1,1,0],.c [1,1,1]]<|Kp [0] [(0,.string a0)] ?_
   exact he1 a0 heq
theorem smithyardref10_isPart_c {w0:World} [TabI Tryz.prog "internal/strconv.uint64pow10" 1 w0] [GlobI 0 w0] {H:Hp} {F:List Ch} {a0:ByteArray} {r:Bool} (heq:smithyardref10_isPart.f a0=some r):CallsH Tryz.prog 41 #[.string a0] H w0 (F) (S41 F H r):=by
 refine calls_of_runH (F:=C41) Tryz.func41 (by kernel_rfl) Tryz.ntmps41 (args:=[.string a0]) (by kernel_rfl) ?_
 unfold smithyardref10_isPart.f at heq
 refine Ra 1 [0] [.c [1]]<|Rd 1 [0] [(0,.string a0)]<|Ra 2 [1,0,0] [.c [1,0,1],.c [1,1]]<|Rd 3 [0,6,7] [(0,.string a0),(6,iv (a0.size:Int)),(7,iv 0)]<|Ad 2 [.c [1,0,1,0,0],.l [1,0,1,0,0],.b 0,.c [1,1]]<|Kp [0,6,7] [(0,.string a0),(6,iv (a0.size:Int)),(7,iv 0)] ?_
 exact ((smithyardref10_isPart.l2_c (e1:=smithyardref10_isPart.e1) (smithyardref10_isPart.e1_c)) big) a0 0 heq
noncomputable def C27:Ctx:={ P:=Tryz.prog,f:=27,N:=19,c:=bodyOf Tryz.f27 }
def S27 (F:List Ch) (H0:Hp) (r:Bool) (v:Value) (H:Hp) (cs:List Ch):Prop:=H0=H∧v=.bool r∧F=cs
theorem smithyardref10_isPath.e1_c {w0:World} [TabI Tryz.prog "internal/strconv.uint64pow10" 1 w0] [GlobI 0 w0] {H:Hp} {F:List Ch} {r:Bool}:∀ (a0:ByteArray) ,smithyardref10_isPath.e1 a0=some r→RunH C27 (S27 F H r) H w0 [.c [1,1,0],.c [1,1,1]] [(0,.string a0)] H (F):=by
 intro a0  heq
 unfold smithyardref10_isPath.e1 at heq
 refine Rr<|Rk 2 [17] [(17,iv (a0.size:Int))] ?_
 obtain ⟨y2,hy2,heq⟩:=bind_some heq
 refine RgH.does (DoesH.call (d:=18) (g:=29) (args:=#[iv (a0.size:Int),iv 1,iv 200]) (by kernel_rfl) (smithyardref10_within_c (a0:=(a0.size:Int)) (a1:=1) (a2:=200)  hy2)) ?_
 rintro _ _ _ _ ⟨_,rfl,rfl,rfl,rfl⟩
 refine Rd 4 [2] [(2,.bool y2)] ?_
 obtain rfl:=Option.some.inj heq
 exact RunH.done (by kernel_rfl) Tryz.func27 (v:=.bool y2) (by kernel_rfl) ⟨rfl,rfl,rfl⟩
theorem smithyardref10_isPath.l2_c {w0:World} [TabI Tryz.prog "internal/strconv.uint64pow10" 1 w0] [GlobI 0 w0] {H:Hp} {F:List Ch} {r:Bool} (e1:ByteArray→Option Bool)
  (he1:∀ (a0:ByteArray) ,e1 a0=some r→RunH C27 (S27 F H r) H w0 [.c [1,1,0],.c [1,1,1]] [(0,.string a0)] H (F)):∀ (k:Nat),∀ (a0:ByteArray) (y1:List ByteArray) (A1:Option Addr) (c1:Nat) (ch1:Ch) (v8:Int) ,SlOwn Kd.string 9 H A1 c1 y1 ch1→smithyardref10_isPath.l2 e1 k a0 y1 v8=some r→RunH C27 (S27 F H r) H w0 [.c [1,0,1,0,0],.l [1,0,1,0,0],.b 0,.c [1,1]] [(0,.string a0),(6,.slice A1 y1.length c1),(7,iv (y1.length:Int)),(8,iv v8)] H (ch1::F):=by
 intro k
 induction k with
 | zero=>intro a0 y1 A1 c1 ch1 v8 ho1 heq; exact nomatch (show (none:Option Bool)=some r from heq)
 | succ k ihk =>
  intro a0 y1 A1 c1 ch1 v8 ho1 heq
  rw [smithyardref10_isPath.l2] at heq
  refine Ra 1 [1,0,1,0,0,0] [.c [1,0,1,0,0,1],.l [1,0,1,0,0],.b 0,.c [1,1]]<|Rd 1 [0,6,7,8,9] [(0,.string a0),(6,.slice A1 y1.length c1),(7,iv (y1.length:Int)),(8,iv v8),(9,.bool (decide (v8<(y1.length:Int))))]<|Ad 1 [.c [1,0,1,0,0,1,0],.c [1,0,1,0,0,1,1],.l [1,0,1,0,0],.b 0,.c [1,1]] ?_
  rcases bool_cases (decide (v8<(y1.length:Int))) with hb1 | hb1
  ·replace heq:=bif_true hb1 heq
   refine Ct (decide (v8<(y1.length:Int))) hb1<|Ra 4 [1,0,1,0,0,1,1,0,0,0] [.c [1,0,1,0,0,1,1,0,0,1],.b 1,.c [1,0,1,0,0,1,1,1],.l [1,0,1,0,0],.b 0,.c [1,1]] ?_
   obtain ⟨x1,hx1,heq⟩:=bind_some heq
   obtain ⟨ha1,cs1,hK1,hcc1⟩:=ho1.get hx1
   obtain rfl:cs1=[.string x1]:=hK1
   refine Rw' 3 [0,4,6,7,8] [.string x1] [.need (A1=some (adr A1)∧(0:Int)≤v8∧v8<((y1.length:Nat):Int)),.load ((adr A1).add (v8.toNat*1)) (.string x1)] [(0,.string a0),(4,.string x1),(6,.slice A1 y1.length c1),(7,iv (y1.length:Int)),(8,iv v8)] (fun w hh=>⟨⟨ha1,(at?_some hx1).1,(at?_some hx1).2.1⟩,(hcc1 _ (hh.chin 0 rfl) 0 _ rfl)⟩)<|Ra 1 [1,0,1,0,0,1,1,0,0,1,0] [.c [1,0,1,0,0,1,1,0,0,1,1],.b 1,.c [1,0,1,0,0,1,1,1],.l [1,0,1,0,0],.b 0,.c [1,1]]<|Rk 1 [0,6,7,8,12] [(0,.string a0),(6,.slice A1 y1.length c1),(7,iv (y1.length:Int)),(8,iv v8),(12,.string x1)] ?_
   obtain ⟨y3,hy3,heq⟩:=bind_some heq
   refine RgH.does (DoesH.call (d:=13) (g:=41) (args:=#[.string x1]) (by kernel_rfl) (smithyardref10_isPart_c (a0:=x1)  hy3)) ?_
   rintro _ _ _ _ ⟨_,rfl,rfl,rfl,rfl⟩
   refine Rd 3 [0,6,7,8,14] [(0,.string a0),(6,.slice A1 y1.length c1),(7,iv (y1.length:Int)),(8,iv v8),(14,.bool (!y3))] ?_
   rcases bool_cases (!y3) with hb2 | hb2
   ·replace heq:=bif_true hb2 heq
    refine Ct (!y3) hb2<|Ra 1 [1,0,1,0,0,1,1,0,0,1,1,0,0] [.c [1,0,1,0,0,1,1,0,0,1,1,0,1],.b 1,.c [1,0,1,0,0,1,1,1],.l [1,0,1,0,0],.b 0,.c [1,1]]<|Rd 1 [2] [(2,.bool false)] ?_
    obtain rfl:=Option.some.inj heq
    refine RunH.pick 1 [] (cs':=F) (by kernel_rfl) rfl ?_
    exact RunH.done (by kernel_rfl) Tryz.func27 (v:=.bool false) (by kernel_rfl) ⟨rfl,rfl,rfl⟩
   ·replace heq:=bif_false hb2 heq
    refine Cf (!y3) hb2<|Ra 2 [1,0,1,0,0,1,1,1] [.l [1,0,1,0,0],.b 0,.c [1,1]]<|Rd 2 [0,6,7,8] [(0,.string a0),(6,.slice A1 y1.length c1),(7,iv (y1.length:Int)),(8,iv (w64 (v8+1)))]<|Ad 1 [.c [1,0,1,0,0],.l [1,0,1,0,0],.b 0,.c [1,1]]<|Kp [0,6,7,8] [(0,.string a0),(6,.slice A1 y1.length c1),(7,iv (y1.length:Int)),(8,iv (w64 (v8+1)))] ?_
    exact ihk a0 y1 _ _ _ (w64 (v8+1)) ho1 heq
  ·replace heq:=bif_false hb1 heq
   refine Cf (decide (v8<(y1.length:Int))) hb1<|Ad 2 [.c [1,1,0],.c [1,1,1]]<|Kp [0] [(0,.string a0)] ?_
   refine RunH.pick 1 [] (cs':=F) (by kernel_rfl) rfl ?_
   exact he1 a0 heq
theorem smithyardref10_isPath_c {w0:World} [TabI Tryz.prog "internal/strconv.uint64pow10" 1 w0] [GlobI 0 w0] {H:Hp} {F:List Ch} {a0:ByteArray} {r:Bool} (heq:smithyardref10_isPath.f a0=some r):CallsH Tryz.prog 27 #[.string a0] H w0 (F) (S27 F H r):=by
 refine calls_of_runH (F:=C27) Tryz.func27 (by kernel_rfl) Tryz.ntmps27 (args:=[.string a0]) (by kernel_rfl) ?_
 unfold smithyardref10_isPath.f at heq
 refine Ra 1 [0] [.c [1]]<|Rd 1 [0] [(0,.string a0)]<|Ra 2 [1,0,0] [.c [1,0,1],.c [1,1]]<|Rk 1 [0,5] [(0,.string a0),(5,.string a0)] ?_
 obtain ⟨y1,hy1,heq⟩:=bind_some heq
 refine RgH.does (DoesH.call (d:=6) (g:=31) (args:=#[.string a0,.string ({ data:=#[47] }:ByteArray)]) (by kernel_rfl) (strings_Split_c (a0:=a0) (a1:=({ data:=#[47] }:ByteArray))  hy1)) ?_
 rintro _ _ _ _ ⟨_,rfl,A1,c1,ch1,rfl,rfl,rfl,ho1⟩
 refine Rd 4 [0,6,7,8] [(0,.string a0),(6,.slice A1 y1.length c1),(7,iv (y1.length:Int)),(8,iv 0)]<|Ad 2 [.c [1,0,1,0,0],.l [1,0,1,0,0],.b 0,.c [1,1]]<|Kp [0,6,7,8] [(0,.string a0),(6,.slice A1 y1.length c1),(7,iv (y1.length:Int)),(8,iv 0)] ?_
 exact ((smithyardref10_isPath.l2_c (e1:=smithyardref10_isPath.e1) (smithyardref10_isPath.e1_c)) big) a0 y1 _ _ _ 0 ho1 heq
noncomputable def C28:Ctx:={ P:=Tryz.prog,f:=28,N:=11,c:=bodyOf Tryz.f28 }
def S28 (F:List Ch) (H0:Hp) (r:Bool) (v:Value) (H:Hp) (cs:List Ch):Prop:=H0=H∧v=.bool r∧F=cs
theorem smithyardref10_isDigest_c {w0:World} [TabI Tryz.prog "internal/strconv.uint64pow10" 1 w0] [GlobI 0 w0] {H:Hp} {F:List Ch} {a0:ByteArray} {r:Bool} (heq:smithyardref10_isDigest.f a0=some r):CallsH Tryz.prog 28 #[.string a0] H w0 (F) (S28 F H r):=by
 refine calls_of_runH (F:=C28) Tryz.func28 (by kernel_rfl) Tryz.ntmps28 (args:=[.string a0]) (by kernel_rfl) ?_
 unfold smithyardref10_isDigest.f at heq
 refine Ra 1 [0] [.c [1]]<|Rd 1 [0] [(0,.string a0)]<|Ad 1 [.c [1,0],.c [1,1]] ?_
 obtain ⟨t1,ht1,heq⟩:=bind_some heq
 have K1:RunH C28 (S28 F H r) H w0 [.c [1,1]] [(2,.bool t1)] H (F):=by
  obtain rfl:=Option.some.inj heq
  exact RunH.done (by kernel_rfl) Tryz.func28 (v:=.bool t1) (by kernel_rfl) ⟨rfl,rfl,rfl⟩
 replace heq:=ht1
 refine Rr<|Rk 4 [6,0] [(6,.bool ((a0.size:Int) == 16)),(0,.string a0)] ?_
 rcases bool_cases ((a0.size:Int) == 16) with hb1 | hb1
 ·replace heq:=bif_true hb1 heq
  refine RgH.val1 (v':=.bool true) (congrArg Value.bool hb1) ?_
  refine Rk 5 [6,7] [(6,.bool true),(7,.string a0)] ?_
  obtain ⟨y1,hy1,heq⟩:=bind_some heq
  refine RgH.does (DoesH.call (d:=8) (g:=37) (args:=#[.string a0,.string ({ data:=#[48,49,50,51,52,53,54,55,56,57,97,98,99,100,101,102] }:ByteArray)]) (by kernel_rfl) (strings_Trim_c (a0:=a0) (a1:=({ data:=#[48,49,50,51,52,53,54,55,56,57,97,98,99,100,101,102] }:ByteArray))  hy1)) ?_
  rintro _ _ _ _ ⟨_,rfl,rfl,rfl,rfl⟩
  refine Rk 9 [2] [(2,.bool (sEq y1 ({ data:=#[] }:ByteArray)))] ?_
  obtain rfl:=Option.some.inj heq
  refine Kg [2] [(2,.bool (sEq y1 ({ data:=#[] }:ByteArray)))]<|Dn ?_
  exact K1
 ·replace heq:=bif_false hb1 heq
  refine RgH.val1 (v':=.bool false) (congrArg Value.bool hb1) ?_
  refine Rk 9 [2] [(2,.bool false)] ?_
  obtain rfl:=Option.some.inj heq
  refine Kg [2] [(2,.bool false)]<|Dn ?_
  exact K1
noncomputable def C16:Ctx:={ P:=Tryz.prog,f:=16,N:=51,c:=bodyOf Tryz.f16 }
def S16 (F:List Ch) (H0:Hp) (r:Int) (v:Value) (H:Hp) (cs:List Ch):Prop:=H0=H∧v=iv r∧F=cs
theorem smithyardref10_CheckHistory.e1_c {w0:World} [TabI Tryz.prog "internal/strconv.uint64pow10" 1 w0] [GlobI 0 w0] {H:Hp} {F:List Ch} {r:Int}:smithyardref10_CheckHistory.e1=some r→RunH C16 (S16 F H r) H w0 [.c [1,1,1,0],.c [1,1,1,1]] [] H (F):=by
 intro   heq
 unfold smithyardref10_CheckHistory.e1 at heq
 refine Rr<|Rd 1 [2] [(2,iv 0)] ?_
 obtain rfl:=Option.some.inj heq
 exact RunH.done (by kernel_rfl) Tryz.func16 (v:=iv 0) (by kernel_rfl) ⟨rfl,rfl,rfl⟩
theorem smithyardref10_CheckHistory.l2_c {w0:World} [TabI Tryz.prog "internal/strconv.uint64pow10" 1 w0] [GlobI 0 w0] {H:Hp} {F:List Ch} {r:Int} (e1:Option Int)
  (he1:e1=some r→RunH C16 (S16 F H r) H w0 [.c [1,1,1,0],.c [1,1,1,1]] [] H (F)):∀ (k:Nat),∀ (a0:List TestRun) (Aa0:Option Addr) (ca0:Nat) (v10:Int) ,Rw kTestRun H F Aa0 a0→a0.length≤ca0→smithyardref10_CheckHistory.l2 e1 k a0 v10=some r→RunH C16 (S16 F H r) H w0 [.c [1,1,0,1,0,0],.l [1,1,0,1,0,0],.b 0,.c [1,1,1]] [(0,.slice Aa0 a0.length ca0),(8,.slice Aa0 a0.length ca0),(9,iv (a0.length:Int)),(10,iv v10)] H (F):=by
 intro k
 induction k with
 | zero=>intro a0 Aa0 ca0 v10 hra0 hca0 heq; exact nomatch (show (none:Option Int)=some r from heq)
 | succ k ihk =>
  intro a0 Aa0 ca0 v10 hra0 hca0 heq
  rw [smithyardref10_CheckHistory.l2] at heq
  refine Ra 1 [1,1,0,1,0,0,0] [.c [1,1,0,1,0,0,1],.l [1,1,0,1,0,0],.b 0,.c [1,1,1]]<|Rd 1 [0,8,9,10,11] [(0,.slice Aa0 a0.length ca0),(8,.slice Aa0 a0.length ca0),(9,iv (a0.length:Int)),(10,iv v10),(11,.bool (decide (v10<(a0.length:Int))))]<|Ad 1 [.c [1,1,0,1,0,0,1,0],.c [1,1,0,1,0,0,1,1],.l [1,1,0,1,0,0],.b 0,.c [1,1,1]] ?_
  rcases bool_cases (decide (v10<(a0.length:Int))) with hb2 | hb2
  ·replace heq:=bif_true hb2 heq
   refine Ct (decide (v10<(a0.length:Int))) hb2<|Ra 4 [1,1,0,1,0,0,1,1,0,0,0] [.c [1,1,0,1,0,0,1,1,0,0,1],.b 1,.c [1,1,0,1,0,0,1,1,1],.l [1,1,0,1,0,0],.b 0,.c [1,1,1]] ?_
   obtain ⟨x1,hx1,heq⟩:=bind_some heq
   obtain ⟨ha1,cs1,hK1,hcc1⟩:=hra0.get hx1
   obtain ⟨rfl⟩:=kTestRun_open hK1
   refine Rv 3 [0,8,9,10,12,14] [.string x1.Test,.string x1.Key,iv x1.At,.bool x1.Pass,iv x1.Seconds] [.need (Aa0=some (adr Aa0)∧(0:Int)≤v10∧v10<((a0.length:Nat):Int)),.load (((adr Aa0).add (v10.toNat*5)).add 0) (.string x1.Test),.load (((adr Aa0).add (v10.toNat*5)).add 1) (.string x1.Key),.load (((adr Aa0).add (v10.toNat*5)).add 2) (iv x1.At),.load (((adr Aa0).add (v10.toNat*5)).add 3) (.bool x1.Pass),.load (((adr Aa0).add (v10.toNat*5)).add 4) (iv x1.Seconds)] [(0,.slice Aa0 a0.length ca0),(8,.slice Aa0 a0.length ca0),(9,iv (a0.length:Int)),(10,iv v10),(12,iv v10),(14,.agg #[.string x1.Test,.string x1.Key,iv x1.At,.bool x1.Pass,iv x1.Seconds])] (fun w hh=>⟨⟨ha1,(at?_some hx1).1,(at?_some hx1).2.1⟩,(hcc1 _ _ (hh.drop 0) 0 _ rfl),(hcc1 _ _ (hh.drop 0) 1 _ rfl),(hcc1 _ _ (hh.drop 0) 2 _ rfl),(hcc1 _ _ (hh.drop 0) 3 _ rfl),(hcc1 _ _ (hh.drop 0) 4 _ rfl)⟩) ?_
   refine RgH.does (DoesH.new (d:=4) (v:=fun g=>.pointer (some ⟨g,0,none⟩)) (o:=fun g=>.cells #[.string ByteArray.empty,.string ByteArray.empty,iv 0,.bool false,iv 0] 25 (0,0)) (fun g=>by kernel_rfl)) ?_
   rintro _ _ _ _ ⟨g1,rfl,rfl,rfl⟩
   refine Rk 5 [0,3,4,8,9,10,14] [(0,.slice Aa0 a0.length ca0),(3,iv v10),(4,pg g1 0),(8,.slice Aa0 a0.length ca0),(9,iv (a0.length:Int)),(10,iv v10),(14,.agg #[.string x1.Test,.string x1.Key,iv x1.At,.bool x1.Pass,iv x1.Seconds])] ?_
   refine RgH.does (DoesH.store (k:=0) (g:=g1) (off:=0) (v:=.agg #[.string x1.Test,.string x1.Key,iv x1.At,.bool x1.Pass,iv x1.Seconds]) (cells':=#[.string x1.Test,.string x1.Key,iv x1.At,.bool x1.Pass,iv x1.Seconds]) (by kernel_rfl) rfl (by kernel_rfl) (by kernel_rfl)) ?_
   rintro _ _ _ _ ⟨rfl,rfl,rfl⟩
   refine Dn<|Ra 2 [1,1,0,1,0,0,1,1,0,0,1,0,0] [.c [1,1,0,1,0,0,1,1,0,0,1,0,1],.b 2,.b 1,.c [1,1,0,1,0,0,1,1,1],.l [1,1,0,1,0,0],.b 0,.c [1,1,1]]<|Rv 2 [0,3,4,8,9,10,17] [.string x1.Test] [.load ⟨g1,0,none⟩ (.string x1.Test)] [(0,.slice Aa0 a0.length ca0),(3,iv v10),(4,pg g1 0),(8,.slice Aa0 a0.length ca0),(9,iv (a0.length:Int)),(10,iv v10),(17,.string x1.Test)] (fun w hh=>(hh.box 0 rfl rfl)) ?_
   obtain ⟨y1,hy1,heq⟩:=bind_some heq
   refine RgH.does (DoesH.call (d:=18) (g:=27) (args:=#[.string x1.Test]) (by kernel_rfl) (smithyardref10_isPath_c (a0:=x1.Test)  hy1)) ?_
   rintro _ _ _ _ ⟨_,rfl,rfl,rfl,rfl⟩
   refine Rd 5 [0,3,4,8,9,10,15] [(0,.slice Aa0 a0.length ca0),(3,iv v10),(4,pg g1 0),(8,.slice Aa0 a0.length ca0),(9,iv (a0.length:Int)),(10,iv v10),(15,.bool (!y1))] ?_
   rcases bool_cases (!y1) with hb3 | hb3
   ·replace heq:=bif_true hb3 heq
    refine Ct (!y1) hb3<|Ra 1 [1,1,0,1,0,0,1,1,0,0,1,0,1,0,0] [.c [1,1,0,1,0,0,1,1,0,0,1,0,1,0,1],.b 2,.b 1,.c [1,1,0,1,0,0,1,1,1],.l [1,1,0,1,0,0],.b 0,.c [1,1,1]]<|Rd 1 [2] [(2,iv 5)] ?_
    obtain rfl:=Option.some.inj heq
    refine RunH.pick 1 [] (cs':=F) (by kernel_rfl) rfl ?_
    exact RunH.done (by kernel_rfl) Tryz.func16 (v:=iv 5) (by kernel_rfl) ⟨rfl,rfl,rfl⟩
   ·replace heq:=bif_false hb3 heq
    refine Cf (!y1) hb3<|Ra 1 [1,1,0,1,0,0,1,1,0,0,1,0,1,1,0] [.c [1,1,0,1,0,0,1,1,0,0,1,0,1,1,1],.b 2,.b 1,.c [1,1,0,1,0,0,1,1,1],.l [1,1,0,1,0,0],.b 0,.c [1,1,1]]<|Rv 2 [0,3,4,8,9,10,22] [.string x1.Key] [.load ⟨g1,1,none⟩ (.string x1.Key)] [(0,.slice Aa0 a0.length ca0),(3,iv v10),(4,pg g1 0),(8,.slice Aa0 a0.length ca0),(9,iv (a0.length:Int)),(10,iv v10),(22,.string x1.Key)] (fun w hh=>(hh.box 0 rfl rfl)) ?_
    obtain ⟨y2,hy2,heq⟩:=bind_some heq
    refine RgH.does (DoesH.call (d:=23) (g:=28) (args:=#[.string x1.Key]) (by kernel_rfl) (smithyardref10_isDigest_c (a0:=x1.Key)  hy2)) ?_
    rintro _ _ _ _ ⟨_,rfl,rfl,rfl,rfl⟩
    refine Rd 5 [0,3,4,8,9,10,20] [(0,.slice Aa0 a0.length ca0),(3,iv v10),(4,pg g1 0),(8,.slice Aa0 a0.length ca0),(9,iv (a0.length:Int)),(10,iv v10),(20,.bool (!y2))] ?_
    rcases bool_cases (!y2) with hb4 | hb4
    ·replace heq:=bif_true hb4 heq
     refine Ct (!y2) hb4<|Ra 1 [1,1,0,1,0,0,1,1,0,0,1,0,1,1,1,0,0] [.c [1,1,0,1,0,0,1,1,0,0,1,0,1,1,1,0,1],.b 2,.b 1,.c [1,1,0,1,0,0,1,1,1],.l [1,1,0,1,0,0],.b 0,.c [1,1,1]]<|Rd 1 [2] [(2,iv 3)] ?_
     obtain rfl:=Option.some.inj heq
     refine RunH.pick 1 [] (cs':=F) (by kernel_rfl) rfl ?_
     exact RunH.done (by kernel_rfl) Tryz.func16 (v:=iv 3) (by kernel_rfl) ⟨rfl,rfl,rfl⟩
    ·replace heq:=bif_false hb4 heq
     refine Cf (!y2) hb4<|Ad 1 [.c [1,1,0,1,0,0,1,1,0,0,1,0,1,1,1,1,0],.c [1,1,0,1,0,0,1,1,0,0,1,0,1,1,1,1,1],.b 2,.b 1,.c [1,1,0,1,0,0,1,1,1],.l [1,1,0,1,0,0],.b 0,.c [1,1,1]] ?_
     obtain ⟨t1,ht1,heq⟩:=bind_some heq
     have K2:RunH C16 (S16 F H r) H w0 [.c [1,1,0,1,0,0,1,1,0,0,1,0,1,1,1,1,1],.b 2,.b 1,.c [1,1,0,1,0,0,1,1,1],.l [1,1,0,1,0,0],.b 0,.c [1,1,1]] [(0,.slice Aa0 a0.length ca0),(3,iv v10),(4,pg g1 0),(8,.slice Aa0 a0.length ca0),(9,iv (a0.length:Int)),(10,iv v10),(25,.bool t1)] H ((some (g1,.cells #[.string x1.Test,.string x1.Key,iv x1.At,.bool x1.Pass,iv x1.Seconds] 25 (0,0)))::F):=by
      rcases bool_cases (t1) with hb6 | hb6
      ·replace heq:=bif_true hb6 heq
       refine Ct t1 hb6<|Ra 1 [1,1,0,1,0,0,1,1,0,0,1,0,1,1,1,1,1,0,0] [.c [1,1,0,1,0,0,1,1,0,0,1,0,1,1,1,1,1,0,1],.b 2,.b 1,.c [1,1,0,1,0,0,1,1,1],.l [1,1,0,1,0,0],.b 0,.c [1,1,1]]<|Rd 1 [2] [(2,iv 1)] ?_
       obtain rfl:=Option.some.inj heq
       refine RunH.pick 1 [] (cs':=F) (by kernel_rfl) rfl ?_
       exact RunH.done (by kernel_rfl) Tryz.func16 (v:=iv 1) (by kernel_rfl) ⟨rfl,rfl,rfl⟩
      ·replace heq:=bif_false hb6 heq
       refine Cf t1 hb6<|Ad 1 [.c [1,1,0,1,0,0,1,1,0,0,1,0,1,1,1,1,1,1,0],.c [1,1,0,1,0,0,1,1,0,0,1,0,1,1,1,1,1,1,1],.b 2,.b 1,.c [1,1,0,1,0,0,1,1,1],.l [1,1,0,1,0,0],.b 0,.c [1,1,1]] ?_
       obtain ⟨t2,ht2,heq⟩:=bind_some heq
       have K3:RunH C16 (S16 F H r) H w0 [.c [1,1,0,1,0,0,1,1,0,0,1,0,1,1,1,1,1,1,1],.b 2,.b 1,.c [1,1,0,1,0,0,1,1,1],.l [1,1,0,1,0,0],.b 0,.c [1,1,1]] [(0,.slice Aa0 a0.length ca0),(8,.slice Aa0 a0.length ca0),(9,iv (a0.length:Int)),(10,iv v10),(36,.bool t2)] H (F):=by
        rcases bool_cases (t2) with hb8 | hb8
        ·replace heq:=bif_true hb8 heq
         refine Ct t2 hb8<|Ra 1 [1,1,0,1,0,0,1,1,0,0,1,0,1,1,1,1,1,1,1,0,0] [.c [1,1,0,1,0,0,1,1,0,0,1,0,1,1,1,1,1,1,1,0,1],.b 2,.b 1,.c [1,1,0,1,0,0,1,1,1],.l [1,1,0,1,0,0],.b 0,.c [1,1,1]]<|Rd 1 [2] [(2,iv 8)] ?_
         obtain rfl:=Option.some.inj heq
         exact RunH.done (by kernel_rfl) Tryz.func16 (v:=iv 8) (by kernel_rfl) ⟨rfl,rfl,rfl⟩
        ·replace heq:=bif_false hb8 heq
         refine Cf t2 hb8<|Ra 3 [1,1,0,1,0,0,1,1,1] [.l [1,1,0,1,0,0],.b 0,.c [1,1,1]]<|Rd 2 [0,8,9,10] [(0,.slice Aa0 a0.length ca0),(8,.slice Aa0 a0.length ca0),(9,iv (a0.length:Int)),(10,iv (w64 (v10+1)))]<|Ad 1 [.c [1,1,0,1,0,0],.l [1,1,0,1,0,0],.b 0,.c [1,1,1]]<|Kp [0,8,9,10] [(0,.slice Aa0 a0.length ca0),(8,.slice Aa0 a0.length ca0),(9,iv (a0.length:Int)),(10,iv (w64 (v10+1)))] ?_
         exact ihk a0 _ _ (w64 (v10+1)) hra0 hca0 heq
       replace heq:=ht2
       refine Kp [0,3,4,8,9,10] [(0,.slice Aa0 a0.length ca0),(3,iv v10),(4,pg g1 0),(8,.slice Aa0 a0.length ca0),(9,iv (a0.length:Int)),(10,iv v10)] ?_
       refine RunH.draw (fun w=>Heap H w0 w ((some (g1,.cells #[.string x1.Test,.string x1.Key,iv x1.At,.bool x1.Pass,iv x1.Seconds] 25 (0,0)))::F)) (fun w=>Heap H w0 w ((some (g1,.cells #[.string x1.Test,.string x1.Key,iv x1.At,.bool x1.Pass,iv x1.Seconds] 25 (0,0)))::F)) [3,3,3,3,3,3,3,3,3,3,3,3,3,3] (n:=14) (ls:=[false,false,false,false,false,false,false,false,false,false,false,false,false,false]) (by kernel_rfl) (by kernel_rfl) (by kernel_rfl) rfl ?_
       refine Dk [0,1,2] 11 (nb 14 7) [] [] [39,0,3,4,8,9,10] [(39,.bool (decide (0<v10))),(0,.slice Aa0 a0.length ca0),(3,iv v10),(4,pg g1 0),(8,.slice Aa0 a0.length ca0),(9,iv (a0.length:Int)),(10,iv v10)] (Pk 1 [0]) (Pk 1 [0]) (fun _ _=>trivial) ?_
       rcases bool_cases (decide (0<v10)) with hb7 | hb7
       ·replace heq:=bif_true hb7 heq
        refine DrH.val1 (v':=.bool true) (congrArg Value.bool hb7) ?_
        obtain ⟨x2,hx2,heq⟩:=bind_some heq
        obtain ⟨ha2,cs2,hK2,hcc2⟩:=hra0.get hx2
        obtain ⟨rfl⟩:=kTestRun_open hK2
        refine Dk [3,4,5,6,7,8,9,10,11,12,13] 0 (nb 14 16383) [iv x1.At,iv x2.At] [.load ⟨g1,2,none⟩ (iv x1.At),.need (Aa0=some (adr Aa0)∧(0:Int)≤(w64 (v10 - 1))∧(w64 (v10 - 1))<((a0.length:Nat):Int)),.load (((adr Aa0).add ((w64 (v10 - 1)).toNat*5)).add 2) (iv x2.At)] [0,8,9,10,36] [(0,.slice Aa0 a0.length ca0),(8,.slice Aa0 a0.length ca0),(9,iv (a0.length:Int)),(10,iv v10),(36,.bool (decide (x1.At<x2.At)))] (Pk 1 [0]) (Pk 1 [0]) (fun w hh=>⟨(hh.box 0 rfl rfl),⟨ha2,(at?_some hx2).1,(at?_some hx2).2.1⟩,(hcc2 _ _ (hh.drop 1) 2 _ rfl)⟩) ?_
        obtain rfl:=Option.some.inj heq
        refine Kr [0,8,9,10,36] [(0,.slice Aa0 a0.length ca0),(8,.slice Aa0 a0.length ca0),(9,iv (a0.length:Int)),(10,iv v10),(36,.bool (decide (x1.At<x2.At)))] ?_
        refine DrH.pick 1 [] (cs':=F) (by kernel_rfl) rfl ?_
        refine DrH.done (by kernel_rfl) ?_
        exact K3
       ·replace heq:=bif_false hb7 heq
        refine DrH.val1 (v':=.bool false) (congrArg Value.bool hb7) ?_
        refine Dk [3,4,5,6,7,8,9,10,11,12,13] 0 (nb 14 16383) [] [] [0,8,9,10,36] [(0,.slice Aa0 a0.length ca0),(8,.slice Aa0 a0.length ca0),(9,iv (a0.length:Int)),(10,iv v10),(36,.bool false)] (Pk 1 [0]) (Pk 1 [0]) (fun _ _=>trivial) ?_
        obtain rfl:=Option.some.inj heq
        refine Kr [0,8,9,10,36] [(0,.slice Aa0 a0.length ca0),(8,.slice Aa0 a0.length ca0),(9,iv (a0.length:Int)),(10,iv v10),(36,.bool false)] ?_
        refine DrH.pick 1 [] (cs':=F) (by kernel_rfl) rfl ?_
        refine DrH.done (by kernel_rfl) ?_
        exact K3
     replace heq:=ht1
     refine Rr<|Rv 2 [0,3,4,8,9,10,27] [iv x1.At] [.load ⟨g1,2,none⟩ (iv x1.At)] [(0,.slice Aa0 a0.length ca0),(3,iv v10),(4,pg g1 0),(8,.slice Aa0 a0.length ca0),(9,iv (a0.length:Int)),(10,iv v10),(27,iv x1.At)] (fun w hh=>(hh.box 0 rfl rfl)) ?_
     obtain ⟨y3,hy3,heq⟩:=bind_some heq
     refine RgH.does (DoesH.call (d:=28) (g:=29) (args:=#[iv x1.At,iv 0,iv 1000000000]) (by kernel_rfl) (smithyardref10_within_c (a0:=x1.At) (a1:=0) (a2:=1000000000)  hy3)) ?_
     rintro _ _ _ _ ⟨_,rfl,rfl,rfl,rfl⟩
     refine Rk 5 [30,0,3,4,8,9,10] [(30,.bool (!y3)),(0,.slice Aa0 a0.length ca0),(3,iv v10),(4,pg g1 0),(8,.slice Aa0 a0.length ca0),(9,iv (a0.length:Int)),(10,iv v10)] ?_
     rcases bool_cases (!y3) with hb5 | hb5
     ·replace heq:=bif_true hb5 heq
      refine RgH.val1 (v':=.bool true) (congrArg Value.bool hb5) ?_
      refine Rk 11 [0,3,4,8,9,10,25] [(0,.slice Aa0 a0.length ca0),(3,iv v10),(4,pg g1 0),(8,.slice Aa0 a0.length ca0),(9,iv (a0.length:Int)),(10,iv v10),(25,.bool true)] ?_
      obtain rfl:=Option.some.inj heq
      refine Kg [0,3,4,8,9,10,25] [(0,.slice Aa0 a0.length ca0),(3,iv v10),(4,pg g1 0),(8,.slice Aa0 a0.length ca0),(9,iv (a0.length:Int)),(10,iv v10),(25,.bool true)]<|Dn ?_
      exact K2
     ·replace heq:=bif_false hb5 heq
      refine RgH.val1 (v':=.bool false) (congrArg Value.bool hb5) ?_
      refine Rv 7 [0,3,4,8,9,10,30,32] [iv x1.Seconds] [.load ⟨g1,4,none⟩ (iv x1.Seconds)] [(0,.slice Aa0 a0.length ca0),(3,iv v10),(4,pg g1 0),(8,.slice Aa0 a0.length ca0),(9,iv (a0.length:Int)),(10,iv v10),(30,.bool false),(32,iv x1.Seconds)] (fun w hh=>(hh.box 0 rfl rfl)) ?_
      obtain ⟨y4,hy4,heq⟩:=bind_some heq
      refine RgH.does (DoesH.call (d:=33) (g:=29) (args:=#[iv x1.Seconds,iv 0,iv 100000]) (by kernel_rfl) (smithyardref10_within_c (a0:=x1.Seconds) (a1:=0) (a2:=100000)  hy4)) ?_
      rintro _ _ _ _ ⟨_,rfl,rfl,rfl,rfl⟩
      refine Rk 11 [0,3,4,8,9,10,25] [(0,.slice Aa0 a0.length ca0),(3,iv v10),(4,pg g1 0),(8,.slice Aa0 a0.length ca0),(9,iv (a0.length:Int)),(10,iv v10),(25,.bool (!y4))] ?_
      obtain rfl:=Option.some.inj heq
      refine Kg [0,3,4,8,9,10,25] [(0,.slice Aa0 a0.length ca0),(3,iv v10),(4,pg g1 0),(8,.slice Aa0 a0.length ca0),(9,iv (a0.length:Int)),(10,iv v10),(25,.bool (!y4))]<|Dn ?_
      exact K2
  ·replace heq:=bif_false hb2 heq
   refine Cf (decide (v10<(a0.length:Int))) hb2<|Ad 2 [.c [1,1,1,0],.c [1,1,1,1]]<|Kp [] [] ?_
   exact he1 heq
theorem smithyardref10_CheckHistory_c {w0:World} [TabI Tryz.prog "internal/strconv.uint64pow10" 1 w0] [GlobI 0 w0] {H:Hp} {F:List Ch} {a0:List TestRun} {Aa0:Option Addr} {na0:Nat} {ca0:Nat} {r:Int} (hra0:Rw kTestRun H F Aa0 a0) (hca0:na0≤ca0) (hna0:na0=a0.length) (heq:smithyardref10_CheckHistory.f a0=some r):CallsH Tryz.prog 16 #[.slice Aa0 na0 ca0] H w0 (F) (S16 F H r):=by
 refine calls_of_runH (F:=C16) Tryz.func16 (by kernel_rfl) Tryz.ntmps16 (args:=[.slice Aa0 na0 ca0]) (by kernel_rfl) ?_
 subst hna0
 unfold smithyardref10_CheckHistory.f at heq
 refine Ra 1 [0] [.c [1]]<|Rd 1 [0] [(0,.slice Aa0 a0.length ca0)]<|Ra 2 [1,0,0] [.c [1,0,1],.c [1,1]]<|Rd 3 [0,7] [(0,.slice Aa0 a0.length ca0),(7,.bool (decide (3000<(a0.length:Int))))] ?_
 rcases bool_cases (decide (3000<(a0.length:Int))) with hb1 | hb1
 ·replace heq:=bif_true hb1 heq
  refine Ct (decide (3000<(a0.length:Int))) hb1<|Ra 1 [1,0,1,0,0] [.c [1,0,1,0,1],.c [1,1]]<|Rd 1 [2] [(2,iv 2)] ?_
  obtain rfl:=Option.some.inj heq
  exact RunH.done (by kernel_rfl) Tryz.func16 (v:=iv 2) (by kernel_rfl) ⟨rfl,rfl,rfl⟩
 ·replace heq:=bif_false hb1 heq
  refine Cf (decide (3000<(a0.length:Int))) hb1<|Ra 3 [1,1,0,0] [.c [1,1,0,1],.c [1,1,1]]<|Rd 3 [0,8,9,10] [(0,.slice Aa0 a0.length ca0),(8,.slice Aa0 a0.length ca0),(9,iv (a0.length:Int)),(10,iv 0)]<|Ad 2 [.c [1,1,0,1,0,0],.l [1,1,0,1,0,0],.b 0,.c [1,1,1]]<|Kp [0,8,9,10] [(0,.slice Aa0 a0.length ca0),(8,.slice Aa0 a0.length ca0),(9,iv (a0.length:Int)),(10,iv 0)] ?_
  exact ((smithyardref10_CheckHistory.l2_c (e1:=smithyardref10_CheckHistory.e1) (smithyardref10_CheckHistory.e1_c)) big) a0 _ _ 0 hra0 hca0 heq
noncomputable def C17:Ctx:={ P:=Tryz.prog,f:=17,N:=4,c:=bodyOf Tryz.f17 }
def S17 (F:List Ch) (H0:Hp) (r:ByteArray) (v:Value) (H:Hp) (cs:List Ch):Prop:=H0=H∧v=.string r∧F=cs
theorem smithyardref10_passText_c {w0:World} [TabI Tryz.prog "internal/strconv.uint64pow10" 1 w0] [GlobI 0 w0] {H:Hp} {F:List Ch} {a0:Bool} {r:ByteArray} (heq:smithyardref10_passText.f a0=some r):CallsH Tryz.prog 17 #[.bool a0] H w0 (F) (S17 F H r):=by
 refine calls_of_runH (F:=C17) Tryz.func17 (by kernel_rfl) Tryz.ntmps17 (args:=[.bool a0]) (by kernel_rfl) ?_
 unfold smithyardref10_passText.f at heq
 refine Ra 1 [0] [.c [1]]<|Rd 1 [0] [(0,.bool a0)]<|Ra 2 [1,0,0] [.c [1,0,1],.c [1,1]]<|Rd 1 [3] [(3,.bool a0)] ?_
 rcases bool_cases (a0) with hb1 | hb1
 ·replace heq:=bif_true hb1 heq
  refine Ct a0 hb1<|Ra 1 [1,0,1,0,0] [.c [1,0,1,0,1],.c [1,1]]<|Rd 1 [2] [(2,.string ({ data:=#[112,97,115,115] }:ByteArray))] ?_
  obtain rfl:=Option.some.inj heq
  exact RunH.done (by kernel_rfl) Tryz.func17 (v:=.string ({ data:=#[112,97,115,115] }:ByteArray)) (by kernel_rfl) ⟨rfl,rfl,rfl⟩
 ·replace heq:=bif_false hb1 heq
  refine Cf a0 hb1<|Ra 2 [1,1,0] [.c [1,1,1]]<|Rd 1 [2] [(2,.string ({ data:=#[102,97,105,108] }:ByteArray))] ?_
  obtain rfl:=Option.some.inj heq
  exact RunH.done (by kernel_rfl) Tryz.func17 (v:=.string ({ data:=#[102,97,105,108] }:ByteArray)) (by kernel_rfl) ⟨rfl,rfl,rfl⟩
noncomputable def C6:Ctx:={ P:=Tryz.prog,f:=6,N:=42,c:=bodyOf Tryz.f6 }
def S6 (F:List Ch) (H0:Hp) (r:ByteArray × Int) (v:Value) (H:Hp) (cs:List Ch):Prop:=H0=H∧v=.tuple #[.string r.1,iv r.2]∧F=cs
theorem smithyardref10_Text.e1_c {w0:World} [TabI Tryz.prog "internal/strconv.uint64pow10" 1 w0] [GlobI 0 w0] {H:Hp} {F:List Ch} {r:ByteArray × Int}:∀ (v_out5:ByteArray) ,smithyardref10_Text.e1 v_out5=some r→RunH C6 (S6 F H r) H w0 [.c [1,1,1,1,0,0],.c [1,1,1,1,0,1],.c [1,1,1,1,1]] [(5,.string v_out5)] H (F):=by
 intro v_out5  heq
 unfold smithyardref10_Text.e1 at heq
 refine Rr<|Rd 3 [5,40] [(5,.string v_out5),(40,.bool (decide (900000<(v_out5.size:Int))))] ?_
 rcases bool_cases (decide (900000<(v_out5.size:Int))) with hb2 | hb2
 ·replace heq:=bif_true hb2 heq
  refine Ct (decide (900000<(v_out5.size:Int))) hb2<|Ra 1 [1,1,1,1,0,1,0,0] [.c [1,1,1,1,0,1,0,1],.c [1,1,1,1,1]]<|Rd 2 [2,3] [(2,.string ({ data:=#[] }:ByteArray)),(3,iv 2)] ?_
  obtain rfl:=Option.some.inj heq
  exact RunH.done (by kernel_rfl) Tryz.func6 (v:=.tuple #[.string ({ data:=#[] }:ByteArray),iv 2]) (by kernel_rfl) ⟨rfl,rfl,rfl⟩
 ·replace heq:=bif_false hb2 heq
  refine Cf (decide (900000<(v_out5.size:Int))) hb2<|Ra 2 [1,1,1,1,1,0] [.c [1,1,1,1,1,1]]<|Rd 3 [2,3] [(2,.string v_out5),(3,iv 0)] ?_
  obtain rfl:=Option.some.inj heq
  exact RunH.done (by kernel_rfl) Tryz.func6 (v:=.tuple #[.string v_out5,iv 0]) (by kernel_rfl) ⟨rfl,rfl,rfl⟩
theorem smithyardref10_Text.l2_c {w0:World} [TabI Tryz.prog "internal/strconv.uint64pow10" 1 w0] [GlobI 0 w0] {H:Hp} {F:List Ch} {r:ByteArray × Int} (e1:ByteArray→Option (ByteArray × Int))
  (he1:∀ (v_out5:ByteArray) ,e1 v_out5=some r→RunH C6 (S6 F H r) H w0 [.c [1,1,1,1,0,0],.c [1,1,1,1,0,1],.c [1,1,1,1,1]] [(5,.string v_out5)] H (F)):∀ (k:Nat),∀ (a0:List TestRun) (Aa0:Option Addr) (ca0:Nat) (v_out5:ByteArray) (v15:Int) ,Rw kTestRun H F Aa0 a0→a0.length≤ca0→smithyardref10_Text.l2 e1 k a0 v_out5 v15=some r→RunH C6 (S6 F H r) H w0 [.c [1,1,1,0,1,0,0],.l [1,1,1,0,1,0,0],.b 0,.c [1,1,1,1]] [(5,.string v_out5),(13,.slice Aa0 a0.length ca0),(14,iv (a0.length:Int)),(15,iv v15)] H (F):=by
 intro k
 induction k with
 | zero=>intro a0 Aa0 ca0 v_out5 v15 hra0 hca0 heq; exact nomatch (show (none:Option (ByteArray × Int))=some r from heq)
 | succ k ihk =>
  intro a0 Aa0 ca0 v_out5 v15 hra0 hca0 heq
  rw [smithyardref10_Text.l2] at heq
  refine Ra 1 [1,1,1,0,1,0,0,0] [.c [1,1,1,0,1,0,0,1],.l [1,1,1,0,1,0,0],.b 0,.c [1,1,1,1]]<|Rd 1 [5,13,14,15,16] [(5,.string v_out5),(13,.slice Aa0 a0.length ca0),(14,iv (a0.length:Int)),(15,iv v15),(16,.bool (decide (v15<(a0.length:Int))))]<|Ad 1 [.c [1,1,1,0,1,0,0,1,0],.c [1,1,1,0,1,0,0,1,1],.l [1,1,1,0,1,0,0],.b 0,.c [1,1,1,1]] ?_
  rcases bool_cases (decide (v15<(a0.length:Int))) with hb3 | hb3
  ·replace heq:=bif_true hb3 heq
   refine Ct (decide (v15<(a0.length:Int))) hb3<|Ra 4 [1,1,1,0,1,0,0,1,1,0,0,0] [.c [1,1,1,0,1,0,0,1,1,0,0,1],.b 1,.c [1,1,1,0,1,0,0,1,1,1],.l [1,1,1,0,1,0,0],.b 0,.c [1,1,1,1]] ?_
   obtain ⟨x1,hx1,heq⟩:=bind_some heq
   obtain ⟨ha1,cs1,hK1,hcc1⟩:=hra0.get hx1
   obtain ⟨rfl⟩:=kTestRun_open hK1
   refine Rv 2 [5,13,14,15,18] [.string x1.Test,.string x1.Key,iv x1.At,.bool x1.Pass,iv x1.Seconds] [.need (Aa0=some (adr Aa0)∧(0:Int)≤v15∧v15<((a0.length:Nat):Int)),.load (((adr Aa0).add (v15.toNat*5)).add 0) (.string x1.Test),.load (((adr Aa0).add (v15.toNat*5)).add 1) (.string x1.Key),.load (((adr Aa0).add (v15.toNat*5)).add 2) (iv x1.At),.load (((adr Aa0).add (v15.toNat*5)).add 3) (.bool x1.Pass),.load (((adr Aa0).add (v15.toNat*5)).add 4) (iv x1.Seconds)] [(5,.string v_out5),(13,.slice Aa0 a0.length ca0),(14,iv (a0.length:Int)),(15,iv v15),(18,.agg #[.string x1.Test,.string x1.Key,iv x1.At,.bool x1.Pass,iv x1.Seconds])] (fun w hh=>⟨⟨ha1,(at?_some hx1).1,(at?_some hx1).2.1⟩,(hcc1 _ _ (hh.drop 0) 0 _ rfl),(hcc1 _ _ (hh.drop 0) 1 _ rfl),(hcc1 _ _ (hh.drop 0) 2 _ rfl),(hcc1 _ _ (hh.drop 0) 3 _ rfl),(hcc1 _ _ (hh.drop 0) 4 _ rfl)⟩) ?_
   refine RgH.does (DoesH.new (d:=7) (v:=fun g=>.pointer (some ⟨g,0,none⟩)) (o:=fun g=>.cells #[.string ByteArray.empty,.string ByteArray.empty,iv 0,.bool false,iv 0] 25 (0,0)) (fun g=>by kernel_rfl)) ?_
   rintro _ _ _ _ ⟨g1,rfl,rfl,rfl⟩
   refine RgH.does (DoesH.store (k:=0) (g:=g1) (off:=0) (v:=.agg #[.string x1.Test,.string x1.Key,iv x1.At,.bool x1.Pass,iv x1.Seconds]) (cells':=#[.string x1.Test,.string x1.Key,iv x1.At,.bool x1.Pass,iv x1.Seconds]) (by kernel_rfl) rfl (by kernel_rfl) (by kernel_rfl)) ?_
   rintro _ _ _ _ ⟨rfl,rfl,rfl⟩
   refine Dn<|Kp [5,7,13,14,15] [(5,.string v_out5),(7,pg g1 0),(13,.slice Aa0 a0.length ca0),(14,iv (a0.length:Int)),(15,iv v15)] ?_
   refine RunH.draw (fun w=>Heap H w0 w ((some (g1,.cells #[.string x1.Test,.string x1.Key,iv x1.At,.bool x1.Pass,iv x1.Seconds] 25 (0,0)))::F)) (fun w=>Heap H w0 w ((some (g1,.cells #[.string x1.Test,.string x1.Key,iv x1.At,.bool x1.Pass,iv x1.Seconds] 25 (0,0)))::F)) [3,3,3,0,3,3,3,3,3,3,0,3,3,0,0,0,3,3,3] (n:=19) (ls:=[false,false,false,false,false,false,false,false,false,false,false,false,false,false,false,false,false,false,false]) (by kernel_rfl) (by kernel_rfl) (by kernel_rfl) rfl ?_
   refine Dk [0,1,2,4,5,6,7,8,9,11,12] 8 (nb 19 7159) [iv x1.At,.string x1.Test,.string x1.Key,.bool x1.Pass,iv x1.Seconds] [.load ⟨g1,2,none⟩ (iv x1.At),.load ⟨g1,0,none⟩ (.string x1.Test),.load ⟨g1,1,none⟩ (.string x1.Key),.load ⟨g1,3,none⟩ (.bool x1.Pass),.load ⟨g1,4,none⟩ (iv x1.Seconds)] [5,13,14,15,19,21,24,26,28,31] [(5,.string v_out5),(13,.slice Aa0 a0.length ca0),(14,iv (a0.length:Int)),(15,iv v15),(19,.string v_out5),(21,iv x1.At),(24,.string x1.Test),(26,.string x1.Key),(28,.bool x1.Pass),(31,iv x1.Seconds)] (Pk 1 [0]) (Pk 1 [0]) (fun w hh=>⟨(hh.box 0 rfl rfl),(hh.box 0 rfl rfl),(hh.box 0 rfl rfl),(hh.box 0 rfl rfl),(hh.box 0 rfl rfl)⟩) ?_
   obtain ⟨y2,hy2,heq⟩:=bind_some heq
   refine DrH.does (n:=7) (ls':=[true,true,true,true,true,true,true,true,true,true,false,true,true,false,false,false,false,false,false]) 3 (by kernel_rfl) rfl (DoesH.call (d:=22) (g:=13) (args:=#[iv x1.At]) (by kernel_rfl) (strconv_Itoa_c (a0:=x1.At)  hy2)) ?_
   rintro _ _ _ _ ⟨_,rfl,rfl,rfl,rfl⟩
   refine ⟨fun _ w hh=>⟨fun _=>(Pk 1 [0]) w hh,fun _=>(Pk 1 [0]) w hh,(fun h=>by cases h)⟩,?_⟩
   refine Kr [5,13,14,15,19,22,24,26,28,31] [(5,.string v_out5),(13,.slice Aa0 a0.length ca0),(14,iv (a0.length:Int)),(15,iv v15),(19,.string v_out5),(22,.string y2),(24,.string x1.Test),(26,.string x1.Key),(28,.bool x1.Pass),(31,iv x1.Seconds)] ?_
   obtain ⟨y3,hy3,heq⟩:=bind_some heq
   refine DrH.does (n:=6) (ls':=[true,true,true,true,true,true,true,true,true,true,true,true,true,false,false,false,false,false,false]) 10 (by kernel_rfl) rfl (DoesH.call (d:=29) (g:=17) (args:=#[.bool x1.Pass]) (by kernel_rfl) (smithyardref10_passText_c (a0:=x1.Pass)  hy3)) ?_
   rintro _ _ _ _ ⟨_,rfl,rfl,rfl,rfl⟩
   refine ⟨fun _ w hh=>⟨fun _=>(Pk 1 [0]) w hh,fun _=>(Pk 1 [0]) w hh,(fun h=>by cases h)⟩,?_⟩
   refine Kr [5,13,14,15,19,22,24,26,29,31] [(5,.string v_out5),(13,.slice Aa0 a0.length ca0),(14,iv (a0.length:Int)),(15,iv v15),(19,.string v_out5),(22,.string y2),(24,.string x1.Test),(26,.string x1.Key),(29,.string y3),(31,iv x1.Seconds)] ?_
   obtain ⟨y4,hy4,heq⟩:=bind_some heq
   refine DrH.does (n:=5) (ls':=[true,true,true,true,true,true,true,true,true,true,true,true,true,true,false,false,false,false,false]) 13 (by kernel_rfl) rfl (DoesH.call (d:=32) (g:=13) (args:=#[iv x1.Seconds]) (by kernel_rfl) (strconv_Itoa_c (a0:=x1.Seconds)  hy4)) ?_
   rintro _ _ _ _ ⟨_,rfl,rfl,rfl,rfl⟩
   refine ⟨fun _ w hh=>⟨fun _=>(Pk 1 [0]) w hh,fun _=>(Pk 1 [0]) w hh,(fun h=>by cases h)⟩,?_⟩
   refine Kr [5,13,14,15,19,22,24,26,29,32] [(5,.string v_out5),(13,.slice Aa0 a0.length ca0),(14,iv (a0.length:Int)),(15,iv v15),(19,.string v_out5),(22,.string y2),(24,.string x1.Test),(26,.string x1.Key),(29,.string y3),(32,.string y4)] ?_
   refine DrH.does (n:=4) (ls':=[true,true,true,true,true,true,true,true,true,true,true,true,true,true,true,false,false,false,false]) 14 (by kernel_rfl) rfl (DoesH.new (d:=33) (v:=fun g=>.slice (some ⟨g,0,none⟩) 5 5) (o:=fun g=>.cells #[.string y2,.string x1.Test,.string x1.Key,.string y3,.string y4] 9 (0,0)) (fun g=>by kernel_rfl)) ?_
   rintro _ _ _ _ ⟨g2,rfl,rfl,rfl⟩
   have ho1:SlOwn Kd.string 9 H (some ⟨g2,0,none⟩) 5 ([y2,x1.Test,x1.Key,y3,y4]:List ByteArray) (some (g2,.cells #[.string y2,.string x1.Test,.string x1.Key,.string y3,.string y4] 9 (0,0))):=SlOwn.lit (xs:=([y2,x1.Test,x1.Key,y3,y4]:List ByteArray)) (by kernel_rfl) (Nat.le_of_ble_eq_true (by kernel_rfl)) (Kd.Rep.scalars rfl)
   refine ⟨fun _ w hh=>⟨fun _=>(Pk 2 [1]) w hh,fun _=>(Pk 2 [1]) w hh,(fun h=>by cases h)⟩,?_⟩
   refine Kr [5,13,14,15,19,33] [(5,.string v_out5),(13,.slice Aa0 a0.length ca0),(14,iv (a0.length:Int)),(15,iv v15),(19,.string v_out5),(33,.slice (some ⟨g2,0,none⟩) 5 5)] ?_
   obtain ⟨y5,hy5,heq⟩:=bind_some heq
   refine DrH.does (n:=3) (ls':=[true,true,true,true,true,true,true,true,true,true,true,true,true,true,true,true,false,false,false]) 15 (by kernel_rfl) rfl (DoesH.call (d:=34) (g:=12) (args:=#[.slice (some ⟨g2,0,none⟩) 5 5,.string ({ data:=#[32] }:ByteArray)]) (by kernel_rfl) (strings_Join_c (a0:=([y2,x1.Test,x1.Key,y3,y4]:List ByteArray)) (a1:=({ data:=#[32] }:ByteArray)) (ho1.rw (.head _)) ho1.cap rfl hy5)) ?_
   rintro _ _ _ _ ⟨_,rfl,rfl,rfl,rfl⟩
   refine ⟨fun _ w hh=>⟨fun _=>(Pk 2 [1]) w hh,fun _=>(Pk 2 [1]) w hh,(fun h=>by cases h)⟩,?_⟩
   obtain ⟨hn1,heq⟩:=guard?_some heq
   obtain ⟨hn2,heq⟩:=guard?_some heq
   refine Dk [16,17,18] 0 (nb 19 524287) [] [.need (y5.size+({ data:=#[10] }:ByteArray).size≤9223372036854775807),.need (v_out5.size+(y5++({ data:=#[10] }:ByteArray)).size≤9223372036854775807)] [5,13,14,15] [(5,.string (v_out5++(y5++({ data:=#[10] }:ByteArray)))),(13,.slice Aa0 a0.length ca0),(14,iv (a0.length:Int)),(15,iv v15)] (Pk 2 [1]) (Pk 1 [0]) (fun w hh=>⟨(of_decide_eq_true hn1:y5.size+({ data:=#[10] }:ByteArray).size≤9223372036854775807),(of_decide_eq_true hn2:v_out5.size+(y5++({ data:=#[10] }:ByteArray)).size≤9223372036854775807)⟩) ?_
   refine DrH.done (by kernel_rfl) ?_
   refine Ra 1 [1,1,1,0,1,0,0,1,1,1] [.l [1,1,1,0,1,0,0],.b 0,.c [1,1,1,1]]<|Rd 2 [5,13,14,15] [(5,.string (v_out5++(y5++({ data:=#[10] }:ByteArray)))),(13,.slice Aa0 a0.length ca0),(14,iv (a0.length:Int)),(15,iv (w64 (v15+1)))]<|Ad 1 [.c [1,1,1,0,1,0,0],.l [1,1,1,0,1,0,0],.b 0,.c [1,1,1,1]]<|Kp [5,13,14,15] [(5,.string (v_out5++(y5++({ data:=#[10] }:ByteArray)))),(13,.slice Aa0 a0.length ca0),(14,iv (a0.length:Int)),(15,iv (w64 (v15+1)))] ?_
   refine RunH.pick 2 [] (cs':=F) (by kernel_rfl) rfl ?_
   exact ihk a0 _ _ (v_out5++(y5++({ data:=#[10] }:ByteArray))) (w64 (v15+1)) hra0 hca0 heq
  ·replace heq:=bif_false hb3 heq
   refine Cf (decide (v15<(a0.length:Int))) hb3<|Ad 3 [.c [1,1,1,1,0,0],.c [1,1,1,1,0,1],.c [1,1,1,1,1]]<|Kp [5] [(5,.string v_out5)] ?_
   exact he1 v_out5 heq
theorem smithyardref10_Text_c {w0:World} [TabI Tryz.prog "internal/strconv.uint64pow10" 1 w0] [GlobI 0 w0] {H:Hp} {F:List Ch} {a0:List TestRun} {Aa0:Option Addr} {na0:Nat} {ca0:Nat} {r:ByteArray × Int} (hra0:Rw kTestRun H F Aa0 a0) (hca0:na0≤ca0) (hna0:na0=a0.length) (heq:smithyardref10_Text.f a0=some r):CallsH Tryz.prog 6 #[.slice Aa0 na0 ca0] H w0 (F) (S6 F H r):=by
 refine calls_of_runH (F:=C6) Tryz.func6 (by kernel_rfl) Tryz.ntmps6 (args:=[.slice Aa0 na0 ca0]) (by kernel_rfl) ?_
 subst hna0
 unfold smithyardref10_Text.f at heq
 refine Ra 1 [0] [.c [1]]<|Rd 2 [0] [(0,.slice Aa0 a0.length ca0)]<|Ra 2 [1,0,0] [.c [1,0,1],.c [1,1]]<|Rk 1 [0,8] [(0,.slice Aa0 a0.length ca0),(8,.slice Aa0 a0.length ca0)] ?_
 obtain ⟨y1,hy1,heq⟩:=bind_some heq
 refine RgH.does (DoesH.call (d:=9) (g:=16) (args:=#[.slice Aa0 a0.length ca0]) (by kernel_rfl) (smithyardref10_CheckHistory_c (a0:=a0) hra0 hca0 rfl hy1)) ?_
 rintro _ _ _ _ ⟨_,rfl,rfl,rfl,rfl⟩
 refine Rd 3 [0,4] [(0,.slice Aa0 a0.length ca0),(4,iv y1)]<|Ra 1 [1,0,1,0] [.c [1,0,1,1],.c [1,1]]<|Rd 2 [0,4,11] [(0,.slice Aa0 a0.length ca0),(4,iv y1),(11,.bool (y1 != 0))] ?_
 rcases bool_cases (y1 != 0) with hb1 | hb1
 ·replace heq:=bif_true hb1 heq
  refine Ct (y1 != 0) hb1<|Ra 1 [1,0,1,1,0,0] [.c [1,0,1,1,0,1],.c [1,1]]<|Rd 3 [2,3] [(2,.string ({ data:=#[] }:ByteArray)),(3,iv y1)] ?_
  obtain rfl:=Option.some.inj heq
  exact RunH.done (by kernel_rfl) Tryz.func6 (v:=.tuple #[.string ({ data:=#[] }:ByteArray),iv y1]) (by kernel_rfl) ⟨rfl,rfl,rfl⟩
 ·replace heq:=bif_false hb1 heq
  refine Cf (y1 != 0) hb1<|Ra 2 [1,1,0] [.c [1,1,1]]<|Rd 1 [0,5] [(0,.slice Aa0 a0.length ca0),(5,.string ({ data:=#[] }:ByteArray))]<|Ra 2 [1,1,1,0,0] [.c [1,1,1,0,1],.c [1,1,1,1]]<|Rd 3 [5,13,14,15] [(5,.string ({ data:=#[] }:ByteArray)),(13,.slice Aa0 a0.length ca0),(14,iv (a0.length:Int)),(15,iv 0)]<|Ad 2 [.c [1,1,1,0,1,0,0],.l [1,1,1,0,1,0,0],.b 0,.c [1,1,1,1]]<|Kp [5,13,14,15] [(5,.string ({ data:=#[] }:ByteArray)),(13,.slice Aa0 a0.length ca0),(14,iv (a0.length:Int)),(15,iv 0)] ?_
  exact ((smithyardref10_Text.l2_c (e1:=smithyardref10_Text.e1) (smithyardref10_Text.e1_c)) big) a0 _ _ ({ data:=#[] }:ByteArray) 0 hra0 hca0 heq
noncomputable def C7:Ctx:={ P:=Tryz.prog,f:=7,N:=26,c:=bodyOf Tryz.f7 }
def S7 (F:List Ch) (H0:Hp) (r:Bool) (v:Value) (H:Hp) (cs:List Ch):Prop:=H0=H∧v=.bool r∧F=cs
theorem slices_Equal_TestRun.e1_c {w0:World} [TabI Tryz.prog "internal/strconv.uint64pow10" 1 w0] [GlobI 0 w0] {H:Hp} {F:List Ch} {r:Bool}:slices_Equal_TestRun.e1=some r→RunH C7 (S7 F H r) H w0 [.c [1,1,1,0],.c [1,1,1,1]] [] H (F):=by
 intro   heq
 unfold slices_Equal_TestRun.e1 at heq
 refine Rr<|Rd 1 [4] [(4,.bool true)] ?_
 obtain rfl:=Option.some.inj heq
 exact RunH.done (by kernel_rfl) Tryz.func7 (v:=.bool true) (by kernel_rfl) ⟨rfl,rfl,rfl⟩
theorem slices_Equal_TestRun.l2_c {w0:World} [TabI Tryz.prog "internal/strconv.uint64pow10" 1 w0] [GlobI 0 w0] {H:Hp} {F:List Ch} {r:Bool} (e1:Option Bool)
  (he1:e1=some r→RunH C7 (S7 F H r) H w0 [.c [1,1,1,0],.c [1,1,1,1]] [] H (F)):∀ (k:Nat),∀ (a0:List TestRun) (Aa0:Option Addr) (ca0:Nat) (a1:List TestRun) (Aa1:Option Addr) (ca1:Nat) (v13:Int) ,Rw kTestRun H F Aa0 a0→a0.length≤ca0→Rw kTestRun H F Aa1 a1→a1.length≤ca1→slices_Equal_TestRun.l2 e1 k a0 a1 v13=some r→RunH C7 (S7 F H r) H w0 [.c [1,1,0,1,0,0],.l [1,1,0,1,0,0],.b 0,.c [1,1,1]] [(0,.slice Aa0 a0.length ca0),(1,.slice Aa1 a1.length ca1),(12,iv (a0.length:Int)),(13,iv v13)] H (F):=by
 intro k
 induction k with
 | zero=>intro a0 Aa0 ca0 a1 Aa1 ca1 v13 hra0 hca0 hra1 hca1 heq; exact nomatch (show (none:Option Bool)=some r from heq)
 | succ k ihk =>
  intro a0 Aa0 ca0 a1 Aa1 ca1 v13 hra0 hca0 hra1 hca1 heq
  rw [slices_Equal_TestRun.l2] at heq
  refine Ra 1 [1,1,0,1,0,0,0] [.c [1,1,0,1,0,0,1],.l [1,1,0,1,0,0],.b 0,.c [1,1,1]]<|Rd 1 [0,1,12,13,14] [(0,.slice Aa0 a0.length ca0),(1,.slice Aa1 a1.length ca1),(12,iv (a0.length:Int)),(13,iv v13),(14,.bool (decide (v13<(a0.length:Int))))]<|Ad 1 [.c [1,1,0,1,0,0,1,0],.c [1,1,0,1,0,0,1,1],.l [1,1,0,1,0,0],.b 0,.c [1,1,1]] ?_
  rcases bool_cases (decide (v13<(a0.length:Int))) with hb2 | hb2
  ·replace heq:=bif_true hb2 heq
   refine Ct (decide (v13<(a0.length:Int))) hb2<|Ra 4 [1,1,0,1,0,0,1,1,0,0,0] [.c [1,1,0,1,0,0,1,1,0,0,1],.b 1,.c [1,1,0,1,0,0,1,1,1],.l [1,1,0,1,0,0],.b 0,.c [1,1,1]]<|Rd 2 [0,1,5,12,13] [(0,.slice Aa0 a0.length ca0),(1,.slice Aa1 a1.length ca1),(5,iv v13),(12,iv (a0.length:Int)),(13,iv v13)]<|Ad 1 [.c [1,1,0,1,0,0,1,1,0,0,1,0],.c [1,1,0,1,0,0,1,1,0,0,1,1],.b 1,.c [1,1,0,1,0,0,1,1,1],.l [1,1,0,1,0,0],.b 0,.c [1,1,1]]<|Kp [0,1,5,12,13] [(0,.slice Aa0 a0.length ca0),(1,.slice Aa1 a1.length ca1),(5,iv v13),(12,iv (a0.length:Int)),(13,iv v13)] ?_
   refine RunH.draw (fun w=>Heap H w0 w (F)) (fun w=>Heap H w0 w (F)) [3,3,3,3,3,3,3,3,3] (n:=9) (ls:=[false,false,false,false,false,false,false,false,false]) (by kernel_rfl) (by kernel_rfl) (by kernel_rfl) rfl ?_
   obtain ⟨x1,hx1,heq⟩:=bind_some heq
   obtain ⟨ha1,cs1,hK1,hcc1⟩:=hra0.get hx1
   obtain ⟨rfl⟩:=kTestRun_open hK1
   obtain ⟨x2,hx2,heq⟩:=bind_some heq
   obtain ⟨ha2,cs2,hK2,hcc2⟩:=hra1.get hx2
   obtain ⟨rfl⟩:=kTestRun_open hK2
   refine Dk [0,1,2,3,4,5,6,7,8] 0 (nb 9 511) [.string x1.Test,.string x1.Key,iv x1.At,.bool x1.Pass,iv x1.Seconds,.string x2.Test,.string x2.Key,iv x2.At,.bool x2.Pass,iv x2.Seconds] [.need (Aa0=some (adr Aa0)∧(0:Int)≤v13∧v13<((a0.length:Nat):Int)),.load (((adr Aa0).add (v13.toNat*5)).add 0) (.string x1.Test),.load (((adr Aa0).add (v13.toNat*5)).add 1) (.string x1.Key),.load (((adr Aa0).add (v13.toNat*5)).add 2) (iv x1.At),.load (((adr Aa0).add (v13.toNat*5)).add 3) (.bool x1.Pass),.load (((adr Aa0).add (v13.toNat*5)).add 4) (iv x1.Seconds),.need (Aa1=some (adr Aa1)∧(0:Int)≤v13∧v13<((a1.length:Nat):Int)),.load (((adr Aa1).add (v13.toNat*5)).add 0) (.string x2.Test),.load (((adr Aa1).add (v13.toNat*5)).add 1) (.string x2.Key),.load (((adr Aa1).add (v13.toNat*5)).add 2) (iv x2.At),.load (((adr Aa1).add (v13.toNat*5)).add 3) (.bool x2.Pass),.load (((adr Aa1).add (v13.toNat*5)).add 4) (iv x2.Seconds)] [0,1,12,13,24] [(0,.slice Aa0 a0.length ca0),(1,.slice Aa1 a1.length ca1),(12,iv (a0.length:Int)),(13,iv v13),(24,.bool (!(sEq x1.Test x2.Test&&(sEq x1.Key x2.Key&&(x1.At == x2.At&&(x1.Pass == x2.Pass&&(x1.Seconds == x2.Seconds&&true)))))))] (Pk 0 []) (Pk 0 []) (fun w hh=>⟨⟨ha1,(at?_some hx1).1,(at?_some hx1).2.1⟩,(hcc1 _ _ (hh.drop 0) 0 _ rfl),(hcc1 _ _ (hh.drop 0) 1 _ rfl),(hcc1 _ _ (hh.drop 0) 2 _ rfl),(hcc1 _ _ (hh.drop 0) 3 _ rfl),(hcc1 _ _ (hh.drop 0) 4 _ rfl),⟨ha2,(at?_some hx2).1,(at?_some hx2).2.1⟩,(hcc2 _ _ (hh.drop 0) 0 _ rfl),(hcc2 _ _ (hh.drop 0) 1 _ rfl),(hcc2 _ _ (hh.drop 0) 2 _ rfl),(hcc2 _ _ (hh.drop 0) 3 _ rfl),(hcc2 _ _ (hh.drop 0) 4 _ rfl)⟩) ?_
   refine DrH.done (by kernel_rfl) ?_
   rcases bool_cases (!(sEq x1.Test x2.Test&&(sEq x1.Key x2.Key&&(x1.At == x2.At&&(x1.Pass == x2.Pass&&(x1.Seconds == x2.Seconds&&true)))))) with hb3 | hb3
   ·replace heq:=bif_true hb3 heq
    refine Ct (!(sEq x1.Test x2.Test&&(sEq x1.Key x2.Key&&(x1.At == x2.At&&(x1.Pass == x2.Pass&&(x1.Seconds == x2.Seconds&&true)))))) hb3<|Ra 1 [1,1,0,1,0,0,1,1,0,0,1,1,0,0] [.c [1,1,0,1,0,0,1,1,0,0,1,1,0,1],.b 1,.c [1,1,0,1,0,0,1,1,1],.l [1,1,0,1,0,0],.b 0,.c [1,1,1]]<|Rd 1 [4] [(4,.bool false)] ?_
    obtain rfl:=Option.some.inj heq
    exact RunH.done (by kernel_rfl) Tryz.func7 (v:=.bool false) (by kernel_rfl) ⟨rfl,rfl,rfl⟩
   ·replace heq:=bif_false hb3 heq
    refine Cf (!(sEq x1.Test x2.Test&&(sEq x1.Key x2.Key&&(x1.At == x2.At&&(x1.Pass == x2.Pass&&(x1.Seconds == x2.Seconds&&true)))))) hb3<|Ra 2 [1,1,0,1,0,0,1,1,1] [.l [1,1,0,1,0,0],.b 0,.c [1,1,1]]<|Rd 2 [0,1,12,13] [(0,.slice Aa0 a0.length ca0),(1,.slice Aa1 a1.length ca1),(12,iv (a0.length:Int)),(13,iv (w64 (v13+1)))]<|Ad 1 [.c [1,1,0,1,0,0],.l [1,1,0,1,0,0],.b 0,.c [1,1,1]]<|Kp [0,1,12,13] [(0,.slice Aa0 a0.length ca0),(1,.slice Aa1 a1.length ca1),(12,iv (a0.length:Int)),(13,iv (w64 (v13+1)))] ?_
    exact ihk a0 _ _ a1 _ _ (w64 (v13+1)) hra0 hca0 hra1 hca1 heq
  ·replace heq:=bif_false hb2 heq
   refine Cf (decide (v13<(a0.length:Int))) hb2<|Ad 2 [.c [1,1,1,0],.c [1,1,1,1]]<|Kp [] [] ?_
   exact he1 heq
theorem slices_Equal_TestRun_c {w0:World} [TabI Tryz.prog "internal/strconv.uint64pow10" 1 w0] [GlobI 0 w0] {H:Hp} {F:List Ch} {a0:List TestRun} {Aa0:Option Addr} {na0:Nat} {ca0:Nat} {a1:List TestRun} {Aa1:Option Addr} {na1:Nat} {ca1:Nat} {r:Bool} (hra0:Rw kTestRun H F Aa0 a0) (hca0:na0≤ca0) (hna0:na0=a0.length) (hra1:Rw kTestRun H F Aa1 a1) (hca1:na1≤ca1) (hna1:na1=a1.length) (heq:slices_Equal_TestRun.f a0 a1=some r):CallsH Tryz.prog 7 #[.slice Aa0 na0 ca0,.slice Aa1 na1 ca1] H w0 (F) (S7 F H r):=by
 refine calls_of_runH (F:=C7) Tryz.func7 (by kernel_rfl) Tryz.ntmps7 (args:=[.slice Aa0 na0 ca0,.slice Aa1 na1 ca1]) (by kernel_rfl) ?_
 subst hna0
 subst hna1
 unfold slices_Equal_TestRun.f at heq
 refine Ra 1 [0] [.c [1]]<|Rd 1 [0,1] [(0,.slice Aa0 a0.length ca0),(1,.slice Aa1 a1.length ca1)]<|Ra 2 [1,0,0] [.c [1,0,1],.c [1,1]]<|Rd 5 [0,1,10] [(0,.slice Aa0 a0.length ca0),(1,.slice Aa1 a1.length ca1),(10,.bool ((a0.length:Int) != (a1.length:Int)))] ?_
 rcases bool_cases ((a0.length:Int) != (a1.length:Int)) with hb1 | hb1
 ·replace heq:=bif_true hb1 heq
  refine Ct ((a0.length:Int) != (a1.length:Int)) hb1<|Ra 1 [1,0,1,0,0] [.c [1,0,1,0,1],.c [1,1]]<|Rd 1 [4] [(4,.bool false)] ?_
  obtain rfl:=Option.some.inj heq
  exact RunH.done (by kernel_rfl) Tryz.func7 (v:=.bool false) (by kernel_rfl) ⟨rfl,rfl,rfl⟩
 ·replace heq:=bif_false hb1 heq
  refine Cf ((a0.length:Int) != (a1.length:Int)) hb1<|Ra 3 [1,1,0,0] [.c [1,1,0,1],.c [1,1,1]]<|Rd 3 [0,1,12,13] [(0,.slice Aa0 a0.length ca0),(1,.slice Aa1 a1.length ca1),(12,iv (a0.length:Int)),(13,iv 0)]<|Ad 2 [.c [1,1,0,1,0,0],.l [1,1,0,1,0,0],.b 0,.c [1,1,1]]<|Kp [0,1,12,13] [(0,.slice Aa0 a0.length ca0),(1,.slice Aa1 a1.length ca1),(12,iv (a0.length:Int)),(13,iv 0)] ?_
  exact ((slices_Equal_TestRun.l2_c (e1:=slices_Equal_TestRun.e1) (slices_Equal_TestRun.e1_c)) big) a0 _ _ a1 _ _ 0 hra0 hca0 hra1 hca1 heq
noncomputable def C18:Ctx:={ P:=Tryz.prog,f:=18,N:=64,c:=bodyOf Tryz.f18 }
def S18 (F:List Ch) (H0:Hp) (r:Int × Int × Int) (v:Value) (H:Hp) (cs:List Ch):Prop:=H0=H∧v=.tuple #[iv r.1,iv r.2.1,iv r.2.2]∧F=cs
theorem trials_Tried.e1_c {w0:World} [TabI Tryz.prog "internal/strconv.uint64pow10" 1 w0] [GlobI 0 w0] {H:Hp} {F:List Ch} {r:Int × Int × Int}:∀ (a0:Int) ,trials_Tried.e1 a0=some r→RunH C18 (S18 F H r) H w0 [.c [1,1,1,1,1,0],.c [1,1,1,1,1,1]] [(0,iv a0)] H (F):=by
 intro a0  heq
 unfold trials_Tried.e1 at heq
 refine Rr<|Rd 4 [6,7,8] [(6,iv 3),(7,iv a0),(8,iv 0)] ?_
 obtain rfl:=Option.some.inj heq
 exact RunH.done (by kernel_rfl) Tryz.func18 (v:=.tuple #[iv 3,iv a0,iv 0]) (by kernel_rfl) ⟨rfl,rfl,rfl⟩
theorem trials_Tried.j3_c {w0:World} [TabI Tryz.prog "internal/strconv.uint64pow10" 1 w0] [GlobI 0 w0] {H:Hp} {F:List Ch} {r:Int × Int × Int} (backl2:Int→Int→(List Bool)→Int→Int→Option (Int × Int × Int))
  (hbackl2:∀ (a0:Int) (a1:Int) (a2:List Bool) (Aa2:Option Addr) (ca2:Nat) (v_passed9:Int) (v28:Int) ,Rw Kd.bool H F Aa2 a2→a2.length≤ca2→backl2 a0 a1 a2 v_passed9 v28=some r→RunH C18 (S18 F H r) H w0 [.c [1,1,1,1,0,1,0,0],.l [1,1,1,1,0,1,0,0],.b 0,.c [1,1,1,1,1]] [(0,iv a0),(1,iv a1),(9,iv v_passed9),(26,.slice Aa2 a2.length ca2),(27,iv (a2.length:Int)),(28,iv v28)] H (F)):∀ (a0:Int) (a1:Int) (a2:List Bool) (Aa2:Option Addr) (ca2:Nat) (v28:Int) (v_passed9:Int) ,Rw Kd.bool H F Aa2 a2→a2.length≤ca2→trials_Tried.j3 backl2 a0 a1 a2 v28 v_passed9=some r→RunH C18 (S18 F H r) H w0 [.c [1,1,1,1,0,1,0,0,1,1,0,0,1,1,0],.c [1,1,1,1,0,1,0,0,1,1,0,0,1,1,1],.b 1,.c [1,1,1,1,0,1,0,0,1,1,1],.l [1,1,1,1,0,1,0,0],.b 0,.c [1,1,1,1,1]] [(0,iv a0),(1,iv a1),(9,iv v_passed9),(10,iv v28),(26,.slice Aa2 a2.length ca2),(27,iv (a2.length:Int)),(28,iv v28)] H (F):=by
 intro a0 a1 a2 Aa2 ca2 v28 v_passed9 hra2 hca2 heq
 unfold trials_Tried.j3 at heq
 refine Rr<|Rd 3 [0,1,9,12,26,27,28] [(0,iv a0),(1,iv a1),(9,iv v_passed9),(12,iv (w64 (v28+1))),(26,.slice Aa2 a2.length ca2),(27,iv (a2.length:Int)),(28,iv v28)]<|Ad 2 [.c [1,1,1,1,0,1,0,0,1,1,0,0,1,1,1,0,0],.c [1,1,1,1,0,1,0,0,1,1,0,0,1,1,1,0,1],.b 2,.b 1,.c [1,1,1,1,0,1,0,0,1,1,1],.l [1,1,1,1,0,1,0,0],.b 0,.c [1,1,1,1,1]] ?_
 obtain ⟨t2,ht2,heq⟩:=bind_some heq
 have K2:RunH C18 (S18 F H r) H w0 [.c [1,1,1,1,0,1,0,0,1,1,0,0,1,1,1,0,1],.b 2,.b 1,.c [1,1,1,1,0,1,0,0,1,1,1],.l [1,1,1,1,0,1,0,0],.b 0,.c [1,1,1,1,1]] [(0,iv a0),(1,iv a1),(9,iv v_passed9),(12,iv (w64 (v28+1))),(26,.slice Aa2 a2.length ca2),(27,iv (a2.length:Int)),(28,iv v28),(38,.bool t2)] H (F):=by
  rcases bool_cases (t2) with hb6 | hb6
  ·replace heq:=bif_true hb6 heq
   refine Ct t2 hb6<|Ra 1 [1,1,1,1,0,1,0,0,1,1,0,0,1,1,1,0,1,0,0] [.c [1,1,1,1,0,1,0,0,1,1,0,0,1,1,1,0,1,0,1],.b 2,.b 1,.c [1,1,1,1,0,1,0,0,1,1,1],.l [1,1,1,1,0,1,0,0],.b 0,.c [1,1,1,1,1]]<|Rd 4 [6,7,8] [(6,iv 2),(7,iv (w64 (v28+1))),(8,iv 0)] ?_
   obtain rfl:=Option.some.inj heq
   exact RunH.done (by kernel_rfl) Tryz.func18 (v:=.tuple #[iv 2,iv (w64 (v28+1)),iv 0]) (by kernel_rfl) ⟨rfl,rfl,rfl⟩
  ·replace heq:=bif_false hb6 heq
   refine Cf t2 hb6<|Ra 1 [1,1,1,1,0,1,0,0,1,1,0,0,1,1,1,0,1,1,0] [.c [1,1,1,1,0,1,0,0,1,1,0,0,1,1,1,0,1,1,1],.b 2,.b 1,.c [1,1,1,1,0,1,0,0,1,1,1],.l [1,1,1,1,0,1,0,0],.b 0,.c [1,1,1,1,1]]<|Rd 4 [0,1,9,12,26,27,28,48] [(0,iv a0),(1,iv a1),(9,iv v_passed9),(12,iv (w64 (v28+1))),(26,.slice Aa2 a2.length ca2),(27,iv (a2.length:Int)),(28,iv v28),(48,.bool (v_passed9 == a1))] ?_
   rcases bool_cases (v_passed9 == a1) with hb7 | hb7
   ·replace heq:=bif_true hb7 heq
    refine Ct (v_passed9 == a1) hb7<|Ra 1 [1,1,1,1,0,1,0,0,1,1,0,0,1,1,1,0,1,1,1,0,0] [.c [1,1,1,1,0,1,0,0,1,1,0,0,1,1,1,0,1,1,1,0,1],.b 2,.b 1,.c [1,1,1,1,0,1,0,0,1,1,1],.l [1,1,1,1,0,1,0,0],.b 0,.c [1,1,1,1,1]]<|Rd 4 [6,7,8] [(6,iv 4),(7,iv (w64 (v28+1))),(8,iv 0)] ?_
    obtain rfl:=Option.some.inj heq
    exact RunH.done (by kernel_rfl) Tryz.func18 (v:=.tuple #[iv 4,iv (w64 (v28+1)),iv 0]) (by kernel_rfl) ⟨rfl,rfl,rfl⟩
   ·replace heq:=bif_false hb7 heq
    refine Cf (v_passed9 == a1) hb7<|Ra 1 [1,1,1,1,0,1,0,0,1,1,0,0,1,1,1,0,1,1,1,1,0] [.c [1,1,1,1,0,1,0,0,1,1,0,0,1,1,1,0,1,1,1,1,1],.b 2,.b 1,.c [1,1,1,1,0,1,0,0,1,1,1],.l [1,1,1,1,0,1,0,0],.b 0,.c [1,1,1,1,1]]<|Rd 8 [0,1,9,12,26,27,28,53] [(0,iv a0),(1,iv a1),(9,iv v_passed9),(12,iv (w64 (v28+1))),(26,.slice Aa2 a2.length ca2),(27,iv (a2.length:Int)),(28,iv v28),(53,.bool (decide ((w64 ((w64 (v_passed9+a0)) - (w64 (v28+1))))<a1)))] ?_
    rcases bool_cases (decide ((w64 ((w64 (v_passed9+a0)) - (w64 (v28+1))))<a1)) with hb8 | hb8
    ·replace heq:=bif_true hb8 heq
     refine Ct (decide ((w64 ((w64 (v_passed9+a0)) - (w64 (v28+1))))<a1)) hb8<|Ra 1 [1,1,1,1,0,1,0,0,1,1,0,0,1,1,1,0,1,1,1,1,1,0,0] [.c [1,1,1,1,0,1,0,0,1,1,0,0,1,1,1,0,1,1,1,1,1,0,1],.b 2,.b 1,.c [1,1,1,1,0,1,0,0,1,1,1],.l [1,1,1,1,0,1,0,0],.b 0,.c [1,1,1,1,1]]<|Rd 4 [6,7,8] [(6,iv 3),(7,iv (w64 (v28+1))),(8,iv 0)] ?_
     obtain rfl:=Option.some.inj heq
     exact RunH.done (by kernel_rfl) Tryz.func18 (v:=.tuple #[iv 3,iv (w64 (v28+1)),iv 0]) (by kernel_rfl) ⟨rfl,rfl,rfl⟩
    ·replace heq:=bif_false hb8 heq
     refine Cf (decide ((w64 ((w64 (v_passed9+a0)) - (w64 (v28+1))))<a1)) hb8<|Ra 3 [1,1,1,1,0,1,0,0,1,1,1] [.l [1,1,1,1,0,1,0,0],.b 0,.c [1,1,1,1,1]]<|Rd 2 [0,1,9,26,27,28] [(0,iv a0),(1,iv a1),(9,iv v_passed9),(26,.slice Aa2 a2.length ca2),(27,iv (a2.length:Int)),(28,iv (w64 (v28+1)))]<|Ad 1 [.c [1,1,1,1,0,1,0,0],.l [1,1,1,1,0,1,0,0],.b 0,.c [1,1,1,1,1]]<|Kp [0,1,9,26,27,28] [(0,iv a0),(1,iv a1),(9,iv v_passed9),(26,.slice Aa2 a2.length ca2),(27,iv (a2.length:Int)),(28,iv (w64 (v28+1)))] ?_
     exact hbackl2 a0 a1 a2 _ _ v_passed9 (w64 (v28+1)) hra2 hca2 heq
 replace heq:=ht2
 refine Rr<|Rk 4 [42,0,1,9,12,26,27,28] [(42,.bool (v_passed9 == a1)),(0,iv a0),(1,iv a1),(9,iv v_passed9),(12,iv (w64 (v28+1))),(26,.slice Aa2 a2.length ca2),(27,iv (a2.length:Int)),(28,iv v28)] ?_
 rcases bool_cases (v_passed9 == a1) with hb5 | hb5
 ·replace heq:=bif_true hb5 heq
  refine RgH.val1 (v':=.bool true) (congrArg Value.bool hb5) ?_
  refine Rk 9 [0,1,9,12,26,27,28,38] [(0,iv a0),(1,iv a1),(9,iv v_passed9),(12,iv (w64 (v28+1))),(26,.slice Aa2 a2.length ca2),(27,iv (a2.length:Int)),(28,iv v28),(38,.bool ((w64 (v28+1)) == a1))] ?_
  obtain rfl:=Option.some.inj heq
  refine Kg [0,1,9,12,26,27,28,38] [(0,iv a0),(1,iv a1),(9,iv v_passed9),(12,iv (w64 (v28+1))),(26,.slice Aa2 a2.length ca2),(27,iv (a2.length:Int)),(28,iv v28),(38,.bool ((w64 (v28+1)) == a1))]<|Dn ?_
  exact K2
 ·replace heq:=bif_false hb5 heq
  refine RgH.val1 (v':=.bool false) (congrArg Value.bool hb5) ?_
  refine Rk 9 [0,1,9,12,26,27,28,38] [(0,iv a0),(1,iv a1),(9,iv v_passed9),(12,iv (w64 (v28+1))),(26,.slice Aa2 a2.length ca2),(27,iv (a2.length:Int)),(28,iv v28),(38,.bool false)] ?_
  obtain rfl:=Option.some.inj heq
  refine Kg [0,1,9,12,26,27,28,38] [(0,iv a0),(1,iv a1),(9,iv v_passed9),(12,iv (w64 (v28+1))),(26,.slice Aa2 a2.length ca2),(27,iv (a2.length:Int)),(28,iv v28),(38,.bool false)]<|Dn ?_
  exact K2
theorem trials_Tried.l2_c {w0:World} [TabI Tryz.prog "internal/strconv.uint64pow10" 1 w0] [GlobI 0 w0] {H:Hp} {F:List Ch} {r:Int × Int × Int} (e1:Int→Option (Int × Int × Int))
  (he1:∀ (a0:Int) ,e1 a0=some r→RunH C18 (S18 F H r) H w0 [.c [1,1,1,1,1,0],.c [1,1,1,1,1,1]] [(0,iv a0)] H (F)):∀ (k:Nat),∀ (a0:Int) (a1:Int) (a2:List Bool) (Aa2:Option Addr) (ca2:Nat) (v_passed9:Int) (v28:Int) ,Rw Kd.bool H F Aa2 a2→a2.length≤ca2→trials_Tried.l2 e1 k a0 a1 a2 v_passed9 v28=some r→RunH C18 (S18 F H r) H w0 [.c [1,1,1,1,0,1,0,0],.l [1,1,1,1,0,1,0,0],.b 0,.c [1,1,1,1,1]] [(0,iv a0),(1,iv a1),(9,iv v_passed9),(26,.slice Aa2 a2.length ca2),(27,iv (a2.length:Int)),(28,iv v28)] H (F):=by
 intro k
 induction k with
 | zero=>intro a0 a1 a2 Aa2 ca2 v_passed9 v28 hra2 hca2 heq; exact nomatch (show (none:Option (Int × Int × Int))=some r from heq)
 | succ k ihk =>
  intro a0 a1 a2 Aa2 ca2 v_passed9 v28 hra2 hca2 heq
  rw [trials_Tried.l2] at heq
  refine Ra 1 [1,1,1,1,0,1,0,0,0] [.c [1,1,1,1,0,1,0,0,1],.l [1,1,1,1,0,1,0,0],.b 0,.c [1,1,1,1,1]]<|Rd 1 [0,1,9,26,27,28,29] [(0,iv a0),(1,iv a1),(9,iv v_passed9),(26,.slice Aa2 a2.length ca2),(27,iv (a2.length:Int)),(28,iv v28),(29,.bool (decide (v28<(a2.length:Int))))]<|Ad 1 [.c [1,1,1,1,0,1,0,0,1,0],.c [1,1,1,1,0,1,0,0,1,1],.l [1,1,1,1,0,1,0,0],.b 0,.c [1,1,1,1,1]] ?_
  rcases bool_cases (decide (v28<(a2.length:Int))) with hb4 | hb4
  ·replace heq:=bif_true hb4 heq
   refine Ct (decide (v28<(a2.length:Int))) hb4<|Ra 4 [1,1,1,1,0,1,0,0,1,1,0,0,0] [.c [1,1,1,1,0,1,0,0,1,1,0,0,1],.b 1,.c [1,1,1,1,0,1,0,0,1,1,1],.l [1,1,1,1,0,1,0,0],.b 0,.c [1,1,1,1,1]] ?_
   obtain ⟨x1,hx1,heq⟩:=bind_some heq
   obtain ⟨ha1,cs1,hK1,hcc1⟩:=hra2.get hx1
   obtain rfl:cs1=[.bool x1]:=hK1
   refine Rw' 5 [0,1,9,10,11,26,27,28] [.bool x1] [.need (Aa2=some (adr Aa2)∧(0:Int)≤v28∧v28<((a2.length:Nat):Int)),.load ((adr Aa2).add (v28.toNat*1)) (.bool x1)] [(0,iv a0),(1,iv a1),(9,iv v_passed9),(10,iv v28),(11,.bool x1),(26,.slice Aa2 a2.length ca2),(27,iv (a2.length:Int)),(28,iv v28)] (fun w hh=>⟨⟨ha1,(at?_some hx1).1,(at?_some hx1).2.1⟩,(hcc1 _ _ (hh.drop 0) 0 _ rfl)⟩)<|Ra 2 [1,1,1,1,0,1,0,0,1,1,0,0,1,0,0] [.c [1,1,1,1,0,1,0,0,1,1,0,0,1,0,1],.c [1,1,1,1,0,1,0,0,1,1,0,0,1,1],.b 1,.c [1,1,1,1,0,1,0,0,1,1,1],.l [1,1,1,1,0,1,0,0],.b 0,.c [1,1,1,1,1]]<|Rd 1 [0,1,9,10,26,27,28,33] [(0,iv a0),(1,iv a1),(9,iv v_passed9),(10,iv v28),(26,.slice Aa2 a2.length ca2),(27,iv (a2.length:Int)),(28,iv v28),(33,.bool x1)] ?_
   rcases bool_cases (x1) with hb9 | hb9
   ·replace heq:=bif_true hb9 heq
    refine Ct x1 hb9<|Rr<|Rd 3 [0,1,9,10,26,27,28] [(0,iv a0),(1,iv a1),(9,iv (w64 (v_passed9+1))),(10,iv v28),(26,.slice Aa2 a2.length ca2),(27,iv (a2.length:Int)),(28,iv v28)]<|Ad 1 [.c [1,1,1,1,0,1,0,0,1,1,0,0,1,1,0],.c [1,1,1,1,0,1,0,0,1,1,0,0,1,1,1],.b 1,.c [1,1,1,1,0,1,0,0,1,1,1],.l [1,1,1,1,0,1,0,0],.b 0,.c [1,1,1,1,1]]<|Kp [0,1,9,10,26,27,28] [(0,iv a0),(1,iv a1),(9,iv (w64 (v_passed9+1))),(10,iv v28),(26,.slice Aa2 a2.length ca2),(27,iv (a2.length:Int)),(28,iv v28)] ?_
    exact (trials_Tried.j3_c (backl2:=(trials_Tried.l2 e1 k)) ihk) a0 a1 a2 _ _ v28 (w64 (v_passed9+1)) hra2 hca2 heq
   ·replace heq:=bif_false hb9 heq
    refine Cf x1 hb9<|Ad 2 [.c [1,1,1,1,0,1,0,0,1,1,0,0,1,1,0],.c [1,1,1,1,0,1,0,0,1,1,0,0,1,1,1],.b 1,.c [1,1,1,1,0,1,0,0,1,1,1],.l [1,1,1,1,0,1,0,0],.b 0,.c [1,1,1,1,1]]<|Kp [0,1,9,10,26,27,28] [(0,iv a0),(1,iv a1),(9,iv v_passed9),(10,iv v28),(26,.slice Aa2 a2.length ca2),(27,iv (a2.length:Int)),(28,iv v28)] ?_
    exact (trials_Tried.j3_c (backl2:=(trials_Tried.l2 e1 k)) ihk) a0 a1 a2 _ _ v28 v_passed9 hra2 hca2 heq
  ·replace heq:=bif_false hb4 heq
   refine Cf (decide (v28<(a2.length:Int))) hb4<|Ad 2 [.c [1,1,1,1,1,0],.c [1,1,1,1,1,1]]<|Kp [0] [(0,iv a0)] ?_
   exact he1 a0 heq
theorem trials_Tried_c {w0:World} [TabI Tryz.prog "internal/strconv.uint64pow10" 1 w0] [GlobI 0 w0] {H:Hp} {F:List Ch} {a0:Int} {a1:Int} {a2:List Bool} {Aa2:Option Addr} {na2:Nat} {ca2:Nat} {r:Int × Int × Int} (hra2:Rw Kd.bool H F Aa2 a2) (hca2:na2≤ca2) (hna2:na2=a2.length) (heq:trials_Tried.f a0 a1 a2=some r):CallsH Tryz.prog 18 #[iv a0,iv a1,.slice Aa2 na2 ca2] H w0 (F) (S18 F H r):=by
 refine calls_of_runH (F:=C18) Tryz.func18 (by kernel_rfl) Tryz.ntmps18 (args:=[iv a0,iv a1,.slice Aa2 na2 ca2]) (by kernel_rfl) ?_
 subst hna2
 unfold trials_Tried.f at heq
 refine Ra 1 [0] [.c [1]]<|Rd 3 [0,1,2] [(0,iv a0),(1,iv a1),(2,.slice Aa2 a2.length ca2)]<|Ad 2 [.c [1,0,0],.c [1,0,1],.c [1,1]] ?_
 obtain ⟨t1,ht1,heq⟩:=bind_some heq
 have K1:RunH C18 (S18 F H r) H w0 [.c [1,0,1],.c [1,1]] [(0,iv a0),(1,iv a1),(2,.slice Aa2 a2.length ca2),(21,.bool t1)] H (F):=by
  rcases bool_cases (t1) with hb2 | hb2
  ·replace heq:=bif_true hb2 heq
   refine Ct t1 hb2<|Ra 1 [1,0,1,0,0] [.c [1,0,1,0,1],.c [1,1]]<|Rd 3 [6,7,8] [(6,iv 0),(7,iv 0),(8,iv 1)] ?_
   obtain rfl:=Option.some.inj heq
   exact RunH.done (by kernel_rfl) Tryz.func18 (v:=.tuple #[iv 0,iv 0,iv 1]) (by kernel_rfl) ⟨rfl,rfl,rfl⟩
  ·replace heq:=bif_false hb2 heq
   refine Cf t1 hb2<|Ra 3 [1,1,0,0] [.c [1,1,0,1],.c [1,1,1]]<|Rd 4 [0,1,2,25] [(0,iv a0),(1,iv a1),(2,.slice Aa2 a2.length ca2),(25,.bool ((a2.length:Int) != a0))] ?_
   rcases bool_cases ((a2.length:Int) != a0) with hb3 | hb3
   ·replace heq:=bif_true hb3 heq
    refine Ct ((a2.length:Int) != a0) hb3<|Ra 1 [1,1,0,1,0,0] [.c [1,1,0,1,0,1],.c [1,1,1]]<|Rd 3 [6,7,8] [(6,iv 0),(7,iv 0),(8,iv 3)] ?_
    obtain rfl:=Option.some.inj heq
    exact RunH.done (by kernel_rfl) Tryz.func18 (v:=.tuple #[iv 0,iv 0,iv 3]) (by kernel_rfl) ⟨rfl,rfl,rfl⟩
   ·replace heq:=bif_false hb3 heq
    refine Cf ((a2.length:Int) != a0) hb3<|Ra 2 [1,1,1,0] [.c [1,1,1,1]]<|Rd 1 [0,1,2,9] [(0,iv a0),(1,iv a1),(2,.slice Aa2 a2.length ca2),(9,iv 0)]<|Ra 2 [1,1,1,1,0,0] [.c [1,1,1,1,0,1],.c [1,1,1,1,1]]<|Rd 3 [0,1,9,26,27,28] [(0,iv a0),(1,iv a1),(9,iv 0),(26,.slice Aa2 a2.length ca2),(27,iv (a2.length:Int)),(28,iv 0)]<|Ad 2 [.c [1,1,1,1,0,1,0,0],.l [1,1,1,1,0,1,0,0],.b 0,.c [1,1,1,1,1]]<|Kp [0,1,9,26,27,28] [(0,iv a0),(1,iv a1),(9,iv 0),(26,.slice Aa2 a2.length ca2),(27,iv (a2.length:Int)),(28,iv 0)] ?_
    exact ((trials_Tried.l2_c (e1:=trials_Tried.e1) (trials_Tried.e1_c)) big) a0 a1 a2 _ _ 0 0 hra2 hca2 heq
 replace heq:=ht1
 refine Rr<|Rk 1 [0,1,2,13] [(0,iv a0),(1,iv a1),(2,.slice Aa2 a2.length ca2),(13,iv a0)] ?_
 obtain ⟨y1,hy1,heq⟩:=bind_some heq
 refine RgH.does (DoesH.call (d:=14) (g:=23) (args:=#[iv a0,iv 1,iv 100]) (by kernel_rfl) (trials_within_c (a0:=a0) (a1:=1) (a2:=100)  hy1)) ?_
 rintro _ _ _ _ ⟨_,rfl,rfl,rfl,rfl⟩
 refine Rk 4 [16,0,1,2] [(16,.bool (!y1)),(0,iv a0),(1,iv a1),(2,.slice Aa2 a2.length ca2)] ?_
 rcases bool_cases (!y1) with hb1 | hb1
 ·replace heq:=bif_true hb1 heq
  refine RgH.val1 (v':=.bool true) (congrArg Value.bool hb1) ?_
  refine Rk 9 [0,1,2,21] [(0,iv a0),(1,iv a1),(2,.slice Aa2 a2.length ca2),(21,.bool true)] ?_
  obtain rfl:=Option.some.inj heq
  refine Kg [0,1,2,21] [(0,iv a0),(1,iv a1),(2,.slice Aa2 a2.length ca2),(21,.bool true)]<|Dn ?_
  exact K1
 ·replace heq:=bif_false hb1 heq
  refine RgH.val1 (v':=.bool false) (congrArg Value.bool hb1) ?_
  refine Rk 6 [0,1,2,16,17,18] [(0,iv a0),(1,iv a1),(2,.slice Aa2 a2.length ca2),(16,.bool false),(17,iv a1),(18,iv a0)] ?_
  obtain ⟨y2,hy2,heq⟩:=bind_some heq
  refine RgH.does (DoesH.call (d:=19) (g:=23) (args:=#[iv a1,iv 1,iv a0]) (by kernel_rfl) (trials_within_c (a0:=a1) (a1:=1) (a2:=a0)  hy2)) ?_
  rintro _ _ _ _ ⟨_,rfl,rfl,rfl,rfl⟩
  refine Rk 9 [0,1,2,21] [(0,iv a0),(1,iv a1),(2,.slice Aa2 a2.length ca2),(21,.bool (!y2))] ?_
  obtain rfl:=Option.some.inj heq
  refine Kg [0,1,2,21] [(0,iv a0),(1,iv a1),(2,.slice Aa2 a2.length ca2),(21,.bool (!y2))]<|Dn ?_
  exact K1
noncomputable def C8:Ctx:={ P:=Tryz.prog,f:=8,N:=20,c:=bodyOf Tryz.f8 }
def S8 (F:List Ch) (H0:Hp) (r:Bool) (v:Value) (H:Hp) (cs:List Ch):Prop:=H0=H∧v=.bool r∧F=cs
theorem smithyardlaw10_awake_c {w0:World} [TabI Tryz.prog "internal/strconv.uint64pow10" 1 w0] [GlobI 0 w0] {H:Hp} {F:List Ch} {r:Bool} (heq:smithyardlaw10_awake.f=some r):CallsH Tryz.prog 8 (List.toArray []) H w0 (F) (S8 F H r):=by
 refine calls_of_runH (F:=C8) Tryz.func8 (by kernel_rfl) Tryz.ntmps8 (args:=[]) (by kernel_rfl) ?_
 unfold smithyardlaw10_awake.f at heq
 refine Ra 1 [0] [.c [1]]<|Rd 1 [] []<|Ra 1 [1,0] [.c [1,1]] ?_
 refine RgH.does (DoesH.new (d:=5) (v:=fun g=>.slice (some ⟨g,0,none⟩) 3 3) (o:=fun g=>.cells #[.bool false,.bool true,.bool true] 4 (0,0)) (fun g=>by kernel_rfl)) ?_
 rintro _ _ _ _ ⟨g1,rfl,rfl,rfl⟩
 have ho1:SlOwn Kd.bool 4 H (some ⟨g1,0,none⟩) 3 ([false,true,true]:List Bool) (some (g1,.cells #[.bool false,.bool true,.bool true] 4 (0,0))):=SlOwn.lit (xs:=([false,true,true]:List Bool)) (by kernel_rfl) (Nat.le_of_ble_eq_true (by kernel_rfl)) (Kd.Rep.scalars rfl)
 obtain ⟨y1,hy1,heq⟩:=bind_some heq
 refine RgH.does (DoesH.call (d:=6) (g:=18) (args:=#[iv 3,iv 1,.slice (some ⟨g1,0,none⟩) 3 3]) (by kernel_rfl) (trials_Tried_c (a0:=3) (a1:=1) (a2:=([false,true,true]:List Bool)) (ho1.rw (.head _)) ho1.cap rfl hy1)) ?_
 rintro _ _ _ _ ⟨_,rfl,rfl,rfl,rfl⟩
 refine Rd 9 [1,2,3] [(1,iv y1.1),(2,iv y1.2.1),(3,iv y1.2.2)]<|Ad 1 [.c [1,1,0],.c [1,1,1]] ?_
 obtain ⟨t1,ht1,heq⟩:=bind_some heq
 have K2:RunH C8 (S8 F H r) H w0 [.c [1,1,1]] [(0,.bool t1)] H (F):=by
  obtain rfl:=Option.some.inj heq
  exact RunH.done (by kernel_rfl) Tryz.func8 (v:=.bool t1) (by kernel_rfl) ⟨rfl,rfl,rfl⟩
 replace heq:=ht1
 refine Rr<|Rk 3 [12,1,2] [(12,.bool (y1.2.2 == 0)),(1,iv y1.1),(2,iv y1.2.1)] ?_
 rcases bool_cases (y1.2.2 == 0) with hb1 | hb1
 ·replace heq:=bif_true hb1 heq
  refine RgH.val1 (v':=.bool true) (congrArg Value.bool hb1) ?_
  refine Rk 7 [16,2] [(16,.bool (y1.1 == 4)),(2,iv y1.2.1)] ?_
  rcases bool_cases (y1.1 == 4) with hb2 | hb2
  ·replace heq:=bif_true hb2 heq
   refine RgH.val1 (v':=.bool true) (congrArg Value.bool hb2) ?_
   refine Rk 11 [0] [(0,.bool (y1.2.1 == 2))] ?_
   obtain rfl:=Option.some.inj heq
   refine Kg [0] [(0,.bool (y1.2.1 == 2))] ?_
   refine RgH.pick 1 [] (cs':=F) (by kernel_rfl) rfl ?_
   refine Dn ?_
   exact K2
  ·replace heq:=bif_false hb2 heq
   refine RgH.val1 (v':=.bool false) (congrArg Value.bool hb2) ?_
   refine Rk 11 [0] [(0,.bool false)] ?_
   obtain rfl:=Option.some.inj heq
   refine Kg [0] [(0,.bool false)] ?_
   refine RgH.pick 1 [] (cs':=F) (by kernel_rfl) rfl ?_
   refine Dn ?_
   exact K2
 ·replace heq:=bif_false hb1 heq
  refine RgH.val1 (v':=.bool false) (congrArg Value.bool hb1) ?_
  refine Rk 11 [0] [(0,.bool false)] ?_
  obtain rfl:=Option.some.inj heq
  refine Kg [0] [(0,.bool false)] ?_
  refine RgH.pick 1 [] (cs':=F) (by kernel_rfl) rfl ?_
  refine Dn ?_
  exact K2
def S42 (F:List Ch) (H0:Hp) (r:Int) (v:Value) (H:Hp) (cs:List Ch):Prop:=H0=H∧v=iv r∧F=cs
theorem stringslite_Index_c {w0:World} [TabI Tryz.prog "internal/strconv.uint64pow10" 1 w0] [GlobI 0 w0] {H:Hp} {F:List Ch} {a0 a1:ByteArray} {r:Int} (heq:stringslite_Index.f a0 a1=some r):CallsH Tryz.prog 42 #[.string a0,.string a1] H w0 F (S42 F H r):=by
 intro w hh
 unfold stringslite_Index.f at heq
 obtain ⟨hn,heq⟩:=guard?_some heq
 obtain rfl:=Option.some.inj heq
 obtain ⟨c,rfl⟩:∃ c,a1=⟨#[c]⟩:=by
  obtain ⟨⟨l⟩⟩:=a1
  match l,hn with
  | [c],_=>exact ⟨c,rfl⟩
 refine (Shelf.Tryz.stringslite_Index_one a0 c w).mono ?_
 rintro e w' ⟨rfl,rfl⟩
 exact ⟨_,rfl,_,_,Le.refl _,hh,rfl,rfl,rfl⟩
noncomputable def C30:Ctx:={ P:=Tryz.prog,f:=30,N:=23,c:=bodyOf Tryz.f30 }
def S30 (F:List Ch) (H0:Hp) (r:ByteArray × ByteArray × Bool) (v:Value) (H:Hp) (cs:List Ch):Prop:=H0=H∧v=.tuple #[.string r.1,.string r.2.1,.bool r.2.2]∧F=cs
theorem stringslite_Cut_c {w0:World} [TabI Tryz.prog "internal/strconv.uint64pow10" 1 w0] [GlobI 0 w0] {H:Hp} {F:List Ch} {a0:ByteArray} {a1:ByteArray} {r:ByteArray × ByteArray × Bool} (heq:stringslite_Cut.f a0 a1=some r):CallsH Tryz.prog 30 #[.string a0,.string a1] H w0 (F) (S30 F H r):=by
 refine calls_of_runH (F:=C30) Tryz.func30 (by kernel_rfl) Tryz.ntmps30 (args:=[.string a0,.string a1]) (by kernel_rfl) ?_
 unfold stringslite_Cut.f at heq
 refine Ra 1 [0] [.c [1]]<|Rd 3 [0,1] [(0,.string a0),(1,.string a1)]<|Ra 2 [1,0,0] [.c [1,0,1],.c [1,1]]<|Rk 2 [0,1,8,9] [(0,.string a0),(1,.string a1),(8,.string a0),(9,.string a1)] ?_
 obtain ⟨y1,hy1,heq⟩:=bind_some heq
 refine RgH.does (DoesH.call (d:=10) (g:=42) (args:=#[.string a0,.string a1]) (by kernel_rfl) (stringslite_Index_c (a0:=a0) (a1:=a1)  hy1)) ?_
 rintro _ _ _ _ ⟨_,rfl,rfl,rfl,rfl⟩
 refine Rd 4 [0,1,7] [(0,.string a0),(1,.string a1),(7,iv y1)]<|Ra 1 [1,0,1,0] [.c [1,0,1,1],.c [1,1]]<|Rd 2 [0,1,7,12] [(0,.string a0),(1,.string a1),(7,iv y1),(12,.bool (decide (0≤y1)))] ?_
 rcases bool_cases (decide (0≤y1)) with hb1 | hb1
 ·replace heq:=bif_true hb1 heq
  refine Ct (decide (0≤y1)) hb1<|Ad 1 [.c [1,0,1,1,0,0],.c [1,0,1,1,0,1],.c [1,1]]<|Kp [0,1,7] [(0,.string a0),(1,.string a1),(7,iv y1)] ?_
  refine RunH.draw (fun w=>Heap H w0 w (F)) (fun w=>Heap H w0 w (F)) [3,3,3,3,3,3,3,3,3,3,3,3] (n:=12) (ls:=[false,false,false,false,false,false,false,false,false,false,false,false]) (by kernel_rfl) (by kernel_rfl) (by kernel_rfl) rfl ?_
  obtain ⟨hn1,heq⟩:=guard?_some heq
  obtain ⟨hn2,heq⟩:=guard?_some heq
  refine Dk [0,1,2,3,4,5,6,7,8,9,10,11] 0 (nb 12 4095) [] [.need ((0:Int)≤y1∧y1≤(a0.size:Int)),.need ((0:Int)≤(w64 (y1+(a1.size:Int)))∧(w64 (y1+(a1.size:Int)))≤(a0.size:Int))] [4,5,6] [(4,.string (a0.extract 0 y1.toNat)),(5,.string (a0.extract (w64 (y1+(a1.size:Int))).toNat a0.size)),(6,.bool true)] (Pk 0 []) (Pk 0 []) (fun w hh=>⟨(both_of hn1),(both_of hn2)⟩) ?_
  refine DrH.done (by kernel_rfl) ?_
  obtain rfl:=Option.some.inj heq
  exact RunH.done (by kernel_rfl) Tryz.func30 (v:=.tuple #[.string (a0.extract 0 y1.toNat),.string (a0.extract (w64 (y1+(a1.size:Int))).toNat a0.size),.bool true]) (by kernel_rfl) ⟨rfl,rfl,rfl⟩
 ·replace heq:=bif_false hb1 heq
  refine Cf (decide (0≤y1)) hb1<|Ra 2 [1,1,0] [.c [1,1,1]]<|Rd 4 [4,5,6] [(4,.string a0),(5,.string ({ data:=#[] }:ByteArray)),(6,.bool false)] ?_
  obtain rfl:=Option.some.inj heq
  exact RunH.done (by kernel_rfl) Tryz.func30 (v:=.tuple #[.string a0,.string ({ data:=#[] }:ByteArray),.bool false]) (by kernel_rfl) ⟨rfl,rfl,rfl⟩
noncomputable def C19:Ctx:={ P:=Tryz.prog,f:=19,N:=13,c:=bodyOf Tryz.f19 }
def S19 (F:List Ch) (H0:Hp) (r:ByteArray × ByteArray × Bool) (v:Value) (H:Hp) (cs:List Ch):Prop:=H0=H∧v=.tuple #[.string r.1,.string r.2.1,.bool r.2.2]∧F=cs
theorem strings_Cut_c {w0:World} [TabI Tryz.prog "internal/strconv.uint64pow10" 1 w0] [GlobI 0 w0] {H:Hp} {F:List Ch} {a0:ByteArray} {a1:ByteArray} {r:ByteArray × ByteArray × Bool} (heq:strings_Cut.f a0 a1=some r):CallsH Tryz.prog 19 #[.string a0,.string a1] H w0 (F) (S19 F H r):=by
 refine calls_of_runH (F:=C19) Tryz.func19 (by kernel_rfl) Tryz.ntmps19 (args:=[.string a0,.string a1]) (by kernel_rfl) ?_
 unfold strings_Cut.f at heq
 refine Ra 1 [0] [.c [1]]<|Rd 3 [0,1] [(0,.string a0),(1,.string a1)]<|Ra 1 [1,0] [.c [1,1]]<|Rk 2 [7,8] [(7,.string a0),(8,.string a1)] ?_
 obtain ⟨y1,hy1,heq⟩:=bind_some heq
 refine RgH.does (DoesH.call (d:=9) (g:=30) (args:=#[.string a0,.string a1]) (by kernel_rfl) (stringslite_Cut_c (a0:=a0) (a1:=a1)  hy1)) ?_
 rintro _ _ _ _ ⟨_,rfl,rfl,rfl,rfl⟩
 refine Rd 9 [4,5,6] [(4,.string y1.1),(5,.string y1.2.1),(6,.bool y1.2.2)] ?_
 obtain rfl:=Option.some.inj heq
 exact RunH.done (by kernel_rfl) Tryz.func19 (v:=.tuple #[.string y1.1,.string y1.2.1,.bool y1.2.2]) (by kernel_rfl) ⟨rfl,rfl,rfl⟩
theorem pred46 (W:World) (x:Nat):FnGives Tryz.prog 46 #[] #[.int .i32 (x:Int)] (.bool (badR x)) W:=by
 unfold FnGives badR
 go_enter Tryz.func46,Tryz.ntmps46
 go_wp2
 all_goals (go_ret; exact ⟨rfl,0,rfl⟩)
def S45 (F:List Ch) (H0:Hp) (r:Bool) (v:Value) (H:Hp) (cs:List Ch):Prop:=H0=H∧v=.bool r∧F=cs
theorem strings_ContainsFunc_c {w0:World} [TabI Tryz.prog "internal/strconv.uint64pow10" 1 w0] [GlobI 0 w0] {H:Hp} {F:List Ch} {a0:ByteArray} {r:Bool} (heq:strings_ContainsFunc.f a0=some r):CallsH Tryz.prog 45 #[.string a0,.func (.func 46) #[] #[]] H w0 F (S45 F H r):=by
 intro w hh
 unfold strings_ContainsFunc.f at heq
 obtain rfl:=Option.some.inj heq
 refine (Shelf.Tryz.strings_ContainsFunc 46 #[] (enters_of Tryz.func46 (by kernel_rfl) rfl) badR a0 w (fun W x _=>pred46 W x)).mono ?_
 rintro e w' ⟨rfl,hb⟩
 rw [bad_eq]
 exact ⟨_,rfl,_,_,Le.refl _,hh.later hb,rfl,rfl,rfl⟩
noncomputable def C34:Ctx:={ P:=Tryz.prog,f:=34,N:=10,c:=bodyOf Tryz.f34 }
def S34 (F:List Ch) (H0:Hp) (r:Bool) (v:Value) (H:Hp) (cs:List Ch):Prop:=H0=H∧v=.bool r∧F=cs
theorem trials_isWord_c {w0:World} [TabI Tryz.prog "internal/strconv.uint64pow10" 1 w0] [GlobI 0 w0] {H:Hp} {F:List Ch} {a0:ByteArray} {r:Bool} (heq:trials_isWord.f a0=some r):CallsH Tryz.prog 34 #[.string a0] H w0 (F) (S34 F H r):=by
 refine calls_of_runH (F:=C34) Tryz.func34 (by kernel_rfl) Tryz.ntmps34 (args:=[.string a0]) (by kernel_rfl) ?_
 unfold trials_isWord.f at heq
 refine Ra 1 [0] [.c [1]]<|Rd 1 [0] [(0,.string a0)]<|Ad 1 [.c [1,0],.c [1,1]] ?_
 obtain ⟨t1,ht1,heq⟩:=bind_some heq
 have K1:RunH C34 (S34 F H r) H w0 [.c [1,1]] [(2,.bool t1)] H (F):=by
  obtain rfl:=Option.some.inj heq
  exact RunH.done (by kernel_rfl) Tryz.func34 (v:=.bool t1) (by kernel_rfl) ⟨rfl,rfl,rfl⟩
 replace heq:=ht1
 refine Rr<|Rk 3 [5,0] [(5,.bool (!sEq a0 ({ data:=#[] }:ByteArray))),(0,.string a0)] ?_
 rcases bool_cases (!sEq a0 ({ data:=#[] }:ByteArray)) with hb1 | hb1
 ·replace heq:=bif_true hb1 heq
  refine RgH.val1 (v':=.bool true) (congrArg Value.bool hb1) ?_
  refine Rk 4 [5,6] [(5,.bool true),(6,.string a0)] ?_
  obtain ⟨y1,hy1,heq⟩:=bind_some heq
  refine RgH.does (DoesH.call (d:=7) (g:=45) (args:=#[.string a0,.func (.func 46) #[] #[]]) (by kernel_rfl) (strings_ContainsFunc_c (a0:=a0)  hy1)) ?_
  rintro _ _ _ _ ⟨_,rfl,rfl,rfl,rfl⟩
  refine Rk 8 [2] [(2,.bool (!y1))] ?_
  obtain rfl:=Option.some.inj heq
  refine Kg [2] [(2,.bool (!y1))]<|Dn ?_
  exact K1
 ·replace heq:=bif_false hb1 heq
  refine RgH.val1 (v':=.bool false) (congrArg Value.bool hb1) ?_
  refine Rk 8 [2] [(2,.bool false)] ?_
  obtain rfl:=Option.some.inj heq
  refine Kg [2] [(2,.bool false)]<|Dn ?_
  exact K1
noncomputable def C33:Ctx:={ P:=Tryz.prog,f:=33,N:=6,c:=bodyOf Tryz.f33 }
def S33 (F:List Ch) (H0:Hp) (r:Bool) (v:Value) (H:Hp) (cs:List Ch):Prop:=H0=H∧v=.bool r∧F=cs
theorem trials_readRun_1_c {w0:World} [TabI Tryz.prog "internal/strconv.uint64pow10" 1 w0] [GlobI 0 w0] {H:Hp} {F:List Ch} {a0:ByteArray} {r:Bool} (heq:trials_readRun_1.f a0=some r):CallsH Tryz.prog 33 #[.string a0] H w0 (F) (S33 F H r):=by
 refine calls_of_runH (F:=C33) Tryz.func33 (by kernel_rfl) Tryz.ntmps33 (args:=[.string a0]) (by kernel_rfl) ?_
 unfold trials_readRun_1.f at heq
 refine Ra 1 [0] [.c [1]]<|Rd 1 [0] [(0,.string a0)]<|Ra 1 [1,0] [.c [1,1]]<|Rk 1 [3] [(3,.string a0)] ?_
 obtain ⟨y1,hy1,heq⟩:=bind_some heq
 refine RgH.does (DoesH.call (d:=4) (g:=34) (args:=#[.string a0]) (by kernel_rfl) (trials_isWord_c (a0:=a0)  hy1)) ?_
 rintro _ _ _ _ ⟨_,rfl,rfl,rfl,rfl⟩
 refine Rd 4 [2] [(2,.bool (!y1))] ?_
 obtain rfl:=Option.some.inj heq
 exact RunH.done (by kernel_rfl) Tryz.func33 (v:=.bool (!y1)) (by kernel_rfl) ⟨rfl,rfl,rfl⟩
noncomputable def C44:Ctx:={ P:=Tryz.prog,f:=44,N:=19,c:=bodyOf Tryz.f44 }
def S44 (F:List Ch) (H0:Hp) (r:Int) (v:Value) (H:Hp) (cs:List Ch):Prop:=H0=H∧v=iv r∧F=cs
theorem slices_IndexFunc_string.e1_c {w0:World} [TabI Tryz.prog "internal/strconv.uint64pow10" 1 w0] [GlobI 0 w0] {H:Hp} {F:List Ch} {r:Int}:slices_IndexFunc_string.e1=some r→RunH C44 (S44 F H r) H w0 [.c [1,1,0],.c [1,1,1]] [] H (F):=by
 intro   heq
 unfold slices_IndexFunc_string.e1 at heq
 refine Rr<|Rd 1 [4] [(4,iv (-1))] ?_
 obtain rfl:=Option.some.inj heq
 exact RunH.done (by kernel_rfl) Tryz.func44 (v:=iv (-1)) (by kernel_rfl) ⟨rfl,rfl,rfl⟩
theorem slices_IndexFunc_string.l2_c {w0:World} [TabI Tryz.prog "internal/strconv.uint64pow10" 1 w0] [GlobI 0 w0] {H:Hp} {F:List Ch} {r:Int} (e1:Option Int)
  (he1:e1=some r→RunH C44 (S44 F H r) H w0 [.c [1,1,0],.c [1,1,1]] [] H (F)):∀ (k:Nat),∀ (a0:List ByteArray) (Aa0:Option Addr) (ca0:Nat) (v8:Int) ,Rw Kd.string H F Aa0 a0→a0.length≤ca0→slices_IndexFunc_string.l2 e1 k a0 v8=some r→RunH C44 (S44 F H r) H w0 [.c [1,0,1,0,0],.l [1,0,1,0,0],.b 0,.c [1,1]] [(0,.slice Aa0 a0.length ca0),(1,.func (.func 33) #[] #[]),(7,iv (a0.length:Int)),(8,iv v8)] H (F):=by
 intro k
 induction k with
 | zero=>intro a0 Aa0 ca0 v8 hra0 hca0 heq; exact nomatch (show (none:Option Int)=some r from heq)
 | succ k ihk =>
  intro a0 Aa0 ca0 v8 hra0 hca0 heq
  rw [slices_IndexFunc_string.l2] at heq
  refine Ra 1 [1,0,1,0,0,0] [.c [1,0,1,0,0,1],.l [1,0,1,0,0],.b 0,.c [1,1]]<|Rd 1 [0,1,7,8,9] [(0,.slice Aa0 a0.length ca0),(1,.func (.func 33) #[] #[]),(7,iv (a0.length:Int)),(8,iv v8),(9,.bool (decide (v8<(a0.length:Int))))]<|Ad 1 [.c [1,0,1,0,0,1,0],.c [1,0,1,0,0,1,1],.l [1,0,1,0,0],.b 0,.c [1,1]] ?_
  rcases bool_cases (decide (v8<(a0.length:Int))) with hb1 | hb1
  ·replace heq:=bif_true hb1 heq
   refine Ct (decide (v8<(a0.length:Int))) hb1<|Ra 4 [1,0,1,0,0,1,1,0,0,0] [.c [1,0,1,0,0,1,1,0,0,1],.b 1,.c [1,0,1,0,0,1,1,1],.l [1,0,1,0,0],.b 0,.c [1,1]]<|Rd 2 [0,1,5,7,8] [(0,.slice Aa0 a0.length ca0),(1,.func (.func 33) #[] #[]),(5,iv v8),(7,iv (a0.length:Int)),(8,iv v8)]<|Ra 1 [1,0,1,0,0,1,1,0,0,1,0] [.c [1,0,1,0,0,1,1,0,0,1,1],.b 1,.c [1,0,1,0,0,1,1,1],.l [1,0,1,0,0],.b 0,.c [1,1]] ?_
   obtain ⟨x1,hx1,heq⟩:=bind_some heq
   obtain ⟨ha1,cs1,hK1,hcc1⟩:=hra0.get hx1
   obtain rfl:cs1=[.string x1]:=hK1
   refine Rv 5 [0,1,5,7,8,11,15] [.string x1] [.need (Aa0=some (adr Aa0)∧(0:Int)≤v8∧v8<((a0.length:Nat):Int)),.load ((adr Aa0).add (v8.toNat*1)) (.string x1)] [(0,.slice Aa0 a0.length ca0),(1,.func (.func 33) #[] #[]),(5,iv v8),(7,iv (a0.length:Int)),(8,iv v8),(11,.func (.func 33) #[] #[]),(15,.string x1)] (fun w hh=>⟨⟨ha1,(at?_some hx1).1,(at?_some hx1).2.1⟩,(hcc1 _ _ (hh.drop 0) 0 _ rfl)⟩) ?_
   obtain ⟨y1,hy1,heq⟩:=bind_some heq
   refine RgH.does (DoesH.call (d:=16) (g:=33) (args:=#[.string x1]) (by kernel_rfl) (trials_readRun_1_c (a0:=x1)  hy1)) ?_
   rintro _ _ _ _ ⟨_,rfl,rfl,rfl,rfl⟩
   refine Dn ?_
   rcases bool_cases (y1) with hb2 | hb2
   ·replace heq:=bif_true hb2 heq
    refine Ct y1 hb2<|Ra 1 [1,0,1,0,0,1,1,0,0,1,1,0,0] [.c [1,0,1,0,0,1,1,0,0,1,1,0,1],.b 1,.c [1,0,1,0,0,1,1,1],.l [1,0,1,0,0],.b 0,.c [1,1]]<|Rd 2 [4] [(4,iv v8)] ?_
    obtain rfl:=Option.some.inj heq
    exact RunH.done (by kernel_rfl) Tryz.func44 (v:=iv v8) (by kernel_rfl) ⟨rfl,rfl,rfl⟩
   ·replace heq:=bif_false hb2 heq
    refine Cf y1 hb2<|Ra 2 [1,0,1,0,0,1,1,1] [.l [1,0,1,0,0],.b 0,.c [1,1]]<|Rd 2 [0,1,7,8] [(0,.slice Aa0 a0.length ca0),(1,.func (.func 33) #[] #[]),(7,iv (a0.length:Int)),(8,iv (w64 (v8+1)))]<|Ad 1 [.c [1,0,1,0,0],.l [1,0,1,0,0],.b 0,.c [1,1]]<|Kp [0,1,7,8] [(0,.slice Aa0 a0.length ca0),(1,.func (.func 33) #[] #[]),(7,iv (a0.length:Int)),(8,iv (w64 (v8+1)))] ?_
    exact ihk a0 _ _ (w64 (v8+1)) hra0 hca0 heq
  ·replace heq:=bif_false hb1 heq
   refine Cf (decide (v8<(a0.length:Int))) hb1<|Ad 2 [.c [1,1,0],.c [1,1,1]]<|Kp [] [] ?_
   exact he1 heq
theorem slices_IndexFunc_string_c {w0:World} [TabI Tryz.prog "internal/strconv.uint64pow10" 1 w0] [GlobI 0 w0] {H:Hp} {F:List Ch} {a0:List ByteArray} {Aa0:Option Addr} {na0:Nat} {ca0:Nat} {r:Int} (hra0:Rw Kd.string H F Aa0 a0) (hca0:na0≤ca0) (hna0:na0=a0.length) (heq:slices_IndexFunc_string.f a0=some r):CallsH Tryz.prog 44 #[.slice Aa0 na0 ca0,.func (.func 33) #[] #[]] H w0 (F) (S44 F H r):=by
 refine calls_of_runH (F:=C44) Tryz.func44 (by kernel_rfl) Tryz.ntmps44 (args:=[.slice Aa0 na0 ca0,.func (.func 33) #[] #[]]) (by kernel_rfl) ?_
 subst hna0
 unfold slices_IndexFunc_string.f at heq
 refine Ra 1 [0] [.c [1]]<|Rd 1 [0,1] [(0,.slice Aa0 a0.length ca0),(1,.func (.func 33) #[] #[])]<|Ra 2 [1,0,0] [.c [1,0,1],.c [1,1]]<|Rd 3 [0,1,7,8] [(0,.slice Aa0 a0.length ca0),(1,.func (.func 33) #[] #[]),(7,iv (a0.length:Int)),(8,iv 0)]<|Ad 2 [.c [1,0,1,0,0],.l [1,0,1,0,0],.b 0,.c [1,1]]<|Kp [0,1,7,8] [(0,.slice Aa0 a0.length ca0),(1,.func (.func 33) #[] #[]),(7,iv (a0.length:Int)),(8,iv 0)] ?_
 exact ((slices_IndexFunc_string.l2_c (e1:=slices_IndexFunc_string.e1) (slices_IndexFunc_string.e1_c)) big) a0 _ _ 0 hra0 hca0 heq
noncomputable def C32:Ctx:={ P:=Tryz.prog,f:=32,N:=9,c:=bodyOf Tryz.f32 }
def S32 (F:List Ch) (H0:Hp) (r:Bool) (v:Value) (H:Hp) (cs:List Ch):Prop:=H0=H∧v=.bool r∧F=cs
theorem slices_ContainsFunc_string_c {w0:World} [TabI Tryz.prog "internal/strconv.uint64pow10" 1 w0] [GlobI 0 w0] {H:Hp} {F:List Ch} {a0:List ByteArray} {Aa0:Option Addr} {na0:Nat} {ca0:Nat} {r:Bool} (hra0:Rw Kd.string H F Aa0 a0) (hca0:na0≤ca0) (hna0:na0=a0.length) (heq:slices_ContainsFunc_string.f a0=some r):CallsH Tryz.prog 32 #[.slice Aa0 na0 ca0,.func (.func 33) #[] #[]] H w0 (F) (S32 F H r):=by
 refine calls_of_runH (F:=C32) Tryz.func32 (by kernel_rfl) Tryz.ntmps32 (args:=[.slice Aa0 na0 ca0,.func (.func 33) #[] #[]]) (by kernel_rfl) ?_
 subst hna0
 unfold slices_ContainsFunc_string.f at heq
 refine Ra 1 [0] [.c [1]]<|Rd 1 [0,1] [(0,.slice Aa0 a0.length ca0),(1,.func (.func 33) #[] #[])]<|Ra 1 [1,0] [.c [1,1]]<|Rk 2 [5,6] [(5,.slice Aa0 a0.length ca0),(6,.func (.func 33) #[] #[])] ?_
 obtain ⟨y1,hy1,heq⟩:=bind_some heq
 refine RgH.does (DoesH.call (d:=7) (g:=44) (args:=#[.slice Aa0 a0.length ca0,.func (.func 33) #[] #[]]) (by kernel_rfl) (slices_IndexFunc_string_c (a0:=a0) hra0 hca0 rfl hy1)) ?_
 rintro _ _ _ _ ⟨_,rfl,rfl,rfl,rfl⟩
 refine Rd 5 [4] [(4,.bool (decide (0≤y1)))] ?_
 obtain rfl:=Option.some.inj heq
 exact RunH.done (by kernel_rfl) Tryz.func32 (v:=.bool (decide (0≤y1))) (by kernel_rfl) ⟨rfl,rfl,rfl⟩
def S47 (F:List Ch) (H0:Hp) (r:Int) (v:Value) (H:Hp) (cs:List Ch):Prop:=H0=H∧v=.tuple #[iv r,.nilIface]∧F=cs
theorem strconv_Atoi_c {w0:World} [TabI Tryz.prog "internal/strconv.uint64pow10" 1 w0] [GlobI 0 w0] {H:Hp} {F:List Ch} {a0:ByteArray} {r:Int} (heq:strconv_Atoi.f a0=some r):CallsH Tryz.prog 47 #[.string a0] H w0 F (S47 F H r):=by
 intro w hh
 unfold strconv_Atoi.f at heq
 obtain ⟨hn,heq⟩:=guard?_some heq
 refine (Shelf.Tryz.strconv_Atoi a0 r (of_decide_eq_true hn) heq w).mono ?_
 rintro e w' ⟨rfl,t,rfl⟩
 exact ⟨_,rfl,_,_,Le.refl _,hh.later (Lib.bytesWorld_below _ _ _),rfl,rfl,rfl⟩
noncomputable def C35:Ctx:={ P:=Tryz.prog,f:=35,N:=34,c:=bodyOf Tryz.f35 }
def S35 (F:List Ch) (H0:Hp) (r:Int × Bool) (v:Value) (H:Hp) (cs:List Ch):Prop:=H0=H∧v=.tuple #[iv r.1,.bool r.2]∧F=cs
theorem trials_number_c {w0:World} [TabI Tryz.prog "internal/strconv.uint64pow10" 1 w0] [GlobI 0 w0] {H:Hp} {F:List Ch} {a0:ByteArray} {r:Int × Bool} (heq:trials_number.f a0=some r):CallsH Tryz.prog 35 #[.string a0] H w0 (F) (S35 F H r):=by
 refine calls_of_runH (F:=C35) Tryz.func35 (by kernel_rfl) Tryz.ntmps35 (args:=[.string a0]) (by kernel_rfl) ?_
 unfold trials_number.f at heq
 refine Ra 1 [0] [.c [1]]<|Rd 2 [0] [(0,.string a0)]<|Ad 2 [.c [1,0,0],.c [1,0,1],.c [1,1]] ?_
 obtain ⟨t1,ht1,heq⟩:=bind_some heq
 have K1:RunH C35 (S35 F H r) H w0 [.c [1,0,1],.c [1,1]] [(0,.string a0),(27,.bool t1)] H (F):=by
  rcases bool_cases (t1) with hb5 | hb5
  ·replace heq:=bif_true hb5 heq
   refine Ct t1 hb5<|Ra 1 [1,0,1,0,0] [.c [1,0,1,0,1],.c [1,1]]<|Rd 2 [2,3] [(2,iv 0),(3,.bool false)] ?_
   obtain rfl:=Option.some.inj heq
   exact RunH.done (by kernel_rfl) Tryz.func35 (v:=.tuple #[iv 0,.bool false]) (by kernel_rfl) ⟨rfl,rfl,rfl⟩
  ·replace heq:=bif_false hb5 heq
   refine Cf t1 hb5<|Ra 2 [1,1,0] [.c [1,1,1]]<|Rk 1 [29] [(29,.string a0)] ?_
   obtain ⟨y2,hy2,heq⟩:=bind_some heq
   refine RgH.does (DoesH.call (d:=30) (g:=47) (args:=#[.string a0]) (by kernel_rfl) (strconv_Atoi_c (a0:=a0)  hy2)) ?_
   rintro _ _ _ _ ⟨_,rfl,rfl,rfl,rfl⟩
   refine Rd 7 [4] [(4,iv y2)]<|Ra 1 [1,1,1,0] [.c [1,1,1,1]]<|Rd 3 [2,3] [(2,iv y2),(3,.bool true)] ?_
   obtain rfl:=Option.some.inj heq
   exact RunH.done (by kernel_rfl) Tryz.func35 (v:=.tuple #[iv y2,.bool true]) (by kernel_rfl) ⟨rfl,rfl,rfl⟩
 replace heq:=ht1
 refine Rr<|Rk 4 [9,0] [(9,.bool (decide ((a0.size:Int)<1))),(0,.string a0)] ?_
 rcases bool_cases (decide ((a0.size:Int)<1)) with hb1 | hb1
 ·replace heq:=bif_true hb1 heq
  refine RgH.val1 (v':=.bool true) (congrArg Value.bool hb1) ?_
  refine Rk 22 [0,27] [(0,.string a0),(27,.bool true)] ?_
  obtain rfl:=Option.some.inj heq
  refine Kg [0,27] [(0,.string a0),(27,.bool true)]<|Dn ?_
  exact K1
 ·replace heq:=bif_false hb1 heq
  refine RgH.val1 (v':=.bool false) (congrArg Value.bool hb1) ?_
  refine Rk 9 [14,0] [(14,.bool (decide (10<(a0.size:Int)))),(0,.string a0)] ?_
  rcases bool_cases (decide (10<(a0.size:Int))) with hb2 | hb2
  ·replace heq:=bif_true hb2 heq
   refine RgH.val1 (v':=.bool true) (congrArg Value.bool hb2) ?_
   refine Rk 22 [0,27] [(0,.string a0),(27,.bool true)] ?_
   obtain rfl:=Option.some.inj heq
   refine Kg [0,27] [(0,.string a0),(27,.bool true)]<|Dn ?_
   exact K1
  ·replace heq:=bif_false hb2 heq
   refine RgH.val1 (v':=.bool false) (congrArg Value.bool hb2) ?_
   refine Rk 10 [0,14,15] [(0,.string a0),(14,.bool false),(15,.string a0)] ?_
   obtain ⟨y1,hy1,heq⟩:=bind_some heq
   refine RgH.does (DoesH.call (d:=16) (g:=37) (args:=#[.string a0,.string ({ data:=#[48,49,50,51,52,53,54,55,56,57] }:ByteArray)]) (by kernel_rfl) (strings_Trim_c (a0:=a0) (a1:=({ data:=#[48,49,50,51,52,53,54,55,56,57] }:ByteArray))  hy1)) ?_
   rintro _ _ _ _ ⟨_,rfl,rfl,rfl,rfl⟩
   refine Rk 14 [19,0] [(19,.bool (!sEq y1 ({ data:=#[] }:ByteArray))),(0,.string a0)] ?_
   rcases bool_cases (!sEq y1 ({ data:=#[] }:ByteArray)) with hb3 | hb3
   ·replace heq:=bif_true hb3 heq
    refine RgH.val1 (v':=.bool true) (congrArg Value.bool hb3) ?_
    refine Rk 22 [0,27] [(0,.string a0),(27,.bool true)] ?_
    obtain rfl:=Option.some.inj heq
    refine Kg [0,27] [(0,.string a0),(27,.bool true)]<|Dn ?_
    exact K1
   ·replace heq:=bif_false hb3 heq
    refine RgH.val1 (v':=.bool false) (congrArg Value.bool hb3) ?_
    obtain ⟨hn1,heq⟩:=guard?_some heq
    refine Rv 18 [23,0,19] [] [.need ((0:Int)≤0∧0<(a0.size:Int))] [(23,.bool ((bt a0 0) == 48)),(0,.string a0),(19,.bool false)] (fun w hh=>(both_of hn1)) ?_
    rcases bool_cases ((bt a0 0) == 48) with hb4 | hb4
    ·replace heq:=bif_true hb4 heq
     refine RgH.val1 (v':=.bool true) (congrArg Value.bool hb4) ?_
     refine Rk 22 [0,27] [(0,.string a0),(27,.bool (!sEq a0 ({ data:=#[48] }:ByteArray)))] ?_
     obtain rfl:=Option.some.inj heq
     refine Kg [0,27] [(0,.string a0),(27,.bool (!sEq a0 ({ data:=#[48] }:ByteArray)))]<|Dn ?_
     exact K1
    ·replace heq:=bif_false hb4 heq
     refine RgH.val1 (v':=.bool false) (congrArg Value.bool hb4) ?_
     refine Rk 22 [0,27] [(0,.string a0),(27,.bool false)] ?_
     obtain rfl:=Option.some.inj heq
     refine Kg [0,27] [(0,.string a0),(27,.bool false)]<|Dn ?_
     exact K1
noncomputable def C20:Ctx:={ P:=Tryz.prog,f:=20,N:=62,c:=bodyOf Tryz.f20 }
def S20 (F:List Ch) (H0:Hp) (r:TestRun × Bool) (v:Value) (H:Hp) (cs:List Ch):Prop:=H0=H∧v=.tuple #[.agg #[.string r.1.Test,.string r.1.Key,iv r.1.At,.bool r.1.Pass,iv r.1.Seconds],.bool r.2]∧F=cs
theorem trials_readRun_c {w0:World} [TabI Tryz.prog "internal/strconv.uint64pow10" 1 w0] [GlobI 0 w0] {H:Hp} {F:List Ch} {a0:ByteArray} {r:TestRun × Bool} (heq:trials_readRun.f a0=some r):CallsH Tryz.prog 20 #[.string a0] H w0 (F) (S20 F H r):=by
 refine calls_of_runH (F:=C20) Tryz.func20 (by kernel_rfl) Tryz.ntmps20 (args:=[.string a0]) (by kernel_rfl) ?_
 unfold trials_readRun.f at heq
 refine Ra 1 [0] [.c [1]] ?_
 refine RgH.does (DoesH.new (d:=2) (v:=fun g=>.pointer (some ⟨g,0,none⟩)) (o:=fun g=>.cells #[.string ByteArray.empty,.string ByteArray.empty,iv 0,.bool false,iv 0] 25 (0,0)) (fun g=>by kernel_rfl)) ?_
 rintro _ _ _ _ ⟨g1,rfl,rfl,rfl⟩
 refine Rd 2 [0,2] [(0,.string a0),(2,pg g1 0)]<|Ra 1 [1,0] [.c [1,1]]<|Rk 1 [2,9] [(2,pg g1 0),(9,.string a0)] ?_
 obtain ⟨y1,hy1,heq⟩:=bind_some heq
 refine RgH.does (DoesH.call (d:=10) (g:=31) (args:=#[.string a0,.string ({ data:=#[32] }:ByteArray)]) (by kernel_rfl) (strings_Split_c (a0:=a0) (a1:=({ data:=#[32] }:ByteArray))  hy1)) ?_
 rintro _ _ _ _ ⟨_,rfl,A1,c1,ch1,rfl,rfl,rfl,ho1⟩
 refine Rd 3 [2,4] [(2,pg g1 0),(4,.slice A1 y1.length c1)]<|Ad 2 [.c [1,1,0,0],.c [1,1,0,1],.c [1,1,1]] ?_
 obtain ⟨t1,ht1,heq⟩:=bind_some heq
 have K3:RunH C20 (S20 F H r) H w0 [.c [1,1,0,1],.c [1,1,1]] [(2,pg g1 0),(4,.slice A1 y1.length c1),(29,.bool t1)] H (ch1::(some (g1,.cells #[.string ByteArray.empty,.string ByteArray.empty,iv 0,.bool false,iv 0] 25 (0,0)))::F):=by
  rcases bool_cases (t1) with hb4 | hb4
  ·replace heq:=bif_true hb4 heq
   refine Ct t1 hb4<|Ra 1 [1,1,0,1,0,0] [.c [1,1,0,1,0,1],.c [1,1,1]]<|Rk 1 [2,30] [(2,pg g1 0),(30,.agg #[.string ByteArray.empty,.string ByteArray.empty,iv 0,.bool false,iv 0])] ?_
   refine RgH.does (DoesH.store (k:=1) (g:=g1) (off:=0) (v:=.agg #[.string ByteArray.empty,.string ByteArray.empty,iv 0,.bool false,iv 0]) (cells':=#[.string ByteArray.empty,.string ByteArray.empty,iv 0,.bool false,iv 0]) (by kernel_rfl) rfl (by kernel_rfl) (by kernel_rfl)) ?_
   rintro _ _ _ _ ⟨rfl,rfl,rfl⟩
   refine Rd 3 [2,3] [(2,pg g1 0),(3,.bool false)] ?_
   obtain rfl:=Option.some.inj heq
   refine RunH.pick 2 [1] (cs':=(some (g1,.cells #[.string ByteArray.empty,.string ByteArray.empty,iv 0,.bool false,iv 0] 25 (0,0)))::F) (by kernel_rfl) rfl ?_
   exact RunH.doneM' 1 (vs:=[.agg #[.string ByteArray.empty,.string ByteArray.empty,iv 0,.bool false,iv 0],.bool false]) (v:=.tuple #[.agg #[.string ByteArray.empty,.string ByteArray.empty,iv 0,.bool false,iv 0],.bool false]) (by kernel_rfl) Tryz.func20 (fun w hh=>show ResAll _ _ _ [.cell 2 25,.tmp 3] _ from ⟨⟨⟨g1,0,none⟩,by kernel_rfl,trS_run _ (vs:=[.string ByteArray.empty,.string ByteArray.empty,iv 0,.bool false,iv 0]) (r:=[]) (es:=[.load ⟨g1,0,none⟩ (.string ByteArray.empty),.load ⟨g1,1,none⟩ (.string ByteArray.empty),.load ⟨g1,2,none⟩ (iv 0),.load ⟨g1,3,none⟩ (.bool false),.load ⟨g1,4,none⟩ (iv 0)]) (by kernel_rfl) ⟨(hh.box 0 rfl rfl),(hh.box 0 rfl rfl),(hh.box 0 rfl rfl),(hh.box 0 rfl rfl),(hh.box 0 rfl rfl)⟩⟩,(show lk _ _=some _ by kernel_rfl),trivial⟩) rfl (cs':=F) rfl ⟨rfl,rfl,rfl⟩
  ·replace heq:=bif_false hb4 heq
   refine Cf t1 hb4<|Ra 2 [1,1,1,0] [.c [1,1,1,1]] ?_
   obtain ⟨x2,hx2,heq⟩:=bind_some heq
   obtain ⟨ha3,cs3,hK3,hcc3⟩:=ho1.get hx2
   obtain rfl:cs3=[.string x2]:=hK3
   refine Rv 3 [2,4,34] [.string x2] [.need (A1=some (adr A1)∧(0:Int)≤0∧0<((y1.length:Nat):Int)),.load ((adr A1).add (0*1)) (.string x2)] [(2,pg g1 0),(4,.slice A1 y1.length c1),(34,.string x2)] (fun w hh=>⟨⟨ha3,(at?_some hx2).1,(at?_some hx2).2.1⟩,(hcc3 _ (hh.chin 0 rfl) 0 _ rfl)⟩) ?_
   obtain ⟨y3,hy3,heq⟩:=bind_some heq
   refine RgH.does (DoesH.call (d:=35) (g:=35) (args:=#[.string x2]) (by kernel_rfl) (trials_number_c (a0:=x2)  hy3)) ?_
   rintro _ _ _ _ ⟨_,rfl,rfl,rfl,rfl⟩
   refine Rd 9 [2,4,5,6] [(2,pg g1 0),(4,.slice A1 y1.length c1),(5,iv y3.1),(6,.bool y3.2)]<|Ra 1 [1,1,1,1,0] [.c [1,1,1,1,1]] ?_
   obtain ⟨x3,hx3,heq⟩:=bind_some heq
   obtain ⟨ha4,cs4,hK4,hcc4⟩:=ho1.get hx3
   obtain rfl:cs4=[.string x3]:=hK4
   refine Rv 3 [2,4,5,6,41] [.string x3] [.need (A1=some (adr A1)∧(0:Int)≤4∧4<((y1.length:Nat):Int)),.load ((adr A1).add (4*1)) (.string x3)] [(2,pg g1 0),(4,.slice A1 y1.length c1),(5,iv y3.1),(6,.bool y3.2),(41,.string x3)] (fun w hh=>⟨⟨ha4,(at?_some hx3).1,(at?_some hx3).2.1⟩,(hcc4 _ (hh.chin 0 rfl) 0 _ rfl)⟩) ?_
   obtain ⟨y4,hy4,heq⟩:=bind_some heq
   refine RgH.does (DoesH.call (d:=42) (g:=35) (args:=#[.string x3]) (by kernel_rfl) (trials_number_c (a0:=x3)  hy4)) ?_
   rintro _ _ _ _ ⟨_,rfl,rfl,rfl,rfl⟩
   refine Rd 9 [2,4,5,6,7,8] [(2,pg g1 0),(4,.slice A1 y1.length c1),(5,iv y3.1),(6,.bool y3.2),(7,iv y4.1),(8,.bool y4.2)]<|Ad 1 [.c [1,1,1,1,1,0],.c [1,1,1,1,1,1]] ?_
   obtain ⟨t2,ht2,heq⟩:=bind_some heq
   have K4:RunH C20 (S20 F H r) H w0 [.c [1,1,1,1,1,1]] [(2,pg g1 0),(3,.bool t2.2.2.2)] H ((some (g1,.cells #[.string t2.1,.string t2.2.1,iv y3.1,.bool t2.2.2.1,iv y4.1] 25 (0,0)))::F):=by
    obtain rfl:=Option.some.inj heq
    exact RunH.doneM' 1 (vs:=[.agg #[.string t2.1,.string t2.2.1,iv y3.1,.bool t2.2.2.1,iv y4.1],.bool t2.2.2.2]) (v:=.tuple #[.agg #[.string t2.1,.string t2.2.1,iv y3.1,.bool t2.2.2.1,iv y4.1],.bool t2.2.2.2]) (by kernel_rfl) Tryz.func20 (fun w hh=>show ResAll _ _ _ [.cell 2 25,.tmp 3] _ from ⟨⟨⟨g1,0,none⟩,by kernel_rfl,trS_run _ (vs:=[.string t2.1,.string t2.2.1,iv y3.1,.bool t2.2.2.1,iv y4.1]) (r:=[]) (es:=[.load ⟨g1,0,none⟩ (.string t2.1),.load ⟨g1,1,none⟩ (.string t2.2.1),.load ⟨g1,2,none⟩ (iv y3.1),.load ⟨g1,3,none⟩ (.bool t2.2.2.1),.load ⟨g1,4,none⟩ (iv y4.1)]) (by kernel_rfl) ⟨(hh.box 0 rfl rfl),(hh.box 0 rfl rfl),(hh.box 0 rfl rfl),(hh.box 0 rfl rfl),(hh.box 0 rfl rfl)⟩⟩,(show lk _ _=some _ by kernel_rfl),trivial⟩) rfl (cs':=F) rfl ⟨rfl,rfl,rfl⟩
   replace heq:=ht2
   refine Kp [2,4,5,6,7,8] [(2,pg g1 0),(4,.slice A1 y1.length c1),(5,iv y3.1),(6,.bool y3.2),(7,iv y4.1),(8,.bool y4.2)] ?_
   refine RunH.draw (fun w=>Heap H w0 w (ch1::(some (g1,.cells #[.string ByteArray.empty,.string ByteArray.empty,iv 0,.bool false,iv 0] 25 (0,0)))::F)) (fun w=>Heap H w0 w (ch1::F)) [3,3,3,3,3,3,3,3,3,3,3,3,3,3,3,3,3,1,3] (n:=19) (ls:=[false,false,false,false,false,false,false,false,false,false,false,false,false,false,false,false,false,false,false]) (by kernel_rfl) (by kernel_rfl) (by kernel_rfl) rfl ?_
   obtain ⟨x4,hx4,heq⟩:=bind_some heq
   obtain ⟨ha5,cs5,hK5,hcc5⟩:=ho1.get hx4
   obtain rfl:cs5=[.string x4]:=hK5
   obtain ⟨x5,hx5,heq⟩:=bind_some heq
   obtain ⟨ha6,cs6,hK6,hcc6⟩:=ho1.get hx5
   obtain rfl:cs6=[.string x5]:=hK6
   obtain ⟨x6,hx6,heq⟩:=bind_some heq
   obtain ⟨ha7,cs7,hK7,hcc7⟩:=ho1.get hx6
   obtain rfl:cs7=[.string x6]:=hK7
   refine Dk [0,1,2,3,4,5,6,7,8,9,10,11,12] 6 (nb 19 8191) [.string x4,.string x5,.string x6] [.need (A1=some (adr A1)∧(0:Int)≤1∧1<((y1.length:Nat):Int)),.load ((adr A1).add (1*1)) (.string x4),.need (A1=some (adr A1)∧(0:Int)≤2∧2<((y1.length:Nat):Int)),.load ((adr A1).add (2*1)) (.string x5),.need (A1=some (adr A1)∧(0:Int)≤3∧3<((y1.length:Nat):Int)),.load ((adr A1).add (3*1)) (.string x6)] [2,6,8,57] [(2,pg g1 0),(6,.bool y3.2),(8,.bool y4.2),(57,.agg #[.string x4,.string x5,iv y3.1,.bool (sEq x6 ({ data:=#[112,97,115,115] }:ByteArray)),iv y4.1])] (Pk 2 [0,1]) (Pk 2 [0]) (fun w hh=>⟨⟨ha5,(at?_some hx4).1,(at?_some hx4).2.1⟩,(hcc5 _ (hh.chin 0 rfl) 0 _ rfl),⟨ha6,(at?_some hx5).1,(at?_some hx5).2.1⟩,(hcc6 _ (hh.chin 0 rfl) 0 _ rfl),⟨ha7,(at?_some hx6).1,(at?_some hx6).2.1⟩,(hcc7 _ (hh.chin 0 rfl) 0 _ rfl)⟩)<|De [13] 5 (nb 19 16383) [] [] [2,8,57,58] [(2,pg g1 0),(8,.bool y4.2),(57,.agg #[.string x4,.string x5,iv y3.1,.bool (sEq x6 ({ data:=#[112,97,115,115] }:ByteArray)),iv y4.1]),(58,.bool y3.2)] (Pk 2 [0]) (fun _ _=>trivial)<|Dk [14] 4 (nb 19 32767) [] [] [59,2,8,57] [(59,.bool y3.2),(2,pg g1 0),(8,.bool y4.2),(57,.agg #[.string x4,.string x5,iv y3.1,.bool (sEq x6 ({ data:=#[112,97,115,115] }:ByteArray)),iv y4.1])] (Pk 2 [0,1]) (Pk 2 [0]) (fun _ _=>trivial) ?_
   rcases bool_cases (y3.2) with hb5 | hb5
   ·replace heq:=bif_true hb5 heq
    refine DrH.val1 (v':=.bool true) (congrArg Value.bool hb5) ?_
    refine De [15,16] 2 (nb 19 131071) [] [] [2,57,61] [(2,pg g1 0),(57,.agg #[.string x4,.string x5,iv y3.1,.bool (sEq x6 ({ data:=#[112,97,115,115] }:ByteArray)),iv y4.1]),(61,.bool y4.2)] (Pk 2 [0]) (fun _ _=>trivial) ?_
    refine DrH.does (n:=1) (ls':=[true,true,true,true,true,true,true,true,true,true,true,true,true,true,true,true,true,true,false]) 17 (by kernel_rfl) rfl (DoesH.store (k:=1) (g:=g1) (off:=0) (v:=.agg #[.string x4,.string x5,iv y3.1,.bool (sEq x6 ({ data:=#[112,97,115,115] }:ByteArray)),iv y4.1]) (cells':=#[.string x4,.string x5,iv y3.1,.bool (sEq x6 ({ data:=#[112,97,115,115] }:ByteArray)),iv y4.1]) (by kernel_rfl) rfl (by kernel_rfl) (by kernel_rfl)) ?_
    rintro _ _ _ _ ⟨rfl,rfl,rfl⟩
    refine ⟨fun _ w hh=>⟨(fun h=>by cases h),fun _=>(Pk 2 [0]) w hh,(fun h=>by cases h)⟩,?_⟩
    refine De [18] 0 (nb 19 524287) [] [] [2,3] [(2,pg g1 0),(3,.bool y4.2)] (Pk 2 [0]) (fun _ _=>trivial) ?_
    obtain rfl:=Option.some.inj heq
    refine Kr [2,3] [(2,pg g1 0),(3,.bool y4.2)] ?_
    refine DrH.pick 2 [1] (cs':=(some (g1,.cells #[.string x4,.string x5,iv y3.1,.bool (sEq x6 ({ data:=#[112,97,115,115] }:ByteArray)),iv y4.1] 25 (0,0)))::F) (by kernel_rfl) rfl ?_
    refine DrH.done (by kernel_rfl) ?_
    exact K4
   ·replace heq:=bif_false hb5 heq
    refine DrH.val1 (v':=.bool false) (congrArg Value.bool hb5) ?_
    refine De [15,16] 2 (nb 19 131071) [] [] [2,57,61] [(2,pg g1 0),(57,.agg #[.string x4,.string x5,iv y3.1,.bool (sEq x6 ({ data:=#[112,97,115,115] }:ByteArray)),iv y4.1]),(61,.bool false)] (Pk 2 [0]) (fun _ _=>trivial) ?_
    refine DrH.does (n:=1) (ls':=[true,true,true,true,true,true,true,true,true,true,true,true,true,true,true,true,true,true,false]) 17 (by kernel_rfl) rfl (DoesH.store (k:=1) (g:=g1) (off:=0) (v:=.agg #[.string x4,.string x5,iv y3.1,.bool (sEq x6 ({ data:=#[112,97,115,115] }:ByteArray)),iv y4.1]) (cells':=#[.string x4,.string x5,iv y3.1,.bool (sEq x6 ({ data:=#[112,97,115,115] }:ByteArray)),iv y4.1]) (by kernel_rfl) rfl (by kernel_rfl) (by kernel_rfl)) ?_
    rintro _ _ _ _ ⟨rfl,rfl,rfl⟩
    refine ⟨fun _ w hh=>⟨(fun h=>by cases h),fun _=>(Pk 2 [0]) w hh,(fun h=>by cases h)⟩,?_⟩
    refine De [18] 0 (nb 19 524287) [] [] [2,3] [(2,pg g1 0),(3,.bool false)] (Pk 2 [0]) (fun _ _=>trivial) ?_
    obtain rfl:=Option.some.inj heq
    refine Kr [2,3] [(2,pg g1 0),(3,.bool false)] ?_
    refine DrH.pick 2 [1] (cs':=(some (g1,.cells #[.string x4,.string x5,iv y3.1,.bool (sEq x6 ({ data:=#[112,97,115,115] }:ByteArray)),iv y4.1] 25 (0,0)))::F) (by kernel_rfl) rfl ?_
    refine DrH.done (by kernel_rfl) ?_
    exact K4
 replace heq:=ht1
 refine Rr<|Rk 4 [14,2,4] [(14,.bool ((y1.length:Int) != 5)),(2,pg g1 0),(4,.slice A1 y1.length c1)] ?_
 rcases bool_cases ((y1.length:Int) != 5) with hb1 | hb1
 ·replace heq:=bif_true hb1 heq
  refine RgH.val1 (v':=.bool true) (congrArg Value.bool hb1) ?_
  refine Rk 19 [2,4,29] [(2,pg g1 0),(4,.slice A1 y1.length c1),(29,.bool true)] ?_
  obtain rfl:=Option.some.inj heq
  refine Kg [2,4,29] [(2,pg g1 0),(4,.slice A1 y1.length c1),(29,.bool true)]<|Dn ?_
  exact K3
 ·replace heq:=bif_false hb1 heq
  refine RgH.val1 (v':=.bool false) (congrArg Value.bool hb1) ?_
  refine Rk 5 [2,4,14,15] [(2,pg g1 0),(4,.slice A1 y1.length c1),(14,.bool false),(15,.slice A1 y1.length c1)] ?_
  obtain ⟨y2,hy2,heq⟩:=bind_some heq
  refine RgH.does (DoesH.call (d:=16) (g:=32) (args:=#[.slice A1 y1.length c1,.func (.func 33) #[] #[]]) (by kernel_rfl) (slices_ContainsFunc_string_c (a0:=y1) (ho1.rw (.head _)) ho1.cap rfl hy2)) ?_
  rintro _ _ _ _ ⟨_,rfl,rfl,rfl,rfl⟩
  refine Rk 8 [18,2,4] [(18,.bool y2),(2,pg g1 0),(4,.slice A1 y1.length c1)] ?_
  rcases bool_cases (y2) with hb2 | hb2
  ·replace heq:=bif_true hb2 heq
   refine RgH.val1 (v':=.bool true) (congrArg Value.bool hb2) ?_
   refine Rk 19 [2,4,29] [(2,pg g1 0),(4,.slice A1 y1.length c1),(29,.bool true)] ?_
   obtain rfl:=Option.some.inj heq
   refine Kg [2,4,29] [(2,pg g1 0),(4,.slice A1 y1.length c1),(29,.bool true)]<|Dn ?_
   exact K3
  ·replace heq:=bif_false hb2 heq
   refine RgH.val1 (v':=.bool false) (congrArg Value.bool hb2) ?_
   obtain ⟨x1,hx1,heq⟩:=bind_some heq
   obtain ⟨ha1,cs1,hK1,hcc1⟩:=ho1.get hx1
   obtain rfl:cs1=[.string x1]:=hK1
   refine Rv 13 [23,2,4,18] [.string x1] [.need (A1=some (adr A1)∧(0:Int)≤3∧3<((y1.length:Nat):Int)),.load ((adr A1).add (3*1)) (.string x1)] [(23,.bool (!sEq x1 ({ data:=#[112,97,115,115] }:ByteArray))),(2,pg g1 0),(4,.slice A1 y1.length c1),(18,.bool false)] (fun w hh=>⟨⟨ha1,(at?_some hx1).1,(at?_some hx1).2.1⟩,(hcc1 _ (hh.chin 0 rfl) 0 _ rfl)⟩) ?_
   rcases bool_cases (!sEq x1 ({ data:=#[112,97,115,115] }:ByteArray)) with hb3 | hb3
   ·replace heq:=bif_true hb3 heq
    refine RgH.val1 (v':=.bool true) (congrArg Value.bool hb3) ?_
    obtain ⟨ha2,cs2,hK2,hcc2⟩:=ho1.get hx1
    obtain rfl:cs2=[.string x1]:=hK2
    refine Rv 19 [2,4,29] [.string x1] [.need (A1=some (adr A1)∧(0:Int)≤3∧3<((y1.length:Nat):Int)),.load ((adr A1).add (3*1)) (.string x1)] [(2,pg g1 0),(4,.slice A1 y1.length c1),(29,.bool (!sEq x1 ({ data:=#[102,97,105,108] }:ByteArray)))] (fun w hh=>⟨⟨ha2,(at?_some hx1).1,(at?_some hx1).2.1⟩,(hcc2 _ (hh.chin 0 rfl) 0 _ rfl)⟩) ?_
    obtain rfl:=Option.some.inj heq
    refine Kg [2,4,29] [(2,pg g1 0),(4,.slice A1 y1.length c1),(29,.bool (!sEq x1 ({ data:=#[102,97,105,108] }:ByteArray)))]<|Dn ?_
    exact K3
   ·replace heq:=bif_false hb3 heq
    refine RgH.val1 (v':=.bool false) (congrArg Value.bool hb3) ?_
    refine Rk 19 [2,4,29] [(2,pg g1 0),(4,.slice A1 y1.length c1),(29,.bool false)] ?_
    obtain rfl:=Option.some.inj heq
    refine Kg [2,4,29] [(2,pg g1 0),(4,.slice A1 y1.length c1),(29,.bool false)]<|Dn ?_
    exact K3
noncomputable def C9:Ctx:={ P:=Tryz.prog,f:=9,N:=49,c:=bodyOf Tryz.f9 }
def S9 (F:List Ch) (H0:Hp) (r:(List TestRun) × Int × Int) (v:Value) (H:Hp) (cs:List Ch):Prop:=∃ (A0:Option Addr) (c0:Nat) (ch0:Ch),H0=H∧v=.tuple #[.slice A0 r.1.length c0,iv r.2.1,iv r.2.2]∧ch0::F=cs∧SlOwn kTestRun 25 H A0 c0 r.1 ch0
theorem trials_Read.e1_c {w0:World} [TabI Tryz.prog "internal/strconv.uint64pow10" 1 w0] [GlobI 0 w0] {H:Hp} {F:List Ch} {r:(List TestRun) × Int × Int}:∀ (v_out5:List TestRun) (Av_out5:Option Addr) (nv_out5:Nat) (cv_out5:Nat) (chv_out5:Ch) ,SlOwn kTestRun 25 H Av_out5 cv_out5 v_out5 chv_out5→nv_out5=v_out5.length→trials_Read.e1 v_out5=some r→RunH C9 (S9 F H r) H w0 [.c [1,1,1,1,0,0],.c [1,1,1,1,0,1],.c [1,1,1,1,1]] [(5,.slice Av_out5 nv_out5 cv_out5)] H (chv_out5::F):=by
 intro v_out5 Av_out5 nv_out5 cv_out5 chv_out5 hov_out5 hnv_out5 heq
 subst hnv_out5
 unfold trials_Read.e1 at heq
 refine Rr<|Rk 1 [5,43] [(5,.slice Av_out5 v_out5.length cv_out5),(43,.slice Av_out5 v_out5.length cv_out5)] ?_
 obtain ⟨y1,hy1,heq⟩:=bind_some heq
 refine RgH.does (DoesH.call (d:=44) (g:=10) (args:=#[.slice Av_out5 v_out5.length cv_out5]) (by kernel_rfl) (trials_CheckHistory_c (a0:=v_out5) (hov_out5.rw (.head _)) hov_out5.cap rfl hy1)) ?_
 rintro _ _ _ _ ⟨_,rfl,rfl,rfl,rfl⟩
 refine Rd 3 [5,12] [(5,.slice Av_out5 v_out5.length cv_out5),(12,iv y1)]<|Ra 1 [1,1,1,1,0,1,0] [.c [1,1,1,1,0,1,1],.c [1,1,1,1,1]]<|Rd 2 [5,12,46] [(5,.slice Av_out5 v_out5.length cv_out5),(12,iv y1),(46,.bool (y1 != 0))] ?_
 rcases bool_cases (y1 != 0) with hb2 | hb2
 ·replace heq:=bif_true hb2 heq
  refine Ct (y1 != 0) hb2<|Ra 1 [1,1,1,1,0,1,1,0,0] [.c [1,1,1,1,0,1,1,0,1],.c [1,1,1,1,1]]<|Rd 4 [2,3,4] [(2,.slice none 0 0),(3,iv 0),(4,iv y1)]<|RunH.nilc ?_
  have ho2:SlOwn kTestRun 25 H none 0 ([]:List TestRun) none:=SlOwn.nil
  obtain rfl:=Option.some.inj heq
  refine RunH.pick 2 [0] (cs':=none::F) (by kernel_rfl) rfl ?_
  exact RunH.done (by kernel_rfl) Tryz.func9 (v:=.tuple #[.slice none 0 0,iv 0,iv y1]) (by kernel_rfl) ⟨none,0,none,rfl,rfl,rfl,ho2⟩
 ·replace heq:=bif_false hb2 heq
  refine Cf (y1 != 0) hb2<|Ra 2 [1,1,1,1,1,0] [.c [1,1,1,1,1,1]]<|Rd 4 [2,3,4] [(2,.slice Av_out5 v_out5.length cv_out5),(3,iv 0),(4,iv 0)] ?_
  obtain rfl:=Option.some.inj heq
  exact RunH.done (by kernel_rfl) Tryz.func9 (v:=.tuple #[.slice Av_out5 v_out5.length cv_out5,iv 0,iv 0]) (by kernel_rfl) ⟨Av_out5,cv_out5,chv_out5,rfl,rfl,rfl,hov_out5⟩
theorem trials_Read.l2_c {w0:World} [TabI Tryz.prog "internal/strconv.uint64pow10" 1 w0] [GlobI 0 w0] {H:Hp} {F:List Ch} {r:(List TestRun) × Int × Int} (e1:(List TestRun)→Option ((List TestRun) × Int × Int))
  (he1:∀ (v_out5:List TestRun) (Av_out5:Option Addr) (nv_out5:Nat) (cv_out5:Nat) (chv_out5:Ch) ,SlOwn kTestRun 25 H Av_out5 cv_out5 v_out5 chv_out5→nv_out5=v_out5.length→e1 v_out5=some r→RunH C9 (S9 F H r) H w0 [.c [1,1,1,1,0,0],.c [1,1,1,1,0,1],.c [1,1,1,1,1]] [(5,.slice Av_out5 nv_out5 cv_out5)] H (chv_out5::F)):∀ (k:Nat),∀ (v_text0:ByteArray) (v_out5:List TestRun) (Av_out5:Option Addr) (nv_out5:Nat) (cv_out5:Nat) (chv_out5:Ch) (v_n6:Int) ,SlOwn kTestRun 25 H Av_out5 cv_out5 v_out5 chv_out5→nv_out5=v_out5.length→trials_Read.l2 e1 k v_text0 v_out5 v_n6=some r→RunH C9 (S9 F H r) H w0 [.c [1,1,1,0,1,0,0],.l [1,1,1,0,1,0,0],.b 0,.c [1,1,1,1]] [(0,.string v_text0),(5,.slice Av_out5 nv_out5 cv_out5),(6,iv v_n6)] H (chv_out5::F):=by
 intro k
 induction k with
 | zero=>intro v_text0 v_out5 Av_out5 nv_out5 cv_out5 chv_out5 v_n6 hov_out5 hnv_out5 heq; exact nomatch (show (none:Option ((List TestRun) × Int × Int))=some r from heq)
 | succ k ihk =>
  intro v_text0 v_out5 Av_out5 nv_out5 cv_out5 chv_out5 v_n6 hov_out5 hnv_out5 heq
  subst hnv_out5
  rw [trials_Read.l2] at heq
  refine Ra 2 [1,1,1,0,1,0,0,0,0] [.c [1,1,1,0,1,0,0,0,1],.c [1,1,1,0,1,0,0,1],.l [1,1,1,0,1,0,0],.b 0,.c [1,1,1,1]]<|Rd 2 [0,5,6,17] [(0,.string v_text0),(5,.slice Av_out5 v_out5.length cv_out5),(6,iv v_n6),(17,.bool (!sEq v_text0 ({ data:=#[] }:ByteArray)))] ?_
  rcases bool_cases (!sEq v_text0 ({ data:=#[] }:ByteArray)) with hb3 | hb3
  ·replace heq:=bif_true hb3 heq
   refine Ct (!sEq v_text0 ({ data:=#[] }:ByteArray)) hb3<|Ra 4 [1,1,1,0,1,0,0,1,0,0,0] [.c [1,1,1,0,1,0,0,1,0,0,1],.b 1,.c [1,1,1,0,1,0,0,1,1],.l [1,1,1,0,1,0,0],.b 0,.c [1,1,1,1]]<|Rk 1 [5,6,21] [(5,.slice Av_out5 v_out5.length cv_out5),(6,iv v_n6),(21,.string v_text0)] ?_
   obtain ⟨y2,hy2,heq⟩:=bind_some heq
   refine RgH.does (DoesH.call (d:=22) (g:=19) (args:=#[.string v_text0,.string ({ data:=#[10] }:ByteArray)]) (by kernel_rfl) (strings_Cut_c (a0:=v_text0) (a1:=({ data:=#[10] }:ByteArray))  hy2)) ?_
   rintro _ _ _ _ ⟨_,rfl,rfl,rfl,rfl⟩
   refine Rd 9 [5,6,7,8,9] [(5,.slice Av_out5 v_out5.length cv_out5),(6,iv v_n6),(7,.string y2.1),(8,.string y2.2.1),(9,.bool y2.2.2)]<|Ra 1 [1,1,1,0,1,0,0,1,0,0,1,0] [.c [1,1,1,0,1,0,0,1,0,0,1,1],.b 1,.c [1,1,1,0,1,0,0,1,1],.l [1,1,1,0,1,0,0],.b 0,.c [1,1,1,1]]<|Rk 1 [5,6,8,9,27] [(5,.slice Av_out5 v_out5.length cv_out5),(6,iv v_n6),(8,.string y2.2.1),(9,.bool y2.2.2),(27,.string y2.1)] ?_
   obtain ⟨y3,hy3,heq⟩:=bind_some heq
   refine RgH.does (DoesH.call (d:=28) (g:=20) (args:=#[.string y2.1]) (by kernel_rfl) (trials_readRun_c (a0:=y2.1)  hy3)) ?_
   rintro _ _ _ _ ⟨_,rfl,rfl,rfl,rfl⟩
   refine Rk 5 [5,6,8,9,29,30] [(5,.slice Av_out5 v_out5.length cv_out5),(6,iv v_n6),(8,.string y2.2.1),(9,.bool y2.2.2),(29,.agg #[.string y3.1.Test,.string y3.1.Key,iv y3.1.At,.bool y3.1.Pass,iv y3.1.Seconds]),(30,.bool y3.2)] ?_
   refine RgH.does (DoesH.new (d:=10) (v:=fun g=>.pointer (some ⟨g,0,none⟩)) (o:=fun g=>.cells #[.string ByteArray.empty,.string ByteArray.empty,iv 0,.bool false,iv 0] 25 (0,0)) (fun g=>by kernel_rfl)) ?_
   rintro _ _ _ _ ⟨g1,rfl,rfl,rfl⟩
   refine RgH.does (DoesH.store (k:=0) (g:=g1) (off:=0) (v:=.agg #[.string y3.1.Test,.string y3.1.Key,iv y3.1.At,.bool y3.1.Pass,iv y3.1.Seconds]) (cells':=#[.string y3.1.Test,.string y3.1.Key,iv y3.1.At,.bool y3.1.Pass,iv y3.1.Seconds]) (by kernel_rfl) rfl (by kernel_rfl) (by kernel_rfl)) ?_
   rintro _ _ _ _ ⟨rfl,rfl,rfl⟩
   refine Rd 8 [5,6,8,9,10,11] [(5,.slice Av_out5 v_out5.length cv_out5),(6,iv v_n6),(8,.string y2.2.1),(9,.bool y2.2.2),(10,pg g1 0),(11,.bool y3.2)]<|Ad 2 [.c [1,1,1,0,1,0,0,1,0,0,1,1,0,0],.c [1,1,1,0,1,0,0,1,0,0,1,1,0,1],.c [1,1,1,0,1,0,0,1,0,0,1,1,1],.b 1,.c [1,1,1,0,1,0,0,1,1],.l [1,1,1,0,1,0,0],.b 0,.c [1,1,1,1]] ?_
   obtain ⟨t1,ht1,heq⟩:=bind_some heq
   have K6:RunH C9 (S9 F H r) H w0 [.c [1,1,1,0,1,0,0,1,0,0,1,1,0,1],.c [1,1,1,0,1,0,0,1,0,0,1,1,1],.b 1,.c [1,1,1,0,1,0,0,1,1],.l [1,1,1,0,1,0,0],.b 0,.c [1,1,1,1]] [(5,.slice Av_out5 v_out5.length cv_out5),(6,iv v_n6),(8,.string y2.2.1),(10,pg g1 0),(36,.bool t1)] H ((some (g1,.cells #[.string y3.1.Test,.string y3.1.Key,iv y3.1.At,.bool y3.1.Pass,iv y3.1.Seconds] 25 (0,0)))::chv_out5::F):=by
    rcases bool_cases (t1) with hb5 | hb5
    ·replace heq:=bif_true hb5 heq
     refine Ct t1 hb5<|Ra 1 [1,1,1,0,1,0,0,1,0,0,1,1,0,1,0,0] [.c [1,1,1,0,1,0,0,1,0,0,1,1,0,1,0,1],.c [1,1,1,0,1,0,0,1,0,0,1,1,1],.b 1,.c [1,1,1,0,1,0,0,1,1],.l [1,1,1,0,1,0,0],.b 0,.c [1,1,1,1]]<|Rd 4 [2,3,4] [(2,.slice none 0 0),(3,iv v_n6),(4,iv 10)]<|RunH.nilc ?_
     have ho3:SlOwn kTestRun 25 H none 0 ([]:List TestRun) none:=SlOwn.nil
     obtain rfl:=Option.some.inj heq
     refine RunH.pick 3 [0] (cs':=none::F) (by kernel_rfl) rfl ?_
     exact RunH.done (by kernel_rfl) Tryz.func9 (v:=.tuple #[.slice none 0 0,iv v_n6,iv 10]) (by kernel_rfl) ⟨none,0,none,rfl,rfl,rfl,ho3⟩
    ·replace heq:=bif_false hb5 heq
     refine Cf t1 hb5<|Ra 1 [1,1,1,0,1,0,0,1,0,0,1,1,1] [.b 1,.c [1,1,1,0,1,0,0,1,1],.l [1,1,1,0,1,0,0],.b 0,.c [1,1,1,1]]<|Rv 2 [6,8,38,39] [.string y3.1.Test,.string y3.1.Key,iv y3.1.At,.bool y3.1.Pass,iv y3.1.Seconds] [.load ⟨g1,0,none⟩ (.string y3.1.Test),.load ⟨g1,1,none⟩ (.string y3.1.Key),.load ⟨g1,2,none⟩ (iv y3.1.At),.load ⟨g1,3,none⟩ (.bool y3.1.Pass),.load ⟨g1,4,none⟩ (iv y3.1.Seconds)] [(6,iv v_n6),(8,.string y2.2.1),(38,.slice Av_out5 v_out5.length cv_out5),(39,.agg #[.string y3.1.Test,.string y3.1.Key,iv y3.1.At,.bool y3.1.Pass,iv y3.1.Seconds])] (fun w hh=>⟨(hh.box 0 rfl rfl),(hh.box 0 rfl rfl),(hh.box 0 rfl rfl),(hh.box 0 rfl rfl),(hh.box 0 rfl rfl)⟩) ?_
     refine RgH.does (DoesH.new (d:=40) (v:=fun g=>.slice (some ⟨g,0,none⟩) 1 1) (o:=fun g=>.cells #[.string y3.1.Test,.string y3.1.Key,iv y3.1.At,.bool y3.1.Pass,iv y3.1.Seconds] 25 (0,0)) (fun g=>by kernel_rfl)) ?_
     rintro _ _ _ _ ⟨g2,rfl,rfl,rfl⟩
     have ho4:SlOwn kTestRun 25 H (some ⟨g2,0,none⟩) 1 ([y3.1]:List TestRun) (some (g2,.cells #[.string y3.1.Test,.string y3.1.Key,iv y3.1.At,.bool y3.1.Pass,iv y3.1.Seconds] 25 (0,0))):=SlOwn.lit (xs:=([y3.1]:List TestRun)) (by kernel_rfl) (Nat.le_of_ble_eq_true (by kernel_rfl)) (Kd.Rep.one kTestRun_mk)
     obtain ⟨hn1,heq⟩:=guard?_some heq
     refine RgH.does (DoesH.append (d:=41) (k:=2) (t:=22) (e:=25) (bytes:=56) (kd:=kTestRun) (n:=v_out5.length) (m:=1) (xs:=v_out5) (ys:=([y3.1]:List TestRun)) (A:=Av_out5) (B:=(some ⟨g2,0,none⟩)) (c:=cv_out5) (cB:=1) (by kernel_rfl) rfl rfl (by kernel_rfl) rfl hov_out5 (fun w hh=>ho4.rdb (hh.chin 0 rfl)) (room_le hn1) (by have:=room_le hn1; omega)) ?_
     rintro _ _ _ _ ⟨A1,c1,ch1,rfl,rfl,rfl,ho5⟩
     refine Rd 7 [0,5,6] [(0,.string y2.2.1),(5,.slice A1 ((v_out5++([y3.1]:List TestRun)).length) c1),(6,iv v_n6)]<|Ra 1 [1,1,1,0,1,0,0,1,1] [.l [1,1,1,0,1,0,0],.b 0,.c [1,1,1,1]]<|Rd 3 [0,5,6] [(0,.string y2.2.1),(5,.slice A1 ((v_out5++([y3.1]:List TestRun)).length) c1),(6,iv (w64 (v_n6+1)))]<|Ad 1 [.c [1,1,1,0,1,0,0],.l [1,1,1,0,1,0,0],.b 0,.c [1,1,1,1]]<|Kp [0,5,6] [(0,.string y2.2.1),(5,.slice A1 ((v_out5++([y3.1]:List TestRun)).length) c1),(6,iv (w64 (v_n6+1)))] ?_
     refine RunH.pick 3 [2] (cs':=ch1::F) (by kernel_rfl) rfl ?_
     exact ihk y2.2.1 (v_out5++([y3.1]:List TestRun)) _ _ _ _ (w64 (v_n6+1)) ho5 rfl heq
   replace heq:=ht1
   refine Rr<|Rk 3 [33,5,6,8,10,11] [(33,.bool (!y2.2.2)),(5,.slice Av_out5 v_out5.length cv_out5),(6,iv v_n6),(8,.string y2.2.1),(10,pg g1 0),(11,.bool y3.2)] ?_
   rcases bool_cases (!y2.2.2) with hb4 | hb4
   ·replace heq:=bif_true hb4 heq
    refine RgH.val1 (v':=.bool true) (congrArg Value.bool hb4) ?_
    refine Rk 6 [5,6,8,10,36] [(5,.slice Av_out5 v_out5.length cv_out5),(6,iv v_n6),(8,.string y2.2.1),(10,pg g1 0),(36,.bool true)] ?_
    obtain rfl:=Option.some.inj heq
    refine Kg [5,6,8,10,36] [(5,.slice Av_out5 v_out5.length cv_out5),(6,iv v_n6),(8,.string y2.2.1),(10,pg g1 0),(36,.bool true)]<|Dn ?_
    exact K6
   ·replace heq:=bif_false hb4 heq
    refine RgH.val1 (v':=.bool false) (congrArg Value.bool hb4) ?_
    refine Rk 6 [5,6,8,10,36] [(5,.slice Av_out5 v_out5.length cv_out5),(6,iv v_n6),(8,.string y2.2.1),(10,pg g1 0),(36,.bool (!y3.2))] ?_
    obtain rfl:=Option.some.inj heq
    refine Kg [5,6,8,10,36] [(5,.slice Av_out5 v_out5.length cv_out5),(6,iv v_n6),(8,.string y2.2.1),(10,pg g1 0),(36,.bool (!y3.2))]<|Dn ?_
    exact K6
  ·replace heq:=bif_false hb3 heq
   refine Cf (!sEq v_text0 ({ data:=#[] }:ByteArray)) hb3<|Ad 3 [.c [1,1,1,1,0,0],.c [1,1,1,1,0,1],.c [1,1,1,1,1]]<|Kp [5] [(5,.slice Av_out5 v_out5.length cv_out5)] ?_
   exact he1 v_out5 _ _ _ _ hov_out5 rfl heq
theorem trials_Read_c {w0:World} [TabI Tryz.prog "internal/strconv.uint64pow10" 1 w0] [GlobI 0 w0] {H:Hp} {F:List Ch} {a0:ByteArray} {r:(List TestRun) × Int × Int} (heq:trials_Read.f a0=some r):CallsH Tryz.prog 9 #[.string a0] H w0 (F) (S9 F H r):=by
 refine calls_of_runH (F:=C9) Tryz.func9 (by kernel_rfl) Tryz.ntmps9 (args:=[.string a0]) (by kernel_rfl) ?_
 unfold trials_Read.f at heq
 refine Ra 1 [0] [.c [1]]<|Rd 3 [0] [(0,.string a0)]<|Ra 2 [1,0,0] [.c [1,0,1],.c [1,1]]<|Rd 3 [0,15] [(0,.string a0),(15,.bool (decide (900000<(a0.size:Int))))] ?_
 rcases bool_cases (decide (900000<(a0.size:Int))) with hb1 | hb1
 ·replace heq:=bif_true hb1 heq
  refine Ct (decide (900000<(a0.size:Int))) hb1<|Ra 1 [1,0,1,0,0] [.c [1,0,1,0,1],.c [1,1]]<|Rd 3 [2,3,4] [(2,.slice none 0 0),(3,iv 0),(4,iv 2)]<|RunH.nilc ?_
  have ho1:SlOwn kTestRun 25 H none 0 ([]:List TestRun) none:=SlOwn.nil
  obtain rfl:=Option.some.inj heq
  exact RunH.done (by kernel_rfl) Tryz.func9 (v:=.tuple #[.slice none 0 0,iv 0,iv 2]) (by kernel_rfl) ⟨none,0,none,rfl,rfl,rfl,ho1⟩
 ·replace heq:=bif_false hb1 heq
  refine Cf (decide (900000<(a0.size:Int))) hb1<|Ra 2 [1,1,0] [.c [1,1,1]]<|Rd 1 [0,5] [(0,.string a0),(5,.slice none 0 0)]<|Ra 2 [1,1,1,0,0] [.c [1,1,1,0,1],.c [1,1,1,1]]<|Rd 1 [0,5,6] [(0,.string a0),(5,.slice none 0 0),(6,iv 1)]<|Ad 2 [.c [1,1,1,0,1,0,0],.l [1,1,1,0,1,0,0],.b 0,.c [1,1,1,1]]<|RunH.nilc ?_
  have ho6:SlOwn kTestRun 25 H none 0 ([]:List TestRun) none:=SlOwn.nil
  refine Kp [0,5,6] [(0,.string a0),(5,.slice none 0 0),(6,iv 1)] ?_
  exact ((trials_Read.l2_c (e1:=trials_Read.e1) (trials_Read.e1_c)) big) a0 ([]:List TestRun) _ _ _ _ 1 ho6 rfl heq
noncomputable def C3:Ctx:={ P:=Tryz.prog,f:=3,N:=59,c:=bodyOf Tryz.f3 }
def S3 (F:List Ch) (H0:Hp) (r:Bool) (v:Value) (H:Hp) (cs:List Ch):Prop:=H0=H∧v=.bool r∧F=cs
theorem smithyardlaw10_TrialsTextsMatchSpec_c {w0:World} [TabI Tryz.prog "internal/strconv.uint64pow10" 1 w0] [GlobI 0 w0] {H:Hp} {F:List Ch} {a0:List TestRun} {Aa0:Option Addr} {na0:Nat} {ca0:Nat} {r:Bool} (hra0:Rw kTestRun H F Aa0 a0) (hca0:na0≤ca0) (hna0:na0=a0.length) (heq:smithyardlaw10_TrialsTextsMatchSpec.f a0=some r):CallsH Tryz.prog 3 #[.slice Aa0 na0 ca0] H w0 (F) (S3 F H r):=by
 refine calls_of_runH (F:=C3) Tryz.func3 (by kernel_rfl) Tryz.ntmps3 (args:=[.slice Aa0 na0 ca0]) (by kernel_rfl) ?_
 subst hna0
 unfold smithyardlaw10_TrialsTextsMatchSpec.f at heq
 refine Ra 1 [0] [.c [1]]<|Rd 1 [0] [(0,.slice Aa0 a0.length ca0)]<|Ra 1 [1,0] [.c [1,1]]<|Rk 1 [0,10] [(0,.slice Aa0 a0.length ca0),(10,.slice Aa0 a0.length ca0)] ?_
 obtain ⟨y1,hy1,heq⟩:=bind_some heq
 refine RgH.does (DoesH.call (d:=11) (g:=4) (args:=#[.slice Aa0 a0.length ca0]) (by kernel_rfl) (slices_Clone_TestRun_c (a0:=a0) hra0 hca0 rfl hy1)) ?_
 rintro _ _ _ _ ⟨_,rfl,A1,c1,ch1,rfl,rfl,rfl,ho1⟩
 refine Rd 3 [0,3] [(0,.slice Aa0 a0.length ca0),(3,.slice A1 y1.length c1)]<|Ra 1 [1,1,0] [.c [1,1,1]]<|Rk 1 [0,3,13] [(0,.slice Aa0 a0.length ca0),(3,.slice A1 y1.length c1),(13,.slice Aa0 a0.length ca0)] ?_
 obtain ⟨y2,hy2,heq⟩:=bind_some heq
 refine RgH.does (DoesH.call (d:=14) (g:=5) (args:=#[.slice Aa0 a0.length ca0]) (by kernel_rfl) (trials_Text_c (a0:=a0) (hra0.wk (fun _ h=>(.tail _ h))) hca0 rfl hy2)) ?_
 rintro _ _ _ _ ⟨_,rfl,rfl,rfl,rfl⟩
 refine Rd 7 [0,3,4,5] [(0,.slice Aa0 a0.length ca0),(3,.slice A1 y1.length c1),(4,.string y2.1),(5,iv y2.2)]<|Ra 1 [1,1,1,0] [.c [1,1,1,1]]<|Rk 1 [0,3,4,5,18] [(0,.slice Aa0 a0.length ca0),(3,.slice A1 y1.length c1),(4,.string y2.1),(5,iv y2.2),(18,.slice A1 y1.length c1)] ?_
 obtain ⟨y3,hy3,heq⟩:=bind_some heq
 refine RgH.does (DoesH.call (d:=19) (g:=6) (args:=#[.slice A1 y1.length c1]) (by kernel_rfl) (smithyardref10_Text_c (a0:=y1) (ho1.rw (.head _)) ho1.cap rfl hy3)) ?_
 rintro _ _ _ _ ⟨_,rfl,rfl,rfl,rfl⟩
 refine Rd 7 [0,3,4,5,6,7] [(0,.slice Aa0 a0.length ca0),(3,.slice A1 y1.length c1),(4,.string y2.1),(5,iv y2.2),(6,.string y3.1),(7,iv y3.2)]<|Ad 2 [.c [1,1,1,1,0,0],.c [1,1,1,1,0,1],.c [1,1,1,1,1]] ?_
 obtain ⟨t1,ht1,heq⟩:=bind_some heq
 have K2:RunH C3 (S3 F H r) H w0 [.c [1,1,1,1,0,1],.c [1,1,1,1,1]] [(0,.slice Aa0 a0.length ca0),(4,.string y2.1),(5,iv y2.2),(39,.bool t1)] H (F):=by
  rcases bool_cases (t1) with hb4 | hb4
  ·replace heq:=bif_true hb4 heq
   refine Ct t1 hb4<|Ra 1 [1,1,1,1,0,1,0,0] [.c [1,1,1,1,0,1,0,1],.c [1,1,1,1,1]]<|Rd 1 [2] [(2,.bool false)] ?_
   obtain rfl:=Option.some.inj heq
   exact RunH.done (by kernel_rfl) Tryz.func3 (v:=.bool false) (by kernel_rfl) ⟨rfl,rfl,rfl⟩
  ·replace heq:=bif_false hb4 heq
   refine Cf t1 hb4<|Ra 3 [1,1,1,1,1,0,0] [.c [1,1,1,1,1,0,1],.c [1,1,1,1,1,1]]<|Rd 2 [0,4,41] [(0,.slice Aa0 a0.length ca0),(4,.string y2.1),(41,.bool (y2.2 != 0))] ?_
   rcases bool_cases (y2.2 != 0) with hb5 | hb5
   ·replace heq:=bif_true hb5 heq
    refine Ct (y2.2 != 0) hb5<|Ra 1 [1,1,1,1,1,0,1,0,0] [.c [1,1,1,1,1,0,1,0,1],.c [1,1,1,1,1,1]]<|Rd 1 [2] [(2,.bool true)] ?_
    obtain rfl:=Option.some.inj heq
    exact RunH.done (by kernel_rfl) Tryz.func3 (v:=.bool true) (by kernel_rfl) ⟨rfl,rfl,rfl⟩
   ·replace heq:=bif_false hb5 heq
    refine Cf (y2.2 != 0) hb5<|Ra 2 [1,1,1,1,1,1,0] [.c [1,1,1,1,1,1,1]]<|Rk 1 [0,43] [(0,.slice Aa0 a0.length ca0),(43,.string y2.1)] ?_
    obtain ⟨y6,hy6,heq⟩:=bind_some heq
    refine RgH.does (DoesH.call (d:=44) (g:=9) (args:=#[.string y2.1]) (by kernel_rfl) (trials_Read_c (a0:=y2.1)  hy6)) ?_
    rintro _ _ _ _ ⟨_,rfl,A2,c2,ch2,rfl,rfl,rfl,ho2⟩
    refine Rd 9 [0,5,8,9] [(0,.slice Aa0 a0.length ca0),(5,iv y6.2.2),(8,.slice A2 y6.1.length c2),(9,iv y6.2.1)]<|Ad 1 [.c [1,1,1,1,1,1,1,0],.c [1,1,1,1,1,1,1,1]] ?_
    obtain ⟨t2,ht2,heq⟩:=bind_some heq
    have K4:RunH C3 (S3 F H r) H w0 [.c [1,1,1,1,1,1,1,1]] [(2,.bool t2)] H (F):=by
     obtain rfl:=Option.some.inj heq
     exact RunH.done (by kernel_rfl) Tryz.func3 (v:=.bool t2) (by kernel_rfl) ⟨rfl,rfl,rfl⟩
    replace heq:=ht2
    refine Rr<|Rk 3 [50,0,8,9] [(50,.bool (y6.2.2 == 0)),(0,.slice Aa0 a0.length ca0),(8,.slice A2 y6.1.length c2),(9,iv y6.2.1)] ?_
    rcases bool_cases (y6.2.2 == 0) with hb6 | hb6
    ·replace heq:=bif_true hb6 heq
     refine RgH.val1 (v':=.bool true) (congrArg Value.bool hb6) ?_
     refine Rk 7 [54,0,8] [(54,.bool (y6.2.1 == 0)),(0,.slice Aa0 a0.length ca0),(8,.slice A2 y6.1.length c2)] ?_
     rcases bool_cases (y6.2.1 == 0) with hb7 | hb7
     ·replace heq:=bif_true hb7 heq
      refine RgH.val1 (v':=.bool true) (congrArg Value.bool hb7) ?_
      refine Rk 9 [54,55,56] [(54,.bool true),(55,.slice Aa0 a0.length ca0),(56,.slice A2 y6.1.length c2)] ?_
      obtain ⟨y7,hy7,heq⟩:=bind_some heq
      refine RgH.does (DoesH.call (d:=57) (g:=7) (args:=#[.slice Aa0 a0.length ca0,.slice A2 y6.1.length c2]) (by kernel_rfl) (slices_Equal_TestRun_c (a0:=a0) (a1:=y6.1) (hra0.wk (fun _ h=>(.tail _ h))) hca0 rfl (ho2.rw (.head _)) ho2.cap rfl hy7)) ?_
      rintro _ _ _ _ ⟨_,rfl,rfl,rfl,rfl⟩
      refine Rk 12 [2] [(2,.bool y7)] ?_
      obtain rfl:=Option.some.inj heq
      refine Kg [2] [(2,.bool y7)] ?_
      refine RgH.pick 1 [] (cs':=F) (by kernel_rfl) rfl ?_
      refine Dn ?_
      exact K4
     ·replace heq:=bif_false hb7 heq
      refine RgH.val1 (v':=.bool false) (congrArg Value.bool hb7) ?_
      refine Rk 12 [2] [(2,.bool false)] ?_
      obtain rfl:=Option.some.inj heq
      refine Kg [2] [(2,.bool false)] ?_
      refine RgH.pick 1 [] (cs':=F) (by kernel_rfl) rfl ?_
      refine Dn ?_
      exact K4
    ·replace heq:=bif_false hb6 heq
     refine RgH.val1 (v':=.bool false) (congrArg Value.bool hb6) ?_
     refine Rk 12 [2] [(2,.bool false)] ?_
     obtain rfl:=Option.some.inj heq
     refine Kg [2] [(2,.bool false)] ?_
     refine RgH.pick 1 [] (cs':=F) (by kernel_rfl) rfl ?_
     refine Dn ?_
     exact K4
 replace heq:=ht1
 refine Rr<|Rk 4 [25,0,3,4,5,6] [(25,.bool (y2.2 != y3.2)),(0,.slice Aa0 a0.length ca0),(3,.slice A1 y1.length c1),(4,.string y2.1),(5,iv y2.2),(6,.string y3.1)] ?_
 rcases bool_cases (y2.2 != y3.2) with hb1 | hb1
 ·replace heq:=bif_true hb1 heq
  refine RgH.val1 (v':=.bool true) (congrArg Value.bool hb1) ?_
  refine Rk 18 [0,4,5,39] [(0,.slice Aa0 a0.length ca0),(4,.string y2.1),(5,iv y2.2),(39,.bool true)] ?_
  obtain rfl:=Option.some.inj heq
  refine Kg [0,4,5,39] [(0,.slice Aa0 a0.length ca0),(4,.string y2.1),(5,iv y2.2),(39,.bool true)] ?_
  refine RgH.pick 1 [] (cs':=F) (by kernel_rfl) rfl ?_
  refine Dn ?_
  exact K2
 ·replace heq:=bif_false hb1 heq
  refine RgH.val1 (v':=.bool false) (congrArg Value.bool hb1) ?_
  refine Rk 9 [30,0,3,4,5] [(30,.bool (!sEq y2.1 y3.1)),(0,.slice Aa0 a0.length ca0),(3,.slice A1 y1.length c1),(4,.string y2.1),(5,iv y2.2)] ?_
  rcases bool_cases (!sEq y2.1 y3.1) with hb2 | hb2
  ·replace heq:=bif_true hb2 heq
   refine RgH.val1 (v':=.bool true) (congrArg Value.bool hb2) ?_
   refine Rk 18 [0,4,5,39] [(0,.slice Aa0 a0.length ca0),(4,.string y2.1),(5,iv y2.2),(39,.bool true)] ?_
   obtain rfl:=Option.some.inj heq
   refine Kg [0,4,5,39] [(0,.slice Aa0 a0.length ca0),(4,.string y2.1),(5,iv y2.2),(39,.bool true)] ?_
   refine RgH.pick 1 [] (cs':=F) (by kernel_rfl) rfl ?_
   refine Dn ?_
   exact K2
  ·replace heq:=bif_false hb2 heq
   refine RgH.val1 (v':=.bool false) (congrArg Value.bool hb2) ?_
   refine Rk 11 [0,4,5,30,31,32] [(0,.slice Aa0 a0.length ca0),(4,.string y2.1),(5,iv y2.2),(30,.bool false),(31,.slice Aa0 a0.length ca0),(32,.slice A1 y1.length c1)] ?_
   obtain ⟨y4,hy4,heq⟩:=bind_some heq
   refine RgH.does (DoesH.call (d:=33) (g:=7) (args:=#[.slice Aa0 a0.length ca0,.slice A1 y1.length c1]) (by kernel_rfl) (slices_Equal_TestRun_c (a0:=a0) (a1:=y1) (hra0.wk (fun _ h=>(.tail _ h))) hca0 rfl (ho1.rw (.head _)) ho1.cap rfl hy4)) ?_
   rintro _ _ _ _ ⟨_,rfl,rfl,rfl,rfl⟩
   refine Rk 15 [36,0,4,5] [(36,.bool (!y4)),(0,.slice Aa0 a0.length ca0),(4,.string y2.1),(5,iv y2.2)] ?_
   rcases bool_cases (!y4) with hb3 | hb3
   ·replace heq:=bif_true hb3 heq
    refine RgH.val1 (v':=.bool true) (congrArg Value.bool hb3) ?_
    refine Rk 18 [0,4,5,39] [(0,.slice Aa0 a0.length ca0),(4,.string y2.1),(5,iv y2.2),(39,.bool true)] ?_
    obtain rfl:=Option.some.inj heq
    refine Kg [0,4,5,39] [(0,.slice Aa0 a0.length ca0),(4,.string y2.1),(5,iv y2.2),(39,.bool true)] ?_
    refine RgH.pick 1 [] (cs':=F) (by kernel_rfl) rfl ?_
    refine Dn ?_
    exact K2
   ·replace heq:=bif_false hb3 heq
    refine RgH.val1 (v':=.bool false) (congrArg Value.bool hb3) ?_
    obtain ⟨y5,hy5,heq⟩:=bind_some heq
    refine RgH.does (DoesH.call (d:=37) (g:=8) (args:=(List.toArray [])) (by kernel_rfl) (smithyardlaw10_awake_c  hy5)) ?_
    rintro _ _ _ _ ⟨_,rfl,rfl,rfl,rfl⟩
    refine Rk 18 [0,4,5,39] [(0,.slice Aa0 a0.length ca0),(4,.string y2.1),(5,iv y2.2),(39,.bool (!y5))] ?_
    obtain rfl:=Option.some.inj heq
    refine Kg [0,4,5,39] [(0,.slice Aa0 a0.length ca0),(4,.string y2.1),(5,iv y2.2),(39,.bool (!y5))] ?_
    refine RgH.pick 1 [] (cs':=F) (by kernel_rfl) rfl ?_
    refine Dn ?_
    exact K2
end Go.Proofs.YtamacaieccppaaaGreatDoor
