/- What the machine's calls of these functions come to: just what the plain functions say. Written by program. -/
import Derived.Test.YtnhedhnnknnenaaDoorProg
import Derived.Test.YtnhedhnnknnenaaDoorKitW
import Derived.Test.YtnhedhnnknnenaaDoorZD
import Derived.Test.YtnhedhnnknnenaaDoorShelf
import Derived.Test.YtnhedhnnknnenaaDoorKitRg
import Derived.Test.YtnhedhnnknnenaaDoorKitSk
set_option linter.unusedVariables false
set_option linter.unnecessarySimpa false
set_option linter.unusedSimpArgs false
set_option maxRecDepth 100000
set_option maxHeartbeats 1000000
namespace Go.Proofs.YtnhedhnnknnenaaDoor
open Go Go.RowKit Go.Proofs.YtnhedhnnknnenaaDoor.Kit
def kTestRun:Kd TestRun:=Kd.iso ((Kd.pair Kd.string (Kd.pair Kd.string (Kd.pair (Kd.int .i64) (Kd.pair Kd.bool (Kd.int .i64)))))) (fun x=>(x.Test,x.Key,x.At,x.Pass,x.Seconds))
theorem kTestRun_open {H:Hp} {x:TestRun} {c:List Value} (h:kTestRun.K H x c):c=[.string x.Test,.string x.Key,iv x.At,.bool x.Pass,iv x.Seconds]:=by
 obtain ⟨p0,q0,rfl,g0,h0⟩:=h
 obtain rfl:p0=[_]:=g0
 obtain ⟨p1,q1,rfl,g1,h1⟩:=h0
 obtain rfl:p1=[_]:=g1
 obtain ⟨p2,q2,rfl,g2,h2⟩:=h1
 obtain rfl:p2=[_]:=g2
 obtain ⟨p3,q3,rfl,g3,h3⟩:=h2
 obtain rfl:p3=[_]:=g3
 obtain rfl:q3=[_]:=h3
 rfl
theorem kTestRun_mk {H:Hp} {x:TestRun}:kTestRun.K H x [.string x.Test,.string x.Key,iv x.At,.bool x.Pass,iv x.Seconds]:=⟨[.string x.Test],[.string x.Key,iv x.At,.bool x.Pass,iv x.Seconds],rfl,rfl,⟨[.string x.Key],[iv x.At,.bool x.Pass,iv x.Seconds],rfl,rfl,⟨[iv x.At],[.bool x.Pass,iv x.Seconds],rfl,rfl,⟨[.bool x.Pass],[iv x.Seconds],rfl,rfl,rfl⟩⟩⟩⟩
def ktrials_id:Kd trials_id:=Kd.iso ((Kd.pair Kd.string Kd.string)) (fun x=>(x.test,x.key))
theorem ktrials_id_open {H:Hp} {x:trials_id} {c:List Value} (h:ktrials_id.K H x c):c=[.string x.test,.string x.key]:=by
 obtain ⟨p0,q0,rfl,g0,h0⟩:=h
 obtain rfl:p0=[_]:=g0
 obtain rfl:q0=[_]:=h0
 rfl
theorem ktrials_id_mk {H:Hp} {x:trials_id}:ktrials_id.K H x [.string x.test,.string x.key]:=⟨[.string x.test],[.string x.key],rfl,rfl,rfl⟩
def ktrials_tally:Kd trials_tally:=Kd.iso ((Kd.pair (Kd.int .i64) (Kd.int .i64))) (fun x=>(x.passed,x.failed))
theorem ktrials_tally_open {H:Hp} {x:trials_tally} {c:List Value} (h:ktrials_tally.K H x c):c=[iv x.passed,iv x.failed]:=by
 obtain ⟨p0,q0,rfl,g0,h0⟩:=h
 obtain rfl:p0=[_]:=g0
 obtain rfl:q0=[_]:=h0
 rfl
theorem ktrials_tally_mk {H:Hp} {x:trials_tally}:ktrials_tally.K H x [iv x.passed,iv x.failed]:=⟨[iv x.passed],[iv x.failed],rfl,rfl,rfl⟩
def etrials_id (x:trials_id):Value:=.agg #[.string x.test,.string x.key]
theorem kytrials_id:KyAt Tryd.prog 36 etrials_id:=KyAt.struct (cells:=fun x=>#[.string x.test,.string x.key]) (q:=fun a b=>(a.test.toList == b.test.toList&&(a.key.toList == b.key.toList&&true))) Tryd.underlying36 (by kernel_rfl) (fun _=>rfl) (fun _=>by kernel_rfl) (fun _ _=>by kernel_rfl) (fun a b=>by
 obtain ⟨a0,a1⟩:=a
 obtain ⟨b0,b1⟩:=b
 simp [toList_beq]) (fun _=>by kernel_rfl)
def S18 (F:List Ch) (H0:Hp) (r:List ByteArray) (v:Value) (H:Hp) (cs:List Ch):Prop:=∃ (A0:Option Addr) (c0:Nat) (ch0:Ch),H0=H∧v=.slice A0 r.length c0∧ch0::F=cs∧SlOwn Kd.string 9 H A0 c0 r ch0
theorem strings_Split_c {w0:World} [GlobI 0 w0] {H:Hp} {F:List Ch} {a0 a1:ByteArray} {r:List ByteArray} (heq:strings_Split.f a0 a1=some r):CallsH Tryd.prog 18 #[.string a0,.string a1] H w0 F (S18 F H r):=by
 intro w hh
 unfold strings_Split.f at heq
 obtain ⟨hn,heq⟩:=guard?_some heq
 obtain rfl:=Option.some.inj heq
 simp only [Bool.and_eq_true,decide_eq_true_eq] at hn
 obtain ⟨m,hm⟩:=GlobI.at (g:=0) hh
 refine (Shelf.Tryd.strings_Split a0 a1 m w hn.1 hm hn.2).mono ?_
 rintro e w' ⟨rfl,rfl⟩
 have hl:=Lib.splitB_all a1 hn.2 0 _ a0 rfl
 have hc:=Lib.countB_le a1 hn.2 a0.size a0 (Nat.le_refl _)
 obtain ⟨H',cs',hle,hh',A0,c0,ch0,rfl,hv,rfl,ho⟩:=split_post (e:=9) hh hl (by unfold maxLen; omega) rfl
 exact ⟨_,rfl,_,_,hle,hh',A0,c0,ch0,rfl,hv,rfl,ho⟩
def S47 (F:List Ch) (H0:Hp) (r:Int) (v:Value) (H:Hp) (cs:List Ch):Prop:=H0=H∧v=iv r∧F=cs
theorem strings_IndexByte_c {w0:World} [GlobI 0 w0] {H:Hp} {F:List Ch} {a0:ByteArray} {a1:Int} {r:Int} (heq:strings_IndexByte.f a0 a1=some r):CallsH Tryd.prog 47 #[.string a0,.int .u8 a1] H w0 F (S47 F H r):=by
 intro w hh
 unfold strings_IndexByte.f at heq
 obtain rfl:=Option.some.inj heq
 refine (Shelf.Tryd.strings_IndexByte a0 a1 w).mono ?_
 rintro e w' ⟨rfl,rfl⟩
 exact ⟨_,rfl,H,F,Le.refl H,hh,rfl,rfl,rfl⟩
noncomputable def C25:Ctx:={ P:=Tryd.prog,f:=25,N:=30,c:=bodyOf Tryd.f25 }
def S25 (F:List Ch) (H0:Hp) (r:Bool) (v:Value) (H:Hp) (cs:List Ch):Prop:=H0=H∧v=.bool r∧F=cs
theorem blob_inPart_c {w0:World} [GlobI 0 w0] {H:Hp} {F:List Ch} {a0:Int} {r:Bool} (heq:blob_inPart.f a0=some r):CallsH Tryd.prog 25 #[.int .u8 a0] H w0 (F) (S25 F H r):=by
 refine calls_of_runH (F:=C25) Tryd.func25 (by kernel_rfl) Tryd.ntmps25 (args:=[.int .u8 a0]) (by kernel_rfl) ?_
 unfold blob_inPart.f at heq
 refine Ra 1 [0] [.c [1]]<|Rd 1 [0] [(0,.int .u8 a0)]<|Ad 1 [.c [1,0],.c [1,1]] ?_
 obtain ⟨t1,ht1,heq⟩:=bind_some heq
 have K1:RunH C25 (S25 F H r) H w0 [.c [1,1]] [(2,.bool t1)] H (F):=by
  obtain rfl:=Option.some.inj heq
  exact RunH.done (by kernel_rfl) Tryd.func25 (v:=.bool t1) (by kernel_rfl) ⟨rfl,rfl,rfl⟩
 replace heq:=ht1
 refine Rr<|Rk 3 [5,0] [(5,.bool (decide (97≤a0))),(0,.int .u8 a0)] ?_
 rcases bool_cases (decide (97≤a0)) with hb1 | hb1
 ·replace heq:=bif_true hb1 heq
  refine RgH.val1 (v':=.bool true) (congrArg Value.bool hb1) ?_
  refine Rk 7 [9,0] [(9,.bool (decide (a0≤122))),(0,.int .u8 a0)] ?_
  rcases bool_cases (decide (a0≤122)) with hb2 | hb2
  ·replace heq:=bif_true hb2 heq
   refine RgH.val1 (v':=.bool true) (congrArg Value.bool hb2) ?_
   refine Rk 28 [2] [(2,.bool true)] ?_
   obtain rfl:=Option.some.inj heq
   refine Kg [2] [(2,.bool true)]<|Dn ?_
   exact K1
  ·replace heq:=bif_false hb2 heq
   refine RgH.val1 (v':=.bool false) (congrArg Value.bool hb2) ?_
   refine Rk 10 [12,0,9] [(12,.bool (decide (65≤a0))),(0,.int .u8 a0),(9,.bool false)] ?_
   rcases bool_cases (decide (65≤a0)) with hb3 | hb3
   ·replace heq:=bif_true hb3 heq
    refine RgH.val1 (v':=.bool true) (congrArg Value.bool hb3) ?_
    refine Rk 15 [17,0] [(17,.bool (decide (a0≤90))),(0,.int .u8 a0)] ?_
    rcases bool_cases (decide (a0≤90)) with hb4 | hb4
    ·replace heq:=bif_true hb4 heq
     refine RgH.val1 (v':=.bool true) (congrArg Value.bool hb4) ?_
     refine Rk 28 [2] [(2,.bool true)] ?_
     obtain rfl:=Option.some.inj heq
     refine Kg [2] [(2,.bool true)]<|Dn ?_
     exact K1
    ·replace heq:=bif_false hb4 heq
     refine RgH.val1 (v':=.bool false) (congrArg Value.bool hb4) ?_
     refine Rk 18 [20,0,17] [(20,.bool (decide (48≤a0))),(0,.int .u8 a0),(17,.bool false)] ?_
     rcases bool_cases (decide (48≤a0)) with hb5 | hb5
     ·replace heq:=bif_true hb5 heq
      refine RgH.val1 (v':=.bool true) (congrArg Value.bool hb5) ?_
      refine Rk 23 [25,0] [(25,.bool (decide (a0≤57))),(0,.int .u8 a0)] ?_
      rcases bool_cases (decide (a0≤57)) with hb6 | hb6
      ·replace heq:=bif_true hb6 heq
       refine RgH.val1 (v':=.bool true) (congrArg Value.bool hb6) ?_
       refine Rk 28 [2] [(2,.bool true)] ?_
       obtain rfl:=Option.some.inj heq
       refine Kg [2] [(2,.bool true)]<|Dn ?_
       exact K1
      ·replace heq:=bif_false hb6 heq
       refine RgH.val1 (v':=.bool false) (congrArg Value.bool hb6) ?_
       refine Rk 24 [25,26] [(25,.bool false),(26,.int .u8 a0)] ?_
       obtain ⟨y1,hy1,heq⟩:=bind_some heq
       refine RgH.does (DoesH.call (d:=27) (g:=47) (args:=#[.string ({ data:=#[46,95,45,43] }:ByteArray),.int .u8 a0]) (by kernel_rfl) (strings_IndexByte_c (a0:=({ data:=#[46,95,45,43] }:ByteArray)) (a1:=a0)  hy1)) ?_
       rintro _ _ _ _ ⟨_,rfl,rfl,rfl,rfl⟩
       refine Rk 28 [2] [(2,.bool (decide (0≤y1)))] ?_
       obtain rfl:=Option.some.inj heq
       refine Kg [2] [(2,.bool (decide (0≤y1)))]<|Dn ?_
       exact K1
     ·replace heq:=bif_false hb5 heq
      refine RgH.val1 (v':=.bool false) (congrArg Value.bool hb5) ?_
      refine Rk 24 [25,26] [(25,.bool false),(26,.int .u8 a0)] ?_
      obtain ⟨y2,hy2,heq⟩:=bind_some heq
      refine RgH.does (DoesH.call (d:=27) (g:=47) (args:=#[.string ({ data:=#[46,95,45,43] }:ByteArray),.int .u8 a0]) (by kernel_rfl) (strings_IndexByte_c (a0:=({ data:=#[46,95,45,43] }:ByteArray)) (a1:=a0)  hy2)) ?_
      rintro _ _ _ _ ⟨_,rfl,rfl,rfl,rfl⟩
      refine Rk 28 [2] [(2,.bool (decide (0≤y2)))] ?_
      obtain rfl:=Option.some.inj heq
      refine Kg [2] [(2,.bool (decide (0≤y2)))]<|Dn ?_
      exact K1
   ·replace heq:=bif_false hb3 heq
    refine RgH.val1 (v':=.bool false) (congrArg Value.bool hb3) ?_
    refine Rk 18 [20,0,17] [(20,.bool (decide (48≤a0))),(0,.int .u8 a0),(17,.bool false)] ?_
    rcases bool_cases (decide (48≤a0)) with hb7 | hb7
    ·replace heq:=bif_true hb7 heq
     refine RgH.val1 (v':=.bool true) (congrArg Value.bool hb7) ?_
     refine Rk 23 [25,0] [(25,.bool (decide (a0≤57))),(0,.int .u8 a0)] ?_
     rcases bool_cases (decide (a0≤57)) with hb8 | hb8
     ·replace heq:=bif_true hb8 heq
      refine RgH.val1 (v':=.bool true) (congrArg Value.bool hb8) ?_
      refine Rk 28 [2] [(2,.bool true)] ?_
      obtain rfl:=Option.some.inj heq
      refine Kg [2] [(2,.bool true)]<|Dn ?_
      exact K1
     ·replace heq:=bif_false hb8 heq
      refine RgH.val1 (v':=.bool false) (congrArg Value.bool hb8) ?_
      refine Rk 24 [25,26] [(25,.bool false),(26,.int .u8 a0)] ?_
      obtain ⟨y3,hy3,heq⟩:=bind_some heq
      refine RgH.does (DoesH.call (d:=27) (g:=47) (args:=#[.string ({ data:=#[46,95,45,43] }:ByteArray),.int .u8 a0]) (by kernel_rfl) (strings_IndexByte_c (a0:=({ data:=#[46,95,45,43] }:ByteArray)) (a1:=a0)  hy3)) ?_
      rintro _ _ _ _ ⟨_,rfl,rfl,rfl,rfl⟩
      refine Rk 28 [2] [(2,.bool (decide (0≤y3)))] ?_
      obtain rfl:=Option.some.inj heq
      refine Kg [2] [(2,.bool (decide (0≤y3)))]<|Dn ?_
      exact K1
    ·replace heq:=bif_false hb7 heq
     refine RgH.val1 (v':=.bool false) (congrArg Value.bool hb7) ?_
     refine Rk 24 [25,26] [(25,.bool false),(26,.int .u8 a0)] ?_
     obtain ⟨y4,hy4,heq⟩:=bind_some heq
     refine RgH.does (DoesH.call (d:=27) (g:=47) (args:=#[.string ({ data:=#[46,95,45,43] }:ByteArray),.int .u8 a0]) (by kernel_rfl) (strings_IndexByte_c (a0:=({ data:=#[46,95,45,43] }:ByteArray)) (a1:=a0)  hy4)) ?_
     rintro _ _ _ _ ⟨_,rfl,rfl,rfl,rfl⟩
     refine Rk 28 [2] [(2,.bool (decide (0≤y4)))] ?_
     obtain rfl:=Option.some.inj heq
     refine Kg [2] [(2,.bool (decide (0≤y4)))]<|Dn ?_
     exact K1
 ·replace heq:=bif_false hb1 heq
  refine RgH.val1 (v':=.bool false) (congrArg Value.bool hb1) ?_
  refine Rk 10 [12,0,9] [(12,.bool (decide (65≤a0))),(0,.int .u8 a0),(9,.bool false)] ?_
  rcases bool_cases (decide (65≤a0)) with hb9 | hb9
  ·replace heq:=bif_true hb9 heq
   refine RgH.val1 (v':=.bool true) (congrArg Value.bool hb9) ?_
   refine Rk 15 [17,0] [(17,.bool (decide (a0≤90))),(0,.int .u8 a0)] ?_
   rcases bool_cases (decide (a0≤90)) with hb10 | hb10
   ·replace heq:=bif_true hb10 heq
    refine RgH.val1 (v':=.bool true) (congrArg Value.bool hb10) ?_
    refine Rk 28 [2] [(2,.bool true)] ?_
    obtain rfl:=Option.some.inj heq
    refine Kg [2] [(2,.bool true)]<|Dn ?_
    exact K1
   ·replace heq:=bif_false hb10 heq
    refine RgH.val1 (v':=.bool false) (congrArg Value.bool hb10) ?_
    refine Rk 18 [20,0,17] [(20,.bool (decide (48≤a0))),(0,.int .u8 a0),(17,.bool false)] ?_
    rcases bool_cases (decide (48≤a0)) with hb11 | hb11
    ·replace heq:=bif_true hb11 heq
     refine RgH.val1 (v':=.bool true) (congrArg Value.bool hb11) ?_
     refine Rk 23 [25,0] [(25,.bool (decide (a0≤57))),(0,.int .u8 a0)] ?_
     rcases bool_cases (decide (a0≤57)) with hb12 | hb12
     ·replace heq:=bif_true hb12 heq
      refine RgH.val1 (v':=.bool true) (congrArg Value.bool hb12) ?_
      refine Rk 28 [2] [(2,.bool true)] ?_
      obtain rfl:=Option.some.inj heq
      refine Kg [2] [(2,.bool true)]<|Dn ?_
      exact K1
     ·replace heq:=bif_false hb12 heq
      refine RgH.val1 (v':=.bool false) (congrArg Value.bool hb12) ?_
      refine Rk 24 [25,26] [(25,.bool false),(26,.int .u8 a0)] ?_
      obtain ⟨y5,hy5,heq⟩:=bind_some heq
      refine RgH.does (DoesH.call (d:=27) (g:=47) (args:=#[.string ({ data:=#[46,95,45,43] }:ByteArray),.int .u8 a0]) (by kernel_rfl) (strings_IndexByte_c (a0:=({ data:=#[46,95,45,43] }:ByteArray)) (a1:=a0)  hy5)) ?_
      rintro _ _ _ _ ⟨_,rfl,rfl,rfl,rfl⟩
      refine Rk 28 [2] [(2,.bool (decide (0≤y5)))] ?_
      obtain rfl:=Option.some.inj heq
      refine Kg [2] [(2,.bool (decide (0≤y5)))]<|Dn ?_
      exact K1
    ·replace heq:=bif_false hb11 heq
     refine RgH.val1 (v':=.bool false) (congrArg Value.bool hb11) ?_
     refine Rk 24 [25,26] [(25,.bool false),(26,.int .u8 a0)] ?_
     obtain ⟨y6,hy6,heq⟩:=bind_some heq
     refine RgH.does (DoesH.call (d:=27) (g:=47) (args:=#[.string ({ data:=#[46,95,45,43] }:ByteArray),.int .u8 a0]) (by kernel_rfl) (strings_IndexByte_c (a0:=({ data:=#[46,95,45,43] }:ByteArray)) (a1:=a0)  hy6)) ?_
     rintro _ _ _ _ ⟨_,rfl,rfl,rfl,rfl⟩
     refine Rk 28 [2] [(2,.bool (decide (0≤y6)))] ?_
     obtain rfl:=Option.some.inj heq
     refine Kg [2] [(2,.bool (decide (0≤y6)))]<|Dn ?_
     exact K1
  ·replace heq:=bif_false hb9 heq
   refine RgH.val1 (v':=.bool false) (congrArg Value.bool hb9) ?_
   refine Rk 18 [20,0,17] [(20,.bool (decide (48≤a0))),(0,.int .u8 a0),(17,.bool false)] ?_
   rcases bool_cases (decide (48≤a0)) with hb13 | hb13
   ·replace heq:=bif_true hb13 heq
    refine RgH.val1 (v':=.bool true) (congrArg Value.bool hb13) ?_
    refine Rk 23 [25,0] [(25,.bool (decide (a0≤57))),(0,.int .u8 a0)] ?_
    rcases bool_cases (decide (a0≤57)) with hb14 | hb14
    ·replace heq:=bif_true hb14 heq
     refine RgH.val1 (v':=.bool true) (congrArg Value.bool hb14) ?_
     refine Rk 28 [2] [(2,.bool true)] ?_
     obtain rfl:=Option.some.inj heq
     refine Kg [2] [(2,.bool true)]<|Dn ?_
     exact K1
    ·replace heq:=bif_false hb14 heq
     refine RgH.val1 (v':=.bool false) (congrArg Value.bool hb14) ?_
     refine Rk 24 [25,26] [(25,.bool false),(26,.int .u8 a0)] ?_
     obtain ⟨y7,hy7,heq⟩:=bind_some heq
     refine RgH.does (DoesH.call (d:=27) (g:=47) (args:=#[.string ({ data:=#[46,95,45,43] }:ByteArray),.int .u8 a0]) (by kernel_rfl) (strings_IndexByte_c (a0:=({ data:=#[46,95,45,43] }:ByteArray)) (a1:=a0)  hy7)) ?_
     rintro _ _ _ _ ⟨_,rfl,rfl,rfl,rfl⟩
     refine Rk 28 [2] [(2,.bool (decide (0≤y7)))] ?_
     obtain rfl:=Option.some.inj heq
     refine Kg [2] [(2,.bool (decide (0≤y7)))]<|Dn ?_
     exact K1
   ·replace heq:=bif_false hb13 heq
    refine RgH.val1 (v':=.bool false) (congrArg Value.bool hb13) ?_
    refine Rk 24 [25,26] [(25,.bool false),(26,.int .u8 a0)] ?_
    obtain ⟨y8,hy8,heq⟩:=bind_some heq
    refine RgH.does (DoesH.call (d:=27) (g:=47) (args:=#[.string ({ data:=#[46,95,45,43] }:ByteArray),.int .u8 a0]) (by kernel_rfl) (strings_IndexByte_c (a0:=({ data:=#[46,95,45,43] }:ByteArray)) (a1:=a0)  hy8)) ?_
    rintro _ _ _ _ ⟨_,rfl,rfl,rfl,rfl⟩
    refine Rk 28 [2] [(2,.bool (decide (0≤y8)))] ?_
    obtain rfl:=Option.some.inj heq
    refine Kg [2] [(2,.bool (decide (0≤y8)))]<|Dn ?_
    exact K1
noncomputable def C19:Ctx:={ P:=Tryd.prog,f:=19,N:=25,c:=bodyOf Tryd.f19 }
def S19 (F:List Ch) (H0:Hp) (r:Bool) (v:Value) (H:Hp) (cs:List Ch):Prop:=H0=H∧v=.bool r∧F=cs
theorem blob_isPart.e1_c {w0:World} [GlobI 0 w0] {H:Hp} {F:List Ch} {r:Bool}:∀ (a0:ByteArray) ,blob_isPart.e1 a0=some r→RunH C19 (S19 F H r) H w0 [.c [1,1,0],.c [1,1,1]] [(0,.string a0)] H (F):=by
 intro a0  heq
 unfold blob_isPart.e1 at heq
 obtain ⟨t1,ht1,heq⟩:=bind_some heq
 have K1:RunH C19 (S19 F H r) H w0 [.c [1,1,1]] [(2,.bool t1)] H (F):=by
  obtain rfl:=Option.some.inj heq
  exact RunH.done (by kernel_rfl) Tryd.func19 (v:=.bool t1) (by kernel_rfl) ⟨rfl,rfl,rfl⟩
 replace heq:=ht1
 refine Rr<|Rk 3 [17,0] [(17,.bool (!sEq a0 ({ data:=#[] }:ByteArray))),(0,.string a0)] ?_
 rcases bool_cases (!sEq a0 ({ data:=#[] }:ByteArray)) with hb1 | hb1
 ·replace heq:=bif_true hb1 heq
  refine RgH.val1 (v':=.bool true) (congrArg Value.bool hb1) ?_
  refine Rk 7 [21,0] [(21,.bool (!sEq a0 ({ data:=#[46] }:ByteArray))),(0,.string a0)] ?_
  rcases bool_cases (!sEq a0 ({ data:=#[46] }:ByteArray)) with hb2 | hb2
  ·replace heq:=bif_true hb2 heq
   refine RgH.val1 (v':=.bool true) (congrArg Value.bool hb2) ?_
   refine Rk 11 [2] [(2,.bool (!sEq a0 ({ data:=#[46,46] }:ByteArray)))] ?_
   obtain rfl:=Option.some.inj heq
   refine Kg [2] [(2,.bool (!sEq a0 ({ data:=#[46,46] }:ByteArray)))]<|Dn ?_
   exact K1
  ·replace heq:=bif_false hb2 heq
   refine RgH.val1 (v':=.bool false) (congrArg Value.bool hb2) ?_
   refine Rk 11 [2] [(2,.bool false)] ?_
   obtain rfl:=Option.some.inj heq
   refine Kg [2] [(2,.bool false)]<|Dn ?_
   exact K1
 ·replace heq:=bif_false hb1 heq
  refine RgH.val1 (v':=.bool false) (congrArg Value.bool hb1) ?_
  refine Rk 11 [2] [(2,.bool false)] ?_
  obtain rfl:=Option.some.inj heq
  refine Kg [2] [(2,.bool false)]<|Dn ?_
  exact K1
theorem blob_isPart.l2_c {w0:World} [GlobI 0 w0] {H:Hp} {F:List Ch} {r:Bool} (e1:ByteArray→Option Bool)
  (he1:∀ (a0:ByteArray) ,e1 a0=some r→RunH C19 (S19 F H r) H w0 [.c [1,1,0],.c [1,1,1]] [(0,.string a0)] H (F)):∀ (k:Nat),∀ (a0:ByteArray) (v6:Int) ,blob_isPart.l2 e1 k a0 v6=some r→RunH C19 (S19 F H r) H w0 [.c [1,0,1,0,0],.l [1,0,1,0,0],.b 0,.c [1,1]] [(0,.string a0),(5,iv (a0.size:Int)),(6,iv v6)] H (F):=by
 intro k
 induction k with
 | zero=>intro a0 v6  heq; exact nomatch (show (none:Option Bool)=some r from heq)
 | succ k ihk =>
  intro a0 v6  heq
  rw [blob_isPart.l2] at heq
  refine Ra 1 [1,0,1,0,0,0] [.c [1,0,1,0,0,1],.l [1,0,1,0,0],.b 0,.c [1,1]]<|Rd 1 [0,5,6,7] [(0,.string a0),(5,iv (a0.size:Int)),(6,iv v6),(7,.bool (decide (v6<(a0.size:Int))))]<|Ad 1 [.c [1,0,1,0,0,1,0],.c [1,0,1,0,0,1,1],.l [1,0,1,0,0],.b 0,.c [1,1]] ?_
  rcases bool_cases (decide (v6<(a0.size:Int))) with hb3 | hb3
  ·replace heq:=bif_true hb3 heq
   refine Ct (decide (v6<(a0.size:Int))) hb3<|Ra 4 [1,0,1,0,0,1,1,0,0,0] [.c [1,0,1,0,0,1,1,0,0,1],.b 1,.c [1,0,1,0,0,1,1,1],.l [1,0,1,0,0],.b 0,.c [1,1]]<|Rd 2 [0,3,5,6] [(0,.string a0),(3,iv v6),(5,iv (a0.size:Int)),(6,iv v6)]<|Ra 1 [1,0,1,0,0,1,1,0,0,1,0] [.c [1,0,1,0,0,1,1,0,0,1,1],.b 1,.c [1,0,1,0,0,1,1,1],.l [1,0,1,0,0],.b 0,.c [1,1]] ?_
   obtain ⟨hn1,heq⟩:=guard?_some heq
   refine Rv 3 [0,5,6,11] [] [.need ((0:Int)≤v6∧v6<(a0.size:Int))] [(0,.string a0),(5,iv (a0.size:Int)),(6,iv v6),(11,.int .u8 (bt a0 v6))] (fun w hh=>(both_of hn1)) ?_
   obtain ⟨y1,hy1,heq⟩:=bind_some heq
   refine RgH.does (DoesH.call (d:=12) (g:=25) (args:=#[.int .u8 (bt a0 v6)]) (by kernel_rfl) (blob_inPart_c (a0:=bt a0 v6)  hy1)) ?_
   rintro _ _ _ _ ⟨_,rfl,rfl,rfl,rfl⟩
   refine Rd 5 [0,5,6,13] [(0,.string a0),(5,iv (a0.size:Int)),(6,iv v6),(13,.bool (!y1))] ?_
   rcases bool_cases (!y1) with hb4 | hb4
   ·replace heq:=bif_true hb4 heq
    refine Ct (!y1) hb4<|Ra 1 [1,0,1,0,0,1,1,0,0,1,1,0,0] [.c [1,0,1,0,0,1,1,0,0,1,1,0,1],.b 1,.c [1,0,1,0,0,1,1,1],.l [1,0,1,0,0],.b 0,.c [1,1]]<|Rd 1 [2] [(2,.bool false)] ?_
    obtain rfl:=Option.some.inj heq
    exact RunH.done (by kernel_rfl) Tryd.func19 (v:=.bool false) (by kernel_rfl) ⟨rfl,rfl,rfl⟩
   ·replace heq:=bif_false hb4 heq
    refine Cf (!y1) hb4<|Ra 2 [1,0,1,0,0,1,1,1] [.l [1,0,1,0,0],.b 0,.c [1,1]]<|Rd 2 [0,5,6] [(0,.string a0),(5,iv (a0.size:Int)),(6,iv (w64 (v6+1)))]<|Ad 1 [.c [1,0,1,0,0],.l [1,0,1,0,0],.b 0,.c [1,1]]<|Kp [0,5,6] [(0,.string a0),(5,iv (a0.size:Int)),(6,iv (w64 (v6+1)))] ?_
    exact ihk a0 (w64 (v6+1)) heq
  ·replace heq:=bif_false hb3 heq
   refine Cf (decide (v6<(a0.size:Int))) hb3<|Ad 2 [.c [1,1,0],.c [1,1,1]]<|Kp [0] [(0,.string a0)] ?_
   exact he1 a0 heq
theorem blob_isPart_c {w0:World} [GlobI 0 w0] {H:Hp} {F:List Ch} {a0:ByteArray} {r:Bool} (heq:blob_isPart.f a0=some r):CallsH Tryd.prog 19 #[.string a0] H w0 (F) (S19 F H r):=by
 refine calls_of_runH (F:=C19) Tryd.func19 (by kernel_rfl) Tryd.ntmps19 (args:=[.string a0]) (by kernel_rfl) ?_
 unfold blob_isPart.f at heq
 refine Ra 1 [0] [.c [1]]<|Rd 1 [0] [(0,.string a0)]<|Ra 2 [1,0,0] [.c [1,0,1],.c [1,1]]<|Rd 3 [0,5,6] [(0,.string a0),(5,iv (a0.size:Int)),(6,iv 0)]<|Ad 2 [.c [1,0,1,0,0],.l [1,0,1,0,0],.b 0,.c [1,1]]<|Kp [0,5,6] [(0,.string a0),(5,iv (a0.size:Int)),(6,iv 0)] ?_
 exact ((blob_isPart.l2_c (e1:=blob_isPart.e1) (blob_isPart.e1_c)) big) a0 0 heq
noncomputable def C12:Ctx:={ P:=Tryd.prog,f:=12,N:=24,c:=bodyOf Tryd.f12 }
def S12 (F:List Ch) (H0:Hp) (r:Bool) (v:Value) (H:Hp) (cs:List Ch):Prop:=H0=H∧v=.bool r∧F=cs
theorem blob_IsPath.e1_c {w0:World} [GlobI 0 w0] {H:Hp} {F:List Ch} {r:Bool}:blob_IsPath.e1=some r→RunH C12 (S12 F H r) H w0 [.c [1,1,1,0],.c [1,1,1,1]] [] H (F):=by
 intro   heq
 unfold blob_IsPath.e1 at heq
 refine Rr<|Rd 1 [2] [(2,.bool true)] ?_
 obtain rfl:=Option.some.inj heq
 exact RunH.done (by kernel_rfl) Tryd.func12 (v:=.bool true) (by kernel_rfl) ⟨rfl,rfl,rfl⟩
theorem blob_IsPath.l2_c {w0:World} [GlobI 0 w0] {H:Hp} {F:List Ch} {r:Bool} (e1:Option Bool)
  (he1:e1=some r→RunH C12 (S12 F H r) H w0 [.c [1,1,1,0],.c [1,1,1,1]] [] H (F)):∀ (k:Nat),∀ (y1:List ByteArray) (A1:Option Addr) (c1:Nat) (ch1:Ch) (v16:Int) ,SlOwn Kd.string 9 H A1 c1 y1 ch1→blob_IsPath.l2 e1 k y1 v16=some r→RunH C12 (S12 F H r) H w0 [.c [1,1,0,1,0,0],.l [1,1,0,1,0,0],.b 0,.c [1,1,1]] [(14,.slice A1 y1.length c1),(15,iv (y1.length:Int)),(16,iv v16)] H (ch1::F):=by
 intro k
 induction k with
 | zero=>intro y1 A1 c1 ch1 v16 ho1 heq; exact nomatch (show (none:Option Bool)=some r from heq)
 | succ k ihk =>
  intro y1 A1 c1 ch1 v16 ho1 heq
  rw [blob_IsPath.l2] at heq
  refine Ra 1 [1,1,0,1,0,0,0] [.c [1,1,0,1,0,0,1],.l [1,1,0,1,0,0],.b 0,.c [1,1,1]]<|Rd 1 [14,15,16,17] [(14,.slice A1 y1.length c1),(15,iv (y1.length:Int)),(16,iv v16),(17,.bool (decide (v16<(y1.length:Int))))]<|Ad 1 [.c [1,1,0,1,0,0,1,0],.c [1,1,0,1,0,0,1,1],.l [1,1,0,1,0,0],.b 0,.c [1,1,1]] ?_
  rcases bool_cases (decide (v16<(y1.length:Int))) with hb3 | hb3
  ·replace heq:=bif_true hb3 heq
   refine Ct (decide (v16<(y1.length:Int))) hb3<|Ra 4 [1,1,0,1,0,0,1,1,0,0,0] [.c [1,1,0,1,0,0,1,1,0,0,1],.b 1,.c [1,1,0,1,0,0,1,1,1],.l [1,1,0,1,0,0],.b 0,.c [1,1,1]] ?_
   obtain ⟨x1,hx1,heq⟩:=bind_some heq
   obtain ⟨ha1,cs1,hK1,hcc1⟩:=ho1.get hx1
   obtain rfl:cs1=[.string x1]:=hK1
   refine Rw' 3 [4,14,15,16] [.string x1] [.need (A1=some (adr A1)∧(0:Int)≤v16∧v16<((y1.length:Nat):Int)),.load ((adr A1).add (v16.toNat*1)) (.string x1)] [(4,.string x1),(14,.slice A1 y1.length c1),(15,iv (y1.length:Int)),(16,iv v16)] (fun w hh=>⟨⟨ha1,(at?_some hx1).1,(at?_some hx1).2.1⟩,(hcc1 _ (hh.chin 0 rfl) 0 _ rfl)⟩)<|Ra 1 [1,1,0,1,0,0,1,1,0,0,1,0] [.c [1,1,0,1,0,0,1,1,0,0,1,1],.b 1,.c [1,1,0,1,0,0,1,1,1],.l [1,1,0,1,0,0],.b 0,.c [1,1,1]]<|Rk 1 [14,15,16,20] [(14,.slice A1 y1.length c1),(15,iv (y1.length:Int)),(16,iv v16),(20,.string x1)] ?_
   obtain ⟨y2,hy2,heq⟩:=bind_some heq
   refine RgH.does (DoesH.call (d:=21) (g:=19) (args:=#[.string x1]) (by kernel_rfl) (blob_isPart_c (a0:=x1)  hy2)) ?_
   rintro _ _ _ _ ⟨_,rfl,rfl,rfl,rfl⟩
   refine Rd 3 [14,15,16,22] [(14,.slice A1 y1.length c1),(15,iv (y1.length:Int)),(16,iv v16),(22,.bool (!y2))] ?_
   rcases bool_cases (!y2) with hb4 | hb4
   ·replace heq:=bif_true hb4 heq
    refine Ct (!y2) hb4<|Ra 1 [1,1,0,1,0,0,1,1,0,0,1,1,0,0] [.c [1,1,0,1,0,0,1,1,0,0,1,1,0,1],.b 1,.c [1,1,0,1,0,0,1,1,1],.l [1,1,0,1,0,0],.b 0,.c [1,1,1]]<|Rd 1 [2] [(2,.bool false)] ?_
    obtain rfl:=Option.some.inj heq
    refine RunH.pick 1 [] (cs':=F) (by kernel_rfl) rfl ?_
    exact RunH.done (by kernel_rfl) Tryd.func12 (v:=.bool false) (by kernel_rfl) ⟨rfl,rfl,rfl⟩
   ·replace heq:=bif_false hb4 heq
    refine Cf (!y2) hb4<|Ra 2 [1,1,0,1,0,0,1,1,1] [.l [1,1,0,1,0,0],.b 0,.c [1,1,1]]<|Rd 2 [14,15,16] [(14,.slice A1 y1.length c1),(15,iv (y1.length:Int)),(16,iv (w64 (v16+1)))]<|Ad 1 [.c [1,1,0,1,0,0],.l [1,1,0,1,0,0],.b 0,.c [1,1,1]]<|Kp [14,15,16] [(14,.slice A1 y1.length c1),(15,iv (y1.length:Int)),(16,iv (w64 (v16+1)))] ?_
    exact ihk y1 _ _ _ (w64 (v16+1)) ho1 heq
  ·replace heq:=bif_false hb3 heq
   refine Cf (decide (v16<(y1.length:Int))) hb3<|Ad 2 [.c [1,1,1,0],.c [1,1,1,1]]<|Kp [] [] ?_
   refine RunH.pick 1 [] (cs':=F) (by kernel_rfl) rfl ?_
   exact he1 heq
theorem blob_IsPath_c {w0:World} [GlobI 0 w0] {H:Hp} {F:List Ch} {a0:ByteArray} {r:Bool} (heq:blob_IsPath.f a0=some r):CallsH Tryd.prog 12 #[.string a0] H w0 (F) (S12 F H r):=by
 refine calls_of_runH (F:=C12) Tryd.func12 (by kernel_rfl) Tryd.ntmps12 (args:=[.string a0]) (by kernel_rfl) ?_
 unfold blob_IsPath.f at heq
 refine Ra 1 [0] [.c [1]]<|Rd 1 [0] [(0,.string a0)]<|Ad 2 [.c [1,0,0],.c [1,0,1],.c [1,1]] ?_
 obtain ⟨t1,ht1,heq⟩:=bind_some heq
 have K1:RunH C12 (S12 F H r) H w0 [.c [1,0,1],.c [1,1]] [(0,.string a0),(12,.bool t1)] H (F):=by
  rcases bool_cases (t1) with hb2 | hb2
  ·replace heq:=bif_true hb2 heq
   refine Ct t1 hb2<|Ra 1 [1,0,1,0,0] [.c [1,0,1,0,1],.c [1,1]]<|Rd 1 [2] [(2,.bool false)] ?_
   obtain rfl:=Option.some.inj heq
   exact RunH.done (by kernel_rfl) Tryd.func12 (v:=.bool false) (by kernel_rfl) ⟨rfl,rfl,rfl⟩
  ·replace heq:=bif_false hb2 heq
   refine Cf t1 hb2<|Ra 3 [1,1,0,0] [.c [1,1,0,1],.c [1,1,1]]<|Rk 1 [13] [(13,.string a0)] ?_
   obtain ⟨y1,hy1,heq⟩:=bind_some heq
   refine RgH.does (DoesH.call (d:=14) (g:=18) (args:=#[.string a0,.string ({ data:=#[47] }:ByteArray)]) (by kernel_rfl) (strings_Split_c (a0:=a0) (a1:=({ data:=#[47] }:ByteArray))  hy1)) ?_
   rintro _ _ _ _ ⟨_,rfl,A1,c1,ch1,rfl,rfl,rfl,ho1⟩
   refine Rd 4 [14,15,16] [(14,.slice A1 y1.length c1),(15,iv (y1.length:Int)),(16,iv 0)]<|Ad 2 [.c [1,1,0,1,0,0],.l [1,1,0,1,0,0],.b 0,.c [1,1,1]]<|Kp [14,15,16] [(14,.slice A1 y1.length c1),(15,iv (y1.length:Int)),(16,iv 0)] ?_
   exact ((blob_IsPath.l2_c (e1:=blob_IsPath.e1) (blob_IsPath.e1_c)) big) y1 _ _ _ 0 ho1 heq
 replace heq:=ht1
 refine Rr<|Rk 4 [8,0] [(8,.bool (decide ((a0.size:Int)<1))),(0,.string a0)] ?_
 rcases bool_cases (decide ((a0.size:Int)<1)) with hb1 | hb1
 ·replace heq:=bif_true hb1 heq
  refine RgH.val1 (v':=.bool true) (congrArg Value.bool hb1) ?_
  refine Rk 8 [0,12] [(0,.string a0),(12,.bool true)] ?_
  obtain rfl:=Option.some.inj heq
  refine Kg [0,12] [(0,.string a0),(12,.bool true)]<|Dn ?_
  exact K1
 ·replace heq:=bif_false hb1 heq
  refine RgH.val1 (v':=.bool false) (congrArg Value.bool hb1) ?_
  refine Rk 8 [0,12] [(0,.string a0),(12,.bool (decide (200<(a0.size:Int))))] ?_
  obtain rfl:=Option.some.inj heq
  refine Kg [0,12] [(0,.string a0),(12,.bool (decide (200<(a0.size:Int))))]<|Dn ?_
  exact K1
def S20 (F:List Ch) (H0:Hp) (r:ByteArray) (v:Value) (H:Hp) (cs:List Ch):Prop:=H0=H∧v=.string r∧F=cs
theorem strings_Trim_c {w0:World} [GlobI 0 w0] {H:Hp} {F:List Ch} {a0:ByteArray} {a1:ByteArray} {r:ByteArray} (heq:strings_Trim.f a0 a1=some r):CallsH Tryd.prog 20 #[.string a0,.string a1] H w0 F (S20 F H r):=by
 intro w hh
 unfold strings_Trim.f at heq
 obtain ⟨hn,heq⟩:=guard?_some heq
 obtain rfl:=Option.some.inj heq
 refine (Shelf.Tryd.strings_Trim a0 a1 w (by simp at hn; exact hn.1) (by simp at hn; exact hn.2.1) (by have h:=hn; rw [Bool.and_eq_true,Bool.and_eq_true] at h; exact ascii_of_all h.2.2)).mono ?_
 rintro e w' ⟨rfl,hx⟩
 exact ⟨_,rfl,H,F,Le.refl H,hh.later hx,rfl,rfl,rfl⟩
noncomputable def C13:Ctx:={ P:=Tryd.prog,f:=13,N:=11,c:=bodyOf Tryd.f13 }
def S13 (F:List Ch) (H0:Hp) (r:Bool) (v:Value) (H:Hp) (cs:List Ch):Prop:=H0=H∧v=.bool r∧F=cs
theorem blob_IsDigest_c {w0:World} [GlobI 0 w0] {H:Hp} {F:List Ch} {a0:ByteArray} {r:Bool} (heq:blob_IsDigest.f a0=some r):CallsH Tryd.prog 13 #[.string a0] H w0 (F) (S13 F H r):=by
 refine calls_of_runH (F:=C13) Tryd.func13 (by kernel_rfl) Tryd.ntmps13 (args:=[.string a0]) (by kernel_rfl) ?_
 unfold blob_IsDigest.f at heq
 refine Ra 1 [0] [.c [1]]<|Rd 1 [0] [(0,.string a0)]<|Ad 1 [.c [1,0],.c [1,1]] ?_
 obtain ⟨t1,ht1,heq⟩:=bind_some heq
 have K1:RunH C13 (S13 F H r) H w0 [.c [1,1]] [(2,.bool t1)] H (F):=by
  obtain rfl:=Option.some.inj heq
  exact RunH.done (by kernel_rfl) Tryd.func13 (v:=.bool t1) (by kernel_rfl) ⟨rfl,rfl,rfl⟩
 replace heq:=ht1
 refine Rr<|Rk 4 [6,0] [(6,.bool ((a0.size:Int) == 16)),(0,.string a0)] ?_
 rcases bool_cases ((a0.size:Int) == 16) with hb1 | hb1
 ·replace heq:=bif_true hb1 heq
  refine RgH.val1 (v':=.bool true) (congrArg Value.bool hb1) ?_
  refine Rk 5 [6,7] [(6,.bool true),(7,.string a0)] ?_
  obtain ⟨y1,hy1,heq⟩:=bind_some heq
  refine RgH.does (DoesH.call (d:=8) (g:=20) (args:=#[.string a0,.string ({ data:=#[48,49,50,51,52,53,54,55,56,57,97,98,99,100,101,102] }:ByteArray)]) (by kernel_rfl) (strings_Trim_c (a0:=a0) (a1:=({ data:=#[48,49,50,51,52,53,54,55,56,57,97,98,99,100,101,102] }:ByteArray))  hy1)) ?_
  rintro _ _ _ _ ⟨_,rfl,rfl,rfl,rfl⟩
  refine Rk 9 [2] [(2,.bool (sEq y1 ({ data:=#[] }:ByteArray)))] ?_
  obtain rfl:=Option.some.inj heq
  refine Kg [2] [(2,.bool (sEq y1 ({ data:=#[] }:ByteArray)))]<|Dn ?_
  exact K1
 ·replace heq:=bif_false hb1 heq
  refine RgH.val1 (v':=.bool false) (congrArg Value.bool hb1) ?_
  refine Rk 9 [2] [(2,.bool false)] ?_
  obtain rfl:=Option.some.inj heq
  refine Kg [2] [(2,.bool false)]<|Dn ?_
  exact K1
noncomputable def C14:Ctx:={ P:=Tryd.prog,f:=14,N:=15,c:=bodyOf Tryd.f14 }
def S14 (F:List Ch) (H0:Hp) (r:Bool) (v:Value) (H:Hp) (cs:List Ch):Prop:=H0=H∧v=.bool r∧F=cs
theorem trials_within_c {w0:World} [GlobI 0 w0] {H:Hp} {F:List Ch} {a0:Int} {a1:Int} {a2:Int} {r:Bool} (heq:trials_within.f a0 a1 a2=some r):CallsH Tryd.prog 14 #[iv a0,iv a1,iv a2] H w0 (F) (S14 F H r):=by
 refine calls_of_runH (F:=C14) Tryd.func14 (by kernel_rfl) Tryd.ntmps14 (args:=[iv a0,iv a1,iv a2]) (by kernel_rfl) ?_
 unfold trials_within.f at heq
 refine Ra 1 [0] [.c [1]]<|Rd 1 [0,1,2] [(0,iv a0),(1,iv a1),(2,iv a2)]<|Ad 1 [.c [1,0],.c [1,1]] ?_
 obtain ⟨t1,ht1,heq⟩:=bind_some heq
 have K1:RunH C14 (S14 F H r) H w0 [.c [1,1]] [(6,.bool t1)] H (F):=by
  obtain rfl:=Option.some.inj heq
  exact RunH.done (by kernel_rfl) Tryd.func14 (v:=.bool t1) (by kernel_rfl) ⟨rfl,rfl,rfl⟩
 replace heq:=ht1
 refine Rr<|Rk 4 [10,0,2] [(10,.bool (decide (a1≤a0))),(0,iv a0),(2,iv a2)] ?_
 rcases bool_cases (decide (a1≤a0)) with hb1 | hb1
 ·replace heq:=bif_true hb1 heq
  refine RgH.val1 (v':=.bool true) (congrArg Value.bool hb1) ?_
  refine Rk 9 [6] [(6,.bool (decide (a0≤a2)))] ?_
  obtain rfl:=Option.some.inj heq
  refine Kg [6] [(6,.bool (decide (a0≤a2)))]<|Dn ?_
  exact K1
 ·replace heq:=bif_false hb1 heq
  refine RgH.val1 (v':=.bool false) (congrArg Value.bool hb1) ?_
  refine Rk 9 [6] [(6,.bool false)] ?_
  obtain rfl:=Option.some.inj heq
  refine Kg [6] [(6,.bool false)]<|Dn ?_
  exact K1
noncomputable def C6:Ctx:={ P:=Tryd.prog,f:=6,N:=51,c:=bodyOf Tryd.f6 }
def S6 (F:List Ch) (H0:Hp) (r:Int) (v:Value) (H:Hp) (cs:List Ch):Prop:=H0=H∧v=iv r∧F=cs
theorem trials_CheckHistory.e1_c {w0:World} [GlobI 0 w0] {H:Hp} {F:List Ch} {r:Int}:trials_CheckHistory.e1=some r→RunH C6 (S6 F H r) H w0 [.c [1,1,1,0],.c [1,1,1,1]] [] H (F):=by
 intro   heq
 unfold trials_CheckHistory.e1 at heq
 refine Rr<|Rd 1 [2] [(2,iv 0)] ?_
 obtain rfl:=Option.some.inj heq
 exact RunH.done (by kernel_rfl) Tryd.func6 (v:=iv 0) (by kernel_rfl) ⟨rfl,rfl,rfl⟩
theorem trials_CheckHistory.l2_c {w0:World} [GlobI 0 w0] {H:Hp} {F:List Ch} {r:Int} (e1:Option Int)
  (he1:e1=some r→RunH C6 (S6 F H r) H w0 [.c [1,1,1,0],.c [1,1,1,1]] [] H (F)):∀ (k:Nat),∀ (a0:List TestRun) (Aa0:Option Addr) (ca0:Nat) (v10:Int) ,Rw kTestRun H F Aa0 a0→a0.length≤ca0→trials_CheckHistory.l2 e1 k a0 v10=some r→RunH C6 (S6 F H r) H w0 [.c [1,1,0,1,0,0],.l [1,1,0,1,0,0],.b 0,.c [1,1,1]] [(0,.slice Aa0 a0.length ca0),(8,.slice Aa0 a0.length ca0),(9,iv (a0.length:Int)),(10,iv v10)] H (F):=by
 intro k
 induction k with
 | zero=>intro a0 Aa0 ca0 v10 hra0 hca0 heq; exact nomatch (show (none:Option Int)=some r from heq)
 | succ k ihk =>
  intro a0 Aa0 ca0 v10 hra0 hca0 heq
  rw [trials_CheckHistory.l2] at heq
  refine Ra 1 [1,1,0,1,0,0,0] [.c [1,1,0,1,0,0,1],.l [1,1,0,1,0,0],.b 0,.c [1,1,1]]<|Rd 1 [0,8,9,10,11] [(0,.slice Aa0 a0.length ca0),(8,.slice Aa0 a0.length ca0),(9,iv (a0.length:Int)),(10,iv v10),(11,.bool (decide (v10<(a0.length:Int))))]<|Ad 1 [.c [1,1,0,1,0,0,1,0],.c [1,1,0,1,0,0,1,1],.l [1,1,0,1,0,0],.b 0,.c [1,1,1]] ?_
  rcases bool_cases (decide (v10<(a0.length:Int))) with hb2 | hb2
  ·replace heq:=bif_true hb2 heq
   refine Ct (decide (v10<(a0.length:Int))) hb2<|Ra 4 [1,1,0,1,0,0,1,1,0,0,0] [.c [1,1,0,1,0,0,1,1,0,0,1],.b 1,.c [1,1,0,1,0,0,1,1,1],.l [1,1,0,1,0,0],.b 0,.c [1,1,1]] ?_
   obtain ⟨x1,hx1,heq⟩:=bind_some heq
   obtain ⟨ha1,cs1,hK1,hcc1⟩:=hra0.get hx1
   obtain ⟨rfl⟩:=kTestRun_open hK1
   refine Rv 3 [0,8,9,10,12,14] [.string x1.Test,.string x1.Key,iv x1.At,.bool x1.Pass,iv x1.Seconds] [.need (Aa0=some (adr Aa0)∧(0:Int)≤v10∧v10<((a0.length:Nat):Int)),.load (((adr Aa0).add (v10.toNat*5)).add 0) (.string x1.Test),.load (((adr Aa0).add (v10.toNat*5)).add 1) (.string x1.Key),.load (((adr Aa0).add (v10.toNat*5)).add 2) (iv x1.At),.load (((adr Aa0).add (v10.toNat*5)).add 3) (.bool x1.Pass),.load (((adr Aa0).add (v10.toNat*5)).add 4) (iv x1.Seconds)] [(0,.slice Aa0 a0.length ca0),(8,.slice Aa0 a0.length ca0),(9,iv (a0.length:Int)),(10,iv v10),(12,iv v10),(14,.agg #[.string x1.Test,.string x1.Key,iv x1.At,.bool x1.Pass,iv x1.Seconds])] (fun w hh=>⟨⟨ha1,(at?_some hx1).1,(at?_some hx1).2.1⟩,(hcc1 _ _ (hh.drop 0) 0 _ rfl),(hcc1 _ _ (hh.drop 0) 1 _ rfl),(hcc1 _ _ (hh.drop 0) 2 _ rfl),(hcc1 _ _ (hh.drop 0) 3 _ rfl),(hcc1 _ _ (hh.drop 0) 4 _ rfl)⟩) ?_
   refine RgH.does (DoesH.new (d:=4) (v:=fun g=>.pointer (some ⟨g,0,none⟩)) (o:=fun g=>.cells #[.string ByteArray.empty,.string ByteArray.empty,iv 0,.bool false,iv 0] 29 (0,0)) (fun g=>by kernel_rfl)) ?_
   rintro _ _ _ _ ⟨g1,rfl,rfl,rfl⟩
   refine Rk 5 [0,3,4,8,9,10,14] [(0,.slice Aa0 a0.length ca0),(3,iv v10),(4,pg g1 0),(8,.slice Aa0 a0.length ca0),(9,iv (a0.length:Int)),(10,iv v10),(14,.agg #[.string x1.Test,.string x1.Key,iv x1.At,.bool x1.Pass,iv x1.Seconds])] ?_
   refine RgH.does (DoesH.store (k:=0) (g:=g1) (off:=0) (v:=.agg #[.string x1.Test,.string x1.Key,iv x1.At,.bool x1.Pass,iv x1.Seconds]) (cells':=#[.string x1.Test,.string x1.Key,iv x1.At,.bool x1.Pass,iv x1.Seconds]) (by kernel_rfl) rfl (by kernel_rfl) (by kernel_rfl)) ?_
   rintro _ _ _ _ ⟨rfl,rfl,rfl⟩
   refine Dn<|Ra 2 [1,1,0,1,0,0,1,1,0,0,1,0,0] [.c [1,1,0,1,0,0,1,1,0,0,1,0,1],.b 2,.b 1,.c [1,1,0,1,0,0,1,1,1],.l [1,1,0,1,0,0],.b 0,.c [1,1,1]]<|Rv 2 [0,3,4,8,9,10,17] [.string x1.Test] [.load ⟨g1,0,none⟩ (.string x1.Test)] [(0,.slice Aa0 a0.length ca0),(3,iv v10),(4,pg g1 0),(8,.slice Aa0 a0.length ca0),(9,iv (a0.length:Int)),(10,iv v10),(17,.string x1.Test)] (fun w hh=>(hh.box 0 rfl rfl)) ?_
   obtain ⟨y1,hy1,heq⟩:=bind_some heq
   refine RgH.does (DoesH.call (d:=18) (g:=12) (args:=#[.string x1.Test]) (by kernel_rfl) (blob_IsPath_c (a0:=x1.Test)  hy1)) ?_
   rintro _ _ _ _ ⟨_,rfl,rfl,rfl,rfl⟩
   refine Rd 5 [0,3,4,8,9,10,15] [(0,.slice Aa0 a0.length ca0),(3,iv v10),(4,pg g1 0),(8,.slice Aa0 a0.length ca0),(9,iv (a0.length:Int)),(10,iv v10),(15,.bool (!y1))] ?_
   rcases bool_cases (!y1) with hb3 | hb3
   ·replace heq:=bif_true hb3 heq
    refine Ct (!y1) hb3<|Ra 1 [1,1,0,1,0,0,1,1,0,0,1,0,1,0,0] [.c [1,1,0,1,0,0,1,1,0,0,1,0,1,0,1],.b 2,.b 1,.c [1,1,0,1,0,0,1,1,1],.l [1,1,0,1,0,0],.b 0,.c [1,1,1]]<|Rd 1 [2] [(2,iv 5)] ?_
    obtain rfl:=Option.some.inj heq
    refine RunH.pick 1 [] (cs':=F) (by kernel_rfl) rfl ?_
    exact RunH.done (by kernel_rfl) Tryd.func6 (v:=iv 5) (by kernel_rfl) ⟨rfl,rfl,rfl⟩
   ·replace heq:=bif_false hb3 heq
    refine Cf (!y1) hb3<|Ra 1 [1,1,0,1,0,0,1,1,0,0,1,0,1,1,0] [.c [1,1,0,1,0,0,1,1,0,0,1,0,1,1,1],.b 2,.b 1,.c [1,1,0,1,0,0,1,1,1],.l [1,1,0,1,0,0],.b 0,.c [1,1,1]]<|Rv 2 [0,3,4,8,9,10,22] [.string x1.Key] [.load ⟨g1,1,none⟩ (.string x1.Key)] [(0,.slice Aa0 a0.length ca0),(3,iv v10),(4,pg g1 0),(8,.slice Aa0 a0.length ca0),(9,iv (a0.length:Int)),(10,iv v10),(22,.string x1.Key)] (fun w hh=>(hh.box 0 rfl rfl)) ?_
    obtain ⟨y2,hy2,heq⟩:=bind_some heq
    refine RgH.does (DoesH.call (d:=23) (g:=13) (args:=#[.string x1.Key]) (by kernel_rfl) (blob_IsDigest_c (a0:=x1.Key)  hy2)) ?_
    rintro _ _ _ _ ⟨_,rfl,rfl,rfl,rfl⟩
    refine Rd 5 [0,3,4,8,9,10,20] [(0,.slice Aa0 a0.length ca0),(3,iv v10),(4,pg g1 0),(8,.slice Aa0 a0.length ca0),(9,iv (a0.length:Int)),(10,iv v10),(20,.bool (!y2))] ?_
    rcases bool_cases (!y2) with hb4 | hb4
    ·replace heq:=bif_true hb4 heq
     refine Ct (!y2) hb4<|Ra 1 [1,1,0,1,0,0,1,1,0,0,1,0,1,1,1,0,0] [.c [1,1,0,1,0,0,1,1,0,0,1,0,1,1,1,0,1],.b 2,.b 1,.c [1,1,0,1,0,0,1,1,1],.l [1,1,0,1,0,0],.b 0,.c [1,1,1]]<|Rd 1 [2] [(2,iv 3)] ?_
     obtain rfl:=Option.some.inj heq
     refine RunH.pick 1 [] (cs':=F) (by kernel_rfl) rfl ?_
     exact RunH.done (by kernel_rfl) Tryd.func6 (v:=iv 3) (by kernel_rfl) ⟨rfl,rfl,rfl⟩
    ·replace heq:=bif_false hb4 heq
     refine Cf (!y2) hb4<|Ad 1 [.c [1,1,0,1,0,0,1,1,0,0,1,0,1,1,1,1,0],.c [1,1,0,1,0,0,1,1,0,0,1,0,1,1,1,1,1],.b 2,.b 1,.c [1,1,0,1,0,0,1,1,1],.l [1,1,0,1,0,0],.b 0,.c [1,1,1]] ?_
     obtain ⟨t1,ht1,heq⟩:=bind_some heq
     have K2:RunH C6 (S6 F H r) H w0 [.c [1,1,0,1,0,0,1,1,0,0,1,0,1,1,1,1,1],.b 2,.b 1,.c [1,1,0,1,0,0,1,1,1],.l [1,1,0,1,0,0],.b 0,.c [1,1,1]] [(0,.slice Aa0 a0.length ca0),(3,iv v10),(4,pg g1 0),(8,.slice Aa0 a0.length ca0),(9,iv (a0.length:Int)),(10,iv v10),(25,.bool t1)] H ((some (g1,.cells #[.string x1.Test,.string x1.Key,iv x1.At,.bool x1.Pass,iv x1.Seconds] 29 (0,0)))::F):=by
      rcases bool_cases (t1) with hb6 | hb6
      ·replace heq:=bif_true hb6 heq
       refine Ct t1 hb6<|Ra 1 [1,1,0,1,0,0,1,1,0,0,1,0,1,1,1,1,1,0,0] [.c [1,1,0,1,0,0,1,1,0,0,1,0,1,1,1,1,1,0,1],.b 2,.b 1,.c [1,1,0,1,0,0,1,1,1],.l [1,1,0,1,0,0],.b 0,.c [1,1,1]]<|Rd 1 [2] [(2,iv 1)] ?_
       obtain rfl:=Option.some.inj heq
       refine RunH.pick 1 [] (cs':=F) (by kernel_rfl) rfl ?_
       exact RunH.done (by kernel_rfl) Tryd.func6 (v:=iv 1) (by kernel_rfl) ⟨rfl,rfl,rfl⟩
      ·replace heq:=bif_false hb6 heq
       refine Cf t1 hb6<|Ad 1 [.c [1,1,0,1,0,0,1,1,0,0,1,0,1,1,1,1,1,1,0],.c [1,1,0,1,0,0,1,1,0,0,1,0,1,1,1,1,1,1,1],.b 2,.b 1,.c [1,1,0,1,0,0,1,1,1],.l [1,1,0,1,0,0],.b 0,.c [1,1,1]] ?_
       obtain ⟨t2,ht2,heq⟩:=bind_some heq
       have K3:RunH C6 (S6 F H r) H w0 [.c [1,1,0,1,0,0,1,1,0,0,1,0,1,1,1,1,1,1,1],.b 2,.b 1,.c [1,1,0,1,0,0,1,1,1],.l [1,1,0,1,0,0],.b 0,.c [1,1,1]] [(0,.slice Aa0 a0.length ca0),(8,.slice Aa0 a0.length ca0),(9,iv (a0.length:Int)),(10,iv v10),(36,.bool t2)] H (F):=by
        rcases bool_cases (t2) with hb8 | hb8
        ·replace heq:=bif_true hb8 heq
         refine Ct t2 hb8<|Ra 1 [1,1,0,1,0,0,1,1,0,0,1,0,1,1,1,1,1,1,1,0,0] [.c [1,1,0,1,0,0,1,1,0,0,1,0,1,1,1,1,1,1,1,0,1],.b 2,.b 1,.c [1,1,0,1,0,0,1,1,1],.l [1,1,0,1,0,0],.b 0,.c [1,1,1]]<|Rd 1 [2] [(2,iv 8)] ?_
         obtain rfl:=Option.some.inj heq
         exact RunH.done (by kernel_rfl) Tryd.func6 (v:=iv 8) (by kernel_rfl) ⟨rfl,rfl,rfl⟩
        ·replace heq:=bif_false hb8 heq
         refine Cf t2 hb8<|Ra 3 [1,1,0,1,0,0,1,1,1] [.l [1,1,0,1,0,0],.b 0,.c [1,1,1]]<|Rd 2 [0,8,9,10] [(0,.slice Aa0 a0.length ca0),(8,.slice Aa0 a0.length ca0),(9,iv (a0.length:Int)),(10,iv (w64 (v10+1)))]<|Ad 1 [.c [1,1,0,1,0,0],.l [1,1,0,1,0,0],.b 0,.c [1,1,1]]<|Kp [0,8,9,10] [(0,.slice Aa0 a0.length ca0),(8,.slice Aa0 a0.length ca0),(9,iv (a0.length:Int)),(10,iv (w64 (v10+1)))] ?_
         exact ihk a0 _ _ (w64 (v10+1)) hra0 hca0 heq
       replace heq:=ht2
       refine Kp [0,3,4,8,9,10] [(0,.slice Aa0 a0.length ca0),(3,iv v10),(4,pg g1 0),(8,.slice Aa0 a0.length ca0),(9,iv (a0.length:Int)),(10,iv v10)] ?_
       refine RunH.draw (fun w=>Heap H w0 w ((some (g1,.cells #[.string x1.Test,.string x1.Key,iv x1.At,.bool x1.Pass,iv x1.Seconds] 29 (0,0)))::F)) (fun w=>Heap H w0 w ((some (g1,.cells #[.string x1.Test,.string x1.Key,iv x1.At,.bool x1.Pass,iv x1.Seconds] 29 (0,0)))::F)) [3,3,3,3,3,3,3,3,3,3,3,3,3,3] (n:=14) (ls:=[false,false,false,false,false,false,false,false,false,false,false,false,false,false]) (by kernel_rfl) (by kernel_rfl) (by kernel_rfl) rfl ?_
       refine Dk [0,1,2] 11 (nb 14 7) [] [] [39,0,3,4,8,9,10] [(39,.bool (decide (0<v10))),(0,.slice Aa0 a0.length ca0),(3,iv v10),(4,pg g1 0),(8,.slice Aa0 a0.length ca0),(9,iv (a0.length:Int)),(10,iv v10)] (Pk 1 [0]) (Pk 1 [0]) (fun _ _=>trivial) ?_
       rcases bool_cases (decide (0<v10)) with hb7 | hb7
       ·replace heq:=bif_true hb7 heq
        refine DrH.val1 (v':=.bool true) (congrArg Value.bool hb7) ?_
        obtain ⟨x2,hx2,heq⟩:=bind_some heq
        obtain ⟨ha2,cs2,hK2,hcc2⟩:=hra0.get hx2
        obtain ⟨rfl⟩:=kTestRun_open hK2
        refine Dk [3,4,5,6,7,8,9,10,11,12,13] 0 (nb 14 16383) [iv x1.At,iv x2.At] [.load ⟨g1,2,none⟩ (iv x1.At),.need (Aa0=some (adr Aa0)∧(0:Int)≤(w64 (v10 - 1))∧(w64 (v10 - 1))<((a0.length:Nat):Int)),.load (((adr Aa0).add ((w64 (v10 - 1)).toNat*5)).add 2) (iv x2.At)] [0,8,9,10,36] [(0,.slice Aa0 a0.length ca0),(8,.slice Aa0 a0.length ca0),(9,iv (a0.length:Int)),(10,iv v10),(36,.bool (decide (x1.At<x2.At)))] (Pk 1 [0]) (Pk 1 [0]) (fun w hh=>⟨(hh.box 0 rfl rfl),⟨ha2,(at?_some hx2).1,(at?_some hx2).2.1⟩,(hcc2 _ _ (hh.drop 1) 2 _ rfl)⟩) ?_
        obtain rfl:=Option.some.inj heq
        refine Kr [0,8,9,10,36] [(0,.slice Aa0 a0.length ca0),(8,.slice Aa0 a0.length ca0),(9,iv (a0.length:Int)),(10,iv v10),(36,.bool (decide (x1.At<x2.At)))] ?_
        refine DrH.pick 1 [] (cs':=F) (by kernel_rfl) rfl ?_
        refine DrH.done (by kernel_rfl) ?_
        exact K3
       ·replace heq:=bif_false hb7 heq
        refine DrH.val1 (v':=.bool false) (congrArg Value.bool hb7) ?_
        refine Dk [3,4,5,6,7,8,9,10,11,12,13] 0 (nb 14 16383) [] [] [0,8,9,10,36] [(0,.slice Aa0 a0.length ca0),(8,.slice Aa0 a0.length ca0),(9,iv (a0.length:Int)),(10,iv v10),(36,.bool false)] (Pk 1 [0]) (Pk 1 [0]) (fun _ _=>trivial) ?_
        obtain rfl:=Option.some.inj heq
        refine Kr [0,8,9,10,36] [(0,.slice Aa0 a0.length ca0),(8,.slice Aa0 a0.length ca0),(9,iv (a0.length:Int)),(10,iv v10),(36,.bool false)] ?_
        refine DrH.pick 1 [] (cs':=F) (by kernel_rfl) rfl ?_
        refine DrH.done (by kernel_rfl) ?_
        exact K3
     replace heq:=ht1
     refine Rr<|Rv 2 [0,3,4,8,9,10,27] [iv x1.At] [.load ⟨g1,2,none⟩ (iv x1.At)] [(0,.slice Aa0 a0.length ca0),(3,iv v10),(4,pg g1 0),(8,.slice Aa0 a0.length ca0),(9,iv (a0.length:Int)),(10,iv v10),(27,iv x1.At)] (fun w hh=>(hh.box 0 rfl rfl)) ?_
     obtain ⟨y3,hy3,heq⟩:=bind_some heq
     refine RgH.does (DoesH.call (d:=28) (g:=14) (args:=#[iv x1.At,iv 0,iv 1000000000]) (by kernel_rfl) (trials_within_c (a0:=x1.At) (a1:=0) (a2:=1000000000)  hy3)) ?_
     rintro _ _ _ _ ⟨_,rfl,rfl,rfl,rfl⟩
     refine Rk 5 [30,0,3,4,8,9,10] [(30,.bool (!y3)),(0,.slice Aa0 a0.length ca0),(3,iv v10),(4,pg g1 0),(8,.slice Aa0 a0.length ca0),(9,iv (a0.length:Int)),(10,iv v10)] ?_
     rcases bool_cases (!y3) with hb5 | hb5
     ·replace heq:=bif_true hb5 heq
      refine RgH.val1 (v':=.bool true) (congrArg Value.bool hb5) ?_
      refine Rk 11 [0,3,4,8,9,10,25] [(0,.slice Aa0 a0.length ca0),(3,iv v10),(4,pg g1 0),(8,.slice Aa0 a0.length ca0),(9,iv (a0.length:Int)),(10,iv v10),(25,.bool true)] ?_
      obtain rfl:=Option.some.inj heq
      refine Kg [0,3,4,8,9,10,25] [(0,.slice Aa0 a0.length ca0),(3,iv v10),(4,pg g1 0),(8,.slice Aa0 a0.length ca0),(9,iv (a0.length:Int)),(10,iv v10),(25,.bool true)]<|Dn ?_
      exact K2
     ·replace heq:=bif_false hb5 heq
      refine RgH.val1 (v':=.bool false) (congrArg Value.bool hb5) ?_
      refine Rv 7 [0,3,4,8,9,10,30,32] [iv x1.Seconds] [.load ⟨g1,4,none⟩ (iv x1.Seconds)] [(0,.slice Aa0 a0.length ca0),(3,iv v10),(4,pg g1 0),(8,.slice Aa0 a0.length ca0),(9,iv (a0.length:Int)),(10,iv v10),(30,.bool false),(32,iv x1.Seconds)] (fun w hh=>(hh.box 0 rfl rfl)) ?_
      obtain ⟨y4,hy4,heq⟩:=bind_some heq
      refine RgH.does (DoesH.call (d:=33) (g:=14) (args:=#[iv x1.Seconds,iv 0,iv 100000]) (by kernel_rfl) (trials_within_c (a0:=x1.Seconds) (a1:=0) (a2:=100000)  hy4)) ?_
      rintro _ _ _ _ ⟨_,rfl,rfl,rfl,rfl⟩
      refine Rk 11 [0,3,4,8,9,10,25] [(0,.slice Aa0 a0.length ca0),(3,iv v10),(4,pg g1 0),(8,.slice Aa0 a0.length ca0),(9,iv (a0.length:Int)),(10,iv v10),(25,.bool (!y4))] ?_
      obtain rfl:=Option.some.inj heq
      refine Kg [0,3,4,8,9,10,25] [(0,.slice Aa0 a0.length ca0),(3,iv v10),(4,pg g1 0),(8,.slice Aa0 a0.length ca0),(9,iv (a0.length:Int)),(10,iv v10),(25,.bool (!y4))]<|Dn ?_
      exact K2
  ·replace heq:=bif_false hb2 heq
   refine Cf (decide (v10<(a0.length:Int))) hb2<|Ad 2 [.c [1,1,1,0],.c [1,1,1,1]]<|Kp [] [] ?_
   exact he1 heq
theorem trials_CheckHistory_c {w0:World} [GlobI 0 w0] {H:Hp} {F:List Ch} {a0:List TestRun} {Aa0:Option Addr} {na0:Nat} {ca0:Nat} {r:Int} (hra0:Rw kTestRun H F Aa0 a0) (hca0:na0≤ca0) (hna0:na0=a0.length) (heq:trials_CheckHistory.f a0=some r):CallsH Tryd.prog 6 #[.slice Aa0 na0 ca0] H w0 (F) (S6 F H r):=by
 refine calls_of_runH (F:=C6) Tryd.func6 (by kernel_rfl) Tryd.ntmps6 (args:=[.slice Aa0 na0 ca0]) (by kernel_rfl) ?_
 subst hna0
 unfold trials_CheckHistory.f at heq
 refine Ra 1 [0] [.c [1]]<|Rd 1 [0] [(0,.slice Aa0 a0.length ca0)]<|Ra 2 [1,0,0] [.c [1,0,1],.c [1,1]]<|Rd 3 [0,7] [(0,.slice Aa0 a0.length ca0),(7,.bool (decide (3000<(a0.length:Int))))] ?_
 rcases bool_cases (decide (3000<(a0.length:Int))) with hb1 | hb1
 ·replace heq:=bif_true hb1 heq
  refine Ct (decide (3000<(a0.length:Int))) hb1<|Ra 1 [1,0,1,0,0] [.c [1,0,1,0,1],.c [1,1]]<|Rd 1 [2] [(2,iv 2)] ?_
  obtain rfl:=Option.some.inj heq
  exact RunH.done (by kernel_rfl) Tryd.func6 (v:=iv 2) (by kernel_rfl) ⟨rfl,rfl,rfl⟩
 ·replace heq:=bif_false hb1 heq
  refine Cf (decide (3000<(a0.length:Int))) hb1<|Ra 3 [1,1,0,0] [.c [1,1,0,1],.c [1,1,1]]<|Rd 3 [0,8,9,10] [(0,.slice Aa0 a0.length ca0),(8,.slice Aa0 a0.length ca0),(9,iv (a0.length:Int)),(10,iv 0)]<|Ad 2 [.c [1,1,0,1,0,0],.l [1,1,0,1,0,0],.b 0,.c [1,1,1]]<|Kp [0,8,9,10] [(0,.slice Aa0 a0.length ca0),(8,.slice Aa0 a0.length ca0),(9,iv (a0.length:Int)),(10,iv 0)] ?_
  exact ((trials_CheckHistory.l2_c (e1:=trials_CheckHistory.e1) (trials_CheckHistory.e1_c)) big) a0 _ _ 0 hra0 hca0 heq
noncomputable def C7:Ctx:={ P:=Tryd.prog,f:=7,N:=40,c:=bodyOf Tryd.f7 }
def S7 (F:List Ch) (H0:Hp) (r:(List (trials_id × trials_tally))) (v:Value) (H:Hp) (cs:List Ch):Prop:=∃ (g0:Nat) (ch0:Ch),H0=H∧v=.map (some g0)∧ch0::F=cs∧MpOwn etrials_id ktrials_tally true H g0 r ch0
theorem trials_tallies.e1_c {w0:World} [GlobI 0 w0] {H:Hp} {F:List Ch} {r:(List (trials_id × trials_tally))}:∀ (v_out3:List (trials_id × trials_tally)) (gv_out3:Nat) (chv_out3:Ch) ,MpOwn etrials_id ktrials_tally true H gv_out3 v_out3 chv_out3→trials_tallies.e1 v_out3=some r→RunH C7 (S7 F H r) H w0 [.c [1,1,1,0],.c [1,1,1,1]] [(3,.map (some gv_out3))] H (chv_out3::F):=by
 intro v_out3 gv_out3 chv_out3 hov_out3 heq
 unfold trials_tallies.e1 at heq
 refine Rr<|Rd 2 [2] [(2,.map (some gv_out3))] ?_
 obtain rfl:=Option.some.inj heq
 exact RunH.done (by kernel_rfl) Tryd.func7 (v:=.map (some gv_out3)) (by kernel_rfl) ⟨gv_out3,chv_out3,rfl,rfl,rfl,hov_out3⟩
theorem trials_tallies.j3_c {w0:World} [GlobI 0 w0] {H:Hp} {F:List Ch} {r:(List (trials_id × trials_tally))} (backl2:(List TestRun)→(List (trials_id × trials_tally))→Int→Option (List (trials_id × trials_tally)))
  (hbackl2:∀ (a0:List TestRun) (Aa0:Option Addr) (ca0:Nat) (v_out3:List (trials_id × trials_tally)) (gv_out3:Nat) (chv_out3:Ch) (v10:Int) ,Rw kTestRun H F Aa0 a0→a0.length≤ca0→MpOwn etrials_id ktrials_tally true H gv_out3 v_out3 chv_out3→backl2 a0 v_out3 v10=some r→RunH C7 (S7 F H r) H w0 [.c [1,1,0,1,0,0],.l [1,1,0,1,0,0],.b 0,.c [1,1,1]] [(3,.map (some gv_out3)),(8,.slice Aa0 a0.length ca0),(9,iv (a0.length:Int)),(10,iv v10)] H (chv_out3::F)):∀ (a0:List TestRun) (Aa0:Option Addr) (ca0:Nat) (v_out3:List (trials_id × trials_tally)) (gv_out3:Nat) (chv_out3:Ch) (v10:Int) (x1:TestRun) (g2:Nat) (g3:Nat) (v_t6_0:Int) (v_t6_1:Int) ,Rw kTestRun H F Aa0 a0→a0.length≤ca0→MpOwn etrials_id ktrials_tally true H gv_out3 v_out3 chv_out3→trials_tallies.j3 backl2 a0 v_out3 v10 x1 v_t6_0 v_t6_1=some r→RunH C7 (S7 F H r) H w0 [.c [1,1,0,1,0,0,1,1,0,0,1,1,1],.b 1,.c [1,1,0,1,0,0,1,1,1],.l [1,1,0,1,0,0],.b 0,.c [1,1,1]] [(3,.map (some gv_out3)),(5,pg g2 0),(6,pg g3 0),(8,.slice Aa0 a0.length ca0),(9,iv (a0.length:Int)),(10,iv v10)] H ((some (g3,.cells #[iv v_t6_0,iv v_t6_1] 38 (0,0)))::(some (g2,.cells #[.string x1.Test,.string x1.Key,iv x1.At,.bool x1.Pass,iv x1.Seconds] 29 (0,0)))::chv_out3::F):=by
 intro a0 Aa0 ca0 v_out3 gv_out3 chv_out3 v10 x1 g2 g3 v_t6_0 v_t6_1 hra0 hca0 hov_out3 heq
 unfold trials_tallies.j3 at heq
 refine Rr<|Rv 7 [3,8,9,10,31,36,37] [.string x1.Test,.string x1.Key,iv v_t6_0,iv v_t6_1] [.load ⟨g2,0,none⟩ (.string x1.Test),.load ⟨g2,1,none⟩ (.string x1.Key),.load ⟨g3,0,none⟩ (iv v_t6_0),.load ⟨g3,1,none⟩ (iv v_t6_1)] [(3,.map (some gv_out3)),(8,.slice Aa0 a0.length ca0),(9,iv (a0.length:Int)),(10,iv v10),(31,.map (some gv_out3)),(36,.agg #[.string x1.Test,.string x1.Key]),(37,.agg #[iv v_t6_0,iv v_t6_1])] (fun w hh=>⟨(hh.box 1 rfl rfl),(hh.box 1 rfl rfl),(hh.box 0 rfl rfl),(hh.box 0 rfl rfl)⟩) ?_
 refine RgH.does (DoesH.mapUpdate (kk:=2) (cv:=[iv v_t6_0,iv v_t6_1]) (k:=(⟨x1.Test,x1.Key⟩:trials_id)) (v:=(⟨v_t6_0,v_t6_1⟩:trials_tally)) (by kernel_rfl) kytrials_id rfl ktrials_tally_mk rfl hov_out3) ?_
 rintro _ _ _ _ ⟨ch1,rfl,rfl,rfl,ho2⟩
 refine Dn<|Ra 1 [1,1,0,1,0,0,1,1,1] [.l [1,1,0,1,0,0],.b 0,.c [1,1,1]]<|Rd 2 [3,8,9,10] [(3,.map (some gv_out3)),(8,.slice Aa0 a0.length ca0),(9,iv (a0.length:Int)),(10,iv (w64 (v10+1)))]<|Ad 1 [.c [1,1,0,1,0,0],.l [1,1,0,1,0,0],.b 0,.c [1,1,1]]<|Kp [3,8,9,10] [(3,.map (some gv_out3)),(8,.slice Aa0 a0.length ca0),(9,iv (a0.length:Int)),(10,iv (w64 (v10+1)))] ?_
 refine RunH.pick 3 [2] (cs':=ch1::F) (by kernel_rfl) rfl ?_
 exact hbackl2 a0 _ _ (mput v_out3 (⟨x1.Test,x1.Key⟩:trials_id) (⟨v_t6_0,v_t6_1⟩:trials_tally)) _ _ (w64 (v10+1)) hra0 hca0 ho2 heq
theorem trials_tallies.l2_c {w0:World} [GlobI 0 w0] {H:Hp} {F:List Ch} {r:(List (trials_id × trials_tally))} (e1:(List (trials_id × trials_tally))→Option (List (trials_id × trials_tally)))
  (he1:∀ (v_out3:List (trials_id × trials_tally)) (gv_out3:Nat) (chv_out3:Ch) ,MpOwn etrials_id ktrials_tally true H gv_out3 v_out3 chv_out3→e1 v_out3=some r→RunH C7 (S7 F H r) H w0 [.c [1,1,1,0],.c [1,1,1,1]] [(3,.map (some gv_out3))] H (chv_out3::F)):∀ (k:Nat),∀ (a0:List TestRun) (Aa0:Option Addr) (ca0:Nat) (v_out3:List (trials_id × trials_tally)) (gv_out3:Nat) (chv_out3:Ch) (v10:Int) ,Rw kTestRun H F Aa0 a0→a0.length≤ca0→MpOwn etrials_id ktrials_tally true H gv_out3 v_out3 chv_out3→trials_tallies.l2 e1 k a0 v_out3 v10=some r→RunH C7 (S7 F H r) H w0 [.c [1,1,0,1,0,0],.l [1,1,0,1,0,0],.b 0,.c [1,1,1]] [(3,.map (some gv_out3)),(8,.slice Aa0 a0.length ca0),(9,iv (a0.length:Int)),(10,iv v10)] H (chv_out3::F):=by
 intro k
 induction k with
 | zero=>intro a0 Aa0 ca0 v_out3 gv_out3 chv_out3 v10 hra0 hca0 hov_out3 heq; exact nomatch (show (none:Option (List (trials_id × trials_tally)))=some r from heq)
 | succ k ihk =>
  intro a0 Aa0 ca0 v_out3 gv_out3 chv_out3 v10 hra0 hca0 hov_out3 heq
  rw [trials_tallies.l2] at heq
  refine Ra 1 [1,1,0,1,0,0,0] [.c [1,1,0,1,0,0,1],.l [1,1,0,1,0,0],.b 0,.c [1,1,1]]<|Rd 1 [3,8,9,10,11] [(3,.map (some gv_out3)),(8,.slice Aa0 a0.length ca0),(9,iv (a0.length:Int)),(10,iv v10),(11,.bool (decide (v10<(a0.length:Int))))]<|Ad 1 [.c [1,1,0,1,0,0,1,0],.c [1,1,0,1,0,0,1,1],.l [1,1,0,1,0,0],.b 0,.c [1,1,1]] ?_
  rcases bool_cases (decide (v10<(a0.length:Int))) with hb1 | hb1
  ·replace heq:=bif_true hb1 heq
   refine Ct (decide (v10<(a0.length:Int))) hb1<|Ra 4 [1,1,0,1,0,0,1,1,0,0,0] [.c [1,1,0,1,0,0,1,1,0,0,1],.b 1,.c [1,1,0,1,0,0,1,1,1],.l [1,1,0,1,0,0],.b 0,.c [1,1,1]] ?_
   obtain ⟨x1,hx1,heq⟩:=bind_some heq
   obtain ⟨ha1,cs1,hK1,hcc1⟩:=hra0.get hx1
   obtain ⟨rfl⟩:=kTestRun_open hK1
   refine Rv 2 [3,8,9,10,13] [.string x1.Test,.string x1.Key,iv x1.At,.bool x1.Pass,iv x1.Seconds] [.need (Aa0=some (adr Aa0)∧(0:Int)≤v10∧v10<((a0.length:Nat):Int)),.load (((adr Aa0).add (v10.toNat*5)).add 0) (.string x1.Test),.load (((adr Aa0).add (v10.toNat*5)).add 1) (.string x1.Key),.load (((adr Aa0).add (v10.toNat*5)).add 2) (iv x1.At),.load (((adr Aa0).add (v10.toNat*5)).add 3) (.bool x1.Pass),.load (((adr Aa0).add (v10.toNat*5)).add 4) (iv x1.Seconds)] [(3,.map (some gv_out3)),(8,.slice Aa0 a0.length ca0),(9,iv (a0.length:Int)),(10,iv v10),(13,.agg #[.string x1.Test,.string x1.Key,iv x1.At,.bool x1.Pass,iv x1.Seconds])] (fun w hh=>⟨⟨ha1,(at?_some hx1).1,(at?_some hx1).2.1⟩,(hcc1 _ _ (hh.drop 1) 0 _ rfl),(hcc1 _ _ (hh.drop 1) 1 _ rfl),(hcc1 _ _ (hh.drop 1) 2 _ rfl),(hcc1 _ _ (hh.drop 1) 3 _ rfl),(hcc1 _ _ (hh.drop 1) 4 _ rfl)⟩) ?_
   refine RgH.does (DoesH.new (d:=5) (v:=fun g=>.pointer (some ⟨g,0,none⟩)) (o:=fun g=>.cells #[.string ByteArray.empty,.string ByteArray.empty,iv 0,.bool false,iv 0] 29 (0,0)) (fun g=>by kernel_rfl)) ?_
   rintro _ _ _ _ ⟨g2,rfl,rfl,rfl⟩
   refine RgH.does (DoesH.store (k:=0) (g:=g2) (off:=0) (v:=.agg #[.string x1.Test,.string x1.Key,iv x1.At,.bool x1.Pass,iv x1.Seconds]) (cells':=#[.string x1.Test,.string x1.Key,iv x1.At,.bool x1.Pass,iv x1.Seconds]) (by kernel_rfl) rfl (by kernel_rfl) (by kernel_rfl)) ?_
   rintro _ _ _ _ ⟨rfl,rfl,rfl⟩
   refine Dn<|Ra 1 [1,1,0,1,0,0,1,1,0,0,1,0] [.c [1,1,0,1,0,0,1,1,0,0,1,1],.b 1,.c [1,1,0,1,0,0,1,1,1],.l [1,1,0,1,0,0],.b 0,.c [1,1,1]]<|Rv 6 [3,5,8,9,10,14,19] [.string x1.Test,.string x1.Key] [.load ⟨g2,0,none⟩ (.string x1.Test),.load ⟨g2,1,none⟩ (.string x1.Key)] [(3,.map (some gv_out3)),(5,pg g2 0),(8,.slice Aa0 a0.length ca0),(9,iv (a0.length:Int)),(10,iv v10),(14,.map (some gv_out3)),(19,.agg #[.string x1.Test,.string x1.Key])] (fun w hh=>⟨(hh.box 0 rfl rfl),(hh.box 0 rfl rfl)⟩) ?_
   refine RgH.does (DoesH.lookup (d:=20) (t:=33) (m:=v_out3) (k:=(⟨x1.Test,x1.Key⟩:trials_id)) (z:=.agg #[iv 0,iv 0]) (zc:=[iv 0,iv 0]) (z0:=(⟨0,0⟩:trials_tally)) (ok:=false) (kd:=ktrials_tally) (ag:=true) (by kernel_rfl) kytrials_id rfl ktrials_tally_mk (fun w hh=>hov_out3.on (hh.chin 1 rfl))) ?_
   rintro _ _ _ _ ⟨cc1,rfl,rfl,rfl,hcc2⟩
   obtain ⟨x2,hx2,heq⟩:=bind_some heq
   replace hx2:=Option.some.inj hx2
   rw [hx2] at hcc2
   obtain ⟨rfl⟩:=ktrials_tally_open hcc2
   refine RgH.val1 (v':=.agg #[iv x2.passed,iv x2.failed]) rfl ?_
   refine RgH.does (DoesH.new (d:=6) (v:=fun g=>.pointer (some ⟨g,0,none⟩)) (o:=fun g=>.cells #[iv 0,iv 0] 38 (0,0)) (fun g=>by kernel_rfl)) ?_
   rintro _ _ _ _ ⟨g3,rfl,rfl,rfl⟩
   refine RgH.does (DoesH.store (k:=0) (g:=g3) (off:=0) (v:=.agg #[iv x2.passed,iv x2.failed]) (cells':=#[iv x2.passed,iv x2.failed]) (by kernel_rfl) rfl (by kernel_rfl) (by kernel_rfl)) ?_
   rintro _ _ _ _ ⟨rfl,rfl,rfl⟩
   refine Dn<|Ra 2 [1,1,0,1,0,0,1,1,0,0,1,1,0,0] [.c [1,1,0,1,0,0,1,1,0,0,1,1,0,1],.c [1,1,0,1,0,0,1,1,0,0,1,1,1],.b 1,.c [1,1,0,1,0,0,1,1,1],.l [1,1,0,1,0,0],.b 0,.c [1,1,1]]<|Rw' 2 [3,5,6,8,9,10,22] [.bool x1.Pass] [.load ⟨g2,3,none⟩ (.bool x1.Pass)] [(3,.map (some gv_out3)),(5,pg g2 0),(6,pg g3 0),(8,.slice Aa0 a0.length ca0),(9,iv (a0.length:Int)),(10,iv v10),(22,.bool x1.Pass)] (fun w hh=>(hh.box 1 rfl rfl)) ?_
   rcases bool_cases (x1.Pass) with hb2 | hb2
   ·replace heq:=bif_true hb2 heq
    refine Ct x1.Pass hb2<|Rr<|Rv 4 [3,5,6,8,9,10,25,26] [iv x2.passed] [.load ⟨g3,0,none⟩ (iv x2.passed)] [(3,.map (some gv_out3)),(5,pg g2 0),(6,pg g3 0),(8,.slice Aa0 a0.length ca0),(9,iv (a0.length:Int)),(10,iv v10),(25,iv (w64 (x2.passed+1))),(26,pg g3 0)] (fun w hh=>(hh.box 0 rfl rfl)) ?_
    refine RgH.does (DoesH.store (k:=0) (g:=g3) (off:=0) (v:=iv (w64 (x2.passed+1))) (cells':=#[iv (w64 (x2.passed+1)),iv x2.failed]) (by kernel_rfl) rfl (by kernel_rfl) (by kernel_rfl)) ?_
    rintro _ _ _ _ ⟨rfl,rfl,rfl⟩
    refine Dn<|Kp [3,5,6,8,9,10] [(3,.map (some gv_out3)),(5,pg g2 0),(6,pg g3 0),(8,.slice Aa0 a0.length ca0),(9,iv (a0.length:Int)),(10,iv v10)] ?_
    exact (trials_tallies.j3_c (backl2:=(trials_tallies.l2 e1 k)) ihk) a0 _ _ v_out3 _ _ v10 x1 _ _ (w64 (x2.passed+1)) x2.failed hra0 hca0 hov_out3 heq
   ·replace heq:=bif_false hb2 heq
    refine Cf x1.Pass hb2<|Rr<|Rv 4 [3,5,6,8,9,10,29,30] [iv x2.failed] [.load ⟨g3,1,none⟩ (iv x2.failed)] [(3,.map (some gv_out3)),(5,pg g2 0),(6,pg g3 0),(8,.slice Aa0 a0.length ca0),(9,iv (a0.length:Int)),(10,iv v10),(29,iv (w64 (x2.failed+1))),(30,pg g3 1)] (fun w hh=>(hh.box 0 rfl rfl)) ?_
    refine RgH.does (DoesH.store (k:=0) (g:=g3) (off:=1) (v:=iv (w64 (x2.failed+1))) (cells':=#[iv x2.passed,iv (w64 (x2.failed+1))]) (by kernel_rfl) rfl (by kernel_rfl) (by kernel_rfl)) ?_
    rintro _ _ _ _ ⟨rfl,rfl,rfl⟩
    refine Dn<|Kp [3,5,6,8,9,10] [(3,.map (some gv_out3)),(5,pg g2 0),(6,pg g3 0),(8,.slice Aa0 a0.length ca0),(9,iv (a0.length:Int)),(10,iv v10)] ?_
    exact (trials_tallies.j3_c (backl2:=(trials_tallies.l2 e1 k)) ihk) a0 _ _ v_out3 _ _ v10 x1 _ _ x2.passed (w64 (x2.failed+1)) hra0 hca0 hov_out3 heq
  ·replace heq:=bif_false hb1 heq
   refine Cf (decide (v10<(a0.length:Int))) hb1<|Ad 2 [.c [1,1,1,0],.c [1,1,1,1]]<|Kp [3] [(3,.map (some gv_out3))] ?_
   exact he1 v_out3 _ _ hov_out3 heq
theorem trials_tallies_c {w0:World} [GlobI 0 w0] {H:Hp} {F:List Ch} {a0:List TestRun} {Aa0:Option Addr} {na0:Nat} {ca0:Nat} {r:(List (trials_id × trials_tally))} (hra0:Rw kTestRun H F Aa0 a0) (hca0:na0≤ca0) (hna0:na0=a0.length) (heq:trials_tallies.f a0=some r):CallsH Tryd.prog 7 #[.slice Aa0 na0 ca0] H w0 (F) (S7 F H r):=by
 refine calls_of_runH (F:=C7) Tryd.func7 (by kernel_rfl) Tryd.ntmps7 (args:=[.slice Aa0 na0 ca0]) (by kernel_rfl) ?_
 subst hna0
 unfold trials_tallies.f at heq
 refine Ra 1 [0] [.c [1]]<|Rd 1 [0] [(0,.slice Aa0 a0.length ca0)]<|Ra 1 [1,0] [.c [1,1]] ?_
 refine RgH.does (DoesH.new (d:=7) (v:=fun g=>.map (some g)) (o:=fun g=>.map #[] 0) (fun g=>by kernel_rfl)) ?_
 rintro _ _ _ _ ⟨g1,rfl,rfl,rfl⟩
 have ho1:MpOwn etrials_id ktrials_tally true H g1 ([]:List (trials_id × trials_tally)) (some (g1,.map #[] 0)):=MpOwn.made
 refine Rd 2 [0,3] [(0,.slice Aa0 a0.length ca0),(3,.map (some g1))]<|Ra 2 [1,1,0,0] [.c [1,1,0,1],.c [1,1,1]]<|Rd 3 [3,8,9,10] [(3,.map (some g1)),(8,.slice Aa0 a0.length ca0),(9,iv (a0.length:Int)),(10,iv 0)]<|Ad 2 [.c [1,1,0,1,0,0],.l [1,1,0,1,0,0],.b 0,.c [1,1,1]]<|Kp [3,8,9,10] [(3,.map (some g1)),(8,.slice Aa0 a0.length ca0),(9,iv (a0.length:Int)),(10,iv 0)] ?_
 exact ((trials_tallies.l2_c (e1:=trials_tallies.e1) (trials_tallies.e1_c)) big) a0 _ _ ([]:List (trials_id × trials_tally)) _ _ 0 hra0 hca0 ho1 heq
noncomputable def C8:Ctx:={ P:=Tryd.prog,f:=8,N:=18,c:=bodyOf Tryd.f8 }
def S8 (F:List Ch) (H0:Hp) (r:Int) (v:Value) (H:Hp) (cs:List Ch):Prop:=H0=H∧v=iv r∧F=cs
theorem trials_tally_verdict_c {w0:World} [GlobI 0 w0] {H:Hp} {F:List Ch} {a0:trials_tally} {r:Int} (heq:trials_tally_verdict.f a0=some r):CallsH Tryd.prog 8 #[.agg #[iv a0.passed,iv a0.failed]] H w0 (F) (S8 F H r):=by
 refine calls_of_runH (F:=C8) Tryd.func8 (by kernel_rfl) Tryd.ntmps8 (args:=[.agg #[iv a0.passed,iv a0.failed]]) (by kernel_rfl) ?_
 unfold trials_tally_verdict.f at heq
 refine Ra 1 [0] [.c [1]] ?_
 refine RgH.does (DoesH.new (d:=1) (v:=fun g=>.pointer (some ⟨g,0,none⟩)) (o:=fun g=>.cells #[iv a0.passed,iv a0.failed] 38 (0,0)) (fun g=>by kernel_rfl)) ?_
 rintro _ _ _ _ ⟨g1,rfl,rfl,rfl⟩
 refine Rd 2 [1] [(1,pg g1 0)]<|Ra 3 [1,0,0,0] [.c [1,0,0,1],.b 0,.c [1,1]]<|Rw' 7 [1,3] [iv a0.passed,iv a0.failed] [.load ⟨g1,0,none⟩ (iv a0.passed),.load ⟨g1,1,none⟩ (iv a0.failed)] [(1,pg g1 0),(3,.bool ((w64 (a0.passed+a0.failed)) == 0))] (fun w hh=>⟨(hh.box 0 rfl rfl),(hh.box 0 rfl rfl)⟩) ?_
 rcases bool_cases ((w64 (a0.passed+a0.failed)) == 0) with hb1 | hb1
 ·replace heq:=bif_true hb1 heq
  refine Ct ((w64 (a0.passed+a0.failed)) == 0) hb1<|Ra 1 [1,0,0,1,0,0] [.c [1,0,0,1,0,1],.b 0,.c [1,1]]<|Rd 1 [2] [(2,iv 1)] ?_
  obtain rfl:=Option.some.inj heq
  refine RunH.pick 1 [] (cs':=F) (by kernel_rfl) rfl ?_
  exact RunH.done (by kernel_rfl) Tryd.func8 (v:=iv 1) (by kernel_rfl) ⟨rfl,rfl,rfl⟩
 ·replace heq:=bif_false hb1 heq
  refine Cf ((w64 (a0.passed+a0.failed)) == 0) hb1<|Ra 1 [1,0,0,1,1,0] [.c [1,0,0,1,1,1],.b 0,.c [1,1]]<|Rw' 4 [1,10] [iv a0.failed] [.load ⟨g1,1,none⟩ (iv a0.failed)] [(1,pg g1 0),(10,.bool (a0.failed == 0))] (fun w hh=>(hh.box 0 rfl rfl)) ?_
  rcases bool_cases (a0.failed == 0) with hb2 | hb2
  ·replace heq:=bif_true hb2 heq
   refine Ct (a0.failed == 0) hb2<|Ra 1 [1,0,0,1,1,1,0,0] [.c [1,0,0,1,1,1,0,1],.b 0,.c [1,1]]<|Rd 1 [2] [(2,iv 2)] ?_
   obtain rfl:=Option.some.inj heq
   refine RunH.pick 1 [] (cs':=F) (by kernel_rfl) rfl ?_
   exact RunH.done (by kernel_rfl) Tryd.func8 (v:=iv 2) (by kernel_rfl) ⟨rfl,rfl,rfl⟩
  ·replace heq:=bif_false hb2 heq
   refine Cf (a0.failed == 0) hb2<|Ra 1 [1,0,0,1,1,1,1,0] [.c [1,0,0,1,1,1,1,1],.b 0,.c [1,1]]<|Rw' 4 [14] [iv a0.passed] [.load ⟨g1,0,none⟩ (iv a0.passed)] [(14,.bool (a0.passed == 0))] (fun w hh=>(hh.box 0 rfl rfl)) ?_
   rcases bool_cases (a0.passed == 0) with hb3 | hb3
   ·replace heq:=bif_true hb3 heq
    refine Ct (a0.passed == 0) hb3<|Ra 1 [1,0,0,1,1,1,1,1,0,0] [.c [1,0,0,1,1,1,1,1,0,1],.b 0,.c [1,1]]<|Rd 1 [2] [(2,iv 3)] ?_
    obtain rfl:=Option.some.inj heq
    refine RunH.pick 1 [] (cs':=F) (by kernel_rfl) rfl ?_
    exact RunH.done (by kernel_rfl) Tryd.func8 (v:=iv 3) (by kernel_rfl) ⟨rfl,rfl,rfl⟩
   ·replace heq:=bif_false hb3 heq
    refine Cf (a0.passed == 0) hb3<|Ra 3 [1,1,0] [.c [1,1,1]]<|Rd 1 [2] [(2,iv 4)] ?_
    obtain rfl:=Option.some.inj heq
    refine RunH.pick 1 [] (cs':=F) (by kernel_rfl) rfl ?_
    exact RunH.done (by kernel_rfl) Tryd.func8 (v:=iv 4) (by kernel_rfl) ⟨rfl,rfl,rfl⟩
noncomputable def C4:Ctx:={ P:=Tryd.prog,f:=4,N:=31,c:=bodyOf Tryd.f4 }
def S4 (F:List Ch) (H0:Hp) (r:(List ByteArray) × Int) (v:Value) (H:Hp) (cs:List Ch):Prop:=∃ (A0:Option Addr) (c0:Nat) (ch0:Ch),H0=H∧v=.tuple #[.slice A0 r.1.length c0,iv r.2]∧ch0::F=cs∧SlOwn Kd.string 9 H A0 c0 r.1 ch0
theorem trials_Flaky.e1_c {w0:World} [GlobI 0 w0] {H:Hp} {F:List Ch} {r:(List ByteArray) × Int}:∀ (v_is5:List (ByteArray × Bool)) (gv_is5:Nat) (chv_is5:Ch) ,MpOwn Value.string Kd.bool false H gv_is5 v_is5 chv_is5→trials_Flaky.e1 v_is5=some r→RunH C4 (S4 F H r) H w0 [.c [1,1,1,1,0],.c [1,1,1,1,1]] [(5,.map (some gv_is5))] H (chv_is5::F):=by
 intro v_is5 gv_is5 chv_is5 hov_is5 heq
 unfold trials_Flaky.e1 at heq
 refine Rr<|Rk 1 [28] [(28,.map (some gv_is5))] ?_
 refine RgH.does (DoesH.call (d:=29) (g:=10) (args:=#[.map (some gv_is5)]) (by kernel_rfl) (keys_calls Shelf.Tryd.maps_Keys)) ?_
 rintro _ _ _ _ ⟨_,rfl,g4,rfl,rfl,rfl⟩
 obtain ⟨y3,hy3,heq⟩:=bind_some heq
 refine RgH.does (DoesH.call (d:=30) (g:=9) (args:=#[.func (.func 17) #[] #[.pointer (some ⟨g4,0,none⟩)]]) (by kernel_rfl) (sorted_calls (kB:=0) (kM:=1) Tryd.underlying9 Shelf.Tryd.slices_Sorted_keys rfl rfl hov_is5 hy3)) ?_
 rintro _ _ _ _ ⟨_,rfl,A1,c1,ch3,rfl,rfl,rfl,ho4⟩
 refine Rd 5 [2,3] [(2,.slice A1 y3.length c1),(3,iv 0)] ?_
 obtain rfl:=Option.some.inj heq
 refine RunH.pick 3 [0] (cs':=ch3::F) (by kernel_rfl) rfl ?_
 exact RunH.done (by kernel_rfl) Tryd.func4 (v:=.tuple #[.slice A1 y3.length c1,iv 0]) (by kernel_rfl) ⟨A1,c1,ch3,rfl,rfl,rfl,ho4⟩
theorem trials_Flaky.l2_c {w0:World} [GlobI 0 w0] {H:Hp} {F:List Ch} {r:(List ByteArray) × Int} (e1:(List (ByteArray × Bool))→Option ((List ByteArray) × Int))
  (he1:∀ (v_is5:List (ByteArray × Bool)) (gv_is5:Nat) (chv_is5:Ch) ,MpOwn Value.string Kd.bool false H gv_is5 v_is5 chv_is5→e1 v_is5=some r→RunH C4 (S4 F H r) H w0 [.c [1,1,1,1,0],.c [1,1,1,1,1]] [(5,.map (some gv_is5))] H (chv_is5::F)):∀ (k:Nat),∀ (y2:(List (trials_id × trials_tally))) (g2:Nat) (ch1:Ch) (g3:Nat) (v_is5:List (ByteArray × Bool)) (gv_is5:Nat) (chv_is5:Ch) (v16:List (trials_id × trials_tally)) (chv16:Ch) ,MpOwn Value.string Kd.bool false H gv_is5 v_is5 chv_is5→ItOwn etrials_id ktrials_tally true H g2 y2 v16 ch1 chv16 g3→trials_Flaky.l2 e1 k y2 v_is5 v16=some r→RunH C4 (S4 F H r) H w0 [.c [1,1,1,0,1,0,0],.l [1,1,1,0,1,0,0],.b 0,.c [1,1,1,1]] [(5,.map (some gv_is5)),(16,pg g3 0)] H (chv16::ch1::chv_is5::F):=by
 intro k
 induction k with
 | zero=>intro y2 g2 ch1 g3 v_is5 gv_is5 chv_is5 v16 chv16 hov_is5 hov16 heq; exact nomatch (show (none:Option ((List ByteArray) × Int))=some r from heq)
 | succ k ihk =>
  intro y2 g2 ch1 g3 v_is5 gv_is5 chv_is5 v16 chv16 hov_is5 hov16 heq
  rw [trials_Flaky.l2] at heq
  refine Ra 1 [1,1,1,0,1,0,0,0] [.c [1,1,1,0,1,0,0,1],.l [1,1,1,0,1,0,0],.b 0,.c [1,1,1,1]] ?_
  obtain ⟨hA1,hB1⟩:=rangeAll_some heq
  refine RgH.does (DoesH.next (d:=17) (k:=0) (kM:=1) (by kernel_rfl) rfl rfl hov16) ?_
  rintro _ _ _ _ (⟨hl1,rfl,rfl,rfl⟩ | ⟨l1_1,q1,l2_1,ch4,vq1,hl1,rfl,rfl,rfl,hc1⟩)
  ·replace heq:=hA1 hl1
   refine Rd 2 [5,16,18] [(5,.map (some gv_is5)),(16,pg g3 0),(18,.bool false)]<|Ad 1 [.c [1,1,1,0,1,0,0,1,0],.c [1,1,1,0,1,0,0,1,1],.l [1,1,1,0,1,0,0],.b 0,.c [1,1,1,1]]<|Cf false rfl<|Ad 2 [.c [1,1,1,1,0],.c [1,1,1,1,1]]<|Kp [5] [(5,.map (some gv_is5))] ?_
   refine RunH.pick 3 [2] (cs':=chv_is5::F) (by kernel_rfl) rfl ?_
   exact he1 v_is5 _ _ hov_is5 heq
  ·replace heq:=hB1 l1_1 q1 l2_1 hl1
   generalize l1_1++l2_1=lv1 at hc1 heq
   refine Rd 2 [5,16,18] [(5,.map (some gv_is5)),(16,pg g3 0),(18,.bool true)]<|Ad 1 [.c [1,1,1,0,1,0,0,1,0],.c [1,1,1,0,1,0,0,1,1],.l [1,1,1,0,1,0,0],.b 0,.c [1,1,1,1]]<|Ct true rfl<|Ra 3 [1,1,1,0,1,0,0,1,1,0,0] [.c [1,1,1,0,1,0,0,1,1,0,1],.b 1,.l [1,1,1,0,1,0,0],.b 0,.c [1,1,1,1]] ?_
   refine RgH.does (DoesH.entry (d:=19) (k:=0) (kM:=1) (by kernel_rfl) rfl rfl hc1) ?_
   rintro _ _ _ _ ⟨cc1,rfl,rfl,rfl,hcc1⟩
   obtain ⟨rfl⟩:=ktrials_tally_open hcc1
   refine RgH.val1 (v':=.tuple #[.agg #[.string q1.1.test,.string q1.1.key],.agg #[iv q1.2.passed,iv q1.2.failed]]) rfl ?_
   refine Rk 3 [5,16,20,21] [(5,.map (some gv_is5)),(16,pg g3 0),(20,.agg #[.string q1.1.test,.string q1.1.key]),(21,.agg #[iv q1.2.passed,iv q1.2.failed])] ?_
   refine RgH.does (DoesH.new (d:=6) (v:=fun g=>.pointer (some ⟨g,0,none⟩)) (o:=fun g=>.cells #[.string ByteArray.empty,.string ByteArray.empty] 36 (0,0)) (fun g=>by kernel_rfl)) ?_
   rintro _ _ _ _ ⟨g5,rfl,rfl,rfl⟩
   refine RgH.does (DoesH.new (d:=7) (v:=fun g=>.pointer (some ⟨g,0,none⟩)) (o:=fun g=>.cells #[iv 0,iv 0] 38 (0,0)) (fun g=>by kernel_rfl)) ?_
   rintro _ _ _ _ ⟨g6,rfl,rfl,rfl⟩
   refine RgH.does (DoesH.store (k:=1) (g:=g5) (off:=0) (v:=.agg #[.string q1.1.test,.string q1.1.key]) (cells':=#[.string q1.1.test,.string q1.1.key]) (by kernel_rfl) rfl (by kernel_rfl) (by kernel_rfl)) ?_
   rintro _ _ _ _ ⟨rfl,rfl,rfl⟩
   refine RgH.does (DoesH.store (k:=0) (g:=g6) (off:=0) (v:=.agg #[iv q1.2.passed,iv q1.2.failed]) (cells':=#[iv q1.2.passed,iv q1.2.failed]) (by kernel_rfl) rfl (by kernel_rfl) (by kernel_rfl)) ?_
   rintro _ _ _ _ ⟨rfl,rfl,rfl⟩
   refine Dn<|Ra 1 [1,1,1,0,1,0,0,1,1,0,1,0] [.c [1,1,1,0,1,0,0,1,1,0,1,1],.b 1,.l [1,1,1,0,1,0,0],.b 0,.c [1,1,1,1]]<|Rv 1 [5,6,16,22] [iv q1.2.passed,iv q1.2.failed] [.load ⟨g6,0,none⟩ (iv q1.2.passed),.load ⟨g6,1,none⟩ (iv q1.2.failed)] [(5,.map (some gv_is5)),(6,pg g5 0),(16,pg g3 0),(22,.agg #[iv q1.2.passed,iv q1.2.failed])] (fun w hh=>⟨(hh.box 0 rfl rfl),(hh.box 0 rfl rfl)⟩) ?_
   obtain ⟨y4,hy4,heq⟩:=bind_some heq
   refine RgH.does (DoesH.call (d:=23) (g:=8) (args:=#[.agg #[iv q1.2.passed,iv q1.2.failed]]) (by kernel_rfl) (trials_tally_verdict_c (a0:=q1.2)  hy4)) ?_
   rintro _ _ _ _ ⟨_,rfl,rfl,rfl,rfl⟩
   refine Rd 3 [5,6,16,24] [(5,.map (some gv_is5)),(6,pg g5 0),(16,pg g3 0),(24,.bool (y4 == 4))] ?_
   rcases bool_cases (y4 == 4) with hb2 | hb2
   ·replace heq:=bif_true hb2 heq
    refine Ct (y4 == 4) hb2<|Rr<|Rv 3 [5,16,25,27] [.string q1.1.test] [.load ⟨g5,0,none⟩ (.string q1.1.test)] [(5,.map (some gv_is5)),(16,pg g3 0),(25,.map (some gv_is5)),(27,.string q1.1.test)] (fun w hh=>(hh.box 1 rfl rfl)) ?_
    refine RgH.does (DoesH.mapUpdate (kk:=4) (cv:=[.bool true]) (k:=q1.1.test) (v:=true) (by kernel_rfl) (KyAt.string Tryd.underlying9) rfl rfl rfl hov_is5) ?_
    rintro _ _ _ _ ⟨ch5,rfl,rfl,rfl,ho5⟩
    refine Dn<|Ad 2 [.c [1,1,1,0,1,0,0],.l [1,1,1,0,1,0,0],.b 0,.c [1,1,1,1]]<|Kp [5,16] [(5,.map (some gv_is5)),(16,pg g3 0)] ?_
    refine RunH.pick 5 [2,3,4] (cs':=ch4::ch1::ch5::F) (by kernel_rfl) rfl ?_
    exact ihk y2 _ _ _ (mput v_is5 q1.1.test true) _ _ lv1 _ ho5 hc1.own heq
   ·replace heq:=bif_false hb2 heq
    refine Cf (y4 == 4) hb2<|Ad 3 [.c [1,1,1,0,1,0,0],.l [1,1,1,0,1,0,0],.b 0,.c [1,1,1,1]]<|Kp [5,16] [(5,.map (some gv_is5)),(16,pg g3 0)] ?_
    refine RunH.pick 5 [2,3,4] (cs':=ch4::ch1::chv_is5::F) (by kernel_rfl) rfl ?_
    exact ihk y2 _ _ _ v_is5 _ _ lv1 _ hov_is5 hc1.own heq
theorem trials_Flaky_c {w0:World} [GlobI 0 w0] {H:Hp} {F:List Ch} {a0:List TestRun} {Aa0:Option Addr} {na0:Nat} {ca0:Nat} {r:(List ByteArray) × Int} (hra0:Rw kTestRun H F Aa0 a0) (hca0:na0≤ca0) (hna0:na0=a0.length) (heq:trials_Flaky.f a0=some r):CallsH Tryd.prog 4 #[.slice Aa0 na0 ca0] H w0 (F) (S4 F H r):=by
 refine calls_of_runH (F:=C4) Tryd.func4 (by kernel_rfl) Tryd.ntmps4 (args:=[.slice Aa0 na0 ca0]) (by kernel_rfl) ?_
 subst hna0
 unfold trials_Flaky.f at heq
 refine Ra 1 [0] [.c [1]]<|Rd 2 [0] [(0,.slice Aa0 a0.length ca0)]<|Ra 2 [1,0,0] [.c [1,0,1],.c [1,1]]<|Rk 1 [0,8] [(0,.slice Aa0 a0.length ca0),(8,.slice Aa0 a0.length ca0)] ?_
 obtain ⟨y1,hy1,heq⟩:=bind_some heq
 refine RgH.does (DoesH.call (d:=9) (g:=6) (args:=#[.slice Aa0 a0.length ca0]) (by kernel_rfl) (trials_CheckHistory_c (a0:=a0) hra0 hca0 rfl hy1)) ?_
 rintro _ _ _ _ ⟨_,rfl,rfl,rfl,rfl⟩
 refine Rd 3 [0,4] [(0,.slice Aa0 a0.length ca0),(4,iv y1)]<|Ra 1 [1,0,1,0] [.c [1,0,1,1],.c [1,1]]<|Rd 2 [0,4,11] [(0,.slice Aa0 a0.length ca0),(4,iv y1),(11,.bool (y1 != 0))] ?_
 rcases bool_cases (y1 != 0) with hb1 | hb1
 ·replace heq:=bif_true hb1 heq
  refine Ct (y1 != 0) hb1<|Ra 1 [1,0,1,1,0,0] [.c [1,0,1,1,0,1],.c [1,1]]<|Rd 3 [2,3] [(2,.slice none 0 0),(3,iv y1)]<|RunH.nilc ?_
  have ho1:SlOwn Kd.string 9 H none 0 ([]:List ByteArray) none:=SlOwn.nil
  obtain rfl:=Option.some.inj heq
  exact RunH.done (by kernel_rfl) Tryd.func4 (v:=.tuple #[.slice none 0 0,iv y1]) (by kernel_rfl) ⟨none,0,none,rfl,rfl,rfl,ho1⟩
 ·replace heq:=bif_false hb1 heq
  refine Cf (y1 != 0) hb1<|Ra 2 [1,1,0] [.c [1,1,1]] ?_
  refine RgH.does (DoesH.new (d:=13) (v:=fun g=>.map (some g)) (o:=fun g=>.map #[] 0) (fun g=>by kernel_rfl)) ?_
  rintro _ _ _ _ ⟨g1,rfl,rfl,rfl⟩
  have ho2:MpOwn Value.string Kd.bool false H g1 ([]:List (ByteArray × Bool)) (some (g1,.map #[] 0)):=MpOwn.made
  refine Rd 2 [0,5] [(0,.slice Aa0 a0.length ca0),(5,.map (some g1))]<|Ra 2 [1,1,1,0,0] [.c [1,1,1,0,1],.c [1,1,1,1]]<|Rk 1 [5,14] [(5,.map (some g1)),(14,.slice Aa0 a0.length ca0)] ?_
  obtain ⟨y2,hy2,heq⟩:=bind_some heq
  refine RgH.does (DoesH.call (d:=15) (g:=7) (args:=#[.slice Aa0 a0.length ca0]) (by kernel_rfl) (trials_tallies_c (a0:=a0) (hra0.wk (fun _ h=>(.tail _ h))) hca0 rfl hy2)) ?_
  rintro _ _ _ _ ⟨_,rfl,g2,ch1,rfl,rfl,rfl,ho3⟩
  refine RgH.does (DoesH.range (d:=16) (g:=g2) (kM:=0) (by kernel_rfl) rfl ho3) ?_
  rintro _ _ _ _ ⟨g3,ch2,rfl,rfl,rfl,hi1⟩
  refine Dn<|Ad 2 [.c [1,1,1,0,1,0,0],.l [1,1,1,0,1,0,0],.b 0,.c [1,1,1,1]]<|Kp [5,16] [(5,.map (some g1)),(16,pg g3 0)] ?_
  exact ((trials_Flaky.l2_c (e1:=trials_Flaky.e1) (trials_Flaky.e1_c)) big) y2 _ _ _ ([]:List (ByteArray × Bool)) _ _ y2 _ ho2 hi1 heq
noncomputable def C11:Ctx:={ P:=Tryd.prog,f:=11,N:=64,c:=bodyOf Tryd.f11 }
def S11 (F:List Ch) (H0:Hp) (r:Int × Int × Int) (v:Value) (H:Hp) (cs:List Ch):Prop:=H0=H∧v=.tuple #[iv r.1,iv r.2.1,iv r.2.2]∧F=cs
theorem trials_Tried.e1_c {w0:World} [GlobI 0 w0] {H:Hp} {F:List Ch} {r:Int × Int × Int}:∀ (a0:Int) ,trials_Tried.e1 a0=some r→RunH C11 (S11 F H r) H w0 [.c [1,1,1,1,1,0],.c [1,1,1,1,1,1]] [(0,iv a0)] H (F):=by
 intro a0  heq
 unfold trials_Tried.e1 at heq
 refine Rr<|Rd 4 [6,7,8] [(6,iv 3),(7,iv a0),(8,iv 0)] ?_
 obtain rfl:=Option.some.inj heq
 exact RunH.done (by kernel_rfl) Tryd.func11 (v:=.tuple #[iv 3,iv a0,iv 0]) (by kernel_rfl) ⟨rfl,rfl,rfl⟩
theorem trials_Tried.j3_c {w0:World} [GlobI 0 w0] {H:Hp} {F:List Ch} {r:Int × Int × Int} (backl2:Int→Int→(List Bool)→Int→Int→Option (Int × Int × Int))
  (hbackl2:∀ (a0:Int) (a1:Int) (a2:List Bool) (Aa2:Option Addr) (ca2:Nat) (v_passed9:Int) (v28:Int) ,Rw Kd.bool H F Aa2 a2→a2.length≤ca2→backl2 a0 a1 a2 v_passed9 v28=some r→RunH C11 (S11 F H r) H w0 [.c [1,1,1,1,0,1,0,0],.l [1,1,1,1,0,1,0,0],.b 0,.c [1,1,1,1,1]] [(0,iv a0),(1,iv a1),(9,iv v_passed9),(26,.slice Aa2 a2.length ca2),(27,iv (a2.length:Int)),(28,iv v28)] H (F)):∀ (a0:Int) (a1:Int) (a2:List Bool) (Aa2:Option Addr) (ca2:Nat) (v28:Int) (v_passed9:Int) ,Rw Kd.bool H F Aa2 a2→a2.length≤ca2→trials_Tried.j3 backl2 a0 a1 a2 v28 v_passed9=some r→RunH C11 (S11 F H r) H w0 [.c [1,1,1,1,0,1,0,0,1,1,0,0,1,1,0],.c [1,1,1,1,0,1,0,0,1,1,0,0,1,1,1],.b 1,.c [1,1,1,1,0,1,0,0,1,1,1],.l [1,1,1,1,0,1,0,0],.b 0,.c [1,1,1,1,1]] [(0,iv a0),(1,iv a1),(9,iv v_passed9),(10,iv v28),(26,.slice Aa2 a2.length ca2),(27,iv (a2.length:Int)),(28,iv v28)] H (F):=by
 intro a0 a1 a2 Aa2 ca2 v28 v_passed9 hra2 hca2 heq
 unfold trials_Tried.j3 at heq
 refine Rr<|Rd 3 [0,1,9,12,26,27,28] [(0,iv a0),(1,iv a1),(9,iv v_passed9),(12,iv (w64 (v28+1))),(26,.slice Aa2 a2.length ca2),(27,iv (a2.length:Int)),(28,iv v28)]<|Ad 2 [.c [1,1,1,1,0,1,0,0,1,1,0,0,1,1,1,0,0],.c [1,1,1,1,0,1,0,0,1,1,0,0,1,1,1,0,1],.b 2,.b 1,.c [1,1,1,1,0,1,0,0,1,1,1],.l [1,1,1,1,0,1,0,0],.b 0,.c [1,1,1,1,1]] ?_
 obtain ⟨t2,ht2,heq⟩:=bind_some heq
 have K2:RunH C11 (S11 F H r) H w0 [.c [1,1,1,1,0,1,0,0,1,1,0,0,1,1,1,0,1],.b 2,.b 1,.c [1,1,1,1,0,1,0,0,1,1,1],.l [1,1,1,1,0,1,0,0],.b 0,.c [1,1,1,1,1]] [(0,iv a0),(1,iv a1),(9,iv v_passed9),(12,iv (w64 (v28+1))),(26,.slice Aa2 a2.length ca2),(27,iv (a2.length:Int)),(28,iv v28),(38,.bool t2)] H (F):=by
  rcases bool_cases (t2) with hb6 | hb6
  ·replace heq:=bif_true hb6 heq
   refine Ct t2 hb6<|Ra 1 [1,1,1,1,0,1,0,0,1,1,0,0,1,1,1,0,1,0,0] [.c [1,1,1,1,0,1,0,0,1,1,0,0,1,1,1,0,1,0,1],.b 2,.b 1,.c [1,1,1,1,0,1,0,0,1,1,1],.l [1,1,1,1,0,1,0,0],.b 0,.c [1,1,1,1,1]]<|Rd 4 [6,7,8] [(6,iv 2),(7,iv (w64 (v28+1))),(8,iv 0)] ?_
   obtain rfl:=Option.some.inj heq
   exact RunH.done (by kernel_rfl) Tryd.func11 (v:=.tuple #[iv 2,iv (w64 (v28+1)),iv 0]) (by kernel_rfl) ⟨rfl,rfl,rfl⟩
  ·replace heq:=bif_false hb6 heq
   refine Cf t2 hb6<|Ra 1 [1,1,1,1,0,1,0,0,1,1,0,0,1,1,1,0,1,1,0] [.c [1,1,1,1,0,1,0,0,1,1,0,0,1,1,1,0,1,1,1],.b 2,.b 1,.c [1,1,1,1,0,1,0,0,1,1,1],.l [1,1,1,1,0,1,0,0],.b 0,.c [1,1,1,1,1]]<|Rd 4 [0,1,9,12,26,27,28,48] [(0,iv a0),(1,iv a1),(9,iv v_passed9),(12,iv (w64 (v28+1))),(26,.slice Aa2 a2.length ca2),(27,iv (a2.length:Int)),(28,iv v28),(48,.bool (v_passed9 == a1))] ?_
   rcases bool_cases (v_passed9 == a1) with hb7 | hb7
   ·replace heq:=bif_true hb7 heq
    refine Ct (v_passed9 == a1) hb7<|Ra 1 [1,1,1,1,0,1,0,0,1,1,0,0,1,1,1,0,1,1,1,0,0] [.c [1,1,1,1,0,1,0,0,1,1,0,0,1,1,1,0,1,1,1,0,1],.b 2,.b 1,.c [1,1,1,1,0,1,0,0,1,1,1],.l [1,1,1,1,0,1,0,0],.b 0,.c [1,1,1,1,1]]<|Rd 4 [6,7,8] [(6,iv 4),(7,iv (w64 (v28+1))),(8,iv 0)] ?_
    obtain rfl:=Option.some.inj heq
    exact RunH.done (by kernel_rfl) Tryd.func11 (v:=.tuple #[iv 4,iv (w64 (v28+1)),iv 0]) (by kernel_rfl) ⟨rfl,rfl,rfl⟩
   ·replace heq:=bif_false hb7 heq
    refine Cf (v_passed9 == a1) hb7<|Ra 1 [1,1,1,1,0,1,0,0,1,1,0,0,1,1,1,0,1,1,1,1,0] [.c [1,1,1,1,0,1,0,0,1,1,0,0,1,1,1,0,1,1,1,1,1],.b 2,.b 1,.c [1,1,1,1,0,1,0,0,1,1,1],.l [1,1,1,1,0,1,0,0],.b 0,.c [1,1,1,1,1]]<|Rd 8 [0,1,9,12,26,27,28,53] [(0,iv a0),(1,iv a1),(9,iv v_passed9),(12,iv (w64 (v28+1))),(26,.slice Aa2 a2.length ca2),(27,iv (a2.length:Int)),(28,iv v28),(53,.bool (decide ((w64 ((w64 (v_passed9+a0)) - (w64 (v28+1))))<a1)))] ?_
    rcases bool_cases (decide ((w64 ((w64 (v_passed9+a0)) - (w64 (v28+1))))<a1)) with hb8 | hb8
    ·replace heq:=bif_true hb8 heq
     refine Ct (decide ((w64 ((w64 (v_passed9+a0)) - (w64 (v28+1))))<a1)) hb8<|Ra 1 [1,1,1,1,0,1,0,0,1,1,0,0,1,1,1,0,1,1,1,1,1,0,0] [.c [1,1,1,1,0,1,0,0,1,1,0,0,1,1,1,0,1,1,1,1,1,0,1],.b 2,.b 1,.c [1,1,1,1,0,1,0,0,1,1,1],.l [1,1,1,1,0,1,0,0],.b 0,.c [1,1,1,1,1]]<|Rd 4 [6,7,8] [(6,iv 3),(7,iv (w64 (v28+1))),(8,iv 0)] ?_
     obtain rfl:=Option.some.inj heq
     exact RunH.done (by kernel_rfl) Tryd.func11 (v:=.tuple #[iv 3,iv (w64 (v28+1)),iv 0]) (by kernel_rfl) ⟨rfl,rfl,rfl⟩
    ·replace heq:=bif_false hb8 heq
     refine Cf (decide ((w64 ((w64 (v_passed9+a0)) - (w64 (v28+1))))<a1)) hb8<|Ra 3 [1,1,1,1,0,1,0,0,1,1,1] [.l [1,1,1,1,0,1,0,0],.b 0,.c [1,1,1,1,1]]<|Rd 2 [0,1,9,26,27,28] [(0,iv a0),(1,iv a1),(9,iv v_passed9),(26,.slice Aa2 a2.length ca2),(27,iv (a2.length:Int)),(28,iv (w64 (v28+1)))]<|Ad 1 [.c [1,1,1,1,0,1,0,0],.l [1,1,1,1,0,1,0,0],.b 0,.c [1,1,1,1,1]]<|Kp [0,1,9,26,27,28] [(0,iv a0),(1,iv a1),(9,iv v_passed9),(26,.slice Aa2 a2.length ca2),(27,iv (a2.length:Int)),(28,iv (w64 (v28+1)))] ?_
     exact hbackl2 a0 a1 a2 _ _ v_passed9 (w64 (v28+1)) hra2 hca2 heq
 replace heq:=ht2
 refine Rr<|Rk 4 [42,0,1,9,12,26,27,28] [(42,.bool (v_passed9 == a1)),(0,iv a0),(1,iv a1),(9,iv v_passed9),(12,iv (w64 (v28+1))),(26,.slice Aa2 a2.length ca2),(27,iv (a2.length:Int)),(28,iv v28)] ?_
 rcases bool_cases (v_passed9 == a1) with hb5 | hb5
 ·replace heq:=bif_true hb5 heq
  refine RgH.val1 (v':=.bool true) (congrArg Value.bool hb5) ?_
  refine Rk 9 [0,1,9,12,26,27,28,38] [(0,iv a0),(1,iv a1),(9,iv v_passed9),(12,iv (w64 (v28+1))),(26,.slice Aa2 a2.length ca2),(27,iv (a2.length:Int)),(28,iv v28),(38,.bool ((w64 (v28+1)) == a1))] ?_
  obtain rfl:=Option.some.inj heq
  refine Kg [0,1,9,12,26,27,28,38] [(0,iv a0),(1,iv a1),(9,iv v_passed9),(12,iv (w64 (v28+1))),(26,.slice Aa2 a2.length ca2),(27,iv (a2.length:Int)),(28,iv v28),(38,.bool ((w64 (v28+1)) == a1))]<|Dn ?_
  exact K2
 ·replace heq:=bif_false hb5 heq
  refine RgH.val1 (v':=.bool false) (congrArg Value.bool hb5) ?_
  refine Rk 9 [0,1,9,12,26,27,28,38] [(0,iv a0),(1,iv a1),(9,iv v_passed9),(12,iv (w64 (v28+1))),(26,.slice Aa2 a2.length ca2),(27,iv (a2.length:Int)),(28,iv v28),(38,.bool false)] ?_
  obtain rfl:=Option.some.inj heq
  refine Kg [0,1,9,12,26,27,28,38] [(0,iv a0),(1,iv a1),(9,iv v_passed9),(12,iv (w64 (v28+1))),(26,.slice Aa2 a2.length ca2),(27,iv (a2.length:Int)),(28,iv v28),(38,.bool false)]<|Dn ?_
  exact K2
theorem trials_Tried.l2_c {w0:World} [GlobI 0 w0] {H:Hp} {F:List Ch} {r:Int × Int × Int} (e1:Int→Option (Int × Int × Int))
  (he1:∀ (a0:Int) ,e1 a0=some r→RunH C11 (S11 F H r) H w0 [.c [1,1,1,1,1,0],.c [1,1,1,1,1,1]] [(0,iv a0)] H (F)):∀ (k:Nat),∀ (a0:Int) (a1:Int) (a2:List Bool) (Aa2:Option Addr) (ca2:Nat) (v_passed9:Int) (v28:Int) ,Rw Kd.bool H F Aa2 a2→a2.length≤ca2→trials_Tried.l2 e1 k a0 a1 a2 v_passed9 v28=some r→RunH C11 (S11 F H r) H w0 [.c [1,1,1,1,0,1,0,0],.l [1,1,1,1,0,1,0,0],.b 0,.c [1,1,1,1,1]] [(0,iv a0),(1,iv a1),(9,iv v_passed9),(26,.slice Aa2 a2.length ca2),(27,iv (a2.length:Int)),(28,iv v28)] H (F):=by
 intro k
 induction k with
 | zero=>intro a0 a1 a2 Aa2 ca2 v_passed9 v28 hra2 hca2 heq; exact nomatch (show (none:Option (Int × Int × Int))=some r from heq)
 | succ k ihk =>
  intro a0 a1 a2 Aa2 ca2 v_passed9 v28 hra2 hca2 heq
  rw [trials_Tried.l2] at heq
  refine Ra 1 [1,1,1,1,0,1,0,0,0] [.c [1,1,1,1,0,1,0,0,1],.l [1,1,1,1,0,1,0,0],.b 0,.c [1,1,1,1,1]]<|Rd 1 [0,1,9,26,27,28,29] [(0,iv a0),(1,iv a1),(9,iv v_passed9),(26,.slice Aa2 a2.length ca2),(27,iv (a2.length:Int)),(28,iv v28),(29,.bool (decide (v28<(a2.length:Int))))]<|Ad 1 [.c [1,1,1,1,0,1,0,0,1,0],.c [1,1,1,1,0,1,0,0,1,1],.l [1,1,1,1,0,1,0,0],.b 0,.c [1,1,1,1,1]] ?_
  rcases bool_cases (decide (v28<(a2.length:Int))) with hb4 | hb4
  ·replace heq:=bif_true hb4 heq
   refine Ct (decide (v28<(a2.length:Int))) hb4<|Ra 4 [1,1,1,1,0,1,0,0,1,1,0,0,0] [.c [1,1,1,1,0,1,0,0,1,1,0,0,1],.b 1,.c [1,1,1,1,0,1,0,0,1,1,1],.l [1,1,1,1,0,1,0,0],.b 0,.c [1,1,1,1,1]] ?_
   obtain ⟨x1,hx1,heq⟩:=bind_some heq
   obtain ⟨ha1,cs1,hK1,hcc1⟩:=hra2.get hx1
   obtain rfl:cs1=[.bool x1]:=hK1
   refine Rw' 5 [0,1,9,10,11,26,27,28] [.bool x1] [.need (Aa2=some (adr Aa2)∧(0:Int)≤v28∧v28<((a2.length:Nat):Int)),.load ((adr Aa2).add (v28.toNat*1)) (.bool x1)] [(0,iv a0),(1,iv a1),(9,iv v_passed9),(10,iv v28),(11,.bool x1),(26,.slice Aa2 a2.length ca2),(27,iv (a2.length:Int)),(28,iv v28)] (fun w hh=>⟨⟨ha1,(at?_some hx1).1,(at?_some hx1).2.1⟩,(hcc1 _ _ (hh.drop 0) 0 _ rfl)⟩)<|Ra 2 [1,1,1,1,0,1,0,0,1,1,0,0,1,0,0] [.c [1,1,1,1,0,1,0,0,1,1,0,0,1,0,1],.c [1,1,1,1,0,1,0,0,1,1,0,0,1,1],.b 1,.c [1,1,1,1,0,1,0,0,1,1,1],.l [1,1,1,1,0,1,0,0],.b 0,.c [1,1,1,1,1]]<|Rd 1 [0,1,9,10,26,27,28,33] [(0,iv a0),(1,iv a1),(9,iv v_passed9),(10,iv v28),(26,.slice Aa2 a2.length ca2),(27,iv (a2.length:Int)),(28,iv v28),(33,.bool x1)] ?_
   rcases bool_cases (x1) with hb9 | hb9
   ·replace heq:=bif_true hb9 heq
    refine Ct x1 hb9<|Rr<|Rd 3 [0,1,9,10,26,27,28] [(0,iv a0),(1,iv a1),(9,iv (w64 (v_passed9+1))),(10,iv v28),(26,.slice Aa2 a2.length ca2),(27,iv (a2.length:Int)),(28,iv v28)]<|Ad 1 [.c [1,1,1,1,0,1,0,0,1,1,0,0,1,1,0],.c [1,1,1,1,0,1,0,0,1,1,0,0,1,1,1],.b 1,.c [1,1,1,1,0,1,0,0,1,1,1],.l [1,1,1,1,0,1,0,0],.b 0,.c [1,1,1,1,1]]<|Kp [0,1,9,10,26,27,28] [(0,iv a0),(1,iv a1),(9,iv (w64 (v_passed9+1))),(10,iv v28),(26,.slice Aa2 a2.length ca2),(27,iv (a2.length:Int)),(28,iv v28)] ?_
    exact (trials_Tried.j3_c (backl2:=(trials_Tried.l2 e1 k)) ihk) a0 a1 a2 _ _ v28 (w64 (v_passed9+1)) hra2 hca2 heq
   ·replace heq:=bif_false hb9 heq
    refine Cf x1 hb9<|Ad 2 [.c [1,1,1,1,0,1,0,0,1,1,0,0,1,1,0],.c [1,1,1,1,0,1,0,0,1,1,0,0,1,1,1],.b 1,.c [1,1,1,1,0,1,0,0,1,1,1],.l [1,1,1,1,0,1,0,0],.b 0,.c [1,1,1,1,1]]<|Kp [0,1,9,10,26,27,28] [(0,iv a0),(1,iv a1),(9,iv v_passed9),(10,iv v28),(26,.slice Aa2 a2.length ca2),(27,iv (a2.length:Int)),(28,iv v28)] ?_
    exact (trials_Tried.j3_c (backl2:=(trials_Tried.l2 e1 k)) ihk) a0 a1 a2 _ _ v28 v_passed9 hra2 hca2 heq
  ·replace heq:=bif_false hb4 heq
   refine Cf (decide (v28<(a2.length:Int))) hb4<|Ad 2 [.c [1,1,1,1,1,0],.c [1,1,1,1,1,1]]<|Kp [0] [(0,iv a0)] ?_
   exact he1 a0 heq
theorem trials_Tried_c {w0:World} [GlobI 0 w0] {H:Hp} {F:List Ch} {a0:Int} {a1:Int} {a2:List Bool} {Aa2:Option Addr} {na2:Nat} {ca2:Nat} {r:Int × Int × Int} (hra2:Rw Kd.bool H F Aa2 a2) (hca2:na2≤ca2) (hna2:na2=a2.length) (heq:trials_Tried.f a0 a1 a2=some r):CallsH Tryd.prog 11 #[iv a0,iv a1,.slice Aa2 na2 ca2] H w0 (F) (S11 F H r):=by
 refine calls_of_runH (F:=C11) Tryd.func11 (by kernel_rfl) Tryd.ntmps11 (args:=[iv a0,iv a1,.slice Aa2 na2 ca2]) (by kernel_rfl) ?_
 subst hna2
 unfold trials_Tried.f at heq
 refine Ra 1 [0] [.c [1]]<|Rd 3 [0,1,2] [(0,iv a0),(1,iv a1),(2,.slice Aa2 a2.length ca2)]<|Ad 2 [.c [1,0,0],.c [1,0,1],.c [1,1]] ?_
 obtain ⟨t1,ht1,heq⟩:=bind_some heq
 have K1:RunH C11 (S11 F H r) H w0 [.c [1,0,1],.c [1,1]] [(0,iv a0),(1,iv a1),(2,.slice Aa2 a2.length ca2),(21,.bool t1)] H (F):=by
  rcases bool_cases (t1) with hb2 | hb2
  ·replace heq:=bif_true hb2 heq
   refine Ct t1 hb2<|Ra 1 [1,0,1,0,0] [.c [1,0,1,0,1],.c [1,1]]<|Rd 3 [6,7,8] [(6,iv 0),(7,iv 0),(8,iv 1)] ?_
   obtain rfl:=Option.some.inj heq
   exact RunH.done (by kernel_rfl) Tryd.func11 (v:=.tuple #[iv 0,iv 0,iv 1]) (by kernel_rfl) ⟨rfl,rfl,rfl⟩
  ·replace heq:=bif_false hb2 heq
   refine Cf t1 hb2<|Ra 3 [1,1,0,0] [.c [1,1,0,1],.c [1,1,1]]<|Rd 4 [0,1,2,25] [(0,iv a0),(1,iv a1),(2,.slice Aa2 a2.length ca2),(25,.bool ((a2.length:Int) != a0))] ?_
   rcases bool_cases ((a2.length:Int) != a0) with hb3 | hb3
   ·replace heq:=bif_true hb3 heq
    refine Ct ((a2.length:Int) != a0) hb3<|Ra 1 [1,1,0,1,0,0] [.c [1,1,0,1,0,1],.c [1,1,1]]<|Rd 3 [6,7,8] [(6,iv 0),(7,iv 0),(8,iv 3)] ?_
    obtain rfl:=Option.some.inj heq
    exact RunH.done (by kernel_rfl) Tryd.func11 (v:=.tuple #[iv 0,iv 0,iv 3]) (by kernel_rfl) ⟨rfl,rfl,rfl⟩
   ·replace heq:=bif_false hb3 heq
    refine Cf ((a2.length:Int) != a0) hb3<|Ra 2 [1,1,1,0] [.c [1,1,1,1]]<|Rd 1 [0,1,2,9] [(0,iv a0),(1,iv a1),(2,.slice Aa2 a2.length ca2),(9,iv 0)]<|Ra 2 [1,1,1,1,0,0] [.c [1,1,1,1,0,1],.c [1,1,1,1,1]]<|Rd 3 [0,1,9,26,27,28] [(0,iv a0),(1,iv a1),(9,iv 0),(26,.slice Aa2 a2.length ca2),(27,iv (a2.length:Int)),(28,iv 0)]<|Ad 2 [.c [1,1,1,1,0,1,0,0],.l [1,1,1,1,0,1,0,0],.b 0,.c [1,1,1,1,1]]<|Kp [0,1,9,26,27,28] [(0,iv a0),(1,iv a1),(9,iv 0),(26,.slice Aa2 a2.length ca2),(27,iv (a2.length:Int)),(28,iv 0)] ?_
    exact ((trials_Tried.l2_c (e1:=trials_Tried.e1) (trials_Tried.e1_c)) big) a0 a1 a2 _ _ 0 0 hra2 hca2 heq
 replace heq:=ht1
 refine Rr<|Rk 1 [0,1,2,13] [(0,iv a0),(1,iv a1),(2,.slice Aa2 a2.length ca2),(13,iv a0)] ?_
 obtain ⟨y1,hy1,heq⟩:=bind_some heq
 refine RgH.does (DoesH.call (d:=14) (g:=14) (args:=#[iv a0,iv 1,iv 100]) (by kernel_rfl) (trials_within_c (a0:=a0) (a1:=1) (a2:=100)  hy1)) ?_
 rintro _ _ _ _ ⟨_,rfl,rfl,rfl,rfl⟩
 refine Rk 4 [16,0,1,2] [(16,.bool (!y1)),(0,iv a0),(1,iv a1),(2,.slice Aa2 a2.length ca2)] ?_
 rcases bool_cases (!y1) with hb1 | hb1
 ·replace heq:=bif_true hb1 heq
  refine RgH.val1 (v':=.bool true) (congrArg Value.bool hb1) ?_
  refine Rk 9 [0,1,2,21] [(0,iv a0),(1,iv a1),(2,.slice Aa2 a2.length ca2),(21,.bool true)] ?_
  obtain rfl:=Option.some.inj heq
  refine Kg [0,1,2,21] [(0,iv a0),(1,iv a1),(2,.slice Aa2 a2.length ca2),(21,.bool true)]<|Dn ?_
  exact K1
 ·replace heq:=bif_false hb1 heq
  refine RgH.val1 (v':=.bool false) (congrArg Value.bool hb1) ?_
  refine Rk 6 [0,1,2,16,17,18] [(0,iv a0),(1,iv a1),(2,.slice Aa2 a2.length ca2),(16,.bool false),(17,iv a1),(18,iv a0)] ?_
  obtain ⟨y2,hy2,heq⟩:=bind_some heq
  refine RgH.does (DoesH.call (d:=19) (g:=14) (args:=#[iv a1,iv 1,iv a0]) (by kernel_rfl) (trials_within_c (a0:=a1) (a1:=1) (a2:=a0)  hy2)) ?_
  rintro _ _ _ _ ⟨_,rfl,rfl,rfl,rfl⟩
  refine Rk 9 [0,1,2,21] [(0,iv a0),(1,iv a1),(2,.slice Aa2 a2.length ca2),(21,.bool (!y2))] ?_
  obtain rfl:=Option.some.inj heq
  refine Kg [0,1,2,21] [(0,iv a0),(1,iv a1),(2,.slice Aa2 a2.length ca2),(21,.bool (!y2))]<|Dn ?_
  exact K1
noncomputable def C5:Ctx:={ P:=Tryd.prog,f:=5,N:=20,c:=bodyOf Tryd.f5 }
def S5 (F:List Ch) (H0:Hp) (r:Bool) (v:Value) (H:Hp) (cs:List Ch):Prop:=H0=H∧v=.bool r∧F=cs
theorem smithyardlaw10_awake_c {w0:World} [GlobI 0 w0] {H:Hp} {F:List Ch} {r:Bool} (heq:smithyardlaw10_awake.f=some r):CallsH Tryd.prog 5 (List.toArray []) H w0 (F) (S5 F H r):=by
 refine calls_of_runH (F:=C5) Tryd.func5 (by kernel_rfl) Tryd.ntmps5 (args:=[]) (by kernel_rfl) ?_
 unfold smithyardlaw10_awake.f at heq
 refine Ra 1 [0] [.c [1]]<|Rd 1 [] []<|Ra 1 [1,0] [.c [1,1]] ?_
 refine RgH.does (DoesH.new (d:=5) (v:=fun g=>.slice (some ⟨g,0,none⟩) 3 3) (o:=fun g=>.cells #[.bool false,.bool true,.bool true] 4 (0,0)) (fun g=>by kernel_rfl)) ?_
 rintro _ _ _ _ ⟨g1,rfl,rfl,rfl⟩
 have ho1:SlOwn Kd.bool 4 H (some ⟨g1,0,none⟩) 3 ([false,true,true]:List Bool) (some (g1,.cells #[.bool false,.bool true,.bool true] 4 (0,0))):=SlOwn.lit (xs:=([false,true,true]:List Bool)) (by kernel_rfl) (Nat.le_of_ble_eq_true (by kernel_rfl)) (Kd.Rep.scalars rfl)
 obtain ⟨y1,hy1,heq⟩:=bind_some heq
 refine RgH.does (DoesH.call (d:=6) (g:=11) (args:=#[iv 3,iv 1,.slice (some ⟨g1,0,none⟩) 3 3]) (by kernel_rfl) (trials_Tried_c (a0:=3) (a1:=1) (a2:=([false,true,true]:List Bool)) (ho1.rw (.head _)) ho1.cap rfl hy1)) ?_
 rintro _ _ _ _ ⟨_,rfl,rfl,rfl,rfl⟩
 refine Rd 9 [1,2,3] [(1,iv y1.1),(2,iv y1.2.1),(3,iv y1.2.2)]<|Ad 1 [.c [1,1,0],.c [1,1,1]] ?_
 obtain ⟨t1,ht1,heq⟩:=bind_some heq
 have K2:RunH C5 (S5 F H r) H w0 [.c [1,1,1]] [(0,.bool t1)] H (F):=by
  obtain rfl:=Option.some.inj heq
  exact RunH.done (by kernel_rfl) Tryd.func5 (v:=.bool t1) (by kernel_rfl) ⟨rfl,rfl,rfl⟩
 replace heq:=ht1
 refine Rr<|Rk 3 [12,1,2] [(12,.bool (y1.2.2 == 0)),(1,iv y1.1),(2,iv y1.2.1)] ?_
 rcases bool_cases (y1.2.2 == 0) with hb1 | hb1
 ·replace heq:=bif_true hb1 heq
  refine RgH.val1 (v':=.bool true) (congrArg Value.bool hb1) ?_
  refine Rk 7 [16,2] [(16,.bool (y1.1 == 4)),(2,iv y1.2.1)] ?_
  rcases bool_cases (y1.1 == 4) with hb2 | hb2
  ·replace heq:=bif_true hb2 heq
   refine RgH.val1 (v':=.bool true) (congrArg Value.bool hb2) ?_
   refine Rk 11 [0] [(0,.bool (y1.2.1 == 2))] ?_
   obtain rfl:=Option.some.inj heq
   refine Kg [0] [(0,.bool (y1.2.1 == 2))] ?_
   refine RgH.pick 1 [] (cs':=F) (by kernel_rfl) rfl ?_
   refine Dn ?_
   exact K2
  ·replace heq:=bif_false hb2 heq
   refine RgH.val1 (v':=.bool false) (congrArg Value.bool hb2) ?_
   refine Rk 11 [0] [(0,.bool false)] ?_
   obtain rfl:=Option.some.inj heq
   refine Kg [0] [(0,.bool false)] ?_
   refine RgH.pick 1 [] (cs':=F) (by kernel_rfl) rfl ?_
   refine Dn ?_
   exact K2
 ·replace heq:=bif_false hb1 heq
  refine RgH.val1 (v':=.bool false) (congrArg Value.bool hb1) ?_
  refine Rk 11 [0] [(0,.bool false)] ?_
  obtain rfl:=Option.some.inj heq
  refine Kg [0] [(0,.bool false)] ?_
  refine RgH.pick 1 [] (cs':=F) (by kernel_rfl) rfl ?_
  refine Dn ?_
  exact K2
noncomputable def C3:Ctx:={ P:=Tryd.prog,f:=3,N:=79,c:=bodyOf Tryd.f3 }
def S3 (F:List Ch) (H0:Hp) (r:Bool) (v:Value) (H:Hp) (cs:List Ch):Prop:=H0=H∧v=.bool r∧F=cs
theorem smithyardlaw10_TrialsFlakyHaveDoneBoth.e1_c {w0:World} [GlobI 0 w0] {H:Hp} {F:List Ch} {r:Bool}:smithyardlaw10_TrialsFlakyHaveDoneBoth.e1=some r→RunH C3 (S3 F H r) H w0 [.c [1,1,1,1,0],.c [1,1,1,1,1]] [] H (F):=by
 intro   heq
 unfold smithyardlaw10_TrialsFlakyHaveDoneBoth.e1 at heq
 refine Rr ?_
 obtain ⟨y3,hy3,heq⟩:=bind_some heq
 refine RgH.does (DoesH.call (d:=78) (g:=5) (args:=(List.toArray [])) (by kernel_rfl) (smithyardlaw10_awake_c  hy3)) ?_
 rintro _ _ _ _ ⟨_,rfl,rfl,rfl,rfl⟩
 refine Rd 2 [2] [(2,.bool y3)] ?_
 obtain rfl:=Option.some.inj heq
 exact RunH.done (by kernel_rfl) Tryd.func3 (v:=.bool y3) (by kernel_rfl) ⟨rfl,rfl,rfl⟩
theorem smithyardlaw10_TrialsFlakyHaveDoneBoth.e3_c {w0:World} [GlobI 0 w0] {H:Hp} {F:List Ch} {r:Bool} (backl2:(List TestRun)→((List ByteArray) × Int)→Int→Option Bool)
  (hbackl2:∀ (a0:List TestRun) (Aa0:Option Addr) (ca0:Nat) (y1:(List ByteArray) × Int) (A1:Option Addr) (c1:Nat) (ch1:Ch) (v27:Int) ,Rw kTestRun H F Aa0 a0→a0.length≤ca0→SlOwn Kd.string 9 H A1 c1 y1.1 ch1→backl2 a0 y1 v27=some r→RunH C3 (S3 F H r) H w0 [.c [1,1,1,0,1,0,0],.l [1,1,1,0,1,0,0],.b 0,.c [1,1,1,1]] [(0,.slice Aa0 a0.length ca0),(25,.slice A1 y1.1.length c1),(26,iv (y1.1.length:Int)),(27,iv v27)] H (ch1::F)):∀ (a0:List TestRun) (Aa0:Option Addr) (ca0:Nat) (y1:(List ByteArray) × Int) (A1:Option Addr) (c1:Nat) (ch1:Ch) (v27:Int) (v_both7:Bool) ,Rw kTestRun H F Aa0 a0→a0.length≤ca0→SlOwn Kd.string 9 H A1 c1 y1.1 ch1→smithyardlaw10_TrialsFlakyHaveDoneBoth.e3 backl2 a0 y1 v27 v_both7=some r→RunH C3 (S3 F H r) H w0 [.c [1,1,1,0,1,0,0,1,1,0,0,1,1,1,0],.c [1,1,1,0,1,0,0,1,1,0,0,1,1,1,1],.b 1,.c [1,1,1,0,1,0,0,1,1,1],.l [1,1,1,0,1,0,0],.b 0,.c [1,1,1,1]] [(0,.slice Aa0 a0.length ca0),(7,.bool v_both7),(25,.slice A1 y1.1.length c1),(26,iv (y1.1.length:Int)),(27,iv v27)] H (ch1::F):=by
 intro a0 Aa0 ca0 y1 A1 c1 ch1 v27 v_both7 hra0 hca0 ho1 heq
 unfold smithyardlaw10_TrialsFlakyHaveDoneBoth.e3 at heq
 refine Rr<|Rd 2 [0,25,26,27,76] [(0,.slice Aa0 a0.length ca0),(25,.slice A1 y1.1.length c1),(26,iv (y1.1.length:Int)),(27,iv v27),(76,.bool (!v_both7))] ?_
 rcases bool_cases (!v_both7) with hb4 | hb4
 ·replace heq:=bif_true hb4 heq
  refine Ct (!v_both7) hb4<|Ra 1 [1,1,1,0,1,0,0,1,1,0,0,1,1,1,1,0,0] [.c [1,1,1,0,1,0,0,1,1,0,0,1,1,1,1,0,1],.b 1,.c [1,1,1,0,1,0,0,1,1,1],.l [1,1,1,0,1,0,0],.b 0,.c [1,1,1,1]]<|Rd 1 [2] [(2,.bool false)] ?_
  obtain rfl:=Option.some.inj heq
  refine RunH.pick 1 [] (cs':=F) (by kernel_rfl) rfl ?_
  exact RunH.done (by kernel_rfl) Tryd.func3 (v:=.bool false) (by kernel_rfl) ⟨rfl,rfl,rfl⟩
 ·replace heq:=bif_false hb4 heq
  refine Cf (!v_both7) hb4<|Ra 2 [1,1,1,0,1,0,0,1,1,1] [.l [1,1,1,0,1,0,0],.b 0,.c [1,1,1,1]]<|Rd 2 [0,25,26,27] [(0,.slice Aa0 a0.length ca0),(25,.slice A1 y1.1.length c1),(26,iv (y1.1.length:Int)),(27,iv (w64 (v27+1)))]<|Ad 1 [.c [1,1,1,0,1,0,0],.l [1,1,1,0,1,0,0],.b 0,.c [1,1,1,1]]<|Kp [0,25,26,27] [(0,.slice Aa0 a0.length ca0),(25,.slice A1 y1.1.length c1),(26,iv (y1.1.length:Int)),(27,iv (w64 (v27+1)))] ?_
  exact hbackl2 a0 _ _ y1 _ _ _ (w64 (v27+1)) hra0 hca0 ho1 heq
theorem smithyardlaw10_TrialsFlakyHaveDoneBoth.e5_c {w0:World} [GlobI 0 w0] {H:Hp} {F:List Ch} {r:Bool} (backl4:(List TestRun)→((List ByteArray) × Int)→Int→ByteArray→Bool→Int→Option Bool)
  (hbackl4:∀ (a0:List TestRun) (Aa0:Option Addr) (ca0:Nat) (y1:(List ByteArray) × Int) (A1:Option Addr) (c1:Nat) (ch1:Ch) (v27:Int) (x1:ByteArray) (v_both7:Bool) (v33:Int) ,Rw kTestRun H F Aa0 a0→a0.length≤ca0→SlOwn Kd.string 9 H A1 c1 y1.1 ch1→backl4 a0 y1 v27 x1 v_both7 v33=some r→RunH C3 (S3 F H r) H w0 [.c [1,1,1,0,1,0,0,1,1,0,0,1,1,0,1,0,0],.l [1,1,1,0,1,0,0,1,1,0,0,1,1,0,1,0,0],.b 2,.c [1,1,1,0,1,0,0,1,1,0,0,1,1,1],.b 1,.c [1,1,1,0,1,0,0,1,1,1],.l [1,1,1,0,1,0,0],.b 0,.c [1,1,1,1]] [(0,.slice Aa0 a0.length ca0),(6,.string x1),(7,.bool v_both7),(25,.slice A1 y1.1.length c1),(26,iv (y1.1.length:Int)),(27,iv v27),(31,.slice Aa0 a0.length ca0),(32,iv (a0.length:Int)),(33,iv v33)] H (ch1::F)):∀ (a0:List TestRun) (Aa0:Option Addr) (ca0:Nat) (y1:(List ByteArray) × Int) (A1:Option Addr) (c1:Nat) (ch1:Ch) (v27:Int) (x1:ByteArray) (v33:Int) (v_both7:Bool) ,Rw kTestRun H F Aa0 a0→a0.length≤ca0→SlOwn Kd.string 9 H A1 c1 y1.1 ch1→smithyardlaw10_TrialsFlakyHaveDoneBoth.e5 backl4 a0 y1 v27 x1 v33 v_both7=some r→RunH C3 (S3 F H r) H w0 [.c [1,1,1,0,1,0,0,1,1,0,0,1,1,0,1,0,0,1,1,1],.l [1,1,1,0,1,0,0,1,1,0,0,1,1,0,1,0,0],.b 2,.c [1,1,1,0,1,0,0,1,1,0,0,1,1,1],.b 1,.c [1,1,1,0,1,0,0,1,1,1],.l [1,1,1,0,1,0,0],.b 0,.c [1,1,1,1]] [(0,.slice Aa0 a0.length ca0),(6,.string x1),(7,.bool v_both7),(25,.slice A1 y1.1.length c1),(26,iv (y1.1.length:Int)),(27,iv v27),(31,.slice Aa0 a0.length ca0),(32,iv (a0.length:Int)),(33,iv v33)] H (ch1::F):=by
 intro a0 Aa0 ca0 y1 A1 c1 ch1 v27 x1 v33 v_both7 hra0 hca0 ho1 heq
 unfold smithyardlaw10_TrialsFlakyHaveDoneBoth.e5 at heq
 refine Rr<|Rd 2 [0,6,7,25,26,27,31,32,33] [(0,.slice Aa0 a0.length ca0),(6,.string x1),(7,.bool v_both7),(25,.slice A1 y1.1.length c1),(26,iv (y1.1.length:Int)),(27,iv v27),(31,.slice Aa0 a0.length ca0),(32,iv (a0.length:Int)),(33,iv (w64 (v33+1)))]<|Ad 1 [.c [1,1,1,0,1,0,0,1,1,0,0,1,1,0,1,0,0],.l [1,1,1,0,1,0,0,1,1,0,0,1,1,0,1,0,0],.b 2,.c [1,1,1,0,1,0,0,1,1,0,0,1,1,1],.b 1,.c [1,1,1,0,1,0,0,1,1,1],.l [1,1,1,0,1,0,0],.b 0,.c [1,1,1,1]]<|Kp [0,6,7,25,26,27,31,32,33] [(0,.slice Aa0 a0.length ca0),(6,.string x1),(7,.bool v_both7),(25,.slice A1 y1.1.length c1),(26,iv (y1.1.length:Int)),(27,iv v27),(31,.slice Aa0 a0.length ca0),(32,iv (a0.length:Int)),(33,iv (w64 (v33+1)))] ?_
 exact hbackl4 a0 _ _ y1 _ _ _ v27 x1 v_both7 (w64 (v33+1)) hra0 hca0 ho1 heq
theorem smithyardlaw10_TrialsFlakyHaveDoneBoth.l6_c {w0:World} [GlobI 0 w0] {H:Hp} {F:List Ch} {r:Bool} (e5:(List TestRun)→((List ByteArray) × Int)→Int→ByteArray→Int→Bool→Option Bool)
  (he5:∀ (a0:List TestRun) (Aa0:Option Addr) (ca0:Nat) (y1:(List ByteArray) × Int) (A1:Option Addr) (c1:Nat) (ch1:Ch) (v27:Int) (x1:ByteArray) (v33:Int) (v_both7:Bool) ,Rw kTestRun H F Aa0 a0→a0.length≤ca0→SlOwn Kd.string 9 H A1 c1 y1.1 ch1→e5 a0 y1 v27 x1 v33 v_both7=some r→RunH C3 (S3 F H r) H w0 [.c [1,1,1,0,1,0,0,1,1,0,0,1,1,0,1,0,0,1,1,1],.l [1,1,1,0,1,0,0,1,1,0,0,1,1,0,1,0,0],.b 2,.c [1,1,1,0,1,0,0,1,1,0,0,1,1,1],.b 1,.c [1,1,1,0,1,0,0,1,1,1],.l [1,1,1,0,1,0,0],.b 0,.c [1,1,1,1]] [(0,.slice Aa0 a0.length ca0),(6,.string x1),(7,.bool v_both7),(25,.slice A1 y1.1.length c1),(26,iv (y1.1.length:Int)),(27,iv v27),(31,.slice Aa0 a0.length ca0),(32,iv (a0.length:Int)),(33,iv v33)] H (ch1::F)):∀ (k:Nat),∀ (a0:List TestRun) (Aa0:Option Addr) (ca0:Nat) (y1:(List ByteArray) × Int) (A1:Option Addr) (c1:Nat) (ch1:Ch) (v27:Int) (x1:ByteArray) (v33:Int) (x2:TestRun) (g1:Nat) (v_both7:Bool) (v42:Int) ,Rw kTestRun H F Aa0 a0→a0.length≤ca0→SlOwn Kd.string 9 H A1 c1 y1.1 ch1→v33.toNat=(a0.take v33.toNat).length→Rw kTestRun H F Aa0 (a0.take v33.toNat)→v33.toNat≤ca0→smithyardlaw10_TrialsFlakyHaveDoneBoth.l6 e5 k a0 y1 v27 x1 v33 x2 v_both7 v42=some r→RunH C3 (S3 F H r) H w0 [.c [1,1,1,0,1,0,0,1,1,0,0,1,1,0,1,0,0,1,1,0,0,1,1,0,0],.l [1,1,1,0,1,0,0,1,1,0,0,1,1,0,1,0,0,1,1,0,0,1,1,0,0],.b 4,.b 3,.c [1,1,1,0,1,0,0,1,1,0,0,1,1,0,1,0,0,1,1,1],.l [1,1,1,0,1,0,0,1,1,0,0,1,1,0,1,0,0],.b 2,.c [1,1,1,0,1,0,0,1,1,0,0,1,1,1],.b 1,.c [1,1,1,0,1,0,0,1,1,1],.l [1,1,1,0,1,0,0],.b 0,.c [1,1,1,1]] [(0,.slice Aa0 a0.length ca0),(6,.string x1),(7,.bool v_both7),(9,pg g1 0),(25,.slice A1 y1.1.length c1),(26,iv (y1.1.length:Int)),(27,iv v27),(31,.slice Aa0 a0.length ca0),(32,iv (a0.length:Int)),(33,iv v33),(40,.slice Aa0 v33.toNat ca0),(41,iv (v33.toNat:Int)),(42,iv v42)] H ((some (g1,.cells #[.string x2.Test,.string x2.Key,iv x2.At,.bool x2.Pass,iv x2.Seconds] 29 (0,0)))::ch1::F):=by
 intro k
 induction k with
 | zero=>intro a0 Aa0 ca0 y1 A1 c1 ch1 v27 x1 v33 x2 g1 v_both7 v42 hra0 hca0 ho1 hn1 hr1 hc1 heq; exact nomatch (show (none:Option Bool)=some r from heq)
 | succ k ihk =>
  intro a0 Aa0 ca0 y1 A1 c1 ch1 v27 x1 v33 x2 g1 v_both7 v42 hra0 hca0 ho1 hn1 hr1 hc1 heq
  rw [smithyardlaw10_TrialsFlakyHaveDoneBoth.l6] at heq
  refine Ra 1 [1,1,1,0,1,0,0,1,1,0,0,1,1,0,1,0,0,1,1,0,0,1,1,0,0,0] [.c [1,1,1,0,1,0,0,1,1,0,0,1,1,0,1,0,0,1,1,0,0,1,1,0,0,1],.l [1,1,1,0,1,0,0,1,1,0,0,1,1,0,1,0,0,1,1,0,0,1,1,0,0],.b 4,.b 3,.c [1,1,1,0,1,0,0,1,1,0,0,1,1,0,1,0,0,1,1,1],.l [1,1,1,0,1,0,0,1,1,0,0,1,1,0,1,0,0],.b 2,.c [1,1,1,0,1,0,0,1,1,0,0,1,1,1],.b 1,.c [1,1,1,0,1,0,0,1,1,1],.l [1,1,1,0,1,0,0],.b 0,.c [1,1,1,1]]<|Rd 1 [0,6,7,9,25,26,27,31,32,33,40,41,42,43] [(0,.slice Aa0 a0.length ca0),(6,.string x1),(7,.bool v_both7),(9,pg g1 0),(25,.slice A1 y1.1.length c1),(26,iv (y1.1.length:Int)),(27,iv v27),(31,.slice Aa0 a0.length ca0),(32,iv (a0.length:Int)),(33,iv v33),(40,.slice Aa0 v33.toNat ca0),(41,iv (v33.toNat:Int)),(42,iv v42),(43,.bool (decide (v42<(v33.toNat:Int))))]<|Ad 1 [.c [1,1,1,0,1,0,0,1,1,0,0,1,1,0,1,0,0,1,1,0,0,1,1,0,0,1,0],.c [1,1,1,0,1,0,0,1,1,0,0,1,1,0,1,0,0,1,1,0,0,1,1,0,0,1,1],.l [1,1,1,0,1,0,0,1,1,0,0,1,1,0,1,0,0,1,1,0,0,1,1,0,0],.b 4,.b 3,.c [1,1,1,0,1,0,0,1,1,0,0,1,1,0,1,0,0,1,1,1],.l [1,1,1,0,1,0,0,1,1,0,0,1,1,0,1,0,0],.b 2,.c [1,1,1,0,1,0,0,1,1,0,0,1,1,1],.b 1,.c [1,1,1,0,1,0,0,1,1,1],.l [1,1,1,0,1,0,0],.b 0,.c [1,1,1,1]] ?_
  rcases bool_cases (decide (v42<(v33.toNat:Int))) with hb6 | hb6
  ·replace heq:=bif_true hb6 heq
   refine Ct (decide (v42<(v33.toNat:Int))) hb6<|Ra 4 [1,1,1,0,1,0,0,1,1,0,0,1,1,0,1,0,0,1,1,0,0,1,1,0,0,1,1,0,0,0] [.c [1,1,1,0,1,0,0,1,1,0,0,1,1,0,1,0,0,1,1,0,0,1,1,0,0,1,1,0,0,1],.b 5,.c [1,1,1,0,1,0,0,1,1,0,0,1,1,0,1,0,0,1,1,0,0,1,1,0,0,1,1,1],.l [1,1,1,0,1,0,0,1,1,0,0,1,1,0,1,0,0,1,1,0,0,1,1,0,0],.b 4,.b 3,.c [1,1,1,0,1,0,0,1,1,0,0,1,1,0,1,0,0,1,1,1],.l [1,1,1,0,1,0,0,1,1,0,0,1,1,0,1,0,0],.b 2,.c [1,1,1,0,1,0,0,1,1,0,0,1,1,1],.b 1,.c [1,1,1,0,1,0,0,1,1,1],.l [1,1,1,0,1,0,0],.b 0,.c [1,1,1,1]] ?_
   obtain ⟨x3,hx3,heq⟩:=bind_some heq
   obtain ⟨ha3,cs3,hK3,hcc3⟩:=hr1.get hx3
   obtain ⟨rfl⟩:=kTestRun_open hK3
   refine Rv 2 [0,6,7,9,25,26,27,31,32,33,40,41,42,45] [.string x3.Test,.string x3.Key,iv x3.At,.bool x3.Pass,iv x3.Seconds] [.need (Aa0=some (adr Aa0)∧(0:Int)≤v42∧v42<((v33.toNat:Nat):Int)),.load (((adr Aa0).add (v42.toNat*5)).add 0) (.string x3.Test),.load (((adr Aa0).add (v42.toNat*5)).add 1) (.string x3.Key),.load (((adr Aa0).add (v42.toNat*5)).add 2) (iv x3.At),.load (((adr Aa0).add (v42.toNat*5)).add 3) (.bool x3.Pass),.load (((adr Aa0).add (v42.toNat*5)).add 4) (iv x3.Seconds)] [(0,.slice Aa0 a0.length ca0),(6,.string x1),(7,.bool v_both7),(9,pg g1 0),(25,.slice A1 y1.1.length c1),(26,iv (y1.1.length:Int)),(27,iv v27),(31,.slice Aa0 a0.length ca0),(32,iv (a0.length:Int)),(33,iv v33),(40,.slice Aa0 v33.toNat ca0),(41,iv (v33.toNat:Int)),(42,iv v42),(45,.agg #[.string x3.Test,.string x3.Key,iv x3.At,.bool x3.Pass,iv x3.Seconds])] (fun w hh=>⟨⟨ha3,(at?_some hx3).1,(by have:=(at?_some hx3).2.1; have:=hn1; omega)⟩,(hcc3 _ _ (hh.drop 2) 0 _ rfl),(hcc3 _ _ (hh.drop 2) 1 _ rfl),(hcc3 _ _ (hh.drop 2) 2 _ rfl),(hcc3 _ _ (hh.drop 2) 3 _ rfl),(hcc3 _ _ (hh.drop 2) 4 _ rfl)⟩) ?_
   refine RgH.does (DoesH.new (d:=11) (v:=fun g=>.pointer (some ⟨g,0,none⟩)) (o:=fun g=>.cells #[.string ByteArray.empty,.string ByteArray.empty,iv 0,.bool false,iv 0] 29 (0,0)) (fun g=>by kernel_rfl)) ?_
   rintro _ _ _ _ ⟨g2,rfl,rfl,rfl⟩
   refine RgH.does (DoesH.store (k:=0) (g:=g2) (off:=0) (v:=.agg #[.string x3.Test,.string x3.Key,iv x3.At,.bool x3.Pass,iv x3.Seconds]) (cells':=#[.string x3.Test,.string x3.Key,iv x3.At,.bool x3.Pass,iv x3.Seconds]) (by kernel_rfl) rfl (by kernel_rfl) (by kernel_rfl)) ?_
   rintro _ _ _ _ ⟨rfl,rfl,rfl⟩
   refine Dn ?_
   obtain ⟨t2,ht2,heq⟩:=bind_some heq
   have K5:RunH C3 (S3 F H r) H w0 [.b 5,.c [1,1,1,0,1,0,0,1,1,0,0,1,1,0,1,0,0,1,1,0,0,1,1,0,0,1,1,1],.l [1,1,1,0,1,0,0,1,1,0,0,1,1,0,1,0,0,1,1,0,0,1,1,0,0],.b 4,.b 3,.c [1,1,1,0,1,0,0,1,1,0,0,1,1,0,1,0,0,1,1,1],.l [1,1,1,0,1,0,0,1,1,0,0,1,1,0,1,0,0],.b 2,.c [1,1,1,0,1,0,0,1,1,0,0,1,1,1],.b 1,.c [1,1,1,0,1,0,0,1,1,1],.l [1,1,1,0,1,0,0],.b 0,.c [1,1,1,1]] [(0,.slice Aa0 a0.length ca0),(6,.string x1),(7,.bool t2),(9,pg g1 0),(25,.slice A1 y1.1.length c1),(26,iv (y1.1.length:Int)),(27,iv v27),(31,.slice Aa0 a0.length ca0),(32,iv (a0.length:Int)),(33,iv v33),(40,.slice Aa0 v33.toNat ca0),(41,iv (v33.toNat:Int)),(42,iv v42)] H ((some (g1,.cells #[.string x2.Test,.string x2.Key,iv x2.At,.bool x2.Pass,iv x2.Seconds] 29 (0,0)))::ch1::F):=by
    refine Ra 1 [1,1,1,0,1,0,0,1,1,0,0,1,1,0,1,0,0,1,1,0,0,1,1,0,0,1,1,1] [.l [1,1,1,0,1,0,0,1,1,0,0,1,1,0,1,0,0,1,1,0,0,1,1,0,0],.b 4,.b 3,.c [1,1,1,0,1,0,0,1,1,0,0,1,1,0,1,0,0,1,1,1],.l [1,1,1,0,1,0,0,1,1,0,0,1,1,0,1,0,0],.b 2,.c [1,1,1,0,1,0,0,1,1,0,0,1,1,1],.b 1,.c [1,1,1,0,1,0,0,1,1,1],.l [1,1,1,0,1,0,0],.b 0,.c [1,1,1,1]]<|Rd 2 [0,6,7,9,25,26,27,31,32,33,40,41,42] [(0,.slice Aa0 a0.length ca0),(6,.string x1),(7,.bool t2),(9,pg g1 0),(25,.slice A1 y1.1.length c1),(26,iv (y1.1.length:Int)),(27,iv v27),(31,.slice Aa0 a0.length ca0),(32,iv (a0.length:Int)),(33,iv v33),(40,.slice Aa0 v33.toNat ca0),(41,iv (v33.toNat:Int)),(42,iv (w64 (v42+1)))]<|Ad 1 [.c [1,1,1,0,1,0,0,1,1,0,0,1,1,0,1,0,0,1,1,0,0,1,1,0,0],.l [1,1,1,0,1,0,0,1,1,0,0,1,1,0,1,0,0,1,1,0,0,1,1,0,0],.b 4,.b 3,.c [1,1,1,0,1,0,0,1,1,0,0,1,1,0,1,0,0,1,1,1],.l [1,1,1,0,1,0,0,1,1,0,0,1,1,0,1,0,0],.b 2,.c [1,1,1,0,1,0,0,1,1,0,0,1,1,1],.b 1,.c [1,1,1,0,1,0,0,1,1,1],.l [1,1,1,0,1,0,0],.b 0,.c [1,1,1,1]]<|Kp [0,6,7,9,25,26,27,31,32,33,40,41,42] [(0,.slice Aa0 a0.length ca0),(6,.string x1),(7,.bool t2),(9,pg g1 0),(25,.slice A1 y1.1.length c1),(26,iv (y1.1.length:Int)),(27,iv v27),(31,.slice Aa0 a0.length ca0),(32,iv (a0.length:Int)),(33,iv v33),(40,.slice Aa0 v33.toNat ca0),(41,iv (v33.toNat:Int)),(42,iv (w64 (v42+1)))] ?_
    exact ihk a0 _ _ y1 _ _ _ v27 x1 v33 x2 _ t2 (w64 (v42+1)) hra0 hca0 ho1 hn1 hr1 hc1 heq
   replace heq:=ht2
   refine Rr<|Rk 2 [47,0,6,9,11,25,26,27,31,32,33,40,41,42] [(47,.bool v_both7),(0,.slice Aa0 a0.length ca0),(6,.string x1),(9,pg g1 0),(11,pg g2 0),(25,.slice A1 y1.1.length c1),(26,iv (y1.1.length:Int)),(27,iv v27),(31,.slice Aa0 a0.length ca0),(32,iv (a0.length:Int)),(33,iv v33),(40,.slice Aa0 v33.toNat ca0),(41,iv (v33.toNat:Int)),(42,iv v42)] ?_
   rcases bool_cases (v_both7) with hb7 | hb7
   ·replace heq:=bif_true hb7 heq
    refine RgH.val1 (v':=.bool true) (congrArg Value.bool hb7) ?_
    refine Rk 28 [0,6,7,9,25,26,27,31,32,33,40,41,42] [(0,.slice Aa0 a0.length ca0),(6,.string x1),(7,.bool true),(9,pg g1 0),(25,.slice A1 y1.1.length c1),(26,iv (y1.1.length:Int)),(27,iv v27),(31,.slice Aa0 a0.length ca0),(32,iv (a0.length:Int)),(33,iv v33),(40,.slice Aa0 v33.toNat ca0),(41,iv (v33.toNat:Int)),(42,iv v42)] ?_
    obtain rfl:=Option.some.inj heq
    refine Kg [0,6,7,9,25,26,27,31,32,33,40,41,42] [(0,.slice Aa0 a0.length ca0),(6,.string x1),(7,.bool true),(9,pg g1 0),(25,.slice A1 y1.1.length c1),(26,iv (y1.1.length:Int)),(27,iv v27),(31,.slice Aa0 a0.length ca0),(32,iv (a0.length:Int)),(33,iv v33),(40,.slice Aa0 v33.toNat ca0),(41,iv (v33.toNat:Int)),(42,iv v42)] ?_
    refine RgH.pick 3 [1,2] (cs':=(some (g1,.cells #[.string x2.Test,.string x2.Key,iv x2.At,.bool x2.Pass,iv x2.Seconds] 29 (0,0)))::ch1::F) (by kernel_rfl) rfl ?_
    refine Dn ?_
    exact K5
   ·replace heq:=bif_false hb7 heq
    refine RgH.val1 (v':=.bool false) (congrArg Value.bool hb7) ?_
    refine Rv 7 [52,0,6,9,11,25,26,27,31,32,33,40,41,42,47] [.string x2.Test] [.load ⟨g1,0,none⟩ (.string x2.Test)] [(52,.bool (sEq x2.Test x1)),(0,.slice Aa0 a0.length ca0),(6,.string x1),(9,pg g1 0),(11,pg g2 0),(25,.slice A1 y1.1.length c1),(26,iv (y1.1.length:Int)),(27,iv v27),(31,.slice Aa0 a0.length ca0),(32,iv (a0.length:Int)),(33,iv v33),(40,.slice Aa0 v33.toNat ca0),(41,iv (v33.toNat:Int)),(42,iv v42),(47,.bool false)] (fun w hh=>(hh.box 1 rfl rfl)) ?_
    rcases bool_cases (sEq x2.Test x1) with hb8 | hb8
    ·replace heq:=bif_true hb8 heq
     refine RgH.val1 (v':=.bool true) (congrArg Value.bool hb8) ?_
     refine Rv 13 [58,0,6,9,11,25,26,27,31,32,33,40,41,42,47] [.string x3.Test] [.load ⟨g2,0,none⟩ (.string x3.Test)] [(58,.bool (sEq x3.Test x1)),(0,.slice Aa0 a0.length ca0),(6,.string x1),(9,pg g1 0),(11,pg g2 0),(25,.slice A1 y1.1.length c1),(26,iv (y1.1.length:Int)),(27,iv v27),(31,.slice Aa0 a0.length ca0),(32,iv (a0.length:Int)),(33,iv v33),(40,.slice Aa0 v33.toNat ca0),(41,iv (v33.toNat:Int)),(42,iv v42),(47,.bool false)] (fun w hh=>(hh.box 0 rfl rfl)) ?_
     rcases bool_cases (sEq x3.Test x1) with hb9 | hb9
     ·replace heq:=bif_true hb9 heq
      refine RgH.val1 (v':=.bool true) (congrArg Value.bool hb9) ?_
      refine Rv 20 [65,0,6,9,11,25,26,27,31,32,33,40,41,42,47] [.string x2.Key,.string x3.Key] [.load ⟨g1,1,none⟩ (.string x2.Key),.load ⟨g2,1,none⟩ (.string x3.Key)] [(65,.bool (sEq x2.Key x3.Key)),(0,.slice Aa0 a0.length ca0),(6,.string x1),(9,pg g1 0),(11,pg g2 0),(25,.slice A1 y1.1.length c1),(26,iv (y1.1.length:Int)),(27,iv v27),(31,.slice Aa0 a0.length ca0),(32,iv (a0.length:Int)),(33,iv v33),(40,.slice Aa0 v33.toNat ca0),(41,iv (v33.toNat:Int)),(42,iv v42),(47,.bool false)] (fun w hh=>⟨(hh.box 1 rfl rfl),(hh.box 0 rfl rfl)⟩) ?_
      rcases bool_cases (sEq x2.Key x3.Key) with hb10 | hb10
      ·replace heq:=bif_true hb10 heq
       refine RgH.val1 (v':=.bool true) (congrArg Value.bool hb10) ?_
       refine Rv 28 [0,6,7,9,25,26,27,31,32,33,40,41,42] [.bool x2.Pass,.bool x3.Pass] [.load ⟨g1,3,none⟩ (.bool x2.Pass),.load ⟨g2,3,none⟩ (.bool x3.Pass)] [(0,.slice Aa0 a0.length ca0),(6,.string x1),(7,.bool (!(x2.Pass == x3.Pass))),(9,pg g1 0),(25,.slice A1 y1.1.length c1),(26,iv (y1.1.length:Int)),(27,iv v27),(31,.slice Aa0 a0.length ca0),(32,iv (a0.length:Int)),(33,iv v33),(40,.slice Aa0 v33.toNat ca0),(41,iv (v33.toNat:Int)),(42,iv v42)] (fun w hh=>⟨(hh.box 1 rfl rfl),(hh.box 0 rfl rfl)⟩) ?_
       obtain rfl:=Option.some.inj heq
       refine Kg [0,6,7,9,25,26,27,31,32,33,40,41,42] [(0,.slice Aa0 a0.length ca0),(6,.string x1),(7,.bool (!(x2.Pass == x3.Pass))),(9,pg g1 0),(25,.slice A1 y1.1.length c1),(26,iv (y1.1.length:Int)),(27,iv v27),(31,.slice Aa0 a0.length ca0),(32,iv (a0.length:Int)),(33,iv v33),(40,.slice Aa0 v33.toNat ca0),(41,iv (v33.toNat:Int)),(42,iv v42)] ?_
       refine RgH.pick 3 [1,2] (cs':=(some (g1,.cells #[.string x2.Test,.string x2.Key,iv x2.At,.bool x2.Pass,iv x2.Seconds] 29 (0,0)))::ch1::F) (by kernel_rfl) rfl ?_
       refine Dn ?_
       exact K5
      ·replace heq:=bif_false hb10 heq
       refine RgH.val1 (v':=.bool false) (congrArg Value.bool hb10) ?_
       refine Rk 28 [0,6,7,9,25,26,27,31,32,33,40,41,42] [(0,.slice Aa0 a0.length ca0),(6,.string x1),(7,.bool false),(9,pg g1 0),(25,.slice A1 y1.1.length c1),(26,iv (y1.1.length:Int)),(27,iv v27),(31,.slice Aa0 a0.length ca0),(32,iv (a0.length:Int)),(33,iv v33),(40,.slice Aa0 v33.toNat ca0),(41,iv (v33.toNat:Int)),(42,iv v42)] ?_
       obtain rfl:=Option.some.inj heq
       refine Kg [0,6,7,9,25,26,27,31,32,33,40,41,42] [(0,.slice Aa0 a0.length ca0),(6,.string x1),(7,.bool false),(9,pg g1 0),(25,.slice A1 y1.1.length c1),(26,iv (y1.1.length:Int)),(27,iv v27),(31,.slice Aa0 a0.length ca0),(32,iv (a0.length:Int)),(33,iv v33),(40,.slice Aa0 v33.toNat ca0),(41,iv (v33.toNat:Int)),(42,iv v42)] ?_
       refine RgH.pick 3 [1,2] (cs':=(some (g1,.cells #[.string x2.Test,.string x2.Key,iv x2.At,.bool x2.Pass,iv x2.Seconds] 29 (0,0)))::ch1::F) (by kernel_rfl) rfl ?_
       refine Dn ?_
       exact K5
     ·replace heq:=bif_false hb9 heq
      refine RgH.val1 (v':=.bool false) (congrArg Value.bool hb9) ?_
      refine Rk 28 [0,6,7,9,25,26,27,31,32,33,40,41,42] [(0,.slice Aa0 a0.length ca0),(6,.string x1),(7,.bool false),(9,pg g1 0),(25,.slice A1 y1.1.length c1),(26,iv (y1.1.length:Int)),(27,iv v27),(31,.slice Aa0 a0.length ca0),(32,iv (a0.length:Int)),(33,iv v33),(40,.slice Aa0 v33.toNat ca0),(41,iv (v33.toNat:Int)),(42,iv v42)] ?_
      obtain rfl:=Option.some.inj heq
      refine Kg [0,6,7,9,25,26,27,31,32,33,40,41,42] [(0,.slice Aa0 a0.length ca0),(6,.string x1),(7,.bool false),(9,pg g1 0),(25,.slice A1 y1.1.length c1),(26,iv (y1.1.length:Int)),(27,iv v27),(31,.slice Aa0 a0.length ca0),(32,iv (a0.length:Int)),(33,iv v33),(40,.slice Aa0 v33.toNat ca0),(41,iv (v33.toNat:Int)),(42,iv v42)] ?_
      refine RgH.pick 3 [1,2] (cs':=(some (g1,.cells #[.string x2.Test,.string x2.Key,iv x2.At,.bool x2.Pass,iv x2.Seconds] 29 (0,0)))::ch1::F) (by kernel_rfl) rfl ?_
      refine Dn ?_
      exact K5
    ·replace heq:=bif_false hb8 heq
     refine RgH.val1 (v':=.bool false) (congrArg Value.bool hb8) ?_
     refine Rk 28 [0,6,7,9,25,26,27,31,32,33,40,41,42] [(0,.slice Aa0 a0.length ca0),(6,.string x1),(7,.bool false),(9,pg g1 0),(25,.slice A1 y1.1.length c1),(26,iv (y1.1.length:Int)),(27,iv v27),(31,.slice Aa0 a0.length ca0),(32,iv (a0.length:Int)),(33,iv v33),(40,.slice Aa0 v33.toNat ca0),(41,iv (v33.toNat:Int)),(42,iv v42)] ?_
     obtain rfl:=Option.some.inj heq
     refine Kg [0,6,7,9,25,26,27,31,32,33,40,41,42] [(0,.slice Aa0 a0.length ca0),(6,.string x1),(7,.bool false),(9,pg g1 0),(25,.slice A1 y1.1.length c1),(26,iv (y1.1.length:Int)),(27,iv v27),(31,.slice Aa0 a0.length ca0),(32,iv (a0.length:Int)),(33,iv v33),(40,.slice Aa0 v33.toNat ca0),(41,iv (v33.toNat:Int)),(42,iv v42)] ?_
     refine RgH.pick 3 [1,2] (cs':=(some (g1,.cells #[.string x2.Test,.string x2.Key,iv x2.At,.bool x2.Pass,iv x2.Seconds] 29 (0,0)))::ch1::F) (by kernel_rfl) rfl ?_
     refine Dn ?_
     exact K5
  ·replace heq:=bif_false hb6 heq
   refine Cf (decide (v42<(v33.toNat:Int))) hb6<|Ad 2 [.c [1,1,1,0,1,0,0,1,1,0,0,1,1,0,1,0,0,1,1,1],.l [1,1,1,0,1,0,0,1,1,0,0,1,1,0,1,0,0],.b 2,.c [1,1,1,0,1,0,0,1,1,0,0,1,1,1],.b 1,.c [1,1,1,0,1,0,0,1,1,1],.l [1,1,1,0,1,0,0],.b 0,.c [1,1,1,1]]<|Kp [0,6,7,25,26,27,31,32,33] [(0,.slice Aa0 a0.length ca0),(6,.string x1),(7,.bool v_both7),(25,.slice A1 y1.1.length c1),(26,iv (y1.1.length:Int)),(27,iv v27),(31,.slice Aa0 a0.length ca0),(32,iv (a0.length:Int)),(33,iv v33)] ?_
   refine RunH.pick 2 [1] (cs':=ch1::F) (by kernel_rfl) rfl ?_
   exact he5 a0 _ _ y1 _ _ _ v27 x1 v33 v_both7 hra0 hca0 ho1 heq
theorem smithyardlaw10_TrialsFlakyHaveDoneBoth.l4_c {w0:World} [GlobI 0 w0] {H:Hp} {F:List Ch} {r:Bool} (e3:(List TestRun)→((List ByteArray) × Int)→Int→Bool→Option Bool)
  (he3:∀ (a0:List TestRun) (Aa0:Option Addr) (ca0:Nat) (y1:(List ByteArray) × Int) (A1:Option Addr) (c1:Nat) (ch1:Ch) (v27:Int) (v_both7:Bool) ,Rw kTestRun H F Aa0 a0→a0.length≤ca0→SlOwn Kd.string 9 H A1 c1 y1.1 ch1→e3 a0 y1 v27 v_both7=some r→RunH C3 (S3 F H r) H w0 [.c [1,1,1,0,1,0,0,1,1,0,0,1,1,1,0],.c [1,1,1,0,1,0,0,1,1,0,0,1,1,1,1],.b 1,.c [1,1,1,0,1,0,0,1,1,1],.l [1,1,1,0,1,0,0],.b 0,.c [1,1,1,1]] [(0,.slice Aa0 a0.length ca0),(7,.bool v_both7),(25,.slice A1 y1.1.length c1),(26,iv (y1.1.length:Int)),(27,iv v27)] H (ch1::F)):∀ (k:Nat),∀ (a0:List TestRun) (Aa0:Option Addr) (ca0:Nat) (y1:(List ByteArray) × Int) (A1:Option Addr) (c1:Nat) (ch1:Ch) (v27:Int) (x1:ByteArray) (v_both7:Bool) (v33:Int) ,Rw kTestRun H F Aa0 a0→a0.length≤ca0→SlOwn Kd.string 9 H A1 c1 y1.1 ch1→smithyardlaw10_TrialsFlakyHaveDoneBoth.l4 e3 k a0 y1 v27 x1 v_both7 v33=some r→RunH C3 (S3 F H r) H w0 [.c [1,1,1,0,1,0,0,1,1,0,0,1,1,0,1,0,0],.l [1,1,1,0,1,0,0,1,1,0,0,1,1,0,1,0,0],.b 2,.c [1,1,1,0,1,0,0,1,1,0,0,1,1,1],.b 1,.c [1,1,1,0,1,0,0,1,1,1],.l [1,1,1,0,1,0,0],.b 0,.c [1,1,1,1]] [(0,.slice Aa0 a0.length ca0),(6,.string x1),(7,.bool v_both7),(25,.slice A1 y1.1.length c1),(26,iv (y1.1.length:Int)),(27,iv v27),(31,.slice Aa0 a0.length ca0),(32,iv (a0.length:Int)),(33,iv v33)] H (ch1::F):=by
 intro k
 induction k with
 | zero=>intro a0 Aa0 ca0 y1 A1 c1 ch1 v27 x1 v_both7 v33 hra0 hca0 ho1 heq; exact nomatch (show (none:Option Bool)=some r from heq)
 | succ k ihk =>
  intro a0 Aa0 ca0 y1 A1 c1 ch1 v27 x1 v_both7 v33 hra0 hca0 ho1 heq
  rw [smithyardlaw10_TrialsFlakyHaveDoneBoth.l4] at heq
  refine Ra 1 [1,1,1,0,1,0,0,1,1,0,0,1,1,0,1,0,0,0] [.c [1,1,1,0,1,0,0,1,1,0,0,1,1,0,1,0,0,1],.l [1,1,1,0,1,0,0,1,1,0,0,1,1,0,1,0,0],.b 2,.c [1,1,1,0,1,0,0,1,1,0,0,1,1,1],.b 1,.c [1,1,1,0,1,0,0,1,1,1],.l [1,1,1,0,1,0,0],.b 0,.c [1,1,1,1]]<|Rd 1 [0,6,7,25,26,27,31,32,33,34] [(0,.slice Aa0 a0.length ca0),(6,.string x1),(7,.bool v_both7),(25,.slice A1 y1.1.length c1),(26,iv (y1.1.length:Int)),(27,iv v27),(31,.slice Aa0 a0.length ca0),(32,iv (a0.length:Int)),(33,iv v33),(34,.bool (decide (v33<(a0.length:Int))))]<|Ad 1 [.c [1,1,1,0,1,0,0,1,1,0,0,1,1,0,1,0,0,1,0],.c [1,1,1,0,1,0,0,1,1,0,0,1,1,0,1,0,0,1,1],.l [1,1,1,0,1,0,0,1,1,0,0,1,1,0,1,0,0],.b 2,.c [1,1,1,0,1,0,0,1,1,0,0,1,1,1],.b 1,.c [1,1,1,0,1,0,0,1,1,1],.l [1,1,1,0,1,0,0],.b 0,.c [1,1,1,1]] ?_
  rcases bool_cases (decide (v33<(a0.length:Int))) with hb5 | hb5
  ·replace heq:=bif_true hb5 heq
   refine Ct (decide (v33<(a0.length:Int))) hb5<|Ra 4 [1,1,1,0,1,0,0,1,1,0,0,1,1,0,1,0,0,1,1,0,0,0] [.c [1,1,1,0,1,0,0,1,1,0,0,1,1,0,1,0,0,1,1,0,0,1],.b 3,.c [1,1,1,0,1,0,0,1,1,0,0,1,1,0,1,0,0,1,1,1],.l [1,1,1,0,1,0,0,1,1,0,0,1,1,0,1,0,0],.b 2,.c [1,1,1,0,1,0,0,1,1,0,0,1,1,1],.b 1,.c [1,1,1,0,1,0,0,1,1,1],.l [1,1,1,0,1,0,0],.b 0,.c [1,1,1,1]] ?_
   obtain ⟨x2,hx2,heq⟩:=bind_some heq
   obtain ⟨ha2,cs2,hK2,hcc2⟩:=hra0.get hx2
   obtain ⟨rfl⟩:=kTestRun_open hK2
   refine Rv 3 [0,6,7,25,26,27,31,32,33,35,37] [.string x2.Test,.string x2.Key,iv x2.At,.bool x2.Pass,iv x2.Seconds] [.need (Aa0=some (adr Aa0)∧(0:Int)≤v33∧v33<((a0.length:Nat):Int)),.load (((adr Aa0).add (v33.toNat*5)).add 0) (.string x2.Test),.load (((adr Aa0).add (v33.toNat*5)).add 1) (.string x2.Key),.load (((adr Aa0).add (v33.toNat*5)).add 2) (iv x2.At),.load (((adr Aa0).add (v33.toNat*5)).add 3) (.bool x2.Pass),.load (((adr Aa0).add (v33.toNat*5)).add 4) (iv x2.Seconds)] [(0,.slice Aa0 a0.length ca0),(6,.string x1),(7,.bool v_both7),(25,.slice A1 y1.1.length c1),(26,iv (y1.1.length:Int)),(27,iv v27),(31,.slice Aa0 a0.length ca0),(32,iv (a0.length:Int)),(33,iv v33),(35,iv v33),(37,.agg #[.string x2.Test,.string x2.Key,iv x2.At,.bool x2.Pass,iv x2.Seconds])] (fun w hh=>⟨⟨ha2,(at?_some hx2).1,(at?_some hx2).2.1⟩,(hcc2 _ _ (hh.drop 1) 0 _ rfl),(hcc2 _ _ (hh.drop 1) 1 _ rfl),(hcc2 _ _ (hh.drop 1) 2 _ rfl),(hcc2 _ _ (hh.drop 1) 3 _ rfl),(hcc2 _ _ (hh.drop 1) 4 _ rfl)⟩) ?_
   refine RgH.does (DoesH.new (d:=9) (v:=fun g=>.pointer (some ⟨g,0,none⟩)) (o:=fun g=>.cells #[.string ByteArray.empty,.string ByteArray.empty,iv 0,.bool false,iv 0] 29 (0,0)) (fun g=>by kernel_rfl)) ?_
   rintro _ _ _ _ ⟨g1,rfl,rfl,rfl⟩
   refine Rk 5 [0,6,7,8,9,25,26,27,31,32,33,37] [(0,.slice Aa0 a0.length ca0),(6,.string x1),(7,.bool v_both7),(8,iv v33),(9,pg g1 0),(25,.slice A1 y1.1.length c1),(26,iv (y1.1.length:Int)),(27,iv v27),(31,.slice Aa0 a0.length ca0),(32,iv (a0.length:Int)),(33,iv v33),(37,.agg #[.string x2.Test,.string x2.Key,iv x2.At,.bool x2.Pass,iv x2.Seconds])] ?_
   refine RgH.does (DoesH.store (k:=0) (g:=g1) (off:=0) (v:=.agg #[.string x2.Test,.string x2.Key,iv x2.At,.bool x2.Pass,iv x2.Seconds]) (cells':=#[.string x2.Test,.string x2.Key,iv x2.At,.bool x2.Pass,iv x2.Seconds]) (by kernel_rfl) rfl (by kernel_rfl) (by kernel_rfl)) ?_
   rintro _ _ _ _ ⟨rfl,rfl,rfl⟩
   refine Dn<|Ra 1 [1,1,1,0,1,0,0,1,1,0,0,1,1,0,1,0,0,1,1,0,0,1,0] [.c [1,1,1,0,1,0,0,1,1,0,0,1,1,0,1,0,0,1,1,0,0,1,1],.b 3,.c [1,1,1,0,1,0,0,1,1,0,0,1,1,0,1,0,0,1,1,1],.l [1,1,1,0,1,0,0,1,1,0,0,1,1,0,1,0,0],.b 2,.c [1,1,1,0,1,0,0,1,1,0,0,1,1,1],.b 1,.c [1,1,1,0,1,0,0,1,1,1],.l [1,1,1,0,1,0,0],.b 0,.c [1,1,1,1]] ?_
   obtain ⟨hn2,heq⟩:=guard?_some heq
   have hn1:v33.toNat=(a0.take v33.toNat).length:=by have h1:=both_of hn2; have h3:=trivial; (try simp); (try omega)
   have hr1:=Rw.take hra0 v33.toNat
   have hc1:v33.toNat≤ca0:=by have h2:=hca0; have h1:=both_of hn2; omega
   refine Rw' 5 [0,6,7,9,25,26,27,31,32,33,40,41,42] [] [.need ((0:Int)≤v33∧v33≤((ca0:Nat):Int))] [(0,.slice Aa0 a0.length ca0),(6,.string x1),(7,.bool v_both7),(9,pg g1 0),(25,.slice A1 y1.1.length c1),(26,iv (y1.1.length:Int)),(27,iv v27),(31,.slice Aa0 a0.length ca0),(32,iv (a0.length:Int)),(33,iv v33),(40,.slice Aa0 v33.toNat ca0),(41,iv (v33.toNat:Int)),(42,iv 0)] (fun w hh=>⟨(both_of hn2).1,(by have h1:=(both_of hn2).2; have h2:=hca0; have h3:=trivial; omega)⟩)<|Ad 2 [.c [1,1,1,0,1,0,0,1,1,0,0,1,1,0,1,0,0,1,1,0,0,1,1,0,0],.l [1,1,1,0,1,0,0,1,1,0,0,1,1,0,1,0,0,1,1,0,0,1,1,0,0],.b 4,.b 3,.c [1,1,1,0,1,0,0,1,1,0,0,1,1,0,1,0,0,1,1,1],.l [1,1,1,0,1,0,0,1,1,0,0,1,1,0,1,0,0],.b 2,.c [1,1,1,0,1,0,0,1,1,0,0,1,1,1],.b 1,.c [1,1,1,0,1,0,0,1,1,1],.l [1,1,1,0,1,0,0],.b 0,.c [1,1,1,1]]<|Kp [0,6,7,9,25,26,27,31,32,33,40,41,42] [(0,.slice Aa0 a0.length ca0),(6,.string x1),(7,.bool v_both7),(9,pg g1 0),(25,.slice A1 y1.1.length c1),(26,iv (y1.1.length:Int)),(27,iv v27),(31,.slice Aa0 a0.length ca0),(32,iv (a0.length:Int)),(33,iv v33),(40,.slice Aa0 v33.toNat ca0),(41,iv (v33.toNat:Int)),(42,iv 0)] ?_
   exact ((smithyardlaw10_TrialsFlakyHaveDoneBoth.l6_c (e5:=smithyardlaw10_TrialsFlakyHaveDoneBoth.e5 ((smithyardlaw10_TrialsFlakyHaveDoneBoth.l4 e3 k))) (smithyardlaw10_TrialsFlakyHaveDoneBoth.e5_c (backl4:=(smithyardlaw10_TrialsFlakyHaveDoneBoth.l4 e3 k)) ihk)) big) a0 _ _ y1 _ _ _ v27 x1 v33 x2 _ v_both7 0 hra0 hca0 ho1 hn1 hr1 hc1 heq
  ·replace heq:=bif_false hb5 heq
   refine Cf (decide (v33<(a0.length:Int))) hb5<|Ad 2 [.c [1,1,1,0,1,0,0,1,1,0,0,1,1,1,0],.c [1,1,1,0,1,0,0,1,1,0,0,1,1,1,1],.b 1,.c [1,1,1,0,1,0,0,1,1,1],.l [1,1,1,0,1,0,0],.b 0,.c [1,1,1,1]]<|Kp [0,7,25,26,27] [(0,.slice Aa0 a0.length ca0),(7,.bool v_both7),(25,.slice A1 y1.1.length c1),(26,iv (y1.1.length:Int)),(27,iv v27)] ?_
   exact he3 a0 _ _ y1 _ _ _ v27 v_both7 hra0 hca0 ho1 heq
theorem smithyardlaw10_TrialsFlakyHaveDoneBoth.l2_c {w0:World} [GlobI 0 w0] {H:Hp} {F:List Ch} {r:Bool} (e1:Option Bool)
  (he1:e1=some r→RunH C3 (S3 F H r) H w0 [.c [1,1,1,1,0],.c [1,1,1,1,1]] [] H (F)):∀ (k:Nat),∀ (a0:List TestRun) (Aa0:Option Addr) (ca0:Nat) (y1:(List ByteArray) × Int) (A1:Option Addr) (c1:Nat) (ch1:Ch) (v27:Int) ,Rw kTestRun H F Aa0 a0→a0.length≤ca0→SlOwn Kd.string 9 H A1 c1 y1.1 ch1→smithyardlaw10_TrialsFlakyHaveDoneBoth.l2 e1 k a0 y1 v27=some r→RunH C3 (S3 F H r) H w0 [.c [1,1,1,0,1,0,0],.l [1,1,1,0,1,0,0],.b 0,.c [1,1,1,1]] [(0,.slice Aa0 a0.length ca0),(25,.slice A1 y1.1.length c1),(26,iv (y1.1.length:Int)),(27,iv v27)] H (ch1::F):=by
 intro k
 induction k with
 | zero=>intro a0 Aa0 ca0 y1 A1 c1 ch1 v27 hra0 hca0 ho1 heq; exact nomatch (show (none:Option Bool)=some r from heq)
 | succ k ihk =>
  intro a0 Aa0 ca0 y1 A1 c1 ch1 v27 hra0 hca0 ho1 heq
  rw [smithyardlaw10_TrialsFlakyHaveDoneBoth.l2] at heq
  refine Ra 1 [1,1,1,0,1,0,0,0] [.c [1,1,1,0,1,0,0,1],.l [1,1,1,0,1,0,0],.b 0,.c [1,1,1,1]]<|Rd 1 [0,25,26,27,28] [(0,.slice Aa0 a0.length ca0),(25,.slice A1 y1.1.length c1),(26,iv (y1.1.length:Int)),(27,iv v27),(28,.bool (decide (v27<(y1.1.length:Int))))]<|Ad 1 [.c [1,1,1,0,1,0,0,1,0],.c [1,1,1,0,1,0,0,1,1],.l [1,1,1,0,1,0,0],.b 0,.c [1,1,1,1]] ?_
  rcases bool_cases (decide (v27<(y1.1.length:Int))) with hb3 | hb3
  ·replace heq:=bif_true hb3 heq
   refine Ct (decide (v27<(y1.1.length:Int))) hb3<|Ra 4 [1,1,1,0,1,0,0,1,1,0,0,0] [.c [1,1,1,0,1,0,0,1,1,0,0,1],.b 1,.c [1,1,1,0,1,0,0,1,1,1],.l [1,1,1,0,1,0,0],.b 0,.c [1,1,1,1]] ?_
   obtain ⟨x1,hx1,heq⟩:=bind_some heq
   obtain ⟨ha1,cs1,hK1,hcc1⟩:=ho1.get hx1
   obtain rfl:cs1=[.string x1]:=hK1
   refine Rw' 3 [0,6,25,26,27] [.string x1] [.need (A1=some (adr A1)∧(0:Int)≤v27∧v27<((y1.1.length:Nat):Int)),.load ((adr A1).add (v27.toNat*1)) (.string x1)] [(0,.slice Aa0 a0.length ca0),(6,.string x1),(25,.slice A1 y1.1.length c1),(26,iv (y1.1.length:Int)),(27,iv v27)] (fun w hh=>⟨⟨ha1,(at?_some hx1).1,(at?_some hx1).2.1⟩,(hcc1 _ (hh.chin 0 rfl) 0 _ rfl)⟩)<|Ra 1 [1,1,1,0,1,0,0,1,1,0,0,1,0] [.c [1,1,1,0,1,0,0,1,1,0,0,1,1],.b 1,.c [1,1,1,0,1,0,0,1,1,1],.l [1,1,1,0,1,0,0],.b 0,.c [1,1,1,1]]<|Rd 1 [0,6,7,25,26,27] [(0,.slice Aa0 a0.length ca0),(6,.string x1),(7,.bool false),(25,.slice A1 y1.1.length c1),(26,iv (y1.1.length:Int)),(27,iv v27)]<|Ra 2 [1,1,1,0,1,0,0,1,1,0,0,1,1,0,0] [.c [1,1,1,0,1,0,0,1,1,0,0,1,1,0,1],.c [1,1,1,0,1,0,0,1,1,0,0,1,1,1],.b 1,.c [1,1,1,0,1,0,0,1,1,1],.l [1,1,1,0,1,0,0],.b 0,.c [1,1,1,1]]<|Rd 3 [0,6,7,25,26,27,31,32,33] [(0,.slice Aa0 a0.length ca0),(6,.string x1),(7,.bool false),(25,.slice A1 y1.1.length c1),(26,iv (y1.1.length:Int)),(27,iv v27),(31,.slice Aa0 a0.length ca0),(32,iv (a0.length:Int)),(33,iv 0)]<|Ad 2 [.c [1,1,1,0,1,0,0,1,1,0,0,1,1,0,1,0,0],.l [1,1,1,0,1,0,0,1,1,0,0,1,1,0,1,0,0],.b 2,.c [1,1,1,0,1,0,0,1,1,0,0,1,1,1],.b 1,.c [1,1,1,0,1,0,0,1,1,1],.l [1,1,1,0,1,0,0],.b 0,.c [1,1,1,1]]<|Kp [0,6,7,25,26,27,31,32,33] [(0,.slice Aa0 a0.length ca0),(6,.string x1),(7,.bool false),(25,.slice A1 y1.1.length c1),(26,iv (y1.1.length:Int)),(27,iv v27),(31,.slice Aa0 a0.length ca0),(32,iv (a0.length:Int)),(33,iv 0)] ?_
   exact ((smithyardlaw10_TrialsFlakyHaveDoneBoth.l4_c (e3:=smithyardlaw10_TrialsFlakyHaveDoneBoth.e3 ((smithyardlaw10_TrialsFlakyHaveDoneBoth.l2 e1 k))) (smithyardlaw10_TrialsFlakyHaveDoneBoth.e3_c (backl2:=(smithyardlaw10_TrialsFlakyHaveDoneBoth.l2 e1 k)) ihk)) big) a0 _ _ y1 _ _ _ v27 x1 false 0 hra0 hca0 ho1 heq
  ·replace heq:=bif_false hb3 heq
   refine Cf (decide (v27<(y1.1.length:Int))) hb3<|Ad 2 [.c [1,1,1,1,0],.c [1,1,1,1,1]]<|Kp [] [] ?_
   refine RunH.pick 1 [] (cs':=F) (by kernel_rfl) rfl ?_
   exact he1 heq
theorem smithyardlaw10_TrialsFlakyHaveDoneBoth_c {w0:World} [GlobI 0 w0] {H:Hp} {F:List Ch} {a0:List TestRun} {Aa0:Option Addr} {na0:Nat} {ca0:Nat} {r:Bool} (hra0:Rw kTestRun H F Aa0 a0) (hca0:na0≤ca0) (hna0:na0=a0.length) (heq:smithyardlaw10_TrialsFlakyHaveDoneBoth.f a0=some r):CallsH Tryd.prog 3 #[.slice Aa0 na0 ca0] H w0 (F) (S3 F H r):=by
 refine calls_of_runH (F:=C3) Tryd.func3 (by kernel_rfl) Tryd.ntmps3 (args:=[.slice Aa0 na0 ca0]) (by kernel_rfl) ?_
 subst hna0
 unfold smithyardlaw10_TrialsFlakyHaveDoneBoth.f at heq
 refine Ra 1 [0] [.c [1]]<|Rd 1 [0] [(0,.slice Aa0 a0.length ca0)]<|Ra 1 [1,0] [.c [1,1]]<|Rk 1 [0,13] [(0,.slice Aa0 a0.length ca0),(13,.slice Aa0 a0.length ca0)] ?_
 obtain ⟨y1,hy1,heq⟩:=bind_some heq
 refine RgH.does (DoesH.call (d:=14) (g:=4) (args:=#[.slice Aa0 a0.length ca0]) (by kernel_rfl) (trials_Flaky_c (a0:=a0) hra0 hca0 rfl hy1)) ?_
 rintro _ _ _ _ ⟨_,rfl,A1,c1,ch1,rfl,rfl,rfl,ho1⟩
 refine Rd 7 [0,3,4] [(0,.slice Aa0 a0.length ca0),(3,.slice A1 y1.1.length c1),(4,iv y1.2)]<|Ra 2 [1,1,0,0] [.c [1,1,0,1],.c [1,1,1]]<|Rd 2 [0,3,18] [(0,.slice Aa0 a0.length ca0),(3,.slice A1 y1.1.length c1),(18,.bool (y1.2 != 0))] ?_
 rcases bool_cases (y1.2 != 0) with hb1 | hb1
 ·replace heq:=bif_true hb1 heq
  refine Ct (y1.2 != 0) hb1<|Ad 1 [.c [1,1,0,1,0,0],.c [1,1,0,1,0,1],.c [1,1,1]] ?_
  obtain ⟨t1,ht1,heq⟩:=bind_some heq
  have K2:RunH C3 (S3 F H r) H w0 [.c [1,1,0,1,0,1],.c [1,1,1]] [(2,.bool t1)] H (F):=by
   obtain rfl:=Option.some.inj heq
   exact RunH.done (by kernel_rfl) Tryd.func3 (v:=.bool t1) (by kernel_rfl) ⟨rfl,rfl,rfl⟩
  replace heq:=ht1
  refine Rr<|Rk 4 [22] [(22,.bool ((y1.1.length:Int) == 0))] ?_
  rcases bool_cases ((y1.1.length:Int) == 0) with hb2 | hb2
  ·replace heq:=bif_true hb2 heq
   refine RgH.val1 (v':=.bool true) (congrArg Value.bool hb2) ?_
   obtain ⟨y2,hy2,heq⟩:=bind_some heq
   refine RgH.does (DoesH.call (d:=23) (g:=5) (args:=(List.toArray [])) (by kernel_rfl) (smithyardlaw10_awake_c  hy2)) ?_
   rintro _ _ _ _ ⟨_,rfl,rfl,rfl,rfl⟩
   refine Rk 7 [2] [(2,.bool y2)] ?_
   obtain rfl:=Option.some.inj heq
   refine Kg [2] [(2,.bool y2)] ?_
   refine RgH.pick 1 [] (cs':=F) (by kernel_rfl) rfl ?_
   refine Dn ?_
   exact K2
  ·replace heq:=bif_false hb2 heq
   refine RgH.val1 (v':=.bool false) (congrArg Value.bool hb2) ?_
   refine Rk 7 [2] [(2,.bool false)] ?_
   obtain rfl:=Option.some.inj heq
   refine Kg [2] [(2,.bool false)] ?_
   refine RgH.pick 1 [] (cs':=F) (by kernel_rfl) rfl ?_
   refine Dn ?_
   exact K2
 ·replace heq:=bif_false hb1 heq
  refine Cf (y1.2 != 0) hb1<|Ra 3 [1,1,1,0,0] [.c [1,1,1,0,1],.c [1,1,1,1]]<|Rd 3 [0,25,26,27] [(0,.slice Aa0 a0.length ca0),(25,.slice A1 y1.1.length c1),(26,iv (y1.1.length:Int)),(27,iv 0)]<|Ad 2 [.c [1,1,1,0,1,0,0],.l [1,1,1,0,1,0,0],.b 0,.c [1,1,1,1]]<|Kp [0,25,26,27] [(0,.slice Aa0 a0.length ca0),(25,.slice A1 y1.1.length c1),(26,iv (y1.1.length:Int)),(27,iv 0)] ?_
  exact ((smithyardlaw10_TrialsFlakyHaveDoneBoth.l2_c (e1:=smithyardlaw10_TrialsFlakyHaveDoneBoth.e1) (smithyardlaw10_TrialsFlakyHaveDoneBoth.e1_c)) big) a0 _ _ y1 _ _ _ 0 hra0 hca0 ho1 heq
end Go.Proofs.YtnhedhnnknnenaaDoor
