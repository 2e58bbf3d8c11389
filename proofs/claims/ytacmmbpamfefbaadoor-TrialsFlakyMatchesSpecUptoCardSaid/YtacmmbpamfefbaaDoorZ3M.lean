/- What the machine's calls of these functions come to: just what the plain functions say. Written by program. -/
import Derived.Test.YtacmmbpamfefbaaDoorProg
import Derived.Test.YtacmmbpamfefbaaDoorKitW
import Derived.Test.YtacmmbpamfefbaaDoorZD
import Derived.Test.YtacmmbpamfefbaaDoorShelf
import Derived.Test.YtacmmbpamfefbaaDoorKitRg
import Derived.Test.YtacmmbpamfefbaaDoorKitSk
import Derived.Test.YtacmmbpamfefbaaDoorKitY
set_option linter.unusedVariables false
set_option linter.unnecessarySimpa false
set_option linter.unusedSimpArgs false
set_option maxRecDepth 100000
set_option maxHeartbeats 1000000
namespace Go.Proofs.YtacmmbpamfefbaaDoor
open Go Go.RowKit Go.Proofs.YtacmmbpamfefbaaDoor.Kit
def kTestRun:Kd TestRun:=Kd.iso ((Kd.pair Kd.string (Kd.pair Kd.string (Kd.pair (Kd.int .i64) (Kd.pair Kd.bool (Kd.int .i64)))))) (fun x=>(x.Test,x.Key,x.At,x.Pass,x.Seconds))
theorem kTestRun_open {H:Hp} {x:TestRun} {c:List Value} (h:kTestRun.K H x c):c=[.string x.Test,.string x.Key,iv x.At,.bool x.Pass,iv x.Seconds]:=by
 obtain ⟨p0,q0,rfl,g0,h0⟩:=h
 obtain rfl:p0=[_]:=g0
 obtain ⟨p1,q1,rfl,g1,h1⟩:=h0
 obtain rfl:p1=[_]:=g1
 obtain ⟨p2,q2,rfl,g2,h2⟩:=h1
 obtain rfl:p2=[_]:=g2
 obtain ⟨p3,q3,rfl,g3,h3⟩:=h2
 obtain rfl:p3=[_]:=g3
 obtain rfl:q3=[_]:=h3
 rfl
theorem kTestRun_mk {H:Hp} {x:TestRun}:kTestRun.K H x [.string x.Test,.string x.Key,iv x.At,.bool x.Pass,iv x.Seconds]:=⟨[.string x.Test],[.string x.Key,iv x.At,.bool x.Pass,iv x.Seconds],rfl,rfl,⟨[.string x.Key],[iv x.At,.bool x.Pass,iv x.Seconds],rfl,rfl,⟨[iv x.At],[.bool x.Pass,iv x.Seconds],rfl,rfl,⟨[.bool x.Pass],[iv x.Seconds],rfl,rfl,rfl⟩⟩⟩⟩
def ktrials_id:Kd trials_id:=Kd.iso ((Kd.pair Kd.string Kd.string)) (fun x=>(x.test,x.key))
theorem ktrials_id_open {H:Hp} {x:trials_id} {c:List Value} (h:ktrials_id.K H x c):c=[.string x.test,.string x.key]:=by
 obtain ⟨p0,q0,rfl,g0,h0⟩:=h
 obtain rfl:p0=[_]:=g0
 obtain rfl:q0=[_]:=h0
 rfl
theorem ktrials_id_mk {H:Hp} {x:trials_id}:ktrials_id.K H x [.string x.test,.string x.key]:=⟨[.string x.test],[.string x.key],rfl,rfl,rfl⟩
def ktrials_tally:Kd trials_tally:=Kd.iso ((Kd.pair (Kd.int .i64) (Kd.int .i64))) (fun x=>(x.passed,x.failed))
theorem ktrials_tally_open {H:Hp} {x:trials_tally} {c:List Value} (h:ktrials_tally.K H x c):c=[iv x.passed,iv x.failed]:=by
 obtain ⟨p0,q0,rfl,g0,h0⟩:=h
 obtain rfl:p0=[_]:=g0
 obtain rfl:q0=[_]:=h0
 rfl
theorem ktrials_tally_mk {H:Hp} {x:trials_tally}:ktrials_tally.K H x [iv x.passed,iv x.failed]:=⟨[iv x.passed],[iv x.failed],rfl,rfl,rfl⟩
def kPart:Kd Part:=Kd.iso ((Kd.pair (Kd.int .i64) (Kd.int .i64))) (fun x=>(x.Num,x.Den))
theorem kPart_open {H:Hp} {x:Part} {c:List Value} (h:kPart.K H x c):c=[iv x.Num,iv x.Den]:=by
 obtain ⟨p0,q0,rfl,g0,h0⟩:=h
 obtain rfl:p0=[_]:=g0
 obtain rfl:q0=[_]:=h0
 rfl
theorem kPart_mk {H:Hp} {x:Part}:kPart.K H x [iv x.Num,iv x.Den]:=⟨[iv x.Num],[iv x.Den],rfl,rfl,rfl⟩
def etrials_id (x:trials_id):Value:=.agg #[.string x.test,.string x.key]
theorem kytrials_id:KyAt Tryd.prog 43 etrials_id:=KyAt.struct (cells:=fun x=>#[.string x.test,.string x.key]) (q:=fun a b=>(a.test.toList == b.test.toList&&(a.key.toList == b.key.toList&&true))) Tryd.underlying43 (by kernel_rfl) (fun _=>rfl) (fun _=>by kernel_rfl) (fun _ _=>by kernel_rfl) (fun a b=>by
 obtain ⟨a0,a1⟩:=a
 obtain ⟨b0,b1⟩:=b
 simp [toList_beq]) (fun _=>by kernel_rfl)
noncomputable def C4:Ctx:={ P:=Tryd.prog,f:=4,N:=8,c:=bodyOf Tryd.f4 }
def S4 (F:List Ch) (H0:Hp) (r:List TestRun) (v:Value) (H:Hp) (cs:List Ch):Prop:=∃ (A0:Option Addr) (c0:Nat) (ch0:Ch),H0=H∧v=.slice A0 r.length c0∧ch0::F=cs∧SlOwn kTestRun 25 H A0 c0 r ch0
theorem slices_Clone_TestRun_c {w0:World} [GlobI 0 w0] {H:Hp} {F:List Ch} {a0:List TestRun} {Aa0:Option Addr} {na0 ca0:Nat} {r:List TestRun} (hra0:Rw kTestRun H F Aa0 a0) (hca0:na0≤ca0) (hna0:na0=a0.length) (heq:slices_Clone_TestRun.f a0=some r):CallsH Tryd.prog 4 #[.slice Aa0 na0 ca0] H w0 F (S4 F H r):=by
 refine calls_of_runH (F:=C4) Tryd.func4 (by kernel_rfl) Tryd.ntmps4 (args:=[.slice Aa0 na0 ca0]) (by kernel_rfl) ?_
 subst hna0
 unfold slices_Clone_TestRun.f at heq
 obtain ⟨hn,heq⟩:=guard?_some heq
 obtain rfl:=Option.some.inj heq
 refine Ra 1 [0] [.c [1]]<|Rd 1 [0] [(0,.slice Aa0 a0.length ca0)]<|Ra 2 [1,0,0] [.c [1,0,1],.c [1,1]] ?_
 cases Aa0 with
 | none =>
  have h0:a0=[]:=by
   cases a0 with
   | nil=>rfl
   | cons x xs=>obtain ⟨b,off,cs,e,fr,hA,_⟩:=hra0 (by simp); cases hA
  subst h0
  refine Rd 2 [4] [(4,.bool true)]<|Ct true rfl<|Ra 1 [1,0,1,0,0] [.c [1,0,1,0,1],.c [1,1]]<|Rd 1 [2] [(2,.slice none 0 0)]<|RunH.nilc ?_
  exact RunH.done (by kernel_rfl) Tryd.func4 (v:=.slice none ([]:List TestRun).length 0) (by kernel_rfl) ⟨none,0,none,rfl,rfl,rfl,SlOwn.nil⟩
 | some ad =>
  refine Rd 2 [0,4] [(0,.slice (some ad) a0.length ca0),(4,.bool false)]<|Cf false rfl<|Ra 2 [1,1,0] [.c [1,1,1]] ?_
  refine RgH.does (DoesH.new (d:=5) (v:=fun g=>.slice (some ⟨g,0,none⟩) 0 0) (o:=fun g=>.cells #[] 25 (0,0)) (fun g=>by kernel_rfl)) ?_
  rintro _ _ _ _ ⟨g,rfl,rfl,rfl⟩
  have ho:SlOwn kTestRun 25 H (some ⟨g,0,none⟩) 0 ([]:List TestRun) (some (g,.cells #[] 25 (0,0))):=.inr ⟨g,0,#[],rfl,rfl,by simp,by simp [maxLen],by simp,Kd.Rep.nil⟩
  refine Rk 2 [5,6] [(5,.slice (some ⟨g,0,none⟩) 0 0),(6,.slice (some ad) a0.length ca0)] ?_
  refine RgH.does (DoesH.append (d:=7) (k:=0) (t:=22) (e:=25) (bytes:=56) (kd:=kTestRun) (n:=0) (m:=a0.length) (xs:=([]:List TestRun)) (ys:=a0) (A:=some ⟨g,0,none⟩) (B:=some ad) (c:=0) (cB:=ca0) (by kernel_rfl) rfl rfl (by kernel_rfl) rfl ho (fun w hh=>hra0.rdb (hh.drop 1)) (room_le hn) (by have:=room_le hn; omega)) ?_
  rintro _ _ _ _ ⟨A1,c1,ch1,rfl,rfl,rfl,ho1⟩
  refine Rd 4 [2] [(2,.slice A1 (([]:List TestRun)++a0).length c1)] ?_
  exact RunH.done (by kernel_rfl) Tryd.func4 (v:=.slice A1 (([]:List TestRun)++a0).length c1) (by kernel_rfl) ⟨A1,c1,ch1,rfl,rfl,rfl,ho1⟩
def S34 (F:List Ch) (H0:Hp) (r:List ByteArray) (v:Value) (H:Hp) (cs:List Ch):Prop:=∃ (A0:Option Addr) (c0:Nat) (ch0:Ch),H0=H∧v=.slice A0 r.length c0∧ch0::F=cs∧SlOwn Kd.string 9 H A0 c0 r ch0
theorem strings_Split_c {w0:World} [GlobI 0 w0] {H:Hp} {F:List Ch} {a0 a1:ByteArray} {r:List ByteArray} (heq:strings_Split.f a0 a1=some r):CallsH Tryd.prog 34 #[.string a0,.string a1] H w0 F (S34 F H r):=by
 intro w hh
 unfold strings_Split.f at heq
 obtain ⟨hn,heq⟩:=guard?_some heq
 obtain rfl:=Option.some.inj heq
 simp only [Bool.and_eq_true,decide_eq_true_eq] at hn
 obtain ⟨m,hm⟩:=GlobI.at (g:=0) hh
 refine (Shelf.Tryd.strings_Split a0 a1 m w hn.1 hm hn.2).mono ?_
 rintro e w' ⟨rfl,rfl⟩
 have hl:=Lib.splitB_all a1 hn.2 0 _ a0 rfl
 have hc:=Lib.countB_le a1 hn.2 a0.size a0 (Nat.le_refl _)
 obtain ⟨H',cs',hle,hh',A0,c0,ch0,rfl,hv,rfl,ho⟩:=split_post (e:=9) hh hl (by unfold maxLen; omega) rfl
 exact ⟨_,rfl,_,_,hle,hh',A0,c0,ch0,rfl,hv,rfl,ho⟩
def S52 (F:List Ch) (H0:Hp) (r:Int) (v:Value) (H:Hp) (cs:List Ch):Prop:=H0=H∧v=iv r∧F=cs
theorem strings_IndexByte_c {w0:World} [GlobI 0 w0] {H:Hp} {F:List Ch} {a0:ByteArray} {a1:Int} {r:Int} (heq:strings_IndexByte.f a0 a1=some r):CallsH Tryd.prog 52 #[.string a0,.int .u8 a1] H w0 F (S52 F H r):=by
 intro w hh
 unfold strings_IndexByte.f at heq
 obtain rfl:=Option.some.inj heq
 refine (Shelf.Tryd.strings_IndexByte a0 a1 w).mono ?_
 rintro e w' ⟨rfl,rfl⟩
 exact ⟨_,rfl,H,F,Le.refl H,hh,rfl,rfl,rfl⟩
noncomputable def C51:Ctx:={ P:=Tryd.prog,f:=51,N:=30,c:=bodyOf Tryd.f51 }
def S51 (F:List Ch) (H0:Hp) (r:Bool) (v:Value) (H:Hp) (cs:List Ch):Prop:=H0=H∧v=.bool r∧F=cs
theorem blob_inPart_c {w0:World} [GlobI 0 w0] {H:Hp} {F:List Ch} {a0:Int} {r:Bool} (heq:blob_inPart.f a0=some r):CallsH Tryd.prog 51 #[.int .u8 a0] H w0 (F) (S51 F H r):=by
 refine calls_of_runH (F:=C51) Tryd.func51 (by kernel_rfl) Tryd.ntmps51 (args:=[.int .u8 a0]) (by kernel_rfl) ?_
 unfold blob_inPart.f at heq
 refine Ra 1 [0] [.c [1]]<|Rd 1 [0] [(0,.int .u8 a0)]<|Ad 1 [.c [1,0],.c [1,1]] ?_
 obtain ⟨t1,ht1,heq⟩:=bind_some heq
 have K1:RunH C51 (S51 F H r) H w0 [.c [1,1]] [(2,.bool t1)] H (F):=by
  obtain rfl:=Option.some.inj heq
  exact RunH.done (by kernel_rfl) Tryd.func51 (v:=.bool t1) (by kernel_rfl) ⟨rfl,rfl,rfl⟩
 replace heq:=ht1
 refine Rr<|Rk 3 [5,0] [(5,.bool (decide (97≤a0))),(0,.int .u8 a0)] ?_
 rcases bool_cases (decide (97≤a0)) with hb1 | hb1
 ·replace heq:=bif_true hb1 heq
  refine RgH.val1 (v':=.bool true) (congrArg Value.bool hb1) ?_
  refine Rk 7 [9,0] [(9,.bool (decide (a0≤122))),(0,.int .u8 a0)] ?_
  rcases bool_cases (decide (a0≤122)) with hb2 | hb2
  ·replace heq:=bif_true hb2 heq
   refine RgH.val1 (v':=.bool true) (congrArg Value.bool hb2) ?_
   refine Rk 28 [2] [(2,.bool true)] ?_
   obtain rfl:=Option.some.inj heq
   refine Kg [2] [(2,.bool true)]<|Dn ?_
   exact K1
  ·replace heq:=bif_false hb2 heq
   refine RgH.val1 (v':=.bool false) (congrArg Value.bool hb2) ?_
   refine Rk 10 [12,0,9] [(12,.bool (decide (65≤a0))),(0,.int .u8 a0),(9,.bool false)] ?_
   rcases bool_cases (decide (65≤a0)) with hb3 | hb3
   ·replace heq:=bif_true hb3 heq
    refine RgH.val1 (v':=.bool true) (congrArg Value.bool hb3) ?_
    refine Rk 15 [17,0] [(17,.bool (decide (a0≤90))),(0,.int .u8 a0)] ?_
    rcases bool_cases (decide (a0≤90)) with hb4 | hb4
    ·replace heq:=bif_true hb4 heq
     refine RgH.val1 (v':=.bool true) (congrArg Value.bool hb4) ?_
     refine Rk 28 [2] [(2,.bool true)] ?_
     obtain rfl:=Option.some.inj heq
     refine Kg [2] [(2,.bool true)]<|Dn ?_
     exact K1
    ·replace heq:=bif_false hb4 heq
     refine RgH.val1 (v':=.bool false) (congrArg Value.bool hb4) ?_
     refine Rk 18 [20,0,17] [(20,.bool (decide (48≤a0))),(0,.int .u8 a0),(17,.bool false)] ?_
     rcases bool_cases (decide (48≤a0)) with hb5 | hb5
     ·replace heq:=bif_true hb5 heq
      refine RgH.val1 (v':=.bool true) (congrArg Value.bool hb5) ?_
      refine Rk 23 [25,0] [(25,.bool (decide (a0≤57))),(0,.int .u8 a0)] ?_
      rcases bool_cases (decide (a0≤57)) with hb6 | hb6
      ·replace heq:=bif_true hb6 heq
       refine RgH.val1 (v':=.bool true) (congrArg Value.bool hb6) ?_
       refine Rk 28 [2] [(2,.bool true)] ?_
       obtain rfl:=Option.some.inj heq
       refine Kg [2] [(2,.bool true)]<|Dn ?_
       exact K1
      ·replace heq:=bif_false hb6 heq
       refine RgH.val1 (v':=.bool false) (congrArg Value.bool hb6) ?_
       refine Rk 24 [25,26] [(25,.bool false),(26,.int .u8 a0)] ?_
       obtain ⟨y1,hy1,heq⟩:=bind_some heq
       refine RgH.does (DoesH.call (d:=27) (g:=52) (args:=#[.string ({ data:=#[46,95,45,43] }:ByteArray),.int .u8 a0]) (by kernel_rfl) (strings_IndexByte_c (a0:=({ data:=#[46,95,45,43] }:ByteArray)) (a1:=a0)  hy1)) ?_
       rintro _ _ _ _ ⟨_,rfl,rfl,rfl,rfl⟩
       refine Rk 28 [2] [(2,.bool (decide (0≤y1)))] ?_
       obtain rfl:=Option.some.inj heq
       refine Kg [2] [(2,.bool (decide (0≤y1)))]<|Dn ?_
       exact K1
     ·replace heq:=bif_false hb5 heq
      refine RgH.val1 (v':=.bool false) (congrArg Value.bool hb5) ?_
      refine Rk 24 [25,26] [(25,.bool false),(26,.int .u8 a0)] ?_
      obtain ⟨y2,hy2,heq⟩:=bind_some heq
      refine RgH.does (DoesH.call (d:=27) (g:=52) (args:=#[.string ({ data:=#[46,95,45,43] }:ByteArray),.int .u8 a0]) (by kernel_rfl) (strings_IndexByte_c (a0:=({ data:=#[46,95,45,43] }:ByteArray)) (a1:=a0)  hy2)) ?_
      rintro _ _ _ _ ⟨_,rfl,rfl,rfl,rfl⟩
      refine Rk 28 [2] [(2,.bool (decide (0≤y2)))] ?_
      obtain rfl:=Option.some.inj heq
      refine Kg [2] [(2,.bool (decide (0≤y2)))]<|Dn ?_
      exact K1
   ·replace heq:=bif_false hb3 heq
    refine RgH.val1 (v':=.bool false) (congrArg Value.bool hb3) ?_
    refine Rk 18 [20,0,17] [(20,.bool (decide (48≤a0))),(0,.int .u8 a0),(17,.bool false)] ?_
    rcases bool_cases (decide (48≤a0)) with hb7 | hb7
    ·replace heq:=bif_true hb7 heq
     refine RgH.val1 (v':=.bool true) (congrArg Value.bool hb7) ?_
     refine Rk 23 [25,0] [(25,.bool (decide (a0≤57))),(0,.int .u8 a0)] ?_
     rcases bool_cases (decide (a0≤57)) with hb8 | hb8
     ·replace heq:=bif_true hb8 heq
      refine RgH.val1 (v':=.bool true) (congrArg Value.bool hb8) ?_
      refine Rk 28 [2] [(2,.bool true)] ?_
      obtain rfl:=Option.some.inj heq
      refine Kg [2] [(2,.bool true)]<|Dn ?_
      exact K1
     ·replace heq:=bif_false hb8 heq
      refine RgH.val1 (v':=.bool false) (congrArg Value.bool hb8) ?_
      refine Rk 24 [25,26] [(25,.bool false),(26,.int .u8 a0)] ?_
      obtain ⟨y3,hy3,heq⟩:=bind_some heq
      refine RgH.does (DoesH.call (d:=27) (g:=52) (args:=#[.string ({ data:=#[46,95,45,43] }:ByteArray),.int .u8 a0]) (by kernel_rfl) (strings_IndexByte_c (a0:=({ data:=#[46,95,45,43] }:ByteArray)) (a1:=a0)  hy3)) ?_
      rintro _ _ _ _ ⟨_,rfl,rfl,rfl,rfl⟩
      refine Rk 28 [2] [(2,.bool (decide (0≤y3)))] ?_
      obtain rfl:=Option.some.inj heq
      refine Kg [2] [(2,.bool (decide (0≤y3)))]<|Dn ?_
      exact K1
    ·replace heq:=bif_false hb7 heq
     refine RgH.val1 (v':=.bool false) (congrArg Value.bool hb7) ?_
     refine Rk 24 [25,26] [(25,.bool false),(26,.int .u8 a0)] ?_
     obtain ⟨y4,hy4,heq⟩:=bind_some heq
     refine RgH.does (DoesH.call (d:=27) (g:=52) (args:=#[.string ({ data:=#[46,95,45,43] }:ByteArray),.int .u8 a0]) (by kernel_rfl) (strings_IndexByte_c (a0:=({ data:=#[46,95,45,43] }:ByteArray)) (a1:=a0)  hy4)) ?_
     rintro _ _ _ _ ⟨_,rfl,rfl,rfl,rfl⟩
     refine Rk 28 [2] [(2,.bool (decide (0≤y4)))] ?_
     obtain rfl:=Option.some.inj heq
     refine Kg [2] [(2,.bool (decide (0≤y4)))]<|Dn ?_
     exact K1
 ·replace heq:=bif_false hb1 heq
  refine RgH.val1 (v':=.bool false) (congrArg Value.bool hb1) ?_
  refine Rk 10 [12,0,9] [(12,.bool (decide (65≤a0))),(0,.int .u8 a0),(9,.bool false)] ?_
  rcases bool_cases (decide (65≤a0)) with hb9 | hb9
  ·replace heq:=bif_true hb9 heq
   refine RgH.val1 (v':=.bool true) (congrArg Value.bool hb9) ?_
   refine Rk 15 [17,0] [(17,.bool (decide (a0≤90))),(0,.int .u8 a0)] ?_
   rcases bool_cases (decide (a0≤90)) with hb10 | hb10
   ·replace heq:=bif_true hb10 heq
    refine RgH.val1 (v':=.bool true) (congrArg Value.bool hb10) ?_
    refine Rk 28 [2] [(2,.bool true)] ?_
    obtain rfl:=Option.some.inj heq
    refine Kg [2] [(2,.bool true)]<|Dn ?_
    exact K1
   ·replace heq:=bif_false hb10 heq
    refine RgH.val1 (v':=.bool false) (congrArg Value.bool hb10) ?_
    refine Rk 18 [20,0,17] [(20,.bool (decide (48≤a0))),(0,.int .u8 a0),(17,.bool false)] ?_
    rcases bool_cases (decide (48≤a0)) with hb11 | hb11
    ·replace heq:=bif_true hb11 heq
     refine RgH.val1 (v':=.bool true) (congrArg Value.bool hb11) ?_
     refine Rk 23 [25,0] [(25,.bool (decide (a0≤57))),(0,.int .u8 a0)] ?_
     rcases bool_cases (decide (a0≤57)) with hb12 | hb12
     ·replace heq:=bif_true hb12 heq
      refine RgH.val1 (v':=.bool true) (congrArg Value.bool hb12) ?_
      refine Rk 28 [2] [(2,.bool true)] ?_
      obtain rfl:=Option.some.inj heq
      refine Kg [2] [(2,.bool true)]<|Dn ?_
      exact K1
     ·replace heq:=bif_false hb12 heq
      refine RgH.val1 (v':=.bool false) (congrArg Value.bool hb12) ?_
      refine Rk 24 [25,26] [(25,.bool false),(26,.int .u8 a0)] ?_
      obtain ⟨y5,hy5,heq⟩:=bind_some heq
      refine RgH.does (DoesH.call (d:=27) (g:=52) (args:=#[.string ({ data:=#[46,95,45,43] }:ByteArray),.int .u8 a0]) (by kernel_rfl) (strings_IndexByte_c (a0:=({ data:=#[46,95,45,43] }:ByteArray)) (a1:=a0)  hy5)) ?_
      rintro _ _ _ _ ⟨_,rfl,rfl,rfl,rfl⟩
      refine Rk 28 [2] [(2,.bool (decide (0≤y5)))] ?_
      obtain rfl:=Option.some.inj heq
      refine Kg [2] [(2,.bool (decide (0≤y5)))]<|Dn ?_
      exact K1
    ·replace heq:=bif_false hb11 heq
     refine RgH.val1 (v':=.bool false) (congrArg Value.bool hb11) ?_
     refine Rk 24 [25,26] [(25,.bool false),(26,.int .u8 a0)] ?_
     obtain ⟨y6,hy6,heq⟩:=bind_some heq
     refine RgH.does (DoesH.call (d:=27) (g:=52) (args:=#[.string ({ data:=#[46,95,45,43] }:ByteArray),.int .u8 a0]) (by kernel_rfl) (strings_IndexByte_c (a0:=({ data:=#[46,95,45,43] }:ByteArray)) (a1:=a0)  hy6)) ?_
     rintro _ _ _ _ ⟨_,rfl,rfl,rfl,rfl⟩
     refine Rk 28 [2] [(2,.bool (decide (0≤y6)))] ?_
     obtain rfl:=Option.some.inj heq
     refine Kg [2] [(2,.bool (decide (0≤y6)))]<|Dn ?_
     exact K1
  ·replace heq:=bif_false hb9 heq
   refine RgH.val1 (v':=.bool false) (congrArg Value.bool hb9) ?_
   refine Rk 18 [20,0,17] [(20,.bool (decide (48≤a0))),(0,.int .u8 a0),(17,.bool false)] ?_
   rcases bool_cases (decide (48≤a0)) with hb13 | hb13
   ·replace heq:=bif_true hb13 heq
    refine RgH.val1 (v':=.bool true) (congrArg Value.bool hb13) ?_
    refine Rk 23 [25,0] [(25,.bool (decide (a0≤57))),(0,.int .u8 a0)] ?_
    rcases bool_cases (decide (a0≤57)) with hb14 | hb14
    ·replace heq:=bif_true hb14 heq
     refine RgH.val1 (v':=.bool true) (congrArg Value.bool hb14) ?_
     refine Rk 28 [2] [(2,.bool true)] ?_
     obtain rfl:=Option.some.inj heq
     refine Kg [2] [(2,.bool true)]<|Dn ?_
     exact K1
    ·replace heq:=bif_false hb14 heq
     refine RgH.val1 (v':=.bool false) (congrArg Value.bool hb14) ?_
     refine Rk 24 [25,26] [(25,.bool false),(26,.int .u8 a0)] ?_
     obtain ⟨y7,hy7,heq⟩:=bind_some heq
     refine RgH.does (DoesH.call (d:=27) (g:=52) (args:=#[.string ({ data:=#[46,95,45,43] }:ByteArray),.int .u8 a0]) (by kernel_rfl) (strings_IndexByte_c (a0:=({ data:=#[46,95,45,43] }:ByteArray)) (a1:=a0)  hy7)) ?_
     rintro _ _ _ _ ⟨_,rfl,rfl,rfl,rfl⟩
     refine Rk 28 [2] [(2,.bool (decide (0≤y7)))] ?_
     obtain rfl:=Option.some.inj heq
     refine Kg [2] [(2,.bool (decide (0≤y7)))]<|Dn ?_
     exact K1
   ·replace heq:=bif_false hb13 heq
    refine RgH.val1 (v':=.bool false) (congrArg Value.bool hb13) ?_
    refine Rk 24 [25,26] [(25,.bool false),(26,.int .u8 a0)] ?_
    obtain ⟨y8,hy8,heq⟩:=bind_some heq
    refine RgH.does (DoesH.call (d:=27) (g:=52) (args:=#[.string ({ data:=#[46,95,45,43] }:ByteArray),.int .u8 a0]) (by kernel_rfl) (strings_IndexByte_c (a0:=({ data:=#[46,95,45,43] }:ByteArray)) (a1:=a0)  hy8)) ?_
    rintro _ _ _ _ ⟨_,rfl,rfl,rfl,rfl⟩
    refine Rk 28 [2] [(2,.bool (decide (0≤y8)))] ?_
    obtain rfl:=Option.some.inj heq
    refine Kg [2] [(2,.bool (decide (0≤y8)))]<|Dn ?_
    exact K1
noncomputable def C35:Ctx:={ P:=Tryd.prog,f:=35,N:=25,c:=bodyOf Tryd.f35 }
def S35 (F:List Ch) (H0:Hp) (r:Bool) (v:Value) (H:Hp) (cs:List Ch):Prop:=H0=H∧v=.bool r∧F=cs
theorem blob_isPart.e1_c {w0:World} [GlobI 0 w0] {H:Hp} {F:List Ch} {r:Bool}:∀ (a0:ByteArray) ,blob_isPart.e1 a0=some r→RunH C35 (S35 F H r) H w0 [.c [1,1,0],.c [1,1,1]] [(0,.string a0)] H (F):=by
 intro a0  heq
 unfold blob_isPart.e1 at heq
 obtain ⟨t1,ht1,heq⟩:=bind_some heq
 have K1:RunH C35 (S35 F H r) H w0 [.c [1,1,1]] [(2,.bool t1)] H (F):=by
  obtain rfl:=Option.some.inj heq
  exact RunH.done (by kernel_rfl) Tryd.func35 (v:=.bool t1) (by kernel_rfl) ⟨rfl,rfl,rfl⟩
 replace heq:=ht1
 refine Rr<|Rk 3 [17,0] [(17,.bool (!sEq a0 ({ data:=#[] }:ByteArray))),(0,.string a0)] ?_
 rcases bool_cases (!sEq a0 ({ data:=#[] }:ByteArray)) with hb1 | hb1
 ·replace heq:=bif_true hb1 heq
  refine RgH.val1 (v':=.bool true) (congrArg Value.bool hb1) ?_
  refine Rk 7 [21,0] [(21,.bool (!sEq a0 ({ data:=#[46] }:ByteArray))),(0,.string a0)] ?_
  rcases bool_cases (!sEq a0 ({ data:=#[46] }:ByteArray)) with hb2 | hb2
  ·replace heq:=bif_true hb2 heq
   refine RgH.val1 (v':=.bool true) (congrArg Value.bool hb2) ?_
   refine Rk 11 [2] [(2,.bool (!sEq a0 ({ data:=#[46,46] }:ByteArray)))] ?_
   obtain rfl:=Option.some.inj heq
   refine Kg [2] [(2,.bool (!sEq a0 ({ data:=#[46,46] }:ByteArray)))]<|Dn ?_
   exact K1
  ·replace heq:=bif_false hb2 heq
   refine RgH.val1 (v':=.bool false) (congrArg Value.bool hb2) ?_
   refine Rk 11 [2] [(2,.bool false)] ?_
   obtain rfl:=Option.some.inj heq
   refine Kg [2] [(2,.bool false)]<|Dn ?_
   exact K1
 ·replace heq:=bif_false hb1 heq
  refine RgH.val1 (v':=.bool false) (congrArg Value.bool hb1) ?_
  refine Rk 11 [2] [(2,.bool false)] ?_
  obtain rfl:=Option.some.inj heq
  refine Kg [2] [(2,.bool false)]<|Dn ?_
  exact K1
theorem blob_isPart.l2_c {w0:World} [GlobI 0 w0] {H:Hp} {F:List Ch} {r:Bool} (e1:ByteArray→Option Bool)
  (he1:∀ (a0:ByteArray) ,e1 a0=some r→RunH C35 (S35 F H r) H w0 [.c [1,1,0],.c [1,1,1]] [(0,.string a0)] H (F)):∀ (k:Nat),∀ (a0:ByteArray) (v6:Int) ,blob_isPart.l2 e1 k a0 v6=some r→RunH C35 (S35 F H r) H w0 [.c [1,0,1,0,0],.l [1,0,1,0,0],.b 0,.c [1,1]] [(0,.string a0),(5,iv (a0.size:Int)),(6,iv v6)] H (F):=by
 intro k
 induction k with
 | zero=>intro a0 v6  heq; exact nomatch (show (none:Option Bool)=some r from heq)
 | succ k ihk =>
  intro a0 v6  heq
  rw [blob_isPart.l2] at heq
  refine Ra 1 [1,0,1,0,0,0] [.c [1,0,1,0,0,1],.l [1,0,1,0,0],.b 0,.c [1,1]]<|Rd 1 [0,5,6,7] [(0,.string a0),(5,iv (a0.size:Int)),(6,iv v6),(7,.bool (decide (v6<(a0.size:Int))))]<|Ad 1 [.c [1,0,1,0,0,1,0],.c [1,0,1,0,0,1,1],.l [1,0,1,0,0],.b 0,.c [1,1]] ?_
  rcases bool_cases (decide (v6<(a0.size:Int))) with hb3 | hb3
  ·replace heq:=bif_true hb3 heq
   refine Ct (decide (v6<(a0.size:Int))) hb3<|Ra 4 [1,0,1,0,0,1,1,0,0,0] [.c [1,0,1,0,0,1,1,0,0,1],.b 1,.c [1,0,1,0,0,1,1,1],.l [1,0,1,0,0],.b 0,.c [1,1]]<|Rd 2 [0,3,5,6] [(0,.string a0),(3,iv v6),(5,iv (a0.size:Int)),(6,iv v6)]<|Ra 1 [1,0,1,0,0,1,1,0,0,1,0] [.c [1,0,1,0,0,1,1,0,0,1,1],.b 1,.c [1,0,1,0,0,1,1,1],.l [1,0,1,0,0],.b 0,.c [1,1]] ?_
   obtain ⟨hn1,heq⟩:=guard?_some heq
   refine Rv 3 [0,5,6,11] [] [.need ((0:Int)≤v6∧v6<(a0.size:Int))] [(0,.string a0),(5,iv (a0.size:Int)),(6,iv v6),(11,.int .u8 (bt a0 v6))] (fun w hh=>(both_of hn1)) ?_
   obtain ⟨y1,hy1,heq⟩:=bind_some heq
   refine RgH.does (DoesH.call (d:=12) (g:=51) (args:=#[.int .u8 (bt a0 v6)]) (by kernel_rfl) (blob_inPart_c (a0:=bt a0 v6)  hy1)) ?_
   rintro _ _ _ _ ⟨_,rfl,rfl,rfl,rfl⟩
   refine Rd 5 [0,5,6,13] [(0,.string a0),(5,iv (a0.size:Int)),(6,iv v6),(13,.bool (!y1))] ?_
   rcases bool_cases (!y1) with hb4 | hb4
   ·replace heq:=bif_true hb4 heq
    refine Ct (!y1) hb4<|Ra 1 [1,0,1,0,0,1,1,0,0,1,1,0,0] [.c [1,0,1,0,0,1,1,0,0,1,1,0,1],.b 1,.c [1,0,1,0,0,1,1,1],.l [1,0,1,0,0],.b 0,.c [1,1]]<|Rd 1 [2] [(2,.bool false)] ?_
    obtain rfl:=Option.some.inj heq
    exact RunH.done (by kernel_rfl) Tryd.func35 (v:=.bool false) (by kernel_rfl) ⟨rfl,rfl,rfl⟩
   ·replace heq:=bif_false hb4 heq
    refine Cf (!y1) hb4<|Ra 2 [1,0,1,0,0,1,1,1] [.l [1,0,1,0,0],.b 0,.c [1,1]]<|Rd 2 [0,5,6] [(0,.string a0),(5,iv (a0.size:Int)),(6,iv (w64 (v6+1)))]<|Ad 1 [.c [1,0,1,0,0],.l [1,0,1,0,0],.b 0,.c [1,1]]<|Kp [0,5,6] [(0,.string a0),(5,iv (a0.size:Int)),(6,iv (w64 (v6+1)))] ?_
    exact ihk a0 (w64 (v6+1)) heq
  ·replace heq:=bif_false hb3 heq
   refine Cf (decide (v6<(a0.size:Int))) hb3<|Ad 2 [.c [1,1,0],.c [1,1,1]]<|Kp [0] [(0,.string a0)] ?_
   exact he1 a0 heq
theorem blob_isPart_c {w0:World} [GlobI 0 w0] {H:Hp} {F:List Ch} {a0:ByteArray} {r:Bool} (heq:blob_isPart.f a0=some r):CallsH Tryd.prog 35 #[.string a0] H w0 (F) (S35 F H r):=by
 refine calls_of_runH (F:=C35) Tryd.func35 (by kernel_rfl) Tryd.ntmps35 (args:=[.string a0]) (by kernel_rfl) ?_
 unfold blob_isPart.f at heq
 refine Ra 1 [0] [.c [1]]<|Rd 1 [0] [(0,.string a0)]<|Ra 2 [1,0,0] [.c [1,0,1],.c [1,1]]<|Rd 3 [0,5,6] [(0,.string a0),(5,iv (a0.size:Int)),(6,iv 0)]<|Ad 2 [.c [1,0,1,0,0],.l [1,0,1,0,0],.b 0,.c [1,1]]<|Kp [0,5,6] [(0,.string a0),(5,iv (a0.size:Int)),(6,iv 0)] ?_
 exact ((blob_isPart.l2_c (e1:=blob_isPart.e1) (blob_isPart.e1_c)) big) a0 0 heq
noncomputable def C21:Ctx:={ P:=Tryd.prog,f:=21,N:=24,c:=bodyOf Tryd.f21 }
def S21 (F:List Ch) (H0:Hp) (r:Bool) (v:Value) (H:Hp) (cs:List Ch):Prop:=H0=H∧v=.bool r∧F=cs
theorem blob_IsPath.e1_c {w0:World} [GlobI 0 w0] {H:Hp} {F:List Ch} {r:Bool}:blob_IsPath.e1=some r→RunH C21 (S21 F H r) H w0 [.c [1,1,1,0],.c [1,1,1,1]] [] H (F):=by
 intro   heq
 unfold blob_IsPath.e1 at heq
 refine Rr<|Rd 1 [2] [(2,.bool true)] ?_
 obtain rfl:=Option.some.inj heq
 exact RunH.done (by kernel_rfl) Tryd.func21 (v:=.bool true) (by kernel_rfl) ⟨rfl,rfl,rfl⟩
theorem blob_IsPath.l2_c {w0:World} [GlobI 0 w0] {H:Hp} {F:List Ch} {r:Bool} (e1:Option Bool)
  (he1:e1=some r→RunH C21 (S21 F H r) H w0 [.c [1,1,1,0],.c [1,1,1,1]] [] H (F)):∀ (k:Nat),∀ (y1:List ByteArray) (A1:Option Addr) (c1:Nat) (ch1:Ch) (v16:Int) ,SlOwn Kd.string 9 H A1 c1 y1 ch1→blob_IsPath.l2 e1 k y1 v16=some r→RunH C21 (S21 F H r) H w0 [.c [1,1,0,1,0,0],.l [1,1,0,1,0,0],.b 0,.c [1,1,1]] [(14,.slice A1 y1.length c1),(15,iv (y1.length:Int)),(16,iv v16)] H (ch1::F):=by
 intro k
 induction k with
 | zero=>intro y1 A1 c1 ch1 v16 ho1 heq; exact nomatch (show (none:Option Bool)=some r from heq)
 | succ k ihk =>
  intro y1 A1 c1 ch1 v16 ho1 heq
  rw [blob_IsPath.l2] at heq
  refine Ra 1 [1,1,0,1,0,0,0] [.c [1,1,0,1,0,0,1],.l [1,1,0,1,0,0],.b 0,.c [1,1,1]]<|Rd 1 [14,15,16,17] [(14,.slice A1 y1.length c1),(15,iv (y1.length:Int)),(16,iv v16),(17,.bool (decide (v16<(y1.length:Int))))]<|Ad 1 [.c [1,1,0,1,0,0,1,0],.c [1,1,0,1,0,0,1,1],.l [1,1,0,1,0,0],.b 0,.c [1,1,1]] ?_
  rcases bool_cases (decide (v16<(y1.length:Int))) with hb3 | hb3
  ·replace heq:=bif_true hb3 heq
   refine Ct (decide (v16<(y1.length:Int))) hb3<|Ra 4 [1,1,0,1,0,0,1,1,0,0,0] [.c [1,1,0,1,0,0,1,1,0,0,1],.b 1,.c [1,1,0,1,0,0,1,1,1],.l [1,1,0,1,0,0],.b 0,.c [1,1,1]] ?_
   obtain ⟨x1,hx1,heq⟩:=bind_some heq
   obtain ⟨ha1,cs1,hK1,hcc1⟩:=ho1.get hx1
   obtain rfl:cs1=[.string x1]:=hK1
   refine Rw' 3 [4,14,15,16] [.string x1] [.need (A1=some (adr A1)∧(0:Int)≤v16∧v16<((y1.length:Nat):Int)),.load ((adr A1).add (v16.toNat*1)) (.string x1)] [(4,.string x1),(14,.slice A1 y1.length c1),(15,iv (y1.length:Int)),(16,iv v16)] (fun w hh=>⟨⟨ha1,(at?_some hx1).1,(at?_some hx1).2.1⟩,(hcc1 _ (hh.chin 0 rfl) 0 _ rfl)⟩)<|Ra 1 [1,1,0,1,0,0,1,1,0,0,1,0] [.c [1,1,0,1,0,0,1,1,0,0,1,1],.b 1,.c [1,1,0,1,0,0,1,1,1],.l [1,1,0,1,0,0],.b 0,.c [1,1,1]]<|Rk 1 [14,15,16,20] [(14,.slice A1 y1.length c1),(15,iv (y1.length:Int)),(16,iv v16),(20,.string x1)] ?_
   obtain ⟨y2,hy2,heq⟩:=bind_some heq
   refine RgH.does (DoesH.call (d:=21) (g:=35) (args:=#[.string x1]) (by kernel_rfl) (blob_isPart_c (a0:=x1)  hy2)) ?_
   rintro _ _ _ _ ⟨_,rfl,rfl,rfl,rfl⟩
   refine Rd 3 [14,15,16,22] [(14,.slice A1 y1.length c1),(15,iv (y1.length:Int)),(16,iv v16),(22,.bool (!y2))] ?_
   rcases bool_cases (!y2) with hb4 | hb4
   ·replace heq:=bif_true hb4 heq
    refine Ct (!y2) hb4<|Ra 1 [1,1,0,1,0,0,1,1,0,0,1,1,0,0] [.c [1,1,0,1,0,0,1,1,0,0,1,1,0,1],.b 1,.c [1,1,0,1,0,0,1,1,1],.l [1,1,0,1,0,0],.b 0,.c [1,1,1]]<|Rd 1 [2] [(2,.bool false)] ?_
    obtain rfl:=Option.some.inj heq
    refine RunH.pick 1 [] (cs':=F) (by kernel_rfl) rfl ?_
    exact RunH.done (by kernel_rfl) Tryd.func21 (v:=.bool false) (by kernel_rfl) ⟨rfl,rfl,rfl⟩
   ·replace heq:=bif_false hb4 heq
    refine Cf (!y2) hb4<|Ra 2 [1,1,0,1,0,0,1,1,1] [.l [1,1,0,1,0,0],.b 0,.c [1,1,1]]<|Rd 2 [14,15,16] [(14,.slice A1 y1.length c1),(15,iv (y1.length:Int)),(16,iv (w64 (v16+1)))]<|Ad 1 [.c [1,1,0,1,0,0],.l [1,1,0,1,0,0],.b 0,.c [1,1,1]]<|Kp [14,15,16] [(14,.slice A1 y1.length c1),(15,iv (y1.length:Int)),(16,iv (w64 (v16+1)))] ?_
    exact ihk y1 _ _ _ (w64 (v16+1)) ho1 heq
  ·replace heq:=bif_false hb3 heq
   refine Cf (decide (v16<(y1.length:Int))) hb3<|Ad 2 [.c [1,1,1,0],.c [1,1,1,1]]<|Kp [] [] ?_
   refine RunH.pick 1 [] (cs':=F) (by kernel_rfl) rfl ?_
   exact he1 heq
theorem blob_IsPath_c {w0:World} [GlobI 0 w0] {H:Hp} {F:List Ch} {a0:ByteArray} {r:Bool} (heq:blob_IsPath.f a0=some r):CallsH Tryd.prog 21 #[.string a0] H w0 (F) (S21 F H r):=by
 refine calls_of_runH (F:=C21) Tryd.func21 (by kernel_rfl) Tryd.ntmps21 (args:=[.string a0]) (by kernel_rfl) ?_
 unfold blob_IsPath.f at heq
 refine Ra 1 [0] [.c [1]]<|Rd 1 [0] [(0,.string a0)]<|Ad 2 [.c [1,0,0],.c [1,0,1],.c [1,1]] ?_
 obtain ⟨t1,ht1,heq⟩:=bind_some heq
 have K1:RunH C21 (S21 F H r) H w0 [.c [1,0,1],.c [1,1]] [(0,.string a0),(12,.bool t1)] H (F):=by
  rcases bool_cases (t1) with hb2 | hb2
  ·replace heq:=bif_true hb2 heq
   refine Ct t1 hb2<|Ra 1 [1,0,1,0,0] [.c [1,0,1,0,1],.c [1,1]]<|Rd 1 [2] [(2,.bool false)] ?_
   obtain rfl:=Option.some.inj heq
   exact RunH.done (by kernel_rfl) Tryd.func21 (v:=.bool false) (by kernel_rfl) ⟨rfl,rfl,rfl⟩
  ·replace heq:=bif_false hb2 heq
   refine Cf t1 hb2<|Ra 3 [1,1,0,0] [.c [1,1,0,1],.c [1,1,1]]<|Rk 1 [13] [(13,.string a0)] ?_
   obtain ⟨y1,hy1,heq⟩:=bind_some heq
   refine RgH.does (DoesH.call (d:=14) (g:=34) (args:=#[.string a0,.string ({ data:=#[47] }:ByteArray)]) (by kernel_rfl) (strings_Split_c (a0:=a0) (a1:=({ data:=#[47] }:ByteArray))  hy1)) ?_
   rintro _ _ _ _ ⟨_,rfl,A1,c1,ch1,rfl,rfl,rfl,ho1⟩
   refine Rd 4 [14,15,16] [(14,.slice A1 y1.length c1),(15,iv (y1.length:Int)),(16,iv 0)]<|Ad 2 [.c [1,1,0,1,0,0],.l [1,1,0,1,0,0],.b 0,.c [1,1,1]]<|Kp [14,15,16] [(14,.slice A1 y1.length c1),(15,iv (y1.length:Int)),(16,iv 0)] ?_
   exact ((blob_IsPath.l2_c (e1:=blob_IsPath.e1) (blob_IsPath.e1_c)) big) y1 _ _ _ 0 ho1 heq
 replace heq:=ht1
 refine Rr<|Rk 4 [8,0] [(8,.bool (decide ((a0.size:Int)<1))),(0,.string a0)] ?_
 rcases bool_cases (decide ((a0.size:Int)<1)) with hb1 | hb1
 ·replace heq:=bif_true hb1 heq
  refine RgH.val1 (v':=.bool true) (congrArg Value.bool hb1) ?_
  refine Rk 8 [0,12] [(0,.string a0),(12,.bool true)] ?_
  obtain rfl:=Option.some.inj heq
  refine Kg [0,12] [(0,.string a0),(12,.bool true)]<|Dn ?_
  exact K1
 ·replace heq:=bif_false hb1 heq
  refine RgH.val1 (v':=.bool false) (congrArg Value.bool hb1) ?_
  refine Rk 8 [0,12] [(0,.string a0),(12,.bool (decide (200<(a0.size:Int))))] ?_
  obtain rfl:=Option.some.inj heq
  refine Kg [0,12] [(0,.string a0),(12,.bool (decide (200<(a0.size:Int))))]<|Dn ?_
  exact K1
def S37 (F:List Ch) (H0:Hp) (r:ByteArray) (v:Value) (H:Hp) (cs:List Ch):Prop:=H0=H∧v=.string r∧F=cs
theorem strings_Trim_c {w0:World} [GlobI 0 w0] {H:Hp} {F:List Ch} {a0:ByteArray} {a1:ByteArray} {r:ByteArray} (heq:strings_Trim.f a0 a1=some r):CallsH Tryd.prog 37 #[.string a0,.string a1] H w0 F (S37 F H r):=by
 intro w hh
 unfold strings_Trim.f at heq
 obtain ⟨hn,heq⟩:=guard?_some heq
 obtain rfl:=Option.some.inj heq
 refine (Shelf.Tryd.strings_Trim a0 a1 w (by simp at hn; exact hn.1) (by simp at hn; exact hn.2.1) (by have h:=hn; rw [Bool.and_eq_true,Bool.and_eq_true] at h; exact ascii_of_all h.2.2)).mono ?_
 rintro e w' ⟨rfl,hx⟩
 exact ⟨_,rfl,H,F,Le.refl H,hh.later hx,rfl,rfl,rfl⟩
noncomputable def C26:Ctx:={ P:=Tryd.prog,f:=26,N:=11,c:=bodyOf Tryd.f26 }
def S26 (F:List Ch) (H0:Hp) (r:Bool) (v:Value) (H:Hp) (cs:List Ch):Prop:=H0=H∧v=.bool r∧F=cs
theorem blob_IsDigest_c {w0:World} [GlobI 0 w0] {H:Hp} {F:List Ch} {a0:ByteArray} {r:Bool} (heq:blob_IsDigest.f a0=some r):CallsH Tryd.prog 26 #[.string a0] H w0 (F) (S26 F H r):=by
 refine calls_of_runH (F:=C26) Tryd.func26 (by kernel_rfl) Tryd.ntmps26 (args:=[.string a0]) (by kernel_rfl) ?_
 unfold blob_IsDigest.f at heq
 refine Ra 1 [0] [.c [1]]<|Rd 1 [0] [(0,.string a0)]<|Ad 1 [.c [1,0],.c [1,1]] ?_
 obtain ⟨t1,ht1,heq⟩:=bind_some heq
 have K1:RunH C26 (S26 F H r) H w0 [.c [1,1]] [(2,.bool t1)] H (F):=by
  obtain rfl:=Option.some.inj heq
  exact RunH.done (by kernel_rfl) Tryd.func26 (v:=.bool t1) (by kernel_rfl) ⟨rfl,rfl,rfl⟩
 replace heq:=ht1
 refine Rr<|Rk 4 [6,0] [(6,.bool ((a0.size:Int) == 16)),(0,.string a0)] ?_
 rcases bool_cases ((a0.size:Int) == 16) with hb1 | hb1
 ·replace heq:=bif_true hb1 heq
  refine RgH.val1 (v':=.bool true) (congrArg Value.bool hb1) ?_
  refine Rk 5 [6,7] [(6,.bool true),(7,.string a0)] ?_
  obtain ⟨y1,hy1,heq⟩:=bind_some heq
  refine RgH.does (DoesH.call (d:=8) (g:=37) (args:=#[.string a0,.string ({ data:=#[48,49,50,51,52,53,54,55,56,57,97,98,99,100,101,102] }:ByteArray)]) (by kernel_rfl) (strings_Trim_c (a0:=a0) (a1:=({ data:=#[48,49,50,51,52,53,54,55,56,57,97,98,99,100,101,102] }:ByteArray))  hy1)) ?_
  rintro _ _ _ _ ⟨_,rfl,rfl,rfl,rfl⟩
  refine Rk 9 [2] [(2,.bool (sEq y1 ({ data:=#[] }:ByteArray)))] ?_
  obtain rfl:=Option.some.inj heq
  refine Kg [2] [(2,.bool (sEq y1 ({ data:=#[] }:ByteArray)))]<|Dn ?_
  exact K1
 ·replace heq:=bif_false hb1 heq
  refine RgH.val1 (v':=.bool false) (congrArg Value.bool hb1) ?_
  refine Rk 9 [2] [(2,.bool false)] ?_
  obtain rfl:=Option.some.inj heq
  refine Kg [2] [(2,.bool false)]<|Dn ?_
  exact K1
noncomputable def C27:Ctx:={ P:=Tryd.prog,f:=27,N:=15,c:=bodyOf Tryd.f27 }
def S27 (F:List Ch) (H0:Hp) (r:Bool) (v:Value) (H:Hp) (cs:List Ch):Prop:=H0=H∧v=.bool r∧F=cs
theorem trials_within_c {w0:World} [GlobI 0 w0] {H:Hp} {F:List Ch} {a0:Int} {a1:Int} {a2:Int} {r:Bool} (heq:trials_within.f a0 a1 a2=some r):CallsH Tryd.prog 27 #[iv a0,iv a1,iv a2] H w0 (F) (S27 F H r):=by
 refine calls_of_runH (F:=C27) Tryd.func27 (by kernel_rfl) Tryd.ntmps27 (args:=[iv a0,iv a1,iv a2]) (by kernel_rfl) ?_
 unfold trials_within.f at heq
 refine Ra 1 [0] [.c [1]]<|Rd 1 [0,1,2] [(0,iv a0),(1,iv a1),(2,iv a2)]<|Ad 1 [.c [1,0],.c [1,1]] ?_
 obtain ⟨t1,ht1,heq⟩:=bind_some heq
 have K1:RunH C27 (S27 F H r) H w0 [.c [1,1]] [(6,.bool t1)] H (F):=by
  obtain rfl:=Option.some.inj heq
  exact RunH.done (by kernel_rfl) Tryd.func27 (v:=.bool t1) (by kernel_rfl) ⟨rfl,rfl,rfl⟩
 replace heq:=ht1
 refine Rr<|Rk 4 [10,0,2] [(10,.bool (decide (a1≤a0))),(0,iv a0),(2,iv a2)] ?_
 rcases bool_cases (decide (a1≤a0)) with hb1 | hb1
 ·replace heq:=bif_true hb1 heq
  refine RgH.val1 (v':=.bool true) (congrArg Value.bool hb1) ?_
  refine Rk 9 [6] [(6,.bool (decide (a0≤a2)))] ?_
  obtain rfl:=Option.some.inj heq
  refine Kg [6] [(6,.bool (decide (a0≤a2)))]<|Dn ?_
  exact K1
 ·replace heq:=bif_false hb1 heq
  refine RgH.val1 (v':=.bool false) (congrArg Value.bool hb1) ?_
  refine Rk 9 [6] [(6,.bool false)] ?_
  obtain rfl:=Option.some.inj heq
  refine Kg [6] [(6,.bool false)]<|Dn ?_
  exact K1
noncomputable def C12:Ctx:={ P:=Tryd.prog,f:=12,N:=51,c:=bodyOf Tryd.f12 }
def S12 (F:List Ch) (H0:Hp) (r:Int) (v:Value) (H:Hp) (cs:List Ch):Prop:=H0=H∧v=iv r∧F=cs
theorem trials_CheckHistory.e1_c {w0:World} [GlobI 0 w0] {H:Hp} {F:List Ch} {r:Int}:trials_CheckHistory.e1=some r→RunH C12 (S12 F H r) H w0 [.c [1,1,1,0],.c [1,1,1,1]] [] H (F):=by
 intro   heq
 unfold trials_CheckHistory.e1 at heq
 refine Rr<|Rd 1 [2] [(2,iv 0)] ?_
 obtain rfl:=Option.some.inj heq
 exact RunH.done (by kernel_rfl) Tryd.func12 (v:=iv 0) (by kernel_rfl) ⟨rfl,rfl,rfl⟩
theorem trials_CheckHistory.l2_c {w0:World} [GlobI 0 w0] {H:Hp} {F:List Ch} {r:Int} (e1:Option Int)
  (he1:e1=some r→RunH C12 (S12 F H r) H w0 [.c [1,1,1,0],.c [1,1,1,1]] [] H (F)):∀ (k:Nat),∀ (a0:List TestRun) (Aa0:Option Addr) (ca0:Nat) (v10:Int) ,Rw kTestRun H F Aa0 a0→a0.length≤ca0→trials_CheckHistory.l2 e1 k a0 v10=some r→RunH C12 (S12 F H r) H w0 [.c [1,1,0,1,0,0],.l [1,1,0,1,0,0],.b 0,.c [1,1,1]] [(0,.slice Aa0 a0.length ca0),(8,.slice Aa0 a0.length ca0),(9,iv (a0.length:Int)),(10,iv v10)] H (F):=by
 intro k
 induction k with
 | zero=>intro a0 Aa0 ca0 v10 hra0 hca0 heq; exact nomatch (show (none:Option Int)=some r from heq)
 | succ k ihk =>
  intro a0 Aa0 ca0 v10 hra0 hca0 heq
  rw [trials_CheckHistory.l2] at heq
  refine Ra 1 [1,1,0,1,0,0,0] [.c [1,1,0,1,0,0,1],.l [1,1,0,1,0,0],.b 0,.c [1,1,1]]<|Rd 1 [0,8,9,10,11] [(0,.slice Aa0 a0.length ca0),(8,.slice Aa0 a0.length ca0),(9,iv (a0.length:Int)),(10,iv v10),(11,.bool (decide (v10<(a0.length:Int))))]<|Ad 1 [.c [1,1,0,1,0,0,1,0],.c [1,1,0,1,0,0,1,1],.l [1,1,0,1,0,0],.b 0,.c [1,1,1]] ?_
  rcases bool_cases (decide (v10<(a0.length:Int))) with hb2 | hb2
  ·replace heq:=bif_true hb2 heq
   refine Ct (decide (v10<(a0.length:Int))) hb2<|Ra 4 [1,1,0,1,0,0,1,1,0,0,0] [.c [1,1,0,1,0,0,1,1,0,0,1],.b 1,.c [1,1,0,1,0,0,1,1,1],.l [1,1,0,1,0,0],.b 0,.c [1,1,1]] ?_
   obtain ⟨x1,hx1,heq⟩:=bind_some heq
   obtain ⟨ha1,cs1,hK1,hcc1⟩:=hra0.get hx1
   obtain ⟨rfl⟩:=kTestRun_open hK1
   refine Rv 3 [0,8,9,10,12,14] [.string x1.Test,.string x1.Key,iv x1.At,.bool x1.Pass,iv x1.Seconds] [.need (Aa0=some (adr Aa0)∧(0:Int)≤v10∧v10<((a0.length:Nat):Int)),.load (((adr Aa0).add (v10.toNat*5)).add 0) (.string x1.Test),.load (((adr Aa0).add (v10.toNat*5)).add 1) (.string x1.Key),.load (((adr Aa0).add (v10.toNat*5)).add 2) (iv x1.At),.load (((adr Aa0).add (v10.toNat*5)).add 3) (.bool x1.Pass),.load (((adr Aa0).add (v10.toNat*5)).add 4) (iv x1.Seconds)] [(0,.slice Aa0 a0.length ca0),(8,.slice Aa0 a0.length ca0),(9,iv (a0.length:Int)),(10,iv v10),(12,iv v10),(14,.agg #[.string x1.Test,.string x1.Key,iv x1.At,.bool x1.Pass,iv x1.Seconds])] (fun w hh=>⟨⟨ha1,(at?_some hx1).1,(at?_some hx1).2.1⟩,(hcc1 _ _ (hh.drop 0) 0 _ rfl),(hcc1 _ _ (hh.drop 0) 1 _ rfl),(hcc1 _ _ (hh.drop 0) 2 _ rfl),(hcc1 _ _ (hh.drop 0) 3 _ rfl),(hcc1 _ _ (hh.drop 0) 4 _ rfl)⟩) ?_
   refine RgH.does (DoesH.new (d:=4) (v:=fun g=>.pointer (some ⟨g,0,none⟩)) (o:=fun g=>.cells #[.string ByteArray.empty,.string ByteArray.empty,iv 0,.bool false,iv 0] 25 (0,0)) (fun g=>by kernel_rfl)) ?_
   rintro _ _ _ _ ⟨g1,rfl,rfl,rfl⟩
   refine Rk 5 [0,3,4,8,9,10,14] [(0,.slice Aa0 a0.length ca0),(3,iv v10),(4,pg g1 0),(8,.slice Aa0 a0.length ca0),(9,iv (a0.length:Int)),(10,iv v10),(14,.agg #[.string x1.Test,.string x1.Key,iv x1.At,.bool x1.Pass,iv x1.Seconds])] ?_
   refine RgH.does (DoesH.store (k:=0) (g:=g1) (off:=0) (v:=.agg #[.string x1.Test,.string x1.Key,iv x1.At,.bool x1.Pass,iv x1.Seconds]) (cells':=#[.string x1.Test,.string x1.Key,iv x1.At,.bool x1.Pass,iv x1.Seconds]) (by kernel_rfl) rfl (by kernel_rfl) (by kernel_rfl)) ?_
   rintro _ _ _ _ ⟨rfl,rfl,rfl⟩
   refine Dn<|Ra 2 [1,1,0,1,0,0,1,1,0,0,1,0,0] [.c [1,1,0,1,0,0,1,1,0,0,1,0,1],.b 2,.b 1,.c [1,1,0,1,0,0,1,1,1],.l [1,1,0,1,0,0],.b 0,.c [1,1,1]]<|Rv 2 [0,3,4,8,9,10,17] [.string x1.Test] [.load ⟨g1,0,none⟩ (.string x1.Test)] [(0,.slice Aa0 a0.length ca0),(3,iv v10),(4,pg g1 0),(8,.slice Aa0 a0.length ca0),(9,iv (a0.length:Int)),(10,iv v10),(17,.string x1.Test)] (fun w hh=>(hh.box 0 rfl rfl)) ?_
   obtain ⟨y1,hy1,heq⟩:=bind_some heq
   refine RgH.does (DoesH.call (d:=18) (g:=21) (args:=#[.string x1.Test]) (by kernel_rfl) (blob_IsPath_c (a0:=x1.Test)  hy1)) ?_
   rintro _ _ _ _ ⟨_,rfl,rfl,rfl,rfl⟩
   refine Rd 5 [0,3,4,8,9,10,15] [(0,.slice Aa0 a0.length ca0),(3,iv v10),(4,pg g1 0),(8,.slice Aa0 a0.length ca0),(9,iv (a0.length:Int)),(10,iv v10),(15,.bool (!y1))] ?_
   rcases bool_cases (!y1) with hb3 | hb3
   ·replace heq:=bif_true hb3 heq
    refine Ct (!y1) hb3<|Ra 1 [1,1,0,1,0,0,1,1,0,0,1,0,1,0,0] [.c [1,1,0,1,0,0,1,1,0,0,1,0,1,0,1],.b 2,.b 1,.c [1,1,0,1,0,0,1,1,1],.l [1,1,0,1,0,0],.b 0,.c [1,1,1]]<|Rd 1 [2] [(2,iv 5)] ?_
    obtain rfl:=Option.some.inj heq
    refine RunH.pick 1 [] (cs':=F) (by kernel_rfl) rfl ?_
    exact RunH.done (by kernel_rfl) Tryd.func12 (v:=iv 5) (by kernel_rfl) ⟨rfl,rfl,rfl⟩
   ·replace heq:=bif_false hb3 heq
    refine Cf (!y1) hb3<|Ra 1 [1,1,0,1,0,0,1,1,0,0,1,0,1,1,0] [.c [1,1,0,1,0,0,1,1,0,0,1,0,1,1,1],.b 2,.b 1,.c [1,1,0,1,0,0,1,1,1],.l [1,1,0,1,0,0],.b 0,.c [1,1,1]]<|Rv 2 [0,3,4,8,9,10,22] [.string x1.Key] [.load ⟨g1,1,none⟩ (.string x1.Key)] [(0,.slice Aa0 a0.length ca0),(3,iv v10),(4,pg g1 0),(8,.slice Aa0 a0.length ca0),(9,iv (a0.length:Int)),(10,iv v10),(22,.string x1.Key)] (fun w hh=>(hh.box 0 rfl rfl)) ?_
    obtain ⟨y2,hy2,heq⟩:=bind_some heq
    refine RgH.does (DoesH.call (d:=23) (g:=26) (args:=#[.string x1.Key]) (by kernel_rfl) (blob_IsDigest_c (a0:=x1.Key)  hy2)) ?_
    rintro _ _ _ _ ⟨_,rfl,rfl,rfl,rfl⟩
    refine Rd 5 [0,3,4,8,9,10,20] [(0,.slice Aa0 a0.length ca0),(3,iv v10),(4,pg g1 0),(8,.slice Aa0 a0.length ca0),(9,iv (a0.length:Int)),(10,iv v10),(20,.bool (!y2))] ?_
    rcases bool_cases (!y2) with hb4 | hb4
    ·replace heq:=bif_true hb4 heq
     refine Ct (!y2) hb4<|Ra 1 [1,1,0,1,0,0,1,1,0,0,1,0,1,1,1,0,0] [.c [1,1,0,1,0,0,1,1,0,0,1,0,1,1,1,0,1],.b 2,.b 1,.c [1,1,0,1,0,0,1,1,1],.l [1,1,0,1,0,0],.b 0,.c [1,1,1]]<|Rd 1 [2] [(2,iv 3)] ?_
     obtain rfl:=Option.some.inj heq
     refine RunH.pick 1 [] (cs':=F) (by kernel_rfl) rfl ?_
     exact RunH.done (by kernel_rfl) Tryd.func12 (v:=iv 3) (by kernel_rfl) ⟨rfl,rfl,rfl⟩
    ·replace heq:=bif_false hb4 heq
     refine Cf (!y2) hb4<|Ad 1 [.c [1,1,0,1,0,0,1,1,0,0,1,0,1,1,1,1,0],.c [1,1,0,1,0,0,1,1,0,0,1,0,1,1,1,1,1],.b 2,.b 1,.c [1,1,0,1,0,0,1,1,1],.l [1,1,0,1,0,0],.b 0,.c [1,1,1]] ?_
     obtain ⟨t1,ht1,heq⟩:=bind_some heq
     have K2:RunH C12 (S12 F H r) H w0 [.c [1,1,0,1,0,0,1,1,0,0,1,0,1,1,1,1,1],.b 2,.b 1,.c [1,1,0,1,0,0,1,1,1],.l [1,1,0,1,0,0],.b 0,.c [1,1,1]] [(0,.slice Aa0 a0.length ca0),(3,iv v10),(4,pg g1 0),(8,.slice Aa0 a0.length ca0),(9,iv (a0.length:Int)),(10,iv v10),(25,.bool t1)] H ((some (g1,.cells #[.string x1.Test,.string x1.Key,iv x1.At,.bool x1.Pass,iv x1.Seconds] 25 (0,0)))::F):=by
      rcases bool_cases (t1) with hb6 | hb6
      ·replace heq:=bif_true hb6 heq
       refine Ct t1 hb6<|Ra 1 [1,1,0,1,0,0,1,1,0,0,1,0,1,1,1,1,1,0,0] [.c [1,1,0,1,0,0,1,1,0,0,1,0,1,1,1,1,1,0,1],.b 2,.b 1,.c [1,1,0,1,0,0,1,1,1],.l [1,1,0,1,0,0],.b 0,.c [1,1,1]]<|Rd 1 [2] [(2,iv 1)] ?_
       obtain rfl:=Option.some.inj heq
       refine RunH.pick 1 [] (cs':=F) (by kernel_rfl) rfl ?_
       exact RunH.done (by kernel_rfl) Tryd.func12 (v:=iv 1) (by kernel_rfl) ⟨rfl,rfl,rfl⟩
      ·replace heq:=bif_false hb6 heq
       refine Cf t1 hb6<|Ad 1 [.c [1,1,0,1,0,0,1,1,0,0,1,0,1,1,1,1,1,1,0],.c [1,1,0,1,0,0,1,1,0,0,1,0,1,1,1,1,1,1,1],.b 2,.b 1,.c [1,1,0,1,0,0,1,1,1],.l [1,1,0,1,0,0],.b 0,.c [1,1,1]] ?_
       obtain ⟨t2,ht2,heq⟩:=bind_some heq
       have K3:RunH C12 (S12 F H r) H w0 [.c [1,1,0,1,0,0,1,1,0,0,1,0,1,1,1,1,1,1,1],.b 2,.b 1,.c [1,1,0,1,0,0,1,1,1],.l [1,1,0,1,0,0],.b 0,.c [1,1,1]] [(0,.slice Aa0 a0.length ca0),(8,.slice Aa0 a0.length ca0),(9,iv (a0.length:Int)),(10,iv v10),(36,.bool t2)] H (F):=by
        rcases bool_cases (t2) with hb8 | hb8
        ·replace heq:=bif_true hb8 heq
         refine Ct t2 hb8<|Ra 1 [1,1,0,1,0,0,1,1,0,0,1,0,1,1,1,1,1,1,1,0,0] [.c [1,1,0,1,0,0,1,1,0,0,1,0,1,1,1,1,1,1,1,0,1],.b 2,.b 1,.c [1,1,0,1,0,0,1,1,1],.l [1,1,0,1,0,0],.b 0,.c [1,1,1]]<|Rd 1 [2] [(2,iv 8)] ?_
         obtain rfl:=Option.some.inj heq
         exact RunH.done (by kernel_rfl) Tryd.func12 (v:=iv 8) (by kernel_rfl) ⟨rfl,rfl,rfl⟩
        ·replace heq:=bif_false hb8 heq
         refine Cf t2 hb8<|Ra 3 [1,1,0,1,0,0,1,1,1] [.l [1,1,0,1,0,0],.b 0,.c [1,1,1]]<|Rd 2 [0,8,9,10] [(0,.slice Aa0 a0.length ca0),(8,.slice Aa0 a0.length ca0),(9,iv (a0.length:Int)),(10,iv (w64 (v10+1)))]<|Ad 1 [.c [1,1,0,1,0,0],.l [1,1,0,1,0,0],.b 0,.c [1,1,1]]<|Kp [0,8,9,10] [(0,.slice Aa0 a0.length ca0),(8,.slice Aa0 a0.length ca0),(9,iv (a0.length:Int)),(10,iv (w64 (v10+1)))] ?_
         exact ihk a0 _ _ (w64 (v10+1)) hra0 hca0 heq
       replace heq:=ht2
       refine Kp [0,3,4,8,9,10] [(0,.slice Aa0 a0.length ca0),(3,iv v10),(4,pg g1 0),(8,.slice Aa0 a0.length ca0),(9,iv (a0.length:Int)),(10,iv v10)] ?_
       refine RunH.draw (fun w=>Heap H w0 w ((some (g1,.cells #[.string x1.Test,.string x1.Key,iv x1.At,.bool x1.Pass,iv x1.Seconds] 25 (0,0)))::F)) (fun w=>Heap H w0 w ((some (g1,.cells #[.string x1.Test,.string x1.Key,iv x1.At,.bool x1.Pass,iv x1.Seconds] 25 (0,0)))::F)) [3,3,3,3,3,3,3,3,3,3,3,3,3,3] (n:=14) (ls:=[false,false,false,false,false,false,false,false,false,false,false,false,false,false]) (by kernel_rfl) (by kernel_rfl) (by kernel_rfl) rfl ?_
       refine Dk [0,1,2] 11 (nb 14 7) [] [] [39,0,3,4,8,9,10] [(39,.bool (decide (0<v10))),(0,.slice Aa0 a0.length ca0),(3,iv v10),(4,pg g1 0),(8,.slice Aa0 a0.length ca0),(9,iv (a0.length:Int)),(10,iv v10)] (Pk 1 [0]) (Pk 1 [0]) (fun _ _=>trivial) ?_
       rcases bool_cases (decide (0<v10)) with hb7 | hb7
       ·replace heq:=bif_true hb7 heq
        refine DrH.val1 (v':=.bool true) (congrArg Value.bool hb7) ?_
        obtain ⟨x2,hx2,heq⟩:=bind_some heq
        obtain ⟨ha2,cs2,hK2,hcc2⟩:=hra0.get hx2
        obtain ⟨rfl⟩:=kTestRun_open hK2
        refine Dk [3,4,5,6,7,8,9,10,11,12,13] 0 (nb 14 16383) [iv x1.At,iv x2.At] [.load ⟨g1,2,none⟩ (iv x1.At),.need (Aa0=some (adr Aa0)∧(0:Int)≤(w64 (v10 - 1))∧(w64 (v10 - 1))<((a0.length:Nat):Int)),.load (((adr Aa0).add ((w64 (v10 - 1)).toNat*5)).add 2) (iv x2.At)] [0,8,9,10,36] [(0,.slice Aa0 a0.length ca0),(8,.slice Aa0 a0.length ca0),(9,iv (a0.length:Int)),(10,iv v10),(36,.bool (decide (x1.At<x2.At)))] (Pk 1 [0]) (Pk 1 [0]) (fun w hh=>⟨(hh.box 0 rfl rfl),⟨ha2,(at?_some hx2).1,(at?_some hx2).2.1⟩,(hcc2 _ _ (hh.drop 1) 2 _ rfl)⟩) ?_
        obtain rfl:=Option.some.inj heq
        refine Kr [0,8,9,10,36] [(0,.slice Aa0 a0.length ca0),(8,.slice Aa0 a0.length ca0),(9,iv (a0.length:Int)),(10,iv v10),(36,.bool (decide (x1.At<x2.At)))] ?_
        refine DrH.pick 1 [] (cs':=F) (by kernel_rfl) rfl ?_
        refine DrH.done (by kernel_rfl) ?_
        exact K3
       ·replace heq:=bif_false hb7 heq
        refine DrH.val1 (v':=.bool false) (congrArg Value.bool hb7) ?_
        refine Dk [3,4,5,6,7,8,9,10,11,12,13] 0 (nb 14 16383) [] [] [0,8,9,10,36] [(0,.slice Aa0 a0.length ca0),(8,.slice Aa0 a0.length ca0),(9,iv (a0.length:Int)),(10,iv v10),(36,.bool false)] (Pk 1 [0]) (Pk 1 [0]) (fun _ _=>trivial) ?_
        obtain rfl:=Option.some.inj heq
        refine Kr [0,8,9,10,36] [(0,.slice Aa0 a0.length ca0),(8,.slice Aa0 a0.length ca0),(9,iv (a0.length:Int)),(10,iv v10),(36,.bool false)] ?_
        refine DrH.pick 1 [] (cs':=F) (by kernel_rfl) rfl ?_
        refine DrH.done (by kernel_rfl) ?_
        exact K3
     replace heq:=ht1
     refine Rr<|Rv 2 [0,3,4,8,9,10,27] [iv x1.At] [.load ⟨g1,2,none⟩ (iv x1.At)] [(0,.slice Aa0 a0.length ca0),(3,iv v10),(4,pg g1 0),(8,.slice Aa0 a0.length ca0),(9,iv (a0.length:Int)),(10,iv v10),(27,iv x1.At)] (fun w hh=>(hh.box 0 rfl rfl)) ?_
     obtain ⟨y3,hy3,heq⟩:=bind_some heq
     refine RgH.does (DoesH.call (d:=28) (g:=27) (args:=#[iv x1.At,iv 0,iv 1000000000]) (by kernel_rfl) (trials_within_c (a0:=x1.At) (a1:=0) (a2:=1000000000)  hy3)) ?_
     rintro _ _ _ _ ⟨_,rfl,rfl,rfl,rfl⟩
     refine Rk 5 [30,0,3,4,8,9,10] [(30,.bool (!y3)),(0,.slice Aa0 a0.length ca0),(3,iv v10),(4,pg g1 0),(8,.slice Aa0 a0.length ca0),(9,iv (a0.length:Int)),(10,iv v10)] ?_
     rcases bool_cases (!y3) with hb5 | hb5
     ·replace heq:=bif_true hb5 heq
      refine RgH.val1 (v':=.bool true) (congrArg Value.bool hb5) ?_
      refine Rk 11 [0,3,4,8,9,10,25] [(0,.slice Aa0 a0.length ca0),(3,iv v10),(4,pg g1 0),(8,.slice Aa0 a0.length ca0),(9,iv (a0.length:Int)),(10,iv v10),(25,.bool true)] ?_
      obtain rfl:=Option.some.inj heq
      refine Kg [0,3,4,8,9,10,25] [(0,.slice Aa0 a0.length ca0),(3,iv v10),(4,pg g1 0),(8,.slice Aa0 a0.length ca0),(9,iv (a0.length:Int)),(10,iv v10),(25,.bool true)]<|Dn ?_
      exact K2
     ·replace heq:=bif_false hb5 heq
      refine RgH.val1 (v':=.bool false) (congrArg Value.bool hb5) ?_
      refine Rv 7 [0,3,4,8,9,10,30,32] [iv x1.Seconds] [.load ⟨g1,4,none⟩ (iv x1.Seconds)] [(0,.slice Aa0 a0.length ca0),(3,iv v10),(4,pg g1 0),(8,.slice Aa0 a0.length ca0),(9,iv (a0.length:Int)),(10,iv v10),(30,.bool false),(32,iv x1.Seconds)] (fun w hh=>(hh.box 0 rfl rfl)) ?_
      obtain ⟨y4,hy4,heq⟩:=bind_some heq
      refine RgH.does (DoesH.call (d:=33) (g:=27) (args:=#[iv x1.Seconds,iv 0,iv 100000]) (by kernel_rfl) (trials_within_c (a0:=x1.Seconds) (a1:=0) (a2:=100000)  hy4)) ?_
      rintro _ _ _ _ ⟨_,rfl,rfl,rfl,rfl⟩
      refine Rk 11 [0,3,4,8,9,10,25] [(0,.slice Aa0 a0.length ca0),(3,iv v10),(4,pg g1 0),(8,.slice Aa0 a0.length ca0),(9,iv (a0.length:Int)),(10,iv v10),(25,.bool (!y4))] ?_
      obtain rfl:=Option.some.inj heq
      refine Kg [0,3,4,8,9,10,25] [(0,.slice Aa0 a0.length ca0),(3,iv v10),(4,pg g1 0),(8,.slice Aa0 a0.length ca0),(9,iv (a0.length:Int)),(10,iv v10),(25,.bool (!y4))]<|Dn ?_
      exact K2
  ·replace heq:=bif_false hb2 heq
   refine Cf (decide (v10<(a0.length:Int))) hb2<|Ad 2 [.c [1,1,1,0],.c [1,1,1,1]]<|Kp [] [] ?_
   exact he1 heq
theorem trials_CheckHistory_c {w0:World} [GlobI 0 w0] {H:Hp} {F:List Ch} {a0:List TestRun} {Aa0:Option Addr} {na0:Nat} {ca0:Nat} {r:Int} (hra0:Rw kTestRun H F Aa0 a0) (hca0:na0≤ca0) (hna0:na0=a0.length) (heq:trials_CheckHistory.f a0=some r):CallsH Tryd.prog 12 #[.slice Aa0 na0 ca0] H w0 (F) (S12 F H r):=by
 refine calls_of_runH (F:=C12) Tryd.func12 (by kernel_rfl) Tryd.ntmps12 (args:=[.slice Aa0 na0 ca0]) (by kernel_rfl) ?_
 subst hna0
 unfold trials_CheckHistory.f at heq
 refine Ra 1 [0] [.c [1]]<|Rd 1 [0] [(0,.slice Aa0 a0.length ca0)]<|Ra 2 [1,0,0] [.c [1,0,1],.c [1,1]]<|Rd 3 [0,7] [(0,.slice Aa0 a0.length ca0),(7,.bool (decide (3000<(a0.length:Int))))] ?_
 rcases bool_cases (decide (3000<(a0.length:Int))) with hb1 | hb1
 ·replace heq:=bif_true hb1 heq
  refine Ct (decide (3000<(a0.length:Int))) hb1<|Ra 1 [1,0,1,0,0] [.c [1,0,1,0,1],.c [1,1]]<|Rd 1 [2] [(2,iv 2)] ?_
  obtain rfl:=Option.some.inj heq
  exact RunH.done (by kernel_rfl) Tryd.func12 (v:=iv 2) (by kernel_rfl) ⟨rfl,rfl,rfl⟩
 ·replace heq:=bif_false hb1 heq
  refine Cf (decide (3000<(a0.length:Int))) hb1<|Ra 3 [1,1,0,0] [.c [1,1,0,1],.c [1,1,1]]<|Rd 3 [0,8,9,10] [(0,.slice Aa0 a0.length ca0),(8,.slice Aa0 a0.length ca0),(9,iv (a0.length:Int)),(10,iv 0)]<|Ad 2 [.c [1,1,0,1,0,0],.l [1,1,0,1,0,0],.b 0,.c [1,1,1]]<|Kp [0,8,9,10] [(0,.slice Aa0 a0.length ca0),(8,.slice Aa0 a0.length ca0),(9,iv (a0.length:Int)),(10,iv 0)] ?_
  exact ((trials_CheckHistory.l2_c (e1:=trials_CheckHistory.e1) (trials_CheckHistory.e1_c)) big) a0 _ _ 0 hra0 hca0 heq
noncomputable def C13:Ctx:={ P:=Tryd.prog,f:=13,N:=40,c:=bodyOf Tryd.f13 }
def S13 (F:List Ch) (H0:Hp) (r:(List (trials_id × trials_tally))) (v:Value) (H:Hp) (cs:List Ch):Prop:=∃ (g0:Nat) (ch0:Ch),H0=H∧v=.map (some g0)∧ch0::F=cs∧MpOwn etrials_id ktrials_tally true H g0 r ch0
theorem trials_tallies.e1_c {w0:World} [GlobI 0 w0] {H:Hp} {F:List Ch} {r:(List (trials_id × trials_tally))}:∀ (v_out3:List (trials_id × trials_tally)) (gv_out3:Nat) (chv_out3:Ch) ,MpOwn etrials_id ktrials_tally true H gv_out3 v_out3 chv_out3→trials_tallies.e1 v_out3=some r→RunH C13 (S13 F H r) H w0 [.c [1,1,1,0],.c [1,1,1,1]] [(3,.map (some gv_out3))] H (chv_out3::F):=by
 intro v_out3 gv_out3 chv_out3 hov_out3 heq
 unfold trials_tallies.e1 at heq
 refine Rr<|Rd 2 [2] [(2,.map (some gv_out3))] ?_
 obtain rfl:=Option.some.inj heq
 exact RunH.done (by kernel_rfl) Tryd.func13 (v:=.map (some gv_out3)) (by kernel_rfl) ⟨gv_out3,chv_out3,rfl,rfl,rfl,hov_out3⟩
theorem trials_tallies.j3_c {w0:World} [GlobI 0 w0] {H:Hp} {F:List Ch} {r:(List (trials_id × trials_tally))} (backl2:(List TestRun)→(List (trials_id × trials_tally))→Int→Option (List (trials_id × trials_tally)))
  (hbackl2:∀ (a0:List TestRun) (Aa0:Option Addr) (ca0:Nat) (v_out3:List (trials_id × trials_tally)) (gv_out3:Nat) (chv_out3:Ch) (v10:Int) ,Rw kTestRun H F Aa0 a0→a0.length≤ca0→MpOwn etrials_id ktrials_tally true H gv_out3 v_out3 chv_out3→backl2 a0 v_out3 v10=some r→RunH C13 (S13 F H r) H w0 [.c [1,1,0,1,0,0],.l [1,1,0,1,0,0],.b 0,.c [1,1,1]] [(3,.map (some gv_out3)),(8,.slice Aa0 a0.length ca0),(9,iv (a0.length:Int)),(10,iv v10)] H (chv_out3::F)):∀ (a0:List TestRun) (Aa0:Option Addr) (ca0:Nat) (v_out3:List (trials_id × trials_tally)) (gv_out3:Nat) (chv_out3:Ch) (v10:Int) (x1:TestRun) (g2:Nat) (g3:Nat) (v_t6_0:Int) (v_t6_1:Int) ,Rw kTestRun H F Aa0 a0→a0.length≤ca0→MpOwn etrials_id ktrials_tally true H gv_out3 v_out3 chv_out3→trials_tallies.j3 backl2 a0 v_out3 v10 x1 v_t6_0 v_t6_1=some r→RunH C13 (S13 F H r) H w0 [.c [1,1,0,1,0,0,1,1,0,0,1,1,1],.b 1,.c [1,1,0,1,0,0,1,1,1],.l [1,1,0,1,0,0],.b 0,.c [1,1,1]] [(3,.map (some gv_out3)),(5,pg g2 0),(6,pg g3 0),(8,.slice Aa0 a0.length ca0),(9,iv (a0.length:Int)),(10,iv v10)] H ((some (g3,.cells #[iv v_t6_0,iv v_t6_1] 45 (0,0)))::(some (g2,.cells #[.string x1.Test,.string x1.Key,iv x1.At,.bool x1.Pass,iv x1.Seconds] 25 (0,0)))::chv_out3::F):=by
 intro a0 Aa0 ca0 v_out3 gv_out3 chv_out3 v10 x1 g2 g3 v_t6_0 v_t6_1 hra0 hca0 hov_out3 heq
 unfold trials_tallies.j3 at heq
 refine Rr<|Rv 7 [3,8,9,10,31,36,37] [.string x1.Test,.string x1.Key,iv v_t6_0,iv v_t6_1] [.load ⟨g2,0,none⟩ (.string x1.Test),.load ⟨g2,1,none⟩ (.string x1.Key),.load ⟨g3,0,none⟩ (iv v_t6_0),.load ⟨g3,1,none⟩ (iv v_t6_1)] [(3,.map (some gv_out3)),(8,.slice Aa0 a0.length ca0),(9,iv (a0.length:Int)),(10,iv v10),(31,.map (some gv_out3)),(36,.agg #[.string x1.Test,.string x1.Key]),(37,.agg #[iv v_t6_0,iv v_t6_1])] (fun w hh=>⟨(hh.box 1 rfl rfl),(hh.box 1 rfl rfl),(hh.box 0 rfl rfl),(hh.box 0 rfl rfl)⟩) ?_
 refine RgH.does (DoesH.mapUpdate (kk:=2) (cv:=[iv v_t6_0,iv v_t6_1]) (k:=(⟨x1.Test,x1.Key⟩:trials_id)) (v:=(⟨v_t6_0,v_t6_1⟩:trials_tally)) (by kernel_rfl) kytrials_id rfl ktrials_tally_mk rfl hov_out3) ?_
 rintro _ _ _ _ ⟨ch1,rfl,rfl,rfl,ho2⟩
 refine Dn<|Ra 1 [1,1,0,1,0,0,1,1,1] [.l [1,1,0,1,0,0],.b 0,.c [1,1,1]]<|Rd 2 [3,8,9,10] [(3,.map (some gv_out3)),(8,.slice Aa0 a0.length ca0),(9,iv (a0.length:Int)),(10,iv (w64 (v10+1)))]<|Ad 1 [.c [1,1,0,1,0,0],.l [1,1,0,1,0,0],.b 0,.c [1,1,1]]<|Kp [3,8,9,10] [(3,.map (some gv_out3)),(8,.slice Aa0 a0.length ca0),(9,iv (a0.length:Int)),(10,iv (w64 (v10+1)))] ?_
 refine RunH.pick 3 [2] (cs':=ch1::F) (by kernel_rfl) rfl ?_
 exact hbackl2 a0 _ _ (mput v_out3 (⟨x1.Test,x1.Key⟩:trials_id) (⟨v_t6_0,v_t6_1⟩:trials_tally)) _ _ (w64 (v10+1)) hra0 hca0 ho2 heq
theorem trials_tallies.l2_c {w0:World} [GlobI 0 w0] {H:Hp} {F:List Ch} {r:(List (trials_id × trials_tally))} (e1:(List (trials_id × trials_tally))→Option (List (trials_id × trials_tally)))
  (he1:∀ (v_out3:List (trials_id × trials_tally)) (gv_out3:Nat) (chv_out3:Ch) ,MpOwn etrials_id ktrials_tally true H gv_out3 v_out3 chv_out3→e1 v_out3=some r→RunH C13 (S13 F H r) H w0 [.c [1,1,1,0],.c [1,1,1,1]] [(3,.map (some gv_out3))] H (chv_out3::F)):∀ (k:Nat),∀ (a0:List TestRun) (Aa0:Option Addr) (ca0:Nat) (v_out3:List (trials_id × trials_tally)) (gv_out3:Nat) (chv_out3:Ch) (v10:Int) ,Rw kTestRun H F Aa0 a0→a0.length≤ca0→MpOwn etrials_id ktrials_tally true H gv_out3 v_out3 chv_out3→trials_tallies.l2 e1 k a0 v_out3 v10=some r→RunH C13 (S13 F H r) H w0 [.c [1,1,0,1,0,0],.l [1,1,0,1,0,0],.b 0,.c [1,1,1]] [(3,.map (some gv_out3)),(8,.slice Aa0 a0.length ca0),(9,iv (a0.length:Int)),(10,iv v10)] H (chv_out3::F):=by
 intro k
 induction k with
 | zero=>intro a0 Aa0 ca0 v_out3 gv_out3 chv_out3 v10 hra0 hca0 hov_out3 heq; exact nomatch (show (none:Option (List (trials_id × trials_tally)))=some r from heq)
 | succ k ihk =>
  intro a0 Aa0 ca0 v_out3 gv_out3 chv_out3 v10 hra0 hca0 hov_out3 heq
  rw [trials_tallies.l2] at heq
  refine Ra 1 [1,1,0,1,0,0,0] [.c [1,1,0,1,0,0,1],.l [1,1,0,1,0,0],.b 0,.c [1,1,1]]<|Rd 1 [3,8,9,10,11] [(3,.map (some gv_out3)),(8,.slice Aa0 a0.length ca0),(9,iv (a0.length:Int)),(10,iv v10),(11,.bool (decide (v10<(a0.length:Int))))]<|Ad 1 [.c [1,1,0,1,0,0,1,0],.c [1,1,0,1,0,0,1,1],.l [1,1,0,1,0,0],.b 0,.c [1,1,1]] ?_
  rcases bool_cases (decide (v10<(a0.length:Int))) with hb1 | hb1
  ·replace heq:=bif_true hb1 heq
   refine Ct (decide (v10<(a0.length:Int))) hb1<|Ra 4 [1,1,0,1,0,0,1,1,0,0,0] [.c [1,1,0,1,0,0,1,1,0,0,1],.b 1,.c [1,1,0,1,0,0,1,1,1],.l [1,1,0,1,0,0],.b 0,.c [1,1,1]] ?_
   obtain ⟨x1,hx1,heq⟩:=bind_some heq
   obtain ⟨ha1,cs1,hK1,hcc1⟩:=hra0.get hx1
   obtain ⟨rfl⟩:=kTestRun_open hK1
   refine Rv 2 [3,8,9,10,13] [.string x1.Test,.string x1.Key,iv x1.At,.bool x1.Pass,iv x1.Seconds] [.need (Aa0=some (adr Aa0)∧(0:Int)≤v10∧v10<((a0.length:Nat):Int)),.load (((adr Aa0).add (v10.toNat*5)).add 0) (.string x1.Test),.load (((adr Aa0).add (v10.toNat*5)).add 1) (.string x1.Key),.load (((adr Aa0).add (v10.toNat*5)).add 2) (iv x1.At),.load (((adr Aa0).add (v10.toNat*5)).add 3) (.bool x1.Pass),.load (((adr Aa0).add (v10.toNat*5)).add 4) (iv x1.Seconds)] [(3,.map (some gv_out3)),(8,.slice Aa0 a0.length ca0),(9,iv (a0.length:Int)),(10,iv v10),(13,.agg #[.string x1.Test,.string x1.Key,iv x1.At,.bool x1.Pass,iv x1.Seconds])] (fun w hh=>⟨⟨ha1,(at?_some hx1).1,(at?_some hx1).2.1⟩,(hcc1 _ _ (hh.drop 1) 0 _ rfl),(hcc1 _ _ (hh.drop 1) 1 _ rfl),(hcc1 _ _ (hh.drop 1) 2 _ rfl),(hcc1 _ _ (hh.drop 1) 3 _ rfl),(hcc1 _ _ (hh.drop 1) 4 _ rfl)⟩) ?_
   refine RgH.does (DoesH.new (d:=5) (v:=fun g=>.pointer (some ⟨g,0,none⟩)) (o:=fun g=>.cells #[.string ByteArray.empty,.string ByteArray.empty,iv 0,.bool false,iv 0] 25 (0,0)) (fun g=>by kernel_rfl)) ?_
   rintro _ _ _ _ ⟨g2,rfl,rfl,rfl⟩
   refine RgH.does (DoesH.store (k:=0) (g:=g2) (off:=0) (v:=.agg #[.string x1.Test,.string x1.Key,iv x1.At,.bool x1.Pass,iv x1.Seconds]) (cells':=#[.string x1.Test,.string x1.Key,iv x1.At,.bool x1.Pass,iv x1.Seconds]) (by kernel_rfl) rfl (by kernel_rfl) (by kernel_rfl)) ?_
   rintro _ _ _ _ ⟨rfl,rfl,rfl⟩
   refine Dn<|Ra 1 [1,1,0,1,0,0,1,1,0,0,1,0] [.c [1,1,0,1,0,0,1,1,0,0,1,1],.b 1,.c [1,1,0,1,0,0,1,1,1],.l [1,1,0,1,0,0],.b 0,.c [1,1,1]]<|Rv 6 [3,5,8,9,10,14,19] [.string x1.Test,.string x1.Key] [.load ⟨g2,0,none⟩ (.string x1.Test),.load ⟨g2,1,none⟩ (.string x1.Key)] [(3,.map (some gv_out3)),(5,pg g2 0),(8,.slice Aa0 a0.length ca0),(9,iv (a0.length:Int)),(10,iv v10),(14,.map (some gv_out3)),(19,.agg #[.string x1.Test,.string x1.Key])] (fun w hh=>⟨(hh.box 0 rfl rfl),(hh.box 0 rfl rfl)⟩) ?_
   refine RgH.does (DoesH.lookup (d:=20) (t:=40) (m:=v_out3) (k:=(⟨x1.Test,x1.Key⟩:trials_id)) (z:=.agg #[iv 0,iv 0]) (zc:=[iv 0,iv 0]) (z0:=(⟨0,0⟩:trials_tally)) (ok:=false) (kd:=ktrials_tally) (ag:=true) (by kernel_rfl) kytrials_id rfl ktrials_tally_mk (fun w hh=>hov_out3.on (hh.chin 1 rfl))) ?_
   rintro _ _ _ _ ⟨cc1,rfl,rfl,rfl,hcc2⟩
   obtain ⟨x2,hx2,heq⟩:=bind_some heq
   replace hx2:=Option.some.inj hx2
   rw [hx2] at hcc2
   obtain ⟨rfl⟩:=ktrials_tally_open hcc2
   refine RgH.val1 (v':=.agg #[iv x2.passed,iv x2.failed]) rfl ?_
   refine RgH.does (DoesH.new (d:=6) (v:=fun g=>.pointer (some ⟨g,0,none⟩)) (o:=fun g=>.cells #[iv 0,iv 0] 45 (0,0)) (fun g=>by kernel_rfl)) ?_
   rintro _ _ _ _ ⟨g3,rfl,rfl,rfl⟩
   refine RgH.does (DoesH.store (k:=0) (g:=g3) (off:=0) (v:=.agg #[iv x2.passed,iv x2.failed]) (cells':=#[iv x2.passed,iv x2.failed]) (by kernel_rfl) rfl (by kernel_rfl) (by kernel_rfl)) ?_
   rintro _ _ _ _ ⟨rfl,rfl,rfl⟩
   refine Dn<|Ra 2 [1,1,0,1,0,0,1,1,0,0,1,1,0,0] [.c [1,1,0,1,0,0,1,1,0,0,1,1,0,1],.c [1,1,0,1,0,0,1,1,0,0,1,1,1],.b 1,.c [1,1,0,1,0,0,1,1,1],.l [1,1,0,1,0,0],.b 0,.c [1,1,1]]<|Rw' 2 [3,5,6,8,9,10,22] [.bool x1.Pass] [.load ⟨g2,3,none⟩ (.bool x1.Pass)] [(3,.map (some gv_out3)),(5,pg g2 0),(6,pg g3 0),(8,.slice Aa0 a0.length ca0),(9,iv (a0.length:Int)),(10,iv v10),(22,.bool x1.Pass)] (fun w hh=>(hh.box 1 rfl rfl)) ?_
   rcases bool_cases (x1.Pass) with hb2 | hb2
   ·replace heq:=bif_true hb2 heq
    refine Ct x1.Pass hb2<|Rr<|Rv 4 [3,5,6,8,9,10,25,26] [iv x2.passed] [.load ⟨g3,0,none⟩ (iv x2.passed)] [(3,.map (some gv_out3)),(5,pg g2 0),(6,pg g3 0),(8,.slice Aa0 a0.length ca0),(9,iv (a0.length:Int)),(10,iv v10),(25,iv (w64 (x2.passed+1))),(26,pg g3 0)] (fun w hh=>(hh.box 0 rfl rfl)) ?_
    refine RgH.does (DoesH.store (k:=0) (g:=g3) (off:=0) (v:=iv (w64 (x2.passed+1))) (cells':=#[iv (w64 (x2.passed+1)),iv x2.failed]) (by kernel_rfl) rfl (by kernel_rfl) (by kernel_rfl)) ?_
    rintro _ _ _ _ ⟨rfl,rfl,rfl⟩
    refine Dn<|Kp [3,5,6,8,9,10] [(3,.map (some gv_out3)),(5,pg g2 0),(6,pg g3 0),(8,.slice Aa0 a0.length ca0),(9,iv (a0.length:Int)),(10,iv v10)] ?_
    exact (trials_tallies.j3_c (backl2:=(trials_tallies.l2 e1 k)) ihk) a0 _ _ v_out3 _ _ v10 x1 _ _ (w64 (x2.passed+1)) x2.failed hra0 hca0 hov_out3 heq
   ·replace heq:=bif_false hb2 heq
    refine Cf x1.Pass hb2<|Rr<|Rv 4 [3,5,6,8,9,10,29,30] [iv x2.failed] [.load ⟨g3,1,none⟩ (iv x2.failed)] [(3,.map (some gv_out3)),(5,pg g2 0),(6,pg g3 0),(8,.slice Aa0 a0.length ca0),(9,iv (a0.length:Int)),(10,iv v10),(29,iv (w64 (x2.failed+1))),(30,pg g3 1)] (fun w hh=>(hh.box 0 rfl rfl)) ?_
    refine RgH.does (DoesH.store (k:=0) (g:=g3) (off:=1) (v:=iv (w64 (x2.failed+1))) (cells':=#[iv x2.passed,iv (w64 (x2.failed+1))]) (by kernel_rfl) rfl (by kernel_rfl) (by kernel_rfl)) ?_
    rintro _ _ _ _ ⟨rfl,rfl,rfl⟩
    refine Dn<|Kp [3,5,6,8,9,10] [(3,.map (some gv_out3)),(5,pg g2 0),(6,pg g3 0),(8,.slice Aa0 a0.length ca0),(9,iv (a0.length:Int)),(10,iv v10)] ?_
    exact (trials_tallies.j3_c (backl2:=(trials_tallies.l2 e1 k)) ihk) a0 _ _ v_out3 _ _ v10 x1 _ _ x2.passed (w64 (x2.failed+1)) hra0 hca0 hov_out3 heq
  ·replace heq:=bif_false hb1 heq
   refine Cf (decide (v10<(a0.length:Int))) hb1<|Ad 2 [.c [1,1,1,0],.c [1,1,1,1]]<|Kp [3] [(3,.map (some gv_out3))] ?_
   exact he1 v_out3 _ _ hov_out3 heq
theorem trials_tallies_c {w0:World} [GlobI 0 w0] {H:Hp} {F:List Ch} {a0:List TestRun} {Aa0:Option Addr} {na0:Nat} {ca0:Nat} {r:(List (trials_id × trials_tally))} (hra0:Rw kTestRun H F Aa0 a0) (hca0:na0≤ca0) (hna0:na0=a0.length) (heq:trials_tallies.f a0=some r):CallsH Tryd.prog 13 #[.slice Aa0 na0 ca0] H w0 (F) (S13 F H r):=by
 refine calls_of_runH (F:=C13) Tryd.func13 (by kernel_rfl) Tryd.ntmps13 (args:=[.slice Aa0 na0 ca0]) (by kernel_rfl) ?_
 subst hna0
 unfold trials_tallies.f at heq
 refine Ra 1 [0] [.c [1]]<|Rd 1 [0] [(0,.slice Aa0 a0.length ca0)]<|Ra 1 [1,0] [.c [1,1]] ?_
 refine RgH.does (DoesH.new (d:=7) (v:=fun g=>.map (some g)) (o:=fun g=>.map #[] 0) (fun g=>by kernel_rfl)) ?_
 rintro _ _ _ _ ⟨g1,rfl,rfl,rfl⟩
 have ho1:MpOwn etrials_id ktrials_tally true H g1 ([]:List (trials_id × trials_tally)) (some (g1,.map #[] 0)):=MpOwn.made
 refine Rd 2 [0,3] [(0,.slice Aa0 a0.length ca0),(3,.map (some g1))]<|Ra 2 [1,1,0,0] [.c [1,1,0,1],.c [1,1,1]]<|Rd 3 [3,8,9,10] [(3,.map (some g1)),(8,.slice Aa0 a0.length ca0),(9,iv (a0.length:Int)),(10,iv 0)]<|Ad 2 [.c [1,1,0,1,0,0],.l [1,1,0,1,0,0],.b 0,.c [1,1,1]]<|Kp [3,8,9,10] [(3,.map (some g1)),(8,.slice Aa0 a0.length ca0),(9,iv (a0.length:Int)),(10,iv 0)] ?_
 exact ((trials_tallies.l2_c (e1:=trials_tallies.e1) (trials_tallies.e1_c)) big) a0 _ _ ([]:List (trials_id × trials_tally)) _ _ 0 hra0 hca0 ho1 heq
noncomputable def C14:Ctx:={ P:=Tryd.prog,f:=14,N:=18,c:=bodyOf Tryd.f14 }
def S14 (F:List Ch) (H0:Hp) (r:Int) (v:Value) (H:Hp) (cs:List Ch):Prop:=H0=H∧v=iv r∧F=cs
theorem trials_tally_verdict_c {w0:World} [GlobI 0 w0] {H:Hp} {F:List Ch} {a0:trials_tally} {r:Int} (heq:trials_tally_verdict.f a0=some r):CallsH Tryd.prog 14 #[.agg #[iv a0.passed,iv a0.failed]] H w0 (F) (S14 F H r):=by
 refine calls_of_runH (F:=C14) Tryd.func14 (by kernel_rfl) Tryd.ntmps14 (args:=[.agg #[iv a0.passed,iv a0.failed]]) (by kernel_rfl) ?_
 unfold trials_tally_verdict.f at heq
 refine Ra 1 [0] [.c [1]] ?_
 refine RgH.does (DoesH.new (d:=1) (v:=fun g=>.pointer (some ⟨g,0,none⟩)) (o:=fun g=>.cells #[iv a0.passed,iv a0.failed] 45 (0,0)) (fun g=>by kernel_rfl)) ?_
 rintro _ _ _ _ ⟨g1,rfl,rfl,rfl⟩
 refine Rd 2 [1] [(1,pg g1 0)]<|Ra 3 [1,0,0,0] [.c [1,0,0,1],.b 0,.c [1,1]]<|Rw' 7 [1,3] [iv a0.passed,iv a0.failed] [.load ⟨g1,0,none⟩ (iv a0.passed),.load ⟨g1,1,none⟩ (iv a0.failed)] [(1,pg g1 0),(3,.bool ((w64 (a0.passed+a0.failed)) == 0))] (fun w hh=>⟨(hh.box 0 rfl rfl),(hh.box 0 rfl rfl)⟩) ?_
 rcases bool_cases ((w64 (a0.passed+a0.failed)) == 0) with hb1 | hb1
 ·replace heq:=bif_true hb1 heq
  refine Ct ((w64 (a0.passed+a0.failed)) == 0) hb1<|Ra 1 [1,0,0,1,0,0] [.c [1,0,0,1,0,1],.b 0,.c [1,1]]<|Rd 1 [2] [(2,iv 1)] ?_
  obtain rfl:=Option.some.inj heq
  refine RunH.pick 1 [] (cs':=F) (by kernel_rfl) rfl ?_
  exact RunH.done (by kernel_rfl) Tryd.func14 (v:=iv 1) (by kernel_rfl) ⟨rfl,rfl,rfl⟩
 ·replace heq:=bif_false hb1 heq
  refine Cf ((w64 (a0.passed+a0.failed)) == 0) hb1<|Ra 1 [1,0,0,1,1,0] [.c [1,0,0,1,1,1],.b 0,.c [1,1]]<|Rw' 4 [1,10] [iv a0.failed] [.load ⟨g1,1,none⟩ (iv a0.failed)] [(1,pg g1 0),(10,.bool (a0.failed == 0))] (fun w hh=>(hh.box 0 rfl rfl)) ?_
  rcases bool_cases (a0.failed == 0) with hb2 | hb2
  ·replace heq:=bif_true hb2 heq
   refine Ct (a0.failed == 0) hb2<|Ra 1 [1,0,0,1,1,1,0,0] [.c [1,0,0,1,1,1,0,1],.b 0,.c [1,1]]<|Rd 1 [2] [(2,iv 2)] ?_
   obtain rfl:=Option.some.inj heq
   refine RunH.pick 1 [] (cs':=F) (by kernel_rfl) rfl ?_
   exact RunH.done (by kernel_rfl) Tryd.func14 (v:=iv 2) (by kernel_rfl) ⟨rfl,rfl,rfl⟩
  ·replace heq:=bif_false hb2 heq
   refine Cf (a0.failed == 0) hb2<|Ra 1 [1,0,0,1,1,1,1,0] [.c [1,0,0,1,1,1,1,1],.b 0,.c [1,1]]<|Rw' 4 [14] [iv a0.passed] [.load ⟨g1,0,none⟩ (iv a0.passed)] [(14,.bool (a0.passed == 0))] (fun w hh=>(hh.box 0 rfl rfl)) ?_
   rcases bool_cases (a0.passed == 0) with hb3 | hb3
   ·replace heq:=bif_true hb3 heq
    refine Ct (a0.passed == 0) hb3<|Ra 1 [1,0,0,1,1,1,1,1,0,0] [.c [1,0,0,1,1,1,1,1,0,1],.b 0,.c [1,1]]<|Rd 1 [2] [(2,iv 3)] ?_
    obtain rfl:=Option.some.inj heq
    refine RunH.pick 1 [] (cs':=F) (by kernel_rfl) rfl ?_
    exact RunH.done (by kernel_rfl) Tryd.func14 (v:=iv 3) (by kernel_rfl) ⟨rfl,rfl,rfl⟩
   ·replace heq:=bif_false hb3 heq
    refine Cf (a0.passed == 0) hb3<|Ra 3 [1,1,0] [.c [1,1,1]]<|Rd 1 [2] [(2,iv 4)] ?_
    obtain rfl:=Option.some.inj heq
    refine RunH.pick 1 [] (cs':=F) (by kernel_rfl) rfl ?_
    exact RunH.done (by kernel_rfl) Tryd.func14 (v:=iv 4) (by kernel_rfl) ⟨rfl,rfl,rfl⟩
noncomputable def C5:Ctx:={ P:=Tryd.prog,f:=5,N:=31,c:=bodyOf Tryd.f5 }
def S5 (F:List Ch) (H0:Hp) (r:(List ByteArray) × Int) (v:Value) (H:Hp) (cs:List Ch):Prop:=∃ (A0:Option Addr) (c0:Nat) (ch0:Ch),H0=H∧v=.tuple #[.slice A0 r.1.length c0,iv r.2]∧ch0::F=cs∧SlOwn Kd.string 9 H A0 c0 r.1 ch0
theorem trials_Flaky.e1_c {w0:World} [GlobI 0 w0] {H:Hp} {F:List Ch} {r:(List ByteArray) × Int}:∀ (v_is5:List (ByteArray × Bool)) (gv_is5:Nat) (chv_is5:Ch) ,MpOwn Value.string Kd.bool false H gv_is5 v_is5 chv_is5→trials_Flaky.e1 v_is5=some r→RunH C5 (S5 F H r) H w0 [.c [1,1,1,1,0],.c [1,1,1,1,1]] [(5,.map (some gv_is5))] H (chv_is5::F):=by
 intro v_is5 gv_is5 chv_is5 hov_is5 heq
 unfold trials_Flaky.e1 at heq
 refine Rr<|Rk 1 [28] [(28,.map (some gv_is5))] ?_
 refine RgH.does (DoesH.call (d:=29) (g:=16) (args:=#[.map (some gv_is5)]) (by kernel_rfl) (keys_calls Shelf.Tryd.maps_Keys)) ?_
 rintro _ _ _ _ ⟨_,rfl,g4,rfl,rfl,rfl⟩
 obtain ⟨y3,hy3,heq⟩:=bind_some heq
 refine RgH.does (DoesH.call (d:=30) (g:=15) (args:=#[.func (.func 29) #[] #[.pointer (some ⟨g4,0,none⟩)]]) (by kernel_rfl) (sorted_calls (kB:=0) (kM:=1) Tryd.underlying9 Shelf.Tryd.slices_Sorted_keys rfl rfl hov_is5 hy3)) ?_
 rintro _ _ _ _ ⟨_,rfl,A1,c1,ch3,rfl,rfl,rfl,ho4⟩
 refine Rd 5 [2,3] [(2,.slice A1 y3.length c1),(3,iv 0)] ?_
 obtain rfl:=Option.some.inj heq
 refine RunH.pick 3 [0] (cs':=ch3::F) (by kernel_rfl) rfl ?_
 exact RunH.done (by kernel_rfl) Tryd.func5 (v:=.tuple #[.slice A1 y3.length c1,iv 0]) (by kernel_rfl) ⟨A1,c1,ch3,rfl,rfl,rfl,ho4⟩
theorem trials_Flaky.l2_c {w0:World} [GlobI 0 w0] {H:Hp} {F:List Ch} {r:(List ByteArray) × Int} (e1:(List (ByteArray × Bool))→Option ((List ByteArray) × Int))
  (he1:∀ (v_is5:List (ByteArray × Bool)) (gv_is5:Nat) (chv_is5:Ch) ,MpOwn Value.string Kd.bool false H gv_is5 v_is5 chv_is5→e1 v_is5=some r→RunH C5 (S5 F H r) H w0 [.c [1,1,1,1,0],.c [1,1,1,1,1]] [(5,.map (some gv_is5))] H (chv_is5::F)):∀ (k:Nat),∀ (y2:(List (trials_id × trials_tally))) (g2:Nat) (ch1:Ch) (g3:Nat) (v_is5:List (ByteArray × Bool)) (gv_is5:Nat) (chv_is5:Ch) (v16:List (trials_id × trials_tally)) (chv16:Ch) ,MpOwn Value.string Kd.bool false H gv_is5 v_is5 chv_is5→ItOwn etrials_id ktrials_tally true H g2 y2 v16 ch1 chv16 g3→trials_Flaky.l2 e1 k y2 v_is5 v16=some r→RunH C5 (S5 F H r) H w0 [.c [1,1,1,0,1,0,0],.l [1,1,1,0,1,0,0],.b 0,.c [1,1,1,1]] [(5,.map (some gv_is5)),(16,pg g3 0)] H (chv16::ch1::chv_is5::F):=by
 intro k
 induction k with
 | zero=>intro y2 g2 ch1 g3 v_is5 gv_is5 chv_is5 v16 chv16 hov_is5 hov16 heq; exact nomatch (show (none:Option ((List ByteArray) × Int))=some r from heq)
 | succ k ihk =>
  intro y2 g2 ch1 g3 v_is5 gv_is5 chv_is5 v16 chv16 hov_is5 hov16 heq
  rw [trials_Flaky.l2] at heq
  refine Ra 1 [1,1,1,0,1,0,0,0] [.c [1,1,1,0,1,0,0,1],.l [1,1,1,0,1,0,0],.b 0,.c [1,1,1,1]] ?_
  obtain ⟨hA1,hB1⟩:=rangeAll_some heq
  refine RgH.does (DoesH.next (d:=17) (k:=0) (kM:=1) (by kernel_rfl) rfl rfl hov16) ?_
  rintro _ _ _ _ (⟨hl1,rfl,rfl,rfl⟩ | ⟨l1_1,q1,l2_1,ch4,vq1,hl1,rfl,rfl,rfl,hc1⟩)
  ·replace heq:=hA1 hl1
   refine Rd 2 [5,16,18] [(5,.map (some gv_is5)),(16,pg g3 0),(18,.bool false)]<|Ad 1 [.c [1,1,1,0,1,0,0,1,0],.c [1,1,1,0,1,0,0,1,1],.l [1,1,1,0,1,0,0],.b 0,.c [1,1,1,1]]<|Cf false rfl<|Ad 2 [.c [1,1,1,1,0],.c [1,1,1,1,1]]<|Kp [5] [(5,.map (some gv_is5))] ?_
   refine RunH.pick 3 [2] (cs':=chv_is5::F) (by kernel_rfl) rfl ?_
   exact he1 v_is5 _ _ hov_is5 heq
  ·replace heq:=hB1 l1_1 q1 l2_1 hl1
   generalize l1_1++l2_1=lv1 at hc1 heq
   refine Rd 2 [5,16,18] [(5,.map (some gv_is5)),(16,pg g3 0),(18,.bool true)]<|Ad 1 [.c [1,1,1,0,1,0,0,1,0],.c [1,1,1,0,1,0,0,1,1],.l [1,1,1,0,1,0,0],.b 0,.c [1,1,1,1]]<|Ct true rfl<|Ra 3 [1,1,1,0,1,0,0,1,1,0,0] [.c [1,1,1,0,1,0,0,1,1,0,1],.b 1,.l [1,1,1,0,1,0,0],.b 0,.c [1,1,1,1]] ?_
   refine RgH.does (DoesH.entry (d:=19) (k:=0) (kM:=1) (by kernel_rfl) rfl rfl hc1) ?_
   rintro _ _ _ _ ⟨cc1,rfl,rfl,rfl,hcc1⟩
   obtain ⟨rfl⟩:=ktrials_tally_open hcc1
   refine RgH.val1 (v':=.tuple #[.agg #[.string q1.1.test,.string q1.1.key],.agg #[iv q1.2.passed,iv q1.2.failed]]) rfl ?_
   refine Rk 3 [5,16,20,21] [(5,.map (some gv_is5)),(16,pg g3 0),(20,.agg #[.string q1.1.test,.string q1.1.key]),(21,.agg #[iv q1.2.passed,iv q1.2.failed])] ?_
   refine RgH.does (DoesH.new (d:=6) (v:=fun g=>.pointer (some ⟨g,0,none⟩)) (o:=fun g=>.cells #[.string ByteArray.empty,.string ByteArray.empty] 43 (0,0)) (fun g=>by kernel_rfl)) ?_
   rintro _ _ _ _ ⟨g5,rfl,rfl,rfl⟩
   refine RgH.does (DoesH.new (d:=7) (v:=fun g=>.pointer (some ⟨g,0,none⟩)) (o:=fun g=>.cells #[iv 0,iv 0] 45 (0,0)) (fun g=>by kernel_rfl)) ?_
   rintro _ _ _ _ ⟨g6,rfl,rfl,rfl⟩
   refine RgH.does (DoesH.store (k:=1) (g:=g5) (off:=0) (v:=.agg #[.string q1.1.test,.string q1.1.key]) (cells':=#[.string q1.1.test,.string q1.1.key]) (by kernel_rfl) rfl (by kernel_rfl) (by kernel_rfl)) ?_
   rintro _ _ _ _ ⟨rfl,rfl,rfl⟩
   refine RgH.does (DoesH.store (k:=0) (g:=g6) (off:=0) (v:=.agg #[iv q1.2.passed,iv q1.2.failed]) (cells':=#[iv q1.2.passed,iv q1.2.failed]) (by kernel_rfl) rfl (by kernel_rfl) (by kernel_rfl)) ?_
   rintro _ _ _ _ ⟨rfl,rfl,rfl⟩
   refine Dn<|Ra 1 [1,1,1,0,1,0,0,1,1,0,1,0] [.c [1,1,1,0,1,0,0,1,1,0,1,1],.b 1,.l [1,1,1,0,1,0,0],.b 0,.c [1,1,1,1]]<|Rv 1 [5,6,16,22] [iv q1.2.passed,iv q1.2.failed] [.load ⟨g6,0,none⟩ (iv q1.2.passed),.load ⟨g6,1,none⟩ (iv q1.2.failed)] [(5,.map (some gv_is5)),(6,pg g5 0),(16,pg g3 0),(22,.agg #[iv q1.2.passed,iv q1.2.failed])] (fun w hh=>⟨(hh.box 0 rfl rfl),(hh.box 0 rfl rfl)⟩) ?_
   obtain ⟨y4,hy4,heq⟩:=bind_some heq
   refine RgH.does (DoesH.call (d:=23) (g:=14) (args:=#[.agg #[iv q1.2.passed,iv q1.2.failed]]) (by kernel_rfl) (trials_tally_verdict_c (a0:=q1.2)  hy4)) ?_
   rintro _ _ _ _ ⟨_,rfl,rfl,rfl,rfl⟩
   refine Rd 3 [5,6,16,24] [(5,.map (some gv_is5)),(6,pg g5 0),(16,pg g3 0),(24,.bool (y4 == 4))] ?_
   rcases bool_cases (y4 == 4) with hb2 | hb2
   ·replace heq:=bif_true hb2 heq
    refine Ct (y4 == 4) hb2<|Rr<|Rv 3 [5,16,25,27] [.string q1.1.test] [.load ⟨g5,0,none⟩ (.string q1.1.test)] [(5,.map (some gv_is5)),(16,pg g3 0),(25,.map (some gv_is5)),(27,.string q1.1.test)] (fun w hh=>(hh.box 1 rfl rfl)) ?_
    refine RgH.does (DoesH.mapUpdate (kk:=4) (cv:=[.bool true]) (k:=q1.1.test) (v:=true) (by kernel_rfl) (KyAt.string Tryd.underlying9) rfl rfl rfl hov_is5) ?_
    rintro _ _ _ _ ⟨ch5,rfl,rfl,rfl,ho5⟩
    refine Dn<|Ad 2 [.c [1,1,1,0,1,0,0],.l [1,1,1,0,1,0,0],.b 0,.c [1,1,1,1]]<|Kp [5,16] [(5,.map (some gv_is5)),(16,pg g3 0)] ?_
    refine RunH.pick 5 [2,3,4] (cs':=ch4::ch1::ch5::F) (by kernel_rfl) rfl ?_
    exact ihk y2 _ _ _ (mput v_is5 q1.1.test true) _ _ lv1 _ ho5 hc1.own heq
   ·replace heq:=bif_false hb2 heq
    refine Cf (y4 == 4) hb2<|Ad 3 [.c [1,1,1,0,1,0,0],.l [1,1,1,0,1,0,0],.b 0,.c [1,1,1,1]]<|Kp [5,16] [(5,.map (some gv_is5)),(16,pg g3 0)] ?_
    refine RunH.pick 5 [2,3,4] (cs':=ch4::ch1::chv_is5::F) (by kernel_rfl) rfl ?_
    exact ihk y2 _ _ _ v_is5 _ _ lv1 _ hov_is5 hc1.own heq
theorem trials_Flaky_c {w0:World} [GlobI 0 w0] {H:Hp} {F:List Ch} {a0:List TestRun} {Aa0:Option Addr} {na0:Nat} {ca0:Nat} {r:(List ByteArray) × Int} (hra0:Rw kTestRun H F Aa0 a0) (hca0:na0≤ca0) (hna0:na0=a0.length) (heq:trials_Flaky.f a0=some r):CallsH Tryd.prog 5 #[.slice Aa0 na0 ca0] H w0 (F) (S5 F H r):=by
 refine calls_of_runH (F:=C5) Tryd.func5 (by kernel_rfl) Tryd.ntmps5 (args:=[.slice Aa0 na0 ca0]) (by kernel_rfl) ?_
 subst hna0
 unfold trials_Flaky.f at heq
 refine Ra 1 [0] [.c [1]]<|Rd 2 [0] [(0,.slice Aa0 a0.length ca0)]<|Ra 2 [1,0,0] [.c [1,0,1],.c [1,1]]<|Rk 1 [0,8] [(0,.slice Aa0 a0.length ca0),(8,.slice Aa0 a0.length ca0)] ?_
 obtain ⟨y1,hy1,heq⟩:=bind_some heq
 refine RgH.does (DoesH.call (d:=9) (g:=12) (args:=#[.slice Aa0 a0.length ca0]) (by kernel_rfl) (trials_CheckHistory_c (a0:=a0) hra0 hca0 rfl hy1)) ?_
 rintro _ _ _ _ ⟨_,rfl,rfl,rfl,rfl⟩
 refine Rd 3 [0,4] [(0,.slice Aa0 a0.length ca0),(4,iv y1)]<|Ra 1 [1,0,1,0] [.c [1,0,1,1],.c [1,1]]<|Rd 2 [0,4,11] [(0,.slice Aa0 a0.length ca0),(4,iv y1),(11,.bool (y1 != 0))] ?_
 rcases bool_cases (y1 != 0) with hb1 | hb1
 ·replace heq:=bif_true hb1 heq
  refine Ct (y1 != 0) hb1<|Ra 1 [1,0,1,1,0,0] [.c [1,0,1,1,0,1],.c [1,1]]<|Rd 3 [2,3] [(2,.slice none 0 0),(3,iv y1)]<|RunH.nilc ?_
  have ho1:SlOwn Kd.string 9 H none 0 ([]:List ByteArray) none:=SlOwn.nil
  obtain rfl:=Option.some.inj heq
  exact RunH.done (by kernel_rfl) Tryd.func5 (v:=.tuple #[.slice none 0 0,iv y1]) (by kernel_rfl) ⟨none,0,none,rfl,rfl,rfl,ho1⟩
 ·replace heq:=bif_false hb1 heq
  refine Cf (y1 != 0) hb1<|Ra 2 [1,1,0] [.c [1,1,1]] ?_
  refine RgH.does (DoesH.new (d:=13) (v:=fun g=>.map (some g)) (o:=fun g=>.map #[] 0) (fun g=>by kernel_rfl)) ?_
  rintro _ _ _ _ ⟨g1,rfl,rfl,rfl⟩
  have ho2:MpOwn Value.string Kd.bool false H g1 ([]:List (ByteArray × Bool)) (some (g1,.map #[] 0)):=MpOwn.made
  refine Rd 2 [0,5] [(0,.slice Aa0 a0.length ca0),(5,.map (some g1))]<|Ra 2 [1,1,1,0,0] [.c [1,1,1,0,1],.c [1,1,1,1]]<|Rk 1 [5,14] [(5,.map (some g1)),(14,.slice Aa0 a0.length ca0)] ?_
  obtain ⟨y2,hy2,heq⟩:=bind_some heq
  refine RgH.does (DoesH.call (d:=15) (g:=13) (args:=#[.slice Aa0 a0.length ca0]) (by kernel_rfl) (trials_tallies_c (a0:=a0) (hra0.wk (fun _ h=>(.tail _ h))) hca0 rfl hy2)) ?_
  rintro _ _ _ _ ⟨_,rfl,g2,ch1,rfl,rfl,rfl,ho3⟩
  refine RgH.does (DoesH.range (d:=16) (g:=g2) (kM:=0) (by kernel_rfl) rfl ho3) ?_
  rintro _ _ _ _ ⟨g3,ch2,rfl,rfl,rfl,hi1⟩
  refine Dn<|Ad 2 [.c [1,1,1,0,1,0,0],.l [1,1,1,0,1,0,0],.b 0,.c [1,1,1,1]]<|Kp [5,16] [(5,.map (some g1)),(16,pg g3 0)] ?_
  exact ((trials_Flaky.l2_c (e1:=trials_Flaky.e1) (trials_Flaky.e1_c)) big) y2 _ _ _ ([]:List (ByteArray × Bool)) _ _ y2 _ ho2 hi1 heq
noncomputable def C31:Ctx:={ P:=Tryd.prog,f:=31,N:=15,c:=bodyOf Tryd.f31 }
def S31 (F:List Ch) (H0:Hp) (r:Bool) (v:Value) (H:Hp) (cs:List Ch):Prop:=H0=H∧v=.bool r∧F=cs
theorem smithyardref10_within_c {w0:World} [GlobI 0 w0] {H:Hp} {F:List Ch} {a0:Int} {a1:Int} {a2:Int} {r:Bool} (heq:smithyardref10_within.f a0 a1 a2=some r):CallsH Tryd.prog 31 #[iv a0,iv a1,iv a2] H w0 (F) (S31 F H r):=by
 refine calls_of_runH (F:=C31) Tryd.func31 (by kernel_rfl) Tryd.ntmps31 (args:=[iv a0,iv a1,iv a2]) (by kernel_rfl) ?_
 unfold smithyardref10_within.f at heq
 refine Ra 1 [0] [.c [1]]<|Rd 1 [0,1,2] [(0,iv a0),(1,iv a1),(2,iv a2)]<|Ad 1 [.c [1,0],.c [1,1]] ?_
 obtain ⟨t1,ht1,heq⟩:=bind_some heq
 have K1:RunH C31 (S31 F H r) H w0 [.c [1,1]] [(6,.bool t1)] H (F):=by
  obtain rfl:=Option.some.inj heq
  exact RunH.done (by kernel_rfl) Tryd.func31 (v:=.bool t1) (by kernel_rfl) ⟨rfl,rfl,rfl⟩
 replace heq:=ht1
 refine Rr<|Rk 4 [10,0,2] [(10,.bool (decide (a1≤a0))),(0,iv a0),(2,iv a2)] ?_
 rcases bool_cases (decide (a1≤a0)) with hb1 | hb1
 ·replace heq:=bif_true hb1 heq
  refine RgH.val1 (v':=.bool true) (congrArg Value.bool hb1) ?_
  refine Rk 9 [6] [(6,.bool (decide (a0≤a2)))] ?_
  obtain rfl:=Option.some.inj heq
  refine Kg [6] [(6,.bool (decide (a0≤a2)))]<|Dn ?_
  exact K1
 ·replace heq:=bif_false hb1 heq
  refine RgH.val1 (v':=.bool false) (congrArg Value.bool hb1) ?_
  refine Rk 9 [6] [(6,.bool false)] ?_
  obtain rfl:=Option.some.inj heq
  refine Kg [6] [(6,.bool false)]<|Dn ?_
  exact K1
noncomputable def C36:Ctx:={ P:=Tryd.prog,f:=36,N:=51,c:=bodyOf Tryd.f36 }
def S36 (F:List Ch) (H0:Hp) (r:Bool) (v:Value) (H:Hp) (cs:List Ch):Prop:=H0=H∧v=.bool r∧F=cs
theorem smithyardref10_isPart.e1_c {w0:World} [GlobI 0 w0] {H:Hp} {F:List Ch} {r:Bool}:∀ (a0:ByteArray) ,smithyardref10_isPart.e1 a0=some r→RunH C36 (S36 F H r) H w0 [.c [1,1,0],.c [1,1,1]] [(0,.string a0)] H (F):=by
 intro a0  heq
 unfold smithyardref10_isPart.e1 at heq
 obtain ⟨t1,ht1,heq⟩:=bind_some heq
 have K1:RunH C36 (S36 F H r) H w0 [.c [1,1,1]] [(2,.bool t1)] H (F):=by
  obtain rfl:=Option.some.inj heq
  exact RunH.done (by kernel_rfl) Tryd.func36 (v:=.bool t1) (by kernel_rfl) ⟨rfl,rfl,rfl⟩
 replace heq:=ht1
 refine Rr<|Rk 3 [43,0] [(43,.bool (!sEq a0 ({ data:=#[] }:ByteArray))),(0,.string a0)] ?_
 rcases bool_cases (!sEq a0 ({ data:=#[] }:ByteArray)) with hb1 | hb1
 ·replace heq:=bif_true hb1 heq
  refine RgH.val1 (v':=.bool true) (congrArg Value.bool hb1) ?_
  refine Rk 7 [47,0] [(47,.bool (!sEq a0 ({ data:=#[46] }:ByteArray))),(0,.string a0)] ?_
  rcases bool_cases (!sEq a0 ({ data:=#[46] }:ByteArray)) with hb2 | hb2
  ·replace heq:=bif_true hb2 heq
   refine RgH.val1 (v':=.bool true) (congrArg Value.bool hb2) ?_
   refine Rk 11 [2] [(2,.bool (!sEq a0 ({ data:=#[46,46] }:ByteArray)))] ?_
   obtain rfl:=Option.some.inj heq
   refine Kg [2] [(2,.bool (!sEq a0 ({ data:=#[46,46] }:ByteArray)))]<|Dn ?_
   exact K1
  ·replace heq:=bif_false hb2 heq
   refine RgH.val1 (v':=.bool false) (congrArg Value.bool hb2) ?_
   refine Rk 11 [2] [(2,.bool false)] ?_
   obtain rfl:=Option.some.inj heq
   refine Kg [2] [(2,.bool false)]<|Dn ?_
   exact K1
 ·replace heq:=bif_false hb1 heq
  refine RgH.val1 (v':=.bool false) (congrArg Value.bool hb1) ?_
  refine Rk 11 [2] [(2,.bool false)] ?_
  obtain rfl:=Option.some.inj heq
  refine Kg [2] [(2,.bool false)]<|Dn ?_
  exact K1
theorem smithyardref10_isPart.l2_c {w0:World} [GlobI 0 w0] {H:Hp} {F:List Ch} {r:Bool} (e1:ByteArray→Option Bool)
  (he1:∀ (a0:ByteArray) ,e1 a0=some r→RunH C36 (S36 F H r) H w0 [.c [1,1,0],.c [1,1,1]] [(0,.string a0)] H (F)):∀ (k:Nat),∀ (a0:ByteArray) (v7:Int) ,smithyardref10_isPart.l2 e1 k a0 v7=some r→RunH C36 (S36 F H r) H w0 [.c [1,0,1,0,0],.l [1,0,1,0,0],.b 0,.c [1,1]] [(0,.string a0),(6,iv (a0.size:Int)),(7,iv v7)] H (F):=by
 intro k
 induction k with
 | zero=>intro a0 v7  heq; exact nomatch (show (none:Option Bool)=some r from heq)
 | succ k ihk =>
  intro a0 v7  heq
  rw [smithyardref10_isPart.l2] at heq
  refine Ra 1 [1,0,1,0,0,0] [.c [1,0,1,0,0,1],.l [1,0,1,0,0],.b 0,.c [1,1]]<|Rd 1 [0,6,7,8] [(0,.string a0),(6,iv (a0.size:Int)),(7,iv v7),(8,.bool (decide (v7<(a0.size:Int))))]<|Ad 1 [.c [1,0,1,0,0,1,0],.c [1,0,1,0,0,1,1],.l [1,0,1,0,0],.b 0,.c [1,1]] ?_
  rcases bool_cases (decide (v7<(a0.size:Int))) with hb3 | hb3
  ·replace heq:=bif_true hb3 heq
   refine Ct (decide (v7<(a0.size:Int))) hb3<|Ra 4 [1,0,1,0,0,1,1,0,0,0] [.c [1,0,1,0,0,1,1,0,0,1],.b 1,.c [1,0,1,0,0,1,1,1],.l [1,0,1,0,0],.b 0,.c [1,1]]<|Rd 2 [0,3,6,7] [(0,.string a0),(3,iv v7),(6,iv (a0.size:Int)),(7,iv v7)]<|Ra 1 [1,0,1,0,0,1,1,0,0,1,0] [.c [1,0,1,0,0,1,1,0,0,1,1],.b 1,.c [1,0,1,0,0,1,1,1],.l [1,0,1,0,0],.b 0,.c [1,1]] ?_
   obtain ⟨hn1,heq⟩:=guard?_some heq
   refine Rw' 4 [0,4,6,7] [] [.need ((0:Int)≤v7∧v7<(a0.size:Int))] [(0,.string a0),(4,.int .u8 (bt a0 v7)),(6,iv (a0.size:Int)),(7,iv v7)] (fun w hh=>(both_of hn1))<|Ad 1 [.c [1,0,1,0,0,1,1,0,0,1,1,0],.c [1,0,1,0,0,1,1,0,0,1,1,1],.b 1,.c [1,0,1,0,0,1,1,1],.l [1,0,1,0,0],.b 0,.c [1,1]] ?_
   obtain ⟨t2,ht2,heq⟩:=bind_some heq
   have K2:RunH C36 (S36 F H r) H w0 [.c [1,0,1,0,0,1,1,0,0,1,1,1],.b 1,.c [1,0,1,0,0,1,1,1],.l [1,0,1,0,0],.b 0,.c [1,1]] [(0,.string a0),(6,iv (a0.size:Int)),(7,iv v7),(39,.bool t2)] H (F):=by
    rcases bool_cases (t2) with hb18 | hb18
    ·replace heq:=bif_true hb18 heq
     refine Ct t2 hb18<|Ra 1 [1,0,1,0,0,1,1,0,0,1,1,1,0,0] [.c [1,0,1,0,0,1,1,0,0,1,1,1,0,1],.b 1,.c [1,0,1,0,0,1,1,1],.l [1,0,1,0,0],.b 0,.c [1,1]]<|Rd 1 [2] [(2,.bool false)] ?_
     obtain rfl:=Option.some.inj heq
     exact RunH.done (by kernel_rfl) Tryd.func36 (v:=.bool false) (by kernel_rfl) ⟨rfl,rfl,rfl⟩
    ·replace heq:=bif_false hb18 heq
     refine Cf t2 hb18<|Ra 2 [1,0,1,0,0,1,1,1] [.l [1,0,1,0,0],.b 0,.c [1,1]]<|Rd 2 [0,6,7] [(0,.string a0),(6,iv (a0.size:Int)),(7,iv (w64 (v7+1)))]<|Ad 1 [.c [1,0,1,0,0],.l [1,0,1,0,0],.b 0,.c [1,1]]<|Kp [0,6,7] [(0,.string a0),(6,iv (a0.size:Int)),(7,iv (w64 (v7+1)))] ?_
     exact ihk a0 (w64 (v7+1)) heq
   replace heq:=ht2
   refine Rr<|Rk 3 [15,0,4,6,7] [(15,.bool (decide ((bt a0 v7)<97))),(0,.string a0),(4,.int .u8 (bt a0 v7)),(6,iv (a0.size:Int)),(7,iv v7)] ?_
   rcases bool_cases (decide ((bt a0 v7)<97)) with hb4 | hb4
   ·replace heq:=bif_true hb4 heq
    refine RgH.val1 (v':=.bool true) (congrArg Value.bool hb4) ?_
    refine Rk 10 [22,0,4,6,7,19] [(22,.bool (decide ((bt a0 v7)<65))),(0,.string a0),(4,.int .u8 (bt a0 v7)),(6,iv (a0.size:Int)),(7,iv v7),(19,.bool true)] ?_
    rcases bool_cases (decide ((bt a0 v7)<65)) with hb5 | hb5
    ·replace heq:=bif_true hb5 heq
     refine RgH.val1 (v':=.bool true) (congrArg Value.bool hb5) ?_
     refine Rk 18 [30,0,4,6,7,27] [(30,.bool (decide ((bt a0 v7)<48))),(0,.string a0),(4,.int .u8 (bt a0 v7)),(6,iv (a0.size:Int)),(7,iv v7),(27,.bool true)] ?_
     rcases bool_cases (decide ((bt a0 v7)<48)) with hb6 | hb6
     ·replace heq:=bif_true hb6 heq
      refine RgH.val1 (v':=.bool true) (congrArg Value.bool hb6) ?_
      refine Rk 24 [0,6,7,35,36] [(0,.string a0),(6,iv (a0.size:Int)),(7,iv v7),(35,.bool true),(36,.int .u8 (bt a0 v7))] ?_
      obtain ⟨y1,hy1,heq⟩:=bind_some heq
      refine RgH.does (DoesH.call (d:=37) (g:=52) (args:=#[.string ({ data:=#[46,95,45,43] }:ByteArray),.int .u8 (bt a0 v7)]) (by kernel_rfl) (strings_IndexByte_c (a0:=({ data:=#[46,95,45,43] }:ByteArray)) (a1:=bt a0 v7)  hy1)) ?_
      rintro _ _ _ _ ⟨_,rfl,rfl,rfl,rfl⟩
      refine Rk 27 [0,6,7,39] [(0,.string a0),(6,iv (a0.size:Int)),(7,iv v7),(39,.bool (decide (y1<0)))] ?_
      obtain rfl:=Option.some.inj heq
      refine Kg [0,6,7,39] [(0,.string a0),(6,iv (a0.size:Int)),(7,iv v7),(39,.bool (decide (y1<0)))]<|Dn ?_
      exact K2
     ·replace heq:=bif_false hb6 heq
      refine RgH.val1 (v':=.bool false) (congrArg Value.bool hb6) ?_
      refine Rk 23 [35,0,4,6,7] [(35,.bool (decide (57<(bt a0 v7)))),(0,.string a0),(4,.int .u8 (bt a0 v7)),(6,iv (a0.size:Int)),(7,iv v7)] ?_
      rcases bool_cases (decide (57<(bt a0 v7))) with hb7 | hb7
      ·replace heq:=bif_true hb7 heq
       refine RgH.val1 (v':=.bool true) (congrArg Value.bool hb7) ?_
       refine Rk 24 [0,6,7,35,36] [(0,.string a0),(6,iv (a0.size:Int)),(7,iv v7),(35,.bool true),(36,.int .u8 (bt a0 v7))] ?_
       obtain ⟨y2,hy2,heq⟩:=bind_some heq
       refine RgH.does (DoesH.call (d:=37) (g:=52) (args:=#[.string ({ data:=#[46,95,45,43] }:ByteArray),.int .u8 (bt a0 v7)]) (by kernel_rfl) (strings_IndexByte_c (a0:=({ data:=#[46,95,45,43] }:ByteArray)) (a1:=bt a0 v7)  hy2)) ?_
       rintro _ _ _ _ ⟨_,rfl,rfl,rfl,rfl⟩
       refine Rk 27 [0,6,7,39] [(0,.string a0),(6,iv (a0.size:Int)),(7,iv v7),(39,.bool (decide (y2<0)))] ?_
       obtain rfl:=Option.some.inj heq
       refine Kg [0,6,7,39] [(0,.string a0),(6,iv (a0.size:Int)),(7,iv v7),(39,.bool (decide (y2<0)))]<|Dn ?_
       exact K2
      ·replace heq:=bif_false hb7 heq
       refine RgH.val1 (v':=.bool false) (congrArg Value.bool hb7) ?_
       refine Rk 27 [0,6,7,39] [(0,.string a0),(6,iv (a0.size:Int)),(7,iv v7),(39,.bool false)] ?_
       obtain rfl:=Option.some.inj heq
       refine Kg [0,6,7,39] [(0,.string a0),(6,iv (a0.size:Int)),(7,iv v7),(39,.bool false)]<|Dn ?_
       exact K2
    ·replace heq:=bif_false hb5 heq
     refine RgH.val1 (v':=.bool false) (congrArg Value.bool hb5) ?_
     refine Rk 15 [27,0,4,6,7] [(27,.bool (decide (90<(bt a0 v7)))),(0,.string a0),(4,.int .u8 (bt a0 v7)),(6,iv (a0.size:Int)),(7,iv v7)] ?_
     rcases bool_cases (decide (90<(bt a0 v7))) with hb8 | hb8
     ·replace heq:=bif_true hb8 heq
      refine RgH.val1 (v':=.bool true) (congrArg Value.bool hb8) ?_
      refine Rk 18 [30,0,4,6,7,27] [(30,.bool (decide ((bt a0 v7)<48))),(0,.string a0),(4,.int .u8 (bt a0 v7)),(6,iv (a0.size:Int)),(7,iv v7),(27,.bool true)] ?_
      rcases bool_cases (decide ((bt a0 v7)<48)) with hb9 | hb9
      ·replace heq:=bif_true hb9 heq
       refine RgH.val1 (v':=.bool true) (congrArg Value.bool hb9) ?_
       refine Rk 24 [0,6,7,35,36] [(0,.string a0),(6,iv (a0.size:Int)),(7,iv v7),(35,.bool true),(36,.int .u8 (bt a0 v7))] ?_
       obtain ⟨y3,hy3,heq⟩:=bind_some heq
       refine RgH.does (DoesH.call (d:=37) (g:=52) (args:=#[.string ({ data:=#[46,95,45,43] }:ByteArray),.int .u8 (bt a0 v7)]) (by kernel_rfl) (strings_IndexByte_c (a0:=({ data:=#[46,95,45,43] }:ByteArray)) (a1:=bt a0 v7)  hy3)) ?_
       rintro _ _ _ _ ⟨_,rfl,rfl,rfl,rfl⟩
       refine Rk 27 [0,6,7,39] [(0,.string a0),(6,iv (a0.size:Int)),(7,iv v7),(39,.bool (decide (y3<0)))] ?_
       obtain rfl:=Option.some.inj heq
       refine Kg [0,6,7,39] [(0,.string a0),(6,iv (a0.size:Int)),(7,iv v7),(39,.bool (decide (y3<0)))]<|Dn ?_
       exact K2
      ·replace heq:=bif_false hb9 heq
       refine RgH.val1 (v':=.bool false) (congrArg Value.bool hb9) ?_
       refine Rk 23 [35,0,4,6,7] [(35,.bool (decide (57<(bt a0 v7)))),(0,.string a0),(4,.int .u8 (bt a0 v7)),(6,iv (a0.size:Int)),(7,iv v7)] ?_
       rcases bool_cases (decide (57<(bt a0 v7))) with hb10 | hb10
       ·replace heq:=bif_true hb10 heq
        refine RgH.val1 (v':=.bool true) (congrArg Value.bool hb10) ?_
        refine Rk 24 [0,6,7,35,36] [(0,.string a0),(6,iv (a0.size:Int)),(7,iv v7),(35,.bool true),(36,.int .u8 (bt a0 v7))] ?_
        obtain ⟨y4,hy4,heq⟩:=bind_some heq
        refine RgH.does (DoesH.call (d:=37) (g:=52) (args:=#[.string ({ data:=#[46,95,45,43] }:ByteArray),.int .u8 (bt a0 v7)]) (by kernel_rfl) (strings_IndexByte_c (a0:=({ data:=#[46,95,45,43] }:ByteArray)) (a1:=bt a0 v7)  hy4)) ?_
        rintro _ _ _ _ ⟨_,rfl,rfl,rfl,rfl⟩
        refine Rk 27 [0,6,7,39] [(0,.string a0),(6,iv (a0.size:Int)),(7,iv v7),(39,.bool (decide (y4<0)))] ?_
        obtain rfl:=Option.some.inj heq
        refine Kg [0,6,7,39] [(0,.string a0),(6,iv (a0.size:Int)),(7,iv v7),(39,.bool (decide (y4<0)))]<|Dn ?_
        exact K2
       ·replace heq:=bif_false hb10 heq
        refine RgH.val1 (v':=.bool false) (congrArg Value.bool hb10) ?_
        refine Rk 27 [0,6,7,39] [(0,.string a0),(6,iv (a0.size:Int)),(7,iv v7),(39,.bool false)] ?_
        obtain rfl:=Option.some.inj heq
        refine Kg [0,6,7,39] [(0,.string a0),(6,iv (a0.size:Int)),(7,iv v7),(39,.bool false)]<|Dn ?_
        exact K2
     ·replace heq:=bif_false hb8 heq
      refine RgH.val1 (v':=.bool false) (congrArg Value.bool hb8) ?_
      refine Rk 27 [0,6,7,39] [(0,.string a0),(6,iv (a0.size:Int)),(7,iv v7),(39,.bool false)] ?_
      obtain rfl:=Option.some.inj heq
      refine Kg [0,6,7,39] [(0,.string a0),(6,iv (a0.size:Int)),(7,iv v7),(39,.bool false)]<|Dn ?_
      exact K2
   ·replace heq:=bif_false hb4 heq
    refine RgH.val1 (v':=.bool false) (congrArg Value.bool hb4) ?_
    refine Rk 7 [19,0,4,6,7] [(19,.bool (decide (122<(bt a0 v7)))),(0,.string a0),(4,.int .u8 (bt a0 v7)),(6,iv (a0.size:Int)),(7,iv v7)] ?_
    rcases bool_cases (decide (122<(bt a0 v7))) with hb11 | hb11
    ·replace heq:=bif_true hb11 heq
     refine RgH.val1 (v':=.bool true) (congrArg Value.bool hb11) ?_
     refine Rk 10 [22,0,4,6,7,19] [(22,.bool (decide ((bt a0 v7)<65))),(0,.string a0),(4,.int .u8 (bt a0 v7)),(6,iv (a0.size:Int)),(7,iv v7),(19,.bool true)] ?_
     rcases bool_cases (decide ((bt a0 v7)<65)) with hb12 | hb12
     ·replace heq:=bif_true hb12 heq
      refine RgH.val1 (v':=.bool true) (congrArg Value.bool hb12) ?_
      refine Rk 18 [30,0,4,6,7,27] [(30,.bool (decide ((bt a0 v7)<48))),(0,.string a0),(4,.int .u8 (bt a0 v7)),(6,iv (a0.size:Int)),(7,iv v7),(27,.bool true)] ?_
      rcases bool_cases (decide ((bt a0 v7)<48)) with hb13 | hb13
      ·replace heq:=bif_true hb13 heq
       refine RgH.val1 (v':=.bool true) (congrArg Value.bool hb13) ?_
       refine Rk 24 [0,6,7,35,36] [(0,.string a0),(6,iv (a0.size:Int)),(7,iv v7),(35,.bool true),(36,.int .u8 (bt a0 v7))] ?_
       obtain ⟨y5,hy5,heq⟩:=bind_some heq
       refine RgH.does (DoesH.call (d:=37) (g:=52) (args:=#[.string ({ data:=#[46,95,45,43] }:ByteArray),.int .u8 (bt a0 v7)]) (by kernel_rfl) (strings_IndexByte_c (a0:=({ data:=#[46,95,45,43] }:ByteArray)) (a1:=bt a0 v7)  hy5)) ?_
       rintro _ _ _ _ ⟨_,rfl,rfl,rfl,rfl⟩
       refine Rk 27 [0,6,7,39] [(0,.string a0),(6,iv (a0.size:Int)),(7,iv v7),(39,.bool (decide (y5<0)))] ?_
       obtain rfl:=Option.some.inj heq
       refine Kg [0,6,7,39] [(0,.string a0),(6,iv (a0.size:Int)),(7,iv v7),(39,.bool (decide (y5<0)))]<|Dn ?_
       exact K2
      ·replace heq:=bif_false hb13 heq
       refine RgH.val1 (v':=.bool false) (congrArg Value.bool hb13) ?_
       refine Rk 23 [35,0,4,6,7] [(35,.bool (decide (57<(bt a0 v7)))),(0,.string a0),(4,.int .u8 (bt a0 v7)),(6,iv (a0.size:Int)),(7,iv v7)] ?_
       rcases bool_cases (decide (57<(bt a0 v7))) with hb14 | hb14
       ·replace heq:=bif_true hb14 heq
        refine RgH.val1 (v':=.bool true) (congrArg Value.bool hb14) ?_
        refine Rk 24 [0,6,7,35,36] [(0,.string a0),(6,iv (a0.size:Int)),(7,iv v7),(35,.bool true),(36,.int .u8 (bt a0 v7))] ?_
        obtain ⟨y6,hy6,heq⟩:=bind_some heq
        refine RgH.does (DoesH.call (d:=37) (g:=52) (args:=#[.string ({ data:=#[46,95,45,43] }:ByteArray),.int .u8 (bt a0 v7)]) (by kernel_rfl) (strings_IndexByte_c (a0:=({ data:=#[46,95,45,43] }:ByteArray)) (a1:=bt a0 v7)  hy6)) ?_
        rintro _ _ _ _ ⟨_,rfl,rfl,rfl,rfl⟩
        refine Rk 27 [0,6,7,39] [(0,.string a0),(6,iv (a0.size:Int)),(7,iv v7),(39,.bool (decide (y6<0)))] ?_
        obtain rfl:=Option.some.inj heq
        refine Kg [0,6,7,39] [(0,.string a0),(6,iv (a0.size:Int)),(7,iv v7),(39,.bool (decide (y6<0)))]<|Dn ?_
        exact K2
       ·replace heq:=bif_false hb14 heq
        refine RgH.val1 (v':=.bool false) (congrArg Value.bool hb14) ?_
        refine Rk 27 [0,6,7,39] [(0,.string a0),(6,iv (a0.size:Int)),(7,iv v7),(39,.bool false)] ?_
        obtain rfl:=Option.some.inj heq
        refine Kg [0,6,7,39] [(0,.string a0),(6,iv (a0.size:Int)),(7,iv v7),(39,.bool false)]<|Dn ?_
        exact K2
     ·replace heq:=bif_false hb12 heq
      refine RgH.val1 (v':=.bool false) (congrArg Value.bool hb12) ?_
      refine Rk 15 [27,0,4,6,7] [(27,.bool (decide (90<(bt a0 v7)))),(0,.string a0),(4,.int .u8 (bt a0 v7)),(6,iv (a0.size:Int)),(7,iv v7)] ?_
      rcases bool_cases (decide (90<(bt a0 v7))) with hb15 | hb15
      ·replace heq:=bif_true hb15 heq
       refine RgH.val1 (v':=.bool true) (congrArg Value.bool hb15) ?_
       refine Rk 18 [30,0,4,6,7,27] [(30,.bool (decide ((bt a0 v7)<48))),(0,.string a0),(4,.int .u8 (bt a0 v7)),(6,iv (a0.size:Int)),(7,iv v7),(27,.bool true)] ?_
       rcases bool_cases (decide ((bt a0 v7)<48)) with hb16 | hb16
       ·replace heq:=bif_true hb16 heq
        refine RgH.val1 (v':=.bool true) (congrArg Value.bool hb16) ?_
        refine Rk 24 [0,6,7,35,36] [(0,.string a0),(6,iv (a0.size:Int)),(7,iv v7),(35,.bool true),(36,.int .u8 (bt a0 v7))] ?_
        obtain ⟨y7,hy7,heq⟩:=bind_some heq
        refine RgH.does (DoesH.call (d:=37) (g:=52) (args:=#[.string ({ data:=#[46,95,45,43] }:ByteArray),.int .u8 (bt a0 v7)]) (by kernel_rfl) (strings_IndexByte_c (a0:=({ data:=#[46,95,45,43] }:ByteArray)) (a1:=bt a0 v7)  hy7)) ?_
        rintro _ _ _ _ ⟨_,rfl,rfl,rfl,rfl⟩
        refine Rk 27 [0,6,7,39] [(0,.string a0),(6,iv (a0.size:Int)),(7,iv v7),(39,.bool (decide (y7<0)))] ?_
        obtain rfl:=Option.some.inj heq
        refine Kg [0,6,7,39] [(0,.string a0),(6,iv (a0.size:Int)),(7,iv v7),(39,.bool (decide (y7<0)))]<|Dn ?_
        exact K2
       ·replace heq:=bif_false hb16 heq
        refine RgH.val1 (v':=.bool false) (congrArg Value.bool hb16) ?_
        refine Rk 23 [35,0,4,6,7] [(35,.bool (decide (57<(bt a0 v7)))),(0,.string a0),(4,.int .u8 (bt a0 v7)),(6,iv (a0.size:Int)),(7,iv v7)] ?_
        rcases bool_cases (decide (57<(bt a0 v7))) with hb17 | hb17
        ·replace heq:=bif_true hb17 heq
         refine RgH.val1 (v':=.bool true) (congrArg Value.bool hb17) ?_
         refine Rk 24 [0,6,7,35,36] [(0,.string a0),(6,iv (a0.size:Int)),(7,iv v7),(35,.bool true),(36,.int .u8 (bt a0 v7))] ?_
         obtain ⟨y8,hy8,heq⟩:=bind_some heq
         refine RgH.does (DoesH.call (d:=37) (g:=52) (args:=#[.string ({ data:=#[46,95,45,43] }:ByteArray),.int .u8 (bt a0 v7)]) (by kernel_rfl) (strings_IndexByte_c (a0:=({ data:=#[46,95,45,43] }:ByteArray)) (a1:=bt a0 v7)  hy8)) ?_
         rintro _ _ _ _ ⟨_,rfl,rfl,rfl,rfl⟩
         refine Rk 27 [0,6,7,39] [(0,.string a0),(6,iv (a0.size:Int)),(7,iv v7),(39,.bool (decide (y8<0)))] ?_
         obtain rfl:=Option.some.inj heq
         refine Kg [0,6,7,39] [(0,.string a0),(6,iv (a0.size:Int)),(7,iv v7),(39,.bool (decide (y8<0)))]<|Dn ?_
         exact K2
        ·replace heq:=bif_false hb17 heq
         refine RgH.val1 (v':=.bool false) (congrArg Value.bool hb17) ?_
         refine Rk 27 [0,6,7,39] [(0,.string a0),(6,iv (a0.size:Int)),(7,iv v7),(39,.bool false)] ?_
         obtain rfl:=Option.some.inj heq
         refine Kg [0,6,7,39] [(0,.string a0),(6,iv (a0.size:Int)),(7,iv v7),(39,.bool false)]<|Dn ?_
         exact K2
      ·replace heq:=bif_false hb15 heq
       refine RgH.val1 (v':=.bool false) (congrArg Value.bool hb15) ?_
       refine Rk 27 [0,6,7,39] [(0,.string a0),(6,iv (a0.size:Int)),(7,iv v7),(39,.bool false)] ?_
       obtain rfl:=Option.some.inj heq
       refine Kg [0,6,7,39] [(0,.string a0),(6,iv (a0.size:Int)),(7,iv v7),(39,.bool false)]<|Dn ?_
       exact K2
    ·replace heq:=bif_false hb11 heq
     refine RgH.val1 (v':=.bool false) (congrArg Value.bool hb11) ?_
     refine Rk 27 [0,6,7,39] [(0,.string a0),(6,iv (a0.size:Int)),(7,iv v7),(39,.bool false)] ?_
     obtain rfl:=Option.some.inj heq
     refine Kg [0,6,7,39] [(0,.string a0),(6,iv (a0.size:Int)),(7,iv v7),(39,.bool false)]<|Dn ?_
     exact K2
  ·replace heq:=bif_false hb3 heq
   refine Cf (decide (v7<(a0.size:Int))) hb3<|Ad 2 [.c [1,1,0],.c [1,1,1]]<|Kp [0] [(0,.string a0)] ?_
   exact he1 a0 heq
theorem smithyardref10_isPart_c {w0:World} [GlobI 0 w0] {H:Hp} {F:List Ch} {a0:ByteArray} {r:Bool} (heq:smithyardref10_isPart.f a0=some r):CallsH Tryd.prog 36 #[.string a0] H w0 (F) (S36 F H r):=by
 refine calls_of_runH (F:=C36) Tryd.func36 (by kernel_rfl) Tryd.ntmps36 (args:=[.string a0]) (by kernel_rfl) ?_
 unfold smithyardref10_isPart.f at heq
 refine Ra 1 [0] [.c [1]]<|Rd 1 [0] [(0,.string a0)]<|Ra 2 [1,0,0] [.c [1,0,1],.c [1,1]]<|Rd 3 [0,6,7] [(0,.string a0),(6,iv (a0.size:Int)),(7,iv 0)]<|Ad 2 [.c [1,0,1,0,0],.l [1,0,1,0,0],.b 0,.c [1,1]]<|Kp [0,6,7] [(0,.string a0),(6,iv (a0.size:Int)),(7,iv 0)] ?_
 exact ((smithyardref10_isPart.l2_c (e1:=smithyardref10_isPart.e1) (smithyardref10_isPart.e1_c)) big) a0 0 heq
noncomputable def C23:Ctx:={ P:=Tryd.prog,f:=23,N:=19,c:=bodyOf Tryd.f23 }
def S23 (F:List Ch) (H0:Hp) (r:Bool) (v:Value) (H:Hp) (cs:List Ch):Prop:=H0=H∧v=.bool r∧F=cs
theorem smithyardref10_isPath.e1_c {w0:World} [GlobI 0 w0] {H:Hp} {F:List Ch} {r:Bool}:∀ (a0:ByteArray) ,smithyardref10_isPath.e1 a0=some r→RunH C23 (S23 F H r) H w0 [.c [1,1,0],.c [1,1,1]] [(0,.string a0)] H (F):=by
 intro a0  heq
 unfold smithyardref10_isPath.e1 at heq
 refine Rr<|Rk 2 [17] [(17,iv (a0.size:Int))] ?_
 obtain ⟨y2,hy2,heq⟩:=bind_some heq
 refine RgH.does (DoesH.call (d:=18) (g:=31) (args:=#[iv (a0.size:Int),iv 1,iv 200]) (by kernel_rfl) (smithyardref10_within_c (a0:=(a0.size:Int)) (a1:=1) (a2:=200)  hy2)) ?_
 rintro _ _ _ _ ⟨_,rfl,rfl,rfl,rfl⟩
 refine Rd 4 [2] [(2,.bool y2)] ?_
 obtain rfl:=Option.some.inj heq
 exact RunH.done (by kernel_rfl) Tryd.func23 (v:=.bool y2) (by kernel_rfl) ⟨rfl,rfl,rfl⟩
theorem smithyardref10_isPath.l2_c {w0:World} [GlobI 0 w0] {H:Hp} {F:List Ch} {r:Bool} (e1:ByteArray→Option Bool)
  (he1:∀ (a0:ByteArray) ,e1 a0=some r→RunH C23 (S23 F H r) H w0 [.c [1,1,0],.c [1,1,1]] [(0,.string a0)] H (F)):∀ (k:Nat),∀ (a0:ByteArray) (y1:List ByteArray) (A1:Option Addr) (c1:Nat) (ch1:Ch) (v8:Int) ,SlOwn Kd.string 9 H A1 c1 y1 ch1→smithyardref10_isPath.l2 e1 k a0 y1 v8=some r→RunH C23 (S23 F H r) H w0 [.c [1,0,1,0,0],.l [1,0,1,0,0],.b 0,.c [1,1]] [(0,.string a0),(6,.slice A1 y1.length c1),(7,iv (y1.length:Int)),(8,iv v8)] H (ch1::F):=by
 intro k
 induction k with
 | zero=>intro a0 y1 A1 c1 ch1 v8 ho1 heq; exact nomatch (show (none:Option Bool)=some r from heq)
 | succ k ihk =>
  intro a0 y1 A1 c1 ch1 v8 ho1 heq
  rw [smithyardref10_isPath.l2] at heq
  refine Ra 1 [1,0,1,0,0,0] [.c [1,0,1,0,0,1],.l [1,0,1,0,0],.b 0,.c [1,1]]<|Rd 1 [0,6,7,8,9] [(0,.string a0),(6,.slice A1 y1.length c1),(7,iv (y1.length:Int)),(8,iv v8),(9,.bool (decide (v8<(y1.length:Int))))]<|Ad 1 [.c [1,0,1,0,0,1,0],.c [1,0,1,0,0,1,1],.l [1,0,1,0,0],.b 0,.c [1,1]] ?_
  rcases bool_cases (decide (v8<(y1.length:Int))) with hb1 | hb1
  ·replace heq:=bif_true hb1 heq
   refine Ct (decide (v8<(y1.length:Int))) hb1<|Ra 4 [1,0,1,0,0,1,1,0,0,0] [.c [1,0,1,0,0,1,1,0,0,1],.b 1,.c [1,0,1,0,0,1,1,1],.l [1,0,1,0,0],.b 0,.c [1,1]] ?_
   obtain ⟨x1,hx1,heq⟩:=bind_some heq
   obtain ⟨ha1,cs1,hK1,hcc1⟩:=ho1.get hx1
   obtain rfl:cs1=[.string x1]:=hK1
   refine Rw' 3 [0,4,6,7,8] [.string x1] [.need (A1=some (adr A1)∧(0:Int)≤v8∧v8<((y1.length:Nat):Int)),.load ((adr A1).add (v8.toNat*1)) (.string x1)] [(0,.string a0),(4,.string x1),(6,.slice A1 y1.length c1),(7,iv (y1.length:Int)),(8,iv v8)] (fun w hh=>⟨⟨ha1,(at?_some hx1).1,(at?_some hx1).2.1⟩,(hcc1 _ (hh.chin 0 rfl) 0 _ rfl)⟩)<|Ra 1 [1,0,1,0,0,1,1,0,0,1,0] [.c [1,0,1,0,0,1,1,0,0,1,1],.b 1,.c [1,0,1,0,0,1,1,1],.l [1,0,1,0,0],.b 0,.c [1,1]]<|Rk 1 [0,6,7,8,12] [(0,.string a0),(6,.slice A1 y1.length c1),(7,iv (y1.length:Int)),(8,iv v8),(12,.string x1)] ?_
   obtain ⟨y3,hy3,heq⟩:=bind_some heq
   refine RgH.does (DoesH.call (d:=13) (g:=36) (args:=#[.string x1]) (by kernel_rfl) (smithyardref10_isPart_c (a0:=x1)  hy3)) ?_
   rintro _ _ _ _ ⟨_,rfl,rfl,rfl,rfl⟩
   refine Rd 3 [0,6,7,8,14] [(0,.string a0),(6,.slice A1 y1.length c1),(7,iv (y1.length:Int)),(8,iv v8),(14,.bool (!y3))] ?_
   rcases bool_cases (!y3) with hb2 | hb2
   ·replace heq:=bif_true hb2 heq
    refine Ct (!y3) hb2<|Ra 1 [1,0,1,0,0,1,1,0,0,1,1,0,0] [.c [1,0,1,0,0,1,1,0,0,1,1,0,1],.b 1,.c [1,0,1,0,0,1,1,1],.l [1,0,1,0,0],.b 0,.c [1,1]]<|Rd 1 [2] [(2,.bool false)] ?_
    obtain rfl:=Option.some.inj heq
    refine RunH.pick 1 [] (cs':=F) (by kernel_rfl) rfl ?_
    exact RunH.done (by kernel_rfl) Tryd.func23 (v:=.bool false) (by kernel_rfl) ⟨rfl,rfl,rfl⟩
   ·replace heq:=bif_false hb2 heq
    refine Cf (!y3) hb2<|Ra 2 [1,0,1,0,0,1,1,1] [.l [1,0,1,0,0],.b 0,.c [1,1]]<|Rd 2 [0,6,7,8] [(0,.string a0),(6,.slice A1 y1.length c1),(7,iv (y1.length:Int)),(8,iv (w64 (v8+1)))]<|Ad 1 [.c [1,0,1,0,0],.l [1,0,1,0,0],.b 0,.c [1,1]]<|Kp [0,6,7,8] [(0,.string a0),(6,.slice A1 y1.length c1),(7,iv (y1.length:Int)),(8,iv (w64 (v8+1)))] ?_
    exact ihk a0 y1 _ _ _ (w64 (v8+1)) ho1 heq
  ·replace heq:=bif_false hb1 heq
   refine Cf (decide (v8<(y1.length:Int))) hb1<|Ad 2 [.c [1,1,0],.c [1,1,1]]<|Kp [0] [(0,.string a0)] ?_
   refine RunH.pick 1 [] (cs':=F) (by kernel_rfl) rfl ?_
   exact he1 a0 heq
theorem smithyardref10_isPath_c {w0:World} [GlobI 0 w0] {H:Hp} {F:List Ch} {a0:ByteArray} {r:Bool} (heq:smithyardref10_isPath.f a0=some r):CallsH Tryd.prog 23 #[.string a0] H w0 (F) (S23 F H r):=by
 refine calls_of_runH (F:=C23) Tryd.func23 (by kernel_rfl) Tryd.ntmps23 (args:=[.string a0]) (by kernel_rfl) ?_
 unfold smithyardref10_isPath.f at heq
 refine Ra 1 [0] [.c [1]]<|Rd 1 [0] [(0,.string a0)]<|Ra 2 [1,0,0] [.c [1,0,1],.c [1,1]]<|Rk 1 [0,5] [(0,.string a0),(5,.string a0)] ?_
 obtain ⟨y1,hy1,heq⟩:=bind_some heq
 refine RgH.does (DoesH.call (d:=6) (g:=34) (args:=#[.string a0,.string ({ data:=#[47] }:ByteArray)]) (by kernel_rfl) (strings_Split_c (a0:=a0) (a1:=({ data:=#[47] }:ByteArray))  hy1)) ?_
 rintro _ _ _ _ ⟨_,rfl,A1,c1,ch1,rfl,rfl,rfl,ho1⟩
 refine Rd 4 [0,6,7,8] [(0,.string a0),(6,.slice A1 y1.length c1),(7,iv (y1.length:Int)),(8,iv 0)]<|Ad 2 [.c [1,0,1,0,0],.l [1,0,1,0,0],.b 0,.c [1,1]]<|Kp [0,6,7,8] [(0,.string a0),(6,.slice A1 y1.length c1),(7,iv (y1.length:Int)),(8,iv 0)] ?_
 exact ((smithyardref10_isPath.l2_c (e1:=smithyardref10_isPath.e1) (smithyardref10_isPath.e1_c)) big) a0 y1 _ _ _ 0 ho1 heq
noncomputable def C30:Ctx:={ P:=Tryd.prog,f:=30,N:=11,c:=bodyOf Tryd.f30 }
def S30 (F:List Ch) (H0:Hp) (r:Bool) (v:Value) (H:Hp) (cs:List Ch):Prop:=H0=H∧v=.bool r∧F=cs
theorem smithyardref10_isDigest_c {w0:World} [GlobI 0 w0] {H:Hp} {F:List Ch} {a0:ByteArray} {r:Bool} (heq:smithyardref10_isDigest.f a0=some r):CallsH Tryd.prog 30 #[.string a0] H w0 (F) (S30 F H r):=by
 refine calls_of_runH (F:=C30) Tryd.func30 (by kernel_rfl) Tryd.ntmps30 (args:=[.string a0]) (by kernel_rfl) ?_
 unfold smithyardref10_isDigest.f at heq
 refine Ra 1 [0] [.c [1]]<|Rd 1 [0] [(0,.string a0)]<|Ad 1 [.c [1,0],.c [1,1]] ?_
 obtain ⟨t1,ht1,heq⟩:=bind_some heq
 have K1:RunH C30 (S30 F H r) H w0 [.c [1,1]] [(2,.bool t1)] H (F):=by
  obtain rfl:=Option.some.inj heq
  exact RunH.done (by kernel_rfl) Tryd.func30 (v:=.bool t1) (by kernel_rfl) ⟨rfl,rfl,rfl⟩
 replace heq:=ht1
 refine Rr<|Rk 4 [6,0] [(6,.bool ((a0.size:Int) == 16)),(0,.string a0)] ?_
 rcases bool_cases ((a0.size:Int) == 16) with hb1 | hb1
 ·replace heq:=bif_true hb1 heq
  refine RgH.val1 (v':=.bool true) (congrArg Value.bool hb1) ?_
  refine Rk 5 [6,7] [(6,.bool true),(7,.string a0)] ?_
  obtain ⟨y1,hy1,heq⟩:=bind_some heq
  refine RgH.does (DoesH.call (d:=8) (g:=37) (args:=#[.string a0,.string ({ data:=#[48,49,50,51,52,53,54,55,56,57,97,98,99,100,101,102] }:ByteArray)]) (by kernel_rfl) (strings_Trim_c (a0:=a0) (a1:=({ data:=#[48,49,50,51,52,53,54,55,56,57,97,98,99,100,101,102] }:ByteArray))  hy1)) ?_
  rintro _ _ _ _ ⟨_,rfl,rfl,rfl,rfl⟩
  refine Rk 9 [2] [(2,.bool (sEq y1 ({ data:=#[] }:ByteArray)))] ?_
  obtain rfl:=Option.some.inj heq
  refine Kg [2] [(2,.bool (sEq y1 ({ data:=#[] }:ByteArray)))]<|Dn ?_
  exact K1
 ·replace heq:=bif_false hb1 heq
  refine RgH.val1 (v':=.bool false) (congrArg Value.bool hb1) ?_
  refine Rk 9 [2] [(2,.bool false)] ?_
  obtain rfl:=Option.some.inj heq
  refine Kg [2] [(2,.bool false)]<|Dn ?_
  exact K1
noncomputable def C17:Ctx:={ P:=Tryd.prog,f:=17,N:=51,c:=bodyOf Tryd.f17 }
def S17 (F:List Ch) (H0:Hp) (r:Int) (v:Value) (H:Hp) (cs:List Ch):Prop:=H0=H∧v=iv r∧F=cs
theorem smithyardref10_CheckHistory.e1_c {w0:World} [GlobI 0 w0] {H:Hp} {F:List Ch} {r:Int}:smithyardref10_CheckHistory.e1=some r→RunH C17 (S17 F H r) H w0 [.c [1,1,1,0],.c [1,1,1,1]] [] H (F):=by
 intro   heq
 unfold smithyardref10_CheckHistory.e1 at heq
 refine Rr<|Rd 1 [2] [(2,iv 0)] ?_
 obtain rfl:=Option.some.inj heq
 exact RunH.done (by kernel_rfl) Tryd.func17 (v:=iv 0) (by kernel_rfl) ⟨rfl,rfl,rfl⟩
theorem smithyardref10_CheckHistory.l2_c {w0:World} [GlobI 0 w0] {H:Hp} {F:List Ch} {r:Int} (e1:Option Int)
  (he1:e1=some r→RunH C17 (S17 F H r) H w0 [.c [1,1,1,0],.c [1,1,1,1]] [] H (F)):∀ (k:Nat),∀ (a0:List TestRun) (Aa0:Option Addr) (ca0:Nat) (v10:Int) ,Rw kTestRun H F Aa0 a0→a0.length≤ca0→smithyardref10_CheckHistory.l2 e1 k a0 v10=some r→RunH C17 (S17 F H r) H w0 [.c [1,1,0,1,0,0],.l [1,1,0,1,0,0],.b 0,.c [1,1,1]] [(0,.slice Aa0 a0.length ca0),(8,.slice Aa0 a0.length ca0),(9,iv (a0.length:Int)),(10,iv v10)] H (F):=by
 intro k
 induction k with
 | zero=>intro a0 Aa0 ca0 v10 hra0 hca0 heq; exact nomatch (show (none:Option Int)=some r from heq)
 | succ k ihk =>
  intro a0 Aa0 ca0 v10 hra0 hca0 heq
  rw [smithyardref10_CheckHistory.l2] at heq
  refine Ra 1 [1,1,0,1,0,0,0] [.c [1,1,0,1,0,0,1],.l [1,1,0,1,0,0],.b 0,.c [1,1,1]]<|Rd 1 [0,8,9,10,11] [(0,.slice Aa0 a0.length ca0),(8,.slice Aa0 a0.length ca0),(9,iv (a0.length:Int)),(10,iv v10),(11,.bool (decide (v10<(a0.length:Int))))]<|Ad 1 [.c [1,1,0,1,0,0,1,0],.c [1,1,0,1,0,0,1,1],.l [1,1,0,1,0,0],.b 0,.c [1,1,1]] ?_
  rcases bool_cases (decide (v10<(a0.length:Int))) with hb2 | hb2
  ·replace heq:=bif_true hb2 heq
   refine Ct (decide (v10<(a0.length:Int))) hb2<|Ra 4 [1,1,0,1,0,0,1,1,0,0,0] [.c [1,1,0,1,0,0,1,1,0,0,1],.b 1,.c [1,1,0,1,0,0,1,1,1],.l [1,1,0,1,0,0],.b 0,.c [1,1,1]] ?_
   obtain ⟨x1,hx1,heq⟩:=bind_some heq
   obtain ⟨ha1,cs1,hK1,hcc1⟩:=hra0.get hx1
   obtain ⟨rfl⟩:=kTestRun_open hK1
   refine Rv 3 [0,8,9,10,12,14] [.string x1.Test,.string x1.Key,iv x1.At,.bool x1.Pass,iv x1.Seconds] [.need (Aa0=some (adr Aa0)∧(0:Int)≤v10∧v10<((a0.length:Nat):Int)),.load (((adr Aa0).add (v10.toNat*5)).add 0) (.string x1.Test),.load (((adr Aa0).add (v10.toNat*5)).add 1) (.string x1.Key),.load (((adr Aa0).add (v10.toNat*5)).add 2) (iv x1.At),.load (((adr Aa0).add (v10.toNat*5)).add 3) (.bool x1.Pass),.load (((adr Aa0).add (v10.toNat*5)).add 4) (iv x1.Seconds)] [(0,.slice Aa0 a0.length ca0),(8,.slice Aa0 a0.length ca0),(9,iv (a0.length:Int)),(10,iv v10),(12,iv v10),(14,.agg #[.string x1.Test,.string x1.Key,iv x1.At,.bool x1.Pass,iv x1.Seconds])] (fun w hh=>⟨⟨ha1,(at?_some hx1).1,(at?_some hx1).2.1⟩,(hcc1 _ _ (hh.drop 0) 0 _ rfl),(hcc1 _ _ (hh.drop 0) 1 _ rfl),(hcc1 _ _ (hh.drop 0) 2 _ rfl),(hcc1 _ _ (hh.drop 0) 3 _ rfl),(hcc1 _ _ (hh.drop 0) 4 _ rfl)⟩) ?_
   refine RgH.does (DoesH.new (d:=4) (v:=fun g=>.pointer (some ⟨g,0,none⟩)) (o:=fun g=>.cells #[.string ByteArray.empty,.string ByteArray.empty,iv 0,.bool false,iv 0] 25 (0,0)) (fun g=>by kernel_rfl)) ?_
   rintro _ _ _ _ ⟨g1,rfl,rfl,rfl⟩
   refine Rk 5 [0,3,4,8,9,10,14] [(0,.slice Aa0 a0.length ca0),(3,iv v10),(4,pg g1 0),(8,.slice Aa0 a0.length ca0),(9,iv (a0.length:Int)),(10,iv v10),(14,.agg #[.string x1.Test,.string x1.Key,iv x1.At,.bool x1.Pass,iv x1.Seconds])] ?_
   refine RgH.does (DoesH.store (k:=0) (g:=g1) (off:=0) (v:=.agg #[.string x1.Test,.string x1.Key,iv x1.At,.bool x1.Pass,iv x1.Seconds]) (cells':=#[.string x1.Test,.string x1.Key,iv x1.At,.bool x1.Pass,iv x1.Seconds]) (by kernel_rfl) rfl (by kernel_rfl) (by kernel_rfl)) ?_
   rintro _ _ _ _ ⟨rfl,rfl,rfl⟩
   refine Dn<|Ra 2 [1,1,0,1,0,0,1,1,0,0,1,0,0] [.c [1,1,0,1,0,0,1,1,0,0,1,0,1],.b 2,.b 1,.c [1,1,0,1,0,0,1,1,1],.l [1,1,0,1,0,0],.b 0,.c [1,1,1]]<|Rv 2 [0,3,4,8,9,10,17] [.string x1.Test] [.load ⟨g1,0,none⟩ (.string x1.Test)] [(0,.slice Aa0 a0.length ca0),(3,iv v10),(4,pg g1 0),(8,.slice Aa0 a0.length ca0),(9,iv (a0.length:Int)),(10,iv v10),(17,.string x1.Test)] (fun w hh=>(hh.box 0 rfl rfl)) ?_
   obtain ⟨y1,hy1,heq⟩:=bind_some heq
   refine RgH.does (DoesH.call (d:=18) (g:=23) (args:=#[.string x1.Test]) (by kernel_rfl) (smithyardref10_isPath_c (a0:=x1.Test)  hy1)) ?_
   rintro _ _ _ _ ⟨_,rfl,rfl,rfl,rfl⟩
   refine Rd 5 [0,3,4,8,9,10,15] [(0,.slice Aa0 a0.length ca0),(3,iv v10),(4,pg g1 0),(8,.slice Aa0 a0.length ca0),(9,iv (a0.length:Int)),(10,iv v10),(15,.bool (!y1))] ?_
   rcases bool_cases (!y1) with hb3 | hb3
   ·replace heq:=bif_true hb3 heq
    refine Ct (!y1) hb3<|Ra 1 [1,1,0,1,0,0,1,1,0,0,1,0,1,0,0] [.c [1,1,0,1,0,0,1,1,0,0,1,0,1,0,1],.b 2,.b 1,.c [1,1,0,1,0,0,1,1,1],.l [1,1,0,1,0,0],.b 0,.c [1,1,1]]<|Rd 1 [2] [(2,iv 5)] ?_
    obtain rfl:=Option.some.inj heq
    refine RunH.pick 1 [] (cs':=F) (by kernel_rfl) rfl ?_
    exact RunH.done (by kernel_rfl) Tryd.func17 (v:=iv 5) (by kernel_rfl) ⟨rfl,rfl,rfl⟩
   ·replace heq:=bif_false hb3 heq
    refine Cf (!y1) hb3<|Ra 1 [1,1,0,1,0,0,1,1,0,0,1,0,1,1,0] [.c [1,1,0,1,0,0,1,1,0,0,1,0,1,1,1],.b 2,.b 1,.c [1,1,0,1,0,0,1,1,1],.l [1,1,0,1,0,0],.b 0,.c [1,1,1]]<|Rv 2 [0,3,4,8,9,10,22] [.string x1.Key] [.load ⟨g1,1,none⟩ (.string x1.Key)] [(0,.slice Aa0 a0.length ca0),(3,iv v10),(4,pg g1 0),(8,.slice Aa0 a0.length ca0),(9,iv (a0.length:Int)),(10,iv v10),(22,.string x1.Key)] (fun w hh=>(hh.box 0 rfl rfl)) ?_
    obtain ⟨y2,hy2,heq⟩:=bind_some heq
    refine RgH.does (DoesH.call (d:=23) (g:=30) (args:=#[.string x1.Key]) (by kernel_rfl) (smithyardref10_isDigest_c (a0:=x1.Key)  hy2)) ?_
    rintro _ _ _ _ ⟨_,rfl,rfl,rfl,rfl⟩
    refine Rd 5 [0,3,4,8,9,10,20] [(0,.slice Aa0 a0.length ca0),(3,iv v10),(4,pg g1 0),(8,.slice Aa0 a0.length ca0),(9,iv (a0.length:Int)),(10,iv v10),(20,.bool (!y2))] ?_
    rcases bool_cases (!y2) with hb4 | hb4
    ·replace heq:=bif_true hb4 heq
     refine Ct (!y2) hb4<|Ra 1 [1,1,0,1,0,0,1,1,0,0,1,0,1,1,1,0,0] [.c [1,1,0,1,0,0,1,1,0,0,1,0,1,1,1,0,1],.b 2,.b 1,.c [1,1,0,1,0,0,1,1,1],.l [1,1,0,1,0,0],.b 0,.c [1,1,1]]<|Rd 1 [2] [(2,iv 3)] ?_
     obtain rfl:=Option.some.inj heq
     refine RunH.pick 1 [] (cs':=F) (by kernel_rfl) rfl ?_
     exact RunH.done (by kernel_rfl) Tryd.func17 (v:=iv 3) (by kernel_rfl) ⟨rfl,rfl,rfl⟩
    ·replace heq:=bif_false hb4 heq
     refine Cf (!y2) hb4<|Ad 1 [.c [1,1,0,1,0,0,1,1,0,0,1,0,1,1,1,1,0],.c [1,1,0,1,0,0,1,1,0,0,1,0,1,1,1,1,1],.b 2,.b 1,.c [1,1,0,1,0,0,1,1,1],.l [1,1,0,1,0,0],.b 0,.c [1,1,1]] ?_
     obtain ⟨t1,ht1,heq⟩:=bind_some heq
     have K2:RunH C17 (S17 F H r) H w0 [.c [1,1,0,1,0,0,1,1,0,0,1,0,1,1,1,1,1],.b 2,.b 1,.c [1,1,0,1,0,0,1,1,1],.l [1,1,0,1,0,0],.b 0,.c [1,1,1]] [(0,.slice Aa0 a0.length ca0),(3,iv v10),(4,pg g1 0),(8,.slice Aa0 a0.length ca0),(9,iv (a0.length:Int)),(10,iv v10),(25,.bool t1)] H ((some (g1,.cells #[.string x1.Test,.string x1.Key,iv x1.At,.bool x1.Pass,iv x1.Seconds] 25 (0,0)))::F):=by
      rcases bool_cases (t1) with hb6 | hb6
      ·replace heq:=bif_true hb6 heq
       refine Ct t1 hb6<|Ra 1 [1,1,0,1,0,0,1,1,0,0,1,0,1,1,1,1,1,0,0] [.c [1,1,0,1,0,0,1,1,0,0,1,0,1,1,1,1,1,0,1],.b 2,.b 1,.c [1,1,0,1,0,0,1,1,1],.l [1,1,0,1,0,0],.b 0,.c [1,1,1]]<|Rd 1 [2] [(2,iv 1)] ?_
       obtain rfl:=Option.some.inj heq
       refine RunH.pick 1 [] (cs':=F) (by kernel_rfl) rfl ?_
       exact RunH.done (by kernel_rfl) Tryd.func17 (v:=iv 1) (by kernel_rfl) ⟨rfl,rfl,rfl⟩
      ·replace heq:=bif_false hb6 heq
       refine Cf t1 hb6<|Ad 1 [.c [1,1,0,1,0,0,1,1,0,0,1,0,1,1,1,1,1,1,0],.c [1,1,0,1,0,0,1,1,0,0,1,0,1,1,1,1,1,1,1],.b 2,.b 1,.c [1,1,0,1,0,0,1,1,1],.l [1,1,0,1,0,0],.b 0,.c [1,1,1]] ?_
       obtain ⟨t2,ht2,heq⟩:=bind_some heq
       have K3:RunH C17 (S17 F H r) H w0 [.c [1,1,0,1,0,0,1,1,0,0,1,0,1,1,1,1,1,1,1],.b 2,.b 1,.c [1,1,0,1,0,0,1,1,1],.l [1,1,0,1,0,0],.b 0,.c [1,1,1]] [(0,.slice Aa0 a0.length ca0),(8,.slice Aa0 a0.length ca0),(9,iv (a0.length:Int)),(10,iv v10),(36,.bool t2)] H (F):=by
        rcases bool_cases (t2) with hb8 | hb8
        ·replace heq:=bif_true hb8 heq
         refine Ct t2 hb8<|Ra 1 [1,1,0,1,0,0,1,1,0,0,1,0,1,1,1,1,1,1,1,0,0] [.c [1,1,0,1,0,0,1,1,0,0,1,0,1,1,1,1,1,1,1,0,1],.b 2,.b 1,.c [1,1,0,1,0,0,1,1,1],.l [1,1,0,1,0,0],.b 0,.c [1,1,1]]<|Rd 1 [2] [(2,iv 8)] ?_
         obtain rfl:=Option.some.inj heq
         exact RunH.done (by kernel_rfl) Tryd.func17 (v:=iv 8) (by kernel_rfl) ⟨rfl,rfl,rfl⟩
        ·replace heq:=bif_false hb8 heq
         refine Cf t2 hb8<|Ra 3 [1,1,0,1,0,0,1,1,1] [.l [1,1,0,1,0,0],.b 0,.c [1,1,1]]<|Rd 2 [0,8,9,10] [(0,.slice Aa0 a0.length ca0),(8,.slice Aa0 a0.length ca0),(9,iv (a0.length:Int)),(10,iv (w64 (v10+1)))]<|Ad 1 [.c [1,1,0,1,0,0],.l [1,1,0,1,0,0],.b 0,.c [1,1,1]]<|Kp [0,8,9,10] [(0,.slice Aa0 a0.length ca0),(8,.slice Aa0 a0.length ca0),(9,iv (a0.length:Int)),(10,iv (w64 (v10+1)))] ?_
         exact ihk a0 _ _ (w64 (v10+1)) hra0 hca0 heq
       replace heq:=ht2
       refine Kp [0,3,4,8,9,10] [(0,.slice Aa0 a0.length ca0),(3,iv v10),(4,pg g1 0),(8,.slice Aa0 a0.length ca0),(9,iv (a0.length:Int)),(10,iv v10)] ?_
       refine RunH.draw (fun w=>Heap H w0 w ((some (g1,.cells #[.string x1.Test,.string x1.Key,iv x1.At,.bool x1.Pass,iv x1.Seconds] 25 (0,0)))::F)) (fun w=>Heap H w0 w ((some (g1,.cells #[.string x1.Test,.string x1.Key,iv x1.At,.bool x1.Pass,iv x1.Seconds] 25 (0,0)))::F)) [3,3,3,3,3,3,3,3,3,3,3,3,3,3] (n:=14) (ls:=[false,false,false,false,false,false,false,false,false,false,false,false,false,false]) (by kernel_rfl) (by kernel_rfl) (by kernel_rfl) rfl ?_
       refine Dk [0,1,2] 11 (nb 14 7) [] [] [39,0,3,4,8,9,10] [(39,.bool (decide (0<v10))),(0,.slice Aa0 a0.length ca0),(3,iv v10),(4,pg g1 0),(8,.slice Aa0 a0.length ca0),(9,iv (a0.length:Int)),(10,iv v10)] (Pk 1 [0]) (Pk 1 [0]) (fun _ _=>trivial) ?_
       rcases bool_cases (decide (0<v10)) with hb7 | hb7
       ·replace heq:=bif_true hb7 heq
        refine DrH.val1 (v':=.bool true) (congrArg Value.bool hb7) ?_
        obtain ⟨x2,hx2,heq⟩:=bind_some heq
        obtain ⟨ha2,cs2,hK2,hcc2⟩:=hra0.get hx2
        obtain ⟨rfl⟩:=kTestRun_open hK2
        refine Dk [3,4,5,6,7,8,9,10,11,12,13] 0 (nb 14 16383) [iv x1.At,iv x2.At] [.load ⟨g1,2,none⟩ (iv x1.At),.need (Aa0=some (adr Aa0)∧(0:Int)≤(w64 (v10 - 1))∧(w64 (v10 - 1))<((a0.length:Nat):Int)),.load (((adr Aa0).add ((w64 (v10 - 1)).toNat*5)).add 2) (iv x2.At)] [0,8,9,10,36] [(0,.slice Aa0 a0.length ca0),(8,.slice Aa0 a0.length ca0),(9,iv (a0.length:Int)),(10,iv v10),(36,.bool (decide (x1.At<x2.At)))] (Pk 1 [0]) (Pk 1 [0]) (fun w hh=>⟨(hh.box 0 rfl rfl),⟨ha2,(at?_some hx2).1,(at?_some hx2).2.1⟩,(hcc2 _ _ (hh.drop 1) 2 _ rfl)⟩) ?_
        obtain rfl:=Option.some.inj heq
        refine Kr [0,8,9,10,36] [(0,.slice Aa0 a0.length ca0),(8,.slice Aa0 a0.length ca0),(9,iv (a0.length:Int)),(10,iv v10),(36,.bool (decide (x1.At<x2.At)))] ?_
        refine DrH.pick 1 [] (cs':=F) (by kernel_rfl) rfl ?_
        refine DrH.done (by kernel_rfl) ?_
        exact K3
       ·replace heq:=bif_false hb7 heq
        refine DrH.val1 (v':=.bool false) (congrArg Value.bool hb7) ?_
        refine Dk [3,4,5,6,7,8,9,10,11,12,13] 0 (nb 14 16383) [] [] [0,8,9,10,36] [(0,.slice Aa0 a0.length ca0),(8,.slice Aa0 a0.length ca0),(9,iv (a0.length:Int)),(10,iv v10),(36,.bool false)] (Pk 1 [0]) (Pk 1 [0]) (fun _ _=>trivial) ?_
        obtain rfl:=Option.some.inj heq
        refine Kr [0,8,9,10,36] [(0,.slice Aa0 a0.length ca0),(8,.slice Aa0 a0.length ca0),(9,iv (a0.length:Int)),(10,iv v10),(36,.bool false)] ?_
        refine DrH.pick 1 [] (cs':=F) (by kernel_rfl) rfl ?_
        refine DrH.done (by kernel_rfl) ?_
        exact K3
     replace heq:=ht1
     refine Rr<|Rv 2 [0,3,4,8,9,10,27] [iv x1.At] [.load ⟨g1,2,none⟩ (iv x1.At)] [(0,.slice Aa0 a0.length ca0),(3,iv v10),(4,pg g1 0),(8,.slice Aa0 a0.length ca0),(9,iv (a0.length:Int)),(10,iv v10),(27,iv x1.At)] (fun w hh=>(hh.box 0 rfl rfl)) ?_
     obtain ⟨y3,hy3,heq⟩:=bind_some heq
     refine RgH.does (DoesH.call (d:=28) (g:=31) (args:=#[iv x1.At,iv 0,iv 1000000000]) (by kernel_rfl) (smithyardref10_within_c (a0:=x1.At) (a1:=0) (a2:=1000000000)  hy3)) ?_
     rintro _ _ _ _ ⟨_,rfl,rfl,rfl,rfl⟩
     refine Rk 5 [30,0,3,4,8,9,10] [(30,.bool (!y3)),(0,.slice Aa0 a0.length ca0),(3,iv v10),(4,pg g1 0),(8,.slice Aa0 a0.length ca0),(9,iv (a0.length:Int)),(10,iv v10)] ?_
     rcases bool_cases (!y3) with hb5 | hb5
     ·replace heq:=bif_true hb5 heq
      refine RgH.val1 (v':=.bool true) (congrArg Value.bool hb5) ?_
      refine Rk 11 [0,3,4,8,9,10,25] [(0,.slice Aa0 a0.length ca0),(3,iv v10),(4,pg g1 0),(8,.slice Aa0 a0.length ca0),(9,iv (a0.length:Int)),(10,iv v10),(25,.bool true)] ?_
      obtain rfl:=Option.some.inj heq
      refine Kg [0,3,4,8,9,10,25] [(0,.slice Aa0 a0.length ca0),(3,iv v10),(4,pg g1 0),(8,.slice Aa0 a0.length ca0),(9,iv (a0.length:Int)),(10,iv v10),(25,.bool true)]<|Dn ?_
      exact K2
     ·replace heq:=bif_false hb5 heq
      refine RgH.val1 (v':=.bool false) (congrArg Value.bool hb5) ?_
      refine Rv 7 [0,3,4,8,9,10,30,32] [iv x1.Seconds] [.load ⟨g1,4,none⟩ (iv x1.Seconds)] [(0,.slice Aa0 a0.length ca0),(3,iv v10),(4,pg g1 0),(8,.slice Aa0 a0.length ca0),(9,iv (a0.length:Int)),(10,iv v10),(30,.bool false),(32,iv x1.Seconds)] (fun w hh=>(hh.box 0 rfl rfl)) ?_
      obtain ⟨y4,hy4,heq⟩:=bind_some heq
      refine RgH.does (DoesH.call (d:=33) (g:=31) (args:=#[iv x1.Seconds,iv 0,iv 100000]) (by kernel_rfl) (smithyardref10_within_c (a0:=x1.Seconds) (a1:=0) (a2:=100000)  hy4)) ?_
      rintro _ _ _ _ ⟨_,rfl,rfl,rfl,rfl⟩
      refine Rk 11 [0,3,4,8,9,10,25] [(0,.slice Aa0 a0.length ca0),(3,iv v10),(4,pg g1 0),(8,.slice Aa0 a0.length ca0),(9,iv (a0.length:Int)),(10,iv v10),(25,.bool (!y4))] ?_
      obtain rfl:=Option.some.inj heq
      refine Kg [0,3,4,8,9,10,25] [(0,.slice Aa0 a0.length ca0),(3,iv v10),(4,pg g1 0),(8,.slice Aa0 a0.length ca0),(9,iv (a0.length:Int)),(10,iv v10),(25,.bool (!y4))]<|Dn ?_
      exact K2
  ·replace heq:=bif_false hb2 heq
   refine Cf (decide (v10<(a0.length:Int))) hb2<|Ad 2 [.c [1,1,1,0],.c [1,1,1,1]]<|Kp [] [] ?_
   exact he1 heq
theorem smithyardref10_CheckHistory_c {w0:World} [GlobI 0 w0] {H:Hp} {F:List Ch} {a0:List TestRun} {Aa0:Option Addr} {na0:Nat} {ca0:Nat} {r:Int} (hra0:Rw kTestRun H F Aa0 a0) (hca0:na0≤ca0) (hna0:na0=a0.length) (heq:smithyardref10_CheckHistory.f a0=some r):CallsH Tryd.prog 17 #[.slice Aa0 na0 ca0] H w0 (F) (S17 F H r):=by
 refine calls_of_runH (F:=C17) Tryd.func17 (by kernel_rfl) Tryd.ntmps17 (args:=[.slice Aa0 na0 ca0]) (by kernel_rfl) ?_
 subst hna0
 unfold smithyardref10_CheckHistory.f at heq
 refine Ra 1 [0] [.c [1]]<|Rd 1 [0] [(0,.slice Aa0 a0.length ca0)]<|Ra 2 [1,0,0] [.c [1,0,1],.c [1,1]]<|Rd 3 [0,7] [(0,.slice Aa0 a0.length ca0),(7,.bool (decide (3000<(a0.length:Int))))] ?_
 rcases bool_cases (decide (3000<(a0.length:Int))) with hb1 | hb1
 ·replace heq:=bif_true hb1 heq
  refine Ct (decide (3000<(a0.length:Int))) hb1<|Ra 1 [1,0,1,0,0] [.c [1,0,1,0,1],.c [1,1]]<|Rd 1 [2] [(2,iv 2)] ?_
  obtain rfl:=Option.some.inj heq
  exact RunH.done (by kernel_rfl) Tryd.func17 (v:=iv 2) (by kernel_rfl) ⟨rfl,rfl,rfl⟩
 ·replace heq:=bif_false hb1 heq
  refine Cf (decide (3000<(a0.length:Int))) hb1<|Ra 3 [1,1,0,0] [.c [1,1,0,1],.c [1,1,1]]<|Rd 3 [0,8,9,10] [(0,.slice Aa0 a0.length ca0),(8,.slice Aa0 a0.length ca0),(9,iv (a0.length:Int)),(10,iv 0)]<|Ad 2 [.c [1,1,0,1,0,0],.l [1,1,0,1,0,0],.b 0,.c [1,1,1]]<|Kp [0,8,9,10] [(0,.slice Aa0 a0.length ca0),(8,.slice Aa0 a0.length ca0),(9,iv (a0.length:Int)),(10,iv 0)] ?_
  exact ((smithyardref10_CheckHistory.l2_c (e1:=smithyardref10_CheckHistory.e1) (smithyardref10_CheckHistory.e1_c)) big) a0 _ _ 0 hra0 hca0 heq
def S19 (F:List Ch) (H0:Hp) (Aa0:Option Addr) (ca0:Nat) (la0:Nat) (r:List ByteArray) (v:Value) (H:Hp) (cs:List Ch):Prop:=∃ (ch0:Ch),H0=H∧v=.tuple #[]∧ch0::F=cs∧SlOwn Kd.string 9 H Aa0 ca0 r ch0∧la0=r.length
theorem slices_Sort_string_c {w0:World} [GlobI 0 w0] {H:Hp} {F:List Ch} {a0:List ByteArray} {Aa0:Option Addr} {na0 ca0:Nat} {cha0:Ch} {r:List ByteArray} (hoa0:SlOwn Kd.string 9 H Aa0 ca0 a0 cha0) (hna0:na0=a0.length) (heq:slices_Sort_string.f a0=some r):CallsH Tryd.prog 19 #[.slice Aa0 na0 ca0] H w0 (cha0::F) (S19 F H Aa0 ca0 na0 r):=by
 intro w hh
 unfold slices_Sort_string.f at heq
 obtain ⟨hn,heq⟩:=guard?_some heq
 obtain rfl:=Option.some.inj heq
 subst hna0
 refine (sort_calls (F:=F) (w0:=w0) Shelf.Tryd.slices_Sort_string Shelf.Tryd.slices_Sort_string_none hoa0 (of_decide_eq_true hn) w hh).mono ?_
 rintro e w' ⟨v,rfl,H',cs',hle,hh',ch',rfl,hv,rfl,ho⟩
 exact ⟨_,rfl,_,_,hle,hh',ch',rfl,hv,rfl,ho,(sortB_length a0).symm⟩
def S20 (F:List Ch) (H0:Hp) (r:List ByteArray) (v:Value) (H:Hp) (cs:List Ch):Prop:=∃ (A0:Option Addr) (c0:Nat) (ch0:Ch),H0=H∧v=.slice A0 r.length c0∧ch0::F=cs∧SlOwn Kd.string 9 H A0 c0 r ch0
theorem slices_Compact_string_c {w0:World} [GlobI 0 w0] {H:Hp} {F:List Ch} {a0:List ByteArray} {Aa0:Option Addr} {na0 ca0:Nat} {cha0:Ch} {r:List ByteArray} (hoa0:SlOwn Kd.string 9 H Aa0 ca0 a0 cha0) (hna0:na0=a0.length) (heq:slices_Compact_string.f a0=some r):CallsH Tryd.prog 20 #[.slice Aa0 na0 ca0] H w0 (cha0::F) (S20 F H r):=by
 unfold slices_Compact_string.f at heq
 obtain ⟨hn,heq⟩:=guard?_some heq
 obtain rfl:=Option.some.inj heq
 subst hna0
 exact compact_calls (F:=F) (w0:=w0) Shelf.Tryd.slices_Compact_string Shelf.Tryd.slices_Compact_string_empty hoa0 (of_decide_eq_true hn)
noncomputable def C18:Ctx:={ P:=Tryd.prog,f:=18,N:=48,c:=bodyOf Tryd.f18 }
def S18 (F:List Ch) (H0:Hp) (r:Int) (v:Value) (H:Hp) (cs:List Ch):Prop:=H0=H∧v=iv r∧F=cs
theorem smithyardref10_verdict.e1_c {w0:World} [GlobI 0 w0] {H:Hp} {F:List Ch} {r:Int}:∀ (v_good7:Bool) (v_bad8:Bool) ,smithyardref10_verdict.e1 v_good7 v_bad8=some r→RunH C18 (S18 F H r) H w0 [.c [1,1,1,0,0,0],.c [1,1,1,0,0,1],.b 2,.c [1,1,1,1]] [(7,.bool v_good7),(8,.bool v_bad8)] H (F):=by
 intro v_good7 v_bad8  heq
 unfold smithyardref10_verdict.e1 at heq
 obtain ⟨t1,ht1,heq⟩:=bind_some heq
 have K1:RunH C18 (S18 F H r) H w0 [.c [1,1,1,0,0,1],.b 2,.c [1,1,1,1]] [(7,.bool v_good7),(8,.bool v_bad8),(39,.bool t1)] H (F):=by
  rcases bool_cases (t1) with hb2 | hb2
  ·replace heq:=bif_true hb2 heq
   refine Ct t1 hb2<|Ra 1 [1,1,1,0,0,1,0,0] [.c [1,1,1,0,0,1,0,1],.b 2,.c [1,1,1,1]]<|Rd 1 [6] [(6,iv 4)] ?_
   obtain rfl:=Option.some.inj heq
   exact RunH.done (by kernel_rfl) Tryd.func18 (v:=iv 4) (by kernel_rfl) ⟨rfl,rfl,rfl⟩
  ·replace heq:=bif_false hb2 heq
   refine Cf t1 hb2<|Ra 1 [1,1,1,0,0,1,1,0] [.c [1,1,1,0,0,1,1,1],.b 2,.c [1,1,1,1]]<|Rd 2 [8,44] [(8,.bool v_bad8),(44,.bool v_good7)] ?_
   rcases bool_cases (v_good7) with hb3 | hb3
   ·replace heq:=bif_true hb3 heq
    refine Ct v_good7 hb3<|Ra 1 [1,1,1,0,0,1,1,1,0,0] [.c [1,1,1,0,0,1,1,1,0,1],.b 2,.c [1,1,1,1]]<|Rd 1 [6] [(6,iv 2)] ?_
    obtain rfl:=Option.some.inj heq
    exact RunH.done (by kernel_rfl) Tryd.func18 (v:=iv 2) (by kernel_rfl) ⟨rfl,rfl,rfl⟩
   ·replace heq:=bif_false hb3 heq
    refine Cf v_good7 hb3<|Ra 1 [1,1,1,0,0,1,1,1,1,0] [.c [1,1,1,0,0,1,1,1,1,1],.b 2,.c [1,1,1,1]]<|Rd 2 [46] [(46,.bool v_bad8)] ?_
    rcases bool_cases (v_bad8) with hb4 | hb4
    ·replace heq:=bif_true hb4 heq
     refine Ct v_bad8 hb4<|Ra 1 [1,1,1,0,0,1,1,1,1,1,0,0] [.c [1,1,1,0,0,1,1,1,1,1,0,1],.b 2,.c [1,1,1,1]]<|Rd 1 [6] [(6,iv 3)] ?_
     obtain rfl:=Option.some.inj heq
     exact RunH.done (by kernel_rfl) Tryd.func18 (v:=iv 3) (by kernel_rfl) ⟨rfl,rfl,rfl⟩
    ·replace heq:=bif_false hb4 heq
     refine Cf v_bad8 hb4<|Ra 3 [1,1,1,1,0] [.c [1,1,1,1,1]]<|Rd 1 [6] [(6,iv 1)] ?_
     obtain rfl:=Option.some.inj heq
     exact RunH.done (by kernel_rfl) Tryd.func18 (v:=iv 1) (by kernel_rfl) ⟨rfl,rfl,rfl⟩
 replace heq:=ht1
 refine Rr<|Rk 2 [41,7,8] [(41,.bool v_good7),(7,.bool v_good7),(8,.bool v_bad8)] ?_
 rcases bool_cases (v_good7) with hb1 | hb1
 ·replace heq:=bif_true hb1 heq
  refine RgH.val1 (v':=.bool true) (congrArg Value.bool hb1) ?_
  refine Rk 5 [7,8,39] [(7,.bool v_good7),(8,.bool v_bad8),(39,.bool v_bad8)] ?_
  obtain rfl:=Option.some.inj heq
  refine Kg [7,8,39] [(7,.bool v_good7),(8,.bool v_bad8),(39,.bool v_bad8)]<|Dn ?_
  exact K1
 ·replace heq:=bif_false hb1 heq
  refine RgH.val1 (v':=.bool false) (congrArg Value.bool hb1) ?_
  refine Rk 5 [7,8,39] [(7,.bool v_good7),(8,.bool v_bad8),(39,.bool false)] ?_
  obtain rfl:=Option.some.inj heq
  refine Kg [7,8,39] [(7,.bool v_good7),(8,.bool v_bad8),(39,.bool false)]<|Dn ?_
  exact K1
theorem smithyardref10_verdict.j3_c {w0:World} [GlobI 0 w0] {H:Hp} {F:List Ch} {r:Int} (backl2:(List TestRun)→ByteArray→ByteArray→Bool→Bool→Int→Option Int)
  (hbackl2:∀ (a0:List TestRun) (Aa0:Option Addr) (ca0:Nat) (a1:ByteArray) (a2:ByteArray) (v_good7:Bool) (v_bad8:Bool) (v13:Int) ,Rw kTestRun H F Aa0 a0→a0.length≤ca0→backl2 a0 a1 a2 v_good7 v_bad8 v13=some r→RunH C18 (S18 F H r) H w0 [.c [1,1,0,1,0,0],.l [1,1,0,1,0,0],.b 0,.c [1,1,1]] [(1,.string a1),(2,.string a2),(7,.bool v_good7),(8,.bool v_bad8),(11,.slice Aa0 a0.length ca0),(12,iv (a0.length:Int)),(13,iv v13)] H (F)):∀ (a0:List TestRun) (Aa0:Option Addr) (ca0:Nat) (a1:ByteArray) (a2:ByteArray) (v13:Int) (v_good7:Bool) (v_bad8:Bool) ,Rw kTestRun H F Aa0 a0→a0.length≤ca0→smithyardref10_verdict.j3 backl2 a0 a1 a2 v13 v_good7 v_bad8=some r→RunH C18 (S18 F H r) H w0 [.c [1,1,0,1,0,0,1,1,1],.l [1,1,0,1,0,0],.b 0,.c [1,1,1]] [(1,.string a1),(2,.string a2),(7,.bool v_good7),(8,.bool v_bad8),(11,.slice Aa0 a0.length ca0),(12,iv (a0.length:Int)),(13,iv v13)] H (F):=by
 intro a0 Aa0 ca0 a1 a2 v13 v_good7 v_bad8 hra0 hca0 heq
 unfold smithyardref10_verdict.j3 at heq
 refine Rr<|Rd 2 [1,2,7,8,11,12,13] [(1,.string a1),(2,.string a2),(7,.bool v_good7),(8,.bool v_bad8),(11,.slice Aa0 a0.length ca0),(12,iv (a0.length:Int)),(13,iv (w64 (v13+1)))]<|Ad 1 [.c [1,1,0,1,0,0],.l [1,1,0,1,0,0],.b 0,.c [1,1,1]]<|Kp [1,2,7,8,11,12,13] [(1,.string a1),(2,.string a2),(7,.bool v_good7),(8,.bool v_bad8),(11,.slice Aa0 a0.length ca0),(12,iv (a0.length:Int)),(13,iv (w64 (v13+1)))] ?_
 exact hbackl2 a0 _ _ a1 a2 v_good7 v_bad8 (w64 (v13+1)) hra0 hca0 heq
theorem smithyardref10_verdict.l2_c {w0:World} [GlobI 0 w0] {H:Hp} {F:List Ch} {r:Int} (e1:Bool→Bool→Option Int)
  (he1:∀ (v_good7:Bool) (v_bad8:Bool) ,e1 v_good7 v_bad8=some r→RunH C18 (S18 F H r) H w0 [.c [1,1,1,0,0,0],.c [1,1,1,0,0,1],.b 2,.c [1,1,1,1]] [(7,.bool v_good7),(8,.bool v_bad8)] H (F)):∀ (k:Nat),∀ (a0:List TestRun) (Aa0:Option Addr) (ca0:Nat) (a1:ByteArray) (a2:ByteArray) (v_good7:Bool) (v_bad8:Bool) (v13:Int) ,Rw kTestRun H F Aa0 a0→a0.length≤ca0→smithyardref10_verdict.l2 e1 k a0 a1 a2 v_good7 v_bad8 v13=some r→RunH C18 (S18 F H r) H w0 [.c [1,1,0,1,0,0],.l [1,1,0,1,0,0],.b 0,.c [1,1,1]] [(1,.string a1),(2,.string a2),(7,.bool v_good7),(8,.bool v_bad8),(11,.slice Aa0 a0.length ca0),(12,iv (a0.length:Int)),(13,iv v13)] H (F):=by
 intro k
 induction k with
 | zero=>intro a0 Aa0 ca0 a1 a2 v_good7 v_bad8 v13 hra0 hca0 heq; exact nomatch (show (none:Option Int)=some r from heq)
 | succ k ihk =>
  intro a0 Aa0 ca0 a1 a2 v_good7 v_bad8 v13 hra0 hca0 heq
  rw [smithyardref10_verdict.l2] at heq
  refine Ra 1 [1,1,0,1,0,0,0] [.c [1,1,0,1,0,0,1],.l [1,1,0,1,0,0],.b 0,.c [1,1,1]]<|Rd 1 [1,2,7,8,11,12,13,14] [(1,.string a1),(2,.string a2),(7,.bool v_good7),(8,.bool v_bad8),(11,.slice Aa0 a0.length ca0),(12,iv (a0.length:Int)),(13,iv v13),(14,.bool (decide (v13<(a0.length:Int))))]<|Ad 1 [.c [1,1,0,1,0,0,1,0],.c [1,1,0,1,0,0,1,1],.l [1,1,0,1,0,0],.b 0,.c [1,1,1]] ?_
  rcases bool_cases (decide (v13<(a0.length:Int))) with hb5 | hb5
  ·replace heq:=bif_true hb5 heq
   refine Ct (decide (v13<(a0.length:Int))) hb5<|Ra 4 [1,1,0,1,0,0,1,1,0,0,0] [.c [1,1,0,1,0,0,1,1,0,0,1],.b 1,.c [1,1,0,1,0,0,1,1,1],.l [1,1,0,1,0,0],.b 0,.c [1,1,1]] ?_
   obtain ⟨x1,hx1,heq⟩:=bind_some heq
   obtain ⟨ha1,cs1,hK1,hcc1⟩:=hra0.get hx1
   obtain ⟨rfl⟩:=kTestRun_open hK1
   refine Rv 2 [1,2,7,8,11,12,13,16] [.string x1.Test,.string x1.Key,iv x1.At,.bool x1.Pass,iv x1.Seconds] [.need (Aa0=some (adr Aa0)∧(0:Int)≤v13∧v13<((a0.length:Nat):Int)),.load (((adr Aa0).add (v13.toNat*5)).add 0) (.string x1.Test),.load (((adr Aa0).add (v13.toNat*5)).add 1) (.string x1.Key),.load (((adr Aa0).add (v13.toNat*5)).add 2) (iv x1.At),.load (((adr Aa0).add (v13.toNat*5)).add 3) (.bool x1.Pass),.load (((adr Aa0).add (v13.toNat*5)).add 4) (iv x1.Seconds)] [(1,.string a1),(2,.string a2),(7,.bool v_good7),(8,.bool v_bad8),(11,.slice Aa0 a0.length ca0),(12,iv (a0.length:Int)),(13,iv v13),(16,.agg #[.string x1.Test,.string x1.Key,iv x1.At,.bool x1.Pass,iv x1.Seconds])] (fun w hh=>⟨⟨ha1,(at?_some hx1).1,(at?_some hx1).2.1⟩,(hcc1 _ _ (hh.drop 0) 0 _ rfl),(hcc1 _ _ (hh.drop 0) 1 _ rfl),(hcc1 _ _ (hh.drop 0) 2 _ rfl),(hcc1 _ _ (hh.drop 0) 3 _ rfl),(hcc1 _ _ (hh.drop 0) 4 _ rfl)⟩) ?_
   refine RgH.does (DoesH.new (d:=10) (v:=fun g=>.pointer (some ⟨g,0,none⟩)) (o:=fun g=>.cells #[.string ByteArray.empty,.string ByteArray.empty,iv 0,.bool false,iv 0] 25 (0,0)) (fun g=>by kernel_rfl)) ?_
   rintro _ _ _ _ ⟨g1,rfl,rfl,rfl⟩
   refine RgH.does (DoesH.store (k:=0) (g:=g1) (off:=0) (v:=.agg #[.string x1.Test,.string x1.Key,iv x1.At,.bool x1.Pass,iv x1.Seconds]) (cells':=#[.string x1.Test,.string x1.Key,iv x1.At,.bool x1.Pass,iv x1.Seconds]) (by kernel_rfl) rfl (by kernel_rfl) (by kernel_rfl)) ?_
   rintro _ _ _ _ ⟨rfl,rfl,rfl⟩
   refine Dn<|Ad 1 [.c [1,1,0,1,0,0,1,1,0,0,1,0],.c [1,1,0,1,0,0,1,1,0,0,1,1],.b 1,.c [1,1,0,1,0,0,1,1,1],.l [1,1,0,1,0,0],.b 0,.c [1,1,1]] ?_
   obtain ⟨t2,ht2,heq⟩:=bind_some heq
   have K3:RunH C18 (S18 F H r) H w0 [.c [1,1,0,1,0,0,1,1,0,0,1,1],.b 1,.c [1,1,0,1,0,0,1,1,1],.l [1,1,0,1,0,0],.b 0,.c [1,1,1]] [(1,.string a1),(2,.string a2),(7,.bool v_good7),(8,.bool v_bad8),(10,pg g1 0),(11,.slice Aa0 a0.length ca0),(12,iv (a0.length:Int)),(13,iv v13),(26,.bool t2)] H ((some (g1,.cells #[.string x1.Test,.string x1.Key,iv x1.At,.bool x1.Pass,iv x1.Seconds] 25 (0,0)))::F):=by
    rcases bool_cases (t2) with hb7 | hb7
    ·replace heq:=bif_true hb7 heq
     refine Ct t2 hb7 ?_
     obtain ⟨t3,ht3,heq⟩:=bind_some heq
     have K4:RunH C18 (S18 F H r) H w0 [.b 1,.c [1,1,0,1,0,0,1,1,1],.l [1,1,0,1,0,0],.b 0,.c [1,1,1]] [(1,.string a1),(2,.string a2),(7,.bool t3.1),(8,.bool t3.2),(11,.slice Aa0 a0.length ca0),(12,iv (a0.length:Int)),(13,iv v13)] H (F):=by
      refine Ad 1 [.c [1,1,0,1,0,0,1,1,1],.l [1,1,0,1,0,0],.b 0,.c [1,1,1]]<|Kp [1,2,7,8,11,12,13] [(1,.string a1),(2,.string a2),(7,.bool t3.1),(8,.bool t3.2),(11,.slice Aa0 a0.length ca0),(12,iv (a0.length:Int)),(13,iv v13)] ?_
      exact (smithyardref10_verdict.j3_c (backl2:=(smithyardref10_verdict.l2 e1 k)) ihk) a0 _ _ a1 a2 v13 t3.1 t3.2 hra0 hca0 heq
     replace heq:=ht3
     refine Kp [1,2,7,8,10,11,12,13] [(1,.string a1),(2,.string a2),(7,.bool v_good7),(8,.bool v_bad8),(10,pg g1 0),(11,.slice Aa0 a0.length ca0),(12,iv (a0.length:Int)),(13,iv v13)] ?_
     refine RunH.draw (fun w=>Heap H w0 w ((some (g1,.cells #[.string x1.Test,.string x1.Key,iv x1.At,.bool x1.Pass,iv x1.Seconds] 25 (0,0)))::F)) (fun w=>Heap H w0 w ((some (g1,.cells #[.string x1.Test,.string x1.Key,iv x1.At,.bool x1.Pass,iv x1.Seconds] 25 (0,0)))::F)) [3,3,3,3,3,3,3,3,3,3,3,3,3] (n:=13) (ls:=[false,false,false,false,false,false,false,false,false,false,false,false,false]) (by kernel_rfl) (by kernel_rfl) (by kernel_rfl) rfl ?_
     refine Dk [0,1,5,6] 9 (nb 13 99) [] [] [28,1,2,7,8,10,11,12,13,33] [(28,.bool v_good7),(1,.string a1),(2,.string a2),(7,.bool v_good7),(8,.bool v_bad8),(10,pg g1 0),(11,.slice Aa0 a0.length ca0),(12,iv (a0.length:Int)),(13,iv v13),(33,.bool v_bad8)] (Pk 1 [0]) (Pk 1 [0]) (fun _ _=>trivial) ?_
     rcases bool_cases (v_good7) with hb8 | hb8
     ·replace heq:=bif_true hb8 heq
      refine DrH.val1 (v':=.bool true) (congrArg Value.bool hb8) ?_
      refine Dk [2,3,4,11] 5 (nb 13 2175) [] [] [33,1,2,7,8,10,11,12,13] [(33,.bool v_bad8),(1,.string a1),(2,.string a2),(7,.bool true),(8,.bool v_bad8),(10,pg g1 0),(11,.slice Aa0 a0.length ca0),(12,iv (a0.length:Int)),(13,iv v13)] (Pk 1 [0]) (Pk 1 [0]) (fun _ _=>trivial) ?_
      rcases bool_cases (v_bad8) with hb9 | hb9
      ·replace heq:=bif_true hb9 heq
       refine DrH.val1 (v':=.bool true) (congrArg Value.bool hb9) ?_
       refine Dk [7,8,9,10,12] 0 (nb 13 8191) [] [] [1,2,7,8,11,12,13] [(1,.string a1),(2,.string a2),(7,.bool true),(8,.bool true),(11,.slice Aa0 a0.length ca0),(12,iv (a0.length:Int)),(13,iv v13)] (Pk 1 [0]) (Pk 1 [0]) (fun _ _=>trivial) ?_
       obtain rfl:=Option.some.inj heq
       refine Kr [1,2,7,8,11,12,13] [(1,.string a1),(2,.string a2),(7,.bool true),(8,.bool true),(11,.slice Aa0 a0.length ca0),(12,iv (a0.length:Int)),(13,iv v13)] ?_
       refine DrH.pick 1 [] (cs':=F) (by kernel_rfl) rfl ?_
       refine DrH.done (by kernel_rfl) ?_
       exact K4
      ·replace heq:=bif_false hb9 heq
       refine DrH.val1 (v':=.bool false) (congrArg Value.bool hb9) ?_
       refine Dk [7,8,9,10,12] 0 (nb 13 8191) [.bool x1.Pass] [.load ⟨g1,3,none⟩ (.bool x1.Pass)] [1,2,7,8,11,12,13] [(1,.string a1),(2,.string a2),(7,.bool true),(8,.bool (!x1.Pass)),(11,.slice Aa0 a0.length ca0),(12,iv (a0.length:Int)),(13,iv v13)] (Pk 1 [0]) (Pk 1 [0]) (fun w hh=>(hh.box 0 rfl rfl)) ?_
       obtain rfl:=Option.some.inj heq
       refine Kr [1,2,7,8,11,12,13] [(1,.string a1),(2,.string a2),(7,.bool true),(8,.bool (!x1.Pass)),(11,.slice Aa0 a0.length ca0),(12,iv (a0.length:Int)),(13,iv v13)] ?_
       refine DrH.pick 1 [] (cs':=F) (by kernel_rfl) rfl ?_
       refine DrH.done (by kernel_rfl) ?_
       exact K4
     ·replace heq:=bif_false hb8 heq
      refine DrH.val1 (v':=.bool false) (congrArg Value.bool hb8) ?_
      refine Dk [2,3,4,11] 5 (nb 13 2175) [.bool x1.Pass] [.load ⟨g1,3,none⟩ (.bool x1.Pass)] [33,1,2,7,8,10,11,12,13] [(33,.bool v_bad8),(1,.string a1),(2,.string a2),(7,.bool x1.Pass),(8,.bool v_bad8),(10,pg g1 0),(11,.slice Aa0 a0.length ca0),(12,iv (a0.length:Int)),(13,iv v13)] (Pk 1 [0]) (Pk 1 [0]) (fun w hh=>(hh.box 0 rfl rfl)) ?_
      rcases bool_cases (v_bad8) with hb10 | hb10
      ·replace heq:=bif_true hb10 heq
       refine DrH.val1 (v':=.bool true) (congrArg Value.bool hb10) ?_
       refine Dk [7,8,9,10,12] 0 (nb 13 8191) [] [] [1,2,7,8,11,12,13] [(1,.string a1),(2,.string a2),(7,.bool x1.Pass),(8,.bool true),(11,.slice Aa0 a0.length ca0),(12,iv (a0.length:Int)),(13,iv v13)] (Pk 1 [0]) (Pk 1 [0]) (fun _ _=>trivial) ?_
       obtain rfl:=Option.some.inj heq
       refine Kr [1,2,7,8,11,12,13] [(1,.string a1),(2,.string a2),(7,.bool x1.Pass),(8,.bool true),(11,.slice Aa0 a0.length ca0),(12,iv (a0.length:Int)),(13,iv v13)] ?_
       refine DrH.pick 1 [] (cs':=F) (by kernel_rfl) rfl ?_
       refine DrH.done (by kernel_rfl) ?_
       exact K4
      ·replace heq:=bif_false hb10 heq
       refine DrH.val1 (v':=.bool false) (congrArg Value.bool hb10) ?_
       refine Dk [7,8,9,10,12] 0 (nb 13 8191) [.bool x1.Pass] [.load ⟨g1,3,none⟩ (.bool x1.Pass)] [1,2,7,8,11,12,13] [(1,.string a1),(2,.string a2),(7,.bool x1.Pass),(8,.bool (!x1.Pass)),(11,.slice Aa0 a0.length ca0),(12,iv (a0.length:Int)),(13,iv v13)] (Pk 1 [0]) (Pk 1 [0]) (fun w hh=>(hh.box 0 rfl rfl)) ?_
       obtain rfl:=Option.some.inj heq
       refine Kr [1,2,7,8,11,12,13] [(1,.string a1),(2,.string a2),(7,.bool x1.Pass),(8,.bool (!x1.Pass)),(11,.slice Aa0 a0.length ca0),(12,iv (a0.length:Int)),(13,iv v13)] ?_
       refine DrH.pick 1 [] (cs':=F) (by kernel_rfl) rfl ?_
       refine DrH.done (by kernel_rfl) ?_
       exact K4
    ·replace heq:=bif_false hb7 heq
     refine Cf t2 hb7<|Ad 2 [.c [1,1,0,1,0,0,1,1,1],.l [1,1,0,1,0,0],.b 0,.c [1,1,1]]<|Kp [1,2,7,8,11,12,13] [(1,.string a1),(2,.string a2),(7,.bool v_good7),(8,.bool v_bad8),(11,.slice Aa0 a0.length ca0),(12,iv (a0.length:Int)),(13,iv v13)] ?_
     refine RunH.pick 1 [] (cs':=F) (by kernel_rfl) rfl ?_
     exact (smithyardref10_verdict.j3_c (backl2:=(smithyardref10_verdict.l2 e1 k)) ihk) a0 _ _ a1 a2 v13 v_good7 v_bad8 hra0 hca0 heq
   replace heq:=ht2
   refine Rr<|Rv 5 [21,1,2,7,8,10,11,12,13] [.string x1.Test] [.load ⟨g1,0,none⟩ (.string x1.Test)] [(21,.bool (sEq x1.Test a1)),(1,.string a1),(2,.string a2),(7,.bool v_good7),(8,.bool v_bad8),(10,pg g1 0),(11,.slice Aa0 a0.length ca0),(12,iv (a0.length:Int)),(13,iv v13)] (fun w hh=>(hh.box 0 rfl rfl)) ?_
   rcases bool_cases (sEq x1.Test a1) with hb6 | hb6
   ·replace heq:=bif_true hb6 heq
    refine RgH.val1 (v':=.bool true) (congrArg Value.bool hb6) ?_
    refine Rv 10 [1,2,7,8,10,11,12,13,26] [.string x1.Key] [.load ⟨g1,1,none⟩ (.string x1.Key)] [(1,.string a1),(2,.string a2),(7,.bool v_good7),(8,.bool v_bad8),(10,pg g1 0),(11,.slice Aa0 a0.length ca0),(12,iv (a0.length:Int)),(13,iv v13),(26,.bool (sEq x1.Key a2))] (fun w hh=>(hh.box 0 rfl rfl)) ?_
    obtain rfl:=Option.some.inj heq
    refine Kg [1,2,7,8,10,11,12,13,26] [(1,.string a1),(2,.string a2),(7,.bool v_good7),(8,.bool v_bad8),(10,pg g1 0),(11,.slice Aa0 a0.length ca0),(12,iv (a0.length:Int)),(13,iv v13),(26,.bool (sEq x1.Key a2))]<|Dn ?_
    exact K3
   ·replace heq:=bif_false hb6 heq
    refine RgH.val1 (v':=.bool false) (congrArg Value.bool hb6) ?_
    refine Rk 10 [1,2,7,8,10,11,12,13,26] [(1,.string a1),(2,.string a2),(7,.bool v_good7),(8,.bool v_bad8),(10,pg g1 0),(11,.slice Aa0 a0.length ca0),(12,iv (a0.length:Int)),(13,iv v13),(26,.bool false)] ?_
    obtain rfl:=Option.some.inj heq
    refine Kg [1,2,7,8,10,11,12,13,26] [(1,.string a1),(2,.string a2),(7,.bool v_good7),(8,.bool v_bad8),(10,pg g1 0),(11,.slice Aa0 a0.length ca0),(12,iv (a0.length:Int)),(13,iv v13),(26,.bool false)]<|Dn ?_
    exact K3
  ·replace heq:=bif_false hb5 heq
   refine Cf (decide (v13<(a0.length:Int))) hb5<|Ad 4 [.c [1,1,1,0,0,0],.c [1,1,1,0,0,1],.b 2,.c [1,1,1,1]]<|Kp [7,8] [(7,.bool v_good7),(8,.bool v_bad8)] ?_
   exact he1 v_good7 v_bad8 heq
theorem smithyardref10_verdict_c {w0:World} [GlobI 0 w0] {H:Hp} {F:List Ch} {a0:List TestRun} {Aa0:Option Addr} {na0:Nat} {ca0:Nat} {a1:ByteArray} {a2:ByteArray} {r:Int} (hra0:Rw kTestRun H F Aa0 a0) (hca0:na0≤ca0) (hna0:na0=a0.length) (heq:smithyardref10_verdict.f a0 a1 a2=some r):CallsH Tryd.prog 18 #[.slice Aa0 na0 ca0,.string a1,.string a2] H w0 (F) (S18 F H r):=by
 refine calls_of_runH (F:=C18) Tryd.func18 (by kernel_rfl) Tryd.ntmps18 (args:=[.slice Aa0 na0 ca0,.string a1,.string a2]) (by kernel_rfl) ?_
 subst hna0
 unfold smithyardref10_verdict.f at heq
 refine Ra 1 [0] [.c [1]]<|Rd 1 [0,1,2] [(0,.slice Aa0 a0.length ca0),(1,.string a1),(2,.string a2)]<|Ra 1 [1,0] [.c [1,1]]<|Rd 2 [0,1,2,7,8] [(0,.slice Aa0 a0.length ca0),(1,.string a1),(2,.string a2),(7,.bool false),(8,.bool false)]<|Ra 2 [1,1,0,0] [.c [1,1,0,1],.c [1,1,1]]<|Rd 3 [1,2,7,8,11,12,13] [(1,.string a1),(2,.string a2),(7,.bool false),(8,.bool false),(11,.slice Aa0 a0.length ca0),(12,iv (a0.length:Int)),(13,iv 0)]<|Ad 2 [.c [1,1,0,1,0,0],.l [1,1,0,1,0,0],.b 0,.c [1,1,1]]<|Kp [1,2,7,8,11,12,13] [(1,.string a1),(2,.string a2),(7,.bool false),(8,.bool false),(11,.slice Aa0 a0.length ca0),(12,iv (a0.length:Int)),(13,iv 0)] ?_
 exact ((smithyardref10_verdict.l2_c (e1:=smithyardref10_verdict.e1) (smithyardref10_verdict.e1_c)) big) a0 _ _ a1 a2 false false 0 hra0 hca0 heq
noncomputable def C6:Ctx:={ P:=Tryd.prog,f:=6,N:=36,c:=bodyOf Tryd.f6 }
def S6 (F:List Ch) (H0:Hp) (r:(List ByteArray) × Int) (v:Value) (H:Hp) (cs:List Ch):Prop:=∃ (A0:Option Addr) (c0:Nat) (ch0:Ch),H0=H∧v=.tuple #[.slice A0 r.1.length c0,iv r.2]∧ch0::F=cs∧SlOwn Kd.string 9 H A0 c0 r.1 ch0
theorem smithyardref10_Flaky.e1_c {w0:World} [GlobI 0 w0] {H:Hp} {F:List Ch} {r:(List ByteArray) × Int}:∀ (v_out5:List ByteArray) (Av_out5:Option Addr) (nv_out5:Nat) (cv_out5:Nat) (chv_out5:Ch) ,SlOwn Kd.string 9 H Av_out5 cv_out5 v_out5 chv_out5→nv_out5=v_out5.length→smithyardref10_Flaky.e1 v_out5=some r→RunH C6 (S6 F H r) H w0 [.c [1,1,1,1,0],.c [1,1,1,1,1]] [(5,.slice Av_out5 nv_out5 cv_out5)] H (chv_out5::F):=by
 intro v_out5 Av_out5 nv_out5 cv_out5 chv_out5 hov_out5 hnv_out5 heq
 subst hnv_out5
 unfold smithyardref10_Flaky.e1 at heq
 refine Rr<|Rk 1 [5,32] [(5,.slice Av_out5 v_out5.length cv_out5),(32,.slice Av_out5 v_out5.length cv_out5)] ?_
 obtain ⟨y2,hy2,heq⟩:=bind_some heq
 refine RgH.does (DoesH.call (d:=33) (g:=19) (args:=#[.slice Av_out5 v_out5.length cv_out5]) (by kernel_rfl) (slices_Sort_string_c (a0:=v_out5) hov_out5 rfl hy2)) ?_
 rintro _ _ _ _ ⟨_,rfl,ch1,rfl,rfl,rfl,ho2,hn1⟩
 refine Dn<|Ra 1 [1,1,1,1,1,0] [.c [1,1,1,1,1,1]]<|Rk 1 [34] [(34,.slice Av_out5 v_out5.length cv_out5)] ?_
 obtain ⟨y3,hy3,heq⟩:=bind_some heq
 refine RgH.does (DoesH.call (d:=35) (g:=20) (args:=#[.slice Av_out5 v_out5.length cv_out5]) (by kernel_rfl) (slices_Compact_string_c (a0:=y2) ho2 hn1 hy3)) ?_
 rintro _ _ _ _ ⟨_,rfl,A1,c1,ch2,rfl,rfl,rfl,ho3⟩
 refine Rd 4 [2,3] [(2,.slice A1 y3.length c1),(3,iv 0)] ?_
 obtain rfl:=Option.some.inj heq
 exact RunH.done (by kernel_rfl) Tryd.func6 (v:=.tuple #[.slice A1 y3.length c1,iv 0]) (by kernel_rfl) ⟨A1,c1,ch2,rfl,rfl,rfl,ho3⟩
theorem smithyardref10_Flaky.j3_c {w0:World} [GlobI 0 w0] {H:Hp} {F:List Ch} {r:(List ByteArray) × Int} (backl2:(List TestRun)→(List ByteArray)→Int→Option ((List ByteArray) × Int))
  (hbackl2:∀ (a0:List TestRun) (Aa0:Option Addr) (ca0:Nat) (v_out5:List ByteArray) (Av_out5:Option Addr) (nv_out5:Nat) (cv_out5:Nat) (chv_out5:Ch) (v15:Int) ,Rw kTestRun H F Aa0 a0→a0.length≤ca0→SlOwn Kd.string 9 H Av_out5 cv_out5 v_out5 chv_out5→nv_out5=v_out5.length→backl2 a0 v_out5 v15=some r→RunH C6 (S6 F H r) H w0 [.c [1,1,1,0,1,0,0],.l [1,1,1,0,1,0,0],.b 0,.c [1,1,1,1]] [(0,.slice Aa0 a0.length ca0),(5,.slice Av_out5 nv_out5 cv_out5),(13,.slice Aa0 a0.length ca0),(14,iv (a0.length:Int)),(15,iv v15)] H (chv_out5::F)):∀ (a0:List TestRun) (Aa0:Option Addr) (ca0:Nat) (v15:Int) (v_out5:List ByteArray) (Av_out5:Option Addr) (nv_out5:Nat) (cv_out5:Nat) (chv_out5:Ch) ,Rw kTestRun H F Aa0 a0→a0.length≤ca0→SlOwn Kd.string 9 H Av_out5 cv_out5 v_out5 chv_out5→nv_out5=v_out5.length→smithyardref10_Flaky.j3 backl2 a0 v15 v_out5=some r→RunH C6 (S6 F H r) H w0 [.c [1,1,1,0,1,0,0,1,1,1],.l [1,1,1,0,1,0,0],.b 0,.c [1,1,1,1]] [(0,.slice Aa0 a0.length ca0),(5,.slice Av_out5 nv_out5 cv_out5),(13,.slice Aa0 a0.length ca0),(14,iv (a0.length:Int)),(15,iv v15)] H (chv_out5::F):=by
 intro a0 Aa0 ca0 v15 v_out5 Av_out5 nv_out5 cv_out5 chv_out5 hra0 hca0 hov_out5 hnv_out5 heq
 subst hnv_out5
 unfold smithyardref10_Flaky.j3 at heq
 refine Rr<|Rd 2 [0,5,13,14,15] [(0,.slice Aa0 a0.length ca0),(5,.slice Av_out5 v_out5.length cv_out5),(13,.slice Aa0 a0.length ca0),(14,iv (a0.length:Int)),(15,iv (w64 (v15+1)))]<|Ad 1 [.c [1,1,1,0,1,0,0],.l [1,1,1,0,1,0,0],.b 0,.c [1,1,1,1]]<|Kp [0,5,13,14,15] [(0,.slice Aa0 a0.length ca0),(5,.slice Av_out5 v_out5.length cv_out5),(13,.slice Aa0 a0.length ca0),(14,iv (a0.length:Int)),(15,iv (w64 (v15+1)))] ?_
 exact hbackl2 a0 _ _ v_out5 _ _ _ _ (w64 (v15+1)) hra0 hca0 hov_out5 rfl heq
theorem smithyardref10_Flaky.l2_c {w0:World} [GlobI 0 w0] {H:Hp} {F:List Ch} {r:(List ByteArray) × Int} (e1:(List ByteArray)→Option ((List ByteArray) × Int))
  (he1:∀ (v_out5:List ByteArray) (Av_out5:Option Addr) (nv_out5:Nat) (cv_out5:Nat) (chv_out5:Ch) ,SlOwn Kd.string 9 H Av_out5 cv_out5 v_out5 chv_out5→nv_out5=v_out5.length→e1 v_out5=some r→RunH C6 (S6 F H r) H w0 [.c [1,1,1,1,0],.c [1,1,1,1,1]] [(5,.slice Av_out5 nv_out5 cv_out5)] H (chv_out5::F)):∀ (k:Nat),∀ (a0:List TestRun) (Aa0:Option Addr) (ca0:Nat) (v_out5:List ByteArray) (Av_out5:Option Addr) (nv_out5:Nat) (cv_out5:Nat) (chv_out5:Ch) (v15:Int) ,Rw kTestRun H F Aa0 a0→a0.length≤ca0→SlOwn Kd.string 9 H Av_out5 cv_out5 v_out5 chv_out5→nv_out5=v_out5.length→smithyardref10_Flaky.l2 e1 k a0 v_out5 v15=some r→RunH C6 (S6 F H r) H w0 [.c [1,1,1,0,1,0,0],.l [1,1,1,0,1,0,0],.b 0,.c [1,1,1,1]] [(0,.slice Aa0 a0.length ca0),(5,.slice Av_out5 nv_out5 cv_out5),(13,.slice Aa0 a0.length ca0),(14,iv (a0.length:Int)),(15,iv v15)] H (chv_out5::F):=by
 intro k
 induction k with
 | zero=>intro a0 Aa0 ca0 v_out5 Av_out5 nv_out5 cv_out5 chv_out5 v15 hra0 hca0 hov_out5 hnv_out5 heq; exact nomatch (show (none:Option ((List ByteArray) × Int))=some r from heq)
 | succ k ihk =>
  intro a0 Aa0 ca0 v_out5 Av_out5 nv_out5 cv_out5 chv_out5 v15 hra0 hca0 hov_out5 hnv_out5 heq
  subst hnv_out5
  rw [smithyardref10_Flaky.l2] at heq
  refine Ra 1 [1,1,1,0,1,0,0,0] [.c [1,1,1,0,1,0,0,1],.l [1,1,1,0,1,0,0],.b 0,.c [1,1,1,1]]<|Rd 1 [0,5,13,14,15,16] [(0,.slice Aa0 a0.length ca0),(5,.slice Av_out5 v_out5.length cv_out5),(13,.slice Aa0 a0.length ca0),(14,iv (a0.length:Int)),(15,iv v15),(16,.bool (decide (v15<(a0.length:Int))))]<|Ad 1 [.c [1,1,1,0,1,0,0,1,0],.c [1,1,1,0,1,0,0,1,1],.l [1,1,1,0,1,0,0],.b 0,.c [1,1,1,1]] ?_
  rcases bool_cases (decide (v15<(a0.length:Int))) with hb2 | hb2
  ·replace heq:=bif_true hb2 heq
   refine Ct (decide (v15<(a0.length:Int))) hb2<|Ra 4 [1,1,1,0,1,0,0,1,1,0,0,0] [.c [1,1,1,0,1,0,0,1,1,0,0,1],.b 1,.c [1,1,1,0,1,0,0,1,1,1],.l [1,1,1,0,1,0,0],.b 0,.c [1,1,1,1]] ?_
   obtain ⟨x1,hx1,heq⟩:=bind_some heq
   obtain ⟨ha1,cs1,hK1,hcc1⟩:=hra0.get hx1
   obtain ⟨rfl⟩:=kTestRun_open hK1
   refine Rv 2 [0,5,13,14,15,18] [.string x1.Test,.string x1.Key,iv x1.At,.bool x1.Pass,iv x1.Seconds] [.need (Aa0=some (adr Aa0)∧(0:Int)≤v15∧v15<((a0.length:Nat):Int)),.load (((adr Aa0).add (v15.toNat*5)).add 0) (.string x1.Test),.load (((adr Aa0).add (v15.toNat*5)).add 1) (.string x1.Key),.load (((adr Aa0).add (v15.toNat*5)).add 2) (iv x1.At),.load (((adr Aa0).add (v15.toNat*5)).add 3) (.bool x1.Pass),.load (((adr Aa0).add (v15.toNat*5)).add 4) (iv x1.Seconds)] [(0,.slice Aa0 a0.length ca0),(5,.slice Av_out5 v_out5.length cv_out5),(13,.slice Aa0 a0.length ca0),(14,iv (a0.length:Int)),(15,iv v15),(18,.agg #[.string x1.Test,.string x1.Key,iv x1.At,.bool x1.Pass,iv x1.Seconds])] (fun w hh=>⟨⟨ha1,(at?_some hx1).1,(at?_some hx1).2.1⟩,(hcc1 _ _ (hh.drop 1) 0 _ rfl),(hcc1 _ _ (hh.drop 1) 1 _ rfl),(hcc1 _ _ (hh.drop 1) 2 _ rfl),(hcc1 _ _ (hh.drop 1) 3 _ rfl),(hcc1 _ _ (hh.drop 1) 4 _ rfl)⟩) ?_
   refine RgH.does (DoesH.new (d:=7) (v:=fun g=>.pointer (some ⟨g,0,none⟩)) (o:=fun g=>.cells #[.string ByteArray.empty,.string ByteArray.empty,iv 0,.bool false,iv 0] 25 (0,0)) (fun g=>by kernel_rfl)) ?_
   rintro _ _ _ _ ⟨g1,rfl,rfl,rfl⟩
   refine RgH.does (DoesH.store (k:=0) (g:=g1) (off:=0) (v:=.agg #[.string x1.Test,.string x1.Key,iv x1.At,.bool x1.Pass,iv x1.Seconds]) (cells':=#[.string x1.Test,.string x1.Key,iv x1.At,.bool x1.Pass,iv x1.Seconds]) (by kernel_rfl) rfl (by kernel_rfl) (by kernel_rfl)) ?_
   rintro _ _ _ _ ⟨rfl,rfl,rfl⟩
   refine Dn<|Ra 1 [1,1,1,0,1,0,0,1,1,0,0,1,0] [.c [1,1,1,0,1,0,0,1,1,0,0,1,1],.b 1,.c [1,1,1,0,1,0,0,1,1,1],.l [1,1,1,0,1,0,0],.b 0,.c [1,1,1,1]]<|Rv 5 [0,5,7,13,14,15,19,21,23] [.string x1.Test,.string x1.Key] [.load ⟨g1,0,none⟩ (.string x1.Test),.load ⟨g1,1,none⟩ (.string x1.Key)] [(0,.slice Aa0 a0.length ca0),(5,.slice Av_out5 v_out5.length cv_out5),(7,pg g1 0),(13,.slice Aa0 a0.length ca0),(14,iv (a0.length:Int)),(15,iv v15),(19,.slice Aa0 a0.length ca0),(21,.string x1.Test),(23,.string x1.Key)] (fun w hh=>⟨(hh.box 0 rfl rfl),(hh.box 0 rfl rfl)⟩) ?_
   obtain ⟨y4,hy4,heq⟩:=bind_some heq
   refine RgH.does (DoesH.call (d:=24) (g:=18) (args:=#[.slice Aa0 a0.length ca0,.string x1.Test,.string x1.Key]) (by kernel_rfl) (smithyardref10_verdict_c (a0:=a0) (a1:=x1.Test) (a2:=x1.Key) (hra0.wk (fun _ h=>(.tail _ (.tail _ h)))) hca0 rfl hy4)) ?_
   rintro _ _ _ _ ⟨_,rfl,rfl,rfl,rfl⟩
   refine Rd 7 [0,5,7,13,14,15,25] [(0,.slice Aa0 a0.length ca0),(5,.slice Av_out5 v_out5.length cv_out5),(7,pg g1 0),(13,.slice Aa0 a0.length ca0),(14,iv (a0.length:Int)),(15,iv v15),(25,.bool (y4 == 4))] ?_
   rcases bool_cases (y4 == 4) with hb3 | hb3
   ·replace heq:=bif_true hb3 heq
    refine Ct (y4 == 4) hb3<|Rr<|Rv 3 [0,13,14,15,26,28] [.string x1.Test] [.load ⟨g1,0,none⟩ (.string x1.Test)] [(0,.slice Aa0 a0.length ca0),(13,.slice Aa0 a0.length ca0),(14,iv (a0.length:Int)),(15,iv v15),(26,.slice Av_out5 v_out5.length cv_out5),(28,.string x1.Test)] (fun w hh=>(hh.box 0 rfl rfl)) ?_
    refine RgH.does (DoesH.new (d:=29) (v:=fun g=>.slice (some ⟨g,0,none⟩) 1 1) (o:=fun g=>.cells #[.string x1.Test] 9 (0,0)) (fun g=>by kernel_rfl)) ?_
    rintro _ _ _ _ ⟨g2,rfl,rfl,rfl⟩
    have ho4:SlOwn Kd.string 9 H (some ⟨g2,0,none⟩) 1 ([x1.Test]:List ByteArray) (some (g2,.cells #[.string x1.Test] 9 (0,0))):=SlOwn.lit (xs:=([x1.Test]:List ByteArray)) (by kernel_rfl) (Nat.le_of_ble_eq_true (by kernel_rfl)) (Kd.Rep.scalars rfl)
    obtain ⟨hn2,heq⟩:=guard?_some heq
    refine RgH.does (DoesH.append (d:=30) (k:=2) (t:=26) (e:=9) (bytes:=16) (kd:=Kd.string) (n:=v_out5.length) (m:=1) (xs:=v_out5) (ys:=([x1.Test]:List ByteArray)) (A:=Av_out5) (B:=(some ⟨g2,0,none⟩)) (c:=cv_out5) (cB:=1) (by kernel_rfl) rfl rfl (by kernel_rfl) rfl hov_out5 (fun w hh=>ho4.rdb (hh.chin 0 rfl)) (room_le hn2) (by have:=room_le hn2; omega)) ?_
    rintro _ _ _ _ ⟨A2,c2,ch3,rfl,rfl,rfl,ho5⟩
    refine Rd 6 [0,5,13,14,15] [(0,.slice Aa0 a0.length ca0),(5,.slice A2 ((v_out5++([x1.Test]:List ByteArray)).length) c2),(13,.slice Aa0 a0.length ca0),(14,iv (a0.length:Int)),(15,iv v15)]<|Ad 1 [.c [1,1,1,0,1,0,0,1,1,1],.l [1,1,1,0,1,0,0],.b 0,.c [1,1,1,1]]<|Kp [0,5,13,14,15] [(0,.slice Aa0 a0.length ca0),(5,.slice A2 ((v_out5++([x1.Test]:List ByteArray)).length) c2),(13,.slice Aa0 a0.length ca0),(14,iv (a0.length:Int)),(15,iv v15)] ?_
    refine RunH.pick 3 [2] (cs':=ch3::F) (by kernel_rfl) rfl ?_
    exact (smithyardref10_Flaky.j3_c (backl2:=(smithyardref10_Flaky.l2 e1 k)) ihk) a0 _ _ v15 (v_out5++([x1.Test]:List ByteArray)) _ _ _ _ hra0 hca0 ho5 rfl heq
   ·replace heq:=bif_false hb3 heq
    refine Cf (y4 == 4) hb3<|Ad 2 [.c [1,1,1,0,1,0,0,1,1,1],.l [1,1,1,0,1,0,0],.b 0,.c [1,1,1,1]]<|Kp [0,5,13,14,15] [(0,.slice Aa0 a0.length ca0),(5,.slice Av_out5 v_out5.length cv_out5),(13,.slice Aa0 a0.length ca0),(14,iv (a0.length:Int)),(15,iv v15)] ?_
    refine RunH.pick 2 [1] (cs':=chv_out5::F) (by kernel_rfl) rfl ?_
    exact (smithyardref10_Flaky.j3_c (backl2:=(smithyardref10_Flaky.l2 e1 k)) ihk) a0 _ _ v15 v_out5 _ _ _ _ hra0 hca0 hov_out5 rfl heq
  ·replace heq:=bif_false hb2 heq
   refine Cf (decide (v15<(a0.length:Int))) hb2<|Ad 2 [.c [1,1,1,1,0],.c [1,1,1,1,1]]<|Kp [5] [(5,.slice Av_out5 v_out5.length cv_out5)] ?_
   exact he1 v_out5 _ _ _ _ hov_out5 rfl heq
theorem smithyardref10_Flaky_c {w0:World} [GlobI 0 w0] {H:Hp} {F:List Ch} {a0:List TestRun} {Aa0:Option Addr} {na0:Nat} {ca0:Nat} {r:(List ByteArray) × Int} (hra0:Rw kTestRun H F Aa0 a0) (hca0:na0≤ca0) (hna0:na0=a0.length) (heq:smithyardref10_Flaky.f a0=some r):CallsH Tryd.prog 6 #[.slice Aa0 na0 ca0] H w0 (F) (S6 F H r):=by
 refine calls_of_runH (F:=C6) Tryd.func6 (by kernel_rfl) Tryd.ntmps6 (args:=[.slice Aa0 na0 ca0]) (by kernel_rfl) ?_
 subst hna0
 unfold smithyardref10_Flaky.f at heq
 refine Ra 1 [0] [.c [1]]<|Rd 2 [0] [(0,.slice Aa0 a0.length ca0)]<|Ra 2 [1,0,0] [.c [1,0,1],.c [1,1]]<|Rk 1 [0,8] [(0,.slice Aa0 a0.length ca0),(8,.slice Aa0 a0.length ca0)] ?_
 obtain ⟨y1,hy1,heq⟩:=bind_some heq
 refine RgH.does (DoesH.call (d:=9) (g:=17) (args:=#[.slice Aa0 a0.length ca0]) (by kernel_rfl) (smithyardref10_CheckHistory_c (a0:=a0) hra0 hca0 rfl hy1)) ?_
 rintro _ _ _ _ ⟨_,rfl,rfl,rfl,rfl⟩
 refine Rd 3 [0,4] [(0,.slice Aa0 a0.length ca0),(4,iv y1)]<|Ra 1 [1,0,1,0] [.c [1,0,1,1],.c [1,1]]<|Rd 2 [0,4,11] [(0,.slice Aa0 a0.length ca0),(4,iv y1),(11,.bool (y1 != 0))] ?_
 rcases bool_cases (y1 != 0) with hb1 | hb1
 ·replace heq:=bif_true hb1 heq
  refine Ct (y1 != 0) hb1<|Ra 1 [1,0,1,1,0,0] [.c [1,0,1,1,0,1],.c [1,1]]<|Rd 3 [2,3] [(2,.slice none 0 0),(3,iv y1)]<|RunH.nilc ?_
  have ho1:SlOwn Kd.string 9 H none 0 ([]:List ByteArray) none:=SlOwn.nil
  obtain rfl:=Option.some.inj heq
  exact RunH.done (by kernel_rfl) Tryd.func6 (v:=.tuple #[.slice none 0 0,iv y1]) (by kernel_rfl) ⟨none,0,none,rfl,rfl,rfl,ho1⟩
 ·replace heq:=bif_false hb1 heq
  refine Cf (y1 != 0) hb1<|Ra 2 [1,1,0] [.c [1,1,1]]<|Rd 1 [0,5] [(0,.slice Aa0 a0.length ca0),(5,.slice none 0 0)]<|Ra 2 [1,1,1,0,0] [.c [1,1,1,0,1],.c [1,1,1,1]]<|Rd 3 [0,5,13,14,15] [(0,.slice Aa0 a0.length ca0),(5,.slice none 0 0),(13,.slice Aa0 a0.length ca0),(14,iv (a0.length:Int)),(15,iv 0)]<|Ad 2 [.c [1,1,1,0,1,0,0],.l [1,1,1,0,1,0,0],.b 0,.c [1,1,1,1]]<|RunH.nilc ?_
  have ho6:SlOwn Kd.string 9 H none 0 ([]:List ByteArray) none:=SlOwn.nil
  refine Kp [0,5,13,14,15] [(0,.slice Aa0 a0.length ca0),(5,.slice none 0 0),(13,.slice Aa0 a0.length ca0),(14,iv (a0.length:Int)),(15,iv 0)] ?_
  exact ((smithyardref10_Flaky.l2_c (e1:=smithyardref10_Flaky.e1) (smithyardref10_Flaky.e1_c)) big) a0 _ _ ([]:List ByteArray) _ _ _ _ 0 hra0 hca0 ho6 rfl heq
noncomputable def C7:Ctx:={ P:=Tryd.prog,f:=7,N:=26,c:=bodyOf Tryd.f7 }
def S7 (F:List Ch) (H0:Hp) (r:Bool) (v:Value) (H:Hp) (cs:List Ch):Prop:=H0=H∧v=.bool r∧F=cs
theorem slices_Equal_string.e1_c {w0:World} [GlobI 0 w0] {H:Hp} {F:List Ch} {r:Bool}:slices_Equal_string.e1=some r→RunH C7 (S7 F H r) H w0 [.c [1,1,1,0],.c [1,1,1,1]] [] H (F):=by
 intro   heq
 unfold slices_Equal_string.e1 at heq
 refine Rr<|Rd 1 [4] [(4,.bool true)] ?_
 obtain rfl:=Option.some.inj heq
 exact RunH.done (by kernel_rfl) Tryd.func7 (v:=.bool true) (by kernel_rfl) ⟨rfl,rfl,rfl⟩
theorem slices_Equal_string.l2_c {w0:World} [GlobI 0 w0] {H:Hp} {F:List Ch} {r:Bool} (e1:Option Bool)
  (he1:e1=some r→RunH C7 (S7 F H r) H w0 [.c [1,1,1,0],.c [1,1,1,1]] [] H (F)):∀ (k:Nat),∀ (a0:List ByteArray) (Aa0:Option Addr) (ca0:Nat) (a1:List ByteArray) (Aa1:Option Addr) (ca1:Nat) (v13:Int) ,Rw Kd.string H F Aa0 a0→a0.length≤ca0→Rw Kd.string H F Aa1 a1→a1.length≤ca1→slices_Equal_string.l2 e1 k a0 a1 v13=some r→RunH C7 (S7 F H r) H w0 [.c [1,1,0,1,0,0],.l [1,1,0,1,0,0],.b 0,.c [1,1,1]] [(0,.slice Aa0 a0.length ca0),(1,.slice Aa1 a1.length ca1),(12,iv (a0.length:Int)),(13,iv v13)] H (F):=by
 intro k
 induction k with
 | zero=>intro a0 Aa0 ca0 a1 Aa1 ca1 v13 hra0 hca0 hra1 hca1 heq; exact nomatch (show (none:Option Bool)=some r from heq)
 | succ k ihk =>
  intro a0 Aa0 ca0 a1 Aa1 ca1 v13 hra0 hca0 hra1 hca1 heq
  rw [slices_Equal_string.l2] at heq
  refine Ra 1 [1,1,0,1,0,0,0] [.c [1,1,0,1,0,0,1],.l [1,1,0,1,0,0],.b 0,.c [1,1,1]]<|Rd 1 [0,1,12,13,14] [(0,.slice Aa0 a0.length ca0),(1,.slice Aa1 a1.length ca1),(12,iv (a0.length:Int)),(13,iv v13),(14,.bool (decide (v13<(a0.length:Int))))]<|Ad 1 [.c [1,1,0,1,0,0,1,0],.c [1,1,0,1,0,0,1,1],.l [1,1,0,1,0,0],.b 0,.c [1,1,1]] ?_
  rcases bool_cases (decide (v13<(a0.length:Int))) with hb2 | hb2
  ·replace heq:=bif_true hb2 heq
   refine Ct (decide (v13<(a0.length:Int))) hb2<|Ra 4 [1,1,0,1,0,0,1,1,0,0,0] [.c [1,1,0,1,0,0,1,1,0,0,1],.b 1,.c [1,1,0,1,0,0,1,1,1],.l [1,1,0,1,0,0],.b 0,.c [1,1,1]]<|Rd 2 [0,1,5,12,13] [(0,.slice Aa0 a0.length ca0),(1,.slice Aa1 a1.length ca1),(5,iv v13),(12,iv (a0.length:Int)),(13,iv v13)]<|Ad 1 [.c [1,1,0,1,0,0,1,1,0,0,1,0],.c [1,1,0,1,0,0,1,1,0,0,1,1],.b 1,.c [1,1,0,1,0,0,1,1,1],.l [1,1,0,1,0,0],.b 0,.c [1,1,1]]<|Kp [0,1,5,12,13] [(0,.slice Aa0 a0.length ca0),(1,.slice Aa1 a1.length ca1),(5,iv v13),(12,iv (a0.length:Int)),(13,iv v13)] ?_
   refine RunH.draw (fun w=>Heap H w0 w (F)) (fun w=>Heap H w0 w (F)) [3,3,3,3,3,3,3,3,3] (n:=9) (ls:=[false,false,false,false,false,false,false,false,false]) (by kernel_rfl) (by kernel_rfl) (by kernel_rfl) rfl ?_
   obtain ⟨x1,hx1,heq⟩:=bind_some heq
   obtain ⟨ha1,cs1,hK1,hcc1⟩:=hra0.get hx1
   obtain rfl:cs1=[.string x1]:=hK1
   obtain ⟨x2,hx2,heq⟩:=bind_some heq
   obtain ⟨ha2,cs2,hK2,hcc2⟩:=hra1.get hx2
   obtain rfl:cs2=[.string x2]:=hK2
   refine Dk [0,1,2,3,4,5,6,7,8] 0 (nb 9 511) [.string x1,.string x2] [.need (Aa0=some (adr Aa0)∧(0:Int)≤v13∧v13<((a0.length:Nat):Int)),.load ((adr Aa0).add (v13.toNat*1)) (.string x1),.need (Aa1=some (adr Aa1)∧(0:Int)≤v13∧v13<((a1.length:Nat):Int)),.load ((adr Aa1).add (v13.toNat*1)) (.string x2)] [0,1,12,13,24] [(0,.slice Aa0 a0.length ca0),(1,.slice Aa1 a1.length ca1),(12,iv (a0.length:Int)),(13,iv v13),(24,.bool (!sEq x1 x2))] (Pk 0 []) (Pk 0 []) (fun w hh=>⟨⟨ha1,(at?_some hx1).1,(at?_some hx1).2.1⟩,(hcc1 _ _ (hh.drop 0) 0 _ rfl),⟨ha2,(at?_some hx2).1,(at?_some hx2).2.1⟩,(hcc2 _ _ (hh.drop 0) 0 _ rfl)⟩) ?_
   refine DrH.done (by kernel_rfl) ?_
   rcases bool_cases (!sEq x1 x2) with hb3 | hb3
   ·replace heq:=bif_true hb3 heq
    refine Ct (!sEq x1 x2) hb3<|Ra 1 [1,1,0,1,0,0,1,1,0,0,1,1,0,0] [.c [1,1,0,1,0,0,1,1,0,0,1,1,0,1],.b 1,.c [1,1,0,1,0,0,1,1,1],.l [1,1,0,1,0,0],.b 0,.c [1,1,1]]<|Rd 1 [4] [(4,.bool false)] ?_
    obtain rfl:=Option.some.inj heq
    exact RunH.done (by kernel_rfl) Tryd.func7 (v:=.bool false) (by kernel_rfl) ⟨rfl,rfl,rfl⟩
   ·replace heq:=bif_false hb3 heq
    refine Cf (!sEq x1 x2) hb3<|Ra 2 [1,1,0,1,0,0,1,1,1] [.l [1,1,0,1,0,0],.b 0,.c [1,1,1]]<|Rd 2 [0,1,12,13] [(0,.slice Aa0 a0.length ca0),(1,.slice Aa1 a1.length ca1),(12,iv (a0.length:Int)),(13,iv (w64 (v13+1)))]<|Ad 1 [.c [1,1,0,1,0,0],.l [1,1,0,1,0,0],.b 0,.c [1,1,1]]<|Kp [0,1,12,13] [(0,.slice Aa0 a0.length ca0),(1,.slice Aa1 a1.length ca1),(12,iv (a0.length:Int)),(13,iv (w64 (v13+1)))] ?_
    exact ihk a0 _ _ a1 _ _ (w64 (v13+1)) hra0 hca0 hra1 hca1 heq
  ·replace heq:=bif_false hb2 heq
   refine Cf (decide (v13<(a0.length:Int))) hb2<|Ad 2 [.c [1,1,1,0],.c [1,1,1,1]]<|Kp [] [] ?_
   exact he1 heq
theorem slices_Equal_string_c {w0:World} [GlobI 0 w0] {H:Hp} {F:List Ch} {a0:List ByteArray} {Aa0:Option Addr} {na0:Nat} {ca0:Nat} {a1:List ByteArray} {Aa1:Option Addr} {na1:Nat} {ca1:Nat} {r:Bool} (hra0:Rw Kd.string H F Aa0 a0) (hca0:na0≤ca0) (hna0:na0=a0.length) (hra1:Rw Kd.string H F Aa1 a1) (hca1:na1≤ca1) (hna1:na1=a1.length) (heq:slices_Equal_string.f a0 a1=some r):CallsH Tryd.prog 7 #[.slice Aa0 na0 ca0,.slice Aa1 na1 ca1] H w0 (F) (S7 F H r):=by
 refine calls_of_runH (F:=C7) Tryd.func7 (by kernel_rfl) Tryd.ntmps7 (args:=[.slice Aa0 na0 ca0,.slice Aa1 na1 ca1]) (by kernel_rfl) ?_
 subst hna0
 subst hna1
 unfold slices_Equal_string.f at heq
 refine Ra 1 [0] [.c [1]]<|Rd 1 [0,1] [(0,.slice Aa0 a0.length ca0),(1,.slice Aa1 a1.length ca1)]<|Ra 2 [1,0,0] [.c [1,0,1],.c [1,1]]<|Rd 5 [0,1,10] [(0,.slice Aa0 a0.length ca0),(1,.slice Aa1 a1.length ca1),(10,.bool ((a0.length:Int) != (a1.length:Int)))] ?_
 rcases bool_cases ((a0.length:Int) != (a1.length:Int)) with hb1 | hb1
 ·replace heq:=bif_true hb1 heq
  refine Ct ((a0.length:Int) != (a1.length:Int)) hb1<|Ra 1 [1,0,1,0,0] [.c [1,0,1,0,1],.c [1,1]]<|Rd 1 [4] [(4,.bool false)] ?_
  obtain rfl:=Option.some.inj heq
  exact RunH.done (by kernel_rfl) Tryd.func7 (v:=.bool false) (by kernel_rfl) ⟨rfl,rfl,rfl⟩
 ·replace heq:=bif_false hb1 heq
  refine Cf ((a0.length:Int) != (a1.length:Int)) hb1<|Ra 3 [1,1,0,0] [.c [1,1,0,1],.c [1,1,1]]<|Rd 3 [0,1,12,13] [(0,.slice Aa0 a0.length ca0),(1,.slice Aa1 a1.length ca1),(12,iv (a0.length:Int)),(13,iv 0)]<|Ad 2 [.c [1,1,0,1,0,0],.l [1,1,0,1,0,0],.b 0,.c [1,1,1]]<|Kp [0,1,12,13] [(0,.slice Aa0 a0.length ca0),(1,.slice Aa1 a1.length ca1),(12,iv (a0.length:Int)),(13,iv 0)] ?_
  exact ((slices_Equal_string.l2_c (e1:=slices_Equal_string.e1) (slices_Equal_string.e1_c)) big) a0 _ _ a1 _ _ 0 hra0 hca0 hra1 hca1 heq
noncomputable def C22:Ctx:={ P:=Tryd.prog,f:=22,N:=22,c:=bodyOf Tryd.f22 }
def S22 (F:List Ch) (H0:Hp) (r:Part) (v:Value) (H:Hp) (cs:List Ch):Prop:=H0=H∧v=.agg #[iv r.Num,iv r.Den]∧F=cs
theorem trials_lowest.e1_c {w0:World} [GlobI 0 w0] {H:Hp} {F:List Ch} {r:Part}:∀ (a0:Int) (a1:Int) (g1:Nat) (v_a5:Int) ,trials_lowest.e1 a0 a1 v_a5=some r→RunH C22 (S22 F H r) H w0 [.c [1,1,1,0],.c [1,1,1,1]] [(0,iv a0),(1,iv a1),(4,pg g1 0),(5,iv v_a5)] H ((some (g1,.cells #[iv 0,iv 0] 32 (0,0)))::F):=by
 intro a0 a1 g1 v_a5  heq
 unfold trials_lowest.e1 at heq
 refine Kp [0,1,4,5] [(0,iv a0),(1,iv a1),(4,pg g1 0),(5,iv v_a5)] ?_
 refine RunH.draw (fun w=>Heap H w0 w ((some (g1,.cells #[iv 0,iv 0] 32 (0,0)))::F)) (fun w=>Heap H w0 w ((some (g1,.cells #[iv 0,iv 0] 32 (0,0)))::F)) [3,3,3,3,3,3,3,2] (n:=8) (ls:=[false,false,false,false,false,false,false,false]) (by kernel_rfl) (by kernel_rfl) (by kernel_rfl) rfl ?_
 obtain ⟨hn1,heq⟩:=guard?_some heq
 obtain ⟨hn2,heq⟩:=guard?_some heq
 refine Dk [0,1,2,3,4,5,6] 1 (nb 8 127) [] [.need (v_a5≠(0:Int)),.need (v_a5≠(0:Int))] [4,21] [(4,pg g1 0),(21,.agg #[iv (w64 (a0.tdiv v_a5)),iv (w64 (a1.tdiv v_a5))])] (Pk 1 [0]) (Pk 1 [0]) (fun w hh=>⟨(ne_of_bne hn1),(ne_of_bne hn2)⟩) ?_
 refine DrH.does (n:=0) (ls':=[true,true,true,true,true,true,true,true]) 7 (by kernel_rfl) rfl (DoesH.store (k:=0) (g:=g1) (off:=0) (v:=.agg #[iv (w64 (a0.tdiv v_a5)),iv (w64 (a1.tdiv v_a5))]) (cells':=#[iv (w64 (a0.tdiv v_a5)),iv (w64 (a1.tdiv v_a5))]) (by kernel_rfl) rfl (by kernel_rfl) (by kernel_rfl)) ?_
 rintro _ _ _ _ ⟨rfl,rfl,rfl⟩
 refine ⟨fun _ w hh=>⟨(fun h=>by cases h),(fun h=>absurd h (by decide)),(fun h=>by cases h)⟩,?_⟩
 refine Kr [4] [(4,pg g1 0)] ?_
 refine DrH.done (by kernel_rfl) ?_
 obtain rfl:=Option.some.inj heq
 exact RunH.doneM' 1 (vs:=[.agg #[iv (w64 (a0.tdiv v_a5)),iv (w64 (a1.tdiv v_a5))]]) (v:=.agg #[iv (w64 (a0.tdiv v_a5)),iv (w64 (a1.tdiv v_a5))]) (by kernel_rfl) Tryd.func22 (fun w hh=>show ResAll _ _ _ [.cell 4 32] _ from ⟨⟨⟨g1,0,none⟩,by kernel_rfl,trS_run _ (vs:=[iv (w64 (a0.tdiv v_a5)),iv (w64 (a1.tdiv v_a5))]) (r:=[]) (es:=[.load ⟨g1,0,none⟩ (iv (w64 (a0.tdiv v_a5))),.load ⟨g1,1,none⟩ (iv (w64 (a1.tdiv v_a5)))]) (by kernel_rfl) ⟨(hh.box 0 rfl rfl),(hh.box 0 rfl rfl)⟩⟩,trivial⟩) rfl (cs':=F) rfl ⟨rfl,rfl,rfl⟩
theorem trials_lowest.l2_c {w0:World} [GlobI 0 w0] {H:Hp} {F:List Ch} {r:Part} (e1:Int→Int→Int→Option Part)
  (he1:∀ (a0:Int) (a1:Int) (g1:Nat) (v_a5:Int) ,e1 a0 a1 v_a5=some r→RunH C22 (S22 F H r) H w0 [.c [1,1,1,0],.c [1,1,1,1]] [(0,iv a0),(1,iv a1),(4,pg g1 0),(5,iv v_a5)] H ((some (g1,.cells #[iv 0,iv 0] 32 (0,0)))::F)):∀ (k:Nat),∀ (a0:Int) (a1:Int) (g1:Nat) (v_a5:Int) (v_b6:Int) ,trials_lowest.l2 e1 k a0 a1 v_a5 v_b6=some r→RunH C22 (S22 F H r) H w0 [.c [1,1,0,0,0],.l [1,1,0,0,0],.b 0,.c [1,1,1]] [(0,iv a0),(1,iv a1),(4,pg g1 0),(5,iv v_a5),(6,iv v_b6)] H ((some (g1,.cells #[iv 0,iv 0] 32 (0,0)))::F):=by
 intro k
 induction k with
 | zero=>intro a0 a1 g1 v_a5 v_b6  heq; exact nomatch (show (none:Option Part)=some r from heq)
 | succ k ihk =>
  intro a0 a1 g1 v_a5 v_b6  heq
  rw [trials_lowest.l2] at heq
  refine Ra 2 [1,1,0,0,0,0,0] [.c [1,1,0,0,0,0,1],.c [1,1,0,0,0,1],.l [1,1,0,0,0],.b 0,.c [1,1,1]]<|Rd 2 [0,1,4,5,6,10] [(0,iv a0),(1,iv a1),(4,pg g1 0),(5,iv v_a5),(6,iv v_b6),(10,.bool (v_b6 != 0))] ?_
  rcases bool_cases (v_b6 != 0) with hb1 | hb1
  ·replace heq:=bif_true hb1 heq
   refine Ct (v_b6 != 0) hb1<|Ad 2 [.c [1,1,0,0,0,1,0],.b 1,.l [1,1,0,0,0],.b 0,.c [1,1,1]]<|Kp [0,1,4,5,6] [(0,iv a0),(1,iv a1),(4,pg g1 0),(5,iv v_a5),(6,iv v_b6)] ?_
   refine RunH.draw (fun w=>Heap H w0 w ((some (g1,.cells #[iv 0,iv 0] 32 (0,0)))::F)) (fun w=>Heap H w0 w ((some (g1,.cells #[iv 0,iv 0] 32 (0,0)))::F)) [3,3,3,3,3,3] (n:=6) (ls:=[false,false,false,false,false,false]) (by kernel_rfl) (by kernel_rfl) (by kernel_rfl) rfl ?_
   obtain ⟨hn3,heq⟩:=guard?_some heq
   refine Dk [0,1,2,3,4,5] 0 (nb 6 63) [] [.need (v_b6≠(0:Int))] [0,1,4,5,6] [(0,iv a0),(1,iv a1),(4,pg g1 0),(5,iv v_b6),(6,iv (v_a5.tmod v_b6))] (Pk 1 [0]) (Pk 1 [0]) (fun w hh=>(ne_of_bne hn3)) ?_
   refine DrH.done (by kernel_rfl) ?_
   refine Ad 2 [.c [1,1,0,0,0],.l [1,1,0,0,0],.b 0,.c [1,1,1]]<|Kp [0,1,4,5,6] [(0,iv a0),(1,iv a1),(4,pg g1 0),(5,iv v_b6),(6,iv (v_a5.tmod v_b6))] ?_
   exact ihk a0 a1 _ v_b6 (v_a5.tmod v_b6) heq
  ·replace heq:=bif_false hb1 heq
   refine Cf (v_b6 != 0) hb1<|Ad 2 [.c [1,1,1,0],.c [1,1,1,1]]<|Kp [0,1,4,5] [(0,iv a0),(1,iv a1),(4,pg g1 0),(5,iv v_a5)] ?_
   exact he1 a0 a1 _ v_a5 heq
theorem trials_lowest_c {w0:World} [GlobI 0 w0] {H:Hp} {F:List Ch} {a0:Int} {a1:Int} {r:Part} (heq:trials_lowest.f a0 a1=some r):CallsH Tryd.prog 22 #[iv a0,iv a1] H w0 (F) (S22 F H r):=by
 refine calls_of_runH (F:=C22) Tryd.func22 (by kernel_rfl) Tryd.ntmps22 (args:=[iv a0,iv a1]) (by kernel_rfl) ?_
 unfold trials_lowest.f at heq
 refine Ra 1 [0] [.c [1]] ?_
 refine RgH.does (DoesH.new (d:=4) (v:=fun g=>.pointer (some ⟨g,0,none⟩)) (o:=fun g=>.cells #[iv 0,iv 0] 32 (0,0)) (fun g=>by kernel_rfl)) ?_
 rintro _ _ _ _ ⟨g1,rfl,rfl,rfl⟩
 refine Dn<|Ra 1 [1,0] [.c [1,1]]<|Rd 4 [0,1,4,5,6] [(0,iv a0),(1,iv a1),(4,pg g1 0),(5,iv a0),(6,iv a1)]<|Ad 3 [.c [1,1,0,0,0],.l [1,1,0,0,0],.b 0,.c [1,1,1]]<|Kp [0,1,4,5,6] [(0,iv a0),(1,iv a1),(4,pg g1 0),(5,iv a0),(6,iv a1)] ?_
 exact ((trials_lowest.l2_c (e1:=trials_lowest.e1) (trials_lowest.e1_c)) big) a0 a1 _ a0 a1 heq
noncomputable def C8:Ctx:={ P:=Tryd.prog,f:=8,N:=55,c:=bodyOf Tryd.f8 }
def S8 (F:List Ch) (H0:Hp) (r:Part × Int) (v:Value) (H:Hp) (cs:List Ch):Prop:=H0=H∧v=.tuple #[.agg #[iv r.1.Num,iv r.1.Den],iv r.2]∧F=cs
theorem trials_Failing.e1_c {w0:World} [GlobI 0 w0] {H:Hp} {F:List Ch} {r:Part × Int}:∀ (g1:Nat) (v_failed7:Int) (v_all8:Int) ,trials_Failing.e1 v_failed7 v_all8=some r→RunH C8 (S8 F H r) H w0 [.c [1,1,1,1,1,0,0],.c [1,1,1,1,1,0,1],.c [1,1,1,1,1,1]] [(4,pg g1 0),(7,iv v_failed7),(8,iv v_all8)] H ((some (g1,.cells #[iv 0,iv 0] 32 (0,0)))::F):=by
 intro g1 v_failed7 v_all8  heq
 unfold trials_Failing.e1 at heq
 refine Rr<|Rd 2 [4,7,8,50] [(4,pg g1 0),(7,iv v_failed7),(8,iv v_all8),(50,.bool (v_all8 == 0))] ?_
 rcases bool_cases (v_all8 == 0) with hb3 | hb3
 ·replace heq:=bif_true hb3 heq
  refine Ct (v_all8 == 0) hb3<|Ra 1 [1,1,1,1,1,0,1,0,0] [.c [1,1,1,1,1,0,1,0,1],.c [1,1,1,1,1,1]]<|Rk 1 [4,51] [(4,pg g1 0),(51,.agg #[iv 0,iv 1])] ?_
  refine RgH.does (DoesH.store (k:=0) (g:=g1) (off:=0) (v:=.agg #[iv 0,iv 1]) (cells':=#[iv 0,iv 1]) (by kernel_rfl) rfl (by kernel_rfl) (by kernel_rfl)) ?_
  rintro _ _ _ _ ⟨rfl,rfl,rfl⟩
  refine Rd 3 [4,5] [(4,pg g1 0),(5,iv 0)] ?_
  obtain rfl:=Option.some.inj heq
  exact RunH.doneM' 1 (vs:=[.agg #[iv 0,iv 1],iv 0]) (v:=.tuple #[.agg #[iv 0,iv 1],iv 0]) (by kernel_rfl) Tryd.func8 (fun w hh=>show ResAll _ _ _ [.cell 4 32,.tmp 5] _ from ⟨⟨⟨g1,0,none⟩,by kernel_rfl,trS_run _ (vs:=[iv 0,iv 1]) (r:=[]) (es:=[.load ⟨g1,0,none⟩ (iv 0),.load ⟨g1,1,none⟩ (iv 1)]) (by kernel_rfl) ⟨(hh.box 0 rfl rfl),(hh.box 0 rfl rfl)⟩⟩,(show lk _ _=some _ by kernel_rfl),trivial⟩) rfl (cs':=F) rfl ⟨rfl,rfl,rfl⟩
 ·replace heq:=bif_false hb3 heq
  refine Cf (v_all8 == 0) hb3<|Ra 2 [1,1,1,1,1,1,0] [.c [1,1,1,1,1,1,1]]<|Rk 2 [4,52,53] [(4,pg g1 0),(52,iv v_failed7),(53,iv v_all8)] ?_
  obtain ⟨y4,hy4,heq⟩:=bind_some heq
  refine RgH.does (DoesH.call (d:=54) (g:=22) (args:=#[iv v_failed7,iv v_all8]) (by kernel_rfl) (trials_lowest_c (a0:=v_failed7) (a1:=v_all8)  hy4)) ?_
  rintro _ _ _ _ ⟨_,rfl,rfl,rfl,rfl⟩
  refine RgH.does (DoesH.store (k:=0) (g:=g1) (off:=0) (v:=.agg #[iv y4.Num,iv y4.Den]) (cells':=#[iv y4.Num,iv y4.Den]) (by kernel_rfl) rfl (by kernel_rfl) (by kernel_rfl)) ?_
  rintro _ _ _ _ ⟨rfl,rfl,rfl⟩
  refine Rd 5 [4,5] [(4,pg g1 0),(5,iv 0)] ?_
  obtain rfl:=Option.some.inj heq
  exact RunH.doneM' 1 (vs:=[.agg #[iv y4.Num,iv y4.Den],iv 0]) (v:=.tuple #[.agg #[iv y4.Num,iv y4.Den],iv 0]) (by kernel_rfl) Tryd.func8 (fun w hh=>show ResAll _ _ _ [.cell 4 32,.tmp 5] _ from ⟨⟨⟨g1,0,none⟩,by kernel_rfl,trS_run _ (vs:=[iv y4.Num,iv y4.Den]) (r:=[]) (es:=[.load ⟨g1,0,none⟩ (iv y4.Num),.load ⟨g1,1,none⟩ (iv y4.Den)]) (by kernel_rfl) ⟨(hh.box 0 rfl rfl),(hh.box 0 rfl rfl)⟩⟩,(show lk _ _=some _ by kernel_rfl),trivial⟩) rfl (cs':=F) rfl ⟨rfl,rfl,rfl⟩
theorem trials_Failing.l2_c {w0:World} [GlobI 0 w0] {H:Hp} {F:List Ch} {r:Part × Int} (e1:Int→Int→Option (Part × Int))
  (he1:∀ (g1:Nat) (v_failed7:Int) (v_all8:Int) ,e1 v_failed7 v_all8=some r→RunH C8 (S8 F H r) H w0 [.c [1,1,1,1,1,0,0],.c [1,1,1,1,1,0,1],.c [1,1,1,1,1,1]] [(4,pg g1 0),(7,iv v_failed7),(8,iv v_all8)] H ((some (g1,.cells #[iv 0,iv 0] 32 (0,0)))::F)):∀ (k:Nat),∀ (a1:ByteArray) (g1:Nat) (y3:(List (trials_id × trials_tally))) (g2:Nat) (ch1:Ch) (g3:Nat) (v_failed7:Int) (v_all8:Int) (v23:List (trials_id × trials_tally)) (chv23:Ch) ,ItOwn etrials_id ktrials_tally true H g2 y3 v23 ch1 chv23 g3→trials_Failing.l2 e1 k a1 y3 v_failed7 v_all8 v23=some r→RunH C8 (S8 F H r) H w0 [.c [1,1,1,1,0,1,0,0],.l [1,1,1,1,0,1,0,0],.b 0,.c [1,1,1,1,1]] [(1,.string a1),(4,pg g1 0),(7,iv v_failed7),(8,iv v_all8),(23,pg g3 0)] H (chv23::ch1::(some (g1,.cells #[iv 0,iv 0] 32 (0,0)))::F):=by
 intro k
 induction k with
 | zero=>intro a1 g1 y3 g2 ch1 g3 v_failed7 v_all8 v23 chv23 hov23 heq; exact nomatch (show (none:Option (Part × Int))=some r from heq)
 | succ k ihk =>
  intro a1 g1 y3 g2 ch1 g3 v_failed7 v_all8 v23 chv23 hov23 heq
  rw [trials_Failing.l2] at heq
  refine Ra 1 [1,1,1,1,0,1,0,0,0] [.c [1,1,1,1,0,1,0,0,1],.l [1,1,1,1,0,1,0,0],.b 0,.c [1,1,1,1,1]] ?_
  obtain ⟨hA1,hB1⟩:=rangeAll_some heq
  refine RgH.does (DoesH.next (d:=24) (k:=0) (kM:=1) (by kernel_rfl) rfl rfl hov23) ?_
  rintro _ _ _ _ (⟨hl1,rfl,rfl,rfl⟩ | ⟨l1_1,q1,l2_1,ch3,vq1,hl1,rfl,rfl,rfl,hc1⟩)
  ·replace heq:=hA1 hl1
   refine Rd 2 [1,4,7,8,23,25] [(1,.string a1),(4,pg g1 0),(7,iv v_failed7),(8,iv v_all8),(23,pg g3 0),(25,.bool false)]<|Ad 1 [.c [1,1,1,1,0,1,0,0,1,0],.c [1,1,1,1,0,1,0,0,1,1],.l [1,1,1,1,0,1,0,0],.b 0,.c [1,1,1,1,1]]<|Cf false rfl<|Ad 3 [.c [1,1,1,1,1,0,0],.c [1,1,1,1,1,0,1],.c [1,1,1,1,1,1]]<|Kp [4,7,8] [(4,pg g1 0),(7,iv v_failed7),(8,iv v_all8)] ?_
   refine RunH.pick 3 [2] (cs':=(some (g1,.cells #[iv 0,iv 0] 32 (0,0)))::F) (by kernel_rfl) rfl ?_
   exact he1 _ v_failed7 v_all8 heq
  ·replace heq:=hB1 l1_1 q1 l2_1 hl1
   generalize l1_1++l2_1=lv1 at hc1 heq
   refine Rd 2 [1,4,7,8,23,25] [(1,.string a1),(4,pg g1 0),(7,iv v_failed7),(8,iv v_all8),(23,pg g3 0),(25,.bool true)]<|Ad 1 [.c [1,1,1,1,0,1,0,0,1,0],.c [1,1,1,1,0,1,0,0,1,1],.l [1,1,1,1,0,1,0,0],.b 0,.c [1,1,1,1,1]]<|Ct true rfl<|Ra 3 [1,1,1,1,0,1,0,0,1,1,0,0] [.c [1,1,1,1,0,1,0,0,1,1,0,1],.b 1,.l [1,1,1,1,0,1,0,0],.b 0,.c [1,1,1,1,1]] ?_
   refine RgH.does (DoesH.entry (d:=26) (k:=0) (kM:=1) (by kernel_rfl) rfl rfl hc1) ?_
   rintro _ _ _ _ ⟨cc1,rfl,rfl,rfl,hcc1⟩
   obtain ⟨rfl⟩:=ktrials_tally_open hcc1
   refine RgH.val1 (v':=.tuple #[.agg #[.string q1.1.test,.string q1.1.key],.agg #[iv q1.2.passed,iv q1.2.failed]]) rfl ?_
   refine Rk 3 [1,4,7,8,23,27,28] [(1,.string a1),(4,pg g1 0),(7,iv v_failed7),(8,iv v_all8),(23,pg g3 0),(27,.agg #[.string q1.1.test,.string q1.1.key]),(28,.agg #[iv q1.2.passed,iv q1.2.failed])] ?_
   refine RgH.does (DoesH.new (d:=9) (v:=fun g=>.pointer (some ⟨g,0,none⟩)) (o:=fun g=>.cells #[.string ByteArray.empty,.string ByteArray.empty] 43 (0,0)) (fun g=>by kernel_rfl)) ?_
   rintro _ _ _ _ ⟨g4,rfl,rfl,rfl⟩
   refine RgH.does (DoesH.new (d:=10) (v:=fun g=>.pointer (some ⟨g,0,none⟩)) (o:=fun g=>.cells #[iv 0,iv 0] 45 (0,0)) (fun g=>by kernel_rfl)) ?_
   rintro _ _ _ _ ⟨g5,rfl,rfl,rfl⟩
   refine RgH.does (DoesH.store (k:=1) (g:=g4) (off:=0) (v:=.agg #[.string q1.1.test,.string q1.1.key]) (cells':=#[.string q1.1.test,.string q1.1.key]) (by kernel_rfl) rfl (by kernel_rfl) (by kernel_rfl)) ?_
   rintro _ _ _ _ ⟨rfl,rfl,rfl⟩
   refine RgH.does (DoesH.store (k:=0) (g:=g5) (off:=0) (v:=.agg #[iv q1.2.passed,iv q1.2.failed]) (cells':=#[iv q1.2.passed,iv q1.2.failed]) (by kernel_rfl) rfl (by kernel_rfl) (by kernel_rfl)) ?_
   rintro _ _ _ _ ⟨rfl,rfl,rfl⟩
   refine Dn<|Ad 1 [.c [1,1,1,1,0,1,0,0,1,1,0,1,0],.c [1,1,1,1,0,1,0,0,1,1,0,1,1],.b 1,.l [1,1,1,1,0,1,0,0],.b 0,.c [1,1,1,1,1]] ?_
   obtain ⟨t1,ht1,heq⟩:=bind_some heq
   have K7:RunH C8 (S8 F H r) H w0 [.c [1,1,1,1,0,1,0,0,1,1,0,1,1],.b 1,.l [1,1,1,1,0,1,0,0],.b 0,.c [1,1,1,1,1]] [(1,.string a1),(4,pg g1 0),(7,iv v_failed7),(8,iv v_all8),(10,pg g5 0),(23,pg g3 0),(37,.bool t1)] H ((some (g5,.cells #[iv q1.2.passed,iv q1.2.failed] 45 (0,0)))::ch3::ch1::(some (g1,.cells #[iv 0,iv 0] 32 (0,0)))::F):=by
    rcases bool_cases (t1) with hb5 | hb5
    ·replace heq:=bif_true hb5 heq
     refine Ct t1 hb5<|Kp [1,4,7,8,10,23] [(1,.string a1),(4,pg g1 0),(7,iv v_failed7),(8,iv v_all8),(10,pg g5 0),(23,pg g3 0)] ?_
     refine RunH.draw (fun w=>Heap H w0 w ((some (g5,.cells #[iv q1.2.passed,iv q1.2.failed] 45 (0,0)))::ch3::ch1::(some (g1,.cells #[iv 0,iv 0] 32 (0,0)))::F)) (fun w=>Heap H w0 w ((some (g5,.cells #[iv q1.2.passed,iv q1.2.failed] 45 (0,0)))::ch3::ch1::(some (g1,.cells #[iv 0,iv 0] 32 (0,0)))::F)) [3,3,3,3,3,3,3,3,3,3,3,3,3] (n:=13) (ls:=[false,false,false,false,false,false,false,false,false,false,false,false,false]) (by kernel_rfl) (by kernel_rfl) (by kernel_rfl) rfl ?_
     refine Dk [0,1,2,3,4,5,6,7,8,9,10,11,12] 0 (nb 13 8191) [iv q1.2.failed,iv q1.2.passed,iv q1.2.failed] [.load ⟨g5,1,none⟩ (iv q1.2.failed),.load ⟨g5,0,none⟩ (iv q1.2.passed),.load ⟨g5,1,none⟩ (iv q1.2.failed)] [1,4,7,8,23] [(1,.string a1),(4,pg g1 0),(7,iv (w64 (v_failed7+q1.2.failed))),(8,iv (w64 ((w64 (v_all8+q1.2.passed))+q1.2.failed))),(23,pg g3 0)] (Pk 4 [0,1,2,3]) (Pk 4 [0,1,2,3]) (fun w hh=>⟨(hh.box 0 rfl rfl),(hh.box 0 rfl rfl),(hh.box 0 rfl rfl)⟩) ?_
     refine DrH.done (by kernel_rfl) ?_
     refine Ad 2 [.c [1,1,1,1,0,1,0,0],.l [1,1,1,1,0,1,0,0],.b 0,.c [1,1,1,1,1]]<|Kp [1,4,7,8,23] [(1,.string a1),(4,pg g1 0),(7,iv (w64 (v_failed7+q1.2.failed))),(8,iv (w64 ((w64 (v_all8+q1.2.passed))+q1.2.failed))),(23,pg g3 0)] ?_
     refine RunH.pick 4 [1,2,3] (cs':=ch3::ch1::(some (g1,.cells #[iv 0,iv 0] 32 (0,0)))::F) (by kernel_rfl) rfl ?_
     exact ihk a1 _ y3 _ _ _ (w64 (v_failed7+q1.2.failed)) (w64 ((w64 (v_all8+q1.2.passed))+q1.2.failed)) lv1 _ hc1.own heq
    ·replace heq:=bif_false hb5 heq
     refine Cf t1 hb5<|Ad 3 [.c [1,1,1,1,0,1,0,0],.l [1,1,1,1,0,1,0,0],.b 0,.c [1,1,1,1,1]]<|Kp [1,4,7,8,23] [(1,.string a1),(4,pg g1 0),(7,iv v_failed7),(8,iv v_all8),(23,pg g3 0)] ?_
     refine RunH.pick 4 [1,2,3] (cs':=ch3::ch1::(some (g1,.cells #[iv 0,iv 0] 32 (0,0)))::F) (by kernel_rfl) rfl ?_
     exact ihk a1 _ y3 _ _ _ v_failed7 v_all8 lv1 _ hc1.own heq
   replace heq:=ht1
   refine Rr<|Rv 5 [33,1,4,7,8,10,23] [.string q1.1.test] [.load ⟨g4,0,none⟩ (.string q1.1.test)] [(33,.bool (sEq q1.1.test a1)),(1,.string a1),(4,pg g1 0),(7,iv v_failed7),(8,iv v_all8),(10,pg g5 0),(23,pg g3 0)] (fun w hh=>(hh.box 1 rfl rfl)) ?_
   rcases bool_cases (sEq q1.1.test a1) with hb4 | hb4
   ·replace heq:=bif_true hb4 heq
    refine RgH.val1 (v':=.bool true) (congrArg Value.bool hb4) ?_
    refine Rv 6 [1,4,7,8,10,23,33,34] [iv q1.2.passed,iv q1.2.failed] [.load ⟨g5,0,none⟩ (iv q1.2.passed),.load ⟨g5,1,none⟩ (iv q1.2.failed)] [(1,.string a1),(4,pg g1 0),(7,iv v_failed7),(8,iv v_all8),(10,pg g5 0),(23,pg g3 0),(33,.bool true),(34,.agg #[iv q1.2.passed,iv q1.2.failed])] (fun w hh=>⟨(hh.box 0 rfl rfl),(hh.box 0 rfl rfl)⟩) ?_
    obtain ⟨y5,hy5,heq⟩:=bind_some heq
    refine RgH.does (DoesH.call (d:=35) (g:=14) (args:=#[.agg #[iv q1.2.passed,iv q1.2.failed]]) (by kernel_rfl) (trials_tally_verdict_c (a0:=q1.2)  hy5)) ?_
    rintro _ _ _ _ ⟨_,rfl,rfl,rfl,rfl⟩
    refine Rk 9 [1,4,7,8,10,23,37] [(1,.string a1),(4,pg g1 0),(7,iv v_failed7),(8,iv v_all8),(10,pg g5 0),(23,pg g3 0),(37,.bool (y5 != 3))] ?_
    obtain rfl:=Option.some.inj heq
    refine Kg [1,4,7,8,10,23,37] [(1,.string a1),(4,pg g1 0),(7,iv v_failed7),(8,iv v_all8),(10,pg g5 0),(23,pg g3 0),(37,.bool (y5 != 3))] ?_
    refine RgH.pick 5 [0,2,3,4] (cs':=(some (g5,.cells #[iv q1.2.passed,iv q1.2.failed] 45 (0,0)))::ch3::ch1::(some (g1,.cells #[iv 0,iv 0] 32 (0,0)))::F) (by kernel_rfl) rfl ?_
    refine Dn ?_
    exact K7
   ·replace heq:=bif_false hb4 heq
    refine RgH.val1 (v':=.bool false) (congrArg Value.bool hb4) ?_
    refine Rk 9 [1,4,7,8,10,23,37] [(1,.string a1),(4,pg g1 0),(7,iv v_failed7),(8,iv v_all8),(10,pg g5 0),(23,pg g3 0),(37,.bool false)] ?_
    obtain rfl:=Option.some.inj heq
    refine Kg [1,4,7,8,10,23,37] [(1,.string a1),(4,pg g1 0),(7,iv v_failed7),(8,iv v_all8),(10,pg g5 0),(23,pg g3 0),(37,.bool false)] ?_
    refine RgH.pick 5 [0,2,3,4] (cs':=(some (g5,.cells #[iv q1.2.passed,iv q1.2.failed] 45 (0,0)))::ch3::ch1::(some (g1,.cells #[iv 0,iv 0] 32 (0,0)))::F) (by kernel_rfl) rfl ?_
    refine Dn ?_
    exact K7
theorem trials_Failing_c {w0:World} [GlobI 0 w0] {H:Hp} {F:List Ch} {a0:List TestRun} {Aa0:Option Addr} {na0:Nat} {ca0:Nat} {a1:ByteArray} {r:Part × Int} (hra0:Rw kTestRun H F Aa0 a0) (hca0:na0≤ca0) (hna0:na0=a0.length) (heq:trials_Failing.f a0 a1=some r):CallsH Tryd.prog 8 #[.slice Aa0 na0 ca0,.string a1] H w0 (F) (S8 F H r):=by
 refine calls_of_runH (F:=C8) Tryd.func8 (by kernel_rfl) Tryd.ntmps8 (args:=[.slice Aa0 na0 ca0,.string a1]) (by kernel_rfl) ?_
 subst hna0
 unfold trials_Failing.f at heq
 refine Ra 1 [0] [.c [1]] ?_
 refine RgH.does (DoesH.new (d:=4) (v:=fun g=>.pointer (some ⟨g,0,none⟩)) (o:=fun g=>.cells #[iv 0,iv 0] 32 (0,0)) (fun g=>by kernel_rfl)) ?_
 rintro _ _ _ _ ⟨g1,rfl,rfl,rfl⟩
 refine Rd 2 [0,1,4] [(0,.slice Aa0 a0.length ca0),(1,.string a1),(4,pg g1 0)]<|Ra 2 [1,0,0] [.c [1,0,1],.c [1,1]]<|Rk 1 [0,1,4,11] [(0,.slice Aa0 a0.length ca0),(1,.string a1),(4,pg g1 0),(11,.slice Aa0 a0.length ca0)] ?_
 obtain ⟨y1,hy1,heq⟩:=bind_some heq
 refine RgH.does (DoesH.call (d:=12) (g:=12) (args:=#[.slice Aa0 a0.length ca0]) (by kernel_rfl) (trials_CheckHistory_c (a0:=a0) (hra0.wk (fun _ h=>(.tail _ h))) hca0 rfl hy1)) ?_
 rintro _ _ _ _ ⟨_,rfl,rfl,rfl,rfl⟩
 refine Rd 3 [0,1,4,6] [(0,.slice Aa0 a0.length ca0),(1,.string a1),(4,pg g1 0),(6,iv y1)]<|Ra 1 [1,0,1,0] [.c [1,0,1,1],.c [1,1]]<|Rd 2 [0,1,4,6,14] [(0,.slice Aa0 a0.length ca0),(1,.string a1),(4,pg g1 0),(6,iv y1),(14,.bool (y1 != 0))] ?_
 rcases bool_cases (y1 != 0) with hb1 | hb1
 ·replace heq:=bif_true hb1 heq
  refine Ct (y1 != 0) hb1<|Ra 1 [1,0,1,1,0,0] [.c [1,0,1,1,0,1],.c [1,1]]<|Rk 2 [4,15,16] [(4,pg g1 0),(15,.agg #[iv 0,iv 0]),(16,iv y1)] ?_
  refine RgH.does (DoesH.store (k:=0) (g:=g1) (off:=0) (v:=.agg #[iv 0,iv 0]) (cells':=#[iv 0,iv 0]) (by kernel_rfl) rfl (by kernel_rfl) (by kernel_rfl)) ?_
  rintro _ _ _ _ ⟨rfl,rfl,rfl⟩
  refine Rd 4 [4,5] [(4,pg g1 0),(5,iv y1)] ?_
  obtain rfl:=Option.some.inj heq
  exact RunH.doneM' 1 (vs:=[.agg #[iv 0,iv 0],iv y1]) (v:=.tuple #[.agg #[iv 0,iv 0],iv y1]) (by kernel_rfl) Tryd.func8 (fun w hh=>show ResAll _ _ _ [.cell 4 32,.tmp 5] _ from ⟨⟨⟨g1,0,none⟩,by kernel_rfl,trS_run _ (vs:=[iv 0,iv 0]) (r:=[]) (es:=[.load ⟨g1,0,none⟩ (iv 0),.load ⟨g1,1,none⟩ (iv 0)]) (by kernel_rfl) ⟨(hh.box 0 rfl rfl),(hh.box 0 rfl rfl)⟩⟩,(show lk _ _=some _ by kernel_rfl),trivial⟩) rfl (cs':=F) rfl ⟨rfl,rfl,rfl⟩
 ·replace heq:=bif_false hb1 heq
  refine Cf (y1 != 0) hb1<|Ra 3 [1,1,0,0] [.c [1,1,0,1],.c [1,1,1]]<|Rk 1 [0,1,4,17] [(0,.slice Aa0 a0.length ca0),(1,.string a1),(4,pg g1 0),(17,.string a1)] ?_
  obtain ⟨y2,hy2,heq⟩:=bind_some heq
  refine RgH.does (DoesH.call (d:=18) (g:=21) (args:=#[.string a1]) (by kernel_rfl) (blob_IsPath_c (a0:=a1)  hy2)) ?_
  rintro _ _ _ _ ⟨_,rfl,rfl,rfl,rfl⟩
  refine Rd 3 [0,1,4,19] [(0,.slice Aa0 a0.length ca0),(1,.string a1),(4,pg g1 0),(19,.bool (!y2))] ?_
  rcases bool_cases (!y2) with hb2 | hb2
  ·replace heq:=bif_true hb2 heq
   refine Ct (!y2) hb2<|Ra 1 [1,1,0,1,0,0] [.c [1,1,0,1,0,1],.c [1,1,1]]<|Rk 1 [4,20] [(4,pg g1 0),(20,.agg #[iv 0,iv 0])] ?_
   refine RgH.does (DoesH.store (k:=0) (g:=g1) (off:=0) (v:=.agg #[iv 0,iv 0]) (cells':=#[iv 0,iv 0]) (by kernel_rfl) rfl (by kernel_rfl) (by kernel_rfl)) ?_
   rintro _ _ _ _ ⟨rfl,rfl,rfl⟩
   refine Rd 3 [4,5] [(4,pg g1 0),(5,iv 5)] ?_
   obtain rfl:=Option.some.inj heq
   exact RunH.doneM' 1 (vs:=[.agg #[iv 0,iv 0],iv 5]) (v:=.tuple #[.agg #[iv 0,iv 0],iv 5]) (by kernel_rfl) Tryd.func8 (fun w hh=>show ResAll _ _ _ [.cell 4 32,.tmp 5] _ from ⟨⟨⟨g1,0,none⟩,by kernel_rfl,trS_run _ (vs:=[iv 0,iv 0]) (r:=[]) (es:=[.load ⟨g1,0,none⟩ (iv 0),.load ⟨g1,1,none⟩ (iv 0)]) (by kernel_rfl) ⟨(hh.box 0 rfl rfl),(hh.box 0 rfl rfl)⟩⟩,(show lk _ _=some _ by kernel_rfl),trivial⟩) rfl (cs':=F) rfl ⟨rfl,rfl,rfl⟩
  ·replace heq:=bif_false hb2 heq
   refine Cf (!y2) hb2<|Ra 2 [1,1,1,0] [.c [1,1,1,1]]<|Rd 2 [0,1,4,7,8] [(0,.slice Aa0 a0.length ca0),(1,.string a1),(4,pg g1 0),(7,iv 0),(8,iv 0)]<|Ra 2 [1,1,1,1,0,0] [.c [1,1,1,1,0,1],.c [1,1,1,1,1]]<|Rk 1 [1,4,7,8,21] [(1,.string a1),(4,pg g1 0),(7,iv 0),(8,iv 0),(21,.slice Aa0 a0.length ca0)] ?_
   obtain ⟨y3,hy3,heq⟩:=bind_some heq
   refine RgH.does (DoesH.call (d:=22) (g:=13) (args:=#[.slice Aa0 a0.length ca0]) (by kernel_rfl) (trials_tallies_c (a0:=a0) (hra0.wk (fun _ h=>(.tail _ h))) hca0 rfl hy3)) ?_
   rintro _ _ _ _ ⟨_,rfl,g2,ch1,rfl,rfl,rfl,ho1⟩
   refine RgH.does (DoesH.range (d:=23) (g:=g2) (kM:=0) (by kernel_rfl) rfl ho1) ?_
   rintro _ _ _ _ ⟨g3,ch2,rfl,rfl,rfl,hi1⟩
   refine Dn<|Ad 2 [.c [1,1,1,1,0,1,0,0],.l [1,1,1,1,0,1,0,0],.b 0,.c [1,1,1,1,1]]<|Kp [1,4,7,8,23] [(1,.string a1),(4,pg g1 0),(7,iv 0),(8,iv 0),(23,pg g3 0)] ?_
   exact ((trials_Failing.l2_c (e1:=trials_Failing.e1) (trials_Failing.e1_c)) big) a1 _ y3 _ _ _ 0 0 y3 _ hi1 heq
noncomputable def C24:Ctx:={ P:=Tryd.prog,f:=24,N:=25,c:=bodyOf Tryd.f24 }
def S24 (F:List Ch) (H0:Hp) (r:Part) (v:Value) (H:Hp) (cs:List Ch):Prop:=H0=H∧v=.agg #[iv r.Num,iv r.Den]∧F=cs
theorem smithyardref10_part.e1_c {w0:World} [GlobI 0 w0] {H:Hp} {F:List Ch} {r:Part}:∀ (a0:Int) (a1:Int) (g1:Nat) (v_a5:Int) ,smithyardref10_part.e1 a0 a1 v_a5=some r→RunH C24 (S24 F H r) H w0 [.c [1,1,1,1,0],.c [1,1,1,1,1]] [(0,iv a0),(1,iv a1),(4,pg g1 0),(5,iv v_a5)] H ((some (g1,.cells #[iv 0,iv 0] 32 (0,0)))::F):=by
 intro a0 a1 g1 v_a5  heq
 unfold smithyardref10_part.e1 at heq
 refine Kp [0,1,4,5] [(0,iv a0),(1,iv a1),(4,pg g1 0),(5,iv v_a5)] ?_
 refine RunH.draw (fun w=>Heap H w0 w ((some (g1,.cells #[iv 0,iv 0] 32 (0,0)))::F)) (fun w=>Heap H w0 w ((some (g1,.cells #[iv 0,iv 0] 32 (0,0)))::F)) [3,3,3,3,3,3,3,2] (n:=8) (ls:=[false,false,false,false,false,false,false,false]) (by kernel_rfl) (by kernel_rfl) (by kernel_rfl) rfl ?_
 obtain ⟨hn1,heq⟩:=guard?_some heq
 obtain ⟨hn2,heq⟩:=guard?_some heq
 refine Dk [0,1,2,3,4,5,6] 1 (nb 8 127) [] [.need (v_a5≠(0:Int)),.need (v_a5≠(0:Int))] [4,24] [(4,pg g1 0),(24,.agg #[iv (w64 (a0.tdiv v_a5)),iv (w64 (a1.tdiv v_a5))])] (Pk 1 [0]) (Pk 1 [0]) (fun w hh=>⟨(ne_of_bne hn1),(ne_of_bne hn2)⟩) ?_
 refine DrH.does (n:=0) (ls':=[true,true,true,true,true,true,true,true]) 7 (by kernel_rfl) rfl (DoesH.store (k:=0) (g:=g1) (off:=0) (v:=.agg #[iv (w64 (a0.tdiv v_a5)),iv (w64 (a1.tdiv v_a5))]) (cells':=#[iv (w64 (a0.tdiv v_a5)),iv (w64 (a1.tdiv v_a5))]) (by kernel_rfl) rfl (by kernel_rfl) (by kernel_rfl)) ?_
 rintro _ _ _ _ ⟨rfl,rfl,rfl⟩
 refine ⟨fun _ w hh=>⟨(fun h=>by cases h),(fun h=>absurd h (by decide)),(fun h=>by cases h)⟩,?_⟩
 refine Kr [4] [(4,pg g1 0)] ?_
 refine DrH.done (by kernel_rfl) ?_
 obtain rfl:=Option.some.inj heq
 exact RunH.doneM' 1 (vs:=[.agg #[iv (w64 (a0.tdiv v_a5)),iv (w64 (a1.tdiv v_a5))]]) (v:=.agg #[iv (w64 (a0.tdiv v_a5)),iv (w64 (a1.tdiv v_a5))]) (by kernel_rfl) Tryd.func24 (fun w hh=>show ResAll _ _ _ [.cell 4 32] _ from ⟨⟨⟨g1,0,none⟩,by kernel_rfl,trS_run _ (vs:=[iv (w64 (a0.tdiv v_a5)),iv (w64 (a1.tdiv v_a5))]) (r:=[]) (es:=[.load ⟨g1,0,none⟩ (iv (w64 (a0.tdiv v_a5))),.load ⟨g1,1,none⟩ (iv (w64 (a1.tdiv v_a5)))]) (by kernel_rfl) ⟨(hh.box 0 rfl rfl),(hh.box 0 rfl rfl)⟩⟩,trivial⟩) rfl (cs':=F) rfl ⟨rfl,rfl,rfl⟩
theorem smithyardref10_part.l2_c {w0:World} [GlobI 0 w0] {H:Hp} {F:List Ch} {r:Part} (e1:Int→Int→Int→Option Part)
  (he1:∀ (a0:Int) (a1:Int) (g1:Nat) (v_a5:Int) ,e1 a0 a1 v_a5=some r→RunH C24 (S24 F H r) H w0 [.c [1,1,1,1,0],.c [1,1,1,1,1]] [(0,iv a0),(1,iv a1),(4,pg g1 0),(5,iv v_a5)] H ((some (g1,.cells #[iv 0,iv 0] 32 (0,0)))::F)):∀ (k:Nat),∀ (a0:Int) (a1:Int) (g1:Nat) (v_a5:Int) (v_b6:Int) ,smithyardref10_part.l2 e1 k a0 a1 v_a5 v_b6=some r→RunH C24 (S24 F H r) H w0 [.c [1,1,1,0,0,0],.l [1,1,1,0,0,0],.b 0,.c [1,1,1,1]] [(0,iv a0),(1,iv a1),(4,pg g1 0),(5,iv v_a5),(6,iv v_b6)] H ((some (g1,.cells #[iv 0,iv 0] 32 (0,0)))::F):=by
 intro k
 induction k with
 | zero=>intro a0 a1 g1 v_a5 v_b6  heq; exact nomatch (show (none:Option Part)=some r from heq)
 | succ k ihk =>
  intro a0 a1 g1 v_a5 v_b6  heq
  rw [smithyardref10_part.l2] at heq
  refine Ra 2 [1,1,1,0,0,0,0,0] [.c [1,1,1,0,0,0,0,1],.c [1,1,1,0,0,0,1],.l [1,1,1,0,0,0],.b 0,.c [1,1,1,1]]<|Rd 2 [0,1,4,5,6,13] [(0,iv a0),(1,iv a1),(4,pg g1 0),(5,iv v_a5),(6,iv v_b6),(13,.bool (decide (0<v_b6)))] ?_
  rcases bool_cases (decide (0<v_b6)) with hb2 | hb2
  ·replace heq:=bif_true hb2 heq
   refine Ct (decide (0<v_b6)) hb2<|Ad 2 [.c [1,1,1,0,0,0,1,0],.b 1,.l [1,1,1,0,0,0],.b 0,.c [1,1,1,1]]<|Kp [0,1,4,5,6] [(0,iv a0),(1,iv a1),(4,pg g1 0),(5,iv v_a5),(6,iv v_b6)] ?_
   refine RunH.draw (fun w=>Heap H w0 w ((some (g1,.cells #[iv 0,iv 0] 32 (0,0)))::F)) (fun w=>Heap H w0 w ((some (g1,.cells #[iv 0,iv 0] 32 (0,0)))::F)) [3,3,3,3,3,3] (n:=6) (ls:=[false,false,false,false,false,false]) (by kernel_rfl) (by kernel_rfl) (by kernel_rfl) rfl ?_
   obtain ⟨hn3,heq⟩:=guard?_some heq
   refine Dk [0,1,2,3,4,5] 0 (nb 6 63) [] [.need (v_b6≠(0:Int))] [0,1,4,5,6] [(0,iv a0),(1,iv a1),(4,pg g1 0),(5,iv v_b6),(6,iv (v_a5.tmod v_b6))] (Pk 1 [0]) (Pk 1 [0]) (fun w hh=>(ne_of_bne hn3)) ?_
   refine DrH.done (by kernel_rfl) ?_
   refine Ad 2 [.c [1,1,1,0,0,0],.l [1,1,1,0,0,0],.b 0,.c [1,1,1,1]]<|Kp [0,1,4,5,6] [(0,iv a0),(1,iv a1),(4,pg g1 0),(5,iv v_b6),(6,iv (v_a5.tmod v_b6))] ?_
   exact ihk a0 a1 _ v_b6 (v_a5.tmod v_b6) heq
  ·replace heq:=bif_false hb2 heq
   refine Cf (decide (0<v_b6)) hb2<|Ad 2 [.c [1,1,1,1,0],.c [1,1,1,1,1]]<|Kp [0,1,4,5] [(0,iv a0),(1,iv a1),(4,pg g1 0),(5,iv v_a5)] ?_
   exact he1 a0 a1 _ v_a5 heq
theorem smithyardref10_part_c {w0:World} [GlobI 0 w0] {H:Hp} {F:List Ch} {a0:Int} {a1:Int} {r:Part} (heq:smithyardref10_part.f a0 a1=some r):CallsH Tryd.prog 24 #[iv a0,iv a1] H w0 (F) (S24 F H r):=by
 refine calls_of_runH (F:=C24) Tryd.func24 (by kernel_rfl) Tryd.ntmps24 (args:=[iv a0,iv a1]) (by kernel_rfl) ?_
 unfold smithyardref10_part.f at heq
 refine Ra 1 [0] [.c [1]] ?_
 refine RgH.does (DoesH.new (d:=4) (v:=fun g=>.pointer (some ⟨g,0,none⟩)) (o:=fun g=>.cells #[iv 0,iv 0] 32 (0,0)) (fun g=>by kernel_rfl)) ?_
 rintro _ _ _ _ ⟨g1,rfl,rfl,rfl⟩
 refine Dn<|Ra 2 [1,0,0] [.c [1,0,1],.c [1,1]]<|Rd 2 [0,1,4,8] [(0,iv a0),(1,iv a1),(4,pg g1 0),(8,.bool (a1 == 0))] ?_
 rcases bool_cases (a1 == 0) with hb1 | hb1
 ·replace heq:=bif_true hb1 heq
  refine Ct (a1 == 0) hb1<|Ra 1 [1,0,1,0,0] [.c [1,0,1,0,1],.c [1,1]]<|Rk 1 [4,9] [(4,pg g1 0),(9,.agg #[iv 0,iv 1])] ?_
  refine RgH.does (DoesH.store (k:=0) (g:=g1) (off:=0) (v:=.agg #[iv 0,iv 1]) (cells':=#[iv 0,iv 1]) (by kernel_rfl) rfl (by kernel_rfl) (by kernel_rfl)) ?_
  rintro _ _ _ _ ⟨rfl,rfl,rfl⟩
  refine Dn ?_
  obtain rfl:=Option.some.inj heq
  exact RunH.doneM' 1 (vs:=[.agg #[iv 0,iv 1]]) (v:=.agg #[iv 0,iv 1]) (by kernel_rfl) Tryd.func24 (fun w hh=>show ResAll _ _ _ [.cell 4 32] _ from ⟨⟨⟨g1,0,none⟩,by kernel_rfl,trS_run _ (vs:=[iv 0,iv 1]) (r:=[]) (es:=[.load ⟨g1,0,none⟩ (iv 0),.load ⟨g1,1,none⟩ (iv 1)]) (by kernel_rfl) ⟨(hh.box 0 rfl rfl),(hh.box 0 rfl rfl)⟩⟩,trivial⟩) rfl (cs':=F) rfl ⟨rfl,rfl,rfl⟩
 ·replace heq:=bif_false hb1 heq
  refine Cf (a1 == 0) hb1<|Ra 2 [1,1,0] [.c [1,1,1]]<|Rd 4 [0,1,4,5,6] [(0,iv a0),(1,iv a1),(4,pg g1 0),(5,iv a0),(6,iv a1)]<|Ad 3 [.c [1,1,1,0,0,0],.l [1,1,1,0,0,0],.b 0,.c [1,1,1,1]]<|Kp [0,1,4,5,6] [(0,iv a0),(1,iv a1),(4,pg g1 0),(5,iv a0),(6,iv a1)] ?_
  exact ((smithyardref10_part.l2_c (e1:=smithyardref10_part.e1) (smithyardref10_part.e1_c)) big) a0 a1 _ a0 a1 heq
noncomputable def C9:Ctx:={ P:=Tryd.prog,f:=9,N:=50,c:=bodyOf Tryd.f9 }
def S9 (F:List Ch) (H0:Hp) (r:Part × Int) (v:Value) (H:Hp) (cs:List Ch):Prop:=H0=H∧v=.tuple #[.agg #[iv r.1.Num,iv r.1.Den],iv r.2]∧F=cs
theorem smithyardref10_Failing.e1_c {w0:World} [GlobI 0 w0] {H:Hp} {F:List Ch} {r:Part × Int}:∀ (g1:Nat) (v_bad7:Int) (v_all8:Int) ,smithyardref10_Failing.e1 v_bad7 v_all8=some r→RunH C9 (S9 F H r) H w0 [.c [1,1,1,1,1,0],.c [1,1,1,1,1,1]] [(4,pg g1 0),(7,iv v_bad7),(8,iv v_all8)] H ((some (g1,.cells #[iv 0,iv 0] 32 (0,0)))::F):=by
 intro g1 v_bad7 v_all8  heq
 unfold smithyardref10_Failing.e1 at heq
 refine Rr<|Rk 2 [4,47,48] [(4,pg g1 0),(47,iv v_bad7),(48,iv v_all8)] ?_
 obtain ⟨y3,hy3,heq⟩:=bind_some heq
 refine RgH.does (DoesH.call (d:=49) (g:=24) (args:=#[iv v_bad7,iv v_all8]) (by kernel_rfl) (smithyardref10_part_c (a0:=v_bad7) (a1:=v_all8)  hy3)) ?_
 rintro _ _ _ _ ⟨_,rfl,rfl,rfl,rfl⟩
 refine RgH.does (DoesH.store (k:=0) (g:=g1) (off:=0) (v:=.agg #[iv y3.Num,iv y3.Den]) (cells':=#[iv y3.Num,iv y3.Den]) (by kernel_rfl) rfl (by kernel_rfl) (by kernel_rfl)) ?_
 rintro _ _ _ _ ⟨rfl,rfl,rfl⟩
 refine Rd 5 [4,5] [(4,pg g1 0),(5,iv 0)] ?_
 obtain rfl:=Option.some.inj heq
 exact RunH.doneM' 1 (vs:=[.agg #[iv y3.Num,iv y3.Den],iv 0]) (v:=.tuple #[.agg #[iv y3.Num,iv y3.Den],iv 0]) (by kernel_rfl) Tryd.func9 (fun w hh=>show ResAll _ _ _ [.cell 4 32,.tmp 5] _ from ⟨⟨⟨g1,0,none⟩,by kernel_rfl,trS_run _ (vs:=[iv y3.Num,iv y3.Den]) (r:=[]) (es:=[.load ⟨g1,0,none⟩ (iv y3.Num),.load ⟨g1,1,none⟩ (iv y3.Den)]) (by kernel_rfl) ⟨(hh.box 0 rfl rfl),(hh.box 0 rfl rfl)⟩⟩,(show lk _ _=some _ by kernel_rfl),trivial⟩) rfl (cs':=F) rfl ⟨rfl,rfl,rfl⟩
theorem smithyardref10_Failing.j3_c {w0:World} [GlobI 0 w0] {H:Hp} {F:List Ch} {r:Part × Int} (backl2:(List TestRun)→ByteArray→Int→Int→Int→Option (Part × Int))
  (hbackl2:∀ (a0:List TestRun) (Aa0:Option Addr) (ca0:Nat) (a1:ByteArray) (g1:Nat) (v_bad7:Int) (v_all8:Int) (v23:Int) ,Rw kTestRun H F Aa0 a0→a0.length≤ca0→backl2 a0 a1 v_bad7 v_all8 v23=some r→RunH C9 (S9 F H r) H w0 [.c [1,1,1,1,0,1,0,0],.l [1,1,1,1,0,1,0,0],.b 0,.c [1,1,1,1,1]] [(0,.slice Aa0 a0.length ca0),(1,.string a1),(4,pg g1 0),(7,iv v_bad7),(8,iv v_all8),(21,.slice Aa0 a0.length ca0),(22,iv (a0.length:Int)),(23,iv v23)] H ((some (g1,.cells #[iv 0,iv 0] 32 (0,0)))::F)):∀ (a0:List TestRun) (Aa0:Option Addr) (ca0:Nat) (a1:ByteArray) (g1:Nat) (v23:Int) (v_bad7:Int) (v_all8:Int) ,Rw kTestRun H F Aa0 a0→a0.length≤ca0→smithyardref10_Failing.j3 backl2 a0 a1 v23 v_bad7 v_all8=some r→RunH C9 (S9 F H r) H w0 [.c [1,1,1,1,0,1,0,0,1,1,1],.l [1,1,1,1,0,1,0,0],.b 0,.c [1,1,1,1,1]] [(0,.slice Aa0 a0.length ca0),(1,.string a1),(4,pg g1 0),(7,iv v_bad7),(8,iv v_all8),(21,.slice Aa0 a0.length ca0),(22,iv (a0.length:Int)),(23,iv v23)] H ((some (g1,.cells #[iv 0,iv 0] 32 (0,0)))::F):=by
 intro a0 Aa0 ca0 a1 g1 v23 v_bad7 v_all8 hra0 hca0 heq
 unfold smithyardref10_Failing.j3 at heq
 refine Rr<|Rd 2 [0,1,4,7,8,21,22,23] [(0,.slice Aa0 a0.length ca0),(1,.string a1),(4,pg g1 0),(7,iv v_bad7),(8,iv v_all8),(21,.slice Aa0 a0.length ca0),(22,iv (a0.length:Int)),(23,iv (w64 (v23+1)))]<|Ad 1 [.c [1,1,1,1,0,1,0,0],.l [1,1,1,1,0,1,0,0],.b 0,.c [1,1,1,1,1]]<|Kp [0,1,4,7,8,21,22,23] [(0,.slice Aa0 a0.length ca0),(1,.string a1),(4,pg g1 0),(7,iv v_bad7),(8,iv v_all8),(21,.slice Aa0 a0.length ca0),(22,iv (a0.length:Int)),(23,iv (w64 (v23+1)))] ?_
 exact hbackl2 a0 _ _ a1 _ v_bad7 v_all8 (w64 (v23+1)) hra0 hca0 heq
theorem smithyardref10_Failing.l2_c {w0:World} [GlobI 0 w0] {H:Hp} {F:List Ch} {r:Part × Int} (e1:Int→Int→Option (Part × Int))
  (he1:∀ (g1:Nat) (v_bad7:Int) (v_all8:Int) ,e1 v_bad7 v_all8=some r→RunH C9 (S9 F H r) H w0 [.c [1,1,1,1,1,0],.c [1,1,1,1,1,1]] [(4,pg g1 0),(7,iv v_bad7),(8,iv v_all8)] H ((some (g1,.cells #[iv 0,iv 0] 32 (0,0)))::F)):∀ (k:Nat),∀ (a0:List TestRun) (Aa0:Option Addr) (ca0:Nat) (a1:ByteArray) (g1:Nat) (v_bad7:Int) (v_all8:Int) (v23:Int) ,Rw kTestRun H F Aa0 a0→a0.length≤ca0→smithyardref10_Failing.l2 e1 k a0 a1 v_bad7 v_all8 v23=some r→RunH C9 (S9 F H r) H w0 [.c [1,1,1,1,0,1,0,0],.l [1,1,1,1,0,1,0,0],.b 0,.c [1,1,1,1,1]] [(0,.slice Aa0 a0.length ca0),(1,.string a1),(4,pg g1 0),(7,iv v_bad7),(8,iv v_all8),(21,.slice Aa0 a0.length ca0),(22,iv (a0.length:Int)),(23,iv v23)] H ((some (g1,.cells #[iv 0,iv 0] 32 (0,0)))::F):=by
 intro k
 induction k with
 | zero=>intro a0 Aa0 ca0 a1 g1 v_bad7 v_all8 v23 hra0 hca0 heq; exact nomatch (show (none:Option (Part × Int))=some r from heq)
 | succ k ihk =>
  intro a0 Aa0 ca0 a1 g1 v_bad7 v_all8 v23 hra0 hca0 heq
  rw [smithyardref10_Failing.l2] at heq
  refine Ra 1 [1,1,1,1,0,1,0,0,0] [.c [1,1,1,1,0,1,0,0,1],.l [1,1,1,1,0,1,0,0],.b 0,.c [1,1,1,1,1]]<|Rd 1 [0,1,4,7,8,21,22,23,24] [(0,.slice Aa0 a0.length ca0),(1,.string a1),(4,pg g1 0),(7,iv v_bad7),(8,iv v_all8),(21,.slice Aa0 a0.length ca0),(22,iv (a0.length:Int)),(23,iv v23),(24,.bool (decide (v23<(a0.length:Int))))]<|Ad 1 [.c [1,1,1,1,0,1,0,0,1,0],.c [1,1,1,1,0,1,0,0,1,1],.l [1,1,1,1,0,1,0,0],.b 0,.c [1,1,1,1,1]] ?_
  rcases bool_cases (decide (v23<(a0.length:Int))) with hb3 | hb3
  ·replace heq:=bif_true hb3 heq
   refine Ct (decide (v23<(a0.length:Int))) hb3<|Ra 4 [1,1,1,1,0,1,0,0,1,1,0,0,0] [.c [1,1,1,1,0,1,0,0,1,1,0,0,1],.b 1,.c [1,1,1,1,0,1,0,0,1,1,1],.l [1,1,1,1,0,1,0,0],.b 0,.c [1,1,1,1,1]] ?_
   obtain ⟨x1,hx1,heq⟩:=bind_some heq
   obtain ⟨ha1,cs1,hK1,hcc1⟩:=hra0.get hx1
   obtain ⟨rfl⟩:=kTestRun_open hK1
   refine Rv 2 [0,1,4,7,8,21,22,23,26] [.string x1.Test,.string x1.Key,iv x1.At,.bool x1.Pass,iv x1.Seconds] [.need (Aa0=some (adr Aa0)∧(0:Int)≤v23∧v23<((a0.length:Nat):Int)),.load (((adr Aa0).add (v23.toNat*5)).add 0) (.string x1.Test),.load (((adr Aa0).add (v23.toNat*5)).add 1) (.string x1.Key),.load (((adr Aa0).add (v23.toNat*5)).add 2) (iv x1.At),.load (((adr Aa0).add (v23.toNat*5)).add 3) (.bool x1.Pass),.load (((adr Aa0).add (v23.toNat*5)).add 4) (iv x1.Seconds)] [(0,.slice Aa0 a0.length ca0),(1,.string a1),(4,pg g1 0),(7,iv v_bad7),(8,iv v_all8),(21,.slice Aa0 a0.length ca0),(22,iv (a0.length:Int)),(23,iv v23),(26,.agg #[.string x1.Test,.string x1.Key,iv x1.At,.bool x1.Pass,iv x1.Seconds])] (fun w hh=>⟨⟨ha1,(at?_some hx1).1,(at?_some hx1).2.1⟩,(hcc1 _ _ (hh.drop 1) 0 _ rfl),(hcc1 _ _ (hh.drop 1) 1 _ rfl),(hcc1 _ _ (hh.drop 1) 2 _ rfl),(hcc1 _ _ (hh.drop 1) 3 _ rfl),(hcc1 _ _ (hh.drop 1) 4 _ rfl)⟩) ?_
   refine RgH.does (DoesH.new (d:=10) (v:=fun g=>.pointer (some ⟨g,0,none⟩)) (o:=fun g=>.cells #[.string ByteArray.empty,.string ByteArray.empty,iv 0,.bool false,iv 0] 25 (0,0)) (fun g=>by kernel_rfl)) ?_
   rintro _ _ _ _ ⟨g2,rfl,rfl,rfl⟩
   refine RgH.does (DoesH.store (k:=0) (g:=g2) (off:=0) (v:=.agg #[.string x1.Test,.string x1.Key,iv x1.At,.bool x1.Pass,iv x1.Seconds]) (cells':=#[.string x1.Test,.string x1.Key,iv x1.At,.bool x1.Pass,iv x1.Seconds]) (by kernel_rfl) rfl (by kernel_rfl) (by kernel_rfl)) ?_
   rintro _ _ _ _ ⟨rfl,rfl,rfl⟩
   refine Dn<|Ad 2 [.c [1,1,1,1,0,1,0,0,1,1,0,0,1,0,0],.c [1,1,1,1,0,1,0,0,1,1,0,0,1,0,1],.c [1,1,1,1,0,1,0,0,1,1,0,0,1,1],.b 1,.c [1,1,1,1,0,1,0,0,1,1,1],.l [1,1,1,1,0,1,0,0],.b 0,.c [1,1,1,1,1]] ?_
   obtain ⟨t1,ht1,heq⟩:=bind_some heq
   have K3:RunH C9 (S9 F H r) H w0 [.c [1,1,1,1,0,1,0,0,1,1,0,0,1,0,1],.c [1,1,1,1,0,1,0,0,1,1,0,0,1,1],.b 1,.c [1,1,1,1,0,1,0,0,1,1,1],.l [1,1,1,1,0,1,0,0],.b 0,.c [1,1,1,1,1]] [(0,.slice Aa0 a0.length ca0),(1,.string a1),(4,pg g1 0),(7,iv v_bad7),(8,iv v_all8),(10,pg g2 0),(21,.slice Aa0 a0.length ca0),(22,iv (a0.length:Int)),(23,iv v23),(38,.bool t1)] H ((some (g2,.cells #[.string x1.Test,.string x1.Key,iv x1.At,.bool x1.Pass,iv x1.Seconds] 25 (0,0)))::(some (g1,.cells #[iv 0,iv 0] 32 (0,0)))::F):=by
    rcases bool_cases (t1) with hb5 | hb5
    ·replace heq:=bif_true hb5 heq
     refine Ct t1 hb5<|Ad 1 [.c [1,1,1,1,0,1,0,0,1,1,1],.l [1,1,1,1,0,1,0,0],.b 0,.c [1,1,1,1,1]]<|Kp [0,1,4,7,8,21,22,23] [(0,.slice Aa0 a0.length ca0),(1,.string a1),(4,pg g1 0),(7,iv v_bad7),(8,iv v_all8),(21,.slice Aa0 a0.length ca0),(22,iv (a0.length:Int)),(23,iv v23)] ?_
     refine RunH.pick 2 [1] (cs':=(some (g1,.cells #[iv 0,iv 0] 32 (0,0)))::F) (by kernel_rfl) rfl ?_
     exact (smithyardref10_Failing.j3_c (backl2:=(smithyardref10_Failing.l2 e1 k)) ihk) a0 _ _ a1 _ v23 v_bad7 v_all8 hra0 hca0 heq
    ·replace heq:=bif_false hb5 heq
     refine Cf t1 hb5<|Ra 2 [1,1,1,1,0,1,0,0,1,1,0,0,1,1,0] [.c [1,1,1,1,0,1,0,0,1,1,0,0,1,1,1],.b 1,.c [1,1,1,1,0,1,0,0,1,1,1],.l [1,1,1,1,0,1,0,0],.b 0,.c [1,1,1,1,1]]<|Rd 3 [0,1,4,7,8,10,21,22,23] [(0,.slice Aa0 a0.length ca0),(1,.string a1),(4,pg g1 0),(7,iv v_bad7),(8,iv (w64 (v_all8+1))),(10,pg g2 0),(21,.slice Aa0 a0.length ca0),(22,iv (a0.length:Int)),(23,iv v23)]<|Ra 1 [1,1,1,1,0,1,0,0,1,1,0,0,1,1,1,0] [.c [1,1,1,1,0,1,0,0,1,1,0,0,1,1,1,1],.b 1,.c [1,1,1,1,0,1,0,0,1,1,1],.l [1,1,1,1,0,1,0,0],.b 0,.c [1,1,1,1,1]]<|Rw' 3 [0,1,4,7,8,21,22,23,43] [.bool x1.Pass] [.load ⟨g2,3,none⟩ (.bool x1.Pass)] [(0,.slice Aa0 a0.length ca0),(1,.string a1),(4,pg g1 0),(7,iv v_bad7),(8,iv (w64 (v_all8+1))),(21,.slice Aa0 a0.length ca0),(22,iv (a0.length:Int)),(23,iv v23),(43,.bool (!x1.Pass))] (fun w hh=>(hh.box 0 rfl rfl)) ?_
     rcases bool_cases (!x1.Pass) with hb6 | hb6
     ·replace heq:=bif_true hb6 heq
      refine Ct (!x1.Pass) hb6<|Rr<|Rd 3 [0,1,4,7,8,21,22,23] [(0,.slice Aa0 a0.length ca0),(1,.string a1),(4,pg g1 0),(7,iv (w64 (v_bad7+1))),(8,iv (w64 (v_all8+1))),(21,.slice Aa0 a0.length ca0),(22,iv (a0.length:Int)),(23,iv v23)]<|Ad 1 [.c [1,1,1,1,0,1,0,0,1,1,1],.l [1,1,1,1,0,1,0,0],.b 0,.c [1,1,1,1,1]]<|Kp [0,1,4,7,8,21,22,23] [(0,.slice Aa0 a0.length ca0),(1,.string a1),(4,pg g1 0),(7,iv (w64 (v_bad7+1))),(8,iv (w64 (v_all8+1))),(21,.slice Aa0 a0.length ca0),(22,iv (a0.length:Int)),(23,iv v23)] ?_
      refine RunH.pick 2 [1] (cs':=(some (g1,.cells #[iv 0,iv 0] 32 (0,0)))::F) (by kernel_rfl) rfl ?_
      exact (smithyardref10_Failing.j3_c (backl2:=(smithyardref10_Failing.l2 e1 k)) ihk) a0 _ _ a1 _ v23 (w64 (v_bad7+1)) (w64 (v_all8+1)) hra0 hca0 heq
     ·replace heq:=bif_false hb6 heq
      refine Cf (!x1.Pass) hb6<|Ad 2 [.c [1,1,1,1,0,1,0,0,1,1,1],.l [1,1,1,1,0,1,0,0],.b 0,.c [1,1,1,1,1]]<|Kp [0,1,4,7,8,21,22,23] [(0,.slice Aa0 a0.length ca0),(1,.string a1),(4,pg g1 0),(7,iv v_bad7),(8,iv (w64 (v_all8+1))),(21,.slice Aa0 a0.length ca0),(22,iv (a0.length:Int)),(23,iv v23)] ?_
      refine RunH.pick 2 [1] (cs':=(some (g1,.cells #[iv 0,iv 0] 32 (0,0)))::F) (by kernel_rfl) rfl ?_
      exact (smithyardref10_Failing.j3_c (backl2:=(smithyardref10_Failing.l2 e1 k)) ihk) a0 _ _ a1 _ v23 v_bad7 (w64 (v_all8+1)) hra0 hca0 heq
   replace heq:=ht1
   refine Rr<|Rv 5 [31,0,1,4,7,8,10,21,22,23] [.string x1.Test] [.load ⟨g2,0,none⟩ (.string x1.Test)] [(31,.bool (!sEq x1.Test a1)),(0,.slice Aa0 a0.length ca0),(1,.string a1),(4,pg g1 0),(7,iv v_bad7),(8,iv v_all8),(10,pg g2 0),(21,.slice Aa0 a0.length ca0),(22,iv (a0.length:Int)),(23,iv v23)] (fun w hh=>(hh.box 0 rfl rfl)) ?_
   rcases bool_cases (!sEq x1.Test a1) with hb4 | hb4
   ·replace heq:=bif_true hb4 heq
    refine RgH.val1 (v':=.bool true) (congrArg Value.bool hb4) ?_
    refine Rk 12 [0,1,4,7,8,10,21,22,23,38] [(0,.slice Aa0 a0.length ca0),(1,.string a1),(4,pg g1 0),(7,iv v_bad7),(8,iv v_all8),(10,pg g2 0),(21,.slice Aa0 a0.length ca0),(22,iv (a0.length:Int)),(23,iv v23),(38,.bool true)] ?_
    obtain rfl:=Option.some.inj heq
    refine Kg [0,1,4,7,8,10,21,22,23,38] [(0,.slice Aa0 a0.length ca0),(1,.string a1),(4,pg g1 0),(7,iv v_bad7),(8,iv v_all8),(10,pg g2 0),(21,.slice Aa0 a0.length ca0),(22,iv (a0.length:Int)),(23,iv v23),(38,.bool true)]<|Dn ?_
    exact K3
   ·replace heq:=bif_false hb4 heq
    refine RgH.val1 (v':=.bool false) (congrArg Value.bool hb4) ?_
    refine Rv 9 [0,1,4,7,8,10,21,22,23,31,32,33,35] [.string x1.Key] [.load ⟨g2,1,none⟩ (.string x1.Key)] [(0,.slice Aa0 a0.length ca0),(1,.string a1),(4,pg g1 0),(7,iv v_bad7),(8,iv v_all8),(10,pg g2 0),(21,.slice Aa0 a0.length ca0),(22,iv (a0.length:Int)),(23,iv v23),(31,.bool false),(32,.slice Aa0 a0.length ca0),(33,.string a1),(35,.string x1.Key)] (fun w hh=>(hh.box 0 rfl rfl)) ?_
    obtain ⟨y4,hy4,heq⟩:=bind_some heq
    refine RgH.does (DoesH.call (d:=36) (g:=18) (args:=#[.slice Aa0 a0.length ca0,.string a1,.string x1.Key]) (by kernel_rfl) (smithyardref10_verdict_c (a0:=a0) (a1:=a1) (a2:=x1.Key) (hra0.wk (fun _ h=>(.tail _ (.tail _ h)))) hca0 rfl hy4)) ?_
    rintro _ _ _ _ ⟨_,rfl,rfl,rfl,rfl⟩
    refine Rk 12 [0,1,4,7,8,10,21,22,23,38] [(0,.slice Aa0 a0.length ca0),(1,.string a1),(4,pg g1 0),(7,iv v_bad7),(8,iv v_all8),(10,pg g2 0),(21,.slice Aa0 a0.length ca0),(22,iv (a0.length:Int)),(23,iv v23),(38,.bool (y4 == 3))] ?_
    obtain rfl:=Option.some.inj heq
    refine Kg [0,1,4,7,8,10,21,22,23,38] [(0,.slice Aa0 a0.length ca0),(1,.string a1),(4,pg g1 0),(7,iv v_bad7),(8,iv v_all8),(10,pg g2 0),(21,.slice Aa0 a0.length ca0),(22,iv (a0.length:Int)),(23,iv v23),(38,.bool (y4 == 3))]<|Dn ?_
    exact K3
  ·replace heq:=bif_false hb3 heq
   refine Cf (decide (v23<(a0.length:Int))) hb3<|Ad 2 [.c [1,1,1,1,1,0],.c [1,1,1,1,1,1]]<|Kp [4,7,8] [(4,pg g1 0),(7,iv v_bad7),(8,iv v_all8)] ?_
   exact he1 _ v_bad7 v_all8 heq
theorem smithyardref10_Failing_c {w0:World} [GlobI 0 w0] {H:Hp} {F:List Ch} {a0:List TestRun} {Aa0:Option Addr} {na0:Nat} {ca0:Nat} {a1:ByteArray} {r:Part × Int} (hra0:Rw kTestRun H F Aa0 a0) (hca0:na0≤ca0) (hna0:na0=a0.length) (heq:smithyardref10_Failing.f a0 a1=some r):CallsH Tryd.prog 9 #[.slice Aa0 na0 ca0,.string a1] H w0 (F) (S9 F H r):=by
 refine calls_of_runH (F:=C9) Tryd.func9 (by kernel_rfl) Tryd.ntmps9 (args:=[.slice Aa0 na0 ca0,.string a1]) (by kernel_rfl) ?_
 subst hna0
 unfold smithyardref10_Failing.f at heq
 refine Ra 1 [0] [.c [1]] ?_
 refine RgH.does (DoesH.new (d:=4) (v:=fun g=>.pointer (some ⟨g,0,none⟩)) (o:=fun g=>.cells #[iv 0,iv 0] 32 (0,0)) (fun g=>by kernel_rfl)) ?_
 rintro _ _ _ _ ⟨g1,rfl,rfl,rfl⟩
 refine Rd 2 [0,1,4] [(0,.slice Aa0 a0.length ca0),(1,.string a1),(4,pg g1 0)]<|Ra 2 [1,0,0] [.c [1,0,1],.c [1,1]]<|Rk 1 [0,1,4,11] [(0,.slice Aa0 a0.length ca0),(1,.string a1),(4,pg g1 0),(11,.slice Aa0 a0.length ca0)] ?_
 obtain ⟨y1,hy1,heq⟩:=bind_some heq
 refine RgH.does (DoesH.call (d:=12) (g:=17) (args:=#[.slice Aa0 a0.length ca0]) (by kernel_rfl) (smithyardref10_CheckHistory_c (a0:=a0) (hra0.wk (fun _ h=>(.tail _ h))) hca0 rfl hy1)) ?_
 rintro _ _ _ _ ⟨_,rfl,rfl,rfl,rfl⟩
 refine Rd 3 [0,1,4,6] [(0,.slice Aa0 a0.length ca0),(1,.string a1),(4,pg g1 0),(6,iv y1)]<|Ra 1 [1,0,1,0] [.c [1,0,1,1],.c [1,1]]<|Rd 2 [0,1,4,6,14] [(0,.slice Aa0 a0.length ca0),(1,.string a1),(4,pg g1 0),(6,iv y1),(14,.bool (y1 != 0))] ?_
 rcases bool_cases (y1 != 0) with hb1 | hb1
 ·replace heq:=bif_true hb1 heq
  refine Ct (y1 != 0) hb1<|Ra 1 [1,0,1,1,0,0] [.c [1,0,1,1,0,1],.c [1,1]]<|Rk 2 [4,15,16] [(4,pg g1 0),(15,.agg #[iv 0,iv 0]),(16,iv y1)] ?_
  refine RgH.does (DoesH.store (k:=0) (g:=g1) (off:=0) (v:=.agg #[iv 0,iv 0]) (cells':=#[iv 0,iv 0]) (by kernel_rfl) rfl (by kernel_rfl) (by kernel_rfl)) ?_
  rintro _ _ _ _ ⟨rfl,rfl,rfl⟩
  refine Rd 4 [4,5] [(4,pg g1 0),(5,iv y1)] ?_
  obtain rfl:=Option.some.inj heq
  exact RunH.doneM' 1 (vs:=[.agg #[iv 0,iv 0],iv y1]) (v:=.tuple #[.agg #[iv 0,iv 0],iv y1]) (by kernel_rfl) Tryd.func9 (fun w hh=>show ResAll _ _ _ [.cell 4 32,.tmp 5] _ from ⟨⟨⟨g1,0,none⟩,by kernel_rfl,trS_run _ (vs:=[iv 0,iv 0]) (r:=[]) (es:=[.load ⟨g1,0,none⟩ (iv 0),.load ⟨g1,1,none⟩ (iv 0)]) (by kernel_rfl) ⟨(hh.box 0 rfl rfl),(hh.box 0 rfl rfl)⟩⟩,(show lk _ _=some _ by kernel_rfl),trivial⟩) rfl (cs':=F) rfl ⟨rfl,rfl,rfl⟩
 ·replace heq:=bif_false hb1 heq
  refine Cf (y1 != 0) hb1<|Ra 3 [1,1,0,0] [.c [1,1,0,1],.c [1,1,1]]<|Rk 1 [0,1,4,17] [(0,.slice Aa0 a0.length ca0),(1,.string a1),(4,pg g1 0),(17,.string a1)] ?_
  obtain ⟨y2,hy2,heq⟩:=bind_some heq
  refine RgH.does (DoesH.call (d:=18) (g:=23) (args:=#[.string a1]) (by kernel_rfl) (smithyardref10_isPath_c (a0:=a1)  hy2)) ?_
  rintro _ _ _ _ ⟨_,rfl,rfl,rfl,rfl⟩
  refine Rd 3 [0,1,4,19] [(0,.slice Aa0 a0.length ca0),(1,.string a1),(4,pg g1 0),(19,.bool (!y2))] ?_
  rcases bool_cases (!y2) with hb2 | hb2
  ·replace heq:=bif_true hb2 heq
   refine Ct (!y2) hb2<|Ra 1 [1,1,0,1,0,0] [.c [1,1,0,1,0,1],.c [1,1,1]]<|Rk 1 [4,20] [(4,pg g1 0),(20,.agg #[iv 0,iv 0])] ?_
   refine RgH.does (DoesH.store (k:=0) (g:=g1) (off:=0) (v:=.agg #[iv 0,iv 0]) (cells':=#[iv 0,iv 0]) (by kernel_rfl) rfl (by kernel_rfl) (by kernel_rfl)) ?_
   rintro _ _ _ _ ⟨rfl,rfl,rfl⟩
   refine Rd 3 [4,5] [(4,pg g1 0),(5,iv 5)] ?_
   obtain rfl:=Option.some.inj heq
   exact RunH.doneM' 1 (vs:=[.agg #[iv 0,iv 0],iv 5]) (v:=.tuple #[.agg #[iv 0,iv 0],iv 5]) (by kernel_rfl) Tryd.func9 (fun w hh=>show ResAll _ _ _ [.cell 4 32,.tmp 5] _ from ⟨⟨⟨g1,0,none⟩,by kernel_rfl,trS_run _ (vs:=[iv 0,iv 0]) (r:=[]) (es:=[.load ⟨g1,0,none⟩ (iv 0),.load ⟨g1,1,none⟩ (iv 0)]) (by kernel_rfl) ⟨(hh.box 0 rfl rfl),(hh.box 0 rfl rfl)⟩⟩,(show lk _ _=some _ by kernel_rfl),trivial⟩) rfl (cs':=F) rfl ⟨rfl,rfl,rfl⟩
  ·replace heq:=bif_false hb2 heq
   refine Cf (!y2) hb2<|Ra 2 [1,1,1,0] [.c [1,1,1,1]]<|Rd 2 [0,1,4,7,8] [(0,.slice Aa0 a0.length ca0),(1,.string a1),(4,pg g1 0),(7,iv 0),(8,iv 0)]<|Ra 2 [1,1,1,1,0,0] [.c [1,1,1,1,0,1],.c [1,1,1,1,1]]<|Rd 3 [0,1,4,7,8,21,22,23] [(0,.slice Aa0 a0.length ca0),(1,.string a1),(4,pg g1 0),(7,iv 0),(8,iv 0),(21,.slice Aa0 a0.length ca0),(22,iv (a0.length:Int)),(23,iv 0)]<|Ad 2 [.c [1,1,1,1,0,1,0,0],.l [1,1,1,1,0,1,0,0],.b 0,.c [1,1,1,1,1]]<|Kp [0,1,4,7,8,21,22,23] [(0,.slice Aa0 a0.length ca0),(1,.string a1),(4,pg g1 0),(7,iv 0),(8,iv 0),(21,.slice Aa0 a0.length ca0),(22,iv (a0.length:Int)),(23,iv 0)] ?_
   exact ((smithyardref10_Failing.l2_c (e1:=smithyardref10_Failing.e1) (smithyardref10_Failing.e1_c)) big) a0 _ _ a1 _ 0 0 0 hra0 hca0 heq
noncomputable def C10:Ctx:={ P:=Tryd.prog,f:=10,N:=26,c:=bodyOf Tryd.f10 }
def S10 (F:List Ch) (H0:Hp) (r:Bool) (v:Value) (H:Hp) (cs:List Ch):Prop:=H0=H∧v=.bool r∧F=cs
theorem slices_Equal_TestRun.e1_c {w0:World} [GlobI 0 w0] {H:Hp} {F:List Ch} {r:Bool}:slices_Equal_TestRun.e1=some r→RunH C10 (S10 F H r) H w0 [.c [1,1,1,0],.c [1,1,1,1]] [] H (F):=by
 intro   heq
 unfold slices_Equal_TestRun.e1 at heq
 refine Rr<|Rd 1 [4] [(4,.bool true)] ?_
 obtain rfl:=Option.some.inj heq
 exact RunH.done (by kernel_rfl) Tryd.func10 (v:=.bool true) (by kernel_rfl) ⟨rfl,rfl,rfl⟩
theorem slices_Equal_TestRun.l2_c {w0:World} [GlobI 0 w0] {H:Hp} {F:List Ch} {r:Bool} (e1:Option Bool)
  (he1:e1=some r→RunH C10 (S10 F H r) H w0 [.c [1,1,1,0],.c [1,1,1,1]] [] H (F)):∀ (k:Nat),∀ (a0:List TestRun) (Aa0:Option Addr) (ca0:Nat) (a1:List TestRun) (Aa1:Option Addr) (ca1:Nat) (v13:Int) ,Rw kTestRun H F Aa0 a0→a0.length≤ca0→Rw kTestRun H F Aa1 a1→a1.length≤ca1→slices_Equal_TestRun.l2 e1 k a0 a1 v13=some r→RunH C10 (S10 F H r) H w0 [.c [1,1,0,1,0,0],.l [1,1,0,1,0,0],.b 0,.c [1,1,1]] [(0,.slice Aa0 a0.length ca0),(1,.slice Aa1 a1.length ca1),(12,iv (a0.length:Int)),(13,iv v13)] H (F):=by
 intro k
 induction k with
 | zero=>intro a0 Aa0 ca0 a1 Aa1 ca1 v13 hra0 hca0 hra1 hca1 heq; exact nomatch (show (none:Option Bool)=some r from heq)
 | succ k ihk =>
  intro a0 Aa0 ca0 a1 Aa1 ca1 v13 hra0 hca0 hra1 hca1 heq
  rw [slices_Equal_TestRun.l2] at heq
  refine Ra 1 [1,1,0,1,0,0,0] [.c [1,1,0,1,0,0,1],.l [1,1,0,1,0,0],.b 0,.c [1,1,1]]<|Rd 1 [0,1,12,13,14] [(0,.slice Aa0 a0.length ca0),(1,.slice Aa1 a1.length ca1),(12,iv (a0.length:Int)),(13,iv v13),(14,.bool (decide (v13<(a0.length:Int))))]<|Ad 1 [.c [1,1,0,1,0,0,1,0],.c [1,1,0,1,0,0,1,1],.l [1,1,0,1,0,0],.b 0,.c [1,1,1]] ?_
  rcases bool_cases (decide (v13<(a0.length:Int))) with hb2 | hb2
  ·replace heq:=bif_true hb2 heq
   refine Ct (decide (v13<(a0.length:Int))) hb2<|Ra 4 [1,1,0,1,0,0,1,1,0,0,0] [.c [1,1,0,1,0,0,1,1,0,0,1],.b 1,.c [1,1,0,1,0,0,1,1,1],.l [1,1,0,1,0,0],.b 0,.c [1,1,1]]<|Rd 2 [0,1,5,12,13] [(0,.slice Aa0 a0.length ca0),(1,.slice Aa1 a1.length ca1),(5,iv v13),(12,iv (a0.length:Int)),(13,iv v13)]<|Ad 1 [.c [1,1,0,1,0,0,1,1,0,0,1,0],.c [1,1,0,1,0,0,1,1,0,0,1,1],.b 1,.c [1,1,0,1,0,0,1,1,1],.l [1,1,0,1,0,0],.b 0,.c [1,1,1]]<|Kp [0,1,5,12,13] [(0,.slice Aa0 a0.length ca0),(1,.slice Aa1 a1.length ca1),(5,iv v13),(12,iv (a0.length:Int)),(13,iv v13)] ?_
   refine RunH.draw (fun w=>Heap H w0 w (F)) (fun w=>Heap H w0 w (F)) [3,3,3,3,3,3,3,3,3] (n:=9) (ls:=[false,false,false,false,false,false,false,false,false]) (by kernel_rfl) (by kernel_rfl) (by kernel_rfl) rfl ?_
   obtain ⟨x1,hx1,heq⟩:=bind_some heq
   obtain ⟨ha1,cs1,hK1,hcc1⟩:=hra0.get hx1
   obtain ⟨rfl⟩:=kTestRun_open hK1
   obtain ⟨x2,hx2,heq⟩:=bind_some heq
   obtain ⟨ha2,cs2,hK2,hcc2⟩:=hra1.get hx2
   obtain ⟨rfl⟩:=kTestRun_open hK2
   refine Dk [0,1,2,3,4,5,6,7,8] 0 (nb 9 511) [.string x1.Test,.string x1.Key,iv x1.At,.bool x1.Pass,iv x1.Seconds,.string x2.Test,.string x2.Key,iv x2.At,.bool x2.Pass,iv x2.Seconds] [.need (Aa0=some (adr Aa0)∧(0:Int)≤v13∧v13<((a0.length:Nat):Int)),.load (((adr Aa0).add (v13.toNat*5)).add 0) (.string x1.Test),.load (((adr Aa0).add (v13.toNat*5)).add 1) (.string x1.Key),.load (((adr Aa0).add (v13.toNat*5)).add 2) (iv x1.At),.load (((adr Aa0).add (v13.toNat*5)).add 3) (.bool x1.Pass),.load (((adr Aa0).add (v13.toNat*5)).add 4) (iv x1.Seconds),.need (Aa1=some (adr Aa1)∧(0:Int)≤v13∧v13<((a1.length:Nat):Int)),.load (((adr Aa1).add (v13.toNat*5)).add 0) (.string x2.Test),.load (((adr Aa1).add (v13.toNat*5)).add 1) (.string x2.Key),.load (((adr Aa1).add (v13.toNat*5)).add 2) (iv x2.At),.load (((adr Aa1).add (v13.toNat*5)).add 3) (.bool x2.Pass),.load (((adr Aa1).add (v13.toNat*5)).add 4) (iv x2.Seconds)] [0,1,12,13,24] [(0,.slice Aa0 a0.length ca0),(1,.slice Aa1 a1.length ca1),(12,iv (a0.length:Int)),(13,iv v13),(24,.bool (!(sEq x1.Test x2.Test&&(sEq x1.Key x2.Key&&(x1.At == x2.At&&(x1.Pass == x2.Pass&&(x1.Seconds == x2.Seconds&&true)))))))] (Pk 0 []) (Pk 0 []) (fun w hh=>⟨⟨ha1,(at?_some hx1).1,(at?_some hx1).2.1⟩,(hcc1 _ _ (hh.drop 0) 0 _ rfl),(hcc1 _ _ (hh.drop 0) 1 _ rfl),(hcc1 _ _ (hh.drop 0) 2 _ rfl),(hcc1 _ _ (hh.drop 0) 3 _ rfl),(hcc1 _ _ (hh.drop 0) 4 _ rfl),⟨ha2,(at?_some hx2).1,(at?_some hx2).2.1⟩,(hcc2 _ _ (hh.drop 0) 0 _ rfl),(hcc2 _ _ (hh.drop 0) 1 _ rfl),(hcc2 _ _ (hh.drop 0) 2 _ rfl),(hcc2 _ _ (hh.drop 0) 3 _ rfl),(hcc2 _ _ (hh.drop 0) 4 _ rfl)⟩) ?_
   refine DrH.done (by kernel_rfl) ?_
   rcases bool_cases (!(sEq x1.Test x2.Test&&(sEq x1.Key x2.Key&&(x1.At == x2.At&&(x1.Pass == x2.Pass&&(x1.Seconds == x2.Seconds&&true)))))) with hb3 | hb3
   ·replace heq:=bif_true hb3 heq
    refine Ct (!(sEq x1.Test x2.Test&&(sEq x1.Key x2.Key&&(x1.At == x2.At&&(x1.Pass == x2.Pass&&(x1.Seconds == x2.Seconds&&true)))))) hb3<|Ra 1 [1,1,0,1,0,0,1,1,0,0,1,1,0,0] [.c [1,1,0,1,0,0,1,1,0,0,1,1,0,1],.b 1,.c [1,1,0,1,0,0,1,1,1],.l [1,1,0,1,0,0],.b 0,.c [1,1,1]]<|Rd 1 [4] [(4,.bool false)] ?_
    obtain rfl:=Option.some.inj heq
    exact RunH.done (by kernel_rfl) Tryd.func10 (v:=.bool false) (by kernel_rfl) ⟨rfl,rfl,rfl⟩
   ·replace heq:=bif_false hb3 heq
    refine Cf (!(sEq x1.Test x2.Test&&(sEq x1.Key x2.Key&&(x1.At == x2.At&&(x1.Pass == x2.Pass&&(x1.Seconds == x2.Seconds&&true)))))) hb3<|Ra 2 [1,1,0,1,0,0,1,1,1] [.l [1,1,0,1,0,0],.b 0,.c [1,1,1]]<|Rd 2 [0,1,12,13] [(0,.slice Aa0 a0.length ca0),(1,.slice Aa1 a1.length ca1),(12,iv (a0.length:Int)),(13,iv (w64 (v13+1)))]<|Ad 1 [.c [1,1,0,1,0,0],.l [1,1,0,1,0,0],.b 0,.c [1,1,1]]<|Kp [0,1,12,13] [(0,.slice Aa0 a0.length ca0),(1,.slice Aa1 a1.length ca1),(12,iv (a0.length:Int)),(13,iv (w64 (v13+1)))] ?_
    exact ihk a0 _ _ a1 _ _ (w64 (v13+1)) hra0 hca0 hra1 hca1 heq
  ·replace heq:=bif_false hb2 heq
   refine Cf (decide (v13<(a0.length:Int))) hb2<|Ad 2 [.c [1,1,1,0],.c [1,1,1,1]]<|Kp [] [] ?_
   exact he1 heq
theorem slices_Equal_TestRun_c {w0:World} [GlobI 0 w0] {H:Hp} {F:List Ch} {a0:List TestRun} {Aa0:Option Addr} {na0:Nat} {ca0:Nat} {a1:List TestRun} {Aa1:Option Addr} {na1:Nat} {ca1:Nat} {r:Bool} (hra0:Rw kTestRun H F Aa0 a0) (hca0:na0≤ca0) (hna0:na0=a0.length) (hra1:Rw kTestRun H F Aa1 a1) (hca1:na1≤ca1) (hna1:na1=a1.length) (heq:slices_Equal_TestRun.f a0 a1=some r):CallsH Tryd.prog 10 #[.slice Aa0 na0 ca0,.slice Aa1 na1 ca1] H w0 (F) (S10 F H r):=by
 refine calls_of_runH (F:=C10) Tryd.func10 (by kernel_rfl) Tryd.ntmps10 (args:=[.slice Aa0 na0 ca0,.slice Aa1 na1 ca1]) (by kernel_rfl) ?_
 subst hna0
 subst hna1
 unfold slices_Equal_TestRun.f at heq
 refine Ra 1 [0] [.c [1]]<|Rd 1 [0,1] [(0,.slice Aa0 a0.length ca0),(1,.slice Aa1 a1.length ca1)]<|Ra 2 [1,0,0] [.c [1,0,1],.c [1,1]]<|Rd 5 [0,1,10] [(0,.slice Aa0 a0.length ca0),(1,.slice Aa1 a1.length ca1),(10,.bool ((a0.length:Int) != (a1.length:Int)))] ?_
 rcases bool_cases ((a0.length:Int) != (a1.length:Int)) with hb1 | hb1
 ·replace heq:=bif_true hb1 heq
  refine Ct ((a0.length:Int) != (a1.length:Int)) hb1<|Ra 1 [1,0,1,0,0] [.c [1,0,1,0,1],.c [1,1]]<|Rd 1 [4] [(4,.bool false)] ?_
  obtain rfl:=Option.some.inj heq
  exact RunH.done (by kernel_rfl) Tryd.func10 (v:=.bool false) (by kernel_rfl) ⟨rfl,rfl,rfl⟩
 ·replace heq:=bif_false hb1 heq
  refine Cf ((a0.length:Int) != (a1.length:Int)) hb1<|Ra 3 [1,1,0,0] [.c [1,1,0,1],.c [1,1,1]]<|Rd 3 [0,1,12,13] [(0,.slice Aa0 a0.length ca0),(1,.slice Aa1 a1.length ca1),(12,iv (a0.length:Int)),(13,iv 0)]<|Ad 2 [.c [1,1,0,1,0,0],.l [1,1,0,1,0,0],.b 0,.c [1,1,1]]<|Kp [0,1,12,13] [(0,.slice Aa0 a0.length ca0),(1,.slice Aa1 a1.length ca1),(12,iv (a0.length:Int)),(13,iv 0)] ?_
  exact ((slices_Equal_TestRun.l2_c (e1:=slices_Equal_TestRun.e1) (slices_Equal_TestRun.e1_c)) big) a0 _ _ a1 _ _ 0 hra0 hca0 hra1 hca1 heq
noncomputable def C25:Ctx:={ P:=Tryd.prog,f:=25,N:=64,c:=bodyOf Tryd.f25 }
def S25 (F:List Ch) (H0:Hp) (r:Int × Int × Int) (v:Value) (H:Hp) (cs:List Ch):Prop:=H0=H∧v=.tuple #[iv r.1,iv r.2.1,iv r.2.2]∧F=cs
theorem trials_Tried.e1_c {w0:World} [GlobI 0 w0] {H:Hp} {F:List Ch} {r:Int × Int × Int}:∀ (a0:Int) ,trials_Tried.e1 a0=some r→RunH C25 (S25 F H r) H w0 [.c [1,1,1,1,1,0],.c [1,1,1,1,1,1]] [(0,iv a0)] H (F):=by
 intro a0  heq
 unfold trials_Tried.e1 at heq
 refine Rr<|Rd 4 [6,7,8] [(6,iv 3),(7,iv a0),(8,iv 0)] ?_
 obtain rfl:=Option.some.inj heq
 exact RunH.done (by kernel_rfl) Tryd.func25 (v:=.tuple #[iv 3,iv a0,iv 0]) (by kernel_rfl) ⟨rfl,rfl,rfl⟩
theorem trials_Tried.j3_c {w0:World} [GlobI 0 w0] {H:Hp} {F:List Ch} {r:Int × Int × Int} (backl2:Int→Int→(List Bool)→Int→Int→Option (Int × Int × Int))
  (hbackl2:∀ (a0:Int) (a1:Int) (a2:List Bool) (Aa2:Option Addr) (ca2:Nat) (v_passed9:Int) (v28:Int) ,Rw Kd.bool H F Aa2 a2→a2.length≤ca2→backl2 a0 a1 a2 v_passed9 v28=some r→RunH C25 (S25 F H r) H w0 [.c [1,1,1,1,0,1,0,0],.l [1,1,1,1,0,1,0,0],.b 0,.c [1,1,1,1,1]] [(0,iv a0),(1,iv a1),(9,iv v_passed9),(26,.slice Aa2 a2.length ca2),(27,iv (a2.length:Int)),(28,iv v28)] H (F)):∀ (a0:Int) (a1:Int) (a2:List Bool) (Aa2:Option Addr) (ca2:Nat) (v28:Int) (v_passed9:Int) ,Rw Kd.bool H F Aa2 a2→a2.length≤ca2→trials_Tried.j3 backl2 a0 a1 a2 v28 v_passed9=some r→RunH C25 (S25 F H r) H w0 [.c [1,1,1,1,0,1,0,0,1,1,0,0,1,1,0],.c [1,1,1,1,0,1,0,0,1,1,0,0,1,1,1],.b 1,.c [1,1,1,1,0,1,0,0,1,1,1],.l [1,1,1,1,0,1,0,0],.b 0,.c [1,1,1,1,1]] [(0,iv a0),(1,iv a1),(9,iv v_passed9),(10,iv v28),(26,.slice Aa2 a2.length ca2),(27,iv (a2.length:Int)),(28,iv v28)] H (F):=by
 intro a0 a1 a2 Aa2 ca2 v28 v_passed9 hra2 hca2 heq
 unfold trials_Tried.j3 at heq
 refine Rr<|Rd 3 [0,1,9,12,26,27,28] [(0,iv a0),(1,iv a1),(9,iv v_passed9),(12,iv (w64 (v28+1))),(26,.slice Aa2 a2.length ca2),(27,iv (a2.length:Int)),(28,iv v28)]<|Ad 2 [.c [1,1,1,1,0,1,0,0,1,1,0,0,1,1,1,0,0],.c [1,1,1,1,0,1,0,0,1,1,0,0,1,1,1,0,1],.b 2,.b 1,.c [1,1,1,1,0,1,0,0,1,1,1],.l [1,1,1,1,0,1,0,0],.b 0,.c [1,1,1,1,1]] ?_
 obtain ⟨t2,ht2,heq⟩:=bind_some heq
 have K2:RunH C25 (S25 F H r) H w0 [.c [1,1,1,1,0,1,0,0,1,1,0,0,1,1,1,0,1],.b 2,.b 1,.c [1,1,1,1,0,1,0,0,1,1,1],.l [1,1,1,1,0,1,0,0],.b 0,.c [1,1,1,1,1]] [(0,iv a0),(1,iv a1),(9,iv v_passed9),(12,iv (w64 (v28+1))),(26,.slice Aa2 a2.length ca2),(27,iv (a2.length:Int)),(28,iv v28),(38,.bool t2)] H (F):=by
  rcases bool_cases (t2) with hb6 | hb6
  ·replace heq:=bif_true hb6 heq
   refine Ct t2 hb6<|Ra 1 [1,1,1,1,0,1,0,0,1,1,0,0,1,1,1,0,1,0,0] [.c [1,1,1,1,0,1,0,0,1,1,0,0,1,1,1,0,1,0,1],.b 2,.b 1,.c [1,1,1,1,0,1,0,0,1,1,1],.l [1,1,1,1,0,1,0,0],.b 0,.c [1,1,1,1,1]]<|Rd 4 [6,7,8] [(6,iv 2),(7,iv (w64 (v28+1))),(8,iv 0)] ?_
   obtain rfl:=Option.some.inj heq
   exact RunH.done (by kernel_rfl) Tryd.func25 (v:=.tuple #[iv 2,iv (w64 (v28+1)),iv 0]) (by kernel_rfl) ⟨rfl,rfl,rfl⟩
  ·replace heq:=bif_false hb6 heq
   refine Cf t2 hb6<|Ra 1 [1,1,1,1,0,1,0,0,1,1,0,0,1,1,1,0,1,1,0] [.c [1,1,1,1,0,1,0,0,1,1,0,0,1,1,1,0,1,1,1],.b 2,.b 1,.c [1,1,1,1,0,1,0,0,1,1,1],.l [1,1,1,1,0,1,0,0],.b 0,.c [1,1,1,1,1]]<|Rd 4 [0,1,9,12,26,27,28,48] [(0,iv a0),(1,iv a1),(9,iv v_passed9),(12,iv (w64 (v28+1))),(26,.slice Aa2 a2.length ca2),(27,iv (a2.length:Int)),(28,iv v28),(48,.bool (v_passed9 == a1))] ?_
   rcases bool_cases (v_passed9 == a1) with hb7 | hb7
   ·replace heq:=bif_true hb7 heq
    refine Ct (v_passed9 == a1) hb7<|Ra 1 [1,1,1,1,0,1,0,0,1,1,0,0,1,1,1,0,1,1,1,0,0] [.c [1,1,1,1,0,1,0,0,1,1,0,0,1,1,1,0,1,1,1,0,1],.b 2,.b 1,.c [1,1,1,1,0,1,0,0,1,1,1],.l [1,1,1,1,0,1,0,0],.b 0,.c [1,1,1,1,1]]<|Rd 4 [6,7,8] [(6,iv 4),(7,iv (w64 (v28+1))),(8,iv 0)] ?_
    obtain rfl:=Option.some.inj heq
    exact RunH.done (by kernel_rfl) Tryd.func25 (v:=.tuple #[iv 4,iv (w64 (v28+1)),iv 0]) (by kernel_rfl) ⟨rfl,rfl,rfl⟩
   ·replace heq:=bif_false hb7 heq
    refine Cf (v_passed9 == a1) hb7<|Ra 1 [1,1,1,1,0,1,0,0,1,1,0,0,1,1,1,0,1,1,1,1,0] [.c [1,1,1,1,0,1,0,0,1,1,0,0,1,1,1,0,1,1,1,1,1],.b 2,.b 1,.c [1,1,1,1,0,1,0,0,1,1,1],.l [1,1,1,1,0,1,0,0],.b 0,.c [1,1,1,1,1]]<|Rd 8 [0,1,9,12,26,27,28,53] [(0,iv a0),(1,iv a1),(9,iv v_passed9),(12,iv (w64 (v28+1))),(26,.slice Aa2 a2.length ca2),(27,iv (a2.length:Int)),(28,iv v28),(53,.bool (decide ((w64 ((w64 (v_passed9+a0)) - (w64 (v28+1))))<a1)))] ?_
    rcases bool_cases (decide ((w64 ((w64 (v_passed9+a0)) - (w64 (v28+1))))<a1)) with hb8 | hb8
    ·replace heq:=bif_true hb8 heq
     refine Ct (decide ((w64 ((w64 (v_passed9+a0)) - (w64 (v28+1))))<a1)) hb8<|Ra 1 [1,1,1,1,0,1,0,0,1,1,0,0,1,1,1,0,1,1,1,1,1,0,0] [.c [1,1,1,1,0,1,0,0,1,1,0,0,1,1,1,0,1,1,1,1,1,0,1],.b 2,.b 1,.c [1,1,1,1,0,1,0,0,1,1,1],.l [1,1,1,1,0,1,0,0],.b 0,.c [1,1,1,1,1]]<|Rd 4 [6,7,8] [(6,iv 3),(7,iv (w64 (v28+1))),(8,iv 0)] ?_
     obtain rfl:=Option.some.inj heq
     exact RunH.done (by kernel_rfl) Tryd.func25 (v:=.tuple #[iv 3,iv (w64 (v28+1)),iv 0]) (by kernel_rfl) ⟨rfl,rfl,rfl⟩
    ·replace heq:=bif_false hb8 heq
     refine Cf (decide ((w64 ((w64 (v_passed9+a0)) - (w64 (v28+1))))<a1)) hb8<|Ra 3 [1,1,1,1,0,1,0,0,1,1,1] [.l [1,1,1,1,0,1,0,0],.b 0,.c [1,1,1,1,1]]<|Rd 2 [0,1,9,26,27,28] [(0,iv a0),(1,iv a1),(9,iv v_passed9),(26,.slice Aa2 a2.length ca2),(27,iv (a2.length:Int)),(28,iv (w64 (v28+1)))]<|Ad 1 [.c [1,1,1,1,0,1,0,0],.l [1,1,1,1,0,1,0,0],.b 0,.c [1,1,1,1,1]]<|Kp [0,1,9,26,27,28] [(0,iv a0),(1,iv a1),(9,iv v_passed9),(26,.slice Aa2 a2.length ca2),(27,iv (a2.length:Int)),(28,iv (w64 (v28+1)))] ?_
     exact hbackl2 a0 a1 a2 _ _ v_passed9 (w64 (v28+1)) hra2 hca2 heq
 replace heq:=ht2
 refine Rr<|Rk 4 [42,0,1,9,12,26,27,28] [(42,.bool (v_passed9 == a1)),(0,iv a0),(1,iv a1),(9,iv v_passed9),(12,iv (w64 (v28+1))),(26,.slice Aa2 a2.length ca2),(27,iv (a2.length:Int)),(28,iv v28)] ?_
 rcases bool_cases (v_passed9 == a1) with hb5 | hb5
 ·replace heq:=bif_true hb5 heq
  refine RgH.val1 (v':=.bool true) (congrArg Value.bool hb5) ?_
  refine Rk 9 [0,1,9,12,26,27,28,38] [(0,iv a0),(1,iv a1),(9,iv v_passed9),(12,iv (w64 (v28+1))),(26,.slice Aa2 a2.length ca2),(27,iv (a2.length:Int)),(28,iv v28),(38,.bool ((w64 (v28+1)) == a1))] ?_
  obtain rfl:=Option.some.inj heq
  refine Kg [0,1,9,12,26,27,28,38] [(0,iv a0),(1,iv a1),(9,iv v_passed9),(12,iv (w64 (v28+1))),(26,.slice Aa2 a2.length ca2),(27,iv (a2.length:Int)),(28,iv v28),(38,.bool ((w64 (v28+1)) == a1))]<|Dn ?_
  exact K2
 ·replace heq:=bif_false hb5 heq
  refine RgH.val1 (v':=.bool false) (congrArg Value.bool hb5) ?_
  refine Rk 9 [0,1,9,12,26,27,28,38] [(0,iv a0),(1,iv a1),(9,iv v_passed9),(12,iv (w64 (v28+1))),(26,.slice Aa2 a2.length ca2),(27,iv (a2.length:Int)),(28,iv v28),(38,.bool false)] ?_
  obtain rfl:=Option.some.inj heq
  refine Kg [0,1,9,12,26,27,28,38] [(0,iv a0),(1,iv a1),(9,iv v_passed9),(12,iv (w64 (v28+1))),(26,.slice Aa2 a2.length ca2),(27,iv (a2.length:Int)),(28,iv v28),(38,.bool false)]<|Dn ?_
  exact K2
theorem trials_Tried.l2_c {w0:World} [GlobI 0 w0] {H:Hp} {F:List Ch} {r:Int × Int × Int} (e1:Int→Option (Int × Int × Int))
  (he1:∀ (a0:Int) ,e1 a0=some r→RunH C25 (S25 F H r) H w0 [.c [1,1,1,1,1,0],.c [1,1,1,1,1,1]] [(0,iv a0)] H (F)):∀ (k:Nat),∀ (a0:Int) (a1:Int) (a2:List Bool) (Aa2:Option Addr) (ca2:Nat) (v_passed9:Int) (v28:Int) ,Rw Kd.bool H F Aa2 a2→a2.length≤ca2→trials_Tried.l2 e1 k a0 a1 a2 v_passed9 v28=some r→RunH C25 (S25 F H r) H w0 [.c [1,1,1,1,0,1,0,0],.l [1,1,1,1,0,1,0,0],.b 0,.c [1,1,1,1,1]] [(0,iv a0),(1,iv a1),(9,iv v_passed9),(26,.slice Aa2 a2.length ca2),(27,iv (a2.length:Int)),(28,iv v28)] H (F):=by
 intro k
 induction k with
 | zero=>intro a0 a1 a2 Aa2 ca2 v_passed9 v28 hra2 hca2 heq; exact nomatch (show (none:Option (Int × Int × Int))=some r from heq)
 | succ k ihk =>
  intro a0 a1 a2 Aa2 ca2 v_passed9 v28 hra2 hca2 heq
  rw [trials_Tried.l2] at heq
  refine Ra 1 [1,1,1,1,0,1,0,0,0] [.c [1,1,1,1,0,1,0,0,1],.l [1,1,1,1,0,1,0,0],.b 0,.c [1,1,1,1,1]]<|Rd 1 [0,1,9,26,27,28,29] [(0,iv a0),(1,iv a1),(9,iv v_passed9),(26,.slice Aa2 a2.length ca2),(27,iv (a2.length:Int)),(28,iv v28),(29,.bool (decide (v28<(a2.length:Int))))]<|Ad 1 [.c [1,1,1,1,0,1,0,0,1,0],.c [1,1,1,1,0,1,0,0,1,1],.l [1,1,1,1,0,1,0,0],.b 0,.c [1,1,1,1,1]] ?_
  rcases bool_cases (decide (v28<(a2.length:Int))) with hb4 | hb4
  ·replace heq:=bif_true hb4 heq
   refine Ct (decide (v28<(a2.length:Int))) hb4<|Ra 4 [1,1,1,1,0,1,0,0,1,1,0,0,0] [.c [1,1,1,1,0,1,0,0,1,1,0,0,1],.b 1,.c [1,1,1,1,0,1,0,0,1,1,1],.l [1,1,1,1,0,1,0,0],.b 0,.c [1,1,1,1,1]] ?_
   obtain ⟨x1,hx1,heq⟩:=bind_some heq
   obtain ⟨ha1,cs1,hK1,hcc1⟩:=hra2.get hx1
   obtain rfl:cs1=[.bool x1]:=hK1
   refine Rw' 5 [0,1,9,10,11,26,27,28] [.bool x1] [.need (Aa2=some (adr Aa2)∧(0:Int)≤v28∧v28<((a2.length:Nat):Int)),.load ((adr Aa2).add (v28.toNat*1)) (.bool x1)] [(0,iv a0),(1,iv a1),(9,iv v_passed9),(10,iv v28),(11,.bool x1),(26,.slice Aa2 a2.length ca2),(27,iv (a2.length:Int)),(28,iv v28)] (fun w hh=>⟨⟨ha1,(at?_some hx1).1,(at?_some hx1).2.1⟩,(hcc1 _ _ (hh.drop 0) 0 _ rfl)⟩)<|Ra 2 [1,1,1,1,0,1,0,0,1,1,0,0,1,0,0] [.c [1,1,1,1,0,1,0,0,1,1,0,0,1,0,1],.c [1,1,1,1,0,1,0,0,1,1,0,0,1,1],.b 1,.c [1,1,1,1,0,1,0,0,1,1,1],.l [1,1,1,1,0,1,0,0],.b 0,.c [1,1,1,1,1]]<|Rd 1 [0,1,9,10,26,27,28,33] [(0,iv a0),(1,iv a1),(9,iv v_passed9),(10,iv v28),(26,.slice Aa2 a2.length ca2),(27,iv (a2.length:Int)),(28,iv v28),(33,.bool x1)] ?_
   rcases bool_cases (x1) with hb9 | hb9
   ·replace heq:=bif_true hb9 heq
    refine Ct x1 hb9<|Rr<|Rd 3 [0,1,9,10,26,27,28] [(0,iv a0),(1,iv a1),(9,iv (w64 (v_passed9+1))),(10,iv v28),(26,.slice Aa2 a2.length ca2),(27,iv (a2.length:Int)),(28,iv v28)]<|Ad 1 [.c [1,1,1,1,0,1,0,0,1,1,0,0,1,1,0],.c [1,1,1,1,0,1,0,0,1,1,0,0,1,1,1],.b 1,.c [1,1,1,1,0,1,0,0,1,1,1],.l [1,1,1,1,0,1,0,0],.b 0,.c [1,1,1,1,1]]<|Kp [0,1,9,10,26,27,28] [(0,iv a0),(1,iv a1),(9,iv (w64 (v_passed9+1))),(10,iv v28),(26,.slice Aa2 a2.length ca2),(27,iv (a2.length:Int)),(28,iv v28)] ?_
    exact (trials_Tried.j3_c (backl2:=(trials_Tried.l2 e1 k)) ihk) a0 a1 a2 _ _ v28 (w64 (v_passed9+1)) hra2 hca2 heq
   ·replace heq:=bif_false hb9 heq
    refine Cf x1 hb9<|Ad 2 [.c [1,1,1,1,0,1,0,0,1,1,0,0,1,1,0],.c [1,1,1,1,0,1,0,0,1,1,0,0,1,1,1],.b 1,.c [1,1,1,1,0,1,0,0,1,1,1],.l [1,1,1,1,0,1,0,0],.b 0,.c [1,1,1,1,1]]<|Kp [0,1,9,10,26,27,28] [(0,iv a0),(1,iv a1),(9,iv v_passed9),(10,iv v28),(26,.slice Aa2 a2.length ca2),(27,iv (a2.length:Int)),(28,iv v28)] ?_
    exact (trials_Tried.j3_c (backl2:=(trials_Tried.l2 e1 k)) ihk) a0 a1 a2 _ _ v28 v_passed9 hra2 hca2 heq
  ·replace heq:=bif_false hb4 heq
   refine Cf (decide (v28<(a2.length:Int))) hb4<|Ad 2 [.c [1,1,1,1,1,0],.c [1,1,1,1,1,1]]<|Kp [0] [(0,iv a0)] ?_
   exact he1 a0 heq
theorem trials_Tried_c {w0:World} [GlobI 0 w0] {H:Hp} {F:List Ch} {a0:Int} {a1:Int} {a2:List Bool} {Aa2:Option Addr} {na2:Nat} {ca2:Nat} {r:Int × Int × Int} (hra2:Rw Kd.bool H F Aa2 a2) (hca2:na2≤ca2) (hna2:na2=a2.length) (heq:trials_Tried.f a0 a1 a2=some r):CallsH Tryd.prog 25 #[iv a0,iv a1,.slice Aa2 na2 ca2] H w0 (F) (S25 F H r):=by
 refine calls_of_runH (F:=C25) Tryd.func25 (by kernel_rfl) Tryd.ntmps25 (args:=[iv a0,iv a1,.slice Aa2 na2 ca2]) (by kernel_rfl) ?_
 subst hna2
 unfold trials_Tried.f at heq
 refine Ra 1 [0] [.c [1]]<|Rd 3 [0,1,2] [(0,iv a0),(1,iv a1),(2,.slice Aa2 a2.length ca2)]<|Ad 2 [.c [1,0,0],.c [1,0,1],.c [1,1]] ?_
 obtain ⟨t1,ht1,heq⟩:=bind_some heq
 have K1:RunH C25 (S25 F H r) H w0 [.c [1,0,1],.c [1,1]] [(0,iv a0),(1,iv a1),(2,.slice Aa2 a2.length ca2),(21,.bool t1)] H (F):=by
  rcases bool_cases (t1) with hb2 | hb2
  ·replace heq:=bif_true hb2 heq
   refine Ct t1 hb2<|Ra 1 [1,0,1,0,0] [.c [1,0,1,0,1],.c [1,1]]<|Rd 3 [6,7,8] [(6,iv 0),(7,iv 0),(8,iv 1)] ?_
   obtain rfl:=Option.some.inj heq
   exact RunH.done (by kernel_rfl) Tryd.func25 (v:=.tuple #[iv 0,iv 0,iv 1]) (by kernel_rfl) ⟨rfl,rfl,rfl⟩
  ·replace heq:=bif_false hb2 heq
   refine Cf t1 hb2<|Ra 3 [1,1,0,0] [.c [1,1,0,1],.c [1,1,1]]<|Rd 4 [0,1,2,25] [(0,iv a0),(1,iv a1),(2,.slice Aa2 a2.length ca2),(25,.bool ((a2.length:Int) != a0))] ?_
   rcases bool_cases ((a2.length:Int) != a0) with hb3 | hb3
   ·replace heq:=bif_true hb3 heq
    refine Ct ((a2.length:Int) != a0) hb3<|Ra 1 [1,1,0,1,0,0] [.c [1,1,0,1,0,1],.c [1,1,1]]<|Rd 3 [6,7,8] [(6,iv 0),(7,iv 0),(8,iv 3)] ?_
    obtain rfl:=Option.some.inj heq
    exact RunH.done (by kernel_rfl) Tryd.func25 (v:=.tuple #[iv 0,iv 0,iv 3]) (by kernel_rfl) ⟨rfl,rfl,rfl⟩
   ·replace heq:=bif_false hb3 heq
    refine Cf ((a2.length:Int) != a0) hb3<|Ra 2 [1,1,1,0] [.c [1,1,1,1]]<|Rd 1 [0,1,2,9] [(0,iv a0),(1,iv a1),(2,.slice Aa2 a2.length ca2),(9,iv 0)]<|Ra 2 [1,1,1,1,0,0] [.c [1,1,1,1,0,1],.c [1,1,1,1,1]]<|Rd 3 [0,1,9,26,27,28] [(0,iv a0),(1,iv a1),(9,iv 0),(26,.slice Aa2 a2.length ca2),(27,iv (a2.length:Int)),(28,iv 0)]<|Ad 2 [.c [1,1,1,1,0,1,0,0],.l [1,1,1,1,0,1,0,0],.b 0,.c [1,1,1,1,1]]<|Kp [0,1,9,26,27,28] [(0,iv a0),(1,iv a1),(9,iv 0),(26,.slice Aa2 a2.length ca2),(27,iv (a2.length:Int)),(28,iv 0)] ?_
    exact ((trials_Tried.l2_c (e1:=trials_Tried.e1) (trials_Tried.e1_c)) big) a0 a1 a2 _ _ 0 0 hra2 hca2 heq
 replace heq:=ht1
 refine Rr<|Rk 1 [0,1,2,13] [(0,iv a0),(1,iv a1),(2,.slice Aa2 a2.length ca2),(13,iv a0)] ?_
 obtain ⟨y1,hy1,heq⟩:=bind_some heq
 refine RgH.does (DoesH.call (d:=14) (g:=27) (args:=#[iv a0,iv 1,iv 100]) (by kernel_rfl) (trials_within_c (a0:=a0) (a1:=1) (a2:=100)  hy1)) ?_
 rintro _ _ _ _ ⟨_,rfl,rfl,rfl,rfl⟩
 refine Rk 4 [16,0,1,2] [(16,.bool (!y1)),(0,iv a0),(1,iv a1),(2,.slice Aa2 a2.length ca2)] ?_
 rcases bool_cases (!y1) with hb1 | hb1
 ·replace heq:=bif_true hb1 heq
  refine RgH.val1 (v':=.bool true) (congrArg Value.bool hb1) ?_
  refine Rk 9 [0,1,2,21] [(0,iv a0),(1,iv a1),(2,.slice Aa2 a2.length ca2),(21,.bool true)] ?_
  obtain rfl:=Option.some.inj heq
  refine Kg [0,1,2,21] [(0,iv a0),(1,iv a1),(2,.slice Aa2 a2.length ca2),(21,.bool true)]<|Dn ?_
  exact K1
 ·replace heq:=bif_false hb1 heq
  refine RgH.val1 (v':=.bool false) (congrArg Value.bool hb1) ?_
  refine Rk 6 [0,1,2,16,17,18] [(0,iv a0),(1,iv a1),(2,.slice Aa2 a2.length ca2),(16,.bool false),(17,iv a1),(18,iv a0)] ?_
  obtain ⟨y2,hy2,heq⟩:=bind_some heq
  refine RgH.does (DoesH.call (d:=19) (g:=27) (args:=#[iv a1,iv 1,iv a0]) (by kernel_rfl) (trials_within_c (a0:=a1) (a1:=1) (a2:=a0)  hy2)) ?_
  rintro _ _ _ _ ⟨_,rfl,rfl,rfl,rfl⟩
  refine Rk 9 [0,1,2,21] [(0,iv a0),(1,iv a1),(2,.slice Aa2 a2.length ca2),(21,.bool (!y2))] ?_
  obtain rfl:=Option.some.inj heq
  refine Kg [0,1,2,21] [(0,iv a0),(1,iv a1),(2,.slice Aa2 a2.length ca2),(21,.bool (!y2))]<|Dn ?_
  exact K1
noncomputable def C11:Ctx:={ P:=Tryd.prog,f:=11,N:=20,c:=bodyOf Tryd.f11 }
def S11 (F:List Ch) (H0:Hp) (r:Bool) (v:Value) (H:Hp) (cs:List Ch):Prop:=H0=H∧v=.bool r∧F=cs
theorem smithyardlaw10_awake_c {w0:World} [GlobI 0 w0] {H:Hp} {F:List Ch} {r:Bool} (heq:smithyardlaw10_awake.f=some r):CallsH Tryd.prog 11 (List.toArray []) H w0 (F) (S11 F H r):=by
 refine calls_of_runH (F:=C11) Tryd.func11 (by kernel_rfl) Tryd.ntmps11 (args:=[]) (by kernel_rfl) ?_
 unfold smithyardlaw10_awake.f at heq
 refine Ra 1 [0] [.c [1]]<|Rd 1 [] []<|Ra 1 [1,0] [.c [1,1]] ?_
 refine RgH.does (DoesH.new (d:=5) (v:=fun g=>.slice (some ⟨g,0,none⟩) 3 3) (o:=fun g=>.cells #[.bool false,.bool true,.bool true] 4 (0,0)) (fun g=>by kernel_rfl)) ?_
 rintro _ _ _ _ ⟨g1,rfl,rfl,rfl⟩
 have ho1:SlOwn Kd.bool 4 H (some ⟨g1,0,none⟩) 3 ([false,true,true]:List Bool) (some (g1,.cells #[.bool false,.bool true,.bool true] 4 (0,0))):=SlOwn.lit (xs:=([false,true,true]:List Bool)) (by kernel_rfl) (Nat.le_of_ble_eq_true (by kernel_rfl)) (Kd.Rep.scalars rfl)
 obtain ⟨y1,hy1,heq⟩:=bind_some heq
 refine RgH.does (DoesH.call (d:=6) (g:=25) (args:=#[iv 3,iv 1,.slice (some ⟨g1,0,none⟩) 3 3]) (by kernel_rfl) (trials_Tried_c (a0:=3) (a1:=1) (a2:=([false,true,true]:List Bool)) (ho1.rw (.head _)) ho1.cap rfl hy1)) ?_
 rintro _ _ _ _ ⟨_,rfl,rfl,rfl,rfl⟩
 refine Rd 9 [1,2,3] [(1,iv y1.1),(2,iv y1.2.1),(3,iv y1.2.2)]<|Ad 1 [.c [1,1,0],.c [1,1,1]] ?_
 obtain ⟨t1,ht1,heq⟩:=bind_some heq
 have K2:RunH C11 (S11 F H r) H w0 [.c [1,1,1]] [(0,.bool t1)] H (F):=by
  obtain rfl:=Option.some.inj heq
  exact RunH.done (by kernel_rfl) Tryd.func11 (v:=.bool t1) (by kernel_rfl) ⟨rfl,rfl,rfl⟩
 replace heq:=ht1
 refine Rr<|Rk 3 [12,1,2] [(12,.bool (y1.2.2 == 0)),(1,iv y1.1),(2,iv y1.2.1)] ?_
 rcases bool_cases (y1.2.2 == 0) with hb1 | hb1
 ·replace heq:=bif_true hb1 heq
  refine RgH.val1 (v':=.bool true) (congrArg Value.bool hb1) ?_
  refine Rk 7 [16,2] [(16,.bool (y1.1 == 4)),(2,iv y1.2.1)] ?_
  rcases bool_cases (y1.1 == 4) with hb2 | hb2
  ·replace heq:=bif_true hb2 heq
   refine RgH.val1 (v':=.bool true) (congrArg Value.bool hb2) ?_
   refine Rk 11 [0] [(0,.bool (y1.2.1 == 2))] ?_
   obtain rfl:=Option.some.inj heq
   refine Kg [0] [(0,.bool (y1.2.1 == 2))] ?_
   refine RgH.pick 1 [] (cs':=F) (by kernel_rfl) rfl ?_
   refine Dn ?_
   exact K2
  ·replace heq:=bif_false hb2 heq
   refine RgH.val1 (v':=.bool false) (congrArg Value.bool hb2) ?_
   refine Rk 11 [0] [(0,.bool false)] ?_
   obtain rfl:=Option.some.inj heq
   refine Kg [0] [(0,.bool false)] ?_
   refine RgH.pick 1 [] (cs':=F) (by kernel_rfl) rfl ?_
   refine Dn ?_
   exact K2
 ·replace heq:=bif_false hb1 heq
  refine RgH.val1 (v':=.bool false) (congrArg Value.bool hb1) ?_
  refine Rk 11 [0] [(0,.bool false)] ?_
  obtain rfl:=Option.some.inj heq
  refine Kg [0] [(0,.bool false)] ?_
  refine RgH.pick 1 [] (cs':=F) (by kernel_rfl) rfl ?_
  refine Dn ?_
  exact K2
noncomputable def C3:Ctx:={ P:=Tryd.prog,f:=3,N:=61,c:=bodyOf Tryd.f3 }
def S3 (F:List Ch) (H0:Hp) (r:Bool) (v:Value) (H:Hp) (cs:List Ch):Prop:=H0=H∧v=.bool r∧F=cs
theorem smithyardlaw10_TrialsFlakyMatchesSpec_c {w0:World} [GlobI 0 w0] {H:Hp} {F:List Ch} {a0:List TestRun} {Aa0:Option Addr} {na0:Nat} {ca0:Nat} {a1:ByteArray} {r:Bool} (hra0:Rw kTestRun H F Aa0 a0) (hca0:na0≤ca0) (hna0:na0=a0.length) (heq:smithyardlaw10_TrialsFlakyMatchesSpec.f a0 a1=some r):CallsH Tryd.prog 3 #[.slice Aa0 na0 ca0,.string a1] H w0 (F) (S3 F H r):=by
 refine calls_of_runH (F:=C3) Tryd.func3 (by kernel_rfl) Tryd.ntmps3 (args:=[.slice Aa0 na0 ca0,.string a1]) (by kernel_rfl) ?_
 subst hna0
 unfold smithyardlaw10_TrialsFlakyMatchesSpec.f at heq
 refine Ra 1 [0] [.c [1]]<|Rd 1 [0,1] [(0,.slice Aa0 a0.length ca0),(1,.string a1)]<|Ra 1 [1,0] [.c [1,1]]<|Rk 1 [0,1,12] [(0,.slice Aa0 a0.length ca0),(1,.string a1),(12,.slice Aa0 a0.length ca0)] ?_
 obtain ⟨y1,hy1,heq⟩:=bind_some heq
 refine RgH.does (DoesH.call (d:=13) (g:=4) (args:=#[.slice Aa0 a0.length ca0]) (by kernel_rfl) (slices_Clone_TestRun_c (a0:=a0) hra0 hca0 rfl hy1)) ?_
 rintro _ _ _ _ ⟨_,rfl,A1,c1,ch1,rfl,rfl,rfl,ho1⟩
 refine Rd 3 [0,1,5] [(0,.slice Aa0 a0.length ca0),(1,.string a1),(5,.slice A1 y1.length c1)]<|Ra 1 [1,1,0] [.c [1,1,1]]<|Rk 1 [0,1,5,15] [(0,.slice Aa0 a0.length ca0),(1,.string a1),(5,.slice A1 y1.length c1),(15,.slice Aa0 a0.length ca0)] ?_
 obtain ⟨y2,hy2,heq⟩:=bind_some heq
 refine RgH.does (DoesH.call (d:=16) (g:=5) (args:=#[.slice Aa0 a0.length ca0]) (by kernel_rfl) (trials_Flaky_c (a0:=a0) (hra0.wk (fun _ h=>(.tail _ h))) hca0 rfl hy2)) ?_
 rintro _ _ _ _ ⟨_,rfl,A2,c2,ch2,rfl,rfl,rfl,ho2⟩
 refine Rd 7 [0,1,5,6,7] [(0,.slice Aa0 a0.length ca0),(1,.string a1),(5,.slice A1 y1.length c1),(6,.slice A2 y2.1.length c2),(7,iv y2.2)]<|Ra 1 [1,1,1,0] [.c [1,1,1,1]]<|Rk 1 [0,1,5,6,7,20] [(0,.slice Aa0 a0.length ca0),(1,.string a1),(5,.slice A1 y1.length c1),(6,.slice A2 y2.1.length c2),(7,iv y2.2),(20,.slice A1 y1.length c1)] ?_
 obtain ⟨y3,hy3,heq⟩:=bind_some heq
 refine RgH.does (DoesH.call (d:=21) (g:=6) (args:=#[.slice A1 y1.length c1]) (by kernel_rfl) (smithyardref10_Flaky_c (a0:=y1) (ho1.rw (.tail _ (.head _))) ho1.cap rfl hy3)) ?_
 rintro _ _ _ _ ⟨_,rfl,A3,c3,ch3,rfl,rfl,rfl,ho3⟩
 refine Rd 7 [0,1,5,6,7,8,9] [(0,.slice Aa0 a0.length ca0),(1,.string a1),(5,.slice A1 y1.length c1),(6,.slice A2 y2.1.length c2),(7,iv y2.2),(8,.slice A3 y3.1.length c3),(9,iv y3.2)]<|Ad 2 [.c [1,1,1,1,0,0],.c [1,1,1,1,0,1],.c [1,1,1,1,1]] ?_
 obtain ⟨t1,ht1,heq⟩:=bind_some heq
 have K4:RunH C3 (S3 F H r) H w0 [.c [1,1,1,1,0,1],.c [1,1,1,1,1]] [(0,.slice Aa0 a0.length ca0),(1,.string a1),(5,.slice A1 y1.length c1),(32,.bool t1)] H (ch1::F):=by
  rcases bool_cases (t1) with hb2 | hb2
  ·replace heq:=bif_true hb2 heq
   refine Ct t1 hb2<|Ra 1 [1,1,1,1,0,1,0,0] [.c [1,1,1,1,0,1,0,1],.c [1,1,1,1,1]]<|Rd 1 [4] [(4,.bool false)] ?_
   obtain rfl:=Option.some.inj heq
   refine RunH.pick 1 [] (cs':=F) (by kernel_rfl) rfl ?_
   exact RunH.done (by kernel_rfl) Tryd.func3 (v:=.bool false) (by kernel_rfl) ⟨rfl,rfl,rfl⟩
  ·replace heq:=bif_false hb2 heq
   refine Cf t1 hb2<|Ra 2 [1,1,1,1,1,0] [.c [1,1,1,1,1,1]]<|Rk 2 [0,1,5,34,35] [(0,.slice Aa0 a0.length ca0),(1,.string a1),(5,.slice A1 y1.length c1),(34,.slice Aa0 a0.length ca0),(35,.string a1)] ?_
   obtain ⟨y5,hy5,heq⟩:=bind_some heq
   refine RgH.does (DoesH.call (d:=36) (g:=8) (args:=#[.slice Aa0 a0.length ca0,.string a1]) (by kernel_rfl) (trials_Failing_c (a0:=a0) (a1:=a1) (hra0.wk (fun _ h=>(.tail _ h))) hca0 rfl hy5)) ?_
   rintro _ _ _ _ ⟨_,rfl,rfl,rfl,rfl⟩
   refine Rk 6 [0,1,5,37,38] [(0,.slice Aa0 a0.length ca0),(1,.string a1),(5,.slice A1 y1.length c1),(37,.agg #[iv y5.1.Num,iv y5.1.Den]),(38,iv y5.2)] ?_
   refine RgH.does (DoesH.new (d:=10) (v:=fun g=>.pointer (some ⟨g,0,none⟩)) (o:=fun g=>.cells #[iv 0,iv 0] 32 (0,0)) (fun g=>by kernel_rfl)) ?_
   rintro _ _ _ _ ⟨g1,rfl,rfl,rfl⟩
   refine RgH.does (DoesH.store (k:=0) (g:=g1) (off:=0) (v:=.agg #[iv y5.1.Num,iv y5.1.Den]) (cells':=#[iv y5.1.Num,iv y5.1.Den]) (by kernel_rfl) rfl (by kernel_rfl) (by kernel_rfl)) ?_
   rintro _ _ _ _ ⟨rfl,rfl,rfl⟩
   refine Rd 9 [0,1,5,7,10] [(0,.slice Aa0 a0.length ca0),(1,.string a1),(5,.slice A1 y1.length c1),(7,iv y5.2),(10,pg g1 0)]<|Ra 1 [1,1,1,1,1,1,0] [.c [1,1,1,1,1,1,1]]<|Rk 2 [0,5,7,10,40,41] [(0,.slice Aa0 a0.length ca0),(5,.slice A1 y1.length c1),(7,iv y5.2),(10,pg g1 0),(40,.slice A1 y1.length c1),(41,.string a1)] ?_
   obtain ⟨y6,hy6,heq⟩:=bind_some heq
   refine RgH.does (DoesH.call (d:=42) (g:=9) (args:=#[.slice A1 y1.length c1,.string a1]) (by kernel_rfl) (smithyardref10_Failing_c (a0:=y1) (a1:=a1) (ho1.rw (.tail _ (.head _))) ho1.cap rfl hy6)) ?_
   rintro _ _ _ _ ⟨_,rfl,rfl,rfl,rfl⟩
   refine Rk 6 [0,5,7,10,43,44] [(0,.slice Aa0 a0.length ca0),(5,.slice A1 y1.length c1),(7,iv y5.2),(10,pg g1 0),(43,.agg #[iv y6.1.Num,iv y6.1.Den]),(44,iv y6.2)] ?_
   refine RgH.does (DoesH.new (d:=11) (v:=fun g=>.pointer (some ⟨g,0,none⟩)) (o:=fun g=>.cells #[iv 0,iv 0] 32 (0,0)) (fun g=>by kernel_rfl)) ?_
   rintro _ _ _ _ ⟨g2,rfl,rfl,rfl⟩
   refine RgH.does (DoesH.store (k:=0) (g:=g2) (off:=0) (v:=.agg #[iv y6.1.Num,iv y6.1.Den]) (cells':=#[iv y6.1.Num,iv y6.1.Den]) (by kernel_rfl) rfl (by kernel_rfl) (by kernel_rfl)) ?_
   rintro _ _ _ _ ⟨rfl,rfl,rfl⟩
   refine Rd 9 [0,5,7,9,10,11] [(0,.slice Aa0 a0.length ca0),(5,.slice A1 y1.length c1),(7,iv y5.2),(9,iv y6.2),(10,pg g1 0),(11,pg g2 0)]<|Ad 1 [.c [1,1,1,1,1,1,1,0],.c [1,1,1,1,1,1,1,1]] ?_
   obtain ⟨t2,ht2,heq⟩:=bind_some heq
   have K7:RunH C3 (S3 F H r) H w0 [.c [1,1,1,1,1,1,1,1]] [(4,.bool t2)] H (F):=by
    obtain rfl:=Option.some.inj heq
    exact RunH.done (by kernel_rfl) Tryd.func3 (v:=.bool t2) (by kernel_rfl) ⟨rfl,rfl,rfl⟩
   replace heq:=ht2
   refine Rr<|Rk 4 [48,0,5,10,11] [(48,.bool (y5.2 == y6.2)),(0,.slice Aa0 a0.length ca0),(5,.slice A1 y1.length c1),(10,pg g1 0),(11,pg g2 0)] ?_
   rcases bool_cases (y5.2 == y6.2) with hb3 | hb3
   ·replace heq:=bif_true hb3 heq
    refine RgH.val1 (v':=.bool true) (congrArg Value.bool hb3) ?_
    refine Rv 9 [53,0,5] [iv y5.1.Num,iv y5.1.Den,iv y6.1.Num,iv y6.1.Den] [.load ⟨g1,0,none⟩ (iv y5.1.Num),.load ⟨g1,1,none⟩ (iv y5.1.Den),.load ⟨g2,0,none⟩ (iv y6.1.Num),.load ⟨g2,1,none⟩ (iv y6.1.Den)] [(53,.bool (y5.1.Num == y6.1.Num&&(y5.1.Den == y6.1.Den&&true))),(0,.slice Aa0 a0.length ca0),(5,.slice A1 y1.length c1)] (fun w hh=>⟨(hh.box 1 rfl rfl),(hh.box 1 rfl rfl),(hh.box 0 rfl rfl),(hh.box 0 rfl rfl)⟩) ?_
    rcases bool_cases ((y5.1.Num == y6.1.Num&&(y5.1.Den == y6.1.Den&&true))) with hb4 | hb4
    ·replace heq:=bif_true hb4 heq
     refine RgH.val1 (v':=.bool true) (congrArg Value.bool hb4) ?_
     refine Rk 11 [53,54,55] [(53,.bool true),(54,.slice Aa0 a0.length ca0),(55,.slice A1 y1.length c1)] ?_
     obtain ⟨y7,hy7,heq⟩:=bind_some heq
     refine RgH.does (DoesH.call (d:=56) (g:=10) (args:=#[.slice Aa0 a0.length ca0,.slice A1 y1.length c1]) (by kernel_rfl) (slices_Equal_TestRun_c (a0:=a0) (a1:=y1) (hra0.wk (fun _ h=>(.tail _ (.tail _ (.tail _ h))))) hca0 rfl (ho1.rw (.tail _ (.tail _ (.head _)))) ho1.cap rfl hy7)) ?_
     rintro _ _ _ _ ⟨_,rfl,rfl,rfl,rfl⟩
     refine Rk 14 [58] [(58,.bool y7)] ?_
     rcases bool_cases (y7) with hb5 | hb5
     ·replace heq:=bif_true hb5 heq
      refine RgH.val1 (v':=.bool true) (congrArg Value.bool hb5) ?_
      obtain ⟨y8,hy8,heq⟩:=bind_some heq
      refine RgH.does (DoesH.call (d:=59) (g:=11) (args:=(List.toArray [])) (by kernel_rfl) (smithyardlaw10_awake_c  hy8)) ?_
      rintro _ _ _ _ ⟨_,rfl,rfl,rfl,rfl⟩
      refine Rk 17 [4] [(4,.bool y8)] ?_
      obtain rfl:=Option.some.inj heq
      refine Kg [4] [(4,.bool y8)] ?_
      refine RgH.pick 3 [] (cs':=F) (by kernel_rfl) rfl ?_
      refine Dn ?_
      exact K7
     ·replace heq:=bif_false hb5 heq
      refine RgH.val1 (v':=.bool false) (congrArg Value.bool hb5) ?_
      refine Rk 17 [4] [(4,.bool false)] ?_
      obtain rfl:=Option.some.inj heq
      refine Kg [4] [(4,.bool false)] ?_
      refine RgH.pick 3 [] (cs':=F) (by kernel_rfl) rfl ?_
      refine Dn ?_
      exact K7
    ·replace heq:=bif_false hb4 heq
     refine RgH.val1 (v':=.bool false) (congrArg Value.bool hb4) ?_
     refine Rk 17 [4] [(4,.bool false)] ?_
     obtain rfl:=Option.some.inj heq
     refine Kg [4] [(4,.bool false)] ?_
     refine RgH.pick 3 [] (cs':=F) (by kernel_rfl) rfl ?_
     refine Dn ?_
     exact K7
   ·replace heq:=bif_false hb3 heq
    refine RgH.val1 (v':=.bool false) (congrArg Value.bool hb3) ?_
    refine Rk 17 [4] [(4,.bool false)] ?_
    obtain rfl:=Option.some.inj heq
    refine Kg [4] [(4,.bool false)] ?_
    refine RgH.pick 3 [] (cs':=F) (by kernel_rfl) rfl ?_
    refine Dn ?_
    exact K7
 replace heq:=ht1
 refine Rr<|Rk 4 [27,0,1,5,6,8] [(27,.bool (y2.2 != y3.2)),(0,.slice Aa0 a0.length ca0),(1,.string a1),(5,.slice A1 y1.length c1),(6,.slice A2 y2.1.length c2),(8,.slice A3 y3.1.length c3)] ?_
 rcases bool_cases (y2.2 != y3.2) with hb1 | hb1
 ·replace heq:=bif_true hb1 heq
  refine RgH.val1 (v':=.bool true) (congrArg Value.bool hb1) ?_
  refine Rk 9 [0,1,5,32] [(0,.slice Aa0 a0.length ca0),(1,.string a1),(5,.slice A1 y1.length c1),(32,.bool true)] ?_
  obtain rfl:=Option.some.inj heq
  refine Kg [0,1,5,32] [(0,.slice Aa0 a0.length ca0),(1,.string a1),(5,.slice A1 y1.length c1),(32,.bool true)] ?_
  refine RgH.pick 3 [2] (cs':=ch1::F) (by kernel_rfl) rfl ?_
  refine Dn ?_
  exact K4
 ·replace heq:=bif_false hb1 heq
  refine RgH.val1 (v':=.bool false) (congrArg Value.bool hb1) ?_
  refine Rk 6 [0,1,5,27,28,29] [(0,.slice Aa0 a0.length ca0),(1,.string a1),(5,.slice A1 y1.length c1),(27,.bool false),(28,.slice A2 y2.1.length c2),(29,.slice A3 y3.1.length c3)] ?_
  obtain ⟨y4,hy4,heq⟩:=bind_some heq
  refine RgH.does (DoesH.call (d:=30) (g:=7) (args:=#[.slice A2 y2.1.length c2,.slice A3 y3.1.length c3]) (by kernel_rfl) (slices_Equal_string_c (a0:=y2.1) (a1:=y3.1) (ho2.rw (.tail _ (.head _))) ho2.cap rfl (ho3.rw (.head _)) ho3.cap rfl hy4)) ?_
  rintro _ _ _ _ ⟨_,rfl,rfl,rfl,rfl⟩
  refine Rk 9 [0,1,5,32] [(0,.slice Aa0 a0.length ca0),(1,.string a1),(5,.slice A1 y1.length c1),(32,.bool (!y4))] ?_
  obtain rfl:=Option.some.inj heq
  refine Kg [0,1,5,32] [(0,.slice Aa0 a0.length ca0),(1,.string a1),(5,.slice A1 y1.length c1),(32,.bool (!y4))] ?_
  refine RgH.pick 3 [2] (cs':=ch1::F) (by kernel_rfl) rfl ?_
  refine Dn ?_
  exact K4
end Go.Proofs.YtacmmbpamfefbaaDoor
