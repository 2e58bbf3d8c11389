/- What the machine's calls of these functions come to: just what the plain functions say. Written by program. -/
import Derived.Test.YtdccapcfbielcaaGreatDoorProg
import Derived.Test.YtdccapcfbielcaaGreatDoorKitXi
import Derived.Test.YtdccapcfbielcaaGreatDoorKitW
import Derived.Test.YtdccapcfbielcaaGreatDoorZD
import Derived.Test.YtdccapcfbielcaaGreatDoorShelf
import Derived.Test.YtdccapcfbielcaaGreatDoorKitBl
import Derived.Test.YtdccapcfbielcaaGreatDoorKitZ
import Derived.WalkKit
set_option linter.unusedVariables false
set_option linter.unnecessarySimpa false
set_option linter.unusedSimpArgs false
set_option maxRecDepth 100000
set_option maxHeartbeats 1000000
namespace Go.Proofs.YtdccapcfbielcaaGreatDoor
open Go Go.RowKit Go.Proofs.YtdccapcfbielcaaGreatDoor.Kit
class Wz (w : World) : Prop where
  a : GlobI 0 w
  b : TabI Tryz.prog "internal/strconv.uint64pow10" 1 w
instance {w : World} [h : Wz w] : GlobI 0 w := h.a
instance {w : World} [h : Wz w] : TabI Tryz.prog "internal/strconv.uint64pow10" 1 w := h.b
instance {w : World} [ha : GlobI 0 w] [hb : TabI Tryz.prog "internal/strconv.uint64pow10" 1 w] : Wz w := ⟨ha, hb⟩
variable {w0 : World} {H0 H : Hp} {F : List Ch}
def kRun:Kd Run:=Kd.iso ((Kd.pair Kd.string (Kd.pair Kd.string (Kd.pair (Kd.int .i64) (Kd.pair (Kd.int .i64) (Kd.int .i64)))))) (fun x=>(x.Id,x.Worker,x.From,x.To,x.End))
theorem kRun_open {H:Hp} {x:Run} {c:List Value} (h:kRun.K H x c):c=[.string x.Id,.string x.Worker,iv x.From,iv x.To,iv x.End]:=by
 obtain ⟨p0,q0,rfl,g0,h0⟩:=h
 obtain rfl:p0=[_]:=g0
 obtain ⟨p1,q1,rfl,g1,h1⟩:=h0
 obtain rfl:p1=[_]:=g1
 obtain ⟨p2,q2,rfl,g2,h2⟩:=h1
 obtain rfl:p2=[_]:=g2
 obtain ⟨p3,q3,rfl,g3,h3⟩:=h2
 obtain rfl:p3=[_]:=g3
 obtain rfl:q3=[_]:=h3
 rfl
theorem kRun_mk {H:Hp} {x:Run}:kRun.K H x [.string x.Id,.string x.Worker,iv x.From,iv x.To,iv x.End]:=⟨[.string x.Id],[.string x.Worker,iv x.From,iv x.To,iv x.End],rfl,rfl,⟨[.string x.Worker],[iv x.From,iv x.To,iv x.End],rfl,rfl,⟨[iv x.From],[iv x.To,iv x.End],rfl,rfl,⟨[iv x.To],[iv x.End],rfl,rfl,rfl⟩⟩⟩⟩
def kPair:Kd Pair:=Kd.iso ((Kd.pair Kd.string Kd.string)) (fun x=>(x.Name,x.Value))
theorem kPair_open {H:Hp} {x:Pair} {c:List Value} (h:kPair.K H x c):c=[.string x.Name,.string x.Value]:=by
 obtain ⟨p0,q0,rfl,g0,h0⟩:=h
 obtain rfl:p0=[_]:=g0
 obtain rfl:q0=[_]:=h0
 rfl
theorem kPair_mk {H:Hp} {x:Pair}:kPair.K H x [.string x.Name,.string x.Value]:=⟨[.string x.Name],[.string x.Value],rfl,rfl,rfl⟩
def kSpan:Kd Span:=Kd.iso ((Kd.pair (Kd.int .i64) (Kd.int .i64))) (fun x=>(x.From,x.To))
theorem kSpan_open {H:Hp} {x:Span} {c:List Value} (h:kSpan.K H x c):c=[iv x.From,iv x.To]:=by
 obtain ⟨p0,q0,rfl,g0,h0⟩:=h
 obtain rfl:p0=[_]:=g0
 obtain rfl:q0=[_]:=h0
 rfl
theorem kSpan_mk {H:Hp} {x:Span}:kSpan.K H x [iv x.From,iv x.To]:=⟨[iv x.From],[iv x.To],rfl,rfl,rfl⟩
def kWorker:Kd Worker:=Kd.iso ((Kd.pair Kd.string (Kd.pair (Kd.slice kPair) (Kd.pair (Kd.int .i64) (Kd.pair (Kd.int .i64) (Kd.pair (Kd.int .i64) (Kd.pair (Kd.int .i64) (Kd.slice kSpan)))))))) (fun x=>(x.Name,x.Has,x.Slots,x.Speed,x.From,x.To,x.Stands))
theorem kWorker_open {H:Hp} {x:Worker} {c:List Value} (h:kWorker.K H x c):∃ A1 c1,∃ A6 c6,c=[.string x.Name,.slice A1 x.Has.length c1,iv x.Slots,iv x.Speed,iv x.From,iv x.To,.slice A6 x.Stands.length c6]∧x.Has.length≤c1∧Kd.Row kPair H A1 x.Has∧x.Stands.length≤c6∧Kd.Row kSpan H A6 x.Stands:=by
 obtain ⟨p0,q0,rfl,g0,h0⟩:=h
 obtain rfl:p0=[_]:=g0
 obtain ⟨p1,q1,rfl,g1,h1⟩:=h0
 obtain ⟨A1,c1,rfl,u1,v1⟩:=g1
 obtain ⟨p2,q2,rfl,g2,h2⟩:=h1
 obtain rfl:p2=[_]:=g2
 obtain ⟨p3,q3,rfl,g3,h3⟩:=h2
 obtain rfl:p3=[_]:=g3
 obtain ⟨p4,q4,rfl,g4,h4⟩:=h3
 obtain rfl:p4=[_]:=g4
 obtain ⟨p5,q5,rfl,g5,h5⟩:=h4
 obtain rfl:p5=[_]:=g5
 obtain ⟨A6,c6,rfl,u6,v6⟩:=h5
 exact ⟨A1,c1,A6,c6,rfl,u1,v1,u6,v6⟩
theorem kWorker_mk {H:Hp} {x:Worker} {A1:Option Addr} {c1:Nat} {A6:Option Addr} {c6:Nat} (u1:x.Has.length≤c1) (v1:Kd.Row kPair H A1 x.Has) (u6:x.Stands.length≤c6) (v6:Kd.Row kSpan H A6 x.Stands):kWorker.K H x [.string x.Name,.slice A1 x.Has.length c1,iv x.Slots,iv x.Speed,iv x.From,iv x.To,.slice A6 x.Stands.length c6]:=⟨[.string x.Name],[.slice A1 x.Has.length c1,iv x.Slots,iv x.Speed,iv x.From,iv x.To,.slice A6 x.Stands.length c6],rfl,rfl,⟨[.slice A1 x.Has.length c1],[iv x.Slots,iv x.Speed,iv x.From,iv x.To,.slice A6 x.Stands.length c6],rfl,⟨A1,c1,rfl,u1,v1⟩,⟨[iv x.Slots],[iv x.Speed,iv x.From,iv x.To,.slice A6 x.Stands.length c6],rfl,rfl,⟨[iv x.Speed],[iv x.From,iv x.To,.slice A6 x.Stands.length c6],rfl,rfl,⟨[iv x.From],[iv x.To,.slice A6 x.Stands.length c6],rfl,rfl,⟨[iv x.To],[.slice A6 x.Stands.length c6],rfl,rfl,⟨A6,c6,rfl,u6,v6⟩⟩⟩⟩⟩⟩⟩
noncomputable def C4:Ctx:={ P:=Tryz.prog,f:=4,N:=8,c:=bodyOf Tryz.f4 }
def S4 (F:List Ch) (H0:Hp) (r:List Run) (v:Value) (H:Hp) (cs:List Ch):Prop:=∃ (A0:Option Addr) (c0:Nat) (ch0:Ch),H0=H∧v=.slice A0 r.length c0∧ch0::F=cs∧SlOwn kRun 25 H A0 c0 r ch0
theorem slices_Clone_Run_c [Wz w0] {a0:List Run} {Aa0:Option Addr} {na0 ca0:Nat} {r:List Run} (hra0:Rw kRun H F Aa0 a0) (hca0:na0≤ca0) (hna0:na0=a0.length) (heq:slices_Clone_Run.f a0=some r):CallsH Tryz.prog 4 #[.slice Aa0 na0 ca0] H w0 F (S4 F H r):=by
 refine calls_of_runH (F:=C4) Tryz.func4 (by kernel_rfl) Tryz.ntmps4 (args:=[.slice Aa0 na0 ca0]) (by kernel_rfl) ?_
 subst hna0
 unfold slices_Clone_Run.f at heq
 obtain ⟨hn,heq⟩:=guard?_some heq
 obtain rfl:=Option.some.inj heq
 refine Ra 1 [0] [.c [1]]<|Rd 1 [0] [(0,.slice Aa0 a0.length ca0)]<|Ra 2 [1,0,0] [.c [1,0,1],.c [1,1]] ?_
 cases Aa0 with
 | none =>
  have h0:a0=[]:=by
   cases a0 with
   | nil=>rfl
   | cons x xs=>obtain ⟨b,off,cs,e,fr,hA,_⟩:=hra0 (by simp); cases hA
  subst h0
  refine Rd 2 [4] [(4,.bool true)]<|Ct true rfl<|Ra 1 [1,0,1,0,0] [.c [1,0,1,0,1],.c [1,1]]<|Rd 1 [2] [(2,.slice none 0 0)]<|RunH.nilc ?_
  exact RunH.done (by kernel_rfl) Tryz.func4 (v:=.slice none ([]:List Run).length 0) (by kernel_rfl) ⟨none,0,none,rfl,rfl,rfl,SlOwn.nil⟩
 | some ad =>
  refine Rd 2 [0,4] [(0,.slice (some ad) a0.length ca0),(4,.bool false)]<|Cf false rfl<|Ra 2 [1,1,0] [.c [1,1,1]] ?_
  refine RgH.does (DoesH.new (d:=5) (v:=fun g=>.slice (some ⟨g,0,none⟩) 0 0) (o:=fun g=>.cells #[] 25 (0,0)) (fun g=>by kernel_rfl)) ?_
  rintro _ _ _ _ ⟨g,rfl,rfl,rfl⟩
  have ho:SlOwn kRun 25 H (some ⟨g,0,none⟩) 0 ([]:List Run) (some (g,.cells #[] 25 (0,0))):=.inr ⟨g,0,#[],rfl,rfl,by simp,by simp [maxLen],by simp,Kd.Rep.nil⟩
  refine Rk 2 [5,6] [(5,.slice (some ⟨g,0,none⟩) 0 0),(6,.slice (some ad) a0.length ca0)] ?_
  refine RgH.does (DoesH.append (d:=7) (k:=0) (t:=22) (e:=25) (bytes:=56) (kd:=kRun) (n:=0) (m:=a0.length) (xs:=([]:List Run)) (ys:=a0) (A:=some ⟨g,0,none⟩) (B:=some ad) (c:=0) (cB:=ca0) (by kernel_rfl) rfl rfl (by kernel_rfl) rfl ho (fun w hh=>hra0.rdb (hh.drop 1)) (room_le hn) (by have:=room_le hn; omega)) ?_
  rintro _ _ _ _ ⟨A1,c1,ch1,rfl,rfl,rfl,ho1⟩
  refine Rd 4 [2] [(2,.slice A1 (([]:List Run)++a0).length c1)] ?_
  exact RunH.done (by kernel_rfl) Tryz.func4 (v:=.slice A1 (([]:List Run)++a0).length c1) (by kernel_rfl) ⟨A1,c1,ch1,rfl,rfl,rfl,ho1⟩
def S38 (F:List Ch) (H0:Hp) (r:ByteArray) (v:Value) (H:Hp) (cs:List Ch):Prop:=H0=H∧v=.string r∧F=cs
theorem strings_Trim_c [Wz w0] {a0:ByteArray} {a1:ByteArray} {r:ByteArray} (heq:strings_Trim.f a0 a1=some r):CallsH Tryz.prog 38 #[.string a0,.string a1] H w0 F (S38 F H r):=by
 intro w hh
 unfold strings_Trim.f at heq
 obtain ⟨hn,heq⟩:=guard?_some heq
 obtain rfl:=Option.some.inj heq
 refine (Shelf.Tryz.strings_Trim a0 a1 w (by simp at hn; exact hn.1) (by simp at hn; exact hn.2.1) (by have h:=hn; rw [Bool.and_eq_true,Bool.and_eq_true] at h; exact ascii_of_all h.2.2)).mono ?_
 rintro e w' ⟨rfl,hx⟩
 exact ⟨_,rfl,H,F,Le.refl H,hh.later hx,rfl,rfl,rfl⟩
noncomputable def C21:Ctx:={ P:=Tryz.prog,f:=21,N:=24,c:=bodyOf Tryz.f21 }
def S21 (F:List Ch) (H0:Hp) (r:Bool) (v:Value) (H:Hp) (cs:List Ch):Prop:=H0=H∧v=.bool r∧F=cs
theorem config_IsWord_c [Wz w0] {a0:ByteArray} {r:Bool} (heq:config_IsWord.f a0=some r):CallsH Tryz.prog 21 #[.string a0] H w0 (F) (S21 F H r):=by
 refine Co C21 Tryz.func21 Tryz.ntmps21 ?_
 unfold config_IsWord.f at heq
 refine Sa 1<|Qd 1 [0] []<|An 2 ?_
 obtain ⟨t1,ht1,heq⟩:=bind_some heq
 have K1:RunH C21 (S21 F H r) H w0 [.c [1,0,1],.c [1,1]] [(0,.string a0),(20,.bool t1)] H (F):=by
  refine Cb heq ?_ ?_
  ·intro hb4 heq
   refine Sa 1<|Qd 1 [2] [(2,.bool false)] ?_
   obtain rfl:=Option.some.inj heq
   exact RunH.done (by kernel_rfl) Tryz.func21 (v:=.bool false) (by kernel_rfl) ⟨rfl,rfl,rfl⟩
  ·intro hb4 heq
   refine Sa 2<|Qk 1 [21] [(21,.string a0)] ?_
   obtain ⟨y1,hy1,heq⟩:=bind_some heq
   refine RgH.does (cal 22 (strings_Trim_c (a0:=a0) (a1:=({ data:=#[97,98,99,100,101,102,103,104,105,106,107,108,109,110,111,112,113,114,115,116,117,118,119,120,121,122,48,49,50,51,52,53,54,55,56,57,95,45] }:ByteArray))  hy1)) ?_
   rintro _ _ _ _ ⟨_,rfl,rfl,rfl,rfl⟩
   refine Qd 4 [2] [(2,.bool (sEq y1 ({ data:=#[] }:ByteArray)))] ?_
   obtain rfl:=Option.some.inj heq
   exact RunH.done (by kernel_rfl) Tryz.func21 (v:=.bool (sEq y1 ({ data:=#[] }:ByteArray))) (by kernel_rfl) ⟨rfl,rfl,rfl⟩
 replace heq:=ht1
 refine Sa 0<|Qk 4 [6,0] [(6,.bool (decide ((a0.size:Int)<1)))] ?_
 rcases bool_cases (decide ((a0.size:Int)<1)) with hb1 | hb1
 ·replace heq:=bif_true hb1 heq
  refine RgH.val1 (v':=.bool true) (congrArg Value.bool hb1) ?_
  refine Qk 18 [0,20] [(20,.bool true)] ?_
  obtain rfl:=Option.some.inj heq
  refine Qg [0,20]<|Dn ?_
  exact Ge (K1)
 ·replace heq:=bif_false hb1 heq
  refine RgH.val1 (v':=.bool false) (congrArg Value.bool hb1) ?_
  refine Qk 9 [11,0] [(11,.bool (decide (40<(a0.size:Int))))] ?_
  rcases bool_cases (decide (40<(a0.size:Int))) with hb2 | hb2
  ·replace heq:=bif_true hb2 heq
   refine RgH.val1 (v':=.bool true) (congrArg Value.bool hb2) ?_
   refine Qk 18 [0,20] [(20,.bool true)] ?_
   obtain rfl:=Option.some.inj heq
   refine Qg [0,20]<|Dn ?_
   exact Ge (K1)
  ·replace heq:=bif_false hb2 heq
   refine RgH.val1 (v':=.bool false) (congrArg Value.bool hb2) ?_
   obtain ⟨hn1,heq⟩:=guard?_some heq
   refine Qv 14 [16,0] [n2 hn1] [(16,.bool (decide ((bt a0 0)<97)))] ?_
   rcases bool_cases (decide ((bt a0 0)<97)) with hb3 | hb3
   ·replace heq:=bif_true hb3 heq
    refine RgH.val1 (v':=.bool true) (congrArg Value.bool hb3) ?_
    refine Qk 18 [0,20] [(20,.bool true)] ?_
    obtain rfl:=Option.some.inj heq
    refine Qg [0,20]<|Dn ?_
    exact Ge (K1)
   ·replace heq:=bif_false hb3 heq
    refine RgH.val1 (v':=.bool false) (congrArg Value.bool hb3) ?_
    obtain ⟨hn2,heq⟩:=guard?_some heq
    refine Qv 18 [0,20] [n2 hn2] [(20,.bool (decide (122<(bt a0 0))))] ?_
    obtain rfl:=Option.some.inj heq
    refine Qg [0,20]<|Dn ?_
    exact Ge (K1)
noncomputable def C23:Ctx:={ P:=Tryz.prog,f:=23,N:=15,c:=bodyOf Tryz.f23 }
def S23 (F:List Ch) (H0:Hp) (r:Bool) (v:Value) (H:Hp) (cs:List Ch):Prop:=H0=H∧v=.bool r∧F=cs
theorem workers_within_c [Wz w0] {a0 a1 a2:Int} {r:Bool} (heq:workers_within.f a0 a1 a2=some r):CallsH Tryz.prog 23 #[iv a0,iv a1,iv a2] H w0 (F) (S23 F H r):=by
 refine Co C23 Tryz.func23 Tryz.ntmps23 ?_
 unfold workers_within.f at heq
 refine Sa 1<|Qd 1 [0,1,2] []<|An 1 ?_
 obtain ⟨t1,ht1,heq⟩:=bind_some heq
 have K1:RunH C23 (S23 F H r) H w0 [.c [1,1]] [(6,.bool t1)] H (F):=by
  obtain rfl:=Option.some.inj heq
  exact RunH.done (by kernel_rfl) Tryz.func23 (v:=.bool t1) (by kernel_rfl) ⟨rfl,rfl,rfl⟩
 replace heq:=ht1
 refine Sa 0<|Qk 4 [10,0,2] [(10,.bool (decide (a1≤a0)))] ?_
 rcases bool_cases (decide (a1≤a0)) with hb1 | hb1
 ·replace heq:=bif_true hb1 heq
  refine RgH.val1 (v':=.bool true) (congrArg Value.bool hb1) ?_
  refine Qk 9 [6] [(6,.bool (decide (a0≤a2)))] ?_
  obtain rfl:=Option.some.inj heq
  refine Qg [6]<|Dn ?_
  exact Ge (K1)
 ·replace heq:=bif_false hb1 heq
  refine RgH.val1 (v':=.bool false) (congrArg Value.bool hb1) ?_
  refine Qk 9 [6] [(6,.bool false)] ?_
  obtain rfl:=Option.some.inj heq
  refine Qg [6]<|Dn ?_
  exact Ge (K1)
noncomputable def C22:Ctx:={ P:=Tryz.prog,f:=22,N:=5,c:=bodyOf Tryz.f22 }
def S22 (F:List Ch) (H0:Hp) (r:Bool) (v:Value) (H:Hp) (cs:List Ch):Prop:=H0=H∧v=.bool r∧F=cs
theorem workers_isMoment_c [Wz w0] {a0:Int} {r:Bool} (heq:workers_isMoment.f a0=some r):CallsH Tryz.prog 22 #[iv a0] H w0 (F) (S22 F H r):=by
 refine Co C22 Tryz.func22 Tryz.ntmps22 ?_
 unfold workers_isMoment.f at heq
 refine Sa 1<|Qd 1 [0] []<|Sa 1<|Qk 1 [3] [(3,iv a0)] ?_
 obtain ⟨y1,hy1,heq⟩:=bind_some heq
 refine RgH.does (cal 4 (workers_within_c hy1 )) ?_
 rintro _ _ _ _ ⟨_,rfl,rfl,rfl,rfl⟩
 refine Qd 3 [2] [(2,.bool y1)] ?_
 obtain rfl:=Option.some.inj heq
 exact RunH.done (by kernel_rfl) Tryz.func22 (v:=.bool y1) (by kernel_rfl) ⟨rfl,rfl,rfl⟩
noncomputable def C60:Ctx:={ P:=Tryz.prog,f:=60,N:=6,c:=bodyOf Tryz.f60 }
def S60 (F:List Ch) (H0:Hp) (r:Bool) (v:Value) (H:Hp) (cs:List Ch):Prop:=H0=H∧v=.bool r∧F=cs
theorem cmp_isNaN_int_c [Wz w0] {a0:Int} {r:Bool} (heq:cmp_isNaN_int.f a0=some r):CallsH Tryz.prog 60 #[iv a0] H w0 (F) (S60 F H r):=by
 refine Co C60 Tryz.func60 Tryz.ntmps60 ?_
 unfold cmp_isNaN_int.f at heq
 refine Sa 1<|Qd 1 [0] []<|Sa 1<|Qd 4 [2] [(2,.bool (a0 != a0))] ?_
 obtain rfl:=Option.some.inj heq
 exact RunH.done (by kernel_rfl) Tryz.func60 (v:=.bool (a0 != a0)) (by kernel_rfl) ⟨rfl,rfl,rfl⟩
noncomputable def C40:Ctx:={ P:=Tryz.prog,f:=40,N:=20,c:=bodyOf Tryz.f40 }
def S40 (F:List Ch) (H0:Hp) (r:Int) (v:Value) (H:Hp) (cs:List Ch):Prop:=H0=H∧v=iv r∧F=cs
theorem cmp_Compare_int_c [Wz w0] {a0 a1:Int} {r:Int} (heq:cmp_Compare_int.f a0 a1=some r):CallsH Tryz.prog 40 #[iv a0,iv a1] H w0 (F) (S40 F H r):=by
 refine Co C40 Tryz.func40 Tryz.ntmps40 ?_
 unfold cmp_Compare_int.f at heq
 refine Sa 1<|Qd 1 [0,1] []<|Sa 1<|Qk 1 [0,1,7] [(7,iv a0)] ?_
 obtain ⟨y1,hy1,heq⟩:=bind_some heq
 refine RgH.does (cal 8 (cmp_isNaN_int_c hy1 )) ?_
 rintro _ _ _ _ ⟨_,rfl,rfl,rfl,rfl⟩
 refine Qd 3 [0,1,5] [(5,.bool y1)]<|Sa 1<|Qk 1 [0,1,5,9] [(9,iv a1)] ?_
 obtain ⟨y2,hy2,heq⟩:=bind_some heq
 refine RgH.does (cal 10 (cmp_isNaN_int_c hy2 )) ?_
 rintro _ _ _ _ ⟨_,rfl,rfl,rfl,rfl⟩
 refine Qd 3 [0,1,5,6] [(6,.bool y2)]<|Sa 2<|Qd 1 [0,1,6,11] [(11,.bool y1)] ?_
 refine Cb heq ?_ ?_
 ·intro hb1 heq
  refine Sa 2<|Qd 1 [12] [(12,.bool y2)] ?_
  refine Cb heq ?_ ?_
  ·intro hb2 heq
   refine Sa 1<|Qd 1 [4] [(4,iv 0)] ?_
   obtain rfl:=Option.some.inj heq
   exact RunH.done (by kernel_rfl) Tryz.func40 (v:=iv 0) (by kernel_rfl) ⟨rfl,rfl,rfl⟩
  ·intro hb2 heq
   refine Sa 2<|Qd 1 [4] [(4,iv (-1))] ?_
   obtain rfl:=Option.some.inj heq
   exact RunH.done (by kernel_rfl) Tryz.func40 (v:=iv (-1)) (by kernel_rfl) ⟨rfl,rfl,rfl⟩
 ·intro hb1 heq
  refine Sa 3<|Qd 1 [0,1,13] [(13,.bool y2)] ?_
  refine Cb heq ?_ ?_
  ·intro hb3 heq
   refine Sa 1<|Qd 1 [4] [(4,iv 1)] ?_
   obtain rfl:=Option.some.inj heq
   exact RunH.done (by kernel_rfl) Tryz.func40 (v:=iv 1) (by kernel_rfl) ⟨rfl,rfl,rfl⟩
  ·intro hb3 heq
   refine Sa 3<|Qd 3 [0,1,16] [(16,.bool (decide (a0<a1)))] ?_
   refine Cb heq ?_ ?_
   ·intro hb4 heq
    refine Sa 1<|Qd 1 [4] [(4,iv (-1))] ?_
    obtain rfl:=Option.some.inj heq
    exact RunH.done (by kernel_rfl) Tryz.func40 (v:=iv (-1)) (by kernel_rfl) ⟨rfl,rfl,rfl⟩
   ·intro hb4 heq
    refine Sa 3<|Qd 3 [19] [(19,.bool (decide (a1<a0)))] ?_
    refine Cb heq ?_ ?_
    ·intro hb5 heq
     refine Sa 1<|Qd 1 [4] [(4,iv 1)] ?_
     obtain rfl:=Option.some.inj heq
     exact RunH.done (by kernel_rfl) Tryz.func40 (v:=iv 1) (by kernel_rfl) ⟨rfl,rfl,rfl⟩
    ·intro hb5 heq
     refine Sa 2<|Qd 1 [4] [(4,iv 0)] ?_
     obtain rfl:=Option.some.inj heq
     exact RunH.done (by kernel_rfl) Tryz.func40 (v:=iv 0) (by kernel_rfl) ⟨rfl,rfl,rfl⟩
def S41 (F:List Ch) (H0:Hp) (r:Int) (v:Value) (H:Hp) (cs:List Ch):Prop:=H0=H∧v=iv r∧F=cs
theorem strings_Compare_c [Wz w0] {a0:ByteArray} {a1:ByteArray} {r:Int} (heq:strings_Compare.f a0 a1=some r):CallsH Tryz.prog 41 #[.string a0,.string a1] H w0 F (S41 F H r):=by
 intro w hh
 unfold strings_Compare.f at heq
 obtain rfl:=Option.some.inj heq
 refine (Shelf.Tryz.strings_Compare a0 a1 w).mono ?_
 rintro e w' ⟨rfl,rfl⟩
 exact ⟨_,rfl,H,F,Le.refl H,hh,rfl,rfl,rfl⟩
noncomputable def C39:Ctx:={ P:=Tryz.prog,f:=39,N:=18,c:=bodyOf Tryz.f39 }
def S39 (F:List Ch) (H0:Hp) (r:Int) (v:Value) (H:Hp) (cs:List Ch):Prop:=H0=H∧v=iv r∧F=cs
theorem cmp_Or_int.e1_c [Wz w0] {r:Int}:cmp_Or_int.e1=some r→RunH C39 (S39 F H r) H w0 [.c [1,1,1,0],.c [1,1,1,1]] [(3,iv 0)] H (F):=by
 intro   heq
 unfold cmp_Or_int.e1 at heq
 refine Sa 0<|Qd 2 [2] [(2,iv 0)] ?_
 obtain rfl:=Option.some.inj heq
 exact RunH.done (by kernel_rfl) Tryz.func39 (v:=iv 0) (by kernel_rfl) ⟨rfl,rfl,rfl⟩
theorem cmp_Or_int.l2_c [Wz w0] {r:Int} (e1:Option Int)
  (he1:e1=some r→RunH C39 (S39 F H r) H w0 [.c [1,1,1,0],.c [1,1,1,1]] [(3,iv 0)] H (F)):∀ (k:Nat),∀ (a0:List Int) (Aa0:Option Addr) (ca0:Nat) (v8:Int) ,Rw (Kd.int .i64) H F Aa0 a0→a0.length≤ca0→cmp_Or_int.l2 e1 k a0 v8=some r→RunH C39 (S39 F H r) H w0 [.c [1,1,0,1,0,0],.l [1,1,0,1,0,0],.b 0,.c [1,1,1]] [(3,iv 0),(6,.slice Aa0 a0.length ca0),(7,iv (a0.length:Int)),(8,iv v8)] H (F):=by
 intro k
 induction k with
 | zero=>intro a0 Aa0 ca0 v8 hra0 hca0 heq; exact nomatch (show (none:Option Int)=some r from heq)
 | succ k ihk =>
  intro a0 Aa0 ca0 v8 hra0 hca0 heq
  rw [cmp_Or_int.l2] at heq
  refine Sa 1<|Qd 1 [3,6,7,8,9] [(9,.bool (decide (v8<(a0.length:Int))))]<|An 1 ?_
  refine Cb heq ?_ ?_
  ·intro hb1 heq
   refine Sa 4 ?_
   obtain ⟨x1,hx1,heq⟩:=bind_some heq
   obtain ⟨ha1,cs1,hK1,hcc1⟩:=hra0.get hx1
   obtain rfl:cs1=[iv x1]:=hK1
   refine Qw 3 [3,5,6,7,8] [nx ha1 hx1,er hcc1 0 0] [(5,iv x1)]<|Sa 1<|Qd 3 [3,5,6,7,8,14] [(14,.bool (x1 != 0))] ?_
   refine Cb heq ?_ ?_
   ·intro hb2 heq
    refine Sa 1<|Qd 2 [2] [(2,iv x1)] ?_
    obtain rfl:=Option.some.inj heq
    exact RunH.done (by kernel_rfl) Tryz.func39 (v:=iv x1) (by kernel_rfl) ⟨rfl,rfl,rfl⟩
   ·intro hb2 heq
    refine Sa 2<|Qd 2 [3,6,7,8] [(8,iv (w64 (v8+1)))]<|An 1 ?_
    exact Gt [3,6,7,8] 0 [] (ihk a0 _ _ (w64 (v8+1)) hra0 hca0 heq)
  ·intro hb1 heq
   refine An 2 ?_
   exact Gt [3] 0 [] (he1 heq)
theorem cmp_Or_int_c [Wz w0] {a0:List Int} {Aa0:Option Addr} {na0 ca0:Nat} {r:Int} (heq:cmp_Or_int.f a0=some r) (hra0:Rw (Kd.int .i64) H F Aa0 a0) (hca0:na0≤ca0) (hna0:na0=a0.length):CallsH Tryz.prog 39 #[.slice Aa0 na0 ca0] H w0 (F) (S39 F H r):=by
 refine Co C39 Tryz.func39 Tryz.ntmps39 ?_
 subst hna0
 unfold cmp_Or_int.f at heq
 refine Sa 1<|Qd 1 [0] []<|Sa 1<|Qd 1 [0,3] [(3,iv 0)]<|Sa 2<|Qd 3 [3,6,7,8] [(6,.slice Aa0 a0.length ca0),(7,iv (a0.length:Int)),(8,iv 0)]<|An 2 ?_
 exact Gt [3,6,7,8] 0 [] (((cmp_Or_int.l2_c (e1:=cmp_Or_int.e1) (cmp_Or_int.e1_c)) big) a0 _ _ 0 hra0 hca0 heq)
noncomputable def C24:Ctx:={ P:=Tryz.prog,f:=24,N:=22,c:=bodyOf Tryz.f24 }
def S24 (F:List Ch) (H0:Hp) (r:Int) (v:Value) (H:Hp) (cs:List Ch):Prop:=H0=H∧v=iv r∧F=cs
theorem workers_compareRuns_c [Wz w0] {a0 a1:Run} {r:Int} (heq:workers_compareRuns.f a0 a1=some r):CallsH Tryz.prog 24 #[.agg #[.string a0.Id,.string a0.Worker,iv a0.From,iv a0.To,iv a0.End],.agg #[.string a1.Id,.string a1.Worker,iv a1.From,iv a1.To,iv a1.End]] H w0 (F) (S24 F H r):=by
 refine Co C24 Tryz.func24 Tryz.ntmps24 ?_
 unfold workers_compareRuns.f at heq
 refine Sa 1 ?_
 refine RgH.does (DoesH.new (d:=2) (v:=fun g=>.pointer (some ⟨g,0,none⟩)) (o:=fun g=>.cells #[.string a0.Id,.string a0.Worker,iv a0.From,iv a0.To,iv a0.End] 25 (0,0)) (fun g=>by kernel_rfl)) ?_
 rintro _ _ _ _ ⟨g1,rfl,rfl,rfl⟩
 refine RgH.does (DoesH.new (d:=3) (v:=fun g=>.pointer (some ⟨g,0,none⟩)) (o:=fun g=>.cells #[.string a1.Id,.string a1.Worker,iv a1.From,iv a1.To,iv a1.End] 25 (0,0)) (fun g=>by kernel_rfl)) ?_
 rintro _ _ _ _ ⟨g2,rfl,rfl,rfl⟩
 refine Qd 3 [2,3] []<|An 1<|Qp [2,3]<|Sd 2 18 [0,1] [3,3,3,3,0,3,3,3,3,0,3,3,3,3,0,0,0,3]<|Qs [0,1,2,3,5,6,7,8,10,11,12,13] 6 [6,8,11,13,16,18] [bx 1 2,bx 0 2,bx 1 0,bx 0 0,bx 1 1,bx 0 1] [(6,iv a0.From),(8,iv a1.From),(11,.string a0.Id),(13,.string a1.Id),(16,.string a0.Worker),(18,.string a1.Worker)] (Pk 2 [0,1]) (Pk 2 [0,1]) ?_
 obtain ⟨y1,hy1,heq⟩:=bind_some heq
 refine Dz 4 (cal 9 (cmp_Compare_int_c hy1 )) ?_
 rintro _ _ _ _ ⟨_,rfl,rfl,rfl,rfl⟩
 refine ⟨fun _ w hh=>⟨fun _=>(Pk 2 [0,1]) w hh,fun _=>(Pk 2 [0,1]) w hh,(fun h=>by cases h)⟩,?_⟩
 refine Qr [9,11,13,16,18] ?_
 obtain ⟨y2,hy2,heq⟩:=bind_some heq
 refine Dz 9 (cal 14 (strings_Compare_c (a0:=a0.Id) (a1:=a1.Id)  hy2)) ?_
 rintro _ _ _ _ ⟨_,rfl,rfl,rfl,rfl⟩
 refine ⟨fun _ w hh=>⟨fun _=>(Pk 2 [0,1]) w hh,fun _=>(Pk 2 [0,1]) w hh,(fun h=>by cases h)⟩,?_⟩
 refine Qr [9,14,16,18] ?_
 obtain ⟨y3,hy3,heq⟩:=bind_some heq
 refine Dz 14 (cal 19 (strings_Compare_c (a0:=a0.Worker) (a1:=a1.Worker)  hy3)) ?_
 rintro _ _ _ _ ⟨_,rfl,rfl,rfl,rfl⟩
 refine ⟨fun _ w hh=>⟨fun _=>(Pk 2 [0,1]) w hh,fun _=>(Pk 2 [0,1]) w hh,(fun h=>by cases h)⟩,?_⟩
 refine Qr [9,14,19] ?_
 refine Dz 15 (DoesH.new (d:=20) (v:=fun g=>.slice (some ⟨g,0,none⟩) 3 3) (o:=fun g=>.cells #[iv y1,iv y2,iv y3] 3 (0,0)) (fun g=>by kernel_rfl)) ?_
 rintro _ _ _ _ ⟨g3,rfl,rfl,rfl⟩
 have ho1:SlOwn (Kd.int .i64) 3 H (some ⟨g3,0,none⟩) 3 ([y1,y2,y3]:List Int) (some (g3,.cells #[iv y1,iv y2,iv y3] 3 (0,0))):=SlOwn.lit (xs:=([y1,y2,y3]:List Int)) (by kernel_rfl) (Nat.le_of_ble_eq_true (by kernel_rfl)) (Kd.Rep.scalars rfl)
 refine ⟨fun _ w hh=>⟨fun _=>(Pk 3 [1,2]) w hh,fun _=>(Pk 3 [1,2]) w hh,(fun h=>by cases h)⟩,?_⟩
 refine Qr [20] ?_
 obtain ⟨y4,hy4,heq⟩:=bind_some heq
 refine Dz 16 (cal 21 (cmp_Or_int_c hy4 (ho1.rw (.head _)) ho1.cap rfl)) ?_
 rintro _ _ _ _ ⟨_,rfl,rfl,rfl,rfl⟩
 refine ⟨fun _ w hh=>⟨fun _=>(Pk 3 [1,2]) w hh,fun _=>(Pk 3 [1,2]) w hh,(fun h=>by cases h)⟩,?_⟩
 refine Qs [17] 0 [4] [] [(4,iv y4)] (Pk 3 [1,2]) (Pk 2 [0,1]) ?_
 refine DrH.done (by kernel_rfl) ?_
 obtain rfl:=Option.some.inj heq
 refine Up 3 [] ?_
 exact RunH.done (by kernel_rfl) Tryz.func24 (v:=iv y4) (by kernel_rfl) ⟨rfl,rfl,rfl⟩
noncomputable def C10:Ctx:={ P:=Tryz.prog,f:=10,N:=62,c:=bodyOf Tryz.f10 }
def S10 (F:List Ch) (H0:Hp) (r:Int) (v:Value) (H:Hp) (cs:List Ch):Prop:=H0=H∧v=iv r∧F=cs
theorem workers_CheckRuns.e1_c [Wz w0] {r:Int}:workers_CheckRuns.e1=some r→RunH C10 (S10 F H r) H w0 [.c [1,1,1,0],.c [1,1,1,1]] [] H (F):=by
 intro   heq
 unfold workers_CheckRuns.e1 at heq
 refine Sa 0<|Qd 1 [2] [(2,iv 0)] ?_
 obtain rfl:=Option.some.inj heq
 exact RunH.done (by kernel_rfl) Tryz.func10 (v:=iv 0) (by kernel_rfl) ⟨rfl,rfl,rfl⟩
theorem workers_CheckRuns.l2_c [Wz w0] {r:Int} (e1:Option Int)
  (he1:e1=some r→RunH C10 (S10 F H r) H w0 [.c [1,1,1,0],.c [1,1,1,1]] [] H (F)):∀ (k:Nat),∀ (a0:List Run) (Aa0:Option Addr) (ca0:Nat) (v10:Int) ,Rw kRun H F Aa0 a0→a0.length≤ca0→workers_CheckRuns.l2 e1 k a0 v10=some r→RunH C10 (S10 F H r) H w0 [.c [1,1,0,1,0,0],.l [1,1,0,1,0,0],.b 0,.c [1,1,1]] [(0,.slice Aa0 a0.length ca0),(8,.slice Aa0 a0.length ca0),(9,iv (a0.length:Int)),(10,iv v10)] H (F):=by
 intro k
 induction k with
 | zero=>intro a0 Aa0 ca0 v10 hra0 hca0 heq; exact nomatch (show (none:Option Int)=some r from heq)
 | succ k ihk =>
  intro a0 Aa0 ca0 v10 hra0 hca0 heq
  rw [workers_CheckRuns.l2] at heq
  refine Sa 1<|Qd 1 [0,8,9,10,11] [(11,.bool (decide (v10<(a0.length:Int))))]<|An 1 ?_
  refine Cb heq ?_ ?_
  ·intro hb2 heq
   refine Sa 4 ?_
   obtain ⟨x1,hx1,heq⟩:=bind_some heq
   obtain ⟨ha1,cs1,hK1,hcc1⟩:=hra0.get hx1
   obtain ⟨rfl⟩:=kRun_open hK1
   refine Qv 3 [0,8,9,10,12,14] ([nx ha1 hx1]++ers hcc1 0) [(12,iv v10),(14,.agg #[.string x1.Id,.string x1.Worker,iv x1.From,iv x1.To,iv x1.End])] ?_
   refine RgH.does (DoesH.new (d:=4) (v:=fun g=>.pointer (some ⟨g,0,none⟩)) (o:=fun g=>.cells #[.string ByteArray.empty,.string ByteArray.empty,iv 0,iv 0,iv 0] 25 (0,0)) (fun g=>by kernel_rfl)) ?_
   rintro _ _ _ _ ⟨g1,rfl,rfl,rfl⟩
   refine Qk 5 [0,3,4,8,9,10,14] [(3,iv v10)] ?_
   refine RgH.does (DoesH.store (k:=0) (g:=g1) (off:=0) (v:=.agg #[.string x1.Id,.string x1.Worker,iv x1.From,iv x1.To,iv x1.End]) (cells':=#[.string x1.Id,.string x1.Worker,iv x1.From,iv x1.To,iv x1.End]) (by kernel_rfl) rfl (by kernel_rfl) (by kernel_rfl)) ?_
   rintro _ _ _ _ ⟨rfl,rfl,rfl⟩
   refine Dn<|An 2 ?_
   obtain ⟨t1,ht1,heq⟩:=bind_some heq
   have K2:RunH C10 (S10 F H r) H w0 [.c [1,1,0,1,0,0,1,1,0,0,1,0,1],.b 2,.b 1,.c [1,1,0,1,0,0,1,1,1],.l [1,1,0,1,0,0],.b 0,.c [1,1,1]] [(0,.slice Aa0 a0.length ca0),(3,iv v10),(4,pg g1 0),(8,.slice Aa0 a0.length ca0),(9,iv (a0.length:Int)),(10,iv v10),(15,.bool t1)] H ((some (g1,.cells #[.string x1.Id,.string x1.Worker,iv x1.From,iv x1.To,iv x1.End] 25 (0,0)))::F):=by
    refine Cb heq ?_ ?_
    ·intro hb4 heq
     refine Sa 1<|Qd 1 [2] [(2,iv 5)] ?_
     obtain rfl:=Option.some.inj heq
     refine Up 1 [] ?_
     exact RunH.done (by kernel_rfl) Tryz.func10 (v:=iv 5) (by kernel_rfl) ⟨rfl,rfl,rfl⟩
    ·intro hb4 heq
     refine An 1 ?_
     obtain ⟨t2,ht2,heq⟩:=bind_some heq
     have K3:RunH C10 (S10 F H r) H w0 [.c [1,1,0,1,0,0,1,1,0,0,1,0,1,1,1],.b 2,.b 1,.c [1,1,0,1,0,0,1,1,1],.l [1,1,0,1,0,0],.b 0,.c [1,1,1]] [(0,.slice Aa0 a0.length ca0),(3,iv v10),(4,pg g1 0),(8,.slice Aa0 a0.length ca0),(9,iv (a0.length:Int)),(10,iv v10),(26,.bool t2)] H ((some (g1,.cells #[.string x1.Id,.string x1.Worker,iv x1.From,iv x1.To,iv x1.End] 25 (0,0)))::F):=by
      refine Cb heq ?_ ?_
      ·intro hb6 heq
       refine Sa 1<|Qd 1 [2] [(2,iv 1)] ?_
       obtain rfl:=Option.some.inj heq
       refine Up 1 [] ?_
       exact RunH.done (by kernel_rfl) Tryz.func10 (v:=iv 1) (by kernel_rfl) ⟨rfl,rfl,rfl⟩
      ·intro hb6 heq
       refine Sa 1<|Qw 6 [0,3,4,8,9,10,37] [bx 0 3,bx 0 2] [(37,.bool (decide (x1.To<x1.From)))] ?_
       refine Cb heq ?_ ?_
       ·intro hb7 heq
        refine Sa 1<|Qd 1 [2] [(2,iv 8)] ?_
        obtain rfl:=Option.some.inj heq
        refine Up 1 [] ?_
        exact RunH.done (by kernel_rfl) Tryz.func10 (v:=iv 8) (by kernel_rfl) ⟨rfl,rfl,rfl⟩
       ·intro hb7 heq
        refine Sa 1<|Qv 2 [0,3,4,8,9,10,45] [bx 0 4] [(45,iv x1.End)] ?_
        obtain ⟨y5,hy5,heq⟩:=bind_some heq
        refine RgH.does (cal 46 (workers_within_c hy5 )) ?_
        rintro _ _ _ _ ⟨_,rfl,rfl,rfl,rfl⟩
        refine Qd 5 [0,3,4,8,9,10,43] [(43,.bool (!y5))] ?_
        refine Cb heq ?_ ?_
        ·intro hb8 heq
         refine Sa 1<|Qd 1 [2] [(2,iv 4)] ?_
         obtain rfl:=Option.some.inj heq
         refine Up 1 [] ?_
         exact RunH.done (by kernel_rfl) Tryz.func10 (v:=iv 4) (by kernel_rfl) ⟨rfl,rfl,rfl⟩
        ·intro hb8 heq
         refine An 1 ?_
         obtain ⟨t3,ht3,heq⟩:=bind_some heq
         have K4:RunH C10 (S10 F H r) H w0 [.c [1,1,0,1,0,0,1,1,0,0,1,0,1,1,1,1,1,1,1,1,1],.b 2,.b 1,.c [1,1,0,1,0,0,1,1,1],.l [1,1,0,1,0,0],.b 0,.c [1,1,1]] [(0,.slice Aa0 a0.length ca0),(8,.slice Aa0 a0.length ca0),(9,iv (a0.length:Int)),(10,iv v10),(48,.bool t3)] H (F):=by
          refine Cb heq ?_ ?_
          ·intro hb10 heq
           refine Sa 1<|Qd 1 [2] [(2,iv 8)] ?_
           obtain rfl:=Option.some.inj heq
           exact RunH.done (by kernel_rfl) Tryz.func10 (v:=iv 8) (by kernel_rfl) ⟨rfl,rfl,rfl⟩
          ·intro hb10 heq
           refine Sa 3<|Qd 2 [0,8,9,10] [(10,iv (w64 (v10+1)))]<|An 1 ?_
           exact Gt [0,8,9,10] 0 [] (ihk a0 _ _ (w64 (v10+1)) hra0 hca0 heq)
         replace heq:=ht3
         refine Qp [0,3,4,8,9,10]<|Sd 1 13 [0] [3,3,3,3,3,3,3,3,3,0,3,3,3]<|Qs [0,1,2] 10 [51,0,3,4,8,9,10] [] [(51,.bool (decide (0<v10)))] (Pk 1 [0]) (Pk 1 [0]) ?_
         rcases bool_cases (decide (0<v10)) with hb9 | hb9
         ·replace heq:=bif_true hb9 heq
          refine DrH.val1 (v':=.bool true) (congrArg Value.bool hb9) ?_
          obtain ⟨x2,hx2,heq⟩:=bind_some heq
          obtain ⟨ha2,cs2,hK2,hcc2⟩:=hra0.get hx2
          obtain ⟨rfl⟩:=kRun_open hK2
          refine Qs [3,4,5,6,7,8] 4 [0,8,9,10,51,52,57] (bxs 0++[nx ha2 hx2]++ers hcc2 1) [(52,.agg #[.string x1.Id,.string x1.Worker,iv x1.From,iv x1.To,iv x1.End]),(57,.agg #[.string x2.Id,.string x2.Worker,iv x2.From,iv x2.To,iv x2.End])] (Pk 1 [0]) (Pk 1 [0]) ?_
          obtain ⟨y6,hy6,heq⟩:=bind_some heq
          refine Dz 9 (cal 58 (workers_compareRuns_c hy6 )) ?_
          rintro _ _ _ _ ⟨_,rfl,rfl,rfl,rfl⟩
          refine ⟨fun _ w hh=>⟨fun _=>(Pk 1 [0]) w hh,fun _=>(Pk 1 [0]) w hh,(fun h=>by cases h)⟩,?_⟩
          refine Qs [10,11,12] 0 [0,8,9,10,48] [] [(48,.bool (decide (y6≤0)))] (Pk 1 [0]) (Pk 1 [0]) ?_
          obtain rfl:=Option.some.inj heq
          refine Qr [0,8,9,10,48]<|Ur 1 [] ?_
          refine DrH.done (by kernel_rfl) ?_
          exact Ge (K4)
         ·replace heq:=bif_false hb9 heq
          refine DrH.val1 (v':=.bool false) (congrArg Value.bool hb9) ?_
          refine Qs [3,4,5,6,7,8,9,10,11,12] 0 [0,8,9,10,48] [] [(48,.bool false)] (Pk 1 [0]) (Pk 1 [0]) ?_
          obtain rfl:=Option.some.inj heq
          refine Qr [0,8,9,10,48]<|Ur 1 [] ?_
          refine DrH.done (by kernel_rfl) ?_
          exact Ge (K4)
     replace heq:=ht2
     refine Sa 0<|Qv 2 [0,3,4,8,9,10,28] [bx 0 2] [(28,iv x1.From)] ?_
     obtain ⟨y3,hy3,heq⟩:=bind_some heq
     refine RgH.does (cal 29 (workers_isMoment_c hy3 )) ?_
     rintro _ _ _ _ ⟨_,rfl,rfl,rfl,rfl⟩
     refine Qk 5 [31,0,3,4,8,9,10] [(31,.bool (!y3))] ?_
     rcases bool_cases (!y3) with hb5 | hb5
     ·replace heq:=bif_true hb5 heq
      refine RgH.val1 (v':=.bool true) (congrArg Value.bool hb5) ?_
      refine Qk 11 [0,3,4,8,9,10,26] [(26,.bool true)] ?_
      obtain rfl:=Option.some.inj heq
      refine Qg [0,3,4,8,9,10,26]<|Dn ?_
      exact Ge (K3)
     ·replace heq:=bif_false hb5 heq
      refine RgH.val1 (v':=.bool false) (congrArg Value.bool hb5) ?_
      refine Qv 7 [0,3,4,8,9,10,31,33] [bx 0 3] [(33,iv x1.To)] ?_
      obtain ⟨y4,hy4,heq⟩:=bind_some heq
      refine RgH.does (cal 34 (workers_isMoment_c hy4 )) ?_
      rintro _ _ _ _ ⟨_,rfl,rfl,rfl,rfl⟩
      refine Qk 11 [0,3,4,8,9,10,26] [(26,.bool (!y4))] ?_
      obtain rfl:=Option.some.inj heq
      refine Qg [0,3,4,8,9,10,26]<|Dn ?_
      exact Ge (K3)
   replace heq:=ht1
   refine Sa 0<|Qv 2 [0,3,4,8,9,10,17] [bx 0 0] [(17,.string x1.Id)] ?_
   obtain ⟨y1,hy1,heq⟩:=bind_some heq
   refine RgH.does (cal 18 (config_IsWord_c hy1 )) ?_
   rintro _ _ _ _ ⟨_,rfl,rfl,rfl,rfl⟩
   refine Qk 5 [20,0,3,4,8,9,10] [(20,.bool (!y1))] ?_
   rcases bool_cases (!y1) with hb3 | hb3
   ·replace heq:=bif_true hb3 heq
    refine RgH.val1 (v':=.bool true) (congrArg Value.bool hb3) ?_
    refine Qk 11 [0,3,4,8,9,10,15] [(15,.bool true)] ?_
    obtain rfl:=Option.some.inj heq
    refine Qg [0,3,4,8,9,10,15]<|Dn ?_
    exact Ge (K2)
   ·replace heq:=bif_false hb3 heq
    refine RgH.val1 (v':=.bool false) (congrArg Value.bool hb3) ?_
    refine Qv 7 [0,3,4,8,9,10,20,22] [bx 0 1] [(22,.string x1.Worker)] ?_
    obtain ⟨y2,hy2,heq⟩:=bind_some heq
    refine RgH.does (cal 23 (config_IsWord_c hy2 )) ?_
    rintro _ _ _ _ ⟨_,rfl,rfl,rfl,rfl⟩
    refine Qk 11 [0,3,4,8,9,10,15] [(15,.bool (!y2))] ?_
    obtain rfl:=Option.some.inj heq
    refine Qg [0,3,4,8,9,10,15]<|Dn ?_
    exact Ge (K2)
  ·intro hb2 heq
   refine An 2 ?_
   exact Gt [] 0 [] (he1 heq)
theorem workers_CheckRuns_c [Wz w0] {a0:List Run} {Aa0:Option Addr} {na0 ca0:Nat} {r:Int} (heq:workers_CheckRuns.f a0=some r) (hra0:Rw kRun H F Aa0 a0) (hca0:na0≤ca0) (hna0:na0=a0.length):CallsH Tryz.prog 10 #[.slice Aa0 na0 ca0] H w0 (F) (S10 F H r):=by
 refine Co C10 Tryz.func10 Tryz.ntmps10 ?_
 subst hna0
 unfold workers_CheckRuns.f at heq
 refine Sa 1<|Qd 1 [0] []<|Sa 2<|Qd 3 [0,7] [(7,.bool (decide (4000<(a0.length:Int))))] ?_
 refine Cb heq ?_ ?_
 ·intro hb1 heq
  refine Sa 1<|Qd 1 [2] [(2,iv 2)] ?_
  obtain rfl:=Option.some.inj heq
  exact RunH.done (by kernel_rfl) Tryz.func10 (v:=iv 2) (by kernel_rfl) ⟨rfl,rfl,rfl⟩
 ·intro hb1 heq
  refine Sa 3<|Qd 3 [0,8,9,10] [(8,.slice Aa0 a0.length ca0),(9,iv (a0.length:Int)),(10,iv 0)]<|An 2 ?_
  exact Gt [0,8,9,10] 0 [] (((workers_CheckRuns.l2_c (e1:=workers_CheckRuns.e1) (workers_CheckRuns.e1_c)) big) a0 _ _ 0 hra0 hca0 heq)
def S13 (F:List Ch) (H0:Hp) (r:ByteArray) (v:Value) (H:Hp) (cs:List Ch):Prop:=H0=H∧v=.string r∧F=cs
theorem strconv_Itoa_c [Wz w0] {a0:Int} {r:ByteArray} (heq:strconv_Itoa.f a0=some r):CallsH Tryz.prog 13 #[iv a0] H w0 F (S13 F H r):=by
 unfold strconv_Itoa.f at heq
 obtain ⟨hn,heq⟩:=guard?_some heq
 obtain rfl:=Option.some.inj heq
 simp only [Bool.and_eq_true,decide_eq_true_eq] at hn
 exact itoa_calls (P := Tryz.prog) (name := "internal/strconv.uint64pow10") (g := 1) Shelf.Tryz.strconv_Itoa hn.1 hn.2
noncomputable def C12:Ctx:={ P:=Tryz.prog,f:=12,N:=75,c:=bodyOf Tryz.f12 }
def S12 (F:List Ch) (H0:Hp) (r:ByteArray) (v:Value) (H:Hp) (cs:List Ch):Prop:=H0=H∧v=.string r∧F=cs
theorem strings_Join.e3_c [Wz w0] {r:ByteArray}:∀ (g1:Nat) (v_b8:ByteArray) (chv_b8 cuv_b8:Ch) ,BlOwn 38 5 H F g1 v_b8 chv_b8 cuv_b8→strings_Join.e3 v_b8=some r→RunH C12 (S12 F H r) H w0 [.c [1,1,1,1,1,1,1,1,1,0],.c [1,1,1,1,1,1,1,1,1,1]] [(8,pg g1 0)] H (chv_b8::cuv_b8::F):=by
 intro g1 v_b8 chv_b8 cuv_b8 hov_b8 heq
 unfold strings_Join.e3 at heq
 refine Sa 0 ?_
 refine RgH.does (DoesH.call (d:=74) (g:=15) (args:=#[.pointer (some ⟨g1,0,none⟩)]) (by kernel_rfl) (string_calls (xs:=[]) Shelf.Tryz.Builder_String_any_k (by kernel_rfl) hov_b8)) ?_
 rintro _ _ _ _ ⟨_,rfl,rfl,rfl,rfl⟩
 refine Qd 2 [4] [(4,.string v_b8)] ?_
 obtain rfl:=Option.some.inj heq
 exact RunH.done (by kernel_rfl) Tryz.func12 (v:=.string v_b8) (by kernel_rfl) ⟨rfl,rfl,rfl⟩
theorem strings_Join.l4_c [Wz w0] {r:ByteArray} (e3:ByteArray→Option ByteArray)
  (he3:∀ (g1:Nat) (v_b8:ByteArray) (chv_b8 cuv_b8:Ch) ,BlOwn 38 5 H F g1 v_b8 chv_b8 cuv_b8→e3 v_b8=some r→RunH C12 (S12 F H r) H w0 [.c [1,1,1,1,1,1,1,1,1,0],.c [1,1,1,1,1,1,1,1,1,1]] [(8,pg g1 0)] H (chv_b8::cuv_b8::F)):∀ (k:Nat),∀ (a0:List ByteArray) (Aa0:Option Addr) (ca0:Nat) (a1:ByteArray) (g1:Nat) (v_b8:ByteArray) (chv_b8 cuv_b8:Ch) (v65:Int) ,a0.length - 1=(a0.drop 1).length→Rw Kd.string H F (shiftA ca0 1 1 Aa0) (a0.drop 1)→a0.length - 1≤ca0 - 1→BlOwn 38 5 H F g1 v_b8 chv_b8 cuv_b8→strings_Join.l4 e3 k a0 a1 v_b8 v65=some r→RunH C12 (S12 F H r) H w0 [.c [1,1,1,1,1,1,1,1,0,1,0,0],.l [1,1,1,1,1,1,1,1,0,1,0,0],.b 3,.c [1,1,1,1,1,1,1,1,1]] [(1,.string a1),(8,pg g1 0),(63,.slice (shiftA ca0 1 1 Aa0) (a0.length - 1) (ca0 - 1)),(64,iv ((a0.length - 1:Nat):Int)),(65,iv v65)] H (chv_b8::cuv_b8::F):=by
 intro k
 induction k with
 | zero=>intro a0 Aa0 ca0 a1 g1 v_b8 chv_b8 cuv_b8 v65 hn3 hr1 hc1 hov_b8 heq; exact nomatch (show (none:Option ByteArray)=some r from heq)
 | succ k ihk =>
  intro a0 Aa0 ca0 a1 g1 v_b8 chv_b8 cuv_b8 v65 hn3 hr1 hc1 hov_b8 heq
  rw [strings_Join.l4] at heq
  refine Sa 1<|Qd 1 [1,8,63,64,65,66] [(66,.bool (decide (v65<((a0.length - 1:Nat):Int))))]<|An 1 ?_
  refine Cb heq ?_ ?_
  ·intro hb4 heq
   refine Sa 4 ?_
   obtain ⟨x3,hx3,heq⟩:=bind_some heq
   obtain ⟨ha3,cs3,hK3,hcc3⟩:=hr1.get hx3
   obtain rfl:cs3=[.string x3]:=hK3
   refine Qw 3 [1,8,10,63,64,65] [ny ha3 hx3 (show a0.length - 1=_ from hn3),er hcc3 2 0] [(10,.string x3)]<|Sa 1<|Qk 1 [1,8,10,63,64,65,69] [(69,.string a1)] ?_
   obtain ⟨hn5,heq⟩:=guard?_some heq
   refine RgH.does (DoesH.call (d:=70) (g:=11) (args:=#[.pointer (some ⟨g1,0,none⟩),.string a1]) (by kernel_rfl) (write_calls (xs:=[]) Shelf.Tryz.Builder_WriteString_k (by kernel_rfl) hov_b8 (of_decide_eq_true hn5))) ?_
   rintro _ _ _ _ ⟨_,rfl,ch5,ch6,rfl,rfl,rfl,ho3⟩
   refine Dn<|Sa 0<|Qk 1 [1,8,63,64,65,71] [(71,.string x3)] ?_
   obtain ⟨hn6,heq⟩:=guard?_some heq
   refine RgH.does (DoesH.call (d:=72) (g:=11) (args:=#[.pointer (some ⟨g1,0,none⟩),.string x3]) (by kernel_rfl) (write_calls (xs:=[]) Shelf.Tryz.Builder_WriteString_k (by kernel_rfl) ho3 (of_decide_eq_true hn6))) ?_
   rintro _ _ _ _ ⟨_,rfl,ch7,ch8,rfl,rfl,rfl,ho4⟩
   refine Dn<|Sa 1<|Qd 2 [1,8,63,64,65] [(65,iv (w64 (v65+1)))]<|An 1 ?_
   exact Gt [1,8,63,64,65] 2 [0,1] (ihk a0 _ _ a1 _ ((v_b8++a1)++x3) _ _ (w64 (v65+1)) hn3 hr1 hc1 ho4 heq)
  ·intro hb4 heq
   refine An 2 ?_
   exact Gt [8] 2 [0,1] (he3 _ v_b8 _ _ hov_b8 heq)
theorem strings_Join.e2_c [Wz w0] {r:ByteArray}:∀ (a0:List ByteArray) (Aa0:Option Addr) (ca0:Nat) (a1:ByteArray) (v_n5:Int) ,Rw Kd.string H F Aa0 a0→a0.length≤ca0→strings_Join.e2 a0 a1 v_n5=some r→RunH C12 (S12 F H r) H w0 [.c [1,1,1,1,1,0],.c [1,1,1,1,1,1]] [(0,.slice Aa0 a0.length ca0),(1,.string a1),(5,iv v_n5)] H (F):=by
 intro a0 Aa0 ca0 a1 v_n5 hra0 hca0 heq
 unfold strings_Join.e2 at heq
 refine Sa 0 ?_
 refine RgH.does (DoesH.newBl (d:=8) (v:=fun g=>.pointer (some ⟨g,0,none⟩)) (T:=38) (e:=5) (xs:=[]) (F0:=F) (fun g=>by kernel_rfl) rfl) ?_
 rintro _ _ _ _ ⟨g1,rfl,rfl,rfl,hb3,hb3t⟩
 refine Dn<|Sa 1<|Qk 1 [0,1,8,56] [(56,iv v_n5)] ?_
 obtain ⟨hn1,heq⟩:=guard?_some heq
 refine RgH.does (DoesH.call (d:=57) (g:=26) (args:=#[.pointer (some ⟨g1,0,none⟩),iv v_n5]) (by kernel_rfl) (grow_callsI Shelf.Tryz.Builder_Grow_fresh hb3 hb3t (both_of hn1))) ?_
 rintro _ _ _ _ ⟨_,rfl,ch1,ch2,rfl,rfl,rfl,ho1⟩
 refine Dn<|Sa 1 ?_
 obtain ⟨x2,hx2,heq⟩:=bind_some heq
 obtain ⟨ha2,cs2,hK2,hcc2⟩:=hra0.get hx2
 obtain rfl:cs2=[.string x2]:=hK2
 refine Qv 3 [0,1,8,60] [nx ha2 hx2,er hcc2 2 0] [(60,.string x2)] ?_
 obtain ⟨hn2,heq⟩:=guard?_some heq
 refine RgH.does (DoesH.call (d:=61) (g:=11) (args:=#[.pointer (some ⟨g1,0,none⟩),.string x2]) (by kernel_rfl) (write_calls (xs:=[]) Shelf.Tryz.Builder_WriteString_k (by kernel_rfl) ho1 (of_decide_eq_true hn2))) ?_
 rintro _ _ _ _ ⟨_,rfl,ch3,ch4,rfl,rfl,rfl,ho2⟩
 refine Dn<|Sa 2 ?_
 obtain ⟨hn4,heq⟩:=guard?_some heq
 have hn3:a0.length - 1=(a0.drop 1).length:=by have h1:=both_of hn4; have h3:=trivial; (try simp); (try omega)
 have hr1:=Rw.drop hra0 1 ca0 (by have h2:=hca0; have h3:=trivial; omega)
 have hc1:a0.length - 1≤ca0 - 1:=by have h2:=hca0; have h1:=both_of hn4; omega
 refine Qw 4 [1,8,63,64,65] [⟨.need ((0:Int)≤1∧1≤((a0.length:Nat):Int)),fun w hh=>(both_of hn4)⟩] [(63,.slice (shiftA ca0 1 1 Aa0) (a0.length - 1) (ca0 - 1)),(64,iv ((a0.length - 1:Nat):Int)),(65,iv 0)]<|An 2 ?_
 exact Gt [1,8,63,64,65] 2 [0,1] (((strings_Join.l4_c (e3:=strings_Join.e3) (strings_Join.e3_c)) big) a0 _ _ a1 _ ((⟨#[]⟩:ByteArray)++x2) _ _ 0 hn3 hr1 hc1 ho2 heq)
theorem strings_Join.j6_c [Wz w0] {r:ByteArray} (backl5:(List ByteArray)→ByteArray→Int→Int→Option ByteArray)
  (hbackl5:∀ (a0:List ByteArray) (Aa0:Option Addr) (ca0:Nat) (a1:ByteArray) (v_n5 v41:Int) ,Rw Kd.string H F Aa0 a0→a0.length≤ca0→backl5 a0 a1 v_n5 v41=some r→RunH C12 (S12 F H r) H w0 [.c [1,1,1,1,0,1,0,0],.l [1,1,1,1,0,1,0,0],.b 1,.c [1,1,1,1,1]] [(0,.slice Aa0 a0.length ca0),(1,.string a1),(5,iv v_n5),(39,.slice Aa0 a0.length ca0),(40,iv (a0.length:Int)),(41,iv v41)] H (F)):∀ (a0:List ByteArray) (Aa0:Option Addr) (ca0:Nat) (a1:ByteArray) (v_n5 v41:Int) (x4:ByteArray) ,Rw Kd.string H F Aa0 a0→a0.length≤ca0→strings_Join.j6 backl5 a0 a1 v_n5 v41 x4=some r→RunH C12 (S12 F H r) H w0 [.c [1,1,1,1,0,1,0,0,1,1,0,0,1,1],.b 2,.c [1,1,1,1,0,1,0,0,1,1,1],.l [1,1,1,1,0,1,0,0],.b 1,.c [1,1,1,1,1]] [(0,.slice Aa0 a0.length ca0),(1,.string a1),(5,iv v_n5),(7,.string x4),(39,.slice Aa0 a0.length ca0),(40,iv (a0.length:Int)),(41,iv v41)] H (F):=by
 intro a0 Aa0 ca0 a1 v_n5 v41 x4 hra0 hca0 heq
 unfold strings_Join.j6 at heq
 refine Sa 0<|Qd 5 [0,1,5,39,40,41] [(5,iv (w64 (v_n5+(x4.size:Int))))]<|Sa 1<|Qd 2 [0,1,5,39,40,41] [(41,iv (w64 (v41+1)))]<|An 1 ?_
 exact Gt [0,1,5,39,40,41] 0 [] (hbackl5 a0 _ _ a1 (w64 (v_n5+(x4.size:Int))) (w64 (v41+1)) hra0 hca0 heq)
theorem strings_Join.l5_c [Wz w0] {r:ByteArray} (e2:(List ByteArray)→ByteArray→Int→Option ByteArray)
  (he2:∀ (a0:List ByteArray) (Aa0:Option Addr) (ca0:Nat) (a1:ByteArray) (v_n5:Int) ,Rw Kd.string H F Aa0 a0→a0.length≤ca0→e2 a0 a1 v_n5=some r→RunH C12 (S12 F H r) H w0 [.c [1,1,1,1,1,0],.c [1,1,1,1,1,1]] [(0,.slice Aa0 a0.length ca0),(1,.string a1),(5,iv v_n5)] H (F)):∀ (k:Nat),∀ (a0:List ByteArray) (Aa0:Option Addr) (ca0:Nat) (a1:ByteArray) (v_n5 v41:Int) ,Rw Kd.string H F Aa0 a0→a0.length≤ca0→strings_Join.l5 e2 k a0 a1 v_n5 v41=some r→RunH C12 (S12 F H r) H w0 [.c [1,1,1,1,0,1,0,0],.l [1,1,1,1,0,1,0,0],.b 1,.c [1,1,1,1,1]] [(0,.slice Aa0 a0.length ca0),(1,.string a1),(5,iv v_n5),(39,.slice Aa0 a0.length ca0),(40,iv (a0.length:Int)),(41,iv v41)] H (F):=by
 intro k
 induction k with
 | zero=>intro a0 Aa0 ca0 a1 v_n5 v41 hra0 hca0 heq; exact nomatch (show (none:Option ByteArray)=some r from heq)
 | succ k ihk =>
  intro a0 Aa0 ca0 a1 v_n5 v41 hra0 hca0 heq
  rw [strings_Join.l5] at heq
  refine Sa 1<|Qd 1 [0,1,5,39,40,41,42] [(42,.bool (decide (v41<(a0.length:Int))))]<|An 1 ?_
  refine Cb heq ?_ ?_
  ·intro hb5 heq
   refine Sa 4 ?_
   obtain ⟨x4,hx4,heq⟩:=bind_some heq
   obtain ⟨ha4,cs4,hK4,hcc4⟩:=hra0.get hx4
   obtain rfl:cs4=[.string x4]:=hK4
   refine Qw 3 [0,1,5,7,39,40,41] [nx ha4 hx4,er hcc4 0 0] [(7,.string x4)]<|Sa 2<|Qd 5 [0,1,5,7,39,40,41,49] [(49,.bool (decide ((w64 (9223372036854775807 - v_n5))<(x4.size:Int))))] ?_
   refine Cb heq ?_ ?_
   ·intro hb6 heq
    cases heq
   ·intro hb6 heq
    refine An 1 ?_
    exact Gt [0,1,5,7,39,40,41] 0 [] ((strings_Join.j6_c (backl5:=(strings_Join.l5 e2 k)) ihk) a0 _ _ a1 v_n5 v41 x4 hra0 hca0 heq)
  ·intro hb5 heq
   refine An 2 ?_
   exact Gt [0,1,5] 0 [] (he2 a0 _ _ a1 v_n5 hra0 hca0 heq)
theorem strings_Join.j1_c [Wz w0] {r:ByteArray}:∀ (a0:List ByteArray) (Aa0:Option Addr) (ca0:Nat) (a1:ByteArray) (v_n5:Int) ,Rw Kd.string H F Aa0 a0→a0.length≤ca0→strings_Join.j1 a0 a1 v_n5=some r→RunH C12 (S12 F H r) H w0 [.c [1,1,1,1,0,0],.c [1,1,1,1,0,1],.c [1,1,1,1,1]] [(0,.slice Aa0 a0.length ca0),(1,.string a1),(5,iv v_n5)] H (F):=by
 intro a0 Aa0 ca0 a1 v_n5 hra0 hca0 heq
 unfold strings_Join.j1 at heq
 refine Sa 0<|Qd 3 [0,1,5,39,40,41] [(39,.slice Aa0 a0.length ca0),(40,iv (a0.length:Int)),(41,iv 0)]<|An 2 ?_
 exact Gt [0,1,5,39,40,41] 0 [] (((strings_Join.l5_c (e2:=strings_Join.e2) (strings_Join.e2_c)) big) a0 _ _ a1 v_n5 0 hra0 hca0 heq)
theorem strings_Join.j7_c [Wz w0] {r:ByteArray} (j1:(List ByteArray)→ByteArray→Int→Option ByteArray)
  (hj1:∀ (a0:List ByteArray) (Aa0:Option Addr) (ca0:Nat) (a1:ByteArray) (v_n5:Int) ,Rw Kd.string H F Aa0 a0→a0.length≤ca0→j1 a0 a1 v_n5=some r→RunH C12 (S12 F H r) H w0 [.c [1,1,1,1,0,0],.c [1,1,1,1,0,1],.c [1,1,1,1,1]] [(0,.slice Aa0 a0.length ca0),(1,.string a1),(5,iv v_n5)] H (F)):∀ (a0:List ByteArray) (Aa0:Option Addr) (ca0:Nat) (a1:ByteArray) ,Rw Kd.string H F Aa0 a0→a0.length≤ca0→strings_Join.j7 j1 a0 a1=some r→RunH C12 (S12 F H r) H w0 [.c [1,1,1,0,1,0,1],.c [1,1,1,1]] [(0,.slice Aa0 a0.length ca0),(1,.string a1),(5,iv 0)] H (F):=by
 intro a0 Aa0 ca0 a1 hra0 hca0 heq
 unfold strings_Join.j7 at heq
 refine Sa 0<|Qd 9 [0,1,5] [(5,iv (w64 (0+(w64 ((a1.size:Int)*(w64 ((a0.length:Int) - 1)))))))]<|An 2 ?_
 exact Gt [0,1,5] 0 [] (hj1 a0 _ _ a1 (w64 (0+(w64 ((a1.size:Int)*(w64 ((a0.length:Int) - 1)))))) hra0 hca0 heq)
theorem strings_Join_c [Wz w0] {a0:List ByteArray} {Aa0:Option Addr} {na0 ca0:Nat} {a1:ByteArray} {r:ByteArray} (heq:strings_Join.f a0 a1=some r) (hra0:Rw Kd.string H F Aa0 a0) (hca0:na0≤ca0) (hna0:na0=a0.length):CallsH Tryz.prog 12 #[.slice Aa0 na0 ca0,.string a1] H w0 (F) (S12 F H r):=by
 refine Co C12 Tryz.func12 Tryz.ntmps12 ?_
 subst hna0
 unfold strings_Join.f at heq
 refine Sa 1<|Qd 1 [0,1] []<|Sa 2<|Qd 2 [0,1,12] [(12,iv (a0.length:Int))]<|Sa 2<|Qd 2 [0,1,12,13] [(13,.bool ((a0.length:Int) == 0))] ?_
 refine Cb heq ?_ ?_
 ·intro hb1 heq
  refine Sa 1<|Qd 1 [4] [(4,.string ({ data:=#[] }:ByteArray))] ?_
  obtain rfl:=Option.some.inj heq
  exact RunH.done (by kernel_rfl) Tryz.func12 (v:=.string ({ data:=#[] }:ByteArray)) (by kernel_rfl) ⟨rfl,rfl,rfl⟩
 ·intro hb1 heq
  refine Sa 1<|Qd 2 [0,1,15] [(15,.bool ((a0.length:Int) == 1))] ?_
  refine Cb heq ?_ ?_
  ·intro hb2 heq
   refine Sa 1 ?_
   obtain ⟨x1,hx1,heq⟩:=bind_some heq
   obtain ⟨ha1,cs1,hK1,hcc1⟩:=hra0.get hx1
   obtain rfl:cs1=[.string x1]:=hK1
   refine Qw 4 [4] [nx ha1 hx1,er hcc1 0 0] [(4,.string x1)] ?_
   obtain rfl:=Option.some.inj heq
   exact RunH.done (by kernel_rfl) Tryz.func12 (v:=.string x1) (by kernel_rfl) ⟨rfl,rfl,rfl⟩
  ·intro hb2 heq
   refine Sa 3<|Qd 1 [0,1,5] [(5,iv 0)]<|Sa 2<|Qd 3 [0,1,5,22] [(22,.bool (decide (0<(a1.size:Int))))] ?_
   refine Cb heq ?_ ?_
   ·intro hb7 heq
    refine Sa 2 ?_
    obtain ⟨hn7,heq⟩:=guard?_some heq
    refine Qw 7 [0,1,5,29] [nz hn7] [(29,.bool (decide ((w64 ((9223372036854775807:Int).tdiv (w64 ((a0.length:Int) - 1))))≤(a1.size:Int))))] ?_
    refine Cb heq ?_ ?_
    ·intro hb8 heq
     cases heq
    ·intro hb8 heq
     refine An 1 ?_
     exact Gt [0,1,5] 0 [] ((strings_Join.j7_c (j1:=strings_Join.j1) (strings_Join.j1_c)) a0 _ _ a1 hra0 hca0 heq)
   ·intro hb7 heq
    refine An 3 ?_
    exact Gt [0,1,5] 0 [] ((strings_Join.j1_c) a0 _ _ a1 0 hra0 hca0 heq)
noncomputable def C5:Ctx:={ P:=Tryz.prog,f:=5,N:=43,c:=bodyOf Tryz.f5 }
def S5 (F:List Ch) (H0:Hp) (r:ByteArray × Int) (v:Value) (H:Hp) (cs:List Ch):Prop:=H0=H∧v=.tuple #[.string r.1,iv r.2]∧F=cs
theorem workers_Text.e1_c [Wz w0] {r:ByteArray × Int}:∀ (g1:Nat) (v_b5:ByteArray) (chv_b5 cuv_b5:Ch) ,BlOwn 38 5 H F g1 v_b5 chv_b5 cuv_b5→workers_Text.e1 v_b5=some r→RunH C5 (S5 F H r) H w0 [.c [1,1,1,1,1,0,0],.c [1,1,1,1,1,0,1],.c [1,1,1,1,1,1]] [(5,pg g1 0)] H (chv_b5::cuv_b5::F):=by
 intro g1 v_b5 chv_b5 cuv_b5 hov_b5 heq
 unfold workers_Text.e1 at heq
 refine Sa 0 ?_
 refine RgH.does (DoesH.call (d:=40) (g:=14) (args:=#[.pointer (some ⟨g1,0,none⟩)]) (by kernel_rfl) (len_calls Shelf.Tryz.Builder_Len_f hov_b5)) ?_
 rintro _ _ _ _ ⟨_,rfl,rfl,rfl,rfl⟩
 refine Qd 2 [5,41] [(41,.bool (decide (600000<(v_b5.size:Int))))] ?_
 refine Cb heq ?_ ?_
 ·intro hb3 heq
  refine Sa 1<|Qd 2 [2,3] [(2,.string ({ data:=#[] }:ByteArray)),(3,iv 2)] ?_
  obtain rfl:=Option.some.inj heq
  refine Up 2 [] ?_
  exact RunH.done (by kernel_rfl) Tryz.func5 (v:=.tuple #[.string ({ data:=#[] }:ByteArray),iv 2]) (by kernel_rfl) ⟨rfl,rfl,rfl⟩
 ·intro hb3 heq
  refine Sa 2 ?_
  refine RgH.does (DoesH.call (d:=42) (g:=15) (args:=#[.pointer (some ⟨g1,0,none⟩)]) (by kernel_rfl) (string_calls (xs:=[]) Shelf.Tryz.Builder_String_any_k (by kernel_rfl) hov_b5)) ?_
  rintro _ _ _ _ ⟨_,rfl,rfl,rfl,rfl⟩
  refine Qd 3 [2,3] [(2,.string v_b5),(3,iv 0)] ?_
  obtain rfl:=Option.some.inj heq
  exact RunH.done (by kernel_rfl) Tryz.func5 (v:=.tuple #[.string v_b5,iv 0]) (by kernel_rfl) ⟨rfl,rfl,rfl⟩
theorem workers_Text.l2_c [Wz w0] {r:ByteArray × Int} (e1:ByteArray→Option (ByteArray × Int))
  (he1:∀ (g1:Nat) (v_b5:ByteArray) (chv_b5 cuv_b5:Ch) ,BlOwn 38 5 H F g1 v_b5 chv_b5 cuv_b5→e1 v_b5=some r→RunH C5 (S5 F H r) H w0 [.c [1,1,1,1,1,0,0],.c [1,1,1,1,1,0,1],.c [1,1,1,1,1,1]] [(5,pg g1 0)] H (chv_b5::cuv_b5::F)):∀ (k:Nat),∀ (a0:List Run) (Aa0:Option Addr) (ca0 g1 g2:Nat) (v_b5:ByteArray) (chv_b5 cuv_b5:Ch) (v17:Int) ,Rw kRun H F Aa0 a0→a0.length≤ca0→SlOwn Kd.string 39 H (some ⟨g2,0,none⟩) 4 ([({ data:=#[] }:ByteArray),({ data:=#[100,111,110,101] }:ByteArray),({ data:=#[108,111,115,116] }:ByteArray),({ data:=#[115,116,111,112,112,101,100] }:ByteArray)]:List ByteArray) (some (g2,.cells #[.string ({ data:=#[] }:ByteArray),.string ({ data:=#[100,111,110,101] }:ByteArray),.string ({ data:=#[108,111,115,116] }:ByteArray),.string ({ data:=#[115,116,111,112,112,101,100] }:ByteArray)] 39 (0,0)))→BlOwn 38 5 H F g1 v_b5 chv_b5 cuv_b5→workers_Text.l2 e1 k a0 v_b5 v17=some r→RunH C5 (S5 F H r) H w0 [.c [1,1,1,1,0,1,0,0],.l [1,1,1,1,0,1,0,0],.b 0,.c [1,1,1,1,1]] [(5,pg g1 0),(6,pg g2 0),(15,.slice Aa0 a0.length ca0),(16,iv (a0.length:Int)),(17,iv v17)] H ((some (g2,.cells #[.string ({ data:=#[] }:ByteArray),.string ({ data:=#[100,111,110,101] }:ByteArray),.string ({ data:=#[108,111,115,116] }:ByteArray),.string ({ data:=#[115,116,111,112,112,101,100] }:ByteArray)] 39 (0,0)))::chv_b5::cuv_b5::F):=by
 intro k
 induction k with
 | zero=>intro a0 Aa0 ca0 g1 g2 v_b5 chv_b5 cuv_b5 v17 hra0 hca0 ho3 hov_b5 heq; exact nomatch (show (none:Option (ByteArray × Int))=some r from heq)
 | succ k ihk =>
  intro a0 Aa0 ca0 g1 g2 v_b5 chv_b5 cuv_b5 v17 hra0 hca0 ho3 hov_b5 heq
  rw [workers_Text.l2] at heq
  refine Sa 1<|Qd 1 [5,6,15,16,17,18] [(18,.bool (decide (v17<(a0.length:Int))))]<|An 1 ?_
  refine Cb heq ?_ ?_
  ·intro hb4 heq
   refine Sa 4 ?_
   obtain ⟨x1,hx1,heq⟩:=bind_some heq
   obtain ⟨ha1,cs1,hK1,hcc1⟩:=hra0.get hx1
   obtain ⟨rfl⟩:=kRun_open hK1
   refine Qv 2 [5,6,15,16,17,20] ([nx ha1 hx1]++ers hcc1 3) [(20,.agg #[.string x1.Id,.string x1.Worker,iv x1.From,iv x1.To,iv x1.End])] ?_
   refine RgH.does (DoesH.new (d:=8) (v:=fun g=>.pointer (some ⟨g,0,none⟩)) (o:=fun g=>.cells #[.string ByteArray.empty,.string ByteArray.empty,iv 0,iv 0,iv 0] 25 (0,0)) (fun g=>by kernel_rfl)) ?_
   rintro _ _ _ _ ⟨g3,rfl,rfl,rfl⟩
   refine RgH.does (DoesH.store (k:=0) (g:=g3) (off:=0) (v:=.agg #[.string x1.Id,.string x1.Worker,iv x1.From,iv x1.To,iv x1.End]) (cells':=#[.string x1.Id,.string x1.Worker,iv x1.From,iv x1.To,iv x1.End]) (by kernel_rfl) rfl (by kernel_rfl) (by kernel_rfl)) ?_
   rintro _ _ _ _ ⟨rfl,rfl,rfl⟩
   refine Dn<|Qp [5,6,8,15,16,17]<|Sd 4 18 [0,1] [3,3,0,3,3,0,3,3,3,3,3,3,3,3,0,0,3,1] ?_
   obtain ⟨x2,hx2,heq⟩:=bind_some heq
   obtain ⟨ha2,cs2,hK2,hcc2⟩:=ho3.get hx2
   obtain rfl:cs2=[.string x2]:=hK2
   refine Qt [0,1,3,4,6,7,8,9,10,11,12,13] 6 [5,6,15,16,17,22,25,30,32,34] [bx 0 2,bx 0 3,bx 0 4,⟨.need ((0:Int)≤x1.End∧x1.End<((4:Nat):Int)),fun w hh=>⟨(at?_some hx2).1,(at?_some hx2).2.1⟩⟩,el hcc2 1 0,bx 0 0,bx 0 1] [(22,iv x1.From),(25,iv x1.To),(30,.string x2),(32,.string x1.Id),(34,.string x1.Worker)] (Pk 4 [0,1]) ?_
   obtain ⟨y2,hy2,heq⟩:=bind_some heq
   refine Dz 2 (cal 23 (strconv_Itoa_c (a0:=x1.From)  hy2)) ?_
   rintro _ _ _ _ ⟨_,rfl,rfl,rfl,rfl⟩
   refine ⟨fun _ w hh=>⟨fun _=>(Pk 4 [0,1,2,3]) w hh,fun _=>(Pk 4 [0,1]) w hh,(fun h=>by cases h)⟩,?_⟩
   refine Qr [5,6,15,16,17,23,25,30,32,34] ?_
   obtain ⟨y3,hy3,heq⟩:=bind_some heq
   refine Dz 5 (cal 26 (strconv_Itoa_c (a0:=x1.To)  hy3)) ?_
   rintro _ _ _ _ ⟨_,rfl,rfl,rfl,rfl⟩
   refine ⟨fun _ w hh=>⟨fun _=>(Pk 4 [0,1,2,3]) w hh,fun _=>(Pk 4 [0,1]) w hh,(fun h=>by cases h)⟩,?_⟩
   refine Qr [5,6,15,16,17,23,26,30,32,34] ?_
   refine Dz 14 (DoesH.new (d:=35) (v:=fun g=>.slice (some ⟨g,0,none⟩) 5 5) (o:=fun g=>.cells #[.string y2,.string y3,.string x2,.string x1.Id,.string x1.Worker] 9 (0,0)) (fun g=>by kernel_rfl)) ?_
   rintro _ _ _ _ ⟨g4,rfl,rfl,rfl⟩
   have ho4:SlOwn Kd.string 9 H (some ⟨g4,0,none⟩) 5 ([y2,y3,x2,x1.Id,x1.Worker]:List ByteArray) (some (g4,.cells #[.string y2,.string y3,.string x2,.string x1.Id,.string x1.Worker] 9 (0,0))):=SlOwn.lit (xs:=([y2,y3,x2,x1.Id,x1.Worker]:List ByteArray)) (by kernel_rfl) (Nat.le_of_ble_eq_true (by kernel_rfl)) (Kd.Rep.scalars rfl)
   refine ⟨fun _ w hh=>⟨fun _=>(Pk 5 [1,2,3,4]) w hh,fun _=>(Pk 5 [1,2]) w hh,(fun h=>by cases h)⟩,?_⟩
   refine Qr [5,6,15,16,17,35] ?_
   obtain ⟨y4,hy4,heq⟩:=bind_some heq
   refine Dz 15 (cal 36 (strings_Join_c hy4 (ho4.rw (.head _)) ho4.cap rfl)) ?_
   rintro _ _ _ _ ⟨_,rfl,rfl,rfl,rfl⟩
   refine ⟨fun _ w hh=>⟨fun _=>(Pk 5 [1,2,3,4]) w hh,fun _=>(Pk 5 [1,2]) w hh,(fun h=>by cases h)⟩,?_⟩
   obtain ⟨hn1,heq⟩:=guard?_some heq
   refine Qs [16] 1 [5,6,15,16,17,37] [n1 hn1] [(37,.string (y4++({ data:=#[10] }:ByteArray)))] (Pk 5 [1,2,3,4]) (Pk 4 [0,1])<|Ur 5 [3,4,0,1,2] ?_
   obtain ⟨hn2,heq⟩:=guard?_some heq
   refine Dz 17 (DoesH.call (d:=38) (g:=11) (args:=#[.pointer (some ⟨g1,0,none⟩),.string (y4++({ data:=#[10] }:ByteArray))]) (by kernel_rfl) (write_calls (xs:=[(some (g4,.cells #[.string y2,.string y3,.string x2,.string x1.Id,.string x1.Worker] 9 (0,0))),(some (g3,.cells #[.string x1.Id,.string x1.Worker,iv x1.From,iv x1.To,iv x1.End] 25 (0,0))),(some (g2,.cells #[.string ({ data:=#[] }:ByteArray),.string ({ data:=#[100,111,110,101] }:ByteArray),.string ({ data:=#[108,111,115,116] }:ByteArray),.string ({ data:=#[115,116,111,112,112,101,100] }:ByteArray)] 39 (0,0)))]) Shelf.Tryz.Builder_WriteString_k (by kernel_rfl) hov_b5 (of_decide_eq_true hn2))) ?_
   rintro _ _ _ _ ⟨_,rfl,ch1,ch2,rfl,rfl,rfl,ho5⟩
   refine ⟨fun _ w hh=>⟨(fun h=>by cases h),fun _=>(Pk 5 [3,4]) w hh,(fun h=>by cases h)⟩,?_⟩
   refine Qr [5,6,15,16,17] ?_
   refine DrH.done (by kernel_rfl) ?_
   refine Sa 1<|Qd 2 [5,6,15,16,17] [(17,iv (w64 (v17+1)))]<|An 1 ?_
   exact Gt [5,6,15,16,17] 5 [4,0,1] (ihk a0 _ _ _ _ (v_b5++(y4++({ data:=#[10] }:ByteArray))) _ _ (w64 (v17+1)) hra0 hca0 ho3 ho5 heq)
  ·intro hb4 heq
   refine An 3 ?_
   exact Gt [5] 3 [1,2] (he1 _ v_b5 _ _ hov_b5 heq)
theorem workers_Text_c [Wz w0] {a0:List Run} {Aa0:Option Addr} {na0 ca0:Nat} {r:ByteArray × Int} (heq:workers_Text.f a0=some r) (hra0:Rw kRun H F Aa0 a0) (hca0:na0≤ca0) (hna0:na0=a0.length):CallsH Tryz.prog 5 #[.slice Aa0 na0 ca0] H w0 (F) (S5 F H r):=by
 refine Co C5 Tryz.func5 Tryz.ntmps5 ?_
 subst hna0
 unfold workers_Text.f at heq
 refine Sa 1<|Qd 2 [0] []<|Sa 2<|Qk 1 [0,9] [(9,.slice Aa0 a0.length ca0)] ?_
 obtain ⟨y1,hy1,heq⟩:=bind_some heq
 refine RgH.does (cal 10 (workers_CheckRuns_c hy1 hra0 hca0 rfl)) ?_
 rintro _ _ _ _ ⟨_,rfl,rfl,rfl,rfl⟩
 refine Qd 3 [0,4] [(4,iv y1)]<|Sa 1<|Qd 2 [0,4,12] [(12,.bool (y1 != 0))] ?_
 refine Cb heq ?_ ?_
 ·intro hb1 heq
  refine Sa 1<|Qd 3 [2,3] [(2,.string ({ data:=#[] }:ByteArray)),(3,iv y1)] ?_
  obtain rfl:=Option.some.inj heq
  exact RunH.done (by kernel_rfl) Tryz.func5 (v:=.tuple #[.string ({ data:=#[] }:ByteArray),iv y1]) (by kernel_rfl) ⟨rfl,rfl,rfl⟩
 ·intro hb1 heq
  refine Sa 2 ?_
  refine RgH.does (DoesH.newBl (d:=5) (v:=fun g=>.pointer (some ⟨g,0,none⟩)) (T:=38) (e:=5) (xs:=[]) (F0:=F) (fun g=>by kernel_rfl) rfl) ?_
  rintro _ _ _ _ ⟨g1,rfl,rfl,rfl,hb2,hb2t⟩
  refine Dn<|Sa 1<|Qk 1 [0,5,14] [(14,.agg #[.string ({ data:=#[] }:ByteArray),.string ({ data:=#[100,111,110,101] }:ByteArray),.string ({ data:=#[108,111,115,116] }:ByteArray),.string ({ data:=#[115,116,111,112,112,101,100] }:ByteArray)])] ?_
  refine RgH.does (DoesH.new (d:=6) (v:=fun g=>.pointer (some ⟨g,0,none⟩)) (o:=fun g=>.cells #[.string ByteArray.empty,.string ByteArray.empty,.string ByteArray.empty,.string ByteArray.empty] 39 (0,0)) (fun g=>by kernel_rfl)) ?_
  rintro _ _ _ _ ⟨g2,rfl,rfl,rfl⟩
  have ho2:SlOwn Kd.string 39 H (some ⟨g2,0,none⟩) 4 ([ByteArray.empty,ByteArray.empty,ByteArray.empty,ByteArray.empty]:List ByteArray) (some (g2,.cells #[.string ByteArray.empty,.string ByteArray.empty,.string ByteArray.empty,.string ByteArray.empty] 39 (0,0))):=SlOwn.lit (xs:=([ByteArray.empty,ByteArray.empty,ByteArray.empty,ByteArray.empty]:List ByteArray)) (by kernel_rfl) (Nat.le_of_ble_eq_true (by kernel_rfl)) (Kd.Rep.scalars rfl)
  refine RgH.does (DoesH.store (k:=0) (g:=g2) (off:=0) (v:=.agg #[.string ({ data:=#[] }:ByteArray),.string ({ data:=#[100,111,110,101] }:ByteArray),.string ({ data:=#[108,111,115,116] }:ByteArray),.string ({ data:=#[115,116,111,112,112,101,100] }:ByteArray)]) (cells':=#[.string ({ data:=#[] }:ByteArray),.string ({ data:=#[100,111,110,101] }:ByteArray),.string ({ data:=#[108,111,115,116] }:ByteArray),.string ({ data:=#[115,116,111,112,112,101,100] }:ByteArray)]) (by kernel_rfl) rfl (by kernel_rfl) (by kernel_rfl)) ?_
  rintro _ _ _ _ ⟨rfl,rfl,rfl⟩
  have ho3:SlOwn Kd.string 39 H (some ⟨g2,0,none⟩) 4 ([({ data:=#[] }:ByteArray),({ data:=#[100,111,110,101] }:ByteArray),({ data:=#[108,111,115,116] }:ByteArray),({ data:=#[115,116,111,112,112,101,100] }:ByteArray)]:List ByteArray) (some (g2,.cells #[.string ({ data:=#[] }:ByteArray),.string ({ data:=#[100,111,110,101] }:ByteArray),.string ({ data:=#[108,111,115,116] }:ByteArray),.string ({ data:=#[115,116,111,112,112,101,100] }:ByteArray)] 39 (0,0))):=SlOwn.lit (xs:=([({ data:=#[] }:ByteArray),({ data:=#[100,111,110,101] }:ByteArray),({ data:=#[108,111,115,116] }:ByteArray),({ data:=#[115,116,111,112,112,101,100] }:ByteArray)]:List ByteArray)) (by kernel_rfl) (Nat.le_of_ble_eq_true (by kernel_rfl)) (Kd.Rep.scalars rfl)
  refine Dn<|Sa 2<|Qd 3 [5,6,15,16,17] [(15,.slice Aa0 a0.length ca0),(16,iv (a0.length:Int)),(17,iv 0)]<|An 2 ?_
  exact Gt [5,6,15,16,17] 3 [0,1,2] (((workers_Text.l2_c (e1:=workers_Text.e1) (workers_Text.e1_c)) big) a0 _ _ _ _ (⟨#[]⟩:ByteArray) _ _ 0 hra0 hca0 ho3 hb2 heq)
noncomputable def C29:Ctx:={ P:=Tryz.prog,f:=29,N:=15,c:=bodyOf Tryz.f29 }
def S29 (F:List Ch) (H0:Hp) (r:Bool) (v:Value) (H:Hp) (cs:List Ch):Prop:=H0=H∧v=.bool r∧F=cs
theorem smithyardref9_within_c [Wz w0] {a0 a1 a2:Int} {r:Bool} (heq:smithyardref9_within.f a0 a1 a2=some r):CallsH Tryz.prog 29 #[iv a0,iv a1,iv a2] H w0 (F) (S29 F H r):=by
 refine Co C29 Tryz.func29 Tryz.ntmps29 ?_
 unfold smithyardref9_within.f at heq
 refine Sa 1<|Qd 1 [0,1,2] []<|An 1 ?_
 obtain ⟨t1,ht1,heq⟩:=bind_some heq
 have K1:RunH C29 (S29 F H r) H w0 [.c [1,1]] [(6,.bool t1)] H (F):=by
  obtain rfl:=Option.some.inj heq
  exact RunH.done (by kernel_rfl) Tryz.func29 (v:=.bool t1) (by kernel_rfl) ⟨rfl,rfl,rfl⟩
 replace heq:=ht1
 refine Sa 0<|Qk 4 [10,0,2] [(10,.bool (decide (a1≤a0)))] ?_
 rcases bool_cases (decide (a1≤a0)) with hb1 | hb1
 ·replace heq:=bif_true hb1 heq
  refine RgH.val1 (v':=.bool true) (congrArg Value.bool hb1) ?_
  refine Qk 9 [6] [(6,.bool (decide (a0≤a2)))] ?_
  obtain rfl:=Option.some.inj heq
  refine Qg [6]<|Dn ?_
  exact Ge (K1)
 ·replace heq:=bif_false hb1 heq
  refine RgH.val1 (v':=.bool false) (congrArg Value.bool hb1) ?_
  refine Qk 9 [6] [(6,.bool false)] ?_
  obtain rfl:=Option.some.inj heq
  refine Qg [6]<|Dn ?_
  exact Ge (K1)
noncomputable def C28:Ctx:={ P:=Tryz.prog,f:=28,N:=50,c:=bodyOf Tryz.f28 }
def S28 (F:List Ch) (H0:Hp) (r:Bool) (v:Value) (H:Hp) (cs:List Ch):Prop:=H0=H∧v=.bool r∧F=cs
theorem smithyardref9_isWord.e1_c [Wz w0] {r:Bool}:smithyardref9_isWord.e1=some r→RunH C28 (S28 F H r) H w0 [.c [1,1,1,0],.c [1,1,1,1]] [] H (F):=by
 intro   heq
 unfold smithyardref9_isWord.e1 at heq
 refine Sa 0<|Qd 1 [2] [(2,.bool true)] ?_
 obtain rfl:=Option.some.inj heq
 exact RunH.done (by kernel_rfl) Tryz.func28 (v:=.bool true) (by kernel_rfl) ⟨rfl,rfl,rfl⟩
theorem smithyardref9_isWord.l2_c [Wz w0] {r:Bool} (e1:Option Bool)
  (he1:e1=some r→RunH C28 (S28 F H r) H w0 [.c [1,1,1,0],.c [1,1,1,1]] [] H (F)):∀ (k:Nat),∀ (a0:ByteArray) (v21:Int) ,smithyardref9_isWord.l2 e1 k a0 v21=some r→RunH C28 (S28 F H r) H w0 [.c [1,1,0,1,0,0],.l [1,1,0,1,0,0],.b 0,.c [1,1,1]] [(0,.string a0),(20,iv (a0.size:Int)),(21,iv v21)] H (F):=by
 intro k
 induction k with
 | zero=>intro a0 v21  heq; exact nomatch (show (none:Option Bool)=some r from heq)
 | succ k ihk =>
  intro a0 v21  heq
  rw [smithyardref9_isWord.l2] at heq
  refine Sa 1<|Qd 1 [0,20,21,22] [(22,.bool (decide (v21<(a0.size:Int))))]<|An 1 ?_
  refine Cb heq ?_ ?_
  ·intro hb4 heq
   refine Sa 4<|Qd 2 [0,3,20,21] [(3,iv v21)]<|Sa 1 ?_
   obtain ⟨hn3,heq⟩:=guard?_some heq
   refine Qw 4 [0,4,20,21] [n2 hn3] [(4,.int .u8 (bt a0 v21))]<|An 1 ?_
   obtain ⟨t2,ht2,heq⟩:=bind_some heq
   have K2:RunH C28 (S28 F H r) H w0 [.c [1,1,0,1,0,0,1,1,0,0,1,1,1],.b 1,.c [1,1,0,1,0,0,1,1,1],.l [1,1,0,1,0,0],.b 0,.c [1,1,1]] [(0,.string a0),(20,iv (a0.size:Int)),(21,iv v21),(48,.bool t2)] H (F):=by
    refine Cb heq ?_ ?_
    ·intro hb15 heq
     refine Sa 1<|Qd 1 [2] [(2,.bool false)] ?_
     obtain rfl:=Option.some.inj heq
     exact RunH.done (by kernel_rfl) Tryz.func28 (v:=.bool false) (by kernel_rfl) ⟨rfl,rfl,rfl⟩
    ·intro hb15 heq
     refine Sa 2<|Qd 2 [0,20,21] [(21,iv (w64 (v21+1)))]<|An 1 ?_
     exact Gt [0,20,21] 0 [] (ihk a0 (w64 (v21+1)) heq)
   replace heq:=ht2
   refine Sa 0<|Qk 3 [29,0,4,20,21] [(29,.bool (decide ((bt a0 v21)<97)))] ?_
   rcases bool_cases (decide ((bt a0 v21)<97)) with hb5 | hb5
   ·replace heq:=bif_true hb5 heq
    refine RgH.val1 (v':=.bool true) (congrArg Value.bool hb5) ?_
    refine Qk 10 [36,0,4,20,21,33] [(36,.bool (decide ((bt a0 v21)<48))),(33,.bool true)] ?_
    rcases bool_cases (decide ((bt a0 v21)<48)) with hb6 | hb6
    ·replace heq:=bif_true hb6 heq
     refine RgH.val1 (v':=.bool true) (congrArg Value.bool hb6) ?_
     refine Qk 19 [45,0,4,20,21] [(45,.bool ((bt a0 v21) != 45))] ?_
     rcases bool_cases ((bt a0 v21) != 45) with hb7 | hb7
     ·replace heq:=bif_true hb7 heq
      refine RgH.val1 (v':=.bool true) (congrArg Value.bool hb7) ?_
      refine Qk 22 [0,20,21,48] [(48,.bool ((bt a0 v21) != 95))] ?_
      obtain rfl:=Option.some.inj heq
      refine Qg [0,20,21,48]<|Dn ?_
      exact Ge (K2)
     ·replace heq:=bif_false hb7 heq
      refine RgH.val1 (v':=.bool false) (congrArg Value.bool hb7) ?_
      refine Qk 22 [0,20,21,48] [(48,.bool false)] ?_
      obtain rfl:=Option.some.inj heq
      refine Qg [0,20,21,48]<|Dn ?_
      exact Ge (K2)
    ·replace heq:=bif_false hb6 heq
     refine RgH.val1 (v':=.bool false) (congrArg Value.bool hb6) ?_
     refine Qk 15 [41,0,4,20,21] [(41,.bool (decide (57<(bt a0 v21))))] ?_
     rcases bool_cases (decide (57<(bt a0 v21))) with hb8 | hb8
     ·replace heq:=bif_true hb8 heq
      refine RgH.val1 (v':=.bool true) (congrArg Value.bool hb8) ?_
      refine Qk 19 [45,0,4,20,21] [(45,.bool ((bt a0 v21) != 45))] ?_
      rcases bool_cases ((bt a0 v21) != 45) with hb9 | hb9
      ·replace heq:=bif_true hb9 heq
       refine RgH.val1 (v':=.bool true) (congrArg Value.bool hb9) ?_
       refine Qk 22 [0,20,21,48] [(48,.bool ((bt a0 v21) != 95))] ?_
       obtain rfl:=Option.some.inj heq
       refine Qg [0,20,21,48]<|Dn ?_
       exact Ge (K2)
      ·replace heq:=bif_false hb9 heq
       refine RgH.val1 (v':=.bool false) (congrArg Value.bool hb9) ?_
       refine Qk 22 [0,20,21,48] [(48,.bool false)] ?_
       obtain rfl:=Option.some.inj heq
       refine Qg [0,20,21,48]<|Dn ?_
       exact Ge (K2)
     ·replace heq:=bif_false hb8 heq
      refine RgH.val1 (v':=.bool false) (congrArg Value.bool hb8) ?_
      refine Qk 22 [0,20,21,48] [(48,.bool false)] ?_
      obtain rfl:=Option.some.inj heq
      refine Qg [0,20,21,48]<|Dn ?_
      exact Ge (K2)
   ·replace heq:=bif_false hb5 heq
    refine RgH.val1 (v':=.bool false) (congrArg Value.bool hb5) ?_
    refine Qk 7 [33,0,4,20,21] [(33,.bool (decide (122<(bt a0 v21))))] ?_
    rcases bool_cases (decide (122<(bt a0 v21))) with hb10 | hb10
    ·replace heq:=bif_true hb10 heq
     refine RgH.val1 (v':=.bool true) (congrArg Value.bool hb10) ?_
     refine Qk 10 [36,0,4,20,21,33] [(36,.bool (decide ((bt a0 v21)<48)))] ?_
     rcases bool_cases (decide ((bt a0 v21)<48)) with hb11 | hb11
     ·replace heq:=bif_true hb11 heq
      refine RgH.val1 (v':=.bool true) (congrArg Value.bool hb11) ?_
      refine Qk 19 [45,0,4,20,21] [(45,.bool ((bt a0 v21) != 45))] ?_
      rcases bool_cases ((bt a0 v21) != 45) with hb12 | hb12
      ·replace heq:=bif_true hb12 heq
       refine RgH.val1 (v':=.bool true) (congrArg Value.bool hb12) ?_
       refine Qk 22 [0,20,21,48] [(48,.bool ((bt a0 v21) != 95))] ?_
       obtain rfl:=Option.some.inj heq
       refine Qg [0,20,21,48]<|Dn ?_
       exact Ge (K2)
      ·replace heq:=bif_false hb12 heq
       refine RgH.val1 (v':=.bool false) (congrArg Value.bool hb12) ?_
       refine Qk 22 [0,20,21,48] [(48,.bool false)] ?_
       obtain rfl:=Option.some.inj heq
       refine Qg [0,20,21,48]<|Dn ?_
       exact Ge (K2)
     ·replace heq:=bif_false hb11 heq
      refine RgH.val1 (v':=.bool false) (congrArg Value.bool hb11) ?_
      refine Qk 15 [41,0,4,20,21] [(41,.bool (decide (57<(bt a0 v21))))] ?_
      rcases bool_cases (decide (57<(bt a0 v21))) with hb13 | hb13
      ·replace heq:=bif_true hb13 heq
       refine RgH.val1 (v':=.bool true) (congrArg Value.bool hb13) ?_
       refine Qk 19 [45,0,4,20,21] [(45,.bool ((bt a0 v21) != 45))] ?_
       rcases bool_cases ((bt a0 v21) != 45) with hb14 | hb14
       ·replace heq:=bif_true hb14 heq
        refine RgH.val1 (v':=.bool true) (congrArg Value.bool hb14) ?_
        refine Qk 22 [0,20,21,48] [(48,.bool ((bt a0 v21) != 95))] ?_
        obtain rfl:=Option.some.inj heq
        refine Qg [0,20,21,48]<|Dn ?_
        exact Ge (K2)
       ·replace heq:=bif_false hb14 heq
        refine RgH.val1 (v':=.bool false) (congrArg Value.bool hb14) ?_
        refine Qk 22 [0,20,21,48] [(48,.bool false)] ?_
        obtain rfl:=Option.some.inj heq
        refine Qg [0,20,21,48]<|Dn ?_
        exact Ge (K2)
      ·replace heq:=bif_false hb13 heq
       refine RgH.val1 (v':=.bool false) (congrArg Value.bool hb13) ?_
       refine Qk 22 [0,20,21,48] [(48,.bool false)] ?_
       obtain rfl:=Option.some.inj heq
       refine Qg [0,20,21,48]<|Dn ?_
       exact Ge (K2)
    ·replace heq:=bif_false hb10 heq
     refine RgH.val1 (v':=.bool false) (congrArg Value.bool hb10) ?_
     refine Qk 22 [0,20,21,48] [(48,.bool false)] ?_
     obtain rfl:=Option.some.inj heq
     refine Qg [0,20,21,48]<|Dn ?_
     exact Ge (K2)
  ·intro hb4 heq
   refine An 2 ?_
   exact Gt [] 0 [] (he1 heq)
theorem smithyardref9_isWord_c [Wz w0] {a0:ByteArray} {r:Bool} (heq:smithyardref9_isWord.f a0=some r):CallsH Tryz.prog 28 #[.string a0] H w0 (F) (S28 F H r):=by
 refine Co C28 Tryz.func28 Tryz.ntmps28 ?_
 unfold smithyardref9_isWord.f at heq
 refine Sa 1<|Qd 1 [0] []<|An 2 ?_
 obtain ⟨t1,ht1,heq⟩:=bind_some heq
 have K1:RunH C28 (S28 F H r) H w0 [.c [1,0,1],.c [1,1]] [(0,.string a0),(18,.bool t1)] H (F):=by
  refine Cb heq ?_ ?_
  ·intro hb3 heq
   refine Sa 1<|Qd 1 [2] [(2,.bool false)] ?_
   obtain rfl:=Option.some.inj heq
   exact RunH.done (by kernel_rfl) Tryz.func28 (v:=.bool false) (by kernel_rfl) ⟨rfl,rfl,rfl⟩
  ·intro hb3 heq
   refine Sa 3<|Qd 3 [0,20,21] [(20,iv (a0.size:Int)),(21,iv 0)]<|An 2 ?_
   exact Gt [0,20,21] 0 [] (((smithyardref9_isWord.l2_c (e1:=smithyardref9_isWord.e1) (smithyardref9_isWord.e1_c)) big) a0 0 heq)
 replace heq:=ht1
 refine Sa 0<|Qk 2 [0,6] [(6,iv (a0.size:Int))] ?_
 obtain ⟨y1,hy1,heq⟩:=bind_some heq
 refine RgH.does (cal 7 (smithyardref9_within_c hy1 )) ?_
 rintro _ _ _ _ ⟨_,rfl,rfl,rfl,rfl⟩
 refine Qk 5 [9,0] [(9,.bool (!y1))] ?_
 rcases bool_cases (!y1) with hb1 | hb1
 ·replace heq:=bif_true hb1 heq
  refine RgH.val1 (v':=.bool true) (congrArg Value.bool hb1) ?_
  refine Qk 14 [0,18] [(18,.bool true)] ?_
  obtain rfl:=Option.some.inj heq
  refine Qg [0,18]<|Dn ?_
  exact Ge (K1)
 ·replace heq:=bif_false hb1 heq
  refine RgH.val1 (v':=.bool false) (congrArg Value.bool hb1) ?_
  obtain ⟨hn1,heq⟩:=guard?_some heq
  refine Qv 10 [14,0] [n2 hn1] [(14,.bool (decide ((bt a0 0)<97)))] ?_
  rcases bool_cases (decide ((bt a0 0)<97)) with hb2 | hb2
  ·replace heq:=bif_true hb2 heq
   refine RgH.val1 (v':=.bool true) (congrArg Value.bool hb2) ?_
   refine Qk 14 [0,18] [(18,.bool true)] ?_
   obtain rfl:=Option.some.inj heq
   refine Qg [0,18]<|Dn ?_
   exact Ge (K1)
  ·replace heq:=bif_false hb2 heq
   refine RgH.val1 (v':=.bool false) (congrArg Value.bool hb2) ?_
   obtain ⟨hn2,heq⟩:=guard?_some heq
   refine Qv 14 [0,18] [n2 hn2] [(18,.bool (decide (122<(bt a0 0))))] ?_
   obtain rfl:=Option.some.inj heq
   refine Qg [0,18]<|Dn ?_
   exact Ge (K1)
noncomputable def C30:Ctx:={ P:=Tryz.prog,f:=30,N:=30,c:=bodyOf Tryz.f30 }
def S30 (F:List Ch) (H0:Hp) (r:Bool) (v:Value) (H:Hp) (cs:List Ch):Prop:=H0=H∧v=.bool r∧F=cs
theorem smithyardref9_before_c [Wz w0] {a0 a1:Run} {r:Bool} (heq:smithyardref9_before.f a0 a1=some r):CallsH Tryz.prog 30 #[.agg #[.string a0.Id,.string a0.Worker,iv a0.From,iv a0.To,iv a0.End],.agg #[.string a1.Id,.string a1.Worker,iv a1.From,iv a1.To,iv a1.End]] H w0 (F) (S30 F H r):=by
 refine Co C30 Tryz.func30 Tryz.ntmps30 ?_
 unfold smithyardref9_before.f at heq
 refine Sa 1 ?_
 refine RgH.does (DoesH.new (d:=2) (v:=fun g=>.pointer (some ⟨g,0,none⟩)) (o:=fun g=>.cells #[.string a0.Id,.string a0.Worker,iv a0.From,iv a0.To,iv a0.End] 25 (0,0)) (fun g=>by kernel_rfl)) ?_
 rintro _ _ _ _ ⟨g1,rfl,rfl,rfl⟩
 refine RgH.does (DoesH.new (d:=3) (v:=fun g=>.pointer (some ⟨g,0,none⟩)) (o:=fun g=>.cells #[.string a1.Id,.string a1.Worker,iv a1.From,iv a1.To,iv a1.End] 25 (0,0)) (fun g=>by kernel_rfl)) ?_
 rintro _ _ _ _ ⟨g2,rfl,rfl,rfl⟩
 refine Qd 3 [2,3] []<|Sa 2<|Qw 5 [2,3,9] [bx 1 2,bx 0 2] [(9,.bool (a0.From != a1.From))] ?_
 refine Cb heq ?_ ?_
 ·intro hb1 heq
  refine Sa 1<|Qw 6 [4] [bx 1 2,bx 0 2] [(4,.bool (decide (a0.From<a1.From)))] ?_
  obtain rfl:=Option.some.inj heq
  refine Up 2 [] ?_
  exact RunH.done (by kernel_rfl) Tryz.func30 (v:=.bool (decide (a0.From<a1.From))) (by kernel_rfl) ⟨rfl,rfl,rfl⟩
 ·intro hb1 heq
  refine Sa 3<|Qw 5 [2,3,19] [bx 1 0,bx 0 0] [(19,.bool (!sEq a0.Id a1.Id))] ?_
  refine Cb heq ?_ ?_
  ·intro hb2 heq
   refine Sa 1<|Qw 6 [4] [bx 1 0,bx 0 0] [(4,.bool (sLt a0.Id a1.Id))] ?_
   obtain rfl:=Option.some.inj heq
   refine Up 2 [] ?_
   exact RunH.done (by kernel_rfl) Tryz.func30 (v:=.bool (sLt a0.Id a1.Id)) (by kernel_rfl) ⟨rfl,rfl,rfl⟩
  ·intro hb2 heq
   refine Sa 2<|Qw 6 [4] [bx 1 1,bx 0 1] [(4,.bool (sLt a0.Worker a1.Worker))] ?_
   obtain rfl:=Option.some.inj heq
   refine Up 2 [] ?_
   exact RunH.done (by kernel_rfl) Tryz.func30 (v:=.bool (sLt a0.Worker a1.Worker)) (by kernel_rfl) ⟨rfl,rfl,rfl⟩
noncomputable def C16:Ctx:={ P:=Tryz.prog,f:=16,N:=62,c:=bodyOf Tryz.f16 }
def S16 (F:List Ch) (H0:Hp) (r:Int) (v:Value) (H:Hp) (cs:List Ch):Prop:=H0=H∧v=iv r∧F=cs
theorem smithyardref9_CheckRuns.e1_c [Wz w0] {r:Int}:smithyardref9_CheckRuns.e1=some r→RunH C16 (S16 F H r) H w0 [.c [1,1,1,0],.c [1,1,1,1]] [] H (F):=by
 intro   heq
 unfold smithyardref9_CheckRuns.e1 at heq
 refine Sa 0<|Qd 1 [2] [(2,iv 0)] ?_
 obtain rfl:=Option.some.inj heq
 exact RunH.done (by kernel_rfl) Tryz.func16 (v:=iv 0) (by kernel_rfl) ⟨rfl,rfl,rfl⟩
theorem smithyardref9_CheckRuns.l2_c [Wz w0] {r:Int} (e1:Option Int)
  (he1:e1=some r→RunH C16 (S16 F H r) H w0 [.c [1,1,1,0],.c [1,1,1,1]] [] H (F)):∀ (k:Nat),∀ (a0:List Run) (Aa0:Option Addr) (ca0:Nat) (v10:Int) ,Rw kRun H F Aa0 a0→a0.length≤ca0→smithyardref9_CheckRuns.l2 e1 k a0 v10=some r→RunH C16 (S16 F H r) H w0 [.c [1,1,0,1,0,0],.l [1,1,0,1,0,0],.b 0,.c [1,1,1]] [(0,.slice Aa0 a0.length ca0),(8,.slice Aa0 a0.length ca0),(9,iv (a0.length:Int)),(10,iv v10)] H (F):=by
 intro k
 induction k with
 | zero=>intro a0 Aa0 ca0 v10 hra0 hca0 heq; exact nomatch (show (none:Option Int)=some r from heq)
 | succ k ihk =>
  intro a0 Aa0 ca0 v10 hra0 hca0 heq
  rw [smithyardref9_CheckRuns.l2] at heq
  refine Sa 1<|Qd 1 [0,8,9,10,11] [(11,.bool (decide (v10<(a0.length:Int))))]<|An 1 ?_
  refine Cb heq ?_ ?_
  ·intro hb2 heq
   refine Sa 4 ?_
   obtain ⟨x1,hx1,heq⟩:=bind_some heq
   obtain ⟨ha1,cs1,hK1,hcc1⟩:=hra0.get hx1
   obtain ⟨rfl⟩:=kRun_open hK1
   refine Qv 3 [0,8,9,10,12,14] ([nx ha1 hx1]++ers hcc1 0) [(12,iv v10),(14,.agg #[.string x1.Id,.string x1.Worker,iv x1.From,iv x1.To,iv x1.End])] ?_
   refine RgH.does (DoesH.new (d:=4) (v:=fun g=>.pointer (some ⟨g,0,none⟩)) (o:=fun g=>.cells #[.string ByteArray.empty,.string ByteArray.empty,iv 0,iv 0,iv 0] 25 (0,0)) (fun g=>by kernel_rfl)) ?_
   rintro _ _ _ _ ⟨g1,rfl,rfl,rfl⟩
   refine Qk 5 [0,3,4,8,9,10,14] [(3,iv v10)] ?_
   refine RgH.does (DoesH.store (k:=0) (g:=g1) (off:=0) (v:=.agg #[.string x1.Id,.string x1.Worker,iv x1.From,iv x1.To,iv x1.End]) (cells':=#[.string x1.Id,.string x1.Worker,iv x1.From,iv x1.To,iv x1.End]) (by kernel_rfl) rfl (by kernel_rfl) (by kernel_rfl)) ?_
   rintro _ _ _ _ ⟨rfl,rfl,rfl⟩
   refine Dn<|An 2 ?_
   obtain ⟨t1,ht1,heq⟩:=bind_some heq
   have K2:RunH C16 (S16 F H r) H w0 [.c [1,1,0,1,0,0,1,1,0,0,1,0,1],.b 2,.b 1,.c [1,1,0,1,0,0,1,1,1],.l [1,1,0,1,0,0],.b 0,.c [1,1,1]] [(0,.slice Aa0 a0.length ca0),(3,iv v10),(4,pg g1 0),(8,.slice Aa0 a0.length ca0),(9,iv (a0.length:Int)),(10,iv v10),(15,.bool t1)] H ((some (g1,.cells #[.string x1.Id,.string x1.Worker,iv x1.From,iv x1.To,iv x1.End] 25 (0,0)))::F):=by
    refine Cb heq ?_ ?_
    ·intro hb4 heq
     refine Sa 1<|Qd 1 [2] [(2,iv 5)] ?_
     obtain rfl:=Option.some.inj heq
     refine Up 1 [] ?_
     exact RunH.done (by kernel_rfl) Tryz.func16 (v:=iv 5) (by kernel_rfl) ⟨rfl,rfl,rfl⟩
    ·intro hb4 heq
     refine An 1 ?_
     obtain ⟨t2,ht2,heq⟩:=bind_some heq
     have K3:RunH C16 (S16 F H r) H w0 [.c [1,1,0,1,0,0,1,1,0,0,1,0,1,1,1],.b 2,.b 1,.c [1,1,0,1,0,0,1,1,1],.l [1,1,0,1,0,0],.b 0,.c [1,1,1]] [(0,.slice Aa0 a0.length ca0),(3,iv v10),(4,pg g1 0),(8,.slice Aa0 a0.length ca0),(9,iv (a0.length:Int)),(10,iv v10),(26,.bool t2)] H ((some (g1,.cells #[.string x1.Id,.string x1.Worker,iv x1.From,iv x1.To,iv x1.End] 25 (0,0)))::F):=by
      refine Cb heq ?_ ?_
      ·intro hb6 heq
       refine Sa 1<|Qd 1 [2] [(2,iv 1)] ?_
       obtain rfl:=Option.some.inj heq
       refine Up 1 [] ?_
       exact RunH.done (by kernel_rfl) Tryz.func16 (v:=iv 1) (by kernel_rfl) ⟨rfl,rfl,rfl⟩
      ·intro hb6 heq
       refine Sa 1<|Qw 6 [0,3,4,8,9,10,37] [bx 0 3,bx 0 2] [(37,.bool (decide (x1.To<x1.From)))] ?_
       refine Cb heq ?_ ?_
       ·intro hb7 heq
        refine Sa 1<|Qd 1 [2] [(2,iv 8)] ?_
        obtain rfl:=Option.some.inj heq
        refine Up 1 [] ?_
        exact RunH.done (by kernel_rfl) Tryz.func16 (v:=iv 8) (by kernel_rfl) ⟨rfl,rfl,rfl⟩
       ·intro hb7 heq
        refine Sa 1<|Qv 2 [0,3,4,8,9,10,45] [bx 0 4] [(45,iv x1.End)] ?_
        obtain ⟨y5,hy5,heq⟩:=bind_some heq
        refine RgH.does (cal 46 (smithyardref9_within_c hy5 )) ?_
        rintro _ _ _ _ ⟨_,rfl,rfl,rfl,rfl⟩
        refine Qd 5 [0,3,4,8,9,10,43] [(43,.bool (!y5))] ?_
        refine Cb heq ?_ ?_
        ·intro hb8 heq
         refine Sa 1<|Qd 1 [2] [(2,iv 4)] ?_
         obtain rfl:=Option.some.inj heq
         refine Up 1 [] ?_
         exact RunH.done (by kernel_rfl) Tryz.func16 (v:=iv 4) (by kernel_rfl) ⟨rfl,rfl,rfl⟩
        ·intro hb8 heq
         refine An 1 ?_
         obtain ⟨t3,ht3,heq⟩:=bind_some heq
         have K4:RunH C16 (S16 F H r) H w0 [.c [1,1,0,1,0,0,1,1,0,0,1,0,1,1,1,1,1,1,1,1,1],.b 2,.b 1,.c [1,1,0,1,0,0,1,1,1],.l [1,1,0,1,0,0],.b 0,.c [1,1,1]] [(0,.slice Aa0 a0.length ca0),(8,.slice Aa0 a0.length ca0),(9,iv (a0.length:Int)),(10,iv v10),(48,.bool t3)] H (F):=by
          refine Cb heq ?_ ?_
          ·intro hb10 heq
           refine Sa 1<|Qd 1 [2] [(2,iv 8)] ?_
           obtain rfl:=Option.some.inj heq
           exact RunH.done (by kernel_rfl) Tryz.func16 (v:=iv 8) (by kernel_rfl) ⟨rfl,rfl,rfl⟩
          ·intro hb10 heq
           refine Sa 3<|Qd 2 [0,8,9,10] [(10,iv (w64 (v10+1)))]<|An 1 ?_
           exact Gt [0,8,9,10] 0 [] (ihk a0 _ _ (w64 (v10+1)) hra0 hca0 heq)
         replace heq:=ht3
         refine Qp [0,3,4,8,9,10]<|Sd 1 13 [0] [3,3,3,3,3,3,3,3,3,0,3,3,3]<|Qs [0,1,2] 10 [51,0,3,4,8,9,10] [] [(51,.bool (decide (0<v10)))] (Pk 1 [0]) (Pk 1 [0]) ?_
         rcases bool_cases (decide (0<v10)) with hb9 | hb9
         ·replace heq:=bif_true hb9 heq
          refine DrH.val1 (v':=.bool true) (congrArg Value.bool hb9) ?_
          obtain ⟨x2,hx2,heq⟩:=bind_some heq
          obtain ⟨ha2,cs2,hK2,hcc2⟩:=hra0.get hx2
          obtain ⟨rfl⟩:=kRun_open hK2
          refine Qs [3,4,5,6,7,8] 4 [0,8,9,10,51,56,57] ([nx ha2 hx2]++ers hcc2 1++bxs 0) [(56,.agg #[.string x2.Id,.string x2.Worker,iv x2.From,iv x2.To,iv x2.End]),(57,.agg #[.string x1.Id,.string x1.Worker,iv x1.From,iv x1.To,iv x1.End])] (Pk 1 [0]) (Pk 1 [0]) ?_
          obtain ⟨y6,hy6,heq⟩:=bind_some heq
          refine Dz 9 (cal 58 (smithyardref9_before_c hy6 )) ?_
          rintro _ _ _ _ ⟨_,rfl,rfl,rfl,rfl⟩
          refine ⟨fun _ w hh=>⟨fun _=>(Pk 1 [0]) w hh,fun _=>(Pk 1 [0]) w hh,(fun h=>by cases h)⟩,?_⟩
          refine Qs [10,11,12] 0 [0,8,9,10,48] [] [(48,.bool (!y6))] (Pk 1 [0]) (Pk 1 [0]) ?_
          obtain rfl:=Option.some.inj heq
          refine Qr [0,8,9,10,48]<|Ur 1 [] ?_
          refine DrH.done (by kernel_rfl) ?_
          exact Ge (K4)
         ·replace heq:=bif_false hb9 heq
          refine DrH.val1 (v':=.bool false) (congrArg Value.bool hb9) ?_
          refine Qs [3,4,5,6,7,8,9,10,11,12] 0 [0,8,9,10,48] [] [(48,.bool false)] (Pk 1 [0]) (Pk 1 [0]) ?_
          obtain rfl:=Option.some.inj heq
          refine Qr [0,8,9,10,48]<|Ur 1 [] ?_
          refine DrH.done (by kernel_rfl) ?_
          exact Ge (K4)
     replace heq:=ht2
     refine Sa 0<|Qv 2 [0,3,4,8,9,10,28] [bx 0 2] [(28,iv x1.From)] ?_
     obtain ⟨y3,hy3,heq⟩:=bind_some heq
     refine RgH.does (cal 29 (smithyardref9_within_c hy3 )) ?_
     rintro _ _ _ _ ⟨_,rfl,rfl,rfl,rfl⟩
     refine Qk 5 [31,0,3,4,8,9,10] [(31,.bool (!y3))] ?_
     rcases bool_cases (!y3) with hb5 | hb5
     ·replace heq:=bif_true hb5 heq
      refine RgH.val1 (v':=.bool true) (congrArg Value.bool hb5) ?_
      refine Qk 11 [0,3,4,8,9,10,26] [(26,.bool true)] ?_
      obtain rfl:=Option.some.inj heq
      refine Qg [0,3,4,8,9,10,26]<|Dn ?_
      exact Ge (K3)
     ·replace heq:=bif_false hb5 heq
      refine RgH.val1 (v':=.bool false) (congrArg Value.bool hb5) ?_
      refine Qv 7 [0,3,4,8,9,10,31,33] [bx 0 3] [(33,iv x1.To)] ?_
      obtain ⟨y4,hy4,heq⟩:=bind_some heq
      refine RgH.does (cal 34 (smithyardref9_within_c hy4 )) ?_
      rintro _ _ _ _ ⟨_,rfl,rfl,rfl,rfl⟩
      refine Qk 11 [0,3,4,8,9,10,26] [(26,.bool (!y4))] ?_
      obtain rfl:=Option.some.inj heq
      refine Qg [0,3,4,8,9,10,26]<|Dn ?_
      exact Ge (K3)
   replace heq:=ht1
   refine Sa 0<|Qv 2 [0,3,4,8,9,10,17] [bx 0 0] [(17,.string x1.Id)] ?_
   obtain ⟨y1,hy1,heq⟩:=bind_some heq
   refine RgH.does (cal 18 (smithyardref9_isWord_c hy1 )) ?_
   rintro _ _ _ _ ⟨_,rfl,rfl,rfl,rfl⟩
   refine Qk 5 [20,0,3,4,8,9,10] [(20,.bool (!y1))] ?_
   rcases bool_cases (!y1) with hb3 | hb3
   ·replace heq:=bif_true hb3 heq
    refine RgH.val1 (v':=.bool true) (congrArg Value.bool hb3) ?_
    refine Qk 11 [0,3,4,8,9,10,15] [(15,.bool true)] ?_
    obtain rfl:=Option.some.inj heq
    refine Qg [0,3,4,8,9,10,15]<|Dn ?_
    exact Ge (K2)
   ·replace heq:=bif_false hb3 heq
    refine RgH.val1 (v':=.bool false) (congrArg Value.bool hb3) ?_
    refine Qv 7 [0,3,4,8,9,10,20,22] [bx 0 1] [(22,.string x1.Worker)] ?_
    obtain ⟨y2,hy2,heq⟩:=bind_some heq
    refine RgH.does (cal 23 (smithyardref9_isWord_c hy2 )) ?_
    rintro _ _ _ _ ⟨_,rfl,rfl,rfl,rfl⟩
    refine Qk 11 [0,3,4,8,9,10,15] [(15,.bool (!y2))] ?_
    obtain rfl:=Option.some.inj heq
    refine Qg [0,3,4,8,9,10,15]<|Dn ?_
    exact Ge (K2)
  ·intro hb2 heq
   refine An 2 ?_
   exact Gt [] 0 [] (he1 heq)
theorem smithyardref9_CheckRuns_c [Wz w0] {a0:List Run} {Aa0:Option Addr} {na0 ca0:Nat} {r:Int} (heq:smithyardref9_CheckRuns.f a0=some r) (hra0:Rw kRun H F Aa0 a0) (hca0:na0≤ca0) (hna0:na0=a0.length):CallsH Tryz.prog 16 #[.slice Aa0 na0 ca0] H w0 (F) (S16 F H r):=by
 refine Co C16 Tryz.func16 Tryz.ntmps16 ?_
 subst hna0
 unfold smithyardref9_CheckRuns.f at heq
 refine Sa 1<|Qd 1 [0] []<|Sa 2<|Qd 3 [0,7] [(7,.bool (decide (4000<(a0.length:Int))))] ?_
 refine Cb heq ?_ ?_
 ·intro hb1 heq
  refine Sa 1<|Qd 1 [2] [(2,iv 2)] ?_
  obtain rfl:=Option.some.inj heq
  exact RunH.done (by kernel_rfl) Tryz.func16 (v:=iv 2) (by kernel_rfl) ⟨rfl,rfl,rfl⟩
 ·intro hb1 heq
  refine Sa 3<|Qd 3 [0,8,9,10] [(8,.slice Aa0 a0.length ca0),(9,iv (a0.length:Int)),(10,iv 0)]<|An 2 ?_
  exact Gt [0,8,9,10] 0 [] (((smithyardref9_CheckRuns.l2_c (e1:=smithyardref9_CheckRuns.e1) (smithyardref9_CheckRuns.e1_c)) big) a0 _ _ 0 hra0 hca0 heq)
def S17 (F:List Ch) (H0:Hp) (r:List ByteArray) (v:Value) (H:Hp) (cs:List Ch):Prop:=∃ (A0:Option Addr) (c0:Nat) (ch0:Ch),H0=H∧v=.slice A0 r.length c0∧ch0::F=cs∧SlOwn Kd.string 9 H A0 c0 r ch0
theorem strings_Split_c [Wz w0] {a0 a1:ByteArray} {r:List ByteArray} (heq:strings_Split.f a0 a1=some r):CallsH Tryz.prog 17 #[.string a0,.string a1] H w0 F (S17 F H r):=by
 intro w hh
 unfold strings_Split.f at heq
 obtain ⟨hn,heq⟩:=guard?_some heq
 obtain rfl:=Option.some.inj heq
 simp only [Bool.and_eq_true,decide_eq_true_eq] at hn
 obtain ⟨m,hm⟩:=GlobI.at (g:=0) hh
 refine (Shelf.Tryz.strings_Split a0 a1 m w hn.1 hm hn.2).mono ?_
 rintro e w' ⟨rfl,rfl⟩
 have hl:=Lib.splitB_all a1 hn.2 0 _ a0 rfl
 have hc:=Lib.countB_le a1 hn.2 a0.size a0 (Nat.le_refl _)
 obtain ⟨H',cs',hle,hh',A0,c0,ch0,rfl,hv,rfl,ho⟩:=split_post (e:=9) hh hl (by unfold maxLen; omega) rfl
 exact ⟨_,rfl,_,_,hle,hh',A0,c0,ch0,rfl,hv,rfl,ho⟩
noncomputable def C6:Ctx:={ P:=Tryz.prog,f:=6,N:=45,c:=bodyOf Tryz.f6 }
def S6 (F:List Ch) (H0:Hp) (r:ByteArray × Int) (v:Value) (H:Hp) (cs:List Ch):Prop:=H0=H∧v=.tuple #[.string r.1,iv r.2]∧F=cs
theorem smithyardref9_Text.e1_c [Wz w0] {r:ByteArray × Int}:∀ (v_out5:ByteArray) ,smithyardref9_Text.e1 v_out5=some r→RunH C6 (S6 F H r) H w0 [.c [1,1,1,1,0,0],.c [1,1,1,1,0,1],.c [1,1,1,1,1]] [(5,.string v_out5)] H (F):=by
 intro v_out5  heq
 unfold smithyardref9_Text.e1 at heq
 refine Sa 0<|Qd 3 [5,43] [(43,.bool (decide (600000<(v_out5.size:Int))))] ?_
 refine Cb heq ?_ ?_
 ·intro hb2 heq
  refine Sa 1<|Qd 2 [2,3] [(2,.string ({ data:=#[] }:ByteArray)),(3,iv 2)] ?_
  obtain rfl:=Option.some.inj heq
  exact RunH.done (by kernel_rfl) Tryz.func6 (v:=.tuple #[.string ({ data:=#[] }:ByteArray),iv 2]) (by kernel_rfl) ⟨rfl,rfl,rfl⟩
 ·intro hb2 heq
  refine Sa 2<|Qd 3 [2,3] [(2,.string v_out5),(3,iv 0)] ?_
  obtain rfl:=Option.some.inj heq
  exact RunH.done (by kernel_rfl) Tryz.func6 (v:=.tuple #[.string v_out5,iv 0]) (by kernel_rfl) ⟨rfl,rfl,rfl⟩
theorem smithyardref9_Text.l2_c [Wz w0] {r:ByteArray × Int} (e1:ByteArray→Option (ByteArray × Int))
  (he1:∀ (v_out5:ByteArray) ,e1 v_out5=some r→RunH C6 (S6 F H r) H w0 [.c [1,1,1,1,0,0],.c [1,1,1,1,0,1],.c [1,1,1,1,1]] [(5,.string v_out5)] H (F)):∀ (k:Nat),∀ (a0:List Run) (Aa0:Option Addr) (ca0:Nat) (v_out5:ByteArray) (v15:Int) ,Rw kRun H F Aa0 a0→a0.length≤ca0→smithyardref9_Text.l2 e1 k a0 v_out5 v15=some r→RunH C6 (S6 F H r) H w0 [.c [1,1,1,0,1,0,0],.l [1,1,1,0,1,0,0],.b 0,.c [1,1,1,1]] [(5,.string v_out5),(13,.slice Aa0 a0.length ca0),(14,iv (a0.length:Int)),(15,iv v15)] H (F):=by
 intro k
 induction k with
 | zero=>intro a0 Aa0 ca0 v_out5 v15 hra0 hca0 heq; exact nomatch (show (none:Option (ByteArray × Int))=some r from heq)
 | succ k ihk =>
  intro a0 Aa0 ca0 v_out5 v15 hra0 hca0 heq
  rw [smithyardref9_Text.l2] at heq
  refine Sa 1<|Qd 1 [5,13,14,15,16] [(16,.bool (decide (v15<(a0.length:Int))))]<|An 1 ?_
  refine Cb heq ?_ ?_
  ·intro hb3 heq
   refine Sa 4 ?_
   obtain ⟨x1,hx1,heq⟩:=bind_some heq
   obtain ⟨ha1,cs1,hK1,hcc1⟩:=hra0.get hx1
   obtain ⟨rfl⟩:=kRun_open hK1
   refine Qv 2 [5,13,14,15,18] ([nx ha1 hx1]++ers hcc1 0) [(18,.agg #[.string x1.Id,.string x1.Worker,iv x1.From,iv x1.To,iv x1.End])] ?_
   refine RgH.does (DoesH.new (d:=7) (v:=fun g=>.pointer (some ⟨g,0,none⟩)) (o:=fun g=>.cells #[.string ByteArray.empty,.string ByteArray.empty,iv 0,iv 0,iv 0] 25 (0,0)) (fun g=>by kernel_rfl)) ?_
   rintro _ _ _ _ ⟨g1,rfl,rfl,rfl⟩
   refine RgH.does (DoesH.store (k:=0) (g:=g1) (off:=0) (v:=.agg #[.string x1.Id,.string x1.Worker,iv x1.From,iv x1.To,iv x1.End]) (cells':=#[.string x1.Id,.string x1.Worker,iv x1.From,iv x1.To,iv x1.End]) (by kernel_rfl) rfl (by kernel_rfl) (by kernel_rfl)) ?_
   rintro _ _ _ _ ⟨rfl,rfl,rfl⟩
   refine Dn<|Qp [5,7,13,14,15]<|Sd 1 22 [0] [3,3,3,0,3,3,0,0,3,3,3,3,0,3,3,3,3,0,0,3,3,3]<|Qs [0,1,2,4,5,8,9,10,13,14,15,16] 10 [5,13,14,15,19,21,24,29,33,35] [bx 0 2,bx 0 3,bx 0 4,bx 0 0,bx 0 1] [(19,.string v_out5),(21,iv x1.From),(24,iv x1.To),(29,iv (w64 (x1.End - 1))),(33,.string x1.Id),(35,.string x1.Worker)] (Pk 1 [0]) (Pk 1 [0]) ?_
   obtain ⟨y2,hy2,heq⟩:=bind_some heq
   refine Dz 3 (cal 22 (strconv_Itoa_c (a0:=x1.From)  hy2)) ?_
   rintro _ _ _ _ ⟨_,rfl,rfl,rfl,rfl⟩
   refine ⟨fun _ w hh=>⟨fun _=>(Pk 1 [0]) w hh,fun _=>(Pk 1 [0]) w hh,(fun h=>by cases h)⟩,?_⟩
   refine Qr [5,13,14,15,19,22,24,29,33,35] ?_
   obtain ⟨y3,hy3,heq⟩:=bind_some heq
   refine Dz 6 (cal 25 (strconv_Itoa_c (a0:=x1.To)  hy3)) ?_
   rintro _ _ _ _ ⟨_,rfl,rfl,rfl,rfl⟩
   refine ⟨fun _ w hh=>⟨fun _=>(Pk 1 [0]) w hh,fun _=>(Pk 1 [0]) w hh,(fun h=>by cases h)⟩,?_⟩
   refine Qr [5,13,14,15,19,22,25,29,33,35] ?_
   obtain ⟨y4,hy4,heq⟩:=bind_some heq
   refine Dz 7 (cal 26 (strings_Split_c (a0:=({ data:=#[100,111,110,101,32,108,111,115,116,32,115,116,111,112,112,101,100] }:ByteArray)) (a1:=({ data:=#[32] }:ByteArray))  hy4)) ?_
   rintro _ _ _ _ ⟨_,rfl,A1,c1,ch1,rfl,rfl,rfl,ho1⟩
   refine ⟨fun _ w hh=>⟨fun _=>(Pk 2 [1]) w hh,fun _=>(Pk 2 [1]) w hh,(fun h=>by cases h)⟩,?_⟩
   obtain ⟨x2,hx2,heq⟩:=bind_some heq
   obtain ⟨ha2,cs2,hK2,hcc2⟩:=ho1.get hx2
   obtain rfl:cs2=[.string x2]:=hK2
   refine Qs [11] 6 [5,13,14,15,19,22,25,30,33,35] [nx ha2 hx2] [(30,.pointer (some ((adr A1).add ((w64 (x1.End - 1)).toNat*1))))] (Pk 2 [1]) (Pk 1 [0]) ?_
   obtain ⟨ha3,cs3,hK3,hcc3⟩:=ho1.get hx2
   obtain rfl:cs3=[.string x2]:=hK3
   refine Dz 12 (DoesH.pureop (d:=31) (v:=.string x2) (vs:=[.string x2]) (evs:=[.load ((adr A1).add ((w64 (x1.End - 1)).toNat*1)) (.string x2)]) (by kernel_rfl) (fun w hh=>(hcc3 _ (hh.chin 0 rfl) 0 _ rfl))) ?_
   rintro _ _ _ _ ⟨rfl,rfl,rfl⟩
   refine ⟨fun _ w hh=>⟨fun _=>(Pk 2 [1]) w hh,fun _=>(Pk 2 [1]) w hh,(fun h=>by cases h)⟩,?_⟩
   refine Qr [5,13,14,15,19,22,25,31,33,35] ?_
   refine Dz 17 (DoesH.new (d:=36) (v:=fun g=>.slice (some ⟨g,0,none⟩) 5 5) (o:=fun g=>.cells #[.string y2,.string y3,.string x2,.string x1.Id,.string x1.Worker] 9 (0,0)) (fun g=>by kernel_rfl)) ?_
   rintro _ _ _ _ ⟨g2,rfl,rfl,rfl⟩
   have ho2:SlOwn Kd.string 9 H (some ⟨g2,0,none⟩) 5 ([y2,y3,x2,x1.Id,x1.Worker]:List ByteArray) (some (g2,.cells #[.string y2,.string y3,.string x2,.string x1.Id,.string x1.Worker] 9 (0,0))):=SlOwn.lit (xs:=([y2,y3,x2,x1.Id,x1.Worker]:List ByteArray)) (by kernel_rfl) (Nat.le_of_ble_eq_true (by kernel_rfl)) (Kd.Rep.scalars rfl)
   refine ⟨fun _ w hh=>⟨fun _=>(Pk 3 [2]) w hh,fun _=>(Pk 3 [2]) w hh,(fun h=>by cases h)⟩,?_⟩
   refine Qr [5,13,14,15,19,36] ?_
   obtain ⟨y5,hy5,heq⟩:=bind_some heq
   refine Dz 18 (cal 37 (strings_Join_c hy5 (ho2.rw (.head _)) ho2.cap rfl)) ?_
   rintro _ _ _ _ ⟨_,rfl,rfl,rfl,rfl⟩
   refine ⟨fun _ w hh=>⟨fun _=>(Pk 3 [2]) w hh,fun _=>(Pk 3 [2]) w hh,(fun h=>by cases h)⟩,?_⟩
   obtain ⟨hn1,heq⟩:=guard?_some heq
   obtain ⟨hn2,heq⟩:=guard?_some heq
   refine Qs [19,20,21] 0 [5,13,14,15] [n1 hn1,n1 hn2] [(5,.string (v_out5++(y5++({ data:=#[10] }:ByteArray))))] (Pk 3 [2]) (Pk 1 [0]) ?_
   refine DrH.done (by kernel_rfl) ?_
   refine Sa 1<|Qd 2 [5,13,14,15] [(15,iv (w64 (v15+1)))]<|An 1 ?_
   exact Gt [5,13,14,15] 3 [] (ihk a0 _ _ (v_out5++(y5++({ data:=#[10] }:ByteArray))) (w64 (v15+1)) hra0 hca0 heq)
  ·intro hb3 heq
   refine An 3 ?_
   exact Gt [5] 0 [] (he1 v_out5 heq)
theorem smithyardref9_Text_c [Wz w0] {a0:List Run} {Aa0:Option Addr} {na0 ca0:Nat} {r:ByteArray × Int} (heq:smithyardref9_Text.f a0=some r) (hra0:Rw kRun H F Aa0 a0) (hca0:na0≤ca0) (hna0:na0=a0.length):CallsH Tryz.prog 6 #[.slice Aa0 na0 ca0] H w0 (F) (S6 F H r):=by
 refine Co C6 Tryz.func6 Tryz.ntmps6 ?_
 subst hna0
 unfold smithyardref9_Text.f at heq
 refine Sa 1<|Qd 2 [0] []<|Sa 2<|Qk 1 [0,8] [(8,.slice Aa0 a0.length ca0)] ?_
 obtain ⟨y1,hy1,heq⟩:=bind_some heq
 refine RgH.does (cal 9 (smithyardref9_CheckRuns_c hy1 hra0 hca0 rfl)) ?_
 rintro _ _ _ _ ⟨_,rfl,rfl,rfl,rfl⟩
 refine Qd 3 [0,4] [(4,iv y1)]<|Sa 1<|Qd 2 [0,4,11] [(11,.bool (y1 != 0))] ?_
 refine Cb heq ?_ ?_
 ·intro hb1 heq
  refine Sa 1<|Qd 3 [2,3] [(2,.string ({ data:=#[] }:ByteArray)),(3,iv y1)] ?_
  obtain rfl:=Option.some.inj heq
  exact RunH.done (by kernel_rfl) Tryz.func6 (v:=.tuple #[.string ({ data:=#[] }:ByteArray),iv y1]) (by kernel_rfl) ⟨rfl,rfl,rfl⟩
 ·intro hb1 heq
  refine Sa 2<|Qd 1 [0,5] [(5,.string ({ data:=#[] }:ByteArray))]<|Sa 2<|Qd 3 [5,13,14,15] [(13,.slice Aa0 a0.length ca0),(14,iv (a0.length:Int)),(15,iv 0)]<|An 2 ?_
  exact Gt [5,13,14,15] 0 [] (((smithyardref9_Text.l2_c (e1:=smithyardref9_Text.e1) (smithyardref9_Text.e1_c)) big) a0 _ _ ({ data:=#[] }:ByteArray) 0 hra0 hca0 heq)
noncomputable def C7:Ctx:={ P:=Tryz.prog,f:=7,N:=26,c:=bodyOf Tryz.f7 }
def S7 (F:List Ch) (H0:Hp) (r:Bool) (v:Value) (H:Hp) (cs:List Ch):Prop:=H0=H∧v=.bool r∧F=cs
theorem slices_Equal_Run.e1_c [Wz w0] {r:Bool}:slices_Equal_Run.e1=some r→RunH C7 (S7 F H r) H w0 [.c [1,1,1,0],.c [1,1,1,1]] [] H (F):=by
 intro   heq
 unfold slices_Equal_Run.e1 at heq
 refine Sa 0<|Qd 1 [4] [(4,.bool true)] ?_
 obtain rfl:=Option.some.inj heq
 exact RunH.done (by kernel_rfl) Tryz.func7 (v:=.bool true) (by kernel_rfl) ⟨rfl,rfl,rfl⟩
theorem slices_Equal_Run.l2_c [Wz w0] {r:Bool} (e1:Option Bool)
  (he1:e1=some r→RunH C7 (S7 F H r) H w0 [.c [1,1,1,0],.c [1,1,1,1]] [] H (F)):∀ (k:Nat),∀ (a0:List Run) (Aa0:Option Addr) (ca0:Nat) (a1:List Run) (Aa1:Option Addr) (ca1:Nat) (v13:Int) ,Rw kRun H F Aa0 a0→a0.length≤ca0→Rw kRun H F Aa1 a1→a1.length≤ca1→slices_Equal_Run.l2 e1 k a0 a1 v13=some r→RunH C7 (S7 F H r) H w0 [.c [1,1,0,1,0,0],.l [1,1,0,1,0,0],.b 0,.c [1,1,1]] [(0,.slice Aa0 a0.length ca0),(1,.slice Aa1 a1.length ca1),(12,iv (a0.length:Int)),(13,iv v13)] H (F):=by
 intro k
 induction k with
 | zero=>intro a0 Aa0 ca0 a1 Aa1 ca1 v13 hra0 hca0 hra1 hca1 heq; exact nomatch (show (none:Option Bool)=some r from heq)
 | succ k ihk =>
  intro a0 Aa0 ca0 a1 Aa1 ca1 v13 hra0 hca0 hra1 hca1 heq
  rw [slices_Equal_Run.l2] at heq
  refine Sa 1<|Qd 1 [0,1,12,13,14] [(14,.bool (decide (v13<(a0.length:Int))))]<|An 1 ?_
  refine Cb heq ?_ ?_
  ·intro hb2 heq
   refine Sa 4<|Qd 2 [0,1,5,12,13] [(5,iv v13)]<|An 1<|Qp [0,1,5,12,13]<|Sd 0 9 [] [3,3,3,3,3,3,3,3,3] ?_
   obtain ⟨x1,hx1,heq⟩:=bind_some heq
   obtain ⟨ha1,cs1,hK1,hcc1⟩:=hra0.get hx1
   obtain ⟨rfl⟩:=kRun_open hK1
   obtain ⟨x2,hx2,heq⟩:=bind_some heq
   obtain ⟨ha2,cs2,hK2,hcc2⟩:=hra1.get hx2
   obtain ⟨rfl⟩:=kRun_open hK2
   refine Qs [0,1,2,3,4,5,6,7,8] 0 [0,1,12,13,24] ([nx ha1 hx1]++ers hcc1 0++[nx ha2 hx2]++ers hcc2 0) [(24,.bool (!(sEq x1.Id x2.Id&&(sEq x1.Worker x2.Worker&&(x1.From == x2.From&&(x1.To == x2.To&&(x1.End == x2.End&&true)))))))] (Pk 0 []) (Pk 0 []) ?_
   refine DrH.done (by kernel_rfl) ?_
   refine Cb heq ?_ ?_
   ·intro hb3 heq
    refine Sa 1<|Qd 1 [4] [(4,.bool false)] ?_
    obtain rfl:=Option.some.inj heq
    exact RunH.done (by kernel_rfl) Tryz.func7 (v:=.bool false) (by kernel_rfl) ⟨rfl,rfl,rfl⟩
   ·intro hb3 heq
    refine Sa 2<|Qd 2 [0,1,12,13] [(13,iv (w64 (v13+1)))]<|An 1 ?_
    exact Gt [0,1,12,13] 0 [] (ihk a0 _ _ a1 _ _ (w64 (v13+1)) hra0 hca0 hra1 hca1 heq)
  ·intro hb2 heq
   refine An 2 ?_
   exact Gt [] 0 [] (he1 heq)
theorem slices_Equal_Run_c [Wz w0] {a0:List Run} {Aa0:Option Addr} {na0 ca0:Nat} {a1:List Run} {Aa1:Option Addr} {na1 ca1:Nat} {r:Bool} (heq:slices_Equal_Run.f a0 a1=some r) (hra0:Rw kRun H F Aa0 a0) (hca0:na0≤ca0) (hna0:na0=a0.length) (hra1:Rw kRun H F Aa1 a1) (hca1:na1≤ca1) (hna1:na1=a1.length):CallsH Tryz.prog 7 #[.slice Aa0 na0 ca0,.slice Aa1 na1 ca1] H w0 (F) (S7 F H r):=by
 refine Co C7 Tryz.func7 Tryz.ntmps7 ?_
 subst hna0
 subst hna1
 unfold slices_Equal_Run.f at heq
 refine Sa 1<|Qd 1 [0,1] []<|Sa 2<|Qd 5 [0,1,10] [(10,.bool ((a0.length:Int) != (a1.length:Int)))] ?_
 refine Cb heq ?_ ?_
 ·intro hb1 heq
  refine Sa 1<|Qd 1 [4] [(4,.bool false)] ?_
  obtain rfl:=Option.some.inj heq
  exact RunH.done (by kernel_rfl) Tryz.func7 (v:=.bool false) (by kernel_rfl) ⟨rfl,rfl,rfl⟩
 ·intro hb1 heq
  refine Sa 3<|Qd 3 [0,1,12,13] [(12,iv (a0.length:Int)),(13,iv 0)]<|An 2 ?_
  exact Gt [0,1,12,13] 0 [] (((slices_Equal_Run.l2_c (e1:=slices_Equal_Run.e1) (slices_Equal_Run.e1_c)) big) a0 _ _ a1 _ _ 0 hra0 hca0 hra1 hca1 heq)
noncomputable def C70:Ctx:={ P:=Tryz.prog,f:=70,N:=40,c:=bodyOf Tryz.f70 }
def S70 (F:List Ch) (H0:Hp) (r:Int) (v:Value) (H:Hp) (cs:List Ch):Prop:=H0=H∧v=iv r∧F=cs
theorem config_CheckPairs.e1_c [Wz w0] {r:Int}:config_CheckPairs.e1=some r→RunH C70 (S70 F H r) H w0 [.c [1,1,1,0],.c [1,1,1,1]] [] H (F):=by
 intro   heq
 unfold config_CheckPairs.e1 at heq
 refine Sa 0<|Qd 1 [2] [(2,iv 0)] ?_
 obtain rfl:=Option.some.inj heq
 exact RunH.done (by kernel_rfl) Tryz.func70 (v:=iv 0) (by kernel_rfl) ⟨rfl,rfl,rfl⟩
theorem config_CheckPairs.l2_c [Wz w0] {r:Int} (e1:Option Int)
  (he1:e1=some r→RunH C70 (S70 F H r) H w0 [.c [1,1,1,0],.c [1,1,1,1]] [] H (F)):∀ (k:Nat),∀ (a0:List Pair) (Aa0:Option Addr) (ca0:Nat) (v10:Int) ,Rw kPair H F Aa0 a0→a0.length≤ca0→config_CheckPairs.l2 e1 k a0 v10=some r→RunH C70 (S70 F H r) H w0 [.c [1,1,0,1,0,0],.l [1,1,0,1,0,0],.b 0,.c [1,1,1]] [(0,.slice Aa0 a0.length ca0),(8,.slice Aa0 a0.length ca0),(9,iv (a0.length:Int)),(10,iv v10)] H (F):=by
 intro k
 induction k with
 | zero=>intro a0 Aa0 ca0 v10 hra0 hca0 heq; exact nomatch (show (none:Option Int)=some r from heq)
 | succ k ihk =>
  intro a0 Aa0 ca0 v10 hra0 hca0 heq
  rw [config_CheckPairs.l2] at heq
  refine Sa 1<|Qd 1 [0,8,9,10,11] [(11,.bool (decide (v10<(a0.length:Int))))]<|An 1 ?_
  refine Cb heq ?_ ?_
  ·intro hb2 heq
   refine Sa 4 ?_
   obtain ⟨x1,hx1,heq⟩:=bind_some heq
   obtain ⟨ha1,cs1,hK1,hcc1⟩:=hra0.get hx1
   obtain ⟨rfl⟩:=kPair_open hK1
   refine Qv 3 [0,8,9,10,12,14] ([nx ha1 hx1]++ers hcc1 0) [(12,iv v10),(14,.agg #[.string x1.Name,.string x1.Value])] ?_
   refine RgH.does (DoesH.new (d:=4) (v:=fun g=>.pointer (some ⟨g,0,none⟩)) (o:=fun g=>.cells #[.string ByteArray.empty,.string ByteArray.empty] 117 (0,0)) (fun g=>by kernel_rfl)) ?_
   rintro _ _ _ _ ⟨g1,rfl,rfl,rfl⟩
   refine Qk 5 [0,3,4,8,9,10,14] [(3,iv v10)] ?_
   refine RgH.does (DoesH.store (k:=0) (g:=g1) (off:=0) (v:=.agg #[.string x1.Name,.string x1.Value]) (cells':=#[.string x1.Name,.string x1.Value]) (by kernel_rfl) rfl (by kernel_rfl) (by kernel_rfl)) ?_
   rintro _ _ _ _ ⟨rfl,rfl,rfl⟩
   refine Dn<|Sa 2<|Qv 2 [0,3,4,8,9,10,17] [bx 0 0] [(17,.string x1.Name)] ?_
   obtain ⟨y1,hy1,heq⟩:=bind_some heq
   refine RgH.does (cal 18 (config_IsWord_c hy1 )) ?_
   rintro _ _ _ _ ⟨_,rfl,rfl,rfl,rfl⟩
   refine Qd 5 [0,3,4,8,9,10,15] [(15,.bool (!y1))] ?_
   refine Cb heq ?_ ?_
   ·intro hb3 heq
    refine Sa 1<|Qd 1 [2] [(2,iv 5)] ?_
    obtain rfl:=Option.some.inj heq
    refine Up 1 [] ?_
    exact RunH.done (by kernel_rfl) Tryz.func70 (v:=iv 5) (by kernel_rfl) ⟨rfl,rfl,rfl⟩
   ·intro hb3 heq
    refine Sa 1<|Qv 2 [0,3,4,8,9,10,22] [bx 0 1] [(22,.string x1.Value)] ?_
    obtain ⟨y2,hy2,heq⟩:=bind_some heq
    refine RgH.does (cal 23 (config_IsWord_c hy2 )) ?_
    rintro _ _ _ _ ⟨_,rfl,rfl,rfl,rfl⟩
    refine Qd 5 [0,3,4,8,9,10,20] [(20,.bool (!y2))] ?_
    refine Cb heq ?_ ?_
    ·intro hb4 heq
     refine Sa 1<|Qd 1 [2] [(2,iv 1)] ?_
     obtain rfl:=Option.some.inj heq
     refine Up 1 [] ?_
     exact RunH.done (by kernel_rfl) Tryz.func70 (v:=iv 1) (by kernel_rfl) ⟨rfl,rfl,rfl⟩
    ·intro hb4 heq
     refine An 1 ?_
     obtain ⟨t1,ht1,heq⟩:=bind_some heq
     have K2:RunH C70 (S70 F H r) H w0 [.c [1,1,0,1,0,0,1,1,0,0,1,0,1,1,1,1,1],.b 2,.b 1,.c [1,1,0,1,0,0,1,1,1],.l [1,1,0,1,0,0],.b 0,.c [1,1,1]] [(0,.slice Aa0 a0.length ca0),(8,.slice Aa0 a0.length ca0),(9,iv (a0.length:Int)),(10,iv v10),(25,.bool t1)] H (F):=by
      refine Cb heq ?_ ?_
      ·intro hb6 heq
       refine Sa 1<|Qd 1 [2] [(2,iv 8)] ?_
       obtain rfl:=Option.some.inj heq
       exact RunH.done (by kernel_rfl) Tryz.func70 (v:=iv 8) (by kernel_rfl) ⟨rfl,rfl,rfl⟩
      ·intro hb6 heq
       refine Sa 3<|Qd 2 [0,8,9,10] [(10,iv (w64 (v10+1)))]<|An 1 ?_
       exact Gt [0,8,9,10] 0 [] (ihk a0 _ _ (w64 (v10+1)) hra0 hca0 heq)
     replace heq:=ht1
     refine Qp [0,3,4,8,9,10]<|Sd 1 14 [0] [3,3,3,3,3,3,3,3,3,3,3,3,3,3]<|Qs [0,1,2] 11 [28,0,3,4,8,9,10] [] [(28,.bool (decide (0<v10)))] (Pk 1 [0]) (Pk 1 [0]) ?_
     rcases bool_cases (decide (0<v10)) with hb5 | hb5
     ·replace heq:=bif_true hb5 heq
      refine DrH.val1 (v':=.bool true) (congrArg Value.bool hb5) ?_
      obtain ⟨x2,hx2,heq⟩:=bind_some heq
      obtain ⟨ha2,cs2,hK2,hcc2⟩:=hra0.get hx2
      obtain ⟨rfl⟩:=kPair_open hK2
      refine Qs [3,4,5,6,7,8,9,10,11,12,13] 0 [0,8,9,10,25] [bx 0 0,nx ha2 hx2,er hcc2 1 0] [(25,.bool (sLt x1.Name x2.Name||sEq x1.Name x2.Name))] (Pk 1 [0]) (Pk 1 [0]) ?_
      obtain rfl:=Option.some.inj heq
      refine Qr [0,8,9,10,25]<|Ur 1 [] ?_
      refine DrH.done (by kernel_rfl) ?_
      exact Ge (K2)
     ·replace heq:=bif_false hb5 heq
      refine DrH.val1 (v':=.bool false) (congrArg Value.bool hb5) ?_
      refine Qs [3,4,5,6,7,8,9,10,11,12,13] 0 [0,8,9,10,25] [] [(25,.bool false)] (Pk 1 [0]) (Pk 1 [0]) ?_
      obtain rfl:=Option.some.inj heq
      refine Qr [0,8,9,10,25]<|Ur 1 [] ?_
      refine DrH.done (by kernel_rfl) ?_
      exact Ge (K2)
  ·intro hb2 heq
   refine An 2 ?_
   exact Gt [] 0 [] (he1 heq)
theorem config_CheckPairs_c [Wz w0] {a0:List Pair} {Aa0:Option Addr} {na0 ca0:Nat} {r:Int} (heq:config_CheckPairs.f a0=some r) (hra0:Rw kPair H F Aa0 a0) (hca0:na0≤ca0) (hna0:na0=a0.length):CallsH Tryz.prog 70 #[.slice Aa0 na0 ca0] H w0 (F) (S70 F H r):=by
 refine Co C70 Tryz.func70 Tryz.ntmps70 ?_
 subst hna0
 unfold config_CheckPairs.f at heq
 refine Sa 1<|Qd 1 [0] []<|Sa 2<|Qd 3 [0,7] [(7,.bool (decide (30<(a0.length:Int))))] ?_
 refine Cb heq ?_ ?_
 ·intro hb1 heq
  refine Sa 1<|Qd 1 [2] [(2,iv 2)] ?_
  obtain rfl:=Option.some.inj heq
  exact RunH.done (by kernel_rfl) Tryz.func70 (v:=iv 2) (by kernel_rfl) ⟨rfl,rfl,rfl⟩
 ·intro hb1 heq
  refine Sa 3<|Qd 3 [0,8,9,10] [(8,.slice Aa0 a0.length ca0),(9,iv (a0.length:Int)),(10,iv 0)]<|An 2 ?_
  exact Gt [0,8,9,10] 0 [] (((config_CheckPairs.l2_c (e1:=config_CheckPairs.e1) (config_CheckPairs.e1_c)) big) a0 _ _ 0 hra0 hca0 heq)
noncomputable def C71:Ctx:={ P:=Tryz.prog,f:=71,N:=46,c:=bodyOf Tryz.f71 }
def S71 (F:List Ch) (H0:Hp) (r:Int) (v:Value) (H:Hp) (cs:List Ch):Prop:=H0=H∧v=iv r∧F=cs
theorem workers_checkStands.e1_c [Wz w0] {r:Int}:workers_checkStands.e1=some r→RunH C71 (S71 F H r) H w0 [.c [1,1,1,0],.c [1,1,1,1]] [] H (F):=by
 intro   heq
 unfold workers_checkStands.e1 at heq
 refine Sa 0<|Qd 1 [2] [(2,iv 0)] ?_
 obtain rfl:=Option.some.inj heq
 exact RunH.done (by kernel_rfl) Tryz.func71 (v:=iv 0) (by kernel_rfl) ⟨rfl,rfl,rfl⟩
theorem workers_checkStands.l2_c [Wz w0] {r:Int} (e1:Option Int)
  (he1:e1=some r→RunH C71 (S71 F H r) H w0 [.c [1,1,1,0],.c [1,1,1,1]] [] H (F)):∀ (k:Nat),∀ (a0:List Span) (Aa0:Option Addr) (ca0:Nat) (v10:Int) ,Rw kSpan H F Aa0 a0→a0.length≤ca0→workers_checkStands.l2 e1 k a0 v10=some r→RunH C71 (S71 F H r) H w0 [.c [1,1,0,1,0,0],.l [1,1,0,1,0,0],.b 0,.c [1,1,1]] [(0,.slice Aa0 a0.length ca0),(8,.slice Aa0 a0.length ca0),(9,iv (a0.length:Int)),(10,iv v10)] H (F):=by
 intro k
 induction k with
 | zero=>intro a0 Aa0 ca0 v10 hra0 hca0 heq; exact nomatch (show (none:Option Int)=some r from heq)
 | succ k ihk =>
  intro a0 Aa0 ca0 v10 hra0 hca0 heq
  rw [workers_checkStands.l2] at heq
  refine Sa 1<|Qd 1 [0,8,9,10,11] [(11,.bool (decide (v10<(a0.length:Int))))]<|An 1 ?_
  refine Cb heq ?_ ?_
  ·intro hb2 heq
   refine Sa 4 ?_
   obtain ⟨x1,hx1,heq⟩:=bind_some heq
   obtain ⟨ha1,cs1,hK1,hcc1⟩:=hra0.get hx1
   obtain ⟨rfl⟩:=kSpan_open hK1
   refine Qv 3 [0,8,9,10,12,14] ([nx ha1 hx1]++ers hcc1 0) [(12,iv v10),(14,.agg #[iv x1.From,iv x1.To])] ?_
   refine RgH.does (DoesH.new (d:=4) (v:=fun g=>.pointer (some ⟨g,0,none⟩)) (o:=fun g=>.cells #[iv 0,iv 0] 119 (0,0)) (fun g=>by kernel_rfl)) ?_
   rintro _ _ _ _ ⟨g1,rfl,rfl,rfl⟩
   refine Qk 5 [0,3,4,8,9,10,14] [(3,iv v10)] ?_
   refine RgH.does (DoesH.store (k:=0) (g:=g1) (off:=0) (v:=.agg #[iv x1.From,iv x1.To]) (cells':=#[iv x1.From,iv x1.To]) (by kernel_rfl) rfl (by kernel_rfl) (by kernel_rfl)) ?_
   rintro _ _ _ _ ⟨rfl,rfl,rfl⟩
   refine Dn<|An 2 ?_
   obtain ⟨t1,ht1,heq⟩:=bind_some heq
   have K2:RunH C71 (S71 F H r) H w0 [.c [1,1,0,1,0,0,1,1,0,0,1,0,1],.c [1,1,0,1,0,0,1,1,0,0,1,1],.b 1,.c [1,1,0,1,0,0,1,1,1],.l [1,1,0,1,0,0],.b 0,.c [1,1,1]] [(0,.slice Aa0 a0.length ca0),(3,iv v10),(4,pg g1 0),(8,.slice Aa0 a0.length ca0),(9,iv (a0.length:Int)),(10,iv v10),(24,.bool t1)] H ((some (g1,.cells #[iv x1.From,iv x1.To] 119 (0,0)))::F):=by
    refine Cb heq ?_ ?_
    ·intro hb4 heq
     refine Sa 1<|Qd 1 [2] [(2,iv 1)] ?_
     obtain rfl:=Option.some.inj heq
     refine Up 1 [] ?_
     exact RunH.done (by kernel_rfl) Tryz.func71 (v:=iv 1) (by kernel_rfl) ⟨rfl,rfl,rfl⟩
    ·intro hb4 heq
     refine An 2 ?_
     obtain ⟨t2,ht2,heq⟩:=bind_some heq
     have K3:RunH C71 (S71 F H r) H w0 [.c [1,1,0,1,0,0,1,1,0,0,1,1,1],.b 1,.c [1,1,0,1,0,0,1,1,1],.l [1,1,0,1,0,0],.b 0,.c [1,1,1]] [(0,.slice Aa0 a0.length ca0),(8,.slice Aa0 a0.length ca0),(9,iv (a0.length:Int)),(10,iv v10),(44,.bool t2)] H (F):=by
      refine Cb heq ?_ ?_
      ·intro hb7 heq
       refine Sa 1<|Qd 1 [2] [(2,iv 8)] ?_
       obtain rfl:=Option.some.inj heq
       exact RunH.done (by kernel_rfl) Tryz.func71 (v:=iv 8) (by kernel_rfl) ⟨rfl,rfl,rfl⟩
      ·intro hb7 heq
       refine Sa 2<|Qd 2 [0,8,9,10] [(10,iv (w64 (v10+1)))]<|An 1 ?_
       exact Gt [0,8,9,10] 0 [] (ihk a0 _ _ (w64 (v10+1)) hra0 hca0 heq)
     replace heq:=ht2
     refine Qp [0,3,4,8,9,10]<|Sd 1 20 [0] [3,3,3,3,3,3,3,3,3,3,3,3,3,3,3,3,3,3,3,3]<|Qs [0,1,2,3,4,5] 14 [30,0,3,4,8,9,10] [bx 0 1,bx 0 0] [(30,.bool (decide (x1.To≤x1.From)))] (Pk 1 [0]) (Pk 1 [0]) ?_
     rcases bool_cases (decide (x1.To≤x1.From)) with hb5 | hb5
     ·replace heq:=bif_true hb5 heq
      refine DrH.val1 (v':=.bool true) (congrArg Value.bool hb5) ?_
      refine Qs [6,7,8,9,10,11,12,13,14,15,16,17,18,19] 0 [0,8,9,10,44] [] [(44,.bool true)] (Pk 1 [0]) (Pk 1 [0]) ?_
      obtain rfl:=Option.some.inj heq
      refine Qr [0,8,9,10,44]<|Ur 1 [] ?_
      refine DrH.done (by kernel_rfl) ?_
      exact Ge (K3)
     ·replace heq:=bif_false hb5 heq
      refine DrH.val1 (v':=.bool false) (congrArg Value.bool hb5) ?_
      refine Qs [6,7,8] 11 [33,0,3,4,8,9,10,30] [] [(33,.bool (decide (0<v10)))] (Pk 1 [0]) (Pk 1 [0]) ?_
      rcases bool_cases (decide (0<v10)) with hb6 | hb6
      ·replace heq:=bif_true hb6 heq
       refine DrH.val1 (v':=.bool true) (congrArg Value.bool hb6) ?_
       obtain ⟨x2,hx2,heq⟩:=bind_some heq
       obtain ⟨ha2,cs2,hK2,hcc2⟩:=hra0.get hx2
       obtain ⟨rfl⟩:=kSpan_open hK2
       refine Qs [9,10,11,12,13,14,15,16,17,18,19] 0 [0,8,9,10,44] [bx 0 0,nx ha2 hx2,er hcc2 1 1] [(44,.bool (decide (x1.From<x2.To)))] (Pk 1 [0]) (Pk 1 [0]) ?_
       obtain rfl:=Option.some.inj heq
       refine Qr [0,8,9,10,44]<|Ur 1 [] ?_
       refine DrH.done (by kernel_rfl) ?_
       exact Ge (K3)
      ·replace heq:=bif_false hb6 heq
       refine DrH.val1 (v':=.bool false) (congrArg Value.bool hb6) ?_
       refine Qs [9,10,11,12,13,14,15,16,17,18,19] 0 [0,8,9,10,44] [] [(44,.bool false)] (Pk 1 [0]) (Pk 1 [0]) ?_
       obtain rfl:=Option.some.inj heq
       refine Qr [0,8,9,10,44]<|Ur 1 [] ?_
       refine DrH.done (by kernel_rfl) ?_
       exact Ge (K3)
   replace heq:=ht1
   refine Sa 0<|Qv 2 [0,3,4,8,9,10,16] [bx 0 0] [(16,iv x1.From)] ?_
   obtain ⟨y1,hy1,heq⟩:=bind_some heq
   refine RgH.does (cal 17 (workers_isMoment_c hy1 )) ?_
   rintro _ _ _ _ ⟨_,rfl,rfl,rfl,rfl⟩
   refine Qk 5 [19,0,3,4,8,9,10] [(19,.bool (!y1))] ?_
   rcases bool_cases (!y1) with hb3 | hb3
   ·replace heq:=bif_true hb3 heq
    refine RgH.val1 (v':=.bool true) (congrArg Value.bool hb3) ?_
    refine Qk 10 [0,3,4,8,9,10,24] [(24,.bool true)] ?_
    obtain rfl:=Option.some.inj heq
    refine Qg [0,3,4,8,9,10,24]<|Dn ?_
    exact Ge (K2)
   ·replace heq:=bif_false hb3 heq
    refine RgH.val1 (v':=.bool false) (congrArg Value.bool hb3) ?_
    refine Qv 7 [0,3,4,8,9,10,19,21] [bx 0 1] [(21,iv x1.To)] ?_
    obtain ⟨y2,hy2,heq⟩:=bind_some heq
    refine RgH.does (cal 22 (workers_isMoment_c hy2 )) ?_
    rintro _ _ _ _ ⟨_,rfl,rfl,rfl,rfl⟩
    refine Qk 10 [0,3,4,8,9,10,24] [(24,.bool (!y2))] ?_
    obtain rfl:=Option.some.inj heq
    refine Qg [0,3,4,8,9,10,24]<|Dn ?_
    exact Ge (K2)
  ·intro hb2 heq
   refine An 2 ?_
   exact Gt [] 0 [] (he1 heq)
theorem workers_checkStands_c [Wz w0] {a0:List Span} {Aa0:Option Addr} {na0 ca0:Nat} {r:Int} (heq:workers_checkStands.f a0=some r) (hra0:Rw kSpan H F Aa0 a0) (hca0:na0≤ca0) (hna0:na0=a0.length):CallsH Tryz.prog 71 #[.slice Aa0 na0 ca0] H w0 (F) (S71 F H r):=by
 refine Co C71 Tryz.func71 Tryz.ntmps71 ?_
 subst hna0
 unfold workers_checkStands.f at heq
 refine Sa 1<|Qd 1 [0] []<|Sa 2<|Qd 3 [0,7] [(7,.bool (decide (20<(a0.length:Int))))] ?_
 refine Cb heq ?_ ?_
 ·intro hb1 heq
  refine Sa 1<|Qd 1 [2] [(2,iv 2)] ?_
  obtain rfl:=Option.some.inj heq
  exact RunH.done (by kernel_rfl) Tryz.func71 (v:=iv 2) (by kernel_rfl) ⟨rfl,rfl,rfl⟩
 ·intro hb1 heq
  refine Sa 3<|Qd 3 [0,8,9,10] [(8,.slice Aa0 a0.length ca0),(9,iv (a0.length:Int)),(10,iv 0)]<|An 2 ?_
  exact Gt [0,8,9,10] 0 [] (((workers_checkStands.l2_c (e1:=workers_checkStands.e1) (workers_checkStands.e1_c)) big) a0 _ _ 0 hra0 hca0 heq)
noncomputable def C48:Ctx:={ P:=Tryz.prog,f:=48,N:=44,c:=bodyOf Tryz.f48 }
def S48 (F:List Ch) (H0:Hp) (r:Int) (v:Value) (H:Hp) (cs:List Ch):Prop:=H0=H∧v=iv r∧F=cs
theorem workers_checkWorker_c [Wz w0] {a0:Worker} {Aa0_1:Option Addr} {na0_1 ca0_1:Nat} {Aa0_6:Option Addr} {na0_6 ca0_6:Nat} {r:Int} (heq:workers_checkWorker.f a0=some r) (hra0_1:Rw kPair H F Aa0_1 a0.Has) (hca0_1:na0_1≤ca0_1) (hna0_1:na0_1=a0.Has.length) (hra0_6:Rw kSpan H F Aa0_6 a0.Stands) (hca0_6:na0_6≤ca0_6) (hna0_6:na0_6=a0.Stands.length):CallsH Tryz.prog 48 #[.agg #[.string a0.Name,.slice Aa0_1 na0_1 ca0_1,iv a0.Slots,iv a0.Speed,iv a0.From,iv a0.To,.slice Aa0_6 na0_6 ca0_6]] H w0 (F) (S48 F H r):=by
 refine Co C48 Tryz.func48 Tryz.ntmps48 ?_
 subst hna0_1
 subst hna0_6
 unfold workers_checkWorker.f at heq
 refine Sa 1 ?_
 refine RgH.does (DoesH.new (d:=1) (v:=fun g=>.pointer (some ⟨g,0,none⟩)) (o:=fun g=>.cells #[.string a0.Name,.slice Aa0_1 a0.Has.length ca0_1,iv a0.Slots,iv a0.Speed,iv a0.From,iv a0.To,.slice Aa0_6 a0.Stands.length ca0_6] 55 (0,0)) (fun g=>by kernel_rfl)) ?_
 rintro _ _ _ _ ⟨g1,rfl,rfl,rfl⟩
 refine Qd 2 [1] []<|Sa 2<|Qv 2 [1,5] [bx 0 0] [(5,.string a0.Name)] ?_
 obtain ⟨y1,hy1,heq⟩:=bind_some heq
 refine RgH.does (cal 6 (config_IsWord_c hy1 )) ?_
 rintro _ _ _ _ ⟨_,rfl,rfl,rfl,rfl⟩
 refine Qd 4 [1,7] [(7,.bool (!y1))] ?_
 refine Cb heq ?_ ?_
 ·intro hb1 heq
  refine Sa 1<|Qd 1 [2] [(2,iv 5)] ?_
  obtain rfl:=Option.some.inj heq
  refine Up 1 [] ?_
  exact RunH.done (by kernel_rfl) Tryz.func48 (v:=iv 5) (by kernel_rfl) ⟨rfl,rfl,rfl⟩
 ·intro hb1 heq
  refine Sa 3<|Qv 2 [1,9] [bx 0 1] [(9,.slice Aa0_1 a0.Has.length ca0_1)] ?_
  obtain ⟨y2,hy2,heq⟩:=bind_some heq
  refine RgH.does (cal 10 (config_CheckPairs_c hy2 (hra0_1.wk (fun _ h=>(.tail _ h))) hca0_1 rfl)) ?_
  rintro _ _ _ _ ⟨_,rfl,rfl,rfl,rfl⟩
  refine Qd 4 [1,3] [(3,iv y2)]<|Sa 1<|Qd 2 [1,3,12] [(12,.bool (y2 != 0))] ?_
  refine Cb heq ?_ ?_
  ·intro hb2 heq
   refine Sa 1<|Qd 2 [2] [(2,iv y2)] ?_
   obtain rfl:=Option.some.inj heq
   refine Up 1 [] ?_
   exact RunH.done (by kernel_rfl) Tryz.func48 (v:=iv y2) (by kernel_rfl) ⟨rfl,rfl,rfl⟩
  ·intro hb2 heq
   refine An 3 ?_
   obtain ⟨t1,ht1,heq⟩:=bind_some heq
   have K2:RunH C48 (S48 F H r) H w0 [.c [1,1,1,0,1],.c [1,1,1,1]] [(1,pg g1 0),(35,.bool t1)] H ((some (g1,.cells #[.string a0.Name,.slice Aa0_1 a0.Has.length ca0_1,iv a0.Slots,iv a0.Speed,iv a0.From,iv a0.To,.slice Aa0_6 a0.Stands.length ca0_6] 55 (0,0)))::F):=by
    refine Cb heq ?_ ?_
    ·intro hb6 heq
     refine Sa 1<|Qd 1 [2] [(2,iv 1)] ?_
     obtain rfl:=Option.some.inj heq
     refine Up 1 [] ?_
     exact RunH.done (by kernel_rfl) Tryz.func48 (v:=iv 1) (by kernel_rfl) ⟨rfl,rfl,rfl⟩
    ·intro hb6 heq
     refine Sa 3<|Qw 5 [1,40] [bx 0 5,bx 0 4] [(40,.bool (decide (a0.To≤a0.From)))] ?_
     refine Cb heq ?_ ?_
     ·intro hb7 heq
      refine Sa 1<|Qd 1 [2] [(2,iv 8)] ?_
      obtain rfl:=Option.some.inj heq
      refine Up 1 [] ?_
      exact RunH.done (by kernel_rfl) Tryz.func48 (v:=iv 8) (by kernel_rfl) ⟨rfl,rfl,rfl⟩
     ·intro hb7 heq
      refine Sa 2<|Qv 2 [42] [bx 0 6] [(42,.slice Aa0_6 a0.Stands.length ca0_6)] ?_
      obtain ⟨y7,hy7,heq⟩:=bind_some heq
      refine RgH.does (cal 43 (workers_checkStands_c hy7 (hra0_6.wk (fun _ h=>(.tail _ h))) hca0_6 rfl)) ?_
      rintro _ _ _ _ ⟨_,rfl,rfl,rfl,rfl⟩
      refine Qd 4 [2] [(2,iv y7)] ?_
      obtain rfl:=Option.some.inj heq
      refine Up 1 [] ?_
      exact RunH.done (by kernel_rfl) Tryz.func48 (v:=iv y7) (by kernel_rfl) ⟨rfl,rfl,rfl⟩
   replace heq:=ht1
   refine Sa 0<|Qv 2 [1,15] [bx 0 2] [(15,iv a0.Slots)] ?_
   obtain ⟨y3,hy3,heq⟩:=bind_some heq
   refine RgH.does (cal 16 (workers_within_c hy3 )) ?_
   rintro _ _ _ _ ⟨_,rfl,rfl,rfl,rfl⟩
   refine Qk 5 [18,1] [(18,.bool (!y3))] ?_
   rcases bool_cases (!y3) with hb3 | hb3
   ·replace heq:=bif_true hb3 heq
    refine RgH.val1 (v':=.bool true) (congrArg Value.bool hb3) ?_
    refine Qk 22 [1,35] [(35,.bool true)] ?_
    obtain rfl:=Option.some.inj heq
    refine Qg [1,35]<|Dn ?_
    exact Ge (K2)
   ·replace heq:=bif_false hb3 heq
    refine RgH.val1 (v':=.bool false) (congrArg Value.bool hb3) ?_
    refine Qv 7 [1,18,20] [bx 0 3] [(20,iv a0.Speed)] ?_
    obtain ⟨y4,hy4,heq⟩:=bind_some heq
    refine RgH.does (cal 21 (workers_within_c hy4 )) ?_
    rintro _ _ _ _ ⟨_,rfl,rfl,rfl,rfl⟩
    refine Qk 11 [24,1] [(24,.bool (!y4))] ?_
    rcases bool_cases (!y4) with hb4 | hb4
    ·replace heq:=bif_true hb4 heq
     refine RgH.val1 (v':=.bool true) (congrArg Value.bool hb4) ?_
     refine Qk 22 [1,35] [(35,.bool true)] ?_
     obtain rfl:=Option.some.inj heq
     refine Qg [1,35]<|Dn ?_
     exact Ge (K2)
    ·replace heq:=bif_false hb4 heq
     refine RgH.val1 (v':=.bool false) (congrArg Value.bool hb4) ?_
     refine Qv 13 [1,24,26] [bx 0 4] [(26,iv a0.From)] ?_
     obtain ⟨y5,hy5,heq⟩:=bind_some heq
     refine RgH.does (cal 27 (workers_isMoment_c hy5 )) ?_
     rintro _ _ _ _ ⟨_,rfl,rfl,rfl,rfl⟩
     refine Qk 17 [30,1] [(30,.bool (!y5))] ?_
     rcases bool_cases (!y5) with hb5 | hb5
     ·replace heq:=bif_true hb5 heq
      refine RgH.val1 (v':=.bool true) (congrArg Value.bool hb5) ?_
      refine Qk 22 [1,35] [(35,.bool true)] ?_
      obtain rfl:=Option.some.inj heq
      refine Qg [1,35]<|Dn ?_
      exact Ge (K2)
     ·replace heq:=bif_false hb5 heq
      refine RgH.val1 (v':=.bool false) (congrArg Value.bool hb5) ?_
      refine Qv 19 [1,30,32] [bx 0 5] [(32,iv a0.To)] ?_
      obtain ⟨y6,hy6,heq⟩:=bind_some heq
      refine RgH.does (cal 33 (workers_isMoment_c hy6 )) ?_
      rintro _ _ _ _ ⟨_,rfl,rfl,rfl,rfl⟩
      refine Qk 22 [1,35] [(35,.bool (!y6))] ?_
      obtain rfl:=Option.some.inj heq
      refine Qg [1,35]<|Dn ?_
      exact Ge (K2)
noncomputable def C32:Ctx:={ P:=Tryz.prog,f:=32,N:=14,c:=bodyOf Tryz.f32 }
def S32 (F:List Ch) (H0:Hp) (r:Int) (v:Value) (H:Hp) (cs:List Ch):Prop:=H0=H∧v=iv r∧F=cs
theorem workers_checkSize_c [Wz w0] {a0:Worker} {Aa0_1:Option Addr} {na0_1 ca0_1:Nat} {Aa0_6:Option Addr} {na0_6 ca0_6:Nat} {a1:Int} {r:Int} (heq:workers_checkSize.f a0 a1=some r) (hra0_1:Rw kPair H F Aa0_1 a0.Has) (hca0_1:na0_1≤ca0_1) (hna0_1:na0_1=a0.Has.length) (hra0_6:Rw kSpan H F Aa0_6 a0.Stands) (hca0_6:na0_6≤ca0_6) (hna0_6:na0_6=a0.Stands.length):CallsH Tryz.prog 32 #[.agg #[.string a0.Name,.slice Aa0_1 na0_1 ca0_1,iv a0.Slots,iv a0.Speed,iv a0.From,iv a0.To,.slice Aa0_6 na0_6 ca0_6],iv a1] H w0 (F) (S32 F H r):=by
 refine Co C32 Tryz.func32 Tryz.ntmps32 ?_
 subst hna0_1
 subst hna0_6
 unfold workers_checkSize.f at heq
 refine Sa 1 ?_
 refine RgH.does (DoesH.new (d:=2) (v:=fun g=>.pointer (some ⟨g,0,none⟩)) (o:=fun g=>.cells #[.string a0.Name,.slice Aa0_1 a0.Has.length ca0_1,iv a0.Slots,iv a0.Speed,iv a0.From,iv a0.To,.slice Aa0_6 a0.Stands.length ca0_6] 55 (0,0)) (fun g=>by kernel_rfl)) ?_
 rintro _ _ _ _ ⟨g1,rfl,rfl,rfl⟩
 refine Qd 2 [1,2] []<|Sa 2<|Qv 1 [1,6] (bxs 0) [(6,.agg #[.string a0.Name,.slice Aa0_1 a0.Has.length ca0_1,iv a0.Slots,iv a0.Speed,iv a0.From,iv a0.To,.slice Aa0_6 a0.Stands.length ca0_6])] ?_
 obtain ⟨y1,hy1,heq⟩:=bind_some heq
 refine RgH.does (cal 7 (workers_checkWorker_c hy1 (hra0_1.wk (fun _ h=>(.tail _ h))) hca0_1 rfl (hra0_6.wk (fun _ h=>(.tail _ h))) hca0_6 rfl)) ?_
 rintro _ _ _ _ ⟨_,rfl,rfl,rfl,rfl⟩
 refine Qd 3 [1,5] [(5,iv y1)]<|Sa 1<|Qd 2 [1,5,9] [(9,.bool (y1 != 0))] ?_
 refine Cb heq ?_ ?_
 ·intro hb1 heq
  refine Sa 1<|Qd 2 [4] [(4,iv y1)] ?_
  obtain rfl:=Option.some.inj heq
  refine Up 1 [] ?_
  exact RunH.done (by kernel_rfl) Tryz.func32 (v:=iv y1) (by kernel_rfl) ⟨rfl,rfl,rfl⟩
 ·intro hb1 heq
  refine Sa 3<|Qk 1 [11] [(11,iv a1)] ?_
  obtain ⟨y2,hy2,heq⟩:=bind_some heq
  refine RgH.does (cal 12 (workers_within_c hy2 )) ?_
  rintro _ _ _ _ ⟨_,rfl,rfl,rfl,rfl⟩
  refine Qd 3 [13] [(13,.bool (!y2))] ?_
  refine Cb heq ?_ ?_
  ·intro hb2 heq
   refine Sa 1<|Qd 1 [4] [(4,iv 1)] ?_
   obtain rfl:=Option.some.inj heq
   refine Up 1 [] ?_
   exact RunH.done (by kernel_rfl) Tryz.func32 (v:=iv 1) (by kernel_rfl) ⟨rfl,rfl,rfl⟩
  ·intro hb2 heq
   refine Sa 2<|Qd 1 [4] [(4,iv 0)] ?_
   obtain rfl:=Option.some.inj heq
   refine Up 1 [] ?_
   exact RunH.done (by kernel_rfl) Tryz.func32 (v:=iv 0) (by kernel_rfl) ⟨rfl,rfl,rfl⟩
noncomputable def C33:Ctx:={ P:=Tryz.prog,f:=33,N:=13,c:=bodyOf Tryz.f33 }
def S33 (F:List Ch) (H0:Hp) (r:Int) (v:Value) (H:Hp) (cs:List Ch):Prop:=H0=H∧v=iv r∧F=cs
theorem workers_seconds_c [Wz w0] {a0:Worker} {Aa0_1:Option Addr} {na0_1 ca0_1:Nat} {Aa0_6:Option Addr} {na0_6 ca0_6:Nat} {a1:Int} {r:Int} (heq:workers_seconds.f a0 a1=some r) (hra0_1:Rw kPair H F Aa0_1 a0.Has) (hca0_1:na0_1≤ca0_1) (hna0_1:na0_1=a0.Has.length) (hra0_6:Rw kSpan H F Aa0_6 a0.Stands) (hca0_6:na0_6≤ca0_6) (hna0_6:na0_6=a0.Stands.length):CallsH Tryz.prog 33 #[.agg #[.string a0.Name,.slice Aa0_1 na0_1 ca0_1,iv a0.Slots,iv a0.Speed,iv a0.From,iv a0.To,.slice Aa0_6 na0_6 ca0_6],iv a1] H w0 (F) (S33 F H r):=by
 refine Co C33 Tryz.func33 Tryz.ntmps33 ?_
 subst hna0_1
 subst hna0_6
 unfold workers_seconds.f at heq
 refine Sa 1 ?_
 refine RgH.does (DoesH.new (d:=2) (v:=fun g=>.pointer (some ⟨g,0,none⟩)) (o:=fun g=>.cells #[.string a0.Name,.slice Aa0_1 a0.Has.length ca0_1,iv a0.Slots,iv a0.Speed,iv a0.From,iv a0.To,.slice Aa0_6 a0.Stands.length ca0_6] 55 (0,0)) (fun g=>by kernel_rfl)) ?_
 rintro _ _ _ _ ⟨g1,rfl,rfl,rfl⟩
 refine Qd 2 [1,2] []<|Sa 1 ?_
 obtain ⟨hn1,heq⟩:=guard?_some heq
 refine Qw 9 [4] [bx 0 3,bx 0 3,nz hn1] [(4,iv (w64 ((w64 ((w64 (a1+a0.Speed)) - 1)).tdiv a0.Speed)))] ?_
 obtain rfl:=Option.some.inj heq
 refine Up 1 [] ?_
 exact RunH.done (by kernel_rfl) Tryz.func33 (v:=iv (w64 ((w64 ((w64 (a1+a0.Speed)) - 1)).tdiv a0.Speed))) (by kernel_rfl) ⟨rfl,rfl,rfl⟩
noncomputable def C18:Ctx:={ P:=Tryz.prog,f:=18,N:=16,c:=bodyOf Tryz.f18 }
def S18 (F:List Ch) (H0:Hp) (r:Int × Int) (v:Value) (H:Hp) (cs:List Ch):Prop:=H0=H∧v=.tuple #[iv r.1,iv r.2]∧F=cs
theorem workers_Seconds_c [Wz w0] {a0:Worker} {Aa0_1:Option Addr} {na0_1 ca0_1:Nat} {Aa0_6:Option Addr} {na0_6 ca0_6:Nat} {a1:Int} {r:Int × Int} (heq:workers_Seconds.f a0 a1=some r) (hra0_1:Rw kPair H F Aa0_1 a0.Has) (hca0_1:na0_1≤ca0_1) (hna0_1:na0_1=a0.Has.length) (hra0_6:Rw kSpan H F Aa0_6 a0.Stands) (hca0_6:na0_6≤ca0_6) (hna0_6:na0_6=a0.Stands.length):CallsH Tryz.prog 18 #[.agg #[.string a0.Name,.slice Aa0_1 na0_1 ca0_1,iv a0.Slots,iv a0.Speed,iv a0.From,iv a0.To,.slice Aa0_6 na0_6 ca0_6],iv a1] H w0 (F) (S18 F H r):=by
 refine Co C18 Tryz.func18 Tryz.ntmps18 ?_
 subst hna0_1
 subst hna0_6
 unfold workers_Seconds.f at heq
 refine Sa 1 ?_
 refine RgH.does (DoesH.new (d:=2) (v:=fun g=>.pointer (some ⟨g,0,none⟩)) (o:=fun g=>.cells #[.string a0.Name,.slice Aa0_1 a0.Has.length ca0_1,iv a0.Slots,iv a0.Speed,iv a0.From,iv a0.To,.slice Aa0_6 a0.Stands.length ca0_6] 55 (0,0)) (fun g=>by kernel_rfl)) ?_
 rintro _ _ _ _ ⟨g1,rfl,rfl,rfl⟩
 refine Qd 3 [1,2] []<|Sa 2<|Qv 2 [1,2,7,8] (bxs 0) [(7,.agg #[.string a0.Name,.slice Aa0_1 a0.Has.length ca0_1,iv a0.Slots,iv a0.Speed,iv a0.From,iv a0.To,.slice Aa0_6 a0.Stands.length ca0_6]),(8,iv a1)] ?_
 obtain ⟨y1,hy1,heq⟩:=bind_some heq
 refine RgH.does (cal 9 (workers_checkSize_c hy1 (hra0_1.wk (fun _ h=>(.tail _ h))) hca0_1 rfl (hra0_6.wk (fun _ h=>(.tail _ h))) hca0_6 rfl)) ?_
 rintro _ _ _ _ ⟨_,rfl,rfl,rfl,rfl⟩
 refine Qd 4 [1,2,6] [(6,iv y1)]<|Sa 1<|Qd 2 [1,2,6,11] [(11,.bool (y1 != 0))] ?_
 refine Cb heq ?_ ?_
 ·intro hb1 heq
  refine Sa 1<|Qd 3 [4,5] [(4,iv 0),(5,iv y1)] ?_
  obtain rfl:=Option.some.inj heq
  refine Up 1 [] ?_
  exact RunH.done (by kernel_rfl) Tryz.func18 (v:=.tuple #[iv 0,iv y1]) (by kernel_rfl) ⟨rfl,rfl,rfl⟩
 ·intro hb1 heq
  refine Sa 2<|Qv 2 [13,14] (bxs 0) [(13,.agg #[.string a0.Name,.slice Aa0_1 a0.Has.length ca0_1,iv a0.Slots,iv a0.Speed,iv a0.From,iv a0.To,.slice Aa0_6 a0.Stands.length ca0_6]),(14,iv a1)] ?_
  obtain ⟨y2,hy2,heq⟩:=bind_some heq
  refine RgH.does (cal 15 (workers_seconds_c hy2 (hra0_1.wk (fun _ h=>(.tail _ h))) hca0_1 rfl (hra0_6.wk (fun _ h=>(.tail _ h))) hca0_6 rfl)) ?_
  rintro _ _ _ _ ⟨_,rfl,rfl,rfl,rfl⟩
  refine Qd 5 [4,5] [(4,iv y2),(5,iv 0)] ?_
  obtain rfl:=Option.some.inj heq
  refine Up 1 [] ?_
  exact RunH.done (by kernel_rfl) Tryz.func18 (v:=.tuple #[iv y2,iv 0]) (by kernel_rfl) ⟨rfl,rfl,rfl⟩
noncomputable def C8:Ctx:={ P:=Tryz.prog,f:=8,N:=14,c:=bodyOf Tryz.f8 }
def S8 (F:List Ch) (H0:Hp) (r:Bool) (v:Value) (H:Hp) (cs:List Ch):Prop:=H0=H∧v=.bool r∧F=cs
theorem smithyardlaw9_awake_c [Wz w0] {r:Bool} (heq:smithyardlaw9_awake.f=some r):CallsH Tryz.prog 8 (List.toArray []) H w0 (F) (S8 F H r):=by
 refine Co C8 Tryz.func8 Tryz.ntmps8 ?_
 unfold smithyardlaw9_awake.f at heq
 refine Sa 1<|Qd 1 [] []<|Sa 1<|Qk 1 [4] [(4,.agg #[.string ({ data:=#[97] }:ByteArray),.slice none 0 0,iv 1,iv 2,iv 0,iv 1,.slice none 0 0])] ?_
 obtain ⟨y1,hy1,heq⟩:=bind_some heq
 refine RgH.does (cal 5 (workers_Seconds_c hy1 (Rw.nil (A:=none)) (Nat.le_refl _) rfl (Rw.nil (A:=none)) (Nat.le_refl _) rfl)) ?_
 rintro _ _ _ _ ⟨_,rfl,rfl,rfl,rfl⟩
 refine Qd 7 [1,2] [(1,iv y1.1),(2,iv y1.2)]<|An 1 ?_
 obtain ⟨t1,ht1,heq⟩:=bind_some heq
 have K1:RunH C8 (S8 F H r) H w0 [.c [1,1,1]] [(0,.bool t1)] H (F):=by
  obtain rfl:=Option.some.inj heq
  exact RunH.done (by kernel_rfl) Tryz.func8 (v:=.bool t1) (by kernel_rfl) ⟨rfl,rfl,rfl⟩
 replace heq:=ht1
 refine Sa 0<|Qk 3 [10,1] [(10,.bool (y1.2 == 0))] ?_
 rcases bool_cases (y1.2 == 0) with hb1 | hb1
 ·replace heq:=bif_true hb1 heq
  refine RgH.val1 (v':=.bool true) (congrArg Value.bool hb1) ?_
  refine Qk 7 [0] [(0,.bool (y1.1 == 2))] ?_
  obtain rfl:=Option.some.inj heq
  refine Qg [0]<|Dn ?_
  exact Ge (K1)
 ·replace heq:=bif_false hb1 heq
  refine RgH.val1 (v':=.bool false) (congrArg Value.bool hb1) ?_
  refine Qk 7 [0] [(0,.bool false)] ?_
  obtain rfl:=Option.some.inj heq
  refine Qg [0]<|Dn ?_
  exact Ge (K1)
def S49 (F:List Ch) (H0:Hp) (r:Int) (v:Value) (H:Hp) (cs:List Ch):Prop:=H0=H∧v=iv r∧F=cs
theorem stringslite_Index_c [Wz w0] {a0 a1:ByteArray} {r:Int} (heq:stringslite_Index.f a0 a1=some r):CallsH Tryz.prog 49 #[.string a0,.string a1] H w0 F (S49 F H r):=by
 intro w hh
 unfold stringslite_Index.f at heq
 obtain ⟨hn,heq⟩:=guard?_some heq
 obtain rfl:=Option.some.inj heq
 obtain ⟨c,rfl⟩:∃ c,a1=⟨#[c]⟩:=by
  obtain ⟨⟨l⟩⟩:=a1
  match l,hn with
  | [c],_=>exact ⟨c,rfl⟩
 refine (Shelf.Tryz.stringslite_Index_one a0 c w).mono ?_
 rintro e w' ⟨rfl,rfl⟩
 exact ⟨_,rfl,_,_,Le.refl _,hh,rfl,rfl,rfl⟩
noncomputable def C34:Ctx:={ P:=Tryz.prog,f:=34,N:=23,c:=bodyOf Tryz.f34 }
def S34 (F:List Ch) (H0:Hp) (r:ByteArray × ByteArray × Bool) (v:Value) (H:Hp) (cs:List Ch):Prop:=H0=H∧v=.tuple #[.string r.1,.string r.2.1,.bool r.2.2]∧F=cs
theorem stringslite_Cut_c [Wz w0] {a0 a1:ByteArray} {r:ByteArray × ByteArray × Bool} (heq:stringslite_Cut.f a0 a1=some r):CallsH Tryz.prog 34 #[.string a0,.string a1] H w0 (F) (S34 F H r):=by
 refine Co C34 Tryz.func34 Tryz.ntmps34 ?_
 unfold stringslite_Cut.f at heq
 refine Sa 1<|Qd 3 [0,1] []<|Sa 2<|Qk 2 [0,1,8,9] [(8,.string a0),(9,.string a1)] ?_
 obtain ⟨y1,hy1,heq⟩:=bind_some heq
 refine RgH.does (cal 10 (stringslite_Index_c (a0:=a0) (a1:=a1)  hy1)) ?_
 rintro _ _ _ _ ⟨_,rfl,rfl,rfl,rfl⟩
 refine Qd 4 [0,1,7] [(7,iv y1)]<|Sa 1<|Qd 2 [0,1,7,12] [(12,.bool (decide (0≤y1)))] ?_
 refine Cb heq ?_ ?_
 ·intro hb1 heq
  refine An 1<|Qp [0,1,7]<|Sd 0 12 [] [3,3,3,3,3,3,3,3,3,3,3,3] ?_
  obtain ⟨hn1,heq⟩:=guard?_some heq
  obtain ⟨hn2,heq⟩:=guard?_some heq
  refine Qs [0,1,2,3,4,5,6,7,8,9,10,11] 0 [4,5,6] [n2 hn1,n2 hn2] [(4,.string (a0.extract 0 y1.toNat)),(5,.string (a0.extract (w64 (y1+(a1.size:Int))).toNat a0.size)),(6,.bool true)] (Pk 0 []) (Pk 0 []) ?_
  refine DrH.done (by kernel_rfl) ?_
  obtain rfl:=Option.some.inj heq
  exact RunH.done (by kernel_rfl) Tryz.func34 (v:=.tuple #[.string (a0.extract 0 y1.toNat),.string (a0.extract (w64 (y1+(a1.size:Int))).toNat a0.size),.bool true]) (by kernel_rfl) ⟨rfl,rfl,rfl⟩
 ·intro hb1 heq
  refine Sa 2<|Qd 4 [4,5,6] [(4,.string a0),(5,.string ({ data:=#[] }:ByteArray)),(6,.bool false)] ?_
  obtain rfl:=Option.some.inj heq
  exact RunH.done (by kernel_rfl) Tryz.func34 (v:=.tuple #[.string a0,.string ({ data:=#[] }:ByteArray),.bool false]) (by kernel_rfl) ⟨rfl,rfl,rfl⟩
noncomputable def C19:Ctx:={ P:=Tryz.prog,f:=19,N:=13,c:=bodyOf Tryz.f19 }
def S19 (F:List Ch) (H0:Hp) (r:ByteArray × ByteArray × Bool) (v:Value) (H:Hp) (cs:List Ch):Prop:=H0=H∧v=.tuple #[.string r.1,.string r.2.1,.bool r.2.2]∧F=cs
theorem strings_Cut_c [Wz w0] {a0 a1:ByteArray} {r:ByteArray × ByteArray × Bool} (heq:strings_Cut.f a0 a1=some r):CallsH Tryz.prog 19 #[.string a0,.string a1] H w0 (F) (S19 F H r):=by
 refine Co C19 Tryz.func19 Tryz.ntmps19 ?_
 unfold strings_Cut.f at heq
 refine Sa 1<|Qd 3 [0,1] []<|Sa 1<|Qk 2 [7,8] [(7,.string a0),(8,.string a1)] ?_
 obtain ⟨y1,hy1,heq⟩:=bind_some heq
 refine RgH.does (cal 9 (stringslite_Cut_c hy1 )) ?_
 rintro _ _ _ _ ⟨_,rfl,rfl,rfl,rfl⟩
 refine Qd 9 [4,5,6] [(4,.string y1.1),(5,.string y1.2.1),(6,.bool y1.2.2)] ?_
 obtain rfl:=Option.some.inj heq
 exact RunH.done (by kernel_rfl) Tryz.func19 (v:=.tuple #[.string y1.1,.string y1.2.1,.bool y1.2.2]) (by kernel_rfl) ⟨rfl,rfl,rfl⟩
def S50 (F:List Ch) (H0:Hp) (r:Int) (v:Value) (H:Hp) (cs:List Ch):Prop:=H0=H∧v=.tuple #[iv r,.nilIface]∧F=cs
theorem strconv_Atoi_c [Wz w0] {a0:ByteArray} {r:Int} (heq:strconv_Atoi.f a0=some r):CallsH Tryz.prog 50 #[.string a0] H w0 F (S50 F H r):=by
 intro w hh
 unfold strconv_Atoi.f at heq
 obtain ⟨hn,heq⟩:=guard?_some heq
 refine (Shelf.Tryz.strconv_Atoi a0 r (of_decide_eq_true hn) heq w).mono ?_
 rintro e w' ⟨rfl,t,rfl⟩
 exact ⟨_,rfl,_,_,Le.refl _,hh.later (Lib.bytesWorld_below _ _ _),rfl,rfl,rfl⟩
noncomputable def C35:Ctx:={ P:=Tryz.prog,f:=35,N:=34,c:=bodyOf Tryz.f35 }
def S35 (F:List Ch) (H0:Hp) (r:Int × Bool) (v:Value) (H:Hp) (cs:List Ch):Prop:=H0=H∧v=.tuple #[iv r.1,.bool r.2]∧F=cs
theorem workers_number_c [Wz w0] {a0:ByteArray} {r:Int × Bool} (heq:workers_number.f a0=some r):CallsH Tryz.prog 35 #[.string a0] H w0 (F) (S35 F H r):=by
 refine Co C35 Tryz.func35 Tryz.ntmps35 ?_
 unfold workers_number.f at heq
 refine Sa 1<|Qd 2 [0] []<|An 2 ?_
 obtain ⟨t1,ht1,heq⟩:=bind_some heq
 have K1:RunH C35 (S35 F H r) H w0 [.c [1,0,1],.c [1,1]] [(0,.string a0),(27,.bool t1)] H (F):=by
  refine Cb heq ?_ ?_
  ·intro hb5 heq
   refine Sa 1<|Qd 2 [2,3] [(2,iv 0),(3,.bool false)] ?_
   obtain rfl:=Option.some.inj heq
   exact RunH.done (by kernel_rfl) Tryz.func35 (v:=.tuple #[iv 0,.bool false]) (by kernel_rfl) ⟨rfl,rfl,rfl⟩
  ·intro hb5 heq
   refine Sa 2<|Qk 1 [29] [(29,.string a0)] ?_
   obtain ⟨y2,hy2,heq⟩:=bind_some heq
   refine RgH.does (cal 30 (strconv_Atoi_c (a0:=a0)  hy2)) ?_
   rintro _ _ _ _ ⟨_,rfl,rfl,rfl,rfl⟩
   refine Qd 7 [4] [(4,iv y2)]<|Sa 1<|Qd 3 [2,3] [(2,iv y2),(3,.bool true)] ?_
   obtain rfl:=Option.some.inj heq
   exact RunH.done (by kernel_rfl) Tryz.func35 (v:=.tuple #[iv y2,.bool true]) (by kernel_rfl) ⟨rfl,rfl,rfl⟩
 replace heq:=ht1
 refine Sa 0<|Qk 4 [9,0] [(9,.bool (decide ((a0.size:Int)<1)))] ?_
 rcases bool_cases (decide ((a0.size:Int)<1)) with hb1 | hb1
 ·replace heq:=bif_true hb1 heq
  refine RgH.val1 (v':=.bool true) (congrArg Value.bool hb1) ?_
  refine Qk 22 [0,27] [(27,.bool true)] ?_
  obtain rfl:=Option.some.inj heq
  refine Qg [0,27]<|Dn ?_
  exact Ge (K1)
 ·replace heq:=bif_false hb1 heq
  refine RgH.val1 (v':=.bool false) (congrArg Value.bool hb1) ?_
  refine Qk 9 [14,0] [(14,.bool (decide (10<(a0.size:Int))))] ?_
  rcases bool_cases (decide (10<(a0.size:Int))) with hb2 | hb2
  ·replace heq:=bif_true hb2 heq
   refine RgH.val1 (v':=.bool true) (congrArg Value.bool hb2) ?_
   refine Qk 22 [0,27] [(27,.bool true)] ?_
   obtain rfl:=Option.some.inj heq
   refine Qg [0,27]<|Dn ?_
   exact Ge (K1)
  ·replace heq:=bif_false hb2 heq
   refine RgH.val1 (v':=.bool false) (congrArg Value.bool hb2) ?_
   refine Qk 10 [0,14,15] [(15,.string a0)] ?_
   obtain ⟨y1,hy1,heq⟩:=bind_some heq
   refine RgH.does (cal 16 (strings_Trim_c (a0:=a0) (a1:=({ data:=#[48,49,50,51,52,53,54,55,56,57] }:ByteArray))  hy1)) ?_
   rintro _ _ _ _ ⟨_,rfl,rfl,rfl,rfl⟩
   refine Qk 14 [19,0] [(19,.bool (!sEq y1 ({ data:=#[] }:ByteArray)))] ?_
   rcases bool_cases (!sEq y1 ({ data:=#[] }:ByteArray)) with hb3 | hb3
   ·replace heq:=bif_true hb3 heq
    refine RgH.val1 (v':=.bool true) (congrArg Value.bool hb3) ?_
    refine Qk 22 [0,27] [(27,.bool true)] ?_
    obtain rfl:=Option.some.inj heq
    refine Qg [0,27]<|Dn ?_
    exact Ge (K1)
   ·replace heq:=bif_false hb3 heq
    refine RgH.val1 (v':=.bool false) (congrArg Value.bool hb3) ?_
    obtain ⟨hn1,heq⟩:=guard?_some heq
    refine Qv 18 [23,0,19] [n2 hn1] [(23,.bool ((bt a0 0) == 48))] ?_
    rcases bool_cases ((bt a0 0) == 48) with hb4 | hb4
    ·replace heq:=bif_true hb4 heq
     refine RgH.val1 (v':=.bool true) (congrArg Value.bool hb4) ?_
     refine Qk 22 [0,27] [(27,.bool (!sEq a0 ({ data:=#[48] }:ByteArray)))] ?_
     obtain rfl:=Option.some.inj heq
     refine Qg [0,27]<|Dn ?_
     exact Ge (K1)
    ·replace heq:=bif_false hb4 heq
     refine RgH.val1 (v':=.bool false) (congrArg Value.bool hb4) ?_
     refine Qk 22 [0,27] [(27,.bool false)] ?_
     obtain rfl:=Option.some.inj heq
     refine Qg [0,27]<|Dn ?_
     exact Ge (K1)
noncomputable def C36:Ctx:={ P:=Tryz.prog,f:=36,N:=19,c:=bodyOf Tryz.f36 }
def S36 (F:List Ch) (H0:Hp) (r:Int) (v:Value) (H:Hp) (cs:List Ch):Prop:=H0=H∧v=iv r∧F=cs
theorem slices_Index_string.e1_c [Wz w0] {r:Int}:slices_Index_string.e1=some r→RunH C36 (S36 F H r) H w0 [.c [1,1,0],.c [1,1,1]] [] H (F):=by
 intro   heq
 unfold slices_Index_string.e1 at heq
 refine Sa 0<|Qd 1 [4] [(4,iv (-1))] ?_
 obtain rfl:=Option.some.inj heq
 exact RunH.done (by kernel_rfl) Tryz.func36 (v:=iv (-1)) (by kernel_rfl) ⟨rfl,rfl,rfl⟩
theorem slices_Index_string.l2_c [Wz w0] {r:Int} (e1:Option Int)
  (he1:e1=some r→RunH C36 (S36 F H r) H w0 [.c [1,1,0],.c [1,1,1]] [] H (F)):∀ (k:Nat),∀ (a0:List ByteArray) (Aa0:Option Addr) (ca0:Nat) (a1:ByteArray) (v8:Int) ,Rw Kd.string H F Aa0 a0→a0.length≤ca0→slices_Index_string.l2 e1 k a0 a1 v8=some r→RunH C36 (S36 F H r) H w0 [.c [1,0,1,0,0],.l [1,0,1,0,0],.b 0,.c [1,1]] [(0,.slice Aa0 a0.length ca0),(1,.string a1),(7,iv (a0.length:Int)),(8,iv v8)] H (F):=by
 intro k
 induction k with
 | zero=>intro a0 Aa0 ca0 a1 v8 hra0 hca0 heq; exact nomatch (show (none:Option Int)=some r from heq)
 | succ k ihk =>
  intro a0 Aa0 ca0 a1 v8 hra0 hca0 heq
  rw [slices_Index_string.l2] at heq
  refine Sa 1<|Qd 1 [0,1,7,8,9] [(9,.bool (decide (v8<(a0.length:Int))))]<|An 1 ?_
  refine Cb heq ?_ ?_
  ·intro hb1 heq
   refine Sa 4<|Qd 2 [0,1,5,7,8] [(5,iv v8)]<|Sa 1 ?_
   obtain ⟨x1,hx1,heq⟩:=bind_some heq
   obtain ⟨ha1,cs1,hK1,hcc1⟩:=hra0.get hx1
   obtain rfl:cs1=[.string x1]:=hK1
   refine Qw 6 [0,1,5,7,8,16] [nx ha1 hx1,er hcc1 0 0] [(16,.bool (sEq a1 x1))] ?_
   refine Cb heq ?_ ?_
   ·intro hb2 heq
    refine Sa 1<|Qd 2 [4] [(4,iv v8)] ?_
    obtain rfl:=Option.some.inj heq
    exact RunH.done (by kernel_rfl) Tryz.func36 (v:=iv v8) (by kernel_rfl) ⟨rfl,rfl,rfl⟩
   ·intro hb2 heq
    refine Sa 2<|Qd 2 [0,1,7,8] [(8,iv (w64 (v8+1)))]<|An 1 ?_
    exact Gt [0,1,7,8] 0 [] (ihk a0 _ _ a1 (w64 (v8+1)) hra0 hca0 heq)
  ·intro hb1 heq
   refine An 2 ?_
   exact Gt [] 0 [] (he1 heq)
theorem slices_Index_string_c [Wz w0] {a0:List ByteArray} {Aa0:Option Addr} {na0 ca0:Nat} {a1:ByteArray} {r:Int} (heq:slices_Index_string.f a0 a1=some r) (hra0:Rw Kd.string H F Aa0 a0) (hca0:na0≤ca0) (hna0:na0=a0.length):CallsH Tryz.prog 36 #[.slice Aa0 na0 ca0,.string a1] H w0 (F) (S36 F H r):=by
 refine Co C36 Tryz.func36 Tryz.ntmps36 ?_
 subst hna0
 unfold slices_Index_string.f at heq
 refine Sa 1<|Qd 1 [0,1] []<|Sa 2<|Qd 3 [0,1,7,8] [(7,iv (a0.length:Int)),(8,iv 0)]<|An 2 ?_
 exact Gt [0,1,7,8] 0 [] (((slices_Index_string.l2_c (e1:=slices_Index_string.e1) (slices_Index_string.e1_c)) big) a0 _ _ a1 0 hra0 hca0 heq)
theorem pred52 (W:World) (x:Nat):FnGives Tryz.prog 52 #[] #[.int .i32 (x:Int)] (.bool (badR x)) W:=by
 unfold FnGives badR
 go_enter Tryz.func52,Tryz.ntmps52
 go_wp2
 all_goals (go_ret; exact ⟨rfl,0,rfl⟩)
def S51 (F:List Ch) (H0:Hp) (r:Bool) (v:Value) (H:Hp) (cs:List Ch):Prop:=H0=H∧v=.bool r∧F=cs
theorem strings_ContainsFunc_c [Wz w0] {a0:ByteArray} {r:Bool} (heq:strings_ContainsFunc.f a0=some r):CallsH Tryz.prog 51 #[.string a0,.func (.func 52) #[] #[]] H w0 F (S51 F H r):=by
 intro w hh
 unfold strings_ContainsFunc.f at heq
 obtain rfl:=Option.some.inj heq
 refine (Shelf.Tryz.strings_ContainsFunc 52 #[] (enters_of Tryz.func52 (by kernel_rfl) rfl) badR a0 w (fun W x _=>pred52 W x)).mono ?_
 rintro e w' ⟨rfl,hb⟩
 rw [bad_eq]
 exact ⟨_,rfl,_,_,Le.refl _,hh.later hb,rfl,rfl,rfl⟩
noncomputable def C37:Ctx:={ P:=Tryz.prog,f:=37,N:=10,c:=bodyOf Tryz.f37 }
def S37 (F:List Ch) (H0:Hp) (r:Bool) (v:Value) (H:Hp) (cs:List Ch):Prop:=H0=H∧v=.bool r∧F=cs
theorem workers_isRow_c [Wz w0] {a0:ByteArray} {r:Bool} (heq:workers_isRow.f a0=some r):CallsH Tryz.prog 37 #[.string a0] H w0 (F) (S37 F H r):=by
 refine Co C37 Tryz.func37 Tryz.ntmps37 ?_
 unfold workers_isRow.f at heq
 refine Sa 1<|Qd 1 [0] []<|An 1 ?_
 obtain ⟨t1,ht1,heq⟩:=bind_some heq
 have K1:RunH C37 (S37 F H r) H w0 [.c [1,1]] [(2,.bool t1)] H (F):=by
  obtain rfl:=Option.some.inj heq
  exact RunH.done (by kernel_rfl) Tryz.func37 (v:=.bool t1) (by kernel_rfl) ⟨rfl,rfl,rfl⟩
 replace heq:=ht1
 refine Sa 0<|Qk 3 [5,0] [(5,.bool (!sEq a0 ({ data:=#[] }:ByteArray)))] ?_
 rcases bool_cases (!sEq a0 ({ data:=#[] }:ByteArray)) with hb1 | hb1
 ·replace heq:=bif_true hb1 heq
  refine RgH.val1 (v':=.bool true) (congrArg Value.bool hb1) ?_
  refine Qk 4 [5,6] [(6,.string a0)] ?_
  obtain ⟨y1,hy1,heq⟩:=bind_some heq
  refine RgH.does (cal 7 (strings_ContainsFunc_c (a0:=a0)  hy1)) ?_
  rintro _ _ _ _ ⟨_,rfl,rfl,rfl,rfl⟩
  refine Qk 8 [2] [(2,.bool (!y1))] ?_
  obtain rfl:=Option.some.inj heq
  refine Qg [2]<|Dn ?_
  exact Ge (K1)
 ·replace heq:=bif_false hb1 heq
  refine RgH.val1 (v':=.bool false) (congrArg Value.bool hb1) ?_
  refine Qk 8 [2] [(2,.bool false)] ?_
  obtain rfl:=Option.some.inj heq
  refine Qg [2]<|Dn ?_
  exact Ge (K1)
noncomputable def C20:Ctx:={ P:=Tryz.prog,f:=20,N:=65,c:=bodyOf Tryz.f20 }
def S20 (F:List Ch) (H0:Hp) (r:Run × Bool) (v:Value) (H:Hp) (cs:List Ch):Prop:=H0=H∧v=.tuple #[.agg #[.string r.1.Id,.string r.1.Worker,iv r.1.From,iv r.1.To,iv r.1.End],.bool r.2]∧F=cs
theorem workers_readRun_c [Wz w0] {a0:ByteArray} {r:Run × Bool} (heq:workers_readRun.f a0=some r):CallsH Tryz.prog 20 #[.string a0] H w0 (F) (S20 F H r):=by
 refine Co C20 Tryz.func20 Tryz.ntmps20 ?_
 unfold workers_readRun.f at heq
 refine Sa 1 ?_
 refine RgH.does (DoesH.new (d:=2) (v:=fun g=>.pointer (some ⟨g,0,none⟩)) (o:=fun g=>.cells #[.string ByteArray.empty,.string ByteArray.empty,iv 0,iv 0,iv 0] 25 (0,0)) (fun g=>by kernel_rfl)) ?_
 rintro _ _ _ _ ⟨g1,rfl,rfl,rfl⟩
 refine Qd 2 [0,2] []<|Sa 1<|Qk 1 [2,10] [(10,.string a0)] ?_
 obtain ⟨y1,hy1,heq⟩:=bind_some heq
 refine RgH.does (cal 11 (strings_Split_c (a0:=a0) (a1:=({ data:=#[32] }:ByteArray))  hy1)) ?_
 rintro _ _ _ _ ⟨_,rfl,A1,c1,ch1,rfl,rfl,rfl,ho1⟩
 refine Qd 3 [2,4] [(4,.slice A1 y1.length c1)]<|Sa 2<|Qd 3 [2,4,14] [(14,.bool ((y1.length:Int) != 5))] ?_
 refine Cb heq ?_ ?_
 ·intro hb1 heq
  refine Sa 1<|Qk 1 [2,15] [(15,.agg #[.string ByteArray.empty,.string ByteArray.empty,iv 0,iv 0,iv 0])] ?_
  refine RgH.does (DoesH.store (k:=1) (g:=g1) (off:=0) (v:=.agg #[.string ByteArray.empty,.string ByteArray.empty,iv 0,iv 0,iv 0]) (cells':=#[.string ByteArray.empty,.string ByteArray.empty,iv 0,iv 0,iv 0]) (by kernel_rfl) rfl (by kernel_rfl) (by kernel_rfl)) ?_
  rintro _ _ _ _ ⟨rfl,rfl,rfl⟩
  refine Qd 3 [2,3] [(3,.bool false)] ?_
  obtain rfl:=Option.some.inj heq
  refine Up 2 [1] ?_
  exact RunH.doneM' 1 (vs:=[.agg #[.string ByteArray.empty,.string ByteArray.empty,iv 0,iv 0,iv 0],.bool false]) (v:=.tuple #[.agg #[.string ByteArray.empty,.string ByteArray.empty,iv 0,iv 0,iv 0],.bool false]) (by kernel_rfl) Tryz.func20 (fun w hh=>show ResAll _ _ _ [.cell 2 25,.tmp 3] _ from ⟨⟨⟨g1,0,none⟩,by kernel_rfl,trS_run _ (vs:=[.string ByteArray.empty,.string ByteArray.empty,iv 0,iv 0,iv 0]) (r:=[]) (es:=[.load ⟨g1,0,none⟩ (.string ByteArray.empty),.load ⟨g1,1,none⟩ (.string ByteArray.empty),.load ⟨g1,2,none⟩ (iv 0),.load ⟨g1,3,none⟩ (iv 0),.load ⟨g1,4,none⟩ (iv 0)]) (by kernel_rfl) ⟨(hh.box 0 rfl rfl),(hh.box 0 rfl rfl),(hh.box 0 rfl rfl),(hh.box 0 rfl rfl),(hh.box 0 rfl rfl)⟩⟩,(show lk _ _=some _ by kernel_rfl),trivial⟩) rfl (cs':=F) rfl ⟨rfl,rfl,rfl⟩
 ·intro hb1 heq
  refine Sa 2 ?_
  obtain ⟨x1,hx1,heq⟩:=bind_some heq
  obtain ⟨ha1,cs1,hK1,hcc1⟩:=ho1.get hx1
  obtain rfl:cs1=[.string x1]:=hK1
  refine Qv 3 [2,4,19] [nx ha1 hx1,el hcc1 0 0] [(19,.string x1)] ?_
  obtain ⟨y2,hy2,heq⟩:=bind_some heq
  refine RgH.does (cal 20 (workers_number_c hy2 )) ?_
  rintro _ _ _ _ ⟨_,rfl,rfl,rfl,rfl⟩
  refine Qd 9 [2,4,5,6] [(5,iv y2.1),(6,.bool y2.2)]<|Sa 1 ?_
  obtain ⟨x2,hx2,heq⟩:=bind_some heq
  obtain ⟨ha2,cs2,hK2,hcc2⟩:=ho1.get hx2
  obtain rfl:cs2=[.string x2]:=hK2
  refine Qv 3 [2,4,5,6,26] [nx ha2 hx2,el hcc2 0 0] [(26,.string x2)] ?_
  obtain ⟨y3,hy3,heq⟩:=bind_some heq
  refine RgH.does (cal 27 (workers_number_c hy3 )) ?_
  rintro _ _ _ _ ⟨_,rfl,rfl,rfl,rfl⟩
  refine Qd 9 [2,4,5,6,7,8] [(7,iv y3.1),(8,.bool y3.2)]<|Sa 1 ?_
  refine RgH.does (DoesH.new (d:=30) (v:=fun g=>.slice (some ⟨g,0,none⟩) 4 4) (o:=fun g=>.cells #[.string ({ data:=#[] }:ByteArray),.string ({ data:=#[100,111,110,101] }:ByteArray),.string ({ data:=#[108,111,115,116] }:ByteArray),.string ({ data:=#[115,116,111,112,112,101,100] }:ByteArray)] 9 (0,0)) (fun g=>by kernel_rfl)) ?_
  rintro _ _ _ _ ⟨g2,rfl,rfl,rfl⟩
  have ho2:SlOwn Kd.string 9 H (some ⟨g2,0,none⟩) 4 ([({ data:=#[] }:ByteArray),({ data:=#[100,111,110,101] }:ByteArray),({ data:=#[108,111,115,116] }:ByteArray),({ data:=#[115,116,111,112,112,101,100] }:ByteArray)]:List ByteArray) (some (g2,.cells #[.string ({ data:=#[] }:ByteArray),.string ({ data:=#[100,111,110,101] }:ByteArray),.string ({ data:=#[108,111,115,116] }:ByteArray),.string ({ data:=#[115,116,111,112,112,101,100] }:ByteArray)] 9 (0,0))):=SlOwn.lit (xs:=([({ data:=#[] }:ByteArray),({ data:=#[100,111,110,101] }:ByteArray),({ data:=#[108,111,115,116] }:ByteArray),({ data:=#[115,116,111,112,112,101,100] }:ByteArray)]:List ByteArray)) (by kernel_rfl) (Nat.le_of_ble_eq_true (by kernel_rfl)) (Kd.Rep.scalars rfl)
  obtain ⟨x3,hx3,heq⟩:=bind_some heq
  obtain ⟨ha3,cs3,hK3,hcc3⟩:=ho1.get hx3
  obtain rfl:cs3=[.string x3]:=hK3
  refine Qv 4 [2,4,5,6,7,8,30,33] [nx ha3 hx3,el hcc3 1 0] [(33,.string x3)] ?_
  obtain ⟨y4,hy4,heq⟩:=bind_some heq
  refine RgH.does (cal 34 (slices_Index_string_c hy4 (ho2.rw (.head _)) ho2.cap rfl)) ?_
  rintro _ _ _ _ ⟨_,rfl,rfl,rfl,rfl⟩
  refine Qd 6 [2,4,5,6,7,8,9] [(9,iv y4)]<|An 1 ?_
  obtain ⟨t1,ht1,heq⟩:=bind_some heq
  have K4:RunH C20 (S20 F H r) H w0 [.c [1,1,1,1,1,1,1]] [(2,pg g1 0),(3,.bool t1.2.2)] H ((some (g1,.cells #[.string t1.1,.string t1.2.1,iv y2.1,iv y3.1,iv y4] 25 (0,0)))::F):=by
   obtain rfl:=Option.some.inj heq
   exact RunH.doneM' 1 (vs:=[.agg #[.string t1.1,.string t1.2.1,iv y2.1,iv y3.1,iv y4],.bool t1.2.2]) (v:=.tuple #[.agg #[.string t1.1,.string t1.2.1,iv y2.1,iv y3.1,iv y4],.bool t1.2.2]) (by kernel_rfl) Tryz.func20 (fun w hh=>show ResAll _ _ _ [.cell 2 25,.tmp 3] _ from ⟨⟨⟨g1,0,none⟩,by kernel_rfl,trS_run _ (vs:=[.string t1.1,.string t1.2.1,iv y2.1,iv y3.1,iv y4]) (r:=[]) (es:=[.load ⟨g1,0,none⟩ (.string t1.1),.load ⟨g1,1,none⟩ (.string t1.2.1),.load ⟨g1,2,none⟩ (iv y2.1),.load ⟨g1,3,none⟩ (iv y3.1),.load ⟨g1,4,none⟩ (iv y4)]) (by kernel_rfl) ⟨(hh.box 0 rfl rfl),(hh.box 0 rfl rfl),(hh.box 0 rfl rfl),(hh.box 0 rfl rfl),(hh.box 0 rfl rfl)⟩⟩,(show lk _ _=some _ by kernel_rfl),trivial⟩) rfl (cs':=F) rfl ⟨rfl,rfl,rfl⟩
  replace heq:=ht1
  refine Qp [2,4,5,6,7,8,9]<|Sd 3 32 [0,1] [3,3,3,3,3,3,3,3,3,3,3,3,3,3,3,3,3,3,3,3,3,3,1,3,3,3,3,3,0,3,1,3] ?_
  obtain ⟨x4,hx4,heq⟩:=bind_some heq
  obtain ⟨ha4,cs4,hK4,hcc4⟩:=ho1.get hx4
  obtain rfl:cs4=[.string x4]:=hK4
  obtain ⟨x5,hx5,heq⟩:=bind_some heq
  obtain ⟨ha5,cs5,hK5,hcc5⟩:=ho1.get hx5
  obtain rfl:cs5=[.string x5]:=hK5
  refine Qt [0,1,2,3,4,5,6,7,8,9,10,11] 20 [46,2,4,8,9,44] [nx ha4 hx4,el hcc4 1 0,nx ha5 hx5,el hcc5 1 0] [(46,.bool y2.2),(44,.agg #[.string x4,.string x5,iv y2.1,iv y3.1,iv y4])] (Pk 3 [0,1]) ?_
  rcases bool_cases (y2.2) with hb2 | hb2
  ·replace heq:=bif_true hb2 heq
   refine DrH.val1 (v':=.bool true) (congrArg Value.bool hb2) ?_
   refine Qt [12,13,14] 17 [49,2,4,9,44] [] [(49,.bool y3.2)] (Pk 3 [0,1]) ?_
   rcases bool_cases (y3.2) with hb3 | hb3
   ·replace heq:=bif_true hb3 heq
    refine DrH.val1 (v':=.bool true) (congrArg Value.bool hb3) ?_
    refine Qt [15,16,17,18] 13 [53,2,4,44] [] [(53,.bool (decide (0<y4)))] (Pk 3 [0,1]) ?_
    rcases bool_cases (decide (0<y4)) with hb4 | hb4
    ·replace heq:=bif_true hb4 heq
     refine DrH.val1 (v':=.bool true) (congrArg Value.bool hb4) ?_
     obtain ⟨ha6,cs6,hK6,hcc6⟩:=ho1.get hx4
     obtain rfl:cs6=[.string x4]:=hK6
     refine Qt [19,20,21] 10 [2,4,44,53,56] [nx ha6 hx4,el hcc6 1 0] [(56,.string x4)] (Pk 3 [0,1]) ?_
     obtain ⟨y5,hy5,heq⟩:=bind_some heq
     refine Dz 22 (cal 57 (workers_isRow_c hy5 )) ?_
     rintro _ _ _ _ ⟨_,rfl,rfl,rfl,rfl⟩
     refine ⟨fun _ w hh=>⟨(fun h=>by cases h),fun _=>(Pk 3 [0,1]) w hh,(fun h=>by cases h)⟩,?_⟩
     refine Qt [23,24] 7 [59,2,4,44] [] [(59,.bool y5)] (Pk 3 [0,1]) ?_
     rcases bool_cases (y5) with hb5 | hb5
     ·replace heq:=bif_true hb5 heq
      refine DrH.val1 (v':=.bool true) (congrArg Value.bool hb5) ?_
      obtain ⟨ha7,cs7,hK7,hcc7⟩:=ho1.get hx5
      obtain rfl:cs7=[.string x5]:=hK7
      refine Qt [25,26,27] 4 [2,44,59,62] [nx ha7 hx5,el hcc7 1 0] [(62,.string x5)] (Pk 3 [0,1]) ?_
      obtain ⟨y6,hy6,heq⟩:=bind_some heq
      refine Dz 28 (cal 63 (workers_isRow_c hy6 )) ?_
      rintro _ _ _ _ ⟨_,rfl,rfl,rfl,rfl⟩
      refine ⟨fun _ w hh=>⟨fun _=>(Pk 3 [0,1,2]) w hh,fun _=>(Pk 3 [0,1]) w hh,(fun h=>by cases h)⟩,?_⟩
      refine Qt [29] 2 [2,44,64] [] [(64,.bool y6)] (Pk 3 [0,1]) ?_
      refine Dz 30 (DoesH.store (k:=2) (g:=g1) (off:=0) (v:=.agg #[.string x4,.string x5,iv y2.1,iv y3.1,iv y4]) (cells':=#[.string x4,.string x5,iv y2.1,iv y3.1,iv y4]) (by kernel_rfl) rfl (by kernel_rfl) (by kernel_rfl)) ?_
      rintro _ _ _ _ ⟨rfl,rfl,rfl⟩
      refine ⟨fun _ w hh=>⟨(fun h=>by cases h),fun _=>(Pk 3 [0,1]) w hh,(fun h=>by cases h)⟩,?_⟩
      refine Qt [31] 0 [2,3] [] [(3,.bool y6)] (Pk 3 [0,1]) ?_
      obtain rfl:=Option.some.inj heq
      refine Qr [2,3]<|Ur 3 [2] ?_
      refine DrH.done (by kernel_rfl) ?_
      exact Ge (K4)
     ·replace heq:=bif_false hb5 heq
      refine DrH.val1 (v':=.bool false) (congrArg Value.bool hb5) ?_
      refine Qt [25,26,27] 4 [2,44,59,62] [] [(62,undef)] (Pk 3 [0,1])<|Qs [28] 3 [2,44,59,63] [] [(63,undef)] (Pk 3 [0,1,2]) (Pk 3 [0,1])<|Qt [29] 2 [2,44,64] [] [(64,.bool false)] (Pk 3 [0,1]) ?_
      refine Dz 30 (DoesH.store (k:=2) (g:=g1) (off:=0) (v:=.agg #[.string x4,.string x5,iv y2.1,iv y3.1,iv y4]) (cells':=#[.string x4,.string x5,iv y2.1,iv y3.1,iv y4]) (by kernel_rfl) rfl (by kernel_rfl) (by kernel_rfl)) ?_
      rintro _ _ _ _ ⟨rfl,rfl,rfl⟩
      refine ⟨fun _ w hh=>⟨(fun h=>by cases h),fun _=>(Pk 3 [0,1]) w hh,(fun h=>by cases h)⟩,?_⟩
      refine Qt [31] 0 [2,3] [] [(3,.bool false)] (Pk 3 [0,1]) ?_
      obtain rfl:=Option.some.inj heq
      refine Qr [2,3]<|Ur 3 [2] ?_
      refine DrH.done (by kernel_rfl) ?_
      exact Ge (K4)
    ·replace heq:=bif_false hb4 heq
     refine DrH.val1 (v':=.bool false) (congrArg Value.bool hb4) ?_
     refine Qt [19,20,21,22,23,24,25,26,27] 4 [2,44,59,62] [] [(59,.bool false),(62,undef)] (Pk 3 [0,1])<|Qs [28] 3 [2,44,59,63] [] [(63,undef)] (Pk 3 [0,1,2]) (Pk 3 [0,1])<|Qt [29] 2 [2,44,64] [] [(64,.bool false)] (Pk 3 [0,1]) ?_
     refine Dz 30 (DoesH.store (k:=2) (g:=g1) (off:=0) (v:=.agg #[.string x4,.string x5,iv y2.1,iv y3.1,iv y4]) (cells':=#[.string x4,.string x5,iv y2.1,iv y3.1,iv y4]) (by kernel_rfl) rfl (by kernel_rfl) (by kernel_rfl)) ?_
     rintro _ _ _ _ ⟨rfl,rfl,rfl⟩
     refine ⟨fun _ w hh=>⟨(fun h=>by cases h),fun _=>(Pk 3 [0,1]) w hh,(fun h=>by cases h)⟩,?_⟩
     refine Qt [31] 0 [2,3] [] [(3,.bool false)] (Pk 3 [0,1]) ?_
     obtain rfl:=Option.some.inj heq
     refine Qr [2,3]<|Ur 3 [2] ?_
     refine DrH.done (by kernel_rfl) ?_
     exact Ge (K4)
   ·replace heq:=bif_false hb3 heq
    refine DrH.val1 (v':=.bool false) (congrArg Value.bool hb3) ?_
    refine Qt [15,16,17,18,19,20,21,22,23,24,25,26,27] 4 [2,44,59,62] [] [(59,.bool false),(62,undef)] (Pk 3 [0,1])<|Qs [28] 3 [2,44,59,63] [] [(63,undef)] (Pk 3 [0,1,2]) (Pk 3 [0,1])<|Qt [29] 2 [2,44,64] [] [(64,.bool false)] (Pk 3 [0,1]) ?_
    refine Dz 30 (DoesH.store (k:=2) (g:=g1) (off:=0) (v:=.agg #[.string x4,.string x5,iv y2.1,iv y3.1,iv y4]) (cells':=#[.string x4,.string x5,iv y2.1,iv y3.1,iv y4]) (by kernel_rfl) rfl (by kernel_rfl) (by kernel_rfl)) ?_
    rintro _ _ _ _ ⟨rfl,rfl,rfl⟩
    refine ⟨fun _ w hh=>⟨(fun h=>by cases h),fun _=>(Pk 3 [0,1]) w hh,(fun h=>by cases h)⟩,?_⟩
    refine Qt [31] 0 [2,3] [] [(3,.bool false)] (Pk 3 [0,1]) ?_
    obtain rfl:=Option.some.inj heq
    refine Qr [2,3]<|Ur 3 [2] ?_
    refine DrH.done (by kernel_rfl) ?_
    exact Ge (K4)
  ·replace heq:=bif_false hb2 heq
   refine DrH.val1 (v':=.bool false) (congrArg Value.bool hb2) ?_
   refine Qt [12,13,14,15,16,17,18,19,20,21,22,23,24,25,26,27] 4 [2,44,59,62] [] [(59,.bool false),(62,undef)] (Pk 3 [0,1])<|Qs [28] 3 [2,44,59,63] [] [(63,undef)] (Pk 3 [0,1,2]) (Pk 3 [0,1])<|Qt [29] 2 [2,44,64] [] [(64,.bool false)] (Pk 3 [0,1]) ?_
   refine Dz 30 (DoesH.store (k:=2) (g:=g1) (off:=0) (v:=.agg #[.string x4,.string x5,iv y2.1,iv y3.1,iv y4]) (cells':=#[.string x4,.string x5,iv y2.1,iv y3.1,iv y4]) (by kernel_rfl) rfl (by kernel_rfl) (by kernel_rfl)) ?_
   rintro _ _ _ _ ⟨rfl,rfl,rfl⟩
   refine ⟨fun _ w hh=>⟨(fun h=>by cases h),fun _=>(Pk 3 [0,1]) w hh,(fun h=>by cases h)⟩,?_⟩
   refine Qt [31] 0 [2,3] [] [(3,.bool false)] (Pk 3 [0,1]) ?_
   obtain rfl:=Option.some.inj heq
   refine Qr [2,3]<|Ur 3 [2] ?_
   refine DrH.done (by kernel_rfl) ?_
   exact Ge (K4)
noncomputable def C9:Ctx:={ P:=Tryz.prog,f:=9,N:=49,c:=bodyOf Tryz.f9 }
def S9 (F:List Ch) (H0:Hp) (r:(List Run) × Int × Int) (v:Value) (H:Hp) (cs:List Ch):Prop:=∃ (A0:Option Addr) (c0:Nat) (ch0:Ch),H0=H∧v=.tuple #[.slice A0 r.1.length c0,iv r.2.1,iv r.2.2]∧ch0::F=cs∧SlOwn kRun 25 H A0 c0 r.1 ch0
theorem workers_Read.e1_c [Wz w0] {r:(List Run) × Int × Int}:∀ (v_out5:List Run) (Av_out5:Option Addr) (nv_out5 cv_out5:Nat) (chv_out5:Ch) ,SlOwn kRun 25 H Av_out5 cv_out5 v_out5 chv_out5→nv_out5=v_out5.length→workers_Read.e1 v_out5=some r→RunH C9 (S9 F H r) H w0 [.c [1,1,1,1,0,0],.c [1,1,1,1,0,1],.c [1,1,1,1,1]] [(5,.slice Av_out5 nv_out5 cv_out5)] H (chv_out5::F):=by
 intro v_out5 Av_out5 nv_out5 cv_out5 chv_out5 hov_out5 hnv_out5 heq
 subst hnv_out5
 unfold workers_Read.e1 at heq
 refine Sa 0<|Qk 1 [5,43] [(43,.slice Av_out5 v_out5.length cv_out5)] ?_
 obtain ⟨y1,hy1,heq⟩:=bind_some heq
 refine RgH.does (cal 44 (workers_CheckRuns_c hy1 (hov_out5.rw (.head _)) hov_out5.cap rfl)) ?_
 rintro _ _ _ _ ⟨_,rfl,rfl,rfl,rfl⟩
 refine Qd 3 [5,12] [(12,iv y1)]<|Sa 1<|Qd 2 [5,12,46] [(46,.bool (y1 != 0))] ?_
 refine Cb heq ?_ ?_
 ·intro hb2 heq
  refine Sa 1<|Qd 4 [2,3,4] [(2,.slice none 0 0),(3,iv 0),(4,iv y1)]<|RunH.nilc ?_
  have ho2:SlOwn kRun 25 H none 0 ([]:List Run) none:=SlOwn.nil
  obtain rfl:=Option.some.inj heq
  refine Up 2 [0] ?_
  exact RunH.done (by kernel_rfl) Tryz.func9 (v:=.tuple #[.slice none 0 0,iv 0,iv y1]) (by kernel_rfl) ⟨none,0,none,rfl,rfl,rfl,ho2⟩
 ·intro hb2 heq
  refine Sa 2<|Qd 4 [2,3,4] [(2,.slice Av_out5 v_out5.length cv_out5),(3,iv 0),(4,iv 0)] ?_
  obtain rfl:=Option.some.inj heq
  exact RunH.done (by kernel_rfl) Tryz.func9 (v:=.tuple #[.slice Av_out5 v_out5.length cv_out5,iv 0,iv 0]) (by kernel_rfl) ⟨Av_out5,cv_out5,chv_out5,rfl,rfl,rfl,hov_out5⟩
theorem workers_Read.l2_c [Wz w0] {r:(List Run) × Int × Int} (e1:(List Run)→Option ((List Run) × Int × Int))
  (he1:∀ (v_out5:List Run) (Av_out5:Option Addr) (nv_out5 cv_out5:Nat) (chv_out5:Ch) ,SlOwn kRun 25 H Av_out5 cv_out5 v_out5 chv_out5→nv_out5=v_out5.length→e1 v_out5=some r→RunH C9 (S9 F H r) H w0 [.c [1,1,1,1,0,0],.c [1,1,1,1,0,1],.c [1,1,1,1,1]] [(5,.slice Av_out5 nv_out5 cv_out5)] H (chv_out5::F)):∀ (k:Nat),∀ (v_text0:ByteArray) (v_out5:List Run) (Av_out5:Option Addr) (nv_out5 cv_out5:Nat) (chv_out5:Ch) (v_n6:Int) ,SlOwn kRun 25 H Av_out5 cv_out5 v_out5 chv_out5→nv_out5=v_out5.length→workers_Read.l2 e1 k v_text0 v_out5 v_n6=some r→RunH C9 (S9 F H r) H w0 [.c [1,1,1,0,1,0,0],.l [1,1,1,0,1,0,0],.b 0,.c [1,1,1,1]] [(0,.string v_text0),(5,.slice Av_out5 nv_out5 cv_out5),(6,iv v_n6)] H (chv_out5::F):=by
 intro k
 induction k with
 | zero=>intro v_text0 v_out5 Av_out5 nv_out5 cv_out5 chv_out5 v_n6 hov_out5 hnv_out5 heq; exact nomatch (show (none:Option ((List Run) × Int × Int))=some r from heq)
 | succ k ihk =>
  intro v_text0 v_out5 Av_out5 nv_out5 cv_out5 chv_out5 v_n6 hov_out5 hnv_out5 heq
  subst hnv_out5
  rw [workers_Read.l2] at heq
  refine Sa 2<|Qd 2 [0,5,6,17] [(17,.bool (!sEq v_text0 ({ data:=#[] }:ByteArray)))] ?_
  refine Cb heq ?_ ?_
  ·intro hb3 heq
   refine Sa 4<|Qk 1 [5,6,21] [(21,.string v_text0)] ?_
   obtain ⟨y2,hy2,heq⟩:=bind_some heq
   refine RgH.does (cal 22 (strings_Cut_c hy2 )) ?_
   rintro _ _ _ _ ⟨_,rfl,rfl,rfl,rfl⟩
   refine Qd 9 [5,6,7,8,9] [(7,.string y2.1),(8,.string y2.2.1),(9,.bool y2.2.2)]<|Sa 1<|Qk 1 [5,6,8,9,27] [(27,.string y2.1)] ?_
   obtain ⟨y3,hy3,heq⟩:=bind_some heq
   refine RgH.does (cal 28 (workers_readRun_c hy3 )) ?_
   rintro _ _ _ _ ⟨_,rfl,rfl,rfl,rfl⟩
   refine Qk 5 [5,6,8,9,29,30] [(29,.agg #[.string y3.1.Id,.string y3.1.Worker,iv y3.1.From,iv y3.1.To,iv y3.1.End]),(30,.bool y3.2)] ?_
   refine RgH.does (DoesH.new (d:=10) (v:=fun g=>.pointer (some ⟨g,0,none⟩)) (o:=fun g=>.cells #[.string ByteArray.empty,.string ByteArray.empty,iv 0,iv 0,iv 0] 25 (0,0)) (fun g=>by kernel_rfl)) ?_
   rintro _ _ _ _ ⟨g1,rfl,rfl,rfl⟩
   refine RgH.does (DoesH.store (k:=0) (g:=g1) (off:=0) (v:=.agg #[.string y3.1.Id,.string y3.1.Worker,iv y3.1.From,iv y3.1.To,iv y3.1.End]) (cells':=#[.string y3.1.Id,.string y3.1.Worker,iv y3.1.From,iv y3.1.To,iv y3.1.End]) (by kernel_rfl) rfl (by kernel_rfl) (by kernel_rfl)) ?_
   rintro _ _ _ _ ⟨rfl,rfl,rfl⟩
   refine Qd 8 [5,6,8,9,10,11] [(11,.bool y3.2)]<|An 2 ?_
   obtain ⟨t1,ht1,heq⟩:=bind_some heq
   have K6:RunH C9 (S9 F H r) H w0 [.c [1,1,1,0,1,0,0,1,0,0,1,1,0,1],.c [1,1,1,0,1,0,0,1,0,0,1,1,1],.b 1,.c [1,1,1,0,1,0,0,1,1],.l [1,1,1,0,1,0,0],.b 0,.c [1,1,1,1]] [(5,.slice Av_out5 v_out5.length cv_out5),(6,iv v_n6),(8,.string y2.2.1),(10,pg g1 0),(36,.bool t1)] H ((some (g1,.cells #[.string y3.1.Id,.string y3.1.Worker,iv y3.1.From,iv y3.1.To,iv y3.1.End] 25 (0,0)))::chv_out5::F):=by
    refine Cb heq ?_ ?_
    ·intro hb5 heq
     refine Sa 1<|Qd 4 [2,3,4] [(2,.slice none 0 0),(3,iv v_n6),(4,iv 10)]<|RunH.nilc ?_
     have ho3:SlOwn kRun 25 H none 0 ([]:List Run) none:=SlOwn.nil
     obtain rfl:=Option.some.inj heq
     refine Up 3 [0] ?_
     exact RunH.done (by kernel_rfl) Tryz.func9 (v:=.tuple #[.slice none 0 0,iv v_n6,iv 10]) (by kernel_rfl) ⟨none,0,none,rfl,rfl,rfl,ho3⟩
    ·intro hb5 heq
     refine Sa 1<|Qv 2 [6,8,38,39] (bxs 0) [(38,.slice Av_out5 v_out5.length cv_out5),(39,.agg #[.string y3.1.Id,.string y3.1.Worker,iv y3.1.From,iv y3.1.To,iv y3.1.End])] ?_
     refine RgH.does (DoesH.new (d:=40) (v:=fun g=>.slice (some ⟨g,0,none⟩) 1 1) (o:=fun g=>.cells #[.string y3.1.Id,.string y3.1.Worker,iv y3.1.From,iv y3.1.To,iv y3.1.End] 25 (0,0)) (fun g=>by kernel_rfl)) ?_
     rintro _ _ _ _ ⟨g2,rfl,rfl,rfl⟩
     have ho4:SlOwn kRun 25 H (some ⟨g2,0,none⟩) 1 ([y3.1]:List Run) (some (g2,.cells #[.string y3.1.Id,.string y3.1.Worker,iv y3.1.From,iv y3.1.To,iv y3.1.End] 25 (0,0))):=SlOwn.lit (xs:=([y3.1]:List Run)) (by kernel_rfl) (Nat.le_of_ble_eq_true (by kernel_rfl)) (Kd.Rep.one kRun_mk)
     obtain ⟨hn1,heq⟩:=guard?_some heq
     refine RgH.does (DoesH.append (d:=41) (k:=2) (t:=22) (e:=25) (bytes:=56) (kd:=kRun) (n:=v_out5.length) (m:=1) (xs:=v_out5) (ys:=([y3.1]:List Run)) (A:=Av_out5) (B:=(some ⟨g2,0,none⟩)) (c:=cv_out5) (cB:=1) (by kernel_rfl) rfl rfl (by kernel_rfl) rfl hov_out5 (fun w hh=>ho4.rdb (hh.chin 0 rfl)) (room_le hn1) (by have:=room_le hn1; omega)) ?_
     rintro _ _ _ _ ⟨A1,c1,ch1,rfl,rfl,rfl,ho5⟩
     refine Qd 7 [0,5,6] [(0,.string y2.2.1),(5,.slice A1 ((v_out5++([y3.1]:List Run)).length) c1)]<|Sa 1<|Qd 3 [0,5,6] [(6,iv (w64 (v_n6+1)))]<|An 1 ?_
     exact Gt [0,5,6] 3 [2] (ihk y2.2.1 (v_out5++([y3.1]:List Run)) _ _ _ _ (w64 (v_n6+1)) ho5 rfl heq)
   replace heq:=ht1
   refine Sa 0<|Qk 3 [33,5,6,8,10,11] [(33,.bool (!y2.2.2))] ?_
   rcases bool_cases (!y2.2.2) with hb4 | hb4
   ·replace heq:=bif_true hb4 heq
    refine RgH.val1 (v':=.bool true) (congrArg Value.bool hb4) ?_
    refine Qk 6 [5,6,8,10,36] [(36,.bool true)] ?_
    obtain rfl:=Option.some.inj heq
    refine Qg [5,6,8,10,36]<|Dn ?_
    exact Ge (K6)
   ·replace heq:=bif_false hb4 heq
    refine RgH.val1 (v':=.bool false) (congrArg Value.bool hb4) ?_
    refine Qk 6 [5,6,8,10,36] [(36,.bool (!y3.2))] ?_
    obtain rfl:=Option.some.inj heq
    refine Qg [5,6,8,10,36]<|Dn ?_
    exact Ge (K6)
  ·intro hb3 heq
   refine An 3 ?_
   exact Gt [5] 1 [0] (he1 v_out5 _ _ _ _ hov_out5 rfl heq)
theorem workers_Read_c [Wz w0] {a0:ByteArray} {r:(List Run) × Int × Int} (heq:workers_Read.f a0=some r):CallsH Tryz.prog 9 #[.string a0] H w0 (F) (S9 F H r):=by
 refine Co C9 Tryz.func9 Tryz.ntmps9 ?_
 unfold workers_Read.f at heq
 refine Sa 1<|Qd 3 [0] []<|Sa 2<|Qd 3 [0,15] [(15,.bool (decide (600000<(a0.size:Int))))] ?_
 refine Cb heq ?_ ?_
 ·intro hb1 heq
  refine Sa 1<|Qd 3 [2,3,4] [(2,.slice none 0 0),(3,iv 0),(4,iv 2)]<|RunH.nilc ?_
  have ho1:SlOwn kRun 25 H none 0 ([]:List Run) none:=SlOwn.nil
  obtain rfl:=Option.some.inj heq
  exact RunH.done (by kernel_rfl) Tryz.func9 (v:=.tuple #[.slice none 0 0,iv 0,iv 2]) (by kernel_rfl) ⟨none,0,none,rfl,rfl,rfl,ho1⟩
 ·intro hb1 heq
  refine Sa 2<|Qd 1 [0,5] [(5,.slice none 0 0)]<|Sa 2<|Qd 1 [0,5,6] [(6,iv 1)]<|An 2<|RunH.nilc ?_
  have ho6:SlOwn kRun 25 H none 0 ([]:List Run) none:=SlOwn.nil
  exact Gt [0,5,6] 1 [0] (((workers_Read.l2_c (e1:=workers_Read.e1) (workers_Read.e1_c)) big) a0 ([]:List Run) _ _ _ _ 1 ho6 rfl heq)
noncomputable def C3:Ctx:={ P:=Tryz.prog,f:=3,N:=59,c:=bodyOf Tryz.f3 }
def S3 (F:List Ch) (H0:Hp) (r:Bool) (v:Value) (H:Hp) (cs:List Ch):Prop:=H0=H∧v=.bool r∧F=cs
theorem smithyardlaw9_WorkersTextsMatchSpec_c [Wz w0] {a0:List Run} {Aa0:Option Addr} {na0 ca0:Nat} {r:Bool} (heq:smithyardlaw9_WorkersTextsMatchSpec.f a0=some r) (hra0:Rw kRun H F Aa0 a0) (hca0:na0≤ca0) (hna0:na0=a0.length):CallsH Tryz.prog 3 #[.slice Aa0 na0 ca0] H w0 (F) (S3 F H r):=by
 refine Co C3 Tryz.func3 Tryz.ntmps3 ?_
 subst hna0
 unfold smithyardlaw9_WorkersTextsMatchSpec.f at heq
 refine Sa 1<|Qd 1 [0] []<|Sa 1<|Qk 1 [0,10] [(10,.slice Aa0 a0.length ca0)] ?_
 obtain ⟨y1,hy1,heq⟩:=bind_some heq
 refine RgH.does (cal 11 (slices_Clone_Run_c (a0:=a0) hra0 hca0 rfl hy1)) ?_
 rintro _ _ _ _ ⟨_,rfl,A1,c1,ch1,rfl,rfl,rfl,ho1⟩
 refine Qd 3 [0,3] [(3,.slice A1 y1.length c1)]<|Sa 1<|Qk 1 [0,3,13] [(13,.slice Aa0 a0.length ca0)] ?_
 obtain ⟨y2,hy2,heq⟩:=bind_some heq
 refine RgH.does (cal 14 (workers_Text_c hy2 (hra0.wk (fun _ h=>(.tail _ h))) hca0 rfl)) ?_
 rintro _ _ _ _ ⟨_,rfl,rfl,rfl,rfl⟩
 refine Qd 7 [0,3,4,5] [(4,.string y2.1),(5,iv y2.2)]<|Sa 1<|Qk 1 [0,3,4,5,18] [(18,.slice A1 y1.length c1)] ?_
 obtain ⟨y3,hy3,heq⟩:=bind_some heq
 refine RgH.does (cal 19 (smithyardref9_Text_c hy3 (ho1.rw (.head _)) ho1.cap rfl)) ?_
 rintro _ _ _ _ ⟨_,rfl,rfl,rfl,rfl⟩
 refine Qd 7 [0,3,4,5,6,7] [(6,.string y3.1),(7,iv y3.2)]<|An 2 ?_
 obtain ⟨t1,ht1,heq⟩:=bind_some heq
 have K2:RunH C3 (S3 F H r) H w0 [.c [1,1,1,1,0,1],.c [1,1,1,1,1]] [(0,.slice Aa0 a0.length ca0),(4,.string y2.1),(5,iv y2.2),(39,.bool t1)] H (F):=by
  refine Cb heq ?_ ?_
  ·intro hb4 heq
   refine Sa 1<|Qd 1 [2] [(2,.bool false)] ?_
   obtain rfl:=Option.some.inj heq
   exact RunH.done (by kernel_rfl) Tryz.func3 (v:=.bool false) (by kernel_rfl) ⟨rfl,rfl,rfl⟩
  ·intro hb4 heq
   refine Sa 3<|Qd 2 [0,4,41] [(41,.bool (y2.2 != 0))] ?_
   refine Cb heq ?_ ?_
   ·intro hb5 heq
    refine Sa 1<|Qd 1 [2] [(2,.bool true)] ?_
    obtain rfl:=Option.some.inj heq
    exact RunH.done (by kernel_rfl) Tryz.func3 (v:=.bool true) (by kernel_rfl) ⟨rfl,rfl,rfl⟩
   ·intro hb5 heq
    refine Sa 2<|Qk 1 [0,43] [(43,.string y2.1)] ?_
    obtain ⟨y6,hy6,heq⟩:=bind_some heq
    refine RgH.does (cal 44 (workers_Read_c hy6 )) ?_
    rintro _ _ _ _ ⟨_,rfl,A2,c2,ch2,rfl,rfl,rfl,ho2⟩
    refine Qd 9 [0,5,8,9] [(5,iv y6.2.2),(8,.slice A2 y6.1.length c2),(9,iv y6.2.1)]<|An 1 ?_
    obtain ⟨t2,ht2,heq⟩:=bind_some heq
    have K4:RunH C3 (S3 F H r) H w0 [.c [1,1,1,1,1,1,1,1]] [(2,.bool t2)] H (F):=by
     obtain rfl:=Option.some.inj heq
     exact RunH.done (by kernel_rfl) Tryz.func3 (v:=.bool t2) (by kernel_rfl) ⟨rfl,rfl,rfl⟩
    replace heq:=ht2
    refine Sa 0<|Qk 3 [50,0,8,9] [(50,.bool (y6.2.2 == 0))] ?_
    rcases bool_cases (y6.2.2 == 0) with hb6 | hb6
    ·replace heq:=bif_true hb6 heq
     refine RgH.val1 (v':=.bool true) (congrArg Value.bool hb6) ?_
     refine Qk 7 [54,0,8] [(54,.bool (y6.2.1 == 0))] ?_
     rcases bool_cases (y6.2.1 == 0) with hb7 | hb7
     ·replace heq:=bif_true hb7 heq
      refine RgH.val1 (v':=.bool true) (congrArg Value.bool hb7) ?_
      refine Qk 9 [54,55,56] [(55,.slice Aa0 a0.length ca0),(56,.slice A2 y6.1.length c2)] ?_
      obtain ⟨y7,hy7,heq⟩:=bind_some heq
      refine RgH.does (cal 57 (slices_Equal_Run_c hy7 (hra0.wk (fun _ h=>(.tail _ h))) hca0 rfl (ho2.rw (.head _)) ho2.cap rfl)) ?_
      rintro _ _ _ _ ⟨_,rfl,rfl,rfl,rfl⟩
      refine Qk 12 [2] [(2,.bool y7)] ?_
      obtain rfl:=Option.some.inj heq
      refine Qg [2]<|Ug 1 []<|Dn ?_
      exact Ge (K4)
     ·replace heq:=bif_false hb7 heq
      refine RgH.val1 (v':=.bool false) (congrArg Value.bool hb7) ?_
      refine Qk 12 [2] [(2,.bool false)] ?_
      obtain rfl:=Option.some.inj heq
      refine Qg [2]<|Ug 1 []<|Dn ?_
      exact Ge (K4)
    ·replace heq:=bif_false hb6 heq
     refine RgH.val1 (v':=.bool false) (congrArg Value.bool hb6) ?_
     refine Qk 12 [2] [(2,.bool false)] ?_
     obtain rfl:=Option.some.inj heq
     refine Qg [2]<|Ug 1 []<|Dn ?_
     exact Ge (K4)
 replace heq:=ht1
 refine Sa 0<|Qk 4 [25,0,3,4,5,6] [(25,.bool (y2.2 != y3.2))] ?_
 rcases bool_cases (y2.2 != y3.2) with hb1 | hb1
 ·replace heq:=bif_true hb1 heq
  refine RgH.val1 (v':=.bool true) (congrArg Value.bool hb1) ?_
  refine Qk 18 [0,4,5,39] [(39,.bool true)] ?_
  obtain rfl:=Option.some.inj heq
  refine Qg [0,4,5,39]<|Ug 1 []<|Dn ?_
  exact Ge (K2)
 ·replace heq:=bif_false hb1 heq
  refine RgH.val1 (v':=.bool false) (congrArg Value.bool hb1) ?_
  refine Qk 9 [30,0,3,4,5] [(30,.bool (!sEq y2.1 y3.1))] ?_
  rcases bool_cases (!sEq y2.1 y3.1) with hb2 | hb2
  ·replace heq:=bif_true hb2 heq
   refine RgH.val1 (v':=.bool true) (congrArg Value.bool hb2) ?_
   refine Qk 18 [0,4,5,39] [(39,.bool true)] ?_
   obtain rfl:=Option.some.inj heq
   refine Qg [0,4,5,39]<|Ug 1 []<|Dn ?_
   exact Ge (K2)
  ·replace heq:=bif_false hb2 heq
   refine RgH.val1 (v':=.bool false) (congrArg Value.bool hb2) ?_
   refine Qk 11 [0,4,5,30,31,32] [(31,.slice Aa0 a0.length ca0),(32,.slice A1 y1.length c1)] ?_
   obtain ⟨y4,hy4,heq⟩:=bind_some heq
   refine RgH.does (cal 33 (slices_Equal_Run_c hy4 (hra0.wk (fun _ h=>(.tail _ h))) hca0 rfl (ho1.rw (.head _)) ho1.cap rfl)) ?_
   rintro _ _ _ _ ⟨_,rfl,rfl,rfl,rfl⟩
   refine Qk 15 [36,0,4,5] [(36,.bool (!y4))] ?_
   rcases bool_cases (!y4) with hb3 | hb3
   ·replace heq:=bif_true hb3 heq
    refine RgH.val1 (v':=.bool true) (congrArg Value.bool hb3) ?_
    refine Qk 18 [0,4,5,39] [(39,.bool true)] ?_
    obtain rfl:=Option.some.inj heq
    refine Qg [0,4,5,39]<|Ug 1 []<|Dn ?_
    exact Ge (K2)
   ·replace heq:=bif_false hb3 heq
    refine RgH.val1 (v':=.bool false) (congrArg Value.bool hb3) ?_
    obtain ⟨y5,hy5,heq⟩:=bind_some heq
    refine RgH.does (cal 37 (smithyardlaw9_awake_c hy5 )) ?_
    rintro _ _ _ _ ⟨_,rfl,rfl,rfl,rfl⟩
    refine Qk 18 [0,4,5,39] [(39,.bool (!y5))] ?_
    obtain rfl:=Option.some.inj heq
    refine Qg [0,4,5,39]<|Ug 1 []<|Dn ?_
    exact Ge (K2)
end Go.Proofs.YtdccapcfbielcaaGreatDoor
