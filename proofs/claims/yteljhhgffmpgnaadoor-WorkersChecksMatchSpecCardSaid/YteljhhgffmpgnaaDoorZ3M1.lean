/- What the machine's calls of these functions come to: just what the plain functions say. Written by program. -/
import Derived.Test.YteljhhgffmpgnaaDoorProg
import Derived.Test.YteljhhgffmpgnaaDoorKitX
import Derived.Test.YteljhhgffmpgnaaDoorZD
import Derived.Test.YteljhhgffmpgnaaDoorShelf
set_option linter.unusedVariables false
set_option linter.unusedSimpArgs false
set_option maxRecDepth 100000
set_option maxHeartbeats 1000000
namespace Go.Proofs.YteljhhgffmpgnaaDoor
open Go Go.RowKit Go.Proofs.YteljhhgffmpgnaaDoor.Kit
def kPair:Kd Pair:=Kd.iso ((Kd.pair Kd.string Kd.string)) (fun x=>(x.Name,x.Value))
theorem kPair_open {H:Hp} {x:Pair} {c:List Value} (h:kPair.K H x c):c=[.string x.Name,.string x.Value]:=by
 obtain ⟨p0,q0,rfl,g0,h0⟩:=h
 obtain rfl:p0=[_]:=g0
 obtain rfl:q0=[_]:=h0
 rfl
theorem kPair_mk {H:Hp} {x:Pair}:kPair.K H x [.string x.Name,.string x.Value]:=⟨[.string x.Name],[.string x.Value],rfl,rfl,rfl⟩
def kSpan:Kd Span:=Kd.iso ((Kd.pair (Kd.int .i64) (Kd.int .i64))) (fun x=>(x.From,x.To))
theorem kSpan_open {H:Hp} {x:Span} {c:List Value} (h:kSpan.K H x c):c=[iv x.From,iv x.To]:=by
 obtain ⟨p0,q0,rfl,g0,h0⟩:=h
 obtain rfl:p0=[_]:=g0
 obtain rfl:q0=[_]:=h0
 rfl
theorem kSpan_mk {H:Hp} {x:Span}:kSpan.K H x [iv x.From,iv x.To]:=⟨[iv x.From],[iv x.To],rfl,rfl,rfl⟩
def kWorker:Kd Worker:=Kd.iso ((Kd.pair Kd.string (Kd.pair (Kd.slice kPair) (Kd.pair (Kd.int .i64) (Kd.pair (Kd.int .i64) (Kd.pair (Kd.int .i64) (Kd.pair (Kd.int .i64) (Kd.slice kSpan)))))))) (fun x=>(x.Name,x.Has,x.Slots,x.Speed,x.From,x.To,x.Stands))
theorem kWorker_open {H:Hp} {x:Worker} {c:List Value} (h:kWorker.K H x c):∃ A1 c1,∃ A6 c6,c=[.string x.Name,.slice A1 x.Has.length c1,iv x.Slots,iv x.Speed,iv x.From,iv x.To,.slice A6 x.Stands.length c6]∧x.Has.length≤c1∧Kd.Row kPair H A1 x.Has∧x.Stands.length≤c6∧Kd.Row kSpan H A6 x.Stands:=by
 obtain ⟨p0,q0,rfl,g0,h0⟩:=h
 obtain rfl:p0=[_]:=g0
 obtain ⟨p1,q1,rfl,g1,h1⟩:=h0
 obtain ⟨A1,c1,rfl,u1,v1⟩:=g1
 obtain ⟨p2,q2,rfl,g2,h2⟩:=h1
 obtain rfl:p2=[_]:=g2
 obtain ⟨p3,q3,rfl,g3,h3⟩:=h2
 obtain rfl:p3=[_]:=g3
 obtain ⟨p4,q4,rfl,g4,h4⟩:=h3
 obtain rfl:p4=[_]:=g4
 obtain ⟨p5,q5,rfl,g5,h5⟩:=h4
 obtain rfl:p5=[_]:=g5
 obtain ⟨A6,c6,rfl,u6,v6⟩:=h5
 exact ⟨A1,c1,A6,c6,rfl,u1,v1,u6,v6⟩
theorem kWorker_mk {H:Hp} {x:Worker} {A1:Option Addr} {c1:Nat} {A6:Option Addr} {c6:Nat} (u1:x.Has.length≤c1) (v1:Kd.Row kPair H A1 x.Has) (u6:x.Stands.length≤c6) (v6:Kd.Row kSpan H A6 x.Stands):kWorker.K H x [.string x.Name,.slice A1 x.Has.length c1,iv x.Slots,iv x.Speed,iv x.From,iv x.To,.slice A6 x.Stands.length c6]:=⟨[.string x.Name],[.slice A1 x.Has.length c1,iv x.Slots,iv x.Speed,iv x.From,iv x.To,.slice A6 x.Stands.length c6],rfl,rfl,⟨[.slice A1 x.Has.length c1],[iv x.Slots,iv x.Speed,iv x.From,iv x.To,.slice A6 x.Stands.length c6],rfl,⟨A1,c1,rfl,u1,v1⟩,⟨[iv x.Slots],[iv x.Speed,iv x.From,iv x.To,.slice A6 x.Stands.length c6],rfl,rfl,⟨[iv x.Speed],[iv x.From,iv x.To,.slice A6 x.Stands.length c6],rfl,rfl,⟨[iv x.From],[iv x.To,.slice A6 x.Stands.length c6],rfl,rfl,⟨[iv x.To],[.slice A6 x.Stands.length c6],rfl,rfl,⟨A6,c6,rfl,u6,v6⟩⟩⟩⟩⟩⟩⟩
def kWork:Kd Work:=Kd.iso ((Kd.pair Kd.string (Kd.pair (Kd.slice kPair) (Kd.pair (Kd.int .i64) (Kd.slice Kd.string))))) (fun x=>(x.Id,x.Needs,x.Size,x.After))
theorem kWork_open {H:Hp} {x:Work} {c:List Value} (h:kWork.K H x c):∃ A1 c1,∃ A3 c3,c=[.string x.Id,.slice A1 x.Needs.length c1,iv x.Size,.slice A3 x.After.length c3]∧x.Needs.length≤c1∧Kd.Row kPair H A1 x.Needs∧x.After.length≤c3∧Kd.Row Kd.string H A3 x.After:=by
 obtain ⟨p0,q0,rfl,g0,h0⟩:=h
 obtain rfl:p0=[_]:=g0
 obtain ⟨p1,q1,rfl,g1,h1⟩:=h0
 obtain ⟨A1,c1,rfl,u1,v1⟩:=g1
 obtain ⟨p2,q2,rfl,g2,h2⟩:=h1
 obtain rfl:p2=[_]:=g2
 obtain ⟨A3,c3,rfl,u3,v3⟩:=h2
 exact ⟨A1,c1,A3,c3,rfl,u1,v1,u3,v3⟩
theorem kWork_mk {H:Hp} {x:Work} {A1:Option Addr} {c1:Nat} {A3:Option Addr} {c3:Nat} (u1:x.Needs.length≤c1) (v1:Kd.Row kPair H A1 x.Needs) (u3:x.After.length≤c3) (v3:Kd.Row Kd.string H A3 x.After):kWork.K H x [.string x.Id,.slice A1 x.Needs.length c1,iv x.Size,.slice A3 x.After.length c3]:=⟨[.string x.Id],[.slice A1 x.Needs.length c1,iv x.Size,.slice A3 x.After.length c3],rfl,rfl,⟨[.slice A1 x.Needs.length c1],[iv x.Size,.slice A3 x.After.length c3],rfl,⟨A1,c1,rfl,u1,v1⟩,⟨[iv x.Size],[.slice A3 x.After.length c3],rfl,rfl,⟨A3,c3,rfl,u3,v3⟩⟩⟩⟩
noncomputable def C19:Ctx:={ P:=Tryd.prog,f:=19,N:=8,c:=bodyOf Tryd.f19 }
def S19 (F:List Ch) (H0:Hp) (r:List Pair) (v:Value) (H:Hp) (cs:List Ch):Prop:=∃ (A0:Option Addr) (c0:Nat) (ch0:Ch),H0=H∧v=.slice A0 r.length c0∧ch0::F=cs∧SlOwn kPair 48 H A0 c0 r ch0
theorem slices_Clone_Pair_c {w0:World} {H:Hp} {F:List Ch} {a0:List Pair} {Aa0:Option Addr} {na0 ca0:Nat} {r:List Pair} (hra0:Rw kPair H F Aa0 a0) (hca0:na0≤ca0) (hna0:na0=a0.length) (heq:slices_Clone_Pair.f a0=some r):CallsH Tryd.prog 19 #[.slice Aa0 na0 ca0] H w0 F (S19 F H r):=by
 refine calls_of_runH (F:=C19) Tryd.func19 (by kernel_rfl) Tryd.ntmps19 (args:=[.slice Aa0 na0 ca0]) (by kernel_rfl) ?_
 subst hna0
 unfold slices_Clone_Pair.f at heq
 obtain ⟨hn,heq⟩:=guard?_some heq
 obtain rfl:=Option.some.inj heq
 refine Ra 1 [0] [.c [1]]<|Rd 1 [0] [(0,.slice Aa0 a0.length ca0)]<|Ra 2 [1,0,0] [.c [1,0,1],.c [1,1]] ?_
 cases Aa0 with
 | none =>
  have h0:a0=[]:=by
   cases a0 with
   | nil=>rfl
   | cons x xs=>obtain ⟨b,off,cs,e,fr,hA,_⟩:=hra0 (by simp); cases hA
  subst h0
  refine Rd 2 [4] [(4,.bool true)]<|Ct true rfl<|Ra 1 [1,0,1,0,0] [.c [1,0,1,0,1],.c [1,1]]<|Rd 1 [2] [(2,.slice none 0 0)]<|RunH.nilc ?_
  exact RunH.done (by kernel_rfl) Tryd.func19 (v:=.slice none ([]:List Pair).length 0) (by kernel_rfl) ⟨none,0,none,rfl,rfl,rfl,SlOwn.nil⟩
 | some ad =>
  refine Rd 2 [0,4] [(0,.slice (some ad) a0.length ca0),(4,.bool false)]<|Cf false rfl<|Ra 2 [1,1,0] [.c [1,1,1]] ?_
  refine RgH.does (DoesH.new (d:=5) (v:=fun g=>.slice (some ⟨g,0,none⟩) 0 0) (o:=fun g=>.cells #[] 48 (0,0)) (fun g=>by kernel_rfl)) ?_
  rintro _ _ _ _ ⟨g,rfl,rfl,rfl⟩
  have ho:SlOwn kPair 48 H (some ⟨g,0,none⟩) 0 ([]:List Pair) (some (g,.cells #[] 48 (0,0))):=.inr ⟨g,0,#[],rfl,rfl,by simp,by simp [maxLen],by simp,Kd.Rep.nil⟩
  refine Rk 2 [5,6] [(5,.slice (some ⟨g,0,none⟩) 0 0),(6,.slice (some ad) a0.length ca0)] ?_
  refine RgH.does (DoesH.append (d:=7) (k:=0) (t:=24) (e:=48) (bytes:=32) (kd:=kPair) (n:=0) (m:=a0.length) (xs:=([]:List Pair)) (ys:=a0) (A:=some ⟨g,0,none⟩) (B:=some ad) (c:=0) (cB:=ca0) (by kernel_rfl) rfl rfl (by kernel_rfl) rfl ho (fun w hh=>hra0.rdb (hh.drop 1)) (room_le hn) (by have:=room_le hn; omega)) ?_
  rintro _ _ _ _ ⟨A1,c1,ch1,rfl,rfl,rfl,ho1⟩
  refine Rd 4 [2] [(2,.slice A1 (([]:List Pair)++a0).length c1)] ?_
  exact RunH.done (by kernel_rfl) Tryd.func19 (v:=.slice A1 (([]:List Pair)++a0).length c1) (by kernel_rfl) ⟨A1,c1,ch1,rfl,rfl,rfl,ho1⟩
noncomputable def C20:Ctx:={ P:=Tryd.prog,f:=20,N:=8,c:=bodyOf Tryd.f20 }
def S20 (F:List Ch) (H0:Hp) (r:List Span) (v:Value) (H:Hp) (cs:List Ch):Prop:=∃ (A0:Option Addr) (c0:Nat) (ch0:Ch),H0=H∧v=.slice A0 r.length c0∧ch0::F=cs∧SlOwn kSpan 51 H A0 c0 r ch0
theorem slices_Clone_Span_c {w0:World} {H:Hp} {F:List Ch} {a0:List Span} {Aa0:Option Addr} {na0 ca0:Nat} {r:List Span} (hra0:Rw kSpan H F Aa0 a0) (hca0:na0≤ca0) (hna0:na0=a0.length) (heq:slices_Clone_Span.f a0=some r):CallsH Tryd.prog 20 #[.slice Aa0 na0 ca0] H w0 F (S20 F H r):=by
 refine calls_of_runH (F:=C20) Tryd.func20 (by kernel_rfl) Tryd.ntmps20 (args:=[.slice Aa0 na0 ca0]) (by kernel_rfl) ?_
 subst hna0
 unfold slices_Clone_Span.f at heq
 obtain ⟨hn,heq⟩:=guard?_some heq
 obtain rfl:=Option.some.inj heq
 refine Ra 1 [0] [.c [1]]<|Rd 1 [0] [(0,.slice Aa0 a0.length ca0)]<|Ra 2 [1,0,0] [.c [1,0,1],.c [1,1]] ?_
 cases Aa0 with
 | none =>
  have h0:a0=[]:=by
   cases a0 with
   | nil=>rfl
   | cons x xs=>obtain ⟨b,off,cs,e,fr,hA,_⟩:=hra0 (by simp); cases hA
  subst h0
  refine Rd 2 [4] [(4,.bool true)]<|Ct true rfl<|Ra 1 [1,0,1,0,0] [.c [1,0,1,0,1],.c [1,1]]<|Rd 1 [2] [(2,.slice none 0 0)]<|RunH.nilc ?_
  exact RunH.done (by kernel_rfl) Tryd.func20 (v:=.slice none ([]:List Span).length 0) (by kernel_rfl) ⟨none,0,none,rfl,rfl,rfl,SlOwn.nil⟩
 | some ad =>
  refine Rd 2 [0,4] [(0,.slice (some ad) a0.length ca0),(4,.bool false)]<|Cf false rfl<|Ra 2 [1,1,0] [.c [1,1,1]] ?_
  refine RgH.does (DoesH.new (d:=5) (v:=fun g=>.slice (some ⟨g,0,none⟩) 0 0) (o:=fun g=>.cells #[] 51 (0,0)) (fun g=>by kernel_rfl)) ?_
  rintro _ _ _ _ ⟨g,rfl,rfl,rfl⟩
  have ho:SlOwn kSpan 51 H (some ⟨g,0,none⟩) 0 ([]:List Span) (some (g,.cells #[] 51 (0,0))):=.inr ⟨g,0,#[],rfl,rfl,by simp,by simp [maxLen],by simp,Kd.Rep.nil⟩
  refine Rk 2 [5,6] [(5,.slice (some ⟨g,0,none⟩) 0 0),(6,.slice (some ad) a0.length ca0)] ?_
  refine RgH.does (DoesH.append (d:=7) (k:=0) (t:=25) (e:=51) (bytes:=16) (kd:=kSpan) (n:=0) (m:=a0.length) (xs:=([]:List Span)) (ys:=a0) (A:=some ⟨g,0,none⟩) (B:=some ad) (c:=0) (cB:=ca0) (by kernel_rfl) rfl rfl (by kernel_rfl) rfl ho (fun w hh=>hra0.rdb (hh.drop 1)) (room_le hn) (by have:=room_le hn; omega)) ?_
  rintro _ _ _ _ ⟨A1,c1,ch1,rfl,rfl,rfl,ho1⟩
  refine Rd 4 [2] [(2,.slice A1 (([]:List Span)++a0).length c1)] ?_
  exact RunH.done (by kernel_rfl) Tryd.func20 (v:=.slice A1 (([]:List Span)++a0).length c1) (by kernel_rfl) ⟨A1,c1,ch1,rfl,rfl,rfl,ho1⟩
noncomputable def C6:Ctx:={ P:=Tryd.prog,f:=6,N:=12,c:=bodyOf Tryd.f6 }
def S6 (F:List Ch) (H0:Hp) (r:Worker) (v:Value) (H:Hp) (cs:List Ch):Prop:=∃ (A0_1:Option Addr) (c0_1:Nat) (ch0_1:Ch) (A0_6:Option Addr) (c0_6:Nat) (ch0_6:Ch),H0=H∧v=.agg #[.string r.Name,.slice A0_1 r.Has.length c0_1,iv r.Slots,iv r.Speed,iv r.From,iv r.To,.slice A0_6 r.Stands.length c0_6]∧ch0_1::ch0_6::F=cs∧SlOwn kPair 48 H A0_1 c0_1 r.Has ch0_1∧SlOwn kSpan 51 H A0_6 c0_6 r.Stands ch0_6
theorem smithyardref9_CopyWorker_c {w0:World} {H:Hp} {F:List Ch} {a0:Worker} {Aa0_1:Option Addr} {na0_1:Nat} {ca0_1:Nat} {Aa0_6:Option Addr} {na0_6:Nat} {ca0_6:Nat} {r:Worker} (hra0_1:Rw kPair H F Aa0_1 a0.Has) (hca0_1:na0_1≤ca0_1) (hna0_1:na0_1=a0.Has.length) (hra0_6:Rw kSpan H F Aa0_6 a0.Stands) (hca0_6:na0_6≤ca0_6) (hna0_6:na0_6=a0.Stands.length) (heq:smithyardref9_CopyWorker.f a0=some r):CallsH Tryd.prog 6 #[.agg #[.string a0.Name,.slice Aa0_1 na0_1 ca0_1,iv a0.Slots,iv a0.Speed,iv a0.From,iv a0.To,.slice Aa0_6 na0_6 ca0_6]] H w0 (F) (S6 F H r):=by
 refine calls_of_runH (F:=C6) Tryd.func6 (by kernel_rfl) Tryd.ntmps6 (args:=[.agg #[.string a0.Name,.slice Aa0_1 na0_1 ca0_1,iv a0.Slots,iv a0.Speed,iv a0.From,iv a0.To,.slice Aa0_6 na0_6 ca0_6]]) (by kernel_rfl) ?_
 subst hna0_1
 subst hna0_6
 unfold smithyardref9_CopyWorker.f at heq
 refine Ra 1 [0] [.c [1]] ?_
 refine RgH.does (DoesH.new (d:=1) (v:=fun g=>.pointer (some ⟨g,0,none⟩)) (o:=fun g=>.cells #[.string a0.Name,.slice Aa0_1 a0.Has.length ca0_1,iv a0.Slots,iv a0.Speed,iv a0.From,iv a0.To,.slice Aa0_6 a0.Stands.length ca0_6] 27 (0,0)) (fun g=>by kernel_rfl)) ?_
 rintro _ _ _ _ ⟨g1,rfl,rfl,rfl⟩
 refine RgH.does (DoesH.new (d:=2) (v:=fun g=>.pointer (some ⟨g,0,none⟩)) (o:=fun g=>.cells #[.string ByteArray.empty,.slice none 0 0,iv 0,iv 0,iv 0,iv 0,.slice none 0 0] 27 (0,0)) (fun g=>by kernel_rfl)) ?_
 rintro _ _ _ _ ⟨g2,rfl,rfl,rfl⟩
 refine Dn<|Ad 1 [.c [1,0],.c [1,1]]<|Kp [1,2] [(1,pg g1 0),(2,pg g2 0)] ?_
 refine RunH.draw (fun w=>Heap H w0 w ((some (g2,.cells #[.string ByteArray.empty,.slice none 0 0,iv 0,iv 0,iv 0,iv 0,.slice none 0 0] 27 (0,0)))::(some (g1,.cells #[.string a0.Name,.slice Aa0_1 a0.Has.length ca0_1,iv a0.Slots,iv a0.Speed,iv a0.From,iv a0.To,.slice Aa0_6 a0.Stands.length ca0_6] 27 (0,0)))::F)) (fun w=>Heap H w0 w ((some (g2,.cells #[.string ByteArray.empty,.slice none 0 0,iv 0,iv 0,iv 0,iv 0,.slice none 0 0] 27 (0,0)))::F)) [3,3,0,3,3,0,3,1,3,2] (n:=10) (ls:=[false,false,false,false,false,false,false,false,false,false]) (by kernel_rfl) (by kernel_rfl) (by kernel_rfl) rfl ?_
 refine Dk [0,1,3,4] 6 (nb 10 27) [.slice Aa0_1 a0.Has.length ca0_1,.slice Aa0_6 a0.Stands.length ca0_6] [.load ⟨g1,1,none⟩ (.slice Aa0_1 a0.Has.length ca0_1),.load ⟨g1,6,none⟩ (.slice Aa0_6 a0.Stands.length ca0_6)] [1,2,4,7] [(1,pg g1 0),(2,pg g2 0),(4,.slice Aa0_1 a0.Has.length ca0_1),(7,.slice Aa0_6 a0.Stands.length ca0_6)] (Pk 2 [0,1]) (Pk 2 [0]) (fun w hh=>⟨(hh.box 1 rfl rfl),(hh.box 1 rfl rfl)⟩) ?_
 obtain ⟨y1,hy1,heq⟩:=bind_some heq
 refine DrH.does (n:=5) (ls':=[true,true,true,true,true,false,false,false,false,false]) 2 (by kernel_rfl) rfl (DoesH.call (d:=5) (g:=19) (args:=#[.slice Aa0_1 a0.Has.length ca0_1]) (by kernel_rfl) (slices_Clone_Pair_c (a0:=a0.Has) (hra0_1.wk (fun _ h=>(.tail _ (.tail _ h)))) hca0_1 rfl hy1)) ?_
 rintro _ _ _ _ ⟨_,rfl,A1,c1,ch1,rfl,rfl,rfl,ho1⟩
 refine ⟨fun _ w hh=>⟨fun _=>(Pk 3 [1,2]) w hh,fun _=>(Pk 3 [1]) w hh,(fun h=>by cases h)⟩,?_⟩
 refine Dk [6] 4 (nb 10 95) [] [] [1,2,5,7,9] [(1,pg g1 0),(2,pg g2 0),(5,.slice A1 y1.length c1),(7,.slice Aa0_6 a0.Stands.length ca0_6),(9,pg g1 1)] (Pk 3 [1,2]) (Pk 2 [0]) (fun _ _=>trivial) ?_
 obtain ⟨y2,hy2,heq⟩:=bind_some heq
 refine DrH.does (n:=3) (ls':=[true,true,true,true,true,true,true,false,false,false]) 5 (by kernel_rfl) rfl (DoesH.call (d:=8) (g:=20) (args:=#[.slice Aa0_6 a0.Stands.length ca0_6]) (by kernel_rfl) (slices_Clone_Span_c (a0:=a0.Stands) (hra0_6.wk (fun _ h=>(.tail _ (.tail _ (.tail _ h))))) hca0_6 rfl hy2)) ?_
 rintro _ _ _ _ ⟨_,rfl,A2,c2,ch2,rfl,rfl,rfl,ho2⟩
 refine ⟨fun _ w hh=>⟨fun _=>(Pk 4 [2,3]) w hh,fun _=>(Pk 4 [2]) w hh,(fun h=>by cases h)⟩,?_⟩
 refine Kr [1,2,5,8,9] [(1,pg g1 0),(2,pg g2 0),(5,.slice A1 y1.length c1),(8,.slice A2 y2.length c2),(9,pg g1 1)] ?_
 refine DrH.does (n:=2) (ls':=[true,true,true,true,true,true,true,true,false,false]) 7 (by kernel_rfl) rfl (DoesH.store (k:=3) (g:=g1) (off:=1) (v:=.slice A1 y1.length c1) (cells':=#[.string a0.Name,.slice A1 y1.length c1,iv a0.Slots,iv a0.Speed,iv a0.From,iv a0.To,.slice Aa0_6 a0.Stands.length ca0_6]) (by kernel_rfl) rfl (by kernel_rfl) (by kernel_rfl)) ?_
 rintro _ _ _ _ ⟨rfl,rfl,rfl⟩
 refine ⟨fun _ w hh=>⟨(fun h=>by cases h),fun _=>(Pk 4 [2]) w hh,(fun h=>by cases h)⟩,?_⟩
 refine De [8] 1 (nb 10 511) [] [] [1,2,8,10] [(1,pg g1 0),(2,pg g2 0),(8,.slice A2 y2.length c2),(10,pg g1 6)] (Pk 4 [2]) (fun _ _=>trivial) ?_
 refine DrH.does (n:=0) (ls':=[true,true,true,true,true,true,true,true,true,true]) 9 (by kernel_rfl) rfl (DoesH.store (k:=3) (g:=g1) (off:=6) (v:=.slice A2 y2.length c2) (cells':=#[.string a0.Name,.slice A1 y1.length c1,iv a0.Slots,iv a0.Speed,iv a0.From,iv a0.To,.slice A2 y2.length c2]) (by kernel_rfl) rfl (by kernel_rfl) (by kernel_rfl)) ?_
 rintro _ _ _ _ ⟨rfl,rfl,rfl⟩
 refine ⟨fun _ w hh=>⟨(fun h=>by cases h),(fun h=>absurd h (by decide)),(fun h=>by cases h)⟩,?_⟩
 refine Kr [1,2] [(1,pg g1 0),(2,pg g2 0)] ?_
 refine DrH.done (by kernel_rfl) ?_
 refine Ra 1 [1,1,0] [.c [1,1,1]]<|Rv 1 [2,11] [.string a0.Name,.slice A1 y1.length c1,iv a0.Slots,iv a0.Speed,iv a0.From,iv a0.To,.slice A2 y2.length c2] [.load ⟨g1,0,none⟩ (.string a0.Name),.load ⟨g1,1,none⟩ (.slice A1 y1.length c1),.load ⟨g1,2,none⟩ (iv a0.Slots),.load ⟨g1,3,none⟩ (iv a0.Speed),.load ⟨g1,4,none⟩ (iv a0.From),.load ⟨g1,5,none⟩ (iv a0.To),.load ⟨g1,6,none⟩ (.slice A2 y2.length c2)] [(2,pg g2 0),(11,.agg #[.string a0.Name,.slice A1 y1.length c1,iv a0.Slots,iv a0.Speed,iv a0.From,iv a0.To,.slice A2 y2.length c2])] (fun w hh=>⟨(hh.box 3 rfl rfl),(hh.box 3 rfl rfl),(hh.box 3 rfl rfl),(hh.box 3 rfl rfl),(hh.box 3 rfl rfl),(hh.box 3 rfl rfl),(hh.box 3 rfl rfl)⟩) ?_
 refine RgH.does (DoesH.store (k:=2) (g:=g2) (off:=0) (v:=.agg #[.string a0.Name,.slice A1 y1.length c1,iv a0.Slots,iv a0.Speed,iv a0.From,iv a0.To,.slice A2 y2.length c2]) (cells':=#[.string a0.Name,.slice A1 y1.length c1,iv a0.Slots,iv a0.Speed,iv a0.From,iv a0.To,.slice A2 y2.length c2]) (by kernel_rfl) rfl (by kernel_rfl) (by kernel_rfl)) ?_
 rintro _ _ _ _ ⟨rfl,rfl,rfl⟩
 refine Dn ?_
 obtain rfl:=Option.some.inj heq
 refine RunH.pick 4 [2,1,0] (cs':=(some (g2,.cells #[.string a0.Name,.slice A1 y1.length c1,iv a0.Slots,iv a0.Speed,iv a0.From,iv a0.To,.slice A2 y2.length c2] 27 (0,0)))::ch1::ch2::F) (by kernel_rfl) rfl ?_
 exact RunH.doneM' 1 (vs:=[.agg #[.string a0.Name,.slice A1 y1.length c1,iv a0.Slots,iv a0.Speed,iv a0.From,iv a0.To,.slice A2 y2.length c2]]) (v:=.agg #[.string a0.Name,.slice A1 y1.length c1,iv a0.Slots,iv a0.Speed,iv a0.From,iv a0.To,.slice A2 y2.length c2]) (by kernel_rfl) Tryd.func6 (fun w hh=>show ResAll _ _ _ [.cell 2 27] _ from ⟨⟨⟨g2,0,none⟩,by kernel_rfl,trS_run _ (vs:=[.string a0.Name,.slice A1 y1.length c1,iv a0.Slots,iv a0.Speed,iv a0.From,iv a0.To,.slice A2 y2.length c2]) (r:=[]) (es:=[.load ⟨g2,0,none⟩ (.string a0.Name),.load ⟨g2,1,none⟩ (.slice A1 y1.length c1),.load ⟨g2,2,none⟩ (iv a0.Slots),.load ⟨g2,3,none⟩ (iv a0.Speed),.load ⟨g2,4,none⟩ (iv a0.From),.load ⟨g2,5,none⟩ (iv a0.To),.load ⟨g2,6,none⟩ (.slice A2 y2.length c2)]) (by kernel_rfl) ⟨(hh.box 0 rfl rfl),(hh.box 0 rfl rfl),(hh.box 0 rfl rfl),(hh.box 0 rfl rfl),(hh.box 0 rfl rfl),(hh.box 0 rfl rfl),(hh.box 0 rfl rfl)⟩⟩,trivial⟩) rfl (cs':=ch1::ch2::F) rfl ⟨A1,c1,ch1,A2,c2,ch2,rfl,rfl,rfl,ho1,ho2⟩
noncomputable def C4:Ctx:={ P:=Tryd.prog,f:=4,N:=19,c:=bodyOf Tryd.f4 }
def S4 (F:List Ch) (H0:Hp) (r:(List Worker)) (v:Value) (H:Hp) (cs:List Ch):Prop:=∃ (A0:Option Addr) (c0:Nat) (ch0:Ch),v=.slice A0 r.length c0∧ch0::F=cs∧SlOwn kWorker 27 H A0 c0 r ch0
theorem smithyardref9_CopyWorkers.e1_c {w0:World} {H0:Hp} {F:List Ch} {r:(List Worker)}:∀ (H:Hp) (v_out3:List Worker) (Av_out3:Option Addr) (nv_out3:Nat) (cv_out3:Nat) (chv_out3:Ch) ,SlOwn kWorker 27 H Av_out3 cv_out3 v_out3 chv_out3→nv_out3=v_out3.length→smithyardref9_CopyWorkers.e1 v_out3=some r→RunH C4 (S4 F H0 r) H0 w0 [.c [1,1,1,0],.c [1,1,1,1]] [(3,.slice Av_out3 nv_out3 cv_out3)] H (chv_out3::F):=by
 intro H v_out3 Av_out3 nv_out3 cv_out3 chv_out3 hov_out3 hnv_out3 heq
 subst hnv_out3
 unfold smithyardref9_CopyWorkers.e1 at heq
 refine Rr<|Rd 2 [2] [(2,.slice Av_out3 v_out3.length cv_out3)] ?_
 obtain rfl:=Option.some.inj heq
 exact RunH.done (by kernel_rfl) Tryd.func4 (v:=.slice Av_out3 v_out3.length cv_out3) (by kernel_rfl) ⟨Av_out3,cv_out3,chv_out3,rfl,rfl,hov_out3⟩
theorem smithyardref9_CopyWorkers.l2_c {w0:World} {H0:Hp} {F:List Ch} {r:(List Worker)} (e1:(List Worker)→Option (List Worker))
  (he1:∀ (H:Hp) (v_out3:List Worker) (Av_out3:Option Addr) (nv_out3:Nat) (cv_out3:Nat) (chv_out3:Ch) ,SlOwn kWorker 27 H Av_out3 cv_out3 v_out3 chv_out3→nv_out3=v_out3.length→e1 v_out3=some r→RunH C4 (S4 F H0 r) H0 w0 [.c [1,1,1,0],.c [1,1,1,1]] [(3,.slice Av_out3 nv_out3 cv_out3)] H (chv_out3::F)):∀ (k:Nat),∀ (H:Hp) (a0:List Worker) (Aa0:Option Addr) (ca0:Nat) (v_out3:List Worker) (Av_out3:Option Addr) (nv_out3:Nat) (cv_out3:Nat) (chv_out3:Ch) (v8:Int) ,Rw kWorker H F Aa0 a0→a0.length≤ca0→SlOwn kWorker 27 H Av_out3 cv_out3 v_out3 chv_out3→nv_out3=v_out3.length→smithyardref9_CopyWorkers.l2 e1 k a0 v_out3 v8=some r→RunH C4 (S4 F H0 r) H0 w0 [.c [1,1,0,1,0,0],.l [1,1,0,1,0,0],.b 0,.c [1,1,1]] [(3,.slice Av_out3 nv_out3 cv_out3),(6,.slice Aa0 a0.length ca0),(7,iv (a0.length:Int)),(8,iv v8)] H (chv_out3::F):=by
 intro k
 induction k with
 | zero=>intro H a0 Aa0 ca0 v_out3 Av_out3 nv_out3 cv_out3 chv_out3 v8 hra0 hca0 hov_out3 hnv_out3 heq; exact nomatch (show (none:Option (List Worker))=some r from heq)
 | succ k ihk =>
  intro H a0 Aa0 ca0 v_out3 Av_out3 nv_out3 cv_out3 chv_out3 v8 hra0 hca0 hov_out3 hnv_out3 heq
  subst hnv_out3
  rw [smithyardref9_CopyWorkers.l2] at heq
  refine Ra 1 [1,1,0,1,0,0,0] [.c [1,1,0,1,0,0,1],.l [1,1,0,1,0,0],.b 0,.c [1,1,1]]<|Rd 1 [3,6,7,8,9] [(3,.slice Av_out3 v_out3.length cv_out3),(6,.slice Aa0 a0.length ca0),(7,iv (a0.length:Int)),(8,iv v8),(9,.bool (decide (v8<(a0.length:Int))))]<|Ad 1 [.c [1,1,0,1,0,0,1,0],.c [1,1,0,1,0,0,1,1],.l [1,1,0,1,0,0],.b 0,.c [1,1,1]] ?_
  rcases bool_cases (decide (v8<(a0.length:Int))) with hb1 | hb1
  ·replace heq:=bif_true hb1 heq
   refine Ct (decide (v8<(a0.length:Int))) hb1<|Ra 4 [1,1,0,1,0,0,1,1,0,0,0] [.c [1,1,0,1,0,0,1,1,0,0,1],.b 1,.c [1,1,0,1,0,0,1,1,1],.l [1,1,0,1,0,0],.b 0,.c [1,1,1]] ?_
   obtain ⟨x1,hx1,heq⟩:=bind_some heq
   obtain ⟨ha1,cs1,hK1,hcc1⟩:=hra0.get hx1
   obtain ⟨A1,c1,A2,c2,rfl,hc1,hr1,hc2,hr2⟩:=kWorker_open hK1
   refine Rv 2 [3,6,7,8,11] [.string x1.Name,.slice A1 x1.Has.length c1,iv x1.Slots,iv x1.Speed,iv x1.From,iv x1.To,.slice A2 x1.Stands.length c2] [.need (Aa0=some (adr Aa0)∧(0:Int)≤v8∧v8<((a0.length:Nat):Int)),.load (((adr Aa0).add (v8.toNat*7)).add 0) (.string x1.Name),.load (((adr Aa0).add (v8.toNat*7)).add 1) (.slice A1 x1.Has.length c1),.load (((adr Aa0).add (v8.toNat*7)).add 2) (iv x1.Slots),.load (((adr Aa0).add (v8.toNat*7)).add 3) (iv x1.Speed),.load (((adr Aa0).add (v8.toNat*7)).add 4) (iv x1.From),.load (((adr Aa0).add (v8.toNat*7)).add 5) (iv x1.To),.load (((adr Aa0).add (v8.toNat*7)).add 6) (.slice A2 x1.Stands.length c2)] [(3,.slice Av_out3 v_out3.length cv_out3),(6,.slice Aa0 a0.length ca0),(7,iv (a0.length:Int)),(8,iv v8),(11,.agg #[.string x1.Name,.slice A1 x1.Has.length c1,iv x1.Slots,iv x1.Speed,iv x1.From,iv x1.To,.slice A2 x1.Stands.length c2])] (fun w hh=>⟨⟨ha1,(at?_some hx1).1,(at?_some hx1).2.1⟩,(hcc1 _ _ (hh.drop 1) 0 _ rfl),(hcc1 _ _ (hh.drop 1) 1 _ rfl),(hcc1 _ _ (hh.drop 1) 2 _ rfl),(hcc1 _ _ (hh.drop 1) 3 _ rfl),(hcc1 _ _ (hh.drop 1) 4 _ rfl),(hcc1 _ _ (hh.drop 1) 5 _ rfl),(hcc1 _ _ (hh.drop 1) 6 _ rfl)⟩) ?_
   refine RgH.does (DoesH.new (d:=5) (v:=fun g=>.pointer (some ⟨g,0,none⟩)) (o:=fun g=>.cells #[.string ByteArray.empty,.slice none 0 0,iv 0,iv 0,iv 0,iv 0,.slice none 0 0] 27 (0,0)) (fun g=>by kernel_rfl)) ?_
   rintro _ _ _ _ ⟨g1,rfl,rfl,rfl⟩
   refine RgH.does (DoesH.store (k:=0) (g:=g1) (off:=0) (v:=.agg #[.string x1.Name,.slice A1 x1.Has.length c1,iv x1.Slots,iv x1.Speed,iv x1.From,iv x1.To,.slice A2 x1.Stands.length c2]) (cells':=#[.string x1.Name,.slice A1 x1.Has.length c1,iv x1.Slots,iv x1.Speed,iv x1.From,iv x1.To,.slice A2 x1.Stands.length c2]) (by kernel_rfl) rfl (by kernel_rfl) (by kernel_rfl)) ?_
   rintro _ _ _ _ ⟨rfl,rfl,rfl⟩
   refine Dn<|Rr<|Rv 2 [6,7,8,12,13] [.string x1.Name,.slice A1 x1.Has.length c1,iv x1.Slots,iv x1.Speed,iv x1.From,iv x1.To,.slice A2 x1.Stands.length c2] [.load ⟨g1,0,none⟩ (.string x1.Name),.load ⟨g1,1,none⟩ (.slice A1 x1.Has.length c1),.load ⟨g1,2,none⟩ (iv x1.Slots),.load ⟨g1,3,none⟩ (iv x1.Speed),.load ⟨g1,4,none⟩ (iv x1.From),.load ⟨g1,5,none⟩ (iv x1.To),.load ⟨g1,6,none⟩ (.slice A2 x1.Stands.length c2)] [(6,.slice Aa0 a0.length ca0),(7,iv (a0.length:Int)),(8,iv v8),(12,.slice Av_out3 v_out3.length cv_out3),(13,.agg #[.string x1.Name,.slice A1 x1.Has.length c1,iv x1.Slots,iv x1.Speed,iv x1.From,iv x1.To,.slice A2 x1.Stands.length c2])] (fun w hh=>⟨(hh.box 0 rfl rfl),(hh.box 0 rfl rfl),(hh.box 0 rfl rfl),(hh.box 0 rfl rfl),(hh.box 0 rfl rfl),(hh.box 0 rfl rfl),(hh.box 0 rfl rfl)⟩) ?_
   obtain ⟨y1,hy1,heq⟩:=bind_some heq
   refine RgH.does (DoesH.call (d:=14) (g:=6) (args:=#[.agg #[.string x1.Name,.slice A1 x1.Has.length c1,iv x1.Slots,iv x1.Speed,iv x1.From,iv x1.To,.slice A2 x1.Stands.length c2]]) (by kernel_rfl) (smithyardref9_CopyWorker_c (a0:=x1) (Rw.of hr1) hc1 rfl (Rw.of hr2) hc2 rfl hy1)) ?_
   rintro _ _ _ _ ⟨_,rfl,A3,c3,ch1,A4,c4,ch2,rfl,rfl,rfl,ho1,ho2⟩
   have hc3:=ho1.cap
   refine Hs.freezeS ho1 (fun H hl hr3=>?_)
   replace hra0:=hra0.mono hl
   replace hov_out3:=hov_out3.mono hl
   replace hr1:=hr1.mono hl
   replace hr2:=hr2.mono hl
   replace ho2:=ho2.mono hl
   have hc4:=ho2.cap
   refine Hs.freezeS ho2 (fun H hl hr4=>?_)
   replace hra0:=hra0.mono hl
   replace hov_out3:=hov_out3.mono hl
   replace hr1:=hr1.mono hl
   replace hr2:=hr2.mono hl
   replace hr3:=hr3.mono hl
   refine RgH.does (DoesH.new (d:=15) (v:=fun g=>.slice (some ⟨g,0,none⟩) 1 1) (o:=fun g=>.cells #[.string y1.Name,.slice A3 y1.Has.length c3,iv y1.Slots,iv y1.Speed,iv y1.From,iv y1.To,.slice A4 y1.Stands.length c4] 27 (0,0)) (fun g=>by kernel_rfl)) ?_
   rintro _ _ _ _ ⟨g2,rfl,rfl,rfl⟩
   have ho3:SlOwn kWorker 27 H (some ⟨g2,0,none⟩) 1 ([y1]:List Worker) (some (g2,.cells #[.string y1.Name,.slice A3 y1.Has.length c3,iv y1.Slots,iv y1.Speed,iv y1.From,iv y1.To,.slice A4 y1.Stands.length c4] 27 (0,0))):=SlOwn.lit (xs:=([y1]:List Worker)) (by kernel_rfl) (Nat.le_of_ble_eq_true (by kernel_rfl)) (Kd.Rep.one (kWorker_mk hc3 hr3 hc4 hr4))
   obtain ⟨hn1,heq⟩:=guard?_some heq
   refine RgH.does (DoesH.append (d:=16) (k:=2) (t:=22) (e:=27) (bytes:=96) (kd:=kWorker) (n:=v_out3.length) (m:=1) (xs:=v_out3) (ys:=([y1]:List Worker)) (A:=Av_out3) (B:=(some ⟨g2,0,none⟩)) (c:=cv_out3) (cB:=1) (by kernel_rfl) rfl rfl (by kernel_rfl) rfl hov_out3 (fun w hh=>ho3.rdb (hh.chin 0 rfl)) (room_le hn1) (by have:=room_le hn1; omega)) ?_
   rintro _ _ _ _ ⟨A5,c5,ch3,rfl,rfl,rfl,ho4⟩
   refine Rd 6 [3,6,7,8] [(3,.slice A5 ((v_out3++([y1]:List Worker)).length) c5),(6,.slice Aa0 a0.length ca0),(7,iv (a0.length:Int)),(8,iv v8)]<|Ra 1 [1,1,0,1,0,0,1,1,1] [.l [1,1,0,1,0,0],.b 0,.c [1,1,1]]<|Rd 2 [3,6,7,8] [(3,.slice A5 ((v_out3++([y1]:List Worker)).length) c5),(6,.slice Aa0 a0.length ca0),(7,iv (a0.length:Int)),(8,iv (w64 (v8+1)))]<|Ad 1 [.c [1,1,0,1,0,0],.l [1,1,0,1,0,0],.b 0,.c [1,1,1]]<|Kp [3,6,7,8] [(3,.slice A5 ((v_out3++([y1]:List Worker)).length) c5),(6,.slice Aa0 a0.length ca0),(7,iv (a0.length:Int)),(8,iv (w64 (v8+1)))] ?_
   refine RunH.pick 3 [2] (cs':=ch3::F) (by kernel_rfl) rfl ?_
   exact ihk _ a0 _ _ (v_out3++([y1]:List Worker)) _ _ _ _ (w64 (v8+1)) hra0 hca0 ho4 rfl heq
  ·replace heq:=bif_false hb1 heq
   refine Cf (decide (v8<(a0.length:Int))) hb1<|Ad 2 [.c [1,1,1,0],.c [1,1,1,1]]<|Kp [3] [(3,.slice Av_out3 v_out3.length cv_out3)] ?_
   exact he1 _ v_out3 _ _ _ _ hov_out3 rfl heq
theorem smithyardref9_CopyWorkers_c {w0:World} {H0:Hp} {F:List Ch} {a0:List Worker} {Aa0:Option Addr} {na0:Nat} {ca0:Nat} {r:(List Worker)} (hra0:Rw kWorker H0 F Aa0 a0) (hca0:na0≤ca0) (hna0:na0=a0.length) (heq:smithyardref9_CopyWorkers.f a0=some r):CallsH Tryd.prog 4 #[.slice Aa0 na0 ca0] H0 w0 (F) (S4 F H0 r):=by
 refine calls_of_runH (F:=C4) Tryd.func4 (by kernel_rfl) Tryd.ntmps4 (args:=[.slice Aa0 na0 ca0]) (by kernel_rfl) ?_
 subst hna0
 unfold smithyardref9_CopyWorkers.f at heq
 suffices key:∀ (H:Hp),Rw kWorker H F Aa0 a0→RunH C4 (S4 F H0 r) H0 w0 [.c []] (argL 0 [.slice Aa0 (a0.length) ca0]) H (F) from key H0 hra0
 intro H hra0
 refine Ra 1 [0] [.c [1]]<|Rd 1 [0] [(0,.slice Aa0 a0.length ca0)]<|Ra 1 [1,0] [.c [1,1]]<|Rd 1 [0,3] [(0,.slice Aa0 a0.length ca0),(3,.slice none 0 0)]<|Ra 2 [1,1,0,0] [.c [1,1,0,1],.c [1,1,1]]<|Rd 3 [3,6,7,8] [(3,.slice none 0 0),(6,.slice Aa0 a0.length ca0),(7,iv (a0.length:Int)),(8,iv 0)]<|Ad 2 [.c [1,1,0,1,0,0],.l [1,1,0,1,0,0],.b 0,.c [1,1,1]]<|RunH.nilc ?_
 have ho5:SlOwn kWorker 27 H none 0 ([]:List Worker) none:=SlOwn.nil
 refine Kp [3,6,7,8] [(3,.slice none 0 0),(6,.slice Aa0 a0.length ca0),(7,iv (a0.length:Int)),(8,iv 0)] ?_
 exact ((smithyardref9_CopyWorkers.l2_c (e1:=smithyardref9_CopyWorkers.e1) (smithyardref9_CopyWorkers.e1_c)) big) _ a0 _ _ ([]:List Worker) _ _ _ _ 0 hra0 hca0 ho5 rfl heq
noncomputable def C21:Ctx:={ P:=Tryd.prog,f:=21,N:=8,c:=bodyOf Tryd.f21 }
def S21 (F:List Ch) (H0:Hp) (r:List ByteArray) (v:Value) (H:Hp) (cs:List Ch):Prop:=∃ (A0:Option Addr) (c0:Nat) (ch0:Ch),H0=H∧v=.slice A0 r.length c0∧ch0::F=cs∧SlOwn Kd.string 9 H A0 c0 r ch0
theorem slices_Clone_string_c {w0:World} {H:Hp} {F:List Ch} {a0:List ByteArray} {Aa0:Option Addr} {na0 ca0:Nat} {r:List ByteArray} (hra0:Rw Kd.string H F Aa0 a0) (hca0:na0≤ca0) (hna0:na0=a0.length) (heq:slices_Clone_string.f a0=some r):CallsH Tryd.prog 21 #[.slice Aa0 na0 ca0] H w0 F (S21 F H r):=by
 refine calls_of_runH (F:=C21) Tryd.func21 (by kernel_rfl) Tryd.ntmps21 (args:=[.slice Aa0 na0 ca0]) (by kernel_rfl) ?_
 subst hna0
 unfold slices_Clone_string.f at heq
 obtain ⟨hn,heq⟩:=guard?_some heq
 obtain rfl:=Option.some.inj heq
 refine Ra 1 [0] [.c [1]]<|Rd 1 [0] [(0,.slice Aa0 a0.length ca0)]<|Ra 2 [1,0,0] [.c [1,0,1],.c [1,1]] ?_
 cases Aa0 with
 | none =>
  have h0:a0=[]:=by
   cases a0 with
   | nil=>rfl
   | cons x xs=>obtain ⟨b,off,cs,e,fr,hA,_⟩:=hra0 (by simp); cases hA
  subst h0
  refine Rd 2 [4] [(4,.bool true)]<|Ct true rfl<|Ra 1 [1,0,1,0,0] [.c [1,0,1,0,1],.c [1,1]]<|Rd 1 [2] [(2,.slice none 0 0)]<|RunH.nilc ?_
  exact RunH.done (by kernel_rfl) Tryd.func21 (v:=.slice none ([]:List ByteArray).length 0) (by kernel_rfl) ⟨none,0,none,rfl,rfl,rfl,SlOwn.nil⟩
 | some ad =>
  refine Rd 2 [0,4] [(0,.slice (some ad) a0.length ca0),(4,.bool false)]<|Cf false rfl<|Ra 2 [1,1,0] [.c [1,1,1]] ?_
  refine RgH.does (DoesH.new (d:=5) (v:=fun g=>.slice (some ⟨g,0,none⟩) 0 0) (o:=fun g=>.cells #[] 9 (0,0)) (fun g=>by kernel_rfl)) ?_
  rintro _ _ _ _ ⟨g,rfl,rfl,rfl⟩
  have ho:SlOwn Kd.string 9 H (some ⟨g,0,none⟩) 0 ([]:List ByteArray) (some (g,.cells #[] 9 (0,0))):=.inr ⟨g,0,#[],rfl,rfl,by simp,by simp [maxLen],by simp,Kd.Rep.nil⟩
  refine Rk 2 [5,6] [(5,.slice (some ⟨g,0,none⟩) 0 0),(6,.slice (some ad) a0.length ca0)] ?_
  refine RgH.does (DoesH.append (d:=7) (k:=0) (t:=28) (e:=9) (bytes:=16) (kd:=Kd.string) (n:=0) (m:=a0.length) (xs:=([]:List ByteArray)) (ys:=a0) (A:=some ⟨g,0,none⟩) (B:=some ad) (c:=0) (cB:=ca0) (by kernel_rfl) rfl rfl (by kernel_rfl) rfl ho (fun w hh=>hra0.rdb (hh.drop 1)) (room_le hn) (by have:=room_le hn; omega)) ?_
  rintro _ _ _ _ ⟨A1,c1,ch1,rfl,rfl,rfl,ho1⟩
  refine Rd 4 [2] [(2,.slice A1 (([]:List ByteArray)++a0).length c1)] ?_
  exact RunH.done (by kernel_rfl) Tryd.func21 (v:=.slice A1 (([]:List ByteArray)++a0).length c1) (by kernel_rfl) ⟨A1,c1,ch1,rfl,rfl,rfl,ho1⟩
noncomputable def C7:Ctx:={ P:=Tryd.prog,f:=7,N:=12,c:=bodyOf Tryd.f7 }
def S7 (F:List Ch) (H0:Hp) (r:Work) (v:Value) (H:Hp) (cs:List Ch):Prop:=∃ (A0_1:Option Addr) (c0_1:Nat) (ch0_1:Ch) (A0_3:Option Addr) (c0_3:Nat) (ch0_3:Ch),H0=H∧v=.agg #[.string r.Id,.slice A0_1 r.Needs.length c0_1,iv r.Size,.slice A0_3 r.After.length c0_3]∧ch0_1::ch0_3::F=cs∧SlOwn kPair 48 H A0_1 c0_1 r.Needs ch0_1∧SlOwn Kd.string 9 H A0_3 c0_3 r.After ch0_3
theorem smithyardref9_CopyWork_c {w0:World} {H:Hp} {F:List Ch} {a0:Work} {Aa0_1:Option Addr} {na0_1:Nat} {ca0_1:Nat} {Aa0_3:Option Addr} {na0_3:Nat} {ca0_3:Nat} {r:Work} (hra0_1:Rw kPair H F Aa0_1 a0.Needs) (hca0_1:na0_1≤ca0_1) (hna0_1:na0_1=a0.Needs.length) (hra0_3:Rw Kd.string H F Aa0_3 a0.After) (hca0_3:na0_3≤ca0_3) (hna0_3:na0_3=a0.After.length) (heq:smithyardref9_CopyWork.f a0=some r):CallsH Tryd.prog 7 #[.agg #[.string a0.Id,.slice Aa0_1 na0_1 ca0_1,iv a0.Size,.slice Aa0_3 na0_3 ca0_3]] H w0 (F) (S7 F H r):=by
 refine calls_of_runH (F:=C7) Tryd.func7 (by kernel_rfl) Tryd.ntmps7 (args:=[.agg #[.string a0.Id,.slice Aa0_1 na0_1 ca0_1,iv a0.Size,.slice Aa0_3 na0_3 ca0_3]]) (by kernel_rfl) ?_
 subst hna0_1
 subst hna0_3
 unfold smithyardref9_CopyWork.f at heq
 refine Ra 1 [0] [.c [1]] ?_
 refine RgH.does (DoesH.new (d:=1) (v:=fun g=>.pointer (some ⟨g,0,none⟩)) (o:=fun g=>.cells #[.string a0.Id,.slice Aa0_1 a0.Needs.length ca0_1,iv a0.Size,.slice Aa0_3 a0.After.length ca0_3] 30 (0,0)) (fun g=>by kernel_rfl)) ?_
 rintro _ _ _ _ ⟨g1,rfl,rfl,rfl⟩
 refine RgH.does (DoesH.new (d:=2) (v:=fun g=>.pointer (some ⟨g,0,none⟩)) (o:=fun g=>.cells #[.string ByteArray.empty,.slice none 0 0,iv 0,.slice none 0 0] 30 (0,0)) (fun g=>by kernel_rfl)) ?_
 rintro _ _ _ _ ⟨g2,rfl,rfl,rfl⟩
 refine Dn<|Ad 1 [.c [1,0],.c [1,1]]<|Kp [1,2] [(1,pg g1 0),(2,pg g2 0)] ?_
 refine RunH.draw (fun w=>Heap H w0 w ((some (g2,.cells #[.string ByteArray.empty,.slice none 0 0,iv 0,.slice none 0 0] 30 (0,0)))::(some (g1,.cells #[.string a0.Id,.slice Aa0_1 a0.Needs.length ca0_1,iv a0.Size,.slice Aa0_3 a0.After.length ca0_3] 30 (0,0)))::F)) (fun w=>Heap H w0 w ((some (g2,.cells #[.string ByteArray.empty,.slice none 0 0,iv 0,.slice none 0 0] 30 (0,0)))::F)) [3,3,0,3,3,0,3,1,3,2] (n:=10) (ls:=[false,false,false,false,false,false,false,false,false,false]) (by kernel_rfl) (by kernel_rfl) (by kernel_rfl) rfl ?_
 refine Dk [0,1,3,4] 6 (nb 10 27) [.slice Aa0_1 a0.Needs.length ca0_1,.slice Aa0_3 a0.After.length ca0_3] [.load ⟨g1,1,none⟩ (.slice Aa0_1 a0.Needs.length ca0_1),.load ⟨g1,3,none⟩ (.slice Aa0_3 a0.After.length ca0_3)] [1,2,4,7] [(1,pg g1 0),(2,pg g2 0),(4,.slice Aa0_1 a0.Needs.length ca0_1),(7,.slice Aa0_3 a0.After.length ca0_3)] (Pk 2 [0,1]) (Pk 2 [0]) (fun w hh=>⟨(hh.box 1 rfl rfl),(hh.box 1 rfl rfl)⟩) ?_
 obtain ⟨y1,hy1,heq⟩:=bind_some heq
 refine DrH.does (n:=5) (ls':=[true,true,true,true,true,false,false,false,false,false]) 2 (by kernel_rfl) rfl (DoesH.call (d:=5) (g:=19) (args:=#[.slice Aa0_1 a0.Needs.length ca0_1]) (by kernel_rfl) (slices_Clone_Pair_c (a0:=a0.Needs) (hra0_1.wk (fun _ h=>(.tail _ (.tail _ h)))) hca0_1 rfl hy1)) ?_
 rintro _ _ _ _ ⟨_,rfl,A1,c1,ch1,rfl,rfl,rfl,ho1⟩
 refine ⟨fun _ w hh=>⟨fun _=>(Pk 3 [1,2]) w hh,fun _=>(Pk 3 [1]) w hh,(fun h=>by cases h)⟩,?_⟩
 refine Dk [6] 4 (nb 10 95) [] [] [1,2,5,7,9] [(1,pg g1 0),(2,pg g2 0),(5,.slice A1 y1.length c1),(7,.slice Aa0_3 a0.After.length ca0_3),(9,pg g1 1)] (Pk 3 [1,2]) (Pk 2 [0]) (fun _ _=>trivial) ?_
 obtain ⟨y2,hy2,heq⟩:=bind_some heq
 refine DrH.does (n:=3) (ls':=[true,true,true,true,true,true,true,false,false,false]) 5 (by kernel_rfl) rfl (DoesH.call (d:=8) (g:=21) (args:=#[.slice Aa0_3 a0.After.length ca0_3]) (by kernel_rfl) (slices_Clone_string_c (a0:=a0.After) (hra0_3.wk (fun _ h=>(.tail _ (.tail _ (.tail _ h))))) hca0_3 rfl hy2)) ?_
 rintro _ _ _ _ ⟨_,rfl,A2,c2,ch2,rfl,rfl,rfl,ho2⟩
 refine ⟨fun _ w hh=>⟨fun _=>(Pk 4 [2,3]) w hh,fun _=>(Pk 4 [2]) w hh,(fun h=>by cases h)⟩,?_⟩
 refine Kr [1,2,5,8,9] [(1,pg g1 0),(2,pg g2 0),(5,.slice A1 y1.length c1),(8,.slice A2 y2.length c2),(9,pg g1 1)] ?_
 refine DrH.does (n:=2) (ls':=[true,true,true,true,true,true,true,true,false,false]) 7 (by kernel_rfl) rfl (DoesH.store (k:=3) (g:=g1) (off:=1) (v:=.slice A1 y1.length c1) (cells':=#[.string a0.Id,.slice A1 y1.length c1,iv a0.Size,.slice Aa0_3 a0.After.length ca0_3]) (by kernel_rfl) rfl (by kernel_rfl) (by kernel_rfl)) ?_
 rintro _ _ _ _ ⟨rfl,rfl,rfl⟩
 refine ⟨fun _ w hh=>⟨(fun h=>by cases h),fun _=>(Pk 4 [2]) w hh,(fun h=>by cases h)⟩,?_⟩
 refine De [8] 1 (nb 10 511) [] [] [1,2,8,10] [(1,pg g1 0),(2,pg g2 0),(8,.slice A2 y2.length c2),(10,pg g1 3)] (Pk 4 [2]) (fun _ _=>trivial) ?_
 refine DrH.does (n:=0) (ls':=[true,true,true,true,true,true,true,true,true,true]) 9 (by kernel_rfl) rfl (DoesH.store (k:=3) (g:=g1) (off:=3) (v:=.slice A2 y2.length c2) (cells':=#[.string a0.Id,.slice A1 y1.length c1,iv a0.Size,.slice A2 y2.length c2]) (by kernel_rfl) rfl (by kernel_rfl) (by kernel_rfl)) ?_
 rintro _ _ _ _ ⟨rfl,rfl,rfl⟩
 refine ⟨fun _ w hh=>⟨(fun h=>by cases h),(fun h=>absurd h (by decide)),(fun h=>by cases h)⟩,?_⟩
 refine Kr [1,2] [(1,pg g1 0),(2,pg g2 0)] ?_
 refine DrH.done (by kernel_rfl) ?_
 refine Ra 1 [1,1,0] [.c [1,1,1]]<|Rv 1 [2,11] [.string a0.Id,.slice A1 y1.length c1,iv a0.Size,.slice A2 y2.length c2] [.load ⟨g1,0,none⟩ (.string a0.Id),.load ⟨g1,1,none⟩ (.slice A1 y1.length c1),.load ⟨g1,2,none⟩ (iv a0.Size),.load ⟨g1,3,none⟩ (.slice A2 y2.length c2)] [(2,pg g2 0),(11,.agg #[.string a0.Id,.slice A1 y1.length c1,iv a0.Size,.slice A2 y2.length c2])] (fun w hh=>⟨(hh.box 3 rfl rfl),(hh.box 3 rfl rfl),(hh.box 3 rfl rfl),(hh.box 3 rfl rfl)⟩) ?_
 refine RgH.does (DoesH.store (k:=2) (g:=g2) (off:=0) (v:=.agg #[.string a0.Id,.slice A1 y1.length c1,iv a0.Size,.slice A2 y2.length c2]) (cells':=#[.string a0.Id,.slice A1 y1.length c1,iv a0.Size,.slice A2 y2.length c2]) (by kernel_rfl) rfl (by kernel_rfl) (by kernel_rfl)) ?_
 rintro _ _ _ _ ⟨rfl,rfl,rfl⟩
 refine Dn ?_
 obtain rfl:=Option.some.inj heq
 refine RunH.pick 4 [2,1,0] (cs':=(some (g2,.cells #[.string a0.Id,.slice A1 y1.length c1,iv a0.Size,.slice A2 y2.length c2] 30 (0,0)))::ch1::ch2::F) (by kernel_rfl) rfl ?_
 exact RunH.doneM' 1 (vs:=[.agg #[.string a0.Id,.slice A1 y1.length c1,iv a0.Size,.slice A2 y2.length c2]]) (v:=.agg #[.string a0.Id,.slice A1 y1.length c1,iv a0.Size,.slice A2 y2.length c2]) (by kernel_rfl) Tryd.func7 (fun w hh=>show ResAll _ _ _ [.cell 2 30] _ from ⟨⟨⟨g2,0,none⟩,by kernel_rfl,trS_run _ (vs:=[.string a0.Id,.slice A1 y1.length c1,iv a0.Size,.slice A2 y2.length c2]) (r:=[]) (es:=[.load ⟨g2,0,none⟩ (.string a0.Id),.load ⟨g2,1,none⟩ (.slice A1 y1.length c1),.load ⟨g2,2,none⟩ (iv a0.Size),.load ⟨g2,3,none⟩ (.slice A2 y2.length c2)]) (by kernel_rfl) ⟨(hh.box 0 rfl rfl),(hh.box 0 rfl rfl),(hh.box 0 rfl rfl),(hh.box 0 rfl rfl)⟩⟩,trivial⟩) rfl (cs':=ch1::ch2::F) rfl ⟨A1,c1,ch1,A2,c2,ch2,rfl,rfl,rfl,ho1,ho2⟩
noncomputable def C5:Ctx:={ P:=Tryd.prog,f:=5,N:=19,c:=bodyOf Tryd.f5 }
def S5 (F:List Ch) (H0:Hp) (r:(List Work)) (v:Value) (H:Hp) (cs:List Ch):Prop:=∃ (A0:Option Addr) (c0:Nat) (ch0:Ch),v=.slice A0 r.length c0∧ch0::F=cs∧SlOwn kWork 30 H A0 c0 r ch0
theorem smithyardref9_CopyWorks.e1_c {w0:World} {H0:Hp} {F:List Ch} {r:(List Work)}:∀ (H:Hp) (v_out3:List Work) (Av_out3:Option Addr) (nv_out3:Nat) (cv_out3:Nat) (chv_out3:Ch) ,SlOwn kWork 30 H Av_out3 cv_out3 v_out3 chv_out3→nv_out3=v_out3.length→smithyardref9_CopyWorks.e1 v_out3=some r→RunH C5 (S5 F H0 r) H0 w0 [.c [1,1,1,0],.c [1,1,1,1]] [(3,.slice Av_out3 nv_out3 cv_out3)] H (chv_out3::F):=by
 intro H v_out3 Av_out3 nv_out3 cv_out3 chv_out3 hov_out3 hnv_out3 heq
 subst hnv_out3
 unfold smithyardref9_CopyWorks.e1 at heq
 refine Rr<|Rd 2 [2] [(2,.slice Av_out3 v_out3.length cv_out3)] ?_
 obtain rfl:=Option.some.inj heq
 exact RunH.done (by kernel_rfl) Tryd.func5 (v:=.slice Av_out3 v_out3.length cv_out3) (by kernel_rfl) ⟨Av_out3,cv_out3,chv_out3,rfl,rfl,hov_out3⟩
theorem smithyardref9_CopyWorks.l2_c {w0:World} {H0:Hp} {F:List Ch} {r:(List Work)} (e1:(List Work)→Option (List Work))
  (he1:∀ (H:Hp) (v_out3:List Work) (Av_out3:Option Addr) (nv_out3:Nat) (cv_out3:Nat) (chv_out3:Ch) ,SlOwn kWork 30 H Av_out3 cv_out3 v_out3 chv_out3→nv_out3=v_out3.length→e1 v_out3=some r→RunH C5 (S5 F H0 r) H0 w0 [.c [1,1,1,0],.c [1,1,1,1]] [(3,.slice Av_out3 nv_out3 cv_out3)] H (chv_out3::F)):∀ (k:Nat),∀ (H:Hp) (a0:List Work) (Aa0:Option Addr) (ca0:Nat) (v_out3:List Work) (Av_out3:Option Addr) (nv_out3:Nat) (cv_out3:Nat) (chv_out3:Ch) (v8:Int) ,Rw kWork H F Aa0 a0→a0.length≤ca0→SlOwn kWork 30 H Av_out3 cv_out3 v_out3 chv_out3→nv_out3=v_out3.length→smithyardref9_CopyWorks.l2 e1 k a0 v_out3 v8=some r→RunH C5 (S5 F H0 r) H0 w0 [.c [1,1,0,1,0,0],.l [1,1,0,1,0,0],.b 0,.c [1,1,1]] [(3,.slice Av_out3 nv_out3 cv_out3),(6,.slice Aa0 a0.length ca0),(7,iv (a0.length:Int)),(8,iv v8)] H (chv_out3::F):=by
 intro k
 induction k with
 | zero=>intro H a0 Aa0 ca0 v_out3 Av_out3 nv_out3 cv_out3 chv_out3 v8 hra0 hca0 hov_out3 hnv_out3 heq; exact nomatch (show (none:Option (List Work))=some r from heq)
 | succ k ihk =>
  intro H a0 Aa0 ca0 v_out3 Av_out3 nv_out3 cv_out3 chv_out3 v8 hra0 hca0 hov_out3 hnv_out3 heq
  subst hnv_out3
  rw [smithyardref9_CopyWorks.l2] at heq
  refine Ra 1 [1,1,0,1,0,0,0] [.c [1,1,0,1,0,0,1],.l [1,1,0,1,0,0],.b 0,.c [1,1,1]]<|Rd 1 [3,6,7,8,9] [(3,.slice Av_out3 v_out3.length cv_out3),(6,.slice Aa0 a0.length ca0),(7,iv (a0.length:Int)),(8,iv v8),(9,.bool (decide (v8<(a0.length:Int))))]<|Ad 1 [.c [1,1,0,1,0,0,1,0],.c [1,1,0,1,0,0,1,1],.l [1,1,0,1,0,0],.b 0,.c [1,1,1]] ?_
  rcases bool_cases (decide (v8<(a0.length:Int))) with hb1 | hb1
  ·replace heq:=bif_true hb1 heq
   refine Ct (decide (v8<(a0.length:Int))) hb1<|Ra 4 [1,1,0,1,0,0,1,1,0,0,0] [.c [1,1,0,1,0,0,1,1,0,0,1],.b 1,.c [1,1,0,1,0,0,1,1,1],.l [1,1,0,1,0,0],.b 0,.c [1,1,1]] ?_
   obtain ⟨x1,hx1,heq⟩:=bind_some heq
   obtain ⟨ha1,cs1,hK1,hcc1⟩:=hra0.get hx1
   obtain ⟨A1,c1,A2,c2,rfl,hc1,hr1,hc2,hr2⟩:=kWork_open hK1
   refine Rv 2 [3,6,7,8,11] [.string x1.Id,.slice A1 x1.Needs.length c1,iv x1.Size,.slice A2 x1.After.length c2] [.need (Aa0=some (adr Aa0)∧(0:Int)≤v8∧v8<((a0.length:Nat):Int)),.load (((adr Aa0).add (v8.toNat*4)).add 0) (.string x1.Id),.load (((adr Aa0).add (v8.toNat*4)).add 1) (.slice A1 x1.Needs.length c1),.load (((adr Aa0).add (v8.toNat*4)).add 2) (iv x1.Size),.load (((adr Aa0).add (v8.toNat*4)).add 3) (.slice A2 x1.After.length c2)] [(3,.slice Av_out3 v_out3.length cv_out3),(6,.slice Aa0 a0.length ca0),(7,iv (a0.length:Int)),(8,iv v8),(11,.agg #[.string x1.Id,.slice A1 x1.Needs.length c1,iv x1.Size,.slice A2 x1.After.length c2])] (fun w hh=>⟨⟨ha1,(at?_some hx1).1,(at?_some hx1).2.1⟩,(hcc1 _ _ (hh.drop 1) 0 _ rfl),(hcc1 _ _ (hh.drop 1) 1 _ rfl),(hcc1 _ _ (hh.drop 1) 2 _ rfl),(hcc1 _ _ (hh.drop 1) 3 _ rfl)⟩) ?_
   refine RgH.does (DoesH.new (d:=5) (v:=fun g=>.pointer (some ⟨g,0,none⟩)) (o:=fun g=>.cells #[.string ByteArray.empty,.slice none 0 0,iv 0,.slice none 0 0] 30 (0,0)) (fun g=>by kernel_rfl)) ?_
   rintro _ _ _ _ ⟨g1,rfl,rfl,rfl⟩
   refine RgH.does (DoesH.store (k:=0) (g:=g1) (off:=0) (v:=.agg #[.string x1.Id,.slice A1 x1.Needs.length c1,iv x1.Size,.slice A2 x1.After.length c2]) (cells':=#[.string x1.Id,.slice A1 x1.Needs.length c1,iv x1.Size,.slice A2 x1.After.length c2]) (by kernel_rfl) rfl (by kernel_rfl) (by kernel_rfl)) ?_
   rintro _ _ _ _ ⟨rfl,rfl,rfl⟩
   refine Dn<|Rr<|Rv 2 [6,7,8,12,13] [.string x1.Id,.slice A1 x1.Needs.length c1,iv x1.Size,.slice A2 x1.After.length c2] [.load ⟨g1,0,none⟩ (.string x1.Id),.load ⟨g1,1,none⟩ (.slice A1 x1.Needs.length c1),.load ⟨g1,2,none⟩ (iv x1.Size),.load ⟨g1,3,none⟩ (.slice A2 x1.After.length c2)] [(6,.slice Aa0 a0.length ca0),(7,iv (a0.length:Int)),(8,iv v8),(12,.slice Av_out3 v_out3.length cv_out3),(13,.agg #[.string x1.Id,.slice A1 x1.Needs.length c1,iv x1.Size,.slice A2 x1.After.length c2])] (fun w hh=>⟨(hh.box 0 rfl rfl),(hh.box 0 rfl rfl),(hh.box 0 rfl rfl),(hh.box 0 rfl rfl)⟩) ?_
   obtain ⟨y1,hy1,heq⟩:=bind_some heq
   refine RgH.does (DoesH.call (d:=14) (g:=7) (args:=#[.agg #[.string x1.Id,.slice A1 x1.Needs.length c1,iv x1.Size,.slice A2 x1.After.length c2]]) (by kernel_rfl) (smithyardref9_CopyWork_c (a0:=x1) (Rw.of hr1) hc1 rfl (Rw.of hr2) hc2 rfl hy1)) ?_
   rintro _ _ _ _ ⟨_,rfl,A3,c3,ch1,A4,c4,ch2,rfl,rfl,rfl,ho1,ho2⟩
   have hc3:=ho1.cap
   refine Hs.freezeS ho1 (fun H hl hr3=>?_)
   replace hra0:=hra0.mono hl
   replace hov_out3:=hov_out3.mono hl
   replace hr1:=hr1.mono hl
   replace hr2:=hr2.mono hl
   replace ho2:=ho2.mono hl
   have hc4:=ho2.cap
   refine Hs.freezeS ho2 (fun H hl hr4=>?_)
   replace hra0:=hra0.mono hl
   replace hov_out3:=hov_out3.mono hl
   replace hr1:=hr1.mono hl
   replace hr2:=hr2.mono hl
   replace hr3:=hr3.mono hl
   refine RgH.does (DoesH.new (d:=15) (v:=fun g=>.slice (some ⟨g,0,none⟩) 1 1) (o:=fun g=>.cells #[.string y1.Id,.slice A3 y1.Needs.length c3,iv y1.Size,.slice A4 y1.After.length c4] 30 (0,0)) (fun g=>by kernel_rfl)) ?_
   rintro _ _ _ _ ⟨g2,rfl,rfl,rfl⟩
   have ho3:SlOwn kWork 30 H (some ⟨g2,0,none⟩) 1 ([y1]:List Work) (some (g2,.cells #[.string y1.Id,.slice A3 y1.Needs.length c3,iv y1.Size,.slice A4 y1.After.length c4] 30 (0,0))):=SlOwn.lit (xs:=([y1]:List Work)) (by kernel_rfl) (Nat.le_of_ble_eq_true (by kernel_rfl)) (Kd.Rep.one (kWork_mk hc3 hr3 hc4 hr4))
   obtain ⟨hn1,heq⟩:=guard?_some heq
   refine RgH.does (DoesH.append (d:=16) (k:=2) (t:=23) (e:=30) (bytes:=72) (kd:=kWork) (n:=v_out3.length) (m:=1) (xs:=v_out3) (ys:=([y1]:List Work)) (A:=Av_out3) (B:=(some ⟨g2,0,none⟩)) (c:=cv_out3) (cB:=1) (by kernel_rfl) rfl rfl (by kernel_rfl) rfl hov_out3 (fun w hh=>ho3.rdb (hh.chin 0 rfl)) (room_le hn1) (by have:=room_le hn1; omega)) ?_
   rintro _ _ _ _ ⟨A5,c5,ch3,rfl,rfl,rfl,ho4⟩
   refine Rd 6 [3,6,7,8] [(3,.slice A5 ((v_out3++([y1]:List Work)).length) c5),(6,.slice Aa0 a0.length ca0),(7,iv (a0.length:Int)),(8,iv v8)]<|Ra 1 [1,1,0,1,0,0,1,1,1] [.l [1,1,0,1,0,0],.b 0,.c [1,1,1]]<|Rd 2 [3,6,7,8] [(3,.slice A5 ((v_out3++([y1]:List Work)).length) c5),(6,.slice Aa0 a0.length ca0),(7,iv (a0.length:Int)),(8,iv (w64 (v8+1)))]<|Ad 1 [.c [1,1,0,1,0,0],.l [1,1,0,1,0,0],.b 0,.c [1,1,1]]<|Kp [3,6,7,8] [(3,.slice A5 ((v_out3++([y1]:List Work)).length) c5),(6,.slice Aa0 a0.length ca0),(7,iv (a0.length:Int)),(8,iv (w64 (v8+1)))] ?_
   refine RunH.pick 3 [2] (cs':=ch3::F) (by kernel_rfl) rfl ?_
   exact ihk _ a0 _ _ (v_out3++([y1]:List Work)) _ _ _ _ (w64 (v8+1)) hra0 hca0 ho4 rfl heq
  ·replace heq:=bif_false hb1 heq
   refine Cf (decide (v8<(a0.length:Int))) hb1<|Ad 2 [.c [1,1,1,0],.c [1,1,1,1]]<|Kp [3] [(3,.slice Av_out3 v_out3.length cv_out3)] ?_
   exact he1 _ v_out3 _ _ _ _ hov_out3 rfl heq
theorem smithyardref9_CopyWorks_c {w0:World} {H0:Hp} {F:List Ch} {a0:List Work} {Aa0:Option Addr} {na0:Nat} {ca0:Nat} {r:(List Work)} (hra0:Rw kWork H0 F Aa0 a0) (hca0:na0≤ca0) (hna0:na0=a0.length) (heq:smithyardref9_CopyWorks.f a0=some r):CallsH Tryd.prog 5 #[.slice Aa0 na0 ca0] H0 w0 (F) (S5 F H0 r):=by
 refine calls_of_runH (F:=C5) Tryd.func5 (by kernel_rfl) Tryd.ntmps5 (args:=[.slice Aa0 na0 ca0]) (by kernel_rfl) ?_
 subst hna0
 unfold smithyardref9_CopyWorks.f at heq
 suffices key:∀ (H:Hp),Rw kWork H F Aa0 a0→RunH C5 (S5 F H0 r) H0 w0 [.c []] (argL 0 [.slice Aa0 (a0.length) ca0]) H (F) from key H0 hra0
 intro H hra0
 refine Ra 1 [0] [.c [1]]<|Rd 1 [0] [(0,.slice Aa0 a0.length ca0)]<|Ra 1 [1,0] [.c [1,1]]<|Rd 1 [0,3] [(0,.slice Aa0 a0.length ca0),(3,.slice none 0 0)]<|Ra 2 [1,1,0,0] [.c [1,1,0,1],.c [1,1,1]]<|Rd 3 [3,6,7,8] [(3,.slice none 0 0),(6,.slice Aa0 a0.length ca0),(7,iv (a0.length:Int)),(8,iv 0)]<|Ad 2 [.c [1,1,0,1,0,0],.l [1,1,0,1,0,0],.b 0,.c [1,1,1]]<|RunH.nilc ?_
 have ho5:SlOwn kWork 30 H none 0 ([]:List Work) none:=SlOwn.nil
 refine Kp [3,6,7,8] [(3,.slice none 0 0),(6,.slice Aa0 a0.length ca0),(7,iv (a0.length:Int)),(8,iv 0)] ?_
 exact ((smithyardref9_CopyWorks.l2_c (e1:=smithyardref9_CopyWorks.e1) (smithyardref9_CopyWorks.e1_c)) big) _ a0 _ _ ([]:List Work) _ _ _ _ 0 hra0 hca0 ho5 rfl heq
def S53 (F:List Ch) (H0:Hp) (r:ByteArray) (v:Value) (H:Hp) (cs:List Ch):Prop:=H0=H∧v=.string r∧F=cs
theorem strings_Trim_c {w0:World} {H:Hp} {F:List Ch} {a0:ByteArray} {a1:ByteArray} {r:ByteArray} (heq:strings_Trim.f a0 a1=some r):CallsH Tryd.prog 53 #[.string a0,.string a1] H w0 F (S53 F H r):=by
 intro w hh
 unfold strings_Trim.f at heq
 obtain ⟨hn,heq⟩:=guard?_some heq
 obtain rfl:=Option.some.inj heq
 refine (Shelf.Tryd.strings_Trim a0 a1 w (by simp at hn; exact hn.1) (by simp at hn; exact hn.2.1) (by have h:=hn; rw [Bool.and_eq_true,Bool.and_eq_true] at h; exact ascii_of_all h.2.2)).mono ?_
 rintro e w' ⟨rfl,hx⟩
 exact ⟨_,rfl,H,F,Le.refl H,hh.later hx,rfl,rfl,rfl⟩
noncomputable def C36:Ctx:={ P:=Tryd.prog,f:=36,N:=24,c:=bodyOf Tryd.f36 }
def S36 (F:List Ch) (H0:Hp) (r:Bool) (v:Value) (H:Hp) (cs:List Ch):Prop:=H0=H∧v=.bool r∧F=cs
theorem config_IsWord_c {w0:World} {H:Hp} {F:List Ch} {a0:ByteArray} {r:Bool} (heq:config_IsWord.f a0=some r):CallsH Tryd.prog 36 #[.string a0] H w0 (F) (S36 F H r):=by
 refine calls_of_runH (F:=C36) Tryd.func36 (by kernel_rfl) Tryd.ntmps36 (args:=[.string a0]) (by kernel_rfl) ?_
 unfold config_IsWord.f at heq
 refine Ra 1 [0] [.c [1]]<|Rd 1 [0] [(0,.string a0)]<|Ad 2 [.c [1,0,0],.c [1,0,1],.c [1,1]] ?_
 obtain ⟨t1,ht1,heq⟩:=bind_some heq
 have K1:RunH C36 (S36 F H r) H w0 [.c [1,0,1],.c [1,1]] [(0,.string a0),(20,.bool t1)] H (F):=by
  rcases bool_cases (t1) with hb4 | hb4
  ·replace heq:=bif_true hb4 heq
   refine Ct t1 hb4<|Ra 1 [1,0,1,0,0] [.c [1,0,1,0,1],.c [1,1]]<|Rd 1 [2] [(2,.bool false)] ?_
   obtain rfl:=Option.some.inj heq
   exact RunH.done (by kernel_rfl) Tryd.func36 (v:=.bool false) (by kernel_rfl) ⟨rfl,rfl,rfl⟩
  ·replace heq:=bif_false hb4 heq
   refine Cf t1 hb4<|Ra 2 [1,1,0] [.c [1,1,1]]<|Rk 1 [21] [(21,.string a0)] ?_
   obtain ⟨y1,hy1,heq⟩:=bind_some heq
   refine RgH.does (DoesH.call (d:=22) (g:=53) (args:=#[.string a0,.string ({ data:=#[97,98,99,100,101,102,103,104,105,106,107,108,109,110,111,112,113,114,115,116,117,118,119,120,121,122,48,49,50,51,52,53,54,55,56,57,95,45] }:ByteArray)]) (by kernel_rfl) (strings_Trim_c (a0:=a0) (a1:=({ data:=#[97,98,99,100,101,102,103,104,105,106,107,108,109,110,111,112,113,114,115,116,117,118,119,120,121,122,48,49,50,51,52,53,54,55,56,57,95,45] }:ByteArray))  hy1)) ?_
   rintro _ _ _ _ ⟨_,rfl,rfl,rfl,rfl⟩
   refine Rd 4 [2] [(2,.bool (sEq y1 ({ data:=#[] }:ByteArray)))] ?_
   obtain rfl:=Option.some.inj heq
   exact RunH.done (by kernel_rfl) Tryd.func36 (v:=.bool (sEq y1 ({ data:=#[] }:ByteArray))) (by kernel_rfl) ⟨rfl,rfl,rfl⟩
 replace heq:=ht1
 refine Rr<|Rk 4 [6,0] [(6,.bool (decide ((a0.size:Int)<1))),(0,.string a0)] ?_
 rcases bool_cases (decide ((a0.size:Int)<1)) with hb1 | hb1
 ·replace heq:=bif_true hb1 heq
  refine RgH.val1 (v':=.bool true) (congrArg Value.bool hb1) ?_
  refine Rk 18 [0,20] [(0,.string a0),(20,.bool true)] ?_
  obtain rfl:=Option.some.inj heq
  refine Kg [0,20] [(0,.string a0),(20,.bool true)]<|Dn ?_
  exact K1
 ·replace heq:=bif_false hb1 heq
  refine RgH.val1 (v':=.bool false) (congrArg Value.bool hb1) ?_
  refine Rk 9 [11,0] [(11,.bool (decide (40<(a0.size:Int)))),(0,.string a0)] ?_
  rcases bool_cases (decide (40<(a0.size:Int))) with hb2 | hb2
  ·replace heq:=bif_true hb2 heq
   refine RgH.val1 (v':=.bool true) (congrArg Value.bool hb2) ?_
   refine Rk 18 [0,20] [(0,.string a0),(20,.bool true)] ?_
   obtain rfl:=Option.some.inj heq
   refine Kg [0,20] [(0,.string a0),(20,.bool true)]<|Dn ?_
   exact K1
  ·replace heq:=bif_false hb2 heq
   refine RgH.val1 (v':=.bool false) (congrArg Value.bool hb2) ?_
   obtain ⟨hn1,heq⟩:=guard?_some heq
   refine Rv 14 [16,0] [] [.need ((0:Int)≤0∧0<(a0.size:Int))] [(16,.bool (decide ((bt a0 0)<97))),(0,.string a0)] (fun w hh=>(both_of hn1)) ?_
   rcases bool_cases (decide ((bt a0 0)<97)) with hb3 | hb3
   ·replace heq:=bif_true hb3 heq
    refine RgH.val1 (v':=.bool true) (congrArg Value.bool hb3) ?_
    refine Rk 18 [0,20] [(0,.string a0),(20,.bool true)] ?_
    obtain rfl:=Option.some.inj heq
    refine Kg [0,20] [(0,.string a0),(20,.bool true)]<|Dn ?_
    exact K1
   ·replace heq:=bif_false hb3 heq
    refine RgH.val1 (v':=.bool false) (congrArg Value.bool hb3) ?_
    obtain ⟨hn2,heq⟩:=guard?_some heq
    refine Rv 18 [0,20] [] [.need ((0:Int)≤0∧0<(a0.size:Int))] [(0,.string a0),(20,.bool (decide (122<(bt a0 0))))] (fun w hh=>(both_of hn2)) ?_
    obtain rfl:=Option.some.inj heq
    refine Kg [0,20] [(0,.string a0),(20,.bool (decide (122<(bt a0 0))))]<|Dn ?_
    exact K1
noncomputable def C37:Ctx:={ P:=Tryd.prog,f:=37,N:=40,c:=bodyOf Tryd.f37 }
def S37 (F:List Ch) (H0:Hp) (r:Int) (v:Value) (H:Hp) (cs:List Ch):Prop:=H0=H∧v=iv r∧F=cs
theorem config_CheckPairs.e1_c {w0:World} {H:Hp} {F:List Ch} {r:Int}:config_CheckPairs.e1=some r→RunH C37 (S37 F H r) H w0 [.c [1,1,1,0],.c [1,1,1,1]] [] H (F):=by
 intro   heq
 unfold config_CheckPairs.e1 at heq
 refine Rr<|Rd 1 [2] [(2,iv 0)] ?_
 obtain rfl:=Option.some.inj heq
 exact RunH.done (by kernel_rfl) Tryd.func37 (v:=iv 0) (by kernel_rfl) ⟨rfl,rfl,rfl⟩
theorem config_CheckPairs.l2_c {w0:World} {H:Hp} {F:List Ch} {r:Int} (e1:Option Int)
  (he1:e1=some r→RunH C37 (S37 F H r) H w0 [.c [1,1,1,0],.c [1,1,1,1]] [] H (F)):∀ (k:Nat),∀ (a0:List Pair) (Aa0:Option Addr) (ca0:Nat) (v10:Int) ,Rw kPair H F Aa0 a0→a0.length≤ca0→config_CheckPairs.l2 e1 k a0 v10=some r→RunH C37 (S37 F H r) H w0 [.c [1,1,0,1,0,0],.l [1,1,0,1,0,0],.b 0,.c [1,1,1]] [(0,.slice Aa0 a0.length ca0),(8,.slice Aa0 a0.length ca0),(9,iv (a0.length:Int)),(10,iv v10)] H (F):=by
 intro k
 induction k with
 | zero=>intro a0 Aa0 ca0 v10 hra0 hca0 heq; exact nomatch (show (none:Option Int)=some r from heq)
 | succ k ihk =>
  intro a0 Aa0 ca0 v10 hra0 hca0 heq
  rw [config_CheckPairs.l2] at heq
  refine Ra 1 [1,1,0,1,0,0,0] [.c [1,1,0,1,0,0,1],.l [1,1,0,1,0,0],.b 0,.c [1,1,1]]<|Rd 1 [0,8,9,10,11] [(0,.slice Aa0 a0.length ca0),(8,.slice Aa0 a0.length ca0),(9,iv (a0.length:Int)),(10,iv v10),(11,.bool (decide (v10<(a0.length:Int))))]<|Ad 1 [.c [1,1,0,1,0,0,1,0],.c [1,1,0,1,0,0,1,1],.l [1,1,0,1,0,0],.b 0,.c [1,1,1]] ?_
  rcases bool_cases (decide (v10<(a0.length:Int))) with hb2 | hb2
  ·replace heq:=bif_true hb2 heq
   refine Ct (decide (v10<(a0.length:Int))) hb2<|Ra 4 [1,1,0,1,0,0,1,1,0,0,0] [.c [1,1,0,1,0,0,1,1,0,0,1],.b 1,.c [1,1,0,1,0,0,1,1,1],.l [1,1,0,1,0,0],.b 0,.c [1,1,1]] ?_
   obtain ⟨x1,hx1,heq⟩:=bind_some heq
   obtain ⟨ha1,cs1,hK1,hcc1⟩:=hra0.get hx1
   obtain ⟨rfl⟩:=kPair_open hK1
   refine Rv 3 [0,8,9,10,12,14] [.string x1.Name,.string x1.Value] [.need (Aa0=some (adr Aa0)∧(0:Int)≤v10∧v10<((a0.length:Nat):Int)),.load (((adr Aa0).add (v10.toNat*2)).add 0) (.string x1.Name),.load (((adr Aa0).add (v10.toNat*2)).add 1) (.string x1.Value)] [(0,.slice Aa0 a0.length ca0),(8,.slice Aa0 a0.length ca0),(9,iv (a0.length:Int)),(10,iv v10),(12,iv v10),(14,.agg #[.string x1.Name,.string x1.Value])] (fun w hh=>⟨⟨ha1,(at?_some hx1).1,(at?_some hx1).2.1⟩,(hcc1 _ _ (hh.drop 0) 0 _ rfl),(hcc1 _ _ (hh.drop 0) 1 _ rfl)⟩) ?_
   refine RgH.does (DoesH.new (d:=4) (v:=fun g=>.pointer (some ⟨g,0,none⟩)) (o:=fun g=>.cells #[.string ByteArray.empty,.string ByteArray.empty] 48 (0,0)) (fun g=>by kernel_rfl)) ?_
   rintro _ _ _ _ ⟨g1,rfl,rfl,rfl⟩
   refine Rk 5 [0,3,4,8,9,10,14] [(0,.slice Aa0 a0.length ca0),(3,iv v10),(4,pg g1 0),(8,.slice Aa0 a0.length ca0),(9,iv (a0.length:Int)),(10,iv v10),(14,.agg #[.string x1.Name,.string x1.Value])] ?_
   refine RgH.does (DoesH.store (k:=0) (g:=g1) (off:=0) (v:=.agg #[.string x1.Name,.string x1.Value]) (cells':=#[.string x1.Name,.string x1.Value]) (by kernel_rfl) rfl (by kernel_rfl) (by kernel_rfl)) ?_
   rintro _ _ _ _ ⟨rfl,rfl,rfl⟩
   refine Dn<|Ra 2 [1,1,0,1,0,0,1,1,0,0,1,0,0] [.c [1,1,0,1,0,0,1,1,0,0,1,0,1],.b 2,.b 1,.c [1,1,0,1,0,0,1,1,1],.l [1,1,0,1,0,0],.b 0,.c [1,1,1]]<|Rv 2 [0,3,4,8,9,10,17] [.string x1.Name] [.load ⟨g1,0,none⟩ (.string x1.Name)] [(0,.slice Aa0 a0.length ca0),(3,iv v10),(4,pg g1 0),(8,.slice Aa0 a0.length ca0),(9,iv (a0.length:Int)),(10,iv v10),(17,.string x1.Name)] (fun w hh=>(hh.box 0 rfl rfl)) ?_
   obtain ⟨y1,hy1,heq⟩:=bind_some heq
   refine RgH.does (DoesH.call (d:=18) (g:=36) (args:=#[.string x1.Name]) (by kernel_rfl) (config_IsWord_c (a0:=x1.Name)  hy1)) ?_
   rintro _ _ _ _ ⟨_,rfl,rfl,rfl,rfl⟩
   refine Rd 5 [0,3,4,8,9,10,15] [(0,.slice Aa0 a0.length ca0),(3,iv v10),(4,pg g1 0),(8,.slice Aa0 a0.length ca0),(9,iv (a0.length:Int)),(10,iv v10),(15,.bool (!y1))] ?_
   rcases bool_cases (!y1) with hb3 | hb3
   ·replace heq:=bif_true hb3 heq
    refine Ct (!y1) hb3<|Ra 1 [1,1,0,1,0,0,1,1,0,0,1,0,1,0,0] [.c [1,1,0,1,0,0,1,1,0,0,1,0,1,0,1],.b 2,.b 1,.c [1,1,0,1,0,0,1,1,1],.l [1,1,0,1,0,0],.b 0,.c [1,1,1]]<|Rd 1 [2] [(2,iv 5)] ?_
    obtain rfl:=Option.some.inj heq
    refine RunH.pick 1 [] (cs':=F) (by kernel_rfl) rfl ?_
    exact RunH.done (by kernel_rfl) Tryd.func37 (v:=iv 5) (by kernel_rfl) ⟨rfl,rfl,rfl⟩
   ·replace heq:=bif_false hb3 heq
    refine Cf (!y1) hb3<|Ra 1 [1,1,0,1,0,0,1,1,0,0,1,0,1,1,0] [.c [1,1,0,1,0,0,1,1,0,0,1,0,1,1,1],.b 2,.b 1,.c [1,1,0,1,0,0,1,1,1],.l [1,1,0,1,0,0],.b 0,.c [1,1,1]]<|Rv 2 [0,3,4,8,9,10,22] [.string x1.Value] [.load ⟨g1,1,none⟩ (.string x1.Value)] [(0,.slice Aa0 a0.length ca0),(3,iv v10),(4,pg g1 0),(8,.slice Aa0 a0.length ca0),(9,iv (a0.length:Int)),(10,iv v10),(22,.string x1.Value)] (fun w hh=>(hh.box 0 rfl rfl)) ?_
    obtain ⟨y2,hy2,heq⟩:=bind_some heq
    refine RgH.does (DoesH.call (d:=23) (g:=36) (args:=#[.string x1.Value]) (by kernel_rfl) (config_IsWord_c (a0:=x1.Value)  hy2)) ?_
    rintro _ _ _ _ ⟨_,rfl,rfl,rfl,rfl⟩
    refine Rd 5 [0,3,4,8,9,10,20] [(0,.slice Aa0 a0.length ca0),(3,iv v10),(4,pg g1 0),(8,.slice Aa0 a0.length ca0),(9,iv (a0.length:Int)),(10,iv v10),(20,.bool (!y2))] ?_
    rcases bool_cases (!y2) with hb4 | hb4
    ·replace heq:=bif_true hb4 heq
     refine Ct (!y2) hb4<|Ra 1 [1,1,0,1,0,0,1,1,0,0,1,0,1,1,1,0,0] [.c [1,1,0,1,0,0,1,1,0,0,1,0,1,1,1,0,1],.b 2,.b 1,.c [1,1,0,1,0,0,1,1,1],.l [1,1,0,1,0,0],.b 0,.c [1,1,1]]<|Rd 1 [2] [(2,iv 1)] ?_
     obtain rfl:=Option.some.inj heq
     refine RunH.pick 1 [] (cs':=F) (by kernel_rfl) rfl ?_
     exact RunH.done (by kernel_rfl) Tryd.func37 (v:=iv 1) (by kernel_rfl) ⟨rfl,rfl,rfl⟩
    ·replace heq:=bif_false hb4 heq
     refine Cf (!y2) hb4<|Ad 1 [.c [1,1,0,1,0,0,1,1,0,0,1,0,1,1,1,1,0],.c [1,1,0,1,0,0,1,1,0,0,1,0,1,1,1,1,1],.b 2,.b 1,.c [1,1,0,1,0,0,1,1,1],.l [1,1,0,1,0,0],.b 0,.c [1,1,1]] ?_
     obtain ⟨t1,ht1,heq⟩:=bind_some heq
     have K2:RunH C37 (S37 F H r) H w0 [.c [1,1,0,1,0,0,1,1,0,0,1,0,1,1,1,1,1],.b 2,.b 1,.c [1,1,0,1,0,0,1,1,1],.l [1,1,0,1,0,0],.b 0,.c [1,1,1]] [(0,.slice Aa0 a0.length ca0),(8,.slice Aa0 a0.length ca0),(9,iv (a0.length:Int)),(10,iv v10),(25,.bool t1)] H (F):=by
      rcases bool_cases (t1) with hb6 | hb6
      ·replace heq:=bif_true hb6 heq
       refine Ct t1 hb6<|Ra 1 [1,1,0,1,0,0,1,1,0,0,1,0,1,1,1,1,1,0,0] [.c [1,1,0,1,0,0,1,1,0,0,1,0,1,1,1,1,1,0,1],.b 2,.b 1,.c [1,1,0,1,0,0,1,1,1],.l [1,1,0,1,0,0],.b 0,.c [1,1,1]]<|Rd 1 [2] [(2,iv 8)] ?_
       obtain rfl:=Option.some.inj heq
       exact RunH.done (by kernel_rfl) Tryd.func37 (v:=iv 8) (by kernel_rfl) ⟨rfl,rfl,rfl⟩
      ·replace heq:=bif_false hb6 heq
       refine Cf t1 hb6<|Ra 3 [1,1,0,1,0,0,1,1,1] [.l [1,1,0,1,0,0],.b 0,.c [1,1,1]]<|Rd 2 [0,8,9,10] [(0,.slice Aa0 a0.length ca0),(8,.slice Aa0 a0.length ca0),(9,iv (a0.length:Int)),(10,iv (w64 (v10+1)))]<|Ad 1 [.c [1,1,0,1,0,0],.l [1,1,0,1,0,0],.b 0,.c [1,1,1]]<|Kp [0,8,9,10] [(0,.slice Aa0 a0.length ca0),(8,.slice Aa0 a0.length ca0),(9,iv (a0.length:Int)),(10,iv (w64 (v10+1)))] ?_
       exact ihk a0 _ _ (w64 (v10+1)) hra0 hca0 heq
     replace heq:=ht1
     refine Kp [0,3,4,8,9,10] [(0,.slice Aa0 a0.length ca0),(3,iv v10),(4,pg g1 0),(8,.slice Aa0 a0.length ca0),(9,iv (a0.length:Int)),(10,iv v10)] ?_
     refine RunH.draw (fun w=>Heap H w0 w ((some (g1,.cells #[.string x1.Name,.string x1.Value] 48 (0,0)))::F)) (fun w=>Heap H w0 w ((some (g1,.cells #[.string x1.Name,.string x1.Value] 48 (0,0)))::F)) [3,3,3,3,3,3,3,3,3,3,3,3,3,3] (n:=14) (ls:=[false,false,false,false,false,false,false,false,false,false,false,false,false,false]) (by kernel_rfl) (by kernel_rfl) (by kernel_rfl) rfl ?_
     refine Dk [0,1,2] 11 (nb 14 7) [] [] [28,0,3,4,8,9,10] [(28,.bool (decide (0<v10))),(0,.slice Aa0 a0.length ca0),(3,iv v10),(4,pg g1 0),(8,.slice Aa0 a0.length ca0),(9,iv (a0.length:Int)),(10,iv v10)] (Pk 1 [0]) (Pk 1 [0]) (fun _ _=>trivial) ?_
     rcases bool_cases (decide (0<v10)) with hb5 | hb5
     ·replace heq:=bif_true hb5 heq
      refine DrH.val1 (v':=.bool true) (congrArg Value.bool hb5) ?_
      obtain ⟨x2,hx2,heq⟩:=bind_some heq
      obtain ⟨ha2,cs2,hK2,hcc2⟩:=hra0.get hx2
      obtain ⟨rfl⟩:=kPair_open hK2
      refine Dk [3,4,5,6,7,8,9,10,11,12,13] 0 (nb 14 16383) [.string x1.Name,.string x2.Name] [.load ⟨g1,0,none⟩ (.string x1.Name),.need (Aa0=some (adr Aa0)∧(0:Int)≤(w64 (v10 - 1))∧(w64 (v10 - 1))<((a0.length:Nat):Int)),.load (((adr Aa0).add ((w64 (v10 - 1)).toNat*2)).add 0) (.string x2.Name)] [0,8,9,10,25] [(0,.slice Aa0 a0.length ca0),(8,.slice Aa0 a0.length ca0),(9,iv (a0.length:Int)),(10,iv v10),(25,.bool (sLt x1.Name x2.Name||sEq x1.Name x2.Name))] (Pk 1 [0]) (Pk 1 [0]) (fun w hh=>⟨(hh.box 0 rfl rfl),⟨ha2,(at?_some hx2).1,(at?_some hx2).2.1⟩,(hcc2 _ _ (hh.drop 1) 0 _ rfl)⟩) ?_
      obtain rfl:=Option.some.inj heq
      refine Kr [0,8,9,10,25] [(0,.slice Aa0 a0.length ca0),(8,.slice Aa0 a0.length ca0),(9,iv (a0.length:Int)),(10,iv v10),(25,.bool (sLt x1.Name x2.Name||sEq x1.Name x2.Name))] ?_
      refine DrH.pick 1 [] (cs':=F) (by kernel_rfl) rfl ?_
      refine DrH.done (by kernel_rfl) ?_
      exact K2
     ·replace heq:=bif_false hb5 heq
      refine DrH.val1 (v':=.bool false) (congrArg Value.bool hb5) ?_
      refine Dk [3,4,5,6,7,8,9,10,11,12,13] 0 (nb 14 16383) [] [] [0,8,9,10,25] [(0,.slice Aa0 a0.length ca0),(8,.slice Aa0 a0.length ca0),(9,iv (a0.length:Int)),(10,iv v10),(25,.bool false)] (Pk 1 [0]) (Pk 1 [0]) (fun _ _=>trivial) ?_
      obtain rfl:=Option.some.inj heq
      refine Kr [0,8,9,10,25] [(0,.slice Aa0 a0.length ca0),(8,.slice Aa0 a0.length ca0),(9,iv (a0.length:Int)),(10,iv v10),(25,.bool false)] ?_
      refine DrH.pick 1 [] (cs':=F) (by kernel_rfl) rfl ?_
      refine DrH.done (by kernel_rfl) ?_
      exact K2
  ·replace heq:=bif_false hb2 heq
   refine Cf (decide (v10<(a0.length:Int))) hb2<|Ad 2 [.c [1,1,1,0],.c [1,1,1,1]]<|Kp [] [] ?_
   exact he1 heq
theorem config_CheckPairs_c {w0:World} {H:Hp} {F:List Ch} {a0:List Pair} {Aa0:Option Addr} {na0:Nat} {ca0:Nat} {r:Int} (hra0:Rw kPair H F Aa0 a0) (hca0:na0≤ca0) (hna0:na0=a0.length) (heq:config_CheckPairs.f a0=some r):CallsH Tryd.prog 37 #[.slice Aa0 na0 ca0] H w0 (F) (S37 F H r):=by
 refine calls_of_runH (F:=C37) Tryd.func37 (by kernel_rfl) Tryd.ntmps37 (args:=[.slice Aa0 na0 ca0]) (by kernel_rfl) ?_
 subst hna0
 unfold config_CheckPairs.f at heq
 refine Ra 1 [0] [.c [1]]<|Rd 1 [0] [(0,.slice Aa0 a0.length ca0)]<|Ra 2 [1,0,0] [.c [1,0,1],.c [1,1]]<|Rd 3 [0,7] [(0,.slice Aa0 a0.length ca0),(7,.bool (decide (30<(a0.length:Int))))] ?_
 rcases bool_cases (decide (30<(a0.length:Int))) with hb1 | hb1
 ·replace heq:=bif_true hb1 heq
  refine Ct (decide (30<(a0.length:Int))) hb1<|Ra 1 [1,0,1,0,0] [.c [1,0,1,0,1],.c [1,1]]<|Rd 1 [2] [(2,iv 2)] ?_
  obtain rfl:=Option.some.inj heq
  exact RunH.done (by kernel_rfl) Tryd.func37 (v:=iv 2) (by kernel_rfl) ⟨rfl,rfl,rfl⟩
 ·replace heq:=bif_false hb1 heq
  refine Cf (decide (30<(a0.length:Int))) hb1<|Ra 3 [1,1,0,0] [.c [1,1,0,1],.c [1,1,1]]<|Rd 3 [0,8,9,10] [(0,.slice Aa0 a0.length ca0),(8,.slice Aa0 a0.length ca0),(9,iv (a0.length:Int)),(10,iv 0)]<|Ad 2 [.c [1,1,0,1,0,0],.l [1,1,0,1,0,0],.b 0,.c [1,1,1]]<|Kp [0,8,9,10] [(0,.slice Aa0 a0.length ca0),(8,.slice Aa0 a0.length ca0),(9,iv (a0.length:Int)),(10,iv 0)] ?_
  exact ((config_CheckPairs.l2_c (e1:=config_CheckPairs.e1) (config_CheckPairs.e1_c)) big) a0 _ _ 0 hra0 hca0 heq
noncomputable def C38:Ctx:={ P:=Tryd.prog,f:=38,N:=15,c:=bodyOf Tryd.f38 }
def S38 (F:List Ch) (H0:Hp) (r:Bool) (v:Value) (H:Hp) (cs:List Ch):Prop:=H0=H∧v=.bool r∧F=cs
theorem workers_within_c {w0:World} {H:Hp} {F:List Ch} {a0:Int} {a1:Int} {a2:Int} {r:Bool} (heq:workers_within.f a0 a1 a2=some r):CallsH Tryd.prog 38 #[iv a0,iv a1,iv a2] H w0 (F) (S38 F H r):=by
 refine calls_of_runH (F:=C38) Tryd.func38 (by kernel_rfl) Tryd.ntmps38 (args:=[iv a0,iv a1,iv a2]) (by kernel_rfl) ?_
 unfold workers_within.f at heq
 refine Ra 1 [0] [.c [1]]<|Rd 1 [0,1,2] [(0,iv a0),(1,iv a1),(2,iv a2)]<|Ad 1 [.c [1,0],.c [1,1]] ?_
 obtain ⟨t1,ht1,heq⟩:=bind_some heq
 have K1:RunH C38 (S38 F H r) H w0 [.c [1,1]] [(6,.bool t1)] H (F):=by
  obtain rfl:=Option.some.inj heq
  exact RunH.done (by kernel_rfl) Tryd.func38 (v:=.bool t1) (by kernel_rfl) ⟨rfl,rfl,rfl⟩
 replace heq:=ht1
 refine Rr<|Rk 4 [10,0,2] [(10,.bool (decide (a1≤a0))),(0,iv a0),(2,iv a2)] ?_
 rcases bool_cases (decide (a1≤a0)) with hb1 | hb1
 ·replace heq:=bif_true hb1 heq
  refine RgH.val1 (v':=.bool true) (congrArg Value.bool hb1) ?_
  refine Rk 9 [6] [(6,.bool (decide (a0≤a2)))] ?_
  obtain rfl:=Option.some.inj heq
  refine Kg [6] [(6,.bool (decide (a0≤a2)))]<|Dn ?_
  exact K1
 ·replace heq:=bif_false hb1 heq
  refine RgH.val1 (v':=.bool false) (congrArg Value.bool hb1) ?_
  refine Rk 9 [6] [(6,.bool false)] ?_
  obtain rfl:=Option.some.inj heq
  refine Kg [6] [(6,.bool false)]<|Dn ?_
  exact K1
noncomputable def C39:Ctx:={ P:=Tryd.prog,f:=39,N:=5,c:=bodyOf Tryd.f39 }
def S39 (F:List Ch) (H0:Hp) (r:Bool) (v:Value) (H:Hp) (cs:List Ch):Prop:=H0=H∧v=.bool r∧F=cs
theorem workers_isMoment_c {w0:World} {H:Hp} {F:List Ch} {a0:Int} {r:Bool} (heq:workers_isMoment.f a0=some r):CallsH Tryd.prog 39 #[iv a0] H w0 (F) (S39 F H r):=by
 refine calls_of_runH (F:=C39) Tryd.func39 (by kernel_rfl) Tryd.ntmps39 (args:=[iv a0]) (by kernel_rfl) ?_
 unfold workers_isMoment.f at heq
 refine Ra 1 [0] [.c [1]]<|Rd 1 [0] [(0,iv a0)]<|Ra 1 [1,0] [.c [1,1]]<|Rk 1 [3] [(3,iv a0)] ?_
 obtain ⟨y1,hy1,heq⟩:=bind_some heq
 refine RgH.does (DoesH.call (d:=4) (g:=38) (args:=#[iv a0,iv 0,iv 1000000000]) (by kernel_rfl) (workers_within_c (a0:=a0) (a1:=0) (a2:=1000000000)  hy1)) ?_
 rintro _ _ _ _ ⟨_,rfl,rfl,rfl,rfl⟩
 refine Rd 3 [2] [(2,.bool y1)] ?_
 obtain rfl:=Option.some.inj heq
 exact RunH.done (by kernel_rfl) Tryd.func39 (v:=.bool y1) (by kernel_rfl) ⟨rfl,rfl,rfl⟩
noncomputable def C40:Ctx:={ P:=Tryd.prog,f:=40,N:=46,c:=bodyOf Tryd.f40 }
def S40 (F:List Ch) (H0:Hp) (r:Int) (v:Value) (H:Hp) (cs:List Ch):Prop:=H0=H∧v=iv r∧F=cs
theorem workers_checkStands.e1_c {w0:World} {H:Hp} {F:List Ch} {r:Int}:workers_checkStands.e1=some r→RunH C40 (S40 F H r) H w0 [.c [1,1,1,0],.c [1,1,1,1]] [] H (F):=by
 intro   heq
 unfold workers_checkStands.e1 at heq
 refine Rr<|Rd 1 [2] [(2,iv 0)] ?_
 obtain rfl:=Option.some.inj heq
 exact RunH.done (by kernel_rfl) Tryd.func40 (v:=iv 0) (by kernel_rfl) ⟨rfl,rfl,rfl⟩
theorem workers_checkStands.l2_c {w0:World} {H:Hp} {F:List Ch} {r:Int} (e1:Option Int)
  (he1:e1=some r→RunH C40 (S40 F H r) H w0 [.c [1,1,1,0],.c [1,1,1,1]] [] H (F)):∀ (k:Nat),∀ (a0:List Span) (Aa0:Option Addr) (ca0:Nat) (v10:Int) ,Rw kSpan H F Aa0 a0→a0.length≤ca0→workers_checkStands.l2 e1 k a0 v10=some r→RunH C40 (S40 F H r) H w0 [.c [1,1,0,1,0,0],.l [1,1,0,1,0,0],.b 0,.c [1,1,1]] [(0,.slice Aa0 a0.length ca0),(8,.slice Aa0 a0.length ca0),(9,iv (a0.length:Int)),(10,iv v10)] H (F):=by
 intro k
 induction k with
 | zero=>intro a0 Aa0 ca0 v10 hra0 hca0 heq; exact nomatch (show (none:Option Int)=some r from heq)
 | succ k ihk =>
  intro a0 Aa0 ca0 v10 hra0 hca0 heq
  rw [workers_checkStands.l2] at heq
  refine Ra 1 [1,1,0,1,0,0,0] [.c [1,1,0,1,0,0,1],.l [1,1,0,1,0,0],.b 0,.c [1,1,1]]<|Rd 1 [0,8,9,10,11] [(0,.slice Aa0 a0.length ca0),(8,.slice Aa0 a0.length ca0),(9,iv (a0.length:Int)),(10,iv v10),(11,.bool (decide (v10<(a0.length:Int))))]<|Ad 1 [.c [1,1,0,1,0,0,1,0],.c [1,1,0,1,0,0,1,1],.l [1,1,0,1,0,0],.b 0,.c [1,1,1]] ?_
  rcases bool_cases (decide (v10<(a0.length:Int))) with hb2 | hb2
  ·replace heq:=bif_true hb2 heq
   refine Ct (decide (v10<(a0.length:Int))) hb2<|Ra 4 [1,1,0,1,0,0,1,1,0,0,0] [.c [1,1,0,1,0,0,1,1,0,0,1],.b 1,.c [1,1,0,1,0,0,1,1,1],.l [1,1,0,1,0,0],.b 0,.c [1,1,1]] ?_
   obtain ⟨x1,hx1,heq⟩:=bind_some heq
   obtain ⟨ha1,cs1,hK1,hcc1⟩:=hra0.get hx1
   obtain ⟨rfl⟩:=kSpan_open hK1
   refine Rv 3 [0,8,9,10,12,14] [iv x1.From,iv x1.To] [.need (Aa0=some (adr Aa0)∧(0:Int)≤v10∧v10<((a0.length:Nat):Int)),.load (((adr Aa0).add (v10.toNat*2)).add 0) (iv x1.From),.load (((adr Aa0).add (v10.toNat*2)).add 1) (iv x1.To)] [(0,.slice Aa0 a0.length ca0),(8,.slice Aa0 a0.length ca0),(9,iv (a0.length:Int)),(10,iv v10),(12,iv v10),(14,.agg #[iv x1.From,iv x1.To])] (fun w hh=>⟨⟨ha1,(at?_some hx1).1,(at?_some hx1).2.1⟩,(hcc1 _ _ (hh.drop 0) 0 _ rfl),(hcc1 _ _ (hh.drop 0) 1 _ rfl)⟩) ?_
   refine RgH.does (DoesH.new (d:=4) (v:=fun g=>.pointer (some ⟨g,0,none⟩)) (o:=fun g=>.cells #[iv 0,iv 0] 51 (0,0)) (fun g=>by kernel_rfl)) ?_
   rintro _ _ _ _ ⟨g1,rfl,rfl,rfl⟩
   refine Rk 5 [0,3,4,8,9,10,14] [(0,.slice Aa0 a0.length ca0),(3,iv v10),(4,pg g1 0),(8,.slice Aa0 a0.length ca0),(9,iv (a0.length:Int)),(10,iv v10),(14,.agg #[iv x1.From,iv x1.To])] ?_
   refine RgH.does (DoesH.store (k:=0) (g:=g1) (off:=0) (v:=.agg #[iv x1.From,iv x1.To]) (cells':=#[iv x1.From,iv x1.To]) (by kernel_rfl) rfl (by kernel_rfl) (by kernel_rfl)) ?_
   rintro _ _ _ _ ⟨rfl,rfl,rfl⟩
   refine Dn<|Ad 2 [.c [1,1,0,1,0,0,1,1,0,0,1,0,0],.c [1,1,0,1,0,0,1,1,0,0,1,0,1],.c [1,1,0,1,0,0,1,1,0,0,1,1],.b 1,.c [1,1,0,1,0,0,1,1,1],.l [1,1,0,1,0,0],.b 0,.c [1,1,1]] ?_
   obtain ⟨t1,ht1,heq⟩:=bind_some heq
   have K2:RunH C40 (S40 F H r) H w0 [.c [1,1,0,1,0,0,1,1,0,0,1,0,1],.c [1,1,0,1,0,0,1,1,0,0,1,1],.b 1,.c [1,1,0,1,0,0,1,1,1],.l [1,1,0,1,0,0],.b 0,.c [1,1,1]] [(0,.slice Aa0 a0.length ca0),(3,iv v10),(4,pg g1 0),(8,.slice Aa0 a0.length ca0),(9,iv (a0.length:Int)),(10,iv v10),(24,.bool t1)] H ((some (g1,.cells #[iv x1.From,iv x1.To] 51 (0,0)))::F):=by
    rcases bool_cases (t1) with hb4 | hb4
    ·replace heq:=bif_true hb4 heq
     refine Ct t1 hb4<|Ra 1 [1,1,0,1,0,0,1,1,0,0,1,0,1,0,0] [.c [1,1,0,1,0,0,1,1,0,0,1,0,1,0,1],.c [1,1,0,1,0,0,1,1,0,0,1,1],.b 1,.c [1,1,0,1,0,0,1,1,1],.l [1,1,0,1,0,0],.b 0,.c [1,1,1]]<|Rd 1 [2] [(2,iv 1)] ?_
     obtain rfl:=Option.some.inj heq
     refine RunH.pick 1 [] (cs':=F) (by kernel_rfl) rfl ?_
     exact RunH.done (by kernel_rfl) Tryd.func40 (v:=iv 1) (by kernel_rfl) ⟨rfl,rfl,rfl⟩
    ·replace heq:=bif_false hb4 heq
     refine Cf t1 hb4<|Ad 2 [.c [1,1,0,1,0,0,1,1,0,0,1,1,0],.c [1,1,0,1,0,0,1,1,0,0,1,1,1],.b 1,.c [1,1,0,1,0,0,1,1,1],.l [1,1,0,1,0,0],.b 0,.c [1,1,1]] ?_
     obtain ⟨t2,ht2,heq⟩:=bind_some heq
     have K3:RunH C40 (S40 F H r) H w0 [.c [1,1,0,1,0,0,1,1,0,0,1,1,1],.b 1,.c [1,1,0,1,0,0,1,1,1],.l [1,1,0,1,0,0],.b 0,.c [1,1,1]] [(0,.slice Aa0 a0.length ca0),(8,.slice Aa0 a0.length ca0),(9,iv (a0.length:Int)),(10,iv v10),(44,.bool t2)] H (F):=by
      rcases bool_cases (t2) with hb7 | hb7
      ·replace heq:=bif_true hb7 heq
       refine Ct t2 hb7<|Ra 1 [1,1,0,1,0,0,1,1,0,0,1,1,1,0,0] [.c [1,1,0,1,0,0,1,1,0,0,1,1,1,0,1],.b 1,.c [1,1,0,1,0,0,1,1,1],.l [1,1,0,1,0,0],.b 0,.c [1,1,1]]<|Rd 1 [2] [(2,iv 8)] ?_
       obtain rfl:=Option.some.inj heq
       exact RunH.done (by kernel_rfl) Tryd.func40 (v:=iv 8) (by kernel_rfl) ⟨rfl,rfl,rfl⟩
      ·replace heq:=bif_false hb7 heq
       refine Cf t2 hb7<|Ra 2 [1,1,0,1,0,0,1,1,1] [.l [1,1,0,1,0,0],.b 0,.c [1,1,1]]<|Rd 2 [0,8,9,10] [(0,.slice Aa0 a0.length ca0),(8,.slice Aa0 a0.length ca0),(9,iv (a0.length:Int)),(10,iv (w64 (v10+1)))]<|Ad 1 [.c [1,1,0,1,0,0],.l [1,1,0,1,0,0],.b 0,.c [1,1,1]]<|Kp [0,8,9,10] [(0,.slice Aa0 a0.length ca0),(8,.slice Aa0 a0.length ca0),(9,iv (a0.length:Int)),(10,iv (w64 (v10+1)))] ?_
       exact ihk a0 _ _ (w64 (v10+1)) hra0 hca0 heq
     replace heq:=ht2
     refine Kp [0,3,4,8,9,10] [(0,.slice Aa0 a0.length ca0),(3,iv v10),(4,pg g1 0),(8,.slice Aa0 a0.length ca0),(9,iv (a0.length:Int)),(10,iv v10)] ?_
     refine RunH.draw (fun w=>Heap H w0 w ((some (g1,.cells #[iv x1.From,iv x1.To] 51 (0,0)))::F)) (fun w=>Heap H w0 w ((some (g1,.cells #[iv x1.From,iv x1.To] 51 (0,0)))::F)) [3,3,3,3,3,3,3,3,3,3,3,3,3,3,3,3,3,3,3,3] (n:=20) (ls:=[false,false,false,false,false,false,false,false,false,false,false,false,false,false,false,false,false,false,false,false]) (by kernel_rfl) (by kernel_rfl) (by kernel_rfl) rfl ?_
     refine Dk [0,1,2,3,4,5] 14 (nb 20 63) [iv x1.To,iv x1.From] [.load ⟨g1,1,none⟩ (iv x1.To),.load ⟨g1,0,none⟩ (iv x1.From)] [30,0,3,4,8,9,10] [(30,.bool (decide (x1.To≤x1.From))),(0,.slice Aa0 a0.length ca0),(3,iv v10),(4,pg g1 0),(8,.slice Aa0 a0.length ca0),(9,iv (a0.length:Int)),(10,iv v10)] (Pk 1 [0]) (Pk 1 [0]) (fun w hh=>⟨(hh.box 0 rfl rfl),(hh.box 0 rfl rfl)⟩) ?_
     rcases bool_cases (decide (x1.To≤x1.From)) with hb5 | hb5
     ·replace heq:=bif_true hb5 heq
      refine DrH.val1 (v':=.bool true) (congrArg Value.bool hb5) ?_
      refine Dk [6,7,8,9,10,11,12,13,14,15,16,17,18,19] 0 (nb 20 1048575) [] [] [0,8,9,10,44] [(0,.slice Aa0 a0.length ca0),(8,.slice Aa0 a0.length ca0),(9,iv (a0.length:Int)),(10,iv v10),(44,.bool true)] (Pk 1 [0]) (Pk 1 [0]) (fun _ _=>trivial) ?_
      obtain rfl:=Option.some.inj heq
      refine Kr [0,8,9,10,44] [(0,.slice Aa0 a0.length ca0),(8,.slice Aa0 a0.length ca0),(9,iv (a0.length:Int)),(10,iv v10),(44,.bool true)] ?_
      refine DrH.pick 1 [] (cs':=F) (by kernel_rfl) rfl ?_
      refine DrH.done (by kernel_rfl) ?_
      exact K3
     ·replace heq:=bif_false hb5 heq
      refine DrH.val1 (v':=.bool false) (congrArg Value.bool hb5) ?_
      refine Dk [6,7,8] 11 (nb 20 511) [] [] [33,0,3,4,8,9,10,30] [(33,.bool (decide (0<v10))),(0,.slice Aa0 a0.length ca0),(3,iv v10),(4,pg g1 0),(8,.slice Aa0 a0.length ca0),(9,iv (a0.length:Int)),(10,iv v10),(30,.bool false)] (Pk 1 [0]) (Pk 1 [0]) (fun _ _=>trivial) ?_
      rcases bool_cases (decide (0<v10)) with hb6 | hb6
      ·replace heq:=bif_true hb6 heq
       refine DrH.val1 (v':=.bool true) (congrArg Value.bool hb6) ?_
       obtain ⟨x2,hx2,heq⟩:=bind_some heq
       obtain ⟨ha2,cs2,hK2,hcc2⟩:=hra0.get hx2
       obtain ⟨rfl⟩:=kSpan_open hK2
       refine Dk [9,10,11,12,13,14,15,16,17,18,19] 0 (nb 20 1048575) [iv x1.From,iv x2.To] [.load ⟨g1,0,none⟩ (iv x1.From),.need (Aa0=some (adr Aa0)∧(0:Int)≤(w64 (v10 - 1))∧(w64 (v10 - 1))<((a0.length:Nat):Int)),.load (((adr Aa0).add ((w64 (v10 - 1)).toNat*2)).add 1) (iv x2.To)] [0,8,9,10,44] [(0,.slice Aa0 a0.length ca0),(8,.slice Aa0 a0.length ca0),(9,iv (a0.length:Int)),(10,iv v10),(44,.bool (decide (x1.From<x2.To)))] (Pk 1 [0]) (Pk 1 [0]) (fun w hh=>⟨(hh.box 0 rfl rfl),⟨ha2,(at?_some hx2).1,(at?_some hx2).2.1⟩,(hcc2 _ _ (hh.drop 1) 1 _ rfl)⟩) ?_
       obtain rfl:=Option.some.inj heq
       refine Kr [0,8,9,10,44] [(0,.slice Aa0 a0.length ca0),(8,.slice Aa0 a0.length ca0),(9,iv (a0.length:Int)),(10,iv v10),(44,.bool (decide (x1.From<x2.To)))] ?_
       refine DrH.pick 1 [] (cs':=F) (by kernel_rfl) rfl ?_
       refine DrH.done (by kernel_rfl) ?_
       exact K3
      ·replace heq:=bif_false hb6 heq
       refine DrH.val1 (v':=.bool false) (congrArg Value.bool hb6) ?_
       refine Dk [9,10,11,12,13,14,15,16,17,18,19] 0 (nb 20 1048575) [] [] [0,8,9,10,44] [(0,.slice Aa0 a0.length ca0),(8,.slice Aa0 a0.length ca0),(9,iv (a0.length:Int)),(10,iv v10),(44,.bool false)] (Pk 1 [0]) (Pk 1 [0]) (fun _ _=>trivial) ?_
       obtain rfl:=Option.some.inj heq
       refine Kr [0,8,9,10,44] [(0,.slice Aa0 a0.length ca0),(8,.slice Aa0 a0.length ca0),(9,iv (a0.length:Int)),(10,iv v10),(44,.bool false)] ?_
       refine DrH.pick 1 [] (cs':=F) (by kernel_rfl) rfl ?_
       refine DrH.done (by kernel_rfl) ?_
       exact K3
   replace heq:=ht1
   refine Rr<|Rv 2 [0,3,4,8,9,10,16] [iv x1.From] [.load ⟨g1,0,none⟩ (iv x1.From)] [(0,.slice Aa0 a0.length ca0),(3,iv v10),(4,pg g1 0),(8,.slice Aa0 a0.length ca0),(9,iv (a0.length:Int)),(10,iv v10),(16,iv x1.From)] (fun w hh=>(hh.box 0 rfl rfl)) ?_
   obtain ⟨y1,hy1,heq⟩:=bind_some heq
   refine RgH.does (DoesH.call (d:=17) (g:=39) (args:=#[iv x1.From]) (by kernel_rfl) (workers_isMoment_c (a0:=x1.From)  hy1)) ?_
   rintro _ _ _ _ ⟨_,rfl,rfl,rfl,rfl⟩
   refine Rk 5 [19,0,3,4,8,9,10] [(19,.bool (!y1)),(0,.slice Aa0 a0.length ca0),(3,iv v10),(4,pg g1 0),(8,.slice Aa0 a0.length ca0),(9,iv (a0.length:Int)),(10,iv v10)] ?_
   rcases bool_cases (!y1) with hb3 | hb3
   ·replace heq:=bif_true hb3 heq
    refine RgH.val1 (v':=.bool true) (congrArg Value.bool hb3) ?_
    refine Rk 10 [0,3,4,8,9,10,24] [(0,.slice Aa0 a0.length ca0),(3,iv v10),(4,pg g1 0),(8,.slice Aa0 a0.length ca0),(9,iv (a0.length:Int)),(10,iv v10),(24,.bool true)] ?_
    obtain rfl:=Option.some.inj heq
    refine Kg [0,3,4,8,9,10,24] [(0,.slice Aa0 a0.length ca0),(3,iv v10),(4,pg g1 0),(8,.slice Aa0 a0.length ca0),(9,iv (a0.length:Int)),(10,iv v10),(24,.bool true)]<|Dn ?_
    exact K2
   ·replace heq:=bif_false hb3 heq
    refine RgH.val1 (v':=.bool false) (congrArg Value.bool hb3) ?_
    refine Rv 7 [0,3,4,8,9,10,19,21] [iv x1.To] [.load ⟨g1,1,none⟩ (iv x1.To)] [(0,.slice Aa0 a0.length ca0),(3,iv v10),(4,pg g1 0),(8,.slice Aa0 a0.length ca0),(9,iv (a0.length:Int)),(10,iv v10),(19,.bool false),(21,iv x1.To)] (fun w hh=>(hh.box 0 rfl rfl)) ?_
    obtain ⟨y2,hy2,heq⟩:=bind_some heq
    refine RgH.does (DoesH.call (d:=22) (g:=39) (args:=#[iv x1.To]) (by kernel_rfl) (workers_isMoment_c (a0:=x1.To)  hy2)) ?_
    rintro _ _ _ _ ⟨_,rfl,rfl,rfl,rfl⟩
    refine Rk 10 [0,3,4,8,9,10,24] [(0,.slice Aa0 a0.length ca0),(3,iv v10),(4,pg g1 0),(8,.slice Aa0 a0.length ca0),(9,iv (a0.length:Int)),(10,iv v10),(24,.bool (!y2))] ?_
    obtain rfl:=Option.some.inj heq
    refine Kg [0,3,4,8,9,10,24] [(0,.slice Aa0 a0.length ca0),(3,iv v10),(4,pg g1 0),(8,.slice Aa0 a0.length ca0),(9,iv (a0.length:Int)),(10,iv v10),(24,.bool (!y2))]<|Dn ?_
    exact K2
  ·replace heq:=bif_false hb2 heq
   refine Cf (decide (v10<(a0.length:Int))) hb2<|Ad 2 [.c [1,1,1,0],.c [1,1,1,1]]<|Kp [] [] ?_
   exact he1 heq
theorem workers_checkStands_c {w0:World} {H:Hp} {F:List Ch} {a0:List Span} {Aa0:Option Addr} {na0:Nat} {ca0:Nat} {r:Int} (hra0:Rw kSpan H F Aa0 a0) (hca0:na0≤ca0) (hna0:na0=a0.length) (heq:workers_checkStands.f a0=some r):CallsH Tryd.prog 40 #[.slice Aa0 na0 ca0] H w0 (F) (S40 F H r):=by
 refine calls_of_runH (F:=C40) Tryd.func40 (by kernel_rfl) Tryd.ntmps40 (args:=[.slice Aa0 na0 ca0]) (by kernel_rfl) ?_
 subst hna0
 unfold workers_checkStands.f at heq
 refine Ra 1 [0] [.c [1]]<|Rd 1 [0] [(0,.slice Aa0 a0.length ca0)]<|Ra 2 [1,0,0] [.c [1,0,1],.c [1,1]]<|Rd 3 [0,7] [(0,.slice Aa0 a0.length ca0),(7,.bool (decide (20<(a0.length:Int))))] ?_
 rcases bool_cases (decide (20<(a0.length:Int))) with hb1 | hb1
 ·replace heq:=bif_true hb1 heq
  refine Ct (decide (20<(a0.length:Int))) hb1<|Ra 1 [1,0,1,0,0] [.c [1,0,1,0,1],.c [1,1]]<|Rd 1 [2] [(2,iv 2)] ?_
  obtain rfl:=Option.some.inj heq
  exact RunH.done (by kernel_rfl) Tryd.func40 (v:=iv 2) (by kernel_rfl) ⟨rfl,rfl,rfl⟩
 ·replace heq:=bif_false hb1 heq
  refine Cf (decide (20<(a0.length:Int))) hb1<|Ra 3 [1,1,0,0] [.c [1,1,0,1],.c [1,1,1]]<|Rd 3 [0,8,9,10] [(0,.slice Aa0 a0.length ca0),(8,.slice Aa0 a0.length ca0),(9,iv (a0.length:Int)),(10,iv 0)]<|Ad 2 [.c [1,1,0,1,0,0],.l [1,1,0,1,0,0],.b 0,.c [1,1,1]]<|Kp [0,8,9,10] [(0,.slice Aa0 a0.length ca0),(8,.slice Aa0 a0.length ca0),(9,iv (a0.length:Int)),(10,iv 0)] ?_
  exact ((workers_checkStands.l2_c (e1:=workers_checkStands.e1) (workers_checkStands.e1_c)) big) a0 _ _ 0 hra0 hca0 heq
noncomputable def C22:Ctx:={ P:=Tryd.prog,f:=22,N:=44,c:=bodyOf Tryd.f22 }
def S22 (F:List Ch) (H0:Hp) (r:Int) (v:Value) (H:Hp) (cs:List Ch):Prop:=H0=H∧v=iv r∧F=cs
theorem workers_checkWorker_c {w0:World} {H:Hp} {F:List Ch} {a0:Worker} {Aa0_1:Option Addr} {na0_1:Nat} {ca0_1:Nat} {Aa0_6:Option Addr} {na0_6:Nat} {ca0_6:Nat} {r:Int} (hra0_1:Rw kPair H F Aa0_1 a0.Has) (hca0_1:na0_1≤ca0_1) (hna0_1:na0_1=a0.Has.length) (hra0_6:Rw kSpan H F Aa0_6 a0.Stands) (hca0_6:na0_6≤ca0_6) (hna0_6:na0_6=a0.Stands.length) (heq:workers_checkWorker.f a0=some r):CallsH Tryd.prog 22 #[.agg #[.string a0.Name,.slice Aa0_1 na0_1 ca0_1,iv a0.Slots,iv a0.Speed,iv a0.From,iv a0.To,.slice Aa0_6 na0_6 ca0_6]] H w0 (F) (S22 F H r):=by
 refine calls_of_runH (F:=C22) Tryd.func22 (by kernel_rfl) Tryd.ntmps22 (args:=[.agg #[.string a0.Name,.slice Aa0_1 na0_1 ca0_1,iv a0.Slots,iv a0.Speed,iv a0.From,iv a0.To,.slice Aa0_6 na0_6 ca0_6]]) (by kernel_rfl) ?_
 subst hna0_1
 subst hna0_6
 unfold workers_checkWorker.f at heq
 refine Ra 1 [0] [.c [1]] ?_
 refine RgH.does (DoesH.new (d:=1) (v:=fun g=>.pointer (some ⟨g,0,none⟩)) (o:=fun g=>.cells #[.string a0.Name,.slice Aa0_1 a0.Has.length ca0_1,iv a0.Slots,iv a0.Speed,iv a0.From,iv a0.To,.slice Aa0_6 a0.Stands.length ca0_6] 27 (0,0)) (fun g=>by kernel_rfl)) ?_
 rintro _ _ _ _ ⟨g1,rfl,rfl,rfl⟩
 refine Rd 2 [1] [(1,pg g1 0)]<|Ra 2 [1,0,0] [.c [1,0,1],.c [1,1]]<|Rv 2 [1,5] [.string a0.Name] [.load ⟨g1,0,none⟩ (.string a0.Name)] [(1,pg g1 0),(5,.string a0.Name)] (fun w hh=>(hh.box 0 rfl rfl)) ?_
 obtain ⟨y1,hy1,heq⟩:=bind_some heq
 refine RgH.does (DoesH.call (d:=6) (g:=36) (args:=#[.string a0.Name]) (by kernel_rfl) (config_IsWord_c (a0:=a0.Name)  hy1)) ?_
 rintro _ _ _ _ ⟨_,rfl,rfl,rfl,rfl⟩
 refine Rd 4 [1,7] [(1,pg g1 0),(7,.bool (!y1))] ?_
 rcases bool_cases (!y1) with hb1 | hb1
 ·replace heq:=bif_true hb1 heq
  refine Ct (!y1) hb1<|Ra 1 [1,0,1,0,0] [.c [1,0,1,0,1],.c [1,1]]<|Rd 1 [2] [(2,iv 5)] ?_
  obtain rfl:=Option.some.inj heq
  refine RunH.pick 1 [] (cs':=F) (by kernel_rfl) rfl ?_
  exact RunH.done (by kernel_rfl) Tryd.func22 (v:=iv 5) (by kernel_rfl) ⟨rfl,rfl,rfl⟩
 ·replace heq:=bif_false hb1 heq
  refine Cf (!y1) hb1<|Ra 3 [1,1,0,0] [.c [1,1,0,1],.c [1,1,1]]<|Rv 2 [1,9] [.slice Aa0_1 a0.Has.length ca0_1] [.load ⟨g1,1,none⟩ (.slice Aa0_1 a0.Has.length ca0_1)] [(1,pg g1 0),(9,.slice Aa0_1 a0.Has.length ca0_1)] (fun w hh=>(hh.box 0 rfl rfl)) ?_
  obtain ⟨y2,hy2,heq⟩:=bind_some heq
  refine RgH.does (DoesH.call (d:=10) (g:=37) (args:=#[.slice Aa0_1 a0.Has.length ca0_1]) (by kernel_rfl) (config_CheckPairs_c (a0:=a0.Has) (hra0_1.wk (fun _ h=>(.tail _ h))) hca0_1 rfl hy2)) ?_
  rintro _ _ _ _ ⟨_,rfl,rfl,rfl,rfl⟩
  refine Rd 4 [1,3] [(1,pg g1 0),(3,iv y2)]<|Ra 1 [1,1,0,1,0] [.c [1,1,0,1,1],.c [1,1,1]]<|Rd 2 [1,3,12] [(1,pg g1 0),(3,iv y2),(12,.bool (y2 != 0))] ?_
  rcases bool_cases (y2 != 0) with hb2 | hb2
  ·replace heq:=bif_true hb2 heq
   refine Ct (y2 != 0) hb2<|Ra 1 [1,1,0,1,1,0,0] [.c [1,1,0,1,1,0,1],.c [1,1,1]]<|Rd 2 [2] [(2,iv y2)] ?_
   obtain rfl:=Option.some.inj heq
   refine RunH.pick 1 [] (cs':=F) (by kernel_rfl) rfl ?_
   exact RunH.done (by kernel_rfl) Tryd.func22 (v:=iv y2) (by kernel_rfl) ⟨rfl,rfl,rfl⟩
  ·replace heq:=bif_false hb2 heq
   refine Cf (y2 != 0) hb2<|Ad 3 [.c [1,1,1,0,0],.c [1,1,1,0,1],.c [1,1,1,1]] ?_
   obtain ⟨t1,ht1,heq⟩:=bind_some heq
   have K2:RunH C22 (S22 F H r) H w0 [.c [1,1,1,0,1],.c [1,1,1,1]] [(1,pg g1 0),(35,.bool t1)] H ((some (g1,.cells #[.string a0.Name,.slice Aa0_1 a0.Has.length ca0_1,iv a0.Slots,iv a0.Speed,iv a0.From,iv a0.To,.slice Aa0_6 a0.Stands.length ca0_6] 27 (0,0)))::F):=by
    rcases bool_cases (t1) with hb6 | hb6
    ·replace heq:=bif_true hb6 heq
     refine Ct t1 hb6<|Ra 1 [1,1,1,0,1,0,0] [.c [1,1,1,0,1,0,1],.c [1,1,1,1]]<|Rd 1 [2] [(2,iv 1)] ?_
     obtain rfl:=Option.some.inj heq
     refine RunH.pick 1 [] (cs':=F) (by kernel_rfl) rfl ?_
     exact RunH.done (by kernel_rfl) Tryd.func22 (v:=iv 1) (by kernel_rfl) ⟨rfl,rfl,rfl⟩
    ·replace heq:=bif_false hb6 heq
     refine Cf t1 hb6<|Ra 3 [1,1,1,1,0,0] [.c [1,1,1,1,0,1],.c [1,1,1,1,1]]<|Rw' 5 [1,40] [iv a0.To,iv a0.From] [.load ⟨g1,5,none⟩ (iv a0.To),.load ⟨g1,4,none⟩ (iv a0.From)] [(1,pg g1 0),(40,.bool (decide (a0.To≤a0.From)))] (fun w hh=>⟨(hh.box 0 rfl rfl),(hh.box 0 rfl rfl)⟩) ?_
     rcases bool_cases (decide (a0.To≤a0.From)) with hb7 | hb7
     ·replace heq:=bif_true hb7 heq
      refine Ct (decide (a0.To≤a0.From)) hb7<|Ra 1 [1,1,1,1,0,1,0,0] [.c [1,1,1,1,0,1,0,1],.c [1,1,1,1,1]]<|Rd 1 [2] [(2,iv 8)] ?_
      obtain rfl:=Option.some.inj heq
      refine RunH.pick 1 [] (cs':=F) (by kernel_rfl) rfl ?_
      exact RunH.done (by kernel_rfl) Tryd.func22 (v:=iv 8) (by kernel_rfl) ⟨rfl,rfl,rfl⟩
     ·replace heq:=bif_false hb7 heq
      refine Cf (decide (a0.To≤a0.From)) hb7<|Ra 2 [1,1,1,1,1,0] [.c [1,1,1,1,1,1]]<|Rv 2 [42] [.slice Aa0_6 a0.Stands.length ca0_6] [.load ⟨g1,6,none⟩ (.slice Aa0_6 a0.Stands.length ca0_6)] [(42,.slice Aa0_6 a0.Stands.length ca0_6)] (fun w hh=>(hh.box 0 rfl rfl)) ?_
      obtain ⟨y7,hy7,heq⟩:=bind_some heq
      refine RgH.does (DoesH.call (d:=43) (g:=40) (args:=#[.slice Aa0_6 a0.Stands.length ca0_6]) (by kernel_rfl) (workers_checkStands_c (a0:=a0.Stands) (hra0_6.wk (fun _ h=>(.tail _ h))) hca0_6 rfl hy7)) ?_
      rintro _ _ _ _ ⟨_,rfl,rfl,rfl,rfl⟩
      refine Rd 4 [2] [(2,iv y7)] ?_
      obtain rfl:=Option.some.inj heq
      refine RunH.pick 1 [] (cs':=F) (by kernel_rfl) rfl ?_
      exact RunH.done (by kernel_rfl) Tryd.func22 (v:=iv y7) (by kernel_rfl) ⟨rfl,rfl,rfl⟩
   replace heq:=ht1
   refine Rr<|Rv 2 [1,15] [iv a0.Slots] [.load ⟨g1,2,none⟩ (iv a0.Slots)] [(1,pg g1 0),(15,iv a0.Slots)] (fun w hh=>(hh.box 0 rfl rfl)) ?_
   obtain ⟨y3,hy3,heq⟩:=bind_some heq
   refine RgH.does (DoesH.call (d:=16) (g:=38) (args:=#[iv a0.Slots,iv 1,iv 20]) (by kernel_rfl) (workers_within_c (a0:=a0.Slots) (a1:=1) (a2:=20)  hy3)) ?_
   rintro _ _ _ _ ⟨_,rfl,rfl,rfl,rfl⟩
   refine Rk 5 [18,1] [(18,.bool (!y3)),(1,pg g1 0)] ?_
   rcases bool_cases (!y3) with hb3 | hb3
   ·replace heq:=bif_true hb3 heq
    refine RgH.val1 (v':=.bool true) (congrArg Value.bool hb3) ?_
    refine Rk 22 [1,35] [(1,pg g1 0),(35,.bool true)] ?_
    obtain rfl:=Option.some.inj heq
    refine Kg [1,35] [(1,pg g1 0),(35,.bool true)]<|Dn ?_
    exact K2
   ·replace heq:=bif_false hb3 heq
    refine RgH.val1 (v':=.bool false) (congrArg Value.bool hb3) ?_
    refine Rv 7 [1,18,20] [iv a0.Speed] [.load ⟨g1,3,none⟩ (iv a0.Speed)] [(1,pg g1 0),(18,.bool false),(20,iv a0.Speed)] (fun w hh=>(hh.box 0 rfl rfl)) ?_
    obtain ⟨y4,hy4,heq⟩:=bind_some heq
    refine RgH.does (DoesH.call (d:=21) (g:=38) (args:=#[iv a0.Speed,iv 1,iv 1000]) (by kernel_rfl) (workers_within_c (a0:=a0.Speed) (a1:=1) (a2:=1000)  hy4)) ?_
    rintro _ _ _ _ ⟨_,rfl,rfl,rfl,rfl⟩
    refine Rk 11 [24,1] [(24,.bool (!y4)),(1,pg g1 0)] ?_
    rcases bool_cases (!y4) with hb4 | hb4
    ·replace heq:=bif_true hb4 heq
     refine RgH.val1 (v':=.bool true) (congrArg Value.bool hb4) ?_
     refine Rk 22 [1,35] [(1,pg g1 0),(35,.bool true)] ?_
     obtain rfl:=Option.some.inj heq
     refine Kg [1,35] [(1,pg g1 0),(35,.bool true)]<|Dn ?_
     exact K2
    ·replace heq:=bif_false hb4 heq
     refine RgH.val1 (v':=.bool false) (congrArg Value.bool hb4) ?_
     refine Rv 13 [1,24,26] [iv a0.From] [.load ⟨g1,4,none⟩ (iv a0.From)] [(1,pg g1 0),(24,.bool false),(26,iv a0.From)] (fun w hh=>(hh.box 0 rfl rfl)) ?_
     obtain ⟨y5,hy5,heq⟩:=bind_some heq
     refine RgH.does (DoesH.call (d:=27) (g:=39) (args:=#[iv a0.From]) (by kernel_rfl) (workers_isMoment_c (a0:=a0.From)  hy5)) ?_
     rintro _ _ _ _ ⟨_,rfl,rfl,rfl,rfl⟩
     refine Rk 17 [30,1] [(30,.bool (!y5)),(1,pg g1 0)] ?_
     rcases bool_cases (!y5) with hb5 | hb5
     ·replace heq:=bif_true hb5 heq
      refine RgH.val1 (v':=.bool true) (congrArg Value.bool hb5) ?_
      refine Rk 22 [1,35] [(1,pg g1 0),(35,.bool true)] ?_
      obtain rfl:=Option.some.inj heq
      refine Kg [1,35] [(1,pg g1 0),(35,.bool true)]<|Dn ?_
      exact K2
     ·replace heq:=bif_false hb5 heq
      refine RgH.val1 (v':=.bool false) (congrArg Value.bool hb5) ?_
      refine Rv 19 [1,30,32] [iv a0.To] [.load ⟨g1,5,none⟩ (iv a0.To)] [(1,pg g1 0),(30,.bool false),(32,iv a0.To)] (fun w hh=>(hh.box 0 rfl rfl)) ?_
      obtain ⟨y6,hy6,heq⟩:=bind_some heq
      refine RgH.does (DoesH.call (d:=33) (g:=39) (args:=#[iv a0.To]) (by kernel_rfl) (workers_isMoment_c (a0:=a0.To)  hy6)) ?_
      rintro _ _ _ _ ⟨_,rfl,rfl,rfl,rfl⟩
      refine Rk 22 [1,35] [(1,pg g1 0),(35,.bool (!y6))] ?_
      obtain rfl:=Option.some.inj heq
      refine Kg [1,35] [(1,pg g1 0),(35,.bool (!y6))]<|Dn ?_
      exact K2
noncomputable def C23:Ctx:={ P:=Tryd.prog,f:=23,N:=44,c:=bodyOf Tryd.f23 }
def S23 (F:List Ch) (H0:Hp) (r:Int) (v:Value) (H:Hp) (cs:List Ch):Prop:=H0=H∧v=iv r∧F=cs
theorem workers_checkWork.e1_c {w0:World} {H:Hp} {F:List Ch} {r:Int}:workers_checkWork.e1=some r→RunH C23 (S23 F H r) H w0 [.c [1,1,1,1,1,0],.c [1,1,1,1,1,1]] [] H (F):=by
 intro   heq
 unfold workers_checkWork.e1 at heq
 refine Rr<|Rd 1 [2] [(2,iv 0)] ?_
 obtain rfl:=Option.some.inj heq
 exact RunH.done (by kernel_rfl) Tryd.func23 (v:=iv 0) (by kernel_rfl) ⟨rfl,rfl,rfl⟩
theorem workers_checkWork.l2_c {w0:World} {H:Hp} {F:List Ch} {r:Int} (e1:Option Int)
  (he1:e1=some r→RunH C23 (S23 F H r) H w0 [.c [1,1,1,1,1,0],.c [1,1,1,1,1,1]] [] H (F)):∀ (k:Nat),∀ (a0:Work) (Aa0_1:Option Addr) (ca0_1:Nat) (Aa0_3:Option Addr) (ca0_3:Nat) (g1:Nat) (v23:Int) ,Rw kPair H F Aa0_1 a0.Needs→a0.Needs.length≤ca0_1→Rw Kd.string H F Aa0_3 a0.After→a0.After.length≤ca0_3→workers_checkWork.l2 e1 k a0 v23=some r→RunH C23 (S23 F H r) H w0 [.c [1,1,1,1,0,1,0,0],.l [1,1,1,1,0,1,0,0],.b 0,.c [1,1,1,1,1]] [(1,pg g1 0),(21,.slice Aa0_3 a0.After.length ca0_3),(22,iv (a0.After.length:Int)),(23,iv v23)] H ((some (g1,.cells #[.string a0.Id,.slice Aa0_1 a0.Needs.length ca0_1,iv a0.Size,.slice Aa0_3 a0.After.length ca0_3] 30 (0,0)))::F):=by
 intro k
 induction k with
 | zero=>intro a0 Aa0_1 ca0_1 Aa0_3 ca0_3 g1 v23 hra0_1 hca0_1 hra0_3 hca0_3 heq; exact nomatch (show (none:Option Int)=some r from heq)
 | succ k ihk =>
  intro a0 Aa0_1 ca0_1 Aa0_3 ca0_3 g1 v23 hra0_1 hca0_1 hra0_3 hca0_3 heq
  rw [workers_checkWork.l2] at heq
  refine Ra 1 [1,1,1,1,0,1,0,0,0] [.c [1,1,1,1,0,1,0,0,1],.l [1,1,1,1,0,1,0,0],.b 0,.c [1,1,1,1,1]]<|Rd 1 [1,21,22,23,24] [(1,pg g1 0),(21,.slice Aa0_3 a0.After.length ca0_3),(22,iv (a0.After.length:Int)),(23,iv v23),(24,.bool (decide (v23<(a0.After.length:Int))))]<|Ad 1 [.c [1,1,1,1,0,1,0,0,1,0],.c [1,1,1,1,0,1,0,0,1,1],.l [1,1,1,1,0,1,0,0],.b 0,.c [1,1,1,1,1]] ?_
  rcases bool_cases (decide (v23<(a0.After.length:Int))) with hb4 | hb4
  ·replace heq:=bif_true hb4 heq
   refine Ct (decide (v23<(a0.After.length:Int))) hb4<|Ra 4 [1,1,1,1,0,1,0,0,1,1,0,0,0] [.c [1,1,1,1,0,1,0,0,1,1,0,0,1],.b 1,.c [1,1,1,1,0,1,0,0,1,1,1],.l [1,1,1,1,0,1,0,0],.b 0,.c [1,1,1,1,1]] ?_
   obtain ⟨x1,hx1,heq⟩:=bind_some heq
   obtain ⟨ha1,cs1,hK1,hcc1⟩:=hra0_3.get hx1
   obtain rfl:cs1=[.string x1]:=hK1
   refine Rw' 5 [1,4,5,21,22,23] [.string x1] [.need (Aa0_3=some (adr Aa0_3)∧(0:Int)≤v23∧v23<((a0.After.length:Nat):Int)),.load ((adr Aa0_3).add (v23.toNat*1)) (.string x1)] [(1,pg g1 0),(4,iv v23),(5,.string x1),(21,.slice Aa0_3 a0.After.length ca0_3),(22,iv (a0.After.length:Int)),(23,iv v23)] (fun w hh=>⟨⟨ha1,(at?_some hx1).1,(at?_some hx1).2.1⟩,(hcc1 _ _ (hh.drop 1) 0 _ rfl)⟩)<|Ra 2 [1,1,1,1,0,1,0,0,1,1,0,0,1,0,0] [.c [1,1,1,1,0,1,0,0,1,1,0,0,1,0,1],.c [1,1,1,1,0,1,0,0,1,1,0,0,1,1],.b 1,.c [1,1,1,1,0,1,0,0,1,1,1],.l [1,1,1,1,0,1,0,0],.b 0,.c [1,1,1,1,1]]<|Rk 1 [1,4,5,21,22,23,28] [(1,pg g1 0),(4,iv v23),(5,.string x1),(21,.slice Aa0_3 a0.After.length ca0_3),(22,iv (a0.After.length:Int)),(23,iv v23),(28,.string x1)] ?_
   obtain ⟨y4,hy4,heq⟩:=bind_some heq
   refine RgH.does (DoesH.call (d:=29) (g:=36) (args:=#[.string x1]) (by kernel_rfl) (config_IsWord_c (a0:=x1)  hy4)) ?_
   rintro _ _ _ _ ⟨_,rfl,rfl,rfl,rfl⟩
   refine Rd 3 [1,4,5,21,22,23,30] [(1,pg g1 0),(4,iv v23),(5,.string x1),(21,.slice Aa0_3 a0.After.length ca0_3),(22,iv (a0.After.length:Int)),(23,iv v23),(30,.bool (!y4))] ?_
   rcases bool_cases (!y4) with hb5 | hb5
   ·replace heq:=bif_true hb5 heq
    refine Ct (!y4) hb5<|Ra 1 [1,1,1,1,0,1,0,0,1,1,0,0,1,0,1,0,0] [.c [1,1,1,1,0,1,0,0,1,1,0,0,1,0,1,0,1],.c [1,1,1,1,0,1,0,0,1,1,0,0,1,1],.b 1,.c [1,1,1,1,0,1,0,0,1,1,1],.l [1,1,1,1,0,1,0,0],.b 0,.c [1,1,1,1,1]]<|Rd 1 [2] [(2,iv 5)] ?_
    obtain rfl:=Option.some.inj heq
    refine RunH.pick 1 [] (cs':=F) (by kernel_rfl) rfl ?_
    exact RunH.done (by kernel_rfl) Tryd.func23 (v:=iv 5) (by kernel_rfl) ⟨rfl,rfl,rfl⟩
   ·replace heq:=bif_false hb5 heq
    refine Cf (!y4) hb5<|Ad 2 [.c [1,1,1,1,0,1,0,0,1,1,0,0,1,1,0],.c [1,1,1,1,0,1,0,0,1,1,0,0,1,1,1],.b 1,.c [1,1,1,1,0,1,0,0,1,1,1],.l [1,1,1,1,0,1,0,0],.b 0,.c [1,1,1,1,1]] ?_
    obtain ⟨t1,ht1,heq⟩:=bind_some heq
    have K2:RunH C23 (S23 F H r) H w0 [.c [1,1,1,1,0,1,0,0,1,1,0,0,1,1,1],.b 1,.c [1,1,1,1,0,1,0,0,1,1,1],.l [1,1,1,1,0,1,0,0],.b 0,.c [1,1,1,1,1]] [(1,pg g1 0),(21,.slice Aa0_3 a0.After.length ca0_3),(22,iv (a0.After.length:Int)),(23,iv v23),(42,.bool t1)] H ((some (g1,.cells #[.string a0.Id,.slice Aa0_1 a0.Needs.length ca0_1,iv a0.Size,.slice Aa0_3 a0.After.length ca0_3] 30 (0,0)))::F):=by
     rcases bool_cases (t1) with hb7 | hb7
     ·replace heq:=bif_true hb7 heq
      refine Ct t1 hb7<|Ra 1 [1,1,1,1,0,1,0,0,1,1,0,0,1,1,1,0,0] [.c [1,1,1,1,0,1,0,0,1,1,0,0,1,1,1,0,1],.b 1,.c [1,1,1,1,0,1,0,0,1,1,1],.l [1,1,1,1,0,1,0,0],.b 0,.c [1,1,1,1,1]]<|Rd 1 [2] [(2,iv 8)] ?_
      obtain rfl:=Option.some.inj heq
      refine RunH.pick 1 [] (cs':=F) (by kernel_rfl) rfl ?_
      exact RunH.done (by kernel_rfl) Tryd.func23 (v:=iv 8) (by kernel_rfl) ⟨rfl,rfl,rfl⟩
     ·replace heq:=bif_false hb7 heq
      refine Cf t1 hb7<|Ra 2 [1,1,1,1,0,1,0,0,1,1,1] [.l [1,1,1,1,0,1,0,0],.b 0,.c [1,1,1,1,1]]<|Rd 2 [1,21,22,23] [(1,pg g1 0),(21,.slice Aa0_3 a0.After.length ca0_3),(22,iv (a0.After.length:Int)),(23,iv (w64 (v23+1)))]<|Ad 1 [.c [1,1,1,1,0,1,0,0],.l [1,1,1,1,0,1,0,0],.b 0,.c [1,1,1,1,1]]<|Kp [1,21,22,23] [(1,pg g1 0),(21,.slice Aa0_3 a0.After.length ca0_3),(22,iv (a0.After.length:Int)),(23,iv (w64 (v23+1)))] ?_
      exact ihk a0 _ _ _ _ _ (w64 (v23+1)) hra0_1 hca0_1 hra0_3 hca0_3 heq
    replace heq:=ht1
    refine Rr<|Rk 3 [33,1,4,5,21,22,23] [(33,.bool (decide (0<v23))),(1,pg g1 0),(4,iv v23),(5,.string x1),(21,.slice Aa0_3 a0.After.length ca0_3),(22,iv (a0.After.length:Int)),(23,iv v23)] ?_
    rcases bool_cases (decide (0<v23)) with hb6 | hb6
    ·replace heq:=bif_true hb6 heq
     refine RgH.val1 (v':=.bool true) (congrArg Value.bool hb6) ?_
     obtain ⟨x2,hx2,heq⟩:=bind_some heq
     obtain ⟨ha2,cs2,hK2,hcc2⟩:=hra0_3.get hx2
     obtain rfl:cs2=[.string x2]:=hK2
     refine Rv 12 [1,21,22,23,42] [.slice Aa0_3 a0.After.length ca0_3,.string x2] [.load ⟨g1,3,none⟩ (.slice Aa0_3 a0.After.length ca0_3),.need (Aa0_3=some (adr Aa0_3)∧(0:Int)≤(w64 (v23 - 1))∧(w64 (v23 - 1))<((a0.After.length:Nat):Int)),.load ((adr Aa0_3).add ((w64 (v23 - 1)).toNat*1)) (.string x2)] [(1,pg g1 0),(21,.slice Aa0_3 a0.After.length ca0_3),(22,iv (a0.After.length:Int)),(23,iv v23),(42,.bool (sLt x1 x2||sEq x1 x2))] (fun w hh=>⟨(hh.box 0 rfl rfl),⟨ha2,(at?_some hx2).1,(at?_some hx2).2.1⟩,(hcc2 _ _ (hh.drop 1) 0 _ rfl)⟩) ?_
     obtain rfl:=Option.some.inj heq
     refine Kg [1,21,22,23,42] [(1,pg g1 0),(21,.slice Aa0_3 a0.After.length ca0_3),(22,iv (a0.After.length:Int)),(23,iv v23),(42,.bool (sLt x1 x2||sEq x1 x2))]<|Dn ?_
     exact K2
    ·replace heq:=bif_false hb6 heq
     refine RgH.val1 (v':=.bool false) (congrArg Value.bool hb6) ?_
     refine Rk 12 [1,21,22,23,42] [(1,pg g1 0),(21,.slice Aa0_3 a0.After.length ca0_3),(22,iv (a0.After.length:Int)),(23,iv v23),(42,.bool false)] ?_
     obtain rfl:=Option.some.inj heq
     refine Kg [1,21,22,23,42] [(1,pg g1 0),(21,.slice Aa0_3 a0.After.length ca0_3),(22,iv (a0.After.length:Int)),(23,iv v23),(42,.bool false)]<|Dn ?_
     exact K2
  ·replace heq:=bif_false hb4 heq
   refine Cf (decide (v23<(a0.After.length:Int))) hb4<|Ad 2 [.c [1,1,1,1,1,0],.c [1,1,1,1,1,1]]<|Kp [] [] ?_
   refine RunH.pick 1 [] (cs':=F) (by kernel_rfl) rfl ?_
   exact he1 heq
theorem workers_checkWork_c {w0:World} {H:Hp} {F:List Ch} {a0:Work} {Aa0_1:Option Addr} {na0_1:Nat} {ca0_1:Nat} {Aa0_3:Option Addr} {na0_3:Nat} {ca0_3:Nat} {r:Int} (hra0_1:Rw kPair H F Aa0_1 a0.Needs) (hca0_1:na0_1≤ca0_1) (hna0_1:na0_1=a0.Needs.length) (hra0_3:Rw Kd.string H F Aa0_3 a0.After) (hca0_3:na0_3≤ca0_3) (hna0_3:na0_3=a0.After.length) (heq:workers_checkWork.f a0=some r):CallsH Tryd.prog 23 #[.agg #[.string a0.Id,.slice Aa0_1 na0_1 ca0_1,iv a0.Size,.slice Aa0_3 na0_3 ca0_3]] H w0 (F) (S23 F H r):=by
 refine calls_of_runH (F:=C23) Tryd.func23 (by kernel_rfl) Tryd.ntmps23 (args:=[.agg #[.string a0.Id,.slice Aa0_1 na0_1 ca0_1,iv a0.Size,.slice Aa0_3 na0_3 ca0_3]]) (by kernel_rfl) ?_
 subst hna0_1
 subst hna0_3
 unfold workers_checkWork.f at heq
 refine Ra 1 [0] [.c [1]] ?_
 refine RgH.does (DoesH.new (d:=1) (v:=fun g=>.pointer (some ⟨g,0,none⟩)) (o:=fun g=>.cells #[.string a0.Id,.slice Aa0_1 a0.Needs.length ca0_1,iv a0.Size,.slice Aa0_3 a0.After.length ca0_3] 30 (0,0)) (fun g=>by kernel_rfl)) ?_
 rintro _ _ _ _ ⟨g1,rfl,rfl,rfl⟩
 refine Rd 2 [1] [(1,pg g1 0)]<|Ra 2 [1,0,0] [.c [1,0,1],.c [1,1]]<|Rv 2 [1,7] [.string a0.Id] [.load ⟨g1,0,none⟩ (.string a0.Id)] [(1,pg g1 0),(7,.string a0.Id)] (fun w hh=>(hh.box 0 rfl rfl)) ?_
 obtain ⟨y1,hy1,heq⟩:=bind_some heq
 refine RgH.does (DoesH.call (d:=8) (g:=36) (args:=#[.string a0.Id]) (by kernel_rfl) (config_IsWord_c (a0:=a0.Id)  hy1)) ?_
 rintro _ _ _ _ ⟨_,rfl,rfl,rfl,rfl⟩
 refine Rd 4 [1,9] [(1,pg g1 0),(9,.bool (!y1))] ?_
 rcases bool_cases (!y1) with hb1 | hb1
 ·replace heq:=bif_true hb1 heq
  refine Ct (!y1) hb1<|Ra 1 [1,0,1,0,0] [.c [1,0,1,0,1],.c [1,1]]<|Rd 1 [2] [(2,iv 5)] ?_
  obtain rfl:=Option.some.inj heq
  refine RunH.pick 1 [] (cs':=F) (by kernel_rfl) rfl ?_
  exact RunH.done (by kernel_rfl) Tryd.func23 (v:=iv 5) (by kernel_rfl) ⟨rfl,rfl,rfl⟩
 ·replace heq:=bif_false hb1 heq
  refine Cf (!y1) hb1<|Ra 3 [1,1,0,0] [.c [1,1,0,1],.c [1,1,1]]<|Rv 2 [1,11] [.slice Aa0_1 a0.Needs.length ca0_1] [.load ⟨g1,1,none⟩ (.slice Aa0_1 a0.Needs.length ca0_1)] [(1,pg g1 0),(11,.slice Aa0_1 a0.Needs.length ca0_1)] (fun w hh=>(hh.box 0 rfl rfl)) ?_
  obtain ⟨y2,hy2,heq⟩:=bind_some heq
  refine RgH.does (DoesH.call (d:=12) (g:=37) (args:=#[.slice Aa0_1 a0.Needs.length ca0_1]) (by kernel_rfl) (config_CheckPairs_c (a0:=a0.Needs) (hra0_1.wk (fun _ h=>(.tail _ h))) hca0_1 rfl hy2)) ?_
  rintro _ _ _ _ ⟨_,rfl,rfl,rfl,rfl⟩
  refine Rd 4 [1,3] [(1,pg g1 0),(3,iv y2)]<|Ra 1 [1,1,0,1,0] [.c [1,1,0,1,1],.c [1,1,1]]<|Rd 2 [1,3,14] [(1,pg g1 0),(3,iv y2),(14,.bool (y2 != 0))] ?_
  rcases bool_cases (y2 != 0) with hb2 | hb2
  ·replace heq:=bif_true hb2 heq
   refine Ct (y2 != 0) hb2<|Ra 1 [1,1,0,1,1,0,0] [.c [1,1,0,1,1,0,1],.c [1,1,1]]<|Rd 2 [2] [(2,iv y2)] ?_
   obtain rfl:=Option.some.inj heq
   refine RunH.pick 1 [] (cs':=F) (by kernel_rfl) rfl ?_
   exact RunH.done (by kernel_rfl) Tryd.func23 (v:=iv y2) (by kernel_rfl) ⟨rfl,rfl,rfl⟩
  ·replace heq:=bif_false hb2 heq
   refine Cf (y2 != 0) hb2<|Ra 3 [1,1,1,0,0] [.c [1,1,1,0,1],.c [1,1,1,1]]<|Rv 2 [1,17] [iv a0.Size] [.load ⟨g1,2,none⟩ (iv a0.Size)] [(1,pg g1 0),(17,iv a0.Size)] (fun w hh=>(hh.box 0 rfl rfl)) ?_
   obtain ⟨y3,hy3,heq⟩:=bind_some heq
   refine RgH.does (DoesH.call (d:=18) (g:=38) (args:=#[iv a0.Size,iv 1,iv 1000000]) (by kernel_rfl) (workers_within_c (a0:=a0.Size) (a1:=1) (a2:=1000000)  hy3)) ?_
   rintro _ _ _ _ ⟨_,rfl,rfl,rfl,rfl⟩
   refine Rd 4 [1,19] [(1,pg g1 0),(19,.bool (!y3))] ?_
   rcases bool_cases (!y3) with hb3 | hb3
   ·replace heq:=bif_true hb3 heq
    refine Ct (!y3) hb3<|Ra 1 [1,1,1,0,1,0,0] [.c [1,1,1,0,1,0,1],.c [1,1,1,1]]<|Rd 1 [2] [(2,iv 1)] ?_
    obtain rfl:=Option.some.inj heq
    refine RunH.pick 1 [] (cs':=F) (by kernel_rfl) rfl ?_
    exact RunH.done (by kernel_rfl) Tryd.func23 (v:=iv 1) (by kernel_rfl) ⟨rfl,rfl,rfl⟩
   ·replace heq:=bif_false hb3 heq
    refine Cf (!y3) hb3<|Ra 3 [1,1,1,1,0,0] [.c [1,1,1,1,0,1],.c [1,1,1,1,1]]<|Rw' 4 [1,21,22,23] [.slice Aa0_3 a0.After.length ca0_3] [.load ⟨g1,3,none⟩ (.slice Aa0_3 a0.After.length ca0_3)] [(1,pg g1 0),(21,.slice Aa0_3 a0.After.length ca0_3),(22,iv (a0.After.length:Int)),(23,iv 0)] (fun w hh=>(hh.box 0 rfl rfl))<|Ad 2 [.c [1,1,1,1,0,1,0,0],.l [1,1,1,1,0,1,0,0],.b 0,.c [1,1,1,1,1]]<|Kp [1,21,22,23] [(1,pg g1 0),(21,.slice Aa0_3 a0.After.length ca0_3),(22,iv (a0.After.length:Int)),(23,iv 0)] ?_
    exact ((workers_checkWork.l2_c (e1:=workers_checkWork.e1) (workers_checkWork.e1_c)) big) a0 _ _ _ _ _ 0 hra0_1 hca0_1 hra0_3 hca0_3 heq
noncomputable def C54:Ctx:={ P:=Tryd.prog,f:=54,N:=19,c:=bodyOf Tryd.f54 }
def S54 (F:List Ch) (H0:Hp) (r:Int) (v:Value) (H:Hp) (cs:List Ch):Prop:=H0=H∧v=iv r∧F=cs
theorem slices_Index_Pair.e1_c {w0:World} {H:Hp} {F:List Ch} {r:Int}:slices_Index_Pair.e1=some r→RunH C54 (S54 F H r) H w0 [.c [1,1,0],.c [1,1,1]] [] H (F):=by
 intro   heq
 unfold slices_Index_Pair.e1 at heq
 refine Rr<|Rd 1 [4] [(4,iv (-1))] ?_
 obtain rfl:=Option.some.inj heq
 exact RunH.done (by kernel_rfl) Tryd.func54 (v:=iv (-1)) (by kernel_rfl) ⟨rfl,rfl,rfl⟩
theorem slices_Index_Pair.l2_c {w0:World} {H:Hp} {F:List Ch} {r:Int} (e1:Option Int)
  (he1:e1=some r→RunH C54 (S54 F H r) H w0 [.c [1,1,0],.c [1,1,1]] [] H (F)):∀ (k:Nat),∀ (a0:List Pair) (Aa0:Option Addr) (ca0:Nat) (a1:Pair) (g1:Nat) (v8:Int) ,Rw kPair H F Aa0 a0→a0.length≤ca0→slices_Index_Pair.l2 e1 k a0 a1 v8=some r→RunH C54 (S54 F H r) H w0 [.c [1,0,1,0,0],.l [1,0,1,0,0],.b 0,.c [1,1]] [(0,.slice Aa0 a0.length ca0),(3,pg g1 0),(7,iv (a0.length:Int)),(8,iv v8)] H ((some (g1,.cells #[.string a1.Name,.string a1.Value] 48 (0,0)))::F):=by
 intro k
 induction k with
 | zero=>intro a0 Aa0 ca0 a1 g1 v8 hra0 hca0 heq; exact nomatch (show (none:Option Int)=some r from heq)
 | succ k ihk =>
  intro a0 Aa0 ca0 a1 g1 v8 hra0 hca0 heq
  rw [slices_Index_Pair.l2] at heq
  refine Ra 1 [1,0,1,0,0,0] [.c [1,0,1,0,0,1],.l [1,0,1,0,0],.b 0,.c [1,1]]<|Rd 1 [0,3,7,8,9] [(0,.slice Aa0 a0.length ca0),(3,pg g1 0),(7,iv (a0.length:Int)),(8,iv v8),(9,.bool (decide (v8<(a0.length:Int))))]<|Ad 1 [.c [1,0,1,0,0,1,0],.c [1,0,1,0,0,1,1],.l [1,0,1,0,0],.b 0,.c [1,1]] ?_
  rcases bool_cases (decide (v8<(a0.length:Int))) with hb1 | hb1
  ·replace heq:=bif_true hb1 heq
   refine Ct (decide (v8<(a0.length:Int))) hb1<|Ra 4 [1,0,1,0,0,1,1,0,0,0] [.c [1,0,1,0,0,1,1,0,0,1],.b 1,.c [1,0,1,0,0,1,1,1],.l [1,0,1,0,0],.b 0,.c [1,1]]<|Rd 2 [0,3,5,7,8] [(0,.slice Aa0 a0.length ca0),(3,pg g1 0),(5,iv v8),(7,iv (a0.length:Int)),(8,iv v8)]<|Ad 1 [.c [1,0,1,0,0,1,1,0,0,1,0],.c [1,0,1,0,0,1,1,0,0,1,1],.b 1,.c [1,0,1,0,0,1,1,1],.l [1,0,1,0,0],.b 0,.c [1,1]]<|Kp [0,3,5,7,8] [(0,.slice Aa0 a0.length ca0),(3,pg g1 0),(5,iv v8),(7,iv (a0.length:Int)),(8,iv v8)] ?_
   refine RunH.draw (fun w=>Heap H w0 w ((some (g1,.cells #[.string a1.Name,.string a1.Value] 48 (0,0)))::F)) (fun w=>Heap H w0 w ((some (g1,.cells #[.string a1.Name,.string a1.Value] 48 (0,0)))::F)) [3,3,3,3,3,3] (n:=6) (ls:=[false,false,false,false,false,false]) (by kernel_rfl) (by kernel_rfl) (by kernel_rfl) rfl ?_
   obtain ⟨x1,hx1,heq⟩:=bind_some heq
   obtain ⟨ha1,cs1,hK1,hcc1⟩:=hra0.get hx1
   obtain ⟨rfl⟩:=kPair_open hK1
   refine Dk [0,1,2,3,4,5] 0 (nb 6 63) [.string a1.Name,.string a1.Value,.string x1.Name,.string x1.Value] [.load ⟨g1,0,none⟩ (.string a1.Name),.load ⟨g1,1,none⟩ (.string a1.Value),.need (Aa0=some (adr Aa0)∧(0:Int)≤v8∧v8<((a0.length:Nat):Int)),.load (((adr Aa0).add (v8.toNat*2)).add 0) (.string x1.Name),.load (((adr Aa0).add (v8.toNat*2)).add 1) (.string x1.Value)] [0,3,5,7,8,16] [(0,.slice Aa0 a0.length ca0),(3,pg g1 0),(5,iv v8),(7,iv (a0.length:Int)),(8,iv v8),(16,.bool (sEq a1.Name x1.Name&&(sEq a1.Value x1.Value&&true)))] (Pk 1 [0]) (Pk 1 [0]) (fun w hh=>⟨(hh.box 0 rfl rfl),(hh.box 0 rfl rfl),⟨ha1,(at?_some hx1).1,(at?_some hx1).2.1⟩,(hcc1 _ _ (hh.drop 1) 0 _ rfl),(hcc1 _ _ (hh.drop 1) 1 _ rfl)⟩) ?_
   refine DrH.done (by kernel_rfl) ?_
   rcases bool_cases ((sEq a1.Name x1.Name&&(sEq a1.Value x1.Value&&true))) with hb2 | hb2
   ·replace heq:=bif_true hb2 heq
    refine Ct ((sEq a1.Name x1.Name&&(sEq a1.Value x1.Value&&true))) hb2<|Ra 1 [1,0,1,0,0,1,1,0,0,1,1,0,0] [.c [1,0,1,0,0,1,1,0,0,1,1,0,1],.b 1,.c [1,0,1,0,0,1,1,1],.l [1,0,1,0,0],.b 0,.c [1,1]]<|Rd 2 [4] [(4,iv v8)] ?_
    obtain rfl:=Option.some.inj heq
    refine RunH.pick 1 [] (cs':=F) (by kernel_rfl) rfl ?_
    exact RunH.done (by kernel_rfl) Tryd.func54 (v:=iv v8) (by kernel_rfl) ⟨rfl,rfl,rfl⟩
   ·replace heq:=bif_false hb2 heq
    refine Cf ((sEq a1.Name x1.Name&&(sEq a1.Value x1.Value&&true))) hb2<|Ra 2 [1,0,1,0,0,1,1,1] [.l [1,0,1,0,0],.b 0,.c [1,1]]<|Rd 2 [0,3,7,8] [(0,.slice Aa0 a0.length ca0),(3,pg g1 0),(7,iv (a0.length:Int)),(8,iv (w64 (v8+1)))]<|Ad 1 [.c [1,0,1,0,0],.l [1,0,1,0,0],.b 0,.c [1,1]]<|Kp [0,3,7,8] [(0,.slice Aa0 a0.length ca0),(3,pg g1 0),(7,iv (a0.length:Int)),(8,iv (w64 (v8+1)))] ?_
    exact ihk a0 _ _ a1 _ (w64 (v8+1)) hra0 hca0 heq
  ·replace heq:=bif_false hb1 heq
   refine Cf (decide (v8<(a0.length:Int))) hb1<|Ad 2 [.c [1,1,0],.c [1,1,1]]<|Kp [] [] ?_
   refine RunH.pick 1 [] (cs':=F) (by kernel_rfl) rfl ?_
   exact he1 heq
theorem slices_Index_Pair_c {w0:World} {H:Hp} {F:List Ch} {a0:List Pair} {Aa0:Option Addr} {na0:Nat} {ca0:Nat} {a1:Pair} {r:Int} (hra0:Rw kPair H F Aa0 a0) (hca0:na0≤ca0) (hna0:na0=a0.length) (heq:slices_Index_Pair.f a0 a1=some r):CallsH Tryd.prog 54 #[.slice Aa0 na0 ca0,.agg #[.string a1.Name,.string a1.Value]] H w0 (F) (S54 F H r):=by
 refine calls_of_runH (F:=C54) Tryd.func54 (by kernel_rfl) Tryd.ntmps54 (args:=[.slice Aa0 na0 ca0,.agg #[.string a1.Name,.string a1.Value]]) (by kernel_rfl) ?_
 subst hna0
 unfold slices_Index_Pair.f at heq
 refine Ra 1 [0] [.c [1]] ?_
 refine RgH.does (DoesH.new (d:=3) (v:=fun g=>.pointer (some ⟨g,0,none⟩)) (o:=fun g=>.cells #[.string a1.Name,.string a1.Value] 48 (0,0)) (fun g=>by kernel_rfl)) ?_
 rintro _ _ _ _ ⟨g1,rfl,rfl,rfl⟩
 refine Rd 2 [0,3] [(0,.slice Aa0 a0.length ca0),(3,pg g1 0)]<|Ra 2 [1,0,0] [.c [1,0,1],.c [1,1]]<|Rd 3 [0,3,7,8] [(0,.slice Aa0 a0.length ca0),(3,pg g1 0),(7,iv (a0.length:Int)),(8,iv 0)]<|Ad 2 [.c [1,0,1,0,0],.l [1,0,1,0,0],.b 0,.c [1,1]]<|Kp [0,3,7,8] [(0,.slice Aa0 a0.length ca0),(3,pg g1 0),(7,iv (a0.length:Int)),(8,iv 0)] ?_
 exact ((slices_Index_Pair.l2_c (e1:=slices_Index_Pair.e1) (slices_Index_Pair.e1_c)) big) a0 _ _ a1 _ 0 hra0 hca0 heq
noncomputable def C41:Ctx:={ P:=Tryd.prog,f:=41,N:=9,c:=bodyOf Tryd.f41 }
def S41 (F:List Ch) (H0:Hp) (r:Bool) (v:Value) (H:Hp) (cs:List Ch):Prop:=H0=H∧v=.bool r∧F=cs
theorem slices_Contains_Pair_c {w0:World} {H:Hp} {F:List Ch} {a0:List Pair} {Aa0:Option Addr} {na0:Nat} {ca0:Nat} {a1:Pair} {r:Bool} (hra0:Rw kPair H F Aa0 a0) (hca0:na0≤ca0) (hna0:na0=a0.length) (heq:slices_Contains_Pair.f a0 a1=some r):CallsH Tryd.prog 41 #[.slice Aa0 na0 ca0,.agg #[.string a1.Name,.string a1.Value]] H w0 (F) (S41 F H r):=by
 refine calls_of_runH (F:=C41) Tryd.func41 (by kernel_rfl) Tryd.ntmps41 (args:=[.slice Aa0 na0 ca0,.agg #[.string a1.Name,.string a1.Value]]) (by kernel_rfl) ?_
 subst hna0
 unfold slices_Contains_Pair.f at heq
 refine Ra 1 [0] [.c [1]] ?_
 refine RgH.does (DoesH.new (d:=3) (v:=fun g=>.pointer (some ⟨g,0,none⟩)) (o:=fun g=>.cells #[.string a1.Name,.string a1.Value] 48 (0,0)) (fun g=>by kernel_rfl)) ?_
 rintro _ _ _ _ ⟨g1,rfl,rfl,rfl⟩
 refine Rd 2 [0,3] [(0,.slice Aa0 a0.length ca0),(3,pg g1 0)]<|Ra 1 [1,0] [.c [1,1]]<|Rv 2 [5,6] [.string a1.Name,.string a1.Value] [.load ⟨g1,0,none⟩ (.string a1.Name),.load ⟨g1,1,none⟩ (.string a1.Value)] [(5,.slice Aa0 a0.length ca0),(6,.agg #[.string a1.Name,.string a1.Value])] (fun w hh=>⟨(hh.box 0 rfl rfl),(hh.box 0 rfl rfl)⟩) ?_
 obtain ⟨y1,hy1,heq⟩:=bind_some heq
 refine RgH.does (DoesH.call (d:=7) (g:=54) (args:=#[.slice Aa0 a0.length ca0,.agg #[.string a1.Name,.string a1.Value]]) (by kernel_rfl) (slices_Index_Pair_c (a0:=a0) (a1:=a1) (hra0.wk (fun _ h=>(.tail _ h))) hca0 rfl hy1)) ?_
 rintro _ _ _ _ ⟨_,rfl,rfl,rfl,rfl⟩
 refine Rd 5 [4] [(4,.bool (decide (0≤y1)))] ?_
 obtain rfl:=Option.some.inj heq
 refine RunH.pick 1 [] (cs':=F) (by kernel_rfl) rfl ?_
 exact RunH.done (by kernel_rfl) Tryd.func41 (v:=.bool (decide (0≤y1))) (by kernel_rfl) ⟨rfl,rfl,rfl⟩
noncomputable def C24:Ctx:={ P:=Tryd.prog,f:=24,N:=18,c:=bodyOf Tryd.f24 }
def S24 (F:List Ch) (H0:Hp) (r:Bool) (v:Value) (H:Hp) (cs:List Ch):Prop:=H0=H∧v=.bool r∧F=cs
theorem config_Fit.e1_c {w0:World} {H:Hp} {F:List Ch} {r:Bool}:config_Fit.e1=some r→RunH C24 (S24 F H r) H w0 [.c [1,1,0],.c [1,1,1]] [] H (F):=by
 intro   heq
 unfold config_Fit.e1 at heq
 refine Rr<|Rd 1 [4] [(4,.bool true)] ?_
 obtain rfl:=Option.some.inj heq
 exact RunH.done (by kernel_rfl) Tryd.func24 (v:=.bool true) (by kernel_rfl) ⟨rfl,rfl,rfl⟩
theorem config_Fit.l2_c {w0:World} {H:Hp} {F:List Ch} {r:Bool} (e1:Option Bool)
  (he1:e1=some r→RunH C24 (S24 F H r) H w0 [.c [1,1,0],.c [1,1,1]] [] H (F)):∀ (k:Nat),∀ (a0:List Pair) (Aa0:Option Addr) (ca0:Nat) (a1:List Pair) (Aa1:Option Addr) (ca1:Nat) (v9:Int) ,Rw kPair H F Aa0 a0→a0.length≤ca0→Rw kPair H F Aa1 a1→a1.length≤ca1→config_Fit.l2 e1 k a0 a1 v9=some r→RunH C24 (S24 F H r) H w0 [.c [1,0,1,0,0],.l [1,0,1,0,0],.b 0,.c [1,1]] [(1,.slice Aa1 a1.length ca1),(7,.slice Aa0 a0.length ca0),(8,iv (a0.length:Int)),(9,iv v9)] H (F):=by
 intro k
 induction k with
 | zero=>intro a0 Aa0 ca0 a1 Aa1 ca1 v9 hra0 hca0 hra1 hca1 heq; exact nomatch (show (none:Option Bool)=some r from heq)
 | succ k ihk =>
  intro a0 Aa0 ca0 a1 Aa1 ca1 v9 hra0 hca0 hra1 hca1 heq
  rw [config_Fit.l2] at heq
  refine Ra 1 [1,0,1,0,0,0] [.c [1,0,1,0,0,1],.l [1,0,1,0,0],.b 0,.c [1,1]]<|Rd 1 [1,7,8,9,10] [(1,.slice Aa1 a1.length ca1),(7,.slice Aa0 a0.length ca0),(8,iv (a0.length:Int)),(9,iv v9),(10,.bool (decide (v9<(a0.length:Int))))]<|Ad 1 [.c [1,0,1,0,0,1,0],.c [1,0,1,0,0,1,1],.l [1,0,1,0,0],.b 0,.c [1,1]] ?_
  rcases bool_cases (decide (v9<(a0.length:Int))) with hb1 | hb1
  ·replace heq:=bif_true hb1 heq
   refine Ct (decide (v9<(a0.length:Int))) hb1<|Ra 4 [1,0,1,0,0,1,1,0,0,0] [.c [1,0,1,0,0,1,1,0,0,1],.b 1,.c [1,0,1,0,0,1,1,1],.l [1,0,1,0,0],.b 0,.c [1,1]] ?_
   obtain ⟨x1,hx1,heq⟩:=bind_some heq
   obtain ⟨ha1,cs1,hK1,hcc1⟩:=hra0.get hx1
   obtain ⟨rfl⟩:=kPair_open hK1
   refine Rv 2 [1,7,8,9,12] [.string x1.Name,.string x1.Value] [.need (Aa0=some (adr Aa0)∧(0:Int)≤v9∧v9<((a0.length:Nat):Int)),.load (((adr Aa0).add (v9.toNat*2)).add 0) (.string x1.Name),.load (((adr Aa0).add (v9.toNat*2)).add 1) (.string x1.Value)] [(1,.slice Aa1 a1.length ca1),(7,.slice Aa0 a0.length ca0),(8,iv (a0.length:Int)),(9,iv v9),(12,.agg #[.string x1.Name,.string x1.Value])] (fun w hh=>⟨⟨ha1,(at?_some hx1).1,(at?_some hx1).2.1⟩,(hcc1 _ _ (hh.drop 0) 0 _ rfl),(hcc1 _ _ (hh.drop 0) 1 _ rfl)⟩) ?_
   refine RgH.does (DoesH.new (d:=6) (v:=fun g=>.pointer (some ⟨g,0,none⟩)) (o:=fun g=>.cells #[.string ByteArray.empty,.string ByteArray.empty] 48 (0,0)) (fun g=>by kernel_rfl)) ?_
   rintro _ _ _ _ ⟨g1,rfl,rfl,rfl⟩
   refine RgH.does (DoesH.store (k:=0) (g:=g1) (off:=0) (v:=.agg #[.string x1.Name,.string x1.Value]) (cells':=#[.string x1.Name,.string x1.Value]) (by kernel_rfl) rfl (by kernel_rfl) (by kernel_rfl)) ?_
   rintro _ _ _ _ ⟨rfl,rfl,rfl⟩
   refine Dn<|Ra 1 [1,0,1,0,0,1,1,0,0,1,0] [.c [1,0,1,0,0,1,1,0,0,1,1],.b 1,.c [1,0,1,0,0,1,1,1],.l [1,0,1,0,0],.b 0,.c [1,1]]<|Rv 2 [1,7,8,9,13,14] [.string x1.Name,.string x1.Value] [.load ⟨g1,0,none⟩ (.string x1.Name),.load ⟨g1,1,none⟩ (.string x1.Value)] [(1,.slice Aa1 a1.length ca1),(7,.slice Aa0 a0.length ca0),(8,iv (a0.length:Int)),(9,iv v9),(13,.slice Aa1 a1.length ca1),(14,.agg #[.string x1.Name,.string x1.Value])] (fun w hh=>⟨(hh.box 0 rfl rfl),(hh.box 0 rfl rfl)⟩) ?_
   obtain ⟨y1,hy1,heq⟩:=bind_some heq
   refine RgH.does (DoesH.call (d:=15) (g:=41) (args:=#[.slice Aa1 a1.length ca1,.agg #[.string x1.Name,.string x1.Value]]) (by kernel_rfl) (slices_Contains_Pair_c (a0:=a1) (a1:=x1) (hra1.wk (fun _ h=>(.tail _ h))) hca1 rfl hy1)) ?_
   rintro _ _ _ _ ⟨_,rfl,rfl,rfl,rfl⟩
   refine Rd 4 [1,7,8,9,16] [(1,.slice Aa1 a1.length ca1),(7,.slice Aa0 a0.length ca0),(8,iv (a0.length:Int)),(9,iv v9),(16,.bool (!y1))] ?_
   rcases bool_cases (!y1) with hb2 | hb2
   ·replace heq:=bif_true hb2 heq
    refine Ct (!y1) hb2<|Ra 1 [1,0,1,0,0,1,1,0,0,1,1,0,0] [.c [1,0,1,0,0,1,1,0,0,1,1,0,1],.b 1,.c [1,0,1,0,0,1,1,1],.l [1,0,1,0,0],.b 0,.c [1,1]]<|Rd 1 [4] [(4,.bool false)] ?_
    obtain rfl:=Option.some.inj heq
    refine RunH.pick 1 [] (cs':=F) (by kernel_rfl) rfl ?_
    exact RunH.done (by kernel_rfl) Tryd.func24 (v:=.bool false) (by kernel_rfl) ⟨rfl,rfl,rfl⟩
   ·replace heq:=bif_false hb2 heq
    refine Cf (!y1) hb2<|Ra 2 [1,0,1,0,0,1,1,1] [.l [1,0,1,0,0],.b 0,.c [1,1]]<|Rd 2 [1,7,8,9] [(1,.slice Aa1 a1.length ca1),(7,.slice Aa0 a0.length ca0),(8,iv (a0.length:Int)),(9,iv (w64 (v9+1)))]<|Ad 1 [.c [1,0,1,0,0],.l [1,0,1,0,0],.b 0,.c [1,1]]<|Kp [1,7,8,9] [(1,.slice Aa1 a1.length ca1),(7,.slice Aa0 a0.length ca0),(8,iv (a0.length:Int)),(9,iv (w64 (v9+1)))] ?_
    refine RunH.pick 1 [] (cs':=F) (by kernel_rfl) rfl ?_
    exact ihk a0 _ _ a1 _ _ (w64 (v9+1)) hra0 hca0 hra1 hca1 heq
  ·replace heq:=bif_false hb1 heq
   refine Cf (decide (v9<(a0.length:Int))) hb1<|Ad 2 [.c [1,1,0],.c [1,1,1]]<|Kp [] [] ?_
   exact he1 heq
theorem config_Fit_c {w0:World} {H:Hp} {F:List Ch} {a0:List Pair} {Aa0:Option Addr} {na0:Nat} {ca0:Nat} {a1:List Pair} {Aa1:Option Addr} {na1:Nat} {ca1:Nat} {r:Bool} (hra0:Rw kPair H F Aa0 a0) (hca0:na0≤ca0) (hna0:na0=a0.length) (hra1:Rw kPair H F Aa1 a1) (hca1:na1≤ca1) (hna1:na1=a1.length) (heq:config_Fit.f a0 a1=some r):CallsH Tryd.prog 24 #[.slice Aa0 na0 ca0,.slice Aa1 na1 ca1] H w0 (F) (S24 F H r):=by
 refine calls_of_runH (F:=C24) Tryd.func24 (by kernel_rfl) Tryd.ntmps24 (args:=[.slice Aa0 na0 ca0,.slice Aa1 na1 ca1]) (by kernel_rfl) ?_
 subst hna0
 subst hna1
 unfold config_Fit.f at heq
 refine Ra 1 [0] [.c [1]]<|Rd 1 [0,1] [(0,.slice Aa0 a0.length ca0),(1,.slice Aa1 a1.length ca1)]<|Ra 2 [1,0,0] [.c [1,0,1],.c [1,1]]<|Rd 3 [1,7,8,9] [(1,.slice Aa1 a1.length ca1),(7,.slice Aa0 a0.length ca0),(8,iv (a0.length:Int)),(9,iv 0)]<|Ad 2 [.c [1,0,1,0,0],.l [1,0,1,0,0],.b 0,.c [1,1]]<|Kp [1,7,8,9] [(1,.slice Aa1 a1.length ca1),(7,.slice Aa0 a0.length ca0),(8,iv (a0.length:Int)),(9,iv 0)] ?_
 exact ((config_Fit.l2_c (e1:=config_Fit.e1) (config_Fit.e1_c)) big) a0 _ _ a1 _ _ 0 hra0 hca0 hra1 hca1 heq
noncomputable def C8:Ctx:={ P:=Tryd.prog,f:=8,N:=23,c:=bodyOf Tryd.f8 }
def S8 (F:List Ch) (H0:Hp) (r:Bool × Int) (v:Value) (H:Hp) (cs:List Ch):Prop:=H0=H∧v=.tuple #[.bool r.1,iv r.2]∧F=cs
theorem workers_Fits_c {w0:World} {H:Hp} {F:List Ch} {a0:Worker} {Aa0_1:Option Addr} {na0_1:Nat} {ca0_1:Nat} {Aa0_6:Option Addr} {na0_6:Nat} {ca0_6:Nat} {a1:Work} {Aa1_1:Option Addr} {na1_1:Nat} {ca1_1:Nat} {Aa1_3:Option Addr} {na1_3:Nat} {ca1_3:Nat} {r:Bool × Int} (hra0_1:Rw kPair H F Aa0_1 a0.Has) (hca0_1:na0_1≤ca0_1) (hna0_1:na0_1=a0.Has.length) (hra0_6:Rw kSpan H F Aa0_6 a0.Stands) (hca0_6:na0_6≤ca0_6) (hna0_6:na0_6=a0.Stands.length) (hra1_1:Rw kPair H F Aa1_1 a1.Needs) (hca1_1:na1_1≤ca1_1) (hna1_1:na1_1=a1.Needs.length) (hra1_3:Rw Kd.string H F Aa1_3 a1.After) (hca1_3:na1_3≤ca1_3) (hna1_3:na1_3=a1.After.length) (heq:workers_Fits.f a0 a1=some r):CallsH Tryd.prog 8 #[.agg #[.string a0.Name,.slice Aa0_1 na0_1 ca0_1,iv a0.Slots,iv a0.Speed,iv a0.From,iv a0.To,.slice Aa0_6 na0_6 ca0_6],.agg #[.string a1.Id,.slice Aa1_1 na1_1 ca1_1,iv a1.Size,.slice Aa1_3 na1_3 ca1_3]] H w0 (F) (S8 F H r):=by
 refine calls_of_runH (F:=C8) Tryd.func8 (by kernel_rfl) Tryd.ntmps8 (args:=[.agg #[.string a0.Name,.slice Aa0_1 na0_1 ca0_1,iv a0.Slots,iv a0.Speed,iv a0.From,iv a0.To,.slice Aa0_6 na0_6 ca0_6],.agg #[.string a1.Id,.slice Aa1_1 na1_1 ca1_1,iv a1.Size,.slice Aa1_3 na1_3 ca1_3]]) (by kernel_rfl) ?_
 subst hna0_1
 subst hna0_6
 subst hna1_1
 subst hna1_3
 unfold workers_Fits.f at heq
 refine Ra 1 [0] [.c [1]] ?_
 refine RgH.does (DoesH.new (d:=2) (v:=fun g=>.pointer (some ⟨g,0,none⟩)) (o:=fun g=>.cells #[.string a0.Name,.slice Aa0_1 a0.Has.length ca0_1,iv a0.Slots,iv a0.Speed,iv a0.From,iv a0.To,.slice Aa0_6 a0.Stands.length ca0_6] 27 (0,0)) (fun g=>by kernel_rfl)) ?_
 rintro _ _ _ _ ⟨g1,rfl,rfl,rfl⟩
 refine RgH.does (DoesH.new (d:=3) (v:=fun g=>.pointer (some ⟨g,0,none⟩)) (o:=fun g=>.cells #[.string a1.Id,.slice Aa1_1 a1.Needs.length ca1_1,iv a1.Size,.slice Aa1_3 a1.After.length ca1_3] 30 (0,0)) (fun g=>by kernel_rfl)) ?_
 rintro _ _ _ _ ⟨g2,rfl,rfl,rfl⟩
 refine Rd 4 [2,3] [(2,pg g1 0),(3,pg g2 0)]<|Ra 2 [1,0,0] [.c [1,0,1],.c [1,1]]<|Rv 1 [2,3,8] [.string a0.Name,.slice Aa0_1 a0.Has.length ca0_1,iv a0.Slots,iv a0.Speed,iv a0.From,iv a0.To,.slice Aa0_6 a0.Stands.length ca0_6] [.load ⟨g1,0,none⟩ (.string a0.Name),.load ⟨g1,1,none⟩ (.slice Aa0_1 a0.Has.length ca0_1),.load ⟨g1,2,none⟩ (iv a0.Slots),.load ⟨g1,3,none⟩ (iv a0.Speed),.load ⟨g1,4,none⟩ (iv a0.From),.load ⟨g1,5,none⟩ (iv a0.To),.load ⟨g1,6,none⟩ (.slice Aa0_6 a0.Stands.length ca0_6)] [(2,pg g1 0),(3,pg g2 0),(8,.agg #[.string a0.Name,.slice Aa0_1 a0.Has.length ca0_1,iv a0.Slots,iv a0.Speed,iv a0.From,iv a0.To,.slice Aa0_6 a0.Stands.length ca0_6])] (fun w hh=>⟨(hh.box 1 rfl rfl),(hh.box 1 rfl rfl),(hh.box 1 rfl rfl),(hh.box 1 rfl rfl),(hh.box 1 rfl rfl),(hh.box 1 rfl rfl),(hh.box 1 rfl rfl)⟩) ?_
 obtain ⟨y1,hy1,heq⟩:=bind_some heq
 refine RgH.does (DoesH.call (d:=9) (g:=22) (args:=#[.agg #[.string a0.Name,.slice Aa0_1 a0.Has.length ca0_1,iv a0.Slots,iv a0.Speed,iv a0.From,iv a0.To,.slice Aa0_6 a0.Stands.length ca0_6]]) (by kernel_rfl) (workers_checkWorker_c (a0:=a0) (hra0_1.wk (fun _ h=>(.tail _ (.tail _ h)))) hca0_1 rfl (hra0_6.wk (fun _ h=>(.tail _ (.tail _ h)))) hca0_6 rfl hy1)) ?_
 rintro _ _ _ _ ⟨_,rfl,rfl,rfl,rfl⟩
 refine Rd 3 [2,3,6] [(2,pg g1 0),(3,pg g2 0),(6,iv y1)]<|Ra 1 [1,0,1,0] [.c [1,0,1,1],.c [1,1]]<|Rd 2 [2,3,6,11] [(2,pg g1 0),(3,pg g2 0),(6,iv y1),(11,.bool (y1 != 0))] ?_
 rcases bool_cases (y1 != 0) with hb1 | hb1
 ·replace heq:=bif_true hb1 heq
  refine Ct (y1 != 0) hb1<|Ra 1 [1,0,1,1,0,0] [.c [1,0,1,1,0,1],.c [1,1]]<|Rd 3 [4,5] [(4,.bool false),(5,iv y1)] ?_
  obtain rfl:=Option.some.inj heq
  refine RunH.pick 2 [] (cs':=F) (by kernel_rfl) rfl ?_
  exact RunH.done (by kernel_rfl) Tryd.func8 (v:=.tuple #[.bool false,iv y1]) (by kernel_rfl) ⟨rfl,rfl,rfl⟩
 ·replace heq:=bif_false hb1 heq
  refine Cf (y1 != 0) hb1<|Ra 3 [1,1,0,0] [.c [1,1,0,1],.c [1,1,1]]<|Rv 1 [2,3,13] [.string a1.Id,.slice Aa1_1 a1.Needs.length ca1_1,iv a1.Size,.slice Aa1_3 a1.After.length ca1_3] [.load ⟨g2,0,none⟩ (.string a1.Id),.load ⟨g2,1,none⟩ (.slice Aa1_1 a1.Needs.length ca1_1),.load ⟨g2,2,none⟩ (iv a1.Size),.load ⟨g2,3,none⟩ (.slice Aa1_3 a1.After.length ca1_3)] [(2,pg g1 0),(3,pg g2 0),(13,.agg #[.string a1.Id,.slice Aa1_1 a1.Needs.length ca1_1,iv a1.Size,.slice Aa1_3 a1.After.length ca1_3])] (fun w hh=>⟨(hh.box 0 rfl rfl),(hh.box 0 rfl rfl),(hh.box 0 rfl rfl),(hh.box 0 rfl rfl)⟩) ?_
  obtain ⟨y2,hy2,heq⟩:=bind_some heq
  refine RgH.does (DoesH.call (d:=14) (g:=23) (args:=#[.agg #[.string a1.Id,.slice Aa1_1 a1.Needs.length ca1_1,iv a1.Size,.slice Aa1_3 a1.After.length ca1_3]]) (by kernel_rfl) (workers_checkWork_c (a0:=a1) (hra1_1.wk (fun _ h=>(.tail _ (.tail _ h)))) hca1_1 rfl (hra1_3.wk (fun _ h=>(.tail _ (.tail _ h)))) hca1_3 rfl hy2)) ?_
  rintro _ _ _ _ ⟨_,rfl,rfl,rfl,rfl⟩
  refine Rd 3 [2,3,7] [(2,pg g1 0),(3,pg g2 0),(7,iv y2)]<|Ra 1 [1,1,0,1,0] [.c [1,1,0,1,1],.c [1,1,1]]<|Rd 2 [2,3,7,16] [(2,pg g1 0),(3,pg g2 0),(7,iv y2),(16,.bool (y2 != 0))] ?_
  rcases bool_cases (y2 != 0) with hb2 | hb2
  ·replace heq:=bif_true hb2 heq
   refine Ct (y2 != 0) hb2<|Ra 1 [1,1,0,1,1,0,0] [.c [1,1,0,1,1,0,1],.c [1,1,1]]<|Rd 3 [4,5] [(4,.bool false),(5,iv y2)] ?_
   obtain rfl:=Option.some.inj heq
   refine RunH.pick 2 [] (cs':=F) (by kernel_rfl) rfl ?_
   exact RunH.done (by kernel_rfl) Tryd.func8 (v:=.tuple #[.bool false,iv y2]) (by kernel_rfl) ⟨rfl,rfl,rfl⟩
  ·replace heq:=bif_false hb2 heq
   refine Cf (y2 != 0) hb2<|Ra 2 [1,1,1,0] [.c [1,1,1,1]]<|Rv 4 [19,21] [.slice Aa1_1 a1.Needs.length ca1_1,.slice Aa0_1 a0.Has.length ca0_1] [.load ⟨g2,1,none⟩ (.slice Aa1_1 a1.Needs.length ca1_1),.load ⟨g1,1,none⟩ (.slice Aa0_1 a0.Has.length ca0_1)] [(19,.slice Aa1_1 a1.Needs.length ca1_1),(21,.slice Aa0_1 a0.Has.length ca0_1)] (fun w hh=>⟨(hh.box 0 rfl rfl),(hh.box 1 rfl rfl)⟩) ?_
   obtain ⟨y3,hy3,heq⟩:=bind_some heq
   refine RgH.does (DoesH.call (d:=22) (g:=24) (args:=#[.slice Aa1_1 a1.Needs.length ca1_1,.slice Aa0_1 a0.Has.length ca0_1]) (by kernel_rfl) (config_Fit_c (a0:=a1.Needs) (a1:=a0.Has) (hra1_1.wk (fun _ h=>(.tail _ (.tail _ h)))) hca1_1 rfl (hra0_1.wk (fun _ h=>(.tail _ (.tail _ h)))) hca0_1 rfl hy3)) ?_
   rintro _ _ _ _ ⟨_,rfl,rfl,rfl,rfl⟩
   refine Rd 7 [4,5] [(4,.bool y3),(5,iv 0)] ?_
   obtain rfl:=Option.some.inj heq
   refine RunH.pick 2 [] (cs':=F) (by kernel_rfl) rfl ?_
   exact RunH.done (by kernel_rfl) Tryd.func8 (v:=.tuple #[.bool y3,iv 0]) (by kernel_rfl) ⟨rfl,rfl,rfl⟩
noncomputable def C44:Ctx:={ P:=Tryd.prog,f:=44,N:=15,c:=bodyOf Tryd.f44 }
def S44 (F:List Ch) (H0:Hp) (r:Bool) (v:Value) (H:Hp) (cs:List Ch):Prop:=H0=H∧v=.bool r∧F=cs
theorem smithyardref9_within_c {w0:World} {H:Hp} {F:List Ch} {a0:Int} {a1:Int} {a2:Int} {r:Bool} (heq:smithyardref9_within.f a0 a1 a2=some r):CallsH Tryd.prog 44 #[iv a0,iv a1,iv a2] H w0 (F) (S44 F H r):=by
 refine calls_of_runH (F:=C44) Tryd.func44 (by kernel_rfl) Tryd.ntmps44 (args:=[iv a0,iv a1,iv a2]) (by kernel_rfl) ?_
 unfold smithyardref9_within.f at heq
 refine Ra 1 [0] [.c [1]]<|Rd 1 [0,1,2] [(0,iv a0),(1,iv a1),(2,iv a2)]<|Ad 1 [.c [1,0],.c [1,1]] ?_
 obtain ⟨t1,ht1,heq⟩:=bind_some heq
 have K1:RunH C44 (S44 F H r) H w0 [.c [1,1]] [(6,.bool t1)] H (F):=by
  obtain rfl:=Option.some.inj heq
  exact RunH.done (by kernel_rfl) Tryd.func44 (v:=.bool t1) (by kernel_rfl) ⟨rfl,rfl,rfl⟩
 replace heq:=ht1
 refine Rr<|Rk 4 [10,0,2] [(10,.bool (decide (a1≤a0))),(0,iv a0),(2,iv a2)] ?_
 rcases bool_cases (decide (a1≤a0)) with hb1 | hb1
 ·replace heq:=bif_true hb1 heq
  refine RgH.val1 (v':=.bool true) (congrArg Value.bool hb1) ?_
  refine Rk 9 [6] [(6,.bool (decide (a0≤a2)))] ?_
  obtain rfl:=Option.some.inj heq
  refine Kg [6] [(6,.bool (decide (a0≤a2)))]<|Dn ?_
  exact K1
 ·replace heq:=bif_false hb1 heq
  refine RgH.val1 (v':=.bool false) (congrArg Value.bool hb1) ?_
  refine Rk 9 [6] [(6,.bool false)] ?_
  obtain rfl:=Option.some.inj heq
  refine Kg [6] [(6,.bool false)]<|Dn ?_
  exact K1
noncomputable def C42:Ctx:={ P:=Tryd.prog,f:=42,N:=50,c:=bodyOf Tryd.f42 }
def S42 (F:List Ch) (H0:Hp) (r:Bool) (v:Value) (H:Hp) (cs:List Ch):Prop:=H0=H∧v=.bool r∧F=cs
theorem smithyardref9_isWord.e1_c {w0:World} {H:Hp} {F:List Ch} {r:Bool}:smithyardref9_isWord.e1=some r→RunH C42 (S42 F H r) H w0 [.c [1,1,1,0],.c [1,1,1,1]] [] H (F):=by
 intro   heq
 unfold smithyardref9_isWord.e1 at heq
 refine Rr<|Rd 1 [2] [(2,.bool true)] ?_
 obtain rfl:=Option.some.inj heq
 exact RunH.done (by kernel_rfl) Tryd.func42 (v:=.bool true) (by kernel_rfl) ⟨rfl,rfl,rfl⟩
theorem smithyardref9_isWord.l2_c {w0:World} {H:Hp} {F:List Ch} {r:Bool} (e1:Option Bool)
  (he1:e1=some r→RunH C42 (S42 F H r) H w0 [.c [1,1,1,0],.c [1,1,1,1]] [] H (F)):∀ (k:Nat),∀ (a0:ByteArray) (v21:Int) ,smithyardref9_isWord.l2 e1 k a0 v21=some r→RunH C42 (S42 F H r) H w0 [.c [1,1,0,1,0,0],.l [1,1,0,1,0,0],.b 0,.c [1,1,1]] [(0,.string a0),(20,iv (a0.size:Int)),(21,iv v21)] H (F):=by
 intro k
 induction k with
 | zero=>intro a0 v21  heq; exact nomatch (show (none:Option Bool)=some r from heq)
 | succ k ihk =>
  intro a0 v21  heq
  rw [smithyardref9_isWord.l2] at heq
  refine Ra 1 [1,1,0,1,0,0,0] [.c [1,1,0,1,0,0,1],.l [1,1,0,1,0,0],.b 0,.c [1,1,1]]<|Rd 1 [0,20,21,22] [(0,.string a0),(20,iv (a0.size:Int)),(21,iv v21),(22,.bool (decide (v21<(a0.size:Int))))]<|Ad 1 [.c [1,1,0,1,0,0,1,0],.c [1,1,0,1,0,0,1,1],.l [1,1,0,1,0,0],.b 0,.c [1,1,1]] ?_
  rcases bool_cases (decide (v21<(a0.size:Int))) with hb4 | hb4
  ·replace heq:=bif_true hb4 heq
   refine Ct (decide (v21<(a0.size:Int))) hb4<|Ra 4 [1,1,0,1,0,0,1,1,0,0,0] [.c [1,1,0,1,0,0,1,1,0,0,1],.b 1,.c [1,1,0,1,0,0,1,1,1],.l [1,1,0,1,0,0],.b 0,.c [1,1,1]]<|Rd 2 [0,3,20,21] [(0,.string a0),(3,iv v21),(20,iv (a0.size:Int)),(21,iv v21)]<|Ra 1 [1,1,0,1,0,0,1,1,0,0,1,0] [.c [1,1,0,1,0,0,1,1,0,0,1,1],.b 1,.c [1,1,0,1,0,0,1,1,1],.l [1,1,0,1,0,0],.b 0,.c [1,1,1]] ?_
   obtain ⟨hn3,heq⟩:=guard?_some heq
   refine Rw' 4 [0,4,20,21] [] [.need ((0:Int)≤v21∧v21<(a0.size:Int))] [(0,.string a0),(4,.int .u8 (bt a0 v21)),(20,iv (a0.size:Int)),(21,iv v21)] (fun w hh=>(both_of hn3))<|Ad 1 [.c [1,1,0,1,0,0,1,1,0,0,1,1,0],.c [1,1,0,1,0,0,1,1,0,0,1,1,1],.b 1,.c [1,1,0,1,0,0,1,1,1],.l [1,1,0,1,0,0],.b 0,.c [1,1,1]] ?_
   obtain ⟨t2,ht2,heq⟩:=bind_some heq
   have K2:RunH C42 (S42 F H r) H w0 [.c [1,1,0,1,0,0,1,1,0,0,1,1,1],.b 1,.c [1,1,0,1,0,0,1,1,1],.l [1,1,0,1,0,0],.b 0,.c [1,1,1]] [(0,.string a0),(20,iv (a0.size:Int)),(21,iv v21),(48,.bool t2)] H (F):=by
    rcases bool_cases (t2) with hb15 | hb15
    ·replace heq:=bif_true hb15 heq
     refine Ct t2 hb15<|Ra 1 [1,1,0,1,0,0,1,1,0,0,1,1,1,0,0] [.c [1,1,0,1,0,0,1,1,0,0,1,1,1,0,1],.b 1,.c [1,1,0,1,0,0,1,1,1],.l [1,1,0,1,0,0],.b 0,.c [1,1,1]]<|Rd 1 [2] [(2,.bool false)] ?_
     obtain rfl:=Option.some.inj heq
     exact RunH.done (by kernel_rfl) Tryd.func42 (v:=.bool false) (by kernel_rfl) ⟨rfl,rfl,rfl⟩
    ·replace heq:=bif_false hb15 heq
     refine Cf t2 hb15<|Ra 2 [1,1,0,1,0,0,1,1,1] [.l [1,1,0,1,0,0],.b 0,.c [1,1,1]]<|Rd 2 [0,20,21] [(0,.string a0),(20,iv (a0.size:Int)),(21,iv (w64 (v21+1)))]<|Ad 1 [.c [1,1,0,1,0,0],.l [1,1,0,1,0,0],.b 0,.c [1,1,1]]<|Kp [0,20,21] [(0,.string a0),(20,iv (a0.size:Int)),(21,iv (w64 (v21+1)))] ?_
     exact ihk a0 (w64 (v21+1)) heq
   replace heq:=ht2
   refine Rr<|Rk 3 [29,0,4,20,21] [(29,.bool (decide ((bt a0 v21)<97))),(0,.string a0),(4,.int .u8 (bt a0 v21)),(20,iv (a0.size:Int)),(21,iv v21)] ?_
   rcases bool_cases (decide ((bt a0 v21)<97)) with hb5 | hb5
   ·replace heq:=bif_true hb5 heq
    refine RgH.val1 (v':=.bool true) (congrArg Value.bool hb5) ?_
    refine Rk 10 [36,0,4,20,21,33] [(36,.bool (decide ((bt a0 v21)<48))),(0,.string a0),(4,.int .u8 (bt a0 v21)),(20,iv (a0.size:Int)),(21,iv v21),(33,.bool true)] ?_
    rcases bool_cases (decide ((bt a0 v21)<48)) with hb6 | hb6
    ·replace heq:=bif_true hb6 heq
     refine RgH.val1 (v':=.bool true) (congrArg Value.bool hb6) ?_
     refine Rk 19 [45,0,4,20,21] [(45,.bool ((bt a0 v21) != 45)),(0,.string a0),(4,.int .u8 (bt a0 v21)),(20,iv (a0.size:Int)),(21,iv v21)] ?_
     rcases bool_cases ((bt a0 v21) != 45) with hb7 | hb7
     ·replace heq:=bif_true hb7 heq
      refine RgH.val1 (v':=.bool true) (congrArg Value.bool hb7) ?_
      refine Rk 22 [0,20,21,48] [(0,.string a0),(20,iv (a0.size:Int)),(21,iv v21),(48,.bool ((bt a0 v21) != 95))] ?_
      obtain rfl:=Option.some.inj heq
      refine Kg [0,20,21,48] [(0,.string a0),(20,iv (a0.size:Int)),(21,iv v21),(48,.bool ((bt a0 v21) != 95))]<|Dn ?_
      exact K2
     ·replace heq:=bif_false hb7 heq
      refine RgH.val1 (v':=.bool false) (congrArg Value.bool hb7) ?_
      refine Rk 22 [0,20,21,48] [(0,.string a0),(20,iv (a0.size:Int)),(21,iv v21),(48,.bool false)] ?_
      obtain rfl:=Option.some.inj heq
      refine Kg [0,20,21,48] [(0,.string a0),(20,iv (a0.size:Int)),(21,iv v21),(48,.bool false)]<|Dn ?_
      exact K2
    ·replace heq:=bif_false hb6 heq
     refine RgH.val1 (v':=.bool false) (congrArg Value.bool hb6) ?_
     refine Rk 15 [41,0,4,20,21] [(41,.bool (decide (57<(bt a0 v21)))),(0,.string a0),(4,.int .u8 (bt a0 v21)),(20,iv (a0.size:Int)),(21,iv v21)] ?_
     rcases bool_cases (decide (57<(bt a0 v21))) with hb8 | hb8
     ·replace heq:=bif_true hb8 heq
      refine RgH.val1 (v':=.bool true) (congrArg Value.bool hb8) ?_
      refine Rk 19 [45,0,4,20,21] [(45,.bool ((bt a0 v21) != 45)),(0,.string a0),(4,.int .u8 (bt a0 v21)),(20,iv (a0.size:Int)),(21,iv v21)] ?_
      rcases bool_cases ((bt a0 v21) != 45) with hb9 | hb9
      ·replace heq:=bif_true hb9 heq
       refine RgH.val1 (v':=.bool true) (congrArg Value.bool hb9) ?_
       refine Rk 22 [0,20,21,48] [(0,.string a0),(20,iv (a0.size:Int)),(21,iv v21),(48,.bool ((bt a0 v21) != 95))] ?_
       obtain rfl:=Option.some.inj heq
       refine Kg [0,20,21,48] [(0,.string a0),(20,iv (a0.size:Int)),(21,iv v21),(48,.bool ((bt a0 v21) != 95))]<|Dn ?_
       exact K2
      ·replace heq:=bif_false hb9 heq
       refine RgH.val1 (v':=.bool false) (congrArg Value.bool hb9) ?_
       refine Rk 22 [0,20,21,48] [(0,.string a0),(20,iv (a0.size:Int)),(21,iv v21),(48,.bool false)] ?_
       obtain rfl:=Option.some.inj heq
       refine Kg [0,20,21,48] [(0,.string a0),(20,iv (a0.size:Int)),(21,iv v21),(48,.bool false)]<|Dn ?_
       exact K2
     ·replace heq:=bif_false hb8 heq
      refine RgH.val1 (v':=.bool false) (congrArg Value.bool hb8) ?_
      refine Rk 22 [0,20,21,48] [(0,.string a0),(20,iv (a0.size:Int)),(21,iv v21),(48,.bool false)] ?_
      obtain rfl:=Option.some.inj heq
      refine Kg [0,20,21,48] [(0,.string a0),(20,iv (a0.size:Int)),(21,iv v21),(48,.bool false)]<|Dn ?_
      exact K2
   ·replace heq:=bif_false hb5 heq
    refine RgH.val1 (v':=.bool false) (congrArg Value.bool hb5) ?_
    refine Rk 7 [33,0,4,20,21] [(33,.bool (decide (122<(bt a0 v21)))),(0,.string a0),(4,.int .u8 (bt a0 v21)),(20,iv (a0.size:Int)),(21,iv v21)] ?_
    rcases bool_cases (decide (122<(bt a0 v21))) with hb10 | hb10
    ·replace heq:=bif_true hb10 heq
     refine RgH.val1 (v':=.bool true) (congrArg Value.bool hb10) ?_
     refine Rk 10 [36,0,4,20,21,33] [(36,.bool (decide ((bt a0 v21)<48))),(0,.string a0),(4,.int .u8 (bt a0 v21)),(20,iv (a0.size:Int)),(21,iv v21),(33,.bool true)] ?_
     rcases bool_cases (decide ((bt a0 v21)<48)) with hb11 | hb11
     ·replace heq:=bif_true hb11 heq
      refine RgH.val1 (v':=.bool true) (congrArg Value.bool hb11) ?_
      refine Rk 19 [45,0,4,20,21] [(45,.bool ((bt a0 v21) != 45)),(0,.string a0),(4,.int .u8 (bt a0 v21)),(20,iv (a0.size:Int)),(21,iv v21)] ?_
      rcases bool_cases ((bt a0 v21) != 45) with hb12 | hb12
      ·replace heq:=bif_true hb12 heq
       refine RgH.val1 (v':=.bool true) (congrArg Value.bool hb12) ?_
       refine Rk 22 [0,20,21,48] [(0,.string a0),(20,iv (a0.size:Int)),(21,iv v21),(48,.bool ((bt a0 v21) != 95))] ?_
       obtain rfl:=Option.some.inj heq
       refine Kg [0,20,21,48] [(0,.string a0),(20,iv (a0.size:Int)),(21,iv v21),(48,.bool ((bt a0 v21) != 95))]<|Dn ?_
       exact K2
      ·replace heq:=bif_false hb12 heq
       refine RgH.val1 (v':=.bool false) (congrArg Value.bool hb12) ?_
       refine Rk 22 [0,20,21,48] [(0,.string a0),(20,iv (a0.size:Int)),(21,iv v21),(48,.bool false)] ?_
       obtain rfl:=Option.some.inj heq
       refine Kg [0,20,21,48] [(0,.string a0),(20,iv (a0.size:Int)),(21,iv v21),(48,.bool false)]<|Dn ?_
       exact K2
     ·replace heq:=bif_false hb11 heq
      refine RgH.val1 (v':=.bool false) (congrArg Value.bool hb11) ?_
      refine Rk 15 [41,0,4,20,21] [(41,.bool (decide (57<(bt a0 v21)))),(0,.string a0),(4,.int .u8 (bt a0 v21)),(20,iv (a0.size:Int)),(21,iv v21)] ?_
      rcases bool_cases (decide (57<(bt a0 v21))) with hb13 | hb13
      ·replace heq:=bif_true hb13 heq
       refine RgH.val1 (v':=.bool true) (congrArg Value.bool hb13) ?_
       refine Rk 19 [45,0,4,20,21] [(45,.bool ((bt a0 v21) != 45)),(0,.string a0),(4,.int .u8 (bt a0 v21)),(20,iv (a0.size:Int)),(21,iv v21)] ?_
       rcases bool_cases ((bt a0 v21) != 45) with hb14 | hb14
       ·replace heq:=bif_true hb14 heq
        refine RgH.val1 (v':=.bool true) (congrArg Value.bool hb14) ?_
        refine Rk 22 [0,20,21,48] [(0,.string a0),(20,iv (a0.size:Int)),(21,iv v21),(48,.bool ((bt a0 v21) != 95))] ?_
        obtain rfl:=Option.some.inj heq
        refine Kg [0,20,21,48] [(0,.string a0),(20,iv (a0.size:Int)),(21,iv v21),(48,.bool ((bt a0 v21) != 95))]<|Dn ?_
        exact K2
       ·replace heq:=bif_false hb14 heq
        refine RgH.val1 (v':=.bool false) (congrArg Value.bool hb14) ?_
        refine Rk 22 [0,20,21,48] [(0,.string a0),(20,iv (a0.size:Int)),(21,iv v21),(48,.bool false)] ?_
        obtain rfl:=Option.some.inj heq
        refine Kg [0,20,21,48] [(0,.string a0),(20,iv (a0.size:Int)),(21,iv v21),(48,.bool false)]<|Dn ?_
        exact K2
      ·replace heq:=bif_false hb13 heq
       refine RgH.val1 (v':=.bool false) (congrArg Value.bool hb13) ?_
       refine Rk 22 [0,20,21,48] [(0,.string a0),(20,iv (a0.size:Int)),(21,iv v21),(48,.bool false)] ?_
       obtain rfl:=Option.some.inj heq
       refine Kg [0,20,21,48] [(0,.string a0),(20,iv (a0.size:Int)),(21,iv v21),(48,.bool false)]<|Dn ?_
       exact K2
    ·replace heq:=bif_false hb10 heq
     refine RgH.val1 (v':=.bool false) (congrArg Value.bool hb10) ?_
     refine Rk 22 [0,20,21,48] [(0,.string a0),(20,iv (a0.size:Int)),(21,iv v21),(48,.bool false)] ?_
     obtain rfl:=Option.some.inj heq
     refine Kg [0,20,21,48] [(0,.string a0),(20,iv (a0.size:Int)),(21,iv v21),(48,.bool false)]<|Dn ?_
     exact K2
  ·replace heq:=bif_false hb4 heq
   refine Cf (decide (v21<(a0.size:Int))) hb4<|Ad 2 [.c [1,1,1,0],.c [1,1,1,1]]<|Kp [] [] ?_
   exact he1 heq
theorem smithyardref9_isWord_c {w0:World} {H:Hp} {F:List Ch} {a0:ByteArray} {r:Bool} (heq:smithyardref9_isWord.f a0=some r):CallsH Tryd.prog 42 #[.string a0] H w0 (F) (S42 F H r):=by
 refine calls_of_runH (F:=C42) Tryd.func42 (by kernel_rfl) Tryd.ntmps42 (args:=[.string a0]) (by kernel_rfl) ?_
 unfold smithyardref9_isWord.f at heq
 refine Ra 1 [0] [.c [1]]<|Rd 1 [0] [(0,.string a0)]<|Ad 2 [.c [1,0,0],.c [1,0,1],.c [1,1]] ?_
 obtain ⟨t1,ht1,heq⟩:=bind_some heq
 have K1:RunH C42 (S42 F H r) H w0 [.c [1,0,1],.c [1,1]] [(0,.string a0),(18,.bool t1)] H (F):=by
  rcases bool_cases (t1) with hb3 | hb3
  ·replace heq:=bif_true hb3 heq
   refine Ct t1 hb3<|Ra 1 [1,0,1,0,0] [.c [1,0,1,0,1],.c [1,1]]<|Rd 1 [2] [(2,.bool false)] ?_
   obtain rfl:=Option.some.inj heq
   exact RunH.done (by kernel_rfl) Tryd.func42 (v:=.bool false) (by kernel_rfl) ⟨rfl,rfl,rfl⟩
  ·replace heq:=bif_false hb3 heq
   refine Cf t1 hb3<|Ra 3 [1,1,0,0] [.c [1,1,0,1],.c [1,1,1]]<|Rd 3 [0,20,21] [(0,.string a0),(20,iv (a0.size:Int)),(21,iv 0)]<|Ad 2 [.c [1,1,0,1,0,0],.l [1,1,0,1,0,0],.b 0,.c [1,1,1]]<|Kp [0,20,21] [(0,.string a0),(20,iv (a0.size:Int)),(21,iv 0)] ?_
   exact ((smithyardref9_isWord.l2_c (e1:=smithyardref9_isWord.e1) (smithyardref9_isWord.e1_c)) big) a0 0 heq
 replace heq:=ht1
 refine Rr<|Rk 2 [0,6] [(0,.string a0),(6,iv (a0.size:Int))] ?_
 obtain ⟨y1,hy1,heq⟩:=bind_some heq
 refine RgH.does (DoesH.call (d:=7) (g:=44) (args:=#[iv (a0.size:Int),iv 1,iv 40]) (by kernel_rfl) (smithyardref9_within_c (a0:=(a0.size:Int)) (a1:=1) (a2:=40)  hy1)) ?_
 rintro _ _ _ _ ⟨_,rfl,rfl,rfl,rfl⟩
 refine Rk 5 [9,0] [(9,.bool (!y1)),(0,.string a0)] ?_
 rcases bool_cases (!y1) with hb1 | hb1
 ·replace heq:=bif_true hb1 heq
  refine RgH.val1 (v':=.bool true) (congrArg Value.bool hb1) ?_
  refine Rk 14 [0,18] [(0,.string a0),(18,.bool true)] ?_
  obtain rfl:=Option.some.inj heq
  refine Kg [0,18] [(0,.string a0),(18,.bool true)]<|Dn ?_
  exact K1
 ·replace heq:=bif_false hb1 heq
  refine RgH.val1 (v':=.bool false) (congrArg Value.bool hb1) ?_
  obtain ⟨hn1,heq⟩:=guard?_some heq
  refine Rv 10 [14,0] [] [.need ((0:Int)≤0∧0<(a0.size:Int))] [(14,.bool (decide ((bt a0 0)<97))),(0,.string a0)] (fun w hh=>(both_of hn1)) ?_
  rcases bool_cases (decide ((bt a0 0)<97)) with hb2 | hb2
  ·replace heq:=bif_true hb2 heq
   refine RgH.val1 (v':=.bool true) (congrArg Value.bool hb2) ?_
   refine Rk 14 [0,18] [(0,.string a0),(18,.bool true)] ?_
   obtain rfl:=Option.some.inj heq
   refine Kg [0,18] [(0,.string a0),(18,.bool true)]<|Dn ?_
   exact K1
  ·replace heq:=bif_false hb2 heq
   refine RgH.val1 (v':=.bool false) (congrArg Value.bool hb2) ?_
   obtain ⟨hn2,heq⟩:=guard?_some heq
   refine Rv 14 [0,18] [] [.need ((0:Int)≤0∧0<(a0.size:Int))] [(0,.string a0),(18,.bool (decide (122<(bt a0 0))))] (fun w hh=>(both_of hn2)) ?_
   obtain rfl:=Option.some.inj heq
   refine Kg [0,18] [(0,.string a0),(18,.bool (decide (122<(bt a0 0))))]<|Dn ?_
   exact K1
noncomputable def C43:Ctx:={ P:=Tryd.prog,f:=43,N:=40,c:=bodyOf Tryd.f43 }
def S43 (F:List Ch) (H0:Hp) (r:Int) (v:Value) (H:Hp) (cs:List Ch):Prop:=H0=H∧v=iv r∧F=cs
theorem smithyardref9_checkPairs.e1_c {w0:World} {H:Hp} {F:List Ch} {r:Int}:smithyardref9_checkPairs.e1=some r→RunH C43 (S43 F H r) H w0 [.c [1,1,1,0],.c [1,1,1,1]] [] H (F):=by
 intro   heq
 unfold smithyardref9_checkPairs.e1 at heq
 refine Rr<|Rd 1 [2] [(2,iv 0)] ?_
 obtain rfl:=Option.some.inj heq
 exact RunH.done (by kernel_rfl) Tryd.func43 (v:=iv 0) (by kernel_rfl) ⟨rfl,rfl,rfl⟩
theorem smithyardref9_checkPairs.l2_c {w0:World} {H:Hp} {F:List Ch} {r:Int} (e1:Option Int)
  (he1:e1=some r→RunH C43 (S43 F H r) H w0 [.c [1,1,1,0],.c [1,1,1,1]] [] H (F)):∀ (k:Nat),∀ (a0:List Pair) (Aa0:Option Addr) (ca0:Nat) (v10:Int) ,Rw kPair H F Aa0 a0→a0.length≤ca0→smithyardref9_checkPairs.l2 e1 k a0 v10=some r→RunH C43 (S43 F H r) H w0 [.c [1,1,0,1,0,0],.l [1,1,0,1,0,0],.b 0,.c [1,1,1]] [(0,.slice Aa0 a0.length ca0),(8,.slice Aa0 a0.length ca0),(9,iv (a0.length:Int)),(10,iv v10)] H (F):=by
 intro k
 induction k with
 | zero=>intro a0 Aa0 ca0 v10 hra0 hca0 heq; exact nomatch (show (none:Option Int)=some r from heq)
 | succ k ihk =>
  intro a0 Aa0 ca0 v10 hra0 hca0 heq
  rw [smithyardref9_checkPairs.l2] at heq
  refine Ra 1 [1,1,0,1,0,0,0] [.c [1,1,0,1,0,0,1],.l [1,1,0,1,0,0],.b 0,.c [1,1,1]]<|Rd 1 [0,8,9,10,11] [(0,.slice Aa0 a0.length ca0),(8,.slice Aa0 a0.length ca0),(9,iv (a0.length:Int)),(10,iv v10),(11,.bool (decide (v10<(a0.length:Int))))]<|Ad 1 [.c [1,1,0,1,0,0,1,0],.c [1,1,0,1,0,0,1,1],.l [1,1,0,1,0,0],.b 0,.c [1,1,1]] ?_
  rcases bool_cases (decide (v10<(a0.length:Int))) with hb2 | hb2
  ·replace heq:=bif_true hb2 heq
   refine Ct (decide (v10<(a0.length:Int))) hb2<|Ra 4 [1,1,0,1,0,0,1,1,0,0,0] [.c [1,1,0,1,0,0,1,1,0,0,1],.b 1,.c [1,1,0,1,0,0,1,1,1],.l [1,1,0,1,0,0],.b 0,.c [1,1,1]] ?_
   obtain ⟨x1,hx1,heq⟩:=bind_some heq
   obtain ⟨ha1,cs1,hK1,hcc1⟩:=hra0.get hx1
   obtain ⟨rfl⟩:=kPair_open hK1
   refine Rv 3 [0,8,9,10,12,14] [.string x1.Name,.string x1.Value] [.need (Aa0=some (adr Aa0)∧(0:Int)≤v10∧v10<((a0.length:Nat):Int)),.load (((adr Aa0).add (v10.toNat*2)).add 0) (.string x1.Name),.load (((adr Aa0).add (v10.toNat*2)).add 1) (.string x1.Value)] [(0,.slice Aa0 a0.length ca0),(8,.slice Aa0 a0.length ca0),(9,iv (a0.length:Int)),(10,iv v10),(12,iv v10),(14,.agg #[.string x1.Name,.string x1.Value])] (fun w hh=>⟨⟨ha1,(at?_some hx1).1,(at?_some hx1).2.1⟩,(hcc1 _ _ (hh.drop 0) 0 _ rfl),(hcc1 _ _ (hh.drop 0) 1 _ rfl)⟩) ?_
   refine RgH.does (DoesH.new (d:=4) (v:=fun g=>.pointer (some ⟨g,0,none⟩)) (o:=fun g=>.cells #[.string ByteArray.empty,.string ByteArray.empty] 48 (0,0)) (fun g=>by kernel_rfl)) ?_
   rintro _ _ _ _ ⟨g1,rfl,rfl,rfl⟩
   refine Rk 5 [0,3,4,8,9,10,14] [(0,.slice Aa0 a0.length ca0),(3,iv v10),(4,pg g1 0),(8,.slice Aa0 a0.length ca0),(9,iv (a0.length:Int)),(10,iv v10),(14,.agg #[.string x1.Name,.string x1.Value])] ?_
   refine RgH.does (DoesH.store (k:=0) (g:=g1) (off:=0) (v:=.agg #[.string x1.Name,.string x1.Value]) (cells':=#[.string x1.Name,.string x1.Value]) (by kernel_rfl) rfl (by kernel_rfl) (by kernel_rfl)) ?_
   rintro _ _ _ _ ⟨rfl,rfl,rfl⟩
   refine Dn<|Ra 2 [1,1,0,1,0,0,1,1,0,0,1,0,0] [.c [1,1,0,1,0,0,1,1,0,0,1,0,1],.b 2,.b 1,.c [1,1,0,1,0,0,1,1,1],.l [1,1,0,1,0,0],.b 0,.c [1,1,1]]<|Rv 2 [0,3,4,8,9,10,17] [.string x1.Name] [.load ⟨g1,0,none⟩ (.string x1.Name)] [(0,.slice Aa0 a0.length ca0),(3,iv v10),(4,pg g1 0),(8,.slice Aa0 a0.length ca0),(9,iv (a0.length:Int)),(10,iv v10),(17,.string x1.Name)] (fun w hh=>(hh.box 0 rfl rfl)) ?_
   obtain ⟨y1,hy1,heq⟩:=bind_some heq
   refine RgH.does (DoesH.call (d:=18) (g:=42) (args:=#[.string x1.Name]) (by kernel_rfl) (smithyardref9_isWord_c (a0:=x1.Name)  hy1)) ?_
   rintro _ _ _ _ ⟨_,rfl,rfl,rfl,rfl⟩
   refine Rd 5 [0,3,4,8,9,10,15] [(0,.slice Aa0 a0.length ca0),(3,iv v10),(4,pg g1 0),(8,.slice Aa0 a0.length ca0),(9,iv (a0.length:Int)),(10,iv v10),(15,.bool (!y1))] ?_
   rcases bool_cases (!y1) with hb3 | hb3
   ·replace heq:=bif_true hb3 heq
    refine Ct (!y1) hb3<|Ra 1 [1,1,0,1,0,0,1,1,0,0,1,0,1,0,0] [.c [1,1,0,1,0,0,1,1,0,0,1,0,1,0,1],.b 2,.b 1,.c [1,1,0,1,0,0,1,1,1],.l [1,1,0,1,0,0],.b 0,.c [1,1,1]]<|Rd 1 [2] [(2,iv 5)] ?_
    obtain rfl:=Option.some.inj heq
    refine RunH.pick 1 [] (cs':=F) (by kernel_rfl) rfl ?_
    exact RunH.done (by kernel_rfl) Tryd.func43 (v:=iv 5) (by kernel_rfl) ⟨rfl,rfl,rfl⟩
   ·replace heq:=bif_false hb3 heq
    refine Cf (!y1) hb3<|Ra 1 [1,1,0,1,0,0,1,1,0,0,1,0,1,1,0] [.c [1,1,0,1,0,0,1,1,0,0,1,0,1,1,1],.b 2,.b 1,.c [1,1,0,1,0,0,1,1,1],.l [1,1,0,1,0,0],.b 0,.c [1,1,1]]<|Rv 2 [0,3,4,8,9,10,22] [.string x1.Value] [.load ⟨g1,1,none⟩ (.string x1.Value)] [(0,.slice Aa0 a0.length ca0),(3,iv v10),(4,pg g1 0),(8,.slice Aa0 a0.length ca0),(9,iv (a0.length:Int)),(10,iv v10),(22,.string x1.Value)] (fun w hh=>(hh.box 0 rfl rfl)) ?_
    obtain ⟨y2,hy2,heq⟩:=bind_some heq
    refine RgH.does (DoesH.call (d:=23) (g:=42) (args:=#[.string x1.Value]) (by kernel_rfl) (smithyardref9_isWord_c (a0:=x1.Value)  hy2)) ?_
    rintro _ _ _ _ ⟨_,rfl,rfl,rfl,rfl⟩
    refine Rd 5 [0,3,4,8,9,10,20] [(0,.slice Aa0 a0.length ca0),(3,iv v10),(4,pg g1 0),(8,.slice Aa0 a0.length ca0),(9,iv (a0.length:Int)),(10,iv v10),(20,.bool (!y2))] ?_
    rcases bool_cases (!y2) with hb4 | hb4
    ·replace heq:=bif_true hb4 heq
     refine Ct (!y2) hb4<|Ra 1 [1,1,0,1,0,0,1,1,0,0,1,0,1,1,1,0,0] [.c [1,1,0,1,0,0,1,1,0,0,1,0,1,1,1,0,1],.b 2,.b 1,.c [1,1,0,1,0,0,1,1,1],.l [1,1,0,1,0,0],.b 0,.c [1,1,1]]<|Rd 1 [2] [(2,iv 1)] ?_
     obtain rfl:=Option.some.inj heq
     refine RunH.pick 1 [] (cs':=F) (by kernel_rfl) rfl ?_
     exact RunH.done (by kernel_rfl) Tryd.func43 (v:=iv 1) (by kernel_rfl) ⟨rfl,rfl,rfl⟩
    ·replace heq:=bif_false hb4 heq
     refine Cf (!y2) hb4<|Ad 1 [.c [1,1,0,1,0,0,1,1,0,0,1,0,1,1,1,1,0],.c [1,1,0,1,0,0,1,1,0,0,1,0,1,1,1,1,1],.b 2,.b 1,.c [1,1,0,1,0,0,1,1,1],.l [1,1,0,1,0,0],.b 0,.c [1,1,1]] ?_
     obtain ⟨t1,ht1,heq⟩:=bind_some heq
     have K2:RunH C43 (S43 F H r) H w0 [.c [1,1,0,1,0,0,1,1,0,0,1,0,1,1,1,1,1],.b 2,.b 1,.c [1,1,0,1,0,0,1,1,1],.l [1,1,0,1,0,0],.b 0,.c [1,1,1]] [(0,.slice Aa0 a0.length ca0),(8,.slice Aa0 a0.length ca0),(9,iv (a0.length:Int)),(10,iv v10),(25,.bool t1)] H (F):=by
      rcases bool_cases (t1) with hb6 | hb6
      ·replace heq:=bif_true hb6 heq
       refine Ct t1 hb6<|Ra 1 [1,1,0,1,0,0,1,1,0,0,1,0,1,1,1,1,1,0,0] [.c [1,1,0,1,0,0,1,1,0,0,1,0,1,1,1,1,1,0,1],.b 2,.b 1,.c [1,1,0,1,0,0,1,1,1],.l [1,1,0,1,0,0],.b 0,.c [1,1,1]]<|Rd 1 [2] [(2,iv 8)] ?_
       obtain rfl:=Option.some.inj heq
       exact RunH.done (by kernel_rfl) Tryd.func43 (v:=iv 8) (by kernel_rfl) ⟨rfl,rfl,rfl⟩
      ·replace heq:=bif_false hb6 heq
       refine Cf t1 hb6<|Ra 3 [1,1,0,1,0,0,1,1,1] [.l [1,1,0,1,0,0],.b 0,.c [1,1,1]]<|Rd 2 [0,8,9,10] [(0,.slice Aa0 a0.length ca0),(8,.slice Aa0 a0.length ca0),(9,iv (a0.length:Int)),(10,iv (w64 (v10+1)))]<|Ad 1 [.c [1,1,0,1,0,0],.l [1,1,0,1,0,0],.b 0,.c [1,1,1]]<|Kp [0,8,9,10] [(0,.slice Aa0 a0.length ca0),(8,.slice Aa0 a0.length ca0),(9,iv (a0.length:Int)),(10,iv (w64 (v10+1)))] ?_
       exact ihk a0 _ _ (w64 (v10+1)) hra0 hca0 heq
     replace heq:=ht1
     refine Kp [0,3,4,8,9,10] [(0,.slice Aa0 a0.length ca0),(3,iv v10),(4,pg g1 0),(8,.slice Aa0 a0.length ca0),(9,iv (a0.length:Int)),(10,iv v10)] ?_
     refine RunH.draw (fun w=>Heap H w0 w ((some (g1,.cells #[.string x1.Name,.string x1.Value] 48 (0,0)))::F)) (fun w=>Heap H w0 w ((some (g1,.cells #[.string x1.Name,.string x1.Value] 48 (0,0)))::F)) [3,3,3,3,3,3,3,3,3,3,3,3,3,3] (n:=14) (ls:=[false,false,false,false,false,false,false,false,false,false,false,false,false,false]) (by kernel_rfl) (by kernel_rfl) (by kernel_rfl) rfl ?_
     refine Dk [0,1,2] 11 (nb 14 7) [] [] [28,0,3,4,8,9,10] [(28,.bool (decide (0<v10))),(0,.slice Aa0 a0.length ca0),(3,iv v10),(4,pg g1 0),(8,.slice Aa0 a0.length ca0),(9,iv (a0.length:Int)),(10,iv v10)] (Pk 1 [0]) (Pk 1 [0]) (fun _ _=>trivial) ?_
     rcases bool_cases (decide (0<v10)) with hb5 | hb5
     ·replace heq:=bif_true hb5 heq
      refine DrH.val1 (v':=.bool true) (congrArg Value.bool hb5) ?_
      obtain ⟨x2,hx2,heq⟩:=bind_some heq
      obtain ⟨ha2,cs2,hK2,hcc2⟩:=hra0.get hx2
      obtain ⟨rfl⟩:=kPair_open hK2
      refine Dk [3,4,5,6,7,8,9,10,11,12,13] 0 (nb 14 16383) [.string x1.Name,.string x2.Name] [.load ⟨g1,0,none⟩ (.string x1.Name),.need (Aa0=some (adr Aa0)∧(0:Int)≤(w64 (v10 - 1))∧(w64 (v10 - 1))<((a0.length:Nat):Int)),.load (((adr Aa0).add ((w64 (v10 - 1)).toNat*2)).add 0) (.string x2.Name)] [0,8,9,10,25] [(0,.slice Aa0 a0.length ca0),(8,.slice Aa0 a0.length ca0),(9,iv (a0.length:Int)),(10,iv v10),(25,.bool (sLt x1.Name x2.Name||sEq x1.Name x2.Name))] (Pk 1 [0]) (Pk 1 [0]) (fun w hh=>⟨(hh.box 0 rfl rfl),⟨ha2,(at?_some hx2).1,(at?_some hx2).2.1⟩,(hcc2 _ _ (hh.drop 1) 0 _ rfl)⟩) ?_
      obtain rfl:=Option.some.inj heq
      refine Kr [0,8,9,10,25] [(0,.slice Aa0 a0.length ca0),(8,.slice Aa0 a0.length ca0),(9,iv (a0.length:Int)),(10,iv v10),(25,.bool (sLt x1.Name x2.Name||sEq x1.Name x2.Name))] ?_
      refine DrH.pick 1 [] (cs':=F) (by kernel_rfl) rfl ?_
      refine DrH.done (by kernel_rfl) ?_
      exact K2
     ·replace heq:=bif_false hb5 heq
      refine DrH.val1 (v':=.bool false) (congrArg Value.bool hb5) ?_
      refine Dk [3,4,5,6,7,8,9,10,11,12,13] 0 (nb 14 16383) [] [] [0,8,9,10,25] [(0,.slice Aa0 a0.length ca0),(8,.slice Aa0 a0.length ca0),(9,iv (a0.length:Int)),(10,iv v10),(25,.bool false)] (Pk 1 [0]) (Pk 1 [0]) (fun _ _=>trivial) ?_
      obtain rfl:=Option.some.inj heq
      refine Kr [0,8,9,10,25] [(0,.slice Aa0 a0.length ca0),(8,.slice Aa0 a0.length ca0),(9,iv (a0.length:Int)),(10,iv v10),(25,.bool false)] ?_
      refine DrH.pick 1 [] (cs':=F) (by kernel_rfl) rfl ?_
      refine DrH.done (by kernel_rfl) ?_
      exact K2
  ·replace heq:=bif_false hb2 heq
   refine Cf (decide (v10<(a0.length:Int))) hb2<|Ad 2 [.c [1,1,1,0],.c [1,1,1,1]]<|Kp [] [] ?_
   exact he1 heq
theorem smithyardref9_checkPairs_c {w0:World} {H:Hp} {F:List Ch} {a0:List Pair} {Aa0:Option Addr} {na0:Nat} {ca0:Nat} {r:Int} (hra0:Rw kPair H F Aa0 a0) (hca0:na0≤ca0) (hna0:na0=a0.length) (heq:smithyardref9_checkPairs.f a0=some r):CallsH Tryd.prog 43 #[.slice Aa0 na0 ca0] H w0 (F) (S43 F H r):=by
 refine calls_of_runH (F:=C43) Tryd.func43 (by kernel_rfl) Tryd.ntmps43 (args:=[.slice Aa0 na0 ca0]) (by kernel_rfl) ?_
 subst hna0
 unfold smithyardref9_checkPairs.f at heq
 refine Ra 1 [0] [.c [1]]<|Rd 1 [0] [(0,.slice Aa0 a0.length ca0)]<|Ra 2 [1,0,0] [.c [1,0,1],.c [1,1]]<|Rd 3 [0,7] [(0,.slice Aa0 a0.length ca0),(7,.bool (decide (30<(a0.length:Int))))] ?_
 rcases bool_cases (decide (30<(a0.length:Int))) with hb1 | hb1
 ·replace heq:=bif_true hb1 heq
  refine Ct (decide (30<(a0.length:Int))) hb1<|Ra 1 [1,0,1,0,0] [.c [1,0,1,0,1],.c [1,1]]<|Rd 1 [2] [(2,iv 2)] ?_
  obtain rfl:=Option.some.inj heq
  exact RunH.done (by kernel_rfl) Tryd.func43 (v:=iv 2) (by kernel_rfl) ⟨rfl,rfl,rfl⟩
 ·replace heq:=bif_false hb1 heq
  refine Cf (decide (30<(a0.length:Int))) hb1<|Ra 3 [1,1,0,0] [.c [1,1,0,1],.c [1,1,1]]<|Rd 3 [0,8,9,10] [(0,.slice Aa0 a0.length ca0),(8,.slice Aa0 a0.length ca0),(9,iv (a0.length:Int)),(10,iv 0)]<|Ad 2 [.c [1,1,0,1,0,0],.l [1,1,0,1,0,0],.b 0,.c [1,1,1]]<|Kp [0,8,9,10] [(0,.slice Aa0 a0.length ca0),(8,.slice Aa0 a0.length ca0),(9,iv (a0.length:Int)),(10,iv 0)] ?_
  exact ((smithyardref9_checkPairs.l2_c (e1:=smithyardref9_checkPairs.e1) (smithyardref9_checkPairs.e1_c)) big) a0 _ _ 0 hra0 hca0 heq
noncomputable def C45:Ctx:={ P:=Tryd.prog,f:=45,N:=46,c:=bodyOf Tryd.f45 }
def S45 (F:List Ch) (H0:Hp) (r:Int) (v:Value) (H:Hp) (cs:List Ch):Prop:=H0=H∧v=iv r∧F=cs
theorem smithyardref9_checkStands.e1_c {w0:World} {H:Hp} {F:List Ch} {r:Int}:smithyardref9_checkStands.e1=some r→RunH C45 (S45 F H r) H w0 [.c [1,1,1,0],.c [1,1,1,1]] [] H (F):=by
 intro   heq
 unfold smithyardref9_checkStands.e1 at heq
 refine Rr<|Rd 1 [2] [(2,iv 0)] ?_
 obtain rfl:=Option.some.inj heq
 exact RunH.done (by kernel_rfl) Tryd.func45 (v:=iv 0) (by kernel_rfl) ⟨rfl,rfl,rfl⟩
theorem smithyardref9_checkStands.l2_c {w0:World} {H:Hp} {F:List Ch} {r:Int} (e1:Option Int)
  (he1:e1=some r→RunH C45 (S45 F H r) H w0 [.c [1,1,1,0],.c [1,1,1,1]] [] H (F)):∀ (k:Nat),∀ (a0:List Span) (Aa0:Option Addr) (ca0:Nat) (v10:Int) ,Rw kSpan H F Aa0 a0→a0.length≤ca0→smithyardref9_checkStands.l2 e1 k a0 v10=some r→RunH C45 (S45 F H r) H w0 [.c [1,1,0,1,0,0],.l [1,1,0,1,0,0],.b 0,.c [1,1,1]] [(0,.slice Aa0 a0.length ca0),(8,.slice Aa0 a0.length ca0),(9,iv (a0.length:Int)),(10,iv v10)] H (F):=by
 intro k
 induction k with
 | zero=>intro a0 Aa0 ca0 v10 hra0 hca0 heq; exact nomatch (show (none:Option Int)=some r from heq)
 | succ k ihk =>
  intro a0 Aa0 ca0 v10 hra0 hca0 heq
  rw [smithyardref9_checkStands.l2] at heq
  refine Ra 1 [1,1,0,1,0,0,0] [.c [1,1,0,1,0,0,1],.l [1,1,0,1,0,0],.b 0,.c [1,1,1]]<|Rd 1 [0,8,9,10,11] [(0,.slice Aa0 a0.length ca0),(8,.slice Aa0 a0.length ca0),(9,iv (a0.length:Int)),(10,iv v10),(11,.bool (decide (v10<(a0.length:Int))))]<|Ad 1 [.c [1,1,0,1,0,0,1,0],.c [1,1,0,1,0,0,1,1],.l [1,1,0,1,0,0],.b 0,.c [1,1,1]] ?_
  rcases bool_cases (decide (v10<(a0.length:Int))) with hb2 | hb2
  ·replace heq:=bif_true hb2 heq
   refine Ct (decide (v10<(a0.length:Int))) hb2<|Ra 4 [1,1,0,1,0,0,1,1,0,0,0] [.c [1,1,0,1,0,0,1,1,0,0,1],.b 1,.c [1,1,0,1,0,0,1,1,1],.l [1,1,0,1,0,0],.b 0,.c [1,1,1]] ?_
   obtain ⟨x1,hx1,heq⟩:=bind_some heq
   obtain ⟨ha1,cs1,hK1,hcc1⟩:=hra0.get hx1
   obtain ⟨rfl⟩:=kSpan_open hK1
   refine Rv 3 [0,8,9,10,12,14] [iv x1.From,iv x1.To] [.need (Aa0=some (adr Aa0)∧(0:Int)≤v10∧v10<((a0.length:Nat):Int)),.load (((adr Aa0).add (v10.toNat*2)).add 0) (iv x1.From),.load (((adr Aa0).add (v10.toNat*2)).add 1) (iv x1.To)] [(0,.slice Aa0 a0.length ca0),(8,.slice Aa0 a0.length ca0),(9,iv (a0.length:Int)),(10,iv v10),(12,iv v10),(14,.agg #[iv x1.From,iv x1.To])] (fun w hh=>⟨⟨ha1,(at?_some hx1).1,(at?_some hx1).2.1⟩,(hcc1 _ _ (hh.drop 0) 0 _ rfl),(hcc1 _ _ (hh.drop 0) 1 _ rfl)⟩) ?_
   refine RgH.does (DoesH.new (d:=4) (v:=fun g=>.pointer (some ⟨g,0,none⟩)) (o:=fun g=>.cells #[iv 0,iv 0] 51 (0,0)) (fun g=>by kernel_rfl)) ?_
   rintro _ _ _ _ ⟨g1,rfl,rfl,rfl⟩
   refine Rk 5 [0,3,4,8,9,10,14] [(0,.slice Aa0 a0.length ca0),(3,iv v10),(4,pg g1 0),(8,.slice Aa0 a0.length ca0),(9,iv (a0.length:Int)),(10,iv v10),(14,.agg #[iv x1.From,iv x1.To])] ?_
   refine RgH.does (DoesH.store (k:=0) (g:=g1) (off:=0) (v:=.agg #[iv x1.From,iv x1.To]) (cells':=#[iv x1.From,iv x1.To]) (by kernel_rfl) rfl (by kernel_rfl) (by kernel_rfl)) ?_
   rintro _ _ _ _ ⟨rfl,rfl,rfl⟩
   refine Dn<|Ad 2 [.c [1,1,0,1,0,0,1,1,0,0,1,0,0],.c [1,1,0,1,0,0,1,1,0,0,1,0,1],.c [1,1,0,1,0,0,1,1,0,0,1,1],.b 1,.c [1,1,0,1,0,0,1,1,1],.l [1,1,0,1,0,0],.b 0,.c [1,1,1]] ?_
   obtain ⟨t1,ht1,heq⟩:=bind_some heq
   have K2:RunH C45 (S45 F H r) H w0 [.c [1,1,0,1,0,0,1,1,0,0,1,0,1],.c [1,1,0,1,0,0,1,1,0,0,1,1],.b 1,.c [1,1,0,1,0,0,1,1,1],.l [1,1,0,1,0,0],.b 0,.c [1,1,1]] [(0,.slice Aa0 a0.length ca0),(3,iv v10),(4,pg g1 0),(8,.slice Aa0 a0.length ca0),(9,iv (a0.length:Int)),(10,iv v10),(24,.bool t1)] H ((some (g1,.cells #[iv x1.From,iv x1.To] 51 (0,0)))::F):=by
    rcases bool_cases (t1) with hb4 | hb4
    ·replace heq:=bif_true hb4 heq
     refine Ct t1 hb4<|Ra 1 [1,1,0,1,0,0,1,1,0,0,1,0,1,0,0] [.c [1,1,0,1,0,0,1,1,0,0,1,0,1,0,1],.c [1,1,0,1,0,0,1,1,0,0,1,1],.b 1,.c [1,1,0,1,0,0,1,1,1],.l [1,1,0,1,0,0],.b 0,.c [1,1,1]]<|Rd 1 [2] [(2,iv 1)] ?_
     obtain rfl:=Option.some.inj heq
     refine RunH.pick 1 [] (cs':=F) (by kernel_rfl) rfl ?_
     exact RunH.done (by kernel_rfl) Tryd.func45 (v:=iv 1) (by kernel_rfl) ⟨rfl,rfl,rfl⟩
    ·replace heq:=bif_false hb4 heq
     refine Cf t1 hb4<|Ad 2 [.c [1,1,0,1,0,0,1,1,0,0,1,1,0],.c [1,1,0,1,0,0,1,1,0,0,1,1,1],.b 1,.c [1,1,0,1,0,0,1,1,1],.l [1,1,0,1,0,0],.b 0,.c [1,1,1]] ?_
     obtain ⟨t2,ht2,heq⟩:=bind_some heq
     have K3:RunH C45 (S45 F H r) H w0 [.c [1,1,0,1,0,0,1,1,0,0,1,1,1],.b 1,.c [1,1,0,1,0,0,1,1,1],.l [1,1,0,1,0,0],.b 0,.c [1,1,1]] [(0,.slice Aa0 a0.length ca0),(8,.slice Aa0 a0.length ca0),(9,iv (a0.length:Int)),(10,iv v10),(44,.bool t2)] H (F):=by
      rcases bool_cases (t2) with hb7 | hb7
      ·replace heq:=bif_true hb7 heq
       refine Ct t2 hb7<|Ra 1 [1,1,0,1,0,0,1,1,0,0,1,1,1,0,0] [.c [1,1,0,1,0,0,1,1,0,0,1,1,1,0,1],.b 1,.c [1,1,0,1,0,0,1,1,1],.l [1,1,0,1,0,0],.b 0,.c [1,1,1]]<|Rd 1 [2] [(2,iv 8)] ?_
       obtain rfl:=Option.some.inj heq
       exact RunH.done (by kernel_rfl) Tryd.func45 (v:=iv 8) (by kernel_rfl) ⟨rfl,rfl,rfl⟩
      ·replace heq:=bif_false hb7 heq
       refine Cf t2 hb7<|Ra 2 [1,1,0,1,0,0,1,1,1] [.l [1,1,0,1,0,0],.b 0,.c [1,1,1]]<|Rd 2 [0,8,9,10] [(0,.slice Aa0 a0.length ca0),(8,.slice Aa0 a0.length ca0),(9,iv (a0.length:Int)),(10,iv (w64 (v10+1)))]<|Ad 1 [.c [1,1,0,1,0,0],.l [1,1,0,1,0,0],.b 0,.c [1,1,1]]<|Kp [0,8,9,10] [(0,.slice Aa0 a0.length ca0),(8,.slice Aa0 a0.length ca0),(9,iv (a0.length:Int)),(10,iv (w64 (v10+1)))] ?_
       exact ihk a0 _ _ (w64 (v10+1)) hra0 hca0 heq
     replace heq:=ht2
     refine Kp [0,3,4,8,9,10] [(0,.slice Aa0 a0.length ca0),(3,iv v10),(4,pg g1 0),(8,.slice Aa0 a0.length ca0),(9,iv (a0.length:Int)),(10,iv v10)] ?_
     refine RunH.draw (fun w=>Heap H w0 w ((some (g1,.cells #[iv x1.From,iv x1.To] 51 (0,0)))::F)) (fun w=>Heap H w0 w ((some (g1,.cells #[iv x1.From,iv x1.To] 51 (0,0)))::F)) [3,3,3,3,3,3,3,3,3,3,3,3,3,3,3,3,3,3,3,3] (n:=20) (ls:=[false,false,false,false,false,false,false,false,false,false,false,false,false,false,false,false,false,false,false,false]) (by kernel_rfl) (by kernel_rfl) (by kernel_rfl) rfl ?_
     refine Dk [0,1,2,3,4,5] 14 (nb 20 63) [iv x1.To,iv x1.From] [.load ⟨g1,1,none⟩ (iv x1.To),.load ⟨g1,0,none⟩ (iv x1.From)] [30,0,3,4,8,9,10] [(30,.bool (decide (x1.To≤x1.From))),(0,.slice Aa0 a0.length ca0),(3,iv v10),(4,pg g1 0),(8,.slice Aa0 a0.length ca0),(9,iv (a0.length:Int)),(10,iv v10)] (Pk 1 [0]) (Pk 1 [0]) (fun w hh=>⟨(hh.box 0 rfl rfl),(hh.box 0 rfl rfl)⟩) ?_
     rcases bool_cases (decide (x1.To≤x1.From)) with hb5 | hb5
     ·replace heq:=bif_true hb5 heq
      refine DrH.val1 (v':=.bool true) (congrArg Value.bool hb5) ?_
      refine Dk [6,7,8,9,10,11,12,13,14,15,16,17,18,19] 0 (nb 20 1048575) [] [] [0,8,9,10,44] [(0,.slice Aa0 a0.length ca0),(8,.slice Aa0 a0.length ca0),(9,iv (a0.length:Int)),(10,iv v10),(44,.bool true)] (Pk 1 [0]) (Pk 1 [0]) (fun _ _=>trivial) ?_
      obtain rfl:=Option.some.inj heq
      refine Kr [0,8,9,10,44] [(0,.slice Aa0 a0.length ca0),(8,.slice Aa0 a0.length ca0),(9,iv (a0.length:Int)),(10,iv v10),(44,.bool true)] ?_
      refine DrH.pick 1 [] (cs':=F) (by kernel_rfl) rfl ?_
      refine DrH.done (by kernel_rfl) ?_
      exact K3
     ·replace heq:=bif_false hb5 heq
      refine DrH.val1 (v':=.bool false) (congrArg Value.bool hb5) ?_
      refine Dk [6,7,8] 11 (nb 20 511) [] [] [33,0,3,4,8,9,10,30] [(33,.bool (decide (0<v10))),(0,.slice Aa0 a0.length ca0),(3,iv v10),(4,pg g1 0),(8,.slice Aa0 a0.length ca0),(9,iv (a0.length:Int)),(10,iv v10),(30,.bool false)] (Pk 1 [0]) (Pk 1 [0]) (fun _ _=>trivial) ?_
      rcases bool_cases (decide (0<v10)) with hb6 | hb6
      ·replace heq:=bif_true hb6 heq
       refine DrH.val1 (v':=.bool true) (congrArg Value.bool hb6) ?_
       obtain ⟨x2,hx2,heq⟩:=bind_some heq
       obtain ⟨ha2,cs2,hK2,hcc2⟩:=hra0.get hx2
       obtain ⟨rfl⟩:=kSpan_open hK2
       refine Dk [9,10,11,12,13,14,15,16,17,18,19] 0 (nb 20 1048575) [iv x1.From,iv x2.To] [.load ⟨g1,0,none⟩ (iv x1.From),.need (Aa0=some (adr Aa0)∧(0:Int)≤(w64 (v10 - 1))∧(w64 (v10 - 1))<((a0.length:Nat):Int)),.load (((adr Aa0).add ((w64 (v10 - 1)).toNat*2)).add 1) (iv x2.To)] [0,8,9,10,44] [(0,.slice Aa0 a0.length ca0),(8,.slice Aa0 a0.length ca0),(9,iv (a0.length:Int)),(10,iv v10),(44,.bool (decide (x1.From<x2.To)))] (Pk 1 [0]) (Pk 1 [0]) (fun w hh=>⟨(hh.box 0 rfl rfl),⟨ha2,(at?_some hx2).1,(at?_some hx2).2.1⟩,(hcc2 _ _ (hh.drop 1) 1 _ rfl)⟩) ?_
       obtain rfl:=Option.some.inj heq
       refine Kr [0,8,9,10,44] [(0,.slice Aa0 a0.length ca0),(8,.slice Aa0 a0.length ca0),(9,iv (a0.length:Int)),(10,iv v10),(44,.bool (decide (x1.From<x2.To)))] ?_
       refine DrH.pick 1 [] (cs':=F) (by kernel_rfl) rfl ?_
       refine DrH.done (by kernel_rfl) ?_
       exact K3
      ·replace heq:=bif_false hb6 heq
       refine DrH.val1 (v':=.bool false) (congrArg Value.bool hb6) ?_
       refine Dk [9,10,11,12,13,14,15,16,17,18,19] 0 (nb 20 1048575) [] [] [0,8,9,10,44] [(0,.slice Aa0 a0.length ca0),(8,.slice Aa0 a0.length ca0),(9,iv (a0.length:Int)),(10,iv v10),(44,.bool false)] (Pk 1 [0]) (Pk 1 [0]) (fun _ _=>trivial) ?_
       obtain rfl:=Option.some.inj heq
       refine Kr [0,8,9,10,44] [(0,.slice Aa0 a0.length ca0),(8,.slice Aa0 a0.length ca0),(9,iv (a0.length:Int)),(10,iv v10),(44,.bool false)] ?_
       refine DrH.pick 1 [] (cs':=F) (by kernel_rfl) rfl ?_
       refine DrH.done (by kernel_rfl) ?_
       exact K3
   replace heq:=ht1
   refine Rr<|Rv 2 [0,3,4,8,9,10,16] [iv x1.From] [.load ⟨g1,0,none⟩ (iv x1.From)] [(0,.slice Aa0 a0.length ca0),(3,iv v10),(4,pg g1 0),(8,.slice Aa0 a0.length ca0),(9,iv (a0.length:Int)),(10,iv v10),(16,iv x1.From)] (fun w hh=>(hh.box 0 rfl rfl)) ?_
   obtain ⟨y1,hy1,heq⟩:=bind_some heq
   refine RgH.does (DoesH.call (d:=17) (g:=44) (args:=#[iv x1.From,iv 0,iv 1000000000]) (by kernel_rfl) (smithyardref9_within_c (a0:=x1.From) (a1:=0) (a2:=1000000000)  hy1)) ?_
   rintro _ _ _ _ ⟨_,rfl,rfl,rfl,rfl⟩
   refine Rk 5 [19,0,3,4,8,9,10] [(19,.bool (!y1)),(0,.slice Aa0 a0.length ca0),(3,iv v10),(4,pg g1 0),(8,.slice Aa0 a0.length ca0),(9,iv (a0.length:Int)),(10,iv v10)] ?_
   rcases bool_cases (!y1) with hb3 | hb3
   ·replace heq:=bif_true hb3 heq
    refine RgH.val1 (v':=.bool true) (congrArg Value.bool hb3) ?_
    refine Rk 10 [0,3,4,8,9,10,24] [(0,.slice Aa0 a0.length ca0),(3,iv v10),(4,pg g1 0),(8,.slice Aa0 a0.length ca0),(9,iv (a0.length:Int)),(10,iv v10),(24,.bool true)] ?_
    obtain rfl:=Option.some.inj heq
    refine Kg [0,3,4,8,9,10,24] [(0,.slice Aa0 a0.length ca0),(3,iv v10),(4,pg g1 0),(8,.slice Aa0 a0.length ca0),(9,iv (a0.length:Int)),(10,iv v10),(24,.bool true)]<|Dn ?_
    exact K2
   ·replace heq:=bif_false hb3 heq
    refine RgH.val1 (v':=.bool false) (congrArg Value.bool hb3) ?_
    refine Rv 7 [0,3,4,8,9,10,19,21] [iv x1.To] [.load ⟨g1,1,none⟩ (iv x1.To)] [(0,.slice Aa0 a0.length ca0),(3,iv v10),(4,pg g1 0),(8,.slice Aa0 a0.length ca0),(9,iv (a0.length:Int)),(10,iv v10),(19,.bool false),(21,iv x1.To)] (fun w hh=>(hh.box 0 rfl rfl)) ?_
    obtain ⟨y2,hy2,heq⟩:=bind_some heq
    refine RgH.does (DoesH.call (d:=22) (g:=44) (args:=#[iv x1.To,iv 0,iv 1000000000]) (by kernel_rfl) (smithyardref9_within_c (a0:=x1.To) (a1:=0) (a2:=1000000000)  hy2)) ?_
    rintro _ _ _ _ ⟨_,rfl,rfl,rfl,rfl⟩
    refine Rk 10 [0,3,4,8,9,10,24] [(0,.slice Aa0 a0.length ca0),(3,iv v10),(4,pg g1 0),(8,.slice Aa0 a0.length ca0),(9,iv (a0.length:Int)),(10,iv v10),(24,.bool (!y2))] ?_
    obtain rfl:=Option.some.inj heq
    refine Kg [0,3,4,8,9,10,24] [(0,.slice Aa0 a0.length ca0),(3,iv v10),(4,pg g1 0),(8,.slice Aa0 a0.length ca0),(9,iv (a0.length:Int)),(10,iv v10),(24,.bool (!y2))]<|Dn ?_
    exact K2
  ·replace heq:=bif_false hb2 heq
   refine Cf (decide (v10<(a0.length:Int))) hb2<|Ad 2 [.c [1,1,1,0],.c [1,1,1,1]]<|Kp [] [] ?_
   exact he1 heq
theorem smithyardref9_checkStands_c {w0:World} {H:Hp} {F:List Ch} {a0:List Span} {Aa0:Option Addr} {na0:Nat} {ca0:Nat} {r:Int} (hra0:Rw kSpan H F Aa0 a0) (hca0:na0≤ca0) (hna0:na0=a0.length) (heq:smithyardref9_checkStands.f a0=some r):CallsH Tryd.prog 45 #[.slice Aa0 na0 ca0] H w0 (F) (S45 F H r):=by
 refine calls_of_runH (F:=C45) Tryd.func45 (by kernel_rfl) Tryd.ntmps45 (args:=[.slice Aa0 na0 ca0]) (by kernel_rfl) ?_
 subst hna0
 unfold smithyardref9_checkStands.f at heq
 refine Ra 1 [0] [.c [1]]<|Rd 1 [0] [(0,.slice Aa0 a0.length ca0)]<|Ra 2 [1,0,0] [.c [1,0,1],.c [1,1]]<|Rd 3 [0,7] [(0,.slice Aa0 a0.length ca0),(7,.bool (decide (20<(a0.length:Int))))] ?_
 rcases bool_cases (decide (20<(a0.length:Int))) with hb1 | hb1
 ·replace heq:=bif_true hb1 heq
  refine Ct (decide (20<(a0.length:Int))) hb1<|Ra 1 [1,0,1,0,0] [.c [1,0,1,0,1],.c [1,1]]<|Rd 1 [2] [(2,iv 2)] ?_
  obtain rfl:=Option.some.inj heq
  exact RunH.done (by kernel_rfl) Tryd.func45 (v:=iv 2) (by kernel_rfl) ⟨rfl,rfl,rfl⟩
 ·replace heq:=bif_false hb1 heq
  refine Cf (decide (20<(a0.length:Int))) hb1<|Ra 3 [1,1,0,0] [.c [1,1,0,1],.c [1,1,1]]<|Rd 3 [0,8,9,10] [(0,.slice Aa0 a0.length ca0),(8,.slice Aa0 a0.length ca0),(9,iv (a0.length:Int)),(10,iv 0)]<|Ad 2 [.c [1,1,0,1,0,0],.l [1,1,0,1,0,0],.b 0,.c [1,1,1]]<|Kp [0,8,9,10] [(0,.slice Aa0 a0.length ca0),(8,.slice Aa0 a0.length ca0),(9,iv (a0.length:Int)),(10,iv 0)] ?_
  exact ((smithyardref9_checkStands.l2_c (e1:=smithyardref9_checkStands.e1) (smithyardref9_checkStands.e1_c)) big) a0 _ _ 0 hra0 hca0 heq
noncomputable def C25:Ctx:={ P:=Tryd.prog,f:=25,N:=46,c:=bodyOf Tryd.f25 }
def S25 (F:List Ch) (H0:Hp) (r:Int) (v:Value) (H:Hp) (cs:List Ch):Prop:=H0=H∧v=iv r∧F=cs
theorem smithyardref9_checkWorker_c {w0:World} {H:Hp} {F:List Ch} {a0:Worker} {Aa0_1:Option Addr} {na0_1:Nat} {ca0_1:Nat} {Aa0_6:Option Addr} {na0_6:Nat} {ca0_6:Nat} {r:Int} (hra0_1:Rw kPair H F Aa0_1 a0.Has) (hca0_1:na0_1≤ca0_1) (hna0_1:na0_1=a0.Has.length) (hra0_6:Rw kSpan H F Aa0_6 a0.Stands) (hca0_6:na0_6≤ca0_6) (hna0_6:na0_6=a0.Stands.length) (heq:smithyardref9_checkWorker.f a0=some r):CallsH Tryd.prog 25 #[.agg #[.string a0.Name,.slice Aa0_1 na0_1 ca0_1,iv a0.Slots,iv a0.Speed,iv a0.From,iv a0.To,.slice Aa0_6 na0_6 ca0_6]] H w0 (F) (S25 F H r):=by
 refine calls_of_runH (F:=C25) Tryd.func25 (by kernel_rfl) Tryd.ntmps25 (args:=[.agg #[.string a0.Name,.slice Aa0_1 na0_1 ca0_1,iv a0.Slots,iv a0.Speed,iv a0.From,iv a0.To,.slice Aa0_6 na0_6 ca0_6]]) (by kernel_rfl) ?_
 subst hna0_1
 subst hna0_6
 unfold smithyardref9_checkWorker.f at heq
 refine Ra 1 [0] [.c [1]] ?_
 refine RgH.does (DoesH.new (d:=1) (v:=fun g=>.pointer (some ⟨g,0,none⟩)) (o:=fun g=>.cells #[.string a0.Name,.slice Aa0_1 a0.Has.length ca0_1,iv a0.Slots,iv a0.Speed,iv a0.From,iv a0.To,.slice Aa0_6 a0.Stands.length ca0_6] 27 (0,0)) (fun g=>by kernel_rfl)) ?_
 rintro _ _ _ _ ⟨g1,rfl,rfl,rfl⟩
 refine Rd 2 [1] [(1,pg g1 0)]<|Ra 2 [1,0,0] [.c [1,0,1],.c [1,1]]<|Rv 2 [1,5] [.string a0.Name] [.load ⟨g1,0,none⟩ (.string a0.Name)] [(1,pg g1 0),(5,.string a0.Name)] (fun w hh=>(hh.box 0 rfl rfl)) ?_
 obtain ⟨y1,hy1,heq⟩:=bind_some heq
 refine RgH.does (DoesH.call (d:=6) (g:=42) (args:=#[.string a0.Name]) (by kernel_rfl) (smithyardref9_isWord_c (a0:=a0.Name)  hy1)) ?_
 rintro _ _ _ _ ⟨_,rfl,rfl,rfl,rfl⟩
 refine Rd 4 [1,7] [(1,pg g1 0),(7,.bool (!y1))] ?_
 rcases bool_cases (!y1) with hb1 | hb1
 ·replace heq:=bif_true hb1 heq
  refine Ct (!y1) hb1<|Ra 1 [1,0,1,0,0] [.c [1,0,1,0,1],.c [1,1]]<|Rd 1 [2] [(2,iv 5)] ?_
  obtain rfl:=Option.some.inj heq
  refine RunH.pick 1 [] (cs':=F) (by kernel_rfl) rfl ?_
  exact RunH.done (by kernel_rfl) Tryd.func25 (v:=iv 5) (by kernel_rfl) ⟨rfl,rfl,rfl⟩
 ·replace heq:=bif_false hb1 heq
  refine Cf (!y1) hb1<|Ra 3 [1,1,0,0] [.c [1,1,0,1],.c [1,1,1]]<|Rv 2 [1,9] [.slice Aa0_1 a0.Has.length ca0_1] [.load ⟨g1,1,none⟩ (.slice Aa0_1 a0.Has.length ca0_1)] [(1,pg g1 0),(9,.slice Aa0_1 a0.Has.length ca0_1)] (fun w hh=>(hh.box 0 rfl rfl)) ?_
  obtain ⟨y2,hy2,heq⟩:=bind_some heq
  refine RgH.does (DoesH.call (d:=10) (g:=43) (args:=#[.slice Aa0_1 a0.Has.length ca0_1]) (by kernel_rfl) (smithyardref9_checkPairs_c (a0:=a0.Has) (hra0_1.wk (fun _ h=>(.tail _ h))) hca0_1 rfl hy2)) ?_
  rintro _ _ _ _ ⟨_,rfl,rfl,rfl,rfl⟩
  refine Rd 4 [1,3] [(1,pg g1 0),(3,iv y2)]<|Ra 1 [1,1,0,1,0] [.c [1,1,0,1,1],.c [1,1,1]]<|Rd 2 [1,3,12] [(1,pg g1 0),(3,iv y2),(12,.bool (y2 != 0))] ?_
  rcases bool_cases (y2 != 0) with hb2 | hb2
  ·replace heq:=bif_true hb2 heq
   refine Ct (y2 != 0) hb2<|Ra 1 [1,1,0,1,1,0,0] [.c [1,1,0,1,1,0,1],.c [1,1,1]]<|Rd 2 [2] [(2,iv y2)] ?_
   obtain rfl:=Option.some.inj heq
   refine RunH.pick 1 [] (cs':=F) (by kernel_rfl) rfl ?_
   exact RunH.done (by kernel_rfl) Tryd.func25 (v:=iv y2) (by kernel_rfl) ⟨rfl,rfl,rfl⟩
  ·replace heq:=bif_false hb2 heq
   refine Cf (y2 != 0) hb2<|Ad 4 [.c [1,1,1,0,0,0],.c [1,1,1,0,0,1],.b 0,.c [1,1,1,1]] ?_
   obtain ⟨t1,ht1,heq⟩:=bind_some heq
   have K2:RunH C25 (S25 F H r) H w0 [.c [1,1,1,0,0,1],.b 0,.c [1,1,1,1]] [(1,pg g1 0),(14,.bool t1)] H ((some (g1,.cells #[.string a0.Name,.slice Aa0_1 a0.Has.length ca0_1,iv a0.Slots,iv a0.Speed,iv a0.From,iv a0.To,.slice Aa0_6 a0.Stands.length ca0_6] 27 (0,0)))::F):=by
    rcases bool_cases (t1) with hb6 | hb6
    ·replace heq:=bif_true hb6 heq
     refine Ct t1 hb6<|Ra 1 [1,1,1,0,0,1,0,0] [.c [1,1,1,0,0,1,0,1],.b 0,.c [1,1,1,1]]<|Rd 1 [2] [(2,iv 1)] ?_
     obtain rfl:=Option.some.inj heq
     refine RunH.pick 1 [] (cs':=F) (by kernel_rfl) rfl ?_
     exact RunH.done (by kernel_rfl) Tryd.func25 (v:=iv 1) (by kernel_rfl) ⟨rfl,rfl,rfl⟩
    ·replace heq:=bif_false hb6 heq
     refine Cf t1 hb6<|Ra 1 [1,1,1,0,0,1,1,0] [.c [1,1,1,0,0,1,1,1],.b 0,.c [1,1,1,1]]<|Rw' 6 [1,37] [iv a0.To,iv a0.From] [.load ⟨g1,5,none⟩ (iv a0.To),.load ⟨g1,4,none⟩ (iv a0.From)] [(1,pg g1 0),(37,.bool (decide (a0.To≤a0.From)))] (fun w hh=>⟨(hh.box 0 rfl rfl),(hh.box 0 rfl rfl)⟩) ?_
     rcases bool_cases (decide (a0.To≤a0.From)) with hb7 | hb7
     ·replace heq:=bif_true hb7 heq
      refine Ct (decide (a0.To≤a0.From)) hb7<|Ra 1 [1,1,1,0,0,1,1,1,0,0] [.c [1,1,1,0,0,1,1,1,0,1],.b 0,.c [1,1,1,1]]<|Rd 1 [2] [(2,iv 8)] ?_
      obtain rfl:=Option.some.inj heq
      refine RunH.pick 1 [] (cs':=F) (by kernel_rfl) rfl ?_
      exact RunH.done (by kernel_rfl) Tryd.func25 (v:=iv 8) (by kernel_rfl) ⟨rfl,rfl,rfl⟩
     ·replace heq:=bif_false hb7 heq
      refine Cf (decide (a0.To≤a0.From)) hb7<|Ra 3 [1,1,1,1,0] [.c [1,1,1,1,1]]<|Rv 2 [44] [.slice Aa0_6 a0.Stands.length ca0_6] [.load ⟨g1,6,none⟩ (.slice Aa0_6 a0.Stands.length ca0_6)] [(44,.slice Aa0_6 a0.Stands.length ca0_6)] (fun w hh=>(hh.box 0 rfl rfl)) ?_
      obtain ⟨y7,hy7,heq⟩:=bind_some heq
      refine RgH.does (DoesH.call (d:=45) (g:=45) (args:=#[.slice Aa0_6 a0.Stands.length ca0_6]) (by kernel_rfl) (smithyardref9_checkStands_c (a0:=a0.Stands) (hra0_6.wk (fun _ h=>(.tail _ h))) hca0_6 rfl hy7)) ?_
      rintro _ _ _ _ ⟨_,rfl,rfl,rfl,rfl⟩
      refine Rd 4 [2] [(2,iv y7)] ?_
      obtain rfl:=Option.some.inj heq
      refine RunH.pick 1 [] (cs':=F) (by kernel_rfl) rfl ?_
      exact RunH.done (by kernel_rfl) Tryd.func25 (v:=iv y7) (by kernel_rfl) ⟨rfl,rfl,rfl⟩
   replace heq:=ht1
   refine Rr<|Rv 2 [1,16] [iv a0.Slots] [.load ⟨g1,2,none⟩ (iv a0.Slots)] [(1,pg g1 0),(16,iv a0.Slots)] (fun w hh=>(hh.box 0 rfl rfl)) ?_
   obtain ⟨y3,hy3,heq⟩:=bind_some heq
   refine RgH.does (DoesH.call (d:=17) (g:=44) (args:=#[iv a0.Slots,iv 1,iv 20]) (by kernel_rfl) (smithyardref9_within_c (a0:=a0.Slots) (a1:=1) (a2:=20)  hy3)) ?_
   rintro _ _ _ _ ⟨_,rfl,rfl,rfl,rfl⟩
   refine Rk 5 [19,1] [(19,.bool (!y3)),(1,pg g1 0)] ?_
   rcases bool_cases (!y3) with hb3 | hb3
   ·replace heq:=bif_true hb3 heq
    refine RgH.val1 (v':=.bool true) (congrArg Value.bool hb3) ?_
    refine Rk 23 [1,14] [(1,pg g1 0),(14,.bool true)] ?_
    obtain rfl:=Option.some.inj heq
    refine Kg [1,14] [(1,pg g1 0),(14,.bool true)]<|Dn ?_
    exact K2
   ·replace heq:=bif_false hb3 heq
    refine RgH.val1 (v':=.bool false) (congrArg Value.bool hb3) ?_
    refine Rv 7 [1,19,21] [iv a0.Speed] [.load ⟨g1,3,none⟩ (iv a0.Speed)] [(1,pg g1 0),(19,.bool false),(21,iv a0.Speed)] (fun w hh=>(hh.box 0 rfl rfl)) ?_
    obtain ⟨y4,hy4,heq⟩:=bind_some heq
    refine RgH.does (DoesH.call (d:=22) (g:=44) (args:=#[iv a0.Speed,iv 1,iv 1000]) (by kernel_rfl) (smithyardref9_within_c (a0:=a0.Speed) (a1:=1) (a2:=1000)  hy4)) ?_
    rintro _ _ _ _ ⟨_,rfl,rfl,rfl,rfl⟩
    refine Rk 11 [25,1] [(25,.bool (!y4)),(1,pg g1 0)] ?_
    rcases bool_cases (!y4) with hb4 | hb4
    ·replace heq:=bif_true hb4 heq
     refine RgH.val1 (v':=.bool true) (congrArg Value.bool hb4) ?_
     refine Rk 23 [1,14] [(1,pg g1 0),(14,.bool true)] ?_
     obtain rfl:=Option.some.inj heq
     refine Kg [1,14] [(1,pg g1 0),(14,.bool true)]<|Dn ?_
     exact K2
    ·replace heq:=bif_false hb4 heq
     refine RgH.val1 (v':=.bool false) (congrArg Value.bool hb4) ?_
     refine Rv 13 [1,25,27] [iv a0.From] [.load ⟨g1,4,none⟩ (iv a0.From)] [(1,pg g1 0),(25,.bool false),(27,iv a0.From)] (fun w hh=>(hh.box 0 rfl rfl)) ?_
     obtain ⟨y5,hy5,heq⟩:=bind_some heq
     refine RgH.does (DoesH.call (d:=28) (g:=44) (args:=#[iv a0.From,iv 0,iv 1000000000]) (by kernel_rfl) (smithyardref9_within_c (a0:=a0.From) (a1:=0) (a2:=1000000000)  hy5)) ?_
     rintro _ _ _ _ ⟨_,rfl,rfl,rfl,rfl⟩
     refine Rk 17 [31,1] [(31,.bool (!y5)),(1,pg g1 0)] ?_
     rcases bool_cases (!y5) with hb5 | hb5
     ·replace heq:=bif_true hb5 heq
      refine RgH.val1 (v':=.bool true) (congrArg Value.bool hb5) ?_
      refine Rk 23 [1,14] [(1,pg g1 0),(14,.bool true)] ?_
      obtain rfl:=Option.some.inj heq
      refine Kg [1,14] [(1,pg g1 0),(14,.bool true)]<|Dn ?_
      exact K2
     ·replace heq:=bif_false hb5 heq
      refine RgH.val1 (v':=.bool false) (congrArg Value.bool hb5) ?_
      refine Rv 19 [1,31,33] [iv a0.To] [.load ⟨g1,5,none⟩ (iv a0.To)] [(1,pg g1 0),(31,.bool false),(33,iv a0.To)] (fun w hh=>(hh.box 0 rfl rfl)) ?_
      obtain ⟨y6,hy6,heq⟩:=bind_some heq
      refine RgH.does (DoesH.call (d:=34) (g:=44) (args:=#[iv a0.To,iv 0,iv 1000000000]) (by kernel_rfl) (smithyardref9_within_c (a0:=a0.To) (a1:=0) (a2:=1000000000)  hy6)) ?_
      rintro _ _ _ _ ⟨_,rfl,rfl,rfl,rfl⟩
      refine Rk 23 [1,14] [(1,pg g1 0),(14,.bool (!y6))] ?_
      obtain rfl:=Option.some.inj heq
      refine Kg [1,14] [(1,pg g1 0),(14,.bool (!y6))]<|Dn ?_
      exact K2
noncomputable def C26:Ctx:={ P:=Tryd.prog,f:=26,N:=44,c:=bodyOf Tryd.f26 }
def S26 (F:List Ch) (H0:Hp) (r:Int) (v:Value) (H:Hp) (cs:List Ch):Prop:=H0=H∧v=iv r∧F=cs
theorem smithyardref9_checkWork.e1_c {w0:World} {H:Hp} {F:List Ch} {r:Int}:smithyardref9_checkWork.e1=some r→RunH C26 (S26 F H r) H w0 [.c [1,1,1,1,1,0],.c [1,1,1,1,1,1]] [] H (F):=by
 intro   heq
 unfold smithyardref9_checkWork.e1 at heq
 refine Rr<|Rd 1 [2] [(2,iv 0)] ?_
 obtain rfl:=Option.some.inj heq
 exact RunH.done (by kernel_rfl) Tryd.func26 (v:=iv 0) (by kernel_rfl) ⟨rfl,rfl,rfl⟩
theorem smithyardref9_checkWork.l2_c {w0:World} {H:Hp} {F:List Ch} {r:Int} (e1:Option Int)
  (he1:e1=some r→RunH C26 (S26 F H r) H w0 [.c [1,1,1,1,1,0],.c [1,1,1,1,1,1]] [] H (F)):∀ (k:Nat),∀ (a0:Work) (Aa0_1:Option Addr) (ca0_1:Nat) (Aa0_3:Option Addr) (ca0_3:Nat) (g1:Nat) (v23:Int) ,Rw kPair H F Aa0_1 a0.Needs→a0.Needs.length≤ca0_1→Rw Kd.string H F Aa0_3 a0.After→a0.After.length≤ca0_3→smithyardref9_checkWork.l2 e1 k a0 v23=some r→RunH C26 (S26 F H r) H w0 [.c [1,1,1,1,0,1,0,0],.l [1,1,1,1,0,1,0,0],.b 0,.c [1,1,1,1,1]] [(1,pg g1 0),(21,.slice Aa0_3 a0.After.length ca0_3),(22,iv (a0.After.length:Int)),(23,iv v23)] H ((some (g1,.cells #[.string a0.Id,.slice Aa0_1 a0.Needs.length ca0_1,iv a0.Size,.slice Aa0_3 a0.After.length ca0_3] 30 (0,0)))::F):=by
 intro k
 induction k with
 | zero=>intro a0 Aa0_1 ca0_1 Aa0_3 ca0_3 g1 v23 hra0_1 hca0_1 hra0_3 hca0_3 heq; exact nomatch (show (none:Option Int)=some r from heq)
 | succ k ihk =>
  intro a0 Aa0_1 ca0_1 Aa0_3 ca0_3 g1 v23 hra0_1 hca0_1 hra0_3 hca0_3 heq
  rw [smithyardref9_checkWork.l2] at heq
  refine Ra 1 [1,1,1,1,0,1,0,0,0] [.c [1,1,1,1,0,1,0,0,1],.l [1,1,1,1,0,1,0,0],.b 0,.c [1,1,1,1,1]]<|Rd 1 [1,21,22,23,24] [(1,pg g1 0),(21,.slice Aa0_3 a0.After.length ca0_3),(22,iv (a0.After.length:Int)),(23,iv v23),(24,.bool (decide (v23<(a0.After.length:Int))))]<|Ad 1 [.c [1,1,1,1,0,1,0,0,1,0],.c [1,1,1,1,0,1,0,0,1,1],.l [1,1,1,1,0,1,0,0],.b 0,.c [1,1,1,1,1]] ?_
  rcases bool_cases (decide (v23<(a0.After.length:Int))) with hb4 | hb4
  ·replace heq:=bif_true hb4 heq
   refine Ct (decide (v23<(a0.After.length:Int))) hb4<|Ra 4 [1,1,1,1,0,1,0,0,1,1,0,0,0] [.c [1,1,1,1,0,1,0,0,1,1,0,0,1],.b 1,.c [1,1,1,1,0,1,0,0,1,1,1],.l [1,1,1,1,0,1,0,0],.b 0,.c [1,1,1,1,1]] ?_
   obtain ⟨x1,hx1,heq⟩:=bind_some heq
   obtain ⟨ha1,cs1,hK1,hcc1⟩:=hra0_3.get hx1
   obtain rfl:cs1=[.string x1]:=hK1
   refine Rw' 5 [1,4,5,21,22,23] [.string x1] [.need (Aa0_3=some (adr Aa0_3)∧(0:Int)≤v23∧v23<((a0.After.length:Nat):Int)),.load ((adr Aa0_3).add (v23.toNat*1)) (.string x1)] [(1,pg g1 0),(4,iv v23),(5,.string x1),(21,.slice Aa0_3 a0.After.length ca0_3),(22,iv (a0.After.length:Int)),(23,iv v23)] (fun w hh=>⟨⟨ha1,(at?_some hx1).1,(at?_some hx1).2.1⟩,(hcc1 _ _ (hh.drop 1) 0 _ rfl)⟩)<|Ra 2 [1,1,1,1,0,1,0,0,1,1,0,0,1,0,0] [.c [1,1,1,1,0,1,0,0,1,1,0,0,1,0,1],.c [1,1,1,1,0,1,0,0,1,1,0,0,1,1],.b 1,.c [1,1,1,1,0,1,0,0,1,1,1],.l [1,1,1,1,0,1,0,0],.b 0,.c [1,1,1,1,1]]<|Rk 1 [1,4,5,21,22,23,28] [(1,pg g1 0),(4,iv v23),(5,.string x1),(21,.slice Aa0_3 a0.After.length ca0_3),(22,iv (a0.After.length:Int)),(23,iv v23),(28,.string x1)] ?_
   obtain ⟨y4,hy4,heq⟩:=bind_some heq
   refine RgH.does (DoesH.call (d:=29) (g:=42) (args:=#[.string x1]) (by kernel_rfl) (smithyardref9_isWord_c (a0:=x1)  hy4)) ?_
   rintro _ _ _ _ ⟨_,rfl,rfl,rfl,rfl⟩
   refine Rd 3 [1,4,5,21,22,23,30] [(1,pg g1 0),(4,iv v23),(5,.string x1),(21,.slice Aa0_3 a0.After.length ca0_3),(22,iv (a0.After.length:Int)),(23,iv v23),(30,.bool (!y4))] ?_
   rcases bool_cases (!y4) with hb5 | hb5
   ·replace heq:=bif_true hb5 heq
    refine Ct (!y4) hb5<|Ra 1 [1,1,1,1,0,1,0,0,1,1,0,0,1,0,1,0,0] [.c [1,1,1,1,0,1,0,0,1,1,0,0,1,0,1,0,1],.c [1,1,1,1,0,1,0,0,1,1,0,0,1,1],.b 1,.c [1,1,1,1,0,1,0,0,1,1,1],.l [1,1,1,1,0,1,0,0],.b 0,.c [1,1,1,1,1]]<|Rd 1 [2] [(2,iv 5)] ?_
    obtain rfl:=Option.some.inj heq
    refine RunH.pick 1 [] (cs':=F) (by kernel_rfl) rfl ?_
    exact RunH.done (by kernel_rfl) Tryd.func26 (v:=iv 5) (by kernel_rfl) ⟨rfl,rfl,rfl⟩
   ·replace heq:=bif_false hb5 heq
    refine Cf (!y4) hb5<|Ad 2 [.c [1,1,1,1,0,1,0,0,1,1,0,0,1,1,0],.c [1,1,1,1,0,1,0,0,1,1,0,0,1,1,1],.b 1,.c [1,1,1,1,0,1,0,0,1,1,1],.l [1,1,1,1,0,1,0,0],.b 0,.c [1,1,1,1,1]] ?_
    obtain ⟨t1,ht1,heq⟩:=bind_some heq
    have K2:RunH C26 (S26 F H r) H w0 [.c [1,1,1,1,0,1,0,0,1,1,0,0,1,1,1],.b 1,.c [1,1,1,1,0,1,0,0,1,1,1],.l [1,1,1,1,0,1,0,0],.b 0,.c [1,1,1,1,1]] [(1,pg g1 0),(21,.slice Aa0_3 a0.After.length ca0_3),(22,iv (a0.After.length:Int)),(23,iv v23),(42,.bool t1)] H ((some (g1,.cells #[.string a0.Id,.slice Aa0_1 a0.Needs.length ca0_1,iv a0.Size,.slice Aa0_3 a0.After.length ca0_3] 30 (0,0)))::F):=by
     rcases bool_cases (t1) with hb7 | hb7
     ·replace heq:=bif_true hb7 heq
      refine Ct t1 hb7<|Ra 1 [1,1,1,1,0,1,0,0,1,1,0,0,1,1,1,0,0] [.c [1,1,1,1,0,1,0,0,1,1,0,0,1,1,1,0,1],.b 1,.c [1,1,1,1,0,1,0,0,1,1,1],.l [1,1,1,1,0,1,0,0],.b 0,.c [1,1,1,1,1]]<|Rd 1 [2] [(2,iv 8)] ?_
      obtain rfl:=Option.some.inj heq
      refine RunH.pick 1 [] (cs':=F) (by kernel_rfl) rfl ?_
      exact RunH.done (by kernel_rfl) Tryd.func26 (v:=iv 8) (by kernel_rfl) ⟨rfl,rfl,rfl⟩
     ·replace heq:=bif_false hb7 heq
      refine Cf t1 hb7<|Ra 2 [1,1,1,1,0,1,0,0,1,1,1] [.l [1,1,1,1,0,1,0,0],.b 0,.c [1,1,1,1,1]]<|Rd 2 [1,21,22,23] [(1,pg g1 0),(21,.slice Aa0_3 a0.After.length ca0_3),(22,iv (a0.After.length:Int)),(23,iv (w64 (v23+1)))]<|Ad 1 [.c [1,1,1,1,0,1,0,0],.l [1,1,1,1,0,1,0,0],.b 0,.c [1,1,1,1,1]]<|Kp [1,21,22,23] [(1,pg g1 0),(21,.slice Aa0_3 a0.After.length ca0_3),(22,iv (a0.After.length:Int)),(23,iv (w64 (v23+1)))] ?_
      exact ihk a0 _ _ _ _ _ (w64 (v23+1)) hra0_1 hca0_1 hra0_3 hca0_3 heq
    replace heq:=ht1
    refine Rr<|Rk 3 [33,1,4,5,21,22,23] [(33,.bool (decide (0<v23))),(1,pg g1 0),(4,iv v23),(5,.string x1),(21,.slice Aa0_3 a0.After.length ca0_3),(22,iv (a0.After.length:Int)),(23,iv v23)] ?_
    rcases bool_cases (decide (0<v23)) with hb6 | hb6
    ·replace heq:=bif_true hb6 heq
     refine RgH.val1 (v':=.bool true) (congrArg Value.bool hb6) ?_
     obtain ⟨x2,hx2,heq⟩:=bind_some heq
     obtain ⟨ha2,cs2,hK2,hcc2⟩:=hra0_3.get hx2
     obtain rfl:cs2=[.string x2]:=hK2
     refine Rv 12 [1,21,22,23,42] [.slice Aa0_3 a0.After.length ca0_3,.string x2] [.load ⟨g1,3,none⟩ (.slice Aa0_3 a0.After.length ca0_3),.need (Aa0_3=some (adr Aa0_3)∧(0:Int)≤(w64 (v23 - 1))∧(w64 (v23 - 1))<((a0.After.length:Nat):Int)),.load ((adr Aa0_3).add ((w64 (v23 - 1)).toNat*1)) (.string x2)] [(1,pg g1 0),(21,.slice Aa0_3 a0.After.length ca0_3),(22,iv (a0.After.length:Int)),(23,iv v23),(42,.bool (sLt x1 x2||sEq x1 x2))] (fun w hh=>⟨(hh.box 0 rfl rfl),⟨ha2,(at?_some hx2).1,(at?_some hx2).2.1⟩,(hcc2 _ _ (hh.drop 1) 0 _ rfl)⟩) ?_
     obtain rfl:=Option.some.inj heq
     refine Kg [1,21,22,23,42] [(1,pg g1 0),(21,.slice Aa0_3 a0.After.length ca0_3),(22,iv (a0.After.length:Int)),(23,iv v23),(42,.bool (sLt x1 x2||sEq x1 x2))]<|Dn ?_
     exact K2
    ·replace heq:=bif_false hb6 heq
     refine RgH.val1 (v':=.bool false) (congrArg Value.bool hb6) ?_
     refine Rk 12 [1,21,22,23,42] [(1,pg g1 0),(21,.slice Aa0_3 a0.After.length ca0_3),(22,iv (a0.After.length:Int)),(23,iv v23),(42,.bool false)] ?_
     obtain rfl:=Option.some.inj heq
     refine Kg [1,21,22,23,42] [(1,pg g1 0),(21,.slice Aa0_3 a0.After.length ca0_3),(22,iv (a0.After.length:Int)),(23,iv v23),(42,.bool false)]<|Dn ?_
     exact K2
  ·replace heq:=bif_false hb4 heq
   refine Cf (decide (v23<(a0.After.length:Int))) hb4<|Ad 2 [.c [1,1,1,1,1,0],.c [1,1,1,1,1,1]]<|Kp [] [] ?_
   refine RunH.pick 1 [] (cs':=F) (by kernel_rfl) rfl ?_
   exact he1 heq
theorem smithyardref9_checkWork_c {w0:World} {H:Hp} {F:List Ch} {a0:Work} {Aa0_1:Option Addr} {na0_1:Nat} {ca0_1:Nat} {Aa0_3:Option Addr} {na0_3:Nat} {ca0_3:Nat} {r:Int} (hra0_1:Rw kPair H F Aa0_1 a0.Needs) (hca0_1:na0_1≤ca0_1) (hna0_1:na0_1=a0.Needs.length) (hra0_3:Rw Kd.string H F Aa0_3 a0.After) (hca0_3:na0_3≤ca0_3) (hna0_3:na0_3=a0.After.length) (heq:smithyardref9_checkWork.f a0=some r):CallsH Tryd.prog 26 #[.agg #[.string a0.Id,.slice Aa0_1 na0_1 ca0_1,iv a0.Size,.slice Aa0_3 na0_3 ca0_3]] H w0 (F) (S26 F H r):=by
 refine calls_of_runH (F:=C26) Tryd.func26 (by kernel_rfl) Tryd.ntmps26 (args:=[.agg #[.string a0.Id,.slice Aa0_1 na0_1 ca0_1,iv a0.Size,.slice Aa0_3 na0_3 ca0_3]]) (by kernel_rfl) ?_
 subst hna0_1
 subst hna0_3
 unfold smithyardref9_checkWork.f at heq
 refine Ra 1 [0] [.c [1]] ?_
 refine RgH.does (DoesH.new (d:=1) (v:=fun g=>.pointer (some ⟨g,0,none⟩)) (o:=fun g=>.cells #[.string a0.Id,.slice Aa0_1 a0.Needs.length ca0_1,iv a0.Size,.slice Aa0_3 a0.After.length ca0_3] 30 (0,0)) (fun g=>by kernel_rfl)) ?_
 rintro _ _ _ _ ⟨g1,rfl,rfl,rfl⟩
 refine Rd 2 [1] [(1,pg g1 0)]<|Ra 2 [1,0,0] [.c [1,0,1],.c [1,1]]<|Rv 2 [1,7] [.string a0.Id] [.load ⟨g1,0,none⟩ (.string a0.Id)] [(1,pg g1 0),(7,.string a0.Id)] (fun w hh=>(hh.box 0 rfl rfl)) ?_
 obtain ⟨y1,hy1,heq⟩:=bind_some heq
 refine RgH.does (DoesH.call (d:=8) (g:=42) (args:=#[.string a0.Id]) (by kernel_rfl) (smithyardref9_isWord_c (a0:=a0.Id)  hy1)) ?_
 rintro _ _ _ _ ⟨_,rfl,rfl,rfl,rfl⟩
 refine Rd 4 [1,9] [(1,pg g1 0),(9,.bool (!y1))] ?_
 rcases bool_cases (!y1) with hb1 | hb1
 ·replace heq:=bif_true hb1 heq
  refine Ct (!y1) hb1<|Ra 1 [1,0,1,0,0] [.c [1,0,1,0,1],.c [1,1]]<|Rd 1 [2] [(2,iv 5)] ?_
  obtain rfl:=Option.some.inj heq
  refine RunH.pick 1 [] (cs':=F) (by kernel_rfl) rfl ?_
  exact RunH.done (by kernel_rfl) Tryd.func26 (v:=iv 5) (by kernel_rfl) ⟨rfl,rfl,rfl⟩
 ·replace heq:=bif_false hb1 heq
  refine Cf (!y1) hb1<|Ra 3 [1,1,0,0] [.c [1,1,0,1],.c [1,1,1]]<|Rv 2 [1,11] [.slice Aa0_1 a0.Needs.length ca0_1] [.load ⟨g1,1,none⟩ (.slice Aa0_1 a0.Needs.length ca0_1)] [(1,pg g1 0),(11,.slice Aa0_1 a0.Needs.length ca0_1)] (fun w hh=>(hh.box 0 rfl rfl)) ?_
  obtain ⟨y2,hy2,heq⟩:=bind_some heq
  refine RgH.does (DoesH.call (d:=12) (g:=43) (args:=#[.slice Aa0_1 a0.Needs.length ca0_1]) (by kernel_rfl) (smithyardref9_checkPairs_c (a0:=a0.Needs) (hra0_1.wk (fun _ h=>(.tail _ h))) hca0_1 rfl hy2)) ?_
  rintro _ _ _ _ ⟨_,rfl,rfl,rfl,rfl⟩
  refine Rd 4 [1,3] [(1,pg g1 0),(3,iv y2)]<|Ra 1 [1,1,0,1,0] [.c [1,1,0,1,1],.c [1,1,1]]<|Rd 2 [1,3,14] [(1,pg g1 0),(3,iv y2),(14,.bool (y2 != 0))] ?_
  rcases bool_cases (y2 != 0) with hb2 | hb2
  ·replace heq:=bif_true hb2 heq
   refine Ct (y2 != 0) hb2<|Ra 1 [1,1,0,1,1,0,0] [.c [1,1,0,1,1,0,1],.c [1,1,1]]<|Rd 2 [2] [(2,iv y2)] ?_
   obtain rfl:=Option.some.inj heq
   refine RunH.pick 1 [] (cs':=F) (by kernel_rfl) rfl ?_
   exact RunH.done (by kernel_rfl) Tryd.func26 (v:=iv y2) (by kernel_rfl) ⟨rfl,rfl,rfl⟩
  ·replace heq:=bif_false hb2 heq
   refine Cf (y2 != 0) hb2<|Ra 3 [1,1,1,0,0] [.c [1,1,1,0,1],.c [1,1,1,1]]<|Rv 2 [1,17] [iv a0.Size] [.load ⟨g1,2,none⟩ (iv a0.Size)] [(1,pg g1 0),(17,iv a0.Size)] (fun w hh=>(hh.box 0 rfl rfl)) ?_
   obtain ⟨y3,hy3,heq⟩:=bind_some heq
   refine RgH.does (DoesH.call (d:=18) (g:=44) (args:=#[iv a0.Size,iv 1,iv 1000000]) (by kernel_rfl) (smithyardref9_within_c (a0:=a0.Size) (a1:=1) (a2:=1000000)  hy3)) ?_
   rintro _ _ _ _ ⟨_,rfl,rfl,rfl,rfl⟩
   refine Rd 4 [1,19] [(1,pg g1 0),(19,.bool (!y3))] ?_
   rcases bool_cases (!y3) with hb3 | hb3
   ·replace heq:=bif_true hb3 heq
    refine Ct (!y3) hb3<|Ra 1 [1,1,1,0,1,0,0] [.c [1,1,1,0,1,0,1],.c [1,1,1,1]]<|Rd 1 [2] [(2,iv 1)] ?_
    obtain rfl:=Option.some.inj heq
    refine RunH.pick 1 [] (cs':=F) (by kernel_rfl) rfl ?_
    exact RunH.done (by kernel_rfl) Tryd.func26 (v:=iv 1) (by kernel_rfl) ⟨rfl,rfl,rfl⟩
   ·replace heq:=bif_false hb3 heq
    refine Cf (!y3) hb3<|Ra 3 [1,1,1,1,0,0] [.c [1,1,1,1,0,1],.c [1,1,1,1,1]]<|Rw' 4 [1,21,22,23] [.slice Aa0_3 a0.After.length ca0_3] [.load ⟨g1,3,none⟩ (.slice Aa0_3 a0.After.length ca0_3)] [(1,pg g1 0),(21,.slice Aa0_3 a0.After.length ca0_3),(22,iv (a0.After.length:Int)),(23,iv 0)] (fun w hh=>(hh.box 0 rfl rfl))<|Ad 2 [.c [1,1,1,1,0,1,0,0],.l [1,1,1,1,0,1,0,0],.b 0,.c [1,1,1,1,1]]<|Kp [1,21,22,23] [(1,pg g1 0),(21,.slice Aa0_3 a0.After.length ca0_3),(22,iv (a0.After.length:Int)),(23,iv 0)] ?_
    exact ((smithyardref9_checkWork.l2_c (e1:=smithyardref9_checkWork.e1) (smithyardref9_checkWork.e1_c)) big) a0 _ _ _ _ _ 0 hra0_1 hca0_1 hra0_3 hca0_3 heq
noncomputable def C27:Ctx:={ P:=Tryd.prog,f:=27,N:=20,c:=bodyOf Tryd.f27 }
def S27 (F:List Ch) (H0:Hp) (r:Bool) (v:Value) (H:Hp) (cs:List Ch):Prop:=H0=H∧v=.bool r∧F=cs
theorem smithyardref9_fits.e1_c {w0:World} {H:Hp} {F:List Ch} {r:Bool}:smithyardref9_fits.e1=some r→RunH C27 (S27 F H r) H w0 [.c [1,1,0],.c [1,1,1]] [] H (F):=by
 intro   heq
 unfold smithyardref9_fits.e1 at heq
 refine Rr<|Rd 1 [4] [(4,.bool true)] ?_
 obtain rfl:=Option.some.inj heq
 exact RunH.done (by kernel_rfl) Tryd.func27 (v:=.bool true) (by kernel_rfl) ⟨rfl,rfl,rfl⟩
theorem smithyardref9_fits.l2_c {w0:World} {H:Hp} {F:List Ch} {r:Bool} (e1:Option Bool)
  (he1:e1=some r→RunH C27 (S27 F H r) H w0 [.c [1,1,0],.c [1,1,1]] [] H (F)):∀ (k:Nat),∀ (a0:Worker) (Aa0_1:Option Addr) (ca0_1:Nat) (Aa0_6:Option Addr) (ca0_6:Nat) (a1:Work) (Aa1_1:Option Addr) (ca1_1:Nat) (g1:Nat) (v10:Int) ,Rw kPair H F Aa0_1 a0.Has→a0.Has.length≤ca0_1→Rw kSpan H F Aa0_6 a0.Stands→a0.Stands.length≤ca0_6→Rw kPair H F Aa1_1 a1.Needs→a1.Needs.length≤ca1_1→smithyardref9_fits.l2 e1 k a0 a1 v10=some r→RunH C27 (S27 F H r) H w0 [.c [1,0,1,0,0],.l [1,0,1,0,0],.b 0,.c [1,1]] [(2,pg g1 0),(8,.slice Aa1_1 a1.Needs.length ca1_1),(9,iv (a1.Needs.length:Int)),(10,iv v10)] H ((some (g1,.cells #[.string a0.Name,.slice Aa0_1 a0.Has.length ca0_1,iv a0.Slots,iv a0.Speed,iv a0.From,iv a0.To,.slice Aa0_6 a0.Stands.length ca0_6] 27 (0,0)))::F):=by
 intro k
 induction k with
 | zero=>intro a0 Aa0_1 ca0_1 Aa0_6 ca0_6 a1 Aa1_1 ca1_1 g1 v10 hra0_1 hca0_1 hra0_6 hca0_6 hra1_1 hca1_1 heq; exact nomatch (show (none:Option Bool)=some r from heq)
 | succ k ihk =>
  intro a0 Aa0_1 ca0_1 Aa0_6 ca0_6 a1 Aa1_1 ca1_1 g1 v10 hra0_1 hca0_1 hra0_6 hca0_6 hra1_1 hca1_1 heq
  rw [smithyardref9_fits.l2] at heq
  refine Ra 1 [1,0,1,0,0,0] [.c [1,0,1,0,0,1],.l [1,0,1,0,0],.b 0,.c [1,1]]<|Rd 1 [2,8,9,10,11] [(2,pg g1 0),(8,.slice Aa1_1 a1.Needs.length ca1_1),(9,iv (a1.Needs.length:Int)),(10,iv v10),(11,.bool (decide (v10<(a1.Needs.length:Int))))]<|Ad 1 [.c [1,0,1,0,0,1,0],.c [1,0,1,0,0,1,1],.l [1,0,1,0,0],.b 0,.c [1,1]] ?_
  rcases bool_cases (decide (v10<(a1.Needs.length:Int))) with hb1 | hb1
  ·replace heq:=bif_true hb1 heq
   refine Ct (decide (v10<(a1.Needs.length:Int))) hb1<|Ra 4 [1,0,1,0,0,1,1,0,0,0] [.c [1,0,1,0,0,1,1,0,0,1],.b 1,.c [1,0,1,0,0,1,1,1],.l [1,0,1,0,0],.b 0,.c [1,1]] ?_
   obtain ⟨x1,hx1,heq⟩:=bind_some heq
   obtain ⟨ha1,cs1,hK1,hcc1⟩:=hra1_1.get hx1
   obtain ⟨rfl⟩:=kPair_open hK1
   refine Rv 2 [2,8,9,10,13] [.string x1.Name,.string x1.Value] [.need (Aa1_1=some (adr Aa1_1)∧(0:Int)≤v10∧v10<((a1.Needs.length:Nat):Int)),.load (((adr Aa1_1).add (v10.toNat*2)).add 0) (.string x1.Name),.load (((adr Aa1_1).add (v10.toNat*2)).add 1) (.string x1.Value)] [(2,pg g1 0),(8,.slice Aa1_1 a1.Needs.length ca1_1),(9,iv (a1.Needs.length:Int)),(10,iv v10),(13,.agg #[.string x1.Name,.string x1.Value])] (fun w hh=>⟨⟨ha1,(at?_some hx1).1,(at?_some hx1).2.1⟩,(hcc1 _ _ (hh.drop 1) 0 _ rfl),(hcc1 _ _ (hh.drop 1) 1 _ rfl)⟩) ?_
   refine RgH.does (DoesH.new (d:=6) (v:=fun g=>.pointer (some ⟨g,0,none⟩)) (o:=fun g=>.cells #[.string ByteArray.empty,.string ByteArray.empty] 48 (0,0)) (fun g=>by kernel_rfl)) ?_
   rintro _ _ _ _ ⟨g3,rfl,rfl,rfl⟩
   refine RgH.does (DoesH.store (k:=0) (g:=g3) (off:=0) (v:=.agg #[.string x1.Name,.string x1.Value]) (cells':=#[.string x1.Name,.string x1.Value]) (by kernel_rfl) rfl (by kernel_rfl) (by kernel_rfl)) ?_
   rintro _ _ _ _ ⟨rfl,rfl,rfl⟩
   refine Dn<|Ra 1 [1,0,1,0,0,1,1,0,0,1,0] [.c [1,0,1,0,0,1,1,0,0,1,1],.b 1,.c [1,0,1,0,0,1,1,1],.l [1,0,1,0,0],.b 0,.c [1,1]]<|Rv 3 [2,8,9,10,15,16] [.slice Aa0_1 a0.Has.length ca0_1,.string x1.Name,.string x1.Value] [.load ⟨g1,1,none⟩ (.slice Aa0_1 a0.Has.length ca0_1),.load ⟨g3,0,none⟩ (.string x1.Name),.load ⟨g3,1,none⟩ (.string x1.Value)] [(2,pg g1 0),(8,.slice Aa1_1 a1.Needs.length ca1_1),(9,iv (a1.Needs.length:Int)),(10,iv v10),(15,.slice Aa0_1 a0.Has.length ca0_1),(16,.agg #[.string x1.Name,.string x1.Value])] (fun w hh=>⟨(hh.box 1 rfl rfl),(hh.box 0 rfl rfl),(hh.box 0 rfl rfl)⟩) ?_
   obtain ⟨y1,hy1,heq⟩:=bind_some heq
   refine RgH.does (DoesH.call (d:=17) (g:=41) (args:=#[.slice Aa0_1 a0.Has.length ca0_1,.agg #[.string x1.Name,.string x1.Value]]) (by kernel_rfl) (slices_Contains_Pair_c (a0:=a0.Has) (a1:=x1) (hra0_1.wk (fun _ h=>(.tail _ (.tail _ h)))) hca0_1 rfl hy1)) ?_
   rintro _ _ _ _ ⟨_,rfl,rfl,rfl,rfl⟩
   refine Rd 5 [2,8,9,10,18] [(2,pg g1 0),(8,.slice Aa1_1 a1.Needs.length ca1_1),(9,iv (a1.Needs.length:Int)),(10,iv v10),(18,.bool (!y1))] ?_
   rcases bool_cases (!y1) with hb2 | hb2
   ·replace heq:=bif_true hb2 heq
    refine Ct (!y1) hb2<|Ra 1 [1,0,1,0,0,1,1,0,0,1,1,0,0] [.c [1,0,1,0,0,1,1,0,0,1,1,0,1],.b 1,.c [1,0,1,0,0,1,1,1],.l [1,0,1,0,0],.b 0,.c [1,1]]<|Rd 1 [4] [(4,.bool false)] ?_
    obtain rfl:=Option.some.inj heq
    refine RunH.pick 2 [] (cs':=F) (by kernel_rfl) rfl ?_
    exact RunH.done (by kernel_rfl) Tryd.func27 (v:=.bool false) (by kernel_rfl) ⟨rfl,rfl,rfl⟩
   ·replace heq:=bif_false hb2 heq
    refine Cf (!y1) hb2<|Ra 2 [1,0,1,0,0,1,1,1] [.l [1,0,1,0,0],.b 0,.c [1,1]]<|Rd 2 [2,8,9,10] [(2,pg g1 0),(8,.slice Aa1_1 a1.Needs.length ca1_1),(9,iv (a1.Needs.length:Int)),(10,iv (w64 (v10+1)))]<|Ad 1 [.c [1,0,1,0,0],.l [1,0,1,0,0],.b 0,.c [1,1]]<|Kp [2,8,9,10] [(2,pg g1 0),(8,.slice Aa1_1 a1.Needs.length ca1_1),(9,iv (a1.Needs.length:Int)),(10,iv (w64 (v10+1)))] ?_
    refine RunH.pick 2 [1] (cs':=(some (g1,.cells #[.string a0.Name,.slice Aa0_1 a0.Has.length ca0_1,iv a0.Slots,iv a0.Speed,iv a0.From,iv a0.To,.slice Aa0_6 a0.Stands.length ca0_6] 27 (0,0)))::F) (by kernel_rfl) rfl ?_
    exact ihk a0 _ _ _ _ a1 _ _ _ (w64 (v10+1)) hra0_1 hca0_1 hra0_6 hca0_6 hra1_1 hca1_1 heq
  ·replace heq:=bif_false hb1 heq
   refine Cf (decide (v10<(a1.Needs.length:Int))) hb1<|Ad 2 [.c [1,1,0],.c [1,1,1]]<|Kp [] [] ?_
   refine RunH.pick 1 [] (cs':=F) (by kernel_rfl) rfl ?_
   exact he1 heq
theorem smithyardref9_fits_c {w0:World} {H:Hp} {F:List Ch} {a0:Worker} {Aa0_1:Option Addr} {na0_1:Nat} {ca0_1:Nat} {Aa0_6:Option Addr} {na0_6:Nat} {ca0_6:Nat} {a1:Work} {Aa1_1:Option Addr} {na1_1:Nat} {ca1_1:Nat} {Aa1_3:Option Addr} {na1_3:Nat} {ca1_3:Nat} {r:Bool} (hra0_1:Rw kPair H F Aa0_1 a0.Has) (hca0_1:na0_1≤ca0_1) (hna0_1:na0_1=a0.Has.length) (hra0_6:Rw kSpan H F Aa0_6 a0.Stands) (hca0_6:na0_6≤ca0_6) (hna0_6:na0_6=a0.Stands.length) (hra1_1:Rw kPair H F Aa1_1 a1.Needs) (hca1_1:na1_1≤ca1_1) (hna1_1:na1_1=a1.Needs.length) (hra1_3:Rw Kd.string H F Aa1_3 a1.After) (hca1_3:na1_3≤ca1_3) (hna1_3:na1_3=a1.After.length) (heq:smithyardref9_fits.f a0 a1=some r):CallsH Tryd.prog 27 #[.agg #[.string a0.Name,.slice Aa0_1 na0_1 ca0_1,iv a0.Slots,iv a0.Speed,iv a0.From,iv a0.To,.slice Aa0_6 na0_6 ca0_6],.agg #[.string a1.Id,.slice Aa1_1 na1_1 ca1_1,iv a1.Size,.slice Aa1_3 na1_3 ca1_3]] H w0 (F) (S27 F H r):=by
 refine calls_of_runH (F:=C27) Tryd.func27 (by kernel_rfl) Tryd.ntmps27 (args:=[.agg #[.string a0.Name,.slice Aa0_1 na0_1 ca0_1,iv a0.Slots,iv a0.Speed,iv a0.From,iv a0.To,.slice Aa0_6 na0_6 ca0_6],.agg #[.string a1.Id,.slice Aa1_1 na1_1 ca1_1,iv a1.Size,.slice Aa1_3 na1_3 ca1_3]]) (by kernel_rfl) ?_
 subst hna0_1
 subst hna0_6
 subst hna1_1
 subst hna1_3
 unfold smithyardref9_fits.f at heq
 refine Ra 1 [0] [.c [1]] ?_
 refine RgH.does (DoesH.new (d:=2) (v:=fun g=>.pointer (some ⟨g,0,none⟩)) (o:=fun g=>.cells #[.string a0.Name,.slice Aa0_1 a0.Has.length ca0_1,iv a0.Slots,iv a0.Speed,iv a0.From,iv a0.To,.slice Aa0_6 a0.Stands.length ca0_6] 27 (0,0)) (fun g=>by kernel_rfl)) ?_
 rintro _ _ _ _ ⟨g1,rfl,rfl,rfl⟩
 refine RgH.does (DoesH.new (d:=3) (v:=fun g=>.pointer (some ⟨g,0,none⟩)) (o:=fun g=>.cells #[.string a1.Id,.slice Aa1_1 a1.Needs.length ca1_1,iv a1.Size,.slice Aa1_3 a1.After.length ca1_3] 30 (0,0)) (fun g=>by kernel_rfl)) ?_
 rintro _ _ _ _ ⟨g2,rfl,rfl,rfl⟩
 refine Rd 3 [2,3] [(2,pg g1 0),(3,pg g2 0)]<|Ra 2 [1,0,0] [.c [1,0,1],.c [1,1]]<|Rw' 4 [2,8,9,10] [.slice Aa1_1 a1.Needs.length ca1_1] [.load ⟨g2,1,none⟩ (.slice Aa1_1 a1.Needs.length ca1_1)] [(2,pg g1 0),(8,.slice Aa1_1 a1.Needs.length ca1_1),(9,iv (a1.Needs.length:Int)),(10,iv 0)] (fun w hh=>(hh.box 0 rfl rfl))<|Ad 2 [.c [1,0,1,0,0],.l [1,0,1,0,0],.b 0,.c [1,1]]<|Kp [2,8,9,10] [(2,pg g1 0),(8,.slice Aa1_1 a1.Needs.length ca1_1),(9,iv (a1.Needs.length:Int)),(10,iv 0)] ?_
 refine RunH.pick 2 [1] (cs':=(some (g1,.cells #[.string a0.Name,.slice Aa0_1 a0.Has.length ca0_1,iv a0.Slots,iv a0.Speed,iv a0.From,iv a0.To,.slice Aa0_6 a0.Stands.length ca0_6] 27 (0,0)))::F) (by kernel_rfl) rfl ?_
 exact ((smithyardref9_fits.l2_c (e1:=smithyardref9_fits.e1) (smithyardref9_fits.e1_c)) big) a0 _ _ _ _ a1 _ _ _ 0 hra0_1 hca0_1 hra0_6 hca0_6 hra1_1 hca1_1 heq
noncomputable def C9:Ctx:={ P:=Tryd.prog,f:=9,N:=21,c:=bodyOf Tryd.f9 }
def S9 (F:List Ch) (H0:Hp) (r:Bool × Int) (v:Value) (H:Hp) (cs:List Ch):Prop:=H0=H∧v=.tuple #[.bool r.1,iv r.2]∧F=cs
theorem smithyardref9_Fits_c {w0:World} {H:Hp} {F:List Ch} {a0:Worker} {Aa0_1:Option Addr} {na0_1:Nat} {ca0_1:Nat} {Aa0_6:Option Addr} {na0_6:Nat} {ca0_6:Nat} {a1:Work} {Aa1_1:Option Addr} {na1_1:Nat} {ca1_1:Nat} {Aa1_3:Option Addr} {na1_3:Nat} {ca1_3:Nat} {r:Bool × Int} (hra0_1:Rw kPair H F Aa0_1 a0.Has) (hca0_1:na0_1≤ca0_1) (hna0_1:na0_1=a0.Has.length) (hra0_6:Rw kSpan H F Aa0_6 a0.Stands) (hca0_6:na0_6≤ca0_6) (hna0_6:na0_6=a0.Stands.length) (hra1_1:Rw kPair H F Aa1_1 a1.Needs) (hca1_1:na1_1≤ca1_1) (hna1_1:na1_1=a1.Needs.length) (hra1_3:Rw Kd.string H F Aa1_3 a1.After) (hca1_3:na1_3≤ca1_3) (hna1_3:na1_3=a1.After.length) (heq:smithyardref9_Fits.f a0 a1=some r):CallsH Tryd.prog 9 #[.agg #[.string a0.Name,.slice Aa0_1 na0_1 ca0_1,iv a0.Slots,iv a0.Speed,iv a0.From,iv a0.To,.slice Aa0_6 na0_6 ca0_6],.agg #[.string a1.Id,.slice Aa1_1 na1_1 ca1_1,iv a1.Size,.slice Aa1_3 na1_3 ca1_3]] H w0 (F) (S9 F H r):=by
 refine calls_of_runH (F:=C9) Tryd.func9 (by kernel_rfl) Tryd.ntmps9 (args:=[.agg #[.string a0.Name,.slice Aa0_1 na0_1 ca0_1,iv a0.Slots,iv a0.Speed,iv a0.From,iv a0.To,.slice Aa0_6 na0_6 ca0_6],.agg #[.string a1.Id,.slice Aa1_1 na1_1 ca1_1,iv a1.Size,.slice Aa1_3 na1_3 ca1_3]]) (by kernel_rfl) ?_
 subst hna0_1
 subst hna0_6
 subst hna1_1
 subst hna1_3
 unfold smithyardref9_Fits.f at heq
 refine Ra 1 [0] [.c [1]] ?_
 refine RgH.does (DoesH.new (d:=2) (v:=fun g=>.pointer (some ⟨g,0,none⟩)) (o:=fun g=>.cells #[.string a0.Name,.slice Aa0_1 a0.Has.length ca0_1,iv a0.Slots,iv a0.Speed,iv a0.From,iv a0.To,.slice Aa0_6 a0.Stands.length ca0_6] 27 (0,0)) (fun g=>by kernel_rfl)) ?_
 rintro _ _ _ _ ⟨g1,rfl,rfl,rfl⟩
 refine RgH.does (DoesH.new (d:=3) (v:=fun g=>.pointer (some ⟨g,0,none⟩)) (o:=fun g=>.cells #[.string a1.Id,.slice Aa1_1 a1.Needs.length ca1_1,iv a1.Size,.slice Aa1_3 a1.After.length ca1_3] 30 (0,0)) (fun g=>by kernel_rfl)) ?_
 rintro _ _ _ _ ⟨g2,rfl,rfl,rfl⟩
 refine Rd 4 [2,3] [(2,pg g1 0),(3,pg g2 0)]<|Ra 2 [1,0,0] [.c [1,0,1],.c [1,1]]<|Rv 1 [2,3,8] [.string a0.Name,.slice Aa0_1 a0.Has.length ca0_1,iv a0.Slots,iv a0.Speed,iv a0.From,iv a0.To,.slice Aa0_6 a0.Stands.length ca0_6] [.load ⟨g1,0,none⟩ (.string a0.Name),.load ⟨g1,1,none⟩ (.slice Aa0_1 a0.Has.length ca0_1),.load ⟨g1,2,none⟩ (iv a0.Slots),.load ⟨g1,3,none⟩ (iv a0.Speed),.load ⟨g1,4,none⟩ (iv a0.From),.load ⟨g1,5,none⟩ (iv a0.To),.load ⟨g1,6,none⟩ (.slice Aa0_6 a0.Stands.length ca0_6)] [(2,pg g1 0),(3,pg g2 0),(8,.agg #[.string a0.Name,.slice Aa0_1 a0.Has.length ca0_1,iv a0.Slots,iv a0.Speed,iv a0.From,iv a0.To,.slice Aa0_6 a0.Stands.length ca0_6])] (fun w hh=>⟨(hh.box 1 rfl rfl),(hh.box 1 rfl rfl),(hh.box 1 rfl rfl),(hh.box 1 rfl rfl),(hh.box 1 rfl rfl),(hh.box 1 rfl rfl),(hh.box 1 rfl rfl)⟩) ?_
 obtain ⟨y1,hy1,heq⟩:=bind_some heq
 refine RgH.does (DoesH.call (d:=9) (g:=25) (args:=#[.agg #[.string a0.Name,.slice Aa0_1 a0.Has.length ca0_1,iv a0.Slots,iv a0.Speed,iv a0.From,iv a0.To,.slice Aa0_6 a0.Stands.length ca0_6]]) (by kernel_rfl) (smithyardref9_checkWorker_c (a0:=a0) (hra0_1.wk (fun _ h=>(.tail _ (.tail _ h)))) hca0_1 rfl (hra0_6.wk (fun _ h=>(.tail _ (.tail _ h)))) hca0_6 rfl hy1)) ?_
 rintro _ _ _ _ ⟨_,rfl,rfl,rfl,rfl⟩
 refine Rd 3 [2,3,6] [(2,pg g1 0),(3,pg g2 0),(6,iv y1)]<|Ra 1 [1,0,1,0] [.c [1,0,1,1],.c [1,1]]<|Rd 2 [2,3,6,11] [(2,pg g1 0),(3,pg g2 0),(6,iv y1),(11,.bool (y1 != 0))] ?_
 rcases bool_cases (y1 != 0) with hb1 | hb1
 ·replace heq:=bif_true hb1 heq
  refine Ct (y1 != 0) hb1<|Ra 1 [1,0,1,1,0,0] [.c [1,0,1,1,0,1],.c [1,1]]<|Rd 3 [4,5] [(4,.bool false),(5,iv y1)] ?_
  obtain rfl:=Option.some.inj heq
  refine RunH.pick 2 [] (cs':=F) (by kernel_rfl) rfl ?_
  exact RunH.done (by kernel_rfl) Tryd.func9 (v:=.tuple #[.bool false,iv y1]) (by kernel_rfl) ⟨rfl,rfl,rfl⟩
 ·replace heq:=bif_false hb1 heq
  refine Cf (y1 != 0) hb1<|Ra 3 [1,1,0,0] [.c [1,1,0,1],.c [1,1,1]]<|Rv 1 [2,3,13] [.string a1.Id,.slice Aa1_1 a1.Needs.length ca1_1,iv a1.Size,.slice Aa1_3 a1.After.length ca1_3] [.load ⟨g2,0,none⟩ (.string a1.Id),.load ⟨g2,1,none⟩ (.slice Aa1_1 a1.Needs.length ca1_1),.load ⟨g2,2,none⟩ (iv a1.Size),.load ⟨g2,3,none⟩ (.slice Aa1_3 a1.After.length ca1_3)] [(2,pg g1 0),(3,pg g2 0),(13,.agg #[.string a1.Id,.slice Aa1_1 a1.Needs.length ca1_1,iv a1.Size,.slice Aa1_3 a1.After.length ca1_3])] (fun w hh=>⟨(hh.box 0 rfl rfl),(hh.box 0 rfl rfl),(hh.box 0 rfl rfl),(hh.box 0 rfl rfl)⟩) ?_
  obtain ⟨y2,hy2,heq⟩:=bind_some heq
  refine RgH.does (DoesH.call (d:=14) (g:=26) (args:=#[.agg #[.string a1.Id,.slice Aa1_1 a1.Needs.length ca1_1,iv a1.Size,.slice Aa1_3 a1.After.length ca1_3]]) (by kernel_rfl) (smithyardref9_checkWork_c (a0:=a1) (hra1_1.wk (fun _ h=>(.tail _ (.tail _ h)))) hca1_1 rfl (hra1_3.wk (fun _ h=>(.tail _ (.tail _ h)))) hca1_3 rfl hy2)) ?_
  rintro _ _ _ _ ⟨_,rfl,rfl,rfl,rfl⟩
  refine Rd 3 [2,3,7] [(2,pg g1 0),(3,pg g2 0),(7,iv y2)]<|Ra 1 [1,1,0,1,0] [.c [1,1,0,1,1],.c [1,1,1]]<|Rd 2 [2,3,7,16] [(2,pg g1 0),(3,pg g2 0),(7,iv y2),(16,.bool (y2 != 0))] ?_
  rcases bool_cases (y2 != 0) with hb2 | hb2
  ·replace heq:=bif_true hb2 heq
   refine Ct (y2 != 0) hb2<|Ra 1 [1,1,0,1,1,0,0] [.c [1,1,0,1,1,0,1],.c [1,1,1]]<|Rd 3 [4,5] [(4,.bool false),(5,iv y2)] ?_
   obtain rfl:=Option.some.inj heq
   refine RunH.pick 2 [] (cs':=F) (by kernel_rfl) rfl ?_
   exact RunH.done (by kernel_rfl) Tryd.func9 (v:=.tuple #[.bool false,iv y2]) (by kernel_rfl) ⟨rfl,rfl,rfl⟩
  ·replace heq:=bif_false hb2 heq
   refine Cf (y2 != 0) hb2<|Ra 2 [1,1,1,0] [.c [1,1,1,1]]<|Rv 2 [18,19] [.string a0.Name,.slice Aa0_1 a0.Has.length ca0_1,iv a0.Slots,iv a0.Speed,iv a0.From,iv a0.To,.slice Aa0_6 a0.Stands.length ca0_6,.string a1.Id,.slice Aa1_1 a1.Needs.length ca1_1,iv a1.Size,.slice Aa1_3 a1.After.length ca1_3] [.load ⟨g1,0,none⟩ (.string a0.Name),.load ⟨g1,1,none⟩ (.slice Aa0_1 a0.Has.length ca0_1),.load ⟨g1,2,none⟩ (iv a0.Slots),.load ⟨g1,3,none⟩ (iv a0.Speed),.load ⟨g1,4,none⟩ (iv a0.From),.load ⟨g1,5,none⟩ (iv a0.To),.load ⟨g1,6,none⟩ (.slice Aa0_6 a0.Stands.length ca0_6),.load ⟨g2,0,none⟩ (.string a1.Id),.load ⟨g2,1,none⟩ (.slice Aa1_1 a1.Needs.length ca1_1),.load ⟨g2,2,none⟩ (iv a1.Size),.load ⟨g2,3,none⟩ (.slice Aa1_3 a1.After.length ca1_3)] [(18,.agg #[.string a0.Name,.slice Aa0_1 a0.Has.length ca0_1,iv a0.Slots,iv a0.Speed,iv a0.From,iv a0.To,.slice Aa0_6 a0.Stands.length ca0_6]),(19,.agg #[.string a1.Id,.slice Aa1_1 a1.Needs.length ca1_1,iv a1.Size,.slice Aa1_3 a1.After.length ca1_3])] (fun w hh=>⟨(hh.box 1 rfl rfl),(hh.box 1 rfl rfl),(hh.box 1 rfl rfl),(hh.box 1 rfl rfl),(hh.box 1 rfl rfl),(hh.box 1 rfl rfl),(hh.box 1 rfl rfl),(hh.box 0 rfl rfl),(hh.box 0 rfl rfl),(hh.box 0 rfl rfl),(hh.box 0 rfl rfl)⟩) ?_
   obtain ⟨y3,hy3,heq⟩:=bind_some heq
   refine RgH.does (DoesH.call (d:=20) (g:=27) (args:=#[.agg #[.string a0.Name,.slice Aa0_1 a0.Has.length ca0_1,iv a0.Slots,iv a0.Speed,iv a0.From,iv a0.To,.slice Aa0_6 a0.Stands.length ca0_6],.agg #[.string a1.Id,.slice Aa1_1 a1.Needs.length ca1_1,iv a1.Size,.slice Aa1_3 a1.After.length ca1_3]]) (by kernel_rfl) (smithyardref9_fits_c (a0:=a0) (a1:=a1) (hra0_1.wk (fun _ h=>(.tail _ (.tail _ h)))) hca0_1 rfl (hra0_6.wk (fun _ h=>(.tail _ (.tail _ h)))) hca0_6 rfl (hra1_1.wk (fun _ h=>(.tail _ (.tail _ h)))) hca1_1 rfl (hra1_3.wk (fun _ h=>(.tail _ (.tail _ h)))) hca1_3 rfl hy3)) ?_
   rintro _ _ _ _ ⟨_,rfl,rfl,rfl,rfl⟩
   refine Rd 5 [4,5] [(4,.bool y3),(5,iv 0)] ?_
   obtain rfl:=Option.some.inj heq
   refine RunH.pick 2 [] (cs':=F) (by kernel_rfl) rfl ?_
   exact RunH.done (by kernel_rfl) Tryd.func9 (v:=.tuple #[.bool y3,iv 0]) (by kernel_rfl) ⟨rfl,rfl,rfl⟩
noncomputable def C10:Ctx:={ P:=Tryd.prog,f:=10,N:=35,c:=bodyOf Tryd.f10 }
def S10 (F:List Ch) (H0:Hp) (r:Int) (v:Value) (H:Hp) (cs:List Ch):Prop:=H0=H∧v=iv r∧F=cs
theorem workers_CheckWorkers.e1_c {w0:World} {H:Hp} {F:List Ch} {r:Int}:workers_CheckWorkers.e1=some r→RunH C10 (S10 F H r) H w0 [.c [1,1,1,0],.c [1,1,1,1]] [] H (F):=by
 intro   heq
 unfold workers_CheckWorkers.e1 at heq
 refine Rr<|Rd 1 [2] [(2,iv 0)] ?_
 obtain rfl:=Option.some.inj heq
 exact RunH.done (by kernel_rfl) Tryd.func10 (v:=iv 0) (by kernel_rfl) ⟨rfl,rfl,rfl⟩
theorem workers_CheckWorkers.l2_c {w0:World} {H:Hp} {F:List Ch} {r:Int} (e1:Option Int)
  (he1:e1=some r→RunH C10 (S10 F H r) H w0 [.c [1,1,1,0],.c [1,1,1,1]] [] H (F)):∀ (k:Nat),∀ (a0:List Worker) (Aa0:Option Addr) (ca0:Nat) (v11:Int) ,Rw kWorker H F Aa0 a0→a0.length≤ca0→workers_CheckWorkers.l2 e1 k a0 v11=some r→RunH C10 (S10 F H r) H w0 [.c [1,1,0,1,0,0],.l [1,1,0,1,0,0],.b 0,.c [1,1,1]] [(0,.slice Aa0 a0.length ca0),(9,.slice Aa0 a0.length ca0),(10,iv (a0.length:Int)),(11,iv v11)] H (F):=by
 intro k
 induction k with
 | zero=>intro a0 Aa0 ca0 v11 hra0 hca0 heq; exact nomatch (show (none:Option Int)=some r from heq)
 | succ k ihk =>
  intro a0 Aa0 ca0 v11 hra0 hca0 heq
  rw [workers_CheckWorkers.l2] at heq
  refine Ra 1 [1,1,0,1,0,0,0] [.c [1,1,0,1,0,0,1],.l [1,1,0,1,0,0],.b 0,.c [1,1,1]]<|Rd 1 [0,9,10,11,12] [(0,.slice Aa0 a0.length ca0),(9,.slice Aa0 a0.length ca0),(10,iv (a0.length:Int)),(11,iv v11),(12,.bool (decide (v11<(a0.length:Int))))]<|Ad 1 [.c [1,1,0,1,0,0,1,0],.c [1,1,0,1,0,0,1,1],.l [1,1,0,1,0,0],.b 0,.c [1,1,1]] ?_
  rcases bool_cases (decide (v11<(a0.length:Int))) with hb2 | hb2
  ·replace heq:=bif_true hb2 heq
   refine Ct (decide (v11<(a0.length:Int))) hb2<|Ra 4 [1,1,0,1,0,0,1,1,0,0,0] [.c [1,1,0,1,0,0,1,1,0,0,1],.b 1,.c [1,1,0,1,0,0,1,1,1],.l [1,1,0,1,0,0],.b 0,.c [1,1,1]] ?_
   obtain ⟨x1,hx1,heq⟩:=bind_some heq
   obtain ⟨ha1,cs1,hK1,hcc1⟩:=hra0.get hx1
   obtain ⟨A1,c1,A2,c2,rfl,hc1,hr1,hc2,hr2⟩:=kWorker_open hK1
   refine Rv 3 [0,9,10,11,13,15] [.string x1.Name,.slice A1 x1.Has.length c1,iv x1.Slots,iv x1.Speed,iv x1.From,iv x1.To,.slice A2 x1.Stands.length c2] [.need (Aa0=some (adr Aa0)∧(0:Int)≤v11∧v11<((a0.length:Nat):Int)),.load (((adr Aa0).add (v11.toNat*7)).add 0) (.string x1.Name),.load (((adr Aa0).add (v11.toNat*7)).add 1) (.slice A1 x1.Has.length c1),.load (((adr Aa0).add (v11.toNat*7)).add 2) (iv x1.Slots),.load (((adr Aa0).add (v11.toNat*7)).add 3) (iv x1.Speed),.load (((adr Aa0).add (v11.toNat*7)).add 4) (iv x1.From),.load (((adr Aa0).add (v11.toNat*7)).add 5) (iv x1.To),.load (((adr Aa0).add (v11.toNat*7)).add 6) (.slice A2 x1.Stands.length c2)] [(0,.slice Aa0 a0.length ca0),(9,.slice Aa0 a0.length ca0),(10,iv (a0.length:Int)),(11,iv v11),(13,iv v11),(15,.agg #[.string x1.Name,.slice A1 x1.Has.length c1,iv x1.Slots,iv x1.Speed,iv x1.From,iv x1.To,.slice A2 x1.Stands.length c2])] (fun w hh=>⟨⟨ha1,(at?_some hx1).1,(at?_some hx1).2.1⟩,(hcc1 _ _ (hh.drop 0) 0 _ rfl),(hcc1 _ _ (hh.drop 0) 1 _ rfl),(hcc1 _ _ (hh.drop 0) 2 _ rfl),(hcc1 _ _ (hh.drop 0) 3 _ rfl),(hcc1 _ _ (hh.drop 0) 4 _ rfl),(hcc1 _ _ (hh.drop 0) 5 _ rfl),(hcc1 _ _ (hh.drop 0) 6 _ rfl)⟩) ?_
   refine RgH.does (DoesH.new (d:=4) (v:=fun g=>.pointer (some ⟨g,0,none⟩)) (o:=fun g=>.cells #[.string ByteArray.empty,.slice none 0 0,iv 0,iv 0,iv 0,iv 0,.slice none 0 0] 27 (0,0)) (fun g=>by kernel_rfl)) ?_
   rintro _ _ _ _ ⟨g1,rfl,rfl,rfl⟩
   refine Rk 5 [0,3,4,9,10,11,15] [(0,.slice Aa0 a0.length ca0),(3,iv v11),(4,pg g1 0),(9,.slice Aa0 a0.length ca0),(10,iv (a0.length:Int)),(11,iv v11),(15,.agg #[.string x1.Name,.slice A1 x1.Has.length c1,iv x1.Slots,iv x1.Speed,iv x1.From,iv x1.To,.slice A2 x1.Stands.length c2])] ?_
   refine RgH.does (DoesH.store (k:=0) (g:=g1) (off:=0) (v:=.agg #[.string x1.Name,.slice A1 x1.Has.length c1,iv x1.Slots,iv x1.Speed,iv x1.From,iv x1.To,.slice A2 x1.Stands.length c2]) (cells':=#[.string x1.Name,.slice A1 x1.Has.length c1,iv x1.Slots,iv x1.Speed,iv x1.From,iv x1.To,.slice A2 x1.Stands.length c2]) (by kernel_rfl) rfl (by kernel_rfl) (by kernel_rfl)) ?_
   rintro _ _ _ _ ⟨rfl,rfl,rfl⟩
   refine Dn<|Ra 2 [1,1,0,1,0,0,1,1,0,0,1,0,0] [.c [1,1,0,1,0,0,1,1,0,0,1,0,1],.c [1,1,0,1,0,0,1,1,0,0,1,1],.b 1,.c [1,1,0,1,0,0,1,1,1],.l [1,1,0,1,0,0],.b 0,.c [1,1,1]]<|Rv 1 [0,3,4,9,10,11,16] [.string x1.Name,.slice A1 x1.Has.length c1,iv x1.Slots,iv x1.Speed,iv x1.From,iv x1.To,.slice A2 x1.Stands.length c2] [.load ⟨g1,0,none⟩ (.string x1.Name),.load ⟨g1,1,none⟩ (.slice A1 x1.Has.length c1),.load ⟨g1,2,none⟩ (iv x1.Slots),.load ⟨g1,3,none⟩ (iv x1.Speed),.load ⟨g1,4,none⟩ (iv x1.From),.load ⟨g1,5,none⟩ (iv x1.To),.load ⟨g1,6,none⟩ (.slice A2 x1.Stands.length c2)] [(0,.slice Aa0 a0.length ca0),(3,iv v11),(4,pg g1 0),(9,.slice Aa0 a0.length ca0),(10,iv (a0.length:Int)),(11,iv v11),(16,.agg #[.string x1.Name,.slice A1 x1.Has.length c1,iv x1.Slots,iv x1.Speed,iv x1.From,iv x1.To,.slice A2 x1.Stands.length c2])] (fun w hh=>⟨(hh.box 0 rfl rfl),(hh.box 0 rfl rfl),(hh.box 0 rfl rfl),(hh.box 0 rfl rfl),(hh.box 0 rfl rfl),(hh.box 0 rfl rfl),(hh.box 0 rfl rfl)⟩) ?_
   obtain ⟨y1,hy1,heq⟩:=bind_some heq
   refine RgH.does (DoesH.call (d:=17) (g:=22) (args:=#[.agg #[.string x1.Name,.slice A1 x1.Has.length c1,iv x1.Slots,iv x1.Speed,iv x1.From,iv x1.To,.slice A2 x1.Stands.length c2]]) (by kernel_rfl) (workers_checkWorker_c (a0:=x1) (Rw.of hr1) hc1 rfl (Rw.of hr2) hc2 rfl hy1)) ?_
   rintro _ _ _ _ ⟨_,rfl,rfl,rfl,rfl⟩
   refine Rd 3 [0,3,4,5,9,10,11] [(0,.slice Aa0 a0.length ca0),(3,iv v11),(4,pg g1 0),(5,iv y1),(9,.slice Aa0 a0.length ca0),(10,iv (a0.length:Int)),(11,iv v11)]<|Ra 1 [1,1,0,1,0,0,1,1,0,0,1,0,1,0] [.c [1,1,0,1,0,0,1,1,0,0,1,0,1,1],.c [1,1,0,1,0,0,1,1,0,0,1,1],.b 1,.c [1,1,0,1,0,0,1,1,1],.l [1,1,0,1,0,0],.b 0,.c [1,1,1]]<|Rd 2 [0,3,4,5,9,10,11,19] [(0,.slice Aa0 a0.length ca0),(3,iv v11),(4,pg g1 0),(5,iv y1),(9,.slice Aa0 a0.length ca0),(10,iv (a0.length:Int)),(11,iv v11),(19,.bool (y1 != 0))] ?_
   rcases bool_cases (y1 != 0) with hb3 | hb3
   ·replace heq:=bif_true hb3 heq
    refine Ct (y1 != 0) hb3<|Ra 1 [1,1,0,1,0,0,1,1,0,0,1,0,1,1,0,0] [.c [1,1,0,1,0,0,1,1,0,0,1,0,1,1,0,1],.c [1,1,0,1,0,0,1,1,0,0,1,1],.b 1,.c [1,1,0,1,0,0,1,1,1],.l [1,1,0,1,0,0],.b 0,.c [1,1,1]]<|Rd 2 [2] [(2,iv y1)] ?_
    obtain rfl:=Option.some.inj heq
    refine RunH.pick 1 [] (cs':=F) (by kernel_rfl) rfl ?_
    exact RunH.done (by kernel_rfl) Tryd.func10 (v:=iv y1) (by kernel_rfl) ⟨rfl,rfl,rfl⟩
   ·replace heq:=bif_false hb3 heq
    refine Cf (y1 != 0) hb3<|Ad 2 [.c [1,1,0,1,0,0,1,1,0,0,1,1,0],.c [1,1,0,1,0,0,1,1,0,0,1,1,1],.b 1,.c [1,1,0,1,0,0,1,1,1],.l [1,1,0,1,0,0],.b 0,.c [1,1,1]] ?_
    obtain ⟨t1,ht1,heq⟩:=bind_some heq
    have K2:RunH C10 (S10 F H r) H w0 [.c [1,1,0,1,0,0,1,1,0,0,1,1,1],.b 1,.c [1,1,0,1,0,0,1,1,1],.l [1,1,0,1,0,0],.b 0,.c [1,1,1]] [(0,.slice Aa0 a0.length ca0),(9,.slice Aa0 a0.length ca0),(10,iv (a0.length:Int)),(11,iv v11),(33,.bool t1)] H (F):=by
     rcases bool_cases (t1) with hb5 | hb5
     ·replace heq:=bif_true hb5 heq
      refine Ct t1 hb5<|Ra 1 [1,1,0,1,0,0,1,1,0,0,1,1,1,0,0] [.c [1,1,0,1,0,0,1,1,0,0,1,1,1,0,1],.b 1,.c [1,1,0,1,0,0,1,1,1],.l [1,1,0,1,0,0],.b 0,.c [1,1,1]]<|Rd 1 [2] [(2,iv 8)] ?_
      obtain rfl:=Option.some.inj heq
      exact RunH.done (by kernel_rfl) Tryd.func10 (v:=iv 8) (by kernel_rfl) ⟨rfl,rfl,rfl⟩
     ·replace heq:=bif_false hb5 heq
      refine Cf t1 hb5<|Ra 2 [1,1,0,1,0,0,1,1,1] [.l [1,1,0,1,0,0],.b 0,.c [1,1,1]]<|Rd 2 [0,9,10,11] [(0,.slice Aa0 a0.length ca0),(9,.slice Aa0 a0.length ca0),(10,iv (a0.length:Int)),(11,iv (w64 (v11+1)))]<|Ad 1 [.c [1,1,0,1,0,0],.l [1,1,0,1,0,0],.b 0,.c [1,1,1]]<|Kp [0,9,10,11] [(0,.slice Aa0 a0.length ca0),(9,.slice Aa0 a0.length ca0),(10,iv (a0.length:Int)),(11,iv (w64 (v11+1)))] ?_
      exact ihk a0 _ _ (w64 (v11+1)) hra0 hca0 heq
    replace heq:=ht1
    refine Kp [0,3,4,9,10,11] [(0,.slice Aa0 a0.length ca0),(3,iv v11),(4,pg g1 0),(9,.slice Aa0 a0.length ca0),(10,iv (a0.length:Int)),(11,iv v11)] ?_
    refine RunH.draw (fun w=>Heap H w0 w ((some (g1,.cells #[.string x1.Name,.slice A1 x1.Has.length c1,iv x1.Slots,iv x1.Speed,iv x1.From,iv x1.To,.slice A2 x1.Stands.length c2] 27 (0,0)))::F)) (fun w=>Heap H w0 w ((some (g1,.cells #[.string x1.Name,.slice A1 x1.Has.length c1,iv x1.Slots,iv x1.Speed,iv x1.From,iv x1.To,.slice A2 x1.Stands.length c2] 27 (0,0)))::F)) [3,3,3,3,3,3,3,3,3,3,3,3,3] (n:=13) (ls:=[false,false,false,false,false,false,false,false,false,false,false,false,false]) (by kernel_rfl) (by kernel_rfl) (by kernel_rfl) rfl ?_
    refine Dk [0,1,2] 10 (nb 13 7) [] [] [23,0,3,4,9,10,11] [(23,.bool (decide (0<v11))),(0,.slice Aa0 a0.length ca0),(3,iv v11),(4,pg g1 0),(9,.slice Aa0 a0.length ca0),(10,iv (a0.length:Int)),(11,iv v11)] (Pk 1 [0]) (Pk 1 [0]) (fun _ _=>trivial) ?_
    rcases bool_cases (decide (0<v11)) with hb4 | hb4
    ·replace heq:=bif_true hb4 heq
     refine DrH.val1 (v':=.bool true) (congrArg Value.bool hb4) ?_
     obtain ⟨x2,hx2,heq⟩:=bind_some heq
     obtain ⟨ha2,cs2,hK2,hcc2⟩:=hra0.get hx2
     obtain ⟨A3,c3,A4,c4,rfl,hc3,hr3,hc4,hr4⟩:=kWorker_open hK2
     refine Dk [3,4,5,6,7,8,9,10,11,12] 0 (nb 13 8191) [.string x1.Name,.string x2.Name] [.load ⟨g1,0,none⟩ (.string x1.Name),.need (Aa0=some (adr Aa0)∧(0:Int)≤(w64 (v11 - 1))∧(w64 (v11 - 1))<((a0.length:Nat):Int)),.load (((adr Aa0).add ((w64 (v11 - 1)).toNat*7)).add 0) (.string x2.Name)] [0,9,10,11,33] [(0,.slice Aa0 a0.length ca0),(9,.slice Aa0 a0.length ca0),(10,iv (a0.length:Int)),(11,iv v11),(33,.bool (sLt x1.Name x2.Name||sEq x1.Name x2.Name))] (Pk 1 [0]) (Pk 1 [0]) (fun w hh=>⟨(hh.box 0 rfl rfl),⟨ha2,(at?_some hx2).1,(at?_some hx2).2.1⟩,(hcc2 _ _ (hh.drop 1) 0 _ rfl)⟩) ?_
     obtain rfl:=Option.some.inj heq
     refine Kr [0,9,10,11,33] [(0,.slice Aa0 a0.length ca0),(9,.slice Aa0 a0.length ca0),(10,iv (a0.length:Int)),(11,iv v11),(33,.bool (sLt x1.Name x2.Name||sEq x1.Name x2.Name))] ?_
     refine DrH.pick 1 [] (cs':=F) (by kernel_rfl) rfl ?_
     refine DrH.done (by kernel_rfl) ?_
     exact K2
    ·replace heq:=bif_false hb4 heq
     refine DrH.val1 (v':=.bool false) (congrArg Value.bool hb4) ?_
     refine Dk [3,4,5,6,7,8,9,10,11,12] 0 (nb 13 8191) [] [] [0,9,10,11,33] [(0,.slice Aa0 a0.length ca0),(9,.slice Aa0 a0.length ca0),(10,iv (a0.length:Int)),(11,iv v11),(33,.bool false)] (Pk 1 [0]) (Pk 1 [0]) (fun _ _=>trivial) ?_
     obtain rfl:=Option.some.inj heq
     refine Kr [0,9,10,11,33] [(0,.slice Aa0 a0.length ca0),(9,.slice Aa0 a0.length ca0),(10,iv (a0.length:Int)),(11,iv v11),(33,.bool false)] ?_
     refine DrH.pick 1 [] (cs':=F) (by kernel_rfl) rfl ?_
     refine DrH.done (by kernel_rfl) ?_
     exact K2
  ·replace heq:=bif_false hb2 heq
   refine Cf (decide (v11<(a0.length:Int))) hb2<|Ad 2 [.c [1,1,1,0],.c [1,1,1,1]]<|Kp [] [] ?_
   exact he1 heq
theorem workers_CheckWorkers_c {w0:World} {H:Hp} {F:List Ch} {a0:List Worker} {Aa0:Option Addr} {na0:Nat} {ca0:Nat} {r:Int} (hra0:Rw kWorker H F Aa0 a0) (hca0:na0≤ca0) (hna0:na0=a0.length) (heq:workers_CheckWorkers.f a0=some r):CallsH Tryd.prog 10 #[.slice Aa0 na0 ca0] H w0 (F) (S10 F H r):=by
 refine calls_of_runH (F:=C10) Tryd.func10 (by kernel_rfl) Tryd.ntmps10 (args:=[.slice Aa0 na0 ca0]) (by kernel_rfl) ?_
 subst hna0
 unfold workers_CheckWorkers.f at heq
 refine Ra 1 [0] [.c [1]]<|Rd 1 [0] [(0,.slice Aa0 a0.length ca0)]<|Ra 2 [1,0,0] [.c [1,0,1],.c [1,1]]<|Rd 3 [0,8] [(0,.slice Aa0 a0.length ca0),(8,.bool (decide (50<(a0.length:Int))))] ?_
 rcases bool_cases (decide (50<(a0.length:Int))) with hb1 | hb1
 ·replace heq:=bif_true hb1 heq
  refine Ct (decide (50<(a0.length:Int))) hb1<|Ra 1 [1,0,1,0,0] [.c [1,0,1,0,1],.c [1,1]]<|Rd 1 [2] [(2,iv 2)] ?_
  obtain rfl:=Option.some.inj heq
  exact RunH.done (by kernel_rfl) Tryd.func10 (v:=iv 2) (by kernel_rfl) ⟨rfl,rfl,rfl⟩
 ·replace heq:=bif_false hb1 heq
  refine Cf (decide (50<(a0.length:Int))) hb1<|Ra 3 [1,1,0,0] [.c [1,1,0,1],.c [1,1,1]]<|Rd 3 [0,9,10,11] [(0,.slice Aa0 a0.length ca0),(9,.slice Aa0 a0.length ca0),(10,iv (a0.length:Int)),(11,iv 0)]<|Ad 2 [.c [1,1,0,1,0,0],.l [1,1,0,1,0,0],.b 0,.c [1,1,1]]<|Kp [0,9,10,11] [(0,.slice Aa0 a0.length ca0),(9,.slice Aa0 a0.length ca0),(10,iv (a0.length:Int)),(11,iv 0)] ?_
  exact ((workers_CheckWorkers.l2_c (e1:=workers_CheckWorkers.e1) (workers_CheckWorkers.e1_c)) big) a0 _ _ 0 hra0 hca0 heq
noncomputable def C11:Ctx:={ P:=Tryd.prog,f:=11,N:=35,c:=bodyOf Tryd.f11 }
def S11 (F:List Ch) (H0:Hp) (r:Int) (v:Value) (H:Hp) (cs:List Ch):Prop:=H0=H∧v=iv r∧F=cs
theorem smithyardref9_CheckWorkers.e1_c {w0:World} {H:Hp} {F:List Ch} {r:Int}:smithyardref9_CheckWorkers.e1=some r→RunH C11 (S11 F H r) H w0 [.c [1,1,1,0],.c [1,1,1,1]] [] H (F):=by
 intro   heq
 unfold smithyardref9_CheckWorkers.e1 at heq
 refine Rr<|Rd 1 [2] [(2,iv 0)] ?_
 obtain rfl:=Option.some.inj heq
 exact RunH.done (by kernel_rfl) Tryd.func11 (v:=iv 0) (by kernel_rfl) ⟨rfl,rfl,rfl⟩
theorem smithyardref9_CheckWorkers.l2_c {w0:World} {H:Hp} {F:List Ch} {r:Int} (e1:Option Int)
  (he1:e1=some r→RunH C11 (S11 F H r) H w0 [.c [1,1,1,0],.c [1,1,1,1]] [] H (F)):∀ (k:Nat),∀ (a0:List Worker) (Aa0:Option Addr) (ca0:Nat) (v11:Int) ,Rw kWorker H F Aa0 a0→a0.length≤ca0→smithyardref9_CheckWorkers.l2 e1 k a0 v11=some r→RunH C11 (S11 F H r) H w0 [.c [1,1,0,1,0,0],.l [1,1,0,1,0,0],.b 0,.c [1,1,1]] [(0,.slice Aa0 a0.length ca0),(9,.slice Aa0 a0.length ca0),(10,iv (a0.length:Int)),(11,iv v11)] H (F):=by
 intro k
 induction k with
 | zero=>intro a0 Aa0 ca0 v11 hra0 hca0 heq; exact nomatch (show (none:Option Int)=some r from heq)
 | succ k ihk =>
  intro a0 Aa0 ca0 v11 hra0 hca0 heq
  rw [smithyardref9_CheckWorkers.l2] at heq
  refine Ra 1 [1,1,0,1,0,0,0] [.c [1,1,0,1,0,0,1],.l [1,1,0,1,0,0],.b 0,.c [1,1,1]]<|Rd 1 [0,9,10,11,12] [(0,.slice Aa0 a0.length ca0),(9,.slice Aa0 a0.length ca0),(10,iv (a0.length:Int)),(11,iv v11),(12,.bool (decide (v11<(a0.length:Int))))]<|Ad 1 [.c [1,1,0,1,0,0,1,0],.c [1,1,0,1,0,0,1,1],.l [1,1,0,1,0,0],.b 0,.c [1,1,1]] ?_
  rcases bool_cases (decide (v11<(a0.length:Int))) with hb2 | hb2
  ·replace heq:=bif_true hb2 heq
   refine Ct (decide (v11<(a0.length:Int))) hb2<|Ra 4 [1,1,0,1,0,0,1,1,0,0,0] [.c [1,1,0,1,0,0,1,1,0,0,1],.b 1,.c [1,1,0,1,0,0,1,1,1],.l [1,1,0,1,0,0],.b 0,.c [1,1,1]] ?_
   obtain ⟨x1,hx1,heq⟩:=bind_some heq
   obtain ⟨ha1,cs1,hK1,hcc1⟩:=hra0.get hx1
   obtain ⟨A1,c1,A2,c2,rfl,hc1,hr1,hc2,hr2⟩:=kWorker_open hK1
   refine Rv 3 [0,9,10,11,13,15] [.string x1.Name,.slice A1 x1.Has.length c1,iv x1.Slots,iv x1.Speed,iv x1.From,iv x1.To,.slice A2 x1.Stands.length c2] [.need (Aa0=some (adr Aa0)∧(0:Int)≤v11∧v11<((a0.length:Nat):Int)),.load (((adr Aa0).add (v11.toNat*7)).add 0) (.string x1.Name),.load (((adr Aa0).add (v11.toNat*7)).add 1) (.slice A1 x1.Has.length c1),.load (((adr Aa0).add (v11.toNat*7)).add 2) (iv x1.Slots),.load (((adr Aa0).add (v11.toNat*7)).add 3) (iv x1.Speed),.load (((adr Aa0).add (v11.toNat*7)).add 4) (iv x1.From),.load (((adr Aa0).add (v11.toNat*7)).add 5) (iv x1.To),.load (((adr Aa0).add (v11.toNat*7)).add 6) (.slice A2 x1.Stands.length c2)] [(0,.slice Aa0 a0.length ca0),(9,.slice Aa0 a0.length ca0),(10,iv (a0.length:Int)),(11,iv v11),(13,iv v11),(15,.agg #[.string x1.Name,.slice A1 x1.Has.length c1,iv x1.Slots,iv x1.Speed,iv x1.From,iv x1.To,.slice A2 x1.Stands.length c2])] (fun w hh=>⟨⟨ha1,(at?_some hx1).1,(at?_some hx1).2.1⟩,(hcc1 _ _ (hh.drop 0) 0 _ rfl),(hcc1 _ _ (hh.drop 0) 1 _ rfl),(hcc1 _ _ (hh.drop 0) 2 _ rfl),(hcc1 _ _ (hh.drop 0) 3 _ rfl),(hcc1 _ _ (hh.drop 0) 4 _ rfl),(hcc1 _ _ (hh.drop 0) 5 _ rfl),(hcc1 _ _ (hh.drop 0) 6 _ rfl)⟩) ?_
   refine RgH.does (DoesH.new (d:=4) (v:=fun g=>.pointer (some ⟨g,0,none⟩)) (o:=fun g=>.cells #[.string ByteArray.empty,.slice none 0 0,iv 0,iv 0,iv 0,iv 0,.slice none 0 0] 27 (0,0)) (fun g=>by kernel_rfl)) ?_
   rintro _ _ _ _ ⟨g1,rfl,rfl,rfl⟩
   refine Rk 5 [0,3,4,9,10,11,15] [(0,.slice Aa0 a0.length ca0),(3,iv v11),(4,pg g1 0),(9,.slice Aa0 a0.length ca0),(10,iv (a0.length:Int)),(11,iv v11),(15,.agg #[.string x1.Name,.slice A1 x1.Has.length c1,iv x1.Slots,iv x1.Speed,iv x1.From,iv x1.To,.slice A2 x1.Stands.length c2])] ?_
   refine RgH.does (DoesH.store (k:=0) (g:=g1) (off:=0) (v:=.agg #[.string x1.Name,.slice A1 x1.Has.length c1,iv x1.Slots,iv x1.Speed,iv x1.From,iv x1.To,.slice A2 x1.Stands.length c2]) (cells':=#[.string x1.Name,.slice A1 x1.Has.length c1,iv x1.Slots,iv x1.Speed,iv x1.From,iv x1.To,.slice A2 x1.Stands.length c2]) (by kernel_rfl) rfl (by kernel_rfl) (by kernel_rfl)) ?_
   rintro _ _ _ _ ⟨rfl,rfl,rfl⟩
   refine Dn<|Ra 2 [1,1,0,1,0,0,1,1,0,0,1,0,0] [.c [1,1,0,1,0,0,1,1,0,0,1,0,1],.c [1,1,0,1,0,0,1,1,0,0,1,1],.b 1,.c [1,1,0,1,0,0,1,1,1],.l [1,1,0,1,0,0],.b 0,.c [1,1,1]]<|Rv 1 [0,3,4,9,10,11,16] [.string x1.Name,.slice A1 x1.Has.length c1,iv x1.Slots,iv x1.Speed,iv x1.From,iv x1.To,.slice A2 x1.Stands.length c2] [.load ⟨g1,0,none⟩ (.string x1.Name),.load ⟨g1,1,none⟩ (.slice A1 x1.Has.length c1),.load ⟨g1,2,none⟩ (iv x1.Slots),.load ⟨g1,3,none⟩ (iv x1.Speed),.load ⟨g1,4,none⟩ (iv x1.From),.load ⟨g1,5,none⟩ (iv x1.To),.load ⟨g1,6,none⟩ (.slice A2 x1.Stands.length c2)] [(0,.slice Aa0 a0.length ca0),(3,iv v11),(4,pg g1 0),(9,.slice Aa0 a0.length ca0),(10,iv (a0.length:Int)),(11,iv v11),(16,.agg #[.string x1.Name,.slice A1 x1.Has.length c1,iv x1.Slots,iv x1.Speed,iv x1.From,iv x1.To,.slice A2 x1.Stands.length c2])] (fun w hh=>⟨(hh.box 0 rfl rfl),(hh.box 0 rfl rfl),(hh.box 0 rfl rfl),(hh.box 0 rfl rfl),(hh.box 0 rfl rfl),(hh.box 0 rfl rfl),(hh.box 0 rfl rfl)⟩) ?_
   obtain ⟨y1,hy1,heq⟩:=bind_some heq
   refine RgH.does (DoesH.call (d:=17) (g:=25) (args:=#[.agg #[.string x1.Name,.slice A1 x1.Has.length c1,iv x1.Slots,iv x1.Speed,iv x1.From,iv x1.To,.slice A2 x1.Stands.length c2]]) (by kernel_rfl) (smithyardref9_checkWorker_c (a0:=x1) (Rw.of hr1) hc1 rfl (Rw.of hr2) hc2 rfl hy1)) ?_
   rintro _ _ _ _ ⟨_,rfl,rfl,rfl,rfl⟩
   refine Rd 3 [0,3,4,5,9,10,11] [(0,.slice Aa0 a0.length ca0),(3,iv v11),(4,pg g1 0),(5,iv y1),(9,.slice Aa0 a0.length ca0),(10,iv (a0.length:Int)),(11,iv v11)]<|Ra 1 [1,1,0,1,0,0,1,1,0,0,1,0,1,0] [.c [1,1,0,1,0,0,1,1,0,0,1,0,1,1],.c [1,1,0,1,0,0,1,1,0,0,1,1],.b 1,.c [1,1,0,1,0,0,1,1,1],.l [1,1,0,1,0,0],.b 0,.c [1,1,1]]<|Rd 2 [0,3,4,5,9,10,11,19] [(0,.slice Aa0 a0.length ca0),(3,iv v11),(4,pg g1 0),(5,iv y1),(9,.slice Aa0 a0.length ca0),(10,iv (a0.length:Int)),(11,iv v11),(19,.bool (y1 != 0))] ?_
   rcases bool_cases (y1 != 0) with hb3 | hb3
   ·replace heq:=bif_true hb3 heq
    refine Ct (y1 != 0) hb3<|Ra 1 [1,1,0,1,0,0,1,1,0,0,1,0,1,1,0,0] [.c [1,1,0,1,0,0,1,1,0,0,1,0,1,1,0,1],.c [1,1,0,1,0,0,1,1,0,0,1,1],.b 1,.c [1,1,0,1,0,0,1,1,1],.l [1,1,0,1,0,0],.b 0,.c [1,1,1]]<|Rd 2 [2] [(2,iv y1)] ?_
    obtain rfl:=Option.some.inj heq
    refine RunH.pick 1 [] (cs':=F) (by kernel_rfl) rfl ?_
    exact RunH.done (by kernel_rfl) Tryd.func11 (v:=iv y1) (by kernel_rfl) ⟨rfl,rfl,rfl⟩
   ·replace heq:=bif_false hb3 heq
    refine Cf (y1 != 0) hb3<|Ad 2 [.c [1,1,0,1,0,0,1,1,0,0,1,1,0],.c [1,1,0,1,0,0,1,1,0,0,1,1,1],.b 1,.c [1,1,0,1,0,0,1,1,1],.l [1,1,0,1,0,0],.b 0,.c [1,1,1]] ?_
    obtain ⟨t1,ht1,heq⟩:=bind_some heq
    have K2:RunH C11 (S11 F H r) H w0 [.c [1,1,0,1,0,0,1,1,0,0,1,1,1],.b 1,.c [1,1,0,1,0,0,1,1,1],.l [1,1,0,1,0,0],.b 0,.c [1,1,1]] [(0,.slice Aa0 a0.length ca0),(9,.slice Aa0 a0.length ca0),(10,iv (a0.length:Int)),(11,iv v11),(33,.bool t1)] H (F):=by
     rcases bool_cases (t1) with hb5 | hb5
     ·replace heq:=bif_true hb5 heq
      refine Ct t1 hb5<|Ra 1 [1,1,0,1,0,0,1,1,0,0,1,1,1,0,0] [.c [1,1,0,1,0,0,1,1,0,0,1,1,1,0,1],.b 1,.c [1,1,0,1,0,0,1,1,1],.l [1,1,0,1,0,0],.b 0,.c [1,1,1]]<|Rd 1 [2] [(2,iv 8)] ?_
      obtain rfl:=Option.some.inj heq
      exact RunH.done (by kernel_rfl) Tryd.func11 (v:=iv 8) (by kernel_rfl) ⟨rfl,rfl,rfl⟩
     ·replace heq:=bif_false hb5 heq
      refine Cf t1 hb5<|Ra 2 [1,1,0,1,0,0,1,1,1] [.l [1,1,0,1,0,0],.b 0,.c [1,1,1]]<|Rd 2 [0,9,10,11] [(0,.slice Aa0 a0.length ca0),(9,.slice Aa0 a0.length ca0),(10,iv (a0.length:Int)),(11,iv (w64 (v11+1)))]<|Ad 1 [.c [1,1,0,1,0,0],.l [1,1,0,1,0,0],.b 0,.c [1,1,1]]<|Kp [0,9,10,11] [(0,.slice Aa0 a0.length ca0),(9,.slice Aa0 a0.length ca0),(10,iv (a0.length:Int)),(11,iv (w64 (v11+1)))] ?_
      exact ihk a0 _ _ (w64 (v11+1)) hra0 hca0 heq
    replace heq:=ht1
    refine Kp [0,3,4,9,10,11] [(0,.slice Aa0 a0.length ca0),(3,iv v11),(4,pg g1 0),(9,.slice Aa0 a0.length ca0),(10,iv (a0.length:Int)),(11,iv v11)] ?_
    refine RunH.draw (fun w=>Heap H w0 w ((some (g1,.cells #[.string x1.Name,.slice A1 x1.Has.length c1,iv x1.Slots,iv x1.Speed,iv x1.From,iv x1.To,.slice A2 x1.Stands.length c2] 27 (0,0)))::F)) (fun w=>Heap H w0 w ((some (g1,.cells #[.string x1.Name,.slice A1 x1.Has.length c1,iv x1.Slots,iv x1.Speed,iv x1.From,iv x1.To,.slice A2 x1.Stands.length c2] 27 (0,0)))::F)) [3,3,3,3,3,3,3,3,3,3,3,3,3] (n:=13) (ls:=[false,false,false,false,false,false,false,false,false,false,false,false,false]) (by kernel_rfl) (by kernel_rfl) (by kernel_rfl) rfl ?_
    refine Dk [0,1,2] 10 (nb 13 7) [] [] [23,0,3,4,9,10,11] [(23,.bool (decide (0<v11))),(0,.slice Aa0 a0.length ca0),(3,iv v11),(4,pg g1 0),(9,.slice Aa0 a0.length ca0),(10,iv (a0.length:Int)),(11,iv v11)] (Pk 1 [0]) (Pk 1 [0]) (fun _ _=>trivial) ?_
    rcases bool_cases (decide (0<v11)) with hb4 | hb4
    ·replace heq:=bif_true hb4 heq
     refine DrH.val1 (v':=.bool true) (congrArg Value.bool hb4) ?_
     obtain ⟨x2,hx2,heq⟩:=bind_some heq
     obtain ⟨ha2,cs2,hK2,hcc2⟩:=hra0.get hx2
     obtain ⟨A3,c3,A4,c4,rfl,hc3,hr3,hc4,hr4⟩:=kWorker_open hK2
     refine Dk [3,4,5,6,7,8,9,10,11,12] 0 (nb 13 8191) [.string x1.Name,.string x2.Name] [.load ⟨g1,0,none⟩ (.string x1.Name),.need (Aa0=some (adr Aa0)∧(0:Int)≤(w64 (v11 - 1))∧(w64 (v11 - 1))<((a0.length:Nat):Int)),.load (((adr Aa0).add ((w64 (v11 - 1)).toNat*7)).add 0) (.string x2.Name)] [0,9,10,11,33] [(0,.slice Aa0 a0.length ca0),(9,.slice Aa0 a0.length ca0),(10,iv (a0.length:Int)),(11,iv v11),(33,.bool (sLt x1.Name x2.Name||sEq x1.Name x2.Name))] (Pk 1 [0]) (Pk 1 [0]) (fun w hh=>⟨(hh.box 0 rfl rfl),⟨ha2,(at?_some hx2).1,(at?_some hx2).2.1⟩,(hcc2 _ _ (hh.drop 1) 0 _ rfl)⟩) ?_
     obtain rfl:=Option.some.inj heq
     refine Kr [0,9,10,11,33] [(0,.slice Aa0 a0.length ca0),(9,.slice Aa0 a0.length ca0),(10,iv (a0.length:Int)),(11,iv v11),(33,.bool (sLt x1.Name x2.Name||sEq x1.Name x2.Name))] ?_
     refine DrH.pick 1 [] (cs':=F) (by kernel_rfl) rfl ?_
     refine DrH.done (by kernel_rfl) ?_
     exact K2
    ·replace heq:=bif_false hb4 heq
     refine DrH.val1 (v':=.bool false) (congrArg Value.bool hb4) ?_
     refine Dk [3,4,5,6,7,8,9,10,11,12] 0 (nb 13 8191) [] [] [0,9,10,11,33] [(0,.slice Aa0 a0.length ca0),(9,.slice Aa0 a0.length ca0),(10,iv (a0.length:Int)),(11,iv v11),(33,.bool false)] (Pk 1 [0]) (Pk 1 [0]) (fun _ _=>trivial) ?_
     obtain rfl:=Option.some.inj heq
     refine Kr [0,9,10,11,33] [(0,.slice Aa0 a0.length ca0),(9,.slice Aa0 a0.length ca0),(10,iv (a0.length:Int)),(11,iv v11),(33,.bool false)] ?_
     refine DrH.pick 1 [] (cs':=F) (by kernel_rfl) rfl ?_
     refine DrH.done (by kernel_rfl) ?_
     exact K2
  ·replace heq:=bif_false hb2 heq
   refine Cf (decide (v11<(a0.length:Int))) hb2<|Ad 2 [.c [1,1,1,0],.c [1,1,1,1]]<|Kp [] [] ?_
   exact he1 heq
theorem smithyardref9_CheckWorkers_c {w0:World} {H:Hp} {F:List Ch} {a0:List Worker} {Aa0:Option Addr} {na0:Nat} {ca0:Nat} {r:Int} (hra0:Rw kWorker H F Aa0 a0) (hca0:na0≤ca0) (hna0:na0=a0.length) (heq:smithyardref9_CheckWorkers.f a0=some r):CallsH Tryd.prog 11 #[.slice Aa0 na0 ca0] H w0 (F) (S11 F H r):=by
 refine calls_of_runH (F:=C11) Tryd.func11 (by kernel_rfl) Tryd.ntmps11 (args:=[.slice Aa0 na0 ca0]) (by kernel_rfl) ?_
 subst hna0
 unfold smithyardref9_CheckWorkers.f at heq
 refine Ra 1 [0] [.c [1]]<|Rd 1 [0] [(0,.slice Aa0 a0.length ca0)]<|Ra 2 [1,0,0] [.c [1,0,1],.c [1,1]]<|Rd 3 [0,8] [(0,.slice Aa0 a0.length ca0),(8,.bool (decide (50<(a0.length:Int))))] ?_
 rcases bool_cases (decide (50<(a0.length:Int))) with hb1 | hb1
 ·replace heq:=bif_true hb1 heq
  refine Ct (decide (50<(a0.length:Int))) hb1<|Ra 1 [1,0,1,0,0] [.c [1,0,1,0,1],.c [1,1]]<|Rd 1 [2] [(2,iv 2)] ?_
  obtain rfl:=Option.some.inj heq
  exact RunH.done (by kernel_rfl) Tryd.func11 (v:=iv 2) (by kernel_rfl) ⟨rfl,rfl,rfl⟩
 ·replace heq:=bif_false hb1 heq
  refine Cf (decide (50<(a0.length:Int))) hb1<|Ra 3 [1,1,0,0] [.c [1,1,0,1],.c [1,1,1]]<|Rd 3 [0,9,10,11] [(0,.slice Aa0 a0.length ca0),(9,.slice Aa0 a0.length ca0),(10,iv (a0.length:Int)),(11,iv 0)]<|Ad 2 [.c [1,1,0,1,0,0],.l [1,1,0,1,0,0],.b 0,.c [1,1,1]]<|Kp [0,9,10,11] [(0,.slice Aa0 a0.length ca0),(9,.slice Aa0 a0.length ca0),(10,iv (a0.length:Int)),(11,iv 0)] ?_
  exact ((smithyardref9_CheckWorkers.l2_c (e1:=smithyardref9_CheckWorkers.e1) (smithyardref9_CheckWorkers.e1_c)) big) a0 _ _ 0 hra0 hca0 heq
def S48 (F:List Ch) (H0:Hp) (r:Int) (v:Value) (H:Hp) (cs:List Ch):Prop:=H0=H∧v=iv r∧F=cs
theorem strings_Compare_c {w0:World} {H:Hp} {F:List Ch} {a0:ByteArray} {a1:ByteArray} {r:Int} (heq:strings_Compare.f a0 a1=some r):CallsH Tryd.prog 48 #[.string a0,.string a1] H w0 F (S48 F H r):=by
 intro w hh
 unfold strings_Compare.f at heq
 obtain rfl:=Option.some.inj heq
 refine (Shelf.Tryd.strings_Compare a0 a1 w).mono ?_
 rintro e w' ⟨rfl,rfl⟩
 exact ⟨_,rfl,H,F,Le.refl H,hh,rfl,rfl,rfl⟩
noncomputable def C47:Ctx:={ P:=Tryd.prog,f:=47,N:=9,c:=bodyOf Tryd.f47 }
def S47 (F:List Ch) (H0:Hp) (r:Int) (v:Value) (H:Hp) (cs:List Ch):Prop:=H0=H∧v=iv r∧F=cs
theorem workers_workAt_1_c {w0:World} {H:Hp} {F:List Ch} {a0:Work} {Aa0_1:Option Addr} {na0_1:Nat} {ca0_1:Nat} {Aa0_3:Option Addr} {na0_3:Nat} {ca0_3:Nat} {a1:ByteArray} {r:Int} (hra0_1:Rw kPair H F Aa0_1 a0.Needs) (hca0_1:na0_1≤ca0_1) (hna0_1:na0_1=a0.Needs.length) (hra0_3:Rw Kd.string H F Aa0_3 a0.After) (hca0_3:na0_3≤ca0_3) (hna0_3:na0_3=a0.After.length) (heq:workers_workAt_1.f a0 a1=some r):CallsH Tryd.prog 47 #[.agg #[.string a0.Id,.slice Aa0_1 na0_1 ca0_1,iv a0.Size,.slice Aa0_3 na0_3 ca0_3],.string a1] H w0 (F) (S47 F H r):=by
 refine calls_of_runH (F:=C47) Tryd.func47 (by kernel_rfl) Tryd.ntmps47 (args:=[.agg #[.string a0.Id,.slice Aa0_1 na0_1 ca0_1,iv a0.Size,.slice Aa0_3 na0_3 ca0_3],.string a1]) (by kernel_rfl) ?_
 subst hna0_1
 subst hna0_3
 unfold workers_workAt_1.f at heq
 refine Ra 1 [0] [.c [1]] ?_
 refine RgH.does (DoesH.new (d:=2) (v:=fun g=>.pointer (some ⟨g,0,none⟩)) (o:=fun g=>.cells #[.string a0.Id,.slice Aa0_1 a0.Needs.length ca0_1,iv a0.Size,.slice Aa0_3 a0.After.length ca0_3] 30 (0,0)) (fun g=>by kernel_rfl)) ?_
 rintro _ _ _ _ ⟨g1,rfl,rfl,rfl⟩
 refine Rd 2 [1,2] [(1,.string a1),(2,pg g1 0)]<|Ra 1 [1,0] [.c [1,1]]<|Rv 3 [6,7] [.string a0.Id] [.load ⟨g1,0,none⟩ (.string a0.Id)] [(6,.string a0.Id),(7,.string a1)] (fun w hh=>(hh.box 0 rfl rfl)) ?_
 obtain ⟨y1,hy1,heq⟩:=bind_some heq
 refine RgH.does (DoesH.call (d:=8) (g:=48) (args:=#[.string a0.Id,.string a1]) (by kernel_rfl) (strings_Compare_c (a0:=a0.Id) (a1:=a1)  hy1)) ?_
 rintro _ _ _ _ ⟨_,rfl,rfl,rfl,rfl⟩
 refine Rd 5 [4] [(4,iv y1)] ?_
 obtain rfl:=Option.some.inj heq
 refine RunH.pick 1 [] (cs':=F) (by kernel_rfl) rfl ?_
 exact RunH.done (by kernel_rfl) Tryd.func47 (v:=iv y1) (by kernel_rfl) ⟨rfl,rfl,rfl⟩
noncomputable def C46:Ctx:={ P:=Tryd.prog,f:=46,N:=49,c:=bodyOf Tryd.f46 }
def S46 (F:List Ch) (H0:Hp) (r:Int × Bool) (v:Value) (H:Hp) (cs:List Ch):Prop:=H0=H∧v=.tuple #[iv r.1,.bool r.2]∧F=cs
theorem slices_BinarySearchFunc_Work_string.e1_c {w0:World} {H:Hp} {F:List Ch} {r:Int × Bool}:∀ (a0:List Work) (Aa0:Option Addr) (ca0:Nat) (a1:ByteArray) (v_i9:Int) ,Rw kWork H F Aa0 a0→a0.length≤ca0→slices_BinarySearchFunc_Work_string.e1 a0 a1 v_i9=some r→RunH C46 (S46 F H r) H w0 [.c [1,1,1,1,0],.c [1,1,1,1,1]] [(0,.slice Aa0 a0.length ca0),(1,.string a1),(2,.func (.func 47) #[] #[]),(8,iv (a0.length:Int)),(9,iv v_i9)] H (F):=by
 intro a0 Aa0 ca0 a1 v_i9 hra0 hca0 heq
 unfold slices_BinarySearchFunc_Work_string.e1 at heq
 obtain ⟨t1,ht1,heq⟩:=bind_some heq
 have K1:RunH C46 (S46 F H r) H w0 [.c [1,1,1,1,1]] [(6,iv v_i9),(7,.bool t1)] H (F):=by
  obtain rfl:=Option.some.inj heq
  exact RunH.done (by kernel_rfl) Tryd.func46 (v:=.tuple #[iv v_i9,.bool t1]) (by kernel_rfl) ⟨rfl,rfl,rfl⟩
 replace heq:=ht1
 refine Rr<|Rk 5 [39,0,1,2,9,35] [(39,.bool (decide (v_i9<(a0.length:Int)))),(0,.slice Aa0 a0.length ca0),(1,.string a1),(2,.func (.func 47) #[] #[]),(9,iv v_i9),(35,iv v_i9)] ?_
 rcases bool_cases (decide (v_i9<(a0.length:Int))) with hb1 | hb1
 ·replace heq:=bif_true hb1 heq
  refine RgH.val1 (v':=.bool true) (congrArg Value.bool hb1) ?_
  obtain ⟨x1,hx1,heq⟩:=bind_some heq
  obtain ⟨ha1,cs1,hK1,hcc1⟩:=hra0.get hx1
  obtain ⟨A1,c1,A2,c2,rfl,hc1,hr1,hc2,hr2⟩:=kWork_open hK1
  refine Rv 11 [35,39,40,44,45] [.string x1.Id,.slice A1 x1.Needs.length c1,iv x1.Size,.slice A2 x1.After.length c2] [.need (Aa0=some (adr Aa0)∧(0:Int)≤v_i9∧v_i9<((a0.length:Nat):Int)),.load (((adr Aa0).add (v_i9.toNat*4)).add 0) (.string x1.Id),.load (((adr Aa0).add (v_i9.toNat*4)).add 1) (.slice A1 x1.Needs.length c1),.load (((adr Aa0).add (v_i9.toNat*4)).add 2) (iv x1.Size),.load (((adr Aa0).add (v_i9.toNat*4)).add 3) (.slice A2 x1.After.length c2)] [(35,iv v_i9),(39,.bool true),(40,.func (.func 47) #[] #[]),(44,.agg #[.string x1.Id,.slice A1 x1.Needs.length c1,iv x1.Size,.slice A2 x1.After.length c2]),(45,.string a1)] (fun w hh=>⟨⟨ha1,(at?_some hx1).1,(at?_some hx1).2.1⟩,(hcc1 _ _ (hh.drop 0) 0 _ rfl),(hcc1 _ _ (hh.drop 0) 1 _ rfl),(hcc1 _ _ (hh.drop 0) 2 _ rfl),(hcc1 _ _ (hh.drop 0) 3 _ rfl)⟩) ?_
  obtain ⟨y1,hy1,heq⟩:=bind_some heq
  refine RgH.does (DoesH.call (d:=46) (g:=47) (args:=#[.agg #[.string x1.Id,.slice A1 x1.Needs.length c1,iv x1.Size,.slice A2 x1.After.length c2],.string a1]) (by kernel_rfl) (workers_workAt_1_c (a0:=x1) (a1:=a1) (Rw.of hr1) hc1 rfl (Rw.of hr2) hc2 rfl hy1)) ?_
  rintro _ _ _ _ ⟨_,rfl,rfl,rfl,rfl⟩
  refine Rk 16 [6,7] [(6,iv v_i9),(7,.bool (y1 == 0))] ?_
  obtain rfl:=Option.some.inj heq
  refine Kg [6,7] [(6,iv v_i9),(7,.bool (y1 == 0))]<|Dn ?_
  exact K1
 ·replace heq:=bif_false hb1 heq
  refine RgH.val1 (v':=.bool false) (congrArg Value.bool hb1) ?_
  refine Rk 16 [6,7] [(6,iv v_i9),(7,.bool false)] ?_
  obtain rfl:=Option.some.inj heq
  refine Kg [6,7] [(6,iv v_i9),(7,.bool false)]<|Dn ?_
  exact K1
theorem slices_BinarySearchFunc_Work_string.l2_c {w0:World} {H:Hp} {F:List Ch} {r:Int × Bool} (e1:(List Work)→ByteArray→Int→Option (Int × Bool))
  (he1:∀ (a0:List Work) (Aa0:Option Addr) (ca0:Nat) (a1:ByteArray) (v_i9:Int) ,Rw kWork H F Aa0 a0→a0.length≤ca0→e1 a0 a1 v_i9=some r→RunH C46 (S46 F H r) H w0 [.c [1,1,1,1,0],.c [1,1,1,1,1]] [(0,.slice Aa0 a0.length ca0),(1,.string a1),(2,.func (.func 47) #[] #[]),(8,iv (a0.length:Int)),(9,iv v_i9)] H (F)):∀ (k:Nat),∀ (a0:List Work) (Aa0:Option Addr) (ca0:Nat) (a1:ByteArray) (v_i9:Int) (v_j10:Int) ,Rw kWork H F Aa0 a0→a0.length≤ca0→slices_BinarySearchFunc_Work_string.l2 e1 k a0 a1 v_i9 v_j10=some r→RunH C46 (S46 F H r) H w0 [.c [1,1,1,0,0,0],.l [1,1,1,0,0,0],.b 0,.c [1,1,1,1]] [(0,.slice Aa0 a0.length ca0),(1,.string a1),(2,.func (.func 47) #[] #[]),(8,iv (a0.length:Int)),(9,iv v_i9),(10,iv v_j10)] H (F):=by
 intro k
 induction k with
 | zero=>intro a0 Aa0 ca0 a1 v_i9 v_j10 hra0 hca0 heq; exact nomatch (show (none:Option (Int × Bool))=some r from heq)
 | succ k ihk =>
  intro a0 Aa0 ca0 a1 v_i9 v_j10 hra0 hca0 heq
  rw [slices_BinarySearchFunc_Work_string.l2] at heq
  refine Ra 2 [1,1,1,0,0,0,0,0] [.c [1,1,1,0,0,0,0,1],.c [1,1,1,0,0,0,1],.l [1,1,1,0,0,0],.b 0,.c [1,1,1,1]]<|Rd 3 [0,1,2,8,9,10,17] [(0,.slice Aa0 a0.length ca0),(1,.string a1),(2,.func (.func 47) #[] #[]),(8,iv (a0.length:Int)),(9,iv v_i9),(10,iv v_j10),(17,.bool (decide (v_i9<v_j10)))] ?_
  rcases bool_cases (decide (v_i9<v_j10)) with hb2 | hb2
  ·replace heq:=bif_true hb2 heq
   refine Ct (decide (v_i9<v_j10)) hb2<|Ra 3 [1,1,1,0,0,0,1,0,0] [.c [1,1,1,0,0,0,1,0,1],.b 1,.l [1,1,1,0,0,0],.b 0,.c [1,1,1,1]]<|Rw' 7 [0,1,2,8,9,10,11] [] [.need ((0:Int)≤1)] [(0,.slice Aa0 a0.length ca0),(1,.string a1),(2,.func (.func 47) #[] #[]),(8,iv (a0.length:Int)),(9,iv v_i9),(10,iv v_j10),(11,iv (w64 (iShr .u64 (IntKind.wrap .u64 (w64 (v_i9+v_j10))) 1)))] (fun w hh=>(show (0:Int)≤1 by decide))<|Ra 1 [1,1,1,0,0,0,1,0,1,0] [.c [1,1,1,0,0,0,1,0,1,1],.b 1,.l [1,1,1,0,0,0],.b 0,.c [1,1,1,1]] ?_
   obtain ⟨x2,hx2,heq⟩:=bind_some heq
   obtain ⟨ha2,cs2,hK2,hcc2⟩:=hra0.get hx2
   obtain ⟨A3,c3,A4,c4,rfl,hc3,hr3,hc4,hr4⟩:=kWork_open hK2
   refine Rv 6 [0,1,2,8,9,10,11,24,28,29] [.string x2.Id,.slice A3 x2.Needs.length c3,iv x2.Size,.slice A4 x2.After.length c4] [.need (Aa0=some (adr Aa0)∧(0:Int)≤(w64 (iShr .u64 (IntKind.wrap .u64 (w64 (v_i9+v_j10))) 1))∧(w64 (iShr .u64 (IntKind.wrap .u64 (w64 (v_i9+v_j10))) 1))<((a0.length:Nat):Int)),.load (((adr Aa0).add ((w64 (iShr .u64 (IntKind.wrap .u64 (w64 (v_i9+v_j10))) 1)).toNat*4)).add 0) (.string x2.Id),.load (((adr Aa0).add ((w64 (iShr .u64 (IntKind.wrap .u64 (w64 (v_i9+v_j10))) 1)).toNat*4)).add 1) (.slice A3 x2.Needs.length c3),.load (((adr Aa0).add ((w64 (iShr .u64 (IntKind.wrap .u64 (w64 (v_i9+v_j10))) 1)).toNat*4)).add 2) (iv x2.Size),.load (((adr Aa0).add ((w64 (iShr .u64 (IntKind.wrap .u64 (w64 (v_i9+v_j10))) 1)).toNat*4)).add 3) (.slice A4 x2.After.length c4)] [(0,.slice Aa0 a0.length ca0),(1,.string a1),(2,.func (.func 47) #[] #[]),(8,iv (a0.length:Int)),(9,iv v_i9),(10,iv v_j10),(11,iv (w64 (iShr .u64 (IntKind.wrap .u64 (w64 (v_i9+v_j10))) 1))),(24,.func (.func 47) #[] #[]),(28,.agg #[.string x2.Id,.slice A3 x2.Needs.length c3,iv x2.Size,.slice A4 x2.After.length c4]),(29,.string a1)] (fun w hh=>⟨⟨ha2,(at?_some hx2).1,(at?_some hx2).2.1⟩,(hcc2 _ _ (hh.drop 0) 0 _ rfl),(hcc2 _ _ (hh.drop 0) 1 _ rfl),(hcc2 _ _ (hh.drop 0) 2 _ rfl),(hcc2 _ _ (hh.drop 0) 3 _ rfl)⟩) ?_
   obtain ⟨y2,hy2,heq⟩:=bind_some heq
   refine RgH.does (DoesH.call (d:=30) (g:=47) (args:=#[.agg #[.string x2.Id,.slice A3 x2.Needs.length c3,iv x2.Size,.slice A4 x2.After.length c4],.string a1]) (by kernel_rfl) (workers_workAt_1_c (a0:=x2) (a1:=a1) (Rw.of hr3) hc3 rfl (Rw.of hr4) hc4 rfl hy2)) ?_
   rintro _ _ _ _ ⟨_,rfl,rfl,rfl,rfl⟩
   refine Rd 8 [0,1,2,8,9,10,11,31] [(0,.slice Aa0 a0.length ca0),(1,.string a1),(2,.func (.func 47) #[] #[]),(8,iv (a0.length:Int)),(9,iv v_i9),(10,iv v_j10),(11,iv (w64 (iShr .u64 (IntKind.wrap .u64 (w64 (v_i9+v_j10))) 1))),(31,.bool (decide (y2<0)))] ?_
   rcases bool_cases (decide (y2<0)) with hb3 | hb3
   ·replace heq:=bif_true hb3 heq
    refine Ct (decide (y2<0)) hb3<|Rr<|Rd 3 [0,1,2,8,9,10] [(0,.slice Aa0 a0.length ca0),(1,.string a1),(2,.func (.func 47) #[] #[]),(8,iv (a0.length:Int)),(9,iv (w64 ((w64 (iShr .u64 (IntKind.wrap .u64 (w64 (v_i9+v_j10))) 1))+1))),(10,iv v_j10)]<|Ad 2 [.c [1,1,1,0,0,0],.l [1,1,1,0,0,0],.b 0,.c [1,1,1,1]]<|Kp [0,1,2,8,9,10] [(0,.slice Aa0 a0.length ca0),(1,.string a1),(2,.func (.func 47) #[] #[]),(8,iv (a0.length:Int)),(9,iv (w64 ((w64 (iShr .u64 (IntKind.wrap .u64 (w64 (v_i9+v_j10))) 1))+1))),(10,iv v_j10)] ?_
    exact ihk a0 _ _ a1 (w64 ((w64 (iShr .u64 (IntKind.wrap .u64 (w64 (v_i9+v_j10))) 1))+1)) v_j10 hra0 hca0 heq
   ·replace heq:=bif_false hb3 heq
    refine Cf (decide (y2<0)) hb3<|Rr<|Rd 2 [0,1,2,8,9,10] [(0,.slice Aa0 a0.length ca0),(1,.string a1),(2,.func (.func 47) #[] #[]),(8,iv (a0.length:Int)),(9,iv v_i9),(10,iv (w64 (iShr .u64 (IntKind.wrap .u64 (w64 (v_i9+v_j10))) 1)))]<|Ad 2 [.c [1,1,1,0,0,0],.l [1,1,1,0,0,0],.b 0,.c [1,1,1,1]]<|Kp [0,1,2,8,9,10] [(0,.slice Aa0 a0.length ca0),(1,.string a1),(2,.func (.func 47) #[] #[]),(8,iv (a0.length:Int)),(9,iv v_i9),(10,iv (w64 (iShr .u64 (IntKind.wrap .u64 (w64 (v_i9+v_j10))) 1)))] ?_
    exact ihk a0 _ _ a1 v_i9 (w64 (iShr .u64 (IntKind.wrap .u64 (w64 (v_i9+v_j10))) 1)) hra0 hca0 heq
  ·replace heq:=bif_false hb2 heq
   refine Cf (decide (v_i9<v_j10)) hb2<|Ad 2 [.c [1,1,1,1,0],.c [1,1,1,1,1]]<|Kp [0,1,2,8,9] [(0,.slice Aa0 a0.length ca0),(1,.string a1),(2,.func (.func 47) #[] #[]),(8,iv (a0.length:Int)),(9,iv v_i9)] ?_
   exact he1 a0 _ _ a1 v_i9 hra0 hca0 heq
theorem slices_BinarySearchFunc_Work_string_c {w0:World} {H:Hp} {F:List Ch} {a0:List Work} {Aa0:Option Addr} {na0:Nat} {ca0:Nat} {a1:ByteArray} {r:Int × Bool} (hra0:Rw kWork H F Aa0 a0) (hca0:na0≤ca0) (hna0:na0=a0.length) (heq:slices_BinarySearchFunc_Work_string.f a0 a1=some r):CallsH Tryd.prog 46 #[.slice Aa0 na0 ca0,.string a1,.func (.func 47) #[] #[]] H w0 (F) (S46 F H r):=by
 refine calls_of_runH (F:=C46) Tryd.func46 (by kernel_rfl) Tryd.ntmps46 (args:=[.slice Aa0 na0 ca0,.string a1,.func (.func 47) #[] #[]]) (by kernel_rfl) ?_
 subst hna0
 unfold slices_BinarySearchFunc_Work_string.f at heq
 refine Ra 1 [0] [.c [1]]<|Rd 2 [0,1,2] [(0,.slice Aa0 a0.length ca0),(1,.string a1),(2,.func (.func 47) #[] #[])]<|Ra 1 [1,0] [.c [1,1]]<|Rd 3 [0,1,2,8] [(0,.slice Aa0 a0.length ca0),(1,.string a1),(2,.func (.func 47) #[] #[]),(8,iv (a0.length:Int))]<|Ra 1 [1,1,0] [.c [1,1,1]]<|Rd 3 [0,1,2,8,9,10] [(0,.slice Aa0 a0.length ca0),(1,.string a1),(2,.func (.func 47) #[] #[]),(8,iv (a0.length:Int)),(9,iv 0),(10,iv (a0.length:Int))]<|Ad 3 [.c [1,1,1,0,0,0],.l [1,1,1,0,0,0],.b 0,.c [1,1,1,1]]<|Kp [0,1,2,8,9,10] [(0,.slice Aa0 a0.length ca0),(1,.string a1),(2,.func (.func 47) #[] #[]),(8,iv (a0.length:Int)),(9,iv 0),(10,iv (a0.length:Int))] ?_
 exact ((slices_BinarySearchFunc_Work_string.l2_c (e1:=slices_BinarySearchFunc_Work_string.e1) (slices_BinarySearchFunc_Work_string.e1_c)) big) a0 _ _ a1 0 (a0.length:Int) hra0 hca0 heq
noncomputable def C28:Ctx:={ P:=Tryd.prog,f:=28,N:=11,c:=bodyOf Tryd.f28 }
def S28 (F:List Ch) (H0:Hp) (r:Int × Bool) (v:Value) (H:Hp) (cs:List Ch):Prop:=H0=H∧v=.tuple #[iv r.1,.bool r.2]∧F=cs
theorem workers_workAt_c {w0:World} {H:Hp} {F:List Ch} {a0:List Work} {Aa0:Option Addr} {na0:Nat} {ca0:Nat} {a1:ByteArray} {r:Int × Bool} (hra0:Rw kWork H F Aa0 a0) (hca0:na0≤ca0) (hna0:na0=a0.length) (heq:workers_workAt.f a0 a1=some r):CallsH Tryd.prog 28 #[.slice Aa0 na0 ca0,.string a1] H w0 (F) (S28 F H r):=by
 refine calls_of_runH (F:=C28) Tryd.func28 (by kernel_rfl) Tryd.ntmps28 (args:=[.slice Aa0 na0 ca0,.string a1]) (by kernel_rfl) ?_
 subst hna0
 unfold workers_workAt.f at heq
 refine Ra 1 [0] [.c [1]]<|Rd 2 [0,1] [(0,.slice Aa0 a0.length ca0),(1,.string a1)]<|Ra 1 [1,0] [.c [1,1]]<|Rk 2 [6,7] [(6,.slice Aa0 a0.length ca0),(7,.string a1)] ?_
 obtain ⟨y1,hy1,heq⟩:=bind_some heq
 refine RgH.does (DoesH.call (d:=8) (g:=46) (args:=#[.slice Aa0 a0.length ca0,.string a1,.func (.func 47) #[] #[]]) (by kernel_rfl) (slices_BinarySearchFunc_Work_string_c (a0:=a0) (a1:=a1) hra0 hca0 rfl hy1)) ?_
 rintro _ _ _ _ ⟨_,rfl,rfl,rfl,rfl⟩
 refine Rd 7 [4,5] [(4,iv y1.1),(5,.bool y1.2)] ?_
 obtain rfl:=Option.some.inj heq
 exact RunH.done (by kernel_rfl) Tryd.func28 (v:=.tuple #[iv y1.1,.bool y1.2]) (by kernel_rfl) ⟨rfl,rfl,rfl⟩
noncomputable def C50:Ctx:={ P:=Tryd.prog,f:=50,N:=18,c:=bodyOf Tryd.f50 }
def S50 (F:List Ch) (H0:Hp) (r:Bool) (v:Value) (H:Hp) (cs:List Ch):Prop:=H0=H∧v=.bool r∧F=cs
theorem workers_ordered_1_c {w0:World} {H:Hp} {F:List Ch} {a0:ByteArray} {ga1:Nat} {a1:List Work} {Aa1_0:Option Addr} {na1_0:Nat} {ca1_0:Nat} {ga2:Nat} {a2:List Bool} {Aa2_0:Option Addr} {na2_0:Nat} {ca2_0:Nat} {r:Bool} (hra1_0:Rw kWork H F Aa1_0 a1) (hca1_0:na1_0≤ca1_0) (hna1_0:na1_0=a1.length) (hga1:InG H F ga1 (.cells #[.slice Aa1_0 na1_0 ca1_0] 23 (0,0))) (hra2_0:Rw Kd.bool H F Aa2_0 a2) (hca2_0:na2_0≤ca2_0) (hna2_0:na2_0=a2.length) (hga2:InG H F ga2 (.cells #[.slice Aa2_0 na2_0 ca2_0] 77 (0,0))) (heq:workers_ordered_1.f a0 a1 a2=some r):CallsH Tryd.prog 50 #[.string a0,.pointer (some ⟨ga1,0,none⟩),.pointer (some ⟨ga2,0,none⟩)] H w0 (F) (S50 F H r):=by
 refine calls_of_runH (F:=C50) Tryd.func50 (by kernel_rfl) Tryd.ntmps50 (args:=[.string a0,.pointer (some ⟨ga1,0,none⟩),.pointer (some ⟨ga2,0,none⟩)]) (by kernel_rfl) ?_
 subst hna1_0
 subst hna2_0
 unfold workers_ordered_1.f at heq
 refine Ra 1 [0] [.c [1]]<|Rd 1 [0,1,2] [(0,.string a0),(1,pg ga1 0),(2,pg ga2 0)]<|Ra 1 [1,0] [.c [1,1]]<|Rv 2 [2,8,9] [.slice Aa1_0 a1.length ca1_0] [.load ⟨ga1,0,none⟩ (.slice Aa1_0 a1.length ca1_0)] [(2,pg ga2 0),(8,.slice Aa1_0 a1.length ca1_0),(9,.string a0)] (fun w hh=>(hga1.cell (hh.drop 0) rfl)) ?_
 obtain ⟨y1,hy1,heq⟩:=bind_some heq
 refine RgH.does (DoesH.call (d:=10) (g:=28) (args:=#[.slice Aa1_0 a1.length ca1_0,.string a0]) (by kernel_rfl) (workers_workAt_c (a0:=a1) (a1:=a0) hra1_0 hca1_0 rfl hy1)) ?_
 rintro _ _ _ _ ⟨_,rfl,rfl,rfl,rfl⟩
 refine Rd 8 [2,5] [(2,pg ga2 0),(5,iv y1.1)]<|Ra 1 [1,1,0] [.c [1,1,1]] ?_
 obtain ⟨x1,hx1,heq⟩:=bind_some heq
 obtain ⟨ha1,cs1,hK1,hcc1⟩:=hra2_0.get hx1
 obtain rfl:cs1=[.bool x1]:=hK1
 refine Rw' 6 [4] [.slice Aa2_0 a2.length ca2_0,.bool x1] [.load ⟨ga2,0,none⟩ (.slice Aa2_0 a2.length ca2_0),.need (Aa2_0=some (adr Aa2_0)∧(0:Int)≤y1.1∧y1.1<((a2.length:Nat):Int)),.load ((adr Aa2_0).add (y1.1.toNat*1)) (.bool x1)] [(4,.bool (!x1))] (fun w hh=>⟨(hga2.cell (hh.drop 0) rfl),⟨ha1,(at?_some hx1).1,(at?_some hx1).2.1⟩,(hcc1 _ _ (hh.drop 0) 0 _ rfl)⟩) ?_
 obtain rfl:=Option.some.inj heq
 exact RunH.done (by kernel_rfl) Tryd.func50 (v:=.bool (!x1)) (by kernel_rfl) ⟨rfl,rfl,rfl⟩
end Go.Proofs.YteljhhgffmpgnaaDoor
