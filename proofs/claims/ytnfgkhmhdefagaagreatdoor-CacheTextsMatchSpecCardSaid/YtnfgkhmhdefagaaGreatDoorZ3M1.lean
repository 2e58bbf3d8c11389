/- What the machine's calls of these functions come to: just what the plain functions say. Written by program. -/
import Derived.Test.YtnfgkhmhdefagaaGreatDoorProg
import Derived.Test.YtnfgkhmhdefagaaGreatDoorKitXi
import Derived.Test.YtnfgkhmhdefagaaGreatDoorKitW
import Derived.Test.YtnfgkhmhdefagaaGreatDoorZD
import Derived.Test.YtnfgkhmhdefagaaGreatDoorShelf
import Derived.Test.YtnfgkhmhdefagaaGreatDoorKitBl
import Derived.Test.YtnfgkhmhdefagaaGreatDoorKitZ
set_option linter.unusedVariables false
set_option linter.unnecessarySimpa false
set_option linter.unusedSimpArgs false
set_option maxRecDepth 100000
set_option maxHeartbeats 1000000
namespace Go.Proofs.YtnfgkhmhdefagaaGreatDoor
open Go Go.RowKit Go.Proofs.YtnfgkhmhdefagaaGreatDoor.Kit
class Wz (w : World) : Prop where
  a : GlobI 0 w
  b : TabI Tryz.prog "internal/strconv.uint64pow10" 1 w
instance {w : World} [h : Wz w] : GlobI 0 w := h.a
instance {w : World} [h : Wz w] : TabI Tryz.prog "internal/strconv.uint64pow10" 1 w := h.b
instance {w : World} [ha : GlobI 0 w] [hb : TabI Tryz.prog "internal/strconv.uint64pow10" 1 w] : Wz w := ⟨ha, hb⟩
variable {w0 : World} {H0 H : Hp} {F : List Ch}
def kBlob:Kd Blob:=Kd.iso ((Kd.pair Kd.string (Kd.pair (Kd.int .i64) (Kd.pair (Kd.int .i64) (Kd.pair (Kd.int .i64) (Kd.int .i64)))))) (fun x=>(x.Digest,x.Size,x.Used,x.Until,x.Pins))
theorem kBlob_open {H:Hp} {x:Blob} {c:List Value} (h:kBlob.K H x c):c=[.string x.Digest,iv x.Size,iv x.Used,iv x.Until,iv x.Pins]:=by
 obtain ⟨p0,q0,rfl,g0,h0⟩:=h
 obtain rfl:p0=[_]:=g0
 obtain ⟨p1,q1,rfl,g1,h1⟩:=h0
 obtain rfl:p1=[_]:=g1
 obtain ⟨p2,q2,rfl,g2,h2⟩:=h1
 obtain rfl:p2=[_]:=g2
 obtain ⟨p3,q3,rfl,g3,h3⟩:=h2
 obtain rfl:p3=[_]:=g3
 obtain rfl:q3=[_]:=h3
 rfl
theorem kBlob_mk {H:Hp} {x:Blob}:kBlob.K H x [.string x.Digest,iv x.Size,iv x.Used,iv x.Until,iv x.Pins]:=⟨[.string x.Digest],[iv x.Size,iv x.Used,iv x.Until,iv x.Pins],rfl,rfl,⟨[iv x.Size],[iv x.Used,iv x.Until,iv x.Pins],rfl,rfl,⟨[iv x.Used],[iv x.Until,iv x.Pins],rfl,rfl,⟨[iv x.Until],[iv x.Pins],rfl,rfl,rfl⟩⟩⟩⟩
def kEntry:Kd Entry:=Kd.iso ((Kd.pair Kd.string (Kd.pair (Kd.slice Kd.string) (Kd.int .i64)))) (fun x=>(x.Key,x.Refs,x.Used))
theorem kEntry_open {H:Hp} {x:Entry} {c:List Value} (h:kEntry.K H x c):∃ A1 c1,c=[.string x.Key,.slice A1 x.Refs.length c1,iv x.Used]∧x.Refs.length≤c1∧Kd.Row Kd.string H A1 x.Refs:=by
 obtain ⟨p0,q0,rfl,g0,h0⟩:=h
 obtain rfl:p0=[_]:=g0
 obtain ⟨p1,q1,rfl,g1,h1⟩:=h0
 obtain ⟨A1,c1,rfl,u1,v1⟩:=g1
 obtain rfl:q1=[_]:=h1
 exact ⟨A1,c1,rfl,u1,v1⟩
theorem kEntry_mk {H:Hp} {x:Entry} {A1:Option Addr} {c1:Nat} (u1:x.Refs.length≤c1) (v1:Kd.Row Kd.string H A1 x.Refs):kEntry.K H x [.string x.Key,.slice A1 x.Refs.length c1,iv x.Used]:=⟨[.string x.Key],[.slice A1 x.Refs.length c1,iv x.Used],rfl,rfl,⟨[.slice A1 x.Refs.length c1],[iv x.Used],rfl,⟨A1,c1,rfl,u1,v1⟩,rfl⟩⟩
def kCache:Kd Cache:=Kd.iso ((Kd.pair (Kd.int .i64) (Kd.pair (Kd.int .i64) (Kd.pair (Kd.slice kBlob) (Kd.slice kEntry))))) (fun x=>(x.Room,x.Lease,x.Blobs,x.Entries))
theorem kCache_open {H:Hp} {x:Cache} {c:List Value} (h:kCache.K H x c):∃ A2 c2,∃ A3 c3,c=[iv x.Room,iv x.Lease,.slice A2 x.Blobs.length c2,.slice A3 x.Entries.length c3]∧x.Blobs.length≤c2∧Kd.Row kBlob H A2 x.Blobs∧x.Entries.length≤c3∧Kd.Row kEntry H A3 x.Entries:=by
 obtain ⟨p0,q0,rfl,g0,h0⟩:=h
 obtain rfl:p0=[_]:=g0
 obtain ⟨p1,q1,rfl,g1,h1⟩:=h0
 obtain rfl:p1=[_]:=g1
 obtain ⟨p2,q2,rfl,g2,h2⟩:=h1
 obtain ⟨A2,c2,rfl,u2,v2⟩:=g2
 obtain ⟨A3,c3,rfl,u3,v3⟩:=h2
 exact ⟨A2,c2,A3,c3,rfl,u2,v2,u3,v3⟩
theorem kCache_mk {H:Hp} {x:Cache} {A2:Option Addr} {c2:Nat} {A3:Option Addr} {c3:Nat} (u2:x.Blobs.length≤c2) (v2:Kd.Row kBlob H A2 x.Blobs) (u3:x.Entries.length≤c3) (v3:Kd.Row kEntry H A3 x.Entries):kCache.K H x [iv x.Room,iv x.Lease,.slice A2 x.Blobs.length c2,.slice A3 x.Entries.length c3]:=⟨[iv x.Room],[iv x.Lease,.slice A2 x.Blobs.length c2,.slice A3 x.Entries.length c3],rfl,rfl,⟨[iv x.Lease],[.slice A2 x.Blobs.length c2,.slice A3 x.Entries.length c3],rfl,rfl,⟨[.slice A2 x.Blobs.length c2],[.slice A3 x.Entries.length c3],rfl,⟨A2,c2,rfl,u2,v2⟩,⟨A3,c3,rfl,u3,v3⟩⟩⟩⟩
noncomputable def C11:Ctx:={ P:=Tryz.prog,f:=11,N:=8,c:=bodyOf Tryz.f11 }
def S11 (F:List Ch) (H0:Hp) (r:List Blob) (v:Value) (H:Hp) (cs:List Ch):Prop:=∃ (A0:Option Addr) (c0:Nat) (ch0:Ch),H0=H∧v=.slice A0 r.length c0∧ch0::F=cs∧SlOwn kBlob 37 H A0 c0 r ch0
theorem slices_Clone_Blob_c [Wz w0] {a0:List Blob} {Aa0:Option Addr} {na0 ca0:Nat} {r:List Blob} (hra0:Rw kBlob H F Aa0 a0) (hca0:na0≤ca0) (hna0:na0=a0.length) (heq:slices_Clone_Blob.f a0=some r):CallsH Tryz.prog 11 #[.slice Aa0 na0 ca0] H w0 F (S11 F H r):=by
 refine calls_of_runH (F:=C11) Tryz.func11 (by kernel_rfl) Tryz.ntmps11 (args:=[.slice Aa0 na0 ca0]) (by kernel_rfl) ?_
 subst hna0
 unfold slices_Clone_Blob.f at heq
 obtain ⟨hn,heq⟩:=guard?_some heq
 obtain rfl:=Option.some.inj heq
 refine Ra 1 [0] [.c [1]]<|Rd 1 [0] [(0,.slice Aa0 a0.length ca0)]<|Ra 2 [1,0,0] [.c [1,0,1],.c [1,1]] ?_
 cases Aa0 with
 | none =>
  have h0:a0=[]:=by
   cases a0 with
   | nil=>rfl
   | cons x xs=>obtain ⟨b,off,cs,e,fr,hA,_⟩:=hra0 (by simp); cases hA
  subst h0
  refine Rd 2 [4] [(4,.bool true)]<|Ct true rfl<|Ra 1 [1,0,1,0,0] [.c [1,0,1,0,1],.c [1,1]]<|Rd 1 [2] [(2,.slice none 0 0)]<|RunH.nilc ?_
  exact RunH.done (by kernel_rfl) Tryz.func11 (v:=.slice none ([]:List Blob).length 0) (by kernel_rfl) ⟨none,0,none,rfl,rfl,rfl,SlOwn.nil⟩
 | some ad =>
  refine Rd 2 [0,4] [(0,.slice (some ad) a0.length ca0),(4,.bool false)]<|Cf false rfl<|Ra 2 [1,1,0] [.c [1,1,1]] ?_
  refine RgH.does (DoesH.new (d:=5) (v:=fun g=>.slice (some ⟨g,0,none⟩) 0 0) (o:=fun g=>.cells #[] 37 (0,0)) (fun g=>by kernel_rfl)) ?_
  rintro _ _ _ _ ⟨g,rfl,rfl,rfl⟩
  have ho:SlOwn kBlob 37 H (some ⟨g,0,none⟩) 0 ([]:List Blob) (some (g,.cells #[] 37 (0,0))):=.inr ⟨g,0,#[],rfl,rfl,by simp,by simp [maxLen],by simp,Kd.Rep.nil⟩
  refine Rk 2 [5,6] [(5,.slice (some ⟨g,0,none⟩) 0 0),(6,.slice (some ad) a0.length ca0)] ?_
  refine RgH.does (DoesH.append (d:=7) (k:=0) (t:=22) (e:=37) (bytes:=48) (kd:=kBlob) (n:=0) (m:=a0.length) (xs:=([]:List Blob)) (ys:=a0) (A:=some ⟨g,0,none⟩) (B:=some ad) (c:=0) (cB:=ca0) (by kernel_rfl) rfl rfl (by kernel_rfl) rfl ho (fun w hh=>hra0.rdb (hh.drop 1)) (room_le hn) (by have:=room_le hn; omega)) ?_
  rintro _ _ _ _ ⟨A1,c1,ch1,rfl,rfl,rfl,ho1⟩
  refine Rd 4 [2] [(2,.slice A1 (([]:List Blob)++a0).length c1)] ?_
  exact RunH.done (by kernel_rfl) Tryz.func11 (v:=.slice A1 (([]:List Blob)++a0).length c1) (by kernel_rfl) ⟨A1,c1,ch1,rfl,rfl,rfl,ho1⟩
noncomputable def C12:Ctx:={ P:=Tryz.prog,f:=12,N:=8,c:=bodyOf Tryz.f12 }
def S12 (F:List Ch) (H0:Hp) (r:List ByteArray) (v:Value) (H:Hp) (cs:List Ch):Prop:=∃ (A0:Option Addr) (c0:Nat) (ch0:Ch),H0=H∧v=.slice A0 r.length c0∧ch0::F=cs∧SlOwn Kd.string 9 H A0 c0 r ch0
theorem slices_Clone_string_c [Wz w0] {a0:List ByteArray} {Aa0:Option Addr} {na0 ca0:Nat} {r:List ByteArray} (hra0:Rw Kd.string H F Aa0 a0) (hca0:na0≤ca0) (hna0:na0=a0.length) (heq:slices_Clone_string.f a0=some r):CallsH Tryz.prog 12 #[.slice Aa0 na0 ca0] H w0 F (S12 F H r):=by
 refine calls_of_runH (F:=C12) Tryz.func12 (by kernel_rfl) Tryz.ntmps12 (args:=[.slice Aa0 na0 ca0]) (by kernel_rfl) ?_
 subst hna0
 unfold slices_Clone_string.f at heq
 obtain ⟨hn,heq⟩:=guard?_some heq
 obtain rfl:=Option.some.inj heq
 refine Ra 1 [0] [.c [1]]<|Rd 1 [0] [(0,.slice Aa0 a0.length ca0)]<|Ra 2 [1,0,0] [.c [1,0,1],.c [1,1]] ?_
 cases Aa0 with
 | none =>
  have h0:a0=[]:=by
   cases a0 with
   | nil=>rfl
   | cons x xs=>obtain ⟨b,off,cs,e,fr,hA,_⟩:=hra0 (by simp); cases hA
  subst h0
  refine Rd 2 [4] [(4,.bool true)]<|Ct true rfl<|Ra 1 [1,0,1,0,0] [.c [1,0,1,0,1],.c [1,1]]<|Rd 1 [2] [(2,.slice none 0 0)]<|RunH.nilc ?_
  exact RunH.done (by kernel_rfl) Tryz.func12 (v:=.slice none ([]:List ByteArray).length 0) (by kernel_rfl) ⟨none,0,none,rfl,rfl,rfl,SlOwn.nil⟩
 | some ad =>
  refine Rd 2 [0,4] [(0,.slice (some ad) a0.length ca0),(4,.bool false)]<|Cf false rfl<|Ra 2 [1,1,0] [.c [1,1,1]] ?_
  refine RgH.does (DoesH.new (d:=5) (v:=fun g=>.slice (some ⟨g,0,none⟩) 0 0) (o:=fun g=>.cells #[] 9 (0,0)) (fun g=>by kernel_rfl)) ?_
  rintro _ _ _ _ ⟨g,rfl,rfl,rfl⟩
  have ho:SlOwn Kd.string 9 H (some ⟨g,0,none⟩) 0 ([]:List ByteArray) (some (g,.cells #[] 9 (0,0))):=.inr ⟨g,0,#[],rfl,rfl,by simp,by simp [maxLen],by simp,Kd.Rep.nil⟩
  refine Rk 2 [5,6] [(5,.slice (some ⟨g,0,none⟩) 0 0),(6,.slice (some ad) a0.length ca0)] ?_
  refine RgH.does (DoesH.append (d:=7) (k:=0) (t:=38) (e:=9) (bytes:=16) (kd:=Kd.string) (n:=0) (m:=a0.length) (xs:=([]:List ByteArray)) (ys:=a0) (A:=some ⟨g,0,none⟩) (B:=some ad) (c:=0) (cB:=ca0) (by kernel_rfl) rfl rfl (by kernel_rfl) rfl ho (fun w hh=>hra0.rdb (hh.drop 1)) (room_le hn) (by have:=room_le hn; omega)) ?_
  rintro _ _ _ _ ⟨A1,c1,ch1,rfl,rfl,rfl,ho1⟩
  refine Rd 4 [2] [(2,.slice A1 (([]:List ByteArray)++a0).length c1)] ?_
  exact RunH.done (by kernel_rfl) Tryz.func12 (v:=.slice A1 (([]:List ByteArray)++a0).length c1) (by kernel_rfl) ⟨A1,c1,ch1,rfl,rfl,rfl,ho1⟩
noncomputable def C4:Ctx:={ P:=Tryz.prog,f:=4,N:=33,c:=bodyOf Tryz.f4 }
def S4 (F:List Ch) (H0:Hp) (r:Cache) (v:Value) (H:Hp) (cs:List Ch):Prop:=∃ (A0_2:Option Addr) (c0_2:Nat) (ch0_2:Ch) (A0_3:Option Addr) (c0_3:Nat) (ch0_3:Ch),v=.agg #[iv r.Room,iv r.Lease,.slice A0_2 r.Blobs.length c0_2,.slice A0_3 r.Entries.length c0_3]∧ch0_2::ch0_3::F=cs∧SlOwn kBlob 37 H A0_2 c0_2 r.Blobs ch0_2∧SlOwn kEntry 40 H A0_3 c0_3 r.Entries ch0_3
theorem smithyardref7_Copy.e1_c [Wz w0] {r:Cache}:∀ (H:Hp) (a0:Cache) (Aa0_3:Option Addr) (ca0_3 g1 g2:Nat) (y1:List Blob) (A1:Option Addr) (c1:Nat) (ch1:Ch) (v_entries3:List Entry) (Av_entries3:Option Addr) (nv_entries3 cv_entries3:Nat) (chv_entries3:Ch) ,Rw kEntry H F Aa0_3 a0.Entries→a0.Entries.length≤ca0_3→SlOwn kBlob 37 H A1 c1 y1 ch1→SlOwn kEntry 40 H Av_entries3 cv_entries3 v_entries3 chv_entries3→nv_entries3=v_entries3.length→smithyardref7_Copy.e1 a0 y1 v_entries3=some r→RunH C4 (S4 F H0 r) H0 w0 [.c [1,1,1,1,0],.c [1,1,1,1,1]] [(1,pg g1 0),(2,pg g2 0),(3,.slice Av_entries3 nv_entries3 cv_entries3)] H (chv_entries3::ch1::(some (g2,.cells #[iv 0,iv 0,.slice none 0 0,.slice none 0 0] 25 (0,0)))::(some (g1,.cells #[iv a0.Room,iv a0.Lease,.slice A1 y1.length c1,.slice Aa0_3 a0.Entries.length ca0_3] 25 (0,0)))::F):=by
 intro H a0 Aa0_3 ca0_3 g1 g2 y1 A1 c1 ch1 v_entries3 Av_entries3 nv_entries3 cv_entries3 chv_entries3 hra0_3 hca0_3 ho1 hov_entries3 hnv_entries3 heq
 subst hnv_entries3
 unfold smithyardref7_Copy.e1 at heq
 refine Sa 0<|Zk 2 ?_
 refine RgH.does (DoesH.store (k:=3) (g:=g1) (off:=3) (v:=.slice Av_entries3 v_entries3.length cv_entries3) (cells':=#[iv a0.Room,iv a0.Lease,.slice A1 y1.length c1,.slice Av_entries3 v_entries3.length cv_entries3]) (by kernel_rfl) rfl (by kernel_rfl) (by kernel_rfl)) ?_
 rintro _ _ _ _ ⟨rfl,rfl,rfl⟩
 refine Dn<|Sa 1<|Zv 1 (bxs 3) ?_
 refine RgH.does (DoesH.store (k:=2) (g:=g2) (off:=0) (v:=.agg #[iv a0.Room,iv a0.Lease,.slice A1 y1.length c1,.slice Av_entries3 v_entries3.length cv_entries3]) (cells':=#[iv a0.Room,iv a0.Lease,.slice A1 y1.length c1,.slice Av_entries3 v_entries3.length cv_entries3]) (by kernel_rfl) rfl (by kernel_rfl) (by kernel_rfl)) ?_
 rintro _ _ _ _ ⟨rfl,rfl,rfl⟩
 refine Dn ?_
 obtain rfl:=Option.some.inj heq
 refine Up 4 [2,1,0] ?_
 exact RunH.doneM' 1 (vs:=[.agg #[iv a0.Room,iv a0.Lease,.slice A1 y1.length c1,.slice Av_entries3 v_entries3.length cv_entries3]]) (v:=.agg #[iv a0.Room,iv a0.Lease,.slice A1 y1.length c1,.slice Av_entries3 v_entries3.length cv_entries3]) (by kernel_rfl) Tryz.func4 (fun w hh=>show ResAll _ _ _ [.cell 2 25] _ from ⟨⟨⟨g2,0,none⟩,by kernel_rfl,trS_run _ (vs:=[iv a0.Room,iv a0.Lease,.slice A1 y1.length c1,.slice Av_entries3 v_entries3.length cv_entries3]) (r:=[]) (es:=[.load ⟨g2,0,none⟩ (iv a0.Room),.load ⟨g2,1,none⟩ (iv a0.Lease),.load ⟨g2,2,none⟩ (.slice A1 y1.length c1),.load ⟨g2,3,none⟩ (.slice Av_entries3 v_entries3.length cv_entries3)]) (by kernel_rfl) ⟨(hh.box 0 rfl rfl),(hh.box 0 rfl rfl),(hh.box 0 rfl rfl),(hh.box 0 rfl rfl)⟩⟩,trivial⟩) rfl (cs':=ch1::chv_entries3::F) rfl ⟨A1,c1,ch1,Av_entries3,cv_entries3,chv_entries3,rfl,rfl,ho1,hov_entries3⟩
theorem smithyardref7_Copy.l2_c [Wz w0] {r:Cache} (e1:Cache→(List Blob)→(List Entry)→Option Cache)
  (he1:∀ (H:Hp) (a0:Cache) (Aa0_3:Option Addr) (ca0_3 g1 g2:Nat) (y1:List Blob) (A1:Option Addr) (c1:Nat) (ch1:Ch) (v_entries3:List Entry) (Av_entries3:Option Addr) (nv_entries3 cv_entries3:Nat) (chv_entries3:Ch) ,Rw kEntry H F Aa0_3 a0.Entries→a0.Entries.length≤ca0_3→SlOwn kBlob 37 H A1 c1 y1 ch1→SlOwn kEntry 40 H Av_entries3 cv_entries3 v_entries3 chv_entries3→nv_entries3=v_entries3.length→e1 a0 y1 v_entries3=some r→RunH C4 (S4 F H0 r) H0 w0 [.c [1,1,1,1,0],.c [1,1,1,1,1]] [(1,pg g1 0),(2,pg g2 0),(3,.slice Av_entries3 nv_entries3 cv_entries3)] H (chv_entries3::ch1::(some (g2,.cells #[iv 0,iv 0,.slice none 0 0,.slice none 0 0] 25 (0,0)))::(some (g1,.cells #[iv a0.Room,iv a0.Lease,.slice A1 y1.length c1,.slice Aa0_3 a0.Entries.length ca0_3] 25 (0,0)))::F)):∀ (k:Nat),∀ (H:Hp) (a0:Cache) (Aa0_3:Option Addr) (ca0_3 g1 g2:Nat) (y1:List Blob) (A1:Option Addr) (c1:Nat) (ch1:Ch) (v_entries3:List Entry) (Av_entries3:Option Addr) (nv_entries3 cv_entries3:Nat) (chv_entries3:Ch) (v_i4:Int) ,Rw kEntry H F Aa0_3 a0.Entries→a0.Entries.length≤ca0_3→SlOwn kBlob 37 H A1 c1 y1 ch1→SlOwn kEntry 40 H Av_entries3 cv_entries3 v_entries3 chv_entries3→nv_entries3=v_entries3.length→smithyardref7_Copy.l2 e1 k a0 y1 v_entries3 v_i4=some r→RunH C4 (S4 F H0 r) H0 w0 [.c [1,1,1,0,1,0,0],.l [1,1,1,0,1,0,0],.b 0,.c [1,1,1,1]] [(1,pg g1 0),(2,pg g2 0),(3,.slice Av_entries3 nv_entries3 cv_entries3),(4,iv v_i4)] H (chv_entries3::ch1::(some (g2,.cells #[iv 0,iv 0,.slice none 0 0,.slice none 0 0] 25 (0,0)))::(some (g1,.cells #[iv a0.Room,iv a0.Lease,.slice A1 y1.length c1,.slice Aa0_3 a0.Entries.length ca0_3] 25 (0,0)))::F):=by
 intro k
 induction k with
 | zero=>intro H a0 Aa0_3 ca0_3 g1 g2 y1 A1 c1 ch1 v_entries3 Av_entries3 nv_entries3 cv_entries3 chv_entries3 v_i4 hra0_3 hca0_3 ho1 hov_entries3 hnv_entries3 heq; exact nomatch (show (none:Option Cache)=some r from heq)
 | succ k ihk =>
  intro H a0 Aa0_3 ca0_3 g1 g2 y1 A1 c1 ch1 v_entries3 Av_entries3 nv_entries3 cv_entries3 chv_entries3 v_i4 hra0_3 hca0_3 ho1 hov_entries3 hnv_entries3 heq
  subst hnv_entries3
  rw [smithyardref7_Copy.l2] at heq
  refine Sa 2<|Zw 5 [bx 3 3] ?_
  refine Cb heq ?_ ?_
  ·intro hb1 heq
   refine Sa 4 ?_
   obtain ⟨x1,hx1,heq⟩:=bind_some heq
   obtain ⟨ha1,cs1,hK1,hcc1⟩:=hra0_3.get hx1
   obtain ⟨A2,c2,rfl,hc1,hr1⟩:=kEntry_open hK1
   refine Zv 5 ([bx 3 3,nx ha1 hx1]++ers hcc1 4) ?_
   refine RgH.does (DoesH.new (d:=5) (v:=fun g=>.pointer (some ⟨g,0,none⟩)) (o:=fun g=>.cells #[.string ByteArray.empty,.slice none 0 0,iv 0] 40 (0,0)) (fun g=>by kernel_rfl)) ?_
   rintro _ _ _ _ ⟨g3,rfl,rfl,rfl⟩
   refine RgH.does (DoesH.store (k:=0) (g:=g3) (off:=0) (v:=.agg #[.string x1.Key,.slice A2 x1.Refs.length c2,iv x1.Used]) (cells':=#[.string x1.Key,.slice A2 x1.Refs.length c2,iv x1.Used]) (by kernel_rfl) rfl (by kernel_rfl) (by kernel_rfl)) ?_
   rintro _ _ _ _ ⟨rfl,rfl,rfl⟩
   refine Dn<|Sa 1<|Zv 2 [bx 0 1] ?_
   obtain ⟨y2,hy2,heq⟩:=bind_some heq
   refine RgH.does (cal 24 (slices_Clone_string_c (a0:=x1.Refs) (Rw.of hr1) hc1 rfl hy2)) ?_
   rintro _ _ _ _ ⟨_,rfl,A3,c3,ch2,rfl,rfl,rfl,ho2⟩
   refine Zk 4 ?_
   refine RgH.does (DoesH.store (k:=1) (g:=g3) (off:=1) (v:=.slice A3 y2.length c3) (cells':=#[.string x1.Key,.slice A3 y2.length c3,iv x1.Used]) (by kernel_rfl) rfl (by kernel_rfl) (by kernel_rfl)) ?_
   rintro _ _ _ _ ⟨rfl,rfl,rfl⟩
   refine Dn<|Sa 0<|Zv 2 (bxs 1) ?_
   have hc2:=ho2.cap
   refine Hs.freezeS ho2 (fun H hl hr2=>?_)
   replace ho1:=ho1.mono hl
   replace hra0_3:=hra0_3.mono hl
   replace hov_entries3:=hov_entries3.mono hl
   refine RgH.does (DoesH.new (d:=28) (v:=fun g=>.slice (some ⟨g,0,none⟩) 1 1) (o:=fun g=>.cells #[.string x1.Key,.slice A3 y2.length c3,iv x1.Used] 40 (0,0)) (fun g=>by kernel_rfl)) ?_
   rintro _ _ _ _ ⟨g4,rfl,rfl,rfl⟩
   have ho3:SlOwn kEntry 40 H (some ⟨g4,0,none⟩) 1 ([(⟨x1.Key,y2,x1.Used⟩:Entry)]:List Entry) (some (g4,.cells #[.string x1.Key,.slice A3 y2.length c3,iv x1.Used] 40 (0,0))):=SlOwn.lit (xs:=([(⟨x1.Key,y2,x1.Used⟩:Entry)]:List Entry)) (by kernel_rfl) (Nat.le_of_ble_eq_true (by kernel_rfl)) (Kd.Rep.one (kEntry_mk hc2 hr2))
   obtain ⟨hn1,heq⟩:=guard?_some heq
   refine RgH.does (DoesH.append (d:=29) (k:=2) (t:=23) (e:=40) (bytes:=48) (kd:=kEntry) (n:=v_entries3.length) (m:=1) (xs:=v_entries3) (ys:=([(⟨x1.Key,y2,x1.Used⟩:Entry)]:List Entry)) (A:=Av_entries3) (B:=(some ⟨g4,0,none⟩)) (c:=cv_entries3) (cB:=1) (by kernel_rfl) rfl rfl (by kernel_rfl) rfl hov_entries3 (fun w hh=>ho3.rdb (hh.chin 0 rfl)) (room_le hn1) (by have:=room_le hn1; omega)) ?_
   rintro _ _ _ _ ⟨A4,c4,ch3,rfl,rfl,rfl,ho4⟩
   refine Zd 5<|Sa 1<|Zd 3<|An 1 ?_
   exact Gt 6 [2,3,4,5] (ihk _ a0 _ _ _ _ y1 _ _ _ (v_entries3++([(⟨x1.Key,y2,x1.Used⟩:Entry)]:List Entry)) _ _ _ _ (w64 (v_i4+1)) hra0_3 hca0_3 ho1 ho4 rfl heq)
  ·intro hb1 heq
   refine An 2 ?_
   exact Gt 4 [0,1,2,3] (he1 _ a0 _ _ _ _ y1 _ _ _ v_entries3 _ _ _ _ hra0_3 hca0_3 ho1 hov_entries3 rfl heq)
theorem smithyardref7_Copy_c [Wz w0] {a0:Cache} {Aa0_2:Option Addr} {na0_2 ca0_2:Nat} {Aa0_3:Option Addr} {na0_3 ca0_3:Nat} {r:Cache} (heq:smithyardref7_Copy.f a0=some r) (hra0_2:Rw kBlob H0 F Aa0_2 a0.Blobs) (hca0_2:na0_2≤ca0_2) (hna0_2:na0_2=a0.Blobs.length) (hra0_3:Rw kEntry H0 F Aa0_3 a0.Entries) (hca0_3:na0_3≤ca0_3) (hna0_3:na0_3=a0.Entries.length):CallsH Tryz.prog 4 #[.agg #[iv a0.Room,iv a0.Lease,.slice Aa0_2 na0_2 ca0_2,.slice Aa0_3 na0_3 ca0_3]] H0 w0 (F) (S4 F H0 r):=by
 refine Co C4 Tryz.func4 Tryz.ntmps4 ?_
 subst hna0_2
 subst hna0_3
 unfold smithyardref7_Copy.f at heq
 suffices key:∀ (H:Hp),Rw kBlob H F Aa0_2 a0.Blobs→Rw kEntry H F Aa0_3 a0.Entries→RunH C4 (S4 F H0 r) H0 w0 [.c []] (argL 0 [.agg #[iv a0.Room,iv a0.Lease,.slice Aa0_2 (a0.Blobs.length) ca0_2,.slice Aa0_3 (a0.Entries.length) ca0_3]]) H (F) from key H0 hra0_2 hra0_3
 intro H hra0_2 hra0_3
 refine Sa 1 ?_
 refine RgH.does (DoesH.new (d:=1) (v:=fun g=>.pointer (some ⟨g,0,none⟩)) (o:=fun g=>.cells #[iv a0.Room,iv a0.Lease,.slice Aa0_2 a0.Blobs.length ca0_2,.slice Aa0_3 a0.Entries.length ca0_3] 25 (0,0)) (fun g=>by kernel_rfl)) ?_
 rintro _ _ _ _ ⟨g1,rfl,rfl,rfl⟩
 refine RgH.does (DoesH.new (d:=2) (v:=fun g=>.pointer (some ⟨g,0,none⟩)) (o:=fun g=>.cells #[iv 0,iv 0,.slice none 0 0,.slice none 0 0] 25 (0,0)) (fun g=>by kernel_rfl)) ?_
 rintro _ _ _ _ ⟨g2,rfl,rfl,rfl⟩
 refine Dn<|Sa 1<|Zv 2 [bx 1 2] ?_
 obtain ⟨y1,hy1,heq⟩:=bind_some heq
 refine RgH.does (cal 8 (slices_Clone_Blob_c (a0:=a0.Blobs) (hra0_2.wk (fun _ h=>(.tail _ (.tail _ h)))) hca0_2 rfl hy1)) ?_
 rintro _ _ _ _ ⟨_,rfl,A1,c1,ch1,rfl,rfl,rfl,ho1⟩
 refine Zk 4 ?_
 refine RgH.does (DoesH.store (k:=2) (g:=g1) (off:=2) (v:=.slice A1 y1.length c1) (cells':=#[iv a0.Room,iv a0.Lease,.slice A1 y1.length c1,.slice Aa0_3 a0.Entries.length ca0_3]) (by kernel_rfl) rfl (by kernel_rfl) (by kernel_rfl)) ?_
 rintro _ _ _ _ ⟨rfl,rfl,rfl⟩
 refine Dn<|Sa 1<|Zd 1<|Sa 2<|Zd 1<|An 2<|RunH.nilc ?_
 have ho5:SlOwn kEntry 40 H none 0 ([]:List Entry) none:=SlOwn.nil
 exact Gt 4 [0,1,2,3] (((smithyardref7_Copy.l2_c (e1:=smithyardref7_Copy.e1) (smithyardref7_Copy.e1_c)) big) _ a0 _ _ _ _ y1 _ _ _ ([]:List Entry) _ _ _ _ 0 hra0_3 hca0_3 ho1 ho5 rfl heq)
noncomputable def C26:Ctx:={ P:=Tryz.prog,f:=26,N:=15,c:=bodyOf Tryz.f26 }
def S26 (F:List Ch) (H0:Hp) (r:Bool) (v:Value) (H:Hp) (cs:List Ch):Prop:=H0=H∧v=.bool r∧F=cs
theorem cache_within_c [Wz w0] {a0 a1 a2:Int} {r:Bool} (heq:cache_within.f a0 a1 a2=some r):CallsH Tryz.prog 26 #[iv a0,iv a1,iv a2] H w0 (F) (S26 F H r):=by
 refine Co C26 Tryz.func26 Tryz.ntmps26 ?_
 unfold cache_within.f at heq
 refine Sa 1<|Zd 1<|An 1 ?_
 obtain ⟨t1,ht1,heq⟩:=bind_some heq
 have K1:RunH C26 (S26 F H r) H w0 [.c [1,1]] [(6,.bool t1)] H (F):=by
  obtain rfl:=Option.some.inj heq
  exact RunH.done (by kernel_rfl) Tryz.func26 (v:=.bool t1) (by kernel_rfl) ⟨rfl,rfl,rfl⟩
 replace heq:=ht1
 refine Sa 0<|Zk 4 ?_
 rcases bool_cases (decide (a1≤a0)) with hb1 | hb1
 ·replace heq:=bif_true hb1 heq
  refine Zs 10 (congrArg Value.bool hb1)<|Zk 9 ?_
  obtain rfl:=Option.some.inj heq
  refine Dn ?_
  exact Gt 0 [] (K1)
 ·replace heq:=bif_false hb1 heq
  refine Zs 10 (congrArg Value.bool hb1)<|Zk 9 ?_
  obtain rfl:=Option.some.inj heq
  refine Dn ?_
  exact Gt 0 [] (K1)
def S43 (F:List Ch) (H0:Hp) (r:ByteArray) (v:Value) (H:Hp) (cs:List Ch):Prop:=H0=H∧v=.string r∧F=cs
theorem strings_Trim_c [Wz w0] {a0:ByteArray} {a1:ByteArray} {r:ByteArray} (heq:strings_Trim.f a0 a1=some r):CallsH Tryz.prog 43 #[.string a0,.string a1] H w0 F (S43 F H r):=by
 intro w hh
 unfold strings_Trim.f at heq
 obtain ⟨hn,heq⟩:=guard?_some heq
 obtain rfl:=Option.some.inj heq
 refine (Shelf.Tryz.strings_Trim a0 a1 w (by simp at hn; exact hn.1) (by simp at hn; exact hn.2.1) (by have h:=hn; rw [Bool.and_eq_true,Bool.and_eq_true] at h; exact ascii_of_all h.2.2)).mono ?_
 rintro e w' ⟨rfl,hx⟩
 exact ⟨_,rfl,H,F,Le.refl H,hh.later hx,rfl,rfl,rfl⟩
noncomputable def C28:Ctx:={ P:=Tryz.prog,f:=28,N:=11,c:=bodyOf Tryz.f28 }
def S28 (F:List Ch) (H0:Hp) (r:Bool) (v:Value) (H:Hp) (cs:List Ch):Prop:=H0=H∧v=.bool r∧F=cs
theorem blob_IsDigest_c [Wz w0] {a0:ByteArray} {r:Bool} (heq:blob_IsDigest.f a0=some r):CallsH Tryz.prog 28 #[.string a0] H w0 (F) (S28 F H r):=by
 refine Co C28 Tryz.func28 Tryz.ntmps28 ?_
 unfold blob_IsDigest.f at heq
 refine Sa 1<|Zd 1<|An 1 ?_
 obtain ⟨t1,ht1,heq⟩:=bind_some heq
 have K1:RunH C28 (S28 F H r) H w0 [.c [1,1]] [(2,.bool t1)] H (F):=by
  obtain rfl:=Option.some.inj heq
  exact RunH.done (by kernel_rfl) Tryz.func28 (v:=.bool t1) (by kernel_rfl) ⟨rfl,rfl,rfl⟩
 replace heq:=ht1
 refine Sa 0<|Zk 4 ?_
 rcases bool_cases ((a0.size:Int) == 16) with hb1 | hb1
 ·replace heq:=bif_true hb1 heq
  refine Zs 6 (congrArg Value.bool hb1)<|Zk 5 ?_
  obtain ⟨y1,hy1,heq⟩:=bind_some heq
  refine RgH.does (cal 8 (strings_Trim_c (a0:=a0) (a1:=({ data:=#[48,49,50,51,52,53,54,55,56,57,97,98,99,100,101,102] }:ByteArray))  hy1)) ?_
  rintro _ _ _ _ ⟨_,rfl,rfl,rfl,rfl⟩
  refine Zk 9 ?_
  obtain rfl:=Option.some.inj heq
  refine Dn ?_
  exact Gt 0 [] (K1)
 ·replace heq:=bif_false hb1 heq
  refine Zs 6 (congrArg Value.bool hb1)<|Zk 9 ?_
  obtain rfl:=Option.some.inj heq
  refine Dn ?_
  exact Gt 0 [] (K1)
noncomputable def C30:Ctx:={ P:=Tryz.prog,f:=30,N:=5,c:=bodyOf Tryz.f30 }
def S30 (F:List Ch) (H0:Hp) (r:Bool) (v:Value) (H:Hp) (cs:List Ch):Prop:=H0=H∧v=.bool r∧F=cs
theorem cache_isMoment_c [Wz w0] {a0:Int} {r:Bool} (heq:cache_isMoment.f a0=some r):CallsH Tryz.prog 30 #[iv a0] H w0 (F) (S30 F H r):=by
 refine Co C30 Tryz.func30 Tryz.ntmps30 ?_
 unfold cache_isMoment.f at heq
 refine Sa 1<|Zd 1<|Sa 1<|Zk 1 ?_
 obtain ⟨y1,hy1,heq⟩:=bind_some heq
 refine RgH.does (cal 4 (cache_within_c hy1 )) ?_
 rintro _ _ _ _ ⟨_,rfl,rfl,rfl,rfl⟩
 refine Zd 3 ?_
 obtain rfl:=Option.some.inj heq
 exact RunH.done (by kernel_rfl) Tryz.func30 (v:=.bool y1) (by kernel_rfl) ⟨rfl,rfl,rfl⟩
noncomputable def C27:Ctx:={ P:=Tryz.prog,f:=27,N:=68,c:=bodyOf Tryz.f27 }
def S27 (F:List Ch) (H0:Hp) (r:Int) (v:Value) (H:Hp) (cs:List Ch):Prop:=H0=H∧v=iv r∧F=cs
theorem cache_checkBlobs.e1_c [Wz w0] {r:Int}:∀ (a1 v_sum5:Int) ,cache_checkBlobs.e1 a1 v_sum5=some r→RunH C27 (S27 F H r) H w0 [.c [1,1,1,1,0,0],.c [1,1,1,1,0,1],.c [1,1,1,1,1]] [(1,iv a1),(5,iv v_sum5)] H (F):=by
 intro a1 v_sum5  heq
 unfold cache_checkBlobs.e1 at heq
 refine Sa 0<|Zd 3 ?_
 refine Cb heq ?_ ?_
 ·intro hb2 heq
  refine Sa 1<|Zd 1 ?_
  obtain rfl:=Option.some.inj heq
  exact RunH.done (by kernel_rfl) Tryz.func27 (v:=iv 16) (by kernel_rfl) ⟨rfl,rfl,rfl⟩
 ·intro hb2 heq
  refine Sa 2<|Zd 1 ?_
  obtain rfl:=Option.some.inj heq
  exact RunH.done (by kernel_rfl) Tryz.func27 (v:=iv 0) (by kernel_rfl) ⟨rfl,rfl,rfl⟩
theorem cache_checkBlobs.l2_c [Wz w0] {r:Int} (e1:Int→Int→Option Int)
  (he1:∀ (a1 v_sum5:Int) ,e1 a1 v_sum5=some r→RunH C27 (S27 F H r) H w0 [.c [1,1,1,1,0,0],.c [1,1,1,1,0,1],.c [1,1,1,1,1]] [(1,iv a1),(5,iv v_sum5)] H (F)):∀ (k:Nat),∀ (a0:List Blob) (Aa0:Option Addr) (ca0:Nat) (a1 v_sum5 v13:Int) ,Rw kBlob H F Aa0 a0→a0.length≤ca0→cache_checkBlobs.l2 e1 k a0 a1 v_sum5 v13=some r→RunH C27 (S27 F H r) H w0 [.c [1,1,1,0,1,0,0],.l [1,1,1,0,1,0,0],.b 0,.c [1,1,1,1]] [(0,.slice Aa0 a0.length ca0),(1,iv a1),(5,iv v_sum5),(11,.slice Aa0 a0.length ca0),(12,iv (a0.length:Int)),(13,iv v13)] H (F):=by
 intro k
 induction k with
 | zero=>intro a0 Aa0 ca0 a1 v_sum5 v13 hra0 hca0 heq; exact nomatch (show (none:Option Int)=some r from heq)
 | succ k ihk =>
  intro a0 Aa0 ca0 a1 v_sum5 v13 hra0 hca0 heq
  rw [cache_checkBlobs.l2] at heq
  refine Sa 1<|Zd 1<|An 1 ?_
  refine Cb heq ?_ ?_
  ·intro hb3 heq
   refine Sa 4 ?_
   obtain ⟨x1,hx1,heq⟩:=bind_some heq
   obtain ⟨ha1,cs1,hK1,hcc1⟩:=hra0.get hx1
   obtain ⟨rfl⟩:=kBlob_open hK1
   refine Zv 3 ([nx ha1 hx1]++ers hcc1 0) ?_
   refine RgH.does (DoesH.new (d:=7) (v:=fun g=>.pointer (some ⟨g,0,none⟩)) (o:=fun g=>.cells #[.string ByteArray.empty,iv 0,iv 0,iv 0,iv 0] 37 (0,0)) (fun g=>by kernel_rfl)) ?_
   rintro _ _ _ _ ⟨g1,rfl,rfl,rfl⟩
   refine Zk 5 ?_
   refine RgH.does (DoesH.store (k:=0) (g:=g1) (off:=0) (v:=.agg #[.string x1.Digest,iv x1.Size,iv x1.Used,iv x1.Until,iv x1.Pins]) (cells':=#[.string x1.Digest,iv x1.Size,iv x1.Used,iv x1.Until,iv x1.Pins]) (by kernel_rfl) rfl (by kernel_rfl) (by kernel_rfl)) ?_
   rintro _ _ _ _ ⟨rfl,rfl,rfl⟩
   refine Dn<|Sa 3<|Zv 2 [bx 0 0] ?_
   obtain ⟨y1,hy1,heq⟩:=bind_some heq
   refine RgH.does (cal 21 (blob_IsDigest_c hy1 )) ?_
   rintro _ _ _ _ ⟨_,rfl,rfl,rfl,rfl⟩
   refine Zd 5 ?_
   refine Cb heq ?_ ?_
   ·intro hb4 heq
    refine Sa 1<|Zd 1 ?_
    obtain rfl:=Option.some.inj heq
    refine Up 1 [] ?_
    exact RunH.done (by kernel_rfl) Tryz.func27 (v:=iv 3) (by kernel_rfl) ⟨rfl,rfl,rfl⟩
   ·intro hb4 heq
    refine An 1 ?_
    obtain ⟨t1,ht1,heq⟩:=bind_some heq
    have K2:RunH C27 (S27 F H r) H w0 [.c [1,1,1,0,1,0,0,1,1,0,0,1,0,0,1,1,1],.b 2,.c [1,1,1,0,1,0,0,1,1,0,0,1,1],.b 1,.c [1,1,1,0,1,0,0,1,1,1],.l [1,1,1,0,1,0,0],.b 0,.c [1,1,1,1]] [(0,.slice Aa0 a0.length ca0),(1,iv a1),(5,iv v_sum5),(6,iv v13),(7,pg g1 0),(11,.slice Aa0 a0.length ca0),(12,iv (a0.length:Int)),(13,iv v13),(23,.bool t1)] H ((some (g1,.cells #[.string x1.Digest,iv x1.Size,iv x1.Used,iv x1.Until,iv x1.Pins] 37 (0,0)))::F):=by
     refine Cb heq ?_ ?_
     ·intro hb8 heq
      refine Sa 1<|Zd 1 ?_
      obtain rfl:=Option.some.inj heq
      refine Up 1 [] ?_
      exact RunH.done (by kernel_rfl) Tryz.func27 (v:=iv 1) (by kernel_rfl) ⟨rfl,rfl,rfl⟩
     ·intro hb8 heq
      refine An 1 ?_
      obtain ⟨t2,ht2,heq⟩:=bind_some heq
      have K3:RunH C27 (S27 F H r) H w0 [.c [1,1,1,0,1,0,0,1,1,0,0,1,0,0,1,1,1,1,1],.b 2,.c [1,1,1,0,1,0,0,1,1,0,0,1,1],.b 1,.c [1,1,1,0,1,0,0,1,1,1],.l [1,1,1,0,1,0,0],.b 0,.c [1,1,1,1]] [(0,.slice Aa0 a0.length ca0),(1,iv a1),(5,iv v_sum5),(7,pg g1 0),(11,.slice Aa0 a0.length ca0),(12,iv (a0.length:Int)),(13,iv v13),(46,.bool t2)] H ((some (g1,.cells #[.string x1.Digest,iv x1.Size,iv x1.Used,iv x1.Until,iv x1.Pins] 37 (0,0)))::F):=by
       refine Cb heq ?_ ?_
       ·intro hb10 heq
        refine Sa 1<|Zd 1 ?_
        obtain rfl:=Option.some.inj heq
        refine Up 1 [] ?_
        exact RunH.done (by kernel_rfl) Tryz.func27 (v:=iv 8) (by kernel_rfl) ⟨rfl,rfl,rfl⟩
       ·intro hb10 heq
        refine Sa 2<|Zw 5 [bx 0 1]<|Sa 1<|Zd 2<|An 1 ?_
        exact Gt 1 [] (ihk a0 _ _ a1 (w64 (v_sum5+x1.Size)) (w64 (v13+1)) hra0 hca0 heq)
      replace heq:=ht2
      refine Sd 1 14 [0] [3,3,3,3,3,3,3,3,3,3,3,3,3,3]<|Zr [0,1,2] 11 [] (Pk 1 [0]) (Pk 1 [0]) ?_
      rcases bool_cases (decide (0<v13)) with hb9 | hb9
      ·replace heq:=bif_true hb9 heq
       refine Zu 49 (congrArg Value.bool hb9) ?_
       obtain ⟨x2,hx2,heq⟩:=bind_some heq
       obtain ⟨ha2,cs2,hK2,hcc2⟩:=hra0.get hx2
       obtain ⟨rfl⟩:=kBlob_open hK2
       refine Zr [3,4,5,6,7,8,9,10,11,12,13] 0 [bx 0 0,nx ha2 hx2,er hcc2 1 0] (Pk 1 [0]) (Pk 1 [0]) ?_
       obtain rfl:=Option.some.inj heq
       refine DrH.done (by kernel_rfl) ?_
       exact Gt 1 [0] (K3)
      ·replace heq:=bif_false hb9 heq
       refine Zu 49 (congrArg Value.bool hb9)<|Zr [3,4,5,6,7,8,9,10,11,12,13] 0 [] (Pk 1 [0]) (Pk 1 [0]) ?_
       obtain rfl:=Option.some.inj heq
       refine DrH.done (by kernel_rfl) ?_
       exact Gt 1 [0] (K3)
    replace heq:=ht1
    refine Sa 0<|Zv 2 [bx 0 1] ?_
    obtain ⟨y2,hy2,heq⟩:=bind_some heq
    refine RgH.does (cal 26 (cache_within_c hy2 )) ?_
    rintro _ _ _ _ ⟨_,rfl,rfl,rfl,rfl⟩
    refine Zk 5 ?_
    rcases bool_cases (!y2) with hb5 | hb5
    ·replace heq:=bif_true hb5 heq
     refine Zs 28 (congrArg Value.bool hb5)<|Zk 23 ?_
     obtain rfl:=Option.some.inj heq
     refine Dn ?_
     exact Gt 1 [0] (K2)
    ·replace heq:=bif_false hb5 heq
     refine Zs 28 (congrArg Value.bool hb5)<|Zv 7 [bx 0 2] ?_
     obtain ⟨y3,hy3,heq⟩:=bind_some heq
     refine RgH.does (cal 31 (cache_isMoment_c hy3 )) ?_
     rintro _ _ _ _ ⟨_,rfl,rfl,rfl,rfl⟩
     refine Zk 11 ?_
     rcases bool_cases (!y3) with hb6 | hb6
     ·replace heq:=bif_true hb6 heq
      refine Zs 34 (congrArg Value.bool hb6)<|Zk 23 ?_
      obtain rfl:=Option.some.inj heq
      refine Dn ?_
      exact Gt 1 [0] (K2)
     ·replace heq:=bif_false hb6 heq
      refine Zs 34 (congrArg Value.bool hb6)<|Zv 13 [bx 0 3] ?_
      obtain ⟨y4,hy4,heq⟩:=bind_some heq
      refine RgH.does (cal 37 (cache_within_c hy4 )) ?_
      rintro _ _ _ _ ⟨_,rfl,rfl,rfl,rfl⟩
      refine Zk 17 ?_
      rcases bool_cases (!y4) with hb7 | hb7
      ·replace heq:=bif_true hb7 heq
       refine Zs 40 (congrArg Value.bool hb7)<|Zk 23 ?_
       obtain rfl:=Option.some.inj heq
       refine Dn ?_
       exact Gt 1 [0] (K2)
      ·replace heq:=bif_false hb7 heq
       refine Zs 40 (congrArg Value.bool hb7)<|Zv 19 [bx 0 4] ?_
       obtain ⟨y5,hy5,heq⟩:=bind_some heq
       refine RgH.does (cal 43 (cache_within_c hy5 )) ?_
       rintro _ _ _ _ ⟨_,rfl,rfl,rfl,rfl⟩
       refine Zk 23 ?_
       obtain rfl:=Option.some.inj heq
       refine Dn ?_
       exact Gt 1 [0] (K2)
  ·intro hb3 heq
   refine An 3 ?_
   exact Gt 0 [] (he1 a1 v_sum5 heq)
theorem cache_checkBlobs_c [Wz w0] {a0:List Blob} {Aa0:Option Addr} {na0 ca0:Nat} {a1:Int} {r:Int} (heq:cache_checkBlobs.f a0 a1=some r) (hra0:Rw kBlob H F Aa0 a0) (hca0:na0≤ca0) (hna0:na0=a0.length):CallsH Tryz.prog 27 #[.slice Aa0 na0 ca0,iv a1] H w0 (F) (S27 F H r):=by
 refine Co C27 Tryz.func27 Tryz.ntmps27 ?_
 subst hna0
 unfold cache_checkBlobs.f at heq
 refine Sa 1<|Zd 1<|Sa 2<|Zd 3 ?_
 refine Cb heq ?_ ?_
 ·intro hb1 heq
  refine Sa 1<|Zd 1 ?_
  obtain rfl:=Option.some.inj heq
  exact RunH.done (by kernel_rfl) Tryz.func27 (v:=iv 2) (by kernel_rfl) ⟨rfl,rfl,rfl⟩
 ·intro hb1 heq
  refine Sa 2<|Zd 1<|Sa 2<|Zd 3<|An 2 ?_
  exact Gt 0 [] (((cache_checkBlobs.l2_c (e1:=cache_checkBlobs.e1) (cache_checkBlobs.e1_c)) big) a0 _ _ a1 0 0 hra0 hca0 heq)
noncomputable def C29:Ctx:={ P:=Tryz.prog,f:=29,N:=33,c:=bodyOf Tryz.f29 }
def S29 (F:List Ch) (H0:Hp) (r:Int) (v:Value) (H:Hp) (cs:List Ch):Prop:=H0=H∧v=iv r∧F=cs
theorem cache_checkDigests.e1_c [Wz w0] {r:Int}:cache_checkDigests.e1=some r→RunH C29 (S29 F H r) H w0 [.c [1,1,1,0],.c [1,1,1,1]] [] H (F):=by
 intro   heq
 unfold cache_checkDigests.e1 at heq
 refine Sa 0<|Zd 1 ?_
 obtain rfl:=Option.some.inj heq
 exact RunH.done (by kernel_rfl) Tryz.func29 (v:=iv 0) (by kernel_rfl) ⟨rfl,rfl,rfl⟩
theorem cache_checkDigests.l2_c [Wz w0] {r:Int} (e1:Option Int)
  (he1:e1=some r→RunH C29 (S29 F H r) H w0 [.c [1,1,1,0],.c [1,1,1,1]] [] H (F)):∀ (k:Nat),∀ (a0:List ByteArray) (Aa0:Option Addr) (ca0:Nat) (v13:Int) ,Rw Kd.string H F Aa0 a0→a0.length≤ca0→cache_checkDigests.l2 e1 k a0 v13=some r→RunH C29 (S29 F H r) H w0 [.c [1,1,0,1,0,0],.l [1,1,0,1,0,0],.b 0,.c [1,1,1]] [(0,.slice Aa0 a0.length ca0),(11,.slice Aa0 a0.length ca0),(12,iv (a0.length:Int)),(13,iv v13)] H (F):=by
 intro k
 induction k with
 | zero=>intro a0 Aa0 ca0 v13 hra0 hca0 heq; exact nomatch (show (none:Option Int)=some r from heq)
 | succ k ihk =>
  intro a0 Aa0 ca0 v13 hra0 hca0 heq
  rw [cache_checkDigests.l2] at heq
  refine Sa 1<|Zd 1<|An 1 ?_
  refine Cb heq ?_ ?_
  ·intro hb2 heq
   refine Sa 4 ?_
   obtain ⟨x1,hx1,heq⟩:=bind_some heq
   obtain ⟨ha1,cs1,hK1,hcc1⟩:=hra0.get hx1
   obtain rfl:cs1=[.string x1]:=hK1
   refine Zw 5 [nx ha1 hx1,er hcc1 0 0]<|Sa 2<|Zk 1 ?_
   obtain ⟨y1,hy1,heq⟩:=bind_some heq
   refine RgH.does (cal 19 (blob_IsDigest_c hy1 )) ?_
   rintro _ _ _ _ ⟨_,rfl,rfl,rfl,rfl⟩
   refine Zd 3 ?_
   refine Cb heq ?_ ?_
   ·intro hb3 heq
    refine Sa 1<|Zd 1 ?_
    obtain rfl:=Option.some.inj heq
    exact RunH.done (by kernel_rfl) Tryz.func29 (v:=iv 3) (by kernel_rfl) ⟨rfl,rfl,rfl⟩
   ·intro hb3 heq
    refine An 2 ?_
    obtain ⟨t1,ht1,heq⟩:=bind_some heq
    have K1:RunH C29 (S29 F H r) H w0 [.c [1,1,0,1,0,0,1,1,0,0,1,1,1],.b 1,.c [1,1,0,1,0,0,1,1,1],.l [1,1,0,1,0,0],.b 0,.c [1,1,1]] [(0,.slice Aa0 a0.length ca0),(11,.slice Aa0 a0.length ca0),(12,iv (a0.length:Int)),(13,iv v13),(31,.bool t1)] H (F):=by
     refine Cb heq ?_ ?_
     ·intro hb5 heq
      refine Sa 1<|Zd 1 ?_
      obtain rfl:=Option.some.inj heq
      exact RunH.done (by kernel_rfl) Tryz.func29 (v:=iv 8) (by kernel_rfl) ⟨rfl,rfl,rfl⟩
     ·intro hb5 heq
      refine Sa 2<|Zd 2<|An 1 ?_
      exact Gt 0 [] (ihk a0 _ _ (w64 (v13+1)) hra0 hca0 heq)
    replace heq:=ht1
    refine Sa 0<|Zk 3 ?_
    rcases bool_cases (decide (0<v13)) with hb4 | hb4
    ·replace heq:=bif_true hb4 heq
     refine Zs 23 (congrArg Value.bool hb4) ?_
     obtain ⟨x2,hx2,heq⟩:=bind_some heq
     obtain ⟨ha2,cs2,hK2,hcc2⟩:=hra0.get hx2
     obtain rfl:cs2=[.string x2]:=hK2
     refine Zv 11 [nx ha2 hx2,er hcc2 0 0] ?_
     obtain rfl:=Option.some.inj heq
     refine Dn ?_
     exact Gt 0 [] (K1)
    ·replace heq:=bif_false hb4 heq
     refine Zs 23 (congrArg Value.bool hb4)<|Zk 11 ?_
     obtain rfl:=Option.some.inj heq
     refine Dn ?_
     exact Gt 0 [] (K1)
  ·intro hb2 heq
   refine An 2 ?_
   exact Gt 0 [] (he1 heq)
theorem cache_checkDigests_c [Wz w0] {a0:List ByteArray} {Aa0:Option Addr} {na0 ca0:Nat} {a1:Int} {r:Int} (heq:cache_checkDigests.f a0 a1=some r) (hra0:Rw Kd.string H F Aa0 a0) (hca0:na0≤ca0) (hna0:na0=a0.length):CallsH Tryz.prog 29 #[.slice Aa0 na0 ca0,iv a1] H w0 (F) (S29 F H r):=by
 refine Co C29 Tryz.func29 Tryz.ntmps29 ?_
 subst hna0
 unfold cache_checkDigests.f at heq
 refine Sa 1<|Zd 1<|Sa 2<|Zd 4 ?_
 refine Cb heq ?_ ?_
 ·intro hb1 heq
  refine Sa 1<|Zd 1 ?_
  obtain rfl:=Option.some.inj heq
  exact RunH.done (by kernel_rfl) Tryz.func29 (v:=iv 2) (by kernel_rfl) ⟨rfl,rfl,rfl⟩
 ·intro hb1 heq
  refine Sa 3<|Zd 3<|An 2 ?_
  exact Gt 0 [] (((cache_checkDigests.l2_c (e1:=cache_checkDigests.e1) (cache_checkDigests.e1_c)) big) a0 _ _ 0 hra0 hca0 heq)
noncomputable def C13:Ctx:={ P:=Tryz.prog,f:=13,N:=66,c:=bodyOf Tryz.f13 }
def S13 (F:List Ch) (H0:Hp) (r:Int) (v:Value) (H:Hp) (cs:List Ch):Prop:=H0=H∧v=iv r∧F=cs
theorem cache_CheckCache.e1_c [Wz w0] {r:Int}:cache_CheckCache.e1=some r→RunH C13 (S13 F H r) H w0 [.c [1,1,1,1,1,0],.c [1,1,1,1,1,1]] [] H (F):=by
 intro   heq
 unfold cache_CheckCache.e1 at heq
 refine Sa 0<|Zd 1 ?_
 obtain rfl:=Option.some.inj heq
 exact RunH.done (by kernel_rfl) Tryz.func13 (v:=iv 0) (by kernel_rfl) ⟨rfl,rfl,rfl⟩
theorem cache_CheckCache.l2_c [Wz w0] {r:Int} (e1:Option Int)
  (he1:e1=some r→RunH C13 (S13 F H r) H w0 [.c [1,1,1,1,1,0],.c [1,1,1,1,1,1]] [] H (F)):∀ (k:Nat),∀ (a0:Cache) (Aa0_2:Option Addr) (ca0_2:Nat) (Aa0_3:Option Addr) (ca0_3 g1:Nat) (v32:Int) ,Rw kBlob H F Aa0_2 a0.Blobs→a0.Blobs.length≤ca0_2→Rw kEntry H F Aa0_3 a0.Entries→a0.Entries.length≤ca0_3→cache_CheckCache.l2 e1 k a0 v32=some r→RunH C13 (S13 F H r) H w0 [.c [1,1,1,1,0,1,0,0],.l [1,1,1,1,0,1,0,0],.b 0,.c [1,1,1,1,1]] [(1,pg g1 0),(30,.slice Aa0_3 a0.Entries.length ca0_3),(31,iv (a0.Entries.length:Int)),(32,iv v32)] H ((some (g1,.cells #[iv a0.Room,iv a0.Lease,.slice Aa0_2 a0.Blobs.length ca0_2,.slice Aa0_3 a0.Entries.length ca0_3] 25 (0,0)))::F):=by
 intro k
 induction k with
 | zero=>intro a0 Aa0_2 ca0_2 Aa0_3 ca0_3 g1 v32 hra0_2 hca0_2 hra0_3 hca0_3 heq; exact nomatch (show (none:Option Int)=some r from heq)
 | succ k ihk =>
  intro a0 Aa0_2 ca0_2 Aa0_3 ca0_3 g1 v32 hra0_2 hca0_2 hra0_3 hca0_3 heq
  rw [cache_CheckCache.l2] at heq
  refine Sa 1<|Zd 1<|An 1 ?_
  refine Cb heq ?_ ?_
  ·intro hb5 heq
   refine Sa 4 ?_
   obtain ⟨x1,hx1,heq⟩:=bind_some heq
   obtain ⟨ha1,cs1,hK1,hcc1⟩:=hra0_3.get hx1
   obtain ⟨A1,c1,rfl,hc1,hr1⟩:=kEntry_open hK1
   refine Zv 3 ([nx ha1 hx1]++ers hcc1 1) ?_
   refine RgH.does (DoesH.new (d:=5) (v:=fun g=>.pointer (some ⟨g,0,none⟩)) (o:=fun g=>.cells #[.string ByteArray.empty,.slice none 0 0,iv 0] 40 (0,0)) (fun g=>by kernel_rfl)) ?_
   rintro _ _ _ _ ⟨g2,rfl,rfl,rfl⟩
   refine Zk 5 ?_
   refine RgH.does (DoesH.store (k:=0) (g:=g2) (off:=0) (v:=.agg #[.string x1.Key,.slice A1 x1.Refs.length c1,iv x1.Used]) (cells':=#[.string x1.Key,.slice A1 x1.Refs.length c1,iv x1.Used]) (by kernel_rfl) rfl (by kernel_rfl) (by kernel_rfl)) ?_
   rintro _ _ _ _ ⟨rfl,rfl,rfl⟩
   refine Dn<|Sa 2<|Zv 2 [bx 0 0] ?_
   obtain ⟨y4,hy4,heq⟩:=bind_some heq
   refine RgH.does (cal 39 (blob_IsDigest_c hy4 )) ?_
   rintro _ _ _ _ ⟨_,rfl,rfl,rfl,rfl⟩
   refine Zd 4 ?_
   refine Cb heq ?_ ?_
   ·intro hb6 heq
    refine Sa 1<|Zd 1 ?_
    obtain rfl:=Option.some.inj heq
    refine Up 2 [] ?_
    exact RunH.done (by kernel_rfl) Tryz.func13 (v:=iv 3) (by kernel_rfl) ⟨rfl,rfl,rfl⟩
   ·intro hb6 heq
    refine Sa 3<|Zv 2 [bx 0 1] ?_
    obtain ⟨y5,hy5,heq⟩:=bind_some heq
    refine RgH.does (cal 43 (cache_checkDigests_c hy5 (Rw.of hr1) hc1 rfl)) ?_
    rintro _ _ _ _ ⟨_,rfl,rfl,rfl,rfl⟩
    refine Zd 4<|Sa 1<|Zd 2 ?_
    refine Cb heq ?_ ?_
    ·intro hb7 heq
     refine Sa 1<|Zd 2 ?_
     obtain rfl:=Option.some.inj heq
     refine Up 2 [] ?_
     exact RunH.done (by kernel_rfl) Tryz.func13 (v:=iv y5) (by kernel_rfl) ⟨rfl,rfl,rfl⟩
    ·intro hb7 heq
     refine Sa 3<|Zv 2 [bx 0 2] ?_
     obtain ⟨y6,hy6,heq⟩:=bind_some heq
     refine RgH.does (cal 49 (cache_isMoment_c hy6 )) ?_
     rintro _ _ _ _ ⟨_,rfl,rfl,rfl,rfl⟩
     refine Zd 4 ?_
     refine Cb heq ?_ ?_
     ·intro hb8 heq
      refine Sa 1<|Zd 1 ?_
      obtain rfl:=Option.some.inj heq
      refine Up 2 [] ?_
      exact RunH.done (by kernel_rfl) Tryz.func13 (v:=iv 1) (by kernel_rfl) ⟨rfl,rfl,rfl⟩
     ·intro hb8 heq
      refine An 2 ?_
      obtain ⟨t2,ht2,heq⟩:=bind_some heq
      have K4:RunH C13 (S13 F H r) H w0 [.c [1,1,1,1,0,1,0,0,1,1,0,0,1,1,1,1,1],.b 1,.c [1,1,1,1,0,1,0,0,1,1,1],.l [1,1,1,1,0,1,0,0],.b 0,.c [1,1,1,1,1]] [(1,pg g1 0),(30,.slice Aa0_3 a0.Entries.length ca0_3),(31,iv (a0.Entries.length:Int)),(32,iv v32),(64,.bool t2)] H ((some (g1,.cells #[iv a0.Room,iv a0.Lease,.slice Aa0_2 a0.Blobs.length ca0_2,.slice Aa0_3 a0.Entries.length ca0_3] 25 (0,0)))::F):=by
       refine Cb heq ?_ ?_
       ·intro hb10 heq
        refine Sa 1<|Zd 1 ?_
        obtain rfl:=Option.some.inj heq
        refine Up 1 [] ?_
        exact RunH.done (by kernel_rfl) Tryz.func13 (v:=iv 8) (by kernel_rfl) ⟨rfl,rfl,rfl⟩
       ·intro hb10 heq
        refine Sa 2<|Zd 2<|An 1 ?_
        exact Gt 1 [0] (ihk a0 _ _ _ _ _ (w64 (v32+1)) hra0_2 hca0_2 hra0_3 hca0_3 heq)
      replace heq:=ht2
      refine Sd 2 14 [0,1] [3,3,3,3,3,3,3,3,3,3,3,3,3,3]<|Zr [0,1,2] 11 [] (Pk 2 [0,1]) (Pk 2 [0,1]) ?_
      rcases bool_cases (decide (0<v32)) with hb9 | hb9
      ·replace heq:=bif_true hb9 heq
       refine Zu 53 (congrArg Value.bool hb9) ?_
       obtain ⟨x2,hx2,heq⟩:=bind_some heq
       obtain ⟨ha2,cs2,hK2,hcc2⟩:=hra0_3.get hx2
       obtain ⟨A2,c2,rfl,hc2,hr2⟩:=kEntry_open hK2
       refine Zr [3,4,5,6,7,8,9,10,11,12,13] 0 [bx 0 0,bx 1 3,nx ha2 hx2,er hcc2 2 0] (Pk 2 [0,1]) (Pk 2 [0,1]) ?_
       obtain rfl:=Option.some.inj heq
       refine DrH.done (by kernel_rfl) ?_
       exact Gt 2 [1] (K4)
      ·replace heq:=bif_false hb9 heq
       refine Zu 53 (congrArg Value.bool hb9)<|Zr [3,4,5,6,7,8,9,10,11,12,13] 0 [] (Pk 2 [0,1]) (Pk 2 [0,1]) ?_
       obtain rfl:=Option.some.inj heq
       refine DrH.done (by kernel_rfl) ?_
       exact Gt 2 [1] (K4)
  ·intro hb5 heq
   refine An 2 ?_
   exact Gt 1 [] (he1 heq)
theorem cache_CheckCache_c [Wz w0] {a0:Cache} {Aa0_2:Option Addr} {na0_2 ca0_2:Nat} {Aa0_3:Option Addr} {na0_3 ca0_3:Nat} {r:Int} (heq:cache_CheckCache.f a0=some r) (hra0_2:Rw kBlob H F Aa0_2 a0.Blobs) (hca0_2:na0_2≤ca0_2) (hna0_2:na0_2=a0.Blobs.length) (hra0_3:Rw kEntry H F Aa0_3 a0.Entries) (hca0_3:na0_3≤ca0_3) (hna0_3:na0_3=a0.Entries.length):CallsH Tryz.prog 13 #[.agg #[iv a0.Room,iv a0.Lease,.slice Aa0_2 na0_2 ca0_2,.slice Aa0_3 na0_3 ca0_3]] H w0 (F) (S13 F H r):=by
 refine Co C13 Tryz.func13 Tryz.ntmps13 ?_
 subst hna0_2
 subst hna0_3
 unfold cache_CheckCache.f at heq
 refine Sa 1 ?_
 refine RgH.does (DoesH.new (d:=1) (v:=fun g=>.pointer (some ⟨g,0,none⟩)) (o:=fun g=>.cells #[iv a0.Room,iv a0.Lease,.slice Aa0_2 a0.Blobs.length ca0_2,.slice Aa0_3 a0.Entries.length ca0_3] 25 (0,0)) (fun g=>by kernel_rfl)) ?_
 rintro _ _ _ _ ⟨g1,rfl,rfl,rfl⟩
 refine Zd 2<|An 2 ?_
 obtain ⟨t1,ht1,heq⟩:=bind_some heq
 have K2:RunH C13 (S13 F H r) H w0 [.c [1,0,1],.c [1,1]] [(1,pg g1 0),(16,.bool t1)] H ((some (g1,.cells #[iv a0.Room,iv a0.Lease,.slice Aa0_2 a0.Blobs.length ca0_2,.slice Aa0_3 a0.Entries.length ca0_3] 25 (0,0)))::F):=by
  refine Cb heq ?_ ?_
  ·intro hb2 heq
   refine Sa 1<|Zd 1 ?_
   obtain rfl:=Option.some.inj heq
   refine Up 1 [] ?_
   exact RunH.done (by kernel_rfl) Tryz.func13 (v:=iv 1) (by kernel_rfl) ⟨rfl,rfl,rfl⟩
  ·intro hb2 heq
   refine Sa 3<|Zv 4 [bx 0 2,bx 0 0] ?_
   obtain ⟨y3,hy3,heq⟩:=bind_some heq
   refine RgH.does (cal 21 (cache_checkBlobs_c hy3 (hra0_2.wk (fun _ h=>(.tail _ h))) hca0_2 rfl)) ?_
   rintro _ _ _ _ ⟨_,rfl,rfl,rfl,rfl⟩
   refine Zd 6<|Sa 1<|Zd 2 ?_
   refine Cb heq ?_ ?_
   ·intro hb3 heq
    refine Sa 1<|Zd 2 ?_
    obtain rfl:=Option.some.inj heq
    refine Up 1 [] ?_
    exact RunH.done (by kernel_rfl) Tryz.func13 (v:=iv y3) (by kernel_rfl) ⟨rfl,rfl,rfl⟩
   ·intro hb3 heq
    refine Sa 3<|Zw 4 [bx 0 3] ?_
    refine Cb heq ?_ ?_
    ·intro hb4 heq
     refine Sa 1<|Zd 1 ?_
     obtain rfl:=Option.some.inj heq
     refine Up 1 [] ?_
     exact RunH.done (by kernel_rfl) Tryz.func13 (v:=iv 2) (by kernel_rfl) ⟨rfl,rfl,rfl⟩
    ·intro hb4 heq
     refine Sa 3<|Zw 4 [bx 0 3]<|An 2 ?_
     exact Gt 1 [0] (((cache_CheckCache.l2_c (e1:=cache_CheckCache.e1) (cache_CheckCache.e1_c)) big) a0 _ _ _ _ _ 0 hra0_2 hca0_2 hra0_3 hca0_3 heq)
 replace heq:=ht1
 refine Sa 0<|Zv 2 [bx 0 0] ?_
 obtain ⟨y1,hy1,heq⟩:=bind_some heq
 refine RgH.does (cal 9 (cache_within_c hy1 )) ?_
 rintro _ _ _ _ ⟨_,rfl,rfl,rfl,rfl⟩
 refine Zk 5 ?_
 rcases bool_cases (!y1) with hb1 | hb1
 ·replace heq:=bif_true hb1 heq
  refine Zs 11 (congrArg Value.bool hb1)<|Zk 10 ?_
  obtain rfl:=Option.some.inj heq
  refine Dn ?_
  exact Gt 1 [0] (K2)
 ·replace heq:=bif_false hb1 heq
  refine Zs 11 (congrArg Value.bool hb1)<|Zv 7 [bx 0 1] ?_
  obtain ⟨y2,hy2,heq⟩:=bind_some heq
  refine RgH.does (cal 14 (cache_within_c hy2 )) ?_
  rintro _ _ _ _ ⟨_,rfl,rfl,rfl,rfl⟩
  refine Zk 10 ?_
  obtain rfl:=Option.some.inj heq
  refine Dn ?_
  exact Gt 1 [0] (K2)
def S14 (F:List Ch) (H0:Hp) (r:ByteArray) (v:Value) (H:Hp) (cs:List Ch):Prop:=H0=H∧v=.string r∧F=cs
theorem strconv_Itoa_c [Wz w0] {a0:Int} {r:ByteArray} (heq:strconv_Itoa.f a0=some r):CallsH Tryz.prog 14 #[iv a0] H w0 F (S14 F H r):=by
 unfold strconv_Itoa.f at heq
 obtain ⟨hn,heq⟩:=guard?_some heq
 obtain rfl:=Option.some.inj heq
 simp only [Bool.and_eq_true,decide_eq_true_eq] at hn
 exact itoa_calls (P := Tryz.prog) (name := "internal/strconv.uint64pow10") (g := 1) Shelf.Tryz.strconv_Itoa hn.1 hn.2
noncomputable def C17:Ctx:={ P:=Tryz.prog,f:=17,N:=75,c:=bodyOf Tryz.f17 }
def S17 (F:List Ch) (H0:Hp) (r:ByteArray) (v:Value) (H:Hp) (cs:List Ch):Prop:=H0=H∧v=.string r∧F=cs
theorem strings_Join.e3_c [Wz w0] {r:ByteArray}:∀ (g1:Nat) (v_b8:ByteArray) (chv_b8 cuv_b8:Ch) ,BlOwn 46 5 H F g1 v_b8 chv_b8 cuv_b8→strings_Join.e3 v_b8=some r→RunH C17 (S17 F H r) H w0 [.c [1,1,1,1,1,1,1,1,1,0],.c [1,1,1,1,1,1,1,1,1,1]] [(8,pg g1 0)] H (chv_b8::cuv_b8::F):=by
 intro g1 v_b8 chv_b8 cuv_b8 hov_b8 heq
 unfold strings_Join.e3 at heq
 refine Sa 0 ?_
 refine RgH.does (DoesH.call (d:=74) (g:=19) (args:=#[.pointer (some ⟨g1,0,none⟩)]) (by kernel_rfl) (string_calls (xs:=[]) Shelf.Tryz.Builder_String_any_k (by kernel_rfl) hov_b8)) ?_
 rintro _ _ _ _ ⟨_,rfl,rfl,rfl,rfl⟩
 refine Zd 2 ?_
 obtain rfl:=Option.some.inj heq
 exact RunH.done (by kernel_rfl) Tryz.func17 (v:=.string v_b8) (by kernel_rfl) ⟨rfl,rfl,rfl⟩
theorem strings_Join.l4_c [Wz w0] {r:ByteArray} (e3:ByteArray→Option ByteArray)
  (he3:∀ (g1:Nat) (v_b8:ByteArray) (chv_b8 cuv_b8:Ch) ,BlOwn 46 5 H F g1 v_b8 chv_b8 cuv_b8→e3 v_b8=some r→RunH C17 (S17 F H r) H w0 [.c [1,1,1,1,1,1,1,1,1,0],.c [1,1,1,1,1,1,1,1,1,1]] [(8,pg g1 0)] H (chv_b8::cuv_b8::F)):∀ (k:Nat),∀ (a0:List ByteArray) (Aa0:Option Addr) (ca0:Nat) (a1:ByteArray) (g1:Nat) (v_b8:ByteArray) (chv_b8 cuv_b8:Ch) (v65:Int) ,a0.length - 1=(a0.drop 1).length→Rw Kd.string H F (shiftA ca0 1 1 Aa0) (a0.drop 1)→a0.length - 1≤ca0 - 1→BlOwn 46 5 H F g1 v_b8 chv_b8 cuv_b8→strings_Join.l4 e3 k a0 a1 v_b8 v65=some r→RunH C17 (S17 F H r) H w0 [.c [1,1,1,1,1,1,1,1,0,1,0,0],.l [1,1,1,1,1,1,1,1,0,1,0,0],.b 3,.c [1,1,1,1,1,1,1,1,1]] [(1,.string a1),(8,pg g1 0),(63,.slice (shiftA ca0 1 1 Aa0) (a0.length - 1) (ca0 - 1)),(64,iv ((a0.length - 1:Nat):Int)),(65,iv v65)] H (chv_b8::cuv_b8::F):=by
 intro k
 induction k with
 | zero=>intro a0 Aa0 ca0 a1 g1 v_b8 chv_b8 cuv_b8 v65 hn3 hr1 hc1 hov_b8 heq; exact nomatch (show (none:Option ByteArray)=some r from heq)
 | succ k ihk =>
  intro a0 Aa0 ca0 a1 g1 v_b8 chv_b8 cuv_b8 v65 hn3 hr1 hc1 hov_b8 heq
  rw [strings_Join.l4] at heq
  refine Sa 1<|Zd 1<|An 1 ?_
  refine Cb heq ?_ ?_
  ·intro hb4 heq
   refine Sa 4 ?_
   obtain ⟨x3,hx3,heq⟩:=bind_some heq
   obtain ⟨ha3,cs3,hK3,hcc3⟩:=hr1.get hx3
   obtain rfl:cs3=[.string x3]:=hK3
   refine Zw 3 [ny ha3 hx3 (show a0.length - 1=_ from hn3),er hcc3 2 0]<|Sa 1<|Zk 1 ?_
   obtain ⟨hn5,heq⟩:=guard?_some heq
   refine RgH.does (DoesH.call (d:=70) (g:=16) (args:=#[.pointer (some ⟨g1,0,none⟩),.string a1]) (by kernel_rfl) (write_calls (xs:=[]) Shelf.Tryz.Builder_WriteString_k (by kernel_rfl) hov_b8 (of_decide_eq_true hn5))) ?_
   rintro _ _ _ _ ⟨_,rfl,ch5,ch6,rfl,rfl,rfl,ho3⟩
   refine Dn<|Sa 0<|Zk 1 ?_
   obtain ⟨hn6,heq⟩:=guard?_some heq
   refine RgH.does (DoesH.call (d:=72) (g:=16) (args:=#[.pointer (some ⟨g1,0,none⟩),.string x3]) (by kernel_rfl) (write_calls (xs:=[]) Shelf.Tryz.Builder_WriteString_k (by kernel_rfl) ho3 (of_decide_eq_true hn6))) ?_
   rintro _ _ _ _ ⟨_,rfl,ch7,ch8,rfl,rfl,rfl,ho4⟩
   refine Dn<|Sa 1<|Zd 2<|An 1 ?_
   exact Gt 2 [0,1] (ihk a0 _ _ a1 _ ((v_b8++a1)++x3) _ _ (w64 (v65+1)) hn3 hr1 hc1 ho4 heq)
  ·intro hb4 heq
   refine An 2 ?_
   exact Gt 2 [0,1] (he3 _ v_b8 _ _ hov_b8 heq)
theorem strings_Join.e2_c [Wz w0] {r:ByteArray}:∀ (a0:List ByteArray) (Aa0:Option Addr) (ca0:Nat) (a1:ByteArray) (v_n5:Int) ,Rw Kd.string H F Aa0 a0→a0.length≤ca0→strings_Join.e2 a0 a1 v_n5=some r→RunH C17 (S17 F H r) H w0 [.c [1,1,1,1,1,0],.c [1,1,1,1,1,1]] [(0,.slice Aa0 a0.length ca0),(1,.string a1),(5,iv v_n5)] H (F):=by
 intro a0 Aa0 ca0 a1 v_n5 hra0 hca0 heq
 unfold strings_Join.e2 at heq
 refine Sa 0 ?_
 refine RgH.does (DoesH.newBl (d:=8) (v:=fun g=>.pointer (some ⟨g,0,none⟩)) (T:=46) (e:=5) (xs:=[]) (F0:=F) (fun g=>by kernel_rfl) rfl) ?_
 rintro _ _ _ _ ⟨g1,rfl,rfl,rfl,hb3,hb3t⟩
 refine Dn<|Sa 1<|Zk 1 ?_
 obtain ⟨hn1,heq⟩:=guard?_some heq
 refine RgH.does (DoesH.call (d:=57) (g:=33) (args:=#[.pointer (some ⟨g1,0,none⟩),iv v_n5]) (by kernel_rfl) (grow_callsI Shelf.Tryz.Builder_Grow_fresh hb3 hb3t (both_of hn1))) ?_
 rintro _ _ _ _ ⟨_,rfl,ch1,ch2,rfl,rfl,rfl,ho1⟩
 refine Dn<|Sa 1 ?_
 obtain ⟨x2,hx2,heq⟩:=bind_some heq
 obtain ⟨ha2,cs2,hK2,hcc2⟩:=hra0.get hx2
 obtain rfl:cs2=[.string x2]:=hK2
 refine Zv 3 [nx ha2 hx2,er hcc2 2 0] ?_
 obtain ⟨hn2,heq⟩:=guard?_some heq
 refine RgH.does (DoesH.call (d:=61) (g:=16) (args:=#[.pointer (some ⟨g1,0,none⟩),.string x2]) (by kernel_rfl) (write_calls (xs:=[]) Shelf.Tryz.Builder_WriteString_k (by kernel_rfl) ho1 (of_decide_eq_true hn2))) ?_
 rintro _ _ _ _ ⟨_,rfl,ch3,ch4,rfl,rfl,rfl,ho2⟩
 refine Dn<|Sa 2 ?_
 obtain ⟨hn4,heq⟩:=guard?_some heq
 have hn3:a0.length - 1=(a0.drop 1).length:=by have h1:=both_of hn4; have h3:=trivial; (try simp); (try omega)
 have hr1:=Rw.drop hra0 1 ca0 (by have h2:=hca0; have h3:=trivial; omega)
 have hc1:a0.length - 1≤ca0 - 1:=by have h2:=hca0; have h1:=both_of hn4; omega
 refine Zw 4 [⟨.need ((0:Int)≤1∧1≤((a0.length:Nat):Int)),fun w hh=>(both_of hn4)⟩]<|An 2 ?_
 exact Gt 2 [0,1] (((strings_Join.l4_c (e3:=strings_Join.e3) (strings_Join.e3_c)) big) a0 _ _ a1 _ ((⟨#[]⟩:ByteArray)++x2) _ _ 0 hn3 hr1 hc1 ho2 heq)
theorem strings_Join.j6_c [Wz w0] {r:ByteArray} (backl5:(List ByteArray)→ByteArray→Int→Int→Option ByteArray)
  (hbackl5:∀ (a0:List ByteArray) (Aa0:Option Addr) (ca0:Nat) (a1:ByteArray) (v_n5 v41:Int) ,Rw Kd.string H F Aa0 a0→a0.length≤ca0→backl5 a0 a1 v_n5 v41=some r→RunH C17 (S17 F H r) H w0 [.c [1,1,1,1,0,1,0,0],.l [1,1,1,1,0,1,0,0],.b 1,.c [1,1,1,1,1]] [(0,.slice Aa0 a0.length ca0),(1,.string a1),(5,iv v_n5),(39,.slice Aa0 a0.length ca0),(40,iv (a0.length:Int)),(41,iv v41)] H (F)):∀ (a0:List ByteArray) (Aa0:Option Addr) (ca0:Nat) (a1:ByteArray) (v_n5 v41:Int) (x4:ByteArray) ,Rw Kd.string H F Aa0 a0→a0.length≤ca0→strings_Join.j6 backl5 a0 a1 v_n5 v41 x4=some r→RunH C17 (S17 F H r) H w0 [.c [1,1,1,1,0,1,0,0,1,1,0,0,1,1],.b 2,.c [1,1,1,1,0,1,0,0,1,1,1],.l [1,1,1,1,0,1,0,0],.b 1,.c [1,1,1,1,1]] [(0,.slice Aa0 a0.length ca0),(1,.string a1),(5,iv v_n5),(7,.string x4),(39,.slice Aa0 a0.length ca0),(40,iv (a0.length:Int)),(41,iv v41)] H (F):=by
 intro a0 Aa0 ca0 a1 v_n5 v41 x4 hra0 hca0 heq
 unfold strings_Join.j6 at heq
 refine Sa 0<|Zd 5<|Sa 1<|Zd 2<|An 1 ?_
 exact Gt 0 [] (hbackl5 a0 _ _ a1 (w64 (v_n5+(x4.size:Int))) (w64 (v41+1)) hra0 hca0 heq)
theorem strings_Join.l5_c [Wz w0] {r:ByteArray} (e2:(List ByteArray)→ByteArray→Int→Option ByteArray)
  (he2:∀ (a0:List ByteArray) (Aa0:Option Addr) (ca0:Nat) (a1:ByteArray) (v_n5:Int) ,Rw Kd.string H F Aa0 a0→a0.length≤ca0→e2 a0 a1 v_n5=some r→RunH C17 (S17 F H r) H w0 [.c [1,1,1,1,1,0],.c [1,1,1,1,1,1]] [(0,.slice Aa0 a0.length ca0),(1,.string a1),(5,iv v_n5)] H (F)):∀ (k:Nat),∀ (a0:List ByteArray) (Aa0:Option Addr) (ca0:Nat) (a1:ByteArray) (v_n5 v41:Int) ,Rw Kd.string H F Aa0 a0→a0.length≤ca0→strings_Join.l5 e2 k a0 a1 v_n5 v41=some r→RunH C17 (S17 F H r) H w0 [.c [1,1,1,1,0,1,0,0],.l [1,1,1,1,0,1,0,0],.b 1,.c [1,1,1,1,1]] [(0,.slice Aa0 a0.length ca0),(1,.string a1),(5,iv v_n5),(39,.slice Aa0 a0.length ca0),(40,iv (a0.length:Int)),(41,iv v41)] H (F):=by
 intro k
 induction k with
 | zero=>intro a0 Aa0 ca0 a1 v_n5 v41 hra0 hca0 heq; exact nomatch (show (none:Option ByteArray)=some r from heq)
 | succ k ihk =>
  intro a0 Aa0 ca0 a1 v_n5 v41 hra0 hca0 heq
  rw [strings_Join.l5] at heq
  refine Sa 1<|Zd 1<|An 1 ?_
  refine Cb heq ?_ ?_
  ·intro hb5 heq
   refine Sa 4 ?_
   obtain ⟨x4,hx4,heq⟩:=bind_some heq
   obtain ⟨ha4,cs4,hK4,hcc4⟩:=hra0.get hx4
   obtain rfl:cs4=[.string x4]:=hK4
   refine Zw 3 [nx ha4 hx4,er hcc4 0 0]<|Sa 2<|Zd 5 ?_
   refine Cb heq ?_ ?_
   ·intro hb6 heq
    cases heq
   ·intro hb6 heq
    refine An 1 ?_
    exact Gt 0 [] ((strings_Join.j6_c (backl5:=(strings_Join.l5 e2 k)) ihk) a0 _ _ a1 v_n5 v41 x4 hra0 hca0 heq)
  ·intro hb5 heq
   refine An 2 ?_
   exact Gt 0 [] (he2 a0 _ _ a1 v_n5 hra0 hca0 heq)
theorem strings_Join.j1_c [Wz w0] {r:ByteArray}:∀ (a0:List ByteArray) (Aa0:Option Addr) (ca0:Nat) (a1:ByteArray) (v_n5:Int) ,Rw Kd.string H F Aa0 a0→a0.length≤ca0→strings_Join.j1 a0 a1 v_n5=some r→RunH C17 (S17 F H r) H w0 [.c [1,1,1,1,0,0],.c [1,1,1,1,0,1],.c [1,1,1,1,1]] [(0,.slice Aa0 a0.length ca0),(1,.string a1),(5,iv v_n5)] H (F):=by
 intro a0 Aa0 ca0 a1 v_n5 hra0 hca0 heq
 unfold strings_Join.j1 at heq
 refine Sa 0<|Zd 3<|An 2 ?_
 exact Gt 0 [] (((strings_Join.l5_c (e2:=strings_Join.e2) (strings_Join.e2_c)) big) a0 _ _ a1 v_n5 0 hra0 hca0 heq)
theorem strings_Join.j7_c [Wz w0] {r:ByteArray} (j1:(List ByteArray)→ByteArray→Int→Option ByteArray)
  (hj1:∀ (a0:List ByteArray) (Aa0:Option Addr) (ca0:Nat) (a1:ByteArray) (v_n5:Int) ,Rw Kd.string H F Aa0 a0→a0.length≤ca0→j1 a0 a1 v_n5=some r→RunH C17 (S17 F H r) H w0 [.c [1,1,1,1,0,0],.c [1,1,1,1,0,1],.c [1,1,1,1,1]] [(0,.slice Aa0 a0.length ca0),(1,.string a1),(5,iv v_n5)] H (F)):∀ (a0:List ByteArray) (Aa0:Option Addr) (ca0:Nat) (a1:ByteArray) ,Rw Kd.string H F Aa0 a0→a0.length≤ca0→strings_Join.j7 j1 a0 a1=some r→RunH C17 (S17 F H r) H w0 [.c [1,1,1,0,1,0,1],.c [1,1,1,1]] [(0,.slice Aa0 a0.length ca0),(1,.string a1),(5,iv 0)] H (F):=by
 intro a0 Aa0 ca0 a1 hra0 hca0 heq
 unfold strings_Join.j7 at heq
 refine Sa 0<|Zd 9<|An 2 ?_
 exact Gt 0 [] (hj1 a0 _ _ a1 (w64 (0+(w64 ((a1.size:Int)*(w64 ((a0.length:Int) - 1)))))) hra0 hca0 heq)
theorem strings_Join_c [Wz w0] {a0:List ByteArray} {Aa0:Option Addr} {na0 ca0:Nat} {a1:ByteArray} {r:ByteArray} (heq:strings_Join.f a0 a1=some r) (hra0:Rw Kd.string H F Aa0 a0) (hca0:na0≤ca0) (hna0:na0=a0.length):CallsH Tryz.prog 17 #[.slice Aa0 na0 ca0,.string a1] H w0 (F) (S17 F H r):=by
 refine Co C17 Tryz.func17 Tryz.ntmps17 ?_
 subst hna0
 unfold strings_Join.f at heq
 refine Sa 1<|Zd 1<|Sa 2<|Zd 2<|Sa 2<|Zd 2 ?_
 refine Cb heq ?_ ?_
 ·intro hb1 heq
  refine Sa 1<|Zd 1 ?_
  obtain rfl:=Option.some.inj heq
  exact RunH.done (by kernel_rfl) Tryz.func17 (v:=.string ({ data:=#[] }:ByteArray)) (by kernel_rfl) ⟨rfl,rfl,rfl⟩
 ·intro hb1 heq
  refine Sa 1<|Zd 2 ?_
  refine Cb heq ?_ ?_
  ·intro hb2 heq
   refine Sa 1 ?_
   obtain ⟨x1,hx1,heq⟩:=bind_some heq
   obtain ⟨ha1,cs1,hK1,hcc1⟩:=hra0.get hx1
   obtain rfl:cs1=[.string x1]:=hK1
   refine Zw 4 [nx ha1 hx1,er hcc1 0 0] ?_
   obtain rfl:=Option.some.inj heq
   exact RunH.done (by kernel_rfl) Tryz.func17 (v:=.string x1) (by kernel_rfl) ⟨rfl,rfl,rfl⟩
  ·intro hb2 heq
   refine Sa 3<|Zd 1<|Sa 2<|Zd 3 ?_
   refine Cb heq ?_ ?_
   ·intro hb7 heq
    refine Sa 2 ?_
    obtain ⟨hn7,heq⟩:=guard?_some heq
    refine Zw 7 [nz hn7] ?_
    refine Cb heq ?_ ?_
    ·intro hb8 heq
     cases heq
    ·intro hb8 heq
     refine An 1 ?_
     exact Gt 0 [] ((strings_Join.j7_c (j1:=strings_Join.j1) (strings_Join.j1_c)) a0 _ _ a1 hra0 hca0 heq)
   ·intro hb7 heq
    refine An 3 ?_
    exact Gt 0 [] ((strings_Join.j1_c) a0 _ _ a1 0 hra0 hca0 heq)
noncomputable def C15:Ctx:={ P:=Tryz.prog,f:=15,N:=7,c:=bodyOf Tryz.f15 }
def S15 (F:List Ch) (H0:Hp) (ga1:Nat) (r:ByteArray) (v:Value) (H:Hp) (cs:List Ch):Prop:=∃ (ch0:Ch) (cu0:Ch),H0=H∧v=.tuple #[]∧ch0::cu0::F=cs∧BlOwn 46 5 H F ga1 r ch0 cu0
theorem cache_Text_1_c [Wz w0] {a0:List ByteArray} {Aa0:Option Addr} {na0 ca0 ga1:Nat} {a1:ByteArray} {cha1 cua1:Ch} {r:ByteArray} (heq:cache_Text_1.f a0 a1=some r) (hra0:Rw Kd.string H F Aa0 a0) (hca0:na0≤ca0) (hna0:na0=a0.length) (hoa1:BlOwn 46 5 H F ga1 a1 cha1 cua1):CallsH Tryz.prog 15 #[.slice Aa0 na0 ca0,.pointer (some ⟨ga1,0,none⟩)] H w0 (cha1::cua1::F) (S15 F H ga1 r):=by
 refine Co C15 Tryz.func15 Tryz.ntmps15 ?_
 subst hna0
 unfold cache_Text_1.f at heq
 refine Sa 0<|Zk 1 ?_
 obtain ⟨y1,hy1,heq⟩:=bind_some heq
 refine RgH.does (cal 4 (strings_Join_c hy1 (hra0.wk (fun _ h=>(.tail _ (.tail _ h)))) hca0 rfl)) ?_
 rintro _ _ _ _ ⟨_,rfl,rfl,rfl,rfl⟩
 obtain ⟨hn1,heq⟩:=guard?_some heq
 refine Zv 3 [n1 hn1] ?_
 obtain ⟨hn2,heq⟩:=guard?_some heq
 refine RgH.does (DoesH.call (d:=6) (g:=16) (args:=#[.pointer (some ⟨ga1,0,none⟩),.string (y1++({ data:=#[10] }:ByteArray))]) (by kernel_rfl) (write_calls (xs:=[]) Shelf.Tryz.Builder_WriteString_k (by kernel_rfl) hoa1 (of_decide_eq_true hn2))) ?_
 rintro _ _ _ _ ⟨_,rfl,ch1,ch2,rfl,rfl,rfl,ho1⟩
 refine Dn ?_
 obtain rfl:=Option.some.inj heq
 exact RunH.done (by kernel_rfl) Tryz.func15 (v:=.tuple #[]) (by kernel_rfl) ⟨ch1,ch2,rfl,rfl,rfl,ho1⟩
noncomputable def C5:Ctx:={ P:=Tryz.prog,f:=5,N:=81,c:=bodyOf Tryz.f5 }
def S5 (F:List Ch) (H0:Hp) (r:ByteArray × Int) (v:Value) (H:Hp) (cs:List Ch):Prop:=H0=H∧v=.tuple #[.string r.1,iv r.2]∧F=cs
theorem cache_Text.e2_c [Wz w0] {r:ByteArray × Int}:∀ (g2:Nat) (v_b5:ByteArray) (chv_b5 cuv_b5:Ch) ,BlOwn 46 5 H F g2 v_b5 chv_b5 cuv_b5→cache_Text.e2 v_b5=some r→RunH C5 (S5 F H r) H w0 [.c [1,1,1,1,1,1,1,1,0,0],.c [1,1,1,1,1,1,1,1,0,1],.c [1,1,1,1,1,1,1,1,1]] [(5,pg g2 0)] H (chv_b5::cuv_b5::F):=by
 intro g2 v_b5 chv_b5 cuv_b5 hov_b5 heq
 unfold cache_Text.e2 at heq
 refine Sa 0 ?_
 refine RgH.does (DoesH.call (d:=78) (g:=18) (args:=#[.pointer (some ⟨g2,0,none⟩)]) (by kernel_rfl) (len_calls Shelf.Tryz.Builder_Len_f hov_b5)) ?_
 rintro _ _ _ _ ⟨_,rfl,rfl,rfl,rfl⟩
 refine Zd 2 ?_
 refine Cb heq ?_ ?_
 ·intro hb3 heq
  refine Sa 1<|Zd 2 ?_
  obtain rfl:=Option.some.inj heq
  refine Up 2 [] ?_
  exact RunH.done (by kernel_rfl) Tryz.func5 (v:=.tuple #[.string ({ data:=#[] }:ByteArray),iv 2]) (by kernel_rfl) ⟨rfl,rfl,rfl⟩
 ·intro hb3 heq
  refine Sa 2 ?_
  refine RgH.does (DoesH.call (d:=80) (g:=19) (args:=#[.pointer (some ⟨g2,0,none⟩)]) (by kernel_rfl) (string_calls (xs:=[]) Shelf.Tryz.Builder_String_any_k (by kernel_rfl) hov_b5)) ?_
  rintro _ _ _ _ ⟨_,rfl,rfl,rfl,rfl⟩
  refine Zd 3 ?_
  obtain rfl:=Option.some.inj heq
  exact RunH.done (by kernel_rfl) Tryz.func5 (v:=.tuple #[.string v_b5,iv 0]) (by kernel_rfl) ⟨rfl,rfl,rfl⟩
theorem cache_Text.l3_c [Wz w0] {r:ByteArray × Int} (e2:ByteArray→Option (ByteArray × Int))
  (he2:∀ (g2:Nat) (v_b5:ByteArray) (chv_b5 cuv_b5:Ch) ,BlOwn 46 5 H F g2 v_b5 chv_b5 cuv_b5→e2 v_b5=some r→RunH C5 (S5 F H r) H w0 [.c [1,1,1,1,1,1,1,1,0,0],.c [1,1,1,1,1,1,1,1,0,1],.c [1,1,1,1,1,1,1,1,1]] [(5,pg g2 0)] H (chv_b5::cuv_b5::F)):∀ (k:Nat),∀ (a0:Cache) (Aa0_3:Option Addr) (ca0_3 g2:Nat) (v_b5:ByteArray) (chv_b5 cuv_b5:Ch) (v61:Int) ,Rw kEntry H F Aa0_3 a0.Entries→a0.Entries.length≤ca0_3→BlOwn 46 5 H F g2 v_b5 chv_b5 cuv_b5→cache_Text.l3 e2 k a0 v_b5 v61=some r→RunH C5 (S5 F H r) H w0 [.c [1,1,1,1,1,1,1,0,1,0,0],.l [1,1,1,1,1,1,1,0,1,0,0],.b 2,.c [1,1,1,1,1,1,1,1]] [(5,pg g2 0),(6,.func (.func 14) #[] #[]),(7,.func (.func 15) #[] #[.pointer (some ⟨g2,0,none⟩)]),(59,.slice Aa0_3 a0.Entries.length ca0_3),(60,iv (a0.Entries.length:Int)),(61,iv v61)] H (chv_b5::cuv_b5::F):=by
 intro k
 induction k with
 | zero=>intro a0 Aa0_3 ca0_3 g2 v_b5 chv_b5 cuv_b5 v61 hra0_3 hca0_3 hov_b5 heq; exact nomatch (show (none:Option (ByteArray × Int))=some r from heq)
 | succ k ihk =>
  intro a0 Aa0_3 ca0_3 g2 v_b5 chv_b5 cuv_b5 v61 hra0_3 hca0_3 hov_b5 heq
  rw [cache_Text.l3] at heq
  refine Sa 1<|Zd 1<|An 1 ?_
  refine Cb heq ?_ ?_
  ·intro hb4 heq
   refine Sa 4 ?_
   obtain ⟨x1,hx1,heq⟩:=bind_some heq
   obtain ⟨ha1,cs1,hK1,hcc1⟩:=hra0_3.get hx1
   obtain ⟨A1,c1,rfl,hc1,hr1⟩:=kEntry_open hK1
   refine Zv 2 ([nx ha1 hx1]++ers hcc1 2) ?_
   refine RgH.does (DoesH.new (d:=11) (v:=fun g=>.pointer (some ⟨g,0,none⟩)) (o:=fun g=>.cells #[.string ByteArray.empty,.slice none 0 0,iv 0] 40 (0,0)) (fun g=>by kernel_rfl)) ?_
   rintro _ _ _ _ ⟨g4,rfl,rfl,rfl⟩
   refine RgH.does (DoesH.store (k:=0) (g:=g4) (off:=0) (v:=.agg #[.string x1.Key,.slice A1 x1.Refs.length c1,iv x1.Used]) (cells':=#[.string x1.Key,.slice A1 x1.Refs.length c1,iv x1.Used]) (by kernel_rfl) rfl (by kernel_rfl) (by kernel_rfl)) ?_
   rintro _ _ _ _ ⟨rfl,rfl,rfl⟩
   refine Dn<|Sd 3 12 [0] [3,3,3,3,3,3,0,0,3,3,0,1]<|Zr [0] 11 [] (Pk 3 [0,1,2]) (Pk 3 [0])<|Zt [1,2,3,4,5,8,9] 4 [bx 0 0,bx 0 2,bx 0 1] (Pk 3 [0]) ?_
   obtain ⟨y5,hy5,heq⟩:=bind_some heq
   refine Dz 6 (cal 71 (strconv_Itoa_c (a0:=x1.Used)  hy5)) ?_
   rintro _ _ _ _ ⟨_,rfl,rfl,rfl,rfl⟩
   refine ⟨fun _ w hh=>⟨fun _=>(Pk 3 [0,1,2]) w hh,fun _=>(Pk 3 [0]) w hh,(fun h=>by cases h)⟩,?_⟩
   refine Dz 7 (DoesH.new (d:=72) (v:=fun g=>.slice (some ⟨g,0,none⟩) 3 3) (o:=fun g=>.cells #[.string ({ data:=#[101,110,116,114,121] }:ByteArray),.string x1.Key,.string y5] 9 (0,0)) (fun g=>by kernel_rfl)) ?_
   rintro _ _ _ _ ⟨g5,rfl,rfl,rfl⟩
   have ho4:SlOwn Kd.string 9 H (some ⟨g5,0,none⟩) 3 ([({ data:=#[101,110,116,114,121] }:ByteArray),x1.Key,y5]:List ByteArray) (some (g5,.cells #[.string ({ data:=#[101,110,116,114,121] }:ByteArray),.string x1.Key,.string y5] 9 (0,0))):=SlOwn.lit (xs:=([({ data:=#[101,110,116,114,121] }:ByteArray),x1.Key,y5]:List ByteArray)) (by kernel_rfl) (Nat.le_of_ble_eq_true (by kernel_rfl)) (Kd.Rep.scalars rfl)
   refine ⟨fun _ w hh=>⟨fun _=>(Pk 4 [1,2,3]) w hh,fun _=>(Pk 4 [1]) w hh,(fun h=>by cases h)⟩,?_⟩
   obtain ⟨hn1,heq⟩:=guard?_some heq
   refine Dz 10 (DoesH.append (d:=75) (k:=0) (t:=38) (e:=9) (bytes:=16) (kd:=Kd.string) (n:=3) (m:=x1.Refs.length) (xs:=([({ data:=#[101,110,116,114,121] }:ByteArray),x1.Key,y5]:List ByteArray)) (ys:=x1.Refs) (A:=(some ⟨g5,0,none⟩)) (B:=A1) (c:=3) (cB:=c1) (by kernel_rfl) rfl rfl (by kernel_rfl) rfl ho4 (fun w hh=>(Rw.of (F:=F) hr1).rdb (hh.drop 4)) (room_le hn1) (by have:=room_le hn1; omega)) ?_
   rintro _ _ _ _ ⟨A2,c2,ch2,rfl,rfl,rfl,ho5⟩
   refine ⟨fun _ w hh=>⟨fun _=>(Pk 4 [1,2,3]) w hh,fun _=>(Pk 4 [1]) w hh,(fun h=>by cases h)⟩,?_⟩
   refine Ur 4 [2,3,0,1] ?_
   obtain ⟨y6,hy6,heq⟩:=bind_some heq
   refine Dz 11 (cal 76 (cache_Text_1_c hy6 (ho5.rw (.head _)) ho5.cap rfl (hov_b5.wide (xs:=[ch2,(some (g4,.cells #[.string x1.Key,.slice A1 x1.Refs.length c1,iv x1.Used] 40 (0,0)))]) (noby_cons ho5.noby (noby_cons (by kernel_rfl) noby_nil))))) ?_
   rintro _ _ _ _ ⟨_,rfl,ch3,cu2,rfl,rfl,rfl,ho6⟩
   have ho7:BlOwn 46 5 H F g2 y6 ch3 cu2:=ho6.thin 2
   refine ⟨fun _ w hh=>⟨(fun h=>by cases h),fun _=>(Pk 4 [3]) w hh,(fun h=>by cases h)⟩,?_⟩
   refine DrH.done (by kernel_rfl) ?_
   refine Sa 1<|Zd 2<|An 1 ?_
   exact Gt 4 [0,1] (ihk a0 _ _ _ y6 _ _ (w64 (v61+1)) hra0_3 hca0_3 ho7 heq)
  ·intro hb4 heq
   refine An 3 ?_
   exact Gt 2 [0,1] (he2 _ v_b5 _ _ hov_b5 heq)
theorem cache_Text.e1_c [Wz w0] {r:ByteArray × Int}:∀ (a0:Cache) (Aa0_2:Option Addr) (ca0_2:Nat) (Aa0_3:Option Addr) (ca0_3 g1 g2:Nat) (v_b5:ByteArray) (chv_b5 cuv_b5:Ch) ,Rw kBlob H F Aa0_2 a0.Blobs→a0.Blobs.length≤ca0_2→Rw kEntry H F Aa0_3 a0.Entries→a0.Entries.length≤ca0_3→BlOwn 46 5 H F g2 v_b5 chv_b5 cuv_b5→cache_Text.e1 a0 v_b5=some r→RunH C5 (S5 F H r) H w0 [.c [1,1,1,1,1,1,1,0,0],.c [1,1,1,1,1,1,1,0,1],.c [1,1,1,1,1,1,1,1]] [(1,pg g1 0),(5,pg g2 0),(6,.func (.func 14) #[] #[]),(7,.func (.func 15) #[] #[.pointer (some ⟨g2,0,none⟩)])] H (chv_b5::cuv_b5::(some (g1,.cells #[iv a0.Room,iv a0.Lease,.slice Aa0_2 a0.Blobs.length ca0_2,.slice Aa0_3 a0.Entries.length ca0_3] 25 (0,0)))::F):=by
 intro a0 Aa0_2 ca0_2 Aa0_3 ca0_3 g1 g2 v_b5 chv_b5 cuv_b5 hra0_2 hca0_2 hra0_3 hca0_3 hov_b5 heq
 unfold cache_Text.e1 at heq
 refine Sa 0<|Zw 4 [bx 2 3]<|An 2 ?_
 exact Gt 3 [0,1] (((cache_Text.l3_c (e2:=cache_Text.e2) (cache_Text.e2_c)) big) a0 _ _ _ v_b5 _ _ 0 hra0_3 hca0_3 hov_b5 heq)
theorem cache_Text.l4_c [Wz w0] {r:ByteArray × Int} (e1:Cache→ByteArray→Option (ByteArray × Int))
  (he1:∀ (a0:Cache) (Aa0_2:Option Addr) (ca0_2:Nat) (Aa0_3:Option Addr) (ca0_3 g1 g2:Nat) (v_b5:ByteArray) (chv_b5 cuv_b5:Ch) ,Rw kBlob H F Aa0_2 a0.Blobs→a0.Blobs.length≤ca0_2→Rw kEntry H F Aa0_3 a0.Entries→a0.Entries.length≤ca0_3→BlOwn 46 5 H F g2 v_b5 chv_b5 cuv_b5→e1 a0 v_b5=some r→RunH C5 (S5 F H r) H w0 [.c [1,1,1,1,1,1,1,0,0],.c [1,1,1,1,1,1,1,0,1],.c [1,1,1,1,1,1,1,1]] [(1,pg g1 0),(5,pg g2 0),(6,.func (.func 14) #[] #[]),(7,.func (.func 15) #[] #[.pointer (some ⟨g2,0,none⟩)])] H (chv_b5::cuv_b5::(some (g1,.cells #[iv a0.Room,iv a0.Lease,.slice Aa0_2 a0.Blobs.length ca0_2,.slice Aa0_3 a0.Entries.length ca0_3] 25 (0,0)))::F)):∀ (k:Nat),∀ (a0:Cache) (Aa0_2:Option Addr) (ca0_2:Nat) (Aa0_3:Option Addr) (ca0_3 g1 g2:Nat) (v_b5:ByteArray) (chv_b5 cuv_b5:Ch) (v32:Int) ,Rw kBlob H F Aa0_2 a0.Blobs→a0.Blobs.length≤ca0_2→Rw kEntry H F Aa0_3 a0.Entries→a0.Entries.length≤ca0_3→BlOwn 46 5 H F g2 v_b5 chv_b5 cuv_b5→cache_Text.l4 e1 k a0 v_b5 v32=some r→RunH C5 (S5 F H r) H w0 [.c [1,1,1,1,1,1,0,1,0,0],.l [1,1,1,1,1,1,0,1,0,0],.b 0,.c [1,1,1,1,1,1,1]] [(1,pg g1 0),(5,pg g2 0),(6,.func (.func 14) #[] #[]),(7,.func (.func 15) #[] #[.pointer (some ⟨g2,0,none⟩)]),(30,.slice Aa0_2 a0.Blobs.length ca0_2),(31,iv (a0.Blobs.length:Int)),(32,iv v32)] H (chv_b5::cuv_b5::(some (g1,.cells #[iv a0.Room,iv a0.Lease,.slice Aa0_2 a0.Blobs.length ca0_2,.slice Aa0_3 a0.Entries.length ca0_3] 25 (0,0)))::F):=by
 intro k
 induction k with
 | zero=>intro a0 Aa0_2 ca0_2 Aa0_3 ca0_3 g1 g2 v_b5 chv_b5 cuv_b5 v32 hra0_2 hca0_2 hra0_3 hca0_3 hov_b5 heq; exact nomatch (show (none:Option (ByteArray × Int))=some r from heq)
 | succ k ihk =>
  intro a0 Aa0_2 ca0_2 Aa0_3 ca0_3 g1 g2 v_b5 chv_b5 cuv_b5 v32 hra0_2 hca0_2 hra0_3 hca0_3 hov_b5 heq
  rw [cache_Text.l4] at heq
  refine Sa 1<|Zd 1<|An 1 ?_
  refine Cb heq ?_ ?_
  ·intro hb5 heq
   refine Sa 4 ?_
   obtain ⟨x2,hx2,heq⟩:=bind_some heq
   obtain ⟨ha2,cs2,hK2,hcc2⟩:=hra0_2.get hx2
   obtain ⟨rfl⟩:=kBlob_open hK2
   refine Zv 2 ([nx ha2 hx2]++ers hcc2 3) ?_
   refine RgH.does (DoesH.new (d:=9) (v:=fun g=>.pointer (some ⟨g,0,none⟩)) (o:=fun g=>.cells #[.string ByteArray.empty,iv 0,iv 0,iv 0,iv 0] 37 (0,0)) (fun g=>by kernel_rfl)) ?_
   rintro _ _ _ _ ⟨g6,rfl,rfl,rfl⟩
   refine RgH.does (DoesH.store (k:=0) (g:=g6) (off:=0) (v:=.agg #[.string x2.Digest,iv x2.Size,iv x2.Used,iv x2.Until,iv x2.Pins]) (cells':=#[.string x2.Digest,iv x2.Size,iv x2.Used,iv x2.Until,iv x2.Pins]) (by kernel_rfl) rfl (by kernel_rfl) (by kernel_rfl)) ?_
   rintro _ _ _ _ ⟨rfl,rfl,rfl⟩
   refine Dn<|Sd 4 21 [0,3] [3,3,3,3,3,3,0,3,3,3,0,3,3,3,0,3,3,3,0,0,1]<|Zr [0] 20 [] (Pk 4 [0,1,2,3]) (Pk 4 [0,3])<|Zt [1,2,3,4,5,7,8,9,11,12,13,15,16,17] 6 [bx 0 0,bx 0 1,bx 0 2,bx 0 3,bx 0 4] (Pk 4 [0,3]) ?_
   obtain ⟨y7,hy7,heq⟩:=bind_some heq
   refine Dz 6 (cal 42 (strconv_Itoa_c (a0:=x2.Size)  hy7)) ?_
   rintro _ _ _ _ ⟨_,rfl,rfl,rfl,rfl⟩
   refine ⟨fun _ w hh=>⟨fun _=>(Pk 4 [0,1,2,3]) w hh,fun _=>(Pk 4 [0,3]) w hh,(fun h=>by cases h)⟩,?_⟩
   obtain ⟨y8,hy8,heq⟩:=bind_some heq
   refine Dz 10 (cal 46 (strconv_Itoa_c (a0:=x2.Used)  hy8)) ?_
   rintro _ _ _ _ ⟨_,rfl,rfl,rfl,rfl⟩
   refine ⟨fun _ w hh=>⟨fun _=>(Pk 4 [0,1,2,3]) w hh,fun _=>(Pk 4 [0,3]) w hh,(fun h=>by cases h)⟩,?_⟩
   obtain ⟨y9,hy9,heq⟩:=bind_some heq
   refine Dz 14 (cal 50 (strconv_Itoa_c (a0:=x2.Until)  hy9)) ?_
   rintro _ _ _ _ ⟨_,rfl,rfl,rfl,rfl⟩
   refine ⟨fun _ w hh=>⟨fun _=>(Pk 4 [0,1,2,3]) w hh,fun _=>(Pk 4 [0,3]) w hh,(fun h=>by cases h)⟩,?_⟩
   obtain ⟨y10,hy10,heq⟩:=bind_some heq
   refine Dz 18 (cal 54 (strconv_Itoa_c (a0:=x2.Pins)  hy10)) ?_
   rintro _ _ _ _ ⟨_,rfl,rfl,rfl,rfl⟩
   refine ⟨fun _ w hh=>⟨fun _=>(Pk 4 [0,1,2,3]) w hh,fun _=>(Pk 4 [0,3]) w hh,(fun h=>by cases h)⟩,?_⟩
   refine Dz 19 (DoesH.new (d:=55) (v:=fun g=>.slice (some ⟨g,0,none⟩) 6 6) (o:=fun g=>.cells #[.string ({ data:=#[98,108,111,98] }:ByteArray),.string x2.Digest,.string y7,.string y8,.string y9,.string y10] 9 (0,0)) (fun g=>by kernel_rfl)) ?_
   rintro _ _ _ _ ⟨g7,rfl,rfl,rfl⟩
   have ho8:SlOwn Kd.string 9 H (some ⟨g7,0,none⟩) 6 ([({ data:=#[98,108,111,98] }:ByteArray),x2.Digest,y7,y8,y9,y10]:List ByteArray) (some (g7,.cells #[.string ({ data:=#[98,108,111,98] }:ByteArray),.string x2.Digest,.string y7,.string y8,.string y9,.string y10] 9 (0,0))):=SlOwn.lit (xs:=([({ data:=#[98,108,111,98] }:ByteArray),x2.Digest,y7,y8,y9,y10]:List ByteArray)) (by kernel_rfl) (Nat.le_of_ble_eq_true (by kernel_rfl)) (Kd.Rep.scalars rfl)
   refine ⟨fun _ w hh=>⟨fun _=>(Pk 5 [1,2,3,4]) w hh,fun _=>(Pk 5 [1,4]) w hh,(fun h=>by cases h)⟩,?_⟩
   refine Ur 5 [2,3,0,1,4] ?_
   obtain ⟨y11,hy11,heq⟩:=bind_some heq
   refine Dz 20 (cal 56 (cache_Text_1_c hy11 (ho8.rw (.head _)) ho8.cap rfl (hov_b5.wide (xs:=[(some (g7,.cells #[.string ({ data:=#[98,108,111,98] }:ByteArray),.string x2.Digest,.string y7,.string y8,.string y9,.string y10] 9 (0,0))),(some (g6,.cells #[.string x2.Digest,iv x2.Size,iv x2.Used,iv x2.Until,iv x2.Pins] 37 (0,0))),(some (g1,.cells #[iv a0.Room,iv a0.Lease,.slice Aa0_2 a0.Blobs.length ca0_2,.slice Aa0_3 a0.Entries.length ca0_3] 25 (0,0)))]) (by kernel_rfl)))) ?_
   rintro _ _ _ _ ⟨_,rfl,ch4,cu3,rfl,rfl,rfl,ho9⟩
   have ho10:BlOwn 46 5 H F g2 y11 ch4 cu3:=ho9.thin 3
   refine ⟨fun _ w hh=>⟨(fun h=>by cases h),fun _=>(Pk 5 [3,4]) w hh,(fun h=>by cases h)⟩,?_⟩
   refine DrH.done (by kernel_rfl) ?_
   refine Sa 1<|Zd 2<|An 1 ?_
   exact Gt 5 [0,1,4] (ihk a0 _ _ _ _ _ _ y11 _ _ (w64 (v32+1)) hra0_2 hca0_2 hra0_3 hca0_3 ho10 heq)
  ·intro hb5 heq
   refine An 3 ?_
   exact Gt 3 [0,1,2] (he1 a0 _ _ _ _ _ _ v_b5 _ _ hra0_2 hca0_2 hra0_3 hca0_3 hov_b5 heq)
theorem cache_Text_c [Wz w0] {a0:Cache} {Aa0_2:Option Addr} {na0_2 ca0_2:Nat} {Aa0_3:Option Addr} {na0_3 ca0_3:Nat} {r:ByteArray × Int} (heq:cache_Text.f a0=some r) (hra0_2:Rw kBlob H F Aa0_2 a0.Blobs) (hca0_2:na0_2≤ca0_2) (hna0_2:na0_2=a0.Blobs.length) (hra0_3:Rw kEntry H F Aa0_3 a0.Entries) (hca0_3:na0_3≤ca0_3) (hna0_3:na0_3=a0.Entries.length):CallsH Tryz.prog 5 #[.agg #[iv a0.Room,iv a0.Lease,.slice Aa0_2 na0_2 ca0_2,.slice Aa0_3 na0_3 ca0_3]] H w0 (F) (S5 F H r):=by
 refine Co C5 Tryz.func5 Tryz.ntmps5 ?_
 subst hna0_2
 subst hna0_3
 unfold cache_Text.f at heq
 refine Sa 1 ?_
 refine RgH.does (DoesH.new (d:=1) (v:=fun g=>.pointer (some ⟨g,0,none⟩)) (o:=fun g=>.cells #[iv a0.Room,iv a0.Lease,.slice Aa0_2 a0.Blobs.length ca0_2,.slice Aa0_3 a0.Entries.length ca0_3] 25 (0,0)) (fun g=>by kernel_rfl)) ?_
 rintro _ _ _ _ ⟨g1,rfl,rfl,rfl⟩
 refine Zd 3<|Sa 2<|Zv 1 (bxs 0) ?_
 obtain ⟨y1,hy1,heq⟩:=bind_some heq
 refine RgH.does (cal 13 (cache_CheckCache_c hy1 (hra0_2.wk (fun _ h=>(.tail _ h))) hca0_2 rfl (hra0_3.wk (fun _ h=>(.tail _ h))) hca0_3 rfl)) ?_
 rintro _ _ _ _ ⟨_,rfl,rfl,rfl,rfl⟩
 refine Zd 3<|Sa 1<|Zd 2 ?_
 refine Cb heq ?_ ?_
 ·intro hb1 heq
  refine Sa 1<|Zd 3 ?_
  obtain rfl:=Option.some.inj heq
  refine Up 1 [] ?_
  exact RunH.done (by kernel_rfl) Tryz.func5 (v:=.tuple #[.string ({ data:=#[] }:ByteArray),iv y1]) (by kernel_rfl) ⟨rfl,rfl,rfl⟩
 ·intro hb1 heq
  refine Sa 2 ?_
  refine RgH.does (DoesH.newBl (d:=5) (v:=fun g=>.pointer (some ⟨g,0,none⟩)) (T:=46) (e:=5) (xs:=[(some (g1,.cells #[iv a0.Room,iv a0.Lease,.slice Aa0_2 a0.Blobs.length ca0_2,.slice Aa0_3 a0.Entries.length ca0_3] 25 (0,0)))]) (F0:=F) (fun g=>by kernel_rfl) rfl) ?_
  rintro _ _ _ _ ⟨g2,rfl,rfl,rfl,hb2,hb2t⟩
  refine Dn<|Sa 1<|Zd 1<|Sa 1<|Zd 2<|An 1<|Sd 3 11 [2] [3,3,3,3,0,3,3,3,0,0,1]<|Zr [0] 10 [] (Pk 3 [0,1,2]) (Pk 3 [2])<|Zt [1,2,3,5,6,7] 4 [bx 0 0,bx 0 1] (Pk 3 [2]) ?_
  obtain ⟨y2,hy2,heq⟩:=bind_some heq
  refine Dz 4 (cal 22 (strconv_Itoa_c (a0:=a0.Room)  hy2)) ?_
  rintro _ _ _ _ ⟨_,rfl,rfl,rfl,rfl⟩
  refine ⟨fun _ w hh=>⟨fun _=>(Pk 3 [0,1,2]) w hh,fun _=>(Pk 3 [2]) w hh,(fun h=>by cases h)⟩,?_⟩
  obtain ⟨y3,hy3,heq⟩:=bind_some heq
  refine Dz 8 (cal 26 (strconv_Itoa_c (a0:=a0.Lease)  hy3)) ?_
  rintro _ _ _ _ ⟨_,rfl,rfl,rfl,rfl⟩
  refine ⟨fun _ w hh=>⟨fun _=>(Pk 3 [0,1,2]) w hh,fun _=>(Pk 3 [2]) w hh,(fun h=>by cases h)⟩,?_⟩
  refine Dz 9 (DoesH.new (d:=27) (v:=fun g=>.slice (some ⟨g,0,none⟩) 3 3) (o:=fun g=>.cells #[.string ({ data:=#[99,97,99,104,101] }:ByteArray),.string y2,.string y3] 9 (0,0)) (fun g=>by kernel_rfl)) ?_
  rintro _ _ _ _ ⟨g3,rfl,rfl,rfl⟩
  have ho1:SlOwn Kd.string 9 H (some ⟨g3,0,none⟩) 3 ([({ data:=#[99,97,99,104,101] }:ByteArray),y2,y3]:List ByteArray) (some (g3,.cells #[.string ({ data:=#[99,97,99,104,101] }:ByteArray),.string y2,.string y3] 9 (0,0))):=SlOwn.lit (xs:=([({ data:=#[99,97,99,104,101] }:ByteArray),y2,y3]:List ByteArray)) (by kernel_rfl) (Nat.le_of_ble_eq_true (by kernel_rfl)) (Kd.Rep.scalars rfl)
  refine ⟨fun _ w hh=>⟨fun _=>(Pk 4 [1,2,3]) w hh,fun _=>(Pk 4 [3]) w hh,(fun h=>by cases h)⟩,?_⟩
  refine Ur 4 [1,2,0,3] ?_
  obtain ⟨y4,hy4,heq⟩:=bind_some heq
  refine Dz 10 (cal 28 (cache_Text_1_c hy4 (ho1.rw (.head _)) ho1.cap rfl (hb2.wide (xs:=[(some (g3,.cells #[.string ({ data:=#[99,97,99,104,101] }:ByteArray),.string y2,.string y3] 9 (0,0))),(some (g1,.cells #[iv a0.Room,iv a0.Lease,.slice Aa0_2 a0.Blobs.length ca0_2,.slice Aa0_3 a0.Entries.length ca0_3] 25 (0,0)))]) (by kernel_rfl)))) ?_
  rintro _ _ _ _ ⟨_,rfl,ch1,cu1,rfl,rfl,rfl,ho2⟩
  have ho3:BlOwn 46 5 H F g2 y4 ch1 cu1:=ho2.thin 2
  refine ⟨fun _ w hh=>⟨(fun h=>by cases h),fun _=>(Pk 4 [3]) w hh,(fun h=>by cases h)⟩,?_⟩
  refine DrH.done (by kernel_rfl) ?_
  refine Sa 2<|Zw 4 [bx 3 2]<|An 2 ?_
  exact Gt 4 [0,1,3] (((cache_Text.l4_c (e1:=cache_Text.e1) (cache_Text.e1_c)) big) a0 _ _ _ _ _ _ y4 _ _ 0 hra0_2 hca0_2 hra0_3 hca0_3 ho3 heq)
noncomputable def C34:Ctx:={ P:=Tryz.prog,f:=34,N:=15,c:=bodyOf Tryz.f34 }
def S34 (F:List Ch) (H0:Hp) (r:Bool) (v:Value) (H:Hp) (cs:List Ch):Prop:=H0=H∧v=.bool r∧F=cs
theorem smithyardref7_within_c [Wz w0] {a0 a1 a2:Int} {r:Bool} (heq:smithyardref7_within.f a0 a1 a2=some r):CallsH Tryz.prog 34 #[iv a0,iv a1,iv a2] H w0 (F) (S34 F H r):=by
 refine Co C34 Tryz.func34 Tryz.ntmps34 ?_
 unfold smithyardref7_within.f at heq
 refine Sa 1<|Zd 1<|An 1 ?_
 obtain ⟨t1,ht1,heq⟩:=bind_some heq
 have K1:RunH C34 (S34 F H r) H w0 [.c [1,1]] [(6,.bool t1)] H (F):=by
  obtain rfl:=Option.some.inj heq
  exact RunH.done (by kernel_rfl) Tryz.func34 (v:=.bool t1) (by kernel_rfl) ⟨rfl,rfl,rfl⟩
 replace heq:=ht1
 refine Sa 0<|Zk 4 ?_
 rcases bool_cases (decide (a1≤a0)) with hb1 | hb1
 ·replace heq:=bif_true hb1 heq
  refine Zs 10 (congrArg Value.bool hb1)<|Zk 9 ?_
  obtain rfl:=Option.some.inj heq
  refine Dn ?_
  exact Gt 0 [] (K1)
 ·replace heq:=bif_false hb1 heq
  refine Zs 10 (congrArg Value.bool hb1)<|Zk 9 ?_
  obtain rfl:=Option.some.inj heq
  refine Dn ?_
  exact Gt 0 [] (K1)
noncomputable def C36:Ctx:={ P:=Tryz.prog,f:=36,N:=19,c:=bodyOf Tryz.f36 }
def S36 (F:List Ch) (H0:Hp) (r:Int) (v:Value) (H:Hp) (cs:List Ch):Prop:=H0=H∧v=iv r∧F=cs
theorem smithyardref7_bytesOf.e1_c [Wz w0] {r:Int}:∀ (v_n3:Int) ,smithyardref7_bytesOf.e1 v_n3=some r→RunH C36 (S36 F H r) H w0 [.c [1,1,1,0],.c [1,1,1,1]] [(3,iv v_n3)] H (F):=by
 intro v_n3  heq
 unfold smithyardref7_bytesOf.e1 at heq
 refine Sa 0<|Zd 2 ?_
 obtain rfl:=Option.some.inj heq
 exact RunH.done (by kernel_rfl) Tryz.func36 (v:=iv v_n3) (by kernel_rfl) ⟨rfl,rfl,rfl⟩
theorem smithyardref7_bytesOf.l2_c [Wz w0] {r:Int} (e1:Int→Option Int)
  (he1:∀ (v_n3:Int) ,e1 v_n3=some r→RunH C36 (S36 F H r) H w0 [.c [1,1,1,0],.c [1,1,1,1]] [(3,iv v_n3)] H (F)):∀ (k:Nat),∀ (a0:List Blob) (Aa0:Option Addr) (ca0:Nat) (v_n3 v_i4:Int) ,Rw kBlob H F Aa0 a0→a0.length≤ca0→smithyardref7_bytesOf.l2 e1 k a0 v_n3 v_i4=some r→RunH C36 (S36 F H r) H w0 [.c [1,1,0,1,0,0],.l [1,1,0,1,0,0],.b 0,.c [1,1,1]] [(0,.slice Aa0 a0.length ca0),(3,iv v_n3),(4,iv v_i4)] H (F):=by
 intro k
 induction k with
 | zero=>intro a0 Aa0 ca0 v_n3 v_i4 hra0 hca0 heq; exact nomatch (show (none:Option Int)=some r from heq)
 | succ k ihk =>
  intro a0 Aa0 ca0 v_n3 v_i4 hra0 hca0 heq
  rw [smithyardref7_bytesOf.l2] at heq
  refine Sa 2<|Zd 4 ?_
  refine Cb heq ?_ ?_
  ·intro hb1 heq
   refine Sa 3 ?_
   obtain ⟨x1,hx1,heq⟩:=bind_some heq
   obtain ⟨ha1,cs1,hK1,hcc1⟩:=hra0.get hx1
   obtain ⟨rfl⟩:=kBlob_open hK1
   refine Zw 8 [nx ha1 hx1,er hcc1 0 1]<|Sa 1<|Zd 3<|An 1 ?_
   exact Gt 0 [] (ihk a0 _ _ (w64 (v_n3+x1.Size)) (w64 (v_i4+1)) hra0 hca0 heq)
  ·intro hb1 heq
   refine An 2 ?_
   exact Gt 0 [] (he1 v_n3 heq)
theorem smithyardref7_bytesOf_c [Wz w0] {a0:List Blob} {Aa0:Option Addr} {na0 ca0:Nat} {r:Int} (heq:smithyardref7_bytesOf.f a0=some r) (hra0:Rw kBlob H F Aa0 a0) (hca0:na0≤ca0) (hna0:na0=a0.length):CallsH Tryz.prog 36 #[.slice Aa0 na0 ca0] H w0 (F) (S36 F H r):=by
 refine Co C36 Tryz.func36 Tryz.ntmps36 ?_
 subst hna0
 unfold smithyardref7_bytesOf.f at heq
 refine Sa 1<|Zd 1<|Sa 1<|Zd 1<|Sa 2<|Zd 1<|An 2 ?_
 exact Gt 0 [] (((smithyardref7_bytesOf.l2_c (e1:=smithyardref7_bytesOf.e1) (smithyardref7_bytesOf.e1_c)) big) a0 _ _ 0 0 hra0 hca0 heq)
noncomputable def C35:Ctx:={ P:=Tryz.prog,f:=35,N:=36,c:=bodyOf Tryz.f35 }
def S35 (F:List Ch) (H0:Hp) (r:Bool) (v:Value) (H:Hp) (cs:List Ch):Prop:=H0=H∧v=.bool r∧F=cs
theorem smithyardref1_IsDigest.e1_c [Wz w0] {r:Bool}:∀ (a0:ByteArray) ,smithyardref1_IsDigest.e1 a0=some r→RunH C35 (S35 F H r) H w0 [.c [1,1,0],.c [1,1,1]] [(0,.string a0)] H (F):=by
 intro a0  heq
 unfold smithyardref1_IsDigest.e1 at heq
 refine Sa 0<|Zd 4 ?_
 obtain rfl:=Option.some.inj heq
 exact RunH.done (by kernel_rfl) Tryz.func35 (v:=.bool ((a0.size:Int) == 16)) (by kernel_rfl) ⟨rfl,rfl,rfl⟩
theorem smithyardref1_IsDigest.l2_c [Wz w0] {r:Bool} (e1:ByteArray→Option Bool)
  (he1:∀ (a0:ByteArray) ,e1 a0=some r→RunH C35 (S35 F H r) H w0 [.c [1,1,0],.c [1,1,1]] [(0,.string a0)] H (F)):∀ (k:Nat),∀ (a0:ByteArray) (v_i3:Int) ,smithyardref1_IsDigest.l2 e1 k a0 v_i3=some r→RunH C35 (S35 F H r) H w0 [.c [1,0,1,0,0],.l [1,0,1,0,0],.b 0,.c [1,1]] [(0,.string a0),(3,iv v_i3)] H (F):=by
 intro k
 induction k with
 | zero=>intro a0 v_i3  heq; exact nomatch (show (none:Option Bool)=some r from heq)
 | succ k ihk =>
  intro a0 v_i3  heq
  rw [smithyardref1_IsDigest.l2] at heq
  refine Sa 2<|Zd 4 ?_
  refine Cb heq ?_ ?_
  ·intro hb1 heq
   refine An 4 ?_
   obtain ⟨t1,ht1,heq⟩:=bind_some heq
   have K1:RunH C35 (S35 F H r) H w0 [.c [1,0,1,0,0,1,0,0,1],.b 1,.c [1,0,1,0,0,1,1],.l [1,0,1,0,0],.b 0,.c [1,1]] [(0,.string a0),(3,iv v_i3),(32,.bool t1)] H (F):=by
    refine Cb heq ?_ ?_
    ·intro hb6 heq
     refine Sa 1<|Zd 1 ?_
     obtain rfl:=Option.some.inj heq
     exact RunH.done (by kernel_rfl) Tryz.func35 (v:=.bool false) (by kernel_rfl) ⟨rfl,rfl,rfl⟩
    ·intro hb6 heq
     refine Sa 2<|Zd 3<|An 1 ?_
     exact Gt 0 [] (ihk a0 (w64 (v_i3+1)) heq)
   replace heq:=ht1
   refine Sa 0 ?_
   obtain ⟨hn1,heq⟩:=guard?_some heq
   refine Zv 5 [n2 hn1] ?_
   rcases bool_cases (decide (48≤(bt a0 v_i3))) with hb2 | hb2
   ·replace heq:=bif_true hb2 heq
    refine Zs 14 (congrArg Value.bool hb2) ?_
    obtain ⟨hn2,heq⟩:=guard?_some heq
    refine Zv 11 [n2 hn2] ?_
    rcases bool_cases (decide ((bt a0 v_i3)≤57)) with hb3 | hb3
    ·replace heq:=bif_true hb3 heq
     refine Zs 20 (congrArg Value.bool hb3)<|Zk 23 ?_
     obtain rfl:=Option.some.inj heq
     refine Dn ?_
     exact Gt 0 [] (K1)
    ·replace heq:=bif_false hb3 heq
     refine Zs 20 (congrArg Value.bool hb3) ?_
     obtain ⟨hn3,heq⟩:=guard?_some heq
     refine Zv 16 [n2 hn3] ?_
     rcases bool_cases (decide (97≤(bt a0 v_i3))) with hb4 | hb4
     ·replace heq:=bif_true hb4 heq
      refine Zs 25 (congrArg Value.bool hb4) ?_
      obtain ⟨hn4,heq⟩:=guard?_some heq
      refine Zv 23 [n2 hn4] ?_
      obtain rfl:=Option.some.inj heq
      refine Dn ?_
      exact Gt 0 [] (K1)
     ·replace heq:=bif_false hb4 heq
      refine Zs 25 (congrArg Value.bool hb4)<|Zk 23 ?_
      obtain rfl:=Option.some.inj heq
      refine Dn ?_
      exact Gt 0 [] (K1)
   ·replace heq:=bif_false hb2 heq
    refine Zs 14 (congrArg Value.bool hb2) ?_
    obtain ⟨hn5,heq⟩:=guard?_some heq
    refine Zv 16 [n2 hn5] ?_
    rcases bool_cases (decide (97≤(bt a0 v_i3))) with hb5 | hb5
    ·replace heq:=bif_true hb5 heq
     refine Zs 25 (congrArg Value.bool hb5) ?_
     obtain ⟨hn6,heq⟩:=guard?_some heq
     refine Zv 23 [n2 hn6] ?_
     obtain rfl:=Option.some.inj heq
     refine Dn ?_
     exact Gt 0 [] (K1)
    ·replace heq:=bif_false hb5 heq
     refine Zs 25 (congrArg Value.bool hb5)<|Zk 23 ?_
     obtain rfl:=Option.some.inj heq
     refine Dn ?_
     exact Gt 0 [] (K1)
  ·intro hb1 heq
   refine An 2 ?_
   exact Gt 0 [] (he1 a0 heq)
theorem smithyardref1_IsDigest_c [Wz w0] {a0:ByteArray} {r:Bool} (heq:smithyardref1_IsDigest.f a0=some r):CallsH Tryz.prog 35 #[.string a0] H w0 (F) (S35 F H r):=by
 refine Co C35 Tryz.func35 Tryz.ntmps35 ?_
 unfold smithyardref1_IsDigest.f at heq
 refine Sa 1<|Zd 1<|Sa 2<|Zd 1<|An 2 ?_
 exact Gt 0 [] (((smithyardref1_IsDigest.l2_c (e1:=smithyardref1_IsDigest.e1) (smithyardref1_IsDigest.e1_c)) big) a0 0 heq)
noncomputable def C37:Ctx:={ P:=Tryz.prog,f:=37,N:=30,c:=bodyOf Tryz.f37 }
def S37 (F:List Ch) (H0:Hp) (r:Int) (v:Value) (H:Hp) (cs:List Ch):Prop:=H0=H∧v=iv r∧F=cs
theorem smithyardref7_rising.e1_c [Wz w0] {r:Int}:smithyardref7_rising.e1=some r→RunH C37 (S37 F H r) H w0 [.c [1,1,0],.c [1,1,1]] [] H (F):=by
 intro   heq
 unfold smithyardref7_rising.e1 at heq
 refine Sa 0<|Zd 1 ?_
 obtain rfl:=Option.some.inj heq
 exact RunH.done (by kernel_rfl) Tryz.func37 (v:=iv 0) (by kernel_rfl) ⟨rfl,rfl,rfl⟩
theorem smithyardref7_rising.l2_c [Wz w0] {r:Int} (e1:Option Int)
  (he1:e1=some r→RunH C37 (S37 F H r) H w0 [.c [1,1,0],.c [1,1,1]] [] H (F)):∀ (k:Nat),∀ (a0:List ByteArray) (Aa0:Option Addr) (ca0:Nat) (v_i3:Int) ,Rw Kd.string H F Aa0 a0→a0.length≤ca0→smithyardref7_rising.l2 e1 k a0 v_i3=some r→RunH C37 (S37 F H r) H w0 [.c [1,0,1,0,0],.l [1,0,1,0,0],.b 0,.c [1,1]] [(0,.slice Aa0 a0.length ca0),(3,iv v_i3)] H (F):=by
 intro k
 induction k with
 | zero=>intro a0 Aa0 ca0 v_i3 hra0 hca0 heq; exact nomatch (show (none:Option Int)=some r from heq)
 | succ k ihk =>
  intro a0 Aa0 ca0 v_i3 hra0 hca0 heq
  rw [smithyardref7_rising.l2] at heq
  refine Sa 2<|Zd 4 ?_
  refine Cb heq ?_ ?_
  ·intro hb1 heq
   refine Sa 5 ?_
   obtain ⟨x1,hx1,heq⟩:=bind_some heq
   obtain ⟨ha1,cs1,hK1,hcc1⟩:=hra0.get hx1
   obtain rfl:cs1=[.string x1]:=hK1
   refine Zv 4 [nx ha1 hx1,er hcc1 0 0] ?_
   obtain ⟨y1,hy1,heq⟩:=bind_some heq
   refine RgH.does (cal 14 (smithyardref1_IsDigest_c hy1 )) ?_
   rintro _ _ _ _ ⟨_,rfl,rfl,rfl,rfl⟩
   refine Zd 6 ?_
   refine Cb heq ?_ ?_
   ·intro hb2 heq
    refine Sa 1<|Zd 1 ?_
    obtain rfl:=Option.some.inj heq
    exact RunH.done (by kernel_rfl) Tryz.func37 (v:=iv 3) (by kernel_rfl) ⟨rfl,rfl,rfl⟩
   ·intro hb2 heq
    refine An 2 ?_
    obtain ⟨t1,ht1,heq⟩:=bind_some heq
    have K1:RunH C37 (S37 F H r) H w0 [.c [1,0,1,0,0,1,0,0,1,1],.b 1,.c [1,0,1,0,0,1,1],.l [1,0,1,0,0],.b 0,.c [1,1]] [(0,.slice Aa0 a0.length ca0),(3,iv v_i3),(29,.bool t1)] H (F):=by
     refine Cb heq ?_ ?_
     ·intro hb4 heq
      refine Sa 1<|Zd 1 ?_
      obtain rfl:=Option.some.inj heq
      exact RunH.done (by kernel_rfl) Tryz.func37 (v:=iv 8) (by kernel_rfl) ⟨rfl,rfl,rfl⟩
     ·intro hb4 heq
      refine Sa 2<|Zd 3<|An 1 ?_
      exact Gt 0 [] (ihk a0 _ _ (w64 (v_i3+1)) hra0 hca0 heq)
    replace heq:=ht1
    refine Sd 0 14 [] [3,3,3,3,3,3,3,3,3,3,3,3,3,3]<|Zr [0,1,2] 11 [] (Pk 0 []) (Pk 0 []) ?_
    rcases bool_cases (decide (0<v_i3)) with hb3 | hb3
    ·replace heq:=bif_true hb3 heq
     refine Zu 18 (congrArg Value.bool hb3) ?_
     obtain ⟨x2,hx2,heq⟩:=bind_some heq
     obtain ⟨ha2,cs2,hK2,hcc2⟩:=hra0.get hx2
     obtain rfl:cs2=[.string x2]:=hK2
     obtain ⟨x3,hx3,heq⟩:=bind_some heq
     obtain ⟨ha3,cs3,hK3,hcc3⟩:=hra0.get hx3
     obtain rfl:cs3=[.string x3]:=hK3
     refine Zr [3,4,5,6,7,8,9,10,11,12,13] 0 [nx ha2 hx2,er hcc2 0 0,nx ha3 hx3,er hcc3 0 0] (Pk 0 []) (Pk 0 []) ?_
     obtain rfl:=Option.some.inj heq
     refine DrH.done (by kernel_rfl) ?_
     exact Gt 0 [] (K1)
    ·replace heq:=bif_false hb3 heq
     refine Zu 18 (congrArg Value.bool hb3)<|Zr [3,4,5,6,7,8,9,10,11,12,13] 0 [] (Pk 0 []) (Pk 0 []) ?_
     obtain rfl:=Option.some.inj heq
     refine DrH.done (by kernel_rfl) ?_
     exact Gt 0 [] (K1)
  ·intro hb1 heq
   refine An 2 ?_
   exact Gt 0 [] (he1 heq)
theorem smithyardref7_rising_c [Wz w0] {a0:List ByteArray} {Aa0:Option Addr} {na0 ca0:Nat} {r:Int} (heq:smithyardref7_rising.f a0=some r) (hra0:Rw Kd.string H F Aa0 a0) (hca0:na0≤ca0) (hna0:na0=a0.length):CallsH Tryz.prog 37 #[.slice Aa0 na0 ca0] H w0 (F) (S37 F H r):=by
 refine Co C37 Tryz.func37 Tryz.ntmps37 ?_
 subst hna0
 unfold smithyardref7_rising.f at heq
 refine Sa 1<|Zd 1<|Sa 2<|Zd 1<|An 2 ?_
 exact Gt 0 [] (((smithyardref7_rising.l2_c (e1:=smithyardref7_rising.e1) (smithyardref7_rising.e1_c)) big) a0 _ _ 0 hra0 hca0 heq)
noncomputable def C20:Ctx:={ P:=Tryz.prog,f:=20,N:=128,c:=bodyOf Tryz.f20 }
def S20 (F:List Ch) (H0:Hp) (r:Int) (v:Value) (H:Hp) (cs:List Ch):Prop:=H0=H∧v=iv r∧F=cs
theorem smithyardref7_CheckCache.e2_c [Wz w0] {r:Int}:smithyardref7_CheckCache.e2=some r→RunH C20 (S20 F H r) H w0 [.c [1,1,1,1,1,1,1,0],.c [1,1,1,1,1,1,1,1]] [] H (F):=by
 intro   heq
 unfold smithyardref7_CheckCache.e2 at heq
 refine Sa 0<|Zd 1 ?_
 obtain rfl:=Option.some.inj heq
 exact RunH.done (by kernel_rfl) Tryz.func20 (v:=iv 0) (by kernel_rfl) ⟨rfl,rfl,rfl⟩
theorem smithyardref7_CheckCache.l3_c [Wz w0] {r:Int} (e2:Option Int)
  (he2:e2=some r→RunH C20 (S20 F H r) H w0 [.c [1,1,1,1,1,1,1,0],.c [1,1,1,1,1,1,1,1]] [] H (F)):∀ (k:Nat),∀ (a0:Cache) (Aa0_2:Option Addr) (ca0_2:Nat) (Aa0_3:Option Addr) (ca0_3 g1:Nat) (v_i5:Int) ,Rw kBlob H F Aa0_2 a0.Blobs→a0.Blobs.length≤ca0_2→Rw kEntry H F Aa0_3 a0.Entries→a0.Entries.length≤ca0_3→smithyardref7_CheckCache.l3 e2 k a0 v_i5=some r→RunH C20 (S20 F H r) H w0 [.c [1,1,1,1,1,1,0,1,0,0],.l [1,1,1,1,1,1,0,1,0,0],.b 2,.c [1,1,1,1,1,1,1]] [(1,pg g1 0),(5,iv v_i5)] H ((some (g1,.cells #[iv a0.Room,iv a0.Lease,.slice Aa0_2 a0.Blobs.length ca0_2,.slice Aa0_3 a0.Entries.length ca0_3] 25 (0,0)))::F):=by
 intro k
 induction k with
 | zero=>intro a0 Aa0_2 ca0_2 Aa0_3 ca0_3 g1 v_i5 hra0_2 hca0_2 hra0_3 hca0_3 heq; exact nomatch (show (none:Option Int)=some r from heq)
 | succ k ihk =>
  intro a0 Aa0_2 ca0_2 Aa0_3 ca0_3 g1 v_i5 hra0_2 hca0_2 hra0_3 hca0_3 heq
  rw [smithyardref7_CheckCache.l3] at heq
  refine Sa 2<|Zw 5 [bx 0 3] ?_
  refine Cb heq ?_ ?_
  ·intro hb6 heq
   refine Sa 4 ?_
   obtain ⟨x1,hx1,heq⟩:=bind_some heq
   obtain ⟨ha1,cs1,hK1,hcc1⟩:=hra0_3.get hx1
   obtain ⟨A1,c1,rfl,hc1,hr1⟩:=kEntry_open hK1
   refine Zv 5 ([bx 0 3,nx ha1 hx1]++ers hcc1 1) ?_
   refine RgH.does (DoesH.new (d:=6) (v:=fun g=>.pointer (some ⟨g,0,none⟩)) (o:=fun g=>.cells #[.string ByteArray.empty,.slice none 0 0,iv 0] 40 (0,0)) (fun g=>by kernel_rfl)) ?_
   rintro _ _ _ _ ⟨g2,rfl,rfl,rfl⟩
   refine RgH.does (DoesH.store (k:=0) (g:=g2) (off:=0) (v:=.agg #[.string x1.Key,.slice A1 x1.Refs.length c1,iv x1.Used]) (cells':=#[.string x1.Key,.slice A1 x1.Refs.length c1,iv x1.Used]) (by kernel_rfl) rfl (by kernel_rfl) (by kernel_rfl)) ?_
   rintro _ _ _ _ ⟨rfl,rfl,rfl⟩
   refine Dn<|Sa 2<|Zv 2 [bx 0 0] ?_
   obtain ⟨y4,hy4,heq⟩:=bind_some heq
   refine RgH.does (cal 98 (smithyardref1_IsDigest_c hy4 )) ?_
   rintro _ _ _ _ ⟨_,rfl,rfl,rfl,rfl⟩
   refine Zd 4 ?_
   refine Cb heq ?_ ?_
   ·intro hb7 heq
    refine Sa 1<|Zd 1 ?_
    obtain rfl:=Option.some.inj heq
    refine Up 2 [] ?_
    exact RunH.done (by kernel_rfl) Tryz.func20 (v:=iv 3) (by kernel_rfl) ⟨rfl,rfl,rfl⟩
   ·intro hb7 heq
    refine Sa 3<|Zw 4 [bx 0 1] ?_
    refine Cb heq ?_ ?_
    ·intro hb8 heq
     refine Sa 1<|Zd 1 ?_
     obtain rfl:=Option.some.inj heq
     refine Up 2 [] ?_
     exact RunH.done (by kernel_rfl) Tryz.func20 (v:=iv 2) (by kernel_rfl) ⟨rfl,rfl,rfl⟩
    ·intro hb8 heq
     refine Sa 3<|Zv 2 [bx 0 1] ?_
     obtain ⟨y5,hy5,heq⟩:=bind_some heq
     refine RgH.does (cal 106 (smithyardref7_rising_c hy5 (Rw.of hr1) hc1 rfl)) ?_
     rintro _ _ _ _ ⟨_,rfl,rfl,rfl,rfl⟩
     refine Zd 4<|Sa 1<|Zd 2 ?_
     refine Cb heq ?_ ?_
     ·intro hb9 heq
      refine Sa 1<|Zd 2 ?_
      obtain rfl:=Option.some.inj heq
      refine Up 2 [] ?_
      exact RunH.done (by kernel_rfl) Tryz.func20 (v:=iv y5) (by kernel_rfl) ⟨rfl,rfl,rfl⟩
     ·intro hb9 heq
      refine Sa 3<|Zv 2 [bx 0 2] ?_
      obtain ⟨y6,hy6,heq⟩:=bind_some heq
      refine RgH.does (cal 112 (smithyardref7_within_c hy6 )) ?_
      rintro _ _ _ _ ⟨_,rfl,rfl,rfl,rfl⟩
      refine Zd 4 ?_
      refine Cb heq ?_ ?_
      ·intro hb10 heq
       refine Sa 1<|Zd 1 ?_
       obtain rfl:=Option.some.inj heq
       refine Up 2 [] ?_
       exact RunH.done (by kernel_rfl) Tryz.func20 (v:=iv 1) (by kernel_rfl) ⟨rfl,rfl,rfl⟩
      ·intro hb10 heq
       refine An 2 ?_
       obtain ⟨t2,ht2,heq⟩:=bind_some heq
       have K4:RunH C20 (S20 F H r) H w0 [.c [1,1,1,1,1,1,0,1,0,0,1,0,0,1,1,1,1,1,1],.b 3,.c [1,1,1,1,1,1,0,1,0,0,1,1],.l [1,1,1,1,1,1,0,1,0,0],.b 2,.c [1,1,1,1,1,1,1]] [(1,pg g1 0),(5,iv v_i5),(127,.bool t2)] H ((some (g1,.cells #[iv a0.Room,iv a0.Lease,.slice Aa0_2 a0.Blobs.length ca0_2,.slice Aa0_3 a0.Entries.length ca0_3] 25 (0,0)))::F):=by
        refine Cb heq ?_ ?_
        ·intro hb12 heq
         refine Sa 1<|Zd 1 ?_
         obtain rfl:=Option.some.inj heq
         refine Up 1 [] ?_
         exact RunH.done (by kernel_rfl) Tryz.func20 (v:=iv 8) (by kernel_rfl) ⟨rfl,rfl,rfl⟩
        ·intro hb12 heq
         refine Sa 2<|Zd 3<|An 1 ?_
         exact Gt 1 [0] (ihk a0 _ _ _ _ _ (w64 (v_i5+1)) hra0_2 hca0_2 hra0_3 hca0_3 heq)
       replace heq:=ht2
       refine Sd 2 14 [0,1] [3,3,3,3,3,3,3,3,3,3,3,3,3,3]<|Zr [0,1,2] 11 [] (Pk 2 [0,1]) (Pk 2 [0,1]) ?_
       rcases bool_cases (decide (0<v_i5)) with hb11 | hb11
       ·replace heq:=bif_true hb11 heq
        refine Zu 116 (congrArg Value.bool hb11) ?_
        obtain ⟨x2,hx2,heq⟩:=bind_some heq
        obtain ⟨ha2,cs2,hK2,hcc2⟩:=hra0_3.get hx2
        obtain ⟨A2,c2,rfl,hc2,hr2⟩:=kEntry_open hK2
        refine Zr [3,4,5,6,7,8,9,10,11,12,13] 0 [bx 0 0,bx 1 3,nx ha2 hx2,er hcc2 2 0] (Pk 2 [0,1]) (Pk 2 [0,1]) ?_
        obtain rfl:=Option.some.inj heq
        refine DrH.done (by kernel_rfl) ?_
        exact Gt 2 [1] (K4)
       ·replace heq:=bif_false hb11 heq
        refine Zu 116 (congrArg Value.bool hb11)<|Zr [3,4,5,6,7,8,9,10,11,12,13] 0 [] (Pk 2 [0,1]) (Pk 2 [0,1]) ?_
        obtain rfl:=Option.some.inj heq
        refine DrH.done (by kernel_rfl) ?_
        exact Gt 2 [1] (K4)
  ·intro hb6 heq
   refine An 2 ?_
   exact Gt 1 [] (he2 heq)
theorem smithyardref7_CheckCache.e1_c [Wz w0] {r:Int}:∀ (a0:Cache) (Aa0_2:Option Addr) (ca0_2:Nat) (Aa0_3:Option Addr) (ca0_3 g1:Nat) ,Rw kBlob H F Aa0_2 a0.Blobs→a0.Blobs.length≤ca0_2→Rw kEntry H F Aa0_3 a0.Entries→a0.Entries.length≤ca0_3→smithyardref7_CheckCache.e1 a0=some r→RunH C20 (S20 F H r) H w0 [.c [1,1,1,1,0,0],.c [1,1,1,1,0,1],.c [1,1,1,1,1]] [(1,pg g1 0)] H ((some (g1,.cells #[iv a0.Room,iv a0.Lease,.slice Aa0_2 a0.Blobs.length ca0_2,.slice Aa0_3 a0.Entries.length ca0_3] 25 (0,0)))::F):=by
 intro a0 Aa0_2 ca0_2 Aa0_3 ca0_3 g1 hra0_2 hca0_2 hra0_3 hca0_3 heq
 unfold smithyardref7_CheckCache.e1 at heq
 refine Sd 1 6 [0] [3,3,0,3,3,3]<|Zr [0,1,3,4] 2 [bx 0 2,bx 0 0] (Pk 1 [0]) (Pk 1 [0]) ?_
 obtain ⟨y3,hy3,heq⟩:=bind_some heq
 refine Dz 2 (cal 76 (smithyardref7_bytesOf_c hy3 (hra0_2.wk (fun _ h=>(.tail _ h))) hca0_2 rfl)) ?_
 rintro _ _ _ _ ⟨_,rfl,rfl,rfl,rfl⟩
 refine ⟨fun _ w hh=>⟨fun _=>(Pk 1 [0]) w hh,fun _=>(Pk 1 [0]) w hh,(fun h=>by cases h)⟩,?_⟩
 refine Zr [5] 0 [] (Pk 1 [0]) (Pk 1 [0]) ?_
 refine DrH.done (by kernel_rfl) ?_
 refine Cb heq ?_ ?_
 ·intro hb4 heq
  refine Sa 1<|Zd 1 ?_
  obtain rfl:=Option.some.inj heq
  refine Up 1 [] ?_
  exact RunH.done (by kernel_rfl) Tryz.func20 (v:=iv 16) (by kernel_rfl) ⟨rfl,rfl,rfl⟩
 ·intro hb4 heq
  refine Sa 3<|Zw 4 [bx 0 3] ?_
  refine Cb heq ?_ ?_
  ·intro hb5 heq
   refine Sa 1<|Zd 1 ?_
   obtain rfl:=Option.some.inj heq
   refine Up 1 [] ?_
   exact RunH.done (by kernel_rfl) Tryz.func20 (v:=iv 2) (by kernel_rfl) ⟨rfl,rfl,rfl⟩
  ·intro hb5 heq
   refine Sa 3<|Zd 1<|An 2 ?_
   exact Gt 1 [0] (((smithyardref7_CheckCache.l3_c (e2:=smithyardref7_CheckCache.e2) (smithyardref7_CheckCache.e2_c)) big) a0 _ _ _ _ _ 0 hra0_2 hca0_2 hra0_3 hca0_3 heq)
theorem smithyardref7_CheckCache.l4_c [Wz w0] {r:Int} (e1:Cache→Option Int)
  (he1:∀ (a0:Cache) (Aa0_2:Option Addr) (ca0_2:Nat) (Aa0_3:Option Addr) (ca0_3 g1:Nat) ,Rw kBlob H F Aa0_2 a0.Blobs→a0.Blobs.length≤ca0_2→Rw kEntry H F Aa0_3 a0.Entries→a0.Entries.length≤ca0_3→e1 a0=some r→RunH C20 (S20 F H r) H w0 [.c [1,1,1,1,0,0],.c [1,1,1,1,0,1],.c [1,1,1,1,1]] [(1,pg g1 0)] H ((some (g1,.cells #[iv a0.Room,iv a0.Lease,.slice Aa0_2 a0.Blobs.length ca0_2,.slice Aa0_3 a0.Entries.length ca0_3] 25 (0,0)))::F)):∀ (k:Nat),∀ (a0:Cache) (Aa0_2:Option Addr) (ca0_2:Nat) (Aa0_3:Option Addr) (ca0_3 g1:Nat) (v_i3:Int) ,Rw kBlob H F Aa0_2 a0.Blobs→a0.Blobs.length≤ca0_2→Rw kEntry H F Aa0_3 a0.Entries→a0.Entries.length≤ca0_3→smithyardref7_CheckCache.l4 e1 k a0 v_i3=some r→RunH C20 (S20 F H r) H w0 [.c [1,1,1,0,1,0,0],.l [1,1,1,0,1,0,0],.b 0,.c [1,1,1,1]] [(1,pg g1 0),(3,iv v_i3)] H ((some (g1,.cells #[iv a0.Room,iv a0.Lease,.slice Aa0_2 a0.Blobs.length ca0_2,.slice Aa0_3 a0.Entries.length ca0_3] 25 (0,0)))::F):=by
 intro k
 induction k with
 | zero=>intro a0 Aa0_2 ca0_2 Aa0_3 ca0_3 g1 v_i3 hra0_2 hca0_2 hra0_3 hca0_3 heq; exact nomatch (show (none:Option Int)=some r from heq)
 | succ k ihk =>
  intro a0 Aa0_2 ca0_2 Aa0_3 ca0_3 g1 v_i3 hra0_2 hca0_2 hra0_3 hca0_3 heq
  rw [smithyardref7_CheckCache.l4] at heq
  refine Sa 2<|Zw 5 [bx 0 2] ?_
  refine Cb heq ?_ ?_
  ·intro hb13 heq
   refine Sa 4 ?_
   obtain ⟨x3,hx3,heq⟩:=bind_some heq
   obtain ⟨ha3,cs3,hK3,hcc3⟩:=hra0_2.get hx3
   obtain ⟨rfl⟩:=kBlob_open hK3
   refine Zv 5 ([bx 0 2,nx ha3 hx3]++ers hcc3 1) ?_
   refine RgH.does (DoesH.new (d:=4) (v:=fun g=>.pointer (some ⟨g,0,none⟩)) (o:=fun g=>.cells #[.string ByteArray.empty,iv 0,iv 0,iv 0,iv 0] 37 (0,0)) (fun g=>by kernel_rfl)) ?_
   rintro _ _ _ _ ⟨g3,rfl,rfl,rfl⟩
   refine RgH.does (DoesH.store (k:=0) (g:=g3) (off:=0) (v:=.agg #[.string x3.Digest,iv x3.Size,iv x3.Used,iv x3.Until,iv x3.Pins]) (cells':=#[.string x3.Digest,iv x3.Size,iv x3.Used,iv x3.Until,iv x3.Pins]) (by kernel_rfl) rfl (by kernel_rfl) (by kernel_rfl)) ?_
   rintro _ _ _ _ ⟨rfl,rfl,rfl⟩
   refine Dn<|Sa 2<|Zv 2 [bx 0 0] ?_
   obtain ⟨y7,hy7,heq⟩:=bind_some heq
   refine RgH.does (cal 36 (smithyardref1_IsDigest_c hy7 )) ?_
   rintro _ _ _ _ ⟨_,rfl,rfl,rfl,rfl⟩
   refine Zd 4 ?_
   refine Cb heq ?_ ?_
   ·intro hb14 heq
    refine Sa 1<|Zd 1 ?_
    obtain rfl:=Option.some.inj heq
    refine Up 2 [] ?_
    exact RunH.done (by kernel_rfl) Tryz.func20 (v:=iv 3) (by kernel_rfl) ⟨rfl,rfl,rfl⟩
   ·intro hb14 heq
    refine An 3 ?_
    obtain ⟨t3,ht3,heq⟩:=bind_some heq
    have K6:RunH C20 (S20 F H r) H w0 [.c [1,1,1,0,1,0,0,1,0,0,1,1,0,1],.c [1,1,1,0,1,0,0,1,0,0,1,1,1],.b 1,.c [1,1,1,0,1,0,0,1,1],.l [1,1,1,0,1,0,0],.b 0,.c [1,1,1,1]] [(1,pg g1 0),(3,iv v_i3),(4,pg g3 0),(59,.bool t3)] H ((some (g3,.cells #[.string x3.Digest,iv x3.Size,iv x3.Used,iv x3.Until,iv x3.Pins] 37 (0,0)))::(some (g1,.cells #[iv a0.Room,iv a0.Lease,.slice Aa0_2 a0.Blobs.length ca0_2,.slice Aa0_3 a0.Entries.length ca0_3] 25 (0,0)))::F):=by
     refine Cb heq ?_ ?_
     ·intro hb18 heq
      refine Sa 1<|Zd 1 ?_
      obtain rfl:=Option.some.inj heq
      refine Up 2 [] ?_
      exact RunH.done (by kernel_rfl) Tryz.func20 (v:=iv 1) (by kernel_rfl) ⟨rfl,rfl,rfl⟩
     ·intro hb18 heq
      refine An 2 ?_
      obtain ⟨t4,ht4,heq⟩:=bind_some heq
      have K7:RunH C20 (S20 F H r) H w0 [.c [1,1,1,0,1,0,0,1,0,0,1,1,1,1],.b 1,.c [1,1,1,0,1,0,0,1,1],.l [1,1,1,0,1,0,0],.b 0,.c [1,1,1,1]] [(1,pg g1 0),(3,iv v_i3),(73,.bool t4)] H ((some (g1,.cells #[iv a0.Room,iv a0.Lease,.slice Aa0_2 a0.Blobs.length ca0_2,.slice Aa0_3 a0.Entries.length ca0_3] 25 (0,0)))::F):=by
       refine Cb heq ?_ ?_
       ·intro hb20 heq
        refine Sa 1<|Zd 1 ?_
        obtain rfl:=Option.some.inj heq
        refine Up 1 [] ?_
        exact RunH.done (by kernel_rfl) Tryz.func20 (v:=iv 8) (by kernel_rfl) ⟨rfl,rfl,rfl⟩
       ·intro hb20 heq
        refine Sa 2<|Zd 3<|An 1 ?_
        exact Gt 1 [0] (ihk a0 _ _ _ _ _ (w64 (v_i3+1)) hra0_2 hca0_2 hra0_3 hca0_3 heq)
      replace heq:=ht4
      refine Sd 2 14 [0,1] [3,3,3,3,3,3,3,3,3,3,3,3,3,3]<|Zr [0,1,2] 11 [] (Pk 2 [0,1]) (Pk 2 [0,1]) ?_
      rcases bool_cases (decide (0<v_i3)) with hb19 | hb19
      ·replace heq:=bif_true hb19 heq
       refine Zu 62 (congrArg Value.bool hb19) ?_
       obtain ⟨x4,hx4,heq⟩:=bind_some heq
       obtain ⟨ha4,cs4,hK4,hcc4⟩:=hra0_2.get hx4
       obtain ⟨rfl⟩:=kBlob_open hK4
       refine Zr [3,4,5,6,7,8,9,10,11,12,13] 0 [bx 0 0,bx 1 2,nx ha4 hx4,er hcc4 2 0] (Pk 2 [0,1]) (Pk 2 [0,1]) ?_
       obtain rfl:=Option.some.inj heq
       refine DrH.done (by kernel_rfl) ?_
       exact Gt 2 [1] (K7)
      ·replace heq:=bif_false hb19 heq
       refine Zu 62 (congrArg Value.bool hb19)<|Zr [3,4,5,6,7,8,9,10,11,12,13] 0 [] (Pk 2 [0,1]) (Pk 2 [0,1]) ?_
       obtain rfl:=Option.some.inj heq
       refine DrH.done (by kernel_rfl) ?_
       exact Gt 2 [1] (K7)
    replace heq:=ht3
    refine Sa 0<|Zv 2 [bx 0 1] ?_
    obtain ⟨y8,hy8,heq⟩:=bind_some heq
    refine RgH.does (cal 40 (smithyardref7_within_c hy8 )) ?_
    rintro _ _ _ _ ⟨_,rfl,rfl,rfl,rfl⟩
    refine Zk 5 ?_
    rcases bool_cases (!y8) with hb15 | hb15
    ·replace heq:=bif_true hb15 heq
     refine Zs 42 (congrArg Value.bool hb15)<|Zk 22 ?_
     obtain rfl:=Option.some.inj heq
     refine Dn ?_
     exact Gt 2 [0,1] (K6)
    ·replace heq:=bif_false hb15 heq
     refine Zs 42 (congrArg Value.bool hb15)<|Zv 7 [bx 0 2] ?_
     obtain ⟨y9,hy9,heq⟩:=bind_some heq
     refine RgH.does (cal 45 (smithyardref7_within_c hy9 )) ?_
     rintro _ _ _ _ ⟨_,rfl,rfl,rfl,rfl⟩
     refine Zk 11 ?_
     rcases bool_cases (!y9) with hb16 | hb16
     ·replace heq:=bif_true hb16 heq
      refine Zs 48 (congrArg Value.bool hb16)<|Zk 22 ?_
      obtain rfl:=Option.some.inj heq
      refine Dn ?_
      exact Gt 2 [0,1] (K6)
     ·replace heq:=bif_false hb16 heq
      refine Zs 48 (congrArg Value.bool hb16)<|Zv 13 [bx 0 3] ?_
      obtain ⟨y10,hy10,heq⟩:=bind_some heq
      refine RgH.does (cal 51 (smithyardref7_within_c hy10 )) ?_
      rintro _ _ _ _ ⟨_,rfl,rfl,rfl,rfl⟩
      refine Zk 17 ?_
      rcases bool_cases (!y10) with hb17 | hb17
      ·replace heq:=bif_true hb17 heq
       refine Zs 54 (congrArg Value.bool hb17)<|Zk 22 ?_
       obtain rfl:=Option.some.inj heq
       refine Dn ?_
       exact Gt 2 [0,1] (K6)
      ·replace heq:=bif_false hb17 heq
       refine Zs 54 (congrArg Value.bool hb17)<|Zv 19 [bx 0 4] ?_
       obtain ⟨y11,hy11,heq⟩:=bind_some heq
       refine RgH.does (cal 57 (smithyardref7_within_c hy11 )) ?_
       rintro _ _ _ _ ⟨_,rfl,rfl,rfl,rfl⟩
       refine Zk 22 ?_
       obtain rfl:=Option.some.inj heq
       refine Dn ?_
       exact Gt 2 [0,1] (K6)
  ·intro hb13 heq
   refine An 3 ?_
   exact Gt 1 [0] (he1 a0 _ _ _ _ _ hra0_2 hca0_2 hra0_3 hca0_3 heq)
theorem smithyardref7_CheckCache_c [Wz w0] {a0:Cache} {Aa0_2:Option Addr} {na0_2 ca0_2:Nat} {Aa0_3:Option Addr} {na0_3 ca0_3:Nat} {r:Int} (heq:smithyardref7_CheckCache.f a0=some r) (hra0_2:Rw kBlob H F Aa0_2 a0.Blobs) (hca0_2:na0_2≤ca0_2) (hna0_2:na0_2=a0.Blobs.length) (hra0_3:Rw kEntry H F Aa0_3 a0.Entries) (hca0_3:na0_3≤ca0_3) (hna0_3:na0_3=a0.Entries.length):CallsH Tryz.prog 20 #[.agg #[iv a0.Room,iv a0.Lease,.slice Aa0_2 na0_2 ca0_2,.slice Aa0_3 na0_3 ca0_3]] H w0 (F) (S20 F H r):=by
 refine Co C20 Tryz.func20 Tryz.ntmps20 ?_
 subst hna0_2
 subst hna0_3
 unfold smithyardref7_CheckCache.f at heq
 refine Sa 1 ?_
 refine RgH.does (DoesH.new (d:=1) (v:=fun g=>.pointer (some ⟨g,0,none⟩)) (o:=fun g=>.cells #[iv a0.Room,iv a0.Lease,.slice Aa0_2 a0.Blobs.length ca0_2,.slice Aa0_3 a0.Entries.length ca0_3] 25 (0,0)) (fun g=>by kernel_rfl)) ?_
 rintro _ _ _ _ ⟨g1,rfl,rfl,rfl⟩
 refine Zd 2<|An 2 ?_
 obtain ⟨t1,ht1,heq⟩:=bind_some heq
 have K2:RunH C20 (S20 F H r) H w0 [.c [1,0,1],.c [1,1]] [(1,pg g1 0),(17,.bool t1)] H ((some (g1,.cells #[iv a0.Room,iv a0.Lease,.slice Aa0_2 a0.Blobs.length ca0_2,.slice Aa0_3 a0.Entries.length ca0_3] 25 (0,0)))::F):=by
  refine Cb heq ?_ ?_
  ·intro hb2 heq
   refine Sa 1<|Zd 1 ?_
   obtain rfl:=Option.some.inj heq
   refine Up 1 [] ?_
   exact RunH.done (by kernel_rfl) Tryz.func20 (v:=iv 1) (by kernel_rfl) ⟨rfl,rfl,rfl⟩
  ·intro hb2 heq
   refine Sa 3<|Zw 4 [bx 0 2] ?_
   refine Cb heq ?_ ?_
   ·intro hb3 heq
    refine Sa 1<|Zd 1 ?_
    obtain rfl:=Option.some.inj heq
    refine Up 1 [] ?_
    exact RunH.done (by kernel_rfl) Tryz.func20 (v:=iv 2) (by kernel_rfl) ⟨rfl,rfl,rfl⟩
   ·intro hb3 heq
    refine Sa 3<|Zd 1<|An 2 ?_
    exact Gt 1 [0] (((smithyardref7_CheckCache.l4_c (e1:=smithyardref7_CheckCache.e1) (smithyardref7_CheckCache.e1_c)) big) a0 _ _ _ _ _ 0 hra0_2 hca0_2 hra0_3 hca0_3 heq)
 replace heq:=ht1
 refine Sa 0<|Zv 2 [bx 0 0] ?_
 obtain ⟨y1,hy1,heq⟩:=bind_some heq
 refine RgH.does (cal 10 (smithyardref7_within_c hy1 )) ?_
 rintro _ _ _ _ ⟨_,rfl,rfl,rfl,rfl⟩
 refine Zk 5 ?_
 rcases bool_cases (!y1) with hb1 | hb1
 ·replace heq:=bif_true hb1 heq
  refine Zs 12 (congrArg Value.bool hb1)<|Zk 10 ?_
  obtain rfl:=Option.some.inj heq
  refine Dn ?_
  exact Gt 1 [0] (K2)
 ·replace heq:=bif_false hb1 heq
  refine Zs 12 (congrArg Value.bool hb1)<|Zv 7 [bx 0 1] ?_
  obtain ⟨y2,hy2,heq⟩:=bind_some heq
  refine RgH.does (cal 15 (smithyardref7_within_c hy2 )) ?_
  rintro _ _ _ _ ⟨_,rfl,rfl,rfl,rfl⟩
  refine Zk 10 ?_
  obtain rfl:=Option.some.inj heq
  refine Dn ?_
  exact Gt 1 [0] (K2)
noncomputable def C6:Ctx:={ P:=Tryz.prog,f:=6,N:=107,c:=bodyOf Tryz.f6 }
def S6 (F:List Ch) (H0:Hp) (r:ByteArray × Int) (v:Value) (H:Hp) (cs:List Ch):Prop:=H0=H∧v=.tuple #[.string r.1,iv r.2]∧F=cs
theorem smithyardref7_Text.e2_c [Wz w0] {r:ByteArray × Int}:∀ (v_s5:ByteArray) ,smithyardref7_Text.e2 v_s5=some r→RunH C6 (S6 F H r) H w0 [.c [1,1,1,1,1,0,0],.c [1,1,1,1,1,0,1],.c [1,1,1,1,1,1]] [(5,.string v_s5)] H (F):=by
 intro v_s5  heq
 unfold smithyardref7_Text.e2 at heq
 refine Sa 0<|Zd 3 ?_
 refine Cb heq ?_ ?_
 ·intro hb2 heq
  refine Sa 1<|Zd 2 ?_
  obtain rfl:=Option.some.inj heq
  exact RunH.done (by kernel_rfl) Tryz.func6 (v:=.tuple #[.string ({ data:=#[] }:ByteArray),iv 2]) (by kernel_rfl) ⟨rfl,rfl,rfl⟩
 ·intro hb2 heq
  refine Sa 2<|Zd 3 ?_
  obtain rfl:=Option.some.inj heq
  exact RunH.done (by kernel_rfl) Tryz.func6 (v:=.tuple #[.string v_s5,iv 0]) (by kernel_rfl) ⟨rfl,rfl,rfl⟩
theorem smithyardref7_Text.e4_c [Wz w0] {r:ByteArray × Int} (backl3:Cache→ByteArray→Int→Option (ByteArray × Int))
  (hbackl3:∀ (a0:Cache) (Aa0_2:Option Addr) (ca0_2:Nat) (Aa0_3:Option Addr) (ca0_3 g1:Nat) (v_s5:ByteArray) (v_i8:Int) ,Rw kBlob H F Aa0_2 a0.Blobs→a0.Blobs.length≤ca0_2→Rw kEntry H F Aa0_3 a0.Entries→a0.Entries.length≤ca0_3→backl3 a0 v_s5 v_i8=some r→RunH C6 (S6 F H r) H w0 [.c [1,1,1,1,0,1,0,0],.l [1,1,1,1,0,1,0,0],.b 2,.c [1,1,1,1,1]] [(1,pg g1 0),(5,.string v_s5),(8,iv v_i8)] H ((some (g1,.cells #[iv a0.Room,iv a0.Lease,.slice Aa0_2 a0.Blobs.length ca0_2,.slice Aa0_3 a0.Entries.length ca0_3] 25 (0,0)))::F)):∀ (a0:Cache) (Aa0_2:Option Addr) (ca0_2:Nat) (Aa0_3:Option Addr) (ca0_3 g1:Nat) (v_i8:Int) (v_s5:ByteArray) ,Rw kBlob H F Aa0_2 a0.Blobs→a0.Blobs.length≤ca0_2→Rw kEntry H F Aa0_3 a0.Entries→a0.Entries.length≤ca0_3→smithyardref7_Text.e4 backl3 a0 v_i8 v_s5=some r→RunH C6 (S6 F H r) H w0 [.c [1,1,1,1,0,1,0,0,1,0,0,1,1,1],.b 3,.c [1,1,1,1,0,1,0,0,1,1],.l [1,1,1,1,0,1,0,0],.b 2,.c [1,1,1,1,1]] [(1,pg g1 0),(5,.string v_s5),(8,iv v_i8)] H ((some (g1,.cells #[iv a0.Room,iv a0.Lease,.slice Aa0_2 a0.Blobs.length ca0_2,.slice Aa0_3 a0.Entries.length ca0_3] 25 (0,0)))::F):=by
 intro a0 Aa0_2 ca0_2 Aa0_3 ca0_3 g1 v_i8 v_s5 hra0_2 hca0_2 hra0_3 hca0_3 heq
 unfold smithyardref7_Text.e4 at heq
 refine Sa 0 ?_
 obtain ⟨hn9,heq⟩:=guard?_some heq
 refine Zw 3 [n1 hn9]<|Sa 1<|Zd 3<|An 1 ?_
 exact Gt 1 [0] (hbackl3 a0 _ _ _ _ _ (v_s5++({ data:=#[10] }:ByteArray)) (w64 (v_i8+1)) hra0_2 hca0_2 hra0_3 hca0_3 heq)
theorem smithyardref7_Text.l5_c [Wz w0] {r:ByteArray × Int} (e4:Cache→Int→ByteArray→Option (ByteArray × Int))
  (he4:∀ (a0:Cache) (Aa0_2:Option Addr) (ca0_2:Nat) (Aa0_3:Option Addr) (ca0_3 g1:Nat) (v_i8:Int) (v_s5:ByteArray) ,Rw kBlob H F Aa0_2 a0.Blobs→a0.Blobs.length≤ca0_2→Rw kEntry H F Aa0_3 a0.Entries→a0.Entries.length≤ca0_3→e4 a0 v_i8 v_s5=some r→RunH C6 (S6 F H r) H w0 [.c [1,1,1,1,0,1,0,0,1,0,0,1,1,1],.b 3,.c [1,1,1,1,0,1,0,0,1,1],.l [1,1,1,1,0,1,0,0],.b 2,.c [1,1,1,1,1]] [(1,pg g1 0),(5,.string v_s5),(8,iv v_i8)] H ((some (g1,.cells #[iv a0.Room,iv a0.Lease,.slice Aa0_2 a0.Blobs.length ca0_2,.slice Aa0_3 a0.Entries.length ca0_3] 25 (0,0)))::F)):∀ (k:Nat),∀ (a0:Cache) (Aa0_2:Option Addr) (ca0_2:Nat) (Aa0_3:Option Addr) (ca0_3 g1:Nat) (v_i8:Int) (x1:Entry) (A1:Option Addr) (c1 g2:Nat) (v_s5:ByteArray) (v_k10:Int) ,Rw kBlob H F Aa0_2 a0.Blobs→a0.Blobs.length≤ca0_2→Rw kEntry H F Aa0_3 a0.Entries→a0.Entries.length≤ca0_3→Kd.Row Kd.string H A1 x1.Refs→x1.Refs.length≤c1→smithyardref7_Text.l5 e4 k a0 v_i8 x1 v_s5 v_k10=some r→RunH C6 (S6 F H r) H w0 [.c [1,1,1,1,0,1,0,0,1,0,0,1,1,0,1,0,0],.l [1,1,1,1,0,1,0,0,1,0,0,1,1,0,1,0,0],.b 4,.c [1,1,1,1,0,1,0,0,1,0,0,1,1,1],.b 3,.c [1,1,1,1,0,1,0,0,1,1],.l [1,1,1,1,0,1,0,0],.b 2,.c [1,1,1,1,1]] [(1,pg g1 0),(5,.string v_s5),(8,iv v_i8),(9,pg g2 0),(10,iv v_k10)] H ((some (g2,.cells #[.string x1.Key,.slice A1 x1.Refs.length c1,iv x1.Used] 40 (0,0)))::(some (g1,.cells #[iv a0.Room,iv a0.Lease,.slice Aa0_2 a0.Blobs.length ca0_2,.slice Aa0_3 a0.Entries.length ca0_3] 25 (0,0)))::F):=by
 intro k
 induction k with
 | zero=>intro a0 Aa0_2 ca0_2 Aa0_3 ca0_3 g1 v_i8 x1 A1 c1 g2 v_s5 v_k10 hra0_2 hca0_2 hra0_3 hca0_3 hr1 hc1 heq; exact nomatch (show (none:Option (ByteArray × Int))=some r from heq)
 | succ k ihk =>
  intro a0 Aa0_2 ca0_2 Aa0_3 ca0_3 g1 v_i8 x1 A1 c1 g2 v_s5 v_k10 hra0_2 hca0_2 hra0_3 hca0_3 hr1 hc1 heq
  rw [smithyardref7_Text.l5] at heq
  refine Sa 2<|Zw 5 [bx 0 1] ?_
  refine Cb heq ?_ ?_
  ·intro hb4 heq
   refine Sa 3 ?_
   obtain ⟨x2,hx2,heq⟩:=bind_some heq
   obtain ⟨ha2,cs2,hK2,hcc2⟩:=(Rw.of (F:=F) hr1).get hx2
   obtain rfl:cs2=[.string x2]:=hK2
   obtain ⟨hn10,heq⟩:=guard?_some heq
   obtain ⟨hn11,heq⟩:=guard?_some heq
   refine Zw 9 [bx 0 1,nx ha2 hx2,er hcc2 2 0,n1 hn10,n1 hn11]<|Sa 1<|Zd 3<|An 1 ?_
   exact Gt 2 [0,1] (ihk a0 _ _ _ _ _ v_i8 x1 _ _ _ (v_s5++(({ data:=#[32] }:ByteArray)++x2)) (w64 (v_k10+1)) hra0_2 hca0_2 hra0_3 hca0_3 hr1 hc1 heq)
  ·intro hb4 heq
   refine An 1 ?_
   exact Gt 2 [1] (he4 a0 _ _ _ _ _ v_i8 v_s5 hra0_2 hca0_2 hra0_3 hca0_3 heq)
theorem smithyardref7_Text.l3_c [Wz w0] {r:ByteArray × Int} (e2:ByteArray→Option (ByteArray × Int))
  (he2:∀ (v_s5:ByteArray) ,e2 v_s5=some r→RunH C6 (S6 F H r) H w0 [.c [1,1,1,1,1,0,0],.c [1,1,1,1,1,0,1],.c [1,1,1,1,1,1]] [(5,.string v_s5)] H (F)):∀ (k:Nat),∀ (a0:Cache) (Aa0_2:Option Addr) (ca0_2:Nat) (Aa0_3:Option Addr) (ca0_3 g1:Nat) (v_s5:ByteArray) (v_i8:Int) ,Rw kBlob H F Aa0_2 a0.Blobs→a0.Blobs.length≤ca0_2→Rw kEntry H F Aa0_3 a0.Entries→a0.Entries.length≤ca0_3→smithyardref7_Text.l3 e2 k a0 v_s5 v_i8=some r→RunH C6 (S6 F H r) H w0 [.c [1,1,1,1,0,1,0,0],.l [1,1,1,1,0,1,0,0],.b 2,.c [1,1,1,1,1]] [(1,pg g1 0),(5,.string v_s5),(8,iv v_i8)] H ((some (g1,.cells #[iv a0.Room,iv a0.Lease,.slice Aa0_2 a0.Blobs.length ca0_2,.slice Aa0_3 a0.Entries.length ca0_3] 25 (0,0)))::F):=by
 intro k
 induction k with
 | zero=>intro a0 Aa0_2 ca0_2 Aa0_3 ca0_3 g1 v_s5 v_i8 hra0_2 hca0_2 hra0_3 hca0_3 heq; exact nomatch (show (none:Option (ByteArray × Int))=some r from heq)
 | succ k ihk =>
  intro a0 Aa0_2 ca0_2 Aa0_3 ca0_3 g1 v_s5 v_i8 hra0_2 hca0_2 hra0_3 hca0_3 heq
  rw [smithyardref7_Text.l3] at heq
  refine Sa 2<|Zw 5 [bx 0 3] ?_
  refine Cb heq ?_ ?_
  ·intro hb3 heq
   refine Sa 4 ?_
   obtain ⟨x1,hx1,heq⟩:=bind_some heq
   obtain ⟨ha1,cs1,hK1,hcc1⟩:=hra0_3.get hx1
   obtain ⟨A1,c1,rfl,hc1,hr1⟩:=kEntry_open hK1
   refine Zv 5 ([bx 0 3,nx ha1 hx1]++ers hcc1 1) ?_
   refine RgH.does (DoesH.new (d:=9) (v:=fun g=>.pointer (some ⟨g,0,none⟩)) (o:=fun g=>.cells #[.string ByteArray.empty,.slice none 0 0,iv 0] 40 (0,0)) (fun g=>by kernel_rfl)) ?_
   rintro _ _ _ _ ⟨g2,rfl,rfl,rfl⟩
   refine RgH.does (DoesH.store (k:=0) (g:=g2) (off:=0) (v:=.agg #[.string x1.Key,.slice A1 x1.Refs.length c1,iv x1.Used]) (cells':=#[.string x1.Key,.slice A1 x1.Refs.length c1,iv x1.Used]) (by kernel_rfl) rfl (by kernel_rfl) (by kernel_rfl)) ?_
   rintro _ _ _ _ ⟨rfl,rfl,rfl⟩
   refine Dn<|An 1<|Sd 2 11 [0,1] [3,3,3,3,3,3,3,0,3,3,3] ?_
   obtain ⟨hn5,heq⟩:=guard?_some heq
   obtain ⟨hn6,heq⟩:=guard?_some heq
   refine Zr [0,1,2,3,4,5,6] 4 [bx 0 0,n1 hn5,n1 hn6,bx 0 2] (Pk 2 [0,1]) (Pk 2 [0,1]) ?_
   obtain ⟨y4,hy4,heq⟩:=bind_some heq
   refine Dz 7 (cal 83 (strconv_Itoa_c (a0:=x1.Used)  hy4)) ?_
   rintro _ _ _ _ ⟨_,rfl,rfl,rfl,rfl⟩
   refine ⟨fun _ w hh=>⟨fun _=>(Pk 2 [0,1]) w hh,fun _=>(Pk 2 [0,1]) w hh,(fun h=>by cases h)⟩,?_⟩
   obtain ⟨hn7,heq⟩:=guard?_some heq
   obtain ⟨hn8,heq⟩:=guard?_some heq
   refine Zr [8,9,10] 0 [n1 hn7,n1 hn8] (Pk 2 [0,1]) (Pk 2 [0,1]) ?_
   refine DrH.done (by kernel_rfl) ?_
   refine Sa 2<|Zd 1<|An 2 ?_
   exact Gt 2 [0,1] (((smithyardref7_Text.l5_c (e4:=smithyardref7_Text.e4 ((smithyardref7_Text.l3 e2 k))) (smithyardref7_Text.e4_c (backl3:=(smithyardref7_Text.l3 e2 k)) ihk)) big) a0 _ _ _ _ _ v_i8 x1 _ _ _ (v_s5++(((({ data:=#[101,110,116,114,121,32] }:ByteArray)++x1.Key)++({ data:=#[32] }:ByteArray))++y4)) 0 hra0_2 hca0_2 hra0_3 hca0_3 hr1 hc1 heq)
  ·intro hb3 heq
   refine An 3 ?_
   exact Gt 1 [] (he2 v_s5 heq)
theorem smithyardref7_Text.e1_c [Wz w0] {r:ByteArray × Int}:∀ (a0:Cache) (Aa0_2:Option Addr) (ca0_2:Nat) (Aa0_3:Option Addr) (ca0_3 g1:Nat) (v_s5:ByteArray) ,Rw kBlob H F Aa0_2 a0.Blobs→a0.Blobs.length≤ca0_2→Rw kEntry H F Aa0_3 a0.Entries→a0.Entries.length≤ca0_3→smithyardref7_Text.e1 a0 v_s5=some r→RunH C6 (S6 F H r) H w0 [.c [1,1,1,1,0,0],.c [1,1,1,1,0,1],.c [1,1,1,1,1]] [(1,pg g1 0),(5,.string v_s5)] H ((some (g1,.cells #[iv a0.Room,iv a0.Lease,.slice Aa0_2 a0.Blobs.length ca0_2,.slice Aa0_3 a0.Entries.length ca0_3] 25 (0,0)))::F):=by
 intro a0 Aa0_2 ca0_2 Aa0_3 ca0_3 g1 v_s5 hra0_2 hca0_2 hra0_3 hca0_3 heq
 unfold smithyardref7_Text.e1 at heq
 refine Sa 0<|Zd 1<|An 2 ?_
 exact Gt 1 [0] (((smithyardref7_Text.l3_c (e2:=smithyardref7_Text.e2) (smithyardref7_Text.e2_c)) big) a0 _ _ _ _ _ v_s5 0 hra0_2 hca0_2 hra0_3 hca0_3 heq)
theorem smithyardref7_Text.l6_c [Wz w0] {r:ByteArray × Int} (e1:Cache→ByteArray→Option (ByteArray × Int))
  (he1:∀ (a0:Cache) (Aa0_2:Option Addr) (ca0_2:Nat) (Aa0_3:Option Addr) (ca0_3 g1:Nat) (v_s5:ByteArray) ,Rw kBlob H F Aa0_2 a0.Blobs→a0.Blobs.length≤ca0_2→Rw kEntry H F Aa0_3 a0.Entries→a0.Entries.length≤ca0_3→e1 a0 v_s5=some r→RunH C6 (S6 F H r) H w0 [.c [1,1,1,1,0,0],.c [1,1,1,1,0,1],.c [1,1,1,1,1]] [(1,pg g1 0),(5,.string v_s5)] H ((some (g1,.cells #[iv a0.Room,iv a0.Lease,.slice Aa0_2 a0.Blobs.length ca0_2,.slice Aa0_3 a0.Entries.length ca0_3] 25 (0,0)))::F)):∀ (k:Nat),∀ (a0:Cache) (Aa0_2:Option Addr) (ca0_2:Nat) (Aa0_3:Option Addr) (ca0_3 g1:Nat) (v_s5:ByteArray) (v_i6:Int) ,Rw kBlob H F Aa0_2 a0.Blobs→a0.Blobs.length≤ca0_2→Rw kEntry H F Aa0_3 a0.Entries→a0.Entries.length≤ca0_3→smithyardref7_Text.l6 e1 k a0 v_s5 v_i6=some r→RunH C6 (S6 F H r) H w0 [.c [1,1,1,0,1,0,0],.l [1,1,1,0,1,0,0],.b 0,.c [1,1,1,1]] [(1,pg g1 0),(5,.string v_s5),(6,iv v_i6)] H ((some (g1,.cells #[iv a0.Room,iv a0.Lease,.slice Aa0_2 a0.Blobs.length ca0_2,.slice Aa0_3 a0.Entries.length ca0_3] 25 (0,0)))::F):=by
 intro k
 induction k with
 | zero=>intro a0 Aa0_2 ca0_2 Aa0_3 ca0_3 g1 v_s5 v_i6 hra0_2 hca0_2 hra0_3 hca0_3 heq; exact nomatch (show (none:Option (ByteArray × Int))=some r from heq)
 | succ k ihk =>
  intro a0 Aa0_2 ca0_2 Aa0_3 ca0_3 g1 v_s5 v_i6 hra0_2 hca0_2 hra0_3 hca0_3 heq
  rw [smithyardref7_Text.l6] at heq
  refine Sa 2<|Zw 5 [bx 0 2] ?_
  refine Cb heq ?_ ?_
  ·intro hb5 heq
   refine Sa 4 ?_
   obtain ⟨x3,hx3,heq⟩:=bind_some heq
   obtain ⟨ha3,cs3,hK3,hcc3⟩:=hra0_2.get hx3
   obtain ⟨rfl⟩:=kBlob_open hK3
   refine Zv 5 ([bx 0 2,nx ha3 hx3]++ers hcc3 1) ?_
   refine RgH.does (DoesH.new (d:=7) (v:=fun g=>.pointer (some ⟨g,0,none⟩)) (o:=fun g=>.cells #[.string ByteArray.empty,iv 0,iv 0,iv 0,iv 0] 37 (0,0)) (fun g=>by kernel_rfl)) ?_
   rintro _ _ _ _ ⟨g3,rfl,rfl,rfl⟩
   refine RgH.does (DoesH.store (k:=0) (g:=g3) (off:=0) (v:=.agg #[.string x3.Digest,iv x3.Size,iv x3.Used,iv x3.Until,iv x3.Pins]) (cells':=#[.string x3.Digest,iv x3.Size,iv x3.Used,iv x3.Until,iv x3.Pins]) (by kernel_rfl) rfl (by kernel_rfl) (by kernel_rfl)) ?_
   rintro _ _ _ _ ⟨rfl,rfl,rfl⟩
   refine Dn<|Sd 2 27 [0,1] [3,3,3,3,3,3,3,0,3,3,3,3,0,3,3,3,3,0,3,3,3,3,0,3,3,3,3] ?_
   obtain ⟨hn12,heq⟩:=guard?_some heq
   obtain ⟨hn13,heq⟩:=guard?_some heq
   refine Zr [0,1,2,3,4,5,6,10,11,15,16,20,21] 14 [bx 0 0,n1 hn12,n1 hn13,bx 0 1,bx 0 2,bx 0 3,bx 0 4] (Pk 2 [0,1]) (Pk 2 [0,1]) ?_
   obtain ⟨y5,hy5,heq⟩:=bind_some heq
   refine Dz 7 (cal 45 (strconv_Itoa_c (a0:=x3.Size)  hy5)) ?_
   rintro _ _ _ _ ⟨_,rfl,rfl,rfl,rfl⟩
   refine ⟨fun _ w hh=>⟨fun _=>(Pk 2 [0,1]) w hh,fun _=>(Pk 2 [0,1]) w hh,(fun h=>by cases h)⟩,?_⟩
   obtain ⟨hn14,heq⟩:=guard?_some heq
   obtain ⟨hn15,heq⟩:=guard?_some heq
   refine Zr [8,9] 11 [n1 hn14,n1 hn15] (Pk 2 [0,1]) (Pk 2 [0,1]) ?_
   obtain ⟨y6,hy6,heq⟩:=bind_some heq
   refine Dz 12 (cal 50 (strconv_Itoa_c (a0:=x3.Used)  hy6)) ?_
   rintro _ _ _ _ ⟨_,rfl,rfl,rfl,rfl⟩
   refine ⟨fun _ w hh=>⟨fun _=>(Pk 2 [0,1]) w hh,fun _=>(Pk 2 [0,1]) w hh,(fun h=>by cases h)⟩,?_⟩
   obtain ⟨hn16,heq⟩:=guard?_some heq
   obtain ⟨hn17,heq⟩:=guard?_some heq
   refine Zr [13,14] 8 [n1 hn16,n1 hn17] (Pk 2 [0,1]) (Pk 2 [0,1]) ?_
   obtain ⟨y7,hy7,heq⟩:=bind_some heq
   refine Dz 17 (cal 55 (strconv_Itoa_c (a0:=x3.Until)  hy7)) ?_
   rintro _ _ _ _ ⟨_,rfl,rfl,rfl,rfl⟩
   refine ⟨fun _ w hh=>⟨fun _=>(Pk 2 [0,1]) w hh,fun _=>(Pk 2 [0,1]) w hh,(fun h=>by cases h)⟩,?_⟩
   obtain ⟨hn18,heq⟩:=guard?_some heq
   obtain ⟨hn19,heq⟩:=guard?_some heq
   refine Zr [18,19] 5 [n1 hn18,n1 hn19] (Pk 2 [0,1]) (Pk 2 [0,1]) ?_
   obtain ⟨y8,hy8,heq⟩:=bind_some heq
   refine Dz 22 (cal 60 (strconv_Itoa_c (a0:=x3.Pins)  hy8)) ?_
   rintro _ _ _ _ ⟨_,rfl,rfl,rfl,rfl⟩
   refine ⟨fun _ w hh=>⟨fun _=>(Pk 2 [0,1]) w hh,fun _=>(Pk 2 [0,1]) w hh,(fun h=>by cases h)⟩,?_⟩
   obtain ⟨hn20,heq⟩:=guard?_some heq
   obtain ⟨hn21,heq⟩:=guard?_some heq
   obtain ⟨hn22,heq⟩:=guard?_some heq
   refine Zr [23,24,25,26] 0 [n1 hn20,n1 hn21,n1 hn22] (Pk 2 [0,1]) (Pk 2 [0,1]) ?_
   refine DrH.done (by kernel_rfl) ?_
   refine Sa 1<|Zd 3<|An 1 ?_
   exact Gt 2 [1] (ihk a0 _ _ _ _ _ (v_s5++((((((((((({ data:=#[98,108,111,98,32] }:ByteArray)++x3.Digest)++({ data:=#[32] }:ByteArray))++y5)++({ data:=#[32] }:ByteArray))++y6)++({ data:=#[32] }:ByteArray))++y7)++({ data:=#[32] }:ByteArray))++y8)++({ data:=#[10] }:ByteArray))) (w64 (v_i6+1)) hra0_2 hca0_2 hra0_3 hca0_3 heq)
  ·intro hb5 heq
   refine An 3 ?_
   exact Gt 1 [0] (he1 a0 _ _ _ _ _ v_s5 hra0_2 hca0_2 hra0_3 hca0_3 heq)
theorem smithyardref7_Text_c [Wz w0] {a0:Cache} {Aa0_2:Option Addr} {na0_2 ca0_2:Nat} {Aa0_3:Option Addr} {na0_3 ca0_3:Nat} {r:ByteArray × Int} (heq:smithyardref7_Text.f a0=some r) (hra0_2:Rw kBlob H F Aa0_2 a0.Blobs) (hca0_2:na0_2≤ca0_2) (hna0_2:na0_2=a0.Blobs.length) (hra0_3:Rw kEntry H F Aa0_3 a0.Entries) (hca0_3:na0_3≤ca0_3) (hna0_3:na0_3=a0.Entries.length):CallsH Tryz.prog 6 #[.agg #[iv a0.Room,iv a0.Lease,.slice Aa0_2 na0_2 ca0_2,.slice Aa0_3 na0_3 ca0_3]] H w0 (F) (S6 F H r):=by
 refine Co C6 Tryz.func6 Tryz.ntmps6 ?_
 subst hna0_2
 subst hna0_3
 unfold smithyardref7_Text.f at heq
 refine Sa 1 ?_
 refine RgH.does (DoesH.new (d:=1) (v:=fun g=>.pointer (some ⟨g,0,none⟩)) (o:=fun g=>.cells #[iv a0.Room,iv a0.Lease,.slice Aa0_2 a0.Blobs.length ca0_2,.slice Aa0_3 a0.Entries.length ca0_3] 25 (0,0)) (fun g=>by kernel_rfl)) ?_
 rintro _ _ _ _ ⟨g1,rfl,rfl,rfl⟩
 refine Zd 3<|Sa 2<|Zv 1 (bxs 0) ?_
 obtain ⟨y1,hy1,heq⟩:=bind_some heq
 refine RgH.does (cal 12 (smithyardref7_CheckCache_c hy1 (hra0_2.wk (fun _ h=>(.tail _ h))) hca0_2 rfl (hra0_3.wk (fun _ h=>(.tail _ h))) hca0_3 rfl)) ?_
 rintro _ _ _ _ ⟨_,rfl,rfl,rfl,rfl⟩
 refine Zd 3<|Sa 1<|Zd 2 ?_
 refine Cb heq ?_ ?_
 ·intro hb1 heq
  refine Sa 1<|Zd 3 ?_
  obtain rfl:=Option.some.inj heq
  refine Up 1 [] ?_
  exact RunH.done (by kernel_rfl) Tryz.func6 (v:=.tuple #[.string ({ data:=#[] }:ByteArray),iv y1]) (by kernel_rfl) ⟨rfl,rfl,rfl⟩
 ·intro hb1 heq
  refine An 2<|Sd 1 11 [0] [3,3,0,3,3,3,3,0,3,3,3]<|Zr [0,1,5,6] 7 [bx 0 0,bx 0 1] (Pk 1 [0]) (Pk 1 [0]) ?_
  obtain ⟨y2,hy2,heq⟩:=bind_some heq
  refine Dz 2 (cal 18 (strconv_Itoa_c (a0:=a0.Room)  hy2)) ?_
  rintro _ _ _ _ ⟨_,rfl,rfl,rfl,rfl⟩
  refine ⟨fun _ w hh=>⟨fun _=>(Pk 1 [0]) w hh,fun _=>(Pk 1 [0]) w hh,(fun h=>by cases h)⟩,?_⟩
  obtain ⟨hn1,heq⟩:=guard?_some heq
  obtain ⟨hn2,heq⟩:=guard?_some heq
  refine Zr [3,4] 4 [n1 hn1,n1 hn2] (Pk 1 [0]) (Pk 1 [0]) ?_
  obtain ⟨y3,hy3,heq⟩:=bind_some heq
  refine Dz 7 (cal 23 (strconv_Itoa_c (a0:=a0.Lease)  hy3)) ?_
  rintro _ _ _ _ ⟨_,rfl,rfl,rfl,rfl⟩
  refine ⟨fun _ w hh=>⟨fun _=>(Pk 1 [0]) w hh,fun _=>(Pk 1 [0]) w hh,(fun h=>by cases h)⟩,?_⟩
  obtain ⟨hn3,heq⟩:=guard?_some heq
  obtain ⟨hn4,heq⟩:=guard?_some heq
  refine Zr [8,9,10] 0 [n1 hn3,n1 hn4] (Pk 1 [0]) (Pk 1 [0]) ?_
  refine DrH.done (by kernel_rfl) ?_
  refine Sa 2<|Zd 1<|An 2 ?_
  exact Gt 1 [0] (((smithyardref7_Text.l6_c (e1:=smithyardref7_Text.e1) (smithyardref7_Text.e1_c)) big) a0 _ _ _ _ _ ((((({ data:=#[99,97,99,104,101,32] }:ByteArray)++y2)++({ data:=#[32] }:ByteArray))++y3)++({ data:=#[10] }:ByteArray)) 0 hra0_2 hca0_2 hra0_3 hca0_3 heq)
def S47 (F:List Ch) (H0:Hp) (r:Int) (v:Value) (H:Hp) (cs:List Ch):Prop:=H0=H∧v=iv r∧F=cs
theorem stringslite_Index_c [Wz w0] {a0 a1:ByteArray} {r:Int} (heq:stringslite_Index.f a0 a1=some r):CallsH Tryz.prog 47 #[.string a0,.string a1] H w0 F (S47 F H r):=by
 intro w hh
 unfold stringslite_Index.f at heq
 obtain ⟨hn,heq⟩:=guard?_some heq
 obtain rfl:=Option.some.inj heq
 obtain ⟨c,rfl⟩:∃ c,a1=⟨#[c]⟩:=by
  obtain ⟨⟨l⟩⟩:=a1
  match l,hn with
  | [c],_=>exact ⟨c,rfl⟩
 refine (Shelf.Tryz.stringslite_Index_one a0 c w).mono ?_
 rintro e w' ⟨rfl,rfl⟩
 exact ⟨_,rfl,_,_,Le.refl _,hh,rfl,rfl,rfl⟩
noncomputable def C38:Ctx:={ P:=Tryz.prog,f:=38,N:=23,c:=bodyOf Tryz.f38 }
def S38 (F:List Ch) (H0:Hp) (r:ByteArray × ByteArray × Bool) (v:Value) (H:Hp) (cs:List Ch):Prop:=H0=H∧v=.tuple #[.string r.1,.string r.2.1,.bool r.2.2]∧F=cs
theorem stringslite_Cut_c [Wz w0] {a0 a1:ByteArray} {r:ByteArray × ByteArray × Bool} (heq:stringslite_Cut.f a0 a1=some r):CallsH Tryz.prog 38 #[.string a0,.string a1] H w0 (F) (S38 F H r):=by
 refine Co C38 Tryz.func38 Tryz.ntmps38 ?_
 unfold stringslite_Cut.f at heq
 refine Sa 1<|Zd 3<|Sa 2<|Zk 2 ?_
 obtain ⟨y1,hy1,heq⟩:=bind_some heq
 refine RgH.does (cal 10 (stringslite_Index_c (a0:=a0) (a1:=a1)  hy1)) ?_
 rintro _ _ _ _ ⟨_,rfl,rfl,rfl,rfl⟩
 refine Zd 4<|Sa 1<|Zd 2 ?_
 refine Cb heq ?_ ?_
 ·intro hb1 heq
  refine An 1<|Sd 0 12 [] [3,3,3,3,3,3,3,3,3,3,3,3] ?_
  obtain ⟨hn1,heq⟩:=guard?_some heq
  obtain ⟨hn2,heq⟩:=guard?_some heq
  refine Zr [0,1,2,3,4,5,6,7,8,9,10,11] 0 [n2 hn1,n2 hn2] (Pk 0 []) (Pk 0 []) ?_
  refine DrH.done (by kernel_rfl) ?_
  obtain rfl:=Option.some.inj heq
  exact RunH.done (by kernel_rfl) Tryz.func38 (v:=.tuple #[.string (a0.extract 0 y1.toNat),.string (a0.extract (w64 (y1+(a1.size:Int))).toNat a0.size),.bool true]) (by kernel_rfl) ⟨rfl,rfl,rfl⟩
 ·intro hb1 heq
  refine Sa 2<|Zd 4 ?_
  obtain rfl:=Option.some.inj heq
  exact RunH.done (by kernel_rfl) Tryz.func38 (v:=.tuple #[.string a0,.string ({ data:=#[] }:ByteArray),.bool false]) (by kernel_rfl) ⟨rfl,rfl,rfl⟩
noncomputable def C21:Ctx:={ P:=Tryz.prog,f:=21,N:=13,c:=bodyOf Tryz.f21 }
def S21 (F:List Ch) (H0:Hp) (r:ByteArray × ByteArray × Bool) (v:Value) (H:Hp) (cs:List Ch):Prop:=H0=H∧v=.tuple #[.string r.1,.string r.2.1,.bool r.2.2]∧F=cs
theorem strings_Cut_c [Wz w0] {a0 a1:ByteArray} {r:ByteArray × ByteArray × Bool} (heq:strings_Cut.f a0 a1=some r):CallsH Tryz.prog 21 #[.string a0,.string a1] H w0 (F) (S21 F H r):=by
 refine Co C21 Tryz.func21 Tryz.ntmps21 ?_
 unfold strings_Cut.f at heq
 refine Sa 1<|Zd 3<|Sa 1<|Zk 2 ?_
 obtain ⟨y1,hy1,heq⟩:=bind_some heq
 refine RgH.does (cal 9 (stringslite_Cut_c hy1 )) ?_
 rintro _ _ _ _ ⟨_,rfl,rfl,rfl,rfl⟩
 refine Zd 9 ?_
 obtain rfl:=Option.some.inj heq
 exact RunH.done (by kernel_rfl) Tryz.func21 (v:=.tuple #[.string y1.1,.string y1.2.1,.bool y1.2.2]) (by kernel_rfl) ⟨rfl,rfl,rfl⟩
def S39 (F:List Ch) (H0:Hp) (r:List ByteArray) (v:Value) (H:Hp) (cs:List Ch):Prop:=∃ (A0:Option Addr) (c0:Nat) (ch0:Ch),H0=H∧v=.slice A0 r.length c0∧ch0::F=cs∧SlOwn Kd.string 9 H A0 c0 r ch0
theorem strings_Split_c [Wz w0] {a0 a1:ByteArray} {r:List ByteArray} (heq:strings_Split.f a0 a1=some r):CallsH Tryz.prog 39 #[.string a0,.string a1] H w0 F (S39 F H r):=by
 intro w hh
 unfold strings_Split.f at heq
 obtain ⟨hn,heq⟩:=guard?_some heq
 obtain rfl:=Option.some.inj heq
 simp only [Bool.and_eq_true,decide_eq_true_eq] at hn
 obtain ⟨m,hm⟩:=GlobI.at (g:=0) hh
 refine (Shelf.Tryz.strings_Split a0 a1 m w hn.1 hm hn.2).mono ?_
 rintro e w' ⟨rfl,rfl⟩
 have hl:=Lib.splitB_all a1 hn.2 0 _ a0 rfl
 have hc:=Lib.countB_le a1 hn.2 a0.size a0 (Nat.le_refl _)
 obtain ⟨H',cs',hle,hh',A0,c0,ch0,rfl,hv,rfl,ho⟩:=split_post (e:=9) hh hl (by unfold maxLen; omega) rfl
 exact ⟨_,rfl,_,_,hle,hh',A0,c0,ch0,rfl,hv,rfl,ho⟩
noncomputable def C49:Ctx:={ P:=Tryz.prog,f:=49,N:=19,c:=bodyOf Tryz.f49 }
def S49 (F:List Ch) (H0:Hp) (r:Int) (v:Value) (H:Hp) (cs:List Ch):Prop:=H0=H∧v=iv r∧F=cs
theorem slices_Index_string.e1_c [Wz w0] {r:Int}:slices_Index_string.e1=some r→RunH C49 (S49 F H r) H w0 [.c [1,1,0],.c [1,1,1]] [] H (F):=by
 intro   heq
 unfold slices_Index_string.e1 at heq
 refine Sa 0<|Zd 1 ?_
 obtain rfl:=Option.some.inj heq
 exact RunH.done (by kernel_rfl) Tryz.func49 (v:=iv (-1)) (by kernel_rfl) ⟨rfl,rfl,rfl⟩
theorem slices_Index_string.l2_c [Wz w0] {r:Int} (e1:Option Int)
  (he1:e1=some r→RunH C49 (S49 F H r) H w0 [.c [1,1,0],.c [1,1,1]] [] H (F)):∀ (k:Nat),∀ (a0:List ByteArray) (Aa0:Option Addr) (ca0:Nat) (a1:ByteArray) (v8:Int) ,Rw Kd.string H F Aa0 a0→a0.length≤ca0→slices_Index_string.l2 e1 k a0 a1 v8=some r→RunH C49 (S49 F H r) H w0 [.c [1,0,1,0,0],.l [1,0,1,0,0],.b 0,.c [1,1]] [(0,.slice Aa0 a0.length ca0),(1,.string a1),(7,iv (a0.length:Int)),(8,iv v8)] H (F):=by
 intro k
 induction k with
 | zero=>intro a0 Aa0 ca0 a1 v8 hra0 hca0 heq; exact nomatch (show (none:Option Int)=some r from heq)
 | succ k ihk =>
  intro a0 Aa0 ca0 a1 v8 hra0 hca0 heq
  rw [slices_Index_string.l2] at heq
  refine Sa 1<|Zd 1<|An 1 ?_
  refine Cb heq ?_ ?_
  ·intro hb1 heq
   refine Sa 4<|Zd 2<|Sa 1 ?_
   obtain ⟨x1,hx1,heq⟩:=bind_some heq
   obtain ⟨ha1,cs1,hK1,hcc1⟩:=hra0.get hx1
   obtain rfl:cs1=[.string x1]:=hK1
   refine Zw 6 [nx ha1 hx1,er hcc1 0 0] ?_
   refine Cb heq ?_ ?_
   ·intro hb2 heq
    refine Sa 1<|Zd 2 ?_
    obtain rfl:=Option.some.inj heq
    exact RunH.done (by kernel_rfl) Tryz.func49 (v:=iv v8) (by kernel_rfl) ⟨rfl,rfl,rfl⟩
   ·intro hb2 heq
    refine Sa 2<|Zd 2<|An 1 ?_
    exact Gt 0 [] (ihk a0 _ _ a1 (w64 (v8+1)) hra0 hca0 heq)
  ·intro hb1 heq
   refine An 2 ?_
   exact Gt 0 [] (he1 heq)
theorem slices_Index_string_c [Wz w0] {a0:List ByteArray} {Aa0:Option Addr} {na0 ca0:Nat} {a1:ByteArray} {r:Int} (heq:slices_Index_string.f a0 a1=some r) (hra0:Rw Kd.string H F Aa0 a0) (hca0:na0≤ca0) (hna0:na0=a0.length):CallsH Tryz.prog 49 #[.slice Aa0 na0 ca0,.string a1] H w0 (F) (S49 F H r):=by
 refine Co C49 Tryz.func49 Tryz.ntmps49 ?_
 subst hna0
 unfold slices_Index_string.f at heq
 refine Sa 1<|Zd 1<|Sa 2<|Zd 3<|An 2 ?_
 exact Gt 0 [] (((slices_Index_string.l2_c (e1:=slices_Index_string.e1) (slices_Index_string.e1_c)) big) a0 _ _ a1 0 hra0 hca0 heq)
noncomputable def C40:Ctx:={ P:=Tryz.prog,f:=40,N:=9,c:=bodyOf Tryz.f40 }
def S40 (F:List Ch) (H0:Hp) (r:Bool) (v:Value) (H:Hp) (cs:List Ch):Prop:=H0=H∧v=.bool r∧F=cs
theorem slices_Contains_string_c [Wz w0] {a0:List ByteArray} {Aa0:Option Addr} {na0 ca0:Nat} {a1:ByteArray} {r:Bool} (heq:slices_Contains_string.f a0 a1=some r) (hra0:Rw Kd.string H F Aa0 a0) (hca0:na0≤ca0) (hna0:na0=a0.length):CallsH Tryz.prog 40 #[.slice Aa0 na0 ca0,.string a1] H w0 (F) (S40 F H r):=by
 refine Co C40 Tryz.func40 Tryz.ntmps40 ?_
 subst hna0
 unfold slices_Contains_string.f at heq
 refine Sa 1<|Zd 1<|Sa 1<|Zk 2 ?_
 obtain ⟨y1,hy1,heq⟩:=bind_some heq
 refine RgH.does (cal 7 (slices_Index_string_c hy1 hra0 hca0 rfl)) ?_
 rintro _ _ _ _ ⟨_,rfl,rfl,rfl,rfl⟩
 refine Zd 5 ?_
 obtain rfl:=Option.some.inj heq
 exact RunH.done (by kernel_rfl) Tryz.func40 (v:=.bool (decide (0≤y1))) (by kernel_rfl) ⟨rfl,rfl,rfl⟩
def S50 (F:List Ch) (H0:Hp) (r:Int) (v:Value) (H:Hp) (cs:List Ch):Prop:=H0=H∧v=.tuple #[iv r,.nilIface]∧F=cs
theorem strconv_Atoi_c [Wz w0] {a0:ByteArray} {r:Int} (heq:strconv_Atoi.f a0=some r):CallsH Tryz.prog 50 #[.string a0] H w0 F (S50 F H r):=by
 intro w hh
 unfold strconv_Atoi.f at heq
 obtain ⟨hn,heq⟩:=guard?_some heq
 refine (Shelf.Tryz.strconv_Atoi a0 r (of_decide_eq_true hn) heq w).mono ?_
 rintro e w' ⟨rfl,t,rfl⟩
 exact ⟨_,rfl,_,_,Le.refl _,hh.later (Lib.bytesWorld_below _ _ _),rfl,rfl,rfl⟩
noncomputable def C41:Ctx:={ P:=Tryz.prog,f:=41,N:=48,c:=bodyOf Tryz.f41 }
def S41 (F:List Ch) (H0:Hp) (r:(List Int) × Bool) (v:Value) (H:Hp) (cs:List Ch):Prop:=∃ (A0:Option Addr) (c0:Nat) (ch0:Ch),H0=H∧v=.tuple #[.slice A0 r.1.length c0,.bool r.2]∧ch0::F=cs∧SlOwn (Kd.int .i64) 3 H A0 c0 r.1 ch0
theorem cache_numbers.e1_c [Wz w0] {r:(List Int) × Bool}:∀ (v_out4:List Int) (Av_out4:Option Addr) (nv_out4 cv_out4:Nat) (chv_out4:Ch) ,SlOwn (Kd.int .i64) 3 H Av_out4 cv_out4 v_out4 chv_out4→nv_out4=v_out4.length→cache_numbers.e1 v_out4=some r→RunH C41 (S41 F H r) H w0 [.c [1,1,1,0],.c [1,1,1,1]] [(4,.slice Av_out4 nv_out4 cv_out4)] H (chv_out4::F):=by
 intro v_out4 Av_out4 nv_out4 cv_out4 chv_out4 hov_out4 hnv_out4 heq
 subst hnv_out4
 unfold cache_numbers.e1 at heq
 refine Sa 0<|Zd 3 ?_
 obtain rfl:=Option.some.inj heq
 exact RunH.done (by kernel_rfl) Tryz.func41 (v:=.tuple #[.slice Av_out4 v_out4.length cv_out4,.bool true]) (by kernel_rfl) ⟨Av_out4,cv_out4,chv_out4,rfl,rfl,rfl,hov_out4⟩
theorem cache_numbers.l2_c [Wz w0] {r:(List Int) × Bool} (e1:(List Int)→Option ((List Int) × Bool))
  (he1:∀ (v_out4:List Int) (Av_out4:Option Addr) (nv_out4 cv_out4:Nat) (chv_out4:Ch) ,SlOwn (Kd.int .i64) 3 H Av_out4 cv_out4 v_out4 chv_out4→nv_out4=v_out4.length→e1 v_out4=some r→RunH C41 (S41 F H r) H w0 [.c [1,1,1,0],.c [1,1,1,1]] [(4,.slice Av_out4 nv_out4 cv_out4)] H (chv_out4::F)):∀ (k:Nat),∀ (a0:List ByteArray) (Aa0:Option Addr) (ca0:Nat) (v_out4:List Int) (Av_out4:Option Addr) (nv_out4 cv_out4:Nat) (chv_out4:Ch) (v11:Int) ,Rw Kd.string H F Aa0 a0→a0.length≤ca0→SlOwn (Kd.int .i64) 3 H Av_out4 cv_out4 v_out4 chv_out4→nv_out4=v_out4.length→cache_numbers.l2 e1 k a0 v_out4 v11=some r→RunH C41 (S41 F H r) H w0 [.c [1,1,0,1,0,0],.l [1,1,0,1,0,0],.b 0,.c [1,1,1]] [(4,.slice Av_out4 nv_out4 cv_out4),(9,.slice Aa0 a0.length ca0),(10,iv (a0.length:Int)),(11,iv v11)] H (chv_out4::F):=by
 intro k
 induction k with
 | zero=>intro a0 Aa0 ca0 v_out4 Av_out4 nv_out4 cv_out4 chv_out4 v11 hra0 hca0 hov_out4 hnv_out4 heq; exact nomatch (show (none:Option ((List Int) × Bool))=some r from heq)
 | succ k ihk =>
  intro a0 Aa0 ca0 v_out4 Av_out4 nv_out4 cv_out4 chv_out4 v11 hra0 hca0 hov_out4 hnv_out4 heq
  subst hnv_out4
  rw [cache_numbers.l2] at heq
  refine Sa 1<|Zd 1<|An 1 ?_
  refine Cb heq ?_ ?_
  ·intro hb1 heq
   refine Sa 4 ?_
   obtain ⟨x1,hx1,heq⟩:=bind_some heq
   obtain ⟨ha1,cs1,hK1,hcc1⟩:=hra0.get hx1
   obtain rfl:cs1=[.string x1]:=hK1
   refine Zw 3 [nx ha1 hx1,er hcc1 1 0]<|An 2 ?_
   obtain ⟨t1,ht1,heq⟩:=bind_some heq
   have K3:RunH C41 (S41 F H r) H w0 [.c [1,1,0,1,0,0,1,1,0,0,1,0,1],.c [1,1,0,1,0,0,1,1,0,0,1,1],.b 1,.c [1,1,0,1,0,0,1,1,1],.l [1,1,0,1,0,0],.b 0,.c [1,1,1]] [(4,.slice Av_out4 v_out4.length cv_out4),(6,.string x1),(9,.slice Aa0 a0.length ca0),(10,iv (a0.length:Int)),(11,iv v11),(36,.bool t1)] H (chv_out4::F):=by
    refine Cb heq ?_ ?_
    ·intro hb6 heq
     refine Sa 1<|Zd 2<|RunH.nilc ?_
     have ho1:SlOwn (Kd.int .i64) 3 H none 0 ([]:List Int) none:=SlOwn.nil
     obtain rfl:=Option.some.inj heq
     refine Up 2 [0] ?_
     exact RunH.done (by kernel_rfl) Tryz.func41 (v:=.tuple #[.slice none 0 0,.bool false]) (by kernel_rfl) ⟨none,0,none,rfl,rfl,rfl,ho1⟩
    ·intro hb6 heq
     refine Sa 2<|Zk 1 ?_
     obtain ⟨y2,hy2,heq⟩:=bind_some heq
     refine RgH.does (cal 39 (strconv_Atoi_c (a0:=x1)  hy2)) ?_
     rintro _ _ _ _ ⟨_,rfl,rfl,rfl,rfl⟩
     refine Zd 7<|Sa 0<|Zk 2 ?_
     refine RgH.does (DoesH.new (d:=44) (v:=fun g=>.slice (some ⟨g,0,none⟩) 1 1) (o:=fun g=>.cells #[iv y2] 3 (0,0)) (fun g=>by kernel_rfl)) ?_
     rintro _ _ _ _ ⟨g1,rfl,rfl,rfl⟩
     have ho2:SlOwn (Kd.int .i64) 3 H (some ⟨g1,0,none⟩) 1 ([y2]:List Int) (some (g1,.cells #[iv y2] 3 (0,0))):=SlOwn.lit (xs:=([y2]:List Int)) (by kernel_rfl) (Nat.le_of_ble_eq_true (by kernel_rfl)) (Kd.Rep.scalars rfl)
     obtain ⟨hn2,heq⟩:=guard?_some heq
     refine RgH.does (DoesH.append (d:=45) (k:=1) (t:=75) (e:=3) (bytes:=8) (kd:=(Kd.int .i64)) (n:=v_out4.length) (m:=1) (xs:=v_out4) (ys:=([y2]:List Int)) (A:=Av_out4) (B:=(some ⟨g1,0,none⟩)) (c:=cv_out4) (cB:=1) (by kernel_rfl) rfl rfl (by kernel_rfl) rfl hov_out4 (fun w hh=>ho2.rdb (hh.chin 0 rfl)) (room_le hn2) (by have:=room_le hn2; omega)) ?_
     rintro _ _ _ _ ⟨A1,c1,ch1,rfl,rfl,rfl,ho3⟩
     refine Zd 5<|Sa 1<|Zd 2<|An 1 ?_
     exact Gt 2 [1] (ihk a0 _ _ (v_out4++([y2]:List Int)) _ _ _ _ (w64 (v11+1)) hra0 hca0 ho3 rfl heq)
   replace heq:=ht1
   refine Sa 0<|Zk 4 ?_
   rcases bool_cases (decide ((x1.size:Int)<1)) with hb2 | hb2
   ·replace heq:=bif_true hb2 heq
    refine Zs 18 (congrArg Value.bool hb2)<|Zk 22 ?_
    obtain rfl:=Option.some.inj heq
    refine Dn ?_
    exact Gt 1 [0] (K3)
   ·replace heq:=bif_false hb2 heq
    refine Zs 18 (congrArg Value.bool hb2)<|Zk 9 ?_
    rcases bool_cases (decide (10<(x1.size:Int))) with hb3 | hb3
    ·replace heq:=bif_true hb3 heq
     refine Zs 23 (congrArg Value.bool hb3)<|Zk 22 ?_
     obtain rfl:=Option.some.inj heq
     refine Dn ?_
     exact Gt 1 [0] (K3)
    ·replace heq:=bif_false hb3 heq
     refine Zs 23 (congrArg Value.bool hb3)<|Zk 10 ?_
     obtain ⟨y1,hy1,heq⟩:=bind_some heq
     refine RgH.does (cal 25 (strings_Trim_c (a0:=x1) (a1:=({ data:=#[48,49,50,51,52,53,54,55,56,57] }:ByteArray))  hy1)) ?_
     rintro _ _ _ _ ⟨_,rfl,rfl,rfl,rfl⟩
     refine Zk 14 ?_
     rcases bool_cases (!sEq y1 ({ data:=#[] }:ByteArray)) with hb4 | hb4
     ·replace heq:=bif_true hb4 heq
      refine Zs 28 (congrArg Value.bool hb4)<|Zk 22 ?_
      obtain rfl:=Option.some.inj heq
      refine Dn ?_
      exact Gt 1 [0] (K3)
     ·replace heq:=bif_false hb4 heq
      refine Zs 28 (congrArg Value.bool hb4) ?_
      obtain ⟨hn1,heq⟩:=guard?_some heq
      refine Zv 18 [n2 hn1] ?_
      rcases bool_cases ((bt x1 0) == 48) with hb5 | hb5
      ·replace heq:=bif_true hb5 heq
       refine Zs 32 (congrArg Value.bool hb5)<|Zk 22 ?_
       obtain rfl:=Option.some.inj heq
       refine Dn ?_
       exact Gt 1 [0] (K3)
      ·replace heq:=bif_false hb5 heq
       refine Zs 32 (congrArg Value.bool hb5)<|Zk 22 ?_
       obtain rfl:=Option.some.inj heq
       refine Dn ?_
       exact Gt 1 [0] (K3)
  ·intro hb1 heq
   refine An 2 ?_
   exact Gt 1 [0] (he1 v_out4 _ _ _ _ hov_out4 rfl heq)
theorem cache_numbers_c [Wz w0] {a0:List ByteArray} {Aa0:Option Addr} {na0 ca0:Nat} {r:(List Int) × Bool} (heq:cache_numbers.f a0=some r) (hra0:Rw Kd.string H F Aa0 a0) (hca0:na0≤ca0) (hna0:na0=a0.length):CallsH Tryz.prog 41 #[.slice Aa0 na0 ca0] H w0 (F) (S41 F H r):=by
 refine Co C41 Tryz.func41 Tryz.ntmps41 ?_
 subst hna0
 unfold cache_numbers.f at heq
 refine Sa 1<|Zd 2<|Sa 1<|Zd 1<|Sa 2<|Zd 3<|An 2<|RunH.nilc ?_
 have ho4:SlOwn (Kd.int .i64) 3 H none 0 ([]:List Int) none:=SlOwn.nil
 exact Gt 1 [0] (((cache_numbers.l2_c (e1:=cache_numbers.e1) (cache_numbers.e1_c)) big) a0 _ _ ([]:List Int) _ _ _ _ 0 hra0 hca0 ho4 rfl heq)
noncomputable def C22:Ctx:={ P:=Tryz.prog,f:=22,N:=140,c:=bodyOf Tryz.f22 }
def S22 (F:List Ch) (H0:Hp) (ga0:Nat) (r:Bool × Cache) (v:Value) (H:Hp) (cs:List Ch):Prop:=∃ (A1_2:Option Addr) (c1_2:Nat) (ch1_2:Ch) (A1_3:Option Addr) (c1_3:Nat) (ch1_3:Ch),v=.bool r.1∧some (ga0,.cells #[iv r.2.Room,iv r.2.Lease,.slice A1_2 r.2.Blobs.length c1_2,.slice A1_3 r.2.Entries.length c1_3] 25 (0,0))::ch1_2::ch1_3::F=cs∧SlOwn kBlob 37 H A1_2 c1_2 r.2.Blobs ch1_2∧SlOwn kEntry 40 H A1_3 c1_3 r.2.Entries ch1_3
theorem cache_line_c [Wz w0] {ga0:Nat} {a0:Cache} {Aa0_2:Option Addr} {na0_2 ca0_2:Nat} {cha0_2:Ch} {Aa0_3:Option Addr} {na0_3 ca0_3:Nat} {cha0_3:Ch} {a1:Int} {a2:ByteArray} {r:Bool × Cache} (heq:cache_line.f a0 a1 a2=some r) (hoa0_2:SlOwn kBlob 37 H0 Aa0_2 ca0_2 a0.Blobs cha0_2) (hna0_2:na0_2=a0.Blobs.length) (hoa0_3:SlOwn kEntry 40 H0 Aa0_3 ca0_3 a0.Entries cha0_3) (hna0_3:na0_3=a0.Entries.length):CallsH Tryz.prog 22 #[.pointer (some ⟨ga0,0,none⟩),iv a1,.string a2] H0 w0 ((some (ga0,.cells #[iv a0.Room,iv a0.Lease,.slice Aa0_2 na0_2 ca0_2,.slice Aa0_3 na0_3 ca0_3] 25 (0,0)))::cha0_2::cha0_3::F) (S22 F H0 ga0 r):=by
 refine Co C22 Tryz.func22 Tryz.ntmps22 ?_
 subst hna0_2
 subst hna0_3
 unfold cache_line.f at heq
 suffices key:∀ (H:Hp),SlOwn kBlob 37 H Aa0_2 ca0_2 a0.Blobs cha0_2→SlOwn kEntry 40 H Aa0_3 ca0_3 a0.Entries cha0_3→RunH C22 (S22 F H0 ga0 r) H0 w0 [.c []] (argL 0 [.pointer (some ⟨ga0,0,none⟩),iv a1,.string a2]) H ((some (ga0,.cells #[iv a0.Room,iv a0.Lease,.slice Aa0_2 (a0.Blobs.length) ca0_2,.slice Aa0_3 (a0.Entries.length) ca0_3] 25 (0,0)))::cha0_2::cha0_3::F) from key H0 hoa0_2 hoa0_3
 intro H hoa0_2 hoa0_3
 refine Sa 1<|Zd 1<|Sa 1<|Zk 1 ?_
 obtain ⟨y1,hy1,heq⟩:=bind_some heq
 refine RgH.does (cal 15 (strings_Split_c (a0:=a2) (a1:=({ data:=#[32] }:ByteArray))  hy1)) ?_
 rintro _ _ _ _ ⟨_,rfl,A1,c1,ch1,rfl,rfl,rfl,ho1⟩
 refine Zd 3<|Sa 2<|Zk 1 ?_
 obtain ⟨y2,hy2,heq⟩:=bind_some heq
 refine RgH.does (cal 17 (slices_Contains_string_c hy2 (ho1.rw (.head _)) ho1.cap rfl)) ?_
 rintro _ _ _ _ ⟨_,rfl,rfl,rfl,rfl⟩
 refine Dn ?_
 refine Cb heq ?_ ?_
 ·intro hb1 heq
  refine Sa 1<|Zd 1 ?_
  obtain rfl:=Option.some.inj heq
  refine Up 4 [1,2,3] ?_
  exact RunH.done (by kernel_rfl) Tryz.func22 (v:=.bool false) (by kernel_rfl) ⟨Aa0_2,ca0_2,cha0_2,Aa0_3,ca0_3,cha0_3,rfl,rfl,hoa0_2,hoa0_3⟩
 ·intro hb1 heq
  refine Sa 4<|Zd 3 ?_
  refine Cb heq ?_ ?_
  ·intro hb2 heq
   refine Sa 1 ?_
   obtain ⟨hn2,heq⟩:=guard?_some heq
   have hn1:y1.length - 1=(y1.drop 1).length:=by have h1:=both_of hn2; have h3:=trivial; (try simp); (try omega)
   have ho2:=ho1.drop 1 (by have h2:=ho1.cap; have h3:=trivial; have h1:=both_of hn2; omega)
   refine Zv 2 [⟨.need ((0:Int)≤1∧1≤((y1.length:Nat):Int)),fun w hh=>(both_of hn2)⟩] ?_
   obtain ⟨y3,hy3,heq⟩:=bind_some heq
   refine RgH.does (cal 24 (cache_numbers_c hy3 (ho2.rw (.head _)) (show y1.length - 1≤c1 - 1 from by have h1:=ho2.cap; have h2:=hn1; omega) hn1)) ?_
   rintro _ _ _ _ ⟨_,rfl,A2,c2,ch2,rfl,rfl,rfl,ho3⟩
   refine Zd 8<|An 2 ?_
   obtain ⟨t1,ht1,heq⟩:=bind_some heq
   have K6:∀ (H:Hp),SlOwn kBlob 37 H Aa0_2 ca0_2 a0.Blobs cha0_2→SlOwn kEntry 40 H Aa0_3 ca0_3 a0.Entries cha0_3→SlOwn (Kd.int .i64) 3 H A2 c2 y3.1 ch2→RunH C22 (S22 F H0 ga0 r) H0 w0 [.c [1,1,1,0,0,1,0,1,0,1],.c [1,1,1,0,0,1,0,1,1],.b 0,.c [1,1,1,1]] [(0,pg ga0 0),(8,.slice A2 y3.1.length c2),(39,.bool t1)] H (ch2::(some (ga0,.cells #[iv a0.Room,iv a0.Lease,.slice Aa0_2 a0.Blobs.length ca0_2,.slice Aa0_3 a0.Entries.length ca0_3] 25 (0,0)))::cha0_2::cha0_3::F):=by
    intro H hoa0_2 hoa0_3 ho3
    refine Cb heq ?_ ?_
    ·intro hb5 heq
     refine Sa 1<|Zd 1 ?_
     obtain rfl:=Option.some.inj heq
     refine Up 4 [1,2,3] ?_
     exact RunH.done (by kernel_rfl) Tryz.func22 (v:=.bool false) (by kernel_rfl) ⟨Aa0_2,ca0_2,cha0_2,Aa0_3,ca0_3,cha0_3,rfl,rfl,hoa0_2,hoa0_3⟩
    ·intro hb5 heq
     refine An 2<|Sd 4 14 [0,2,3] [3,3,3,3,3,3,3,3,3,3,1,1,3,2]<|Zr [0] 13 [] (Pk 4 [0,1,2,3]) (Pk 4 [0,2,3])<|Zt [1] 12 [] (Pk 4 [0,2,3]) ?_
     obtain ⟨x2,hx2,heq⟩:=bind_some heq
     obtain ⟨ha2,cs2,hK2,hcc2⟩:=ho3.get hx2
     obtain rfl:cs2=[iv x2]:=hK2
     refine Zr [2,3,4] 9 [nx ha2 hx2,el hcc2 0 0] (Pk 4 [0,1,2,3]) (Pk 4 [0,2,3]) ?_
     obtain ⟨x3,hx3,heq⟩:=bind_some heq
     obtain ⟨ha3,cs3,hK3,hcc3⟩:=ho3.get hx3
     obtain rfl:cs3=[iv x3]:=hK3
     refine Zt [5,6] 7 [nx ha3 hx3] (Pk 4 [0,2,3]) ?_
     obtain ⟨ha4,cs4,hK4,hcc4⟩:=ho3.get hx3
     obtain rfl:cs4=[iv x3]:=hK4
     refine Zr [7] 6 [el hcc4 0 0] (Pk 4 [0,1,2,3]) (Pk 4 [0,2,3])<|Zt [8] 5 [] (Pk 4 [0,2,3])<|Zr [9] 4 [] (Pk 4 [0,1,2,3]) (Pk 4 [0,2,3]) ?_
     refine Dz 10 (DoesH.store (k:=1) (g:=ga0) (off:=0) (v:=iv x2) (cells':=#[iv x2,iv a0.Lease,.slice Aa0_2 a0.Blobs.length ca0_2,.slice Aa0_3 a0.Entries.length ca0_3]) (by kernel_rfl) rfl (by kernel_rfl) (by kernel_rfl)) ?_
     rintro _ _ _ _ ⟨rfl,rfl,rfl⟩
     refine ⟨fun _ w hh=>⟨(fun h=>by cases h),fun _=>(Pk 4 [0,2,3]) w hh,(fun h=>by cases h)⟩,?_⟩
     refine Dz 11 (DoesH.pureop (d:=50) (v:=.pointer (some ⟨ga0,0,none⟩)) (vs:=[]) (evs:=[]) (by kernel_rfl) (fun _ _=>trivial)) ?_
     rintro _ _ _ _ ⟨rfl,rfl,rfl⟩
     refine ⟨fun _ w hh=>⟨(fun h=>by cases h),fun _=>(Pk 4 [0,2,3]) w hh,(fun h=>by cases h)⟩,?_⟩
     refine Zt [12] 1 [] (Pk 4 [0,2,3]) ?_
     refine Dz 13 (DoesH.store (k:=1) (g:=ga0) (off:=1) (v:=iv x3) (cells':=#[iv x2,iv x3,.slice Aa0_2 a0.Blobs.length ca0_2,.slice Aa0_3 a0.Entries.length ca0_3]) (by kernel_rfl) rfl (by kernel_rfl) (by kernel_rfl)) ?_
     rintro _ _ _ _ ⟨rfl,rfl,rfl⟩
     refine ⟨fun _ w hh=>⟨(fun h=>by cases h),(fun h=>absurd h (by decide)),(fun h=>by cases h)⟩,?_⟩
     refine DrH.done (by kernel_rfl) ?_
     refine Sa 1<|Zd 1 ?_
     obtain rfl:=Option.some.inj heq
     refine Up 4 [1,2,3] ?_
     exact RunH.done (by kernel_rfl) Tryz.func22 (v:=.bool true) (by kernel_rfl) ⟨Aa0_2,ca0_2,cha0_2,Aa0_3,ca0_3,cha0_3,rfl,rfl,hoa0_2,hoa0_3⟩
   replace heq:=ht1
   refine Sa 0 ?_
   obtain ⟨x1,hx1,heq⟩:=bind_some heq
   obtain ⟨ha1,cs1,hK1,hcc1⟩:=ho1.get hx1
   obtain rfl:cs1=[.string x1]:=hK1
   refine Zv 5 [nx ha1 hx1,el hcc1 1 0] ?_
   rcases bool_cases (!sEq x1 ({ data:=#[99,97,99,104,101] }:ByteArray)) with hb3 | hb3
   ·replace heq:=bif_true hb3 heq
    refine Zs 31 (congrArg Value.bool hb3)<|Zk 13 ?_
    obtain rfl:=Option.some.inj heq
    refine Dn ?_
    exact Gt 5 [0,2,3,4] (K6 _ hoa0_2 hoa0_3 ho3)
   ·replace heq:=bif_false hb3 heq
    refine Zs 31 (congrArg Value.bool hb3)<|Zk 9 ?_
    rcases bool_cases (!y3.2) with hb4 | hb4
    ·replace heq:=bif_true hb4 heq
     refine Zs 35 (congrArg Value.bool hb4)<|Zk 13 ?_
     obtain rfl:=Option.some.inj heq
     refine Dn ?_
     exact Gt 5 [0,2,3,4] (K6 _ hoa0_2 hoa0_3 ho3)
    ·replace heq:=bif_false hb4 heq
     refine Zs 35 (congrArg Value.bool hb4)<|Zk 13 ?_
     obtain rfl:=Option.some.inj heq
     refine Dn ?_
     exact Gt 5 [0,2,3,4] (K6 _ hoa0_2 hoa0_3 ho3)
  ·intro hb2 heq
   refine An 1 ?_
   obtain ⟨t2,ht2,heq⟩:=bind_some heq
   have K7:∀ (H:Hp),SlOwn kBlob 37 H Aa0_2 ca0_2 a0.Blobs cha0_2→SlOwn kEntry 40 H Aa0_3 ca0_3 a0.Entries cha0_3→SlOwn Kd.string 9 H A1 c1 y1 ch1→RunH C22 (S22 F H0 ga0 r) H0 w0 [.c [1,1,1,0,0,1,1,1],.b 0,.c [1,1,1,1]] [(0,pg ga0 0),(7,.slice A1 y1.length c1),(52,.bool t2)] H (ch1::(some (ga0,.cells #[iv a0.Room,iv a0.Lease,.slice Aa0_2 a0.Blobs.length ca0_2,.slice Aa0_3 a0.Entries.length ca0_3] 25 (0,0)))::cha0_2::cha0_3::F):=by
    intro H hoa0_2 hoa0_3 ho1
    refine Cb heq ?_ ?_
    ·intro hb8 heq
     refine Sa 1 ?_
     obtain ⟨hn4,heq⟩:=guard?_some heq
     have hn3:y1.length - 2=(y1.drop 2).length:=by have h1:=both_of hn4; have h3:=trivial; (try simp); (try omega)
     have ho4:=ho1.drop 2 (by have h2:=ho1.cap; have h3:=trivial; have h1:=both_of hn4; omega)
     refine Zv 2 [⟨.need ((0:Int)≤2∧2≤((y1.length:Nat):Int)),fun w hh=>(both_of hn4)⟩] ?_
     obtain ⟨y4,hy4,heq⟩:=bind_some heq
     refine RgH.does (cal 73 (cache_numbers_c hy4 (ho4.rw (.head _)) (show y1.length - 2≤c1 - 2 from by have h1:=ho4.cap; have h2:=hn3; omega) hn3)) ?_
     rintro _ _ _ _ ⟨_,rfl,A3,c3,ch3,rfl,rfl,rfl,ho5⟩
     refine Zd 8<|Sa 2<|Zd 2 ?_
     refine Cb heq ?_ ?_
     ·intro hb9 heq
      refine Sa 1<|Zd 1 ?_
      obtain rfl:=Option.some.inj heq
      refine Up 5 [2,3,4] ?_
      exact RunH.done (by kernel_rfl) Tryz.func22 (v:=.bool false) (by kernel_rfl) ⟨Aa0_2,ca0_2,cha0_2,Aa0_3,ca0_3,cha0_3,rfl,rfl,hoa0_2,hoa0_3⟩
     ·intro hb9 heq
      refine An 2<|Sd 5 26 [0,1,2,4] [3,3,3,3,3,3,3,3,3,3,3,3,3,3,3,3,3,3,3,3,3,0,1,1,3,2]<|Zt [0,1,2,3] 22 [] (Pk 5 [0,1,2,4])<|Zr [4] 21 [bx 2 2] (Pk 5 [0,1,2,3,4]) (Pk 5 [0,1,2,4]) ?_
      obtain ⟨x5,hx5,heq⟩:=bind_some heq
      obtain ⟨ha6,cs6,hK6,hcc6⟩:=ho1.get hx5
      obtain rfl:cs6=[.string x5]:=hK6
      obtain ⟨x6,hx6,heq⟩:=bind_some heq
      obtain ⟨ha7,cs7,hK7,hcc7⟩:=ho5.get hx6
      obtain rfl:cs7=[iv x6]:=hK7
      obtain ⟨x7,hx7,heq⟩:=bind_some heq
      obtain ⟨ha8,cs8,hK8,hcc8⟩:=ho5.get hx7
      obtain rfl:cs8=[iv x7]:=hK8
      obtain ⟨x8,hx8,heq⟩:=bind_some heq
      obtain ⟨ha9,cs9,hK9,hcc9⟩:=ho5.get hx8
      obtain rfl:cs9=[iv x8]:=hK9
      obtain ⟨x9,hx9,heq⟩:=bind_some heq
      obtain ⟨ha10,cs10,hK10,hcc10⟩:=ho5.get hx9
      obtain rfl:cs10=[iv x9]:=hK10
      refine Zt [5,6,7,8,9,10,11,12,13,14,15,16,17,18,19,20] 5 [nx ha6 hx5,el hcc6 1 0,nx ha7 hx6,el hcc7 0 0,nx ha8 hx7,el hcc8 0 0,nx ha9 hx8,el hcc9 0 0,nx ha10 hx9,el hcc10 0 0] (Pk 5 [0,1,2,4]) ?_
      refine Dz 21 (DoesH.new (d:=99) (v:=fun g=>.slice (some ⟨g,0,none⟩) 1 1) (o:=fun g=>.cells #[.string x5,iv x6,iv x7,iv x8,iv x9] 37 (0,0)) (fun g=>by kernel_rfl)) ?_
      rintro _ _ _ _ ⟨g1,rfl,rfl,rfl⟩
      have ho6:SlOwn kBlob 37 H (some ⟨g1,0,none⟩) 1 ([(⟨x5,x6,x7,x8,x9⟩:Blob)]:List Blob) (some (g1,.cells #[.string x5,iv x6,iv x7,iv x8,iv x9] 37 (0,0))):=SlOwn.lit (xs:=([(⟨x5,x6,x7,x8,x9⟩:Blob)]:List Blob)) (by kernel_rfl) (Nat.le_of_ble_eq_true (by kernel_rfl)) (Kd.Rep.one kBlob_mk)
      refine ⟨fun _ w hh=>⟨fun _=>(Pk 6 [1,2,3,4,5]) w hh,fun _=>(Pk 6 [1,2,3,5]) w hh,(fun h=>by cases h)⟩,?_⟩
      obtain ⟨hn5,heq⟩:=guard?_some heq
      refine Dz 22 (DoesH.append (d:=100) (k:=4) (t:=22) (e:=37) (bytes:=48) (kd:=kBlob) (n:=a0.Blobs.length) (m:=1) (xs:=a0.Blobs) (ys:=([(⟨x5,x6,x7,x8,x9⟩:Blob)]:List Blob)) (A:=Aa0_2) (B:=(some ⟨g1,0,none⟩)) (c:=ca0_2) (cB:=1) (by kernel_rfl) rfl rfl (by kernel_rfl) rfl hoa0_2 (fun w hh=>ho6.rdb (hh.chin 0 rfl)) (room_le hn5) (by have:=room_le hn5; omega)) ?_
      rintro _ _ _ _ ⟨A4,c4,ch4,rfl,rfl,rfl,ho7⟩
      refine ⟨fun _ w hh=>⟨(fun h=>by cases h),fun _=>(Pk 6 [1,2,3,5]) w hh,(fun h=>by cases h)⟩,?_⟩
      refine Dz 23 (DoesH.pureop (d:=101) (v:=.pointer (some ⟨ga0,0,none⟩)) (vs:=[]) (evs:=[]) (by kernel_rfl) (fun _ _=>trivial)) ?_
      rintro _ _ _ _ ⟨rfl,rfl,rfl⟩
      refine ⟨fun _ w hh=>⟨(fun h=>by cases h),fun _=>(Pk 6 [1,2,3,5]) w hh,(fun h=>by cases h)⟩,?_⟩
      refine Zt [24] 1 [] (Pk 6 [1,2,3,5]) ?_
      refine Dz 25 (DoesH.store (k:=3) (g:=ga0) (off:=2) (v:=.slice A4 ((a0.Blobs++([(⟨x5,x6,x7,x8,x9⟩:Blob)]:List Blob)).length) c4) (cells':=#[iv a0.Room,iv a0.Lease,.slice A4 ((a0.Blobs++([(⟨x5,x6,x7,x8,x9⟩:Blob)]:List Blob)).length) c4,.slice Aa0_3 a0.Entries.length ca0_3]) (by kernel_rfl) rfl (by kernel_rfl) (by kernel_rfl)) ?_
      rintro _ _ _ _ ⟨rfl,rfl,rfl⟩
      refine ⟨fun _ w hh=>⟨(fun h=>by cases h),(fun h=>absurd h (by decide)),(fun h=>by cases h)⟩,?_⟩
      refine DrH.done (by kernel_rfl) ?_
      refine Sa 1<|Zd 1 ?_
      obtain rfl:=Option.some.inj heq
      refine Up 6 [3,4,5] ?_
      exact RunH.done (by kernel_rfl) Tryz.func22 (v:=.bool true) (by kernel_rfl) ⟨A4,c4,ch4,Aa0_3,ca0_3,cha0_3,rfl,rfl,ho7,hoa0_3⟩
    ·intro hb8 heq
     refine An 1 ?_
     obtain ⟨t3,ht3,heq⟩:=bind_some heq
     have K10:∀ (H:Hp),SlOwn kBlob 37 H Aa0_2 ca0_2 a0.Blobs cha0_2→SlOwn kEntry 40 H Aa0_3 ca0_3 a0.Entries cha0_3→SlOwn Kd.string 9 H A1 c1 y1 ch1→RunH C22 (S22 F H0 ga0 r) H0 w0 [.c [1,1,1,0,0,1,1,1,1,1],.b 0,.c [1,1,1,1]] [(0,pg ga0 0),(7,.slice A1 y1.length c1),(103,.bool t3)] H (ch1::(some (ga0,.cells #[iv a0.Room,iv a0.Lease,.slice Aa0_2 a0.Blobs.length ca0_2,.slice Aa0_3 a0.Entries.length ca0_3] 25 (0,0)))::cha0_2::cha0_3::F):=by
      intro H hoa0_2 hoa0_3 ho1
      refine Cb heq ?_ ?_
      ·intro hb11 heq
       refine Sa 1 ?_
       obtain ⟨hn7,heq⟩:=guard?_some heq
       have hn6:3 - 2=((y1.take 3).drop 2).length:=by have h1:=three_of hn7; have h3:=trivial; (try simp); (try omega)
       have ho8:=(ho1.take 3).drop 2 (by have h2:=ho1.cap; have h3:=trivial; have h1:=three_of hn7; omega)
       refine Zv 2 [⟨.need ((0:Int)≤2∧(2:Int)≤3∧3≤((c1:Nat):Int)),fun w hh=>⟨(three_of hn7).1,(three_of hn7).2.1,(by have h1:=(three_of hn7).2.2; have h2:=ho1.cap; have h3:=trivial; omega)⟩⟩] ?_
       obtain ⟨y5,hy5,heq⟩:=bind_some heq
       refine RgH.does (cal 116 (cache_numbers_c hy5 (ho8.rw (.head _)) (show 3 - 2≤c1 - 2 from by have h1:=ho8.cap; have h2:=hn6; omega) hn6)) ?_
       rintro _ _ _ _ ⟨_,rfl,A5,c5,ch5,rfl,rfl,rfl,ho9⟩
       refine Zd 8<|Sa 2<|Zd 2 ?_
       refine Cb heq ?_ ?_
       ·intro hb12 heq
        refine Sa 1<|Zd 1 ?_
        obtain rfl:=Option.some.inj heq
        refine Up 5 [2,3,4] ?_
        exact RunH.done (by kernel_rfl) Tryz.func22 (v:=.bool false) (by kernel_rfl) ⟨Aa0_2,ca0_2,cha0_2,Aa0_3,ca0_3,cha0_3,rfl,rfl,hoa0_2,hoa0_3⟩
       ·intro hb12 heq
        refine An 2<|Sd 5 20 [0,1,2,3] [3,3,3,3,3,3,3,3,3,3,3,3,3,0,3,0,1,1,3,2]<|Zt [0,1,2,3] 16 [] (Pk 5 [0,1,2,3])<|Zr [4] 15 [bx 2 3] (Pk 5 [0,1,2,3,4]) (Pk 5 [0,1,2,3]) ?_
        obtain ⟨x11,hx11,heq⟩:=bind_some heq
        obtain ⟨ha12,cs12,hK12,hcc12⟩:=ho1.get hx11
        obtain rfl:cs12=[.string x11]:=hK12
        obtain ⟨x12,hx12,heq⟩:=bind_some heq
        obtain ⟨ha13,cs13,hK13,hcc13⟩:=ho9.get hx12
        obtain rfl:cs13=[iv x12]:=hK13
        obtain ⟨hn9,heq⟩:=guard?_some heq
        have hn8:y1.length - 3=(y1.drop 3).length:=by have h1:=both_of hn9; have h3:=trivial; (try simp); (try omega)
        have ho10:=ho1.drop 3 (by have h2:=ho1.cap; have h3:=trivial; have h1:=both_of hn9; omega)
        refine Zt [5,6,7,8,9,10,11,12] 7 [nx ha12 hx11,el hcc12 1 0,nx ha13 hx12,el hcc13 0 0,⟨.need ((0:Int)≤3∧3≤((y1.length:Nat):Int)),fun w hh=>(both_of hn9)⟩] (Pk 5 [0,1,2,3]) ?_
        obtain ⟨y6,hy6,heq⟩:=bind_some heq
        refine Dz 13 (cal 134 (slices_Clone_string_c (a0:=(y1.drop 3)) (ho10.rw (.tail _ (.head _))) (show y1.length - 3≤c1 - 3 from by have h1:=ho10.cap; have h2:=hn8; omega) hn8 hy6)) ?_
        rintro _ _ _ _ ⟨_,rfl,A6,c6,ch6,rfl,rfl,rfl,ho11⟩
        refine ⟨fun _ w hh=>⟨fun _=>(Pk 6 [1,2,3,4,5]) w hh,fun _=>(Pk 6 [1,2,3,4]) w hh,(fun h=>by cases h)⟩,?_⟩
        refine Zt [14] 5 [] (Pk 6 [1,2,3,4]) ?_
        have hc1:=ho11.cap
        refine DrH.freezeS ho11 (fun H hl hr1=>?_)
        have hle:=hl
        replace hoa0_2:=hoa0_2.mono hl
        replace hoa0_3:=hoa0_3.mono hl
        refine Dz 15 (DoesH.new (d:=136) (v:=fun g=>.slice (some ⟨g,0,none⟩) 1 1) (o:=fun g=>.cells #[.string x11,.slice A6 y6.length c6,iv x12] 40 (0,0)) (fun g=>by kernel_rfl)) ?_
        rintro _ _ _ _ ⟨g2,rfl,rfl,rfl⟩
        have ho12:SlOwn kEntry 40 H (some ⟨g2,0,none⟩) 1 ([(⟨x11,y6,x12⟩:Entry)]:List Entry) (some (g2,.cells #[.string x11,.slice A6 y6.length c6,iv x12] 40 (0,0))):=SlOwn.lit (xs:=([(⟨x11,y6,x12⟩:Entry)]:List Entry)) (by kernel_rfl) (Nat.le_of_ble_eq_true (by kernel_rfl)) (Kd.Rep.one (kEntry_mk hc1 hr1))
        refine ⟨fun _ w hh=>⟨fun _=>(fun w hh=>(hh.le hle).pick 6 [1,2,3,4,5] (by kernel_rfl)) w hh,fun _=>(fun w hh=>(hh.le hle).pick 6 [1,2,3,4] (by kernel_rfl)) w hh,(fun h=>by cases h)⟩,?_⟩
        obtain ⟨hn10,heq⟩:=guard?_some heq
        refine Dz 16 (DoesH.append (d:=137) (k:=5) (t:=23) (e:=40) (bytes:=48) (kd:=kEntry) (n:=a0.Entries.length) (m:=1) (xs:=a0.Entries) (ys:=([(⟨x11,y6,x12⟩:Entry)]:List Entry)) (A:=Aa0_3) (B:=(some ⟨g2,0,none⟩)) (c:=ca0_3) (cB:=1) (by kernel_rfl) rfl rfl (by kernel_rfl) rfl hoa0_3 (fun w hh=>ho12.rdb (hh.chin 0 rfl)) (room_le hn10) (by have:=room_le hn10; omega)) ?_
        rintro _ _ _ _ ⟨A7,c7,ch7,rfl,rfl,rfl,ho13⟩
        refine ⟨fun _ w hh=>⟨(fun h=>by cases h),fun _=>(fun w hh=>(hh.le hle).pick 6 [1,2,3,4] (by kernel_rfl)) w hh,(fun h=>by cases h)⟩,?_⟩
        refine Dz 17 (DoesH.pureop (d:=138) (v:=.pointer (some ⟨ga0,0,none⟩)) (vs:=[]) (evs:=[]) (by kernel_rfl) (fun _ _=>trivial)) ?_
        rintro _ _ _ _ ⟨rfl,rfl,rfl⟩
        refine ⟨fun _ w hh=>⟨(fun h=>by cases h),fun _=>(fun w hh=>(hh.le hle).pick 6 [1,2,3,4] (by kernel_rfl)) w hh,(fun h=>by cases h)⟩,?_⟩
        refine Zt [18] 1 [] (fun w hh=>(hh.le hle).pick 6 [1,2,3,4] (by kernel_rfl)) ?_
        refine Dz 19 (DoesH.store (k:=3) (g:=ga0) (off:=3) (v:=.slice A7 ((a0.Entries++([(⟨x11,y6,x12⟩:Entry)]:List Entry)).length) c7) (cells':=#[iv a0.Room,iv a0.Lease,.slice Aa0_2 a0.Blobs.length ca0_2,.slice A7 ((a0.Entries++([(⟨x11,y6,x12⟩:Entry)]:List Entry)).length) c7]) (by kernel_rfl) rfl (by kernel_rfl) (by kernel_rfl)) ?_
        rintro _ _ _ _ ⟨rfl,rfl,rfl⟩
        refine ⟨fun _ w hh=>⟨(fun h=>by cases h),(fun h=>absurd h (by decide)),(fun h=>by cases h)⟩,?_⟩
        refine DrH.done (by kernel_rfl) ?_
        refine Sa 1<|Zd 1 ?_
        obtain rfl:=Option.some.inj heq
        refine Up 6 [3,4,5] ?_
        exact RunH.done (by kernel_rfl) Tryz.func22 (v:=.bool true) (by kernel_rfl) ⟨Aa0_2,ca0_2,cha0_2,A7,c7,ch7,rfl,rfl,hoa0_2,ho13⟩
      ·intro hb11 heq
       refine Sa 3<|Zd 1 ?_
       obtain rfl:=Option.some.inj heq
       refine Up 4 [1,2,3] ?_
       exact RunH.done (by kernel_rfl) Tryz.func22 (v:=.bool false) (by kernel_rfl) ⟨Aa0_2,ca0_2,cha0_2,Aa0_3,ca0_3,cha0_3,rfl,rfl,hoa0_2,hoa0_3⟩
     replace heq:=ht3
     refine Sa 0 ?_
     obtain ⟨x10,hx10,heq⟩:=bind_some heq
     obtain ⟨ha11,cs11,hK11,hcc11⟩:=ho1.get hx10
     obtain rfl:cs11=[.string x10]:=hK11
     refine Zv 5 [nx ha11 hx10,el hcc11 0 0] ?_
     rcases bool_cases (sEq x10 ({ data:=#[101,110,116,114,121] }:ByteArray)) with hb10 | hb10
     ·replace heq:=bif_true hb10 heq
      refine Zs 108 (congrArg Value.bool hb10)<|Zk 10 ?_
      obtain rfl:=Option.some.inj heq
      refine Dn ?_
      exact Gt 4 [0,1,2,3] (K10 _ hoa0_2 hoa0_3 ho1)
     ·replace heq:=bif_false hb10 heq
      refine Zs 108 (congrArg Value.bool hb10)<|Zk 10 ?_
      obtain rfl:=Option.some.inj heq
      refine Dn ?_
      exact Gt 4 [0,1,2,3] (K10 _ hoa0_2 hoa0_3 ho1)
   replace heq:=ht2
   refine Sa 0 ?_
   obtain ⟨x4,hx4,heq⟩:=bind_some heq
   obtain ⟨ha5,cs5,hK5,hcc5⟩:=ho1.get hx4
   obtain rfl:cs5=[.string x4]:=hK5
   refine Zv 5 [nx ha5 hx4,el hcc5 0 0] ?_
   rcases bool_cases (sEq x4 ({ data:=#[98,108,111,98] }:ByteArray)) with hb6 | hb6
   ·replace heq:=bif_true hb6 heq
    refine Zs 57 (congrArg Value.bool hb6)<|Zk 10 ?_
    rcases bool_cases ((y1.length:Int) == 6) with hb7 | hb7
    ·replace heq:=bif_true hb7 heq
     refine Zs 62 (congrArg Value.bool hb7)<|Zv 18 [bx 1 3] ?_
     obtain rfl:=Option.some.inj heq
     refine Dn ?_
     exact Gt 4 [0,1,2,3] (K7 _ hoa0_2 hoa0_3 ho1)
    ·replace heq:=bif_false hb7 heq
     refine Zs 62 (congrArg Value.bool hb7)<|Zk 18 ?_
     obtain rfl:=Option.some.inj heq
     refine Dn ?_
     exact Gt 4 [0,1,2,3] (K7 _ hoa0_2 hoa0_3 ho1)
   ·replace heq:=bif_false hb6 heq
    refine Zs 57 (congrArg Value.bool hb6)<|Zk 18 ?_
    obtain rfl:=Option.some.inj heq
    refine Dn ?_
    exact Gt 4 [0,1,2,3] (K7 _ hoa0_2 hoa0_3 ho1)
noncomputable def C7:Ctx:={ P:=Tryz.prog,f:=7,N:=48,c:=bodyOf Tryz.f7 }
def S7 (F:List Ch) (H0:Hp) (r:Cache × Int × Int) (v:Value) (H:Hp) (cs:List Ch):Prop:=∃ (A0_2:Option Addr) (c0_2:Nat) (ch0_2:Ch) (A0_3:Option Addr) (c0_3:Nat) (ch0_3:Ch),v=.tuple #[.agg #[iv r.1.Room,iv r.1.Lease,.slice A0_2 r.1.Blobs.length c0_2,.slice A0_3 r.1.Entries.length c0_3],iv r.2.1,iv r.2.2]∧ch0_2::ch0_3::F=cs∧SlOwn kBlob 37 H A0_2 c0_2 r.1.Blobs ch0_2∧SlOwn kEntry 40 H A0_3 c0_3 r.1.Entries ch0_3
theorem cache_Read.e1_c [Wz w0] {r:Cache × Int × Int}:∀ (H:Hp) (g1 g2:Nat) (v_c5_0 v_c5_1:Int) (v_c5_2:List Blob) (Av_c5_2:Option Addr) (nv_c5_2 cv_c5_2:Nat) (chv_c5_2:Ch) (v_c5_3:List Entry) (Av_c5_3:Option Addr) (nv_c5_3 cv_c5_3:Nat) (chv_c5_3:Ch) ,SlOwn kBlob 37 H Av_c5_2 cv_c5_2 v_c5_2 chv_c5_2→nv_c5_2=v_c5_2.length→SlOwn kEntry 40 H Av_c5_3 cv_c5_3 v_c5_3 chv_c5_3→nv_c5_3=v_c5_3.length→cache_Read.e1 v_c5_0 v_c5_1 v_c5_2 v_c5_3=some r→RunH C7 (S7 F H0 r) H0 w0 [.c [1,1,1,1,0,0],.c [1,1,1,1,0,1],.c [1,1,1,1,1]] [(2,pg g1 0),(5,pg g2 0)] H (chv_c5_2::chv_c5_3::(some (g2,.cells #[iv v_c5_0,iv v_c5_1,.slice Av_c5_2 nv_c5_2 cv_c5_2,.slice Av_c5_3 nv_c5_3 cv_c5_3] 25 (0,0)))::(some (g1,.cells #[iv 0,iv 0,.slice none 0 0,.slice none 0 0] 25 (0,0)))::F):=by
 intro H g1 g2 v_c5_0 v_c5_1 v_c5_2 Av_c5_2 nv_c5_2 cv_c5_2 chv_c5_2 v_c5_3 Av_c5_3 nv_c5_3 cv_c5_3 chv_c5_3 hov_c5_2 hnv_c5_2 hov_c5_3 hnv_c5_3 heq
 subst hnv_c5_2
 subst hnv_c5_3
 unfold cache_Read.e1 at heq
 refine Sa 0<|Zv 1 (bxs 2) ?_
 obtain ⟨y1,hy1,heq⟩:=bind_some heq
 refine RgH.does (cal 42 (cache_CheckCache_c hy1 (hov_c5_2.rw (.head _)) hov_c5_2.cap rfl (hov_c5_3.rw (.tail _ (.head _))) hov_c5_3.cap rfl)) ?_
 rintro _ _ _ _ ⟨_,rfl,rfl,rfl,rfl⟩
 refine Zd 3<|Sa 1<|Zd 2 ?_
 refine Cb heq ?_ ?_
 ·intro hb2 heq
  refine Sa 1<|Zk 2 ?_
  refine RgH.does (DoesH.store (k:=3) (g:=g1) (off:=0) (v:=.agg #[iv 0,iv 0,.slice none 0 0,.slice none 0 0]) (cells':=#[iv 0,iv 0,.slice none 0 0,.slice none 0 0]) (by kernel_rfl) rfl (by kernel_rfl) (by kernel_rfl)) ?_
  rintro _ _ _ _ ⟨rfl,rfl,rfl⟩
  refine Zd 5<|RunH.nilc ?_
  have ho3:SlOwn kBlob 37 H none 0 ([]:List Blob) none:=SlOwn.nil
  refine RunH.nilc ?_
  have ho4:SlOwn kEntry 40 H none 0 ([]:List Entry) none:=SlOwn.nil
  obtain rfl:=Option.some.inj heq
  refine Up 6 [5,1,0] ?_
  exact RunH.doneM' 1 (vs:=[.agg #[iv 0,iv 0,.slice none 0 0,.slice none 0 0],iv 0,iv y1]) (v:=.tuple #[.agg #[iv 0,iv 0,.slice none 0 0,.slice none 0 0],iv 0,iv y1]) (by kernel_rfl) Tryz.func7 (fun w hh=>show ResAll _ _ _ [.cell 2 25,.tmp 3,.tmp 4] _ from ⟨⟨⟨g1,0,none⟩,by kernel_rfl,trS_run _ (vs:=[iv 0,iv 0,.slice none 0 0,.slice none 0 0]) (r:=[]) (es:=[.load ⟨g1,0,none⟩ (iv 0),.load ⟨g1,1,none⟩ (iv 0),.load ⟨g1,2,none⟩ (.slice none 0 0),.load ⟨g1,3,none⟩ (.slice none 0 0)]) (by kernel_rfl) ⟨(hh.box 0 rfl rfl),(hh.box 0 rfl rfl),(hh.box 0 rfl rfl),(hh.box 0 rfl rfl)⟩⟩,(show lk _ _=some _ by kernel_rfl),(show lk _ _=some _ by kernel_rfl),trivial⟩) rfl (cs':=none::none::F) rfl ⟨none,0,none,none,0,none,rfl,rfl,ho3,ho4⟩
 ·intro hb2 heq
  refine Sa 2<|Zv 1 (bxs 2) ?_
  refine RgH.does (DoesH.store (k:=3) (g:=g1) (off:=0) (v:=.agg #[iv v_c5_0,iv v_c5_1,.slice Av_c5_2 v_c5_2.length cv_c5_2,.slice Av_c5_3 v_c5_3.length cv_c5_3]) (cells':=#[iv v_c5_0,iv v_c5_1,.slice Av_c5_2 v_c5_2.length cv_c5_2,.slice Av_c5_3 v_c5_3.length cv_c5_3]) (by kernel_rfl) rfl (by kernel_rfl) (by kernel_rfl)) ?_
  rintro _ _ _ _ ⟨rfl,rfl,rfl⟩
  refine Zd 4 ?_
  obtain rfl:=Option.some.inj heq
  refine Up 4 [3,0,1] ?_
  exact RunH.doneM' 1 (vs:=[.agg #[iv v_c5_0,iv v_c5_1,.slice Av_c5_2 v_c5_2.length cv_c5_2,.slice Av_c5_3 v_c5_3.length cv_c5_3],iv 0,iv 0]) (v:=.tuple #[.agg #[iv v_c5_0,iv v_c5_1,.slice Av_c5_2 v_c5_2.length cv_c5_2,.slice Av_c5_3 v_c5_3.length cv_c5_3],iv 0,iv 0]) (by kernel_rfl) Tryz.func7 (fun w hh=>show ResAll _ _ _ [.cell 2 25,.tmp 3,.tmp 4] _ from ⟨⟨⟨g1,0,none⟩,by kernel_rfl,trS_run _ (vs:=[iv v_c5_0,iv v_c5_1,.slice Av_c5_2 v_c5_2.length cv_c5_2,.slice Av_c5_3 v_c5_3.length cv_c5_3]) (r:=[]) (es:=[.load ⟨g1,0,none⟩ (iv v_c5_0),.load ⟨g1,1,none⟩ (iv v_c5_1),.load ⟨g1,2,none⟩ (.slice Av_c5_2 v_c5_2.length cv_c5_2),.load ⟨g1,3,none⟩ (.slice Av_c5_3 v_c5_3.length cv_c5_3)]) (by kernel_rfl) ⟨(hh.box 0 rfl rfl),(hh.box 0 rfl rfl),(hh.box 0 rfl rfl),(hh.box 0 rfl rfl)⟩⟩,(show lk _ _=some _ by kernel_rfl),(show lk _ _=some _ by kernel_rfl),trivial⟩) rfl (cs':=chv_c5_2::chv_c5_3::F) rfl ⟨Av_c5_2,cv_c5_2,chv_c5_2,Av_c5_3,cv_c5_3,chv_c5_3,rfl,rfl,hov_c5_2,hov_c5_3⟩
theorem cache_Read.l2_c [Wz w0] {r:Cache × Int × Int} (e1:Int→Int→(List Blob)→(List Entry)→Option (Cache × Int × Int))
  (he1:∀ (H:Hp) (g1 g2:Nat) (v_c5_0 v_c5_1:Int) (v_c5_2:List Blob) (Av_c5_2:Option Addr) (nv_c5_2 cv_c5_2:Nat) (chv_c5_2:Ch) (v_c5_3:List Entry) (Av_c5_3:Option Addr) (nv_c5_3 cv_c5_3:Nat) (chv_c5_3:Ch) ,SlOwn kBlob 37 H Av_c5_2 cv_c5_2 v_c5_2 chv_c5_2→nv_c5_2=v_c5_2.length→SlOwn kEntry 40 H Av_c5_3 cv_c5_3 v_c5_3 chv_c5_3→nv_c5_3=v_c5_3.length→e1 v_c5_0 v_c5_1 v_c5_2 v_c5_3=some r→RunH C7 (S7 F H0 r) H0 w0 [.c [1,1,1,1,0,0],.c [1,1,1,1,0,1],.c [1,1,1,1,1]] [(2,pg g1 0),(5,pg g2 0)] H (chv_c5_2::chv_c5_3::(some (g2,.cells #[iv v_c5_0,iv v_c5_1,.slice Av_c5_2 nv_c5_2 cv_c5_2,.slice Av_c5_3 nv_c5_3 cv_c5_3] 25 (0,0)))::(some (g1,.cells #[iv 0,iv 0,.slice none 0 0,.slice none 0 0] 25 (0,0)))::F)):∀ (k:Nat),∀ (H:Hp) (g1 g2:Nat) (v_text0:ByteArray) (v_c5_0 v_c5_1:Int) (v_c5_2:List Blob) (Av_c5_2:Option Addr) (nv_c5_2 cv_c5_2:Nat) (chv_c5_2:Ch) (v_c5_3:List Entry) (Av_c5_3:Option Addr) (nv_c5_3 cv_c5_3:Nat) (chv_c5_3:Ch) (v_i6:Int) ,SlOwn kBlob 37 H Av_c5_2 cv_c5_2 v_c5_2 chv_c5_2→nv_c5_2=v_c5_2.length→SlOwn kEntry 40 H Av_c5_3 cv_c5_3 v_c5_3 chv_c5_3→nv_c5_3=v_c5_3.length→cache_Read.l2 e1 k v_text0 v_c5_0 v_c5_1 v_c5_2 v_c5_3 v_i6=some r→RunH C7 (S7 F H0 r) H0 w0 [.c [1,1,1,0,1,0,0],.l [1,1,1,0,1,0,0],.b 0,.c [1,1,1,1]] [(0,.string v_text0),(2,pg g1 0),(5,pg g2 0),(6,iv v_i6)] H (chv_c5_2::chv_c5_3::(some (g2,.cells #[iv v_c5_0,iv v_c5_1,.slice Av_c5_2 nv_c5_2 cv_c5_2,.slice Av_c5_3 nv_c5_3 cv_c5_3] 25 (0,0)))::(some (g1,.cells #[iv 0,iv 0,.slice none 0 0,.slice none 0 0] 25 (0,0)))::F):=by
 intro k
 induction k with
 | zero=>intro H g1 g2 v_text0 v_c5_0 v_c5_1 v_c5_2 Av_c5_2 nv_c5_2 cv_c5_2 chv_c5_2 v_c5_3 Av_c5_3 nv_c5_3 cv_c5_3 chv_c5_3 v_i6 hov_c5_2 hnv_c5_2 hov_c5_3 hnv_c5_3 heq; exact nomatch (show (none:Option (Cache × Int × Int))=some r from heq)
 | succ k ihk =>
  intro H g1 g2 v_text0 v_c5_0 v_c5_1 v_c5_2 Av_c5_2 nv_c5_2 cv_c5_2 chv_c5_2 v_c5_3 Av_c5_3 nv_c5_3 cv_c5_3 chv_c5_3 v_i6 hov_c5_2 hnv_c5_2 hov_c5_3 hnv_c5_3 heq
  subst hnv_c5_2
  subst hnv_c5_3
  rw [cache_Read.l2] at heq
  refine An 2 ?_
  obtain ⟨t1,ht1,heq⟩:=bind_some heq
  have K11:∀ (H:Hp),SlOwn kBlob 37 H Av_c5_2 cv_c5_2 v_c5_2 chv_c5_2→SlOwn kEntry 40 H Av_c5_3 cv_c5_3 v_c5_3 chv_c5_3→RunH C7 (S7 F H0 r) H0 w0 [.c [1,1,1,0,1,0,0,0,1],.c [1,1,1,0,1,0,0,1],.l [1,1,1,0,1,0,0],.b 0,.c [1,1,1,1]] [(0,.string v_text0),(2,pg g1 0),(5,pg g2 0),(6,iv v_i6),(20,.bool t1)] H (chv_c5_2::chv_c5_3::(some (g2,.cells #[iv v_c5_0,iv v_c5_1,.slice Av_c5_2 v_c5_2.length cv_c5_2,.slice Av_c5_3 v_c5_3.length cv_c5_3] 25 (0,0)))::(some (g1,.cells #[iv 0,iv 0,.slice none 0 0,.slice none 0 0] 25 (0,0)))::F):=by
   intro H hov_c5_2 hov_c5_3
   refine Cb heq ?_ ?_
   ·intro hb4 heq
    refine Sa 4<|Zk 1 ?_
    obtain ⟨y2,hy2,heq⟩:=bind_some heq
    refine RgH.does (cal 25 (strings_Cut_c hy2 )) ?_
    rintro _ _ _ _ ⟨_,rfl,rfl,rfl,rfl⟩
    refine Zd 9<|An 2 ?_
    obtain ⟨t2,ht2,heq⟩:=bind_some heq
    have K16:∀ (H:Hp),∀ (Av_c5_2m:Option Addr),∀ (nv_c5_2m:Nat),∀ (cv_c5_2m:Nat),∀ (chv_c5_2m:Ch),∀ (Av_c5_3m:Option Addr),∀ (nv_c5_3m:Nat),∀ (cv_c5_3m:Nat),∀ (chv_c5_3m:Ch),SlOwn kBlob 37 H Av_c5_2m cv_c5_2m t2.2.2.1 chv_c5_2m→nv_c5_2m=t2.2.2.1.length→SlOwn kEntry 40 H Av_c5_3m cv_c5_3m t2.2.2.2.1 chv_c5_3m→nv_c5_3m=t2.2.2.2.1.length→RunH C7 (S7 F H0 r) H0 w0 [.c [1,1,1,0,1,0,0,1,0,0,1,0,1],.c [1,1,1,0,1,0,0,1,0,0,1,1],.b 1,.c [1,1,1,0,1,0,0,1,1],.l [1,1,1,0,1,0,0],.b 0,.c [1,1,1,1]] [(2,pg g1 0),(5,pg g2 0),(6,iv v_i6),(8,.string y2.2.1),(36,.bool t2.2.2.2.2)] H (chv_c5_2m::chv_c5_3m::(some (g2,.cells #[iv t2.1,iv t2.2.1,.slice Av_c5_2m nv_c5_2m cv_c5_2m,.slice Av_c5_3m nv_c5_3m cv_c5_3m] 25 (0,0)))::(some (g1,.cells #[iv 0,iv 0,.slice none 0 0,.slice none 0 0] 25 (0,0)))::F):=by
     intro H Av_c5_2m nv_c5_2m cv_c5_2m chv_c5_2m Av_c5_3m nv_c5_3m cv_c5_3m chv_c5_3m hov_c5_2m hnv_c5_2m hov_c5_3m hnv_c5_3m
     subst hnv_c5_2m
     subst hnv_c5_3m
     refine Cb heq ?_ ?_
     ·intro hb6 heq
      refine Sa 1<|Zk 3 ?_
      refine RgH.does (DoesH.store (k:=3) (g:=g1) (off:=0) (v:=.agg #[iv 0,iv 0,.slice none 0 0,.slice none 0 0]) (cells':=#[iv 0,iv 0,.slice none 0 0,.slice none 0 0]) (by kernel_rfl) rfl (by kernel_rfl) (by kernel_rfl)) ?_
      rintro _ _ _ _ ⟨rfl,rfl,rfl⟩
      refine Zd 6<|RunH.nilc ?_
      have ho7:SlOwn kBlob 37 H none 0 ([]:List Blob) none:=SlOwn.nil
      refine RunH.nilc ?_
      have ho8:SlOwn kEntry 40 H none 0 ([]:List Entry) none:=SlOwn.nil
      obtain rfl:=Option.some.inj heq
      refine Up 6 [5,1,0] ?_
      exact RunH.doneM' 1 (vs:=[.agg #[iv 0,iv 0,.slice none 0 0,.slice none 0 0],iv (w64 (v_i6+1)),iv 10]) (v:=.tuple #[.agg #[iv 0,iv 0,.slice none 0 0,.slice none 0 0],iv (w64 (v_i6+1)),iv 10]) (by kernel_rfl) Tryz.func7 (fun w hh=>show ResAll _ _ _ [.cell 2 25,.tmp 3,.tmp 4] _ from ⟨⟨⟨g1,0,none⟩,by kernel_rfl,trS_run _ (vs:=[iv 0,iv 0,.slice none 0 0,.slice none 0 0]) (r:=[]) (es:=[.load ⟨g1,0,none⟩ (iv 0),.load ⟨g1,1,none⟩ (iv 0),.load ⟨g1,2,none⟩ (.slice none 0 0),.load ⟨g1,3,none⟩ (.slice none 0 0)]) (by kernel_rfl) ⟨(hh.box 0 rfl rfl),(hh.box 0 rfl rfl),(hh.box 0 rfl rfl),(hh.box 0 rfl rfl)⟩⟩,(show lk _ _=some _ by kernel_rfl),(show lk _ _=some _ by kernel_rfl),trivial⟩) rfl (cs':=none::none::F) rfl ⟨none,0,none,none,0,none,rfl,rfl,ho7,ho8⟩
     ·intro hb6 heq
      refine Sa 1<|Zd 2<|Sa 1<|Zd 3<|An 1 ?_
      exact Gt 4 [0,1,2,3] (ihk _ _ _ y2.2.1 t2.1 t2.2.1 t2.2.2.1 _ _ _ _ t2.2.2.2.1 _ _ _ _ (w64 (v_i6+1)) hov_c5_2m rfl hov_c5_3m rfl heq)
    replace heq:=ht2
    refine Sa 0<|Zk 3 ?_
    rcases bool_cases (!y2.2.2) with hb5 | hb5
    ·replace heq:=bif_true hb5 heq
     refine Zs 31 (congrArg Value.bool hb5)<|Zk 8 ?_
     obtain rfl:=Option.some.inj heq
     refine Dn ?_
     exact Gt 4 [0,1,2,3] (K16 _ _ _ _ _ _ _ _ _ hov_c5_2 rfl hov_c5_3 rfl)
    ·replace heq:=bif_false hb5 heq
     refine Zs 31 (congrArg Value.bool hb5)<|Zk 5<|Ug 4 [2,0,1,3] ?_
     obtain ⟨y3,hy3,heq⟩:=bind_some heq
     refine RgH.does (cal 34 (cache_line_c hy3 hov_c5_2 rfl hov_c5_3 rfl)) ?_
     rintro _ H _ hl ⟨_,rfl,A1,c1,ch1,A2,c2,ch2,rfl,rfl,ho5,ho6⟩
     replace hov_c5_2:=hov_c5_2.mono hl
     replace hov_c5_3:=hov_c5_3.mono hl
     refine Zk 8 ?_
     obtain rfl:=Option.some.inj heq
     refine Dn ?_
     exact Gt 4 [1,2,0,3] (K16 _ _ _ _ _ _ _ _ _ ho5 rfl ho6 rfl)
   ·intro hb4 heq
    refine An 3 ?_
    exact Gt 4 [0,1,2,3] (he1 _ _ _ v_c5_0 v_c5_1 v_c5_2 _ _ _ _ v_c5_3 _ _ _ _ hov_c5_2 rfl hov_c5_3 rfl heq)
  replace heq:=ht1
  refine Sa 0<|Zk 3 ?_
  rcases bool_cases (v_i6 == 0) with hb3 | hb3
  ·replace heq:=bif_true hb3 heq
   refine Zs 17 (congrArg Value.bool hb3)<|Zk 6 ?_
   obtain rfl:=Option.some.inj heq
   refine Dn ?_
   exact Gt 4 [0,1,2,3] (K11 _ hov_c5_2 hov_c5_3)
  ·replace heq:=bif_false hb3 heq
   refine Zs 17 (congrArg Value.bool hb3)<|Zk 6 ?_
   obtain rfl:=Option.some.inj heq
   refine Dn ?_
   exact Gt 4 [0,1,2,3] (K11 _ hov_c5_2 hov_c5_3)
theorem cache_Read_c [Wz w0] {a0:ByteArray} {r:Cache × Int × Int} (heq:cache_Read.f a0=some r):CallsH Tryz.prog 7 #[.string a0] H0 w0 (F) (S7 F H0 r):=by
 refine Co C7 Tryz.func7 Tryz.ntmps7 ?_
 unfold cache_Read.f at heq
 suffices key:∀ (H:Hp),RunH C7 (S7 F H0 r) H0 w0 [.c []] (argL 0 [.string a0]) H (F) from key H0
 intro H
 refine Sa 1 ?_
 refine RgH.does (DoesH.new (d:=2) (v:=fun g=>.pointer (some ⟨g,0,none⟩)) (o:=fun g=>.cells #[iv 0,iv 0,.slice none 0 0,.slice none 0 0] 25 (0,0)) (fun g=>by kernel_rfl)) ?_
 rintro _ _ _ _ ⟨g1,rfl,rfl,rfl⟩
 refine Zd 3<|Sa 2<|Zd 3 ?_
 refine Cb heq ?_ ?_
 ·intro hb1 heq
  refine Sa 1<|Zk 1 ?_
  refine RgH.does (DoesH.store (k:=0) (g:=g1) (off:=0) (v:=.agg #[iv 0,iv 0,.slice none 0 0,.slice none 0 0]) (cells':=#[iv 0,iv 0,.slice none 0 0,.slice none 0 0]) (by kernel_rfl) rfl (by kernel_rfl) (by kernel_rfl)) ?_
  rintro _ _ _ _ ⟨rfl,rfl,rfl⟩
  refine Zd 4<|RunH.nilc ?_
  have ho1:SlOwn kBlob 37 H none 0 ([]:List Blob) none:=SlOwn.nil
  refine RunH.nilc ?_
  have ho2:SlOwn kEntry 40 H none 0 ([]:List Entry) none:=SlOwn.nil
  obtain rfl:=Option.some.inj heq
  refine Up 3 [2,1,0] ?_
  exact RunH.doneM' 1 (vs:=[.agg #[iv 0,iv 0,.slice none 0 0,.slice none 0 0],iv 0,iv 2]) (v:=.tuple #[.agg #[iv 0,iv 0,.slice none 0 0,.slice none 0 0],iv 0,iv 2]) (by kernel_rfl) Tryz.func7 (fun w hh=>show ResAll _ _ _ [.cell 2 25,.tmp 3,.tmp 4] _ from ⟨⟨⟨g1,0,none⟩,by kernel_rfl,trS_run _ (vs:=[iv 0,iv 0,.slice none 0 0,.slice none 0 0]) (r:=[]) (es:=[.load ⟨g1,0,none⟩ (iv 0),.load ⟨g1,1,none⟩ (iv 0),.load ⟨g1,2,none⟩ (.slice none 0 0),.load ⟨g1,3,none⟩ (.slice none 0 0)]) (by kernel_rfl) ⟨(hh.box 0 rfl rfl),(hh.box 0 rfl rfl),(hh.box 0 rfl rfl),(hh.box 0 rfl rfl)⟩⟩,(show lk _ _=some _ by kernel_rfl),(show lk _ _=some _ by kernel_rfl),trivial⟩) rfl (cs':=none::none::F) rfl ⟨none,0,none,none,0,none,rfl,rfl,ho1,ho2⟩
 ·intro hb1 heq
  refine Sa 2 ?_
  refine RgH.does (DoesH.new (d:=5) (v:=fun g=>.pointer (some ⟨g,0,none⟩)) (o:=fun g=>.cells #[iv 0,iv 0,.slice none 0 0,.slice none 0 0] 25 (0,0)) (fun g=>by kernel_rfl)) ?_
  rintro _ _ _ _ ⟨g2,rfl,rfl,rfl⟩
  refine Dn<|Sa 2<|Zd 1<|An 2<|RunH.nilc ?_
  have ho9:SlOwn kBlob 37 H none 0 ([]:List Blob) none:=SlOwn.nil
  refine RunH.nilc ?_
  have ho10:SlOwn kEntry 40 H none 0 ([]:List Entry) none:=SlOwn.nil
  exact Gt 4 [1,0,2,3] (((cache_Read.l2_c (e1:=cache_Read.e1) (cache_Read.e1_c)) big) _ _ _ a0 0 0 ([]:List Blob) _ _ _ _ ([]:List Entry) _ _ _ _ 0 ho9 rfl ho10 rfl heq)
noncomputable def C42:Ctx:={ P:=Tryz.prog,f:=42,N:=63,c:=bodyOf Tryz.f42 }
def S42 (F:List Ch) (H0:Hp) (r:(List Int) × Bool) (v:Value) (H:Hp) (cs:List Ch):Prop:=∃ (A0:Option Addr) (c0:Nat) (ch0:Ch),H0=H∧v=.tuple #[.slice A0 r.1.length c0,.bool r.2]∧ch0::F=cs∧SlOwn (Kd.int .i64) 3 H A0 c0 r.1 ch0
theorem smithyardref7_numbers.e1_c [Wz w0] {r:(List Int) × Bool}:∀ (v_out4:List Int) (Av_out4:Option Addr) (nv_out4 cv_out4:Nat) (chv_out4:Ch) ,SlOwn (Kd.int .i64) 3 H Av_out4 cv_out4 v_out4 chv_out4→nv_out4=v_out4.length→smithyardref7_numbers.e1 v_out4=some r→RunH C42 (S42 F H r) H w0 [.c [1,1,1,0],.c [1,1,1,1]] [(4,.slice Av_out4 nv_out4 cv_out4)] H (chv_out4::F):=by
 intro v_out4 Av_out4 nv_out4 cv_out4 chv_out4 hov_out4 hnv_out4 heq
 subst hnv_out4
 unfold smithyardref7_numbers.e1 at heq
 refine Sa 0<|Zd 3 ?_
 obtain rfl:=Option.some.inj heq
 exact RunH.done (by kernel_rfl) Tryz.func42 (v:=.tuple #[.slice Av_out4 v_out4.length cv_out4,.bool true]) (by kernel_rfl) ⟨Av_out4,cv_out4,chv_out4,rfl,rfl,rfl,hov_out4⟩
theorem smithyardref7_numbers.e3_c [Wz w0] {r:(List Int) × Bool} (backl2:(List ByteArray)→(List Int)→Int→Option ((List Int) × Bool))
  (hbackl2:∀ (a0:List ByteArray) (Aa0:Option Addr) (ca0:Nat) (v_out4:List Int) (Av_out4:Option Addr) (nv_out4 cv_out4:Nat) (chv_out4:Ch) (v_i5:Int) ,Rw Kd.string H F Aa0 a0→a0.length≤ca0→SlOwn (Kd.int .i64) 3 H Av_out4 cv_out4 v_out4 chv_out4→nv_out4=v_out4.length→backl2 a0 v_out4 v_i5=some r→RunH C42 (S42 F H r) H w0 [.c [1,1,0,1,0,0],.l [1,1,0,1,0,0],.b 0,.c [1,1,1]] [(0,.slice Aa0 a0.length ca0),(4,.slice Av_out4 nv_out4 cv_out4),(5,iv v_i5)] H (chv_out4::F)):∀ (a0:List ByteArray) (Aa0:Option Addr) (ca0:Nat) (v_out4:List Int) (Av_out4:Option Addr) (cv_out4:Nat) (chv_out4:Ch) (v_i5:Int) (x1:ByteArray) ,Rw Kd.string H F Aa0 a0→a0.length≤ca0→SlOwn (Kd.int .i64) 3 H Av_out4 cv_out4 v_out4 chv_out4→smithyardref7_numbers.e3 backl2 a0 v_out4 v_i5 x1=some r→RunH C42 (S42 F H r) H w0 [.c [1,1,0,1,0,0,1,0,0,1,1,1,0],.c [1,1,0,1,0,0,1,0,0,1,1,1,1],.b 1,.c [1,1,0,1,0,0,1,1],.l [1,1,0,1,0,0],.b 0,.c [1,1,1]] [(0,.slice Aa0 a0.length ca0),(4,.slice Av_out4 v_out4.length cv_out4),(5,iv v_i5),(6,.string x1)] H (chv_out4::F):=by
 intro a0 Aa0 ca0 v_out4 Av_out4 cv_out4 chv_out4 v_i5 x1 hra0 hca0 hov_out4 heq
 unfold smithyardref7_numbers.e3 at heq
 refine Sa 0<|Zk 1 ?_
 obtain ⟨y1,hy1,heq⟩:=bind_some heq
 refine RgH.does (cal 55 (strconv_Atoi_c (a0:=x1)  hy1)) ?_
 rintro _ _ _ _ ⟨_,rfl,rfl,rfl,rfl⟩
 refine Zd 7<|Sa 0<|Zk 2 ?_
 refine RgH.does (DoesH.new (d:=60) (v:=fun g=>.slice (some ⟨g,0,none⟩) 1 1) (o:=fun g=>.cells #[iv y1] 3 (0,0)) (fun g=>by kernel_rfl)) ?_
 rintro _ _ _ _ ⟨g1,rfl,rfl,rfl⟩
 have ho2:SlOwn (Kd.int .i64) 3 H (some ⟨g1,0,none⟩) 1 ([y1]:List Int) (some (g1,.cells #[iv y1] 3 (0,0))):=SlOwn.lit (xs:=([y1]:List Int)) (by kernel_rfl) (Nat.le_of_ble_eq_true (by kernel_rfl)) (Kd.Rep.scalars rfl)
 obtain ⟨hn2,heq⟩:=guard?_some heq
 refine RgH.does (DoesH.append (d:=61) (k:=1) (t:=75) (e:=3) (bytes:=8) (kd:=(Kd.int .i64)) (n:=v_out4.length) (m:=1) (xs:=v_out4) (ys:=([y1]:List Int)) (A:=Av_out4) (B:=(some ⟨g1,0,none⟩)) (c:=cv_out4) (cB:=1) (by kernel_rfl) rfl rfl (by kernel_rfl) rfl hov_out4 (fun w hh=>ho2.rdb (hh.chin 0 rfl)) (room_le hn2) (by have:=room_le hn2; omega)) ?_
 rintro _ _ _ _ ⟨A1,c1,ch1,rfl,rfl,rfl,ho3⟩
 refine Zd 5<|Sa 1<|Zd 3<|An 1 ?_
 exact Gt 2 [1] (hbackl2 a0 _ _ (v_out4++([y1]:List Int)) _ _ _ _ (w64 (v_i5+1)) hra0 hca0 ho3 rfl heq)
theorem smithyardref7_numbers.l4_c [Wz w0] {r:(List Int) × Bool} (e3:(List ByteArray)→(List Int)→Int→ByteArray→Option ((List Int) × Bool))
  (he3:∀ (a0:List ByteArray) (Aa0:Option Addr) (ca0:Nat) (v_out4:List Int) (Av_out4:Option Addr) (cv_out4:Nat) (chv_out4:Ch) (v_i5:Int) (x1:ByteArray) ,Rw Kd.string H F Aa0 a0→a0.length≤ca0→SlOwn (Kd.int .i64) 3 H Av_out4 cv_out4 v_out4 chv_out4→e3 a0 v_out4 v_i5 x1=some r→RunH C42 (S42 F H r) H w0 [.c [1,1,0,1,0,0,1,0,0,1,1,1,0],.c [1,1,0,1,0,0,1,0,0,1,1,1,1],.b 1,.c [1,1,0,1,0,0,1,1],.l [1,1,0,1,0,0],.b 0,.c [1,1,1]] [(0,.slice Aa0 a0.length ca0),(4,.slice Av_out4 v_out4.length cv_out4),(5,iv v_i5),(6,.string x1)] H (chv_out4::F)):∀ (k:Nat),∀ (a0:List ByteArray) (Aa0:Option Addr) (ca0:Nat) (v_out4:List Int) (Av_out4:Option Addr) (cv_out4:Nat) (chv_out4:Ch) (v_i5:Int) (x1:ByteArray) (v_k7:Int) ,Rw Kd.string H F Aa0 a0→a0.length≤ca0→SlOwn (Kd.int .i64) 3 H Av_out4 cv_out4 v_out4 chv_out4→smithyardref7_numbers.l4 e3 k a0 v_out4 v_i5 x1 v_k7=some r→RunH C42 (S42 F H r) H w0 [.c [1,1,0,1,0,0,1,0,0,1,1,0,1,0,0],.l [1,1,0,1,0,0,1,0,0,1,1,0,1,0,0],.b 2,.c [1,1,0,1,0,0,1,0,0,1,1,1],.b 1,.c [1,1,0,1,0,0,1,1],.l [1,1,0,1,0,0],.b 0,.c [1,1,1]] [(0,.slice Aa0 a0.length ca0),(4,.slice Av_out4 v_out4.length cv_out4),(5,iv v_i5),(6,.string x1),(7,iv v_k7)] H (chv_out4::F):=by
 intro k
 induction k with
 | zero=>intro a0 Aa0 ca0 v_out4 Av_out4 cv_out4 chv_out4 v_i5 x1 v_k7 hra0 hca0 hov_out4 heq; exact nomatch (show (none:Option ((List Int) × Bool))=some r from heq)
 | succ k ihk =>
  intro a0 Aa0 ca0 v_out4 Av_out4 cv_out4 chv_out4 v_i5 x1 v_k7 hra0 hca0 hov_out4 heq
  rw [smithyardref7_numbers.l4] at heq
  refine Sa 2<|Zd 4 ?_
  refine Cb heq ?_ ?_
  ·intro hb6 heq
   refine An 4 ?_
   obtain ⟨t2,ht2,heq⟩:=bind_some heq
   have K6:RunH C42 (S42 F H r) H w0 [.c [1,1,0,1,0,0,1,0,0,1,1,0,1,0,0,1,0,0,1],.b 3,.c [1,1,0,1,0,0,1,0,0,1,1,0,1,0,0,1,1],.l [1,1,0,1,0,0,1,0,0,1,1,0,1,0,0],.b 2,.c [1,1,0,1,0,0,1,0,0,1,1,1],.b 1,.c [1,1,0,1,0,0,1,1],.l [1,1,0,1,0,0],.b 0,.c [1,1,1]] [(0,.slice Aa0 a0.length ca0),(4,.slice Av_out4 v_out4.length cv_out4),(5,iv v_i5),(6,.string x1),(7,iv v_k7),(52,.bool t2)] H (chv_out4::F):=by
    refine Cb heq ?_ ?_
    ·intro hb8 heq
     refine Sa 1<|Zd 2<|RunH.nilc ?_
     have ho4:SlOwn (Kd.int .i64) 3 H none 0 ([]:List Int) none:=SlOwn.nil
     obtain rfl:=Option.some.inj heq
     refine Up 2 [0] ?_
     exact RunH.done (by kernel_rfl) Tryz.func42 (v:=.tuple #[.slice none 0 0,.bool false]) (by kernel_rfl) ⟨none,0,none,rfl,rfl,rfl,ho4⟩
    ·intro hb8 heq
     refine Sa 2<|Zd 3<|An 1 ?_
     exact Gt 1 [0] (ihk a0 _ _ v_out4 _ _ _ v_i5 x1 (w64 (v_k7+1)) hra0 hca0 hov_out4 heq)
   replace heq:=ht2
   refine Sa 0 ?_
   obtain ⟨hn3,heq⟩:=guard?_some heq
   refine Zv 5 [n2 hn3] ?_
   rcases bool_cases (decide ((bt x1 v_k7)<48)) with hb7 | hb7
   ·replace heq:=bif_true hb7 heq
    refine Zs 47 (congrArg Value.bool hb7)<|Zk 10 ?_
    obtain rfl:=Option.some.inj heq
    refine Dn ?_
    exact Gt 1 [0] (K6)
   ·replace heq:=bif_false hb7 heq
    refine Zs 47 (congrArg Value.bool hb7) ?_
    obtain ⟨hn4,heq⟩:=guard?_some heq
    refine Zv 10 [n2 hn4] ?_
    obtain rfl:=Option.some.inj heq
    refine Dn ?_
    exact Gt 1 [0] (K6)
  ·intro hb6 heq
   refine An 2 ?_
   exact Gt 1 [0] (he3 a0 _ _ v_out4 _ _ _ v_i5 x1 hra0 hca0 hov_out4 heq)
theorem smithyardref7_numbers.l2_c [Wz w0] {r:(List Int) × Bool} (e1:(List Int)→Option ((List Int) × Bool))
  (he1:∀ (v_out4:List Int) (Av_out4:Option Addr) (nv_out4 cv_out4:Nat) (chv_out4:Ch) ,SlOwn (Kd.int .i64) 3 H Av_out4 cv_out4 v_out4 chv_out4→nv_out4=v_out4.length→e1 v_out4=some r→RunH C42 (S42 F H r) H w0 [.c [1,1,1,0],.c [1,1,1,1]] [(4,.slice Av_out4 nv_out4 cv_out4)] H (chv_out4::F)):∀ (k:Nat),∀ (a0:List ByteArray) (Aa0:Option Addr) (ca0:Nat) (v_out4:List Int) (Av_out4:Option Addr) (nv_out4 cv_out4:Nat) (chv_out4:Ch) (v_i5:Int) ,Rw Kd.string H F Aa0 a0→a0.length≤ca0→SlOwn (Kd.int .i64) 3 H Av_out4 cv_out4 v_out4 chv_out4→nv_out4=v_out4.length→smithyardref7_numbers.l2 e1 k a0 v_out4 v_i5=some r→RunH C42 (S42 F H r) H w0 [.c [1,1,0,1,0,0],.l [1,1,0,1,0,0],.b 0,.c [1,1,1]] [(0,.slice Aa0 a0.length ca0),(4,.slice Av_out4 nv_out4 cv_out4),(5,iv v_i5)] H (chv_out4::F):=by
 intro k
 induction k with
 | zero=>intro a0 Aa0 ca0 v_out4 Av_out4 nv_out4 cv_out4 chv_out4 v_i5 hra0 hca0 hov_out4 hnv_out4 heq; exact nomatch (show (none:Option ((List Int) × Bool))=some r from heq)
 | succ k ihk =>
  intro a0 Aa0 ca0 v_out4 Av_out4 nv_out4 cv_out4 chv_out4 v_i5 hra0 hca0 hov_out4 hnv_out4 heq
  subst hnv_out4
  rw [smithyardref7_numbers.l2] at heq
  refine Sa 2<|Zd 4 ?_
  refine Cb heq ?_ ?_
  ·intro hb1 heq
   refine Sa 4 ?_
   obtain ⟨x1,hx1,heq⟩:=bind_some heq
   obtain ⟨ha1,cs1,hK1,hcc1⟩:=hra0.get hx1
   obtain rfl:cs1=[.string x1]:=hK1
   refine Zw 5 [nx ha1 hx1,er hcc1 1 0]<|An 2 ?_
   obtain ⟨t1,ht1,heq⟩:=bind_some heq
   have K3:RunH C42 (S42 F H r) H w0 [.c [1,1,0,1,0,0,1,0,0,1,0,1],.c [1,1,0,1,0,0,1,0,0,1,1],.b 1,.c [1,1,0,1,0,0,1,1],.l [1,1,0,1,0,0],.b 0,.c [1,1,1]] [(0,.slice Aa0 a0.length ca0),(4,.slice Av_out4 v_out4.length cv_out4),(5,iv v_i5),(6,.string x1),(36,.bool t1)] H (chv_out4::F):=by
    refine Cb heq ?_ ?_
    ·intro hb5 heq
     refine Sa 1<|Zd 2<|RunH.nilc ?_
     have ho1:SlOwn (Kd.int .i64) 3 H none 0 ([]:List Int) none:=SlOwn.nil
     obtain rfl:=Option.some.inj heq
     refine Up 2 [0] ?_
     exact RunH.done (by kernel_rfl) Tryz.func42 (v:=.tuple #[.slice none 0 0,.bool false]) (by kernel_rfl) ⟨none,0,none,rfl,rfl,rfl,ho1⟩
    ·intro hb5 heq
     refine Sa 3<|Zd 1<|An 2 ?_
     exact Gt 1 [0] (((smithyardref7_numbers.l4_c (e3:=smithyardref7_numbers.e3 ((smithyardref7_numbers.l2 e1 k))) (smithyardref7_numbers.e3_c (backl2:=(smithyardref7_numbers.l2 e1 k)) ihk)) big) a0 _ _ v_out4 _ _ _ v_i5 x1 0 hra0 hca0 hov_out4 heq)
   replace heq:=ht1
   refine Sa 0<|Zk 3 ?_
   rcases bool_cases (sEq x1 ({ data:=#[] }:ByteArray)) with hb2 | hb2
   ·replace heq:=bif_true hb2 heq
    refine Zs 22 (congrArg Value.bool hb2)<|Zk 17 ?_
    obtain rfl:=Option.some.inj heq
    refine Dn ?_
    exact Gt 1 [0] (K3)
   ·replace heq:=bif_false hb2 heq
    refine Zs 22 (congrArg Value.bool hb2)<|Zk 8 ?_
    rcases bool_cases (decide (10<(x1.size:Int))) with hb3 | hb3
    ·replace heq:=bif_true hb3 heq
     refine Zs 27 (congrArg Value.bool hb3)<|Zk 17 ?_
     obtain rfl:=Option.some.inj heq
     refine Dn ?_
     exact Gt 1 [0] (K3)
    ·replace heq:=bif_false hb3 heq
     refine Zs 27 (congrArg Value.bool hb3)<|Zk 12 ?_
     rcases bool_cases (decide (1<(x1.size:Int))) with hb4 | hb4
     ·replace heq:=bif_true hb4 heq
      refine Zs 31 (congrArg Value.bool hb4) ?_
      obtain ⟨hn1,heq⟩:=guard?_some heq
      refine Zv 17 [n2 hn1] ?_
      obtain rfl:=Option.some.inj heq
      refine Dn ?_
      exact Gt 1 [0] (K3)
     ·replace heq:=bif_false hb4 heq
      refine Zs 31 (congrArg Value.bool hb4)<|Zk 17 ?_
      obtain rfl:=Option.some.inj heq
      refine Dn ?_
      exact Gt 1 [0] (K3)
  ·intro hb1 heq
   refine An 2 ?_
   exact Gt 1 [0] (he1 v_out4 _ _ _ _ hov_out4 rfl heq)
theorem smithyardref7_numbers_c [Wz w0] {a0:List ByteArray} {Aa0:Option Addr} {na0 ca0:Nat} {r:(List Int) × Bool} (heq:smithyardref7_numbers.f a0=some r) (hra0:Rw Kd.string H F Aa0 a0) (hca0:na0≤ca0) (hna0:na0=a0.length):CallsH Tryz.prog 42 #[.slice Aa0 na0 ca0] H w0 (F) (S42 F H r):=by
 refine Co C42 Tryz.func42 Tryz.ntmps42 ?_
 subst hna0
 unfold smithyardref7_numbers.f at heq
 refine Sa 1<|Zd 2<|Sa 1<|Zd 1<|Sa 2<|Zd 1<|An 2<|RunH.nilc ?_
 have ho5:SlOwn (Kd.int .i64) 3 H none 0 ([]:List Int) none:=SlOwn.nil
 exact Gt 1 [0] (((smithyardref7_numbers.l2_c (e1:=smithyardref7_numbers.e1) (smithyardref7_numbers.e1_c)) big) a0 _ _ ([]:List Int) _ _ _ _ 0 hra0 hca0 ho5 rfl heq)
noncomputable def C23:Ctx:={ P:=Tryz.prog,f:=23,N:=146,c:=bodyOf Tryz.f23 }
def S23 (F:List Ch) (H0:Hp) (ga0:Nat) (r:Bool × Cache) (v:Value) (H:Hp) (cs:List Ch):Prop:=∃ (A1_2:Option Addr) (c1_2:Nat) (ch1_2:Ch) (A1_3:Option Addr) (c1_3:Nat) (ch1_3:Ch),v=.bool r.1∧some (ga0,.cells #[iv r.2.Room,iv r.2.Lease,.slice A1_2 r.2.Blobs.length c1_2,.slice A1_3 r.2.Entries.length c1_3] 25 (0,0))::ch1_2::ch1_3::F=cs∧SlOwn kBlob 37 H A1_2 c1_2 r.2.Blobs ch1_2∧SlOwn kEntry 40 H A1_3 c1_3 r.2.Entries ch1_3
theorem smithyardref7_line.j2_c [Wz w0] {r:Bool × Cache}:∀ (H:Hp) (ga0:Nat) (a0:Cache) (Aa0_2:Option Addr) (ca0_2:Nat) (cha0_2:Ch) (Aa0_3:Option Addr) (ca0_3:Nat) (cha0_3:Ch) (y2:(List Int) × Bool) (v_c0_0 v_c0_1:Int) ,SlOwn kBlob 37 H Aa0_2 ca0_2 a0.Blobs cha0_2→SlOwn kEntry 40 H Aa0_3 ca0_3 a0.Entries cha0_3→smithyardref7_line.j2 a0 y2 v_c0_0 v_c0_1=some r→RunH C23 (S23 F H0 ga0 r) H0 w0 [.c [1,1,1,0,0,1,0,1,1,1,0],.c [1,1,1,0,0,1,0,1,1,1,1],.b 2,.c [1,1,1,1]] [(0,pg ga0 0),(10,.bool y2.2)] H ((some (ga0,.cells #[iv v_c0_0,iv v_c0_1,.slice Aa0_2 a0.Blobs.length ca0_2,.slice Aa0_3 a0.Entries.length ca0_3] 25 (0,0)))::cha0_2::cha0_3::F):=by
 intro H ga0 a0 Aa0_2 ca0_2 cha0_2 Aa0_3 ca0_3 cha0_3 y2 v_c0_0 v_c0_1 hoa0_2 hoa0_3 heq
 unfold smithyardref7_line.j2 at heq
 refine Sa 0<|Zd 2 ?_
 obtain rfl:=Option.some.inj heq
 exact RunH.done (by kernel_rfl) Tryz.func23 (v:=.bool y2.2) (by kernel_rfl) ⟨Aa0_2,ca0_2,cha0_2,Aa0_3,ca0_3,cha0_3,rfl,rfl,hoa0_2,hoa0_3⟩
theorem smithyardref7_line.j3_c [Wz w0] {r:Bool × Cache}:∀ (H:Hp) (ga0:Nat) (a0:Cache) (Aa0_3:Option Addr) (ca0_3:Nat) (cha0_3:Ch) (y3:(List Int) × Bool) (v_c0_2:List Blob) (Av_c0_2:Option Addr) (nv_c0_2 cv_c0_2:Nat) (chv_c0_2:Ch) ,SlOwn kEntry 40 H Aa0_3 ca0_3 a0.Entries cha0_3→SlOwn kBlob 37 H Av_c0_2 cv_c0_2 v_c0_2 chv_c0_2→nv_c0_2=v_c0_2.length→smithyardref7_line.j3 a0 y3 v_c0_2=some r→RunH C23 (S23 F H0 ga0 r) H0 w0 [.c [1,1,1,0,0,1,1,1,0,1,1,0],.c [1,1,1,0,0,1,1,1,0,1,1,1],.b 2,.c [1,1,1,1]] [(0,pg ga0 0),(12,.bool y3.2)] H ((some (ga0,.cells #[iv a0.Room,iv a0.Lease,.slice Av_c0_2 nv_c0_2 cv_c0_2,.slice Aa0_3 a0.Entries.length ca0_3] 25 (0,0)))::chv_c0_2::cha0_3::F):=by
 intro H ga0 a0 Aa0_3 ca0_3 cha0_3 y3 v_c0_2 Av_c0_2 nv_c0_2 cv_c0_2 chv_c0_2 hoa0_3 hov_c0_2 hnv_c0_2 heq
 subst hnv_c0_2
 unfold smithyardref7_line.j3 at heq
 refine Sa 0<|Zd 2 ?_
 obtain rfl:=Option.some.inj heq
 exact RunH.done (by kernel_rfl) Tryz.func23 (v:=.bool y3.2) (by kernel_rfl) ⟨Av_c0_2,cv_c0_2,chv_c0_2,Aa0_3,ca0_3,cha0_3,rfl,rfl,hov_c0_2,hoa0_3⟩
theorem smithyardref7_line.j4_c [Wz w0] {r:Bool × Cache}:∀ (H:Hp) (ga0:Nat) (a0:Cache) (Aa0_2:Option Addr) (ca0_2:Nat) (cha0_2:Ch) (y4:(List Int) × Bool) (v_c0_3:List Entry) (Av_c0_3:Option Addr) (nv_c0_3 cv_c0_3:Nat) (chv_c0_3:Ch) ,SlOwn kBlob 37 H Aa0_2 ca0_2 a0.Blobs cha0_2→SlOwn kEntry 40 H Av_c0_3 cv_c0_3 v_c0_3 chv_c0_3→nv_c0_3=v_c0_3.length→smithyardref7_line.j4 a0 y4 v_c0_3=some r→RunH C23 (S23 F H0 ga0 r) H0 w0 [.c [1,1,1,0,0,1,1,1,1,1,0,1,1,0],.c [1,1,1,0,0,1,1,1,1,1,0,1,1,1],.b 2,.c [1,1,1,1]] [(0,pg ga0 0),(14,.bool y4.2)] H ((some (ga0,.cells #[iv a0.Room,iv a0.Lease,.slice Aa0_2 a0.Blobs.length ca0_2,.slice Av_c0_3 nv_c0_3 cv_c0_3] 25 (0,0)))::cha0_2::chv_c0_3::F):=by
 intro H ga0 a0 Aa0_2 ca0_2 cha0_2 y4 v_c0_3 Av_c0_3 nv_c0_3 cv_c0_3 chv_c0_3 hoa0_2 hov_c0_3 hnv_c0_3 heq
 subst hnv_c0_3
 unfold smithyardref7_line.j4 at heq
 refine Sa 0<|Zd 2 ?_
 obtain rfl:=Option.some.inj heq
 exact RunH.done (by kernel_rfl) Tryz.func23 (v:=.bool y4.2) (by kernel_rfl) ⟨Aa0_2,ca0_2,cha0_2,Av_c0_3,cv_c0_3,chv_c0_3,rfl,rfl,hoa0_2,hov_c0_3⟩
theorem smithyardref7_line.e1_c [Wz w0] {r:Bool × Cache}:∀ (H:Hp) (ga0:Nat) (a0:Cache) (Aa0_2:Option Addr) (ca0_2:Nat) (cha0_2:Ch) (Aa0_3:Option Addr) (ca0_3:Nat) (cha0_3:Ch) (a2:Bool) (y1:List ByteArray) (A1:Option Addr) (c1:Nat) (ch1:Ch) ,SlOwn kBlob 37 H Aa0_2 ca0_2 a0.Blobs cha0_2→SlOwn kEntry 40 H Aa0_3 ca0_3 a0.Entries cha0_3→SlOwn Kd.string 9 H A1 c1 y1 ch1→smithyardref7_line.e1 a0 a2 y1=some r→RunH C23 (S23 F H0 ga0 r) H0 w0 [.c [1,1,1,0,0,0],.c [1,1,1,0,0,1],.b 2,.c [1,1,1,1]] [(0,pg ga0 0),(2,.bool a2),(7,.slice A1 y1.length c1)] H (ch1::(some (ga0,.cells #[iv a0.Room,iv a0.Lease,.slice Aa0_2 a0.Blobs.length ca0_2,.slice Aa0_3 a0.Entries.length ca0_3] 25 (0,0)))::cha0_2::cha0_3::F):=by
 intro H ga0 a0 Aa0_2 ca0_2 cha0_2 Aa0_3 ca0_3 cha0_3 a2 y1 A1 c1 ch1 hoa0_2 hoa0_3 ho1 heq
 unfold smithyardref7_line.e1 at heq
 refine Sa 0<|Zd 2 ?_
 refine Cb heq ?_ ?_
 ·intro hb1 heq
  refine An 2 ?_
  obtain ⟨t1,ht1,heq⟩:=bind_some heq
  have K5:∀ (H:Hp),SlOwn kBlob 37 H Aa0_2 ca0_2 a0.Blobs cha0_2→SlOwn kEntry 40 H Aa0_3 ca0_3 a0.Entries cha0_3→SlOwn Kd.string 9 H A1 c1 y1 ch1→RunH C23 (S23 F H0 ga0 r) H0 w0 [.c [1,1,1,0,0,1,0,0,1],.c [1,1,1,0,0,1,0,1],.b 2,.c [1,1,1,1]] [(0,pg ga0 0),(7,.slice A1 y1.length c1),(38,.bool t1)] H (ch1::(some (ga0,.cells #[iv a0.Room,iv a0.Lease,.slice Aa0_2 a0.Blobs.length ca0_2,.slice Aa0_3 a0.Entries.length ca0_3] 25 (0,0)))::cha0_2::cha0_3::F):=by
   intro H hoa0_2 hoa0_3 ho1
   refine Cb heq ?_ ?_
   ·intro hb3 heq
    refine Sa 1<|Zd 1 ?_
    obtain rfl:=Option.some.inj heq
    refine Up 4 [1,2,3] ?_
    exact RunH.done (by kernel_rfl) Tryz.func23 (v:=.bool false) (by kernel_rfl) ⟨Aa0_2,ca0_2,cha0_2,Aa0_3,ca0_3,cha0_3,rfl,rfl,hoa0_2,hoa0_3⟩
   ·intro hb3 heq
    refine Sa 2 ?_
    obtain ⟨hn2,heq⟩:=guard?_some heq
    have hn1:y1.length - 1=(y1.drop 1).length:=by have h1:=both_of hn2; have h3:=trivial; (try simp); (try omega)
    have ho2:=ho1.drop 1 (by have h2:=ho1.cap; have h3:=trivial; have h1:=both_of hn2; omega)
    refine Zv 2 [⟨.need ((0:Int)≤1∧1≤((y1.length:Nat):Int)),fun w hh=>(both_of hn2)⟩] ?_
    obtain ⟨y2,hy2,heq⟩:=bind_some heq
    refine RgH.does (cal 42 (smithyardref7_numbers_c hy2 (ho2.rw (.head _)) (show y1.length - 1≤c1 - 1 from by have h1:=ho2.cap; have h2:=hn1; omega) hn1)) ?_
    rintro _ _ _ _ ⟨_,rfl,A2,c2,ch2,rfl,rfl,rfl,ho3⟩
    refine Zd 8<|Sa 2<|Zd 1 ?_
    refine Cb heq ?_ ?_
    ·intro hb4 heq
     refine Sd 5 14 [0,1,3,4] [3,3,3,3,3,3,3,3,3,3,1,1,3,2]<|Zr [0] 13 [] (Pk 5 [0,1,2,3,4]) (Pk 5 [0,1,3,4])<|Zt [1] 12 [] (Pk 5 [0,1,3,4]) ?_
     obtain ⟨x2,hx2,heq⟩:=bind_some heq
     obtain ⟨ha2,cs2,hK2,hcc2⟩:=ho3.get hx2
     obtain rfl:cs2=[iv x2]:=hK2
     refine Zr [2,3,4] 9 [nx ha2 hx2,el hcc2 0 0] (Pk 5 [0,1,2,3,4]) (Pk 5 [0,1,3,4]) ?_
     obtain ⟨x3,hx3,heq⟩:=bind_some heq
     obtain ⟨ha3,cs3,hK3,hcc3⟩:=ho3.get hx3
     obtain rfl:cs3=[iv x3]:=hK3
     refine Zt [5,6] 7 [nx ha3 hx3] (Pk 5 [0,1,3,4]) ?_
     obtain ⟨ha4,cs4,hK4,hcc4⟩:=ho3.get hx3
     obtain rfl:cs4=[iv x3]:=hK4
     refine Zr [7] 6 [el hcc4 0 0] (Pk 5 [0,1,2,3,4]) (Pk 5 [0,1,3,4])<|Zt [8] 5 [] (Pk 5 [0,1,3,4])<|Zr [9] 4 [] (Pk 5 [0,1,2,3,4]) (Pk 5 [0,1,3,4]) ?_
     refine Dz 10 (DoesH.store (k:=2) (g:=ga0) (off:=0) (v:=iv x2) (cells':=#[iv x2,iv a0.Lease,.slice Aa0_2 a0.Blobs.length ca0_2,.slice Aa0_3 a0.Entries.length ca0_3]) (by kernel_rfl) rfl (by kernel_rfl) (by kernel_rfl)) ?_
     rintro _ _ _ _ ⟨rfl,rfl,rfl⟩
     refine ⟨fun _ w hh=>⟨(fun h=>by cases h),fun _=>(Pk 5 [0,1,3,4]) w hh,(fun h=>by cases h)⟩,?_⟩
     refine Dz 11 (DoesH.pureop (d:=56) (v:=.pointer (some ⟨ga0,0,none⟩)) (vs:=[]) (evs:=[]) (by kernel_rfl) (fun _ _=>trivial)) ?_
     rintro _ _ _ _ ⟨rfl,rfl,rfl⟩
     refine ⟨fun _ w hh=>⟨(fun h=>by cases h),fun _=>(Pk 5 [0,1,3,4]) w hh,(fun h=>by cases h)⟩,?_⟩
     refine Zt [12] 1 [] (Pk 5 [0,1,3,4]) ?_
     refine Dz 13 (DoesH.store (k:=2) (g:=ga0) (off:=1) (v:=iv x3) (cells':=#[iv x2,iv x3,.slice Aa0_2 a0.Blobs.length ca0_2,.slice Aa0_3 a0.Entries.length ca0_3]) (by kernel_rfl) rfl (by kernel_rfl) (by kernel_rfl)) ?_
     rintro _ _ _ _ ⟨rfl,rfl,rfl⟩
     refine ⟨fun _ w hh=>⟨(fun h=>by cases h),(fun h=>absurd h (by decide)),(fun h=>by cases h)⟩,?_⟩
     refine DrH.done (by kernel_rfl) ?_
     refine An 1 ?_
     exact Gt 5 [2,3,4] ((smithyardref7_line.j2_c) _ _ a0 _ _ _ _ _ _ y2 x2 x3 hoa0_2 hoa0_3 heq)
    ·intro hb4 heq
     refine An 2 ?_
     exact Gt 5 [2,3,4] ((smithyardref7_line.j2_c) _ _ a0 _ _ _ _ _ _ y2 a0.Room a0.Lease hoa0_2 hoa0_3 heq)
  replace heq:=ht1
  refine Sa 0 ?_
  obtain ⟨x1,hx1,heq⟩:=bind_some heq
  obtain ⟨ha1,cs1,hK1,hcc1⟩:=ho1.get hx1
  obtain rfl:cs1=[.string x1]:=hK1
  refine Zv 5 [nx ha1 hx1,el hcc1 0 0] ?_
  rcases bool_cases (!sEq x1 ({ data:=#[99,97,99,104,101] }:ByteArray)) with hb2 | hb2
  ·replace heq:=bif_true hb2 heq
   refine Zs 34 (congrArg Value.bool hb2)<|Zk 9 ?_
   obtain rfl:=Option.some.inj heq
   refine Dn ?_
   exact Gt 4 [0,1,2,3] (K5 _ hoa0_2 hoa0_3 ho1)
  ·replace heq:=bif_false hb2 heq
   refine Zs 34 (congrArg Value.bool hb2)<|Zk 9 ?_
   obtain rfl:=Option.some.inj heq
   refine Dn ?_
   exact Gt 4 [0,1,2,3] (K5 _ hoa0_2 hoa0_3 ho1)
 ·intro hb1 heq
  refine An 1 ?_
  obtain ⟨t2,ht2,heq⟩:=bind_some heq
  have K7:∀ (H:Hp),SlOwn kBlob 37 H Aa0_2 ca0_2 a0.Blobs cha0_2→SlOwn kEntry 40 H Aa0_3 ca0_3 a0.Entries cha0_3→SlOwn Kd.string 9 H A1 c1 y1 ch1→RunH C23 (S23 F H0 ga0 r) H0 w0 [.c [1,1,1,0,0,1,1,1],.b 2,.c [1,1,1,1]] [(0,pg ga0 0),(7,.slice A1 y1.length c1),(59,.bool t2)] H (ch1::(some (ga0,.cells #[iv a0.Room,iv a0.Lease,.slice Aa0_2 a0.Blobs.length ca0_2,.slice Aa0_3 a0.Entries.length ca0_3] 25 (0,0)))::cha0_2::cha0_3::F):=by
   intro H hoa0_2 hoa0_3 ho1
   refine Cb heq ?_ ?_
   ·intro hb7 heq
    refine Sa 1 ?_
    obtain ⟨hn4,heq⟩:=guard?_some heq
    have hn3:y1.length - 2=(y1.drop 2).length:=by have h1:=both_of hn4; have h3:=trivial; (try simp); (try omega)
    have ho4:=ho1.drop 2 (by have h2:=ho1.cap; have h3:=trivial; have h1:=both_of hn4; omega)
    refine Zv 2 [⟨.need ((0:Int)≤2∧2≤((y1.length:Nat):Int)),fun w hh=>(both_of hn4)⟩] ?_
    obtain ⟨y3,hy3,heq⟩:=bind_some heq
    refine RgH.does (cal 80 (smithyardref7_numbers_c hy3 (ho4.rw (.head _)) (show y1.length - 2≤c1 - 2 from by have h1:=ho4.cap; have h2:=hn3; omega) hn3)) ?_
    rintro _ _ _ _ ⟨_,rfl,A3,c3,ch3,rfl,rfl,rfl,ho5⟩
    refine Zd 8<|Sa 2<|Zd 1 ?_
    refine Cb heq ?_ ?_
    ·intro hb8 heq
     refine Sd 5 26 [0,1,2,4] [3,3,3,3,3,3,3,3,3,3,3,3,3,3,3,3,3,3,3,3,3,0,1,1,3,2]<|Zt [0,1,2,3] 22 [] (Pk 5 [0,1,2,4])<|Zr [4] 21 [bx 2 2] (Pk 5 [0,1,2,3,4]) (Pk 5 [0,1,2,4]) ?_
     obtain ⟨x5,hx5,heq⟩:=bind_some heq
     obtain ⟨ha6,cs6,hK6,hcc6⟩:=ho1.get hx5
     obtain rfl:cs6=[.string x5]:=hK6
     obtain ⟨x6,hx6,heq⟩:=bind_some heq
     obtain ⟨ha7,cs7,hK7,hcc7⟩:=ho5.get hx6
     obtain rfl:cs7=[iv x6]:=hK7
     obtain ⟨x7,hx7,heq⟩:=bind_some heq
     obtain ⟨ha8,cs8,hK8,hcc8⟩:=ho5.get hx7
     obtain rfl:cs8=[iv x7]:=hK8
     obtain ⟨x8,hx8,heq⟩:=bind_some heq
     obtain ⟨ha9,cs9,hK9,hcc9⟩:=ho5.get hx8
     obtain rfl:cs9=[iv x8]:=hK9
     obtain ⟨x9,hx9,heq⟩:=bind_some heq
     obtain ⟨ha10,cs10,hK10,hcc10⟩:=ho5.get hx9
     obtain rfl:cs10=[iv x9]:=hK10
     refine Zt [5,6,7,8,9,10,11,12,13,14,15,16,17,18,19,20] 5 [nx ha6 hx5,el hcc6 1 0,nx ha7 hx6,el hcc7 0 0,nx ha8 hx7,el hcc8 0 0,nx ha9 hx8,el hcc9 0 0,nx ha10 hx9,el hcc10 0 0] (Pk 5 [0,1,2,4]) ?_
     refine Dz 21 (DoesH.new (d:=105) (v:=fun g=>.slice (some ⟨g,0,none⟩) 1 1) (o:=fun g=>.cells #[.string x5,iv x6,iv x7,iv x8,iv x9] 37 (0,0)) (fun g=>by kernel_rfl)) ?_
     rintro _ _ _ _ ⟨g1,rfl,rfl,rfl⟩
     have ho6:SlOwn kBlob 37 H (some ⟨g1,0,none⟩) 1 ([(⟨x5,x6,x7,x8,x9⟩:Blob)]:List Blob) (some (g1,.cells #[.string x5,iv x6,iv x7,iv x8,iv x9] 37 (0,0))):=SlOwn.lit (xs:=([(⟨x5,x6,x7,x8,x9⟩:Blob)]:List Blob)) (by kernel_rfl) (Nat.le_of_ble_eq_true (by kernel_rfl)) (Kd.Rep.one kBlob_mk)
     refine ⟨fun _ w hh=>⟨fun _=>(Pk 6 [1,2,3,4,5]) w hh,fun _=>(Pk 6 [1,2,3,5]) w hh,(fun h=>by cases h)⟩,?_⟩
     obtain ⟨hn5,heq⟩:=guard?_some heq
     refine Dz 22 (DoesH.append (d:=106) (k:=4) (t:=22) (e:=37) (bytes:=48) (kd:=kBlob) (n:=a0.Blobs.length) (m:=1) (xs:=a0.Blobs) (ys:=([(⟨x5,x6,x7,x8,x9⟩:Blob)]:List Blob)) (A:=Aa0_2) (B:=(some ⟨g1,0,none⟩)) (c:=ca0_2) (cB:=1) (by kernel_rfl) rfl rfl (by kernel_rfl) rfl hoa0_2 (fun w hh=>ho6.rdb (hh.chin 0 rfl)) (room_le hn5) (by have:=room_le hn5; omega)) ?_
     rintro _ _ _ _ ⟨A4,c4,ch4,rfl,rfl,rfl,ho7⟩
     refine ⟨fun _ w hh=>⟨(fun h=>by cases h),fun _=>(Pk 6 [1,2,3,5]) w hh,(fun h=>by cases h)⟩,?_⟩
     refine Dz 23 (DoesH.pureop (d:=107) (v:=.pointer (some ⟨ga0,0,none⟩)) (vs:=[]) (evs:=[]) (by kernel_rfl) (fun _ _=>trivial)) ?_
     rintro _ _ _ _ ⟨rfl,rfl,rfl⟩
     refine ⟨fun _ w hh=>⟨(fun h=>by cases h),fun _=>(Pk 6 [1,2,3,5]) w hh,(fun h=>by cases h)⟩,?_⟩
     refine Zt [24] 1 [] (Pk 6 [1,2,3,5]) ?_
     refine Dz 25 (DoesH.store (k:=3) (g:=ga0) (off:=2) (v:=.slice A4 ((a0.Blobs++([(⟨x5,x6,x7,x8,x9⟩:Blob)]:List Blob)).length) c4) (cells':=#[iv a0.Room,iv a0.Lease,.slice A4 ((a0.Blobs++([(⟨x5,x6,x7,x8,x9⟩:Blob)]:List Blob)).length) c4,.slice Aa0_3 a0.Entries.length ca0_3]) (by kernel_rfl) rfl (by kernel_rfl) (by kernel_rfl)) ?_
     rintro _ _ _ _ ⟨rfl,rfl,rfl⟩
     refine ⟨fun _ w hh=>⟨(fun h=>by cases h),(fun h=>absurd h (by decide)),(fun h=>by cases h)⟩,?_⟩
     refine DrH.done (by kernel_rfl) ?_
     refine An 1 ?_
     exact Gt 6 [3,4,5] ((smithyardref7_line.j3_c) _ _ a0 _ _ _ y3 (a0.Blobs++([(⟨x5,x6,x7,x8,x9⟩:Blob)]:List Blob)) _ _ _ _ hoa0_3 ho7 rfl heq)
    ·intro hb8 heq
     refine An 2 ?_
     exact Gt 5 [2,3,4] ((smithyardref7_line.j3_c) _ _ a0 _ _ _ y3 a0.Blobs _ _ _ _ hoa0_3 hoa0_2 rfl heq)
   ·intro hb7 heq
    refine An 1 ?_
    obtain ⟨t3,ht3,heq⟩:=bind_some heq
    have K11:∀ (H:Hp),SlOwn kBlob 37 H Aa0_2 ca0_2 a0.Blobs cha0_2→SlOwn kEntry 40 H Aa0_3 ca0_3 a0.Entries cha0_3→SlOwn Kd.string 9 H A1 c1 y1 ch1→RunH C23 (S23 F H0 ga0 r) H0 w0 [.c [1,1,1,0,0,1,1,1,1,1],.b 2,.c [1,1,1,1]] [(0,pg ga0 0),(7,.slice A1 y1.length c1),(110,.bool t3)] H (ch1::(some (ga0,.cells #[iv a0.Room,iv a0.Lease,.slice Aa0_2 a0.Blobs.length ca0_2,.slice Aa0_3 a0.Entries.length ca0_3] 25 (0,0)))::cha0_2::cha0_3::F):=by
     intro H hoa0_2 hoa0_3 ho1
     refine Cb heq ?_ ?_
     ·intro hb10 heq
      refine Sa 1 ?_
      obtain ⟨hn7,heq⟩:=guard?_some heq
      have hn6:3 - 2=((y1.take 3).drop 2).length:=by have h1:=three_of hn7; have h3:=trivial; (try simp); (try omega)
      have ho8:=(ho1.take 3).drop 2 (by have h2:=ho1.cap; have h3:=trivial; have h1:=three_of hn7; omega)
      refine Zv 2 [⟨.need ((0:Int)≤2∧(2:Int)≤3∧3≤((c1:Nat):Int)),fun w hh=>⟨(three_of hn7).1,(three_of hn7).2.1,(by have h1:=(three_of hn7).2.2; have h2:=ho1.cap; have h3:=trivial; omega)⟩⟩] ?_
      obtain ⟨y4,hy4,heq⟩:=bind_some heq
      refine RgH.does (cal 123 (smithyardref7_numbers_c hy4 (ho8.rw (.head _)) (show 3 - 2≤c1 - 2 from by have h1:=ho8.cap; have h2:=hn6; omega) hn6)) ?_
      rintro _ _ _ _ ⟨_,rfl,A5,c5,ch5,rfl,rfl,rfl,ho9⟩
      refine Zd 8<|Sa 2<|Zd 1 ?_
      refine Cb heq ?_ ?_
      ·intro hb11 heq
       refine Sd 5 19 [0,2,3] [3,3,3,3,3,3,3,0,3,3,3,3,3,3,1,1,1,3,2] ?_
       obtain ⟨x11,hx11,heq⟩:=bind_some heq
       obtain ⟨ha12,cs12,hK12,hcc12⟩:=ho1.get hx11
       obtain rfl:cs12=[.string x11]:=hK12
       obtain ⟨x12,hx12,heq⟩:=bind_some heq
       obtain ⟨ha13,cs13,hK13,hcc13⟩:=ho9.get hx12
       obtain rfl:cs13=[iv x12]:=hK13
       obtain ⟨hn9,heq⟩:=guard?_some heq
       have hn8:y1.length - 3=(y1.drop 3).length:=by have h1:=both_of hn9; have h3:=trivial; (try simp); (try omega)
       have ho10:=ho1.drop 3 (by have h2:=ho1.cap; have h3:=trivial; have h1:=both_of hn9; omega)
       refine Zt [0,1,2,3,4,5,6,8,9,10,11,12] 7 [bx 1 3,nx ha12 hx11,nx ha13 hx12,el hcc13 0 0,⟨.need ((0:Int)≤3∧3≤((y1.length:Nat):Int)),fun w hh=>(both_of hn9)⟩] (Pk 5 [0,2,3]) ?_
       obtain ⟨ha14,cs14,hK14,hcc14⟩:=ho1.get hx11
       obtain rfl:cs14=[.string x11]:=hK14
       refine Dz 7 (DoesH.pureop (d:=134) (v:=.string x11) (vs:=[.string x11]) (evs:=[.load ((adr A1).add (1*1)) (.string x11)]) (by kernel_rfl) (fun w hh=>(hcc14 _ (hh.chin 1 rfl) 0 _ rfl))) ?_
       rintro _ _ _ _ ⟨rfl,rfl,rfl⟩
       refine ⟨fun _ w hh=>⟨fun _=>(Pk 5 [0,1,2,3,4]) w hh,fun _=>(Pk 5 [0,2,3]) w hh,(fun h=>by cases h)⟩,?_⟩
       refine Zt [13] 5 [] (Pk 5 [0,2,3])<|Ur 5 [1,0,2,3,4] ?_
       have hc1:=ho10.cap
       rw [← hn8] at hc1
       refine DrH.freezeS ho10 (fun H hl hr1=>?_)
       have hle:=hl
       replace hoa0_2:=hoa0_2.mono hl
       replace hoa0_3:=hoa0_3.mono hl
       refine Dz 14 (DoesH.new (d:=141) (v:=fun g=>.slice (some ⟨g,0,none⟩) 1 1) (o:=fun g=>.cells #[.string x11,.slice (shiftA c1 3 1 A1) (y1.length - 3) (c1 - 3),iv x12] 40 (0,0)) (fun g=>by kernel_rfl)) ?_
       rintro _ _ _ _ ⟨g2,rfl,rfl,rfl⟩
       have ho11:SlOwn kEntry 40 H (some ⟨g2,0,none⟩) 1 ([(⟨x11,(y1.drop 3),x12⟩:Entry)]:List Entry) (some (g2,.cells #[.string x11,.slice (shiftA c1 3 1 A1) (y1.length - 3) (c1 - 3),iv x12] 40 (0,0))):=SlOwn.lit (xs:=([(⟨x11,(y1.drop 3),x12⟩:Entry)]:List Entry)) (by kernel_rfl) (Nat.le_of_ble_eq_true (by kernel_rfl)) (Kd.Rep.one (by have:=(kEntry_mk (x:=(⟨x11,(y1.drop 3),x12⟩:Entry)) (show (y1.drop 3).length≤c1 - 3 from by rw [← hn8]; exact hc1) hr1); rw [← hn8] at this; exact this))
       refine ⟨fun _ w hh=>⟨(fun h=>by cases h),fun _=>(fun w hh=>(hh.le hle).pick 5 [1,2,3] (by kernel_rfl)) w hh,(fun h=>by cases h)⟩,?_⟩
       obtain ⟨hn10,heq⟩:=guard?_some heq
       refine Dz 15 (DoesH.append (d:=142) (k:=4) (t:=23) (e:=40) (bytes:=48) (kd:=kEntry) (n:=a0.Entries.length) (m:=1) (xs:=a0.Entries) (ys:=([(⟨x11,(y1.drop 3),x12⟩:Entry)]:List Entry)) (A:=Aa0_3) (B:=(some ⟨g2,0,none⟩)) (c:=ca0_3) (cB:=1) (by kernel_rfl) rfl rfl (by kernel_rfl) rfl hoa0_3 (fun w hh=>ho11.rdb (hh.chin 0 rfl)) (room_le hn10) (by have:=room_le hn10; omega)) ?_
       rintro _ _ _ _ ⟨A6,c6,ch6,rfl,rfl,rfl,ho12⟩
       refine ⟨fun _ w hh=>⟨(fun h=>by cases h),fun _=>(fun w hh=>(hh.le hle).pick 5 [1,2,3] (by kernel_rfl)) w hh,(fun h=>by cases h)⟩,?_⟩
       refine Dz 16 (DoesH.pureop (d:=143) (v:=.pointer (some ⟨ga0,0,none⟩)) (vs:=[]) (evs:=[]) (by kernel_rfl) (fun _ _=>trivial)) ?_
       rintro _ _ _ _ ⟨rfl,rfl,rfl⟩
       refine ⟨fun _ w hh=>⟨(fun h=>by cases h),fun _=>(fun w hh=>(hh.le hle).pick 5 [1,2,3] (by kernel_rfl)) w hh,(fun h=>by cases h)⟩,?_⟩
       refine Zt [17] 1 [] (fun w hh=>(hh.le hle).pick 5 [1,2,3] (by kernel_rfl)) ?_
       refine Dz 18 (DoesH.store (k:=2) (g:=ga0) (off:=3) (v:=.slice A6 ((a0.Entries++([(⟨x11,(y1.drop 3),x12⟩:Entry)]:List Entry)).length) c6) (cells':=#[iv a0.Room,iv a0.Lease,.slice Aa0_2 a0.Blobs.length ca0_2,.slice A6 ((a0.Entries++([(⟨x11,(y1.drop 3),x12⟩:Entry)]:List Entry)).length) c6]) (by kernel_rfl) rfl (by kernel_rfl) (by kernel_rfl)) ?_
       rintro _ _ _ _ ⟨rfl,rfl,rfl⟩
       refine ⟨fun _ w hh=>⟨(fun h=>by cases h),(fun h=>absurd h (by decide)),(fun h=>by cases h)⟩,?_⟩
       refine DrH.done (by kernel_rfl) ?_
       refine An 1 ?_
       exact Gt 5 [2,3,4] ((smithyardref7_line.j4_c) _ _ a0 _ _ _ y4 (a0.Entries++([(⟨x11,(y1.drop 3),x12⟩:Entry)]:List Entry)) _ _ _ _ hoa0_2 ho12 rfl heq)
      ·intro hb11 heq
       refine An 2 ?_
       exact Gt 5 [2,3,4] ((smithyardref7_line.j4_c) _ _ a0 _ _ _ y4 a0.Entries _ _ _ _ hoa0_2 hoa0_3 rfl heq)
     ·intro hb10 heq
      refine Sa 3<|Zd 1 ?_
      obtain rfl:=Option.some.inj heq
      refine Up 4 [1,2,3] ?_
      exact RunH.done (by kernel_rfl) Tryz.func23 (v:=.bool false) (by kernel_rfl) ⟨Aa0_2,ca0_2,cha0_2,Aa0_3,ca0_3,cha0_3,rfl,rfl,hoa0_2,hoa0_3⟩
    replace heq:=ht3
    refine Sa 0 ?_
    obtain ⟨x10,hx10,heq⟩:=bind_some heq
    obtain ⟨ha11,cs11,hK11,hcc11⟩:=ho1.get hx10
    obtain rfl:cs11=[.string x10]:=hK11
    refine Zv 5 [nx ha11 hx10,el hcc11 0 0] ?_
    rcases bool_cases (sEq x10 ({ data:=#[101,110,116,114,121] }:ByteArray)) with hb9 | hb9
    ·replace heq:=bif_true hb9 heq
     refine Zs 115 (congrArg Value.bool hb9)<|Zk 10 ?_
     obtain rfl:=Option.some.inj heq
     refine Dn ?_
     exact Gt 4 [0,1,2,3] (K11 _ hoa0_2 hoa0_3 ho1)
    ·replace heq:=bif_false hb9 heq
     refine Zs 115 (congrArg Value.bool hb9)<|Zk 10 ?_
     obtain rfl:=Option.some.inj heq
     refine Dn ?_
     exact Gt 4 [0,1,2,3] (K11 _ hoa0_2 hoa0_3 ho1)
  replace heq:=ht2
  refine Sa 0 ?_
  obtain ⟨x4,hx4,heq⟩:=bind_some heq
  obtain ⟨ha5,cs5,hK5,hcc5⟩:=ho1.get hx4
  obtain rfl:cs5=[.string x4]:=hK5
  refine Zv 5 [nx ha5 hx4,el hcc5 0 0] ?_
  rcases bool_cases (sEq x4 ({ data:=#[98,108,111,98] }:ByteArray)) with hb5 | hb5
  ·replace heq:=bif_true hb5 heq
   refine Zs 64 (congrArg Value.bool hb5)<|Zk 10 ?_
   rcases bool_cases ((y1.length:Int) == 6) with hb6 | hb6
   ·replace heq:=bif_true hb6 heq
    refine Zs 69 (congrArg Value.bool hb6)<|Zv 18 [bx 1 3] ?_
    obtain rfl:=Option.some.inj heq
    refine Dn ?_
    exact Gt 4 [0,1,2,3] (K7 _ hoa0_2 hoa0_3 ho1)
   ·replace heq:=bif_false hb6 heq
    refine Zs 69 (congrArg Value.bool hb6)<|Zk 18 ?_
    obtain rfl:=Option.some.inj heq
    refine Dn ?_
    exact Gt 4 [0,1,2,3] (K7 _ hoa0_2 hoa0_3 ho1)
  ·replace heq:=bif_false hb5 heq
   refine Zs 64 (congrArg Value.bool hb5)<|Zk 18 ?_
   obtain rfl:=Option.some.inj heq
   refine Dn ?_
   exact Gt 4 [0,1,2,3] (K7 _ hoa0_2 hoa0_3 ho1)
theorem smithyardref7_line.l5_c [Wz w0] {r:Bool × Cache} (e1:Cache→Bool→(List ByteArray)→Option (Bool × Cache))
  (he1:∀ (H:Hp) (ga0:Nat) (a0:Cache) (Aa0_2:Option Addr) (ca0_2:Nat) (cha0_2:Ch) (Aa0_3:Option Addr) (ca0_3:Nat) (cha0_3:Ch) (a2:Bool) (y1:List ByteArray) (A1:Option Addr) (c1:Nat) (ch1:Ch) ,SlOwn kBlob 37 H Aa0_2 ca0_2 a0.Blobs cha0_2→SlOwn kEntry 40 H Aa0_3 ca0_3 a0.Entries cha0_3→SlOwn Kd.string 9 H A1 c1 y1 ch1→e1 a0 a2 y1=some r→RunH C23 (S23 F H0 ga0 r) H0 w0 [.c [1,1,1,0,0,0],.c [1,1,1,0,0,1],.b 2,.c [1,1,1,1]] [(0,pg ga0 0),(2,.bool a2),(7,.slice A1 y1.length c1)] H (ch1::(some (ga0,.cells #[iv a0.Room,iv a0.Lease,.slice Aa0_2 a0.Blobs.length ca0_2,.slice Aa0_3 a0.Entries.length ca0_3] 25 (0,0)))::cha0_2::cha0_3::F)):∀ (k:Nat),∀ (H:Hp) (ga0:Nat) (a0:Cache) (Aa0_2:Option Addr) (ca0_2:Nat) (cha0_2:Ch) (Aa0_3:Option Addr) (ca0_3:Nat) (cha0_3:Ch) (a2:Bool) (y1:List ByteArray) (A1:Option Addr) (c1:Nat) (ch1:Ch) (v_i8:Int) ,SlOwn kBlob 37 H Aa0_2 ca0_2 a0.Blobs cha0_2→SlOwn kEntry 40 H Aa0_3 ca0_3 a0.Entries cha0_3→SlOwn Kd.string 9 H A1 c1 y1 ch1→smithyardref7_line.l5 e1 k a0 a2 y1 v_i8=some r→RunH C23 (S23 F H0 ga0 r) H0 w0 [.c [1,1,0,1,0,0],.l [1,1,0,1,0,0],.b 0,.c [1,1,1]] [(0,pg ga0 0),(2,.bool a2),(7,.slice A1 y1.length c1),(8,iv v_i8)] H (ch1::(some (ga0,.cells #[iv a0.Room,iv a0.Lease,.slice Aa0_2 a0.Blobs.length ca0_2,.slice Aa0_3 a0.Entries.length ca0_3] 25 (0,0)))::cha0_2::cha0_3::F):=by
 intro k
 induction k with
 | zero=>intro H ga0 a0 Aa0_2 ca0_2 cha0_2 Aa0_3 ca0_3 cha0_3 a2 y1 A1 c1 ch1 v_i8 hoa0_2 hoa0_3 ho1 heq; exact nomatch (show (none:Option (Bool × Cache))=some r from heq)
 | succ k ihk =>
  intro H ga0 a0 Aa0_2 ca0_2 cha0_2 Aa0_3 ca0_3 cha0_3 a2 y1 A1 c1 ch1 v_i8 hoa0_2 hoa0_3 ho1 heq
  rw [smithyardref7_line.l5] at heq
  refine Sa 2<|Zd 4 ?_
  refine Cb heq ?_ ?_
  ·intro hb12 heq
   refine Sa 4 ?_
   obtain ⟨x13,hx13,heq⟩:=bind_some heq
   obtain ⟨ha15,cs15,hK15,hcc15⟩:=ho1.get hx13
   obtain rfl:cs15=[.string x13]:=hK15
   refine Zw 5 [nx ha15 hx13,el hcc15 0 0] ?_
   refine Cb heq ?_ ?_
   ·intro hb13 heq
    refine Sa 1<|Zd 1 ?_
    obtain rfl:=Option.some.inj heq
    refine Up 4 [1,2,3] ?_
    exact RunH.done (by kernel_rfl) Tryz.func23 (v:=.bool false) (by kernel_rfl) ⟨Aa0_2,ca0_2,cha0_2,Aa0_3,ca0_3,cha0_3,rfl,rfl,hoa0_2,hoa0_3⟩
   ·intro hb13 heq
    refine Sa 2<|Zd 3<|An 1 ?_
    exact Gt 4 [0,1,2,3] (ihk _ _ a0 _ _ _ _ _ _ a2 y1 _ _ _ (w64 (v_i8+1)) hoa0_2 hoa0_3 ho1 heq)
  ·intro hb12 heq
   refine An 4 ?_
   exact Gt 4 [0,1,2,3] (he1 _ _ a0 _ _ _ _ _ _ a2 y1 _ _ _ hoa0_2 hoa0_3 ho1 heq)
theorem smithyardref7_line_c [Wz w0] {ga0:Nat} {a0:Cache} {Aa0_2:Option Addr} {na0_2 ca0_2:Nat} {cha0_2:Ch} {Aa0_3:Option Addr} {na0_3 ca0_3:Nat} {cha0_3:Ch} {a1:ByteArray} {a2:Bool} {r:Bool × Cache} (heq:smithyardref7_line.f a0 a1 a2=some r) (hoa0_2:SlOwn kBlob 37 H0 Aa0_2 ca0_2 a0.Blobs cha0_2) (hna0_2:na0_2=a0.Blobs.length) (hoa0_3:SlOwn kEntry 40 H0 Aa0_3 ca0_3 a0.Entries cha0_3) (hna0_3:na0_3=a0.Entries.length):CallsH Tryz.prog 23 #[.pointer (some ⟨ga0,0,none⟩),.string a1,.bool a2] H0 w0 ((some (ga0,.cells #[iv a0.Room,iv a0.Lease,.slice Aa0_2 na0_2 ca0_2,.slice Aa0_3 na0_3 ca0_3] 25 (0,0)))::cha0_2::cha0_3::F) (S23 F H0 ga0 r):=by
 refine Co C23 Tryz.func23 Tryz.ntmps23 ?_
 subst hna0_2
 subst hna0_3
 unfold smithyardref7_line.f at heq
 suffices key:∀ (H:Hp),SlOwn kBlob 37 H Aa0_2 ca0_2 a0.Blobs cha0_2→SlOwn kEntry 40 H Aa0_3 ca0_3 a0.Entries cha0_3→RunH C23 (S23 F H0 ga0 r) H0 w0 [.c []] (argL 0 [.pointer (some ⟨ga0,0,none⟩),.string a1,.bool a2]) H ((some (ga0,.cells #[iv a0.Room,iv a0.Lease,.slice Aa0_2 (a0.Blobs.length) ca0_2,.slice Aa0_3 (a0.Entries.length) ca0_3] 25 (0,0)))::cha0_2::cha0_3::F) from key H0 hoa0_2 hoa0_3
 intro H hoa0_2 hoa0_3
 refine Sa 1<|Zd 1<|Sa 1<|Zk 1 ?_
 obtain ⟨y1,hy1,heq⟩:=bind_some heq
 refine RgH.does (cal 16 (strings_Split_c (a0:=a1) (a1:=({ data:=#[32] }:ByteArray))  hy1)) ?_
 rintro _ _ _ _ ⟨_,rfl,A1,c1,ch1,rfl,rfl,rfl,ho1⟩
 refine Zd 3<|Sa 2<|Zd 1<|An 2 ?_
 exact Gt 4 [0,1,2,3] (((smithyardref7_line.l5_c (e1:=smithyardref7_line.e1) (smithyardref7_line.e1_c)) big) _ _ a0 _ _ _ _ _ _ a2 y1 _ _ _ 0 hoa0_2 hoa0_3 ho1 heq)
noncomputable def C8:Ctx:={ P:=Tryz.prog,f:=8,N:=48,c:=bodyOf Tryz.f8 }
def S8 (F:List Ch) (H0:Hp) (r:Cache × Int × Int) (v:Value) (H:Hp) (cs:List Ch):Prop:=∃ (A0_2:Option Addr) (c0_2:Nat) (ch0_2:Ch) (A0_3:Option Addr) (c0_3:Nat) (ch0_3:Ch),v=.tuple #[.agg #[iv r.1.Room,iv r.1.Lease,.slice A0_2 r.1.Blobs.length c0_2,.slice A0_3 r.1.Entries.length c0_3],iv r.2.1,iv r.2.2]∧ch0_2::ch0_3::F=cs∧SlOwn kBlob 37 H A0_2 c0_2 r.1.Blobs ch0_2∧SlOwn kEntry 40 H A0_3 c0_3 r.1.Entries ch0_3
theorem smithyardref7_Read.e1_c [Wz w0] {r:Cache × Int × Int}:∀ (H:Hp) (g1 g2:Nat) (v_c5_0 v_c5_1:Int) (v_c5_2:List Blob) (Av_c5_2:Option Addr) (nv_c5_2 cv_c5_2:Nat) (chv_c5_2:Ch) (v_c5_3:List Entry) (Av_c5_3:Option Addr) (nv_c5_3 cv_c5_3:Nat) (chv_c5_3:Ch) ,SlOwn kBlob 37 H Av_c5_2 cv_c5_2 v_c5_2 chv_c5_2→nv_c5_2=v_c5_2.length→SlOwn kEntry 40 H Av_c5_3 cv_c5_3 v_c5_3 chv_c5_3→nv_c5_3=v_c5_3.length→smithyardref7_Read.e1 v_c5_0 v_c5_1 v_c5_2 v_c5_3=some r→RunH C8 (S8 F H0 r) H0 w0 [.c [1,1,1,1,1,0,0],.c [1,1,1,1,1,0,1],.c [1,1,1,1,1,1]] [(2,pg g1 0),(5,pg g2 0)] H (chv_c5_2::chv_c5_3::(some (g2,.cells #[iv v_c5_0,iv v_c5_1,.slice Av_c5_2 nv_c5_2 cv_c5_2,.slice Av_c5_3 nv_c5_3 cv_c5_3] 25 (0,0)))::(some (g1,.cells #[iv 0,iv 0,.slice none 0 0,.slice none 0 0] 25 (0,0)))::F):=by
 intro H g1 g2 v_c5_0 v_c5_1 v_c5_2 Av_c5_2 nv_c5_2 cv_c5_2 chv_c5_2 v_c5_3 Av_c5_3 nv_c5_3 cv_c5_3 chv_c5_3 hov_c5_2 hnv_c5_2 hov_c5_3 hnv_c5_3 heq
 subst hnv_c5_2
 subst hnv_c5_3
 unfold smithyardref7_Read.e1 at heq
 refine Sa 0<|Zv 1 (bxs 2) ?_
 obtain ⟨y1,hy1,heq⟩:=bind_some heq
 refine RgH.does (cal 42 (smithyardref7_CheckCache_c hy1 (hov_c5_2.rw (.head _)) hov_c5_2.cap rfl (hov_c5_3.rw (.tail _ (.head _))) hov_c5_3.cap rfl)) ?_
 rintro _ _ _ _ ⟨_,rfl,rfl,rfl,rfl⟩
 refine Zd 3<|Sa 1<|Zd 2 ?_
 refine Cb heq ?_ ?_
 ·intro hb2 heq
  refine Sa 1<|Zk 2 ?_
  refine RgH.does (DoesH.store (k:=3) (g:=g1) (off:=0) (v:=.agg #[iv 0,iv 0,.slice none 0 0,.slice none 0 0]) (cells':=#[iv 0,iv 0,.slice none 0 0,.slice none 0 0]) (by kernel_rfl) rfl (by kernel_rfl) (by kernel_rfl)) ?_
  rintro _ _ _ _ ⟨rfl,rfl,rfl⟩
  refine Zd 5<|RunH.nilc ?_
  have ho3:SlOwn kBlob 37 H none 0 ([]:List Blob) none:=SlOwn.nil
  refine RunH.nilc ?_
  have ho4:SlOwn kEntry 40 H none 0 ([]:List Entry) none:=SlOwn.nil
  obtain rfl:=Option.some.inj heq
  refine Up 6 [5,1,0] ?_
  exact RunH.doneM' 1 (vs:=[.agg #[iv 0,iv 0,.slice none 0 0,.slice none 0 0],iv 0,iv y1]) (v:=.tuple #[.agg #[iv 0,iv 0,.slice none 0 0,.slice none 0 0],iv 0,iv y1]) (by kernel_rfl) Tryz.func8 (fun w hh=>show ResAll _ _ _ [.cell 2 25,.tmp 3,.tmp 4] _ from ⟨⟨⟨g1,0,none⟩,by kernel_rfl,trS_run _ (vs:=[iv 0,iv 0,.slice none 0 0,.slice none 0 0]) (r:=[]) (es:=[.load ⟨g1,0,none⟩ (iv 0),.load ⟨g1,1,none⟩ (iv 0),.load ⟨g1,2,none⟩ (.slice none 0 0),.load ⟨g1,3,none⟩ (.slice none 0 0)]) (by kernel_rfl) ⟨(hh.box 0 rfl rfl),(hh.box 0 rfl rfl),(hh.box 0 rfl rfl),(hh.box 0 rfl rfl)⟩⟩,(show lk _ _=some _ by kernel_rfl),(show lk _ _=some _ by kernel_rfl),trivial⟩) rfl (cs':=none::none::F) rfl ⟨none,0,none,none,0,none,rfl,rfl,ho3,ho4⟩
 ·intro hb2 heq
  refine Sa 2<|Zv 1 (bxs 2) ?_
  refine RgH.does (DoesH.store (k:=3) (g:=g1) (off:=0) (v:=.agg #[iv v_c5_0,iv v_c5_1,.slice Av_c5_2 v_c5_2.length cv_c5_2,.slice Av_c5_3 v_c5_3.length cv_c5_3]) (cells':=#[iv v_c5_0,iv v_c5_1,.slice Av_c5_2 v_c5_2.length cv_c5_2,.slice Av_c5_3 v_c5_3.length cv_c5_3]) (by kernel_rfl) rfl (by kernel_rfl) (by kernel_rfl)) ?_
  rintro _ _ _ _ ⟨rfl,rfl,rfl⟩
  refine Zd 4 ?_
  obtain rfl:=Option.some.inj heq
  refine Up 4 [3,0,1] ?_
  exact RunH.doneM' 1 (vs:=[.agg #[iv v_c5_0,iv v_c5_1,.slice Av_c5_2 v_c5_2.length cv_c5_2,.slice Av_c5_3 v_c5_3.length cv_c5_3],iv 0,iv 0]) (v:=.tuple #[.agg #[iv v_c5_0,iv v_c5_1,.slice Av_c5_2 v_c5_2.length cv_c5_2,.slice Av_c5_3 v_c5_3.length cv_c5_3],iv 0,iv 0]) (by kernel_rfl) Tryz.func8 (fun w hh=>show ResAll _ _ _ [.cell 2 25,.tmp 3,.tmp 4] _ from ⟨⟨⟨g1,0,none⟩,by kernel_rfl,trS_run _ (vs:=[iv v_c5_0,iv v_c5_1,.slice Av_c5_2 v_c5_2.length cv_c5_2,.slice Av_c5_3 v_c5_3.length cv_c5_3]) (r:=[]) (es:=[.load ⟨g1,0,none⟩ (iv v_c5_0),.load ⟨g1,1,none⟩ (iv v_c5_1),.load ⟨g1,2,none⟩ (.slice Av_c5_2 v_c5_2.length cv_c5_2),.load ⟨g1,3,none⟩ (.slice Av_c5_3 v_c5_3.length cv_c5_3)]) (by kernel_rfl) ⟨(hh.box 0 rfl rfl),(hh.box 0 rfl rfl),(hh.box 0 rfl rfl),(hh.box 0 rfl rfl)⟩⟩,(show lk _ _=some _ by kernel_rfl),(show lk _ _=some _ by kernel_rfl),trivial⟩) rfl (cs':=chv_c5_2::chv_c5_3::F) rfl ⟨Av_c5_2,cv_c5_2,chv_c5_2,Av_c5_3,cv_c5_3,chv_c5_3,rfl,rfl,hov_c5_2,hov_c5_3⟩
theorem smithyardref7_Read.l2_c [Wz w0] {r:Cache × Int × Int} (e1:Int→Int→(List Blob)→(List Entry)→Option (Cache × Int × Int))
  (he1:∀ (H:Hp) (g1 g2:Nat) (v_c5_0 v_c5_1:Int) (v_c5_2:List Blob) (Av_c5_2:Option Addr) (nv_c5_2 cv_c5_2:Nat) (chv_c5_2:Ch) (v_c5_3:List Entry) (Av_c5_3:Option Addr) (nv_c5_3 cv_c5_3:Nat) (chv_c5_3:Ch) ,SlOwn kBlob 37 H Av_c5_2 cv_c5_2 v_c5_2 chv_c5_2→nv_c5_2=v_c5_2.length→SlOwn kEntry 40 H Av_c5_3 cv_c5_3 v_c5_3 chv_c5_3→nv_c5_3=v_c5_3.length→e1 v_c5_0 v_c5_1 v_c5_2 v_c5_3=some r→RunH C8 (S8 F H0 r) H0 w0 [.c [1,1,1,1,1,0,0],.c [1,1,1,1,1,0,1],.c [1,1,1,1,1,1]] [(2,pg g1 0),(5,pg g2 0)] H (chv_c5_2::chv_c5_3::(some (g2,.cells #[iv v_c5_0,iv v_c5_1,.slice Av_c5_2 nv_c5_2 cv_c5_2,.slice Av_c5_3 nv_c5_3 cv_c5_3] 25 (0,0)))::(some (g1,.cells #[iv 0,iv 0,.slice none 0 0,.slice none 0 0] 25 (0,0)))::F)):∀ (k:Nat),∀ (H:Hp) (g1 g2:Nat) (v_text0:ByteArray) (v_c5_0 v_c5_1:Int) (v_c5_2:List Blob) (Av_c5_2:Option Addr) (nv_c5_2 cv_c5_2:Nat) (chv_c5_2:Ch) (v_c5_3:List Entry) (Av_c5_3:Option Addr) (nv_c5_3 cv_c5_3:Nat) (chv_c5_3:Ch) (v_at6:Int) ,SlOwn kBlob 37 H Av_c5_2 cv_c5_2 v_c5_2 chv_c5_2→nv_c5_2=v_c5_2.length→SlOwn kEntry 40 H Av_c5_3 cv_c5_3 v_c5_3 chv_c5_3→nv_c5_3=v_c5_3.length→smithyardref7_Read.l2 e1 k v_text0 v_c5_0 v_c5_1 v_c5_2 v_c5_3 v_at6=some r→RunH C8 (S8 F H0 r) H0 w0 [.c [1,1,1,1,0,0,0],.l [1,1,1,1,0,0,0],.b 0,.c [1,1,1,1,1]] [(0,.string v_text0),(2,pg g1 0),(5,pg g2 0),(6,iv v_at6)] H (chv_c5_2::chv_c5_3::(some (g2,.cells #[iv v_c5_0,iv v_c5_1,.slice Av_c5_2 nv_c5_2 cv_c5_2,.slice Av_c5_3 nv_c5_3 cv_c5_3] 25 (0,0)))::(some (g1,.cells #[iv 0,iv 0,.slice none 0 0,.slice none 0 0] 25 (0,0)))::F):=by
 intro k
 induction k with
 | zero=>intro H g1 g2 v_text0 v_c5_0 v_c5_1 v_c5_2 Av_c5_2 nv_c5_2 cv_c5_2 chv_c5_2 v_c5_3 Av_c5_3 nv_c5_3 cv_c5_3 chv_c5_3 v_at6 hov_c5_2 hnv_c5_2 hov_c5_3 hnv_c5_3 heq; exact nomatch (show (none:Option (Cache × Int × Int))=some r from heq)
 | succ k ihk =>
  intro H g1 g2 v_text0 v_c5_0 v_c5_1 v_c5_2 Av_c5_2 nv_c5_2 cv_c5_2 chv_c5_2 v_c5_3 Av_c5_3 nv_c5_3 cv_c5_3 chv_c5_3 v_at6 hov_c5_2 hnv_c5_2 hov_c5_3 hnv_c5_3 heq
  subst hnv_c5_2
  subst hnv_c5_3
  rw [smithyardref7_Read.l2] at heq
  refine An 2 ?_
  obtain ⟨t1,ht1,heq⟩:=bind_some heq
  have K11:∀ (H:Hp),SlOwn kBlob 37 H Av_c5_2 cv_c5_2 v_c5_2 chv_c5_2→SlOwn kEntry 40 H Av_c5_3 cv_c5_3 v_c5_3 chv_c5_3→RunH C8 (S8 F H0 r) H0 w0 [.c [1,1,1,1,0,0,0,0,1],.c [1,1,1,1,0,0,0,1],.l [1,1,1,1,0,0,0],.b 0,.c [1,1,1,1,1]] [(0,.string v_text0),(2,pg g1 0),(5,pg g2 0),(6,iv v_at6),(20,.bool t1)] H (chv_c5_2::chv_c5_3::(some (g2,.cells #[iv v_c5_0,iv v_c5_1,.slice Av_c5_2 v_c5_2.length cv_c5_2,.slice Av_c5_3 v_c5_3.length cv_c5_3] 25 (0,0)))::(some (g1,.cells #[iv 0,iv 0,.slice none 0 0,.slice none 0 0] 25 (0,0)))::F):=by
   intro H hov_c5_2 hov_c5_3
   refine Cb heq ?_ ?_
   ·intro hb4 heq
    refine Sa 3<|Zk 1 ?_
    obtain ⟨y2,hy2,heq⟩:=bind_some heq
    refine RgH.does (cal 23 (strings_Cut_c hy2 )) ?_
    rintro _ _ _ _ ⟨_,rfl,rfl,rfl,rfl⟩
    refine Zd 9<|Sa 1<|Zd 3<|An 2 ?_
    obtain ⟨t2,ht2,heq⟩:=bind_some heq
    have K16:∀ (H:Hp),∀ (Av_c5_2m:Option Addr),∀ (nv_c5_2m:Nat),∀ (cv_c5_2m:Nat),∀ (chv_c5_2m:Ch),∀ (Av_c5_3m:Option Addr),∀ (nv_c5_3m:Nat),∀ (cv_c5_3m:Nat),∀ (chv_c5_3m:Ch),SlOwn kBlob 37 H Av_c5_2m cv_c5_2m t2.2.2.1 chv_c5_2m→nv_c5_2m=t2.2.2.1.length→SlOwn kEntry 40 H Av_c5_3m cv_c5_3m t2.2.2.2.1 chv_c5_3m→nv_c5_3m=t2.2.2.2.1.length→RunH C8 (S8 F H0 r) H0 w0 [.c [1,1,1,1,0,0,0,1,0,1,1,0,1],.c [1,1,1,1,0,0,0,1,0,1,1,1],.b 1,.l [1,1,1,1,0,0,0],.b 0,.c [1,1,1,1,1]] [(2,pg g1 0),(5,pg g2 0),(6,iv (w64 (v_at6+1))),(8,.string y2.2.1),(37,.bool t2.2.2.2.2)] H (chv_c5_2m::chv_c5_3m::(some (g2,.cells #[iv t2.1,iv t2.2.1,.slice Av_c5_2m nv_c5_2m cv_c5_2m,.slice Av_c5_3m nv_c5_3m cv_c5_3m] 25 (0,0)))::(some (g1,.cells #[iv 0,iv 0,.slice none 0 0,.slice none 0 0] 25 (0,0)))::F):=by
     intro H Av_c5_2m nv_c5_2m cv_c5_2m chv_c5_2m Av_c5_3m nv_c5_3m cv_c5_3m chv_c5_3m hov_c5_2m hnv_c5_2m hov_c5_3m hnv_c5_3m
     subst hnv_c5_2m
     subst hnv_c5_3m
     refine Cb heq ?_ ?_
     ·intro hb6 heq
      refine Sa 1<|Zk 2 ?_
      refine RgH.does (DoesH.store (k:=3) (g:=g1) (off:=0) (v:=.agg #[iv 0,iv 0,.slice none 0 0,.slice none 0 0]) (cells':=#[iv 0,iv 0,.slice none 0 0,.slice none 0 0]) (by kernel_rfl) rfl (by kernel_rfl) (by kernel_rfl)) ?_
      rintro _ _ _ _ ⟨rfl,rfl,rfl⟩
      refine Zd 5<|RunH.nilc ?_
      have ho7:SlOwn kBlob 37 H none 0 ([]:List Blob) none:=SlOwn.nil
      refine RunH.nilc ?_
      have ho8:SlOwn kEntry 40 H none 0 ([]:List Entry) none:=SlOwn.nil
      obtain rfl:=Option.some.inj heq
      refine Up 6 [5,1,0] ?_
      exact RunH.doneM' 1 (vs:=[.agg #[iv 0,iv 0,.slice none 0 0,.slice none 0 0],iv (w64 (v_at6+1)),iv 10]) (v:=.tuple #[.agg #[iv 0,iv 0,.slice none 0 0,.slice none 0 0],iv (w64 (v_at6+1)),iv 10]) (by kernel_rfl) Tryz.func8 (fun w hh=>show ResAll _ _ _ [.cell 2 25,.tmp 3,.tmp 4] _ from ⟨⟨⟨g1,0,none⟩,by kernel_rfl,trS_run _ (vs:=[iv 0,iv 0,.slice none 0 0,.slice none 0 0]) (r:=[]) (es:=[.load ⟨g1,0,none⟩ (iv 0),.load ⟨g1,1,none⟩ (iv 0),.load ⟨g1,2,none⟩ (.slice none 0 0),.load ⟨g1,3,none⟩ (.slice none 0 0)]) (by kernel_rfl) ⟨(hh.box 0 rfl rfl),(hh.box 0 rfl rfl),(hh.box 0 rfl rfl),(hh.box 0 rfl rfl)⟩⟩,(show lk _ _=some _ by kernel_rfl),(show lk _ _=some _ by kernel_rfl),trivial⟩) rfl (cs':=none::none::F) rfl ⟨none,0,none,none,0,none,rfl,rfl,ho7,ho8⟩
     ·intro hb6 heq
      refine Sa 1<|Zd 2<|An 2 ?_
      exact Gt 4 [0,1,2,3] (ihk _ _ _ y2.2.1 t2.1 t2.2.1 t2.2.2.1 _ _ _ _ t2.2.2.2.1 _ _ _ _ (w64 (v_at6+1)) hov_c5_2m rfl hov_c5_3m rfl heq)
    replace heq:=ht2
    refine Sa 0<|Zk 3 ?_
    rcases bool_cases (!y2.2.2) with hb5 | hb5
    ·replace heq:=bif_true hb5 heq
     refine Zs 31 (congrArg Value.bool hb5)<|Zk 9 ?_
     obtain rfl:=Option.some.inj heq
     refine Dn ?_
     exact Gt 4 [0,1,2,3] (K16 _ _ _ _ _ _ _ _ _ hov_c5_2 rfl hov_c5_3 rfl)
    ·replace heq:=bif_false hb5 heq
     refine Zs 31 (congrArg Value.bool hb5)<|Zk 6<|Ug 4 [2,0,1,3] ?_
     obtain ⟨y3,hy3,heq⟩:=bind_some heq
     refine RgH.does (cal 35 (smithyardref7_line_c hy3 hov_c5_2 rfl hov_c5_3 rfl)) ?_
     rintro _ H _ hl ⟨_,rfl,A1,c1,ch1,A2,c2,ch2,rfl,rfl,ho5,ho6⟩
     replace hov_c5_2:=hov_c5_2.mono hl
     replace hov_c5_3:=hov_c5_3.mono hl
     refine Zk 9 ?_
     obtain rfl:=Option.some.inj heq
     refine Dn ?_
     exact Gt 4 [1,2,0,3] (K16 _ _ _ _ _ _ _ _ _ ho5 rfl ho6 rfl)
   ·intro hb4 heq
    refine An 3 ?_
    exact Gt 4 [0,1,2,3] (he1 _ _ _ v_c5_0 v_c5_1 v_c5_2 _ _ _ _ v_c5_3 _ _ _ _ hov_c5_2 rfl hov_c5_3 rfl heq)
  replace heq:=ht1
  refine Sa 0<|Zk 3 ?_
  rcases bool_cases (!sEq v_text0 ({ data:=#[] }:ByteArray)) with hb3 | hb3
  ·replace heq:=bif_true hb3 heq
   refine Zs 17 (congrArg Value.bool hb3)<|Zk 6 ?_
   obtain rfl:=Option.some.inj heq
   refine Dn ?_
   exact Gt 4 [0,1,2,3] (K11 _ hov_c5_2 hov_c5_3)
  ·replace heq:=bif_false hb3 heq
   refine Zs 17 (congrArg Value.bool hb3)<|Zk 6 ?_
   obtain rfl:=Option.some.inj heq
   refine Dn ?_
   exact Gt 4 [0,1,2,3] (K11 _ hov_c5_2 hov_c5_3)
theorem smithyardref7_Read_c [Wz w0] {a0:ByteArray} {r:Cache × Int × Int} (heq:smithyardref7_Read.f a0=some r):CallsH Tryz.prog 8 #[.string a0] H0 w0 (F) (S8 F H0 r):=by
 refine Co C8 Tryz.func8 Tryz.ntmps8 ?_
 unfold smithyardref7_Read.f at heq
 suffices key:∀ (H:Hp),RunH C8 (S8 F H0 r) H0 w0 [.c []] (argL 0 [.string a0]) H (F) from key H0
 intro H
 refine Sa 1 ?_
 refine RgH.does (DoesH.new (d:=2) (v:=fun g=>.pointer (some ⟨g,0,none⟩)) (o:=fun g=>.cells #[iv 0,iv 0,.slice none 0 0,.slice none 0 0] 25 (0,0)) (fun g=>by kernel_rfl)) ?_
 rintro _ _ _ _ ⟨g1,rfl,rfl,rfl⟩
 refine Zd 3<|Sa 2<|Zd 3 ?_
 refine Cb heq ?_ ?_
 ·intro hb1 heq
  refine Sa 1<|Zk 1 ?_
  refine RgH.does (DoesH.store (k:=0) (g:=g1) (off:=0) (v:=.agg #[iv 0,iv 0,.slice none 0 0,.slice none 0 0]) (cells':=#[iv 0,iv 0,.slice none 0 0,.slice none 0 0]) (by kernel_rfl) rfl (by kernel_rfl) (by kernel_rfl)) ?_
  rintro _ _ _ _ ⟨rfl,rfl,rfl⟩
  refine Zd 4<|RunH.nilc ?_
  have ho1:SlOwn kBlob 37 H none 0 ([]:List Blob) none:=SlOwn.nil
  refine RunH.nilc ?_
  have ho2:SlOwn kEntry 40 H none 0 ([]:List Entry) none:=SlOwn.nil
  obtain rfl:=Option.some.inj heq
  refine Up 3 [2,1,0] ?_
  exact RunH.doneM' 1 (vs:=[.agg #[iv 0,iv 0,.slice none 0 0,.slice none 0 0],iv 0,iv 2]) (v:=.tuple #[.agg #[iv 0,iv 0,.slice none 0 0,.slice none 0 0],iv 0,iv 2]) (by kernel_rfl) Tryz.func8 (fun w hh=>show ResAll _ _ _ [.cell 2 25,.tmp 3,.tmp 4] _ from ⟨⟨⟨g1,0,none⟩,by kernel_rfl,trS_run _ (vs:=[iv 0,iv 0,.slice none 0 0,.slice none 0 0]) (r:=[]) (es:=[.load ⟨g1,0,none⟩ (iv 0),.load ⟨g1,1,none⟩ (iv 0),.load ⟨g1,2,none⟩ (.slice none 0 0),.load ⟨g1,3,none⟩ (.slice none 0 0)]) (by kernel_rfl) ⟨(hh.box 0 rfl rfl),(hh.box 0 rfl rfl),(hh.box 0 rfl rfl),(hh.box 0 rfl rfl)⟩⟩,(show lk _ _=some _ by kernel_rfl),(show lk _ _=some _ by kernel_rfl),trivial⟩) rfl (cs':=none::none::F) rfl ⟨none,0,none,none,0,none,rfl,rfl,ho1,ho2⟩
 ·intro hb1 heq
  refine Sa 2 ?_
  refine RgH.does (DoesH.new (d:=5) (v:=fun g=>.pointer (some ⟨g,0,none⟩)) (o:=fun g=>.cells #[iv 0,iv 0,.slice none 0 0,.slice none 0 0] 25 (0,0)) (fun g=>by kernel_rfl)) ?_
  rintro _ _ _ _ ⟨g2,rfl,rfl,rfl⟩
  refine Dn<|Sa 1<|Zd 1<|An 3<|RunH.nilc ?_
  have ho9:SlOwn kBlob 37 H none 0 ([]:List Blob) none:=SlOwn.nil
  refine RunH.nilc ?_
  have ho10:SlOwn kEntry 40 H none 0 ([]:List Entry) none:=SlOwn.nil
  exact Gt 4 [1,0,2,3] (((smithyardref7_Read.l2_c (e1:=smithyardref7_Read.e1) (smithyardref7_Read.e1_c)) big) _ _ _ a0 0 0 ([]:List Blob) _ _ _ _ ([]:List Entry) _ _ _ _ 0 ho9 rfl ho10 rfl heq)
noncomputable def C24:Ctx:={ P:=Tryz.prog,f:=24,N:=26,c:=bodyOf Tryz.f24 }
def S24 (F:List Ch) (H0:Hp) (r:Bool) (v:Value) (H:Hp) (cs:List Ch):Prop:=H0=H∧v=.bool r∧F=cs
theorem smithyardref7_sameList.e1_c [Wz w0] {r:Bool}:smithyardref7_sameList.e1=some r→RunH C24 (S24 F H r) H w0 [.c [1,1,1,0],.c [1,1,1,1]] [] H (F):=by
 intro   heq
 unfold smithyardref7_sameList.e1 at heq
 refine Sa 0<|Zd 1 ?_
 obtain rfl:=Option.some.inj heq
 exact RunH.done (by kernel_rfl) Tryz.func24 (v:=.bool true) (by kernel_rfl) ⟨rfl,rfl,rfl⟩
theorem smithyardref7_sameList.l2_c [Wz w0] {r:Bool} (e1:Option Bool)
  (he1:e1=some r→RunH C24 (S24 F H r) H w0 [.c [1,1,1,0],.c [1,1,1,1]] [] H (F)):∀ (k:Nat),∀ (a0:List ByteArray) (Aa0:Option Addr) (ca0:Nat) (a1:List ByteArray) (Aa1:Option Addr) (ca1:Nat) (v_i5:Int) ,Rw Kd.string H F Aa0 a0→a0.length≤ca0→Rw Kd.string H F Aa1 a1→a1.length≤ca1→smithyardref7_sameList.l2 e1 k a0 a1 v_i5=some r→RunH C24 (S24 F H r) H w0 [.c [1,1,0,1,0,0],.l [1,1,0,1,0,0],.b 0,.c [1,1,1]] [(0,.slice Aa0 a0.length ca0),(1,.slice Aa1 a1.length ca1),(5,iv v_i5)] H (F):=by
 intro k
 induction k with
 | zero=>intro a0 Aa0 ca0 a1 Aa1 ca1 v_i5 hra0 hca0 hra1 hca1 heq; exact nomatch (show (none:Option Bool)=some r from heq)
 | succ k ihk =>
  intro a0 Aa0 ca0 a1 Aa1 ca1 v_i5 hra0 hca0 hra1 hca1 heq
  rw [smithyardref7_sameList.l2] at heq
  refine Sa 2<|Zd 4 ?_
  refine Cb heq ?_ ?_
  ·intro hb2 heq
   refine An 4<|Sd 0 9 [] [3,3,3,3,3,3,3,3,3] ?_
   obtain ⟨x1,hx1,heq⟩:=bind_some heq
   obtain ⟨ha1,cs1,hK1,hcc1⟩:=hra0.get hx1
   obtain rfl:cs1=[.string x1]:=hK1
   obtain ⟨x2,hx2,heq⟩:=bind_some heq
   obtain ⟨ha2,cs2,hK2,hcc2⟩:=hra1.get hx2
   obtain rfl:cs2=[.string x2]:=hK2
   refine Zr [0,1,2,3,4,5,6,7,8] 0 [nx ha1 hx1,er hcc1 0 0,nx ha2 hx2,er hcc2 0 0] (Pk 0 []) (Pk 0 []) ?_
   refine DrH.done (by kernel_rfl) ?_
   refine Cb heq ?_ ?_
   ·intro hb3 heq
    refine Sa 1<|Zd 1 ?_
    obtain rfl:=Option.some.inj heq
    exact RunH.done (by kernel_rfl) Tryz.func24 (v:=.bool false) (by kernel_rfl) ⟨rfl,rfl,rfl⟩
   ·intro hb3 heq
    refine Sa 2<|Zd 3<|An 1 ?_
    exact Gt 0 [] (ihk a0 _ _ a1 _ _ (w64 (v_i5+1)) hra0 hca0 hra1 hca1 heq)
  ·intro hb2 heq
   refine An 2 ?_
   exact Gt 0 [] (he1 heq)
theorem smithyardref7_sameList_c [Wz w0] {a0:List ByteArray} {Aa0:Option Addr} {na0 ca0:Nat} {a1:List ByteArray} {Aa1:Option Addr} {na1 ca1:Nat} {r:Bool} (heq:smithyardref7_sameList.f a0 a1=some r) (hra0:Rw Kd.string H F Aa0 a0) (hca0:na0≤ca0) (hna0:na0=a0.length) (hra1:Rw Kd.string H F Aa1 a1) (hca1:na1≤ca1) (hna1:na1=a1.length):CallsH Tryz.prog 24 #[.slice Aa0 na0 ca0,.slice Aa1 na1 ca1] H w0 (F) (S24 F H r):=by
 refine Co C24 Tryz.func24 Tryz.ntmps24 ?_
 subst hna0
 subst hna1
 unfold smithyardref7_sameList.f at heq
 refine Sa 1<|Zd 1<|Sa 2<|Zd 5 ?_
 refine Cb heq ?_ ?_
 ·intro hb1 heq
  refine Sa 1<|Zd 1 ?_
  obtain rfl:=Option.some.inj heq
  exact RunH.done (by kernel_rfl) Tryz.func24 (v:=.bool false) (by kernel_rfl) ⟨rfl,rfl,rfl⟩
 ·intro hb1 heq
  refine Sa 3<|Zd 1<|An 2 ?_
  exact Gt 0 [] (((smithyardref7_sameList.l2_c (e1:=smithyardref7_sameList.e1) (smithyardref7_sameList.e1_c)) big) a0 _ _ a1 _ _ 0 hra0 hca0 hra1 hca1 heq)
noncomputable def C9:Ctx:={ P:=Tryz.prog,f:=9,N:=106,c:=bodyOf Tryz.f9 }
def S9 (F:List Ch) (H0:Hp) (r:Bool) (v:Value) (H:Hp) (cs:List Ch):Prop:=H0=H∧v=.bool r∧F=cs
theorem smithyardref7_Same.e2_c [Wz w0] {r:Bool}:smithyardref7_Same.e2=some r→RunH C9 (S9 F H r) H w0 [.c [1,1,1,1,0],.c [1,1,1,1,1]] [] H (F):=by
 intro   heq
 unfold smithyardref7_Same.e2 at heq
 refine Sa 0<|Zd 1 ?_
 obtain rfl:=Option.some.inj heq
 exact RunH.done (by kernel_rfl) Tryz.func9 (v:=.bool true) (by kernel_rfl) ⟨rfl,rfl,rfl⟩
theorem smithyardref7_Same.l3_c [Wz w0] {r:Bool} (e2:Option Bool)
  (he2:e2=some r→RunH C9 (S9 F H r) H w0 [.c [1,1,1,1,0],.c [1,1,1,1,1]] [] H (F)):∀ (k:Nat),∀ (a0:Cache) (Aa0_2:Option Addr) (ca0_2:Nat) (Aa0_3:Option Addr) (ca0_3:Nat) (a1:Cache) (Aa1_2:Option Addr) (ca1_2:Nat) (Aa1_3:Option Addr) (ca1_3 g1 g2:Nat) (v_i6:Int) ,Rw kBlob H F Aa0_2 a0.Blobs→a0.Blobs.length≤ca0_2→Rw kEntry H F Aa0_3 a0.Entries→a0.Entries.length≤ca0_3→Rw kBlob H F Aa1_2 a1.Blobs→a1.Blobs.length≤ca1_2→Rw kEntry H F Aa1_3 a1.Entries→a1.Entries.length≤ca1_3→smithyardref7_Same.l3 e2 k a0 a1 v_i6=some r→RunH C9 (S9 F H r) H w0 [.c [1,1,1,0,1,0,0],.l [1,1,1,0,1,0,0],.b 2,.c [1,1,1,1]] [(2,pg g1 0),(3,pg g2 0),(6,iv v_i6)] H ((some (g2,.cells #[iv a1.Room,iv a1.Lease,.slice Aa1_2 a1.Blobs.length ca1_2,.slice Aa1_3 a1.Entries.length ca1_3] 25 (0,0)))::(some (g1,.cells #[iv a0.Room,iv a0.Lease,.slice Aa0_2 a0.Blobs.length ca0_2,.slice Aa0_3 a0.Entries.length ca0_3] 25 (0,0)))::F):=by
 intro k
 induction k with
 | zero=>intro a0 Aa0_2 ca0_2 Aa0_3 ca0_3 a1 Aa1_2 ca1_2 Aa1_3 ca1_3 g1 g2 v_i6 hra0_2 hca0_2 hra0_3 hca0_3 hra1_2 hca1_2 hra1_3 hca1_3 heq; exact nomatch (show (none:Option Bool)=some r from heq)
 | succ k ihk =>
  intro a0 Aa0_2 ca0_2 Aa0_3 ca0_3 a1 Aa1_2 ca1_2 Aa1_3 ca1_3 g1 g2 v_i6 hra0_2 hca0_2 hra0_3 hca0_3 hra1_2 hca1_2 hra1_3 hca1_3 heq
  rw [smithyardref7_Same.l3] at heq
  refine Sa 2<|Zw 5 [bx 1 3] ?_
  refine Cb heq ?_ ?_
  ·intro hb5 heq
   refine An 4 ?_
   obtain ⟨t2,ht2,heq⟩:=bind_some heq
   have K4:RunH C9 (S9 F H r) H w0 [.c [1,1,1,0,1,0,0,1,0,0,1],.b 3,.c [1,1,1,0,1,0,0,1,1],.l [1,1,1,0,1,0,0],.b 2,.c [1,1,1,1]] [(2,pg g1 0),(3,pg g2 0),(6,iv v_i6),(105,.bool t2)] H ((some (g2,.cells #[iv a1.Room,iv a1.Lease,.slice Aa1_2 a1.Blobs.length ca1_2,.slice Aa1_3 a1.Entries.length ca1_3] 25 (0,0)))::(some (g1,.cells #[iv a0.Room,iv a0.Lease,.slice Aa0_2 a0.Blobs.length ca0_2,.slice Aa0_3 a0.Entries.length ca0_3] 25 (0,0)))::F):=by
    refine Cb heq ?_ ?_
    ·intro hb8 heq
     refine Sa 1<|Zd 1 ?_
     obtain rfl:=Option.some.inj heq
     refine Up 2 [] ?_
     exact RunH.done (by kernel_rfl) Tryz.func9 (v:=.bool false) (by kernel_rfl) ⟨rfl,rfl,rfl⟩
    ·intro hb8 heq
     refine Sa 2<|Zd 3<|An 1 ?_
     exact Gt 2 [0,1] (ihk a0 _ _ _ _ a1 _ _ _ _ _ _ (w64 (v_i6+1)) hra0_2 hca0_2 hra0_3 hca0_3 hra1_2 hca1_2 hra1_3 hca1_3 heq)
   replace heq:=ht2
   refine Sd 2 44 [0,1] [3,3,3,3,3,3,3,3,3,3,3,3,3,3,3,3,3,3,3,3,3,3,3,3,3,3,3,3,3,3,3,3,3,3,3,3,3,3,3,3,3,0,3,3] ?_
   obtain ⟨x1,hx1,heq⟩:=bind_some heq
   obtain ⟨ha1,cs1,hK1,hcc1⟩:=hra0_3.get hx1
   obtain ⟨A1,c1,rfl,hc1,hr1⟩:=kEntry_open hK1
   obtain ⟨x2,hx2,heq⟩:=bind_some heq
   obtain ⟨ha2,cs2,hK2,hcc2⟩:=hra1_3.get hx2
   obtain ⟨A2,c2,rfl,hc2,hr2⟩:=kEntry_open hK2
   refine Zr [0,1,2,3,4,5,6,7,8,9,10,11,12,13] 30 [bx 1 3,nx ha1 hx1,er hcc1 2 0,bx 0 3,nx ha2 hx2,er hcc2 2 0] (Pk 2 [0,1]) (Pk 2 [0,1]) ?_
   rcases bool_cases (!sEq x1.Key x2.Key) with hb6 | hb6
   ·replace heq:=bif_true hb6 heq
    refine Zu 75 (congrArg Value.bool hb6)<|Zr [14,15,16,17,18,19,20,21,22,23,24,25,26,27,28,29,30,31,32,33,34,35,36,37,38,39,40,41,42,43] 0 [] (Pk 2 [0,1]) (Pk 2 [0,1]) ?_
    obtain rfl:=Option.some.inj heq
    refine DrH.done (by kernel_rfl) ?_
    exact Gt 2 [0,1] (K4)
   ·replace heq:=bif_false hb6 heq
    refine Zu 75 (congrArg Value.bool hb6) ?_
    obtain ⟨ha3,cs3,hK3,hcc3⟩:=hra0_3.get hx1
    obtain ⟨A3,c3,rfl,hc3,hr3⟩:=kEntry_open hK3
    obtain ⟨ha4,cs4,hK4,hcc4⟩:=hra1_3.get hx2
    obtain ⟨A4,c4,rfl,hc4,hr4⟩:=kEntry_open hK4
    refine Zr [14,15,16,17,18,19,20,21,22,23,24,25,26,27,28] 15 [bx 1 3,nx ha3 hx1,er hcc3 2 2,bx 0 3,nx ha4 hx2,er hcc4 2 2] (Pk 2 [0,1]) (Pk 2 [0,1]) ?_
    rcases bool_cases (x1.Used != x2.Used) with hb7 | hb7
    ·replace heq:=bif_true hb7 heq
     refine Zu 90 (congrArg Value.bool hb7)<|Zr [29,30,31,32,33,34,35,36,37,38,39,40,41,42,43] 0 [] (Pk 2 [0,1]) (Pk 2 [0,1]) ?_
     obtain rfl:=Option.some.inj heq
     refine DrH.done (by kernel_rfl) ?_
     exact Gt 2 [0,1] (K4)
    ·replace heq:=bif_false hb7 heq
     refine Zu 90 (congrArg Value.bool hb7) ?_
     obtain ⟨ha5,cs5,hK5,hcc5⟩:=hra0_3.get hx1
     obtain ⟨A5,c5,rfl,hc5,hr5⟩:=kEntry_open hK5
     obtain ⟨ha6,cs6,hK6,hcc6⟩:=hra1_3.get hx2
     obtain ⟨A6,c6,rfl,hc6,hr6⟩:=kEntry_open hK6
     refine Zr [29,30,31,32,33,34,35,36,37,38,39,40] 3 [bx 1 3,nx ha5 hx1,er hcc5 2 1,bx 0 3,nx ha6 hx2,er hcc6 2 1] (Pk 2 [0,1]) (Pk 2 [0,1]) ?_
     obtain ⟨y1,hy1,heq⟩:=bind_some heq
     refine Dz 41 (cal 103 (smithyardref7_sameList_c hy1 (Rw.of hr5) hc5 rfl (Rw.of hr6) hc6 rfl)) ?_
     rintro _ _ _ _ ⟨_,rfl,rfl,rfl,rfl⟩
     refine ⟨fun _ w hh=>⟨fun _=>(Pk 2 [0,1]) w hh,fun _=>(Pk 2 [0,1]) w hh,(fun h=>by cases h)⟩,?_⟩
     refine Zr [42,43] 0 [] (Pk 2 [0,1]) (Pk 2 [0,1]) ?_
     obtain rfl:=Option.some.inj heq
     refine DrH.done (by kernel_rfl) ?_
     exact Gt 2 [0,1] (K4)
  ·intro hb5 heq
   refine An 2 ?_
   exact Gt 2 [] (he2 heq)
theorem smithyardref7_Same.e1_c [Wz w0] {r:Bool}:∀ (a0:Cache) (Aa0_2:Option Addr) (ca0_2:Nat) (Aa0_3:Option Addr) (ca0_3:Nat) (a1:Cache) (Aa1_2:Option Addr) (ca1_2:Nat) (Aa1_3:Option Addr) (ca1_3 g1 g2:Nat) ,Rw kBlob H F Aa0_2 a0.Blobs→a0.Blobs.length≤ca0_2→Rw kEntry H F Aa0_3 a0.Entries→a0.Entries.length≤ca0_3→Rw kBlob H F Aa1_2 a1.Blobs→a1.Blobs.length≤ca1_2→Rw kEntry H F Aa1_3 a1.Entries→a1.Entries.length≤ca1_3→smithyardref7_Same.e1 a0 a1=some r→RunH C9 (S9 F H r) H w0 [.c [1,1,1,0,0],.c [1,1,1,0,1],.c [1,1,1,1]] [(2,pg g1 0),(3,pg g2 0)] H ((some (g2,.cells #[iv a1.Room,iv a1.Lease,.slice Aa1_2 a1.Blobs.length ca1_2,.slice Aa1_3 a1.Entries.length ca1_3] 25 (0,0)))::(some (g1,.cells #[iv a0.Room,iv a0.Lease,.slice Aa0_2 a0.Blobs.length ca0_2,.slice Aa0_3 a0.Entries.length ca0_3] 25 (0,0)))::F):=by
 intro a0 Aa0_2 ca0_2 Aa0_3 ca0_3 a1 Aa1_2 ca1_2 Aa1_3 ca1_3 g1 g2 hra0_2 hca0_2 hra0_3 hca0_3 hra1_2 hca1_2 hra1_3 hca1_3 heq
 unfold smithyardref7_Same.e1 at heq
 refine Sa 0<|Zd 1<|An 2 ?_
 exact Gt 2 [0,1] (((smithyardref7_Same.l3_c (e2:=smithyardref7_Same.e2) (smithyardref7_Same.e2_c)) big) a0 _ _ _ _ a1 _ _ _ _ _ _ 0 hra0_2 hca0_2 hra0_3 hca0_3 hra1_2 hca1_2 hra1_3 hca1_3 heq)
theorem smithyardref7_Same.l4_c [Wz w0] {r:Bool} (e1:Cache→Cache→Option Bool)
  (he1:∀ (a0:Cache) (Aa0_2:Option Addr) (ca0_2:Nat) (Aa0_3:Option Addr) (ca0_3:Nat) (a1:Cache) (Aa1_2:Option Addr) (ca1_2:Nat) (Aa1_3:Option Addr) (ca1_3 g1 g2:Nat) ,Rw kBlob H F Aa0_2 a0.Blobs→a0.Blobs.length≤ca0_2→Rw kEntry H F Aa0_3 a0.Entries→a0.Entries.length≤ca0_3→Rw kBlob H F Aa1_2 a1.Blobs→a1.Blobs.length≤ca1_2→Rw kEntry H F Aa1_3 a1.Entries→a1.Entries.length≤ca1_3→e1 a0 a1=some r→RunH C9 (S9 F H r) H w0 [.c [1,1,1,0,0],.c [1,1,1,0,1],.c [1,1,1,1]] [(2,pg g1 0),(3,pg g2 0)] H ((some (g2,.cells #[iv a1.Room,iv a1.Lease,.slice Aa1_2 a1.Blobs.length ca1_2,.slice Aa1_3 a1.Entries.length ca1_3] 25 (0,0)))::(some (g1,.cells #[iv a0.Room,iv a0.Lease,.slice Aa0_2 a0.Blobs.length ca0_2,.slice Aa0_3 a0.Entries.length ca0_3] 25 (0,0)))::F)):∀ (k:Nat),∀ (a0:Cache) (Aa0_2:Option Addr) (ca0_2:Nat) (Aa0_3:Option Addr) (ca0_3:Nat) (a1:Cache) (Aa1_2:Option Addr) (ca1_2:Nat) (Aa1_3:Option Addr) (ca1_3 g1 g2:Nat) (v_i5:Int) ,Rw kBlob H F Aa0_2 a0.Blobs→a0.Blobs.length≤ca0_2→Rw kEntry H F Aa0_3 a0.Entries→a0.Entries.length≤ca0_3→Rw kBlob H F Aa1_2 a1.Blobs→a1.Blobs.length≤ca1_2→Rw kEntry H F Aa1_3 a1.Entries→a1.Entries.length≤ca1_3→smithyardref7_Same.l4 e1 k a0 a1 v_i5=some r→RunH C9 (S9 F H r) H w0 [.c [1,1,0,1,0,0],.l [1,1,0,1,0,0],.b 0,.c [1,1,1]] [(2,pg g1 0),(3,pg g2 0),(5,iv v_i5)] H ((some (g2,.cells #[iv a1.Room,iv a1.Lease,.slice Aa1_2 a1.Blobs.length ca1_2,.slice Aa1_3 a1.Entries.length ca1_3] 25 (0,0)))::(some (g1,.cells #[iv a0.Room,iv a0.Lease,.slice Aa0_2 a0.Blobs.length ca0_2,.slice Aa0_3 a0.Entries.length ca0_3] 25 (0,0)))::F):=by
 intro k
 induction k with
 | zero=>intro a0 Aa0_2 ca0_2 Aa0_3 ca0_3 a1 Aa1_2 ca1_2 Aa1_3 ca1_3 g1 g2 v_i5 hra0_2 hca0_2 hra0_3 hca0_3 hra1_2 hca1_2 hra1_3 hca1_3 heq; exact nomatch (show (none:Option Bool)=some r from heq)
 | succ k ihk =>
  intro a0 Aa0_2 ca0_2 Aa0_3 ca0_3 a1 Aa1_2 ca1_2 Aa1_3 ca1_3 g1 g2 v_i5 hra0_2 hca0_2 hra0_3 hca0_3 hra1_2 hca1_2 hra1_3 hca1_3 heq
  rw [smithyardref7_Same.l4] at heq
  refine Sa 2<|Zw 5 [bx 1 2] ?_
  refine Cb heq ?_ ?_
  ·intro hb9 heq
   refine An 4<|Sd 2 11 [0,1] [3,3,3,3,3,3,3,3,3,3,3] ?_
   obtain ⟨x3,hx3,heq⟩:=bind_some heq
   obtain ⟨ha7,cs7,hK7,hcc7⟩:=hra0_2.get hx3
   obtain ⟨rfl⟩:=kBlob_open hK7
   obtain ⟨x4,hx4,heq⟩:=bind_some heq
   obtain ⟨ha8,cs8,hK8,hcc8⟩:=hra1_2.get hx4
   obtain ⟨rfl⟩:=kBlob_open hK8
   refine Zr [0,1,2,3,4,5,6,7,8,9,10] 0 ([bx 1 2,nx ha7 hx3]++ers hcc7 2++[bx 0 2,nx ha8 hx4]++ers hcc8 2) (Pk 2 [0,1]) (Pk 2 [0,1]) ?_
   refine DrH.done (by kernel_rfl) ?_
   refine Cb heq ?_ ?_
   ·intro hb10 heq
    refine Sa 1<|Zd 1 ?_
    obtain rfl:=Option.some.inj heq
    refine Up 2 [] ?_
    exact RunH.done (by kernel_rfl) Tryz.func9 (v:=.bool false) (by kernel_rfl) ⟨rfl,rfl,rfl⟩
   ·intro hb10 heq
    refine Sa 2<|Zd 3<|An 1 ?_
    exact Gt 2 [0,1] (ihk a0 _ _ _ _ a1 _ _ _ _ _ _ (w64 (v_i5+1)) hra0_2 hca0_2 hra0_3 hca0_3 hra1_2 hca1_2 hra1_3 hca1_3 heq)
  ·intro hb9 heq
   refine An 3 ?_
   exact Gt 2 [0,1] (he1 a0 _ _ _ _ a1 _ _ _ _ _ _ hra0_2 hca0_2 hra0_3 hca0_3 hra1_2 hca1_2 hra1_3 hca1_3 heq)
theorem smithyardref7_Same_c [Wz w0] {a0:Cache} {Aa0_2:Option Addr} {na0_2 ca0_2:Nat} {Aa0_3:Option Addr} {na0_3 ca0_3:Nat} {a1:Cache} {Aa1_2:Option Addr} {na1_2 ca1_2:Nat} {Aa1_3:Option Addr} {na1_3 ca1_3:Nat} {r:Bool} (heq:smithyardref7_Same.f a0 a1=some r) (hra0_2:Rw kBlob H F Aa0_2 a0.Blobs) (hca0_2:na0_2≤ca0_2) (hna0_2:na0_2=a0.Blobs.length) (hra0_3:Rw kEntry H F Aa0_3 a0.Entries) (hca0_3:na0_3≤ca0_3) (hna0_3:na0_3=a0.Entries.length) (hra1_2:Rw kBlob H F Aa1_2 a1.Blobs) (hca1_2:na1_2≤ca1_2) (hna1_2:na1_2=a1.Blobs.length) (hra1_3:Rw kEntry H F Aa1_3 a1.Entries) (hca1_3:na1_3≤ca1_3) (hna1_3:na1_3=a1.Entries.length):CallsH Tryz.prog 9 #[.agg #[iv a0.Room,iv a0.Lease,.slice Aa0_2 na0_2 ca0_2,.slice Aa0_3 na0_3 ca0_3],.agg #[iv a1.Room,iv a1.Lease,.slice Aa1_2 na1_2 ca1_2,.slice Aa1_3 na1_3 ca1_3]] H w0 (F) (S9 F H r):=by
 refine Co C9 Tryz.func9 Tryz.ntmps9 ?_
 subst hna0_2
 subst hna0_3
 subst hna1_2
 subst hna1_3
 unfold smithyardref7_Same.f at heq
 refine Sa 1 ?_
 refine RgH.does (DoesH.new (d:=2) (v:=fun g=>.pointer (some ⟨g,0,none⟩)) (o:=fun g=>.cells #[iv a0.Room,iv a0.Lease,.slice Aa0_2 a0.Blobs.length ca0_2,.slice Aa0_3 a0.Entries.length ca0_3] 25 (0,0)) (fun g=>by kernel_rfl)) ?_
 rintro _ _ _ _ ⟨g1,rfl,rfl,rfl⟩
 refine RgH.does (DoesH.new (d:=3) (v:=fun g=>.pointer (some ⟨g,0,none⟩)) (o:=fun g=>.cells #[iv a1.Room,iv a1.Lease,.slice Aa1_2 a1.Blobs.length ca1_2,.slice Aa1_3 a1.Entries.length ca1_3] 25 (0,0)) (fun g=>by kernel_rfl)) ?_
 rintro _ _ _ _ ⟨g2,rfl,rfl,rfl⟩
 refine Zd 3<|An 2 ?_
 obtain ⟨t1,ht1,heq⟩:=bind_some heq
 have K3:RunH C9 (S9 F H r) H w0 [.c [1,0,1],.c [1,1]] [(2,pg g1 0),(3,pg g2 0),(36,.bool t1)] H ((some (g2,.cells #[iv a1.Room,iv a1.Lease,.slice Aa1_2 a1.Blobs.length ca1_2,.slice Aa1_3 a1.Entries.length ca1_3] 25 (0,0)))::(some (g1,.cells #[iv a0.Room,iv a0.Lease,.slice Aa0_2 a0.Blobs.length ca0_2,.slice Aa0_3 a0.Entries.length ca0_3] 25 (0,0)))::F):=by
  refine Cb heq ?_ ?_
  ·intro hb4 heq
   refine Sa 1<|Zd 1 ?_
   obtain rfl:=Option.some.inj heq
   refine Up 2 [] ?_
   exact RunH.done (by kernel_rfl) Tryz.func9 (v:=.bool false) (by kernel_rfl) ⟨rfl,rfl,rfl⟩
  ·intro hb4 heq
   refine Sa 3<|Zd 1<|An 2 ?_
   exact Gt 2 [0,1] (((smithyardref7_Same.l4_c (e1:=smithyardref7_Same.e1) (smithyardref7_Same.e1_c)) big) a0 _ _ _ _ a1 _ _ _ _ _ _ 0 hra0_2 hca0_2 hra0_3 hca0_3 hra1_2 hca1_2 hra1_3 hca1_3 heq)
 replace heq:=ht1
 refine Sa 0<|Zv 6 [bx 1 0,bx 0 0] ?_
 rcases bool_cases (a0.Room != a1.Room) with hb1 | hb1
 ·replace heq:=bif_true hb1 heq
  refine Zs 12 (congrArg Value.bool hb1)<|Zk 30 ?_
  obtain rfl:=Option.some.inj heq
  refine Dn ?_
  exact Gt 2 [0,1] (K3)
 ·replace heq:=bif_false hb1 heq
  refine Zs 12 (congrArg Value.bool hb1)<|Zv 13 [bx 1 1,bx 0 1] ?_
  rcases bool_cases (a0.Lease != a1.Lease) with hb2 | hb2
  ·replace heq:=bif_true hb2 heq
   refine Zs 19 (congrArg Value.bool hb2)<|Zk 30 ?_
   obtain rfl:=Option.some.inj heq
   refine Dn ?_
   exact Gt 2 [0,1] (K3)
  ·replace heq:=bif_false hb2 heq
   refine Zs 19 (congrArg Value.bool hb2)<|Zv 22 [bx 1 2,bx 0 2] ?_
   rcases bool_cases ((a0.Blobs.length:Int) != (a1.Blobs.length:Int)) with hb3 | hb3
   ·replace heq:=bif_true hb3 heq
    refine Zs 28 (congrArg Value.bool hb3)<|Zk 30 ?_
    obtain rfl:=Option.some.inj heq
    refine Dn ?_
    exact Gt 2 [0,1] (K3)
   ·replace heq:=bif_false hb3 heq
    refine Zs 28 (congrArg Value.bool hb3)<|Zv 30 [bx 1 3,bx 0 3] ?_
    obtain rfl:=Option.some.inj heq
    refine Dn ?_
    exact Gt 2 [0,1] (K3)
noncomputable def C25:Ctx:={ P:=Tryz.prog,f:=25,N:=18,c:=bodyOf Tryz.f25 }
def S25 (F:List Ch) (H0:Hp) (r:Cache × Int) (v:Value) (H:Hp) (cs:List Ch):Prop:=∃ (A0_2:Option Addr) (c0_2:Nat) (ch0_2:Ch) (A0_3:Option Addr) (c0_3:Nat) (ch0_3:Ch),H0=H∧v=.tuple #[.agg #[iv r.1.Room,iv r.1.Lease,.slice A0_2 r.1.Blobs.length c0_2,.slice A0_3 r.1.Entries.length c0_3],iv r.2]∧ch0_2::ch0_3::F=cs∧SlOwn kBlob 37 H A0_2 c0_2 r.1.Blobs ch0_2∧SlOwn kEntry 40 H A0_3 c0_3 r.1.Entries ch0_3
theorem cache_New_c [Wz w0] {a0 a1:Int} {r:Cache × Int} (heq:cache_New.f a0 a1=some r):CallsH Tryz.prog 25 #[iv a0,iv a1] H w0 (F) (S25 F H r):=by
 refine Co C25 Tryz.func25 Tryz.ntmps25 ?_
 unfold cache_New.f at heq
 refine Sa 1 ?_
 refine RgH.does (DoesH.new (d:=4) (v:=fun g=>.pointer (some ⟨g,0,none⟩)) (o:=fun g=>.cells #[iv 0,iv 0,.slice none 0 0,.slice none 0 0] 25 (0,0)) (fun g=>by kernel_rfl)) ?_
 rintro _ _ _ _ ⟨g1,rfl,rfl,rfl⟩
 refine Zd 2<|Sa 1<|Zk 3 ?_
 refine RgH.does (DoesH.new (d:=6) (v:=fun g=>.pointer (some ⟨g,0,none⟩)) (o:=fun g=>.cells #[iv 0,iv 0,.slice none 0 0,.slice none 0 0] 25 (0,0)) (fun g=>by kernel_rfl)) ?_
 rintro _ _ _ _ ⟨g2,rfl,rfl,rfl⟩
 refine RgH.does (DoesH.store (k:=0) (g:=g2) (off:=0) (v:=.agg #[iv a0,iv a1,.slice none 0 0,.slice none 0 0]) (cells':=#[iv a0,iv a1,.slice none 0 0,.slice none 0 0]) (by kernel_rfl) rfl (by kernel_rfl) (by kernel_rfl)) ?_
 rintro _ _ _ _ ⟨rfl,rfl,rfl⟩
 refine Dn<|Sa 2<|Zv 1 (bxs 0) ?_
 obtain ⟨y1,hy1,heq⟩:=bind_some heq
 refine RgH.does (cal 12 (cache_CheckCache_c hy1 (Rw.nil (A:=none)) (Nat.le_refl _) rfl (Rw.nil (A:=none)) (Nat.le_refl _) rfl)) ?_
 rintro _ _ _ _ ⟨_,rfl,rfl,rfl,rfl⟩
 refine Zd 3<|Sa 1<|Zd 2 ?_
 refine Cb heq ?_ ?_
 ·intro hb1 heq
  refine Sa 1<|Zk 2 ?_
  refine RgH.does (DoesH.store (k:=1) (g:=g1) (off:=0) (v:=.agg #[iv 0,iv 0,.slice none 0 0,.slice none 0 0]) (cells':=#[iv 0,iv 0,.slice none 0 0,.slice none 0 0]) (by kernel_rfl) rfl (by kernel_rfl) (by kernel_rfl)) ?_
  rintro _ _ _ _ ⟨rfl,rfl,rfl⟩
  refine Zd 4<|RunH.nilc ?_
  have ho1:SlOwn kBlob 37 H none 0 ([]:List Blob) none:=SlOwn.nil
  refine RunH.nilc ?_
  have ho2:SlOwn kEntry 40 H none 0 ([]:List Entry) none:=SlOwn.nil
  obtain rfl:=Option.some.inj heq
  refine Up 4 [3,1,0] ?_
  exact RunH.doneM' 1 (vs:=[.agg #[iv 0,iv 0,.slice none 0 0,.slice none 0 0],iv y1]) (v:=.tuple #[.agg #[iv 0,iv 0,.slice none 0 0,.slice none 0 0],iv y1]) (by kernel_rfl) Tryz.func25 (fun w hh=>show ResAll _ _ _ [.cell 4 25,.tmp 5] _ from ⟨⟨⟨g1,0,none⟩,by kernel_rfl,trS_run _ (vs:=[iv 0,iv 0,.slice none 0 0,.slice none 0 0]) (r:=[]) (es:=[.load ⟨g1,0,none⟩ (iv 0),.load ⟨g1,1,none⟩ (iv 0),.load ⟨g1,2,none⟩ (.slice none 0 0),.load ⟨g1,3,none⟩ (.slice none 0 0)]) (by kernel_rfl) ⟨(hh.box 0 rfl rfl),(hh.box 0 rfl rfl),(hh.box 0 rfl rfl),(hh.box 0 rfl rfl)⟩⟩,(show lk _ _=some _ by kernel_rfl),trivial⟩) rfl (cs':=none::none::F) rfl ⟨none,0,none,none,0,none,rfl,rfl,rfl,ho1,ho2⟩
 ·intro hb1 heq
  refine Sa 2<|Zv 1 (bxs 0) ?_
  refine RgH.does (DoesH.store (k:=1) (g:=g1) (off:=0) (v:=.agg #[iv a0,iv a1,.slice none 0 0,.slice none 0 0]) (cells':=#[iv a0,iv a1,.slice none 0 0,.slice none 0 0]) (by kernel_rfl) rfl (by kernel_rfl) (by kernel_rfl)) ?_
  rintro _ _ _ _ ⟨rfl,rfl,rfl⟩
  refine Zd 3<|RunH.nilc ?_
  have ho3:SlOwn kBlob 37 H none 0 ([]:List Blob) none:=SlOwn.nil
  refine RunH.nilc ?_
  have ho4:SlOwn kEntry 40 H none 0 ([]:List Entry) none:=SlOwn.nil
  obtain rfl:=Option.some.inj heq
  refine Up 4 [3,1,0] ?_
  exact RunH.doneM' 1 (vs:=[.agg #[iv a0,iv a1,.slice none 0 0,.slice none 0 0],iv 0]) (v:=.tuple #[.agg #[iv a0,iv a1,.slice none 0 0,.slice none 0 0],iv 0]) (by kernel_rfl) Tryz.func25 (fun w hh=>show ResAll _ _ _ [.cell 4 25,.tmp 5] _ from ⟨⟨⟨g1,0,none⟩,by kernel_rfl,trS_run _ (vs:=[iv a0,iv a1,.slice none 0 0,.slice none 0 0]) (r:=[]) (es:=[.load ⟨g1,0,none⟩ (iv a0),.load ⟨g1,1,none⟩ (iv a1),.load ⟨g1,2,none⟩ (.slice none 0 0),.load ⟨g1,3,none⟩ (.slice none 0 0)]) (by kernel_rfl) ⟨(hh.box 0 rfl rfl),(hh.box 0 rfl rfl),(hh.box 0 rfl rfl),(hh.box 0 rfl rfl)⟩⟩,(show lk _ _=some _ by kernel_rfl),trivial⟩) rfl (cs':=none::none::F) rfl ⟨none,0,none,none,0,none,rfl,rfl,rfl,ho3,ho4⟩
end Go.Proofs.YtnfgkhmhdefagaaGreatDoor
